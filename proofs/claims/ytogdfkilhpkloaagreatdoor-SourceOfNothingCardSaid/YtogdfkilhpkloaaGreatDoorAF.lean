/- ledger: clears, Base, At, dies. (Printed by mkled.py.) ledger: image. (Printed by mkled2.py.) The contract of frame.Scan. ledger: takes. (Printed by mkled3.py.) ledger: takes, the walk. (Printed by mkled4.py.) -/
import Derived.Test.YtogdfkilhpkloaaGreatDoorAA
import Derived.Test.YtogdfkilhpkloaaGreatDoorAD
import Derived.Test.YtogdfkilhpkloaaGreatDoorAE
namespace Go.Proofs.YtogdfkilhpkloaaGreatDoor
open Go.RowKit Go.Sat Go.Maps

theorem hasN_one (w : World) (s : ByteArray) (e : TypeId) (fr : Nat × Nat) : HasN (w.alloc (.cells #[.string s] e fr)) (.slice (some ⟨w.heap.size, 0, none⟩) 1 1) [nm s] := by
  refine ⟨by simp, some ⟨w.heap.size, 0, none⟩, 1, rfl, fun e => (by cases e), fun a ha i u hu => ?_⟩
  cases ha
  rw [add_zero]
  refine cell_of (new_block w _) ?_
  have : [encStr (nm s)] = [Value.string s] := by rw [enc_str, str_of]
  rw [List.map_cons, List.map_nil, this] at hu
  simpa using hu

/-- A name that was laid a moment ago is there behind what is done with the disk. -/
theorem told_rid1 {w w1 w2 : World} {d : Nat} {D : DiskM} {F : Nat → Prop} (h : St w w1 d D F) (hb2 : Below w1.heap.size w1 w2) (s : ByteArray) (hs : s.size ≤ 9223372036854775807) :
    Calls Tryz.prog 100 #[.pointer (some ⟨d, 0, none⟩), .slice (some ⟨w2.heap.size, 0, none⟩) 1 1] (w2.alloc (.cells #[.string s] 9)) (Told w d F w1 (D.rid [nm s])) := by
  have hs2 := hb2.size
  have hb : Below w1.heap.size w1 (w2.alloc (.cells #[.string s] 9)) := hb2.alloc hb2.size _
  have h1 : St w (w2.alloc (.cells #[.string s] 9)) d D (fun k => F k ∨ k = w2.heap.size) := h.move (Chg.of_below hb) (fun _ _ h => h.elim) fun k hk => by
    rcases hk with hk | rfl
    · exact ⟨.inl hk, Nat.lt_of_lt_of_le (h.flt hk) hb.size⟩
    · exact ⟨.inr hs2, by simp⟩
  refine (removes_calls h1 (ns := [nm s]) (fun W _ hs => HasN.same (hasN_one w2 s _ _) fun k hk => hs k (.inr (by cases hk; rfl))) (by simpa [nm_len] using hs) (by simp)).mono ?_
  rintro e w' ⟨rfl, hst, hsa⟩
  exact ⟨rfl, hst.less fun _ hk => .inl hk, fun k hk => (hsa k (.inl hk)).trans (hb.block k (h.flt hk))⟩

section
variable {w w1 : World} {l d : Nat} {pre : ByteArray} {D : DiskM} {M : LedM} {F : Nat → Prop}

set_option maxRecDepth 100000 in
set_option maxHeartbeats 4000000 in
theorem clears_calls (h : St w w1 d D F) (hc : LedCells l d pre w1) (hF : F l) :
    Calls Tryz.prog 91 #[.pointer (some ⟨l, 0, none⟩)] w1 (Told w d F w1 (D.rid [shadowN (imgN (nm pre))])) := by
  have Hlc := Lib.hid hc
  obtain ⟨hc0, hc1, hps⟩ := hc
  have hrm := told_rid1 h (Below.refl _ w1).drew (sShadow (sImg pre)) (by rw [size_sha, size_img]; omega)
  rw [nm_sha, nm_img] at hrm
  have Hrm := Lib.hid hrm
  have hsi : (sImg pre).size = pre.size + 4 := size_img pre
  clear hrm h
  go_enter Tryz.func91, Tryz.ntmps91
  go_wp2_with fail
  refine ord_start (fun w' : World => w'.cell? ⟨l, 0, none⟩ = some (.pointer (some ⟨d, 0, none⟩)) ∧ w'.cell? ⟨l, 1, none⟩ = some (.string pre)) (n := 10) (by kernel_rfl) rfl (⟨hc0, hc1⟩) (fun hHeld => ?_)
  generalize w1.drew = W1 at *
  refine Pl [0,1,2,3,4] ?_
  iterate 5 (refine Pc rfl ?_;simp only [Act.put, uA, uB, uC])
  refine Pn ?_
  refine ord_one 5 rfl (by kernel_rfl) (by rfl) (fun K hK => ?_)
  go_wp2_with fail
  refine (imgName_calls ⟨hHeld.1, hHeld.2, hps⟩).mono ?_
  rintro e w9 ⟨rfl, rfl⟩
  go_wp2_with fail
  refine hK.out _ _ (hHeld) (fun hHeld => ?_)
  clear hK
  try simp only [Act.put, List.setIfInBounds_toArray, List.set_cons_zero, List.set_cons_succ]
  refine ord_take 6 (v := ?v1x6) rfl (by kernel_rfl) (by kernel_rfl) (by kernel_rfl) (fun _ _ _ h => h) (by rfl) (by assumption) ?y1x6 ?_
  case y1x6 => (intro w hSw; (try dsimp only at hSw); go_simp; rw [if_neg (by omega)]; try with_reducible rfl)
  simp only [Act.put, List.setIfInBounds_toArray, List.set_cons_zero, List.set_cons_succ]
  refine ord_one 7 rfl (by kernel_rfl) (by rfl) (fun K hK => ?_)
  have Hh2 := Lib.hid (show (W1.alloc (.cells #[.string (sShadow (sImg pre))] 9)).cell? ⟨l, 0, none⟩ = some (.pointer (some ⟨d, 0, none⟩)) ∧ (W1.alloc (.cells #[.string (sShadow (sImg pre))] 9)).cell? ⟨l, 1, none⟩ = some (.string pre) from ⟨al_cell hHeld.1 _, al_cell hHeld.2 _⟩)
  go_wp2_with fail
  refine hK.out _ _ (Hh2.out) (fun hHeld => ?_)
  clear hK
  try simp only [Act.put, List.setIfInBounds_toArray, List.set_cons_zero, List.set_cons_succ]
  refine ord_one 8 rfl (by kernel_rfl) (by rfl) (fun K hK => ?_)
  go_wp2_with fail
  refine Hrm.out.mono ?_
  intro e w3 hT
  have HT := Lib.hid hT
  have Hh3 := Lib.hid (Hlc.out.same (hT.2.2 l hF))
  obtain ⟨rfl, -⟩ := hT
  go_wp2_with fail
  refine hK.out _ _ (⟨Hh3.out.1, Hh3.out.2.1⟩) (fun hHeld => ?_)
  clear hK
  try simp only [Act.put, List.setIfInBounds_toArray, List.set_cons_zero, List.set_cons_succ]
  refine ord_take 9 (v := ?v1x9) rfl (by kernel_rfl) (by kernel_rfl) (by kernel_rfl) (fun _ _ _ h => h) (by rfl) (by assumption) ?y1x9 ?_
  case y1x9 => (intro w hSw; (try dsimp only at hSw); go_simp; try with_reducible rfl)
  simp only [Act.put, List.setIfInBounds_toArray, List.set_cons_zero, List.set_cons_succ]
  refine wpAnyH_done (by kernel_rfl) ?_ _
  go_wp2_with fail
  go_ret
  exact HT.out

theorem dies_set {own : Nat → Prop} {dv ev : Value} {vs : List Value} (hL : LedIn w1 l d pre own M dv ev vs) (x : Bool) : LedIn (w1.setCell ⟨l, 5, none⟩ (.bool x)) l d pre own { M with dead := x } dv ev vs where
  cells := by have := set_block hL.cells 5 (.bool x); simpa using this
  data := OwnR.keep hL.data fun k hk => set_other _ (hL.od k hk).2.1
  row := hL.row.keep fun k hk => set_other _ (hL.oe k hk).2
  rows := fun i u b hu hb => OwnR.keep (hL.rows i u b hu hb) fun k hk => set_other _ (hL.ov u (List.mem_of_getElem? hu) k hk).2.1
  ol := hL.ol
  od := hL.od
  oe := hL.oe
  ov := hL.ov
  olt := fun k hk => by have := hL.olt k hk; simpa [World.setCell] using this
  last := hL.last
  psz := hL.psz
  big := hL.big

/-- An error ends it. -/
theorem dies_calls (h : LedF w w1 l d pre D M F) (k : Nat) :
    Calls Tryz.prog 102 #[.pointer (some ⟨l, 0, none⟩), .int .i64 (k : Int)] w1 fun e w' => e = .returned (.int .i64 (k : Int)) ∧ LedF w w' l d pre D { M with dead := M.dead || decide (k ≠ 0) } F ∧ Same F w1 w' := by
  obtain ⟨own, dv, ev, vs, hL, hS, hn, hl⟩ := h
  have h5 := hL.c5
  have hf := hL.fr 5
  have HE := Lib.hid (fun x => LedF.turned (D := D) (F := F) hS hn hl (dies_set hL x) ((Chg.setCell w1 ⟨l, 5, none⟩ (.bool x)).mono fun j _ e => by rw [e]; exact hL.ol) fun _ h => .inl h)
  clear hL hS hn hl
  cases hd : M.dead with
  | true =>
    rw [hd] at h5
    go_enter Tryz.func102, Tryz.ntmps102
    go_wp2_with fail
    go_ret
    exact ⟨rfl, by simpa using HE.out true⟩
  | false =>
    rw [hd] at h5
    by_cases hk : k = 0
    · subst hk
      go_enter Tryz.func102, Tryz.ntmps102
      go_wp2_with fail
      go_ret
      exact ⟨rfl, by simpa using HE.out false⟩
    · have hne : ((k : Int) != 0) = true := by simp; omega
      have Hk := Lib.hid hk
      clear hk
      go_enter Tryz.func102, Tryz.ntmps102
      go_wp2_with fail
      go_ret
      exact ⟨rfl, by simpa [Hk.out] using HE.out true⟩
end
end Go.Proofs.YtogdfkilhpkloaaGreatDoor

namespace Go.Proofs.YtogdfkilhpkloaaGreatDoor
open Go.RowKit Go.Sat Go.Maps

/-- What reading the image leaves. -/
def ImgTold (w w1 : World) (l d : Nat) (pre : ByteArray) (D : DiskM) (F : Nat → Prop) (i : Nat × Nat × Bs) (e : Ending) (w' : World) : Prop :=
  e = .returned (.int .i64 (i.1 : Int)) ∧ (i.1 = 0 → LedF w w' l d pre D ⟨i.2.1, i.2.2, [], false⟩ F) ∧ St w w' d D F ∧ Same F w1 w'

section
variable {w w1 w2 : World} {l d : Nat} {pre : ByteArray} {D : DiskM} {M : LedM} {F : Nat → Prop}

theorem LedF.stF (h : LedF w w1 l d pre D M F) : St w w1 d D F := let ⟨_, _, _, _, _, hS, _, _⟩ := h; hS.less fun _ hk => .inr hk

theorem img_end (h : LedF w w1 l d pre D LedM.none0 F) (hb : Below w1.heap.size w1 w2) (k : Nat) (i : Nat × Nat × Bs) (hi : i = (k, 0, [])) : ImgTold w w1 l d pre D F i (.returned (.int .i64 (k : Int))) w2 := by
  subst hi
  exact ⟨rfl, fun _ => h.next hb, (h.next hb).stF, h.same hb⟩

theorem imageOf_7 {o : Option FileM} (h : loadE o = 7) : imageOf o = (0, 0, []) := by unfold imageOf; rw [if_pos h]
theorem imageOf_e {o : Option FileM} (h : loadE o ≠ 7) (h0 : loadE o ≠ 0) : imageOf o = (loadE o, 0, []) := by unfold imageOf; rw [if_neg h, if_pos h0]
theorem imageOf_0 {o : Option FileM} (h0 : loadE o = 0) : imageOf o = if (Rd.num ⟨loadB o, false⟩).2.bytes.2.whole = false ∨ 1099511627776 < (Rd.num ⟨loadB o, false⟩).1 then (3, 0, []) else (0, (Rd.num ⟨loadB o, false⟩).1, (Rd.num ⟨loadB o, false⟩).2.bytes.1) := by
  unfold imageOf
  rw [if_neg (by omega), if_neg (by omega)]

/-- The number and the data are laid into the ledger's cells. -/
theorem img_set {own : Nat → Prop} {dv ev : Value} {vs : List Value} (hL : LedIn w1 l d pre own LedM.none0 dv ev vs) {n : Nat} {v : Value} {b : Bs} (hv : OwnB w1 5 v b) (hvo : ∀ k, v.ownBlock = some k → ¬ own k) (hn : n ≤ 1099511627776) (hb : b.length ≤ 1073741824) :
    LedIn ((w1.setCell ⟨l, 2, none⟩ (.int .i64 (n : Int))).setCell ⟨l, 3, none⟩ v) l d pre (fun k => own k ∨ v.ownBlock = some k) ⟨n, b, [], false⟩ v ev vs := by
  have hne : ∀ k, v.ownBlock = some k → k ≠ l := fun k hk e => hvo k hk (e ▸ hL.ol)
  have hvs : vs = [] := List.eq_nil_of_length_eq_zero (by have := hL.len; exact this)
  have hk : ∀ k, k ≠ l → ((w1.setCell ⟨l, 2, none⟩ (.int .i64 (n : Int))).setCell ⟨l, 3, none⟩ v).heap[k]? = w1.heap[k]? := fun k e => (set_other _ e).trans (set_other _ e)
  subst hvs
  refine ⟨?_, OwnR.keep hv fun k h => hk k (hne k h), hL.row.keep fun k h => hk k (hL.oe k h).2, fun i u b hu => (by simp at hu), .inl hL.ol, fun k h => ⟨.inr h, hne k h, fun e => hvo k h (hL.oe k e).1⟩, fun k h => ⟨.inl (hL.oe k h).1, (hL.oe k h).2⟩, fun u hu => (by simp at hu), fun k h => ?_, ?_, hL.psz, hb, fun b hb => (by simp at hb)⟩
  · have h1 := set_block hL.cells 2 (.int .i64 (n : Int))
    have h2 := set_block h1 3 v
    simpa [LedM.none0] using h2
  · have : k < w1.heap.size := h.elim (hL.olt k) fun h => OwnR.lt hv h
    simpa [World.setCell] using this
  · show n + 0 ≤ _
    omega

set_option maxRecDepth 100000 in
set_option maxHeartbeats 8000000 in
theorem image_calls (h : LedF w w1 l d pre D LedM.none0 F) :
    Calls Tryz.prog 92 #[.pointer (some ⟨l, 0, none⟩)] w1 (ImgTold w w1 l d pre D F (imageOf (Sat.get (imgN (nm pre)) D.files))) := by
  obtain ⟨hc0, hc1, hps⟩ := h.lc
  have hln := data_len h.okD (imgN (nm pre))
  have HB1 := Lib.hid (below_drew w1)
  have hld := load_calls (h.st.next (below_drew w1)) (sImg pre) (by rw [size_img]; omega)
  rw [nm_img] at hld
  unfold GotL at hld
  generalize ho : Sat.get (imgN (nm pre)) D.files = o at *
  generalize hn : (loadB o).length = n at *
  have hnn : n ≤ 1073741824 := by
    rw [← hn]
    cases o with
    | none => rw [loadB_none]; exact Nat.zero_le _
    | some f =>
      rw [loadB_some]
      unfold oneB decB
      split
      · split
        · rw [List.length_take, List.length_drop]
          omega
        · exact Nat.zero_le _
      · exact Nat.zero_le _
  have Hld := Lib.hid hld
  have H := Lib.hid h
  clear hld h ho hln
  by_cases h7 : loadE o = 7
  · have HI := Lib.hid (imageOf_7 h7)
    rw [h7] at Hld
    clear h7
    go_enter Tryz.func92, Tryz.ntmps92
    go_wp2_with fail
    refine ord_start (fun w' : World => w'.cell? ⟨l, 0, none⟩ = some (.pointer (some ⟨d, 0, none⟩)) ∧ w'.cell? ⟨l, 1, none⟩ = some (.string pre)) (n := 12) (by kernel_rfl) rfl (⟨hc0, hc1⟩) (fun hHeld => ?_)
    generalize w1.drew = W1 at *
    refine Pl [0,1,2,3,4] ?_
    iterate 5 (refine Pc rfl ?_;simp only [Act.put, uA, uB, uC])
    refine Pn ?_
    refine ord_one 5 rfl (by kernel_rfl) (by rfl) (fun K hK => ?_)
    go_wp2_with fail
    refine (imgName_calls ⟨hHeld.1, hHeld.2, hps⟩).mono ?_
    rintro e w9 ⟨rfl, rfl⟩
    go_wp2_with fail
    refine hK.out _ _ (hHeld) (fun hHeld => ?_)
    clear hK
    try simp only [Act.put, List.setIfInBounds_toArray, List.set_cons_zero, List.set_cons_succ]
    refine ord_one 6 rfl (by kernel_rfl) (by rfl) (fun K hK => ?_)
    go_wp2_with fail
    refine Hld.out.mono ?_
    rintro e w2 ⟨v, rfl, hv, hvn, hb, hst⟩
    have Hh3 := Lib.hid (show w2.cell? ⟨l, 0, none⟩ = some (.pointer (some ⟨d, 0, none⟩)) ∧ w2.cell? ⟨l, 1, none⟩ = some (.string pre) from ⟨(hb.cell (World.block_lt_of_cell? _ _ hHeld.1)).trans hHeld.1, (hb.cell (World.block_lt_of_cell? _ _ hHeld.2)).trans hHeld.2⟩)
    have Hb := Lib.hid (show Below w1.heap.size w1 w2 from HB1.out.trans (hb.mono HB1.out.size))
    have Hv := Lib.hid hv
    have hlen : (loadB o).length = n := hn
    obtain ⟨pv, cv, rfl, -⟩ := own_cap0 hv
    rw [hlen]
    clear hv hvn hb hst Hld
    go_wp2_with fail
    refine hK.out _ _ (Hh3.out) (fun hHeld => ?_)
    clear hK
    try simp only [Act.put, List.setIfInBounds_toArray, List.set_cons_zero, List.set_cons_succ]
    refine Pl [7,8,9,10,11] ?_
    iterate 5 (refine Pc rfl ?_;simp only [Act.put, uA, uB, uC])
    refine Pn ?_
    refine wpAnyH_done (by kernel_rfl) ?_ _
    have HE := Lib.hid (img_end H.out Hb.out 0 _ HI.out)
    go_wp2_with fail
    go_ret
    exact HE.out
  · by_cases h0 : loadE o = 0
    · have HI := Lib.hid (imageOf_0 h0)
      rw [h0] at Hld
      clear h7 h0
      go_enter Tryz.func92, Tryz.ntmps92
      go_wp2_with fail
      refine ord_start (fun w' : World => w'.cell? ⟨l, 0, none⟩ = some (.pointer (some ⟨d, 0, none⟩)) ∧ w'.cell? ⟨l, 1, none⟩ = some (.string pre)) (n := 12) (by kernel_rfl) rfl (⟨hc0, hc1⟩) (fun hHeld => ?_)
      generalize w1.drew = W1 at *
      refine Pl [0,1,2,3,4] ?_
      iterate 5 (refine Pc rfl ?_;simp only [Act.put, uA, uB, uC])
      refine Pn ?_
      refine ord_one 5 rfl (by kernel_rfl) (by rfl) (fun K hK => ?_)
      go_wp2_with fail
      refine (imgName_calls ⟨hHeld.1, hHeld.2, hps⟩).mono ?_
      rintro e w9 ⟨rfl, rfl⟩
      go_wp2_with fail
      refine hK.out _ _ (hHeld) (fun hHeld => ?_)
      clear hK
      try simp only [Act.put, List.setIfInBounds_toArray, List.set_cons_zero, List.set_cons_succ]
      refine ord_one 6 rfl (by kernel_rfl) (by rfl) (fun K hK => ?_)
      go_wp2_with fail
      refine Hld.out.mono ?_
      rintro e w2 ⟨v, rfl, hv, hvn, hb, hst⟩
      have Hh3 := Lib.hid (show w2.cell? ⟨l, 0, none⟩ = some (.pointer (some ⟨d, 0, none⟩)) ∧ w2.cell? ⟨l, 1, none⟩ = some (.string pre) from ⟨(hb.cell (World.block_lt_of_cell? _ _ hHeld.1)).trans hHeld.1, (hb.cell (World.block_lt_of_cell? _ _ hHeld.2)).trans hHeld.2⟩)
      have Hb := Lib.hid (show Below w1.heap.size w1 w2 from HB1.out.trans (hb.mono HB1.out.size))
      have Hv := Lib.hid hv
      have hlen : (loadB o).length = n := hn
      obtain ⟨pv, cv, rfl, -⟩ := own_cap0 hv
      rw [hlen]
      clear hv hvn hb hst Hld
      go_wp2_with fail
      refine hK.out _ _ (Hh3.out) (fun hHeld => ?_)
      clear hK
      try simp only [Act.put, List.setIfInBounds_toArray, List.set_cons_zero, List.set_cons_succ]
      refine Pl [7,8,9,10,11] ?_
      iterate 5 (refine Pc rfl ?_;simp only [Act.put, uA, uB, uC])
      refine Pn ?_
      refine wpAnyH_done (by kernel_rfl) ?_ _
      have Hn0 := Lib.hid hn
      have HasV := Lib.hid (show HasB w2 (.slice pv n cv) (loadB o) from by have := Hv.out.has; rw [hlen] at this; exact this)
      clear hn hlen
      go_wp2_with fail
      refine (newrd_calls HasV.out (by rw [Hn0.out]; omega)).mono ?_
      rintro e w3 ⟨r, rfl, hr, hrn, hb3⟩
      have Hnum := Lib.hid (show Calls Tryz.prog 137 #[.pointer (some ⟨r, 0, none⟩)] w3 (NumDone w3 r ⟨loadB o, false⟩) from by obtain ⟨_, _, _, h⟩ := hr; exact num_calls h)
      have Hb3 := Lib.hid hb3
      have Hrn := Lib.hid hrn
      clear hr hrn hb3
      go_wp2_with fail
      refine Hnum.out.mono ?_
      rintro e w4 ⟨rfl, hr4, hc4⟩
      have Hby := Lib.hid (rbytes_calls hr4)
      have Hc4 := Lib.hid hc4
      have hm62 := Rd.num_le ⟨loadB o, false⟩
      have Hbl := Lib.hid (show (Rd.num ⟨loadB o, false⟩).2.bytes.1.length ≤ 1073741824 from Nat.le_trans (Rd.bytes_len _) (Nat.le_trans (Rd.num_rest _) (by show (loadB o).length ≤ _; rw [Hn0.out]; exact hnn)))
      clear hr4 hc4 Hnum
      generalize (Rd.num ⟨loadB o, false⟩).1 = m at *
      generalize (Rd.num ⟨loadB o, false⟩).2 = R1 at *
      go_wp2_with fail
      refine Hby.out.mono ?_
      rintro e w5 ⟨v5, rfl, hv5, hn5, hr5, hc5⟩
      have HB5 := Lib.hid (show Below w2.heap.size w2 w5 from Hb3.out.trans ((Hc4.out.trans hc5 fun _ _ e => e).below Hb3.out.size fun k hk e => by have := Hrn.out; omega))
      have HL5 := Lib.hid (H.out.next (Hb.out.trans (HB5.out.mono Hb.out.size)))
      have hrl : r ≠ l := fun e => by have h1 := H.out.llt; have h2 := Hb.out.size; have h3 := Hrn.out; omega
      have Hn5 := Lib.hid (show ∀ k, v5.ownBlock = some k → w1.heap.size ≤ k from fun k hk => by have h1 := hn5 k hk; have h2 := Hb.out.size; have h3 := Hb3.out.size; have h4 := Hc4.out.size; omega)
      have Hrd := Lib.hid (fun (W : World) (hs : W.heap[r]? = w5.heap[r]?) => whole_calls (hr5.hd.same hs))
      have HV5 := Lib.hid hv5
      obtain ⟨dv, ev, hcl, -⟩ := HL5.out.cells
      have k2 : w5.cell? ⟨l, 2, none⟩ = some (.int .i64 (LedM.none0.base : Int)) := cell_of hcl rfl
      have k3 : w5.cell? ⟨l, 3, none⟩ = some dv := cell_of hcl rfl
      have f2 := frozen_of hcl 2
      have f3 := frozen_of hcl 3
      clear hv5 hn5 hr5 hc5 Hby hcl
      generalize R1.bytes.2 = R2 at *
      generalize R1.bytes.1 = b5 at *
      obtain ⟨p5, c5, rfl, -⟩ := own_cap0 HV5.out
      have HW := Lib.hid (show ((w5.setCell ⟨l, 2, none⟩ (.int .i64 (m : Int))).setCell ⟨l, 3, none⟩ (.slice p5 b5.length c5)).heap[r]? = w5.heap[r]? from (set_other _ hrl).trans (set_other _ hrl))
      have Hch := Lib.hid (show Chg (fun k => k = l) w5 ((w5.setCell ⟨l, 2, none⟩ (.int .i64 (m : Int))).setCell ⟨l, 3, none⟩ (.slice p5 b5.length c5)) from (Chg.setCell w5 ⟨l, 2, none⟩ _).trans (Chg.setCell _ ⟨l, 3, none⟩ _) fun _ _ e => e)
      have hk2 : ((w5.setCell ⟨l, 2, none⟩ (.int .i64 (m : Int))).setCell ⟨l, 3, none⟩ (.slice p5 b5.length c5)).cell? ⟨l, 2, none⟩ = some (.int .i64 (m : Int)) := by
        obtain ⟨dv', ev', hcl, -⟩ := HL5.out.cells
        have h1 := set_block hcl 2 (.int .i64 (m : Int))
        have h2 := set_block h1 3 (.slice p5 b5.length c5)
        exact cell_of h2 (by simp)
      have Hk2 := Lib.hid hk2
      have HS := Lib.hid (show St w ((w5.setCell ⟨l, 2, none⟩ (.int .i64 (m : Int))).setCell ⟨l, 3, none⟩ (.slice p5 b5.length c5)) d D F ∧ Same F w1 ((w5.setCell ⟨l, 2, none⟩ (.int .i64 (m : Int))).setCell ⟨l, 3, none⟩ (.slice p5 b5.length c5)) from by
        obtain ⟨own, dv', ev', vs', hL, hS, hn, hl⟩ := HL5.out
        refine ⟨(hS.move Hch.out (fun k _ e => ⟨.inl (e ▸ hL.ol), (hn k (e ▸ hL.ol)).1⟩) fun k hk => ⟨.inl hk, Nat.lt_of_lt_of_le (hS.flt hk) Hch.out.size⟩).less fun _ h => .inr h, fun k hk => ?_⟩
        have h1 := H.out.same (Hb.out.trans (HB5.out.mono Hb.out.size)) k hk
        exact (Hch.out.block k (hl k hk) fun e => (hn l hL.ol).2 (e ▸ hk)).trans h1)
      clear hk2
      by_cases hw : R2.whole = false
      · have Hwh := Lib.hid (Hrd.out _ HW.out)
        rw [hw] at Hwh
        have HE := Lib.hid (show ImgTold w w1 l d pre D F (imageOf o) (.returned (.int .i64 3)) _ from by rw [HI.out, if_pos (.inl hw)]; exact ⟨rfl, (fun h => by cases h), HS.out⟩)
        clear hw Hrd HI
        go_wp2_with fail
        refine Hwh.out.mono ?_
        rintro e w6 ⟨rfl, rfl⟩
        go_wp2_with fail
        go_ret
        exact HE.out
      · have Hwh := Lib.hid (Hrd.out _ HW.out)
        rw [show R2.whole = true by cases h : R2.whole <;> simp_all] at Hwh
        by_cases hm : 1099511627776 < m
        · have HE := Lib.hid (show ImgTold w w1 l d pre D F (imageOf o) (.returned (.int .i64 3)) _ from by rw [HI.out, if_pos (.inr hm)]; exact ⟨rfl, (fun h => by cases h), HS.out⟩)
          have Hk3 := Hk2.out
          clear hw Hrd HI
          go_wp2_with fail
          refine Hwh.out.mono ?_
          rintro e w6 ⟨rfl, rfl⟩
          go_wp2_with fail
          go_ret
          exact HE.out
        · have HE := Lib.hid (show ImgTold w w1 l d pre D F (imageOf o) (.returned (.int .i64 0)) _ from by
            rw [HI.out, if_neg (fun h => h.elim hw hm)]
            refine ⟨rfl, fun _ => ?_, HS.out⟩
            obtain ⟨own, dv', ev', vs', hL, hS, hn, hl⟩ := H.out
            have hb15 := Hb.out.trans (HB5.out.mono Hb.out.size)
            exact (LedF.turned hS hn hl (img_set (hL.below hb15) HV5.out (fun k hk ho => by have h1 := Hn5.out k hk; have h2 := hL.olt k ho; omega) (by omega) Hbl.out) (((Chg.of_below hb15).mono fun _ _ h => h.elim).trans Hch.out fun k _ e => e ▸ hL.ol) fun k hk => hk.imp id (Hn5.out k)).1)
          have Hk3 := Hk2.out
          clear hw Hrd HI
          go_wp2_with fail
          refine Hwh.out.mono ?_
          rintro e w6 ⟨rfl, rfl⟩
          go_wp2_with fail
          go_ret
          exact HE.out
    · have HI := Lib.hid (imageOf_e h7 h0)
      have h7' : ((loadE o : Int) == 7) = false := by simp; omega
      have h0' : ((loadE o : Int) != 0) = true := by simp; omega
      clear h7 h0
      generalize loadE o = k at *
      go_enter Tryz.func92, Tryz.ntmps92
      go_wp2_with fail
      refine ord_start (fun w' : World => w'.cell? ⟨l, 0, none⟩ = some (.pointer (some ⟨d, 0, none⟩)) ∧ w'.cell? ⟨l, 1, none⟩ = some (.string pre)) (n := 12) (by kernel_rfl) rfl (⟨hc0, hc1⟩) (fun hHeld => ?_)
      generalize w1.drew = W1 at *
      refine Pl [0,1,2,3,4] ?_
      iterate 5 (refine Pc rfl ?_;simp only [Act.put, uA, uB, uC])
      refine Pn ?_
      refine ord_one 5 rfl (by kernel_rfl) (by rfl) (fun K hK => ?_)
      go_wp2_with fail
      refine (imgName_calls ⟨hHeld.1, hHeld.2, hps⟩).mono ?_
      rintro e w9 ⟨rfl, rfl⟩
      go_wp2_with fail
      refine hK.out _ _ (hHeld) (fun hHeld => ?_)
      clear hK
      try simp only [Act.put, List.setIfInBounds_toArray, List.set_cons_zero, List.set_cons_succ]
      refine ord_one 6 rfl (by kernel_rfl) (by rfl) (fun K hK => ?_)
      go_wp2_with fail
      refine Hld.out.mono ?_
      rintro e w2 ⟨v, rfl, hv, hvn, hb, hst⟩
      have Hh3 := Lib.hid (show w2.cell? ⟨l, 0, none⟩ = some (.pointer (some ⟨d, 0, none⟩)) ∧ w2.cell? ⟨l, 1, none⟩ = some (.string pre) from ⟨(hb.cell (World.block_lt_of_cell? _ _ hHeld.1)).trans hHeld.1, (hb.cell (World.block_lt_of_cell? _ _ hHeld.2)).trans hHeld.2⟩)
      have Hb := Lib.hid (show Below w1.heap.size w1 w2 from HB1.out.trans (hb.mono HB1.out.size))
      have Hv := Lib.hid hv
      have hlen : (loadB o).length = n := hn
      obtain ⟨pv, cv, rfl, -⟩ := own_cap0 hv
      rw [hlen]
      clear hv hvn hb hst Hld
      go_wp2_with fail
      refine hK.out _ _ (Hh3.out) (fun hHeld => ?_)
      clear hK
      try simp only [Act.put, List.setIfInBounds_toArray, List.set_cons_zero, List.set_cons_succ]
      refine Pl [7,8,9,10,11] ?_
      iterate 5 (refine Pc rfl ?_;simp only [Act.put, uA, uB, uC])
      refine Pn ?_
      refine wpAnyH_done (by kernel_rfl) ?_ _
      have HE := Lib.hid (img_end H.out Hb.out k _ HI.out)
      go_wp2_with fail
      go_ret
      exact HE.out
end
end Go.Proofs.YtogdfkilhpkloaaGreatDoor

namespace Go.Proofs.YtogdfkilhpkloaaGreatDoor
open Go.RowKit Go.Sat Go.Maps

/-- A list of rows that is laid up, each row in memory of its own. -/
structure RowsIn (w : World) (v : Value) (vs : List Value) (ls : List Bs) : Prop where
  row : OwnR w 39 1 v ls.length vs
  has : ∀ (i : Nat) u b, vs[i]? = some u → ls[i]? = some b → OwnB w 5 u b
  sep : ∀ u ∈ vs, ∀ k, u.ownBlock = some k → v.ownBlock ≠ some k

theorem below_one0 (w : World) (o : Obj) : Below w.heap.size w (w.alloc o) := (Below.refl _ _).alloc (Nat.le_refl _) o

theorem slit_one (w : World) (u : Value) (e : TypeId) (fr : Nat × Nat) : Holds (w.alloc (.cells #[u] e fr)) 1 (.slice (some ⟨w.heap.size, 0, none⟩) 1 1) 1 [u] := by
  refine ⟨rfl, some ⟨w.heap.size, 0, none⟩, 1, rfl, fun e => (by cases e), fun a ha i x hx => ?_⟩
  cases ha
  rw [add_zero]
  refine cell_of (new_block w _) ?_
  simpa using hx

section
variable {w w0 w1 : World} {v v' u : Value} {vs : List Value} {ls : List Bs} {b : Bs}

theorem RowsIn.len (h : RowsIn w v vs ls) : vs.length = ls.length := by have := h.row.1; omega

theorem RowsIn.below (h : RowsIn w v vs ls) (hb : Below w.heap.size w w1) : RowsIn w1 v vs ls :=
  ⟨h.row.keep fun k hk => hb.block k (OwnR.lt h.row hk), fun i u b hu hl => OwnR.keep (h.has i u b hu hl) fun k hk => hb.block k (OwnR.lt (h.has i u b hu hl) hk), h.sep⟩

theorem RowsIn.nil (w : World) : RowsIn w (.slice none 0 0) [] [] := ⟨OwnR.nil _ _ _, fun i u b hu => (by simp at hu), fun u hu => (by simp at hu)⟩

theorem mem_rows (h : RowsIn w v vs ls) {u : Value} (hu : u ∈ vs) : ∃ b, OwnB w 5 u b := by
  obtain ⟨i, hi, rfl⟩ := List.getElem_of_mem hu
  have hl : i < ls.length := by rw [← h.len]; exact hi
  exact ⟨ls[i], h.has i _ _ (List.getElem?_eq_getElem hi) (List.getElem?_eq_getElem hl)⟩

/-- A row was appended. -/
theorem RowsIn.push (h : RowsIn w0 v vs ls) (hu : OwnB w0 5 u b) (hne : ∀ k, u.ownBlock = some k → v.ownBlock ≠ some k) (hown : OwnR w1 39 1 v' (ls.length + 1) (vs ++ [u])) (hg : w0.grownBy w1 v.ownBlock) (hloc : v'.ownBlock = v.ownBlock ∨ ∃ g, v'.ownBlock = some g ∧ w0.heap.size ≤ g) :
    RowsIn w1 v' (vs ++ [u]) (ls ++ [b]) := by
  have hlen := h.len
  have hk : ∀ x c, OwnB w0 5 x c → (∀ k, x.ownBlock = some k → v.ownBlock ≠ some k) → OwnB w1 5 x c := fun x c hx hs => OwnR.keep hx fun k hk => hg.block k (OwnR.lt hx hk) fun e => hs k hk e.symm
  have hs' : ∀ x c, OwnB w0 5 x c → (∀ k, x.ownBlock = some k → v.ownBlock ≠ some k) → ∀ k, x.ownBlock = some k → v'.ownBlock ≠ some k := fun x c hx hs k hk e => by
    rcases hloc with e1 | ⟨g, e1, hge⟩
    · exact hs k hk (e1 ▸ e)
    · rw [e] at e1
      cases e1
      have := OwnR.lt hx hk
      omega
  refine ⟨by rw [List.length_append]; exact hown, fun i x c hx hc => ?_, fun x hx k hk' => ?_⟩
  · by_cases hi : i < vs.length
    · rw [List.getElem?_append_left hi] at hx
      rw [List.getElem?_append_left (by omega)] at hc
      exact hk x c (h.has i x c hx hc) (h.sep x (List.mem_of_getElem? hx))
    · rw [List.getElem?_append_right (by omega)] at hx
      rw [List.getElem?_append_right (by omega)] at hc
      have hi0 : i - vs.length = 0 := by
        have := (List.getElem?_eq_some_iff.1 hx).1
        simp at this
        omega
      rw [hi0] at hx
      rw [show i - ls.length = 0 by omega] at hc
      cases hx
      cases hc
      exact hk u b hu hne
  · rcases List.mem_append.1 hx with hx | hx
    · obtain ⟨c, hc⟩ := mem_rows h hx
      exact hs' x c hc (h.sep x hx) k hk'
    · have : x = u := by simpa using hx
      subst this
      exact hs' x b hu hne k hk'
end

/-- What is new. -/
def NewRows (B : Nat) (v : Value) (vs : List Value) : Prop := (∀ k, v.ownBlock = some k → B ≤ k) ∧ ∀ u ∈ vs, ∀ k, u.ownBlock = some k → B ≤ k

theorem NewRows.push {B : Nat} {w0 : World} {v v' u : Value} {vs : List Value} (h : NewRows B v vs) (hu : ∀ j, u.ownBlock = some j → B ≤ j) (hloc : v'.ownBlock = v.ownBlock ∨ ∃ g, v'.ownBlock = some g ∧ w0.heap.size ≤ g) (hB : B ≤ w0.heap.size) : NewRows B v' (vs ++ [u]) := by
  refine ⟨fun j hj => ?_, fun x hx j hj => ?_⟩
  · rcases hloc with e | ⟨g, e, hge⟩
    · exact h.1 j (e ▸ hj)
    · rw [hj] at e
      cases e
      omega
  · rcases List.mem_append.1 hx with hx | hx
    · exact h.2 x hx j hj
    · rw [List.mem_singleton] at hx
      exact hu j (hx ▸ hj)

def Scanned (w : World) (b : Bs) (e : Ending) (w' : World) : Prop := ∃ v vs, e = .returned (.tuple #[v, .int .i64 ((scan b).2 : Int)]) ∧ RowsIn w' v vs (scan b).1 ∧ NewRows w.heap.size v vs ∧ Below w.heap.size w w'

def ScanRel (w : World) (b : Bs) (n : Nat) (x y : Value) (wr : World) : Prop := ∃ (k : Nat) (v : Value) (vs : List Value) (ls : List Bs), k ≤ n ∧ y = .int .i64 k ∧ v = x ∧ ls.length ≤ k ∧ RowsIn wr v vs ls ∧ NewRows w.heap.size v vs ∧ Below w.heap.size w wr ∧ (scan b).1 = ls ++ (scan (b.drop k)).1 ∧ (scan b).2 = k + (scan (b.drop k)).2

set_option maxRecDepth 100000 in
set_option maxHeartbeats 4000000 in
theorem scan_calls {w : World} {p : Option Addr} {n c : Nat} {b : Bs} (h : HasB w (.slice p n c) b) (hnc : n ≤ c) (hl : b.length ≤ 1073741824) :
    Calls Tryz.prog 163 #[.slice p n c] w (Scanned w b) := by
  obtain ⟨i1, hi1, -, hs1, -⟩ := info_parts (show (Tryz.prog.info? 5).map (fun i => (i.zero, i.size, i.bytes)) = some (some (.int .u8 0), 1, 1) by kernel_rfl)
  obtain ⟨i0, hi, hz0, hz1, hz2⟩ := info_parts (show (Tryz.prog.info? 39).map (fun i => (i.zero, i.size, i.bytes)) = some (some (.slice none 0 0), 1, 24) by kernel_rfl)
  have hn : b.length = n := by obtain ⟨_, _, e⟩ := h.slice; simp only [Value.slice.injEq] at e; exact e.2.1.symm
  have hn30 : n ≤ 1073741824 := by omega
  have H := Lib.hid h
  have Hn := Lib.hid hn
  have Hnc := Lib.hid hnc
  clear h hn hnc hl
  go_enter Tryz.func163, Tryz.ntmps163
  go_wp2_with fail
  go_loopw [4, 5] (ScanRel w b n) (fun _ y _ => n - (intOf y).toNat)
  case atStart => exact ⟨0, _, [], [], Nat.zero_le _, rfl, rfl, Nat.zero_le _, RowsIn.nil _, ⟨fun k hk => (by cases hk), fun u hu => (by simp at hu)⟩, Below.refl _ _, by simp, by simp⟩
  case round =>
    obtain ⟨k, v, vs, ls, hk, rfl, rfl, hlk, hrow, hnew, hb, hsc1, hsc2⟩ := hrel
    by_cases hlt : k < n
    · obtain ⟨r0, hr0⟩ : ∃ r0, (Value.slice p n c).ownBlock ≠ some r0 := by
        cases (Value.slice p n c).ownBlock with
        | none => exact ⟨0, by simp⟩
        | some g => exact ⟨g + 1, by simp⟩
      obtain ⟨p', c', hsl, hh, hc', -⟩ := run_tail (P := Tryz.prog) Tryz.underlying39 hi1 hs1 (HasB.below H.out hb) Hnc.out r0 k hr0 (Nat.le_of_lt hlt)
      have Hd := Lib.hid (dec_calls hh hc' (by rw [List.length_drop, Hn.out]; omega))
      have Hx := Lib.hid (And.intro hrow (And.intro hnew (And.intro hb (And.intro hsc1 hsc2))))
      have hbl : (b.drop k).length = n - k := by rw [List.length_drop, Hn.out]
      clear hh hc' hrow hnew hb hsc1 hsc2
      by_cases he : decE (b.drop k) = 0
      · have hL := decL_pos he
        rw [hbl] at hL
        have Hgo := Lib.hid (scan_go he)
        rw [List.drop_drop] at Hgo
        unfold Decoded at Hd
        rw [he] at Hd
        generalize decL (b.drop k) = L at *
        generalize decB (b.drop k) = x at *
        clear he
        go_wp2_with fail
        refine Hd.out.mono ?_
        rintro e w2 ⟨v2, rfl, hv2, hn2, hb2⟩
        have hrow2 := Hx.out.1.below hb2
        have Hv2 := Lib.hid hv2
        have Hsep := Lib.hid (show ∀ j, v2.ownBlock = some j → v.ownBlock ≠ some j from fun j hj e => by have h1 := hn2 j hj; have h2 := OwnR.lt Hx.out.1.row e; omega)
        have Hn2 := Lib.hid (show ∀ j, v2.ownBlock = some j → w.heap.size ≤ j from fun j hj => Nat.le_trans Hx.out.2.2.1.size (hn2 j hj))
        have Hb2 := Lib.hid hb2
        have Hr2 := Lib.hid hrow2
        obtain ⟨p2, c2, rfl, -⟩ := own_cap0 hv2
        clear hv2 hn2 hb2 hrow2 Hd
        generalize hq : x.length = q at *
        have Hq := Lib.hid hq
        generalize hm : ls.length = m at *
        have Hm := Lib.hid hm
        clear hq hm
        have Hrow2 := Lib.hid (show OwnR w2 39 1 v m vs by have := Hr2.out.row; rwa [Hm.out] at this)
        go_wp2_with (at_builtin; have hal := Hrow2.out.keep (w' := w2.alloc (.cells #[.slice p2 q c2] 39)) (fun j hj => (below_one0 w2 _).block j (OwnR.lt Hrow2.out hj)); have hxx := slit_one w2 (.slice p2 q c2) 39 (0, 0); refine wpList_app _ rfl (.tmp 23) (.tmp 25) 155 rfl 39 i0 (.slice none 0 0) 1 24 Tryz.underlying155 hi hz0 hz1 hz2 rfl (by decide) v m _ rfl hal (.slice (some ⟨w2.heap.size, 0, none⟩) 1 1) 1 _ rfl hxx (by simp [Value.oneCell']) (by unfold maxLen; omega) (by omega) ?_; clear hal hxx; intro v3 w3 hown3 hgrow3 hloc3; go_loud (have hE := RowsIn.push (b := x) (Hr2.out.below (below_one0 w2 (.cells #[.slice p2 q c2] 39))) (OwnR.keep Hv2.out fun j hj => (below_one0 w2 _).block j (OwnR.lt Hv2.out hj)) Hsep.out (by rw [Hm.out]; exact hown3) hgrow3 hloc3; have hN := NewRows.push (u := .slice p2 q c2) Hx.out.2.1 Hn2.out hloc3 (by have h1 := Hx.out.2.2.1.size; have h2 := Hb2.out.size; have h3 := (below_one0 w2 (.cells #[.slice p2 q c2] 39)).size; omega); have hB : Below w.heap.size w w3 := by { have h1 := Hx.out.2.2.1.trans ((Hb2.out.trans ((below_one0 w2 (.cells #[.slice p2 q c2] 39)).mono Hb2.out.size)).mono Hx.out.2.2.1.size); exact ((Chg.of_below h1).trans (Chg.of_grown hgrow3) fun j hj e => by have h5 := Hx.out.2.1.1 j e.symm; omega).below (Nat.le_refl _) fun _ _ => id }; have HE := Lib.hid (And.intro hE (And.intro hN hB)); clear hE hN hB hgrow3 hloc3; obtain ⟨p3, q3, rfl⟩ := OwnR.shape hown3; clear hown3))
        go_roundw
        case rel => exact ⟨k + L, _, _, ls ++ [x], by omega, by go_num, rfl, by rw [List.length_append, Hm.out]; simp; omega, HE.out.1, HE.out.2.1, HE.out.2.2, by rw [Hx.out.2.2.2.1, Hgo.out]; simp, by rw [Hx.out.2.2.2.2, Hgo.out]; simp; omega⟩
        case measure => simp [intOf]; omega
      · have Hst := Lib.hid (scan_stop (.inr he))
        have hne : ((decE (b.drop k) : Int) != 0) = true := by simp; omega
        unfold Decoded at Hd
        generalize decE (b.drop k) = E at *
        generalize decL (b.drop k) = L at *
        go_wp2_with fail
        refine Hd.out.mono ?_
        rintro e w2 ⟨v2, rfl, -, -, hb2⟩
        have HE := Lib.hid (show Scanned w b (.returned (.tuple #[v, .int .i64 (k : Int)])) w2 from ⟨v, vs, by rw [Hx.out.2.2.2.2, Hst.out]; rfl, by rw [Hx.out.2.2.2.1, Hst.out, List.append_nil]; exact Hx.out.1.below hb2, Hx.out.2.1, Hx.out.2.2.1.trans (hb2.mono Hx.out.2.2.1.size)⟩)
        clear hb2 Hd
        go_wp2_with fail
        go_ret2
        exact HE.out
    · have he : b.drop k = [] := List.drop_of_length_le (by rw [Hn.out]; omega)
      rw [he, scan_stop (.inl rfl)] at hsc1 hsc2
      have HE := Lib.hid (show Scanned w b (.returned (.tuple #[v, .int .i64 (k : Int)])) wr from ⟨v, vs, by rw [hsc2]; rfl, by rw [hsc1, List.append_nil]; exact hrow, hnew, hb⟩)
      clear hrow hnew hb hsc1 hsc2 he
      go_wp2_with fail
      go_ret2
      exact HE.out
end Go.Proofs.YtogdfkilhpkloaaGreatDoor

namespace Go.Sat
open Go Go.RowKit
/-- Two may come up. -/
theorem ord_both {P : Program} {l : List Oper} {Q : Exit → Act → World → Prop} {md : Region.Mode} {S : World → Prop} {fuel : Nat} {listed : Array Bool} {a : Act} {w : World} (i j : Nat) {oi oj : Oper} {ri rj : List Oper} (hdi : l.drop i = oi :: ri) (hdj : l.drop j = oj :: rj) (hr : Region.ready md l.toArray listed = [i, j])
    (hwi : Region.wanted oi (yielded l.toArray a.tmps) = true) (hwj : Region.wanted oj (yielded l.toArray a.tmps) = true)
    (hi : ∀ K : Act → World → Prop, Shut (∀ a w, S w → (S w → wpAnyH P md l.toArray Q S fuel (listed.setIfInBounds i true) a w) → K a w) → Oper.wp P oi a w K Q)
    (hj : ∀ K : Act → World → Prop, Shut (∀ a w, S w → (S w → wpAnyH P md l.toArray Q S fuel (listed.setIfInBounds j true) a w) → K a w) → Oper.wp P oj a w K Q) : wpAnyH P md l.toArray Q S (fuel + 1) listed a w :=
  wpAnyH_ready hr (by simp) (AllReadyH.cons (ord_get hdi) (fun K hK => by rw [if_pos hwi]; exact hi K hK) (AllReadyH.cons (ord_get hdj) (fun K hK => by rw [if_pos hwj]; exact hj K hK) AllReadyH.nil))
end Go.Sat

namespace Go.Proofs.YtogdfkilhpkloaaGreatDoor
open Go.RowKit Go.Sat Go.Maps

section
variable {w w1 w2 : World} {l d : Nat} {pre : ByteArray} {D : DiskM} {M : LedM} {F F' : Nat → Prop}

/-- The ledger itself has turned; what had been set apart for it is its own. -/
theorem LedF.taken {own own' : Nat → Prop} {M' : LedM} {dv' ev' : Value} {vs' : List Value} (hS : St w w1 d D (fun k => own k ∨ F' k)) (hn : ∀ k, own k → w.heap.size ≤ k ∧ ¬ F' k) (hl : ∀ k, F' k → k < w1.heap.size) (hF : ∀ k, F k → F' k)
    (hL' : LedIn w2 l d pre own' M' dv' ev' vs') (hc : Chg own w1 w2) (hx : ∀ k, own' k → own k ∨ w1.heap.size ≤ k ∨ (F' k ∧ ¬ F k ∧ w.heap.size ≤ k)) : LedF w w2 l d pre D M' F ∧ Same F w1 w2 := by
  refine ⟨⟨own', dv', ev', vs', hL', hS.move hc (fun k _ hk => ⟨.inl hk, (hn k hk).1⟩) (fun k hk => ?_), fun k hk => ?_, fun k hk => Nat.lt_of_lt_of_le (hl k (hF k hk)) hc.size⟩, fun k hk => hc.block k (hl k (hF k hk)) fun ho => (hn k ho).2 (hF k hk)⟩
  · rcases hk with hk | hk
    · refine ⟨?_, hL'.olt k hk⟩
      rcases hx k hk with h | h | h
      · exact .inl (.inl h)
      · exact .inr h
      · exact .inl (.inr h.1)
    · exact ⟨.inl (.inr (hF k hk)), Nat.lt_of_lt_of_le (hl k (hF k hk)) hc.size⟩
  · rcases hx k hk with h | h | h
    · exact ⟨(hn k h).1, fun hf => (hn k h).2 (hF k hf)⟩
    · exact ⟨Nat.le_trans hS.below.size h, fun hf => by have := hl k (hF k hf); omega⟩
    · exact ⟨h.2.2, h.2.1⟩

/-- An entry is laid behind the others. -/
theorem led_push {own : Nat → Prop} {dv ev v' u : Value} {vs : List Value} {w0 : World} {b : Bs} (hL : LedIn w1 l d pre own M dv ev vs) (hu : OwnB w1 5 u b) (hun : ∀ k, u.ownBlock = some k → ¬ own k) (hb : b.length ≤ 1073741824) (hla : M.last + 1 ≤ 1099511627776)
    (hb0 : Below w1.heap.size w1 w0) (hown : OwnR w2 39 1 v' (M.entries.length + 1) (vs ++ [u])) (hg : w0.grownBy w2 ev.ownBlock) (hloc : v'.ownBlock = ev.ownBlock ∨ ∃ g, v'.ownBlock = some g ∧ w0.heap.size ≤ g) :
    LedIn (w2.setCell ⟨l, 4, none⟩ v') l d pre (fun k => own k ∨ u.ownBlock = some k ∨ v'.ownBlock = some k) { M with entries := M.entries ++ [b] } dv v' (vs ++ [u]) ∧ Chg own w1 (w2.setCell ⟨l, 4, none⟩ v') ∧ (∀ k, v'.ownBlock = some k → own k ∨ w1.heap.size ≤ k) ∧
    w2.heap[l]? = w1.heap[l]? := by
  have hs := hb0.size
  have hg2 := hg.size
  have hll : w2.heap[l]? = w1.heap[l]? := (hg.block l (by have := hL.olt l hL.ol; omega) fun e => (hL.oe l e.symm).2 rfl).trans (hb0.block l (hL.olt l hL.ol))
  have hnew : ∀ k, v'.ownBlock = some k → ev.ownBlock = some k ∨ w1.heap.size ≤ k := fun k hk => by
    rcases hloc with e | ⟨g, e, hge⟩
    · exact .inl (e ▸ hk)
    · rw [hk] at e
      cases e
      exact .inr (by omega)
  have hv'l : ∀ k, v'.ownBlock = some k → k ≠ l := fun k hk e => by
    rcases hnew k hk with h | h
    · exact (hL.oe k h).2 e
    · have := hL.olt l hL.ol
      omega
  have hul : ∀ k, u.ownBlock = some k → k ≠ l := fun k hk e => hun k hk (e ▸ hL.ol)
  have hkeep : ∀ k, k < w1.heap.size → ev.ownBlock ≠ some k → k ≠ l → (w2.setCell ⟨l, 4, none⟩ v').heap[k]? = w1.heap[k]? := fun k hk he hkl =>
    (set_other v' hkl).trans ((hg.block k (by omega) fun e => he e.symm).trans (hb0.block k hk))
  have hv'n : ∀ k, k < w1.heap.size → ev.ownBlock ≠ some k → v'.ownBlock ≠ some k := fun k hk he e => by
    rcases hnew k e with h | h
    · exact he h
    · omega
  have hune : ∀ k, u.ownBlock = some k → ev.ownBlock ≠ some k := fun k hk e => hun k hk (hL.oe k e).1
  refine ⟨⟨?_, ?_, ?_, ?_, .inl hL.ol, ?_, fun k hk => ⟨.inr (.inr hk), hv'l k hk⟩, ?_, ?_, ?_, hL.psz, ⟨hL.big.1, ?_⟩⟩, ?_, fun k hk => (hnew k hk).imp (fun h => (hL.oe k h).1) id, hll⟩
  · have h1 := set_block (hll.trans hL.cells) 4 v'
    simpa using h1
  · exact OwnR.keep hL.data fun k hk => hkeep k (OwnR.lt hL.data hk) (hL.od k hk).2.2 (hL.od k hk).2.1
  · have : (M.entries ++ [b]).length = M.entries.length + 1 := by simp
    show OwnR _ _ _ _ (M.entries ++ [b]).length _
    rw [this]
    exact hown.keep fun k hk => set_other v' (hv'l k hk)
  · intro i x c hx hc
    have hc' : (M.entries ++ [b])[i]? = some c := hc
    by_cases hi : i < vs.length
    · rw [List.getElem?_append_left hi] at hx
      rw [List.getElem?_append_left (by have := hL.len; omega)] at hc'
      have hxm := List.mem_of_getElem? hx
      exact OwnR.keep (hL.rows i x c hx hc') fun k hk => hkeep k (hL.olt k (hL.ov x hxm k hk).1) (hL.ov x hxm k hk).2.2 (hL.ov x hxm k hk).2.1
    · rw [List.getElem?_append_right (by omega)] at hx
      rw [List.getElem?_append_right (by have := hL.len; omega)] at hc'
      have hi0 : i - vs.length = 0 := by
        have := (List.getElem?_eq_some_iff.1 hx).1
        simp at this
        omega
      rw [hi0] at hx
      rw [show i - M.entries.length = 0 by have := hL.len; omega] at hc'
      cases hx
      cases hc'
      exact OwnR.keep hu fun k hk => hkeep k (OwnR.lt hu hk) (hune k hk) (hul k hk)
  · exact fun k hk => ⟨.inl (hL.od k hk).1, (hL.od k hk).2.1, hv'n k (OwnR.lt hL.data hk) (hL.od k hk).2.2⟩
  · intro x hx k hk
    rcases List.mem_append.1 hx with hx | hx
    · exact ⟨.inl (hL.ov x hx k hk).1, (hL.ov x hx k hk).2.1, hv'n k (hL.olt k (hL.ov x hx k hk).1) (hL.ov x hx k hk).2.2⟩
    · have : x = u := by simpa using hx
      subst this
      exact ⟨.inr (.inl hk), hul k hk, hv'n k (OwnR.lt hu hk) (hune k hk)⟩
  · intro k hk
    have h2 : k < w2.heap.size := by
      rcases hk with h | h | h
      · have := hL.olt k h
        omega
      · have := OwnR.lt hu h
        omega
      · exact OwnR.lt hown h
    simpa [World.setCell] using h2
  · show M.base + (M.entries ++ [b]).length ≤ _
    rw [List.length_append]
    unfold LedM.last at hla
    simp
    omega
  · intro x hx
    have hx' : x ∈ M.entries ++ [b] := hx
    rcases List.mem_append.1 hx' with h | h
    · exact hL.big.2 x h
    · have : x = b := by simpa using h
      rw [this]
      exact hb
  · exact (((Chg.of_below hb0).mono fun _ _ h => h.elim).trans (Chg.of_grown hg) fun k _ e => (hL.oe k e.symm).1).trans (Chg.setCell w2 ⟨l, 4, none⟩ v') fun k _ e => by rw [e]; exact hL.ol
end
end Go.Proofs.YtogdfkilhpkloaaGreatDoor

namespace Go.Proofs.YtogdfkilhpkloaaGreatDoor
open Go.RowKit Go.Sat Go.Maps

def takerO (l : Nat) (la : Int) : Obj := .cells #[.pointer (some ⟨l, 0, none⟩), .int .i64 la] 257 (0, 0)

/-- What a record that was taken in leaves. -/
def TakeTold (w w1 : World) (l d : Nat) (pre : ByteArray) (D : DiskM) (M : LedM) (F : Nat → Prop) (t : Nat) (la : Int) (b : Bs) (e : Ending) (w' : World) : Prop :=
  St w w' d D F ∧ (∀ k, F k → k ≠ t → w'.heap[k]? = w1.heap[k]?) ∧ match take1 M.base (la, M.entries) b with
  | none => e = .returned (.bool false)
  | some s => e = .returned (.bool true) ∧ LedF w w' l d pre D { M with entries := s.2 } F ∧ w'.heap[t]? = some (takerO l s.1)

section
variable {w w1 w2 : World} {l d t : Nat} {pre : ByteArray} {D : DiskM} {M : LedM} {F F' : Nat → Prop} {la : Int} {b : Bs}

theorem take1_no {base : Nat} {s : Int × List Bs} (h : (Rd.num ⟨b, false⟩).2.bytes.2.whole = false ∨ (Rd.num ⟨b, false⟩).1 < 1 ∨ 1099511627776 < (Rd.num ⟨b, false⟩).1 ∨ (0 ≤ s.1 ∧ ((Rd.num ⟨b, false⟩).1 : Int) ≠ s.1 + 1)) : take1 base s b = none := by
  unfold take1
  rw [if_pos h]
theorem take1_old {base : Nat} {s : Int × List Bs} (h : ¬ ((Rd.num ⟨b, false⟩).2.bytes.2.whole = false ∨ (Rd.num ⟨b, false⟩).1 < 1 ∨ 1099511627776 < (Rd.num ⟨b, false⟩).1 ∨ (0 ≤ s.1 ∧ ((Rd.num ⟨b, false⟩).1 : Int) ≠ s.1 + 1))) (h1 : (Rd.num ⟨b, false⟩).1 ≤ base) : take1 base s b = some (((Rd.num ⟨b, false⟩).1 : Int), s.2) := by
  unfold take1
  rw [if_neg h, if_pos h1]
theorem take1_gap {base : Nat} {s : Int × List Bs} (h : ¬ ((Rd.num ⟨b, false⟩).2.bytes.2.whole = false ∨ (Rd.num ⟨b, false⟩).1 < 1 ∨ 1099511627776 < (Rd.num ⟨b, false⟩).1 ∨ (0 ≤ s.1 ∧ ((Rd.num ⟨b, false⟩).1 : Int) ≠ s.1 + 1))) (h1 : ¬ (Rd.num ⟨b, false⟩).1 ≤ base) (h2 : (Rd.num ⟨b, false⟩).1 ≠ base + s.2.length + 1) : take1 base s b = none := by
  unfold take1
  rw [if_neg h, if_neg h1, if_pos h2]
theorem take1_new {base : Nat} {s : Int × List Bs} (h : ¬ ((Rd.num ⟨b, false⟩).2.bytes.2.whole = false ∨ (Rd.num ⟨b, false⟩).1 < 1 ∨ 1099511627776 < (Rd.num ⟨b, false⟩).1 ∨ (0 ≤ s.1 ∧ ((Rd.num ⟨b, false⟩).1 : Int) ≠ s.1 + 1))) (h1 : ¬ (Rd.num ⟨b, false⟩).1 ≤ base) (h2 : ¬ (Rd.num ⟨b, false⟩).1 ≠ base + s.2.length + 1) : take1 base s b = some (((Rd.num ⟨b, false⟩).1 : Int), s.2 ++ [(Rd.num ⟨b, false⟩).2.bytes.1]) := by
  unfold take1
  rw [if_neg h, if_neg h1, if_neg h2]

theorem take_none {x : Option (Int × List Bs)} (hx : x = take1 M.base (la, M.entries) b) (hS : St w w2 d D F) (hF : ∀ k, F k → k ≠ t → w2.heap[k]? = w1.heap[k]?) (h : x = none) : TakeTold w w1 l d pre D M F t la b (.returned (.bool false)) w2 := by
  unfold TakeTold
  rw [← hx, h]
  exact ⟨hS, hF, rfl⟩
theorem take_some {x : Option (Int × List Bs)} (hx : x = take1 M.base (la, M.entries) b) {s : Int × List Bs} (hL : LedF w w2 l d pre D { M with entries := s.2 } F) (hF : ∀ k, F k → k ≠ t → w2.heap[k]? = w1.heap[k]?) (ht : w2.heap[t]? = some (takerO l s.1)) (h : x = some s) : TakeTold w w1 l d pre D M F t la b (.returned (.bool true)) w2 := by
  unfold TakeTold
  rw [← hx, h]
  exact ⟨hL.stF, hF, rfl, hL, ht⟩

set_option maxRecDepth 100000 in
set_option maxHeartbeats 8000000 in
theorem takes_calls (h : LedF w w1 l d pre D M F) (ht : w1.heap[t]? = some (takerO l la)) (hFt : F t) (htn : w.heap.size ≤ t) {p : Option Addr} {n c : Nat} (hx : HasB w1 (.slice p n c) b) (hb : b.length ≤ 1073741824) (hla1 : -1 ≤ la) (hla2 : la ≤ 1099511627776) :
    Calls Tryz.prog 164 #[.pointer (some ⟨t, 0, none⟩), .slice p n c] w1 (TakeTold w w1 l d pre D M F t la b) := by
  obtain ⟨i0, hi, hz0, hz1, hz2⟩ := info_parts (show (Tryz.prog.info? 39).map (fun i => (i.zero, i.size, i.bytes)) = some (some (.slice none 0 0), 1, 24) by kernel_rfl)
  have Hrd0 := Lib.hid (newrd_calls hx (by omega))
  have H := Lib.hid h
  have Ht := Lib.hid ht
  have htlt : t < w1.heap.size := h.flt hFt
  have Hb := Lib.hid hb
  have hn : b.length = n := by obtain ⟨_, _, e⟩ := hx.slice; simp only [Value.slice.injEq] at e; exact e.2.1.symm
  have HFt := Lib.hid hFt
  have hlt : l ≠ t := fun e => by
    obtain ⟨own, dv, ev, vs, hL, -, hn, -⟩ := h
    exact (hn l hL.ol).2 (e ▸ hFt)
  clear h hx hb ht hn hFt
  go_enter Tryz.func164, Tryz.ntmps164
  go_wp2_with fail
  refine Hrd0.out.mono ?_
  rintro e w3 ⟨r, rfl, hr, hrn, hb3⟩
  have Hnum := Lib.hid (show Calls Tryz.prog 137 #[.pointer (some ⟨r, 0, none⟩)] w3 (NumDone w3 r ⟨b, false⟩) from by obtain ⟨_, _, _, h⟩ := hr; exact num_calls h)
  have Hb3 := Lib.hid hb3
  have Hrn := Lib.hid hrn
  clear hr hrn hb3 Hrd0
  go_wp2_with fail
  refine Hnum.out.mono ?_
  rintro e w4 ⟨rfl, hr4, hc4⟩
  have Hby := Lib.hid (rbytes_calls hr4)
  have Hc4 := Lib.hid hc4
  have hm62 := Rd.num_le ⟨b, false⟩
  have Hbl := Lib.hid (show (Rd.num ⟨b, false⟩).2.bytes.1.length ≤ 1073741824 from Nat.le_trans (Rd.bytes_len _) (Nat.le_trans (Rd.num_rest _) Hb.out))
  have HNo := Lib.hid (fun s => take1_no (b := b) (base := M.base) (s := s))
  have HOld := Lib.hid (fun s => take1_old (b := b) (base := M.base) (s := s))
  have HGap := Lib.hid (fun s => take1_gap (b := b) (base := M.base) (s := s))
  have HNew := Lib.hid (fun s => take1_new (b := b) (base := M.base) (s := s))
  clear hr4 hc4 Hnum
  generalize (Rd.num ⟨b, false⟩).1 = k at *
  generalize (Rd.num ⟨b, false⟩).2 = R1 at *
  go_wp2_with fail
  refine Hby.out.mono ?_
  rintro e w5 ⟨v5, rfl, hv5, hn5, hr5, hc5⟩
  have HB5 := Lib.hid (show Below w1.heap.size w1 w5 from Hb3.out.trans ((Hc4.out.trans hc5 fun _ _ e => e).below Hb3.out.size fun k hk e => by have := Hrn.out; omega))
  have Hn5 := Lib.hid (show ∀ k, v5.ownBlock = some k → w1.heap.size ≤ k from fun k hk => by have h1 := hn5 k hk; have h3 := Hb3.out.size; have h4 := Hc4.out.size; omega)
  have Hwh := Lib.hid (whole_calls hr5.hd)
  have HV5 := Lib.hid hv5
  have ht5 := (HB5.out.block t htlt).trans Ht.out
  have kt0 : w5.cell? ⟨t, 0, none⟩ = some (.pointer (some ⟨l, 0, none⟩)) := cell_of ht5 rfl
  have kt1 : w5.cell? ⟨t, 1, none⟩ = some (.int .i64 la) := cell_of ht5 rfl
  have ft1 := frozen_of ht5 1
  have HS5 := Lib.hid (show St w w5 d D F ∧ ∀ k, F k → k ≠ t → w5.heap[k]? = w1.heap[k]? from ⟨(H.out.next HB5.out).stF, fun k hk _ => HB5.out.block k (H.out.flt hk)⟩)
  have HT := Lib.hid (show take1 M.base (la, M.entries) b = take1 M.base (la, M.entries) b from rfl)
  have HT5 := Lib.hid ht5
  clear hv5 hn5 hr5 hc5 Hby ht5
  generalize R1.bytes.2 = R2 at *
  generalize R1.bytes.1 = b5 at *
  obtain ⟨pu, cu, rfl, -⟩ := own_cap0 HV5.out
  by_cases hw : R2.whole = false
  · rw [hw] at Hwh
    have HE := Lib.hid (show TakeTold w w1 l d pre D M F t la b (.returned (.bool false)) w5 from take_none rfl HS5.out.1 HS5.out.2 (HNo.out _ (.inl hw)))
    go_wp2_with fail
    refine Hwh.out.mono ?_
    rintro e w6 ⟨rfl, rfl⟩
    go_wp2_with fail
    go_ret
    exact HE.out
  · have hw' : R2.whole = true := by cases h : R2.whole <;> simp_all
    rw [hw'] at Hwh
    by_cases h1 : k < 1
    · have HE := Lib.hid (show TakeTold w w1 l d pre D M F t la b (.returned (.bool false)) w5 from take_none rfl HS5.out.1 HS5.out.2 (HNo.out _ (.inr (.inl h1))))
      go_wp2_with fail
      refine Hwh.out.mono ?_
      rintro e w6 ⟨rfl, rfl⟩
      go_wp2_with fail
      go_ret
      exact HE.out
    · by_cases h2 : 1099511627776 < k
      · have HE := Lib.hid (show TakeTold w w1 l d pre D M F t la b (.returned (.bool false)) w5 from take_none rfl HS5.out.1 HS5.out.2 (HNo.out _ (.inr (.inr (.inl h2)))))
        go_wp2_with fail
        refine Hwh.out.mono ?_
        rintro e w6 ⟨rfl, rfl⟩
        go_wp2_with fail
        go_ret
        exact HE.out
      · have hlw : IntKind.i64.wrap (la + 1) = la + 1 := IntWalk.i64_in _ (by omega)
        by_cases h3 : 0 ≤ la ∧ (k : Int) ≠ la + 1
        · obtain ⟨h3a, h3b⟩ := h3
          have hd3 : decide (0 ≤ la) = true := by simpa using h3a
          have hne : ((k : Int) != la + 1) = true := by simpa using h3b
          have HE := Lib.hid (show TakeTold w w1 l d pre D M F t la b (.returned (.bool false)) w5 from take_none rfl HS5.out.1 HS5.out.2 (HNo.out _ (.inr (.inr (.inr ⟨h3a, h3b⟩)))))
          go_wp2_with fail
          refine Hwh.out.mono ?_
          rintro e w6 ⟨rfl, rfl⟩
          go_wp2_with fail
          go_ret
          exact HE.out
        · have HOK := Lib.hid (show ¬ (R2.whole = false ∨ k < 1 ∨ 1099511627776 < k ∨ (0 ≤ la ∧ (k : Int) ≠ la + 1)) from by rintro (h | h | h | h); exact hw h; exact h1 h; exact h2 h; exact h3 h)
          have HL5 := Lib.hid (show LedF w w5 l d pre D M (fun k => F k ∨ (Value.slice pu b5.length cu).ownBlock = some k) from H.out.more HB5.out fun k hk => hk.imp id fun e => ⟨Hn5.out k e, OwnR.lt HV5.out e⟩)
          have HL6 := Lib.hid (show LedF w (w5.setCell ⟨t, 1, none⟩ (.int .i64 (k : Int))) l d pre D M (fun k => F k ∨ (Value.slice pu b5.length cu).ownBlock = some k) from HL5.out.move (Chg.setCell w5 ⟨t, 1, none⟩ _) (fun j _ e => by rw [e]; exact ⟨.inl HFt.out, htn⟩) fun j hj => ⟨.inl hj, by have := HL5.out.flt hj; simpa [World.setCell] using this⟩)
          have HT6 := Lib.hid (show (w5.setCell ⟨t, 1, none⟩ (.int .i64 (k : Int))).heap[t]? = some (takerO l (k : Int)) from by have := set_block HT5.out 1 (.int .i64 (k : Int)); simpa [takerO] using this)
          have HF6 := Lib.hid (show ∀ j, F j → j ≠ t → (w5.setCell ⟨t, 1, none⟩ (.int .i64 (k : Int))).heap[j]? = w1.heap[j]? from fun j hj hjt => (set_other _ hjt).trans (HB5.out.block j (H.out.flt hj)))
          obtain ⟨dv, ev, hcl, -⟩ := HL6.out.cells
          have k62 := cell_of hcl (i := 2) rfl
          have kt60 : (w5.setCell ⟨t, 1, none⟩ (.int .i64 (k : Int))).cell? ⟨t, 0, none⟩ = some (.pointer (some ⟨l, 0, none⟩)) := cell_of HT6.out rfl
          have HV6 := Lib.hid (show OwnB (w5.setCell ⟨t, 1, none⟩ (.int .i64 (k : Int))) 5 (.slice pu b5.length cu) b5 from OwnR.keep HV5.out fun j hj => set_other _ fun e => by have := Hn5.out j hj; have h5 : j = t := e; omega)
          clear hcl
          by_cases hold : k ≤ M.base
          · have HE := Lib.hid (show TakeTold w w1 l d pre D M F t la b (.returned (.bool true)) (w5.setCell ⟨t, 1, none⟩ (.int .i64 (k : Int))) from take_some rfl (s := ((k : Int), M.entries)) (HL6.out.less fun _ h => .inl h) HF6.out HT6.out (HOld.out _ HOK.out hold))
            have hol : ((k : Int)) ≤ (M.base : Int) := by omega
            generalize M.base = base at *
            by_cases hl0 : 0 ≤ la
            · have hkl : (k : Int) = la + 1 := by omega
              have hne : ((k : Int) != la + 1) = false := by simp [hkl]
              have hd3 : decide (0 ≤ la) = true := by simpa using hl0
              clear hkl
              go_wp2_with fail
              refine Hwh.out.mono ?_
              rintro e w6 ⟨rfl, rfl⟩
              go_wp2_with fail
              go_ret
              exact HE.out
            · have hd3 : decide (0 ≤ la) = false := by simpa using hl0
              go_wp2_with fail
              refine Hwh.out.mono ?_
              rintro e w6 ⟨rfl, rfl⟩
              go_wp2_with fail
              go_ret
              exact HE.out
          · have Hla6 := Lib.hid (last_calls HL6.out)
            have hgt : (M.base : Int) < (k : Int) := by omega
            have HLa := Lib.hid (show M.last = M.base + M.entries.length from rfl)
            have Hlb := Lib.hid HL6.out.last
            by_cases hgap : k ≠ M.base + M.entries.length + 1
            · have HE := Lib.hid (fun q => (show TakeTold w w1 l d pre D M F t la b (.returned (.bool false)) ((w5.setCell ⟨t, 1, none⟩ (.int .i64 (k : Int))).drewN q) from take_none rfl ((HL6.out.less fun _ h => .inl h).stF.drewN q) HF6.out (HGap.out _ HOK.out hold hgap)))
              have hlb := Hlb.out
              have hne2 : (k : Int) ≠ (M.last : Int) + 1 := by have := HLa.out; omega
              have hne2' : ((k : Int) != (M.last : Int) + 1) = true := by simpa using hne2
              clear hgap hold hne2
              generalize M.last = lst at *
              generalize M.base = base at *
              by_cases hl0 : 0 ≤ la
              · have hkl : (k : Int) = la + 1 := by
                  have := HOK.out
                  exact Classical.byContradiction fun e => this (.inr (.inr (.inr ⟨hl0, e⟩)))
                have hne : ((k : Int) != la + 1) = false := by simp [hkl]
                have hd3 : decide (0 ≤ la) = true := by simpa using hl0
                clear hkl
                go_wp2_with fail
                refine Hwh.out.mono ?_
                rintro e w6 ⟨rfl, rfl⟩
                go_wp2_with fail
                refine Hla6.out.mono ?_
                rintro e w7 ⟨rfl, q, rfl⟩
                go_wp2_with fail
                go_ret
                exact HE.out q
              · have hd3 : decide (0 ≤ la) = false := by simpa using hl0
                go_wp2_with fail
                refine Hwh.out.mono ?_
                rintro e w6 ⟨rfl, rfl⟩
                go_wp2_with fail
                refine Hla6.out.mono ?_
                rintro e w7 ⟨rfl, q, rfl⟩
                go_wp2_with fail
                go_ret
                exact HE.out q
            · have hkv : k = M.base + M.entries.length + 1 := Classical.not_not.1 hgap
              have HNw := Lib.hid (HNew.out ((la, M.entries) : Int × List Bs) HOK.out hold hgap)
              have hlb := Hlb.out
              have hla3 : M.last + 1 ≤ 1099511627776 := by have := HLa.out; omega
              have hne2 : ((k : Int) != (M.last : Int) + 1) = false := by have := HLa.out; simp; omega
              have hm40 : M.entries.length ≤ 1099511627776 := by have := HLa.out; omega
              have Hm3 := Lib.hid hla3
              clear hgap hold hkv HLa hla3
              by_cases hl0 : 0 ≤ la
              · have hkl : (k : Int) = la + 1 := by
                  have := HOK.out
                  exact Classical.byContradiction fun e => this (.inr (.inr (.inr ⟨hl0, e⟩)))
                have hne : ((k : Int) != la + 1) = false := by simp [hkl]
                have hd3 : decide (0 ≤ la) = true := by simpa using hl0
                clear hkl
                generalize hW6 : w5.setCell ⟨t, 1, none⟩ (.int .i64 (k : Int)) = w6 at *
                go_wp2_with fail
                refine Hwh.out.mono ?_
                rintro e w8 ⟨rfl, rfl⟩
                go_wp2_with fail
                refine Hla6.out.mono ?_
                rintro e w7 ⟨rfl, q, rfl⟩
                clear hW6
                have kt60 : (w6.drewN q).cell? ⟨t, 0, none⟩ = some (.pointer (some ⟨l, 0, none⟩)) := kt60
                go_wp2_with fail
                refine ord_start (fun w' : World => w'.cell? ⟨t, 0, none⟩ = some (.pointer (some ⟨l, 0, none⟩))) (n := 17) (by kernel_rfl) rfl (kt60) (fun hHeld => ?_)
                have hL7 := HL6.out.next (show Below w6.heap.size w6 (w6.drewN q).drew from ⟨rfl, rfl, rfl, Nat.le_refl _, fun _ _ => rfl⟩)
                have hT7 : (w6.drewN q).drew.heap[t]? = some (takerO l (k : Int)) := HT6.out
                have hV7 : OwnB (w6.drewN q).drew 5 (.slice pu b5.length cu) b5 := OwnR.keep HV6.out fun _ _ => rfl
                have hF7 : ∀ j, F j → j ≠ t → (w6.drewN q).drew.heap[j]? = w1.heap[j]? := HF6.out
                generalize (w6.drewN q).drew = W1 at *
                obtain ⟨own, dv, ev, vs, hL, hS, hn, hl⟩ := hL7
                have h4 := hL.c4
                have k0 := hL.c0
                have hnt : ¬ own t := fun ho => (hn t ho).2 (.inl HFt.out)
                have htl : t ≠ l := fun e => hlt e.symm
                have Ht0 := Lib.hid (cell_of hT7 (i := 0) rfl : W1.cell? ⟨t, 0, none⟩ = some (.pointer (some ⟨l, 0, none⟩)))
                have HalR := Lib.hid (hL.row.keep (w' := W1.alloc (.cells #[.slice pu b5.length cu] 39)) fun j hj => (below_one0 W1 _).block j (OwnR.lt hL.row hj))
                have Hxx := Lib.hid (slit_one W1 (.slice pu b5.length cu) 39 (0, 0))
                have HP := Lib.hid (show ∀ v3 w3, OwnR w3 39 1 v3 (M.entries.length + 1) (vs ++ [.slice pu b5.length cu]) → (W1.alloc (.cells #[.slice pu b5.length cu] 39)).grownBy w3 ev.ownBlock → (v3.ownBlock = ev.ownBlock ∨ ∃ g, v3.ownBlock = some g ∧ (W1.alloc (.cells #[.slice pu b5.length cu] 39)).heap.size ≤ g) → TakeTold w w1 l d pre D M F t la b (.returned (.bool true)) (w3.setCell ⟨l, 4, none⟩ v3) ∧ w3.heap[t]? = W1.heap[t]? ∧ w3.heap[l]? = some (.cells #[.pointer (some ⟨d, 0, none⟩), .string pre, .int .i64 (M.base : Int), dv, ev, .bool M.dead] 157 (0, 0)) from fun v3 w3 hown3 hgrow3 hloc3 => by
                  obtain ⟨hP1, hP2, hP3, hP4⟩ := led_push hL hV7 (fun j hj ho => (hn j ho).2 (.inr hj)) Hbl.out Hm3.out (below_one0 W1 _) hown3 hgrow3 hloc3
                  have hpt : w3.heap[t]? = W1.heap[t]? := (hgrow3.block t (Nat.lt_of_lt_of_le (hl t (.inl HFt.out)) (below_one0 W1 _).size) fun e => hnt (hL.oe t e.symm).1).trans ((below_one0 W1 _).block t (hl t (.inl HFt.out)))
                  obtain ⟨hQ1, hQ2⟩ := LedF.taken hS hn hl (fun j hj => .inl hj) hP1 hP2 fun j hj => by
                    rcases hj with hj | hj | hj
                    · exact .inl hj
                    · exact .inr (.inr ⟨.inr hj, fun hf => by have h5 := Hn5.out j hj; have h6 := H.out.flt hf; omega, Nat.le_trans H.out.bel.size (Hn5.out j hj)⟩)
                    · rcases hP3 j hj with h | h
                      · exact .inl h
                      · exact .inr (.inl h)
                  exact ⟨take_some rfl (s := ((k : Int), M.entries ++ [b5])) hQ1 (fun j hj hjt => (hQ2 j hj).trans (hF7 j hj hjt)) ((set_other v3 htl).trans (hpt.trans hT7)) HNw.out, hpt, hP4.trans hL.cells⟩)
                clear hL hS hn hl hT7 hV7 hF7 k62 kt0 kt1 ft1
                generalize M.entries.length = m at *
                generalize b5.length = q5 at *
                refine Pl [0,1,2,3,4,5,6,7,8,9,11] ?_
                iterate 11 (refine Pc rfl ?_;simp only [Act.put, uA, uB, uC])
                refine Pn ?_
                refine ord_both 10 12 rfl rfl (by kernel_rfl) (by rfl) (by rfl) (fun K hK => ?_) (fun K hK => ?_)
                · go_wp2_with fail
                  refine hK.out _ _ (hHeld) (fun hHeld => ?_)
                  clear hK
                  try simp only [Act.put, List.setIfInBounds_toArray, List.set_cons_zero, List.set_cons_succ]
                  refine ord_one 12 rfl (by kernel_rfl) (by rfl) (fun K hK => ?_)
                  go_wp2_with fail
                  refine hK.out _ _ (al_cell hHeld _) (fun hHeld => ?_)
                  clear hK
                  try simp only [Act.put, List.setIfInBounds_toArray, List.set_cons_zero, List.set_cons_succ]
                  refine ord_one 13 rfl (by kernel_rfl) (by rfl) (fun K hK => ?_)
                  refine wp_app (.tmp 72) (.tmp 74) 155 rfl 39 i0 (.slice none 0 0) 1 24 Tryz.underlying155 hi hz0 hz1 hz2 rfl (by decide) _ m _ rfl HalR.out (.slice (some ⟨W1.heap.size, 0, none⟩) 1 1) 1 _ rfl Hxx.out (by simp [Value.oneCell']) (by unfold maxLen; omega) (by omega) ?_
                  intro v3 w3 hown3 hgrow3 hloc3
                  have HE := Lib.hid (HP.out v3 w3 hown3 hgrow3 hloc3)
                  have k4 := cell_of HE.out.2.2 (i := 4) rfl
                  have f4 := frozen_of HE.out.2.2 4
                  have kt3 : w3.cell? ⟨t, 0, none⟩ = some (.pointer (some ⟨l, 0, none⟩)) := (World.cell?_of_block (a := ⟨t, 0, none⟩) HE.out.2.1).trans Ht0.out
                  obtain ⟨p3, q3, rfl⟩ := OwnR.shape hown3
                  clear hown3 hgrow3 hloc3
                  refine hK.out _ _ kt3 (fun hHeld => ?_)
                  clear hK
                  try simp only [Act.put, List.setIfInBounds_toArray, List.set_cons_zero, List.set_cons_succ]
                  refine Pl [14,15] ?_
                  iterate 2 (refine Pc rfl ?_;simp only [Act.put, uA, uB, uC])
                  refine Pn ?_
                  refine ord_one 16 rfl (by kernel_rfl) (by rfl) (fun K hK => ?_)
                  go_wp2_with fail
                  refine hK.out _ _ ((World.cell?_of_block (a := ⟨t, 0, none⟩) (set_other _ htl)).trans kt3) (fun hHeld => ?_)
                  clear hK
                  try simp only [Act.put, List.setIfInBounds_toArray, List.set_cons_zero, List.set_cons_succ]
                  refine wpAnyH_done (by kernel_rfl) ?_ _
                  go_wp2_with fail
                  go_ret
                  exact HE.out.1
                · have h4a := al_cell h4 (.cells #[.slice pu q5 cu] 39)
                  go_wp2_with fail
                  refine hK.out _ _ (al_cell hHeld _) (fun hHeld => ?_)
                  clear hK
                  try simp only [Act.put, List.setIfInBounds_toArray, List.set_cons_zero, List.set_cons_succ]
                  refine ord_one 10 rfl (by kernel_rfl) (by rfl) (fun K hK => ?_)
                  go_wp2_with fail
                  refine hK.out _ _ (hHeld) (fun hHeld => ?_)
                  clear hK
                  try simp only [Act.put, List.setIfInBounds_toArray, List.set_cons_zero, List.set_cons_succ]
                  refine ord_one 13 rfl (by kernel_rfl) (by rfl) (fun K hK => ?_)
                  refine wp_app (.tmp 72) (.tmp 74) 155 rfl 39 i0 (.slice none 0 0) 1 24 Tryz.underlying155 hi hz0 hz1 hz2 rfl (by decide) _ m _ rfl HalR.out (.slice (some ⟨W1.heap.size, 0, none⟩) 1 1) 1 _ rfl Hxx.out (by simp [Value.oneCell']) (by unfold maxLen; omega) (by omega) ?_
                  intro v3 w3 hown3 hgrow3 hloc3
                  have HE := Lib.hid (HP.out v3 w3 hown3 hgrow3 hloc3)
                  have k4 := cell_of HE.out.2.2 (i := 4) rfl
                  have f4 := frozen_of HE.out.2.2 4
                  have kt3 : w3.cell? ⟨t, 0, none⟩ = some (.pointer (some ⟨l, 0, none⟩)) := (World.cell?_of_block (a := ⟨t, 0, none⟩) HE.out.2.1).trans Ht0.out
                  obtain ⟨p3, q3, rfl⟩ := OwnR.shape hown3
                  clear hown3 hgrow3 hloc3
                  refine hK.out _ _ kt3 (fun hHeld => ?_)
                  clear hK
                  try simp only [Act.put, List.setIfInBounds_toArray, List.set_cons_zero, List.set_cons_succ]
                  refine Pl [14,15] ?_
                  iterate 2 (refine Pc rfl ?_;simp only [Act.put, uA, uB, uC])
                  refine Pn ?_
                  refine ord_one 16 rfl (by kernel_rfl) (by rfl) (fun K hK => ?_)
                  go_wp2_with fail
                  refine hK.out _ _ ((World.cell?_of_block (a := ⟨t, 0, none⟩) (set_other _ htl)).trans kt3) (fun hHeld => ?_)
                  clear hK
                  try simp only [Act.put, List.setIfInBounds_toArray, List.set_cons_zero, List.set_cons_succ]
                  refine wpAnyH_done (by kernel_rfl) ?_ _
                  go_wp2_with fail
                  go_ret
                  exact HE.out.1
              · have hd3 : decide (0 ≤ la) = false := by simpa using hl0
                generalize hW6 : w5.setCell ⟨t, 1, none⟩ (.int .i64 (k : Int)) = w6 at *
                go_wp2_with fail
                refine Hwh.out.mono ?_
                rintro e w8 ⟨rfl, rfl⟩
                go_wp2_with fail
                refine Hla6.out.mono ?_
                rintro e w7 ⟨rfl, q, rfl⟩
                clear hW6
                have kt60 : (w6.drewN q).cell? ⟨t, 0, none⟩ = some (.pointer (some ⟨l, 0, none⟩)) := kt60
                go_wp2_with fail
                refine ord_start (fun w' : World => w'.cell? ⟨t, 0, none⟩ = some (.pointer (some ⟨l, 0, none⟩))) (n := 17) (by kernel_rfl) rfl (kt60) (fun hHeld => ?_)
                have hL7 := HL6.out.next (show Below w6.heap.size w6 (w6.drewN q).drew from ⟨rfl, rfl, rfl, Nat.le_refl _, fun _ _ => rfl⟩)
                have hT7 : (w6.drewN q).drew.heap[t]? = some (takerO l (k : Int)) := HT6.out
                have hV7 : OwnB (w6.drewN q).drew 5 (.slice pu b5.length cu) b5 := OwnR.keep HV6.out fun _ _ => rfl
                have hF7 : ∀ j, F j → j ≠ t → (w6.drewN q).drew.heap[j]? = w1.heap[j]? := HF6.out
                generalize (w6.drewN q).drew = W1 at *
                obtain ⟨own, dv, ev, vs, hL, hS, hn, hl⟩ := hL7
                have h4 := hL.c4
                have k0 := hL.c0
                have hnt : ¬ own t := fun ho => (hn t ho).2 (.inl HFt.out)
                have htl : t ≠ l := fun e => hlt e.symm
                have Ht0 := Lib.hid (cell_of hT7 (i := 0) rfl : W1.cell? ⟨t, 0, none⟩ = some (.pointer (some ⟨l, 0, none⟩)))
                have HalR := Lib.hid (hL.row.keep (w' := W1.alloc (.cells #[.slice pu b5.length cu] 39)) fun j hj => (below_one0 W1 _).block j (OwnR.lt hL.row hj))
                have Hxx := Lib.hid (slit_one W1 (.slice pu b5.length cu) 39 (0, 0))
                have HP := Lib.hid (show ∀ v3 w3, OwnR w3 39 1 v3 (M.entries.length + 1) (vs ++ [.slice pu b5.length cu]) → (W1.alloc (.cells #[.slice pu b5.length cu] 39)).grownBy w3 ev.ownBlock → (v3.ownBlock = ev.ownBlock ∨ ∃ g, v3.ownBlock = some g ∧ (W1.alloc (.cells #[.slice pu b5.length cu] 39)).heap.size ≤ g) → TakeTold w w1 l d pre D M F t la b (.returned (.bool true)) (w3.setCell ⟨l, 4, none⟩ v3) ∧ w3.heap[t]? = W1.heap[t]? ∧ w3.heap[l]? = some (.cells #[.pointer (some ⟨d, 0, none⟩), .string pre, .int .i64 (M.base : Int), dv, ev, .bool M.dead] 157 (0, 0)) from fun v3 w3 hown3 hgrow3 hloc3 => by
                  obtain ⟨hP1, hP2, hP3, hP4⟩ := led_push hL hV7 (fun j hj ho => (hn j ho).2 (.inr hj)) Hbl.out Hm3.out (below_one0 W1 _) hown3 hgrow3 hloc3
                  have hpt : w3.heap[t]? = W1.heap[t]? := (hgrow3.block t (Nat.lt_of_lt_of_le (hl t (.inl HFt.out)) (below_one0 W1 _).size) fun e => hnt (hL.oe t e.symm).1).trans ((below_one0 W1 _).block t (hl t (.inl HFt.out)))
                  obtain ⟨hQ1, hQ2⟩ := LedF.taken hS hn hl (fun j hj => .inl hj) hP1 hP2 fun j hj => by
                    rcases hj with hj | hj | hj
                    · exact .inl hj
                    · exact .inr (.inr ⟨.inr hj, fun hf => by have h5 := Hn5.out j hj; have h6 := H.out.flt hf; omega, Nat.le_trans H.out.bel.size (Hn5.out j hj)⟩)
                    · rcases hP3 j hj with h | h
                      · exact .inl h
                      · exact .inr (.inl h)
                  exact ⟨take_some rfl (s := ((k : Int), M.entries ++ [b5])) hQ1 (fun j hj hjt => (hQ2 j hj).trans (hF7 j hj hjt)) ((set_other v3 htl).trans (hpt.trans hT7)) HNw.out, hpt, hP4.trans hL.cells⟩)
                clear hL hS hn hl hT7 hV7 hF7 k62 kt0 kt1 ft1
                generalize M.entries.length = m at *
                generalize b5.length = q5 at *
                refine Pl [0,1,2,3,4,5,6,7,8,9,11] ?_
                iterate 11 (refine Pc rfl ?_;simp only [Act.put, uA, uB, uC])
                refine Pn ?_
                refine ord_both 10 12 rfl rfl (by kernel_rfl) (by rfl) (by rfl) (fun K hK => ?_) (fun K hK => ?_)
                · go_wp2_with fail
                  refine hK.out _ _ (hHeld) (fun hHeld => ?_)
                  clear hK
                  try simp only [Act.put, List.setIfInBounds_toArray, List.set_cons_zero, List.set_cons_succ]
                  refine ord_one 12 rfl (by kernel_rfl) (by rfl) (fun K hK => ?_)
                  go_wp2_with fail
                  refine hK.out _ _ (al_cell hHeld _) (fun hHeld => ?_)
                  clear hK
                  try simp only [Act.put, List.setIfInBounds_toArray, List.set_cons_zero, List.set_cons_succ]
                  refine ord_one 13 rfl (by kernel_rfl) (by rfl) (fun K hK => ?_)
                  refine wp_app (.tmp 72) (.tmp 74) 155 rfl 39 i0 (.slice none 0 0) 1 24 Tryz.underlying155 hi hz0 hz1 hz2 rfl (by decide) _ m _ rfl HalR.out (.slice (some ⟨W1.heap.size, 0, none⟩) 1 1) 1 _ rfl Hxx.out (by simp [Value.oneCell']) (by unfold maxLen; omega) (by omega) ?_
                  intro v3 w3 hown3 hgrow3 hloc3
                  have HE := Lib.hid (HP.out v3 w3 hown3 hgrow3 hloc3)
                  have k4 := cell_of HE.out.2.2 (i := 4) rfl
                  have f4 := frozen_of HE.out.2.2 4
                  have kt3 : w3.cell? ⟨t, 0, none⟩ = some (.pointer (some ⟨l, 0, none⟩)) := (World.cell?_of_block (a := ⟨t, 0, none⟩) HE.out.2.1).trans Ht0.out
                  obtain ⟨p3, q3, rfl⟩ := OwnR.shape hown3
                  clear hown3 hgrow3 hloc3
                  refine hK.out _ _ kt3 (fun hHeld => ?_)
                  clear hK
                  try simp only [Act.put, List.setIfInBounds_toArray, List.set_cons_zero, List.set_cons_succ]
                  refine Pl [14,15] ?_
                  iterate 2 (refine Pc rfl ?_;simp only [Act.put, uA, uB, uC])
                  refine Pn ?_
                  refine ord_one 16 rfl (by kernel_rfl) (by rfl) (fun K hK => ?_)
                  go_wp2_with fail
                  refine hK.out _ _ ((World.cell?_of_block (a := ⟨t, 0, none⟩) (set_other _ htl)).trans kt3) (fun hHeld => ?_)
                  clear hK
                  try simp only [Act.put, List.setIfInBounds_toArray, List.set_cons_zero, List.set_cons_succ]
                  refine wpAnyH_done (by kernel_rfl) ?_ _
                  go_wp2_with fail
                  go_ret
                  exact HE.out.1
                · have h4a := al_cell h4 (.cells #[.slice pu q5 cu] 39)
                  go_wp2_with fail
                  refine hK.out _ _ (al_cell hHeld _) (fun hHeld => ?_)
                  clear hK
                  try simp only [Act.put, List.setIfInBounds_toArray, List.set_cons_zero, List.set_cons_succ]
                  refine ord_one 10 rfl (by kernel_rfl) (by rfl) (fun K hK => ?_)
                  go_wp2_with fail
                  refine hK.out _ _ (hHeld) (fun hHeld => ?_)
                  clear hK
                  try simp only [Act.put, List.setIfInBounds_toArray, List.set_cons_zero, List.set_cons_succ]
                  refine ord_one 13 rfl (by kernel_rfl) (by rfl) (fun K hK => ?_)
                  refine wp_app (.tmp 72) (.tmp 74) 155 rfl 39 i0 (.slice none 0 0) 1 24 Tryz.underlying155 hi hz0 hz1 hz2 rfl (by decide) _ m _ rfl HalR.out (.slice (some ⟨W1.heap.size, 0, none⟩) 1 1) 1 _ rfl Hxx.out (by simp [Value.oneCell']) (by unfold maxLen; omega) (by omega) ?_
                  intro v3 w3 hown3 hgrow3 hloc3
                  have HE := Lib.hid (HP.out v3 w3 hown3 hgrow3 hloc3)
                  have k4 := cell_of HE.out.2.2 (i := 4) rfl
                  have f4 := frozen_of HE.out.2.2 4
                  have kt3 : w3.cell? ⟨t, 0, none⟩ = some (.pointer (some ⟨l, 0, none⟩)) := (World.cell?_of_block (a := ⟨t, 0, none⟩) HE.out.2.1).trans Ht0.out
                  obtain ⟨p3, q3, rfl⟩ := OwnR.shape hown3
                  clear hown3 hgrow3 hloc3
                  refine hK.out _ _ kt3 (fun hHeld => ?_)
                  clear hK
                  try simp only [Act.put, List.setIfInBounds_toArray, List.set_cons_zero, List.set_cons_succ]
                  refine Pl [14,15] ?_
                  iterate 2 (refine Pc rfl ?_;simp only [Act.put, uA, uB, uC])
                  refine Pn ?_
                  refine ord_one 16 rfl (by kernel_rfl) (by rfl) (fun K hK => ?_)
                  go_wp2_with fail
                  refine hK.out _ _ ((World.cell?_of_block (a := ⟨t, 0, none⟩) (set_other _ htl)).trans kt3) (fun hHeld => ?_)
                  clear hK
                  try simp only [Act.put, List.setIfInBounds_toArray, List.set_cons_zero, List.set_cons_succ]
                  refine wpAnyH_done (by kernel_rfl) ?_ _
                  go_wp2_with fail
                  go_ret
                  exact HE.out.1
end
end Go.Proofs.YtogdfkilhpkloaaGreatDoor
