/- journal: record. (Printed by mkj19.py.) journal: record, kind 4. (Printed by mkj20.py.) journal: record, kind 2. (Printed by mkj21.py.) journal: record, kind 3. (Printed by mkj22.py.) journal: record. (Printed by mkj23.py.) -/
import Derived.Test.YtngflpaooppmhaaGreatWB
import Derived.Test.YtngflpaooppmhaaGreatWC
import Derived.Test.YtngflpaooppmhaaGreatWG
namespace Go.Proofs.YtngflpaooppmhaaGreat
open Go.RowKit Go.Sat Go.Maps

/-- What a record leaves. -/
def RecTold (w w1 : World) (j d : Nat) (pre : ByteArray) (D : DiskM) (F : Nat → Prop) (o : Option JouM) (e : Ending) (w' : World) : Prop :=
  St w w' d D F ∧ Same F w1 w' ∧ match o with
  | none => e = .returned (.bool false)
  | some M' => e = .returned (.bool true) ∧ JouF w w' j d pre D M' F

/-- The first byte. -/
theorem rd_first {w w2 : World} {r : Nat} {k : UInt8} {l : Bs} (h : RdX (fun k => w.heap.size ≤ k ∧ k < r) w2 r ⟨k :: l, false⟩) :
    Calls Tryz.prog 119 #[.pointer (some ⟨r, 0, none⟩), .int .i64 1] w2 fun e w' => ∃ g q, e = .returned (.slice (some ⟨g, 0, none⟩) 1 q) ∧ w'.cell? ⟨g, 0, none⟩ = some (.int .u8 (k.toNat : Int)) ∧ RdX (fun k => w.heap.size ≤ k ∧ k < r) w' r ⟨l, false⟩ ∧ Chg (fun j => j = r) w2 w' := by
  obtain ⟨p, n, c, h, hA⟩ := h
  refine (rawX_calls h hA 1 (by decide) (by decide)).mono ?_
  rintro e w' ⟨v, rfl, hv, hvn, hr, hc⟩
  have e1 : Rd.raw ⟨k :: l, false⟩ (1 : Int).toNat = ([k], ⟨l, false⟩) := by
    unfold Rd.raw
    simp
  rw [e1] at hv hr
  rcases hv.2 with ⟨-, h0⟩ | ⟨g, cap, cur, rfl, -⟩
  · simp at h0
  · have := OwnR.cells hv (g := g) rfl 0 (.int .u8 (k.toNat : Int)) rfl
    rw [add_zero] at this
    exact ⟨g, cap, rfl, this, hr, hc⟩

section
variable {w w1 w2 : World} {j d : Nat} {pre : ByteArray} {D : DiskM} {M : JouM} {F : Nat → Prop}

theorem rec_no (h : JouF w w1 j d pre D M F) (hb : Below w1.heap.size w1 w2) {o : Option JouM} (ho : o = none) : RecTold w w1 j d pre D F o (.returned (.bool false)) w2 := by
  subst ho
  exact ⟨(h.next hb).stF, h.same hb, rfl⟩

theorem rec_noj (h : JouF w w1 j d pre D M F) (hc : Chg (fun k => k = j) w1 w2) {o : Option JouM} (ho : o = none) : RecTold w w1 j d pre D F o (.returned (.bool false)) w2 := by
  subst ho
  obtain ⟨own, gv, dv, ev, vs, hJ, hS, hn, hl⟩ := h
  have hco : Chg own w1 w2 := hc.mono fun k _ e => by rw [e]; exact hJ.ol
  exact ⟨hS.move hco (fun k _ hk => ⟨.inl hk, (hn k hk).1⟩) fun k hk => ⟨.inl (.inr hk), Nat.lt_of_lt_of_le (hl k hk) hc.size⟩, fun k hk => hc.block k (hl k hk) fun e => (hn j hJ.ol).2 (e ▸ hk), rfl⟩

/-- The first record has been done. -/
theorem rec_fst_ok (h : JouF w w1 j d pre D M F) (hc : Chg (fun k => k = j) w1 w2) {n : Nat} {t : Int} {g : List Int} {gv : Value} (hcell : ∀ own gv0 dv ev vs, JouIn w1 j d pre own M gv0 dv ev vs → w2.heap[j]? = some (.cells #[.int .i64 (n : Int), .int .i64 t, gv, .pointer (some ⟨d, 0, none⟩), .string pre, .int .i64 M.now, .int .i64 M.vote, dv, ev, .bool M.dead] 107 (0, 0)))
    (hg : OwnI w2 gv g) (hgn : ∀ k, gv.ownBlock = some k → w1.heap.size ≤ k) (he : M.entries = []) (hn40 : n ≤ 1099511627776) (ht : isTm t = true) (hgr : isGrp g = true) {o : Option JouM} (ho : o = some { M with number := n, term := t, group := g }) : RecTold w w1 j d pre D F o (.returned (.bool true)) w2 := by
  subst ho
  obtain ⟨own, gv0, dv, ev, vs, hJ, hS, hn, hl⟩ := h
  have hco : Chg own w1 w2 := hc.mono fun k _ e => by rw [e]; exact hJ.ol
  have hjl := hJ.olt j hJ.ol
  have hk : ∀ k, own k → k ≠ j → w2.heap[k]? = w1.heap[k]? := fun k ho hne => hc.block k (hJ.olt k ho) hne
  have hJ' : JouIn w2 j d pre (fun k => own k ∨ gv.ownBlock = some k) { M with number := n, term := t, group := g } gv dv ev vs := by
    refine ⟨hcell _ _ _ _ _ hJ, hg, OwnR.keep hJ.data fun k h => hk k (hJ.od k h).1 (hJ.od k h).2.1, hJ.row.keep fun k h => hk k (hJ.oe k h).1 (hJ.oe k h).2, ⟨hJ.rows.1, fun i e v h1 h2 => (hJ.rows.2 i e v h1 h2).keep fun k h => hk k (hJ.ov v (List.mem_of_getElem? h2) k h).1 (hJ.ov v (List.mem_of_getElem? h2) k h).2.1⟩, .inl hJ.ol, fun k h => ⟨.inr h, fun e => by have := hgn k h; omega, fun e => by have h1 := hgn k h; have h2 := hJ.olt k (hJ.oe k e).1; omega⟩, fun k h => ⟨.inl (hJ.od k h).1, (hJ.od k h).2⟩, fun k h => ⟨.inl (hJ.oe k h).1, (hJ.oe k h).2⟩, fun u hu k h => ⟨.inl (hJ.ov u hu k h).1, (hJ.ov u hu k h).2⟩, fun k h => ?_, hJ.psz, ⟨?_, ht, hgr, hJ.ok.now, hJ.ok.vote, hJ.ok.data, hJ.ok.ents⟩⟩
    · rcases h with h | h
      · exact Nat.lt_of_lt_of_le (hJ.olt k h) hc.size
      · exact OwnR.lt hg h
    · show n + M.entries.length ≤ _
      rw [he]
      exact hn40
  obtain ⟨h1, h2⟩ := JouF.turned hS hn hl hJ' hco fun k h => h.imp id (hgn k)
  exact ⟨h1.stF, h2, rfl, h1⟩

theorem rec_yes {M' : JouM} (h : JouF w w2 j d pre D M' F) (hs : Same F w1 w2) {o : Option JouM} (ho : o = some M') : RecTold w w1 j d pre D F o (.returned (.bool true)) w2 := by
  subst ho
  exact ⟨h.stF, hs, rfl, h⟩

theorem rec1_early {f : Bool} {k : UInt8} {l : Bs} (h : f ≠ decide (k = 1)) : rec1 f M (k :: l) = none := by
  unfold rec1
  dsimp only
  rw [if_pos h]
theorem rec1_other {f : Bool} {k : UInt8} {l : Bs} (h1 : k ≠ 1) (h2 : k ≠ 2) (h3 : k ≠ 3) (h4 : k ≠ 4) : rec1 f M (k :: l) = none := by
  unfold rec1
  dsimp only
  by_cases h : f ≠ decide (k = 1)
  · rw [if_pos h]
  · rw [if_neg h, if_neg h1, if_neg h2, if_neg h3, if_neg h4]

theorem jou_places {own : Nat → Prop} {gv dv ev : Value} {vs : List EV} {W : World} {r : Nat} (hJ : JouIn w1 j d pre own M gv dv ev vs) (hb : Below w1.heap.size w1 W) (hr : j ≠ r) : Places W r [⟨j, 0, none⟩, ⟨j, 1, none⟩] := by
  have hb1 := hJ.below hb
  refine ⟨fun a ha => ?_, fun a ha => ?_, fun a ha => ?_, fun a ha => ?_⟩
  all_goals
    simp only [List.mem_cons, List.not_mem_nil, or_false] at ha
    rcases ha with rfl | rfl
  · exact ⟨_, hb1.c 0 rfl⟩
  · exact ⟨_, hb1.c 1 rfl⟩
  · exact hb1.fr 0
  · exact hb1.fr 1
  · exact hr
  · exact hr
  · rfl
  · rfl

theorem grp_whole {R : Rd} (h : (R.grp isGrp).2.whole = true) : isGrp (R.grp isGrp).1 = true := by
  unfold Rd.grp at h ⊢
  split at h
  · cases h
  · rename_i h7
    rw [if_neg h7]
    dsimp only at h ⊢
    split at h
    · assumption
    · cases h

set_option maxRecDepth 100000 in
set_option maxHeartbeats 4000000 in
theorem rec_k1 (h : JouF w w1 j d pre D M F) {p : Option Addr} {n c : Nat} {l : Bs} (hx : HasB w1 (.slice p n c) (1 :: l)) (hl : n ≤ 1073741824) (he : M.entries = []) :
    Calls Tryz.prog 102 #[.pointer (some ⟨j, 0, none⟩), .bool true, .slice p n c] w1 (RecTold w w1 j d pre D F (rec1 true M (1 :: l))) := by
  have Hrd0 := Lib.hid (newrdX_calls hx (by obtain ⟨_, _, e⟩ := hx.slice; simp only [Value.slice.injEq] at e; omega))
  have H := Lib.hid h
  have Hjlt := Lib.hid h.jlt
  have HM := Lib.hid (show rec1 true M (1 :: l) = (if (Rd.num ⟨l, false⟩).2.num.2.grp isGrp |>.2.whole then
        if (Rd.num ⟨l, false⟩).1 ≤ 1099511627776 ∧ (Rd.num ⟨l, false⟩).2.num.1 ≤ 1099511627776 then
          some { M with number := (Rd.num ⟨l, false⟩).1, term := ((Rd.num ⟨l, false⟩).2.num.1 : Int), group := ((Rd.num ⟨l, false⟩).2.num.2.grp isGrp).1 } else none
      else none) from rfl)
  have Hgok := Lib.hid (grp_whole (R := (Rd.num ⟨l, false⟩).2.num.2))
  have hm1 := Rd.num_le ⟨l, false⟩
  have hm2 := Rd.num_le (Rd.num ⟨l, false⟩).2
  have HI := Lib.hid (show Rd.ints 2 ⟨l, false⟩ = ([((Rd.num ⟨l, false⟩).1 : Int), ((Rd.num ⟨l, false⟩).2.num.1 : Int)], (Rd.num ⟨l, false⟩).2.num.2) from rfl)
  have He := Lib.hid he
  generalize rec1 true M (1 :: l) = O at *
  generalize (Rd.num ⟨l, false⟩).1 = m1 at *
  generalize (Rd.num ⟨l, false⟩).2.num.1 = m2 at *
  generalize (Rd.num ⟨l, false⟩).2.num.2 = R3 at *
  clear h hx he
  go_enter Tryz.func102, Tryz.ntmps102
  go_wp2_with fail
  refine Hrd0.out.mono ?_
  rintro e w2 ⟨r, rfl, hr, hrn, hrl, hb2⟩
  have HR2 := Lib.hid (rd_first hr)
  have HB2 := Lib.hid hb2
  have HRn := Lib.hid (And.intro hrn hrl)
  clear hr hrn hrl hb2 Hrd0
  go_wp2_with fail
  refine HR2.out.mono ?_
  rintro e w3 ⟨g, q, rfl, hg, hr3, hc3⟩
  have HB3 := Lib.hid (show Below w1.heap.size w1 w3 from HB2.out.trans (hc3.below HB2.out.size fun i hi e => by have := HRn.out.1; omega))
  have HR3 := Lib.hid hr3
  have HRl := Lib.hid hr3.lt
  have hkc : w3.cell? ⟨g, 0, none⟩ = some (.int .u8 1) := hg
  clear hr3 hc3 HR2 hg
  go_wp2_with fail
  refine ord_start (fun _ : World => True) (n := 11) (by kernel_rfl) rfl (trivial) (fun hHeld => ?_)
  refine Pl [0,1,2,3,4,5,6,7,8] ?_
  iterate 9 (refine Pc rfl ?_;simp only [Act.put, uA, uB, uC])
  refine Pn ?_
  refine ord_one 9 rfl (by kernel_rfl) (by rfl) (fun K hK => ?_)
  go_wp2_with fail
  refine hK.out _ _ (trivial) (fun hHeld => ?_)
  clear hK
  try simp only [Act.put, List.setIfInBounds_toArray, List.set_cons_zero, List.set_cons_succ]
  refine ord_one 10 rfl (by kernel_rfl) (by rfl) (fun K hK => ?_)
  have HP := Lib.hid (show Places (w3.drew.alloc (.cells #[.pointer (some ⟨j, 0, none⟩), .pointer (some ⟨j, 1, none⟩)] 131)) r [⟨j, 0, none⟩, ⟨j, 1, none⟩] from by
    obtain ⟨own, gv, dv, ev, vs, hJ, -⟩ := H.out
    exact jou_places hJ (HB3.out.trans ((below_drew w3).trans (below_one w3.drew _) |>.mono HB3.out.size)) (by have := HRn.out.1; have := Hjlt.out; omega))
  have HN := Lib.hid (rnums_calls (R := ⟨l, false⟩) ((HR3.out.chg (Chg.drew w3) (fun e => e) fun _ _ e => e).chg (Chg.alloc w3.drew (.cells #[.pointer (some ⟨j, 0, none⟩), .pointer (some ⟨j, 1, none⟩)] 131)) (fun e => e) fun _ _ e => e) (g := w3.drew.heap.size) (c := 2) HP.out (by simp) (fun i a hi => by
    refine cell_of (new_block w3.drew _) ?_
    match i, hi with
    | 0, hi => cases hi; rfl
    | 1, hi => cases hi; rfl) (fun e => by have := HRl.out; have e2 : w3.heap.size = r := e; omega) (fun a ha e => by
      have h1 := Hjlt.out
      have h2 := HB3.out.size
      have e2 : a.block = w3.heap.size := e
      simp at ha
      rcases ha with rfl | rfl
      · have e3 : j = w3.heap.size := e2
        omega
      · have e3 : j = w3.heap.size := e2
        omega) (fun k hk => ⟨by omega, fun a ha e => by
      have h1 := Hjlt.out
      simp at ha
      rcases ha with rfl | rfl
      · have e3 : k = j := e
        omega
      · have e3 : k = j := e
        omega⟩))
  go_wp2_with fail
  refine HN.out.mono ?_
  rintro e w4 ⟨rfl, hn4⟩
  have HN4 := Lib.hid hn4
  clear hn4 HN
  go_wp2_with fail
  refine hK.out _ _ (trivial) (fun hHeld => ?_)
  clear hK
  try simp only [Act.put, List.setIfInBounds_toArray, List.set_cons_zero, List.set_cons_succ]
  refine wpAnyH_done (by kernel_rfl) ?_ _
  have Hgr := Lib.hid (readGrp_grp (A := fun k => w1.heap.size ≤ k ∧ k < r) (w := w4) (by have := HN4.out.1; rw [show [(⟨j, 0, none⟩ : Addr), ⟨j, 1, none⟩].length = 2 from rfl, HI.out] at this; exact this) (fun k hk => ⟨by have := HN4.out.1.lt; omega, by omega⟩))
  have HC4 := Lib.hid (show Chg (fun k => k = j) w1 w4 from by
    refine ((Chg.of_below (HB3.out.trans (((below_drew w3).trans (below_one w3.drew (.cells #[.pointer (some ⟨j, 0, none⟩), .pointer (some ⟨j, 1, none⟩)] 131))).mono HB3.out.size))).mono (T := fun k => k = j) fun _ _ e => e.elim).trans HN4.out.2.1 fun k hk e => ?_
    rcases e with e | ⟨a, ha, e⟩
    · have := HRn.out.1
      omega
    · simp at ha
      rcases ha with rfl | rfl <;> exact e)
  have Hj4 := Lib.hid (fun own gv0 dv ev vs (hJ : JouIn w1 j d pre own M gv0 dv ev vs) => show w4.heap[j]? = some (.cells #[.int .i64 (m1 : Int), .int .i64 (m2 : Int), gv0, .pointer (some ⟨d, 0, none⟩), .string pre, .int .i64 M.now, .int .i64 M.vote, dv, ev, .bool M.dead] 107 (0, 0)) from by
    have hjl := Hjlt.out
    have hs3 := HB3.out.size
    rw [HN4.out.2.2 j (by simp; show j < w3.heap.size + 1; omega) (by have := HRn.out.1; omega)]
    rw [show [(⟨j, 0, none⟩ : Addr), ⟨j, 1, none⟩].length = 2 from rfl, HI.out]
    have hjc := (((below_drew w3).trans (below_one w3.drew (.cells #[.pointer (some ⟨j, 0, none⟩), .pointer (some ⟨j, 1, none⟩)] 131))).block j (by omega)).trans ((HB3.out.block j hjl).trans hJ.cells)
    have h1 := set_block hjc 0 (.int .i64 (m1 : Int))
    have h2 := set_block h1 1 (.int .i64 (m2 : Int))
    have e0 : ∀ (W : World) (z : Int), putN W [(⟨j, 0, none⟩ : Addr), ⟨j, 1, none⟩] [(m1 : Int), (m2 : Int)] = (W.setCell ⟨j, 0, none⟩ (.int .i64 (m1 : Int))).setCell ⟨j, 1, none⟩ (.int .i64 (m2 : Int)) := fun _ _ => rfl
    rw [e0 _ 0]
    simpa using h2)
  clear HN4
  go_wp2_with fail
  refine Hgr.out.mono ?_
  rintro e w5 ⟨v5, rfl, hv5, hn5, hr5, hc5⟩
  have HC5 := Lib.hid (show Chg (fun k => k = j) w1 w5 from HC4.out.trans (hc5.mono (T := fun k => k = r) fun _ _ e => e) fun k hk e => by have := HRn.out.1; omega)
  have Hrj := Lib.hid (show r ≠ j from fun e => by have h1 := HRn.out.1; have h2 := Hjlt.out; omega)
  have Hj5 := Lib.hid (fun own gv0 dv ev vs (hJ : JouIn w1 j d pre own M gv0 dv ev vs) => (hc5.block j (lt_of_block (Hj4.out own gv0 dv ev vs hJ)) fun e => Hrj.out e.symm).trans (Hj4.out own gv0 dv ev vs hJ))
  have HV5 := Lib.hid (And.intro hv5 (show ∀ k, v5.ownBlock = some k → w1.heap.size ≤ k from fun k hk => Nat.le_trans HC4.out.size (hn5 k hk)))
  have HR5 := Lib.hid hr5
  obtain ⟨own, gv0, dv, ev, vs, hJ, -⟩ := H.out
  have hj5 := Hj5.out own gv0 dv ev vs hJ
  have c2 := cell_of hj5 (i := 2) rfl
  have f2 := frozen_of hj5 2
  have h6 := set_block hj5 2 v5
  have d0 : (w5.setCell ⟨j, 2, none⟩ v5).cell? ⟨j, 0, none⟩ = some (.int .i64 (m1 : Int)) := cell_of h6 (by simp)
  have d1 : (w5.setCell ⟨j, 2, none⟩ v5).cell? ⟨j, 1, none⟩ = some (.int .i64 (m2 : Int)) := cell_of h6 (by simp)
  have Hd := Lib.hid (And.intro d0 d1)
  have HW := Lib.hid (whole_calls ((hr5.at.hd).same (w' := w5.setCell ⟨j, 2, none⟩ v5) (set_other _ Hrj.out)))
  have HC6 := Lib.hid (show Chg (fun k => k = j) w1 (w5.setCell ⟨j, 2, none⟩ v5) from HC5.out.trans (Chg.setCell w5 ⟨j, 2, none⟩ v5) fun _ _ e => e)
  have HG6 := Lib.hid (show OwnI (w5.setCell ⟨j, 2, none⟩ v5) v5 (R3.grp isGrp).1 from OwnR.keep HV5.out.1 fun k hk => set_other _ fun e => by have h1 := HV5.out.2 k hk; have h2 := Hjlt.out; have e2 : k = j := e; omega)
  have Hj6 := Lib.hid (fun own gv0 dv ev vs (hJ : JouIn w1 j d pre own M gv0 dv ev vs) => show (w5.setCell ⟨j, 2, none⟩ v5).heap[j]? = some (.cells #[.int .i64 (m1 : Int), .int .i64 (m2 : Int), v5, .pointer (some ⟨d, 0, none⟩), .string pre, .int .i64 M.now, .int .i64 M.vote, dv, ev, .bool M.dead] 107 (0, 0)) from by
    have := set_block (Hj5.out own gv0 dv ev vs hJ) 2 v5
    simpa using this)
  obtain ⟨p5, c5, e5, -⟩ := own_capI hv5
  subst e5
  clear hv5 hn5 hr5 hc5 Hgr hJ hj5 h6 d0 d1
  generalize (R3.grp isGrp).2 = R5 at *
  generalize (R3.grp isGrp).1 = gg at *
  cases hw : R5.whole with
  | false =>
    rw [hw] at HW
    have HE := Lib.hid (rec_noj (o := O) H.out HC6.out (by rw [HM.out, hw]; rfl))
    clear hw
    go_wp2_with fail
    clear c2 f2
    generalize w5.setCell ⟨j, 2, none⟩ (.slice p5 gg.length c5) = w6 at *
    refine HW.out.mono ?_
    rintro e w7 ⟨rfl, rfl⟩
    go_wp2_with fail
    go_ret
    exact HE.out
  | true =>
    rw [hw] at HW
    go_wp2_with fail
    clear c2 f2
    generalize w5.setCell ⟨j, 2, none⟩ (.slice p5 gg.length c5) = w6 at *
    refine HW.out.mono ?_
    rintro e w7 ⟨rfl, rfl⟩
    obtain ⟨d0, d1⟩ := Hd.out
    have Ht1 := Lib.hid (istm_calls w7 (m1 : Int))
    have Ht2 := Lib.hid (istm_calls w7 (m2 : Int))
    by_cases h1 : m1 ≤ 1099511627776
    · rw [show isTm (m1 : Int) = true from isTm_iff.2 ⟨by omega, by omega⟩] at Ht1
      by_cases h2 : m2 ≤ 1099511627776
      · rw [show isTm (m2 : Int) = true from isTm_iff.2 ⟨by omega, by omega⟩] at Ht2
        have HE := Lib.hid (rec_fst_ok (o := O) H.out HC6.out Hj6.out HG6.out HV5.out.2 He.out h1 (isTm_iff.2 ⟨by omega, by omega⟩) (Hgok.out hw) (by rw [HM.out, if_pos hw, if_pos ⟨h1, h2⟩]))
        clear hw h1 h2
        go_wp2_with fail
        refine Ht1.out.mono ?_
        rintro e w8 ⟨rfl, rfl⟩
        go_wp2_with fail
        refine Ht2.out.mono ?_
        rintro e w8 ⟨rfl, rfl⟩
        go_wp2_with fail
        go_ret
        exact HE.out
      · rw [show isTm (m2 : Int) = false from by rw [Bool.eq_false_iff]; intro e; have := isTm_iff.1 e; omega] at Ht2
        have HE := Lib.hid (rec_noj (o := O) H.out HC6.out (by rw [HM.out, if_pos hw, if_neg (fun e => h2 e.2)]))
        clear hw h1 h2
        go_wp2_with fail
        refine Ht1.out.mono ?_
        rintro e w8 ⟨rfl, rfl⟩
        go_wp2_with fail
        refine Ht2.out.mono ?_
        rintro e w8 ⟨rfl, rfl⟩
        go_wp2_with fail
        go_ret
        exact HE.out
    · rw [show isTm (m1 : Int) = false from by rw [Bool.eq_false_iff]; intro e; have := isTm_iff.1 e; omega] at Ht1
      have HE := Lib.hid (rec_noj (o := O) H.out HC6.out (by rw [HM.out, if_pos hw, if_neg (fun e => h1 e.1)]))
      clear hw h1
      go_wp2_with fail
      refine Ht1.out.mono ?_
      rintro e w8 ⟨rfl, rfl⟩
      go_wp2_with fail
      go_ret
      exact HE.out
end
end Go.Proofs.YtngflpaooppmhaaGreat

namespace Go.Proofs.YtngflpaooppmhaaGreat
open Go.RowKit Go.Sat Go.Maps

section
variable {w w1 w2 : World} {j d : Nat} {pre : ByteArray} {D : DiskM} {M : JouM} {F : Nat → Prop}

theorem rec_cut_ok {k : Nat} {own : Nat → Prop} {gv dv : Value} {p : Option Addr} {n c : Nat} {vs : List EV} (hJ : JouIn w2 j d pre own M gv dv (.slice p n c) vs) (hS : St w w2 d D (fun k => own k ∨ F k)) (hn : ∀ k, own k → w.heap.size ≤ k ∧ ¬ F k) (hl : ∀ k, F k → k < w2.heap.size)
    (hs : Same F w1 w2) (hne : M.entries.length = n) (hk : k ≤ n) {o : Option JouM} (ho : o = some { M with entries := M.entries.take k }) (q : Nat) : RecTold w w1 j d pre D F o (.returned (.bool true)) ((w2.setCell ⟨j, 8, none⟩ (.slice p k c)).drewN q) := by
  obtain ⟨h1, h2⟩ := JouF.turned (D := D) (F := F) hS hn hl (jouIn_cut hJ hne hk (.inr rfl)) ((Chg.setCell w2 ⟨j, 8, none⟩ _).mono fun x _ e => by rw [e]; exact hJ.ol) fun _ h => .inl h
  exact rec_yes (h1.drewN q) (hs.trans h2) ho

set_option maxRecDepth 100000 in
set_option maxHeartbeats 4000000 in
theorem rec_k4 (h : JouF w w1 j d pre D M F) {p : Option Addr} {n c : Nat} {l : Bs} (hx : HasB w1 (.slice p n c) (4 :: l)) (hl : n ≤ 1073741824) :
    Calls Tryz.prog 102 #[.pointer (some ⟨j, 0, none⟩), .bool false, .slice p n c] w1 (RecTold w w1 j d pre D F (rec1 false M (4 :: l))) := by
  obtain ⟨i0, hii, -, -, -⟩ := info_parts (show (Tryz.prog.info? 47).map (fun i => (i.zero, i.size, i.bytes)) = some (some (.agg #[.int .i64 0, .int .i64 0, .slice none 0 0, .slice none 0 0]), 4, 64) by kernel_rfl)
  have Hrd0 := Lib.hid (newrdX_calls hx (by obtain ⟨_, _, e⟩ := hx.slice; simp only [Value.slice.injEq] at e; omega))
  have H := Lib.hid h
  have HM := Lib.hid (show rec1 false M (4 :: l) = (if (Rd.num ⟨l, false⟩).2.whole ∧ M.number < (Rd.num ⟨l, false⟩).1 ∧ (Rd.num ⟨l, false⟩).1 ≤ M.last + 1 then some { M with entries := M.entries.take ((Rd.num ⟨l, false⟩).1 - M.number - 1) } else none) from rfl)
  have hm1 := Rd.num_le ⟨l, false⟩
  generalize rec1 false M (4 :: l) = O at *
  clear h hx
  go_enter Tryz.func102, Tryz.ntmps102
  go_wp2_with fail
  refine Hrd0.out.mono ?_
  rintro e w2 ⟨r, rfl, hr, hrn, hrl, hb2⟩
  have HR2 := Lib.hid (rd_first hr)
  have HB2 := Lib.hid hb2
  have HRn := Lib.hid (And.intro hrn hrl)
  clear hr hrn hrl hb2 Hrd0
  go_wp2_with fail
  refine HR2.out.mono ?_
  rintro e w3 ⟨g, q, rfl, hg, hr3, hc3⟩
  have HB3 := Lib.hid (show Below w1.heap.size w1 w3 from HB2.out.trans (hc3.below HB2.out.size fun i hi e => by have := HRn.out.1; omega))
  have HR3 := Lib.hid hr3
  have HRl := Lib.hid hr3.lt
  have hkc : w3.cell? ⟨g, 0, none⟩ = some (.int .u8 4) := hg
  clear hr3 hc3 HR2 hg
  go_wp2_with fail
  have HN := Lib.hid (show Calls Tryz.prog 81 #[.pointer (some ⟨r, 0, none⟩)] w3 (NumX _ w3 r ⟨l, false⟩) from by obtain ⟨_, _, _, h, ha⟩ := HR3.out; exact numX_calls h ha)
  refine HN.out.mono ?_
  rintro e w4 ⟨rfl, hr4, hc4⟩
  have HB4 := Lib.hid (show Below w1.heap.size w1 w4 from HB3.out.trans (hc4.below HB3.out.size fun i hi e => by have := HRn.out.1; omega))
  have Hla := Lib.hid (jlast_calls (H.out.next HB4.out))
  have HW := Lib.hid (fun q => whole_calls ((hr4.at.hd).same (w' := w4.drewN q) rfl))
  have Hno := Lib.hid (fun q (ho : O = none) => rec_no (o := O) H.out (w2 := w4.drewN q) (HB4.out.trans ⟨rfl, rfl, rfl, Nat.le_refl _, fun _ _ => rfl⟩) ho)
  have Hyes := Lib.hid (fun q => And.intro ((H.out.next HB4.out).drewN q) (show Same F w1 (w4.drewN q) from H.out.same (HB4.out.trans ⟨rfl, rfl, rfl, Nat.le_refl _, fun _ _ => rfl⟩)))
  have hlast := H.out.okM.last
  have HL := Lib.hid (show M.last = M.number + M.entries.length from rfl)
  generalize (Rd.num ⟨l, false⟩).2 = R1 at *
  generalize (Rd.num ⟨l, false⟩).1 = m at *
  clear hr4 hc4 HN
  go_wp2_with fail
  refine Hla.out.mono ?_
  rintro e w5 ⟨rfl, q, rfl⟩
  have Hw := Lib.hid (HW.out q)
  have HN5 := Lib.hid (Hno.out q)
  have HY5 := Lib.hid (Hyes.out q)
  clear Hla HW Hno Hyes
  generalize w4.drewN q = w5 at *
  cases hw : R1.whole with
  | false =>
    rw [hw] at Hw
    have HE := Lib.hid (HN5.out (by rw [HM.out, hw, if_neg (by simp)]))
    clear hw
    go_wp2_with fail
    refine Hw.out.mono ?_
    rintro e w7 ⟨rfl, rfl⟩
    go_wp2_with fail
    go_ret
    exact HE.out
  | true =>
    rw [hw] at Hw
    obtain ⟨hj, hs⟩ := HY5.out
    obtain ⟨own, gv, dv, ev, vs, hJ, hS, hn, hl9⟩ := hj
    have c0 := hJ.c 0 rfl
    by_cases h1 : M.number < m
    · have d1 : decide (m ≤ M.number) = false := by simpa using h1
      have d1i : decide ((m : Int) ≤ (M.number : Int)) = false := by simpa using h1
      have hwa : IntKind.i64.wrap ((M.last : Int) + 1) = (M.last : Int) + 1 := IntWalk.i64_in _ (by omega)
      by_cases h2 : m ≤ M.last + 1
      · have d2 : decide ((M.last : Int) + 1 < (m : Int)) = false := by simp; omega
        have d2n : decide (M.last + 1 < m) = false := by simp; omega
        obtain ⟨pe, ce, rfl⟩ := hJ.row.shape
        have hce : M.entries.length ≤ ce := by
          rcases hJ.row.2 with ⟨e1, e2⟩ | ⟨g, cap, cur, e1, -, e3, -⟩
          · rw [e2]; exact Nat.zero_le _
          · simp only [Value.slice.injEq] at e1; omega
        have HL2 := HL.out
        have hx1 : IntKind.i64.wrap ((m : Int) - (M.number : Int)) = ((m - M.number - 1 : Nat) : Int) + 1 := by rw [IntWalk.i64_in _ (by omega)]; omega
        have hx2 : IntKind.i64.wrap (((m - M.number - 1 : Nat) : Int)) = ((m - M.number - 1 : Nat) : Int) := IntWalk.i64_in _ (by omega)
        have HE := Lib.hid (rec_cut_ok (o := O) (k := m - M.number - 1) hJ hS hn hl9 hs rfl (by omega) (by rw [HM.out, hw, if_pos ⟨rfl, h1, h2⟩]) 1)
        have hsl : ∀ W, (Instr.slice 38 (.slice pe M.entries.length ce) none (some (.int .i64 ((m - M.number - 1 : Nat) : Int))) none).run Tryz.prog W = .ok (.slice pe (m - M.number - 1) ce) W := fun W => run_upto W Tryz.underlying38 hii pe _ ce _ (by omega)
        have d8 := hJ.c 8 rfl
        have f8 := hJ.fr 8
        generalize m - M.number - 1 = k at *
        clear hw hJ hS hn hl9 hs h1 h2 hlast HL2 hce HM
        generalize M.last = la at *
        generalize M.number = b at *
        generalize M.entries.length = ne at *
        go_wp2_with fail
        refine Hw.out.mono ?_
        rintro e w7 ⟨rfl, rfl⟩
        go_wp2_with fail
        refine g_start [16] (fun w' : World => w'.cell? ⟨j, 8, none⟩ = some (.slice pe ne ce) ∧ w'.cell? ⟨j, 0, none⟩ = some (.int .i64 (b : Int))) (n := 17) (by kernel_rfl) rfl (⟨d8, c0⟩) (fun hHeld => ?_)
        refine Gl [0,1,2,3] ?_
        iterate 4 (refine Gp rfl ?_;simp only [Act.put, uA, uB, uC])
        refine Gn ?_
        refine g_take 4 (v := ?v14x4) rfl (by kernel_rfl) (by kernel_rfl) (by kernel_rfl) (by kernel_rfl) (fun _ _ _ h => h) (by rfl) (by assumption) ?y14x4 ?_
        case y14x4 => (intro w hSw; (try dsimp only at hSw); go_simp; try with_reducible rfl)
        simp only [Act.put, List.setIfInBounds_toArray, List.set_cons_zero, List.set_cons_succ]
        refine Gl [5,6,7,8,9] ?_
        iterate 5 (refine Gp rfl ?_;simp only [Act.put, uA, uB, uC])
        refine Gn ?_
        refine g_take 10 (v := ?v14x10) rfl (by kernel_rfl) (by kernel_rfl) (by kernel_rfl) (by kernel_rfl) (fun _ _ _ h => h) (by rfl) (by assumption) ?y14x10 ?_
        case y14x10 => (intro w hSw; (try dsimp only at hSw); go_simp; try with_reducible rfl)
        simp only [Act.put, List.setIfInBounds_toArray, List.set_cons_zero, List.set_cons_succ]
        refine Gl [11,12,13,14,15] ?_
        iterate 5 (refine Gp rfl ?_;simp only [Act.put, uA, uB, uC])
        refine Gn ?_
        refine g_end 16 rfl (by kernel_rfl) (by rfl) (by kernel_rfl) (fun K hK => ?_)
        have f8d : w7.drew.frozen? ⟨j, 8, none⟩ = false := f8
        have d8d : w7.drew.cell? ⟨j, 8, none⟩ = some (.slice pe ne ce) := d8
        go_wp2_with fail
        refine hK.out _ _ ?_
        clear hK
        try simp only [Act.put, List.setIfInBounds_toArray, List.set_cons_zero, List.set_cons_succ]
        refine g_done (by kernel_rfl) ?_ _
        go_wp2_with fail
        go_ret
        exact HE.out
      · have d2 : decide ((M.last : Int) + 1 < (m : Int)) = true := by simp; omega
        have d2n : decide (M.last + 1 < m) = true := by simp; omega
        have HE := Lib.hid (HN5.out (by rw [HM.out, if_neg (fun e => h2 e.2.2)]))
        clear hw hJ hS hn hl9 hs h1 h2
        go_wp2_with fail
        refine Hw.out.mono ?_
        rintro e w7 ⟨rfl, rfl⟩
        go_wp2_with fail
        go_ret
        exact HE.out
    · have d1 : decide (m ≤ M.number) = true := by simp; omega
      have d1i : decide ((m : Int) ≤ (M.number : Int)) = true := by simp; omega
      have HE := Lib.hid (HN5.out (by rw [HM.out, if_neg (fun e => h1 e.2.1)]))
      clear hw hJ hS hn hl9 hs h1
      go_wp2_with fail
      refine Hw.out.mono ?_
      rintro e w7 ⟨rfl, rfl⟩
      go_wp2_with fail
      go_ret
      exact HE.out

set_option maxRecDepth 100000 in
set_option maxHeartbeats 4000000 in
theorem rec_nil (h : JouF w w1 j d pre D M F) {p : Option Addr} {c : Nat} (f : Bool) (hx : HasB w1 (.slice p 0 c) []) :
    Calls Tryz.prog 102 #[.pointer (some ⟨j, 0, none⟩), .bool f, .slice p 0 c] w1 (RecTold w w1 j d pre D F (rec1 f M [])) := by
  have Hrd0 := Lib.hid (newrdX_calls hx (by simp))
  have H := Lib.hid h
  clear h hx
  go_enter Tryz.func102, Tryz.ntmps102
  go_wp2_with fail
  refine Hrd0.out.mono ?_
  rintro e w2 ⟨r, rfl, hr, hrn, hrl, hb2⟩
  obtain ⟨p0, n0, c0, hr, hA⟩ := hr
  have HR := Lib.hid (rawX_calls hr hA 1 (by decide) (by decide))
  have HB2 := Lib.hid hb2
  clear hr hA hb2 Hrd0
  go_wp2_with fail
  refine HR.out.mono ?_
  rintro e w3 ⟨v, rfl, hv, -, -, hc⟩
  have hB3 : Below w1.heap.size w1 w3 := HB2.out.trans (hc.below HB2.out.size fun i hi e => by omega)
  have e1 : Rd.raw ⟨[], false⟩ (1 : Int).toNat = ([], Rd.fail) := by
    unfold Rd.raw
    simp
  rw [e1] at hv
  obtain ⟨p3, c3, rfl, -⟩ := own_cap0 hv
  have HE := Lib.hid (rec_no (o := rec1 f M []) H.out hB3 rfl)
  clear hv hc hB3 HR
  cases f with
  | false =>
    go_wp2_with fail
    go_ret
    exact HE.out
  | true =>
    go_wp2_with fail
    go_ret
    exact HE.out

set_option maxRecDepth 100000 in
set_option maxHeartbeats 4000000 in
theorem rec_else (h : JouF w w1 j d pre D M F) {p : Option Addr} {n c : Nat} {f : Bool} {k : UInt8} {l : Bs} (hx : HasB w1 (.slice p n c) (k :: l)) (hl : n ≤ 1073741824) (hk : f ≠ decide (k = 1) ∨ (k ≠ 1 ∧ k ≠ 2 ∧ k ≠ 3 ∧ k ≠ 4)) :
    Calls Tryz.prog 102 #[.pointer (some ⟨j, 0, none⟩), .bool f, .slice p n c] w1 (RecTold w w1 j d pre D F (rec1 f M (k :: l))) := by
  have Hrd0 := Lib.hid (newrdX_calls hx (by obtain ⟨_, _, e⟩ := hx.slice; simp only [Value.slice.injEq] at e; omega))
  have H := Lib.hid h
  have hM : rec1 f M (k :: l) = none := by
    rcases hk with hk | ⟨h1, h2, h3, h4⟩
    · exact rec1_early hk
    · exact rec1_other h1 h2 h3 h4
  have HM := Lib.hid hM
  have hkb : k.toNat < 256 := k.toNat_lt
  have heq : ∀ z : UInt8, k = z ↔ k.toNat = z.toNat := fun z => ⟨fun e => by rw [e], fun e => UInt8.toNat.inj e⟩
  have hk1 := heq 1
  have hk2 := heq 2
  have hk3 := heq 3
  have hk4 := heq 4
  have e1 : (1 : UInt8).toNat = 1 := rfl
  have e2 : (2 : UInt8).toNat = 2 := rfl
  have e3 : (3 : UInt8).toNat = 3 := rfl
  have e4 : (4 : UInt8).toNat = 4 := rfl
  rw [e1] at hk1
  rw [e2] at hk2
  rw [e3] at hk3
  rw [e4] at hk4
  clear heq e1 e2 e3 e4 hM h hx
  have hkw : IntKind.i64.wrap (k.toNat : Int) = (k.toNat : Int) := IntWalk.i64_in _ (by omega)
  go_enter Tryz.func102, Tryz.ntmps102
  go_wp2_with fail
  refine Hrd0.out.mono ?_
  rintro e w2 ⟨r, rfl, hr, hrn, hrl, hb2⟩
  have HR2 := Lib.hid (rd_first hr)
  have HB2 := Lib.hid hb2
  have HRn := Lib.hid (And.intro hrn hrl)
  clear hr hrn hrl hb2 Hrd0
  go_wp2_with fail
  refine HR2.out.mono ?_
  rintro e w3 ⟨g, q, rfl, hg, hr3, hc3⟩
  have HB3 := Lib.hid (show Below w1.heap.size w1 w3 from HB2.out.trans (hc3.below HB2.out.size fun i hi e => by have := HRn.out.1; omega))
  have HR3 := Lib.hid hr3
  have HRl := Lib.hid hr3.lt
  have hkc : w3.cell? ⟨g, 0, none⟩ = some (.int .u8 (k.toNat : Int)) := hg
  clear hr3 hc3 HR2 hg
  have HE := Lib.hid (rec_no (o := rec1 f M (k :: l)) H.out HB3.out HM.out)
  have HK := Lib.hid hk
  have HQ := Lib.hid (And.intro hk1 (And.intro hk2 (And.intro hk3 hk4)))
  clear hk hk1 hk2 hk3 hk4
  by_cases h1 : k.toNat = 1
  · have hk : k = 1 := HQ.out.1.2 h1
    have hf : f = false := by
      rcases HK.out with h | h
      · rw [decide_eq_true hk] at h
        simpa using h
      · exact absurd hk h.1
    subst hf
    rw [h1] at hkc hkw
    clear HK HQ h1 hk hkb
    go_wp2_with fail
    go_ret
    exact HE.out
  · have hk : ¬ k = 1 := fun e => h1 (HQ.out.1.1 e)
    have hf1 : decide (k.toNat = 1) = false := decide_eq_false h1
    have hf1i : ((k.toNat : Int) == 1) = false := beq_eq_false_iff_ne.2 (by omega)
    cases f with
    | true =>
      clear HK HQ hk
      go_wp2_with fail
      go_ret
      exact HE.out
    | false =>
      have h9 : k ≠ 1 ∧ k ≠ 2 ∧ k ≠ 3 ∧ k ≠ 4 := by
        rcases HK.out with h | h
        · exact absurd (decide_eq_false hk).symm h
        · exact h
      have h2 : ¬ k.toNat = 2 := fun e => h9.2.1 (HQ.out.2.1.2 e)
      have h3 : ¬ k.toNat = 3 := fun e => h9.2.2.1 (HQ.out.2.2.1.2 e)
      have h4 : ¬ k.toNat = 4 := fun e => h9.2.2.2 (HQ.out.2.2.2.2 e)
      have q2 : decide (k.toNat = 2) = false := decide_eq_false h2
      have q2i : ((k.toNat : Int) == 2) = false := beq_eq_false_iff_ne.2 (by omega)
      have q3 : decide (k.toNat = 3) = false := decide_eq_false h3
      have q3i : ((k.toNat : Int) == 3) = false := beq_eq_false_iff_ne.2 (by omega)
      have q4 : decide (k.toNat = 4) = false := decide_eq_false h4
      have q4i : ((k.toNat : Int) == 4) = false := beq_eq_false_iff_ne.2 (by omega)
      clear HK HQ hk h9
      go_wp2_with fail
      go_ret
      exact HE.out
end
end Go.Proofs.YtngflpaooppmhaaGreat

namespace Go.Proofs.YtngflpaooppmhaaGreat
open Go.RowKit Go.Sat Go.Maps

section
variable {w w1 w2 : World} {j d : Nat} {pre : ByteArray} {D : DiskM} {M : JouM} {F : Nat → Prop}

theorem rec_trm_ok (h : JouF w w2 j d pre D M F) (hs : Same F w1 w2) {t v : Int} (hm : M.mayVote t v = true) (h0 : 0 ≤ t) {o : Option JouM} (ho : o = some { M with now := t, vote := v }) :
    RecTold w w1 j d pre D F o (.returned (.bool true)) ((w2.setCell ⟨j, 5, none⟩ (.int .i64 t)).setCell ⟨j, 6, none⟩ (.int .i64 v)) := by
  obtain ⟨-, h1, h2⟩ := mayVote_facts hm
  obtain ⟨ha, hb⟩ := jou_set56 h t v (isTm_iff.2 ⟨h0, h1⟩) h2
  exact rec_yes ha (hs.trans hb) ho

set_option maxRecDepth 100000 in
set_option maxHeartbeats 4000000 in
theorem rec_k2 (h : JouF w w1 j d pre D M F) {p : Option Addr} {n c : Nat} {l : Bs} (hx : HasB w1 (.slice p n c) (2 :: l)) (hl : n ≤ 1073741824) :
    Calls Tryz.prog 102 #[.pointer (some ⟨j, 0, none⟩), .bool false, .slice p n c] w1 (RecTold w w1 j d pre D F (rec1 false M (2 :: l))) := by
  obtain ⟨i0, hii, hz0, hz1, hz2⟩ := info_parts (show (Tryz.prog.info? 3).map (fun i => (i.zero, i.size, i.bytes)) = some (some (.int .i64 0), 1, 8) by kernel_rfl)
  have Hrd0 := Lib.hid (newrdX_calls hx (by obtain ⟨_, _, e⟩ := hx.slice; simp only [Value.slice.injEq] at e; omega))
  have H := Lib.hid h
  have HM := Lib.hid (show rec1 false M (2 :: l) = (if (Rd.num ⟨l, false⟩).2.num.2.whole && M.mayVote ((Rd.num ⟨l, false⟩).1 : Int) (((Rd.num ⟨l, false⟩).2.num.1 : Int) - 1) then
        some { M with now := ((Rd.num ⟨l, false⟩).1 : Int), vote := (((Rd.num ⟨l, false⟩).2.num.1 : Int) - 1) } else none) from rfl)
  have hm1 := Rd.num_le ⟨l, false⟩
  have hm2 := Rd.num_le (Rd.num ⟨l, false⟩).2
  have HI := Lib.hid (show Rd.ints 2 ⟨l, false⟩ = ([((Rd.num ⟨l, false⟩).1 : Int), ((Rd.num ⟨l, false⟩).2.num.1 : Int)], (Rd.num ⟨l, false⟩).2.num.2) from rfl)
  generalize rec1 false M (2 :: l) = O at *
  generalize (Rd.num ⟨l, false⟩).1 = m1 at *
  generalize (Rd.num ⟨l, false⟩).2.num.1 = m2 at *
  generalize (Rd.num ⟨l, false⟩).2.num.2 = R3 at *
  clear h hx
  go_enter Tryz.func102, Tryz.ntmps102
  go_wp2_with fail
  refine Hrd0.out.mono ?_
  rintro e w2 ⟨r, rfl, hr, hrn, hrl, hb2⟩
  have HR2 := Lib.hid (rd_first hr)
  have HB2 := Lib.hid hb2
  have HRn := Lib.hid (And.intro hrn hrl)
  clear hr hrn hrl hb2 Hrd0
  go_wp2_with fail
  refine HR2.out.mono ?_
  rintro e w3 ⟨g, q, rfl, hg, hr3, hc3⟩
  have HB3 := Lib.hid (show Below w1.heap.size w1 w3 from HB2.out.trans (hc3.below HB2.out.size fun i hi e => by have := HRn.out.1; omega))
  have HR3 := Lib.hid hr3
  have HRl := Lib.hid hr3.lt
  have hkc : w3.cell? ⟨g, 0, none⟩ = some (.int .u8 2) := hg
  clear hr3 hc3 HR2 hg
  go_wp2_with fail
  have hrl := HRl.out
  have hk0 : (((w3.alloc (.cells #[.int .i64 0] 3)).alloc (.cells #[.int .i64 0] 3)).alloc (.cells #[.pointer (some ⟨w3.heap.size, 0, none⟩), .pointer (some ⟨w3.heap.size + 1, 0, none⟩)] 131)).heap[w3.heap.size]? = some (.cells #[.int .i64 0] 3) := old_block _ (old_block _ (new_block w3 _))
  have hk1 : (((w3.alloc (.cells #[.int .i64 0] 3)).alloc (.cells #[.int .i64 0] 3)).alloc (.cells #[.pointer (some ⟨w3.heap.size, 0, none⟩), .pointer (some ⟨w3.heap.size + 1, 0, none⟩)] 131)).heap[w3.heap.size + 1]? = some (.cells #[.int .i64 0] 3) := old_block _ (by have := new_block (w3.alloc (.cells #[.int .i64 0] 3)) (.cells #[.int .i64 0] 3); simpa using this)
  have hk2 : (((w3.alloc (.cells #[.int .i64 0] 3)).alloc (.cells #[.int .i64 0] 3)).alloc (.cells #[.pointer (some ⟨w3.heap.size, 0, none⟩), .pointer (some ⟨w3.heap.size + 1, 0, none⟩)] 131)).heap[w3.heap.size + 2]? = some (.cells #[.pointer (some ⟨w3.heap.size, 0, none⟩), .pointer (some ⟨w3.heap.size + 1, 0, none⟩)] 131) := by have := new_block ((w3.alloc (.cells #[.int .i64 0] 3)).alloc (.cells #[.int .i64 0] 3)) (.cells #[.pointer (some ⟨w3.heap.size, 0, none⟩), .pointer (some ⟨w3.heap.size + 1, 0, none⟩)] 131); simpa using this
  have HP := Lib.hid (show Places (((w3.alloc (.cells #[.int .i64 0] 3)).alloc (.cells #[.int .i64 0] 3)).alloc (.cells #[.pointer (some ⟨w3.heap.size, 0, none⟩), .pointer (some ⟨w3.heap.size + 1, 0, none⟩)] 131)) r [⟨w3.heap.size, 0, none⟩, ⟨w3.heap.size + 1, 0, none⟩] from by
    refine ⟨fun a ha => ?_, fun a ha => ?_, fun a ha => ?_, fun a ha => ?_⟩
    all_goals
      simp only [List.mem_cons, List.not_mem_nil, or_false] at ha
      rcases ha with rfl | rfl
    · exact ⟨_, cell_of hk0 rfl⟩
    · exact ⟨_, cell_of hk1 rfl⟩
    · exact frozen_of hk0 0
    · exact frozen_of hk1 0
    · intro e; have e2 : w3.heap.size = r := e; omega
    · intro e; have e2 : w3.heap.size + 1 = r := e; omega
    · rfl
    · rfl)
  have HN := Lib.hid (rnums_calls (R := ⟨l, false⟩) (((HR3.out.chg (Chg.alloc w3 (.cells #[.int .i64 0] 3)) (fun e => e) fun _ _ e => e).chg (Chg.alloc _ (.cells #[.int .i64 0] 3)) (fun e => e) fun _ _ e => e).chg (Chg.alloc _ (.cells #[.pointer (some ⟨w3.heap.size, 0, none⟩), .pointer (some ⟨w3.heap.size + 1, 0, none⟩)] 131)) (fun e => e) fun _ _ e => e) (g := w3.heap.size + 2) (c := 2) HP.out (by simp) (fun i a hi => by
    refine cell_of hk2 ?_
    match i, hi with
    | 0, hi => cases hi; rfl
    | 1, hi => cases hi; rfl) (fun e => by omega) (fun a ha e => by
      simp only [List.mem_cons, List.not_mem_nil, or_false] at ha
      rcases ha with rfl | rfl
      · have e3 : w3.heap.size = w3.heap.size + 2 := e
        omega
      · have e3 : w3.heap.size + 1 = w3.heap.size + 2 := e
        omega) (fun k hk => ⟨by omega, fun a ha e => by
      simp only [List.mem_cons, List.not_mem_nil, or_false] at ha
      rcases ha with rfl | rfl
      · have e3 : k = w3.heap.size := e
        omega
      · have e3 : k = w3.heap.size + 1 := e
        omega⟩))
  have HBW := Lib.hid (show Below w1.heap.size w1 (((w3.alloc (.cells #[.int .i64 0] 3)).alloc (.cells #[.int .i64 0] 3)).alloc (.cells #[.pointer (some ⟨w3.heap.size, 0, none⟩), .pointer (some ⟨w3.heap.size + 1, 0, none⟩)] 131)) from ((HB3.out.alloc HB3.out.size (.cells #[.int .i64 0] 3)).alloc (by have := HB3.out.size; simp; omega) (.cells #[.int .i64 0] 3)).alloc (by have := HB3.out.size; simp; omega) (.cells #[.pointer (some ⟨w3.heap.size, 0, none⟩), .pointer (some ⟨w3.heap.size + 1, 0, none⟩)] 131))
  have HCE := Lib.hid (And.intro hk0 (And.intro hk1 (show (((w3.alloc (.cells #[.int .i64 0] 3)).alloc (.cells #[.int .i64 0] 3)).alloc (.cells #[.pointer (some ⟨w3.heap.size, 0, none⟩), .pointer (some ⟨w3.heap.size + 1, 0, none⟩)] 131)).heap.size = w3.heap.size + 3 from by simp)))
  clear hk0 hk1 hk2 hrl HP
  go_wp2_with fail
  refine HN.out.mono ?_
  rintro e w4 ⟨rfl, hr4, hc4, hp4⟩
  have hB4 : Below w1.heap.size w1 w4 := by
    have hs := HB3.out.size
    have hr := HRn.out.1
    refine (((Chg.of_below HBW.out).mono fun _ _ e => e.elim : Chg (fun k => w1.heap.size ≤ k) w1 _).trans hc4 fun k _ e => ?_).below (Nat.le_refl _) fun k hk e => by omega
    rcases e with rfl | ⟨a, ha, rfl⟩
    · exact hr
    · simp only [List.mem_cons, List.not_mem_nil, or_false] at ha
      rcases ha with rfl | rfl
      · exact hs
      · show w1.heap.size ≤ w3.heap.size + 1
        omega
  rw [show [(⟨w3.heap.size, 0, none⟩ : Addr), ⟨w3.heap.size + 1, 0, none⟩].length = 2 from rfl, HI.out] at hr4 hp4
  obtain ⟨hk0, hk1, hsz⟩ := HCE.out
  have hrl := HRl.out
  have hq0 : w4.heap[w3.heap.size]? = some (.cells #[.int .i64 (m1 : Int)] 3 (0, 0)) := by
    rw [hp4 _ (by omega) (by omega)]
    refine (set_other (w := World.setCell _ ⟨w3.heap.size, 0, none⟩ (.int .i64 (m1 : Int))) (.int .i64 (m2 : Int)) (by show w3.heap.size ≠ w3.heap.size + 1; omega)).trans ?_
    have := set_block hk0 0 (.int .i64 (m1 : Int))
    simpa using this
  have hq1 : w4.heap[w3.heap.size + 1]? = some (.cells #[.int .i64 (m2 : Int)] 3 (0, 0)) := by
    rw [hp4 _ (by omega) (by omega)]
    have h0 := (set_other (w := (((w3.alloc (.cells #[.int .i64 0] 3)).alloc (.cells #[.int .i64 0] 3)).alloc (.cells #[.pointer (some ⟨w3.heap.size, 0, none⟩), .pointer (some ⟨w3.heap.size + 1, 0, none⟩)] 131))) (a := ⟨w3.heap.size, 0, none⟩) (.int .i64 (m1 : Int)) (show w3.heap.size + 1 ≠ w3.heap.size by omega)).trans hk1
    have := set_block h0 0 (.int .i64 (m2 : Int))
    rw [show (#[Value.int IntKind.i64 0] : Array Value).setIfInBounds 0 (.int .i64 (m2 : Int)) = #[.int .i64 (m2 : Int)] from rfl] at this
    exact this
  have HB4 := Lib.hid hB4
  have HR4 := Lib.hid hr4
  have hls : w3.heap.size ≠ r := by omega
  have hls1 : w3.heap.size + 1 ≠ r := by omega
  have HQ := Lib.hid (And.intro hq0 (And.intro hq1 (And.intro (And.intro hls hls1) (show w1.heap.size ≤ w3.heap.size from HB3.out.size))))
  clear hr4 hc4 hp4 hB4 HN hk0 hk1 hsz hrl hq0 hq1 hls hls1 HCE HBW HR3 HRl HB3 hkc HI
  generalize w3.heap.size = a at *
  obtain ⟨hq0, hq1, -, hge⟩ := HQ.out
  have c1 := cell_of hq1 (i := 0) rfl
  have f1 := frozen_of hq1 0
  have hwr : IntKind.i64.wrap ((m2 : Int) - 1) = (m2 : Int) - 1 := IntWalk.i64_in _ (by omega)
  have h0s : (w4.setCell ⟨a + 1, 0, none⟩ (.int .i64 ((m2 : Int) - 1))).heap[a]? = some (.cells #[.int .i64 (m1 : Int)] 3 (0, 0)) := (set_other _ (by show a ≠ a + 1; omega)).trans hq0
  have h1s : (w4.setCell ⟨a + 1, 0, none⟩ (.int .i64 ((m2 : Int) - 1))).heap[a + 1]? = some (.cells #[.int .i64 ((m2 : Int) - 1)] 3 (0, 0)) := by
    have := set_block hq1 0 (.int .i64 ((m2 : Int) - 1))
    simpa using this
  have HW := Lib.hid (whole_calls ((HR4.out.at.hd).same (w' := w4.setCell ⟨a + 1, 0, none⟩ (.int .i64 ((m2 : Int) - 1))) (set_other _ (fun e => HQ.out.2.2.1.2 e.symm))))
  have hB5 : Below w1.heap.size w1 (w4.setCell ⟨a + 1, 0, none⟩ (.int .i64 ((m2 : Int) - 1))) := (((Chg.of_below HB4.out).mono fun _ _ e => e.elim : Chg (fun k => k = a + 1) w1 w4).trans (Chg.setCell w4 ⟨a + 1, 0, none⟩ _) fun k _ e => e).below (Nat.le_refl _) fun k hk e => by omega
  have Hmv := Lib.hid (jmv_calls (H.out.next hB5) (m1 : Int) ((m2 : Int) - 1))
  have Hno := Lib.hid (fun (ho : O = none) => rec_no (o := O) H.out hB5 ho)
  have Hyes := Lib.hid (fun hm ho => rec_trm_ok (o := O) (H.out.next hB5) (H.out.same hB5) (t := (m1 : Int)) (v := (m2 : Int) - 1) hm (by omega) ho)
  have Hcell := Lib.hid (And.intro h0s h1s)
  obtain ⟨own, gv, dv, ev, vs, hJ, -⟩ := H.out.next hB5
  have Hjc := Lib.hid (And.intro hJ.cells (And.intro (hJ.c 5 rfl) (hJ.c 6 rfl)))
  clear hB5 h0s h1s hq0 hq1 hge HQ hJ
  go_wp2_with fail
  clear c1 f1
  generalize w4.setCell ⟨a + 1, 0, none⟩ (.int .i64 ((m2 : Int) - 1)) = w5 at *
  cases hw : R3.whole with
  | false =>
    rw [hw] at HW
    have HE := Lib.hid (Hno.out (by rw [HM.out, hw]; rfl))
    clear hw
    refine HW.out.mono ?_
    rintro e w7 ⟨rfl, rfl⟩
    go_wp2_with fail
    go_ret
    exact HE.out
  | true =>
    rw [hw] at HW
    refine HW.out.mono ?_
    rintro e w7 ⟨rfl, rfl⟩
    obtain ⟨h0s, h1s⟩ := Hcell.out
    have d0 := cell_of h0s (i := 0) rfl
    have d1 := cell_of h1s (i := 0) rfl
    cases hm : M.mayVote (m1 : Int) ((m2 : Int) - 1) with
    | false =>
      rw [hm] at Hmv
      have HE := Lib.hid (Hno.out (by rw [HM.out, hw, hm]; rfl))
      clear hw hm h0s h1s
      go_wp2_with fail
      refine Hmv.out.mono ?_
      rintro e w8 ⟨rfl, rfl⟩
      go_wp2_with fail
      go_ret
      exact HE.out
    | true =>
      rw [hm] at Hmv
      have HE := Lib.hid (Hyes.out hm (by rw [HM.out, hw, hm]; rfl))
      clear hw hm h0s h1s
      go_wp2_with fail
      refine Hmv.out.mono ?_
      rintro e w8 ⟨rfl, rfl⟩
      obtain ⟨hjc, c5, c6⟩ := Hjc.out
      have g5 := frozen_of hjc 5
      have g6 := frozen_of hjc 6
      clear hjc
      go_wp2_with fail
      go_ret
      exact HE.out
end
end Go.Proofs.YtngflpaooppmhaaGreat

namespace Go.Proofs.YtngflpaooppmhaaGreat
open Go.RowKit Go.Sat Go.Maps

theorem rdbytes_len (R : Rd) : R.bytes.1.length ≤ R.rest.length := by
  have h := ints_rest 1 R
  rw [show (Rd.ints 1 R).2 = R.num.2 from rfl] at h
  rw [show R.bytes = R.num.2.raw R.num.1 from rfl]
  unfold Rd.raw
  split
  · simp only [List.length_take]
    omega
  · exact Nat.zero_le _
theorem grpany_len (R : Rd) : (R.grp anyG).1.length ≤ 7 := by
  by_cases h : 7 < R.num.1
  · rw [grp_big h]
    simp
  · rw [grp_small h]
    show (Rd.ints R.num.1 R.num.2).1.length ≤ 7
    rw [ints_len]
    omega

section
variable {w w1 w2 : World} {j d : Nat} {pre : ByteArray} {D : DiskM} {M : JouM} {F : Nat → Prop}

theorem rec_ent_ok {own own' : Nat → Prop} {gv dv ev ev' : Value} {vs vs' : List EV} {e : Ent} (_hJ : JouIn w1 j d pre own M gv dv ev vs) (hS : St w w1 d D (fun k => own k ∨ F k)) (hn : ∀ k, own k → w.heap.size ≤ k ∧ ¬ F k) (hl : ∀ k, F k → k < w1.heap.size)
    (hJ' : JouIn w2 j d pre own' { M with entries := M.entries ++ [e] } gv dv ev' vs') (hc : Chg own w1 w2) (hx : ∀ k, own' k → own k ∨ w1.heap.size ≤ k) {o : Option JouM} (ho : o = some { M with entries := M.entries ++ [e] }) : RecTold w w1 j d pre D F o (.returned (.bool true)) w2 := by
  obtain ⟨h1, h2⟩ := JouF.turned (D := D) (F := F) hS hn hl hJ' hc hx
  exact rec_yes h1 h2 ho

set_option maxRecDepth 100000 in
set_option maxHeartbeats 8000000 in
theorem rec_k3 (h : JouF w w1 j d pre D M F) {p : Option Addr} {n c : Nat} {l : Bs} (hx : HasB w1 (.slice p n c) (3 :: l)) (hl : n ≤ 1073741824) :
    Calls Tryz.prog 102 #[.pointer (some ⟨j, 0, none⟩), .bool false, .slice p n c] w1 (RecTold w w1 j d pre D F (rec1 false M (3 :: l))) := by
  obtain ⟨i0, hii, hz0, hz1, hz2⟩ := info_parts (show (Tryz.prog.info? 3).map (fun i => (i.zero, i.size, i.bytes)) = some (some (.int .i64 0), 1, 8) by kernel_rfl)
  obtain ⟨i4, hi4, hz40, hz41, hz42⟩ := info_parts (show (Tryz.prog.info? 47).map (fun i => (i.zero, i.size, i.bytes)) = some (some (.agg #[.int .i64 0, .int .i64 0, .slice none 0 0, .slice none 0 0]), 4, 64) by kernel_rfl)
  have hll : l.length ≤ 1073741824 := by
    obtain ⟨_, _, e⟩ := hx.slice
    simp only [Value.slice.injEq, List.length_cons] at e
    omega
  have Hrd0 := Lib.hid (newrdX_calls hx (by rw [List.length_cons]; omega))
  have H := Lib.hid h
  have HM := Lib.hid (show rec1 false M (3 :: l) = (if ((Rd.ints 3 ⟨l, false⟩).2.bytes.2.grp anyG).2.whole ∧ (Rd.num ⟨l, false⟩).1 = M.last + 1 ∧ (Rd.num ⟨l, false⟩).1 ≤ 1099511627776 ∧ isEnt ⟨((Rd.num ⟨l, false⟩).2.num.1 : Int), ((Rd.num ⟨l, false⟩).2.num.2.num.1 : Int), (Rd.ints 3 ⟨l, false⟩).2.bytes.1, ((Rd.ints 3 ⟨l, false⟩).2.bytes.2.grp anyG).1⟩ then
        some { M with entries := M.entries ++ [⟨((Rd.num ⟨l, false⟩).2.num.1 : Int), ((Rd.num ⟨l, false⟩).2.num.2.num.1 : Int), (Rd.ints 3 ⟨l, false⟩).2.bytes.1, ((Rd.ints 3 ⟨l, false⟩).2.bytes.2.grp anyG).1⟩] } else none) from rfl)
  have hm1 := Rd.num_le ⟨l, false⟩
  have hm2 := Rd.num_le (Rd.num ⟨l, false⟩).2
  have hm3 := Rd.num_le (Rd.num ⟨l, false⟩).2.num.2
  have HI := Lib.hid (show Rd.ints 3 ⟨l, false⟩ = ([((Rd.num ⟨l, false⟩).1 : Int), ((Rd.num ⟨l, false⟩).2.num.1 : Int), ((Rd.num ⟨l, false⟩).2.num.2.num.1 : Int)], (Rd.ints 3 ⟨l, false⟩).2) from rfl)
  have hbl : (Rd.ints 3 ⟨l, false⟩).2.bytes.1.length ≤ 1073741824 := Nat.le_trans (rdbytes_len _) (Nat.le_trans (ints_rest 3 ⟨l, false⟩) hll)
  have hgl := grpany_len (Rd.ints 3 ⟨l, false⟩).2.bytes.2
  generalize rec1 false M (3 :: l) = O at *
  generalize (Rd.num ⟨l, false⟩).1 = m1 at *
  generalize (Rd.num ⟨l, false⟩).2.num.1 = m2 at *
  generalize (Rd.num ⟨l, false⟩).2.num.2.num.1 = m3 at *
  generalize (Rd.ints 3 ⟨l, false⟩).2 = R3 at *
  clear h hx
  go_enter Tryz.func102, Tryz.ntmps102
  go_wp2_with fail
  refine Hrd0.out.mono ?_
  rintro e w2 ⟨r, rfl, hr, hrn, hrl, hb2⟩
  have HR2 := Lib.hid (rd_first hr)
  have HB2 := Lib.hid hb2
  have HRn := Lib.hid (And.intro hrn hrl)
  clear hr hrn hrl hb2 Hrd0
  go_wp2_with fail
  refine HR2.out.mono ?_
  rintro e w3 ⟨g, q, rfl, hg, hr3, hc3⟩
  have HB3 := Lib.hid (show Below w1.heap.size w1 w3 from HB2.out.trans (hc3.below HB2.out.size fun i hi e => by have := HRn.out.1; omega))
  have HR3 := Lib.hid hr3
  have HRl := Lib.hid hr3.lt
  have hkc : w3.cell? ⟨g, 0, none⟩ = some (.int .u8 3) := hg
  clear hr3 hc3 HR2 hg
  go_wp2_with fail
  have hrl := HRl.out
  have hk0 : (((w3.alloc (.cells #[.int .i64 0] 3)).alloc (.cells #[.int .i64 0, .int .i64 0, .slice none 0 0, .slice none 0 0] 47)).alloc (.cells #[.pointer (some ⟨w3.heap.size, 0, none⟩), .pointer (some ⟨w3.heap.size + 1, 0, none⟩), .pointer (some ⟨w3.heap.size + 1, 1, none⟩)] 131)).heap[w3.heap.size]? = some (.cells #[.int .i64 0] 3) := old_block _ (old_block _ (new_block w3 _))
  have hk1 : (((w3.alloc (.cells #[.int .i64 0] 3)).alloc (.cells #[.int .i64 0, .int .i64 0, .slice none 0 0, .slice none 0 0] 47)).alloc (.cells #[.pointer (some ⟨w3.heap.size, 0, none⟩), .pointer (some ⟨w3.heap.size + 1, 0, none⟩), .pointer (some ⟨w3.heap.size + 1, 1, none⟩)] 131)).heap[w3.heap.size + 1]? = some (.cells #[.int .i64 0, .int .i64 0, .slice none 0 0, .slice none 0 0] 47) := old_block _ (by have := new_block (w3.alloc (.cells #[.int .i64 0] 3)) (.cells #[.int .i64 0, .int .i64 0, .slice none 0 0, .slice none 0 0] 47); simpa using this)
  have hk2 : (((w3.alloc (.cells #[.int .i64 0] 3)).alloc (.cells #[.int .i64 0, .int .i64 0, .slice none 0 0, .slice none 0 0] 47)).alloc (.cells #[.pointer (some ⟨w3.heap.size, 0, none⟩), .pointer (some ⟨w3.heap.size + 1, 0, none⟩), .pointer (some ⟨w3.heap.size + 1, 1, none⟩)] 131)).heap[w3.heap.size + 2]? = some (.cells #[.pointer (some ⟨w3.heap.size, 0, none⟩), .pointer (some ⟨w3.heap.size + 1, 0, none⟩), .pointer (some ⟨w3.heap.size + 1, 1, none⟩)] 131) := by have := new_block ((w3.alloc (.cells #[.int .i64 0] 3)).alloc (.cells #[.int .i64 0, .int .i64 0, .slice none 0 0, .slice none 0 0] 47)) (.cells #[.pointer (some ⟨w3.heap.size, 0, none⟩), .pointer (some ⟨w3.heap.size + 1, 0, none⟩), .pointer (some ⟨w3.heap.size + 1, 1, none⟩)] 131); simpa using this
  have HP := Lib.hid (show Places (((w3.alloc (.cells #[.int .i64 0] 3)).alloc (.cells #[.int .i64 0, .int .i64 0, .slice none 0 0, .slice none 0 0] 47)).alloc (.cells #[.pointer (some ⟨w3.heap.size, 0, none⟩), .pointer (some ⟨w3.heap.size + 1, 0, none⟩), .pointer (some ⟨w3.heap.size + 1, 1, none⟩)] 131)) r [⟨w3.heap.size, 0, none⟩, ⟨w3.heap.size + 1, 0, none⟩, ⟨w3.heap.size + 1, 1, none⟩] from by
    refine ⟨fun a ha => ?_, fun a ha => ?_, fun a ha => ?_, fun a ha => ?_⟩
    all_goals
      simp only [List.mem_cons, List.not_mem_nil, or_false] at ha
      rcases ha with rfl | rfl | rfl
    · exact ⟨_, cell_of hk0 rfl⟩
    · exact ⟨_, cell_of hk1 rfl⟩
    · exact ⟨_, cell_of hk1 rfl⟩
    · exact frozen_of hk0 0
    · exact frozen_of hk1 0
    · exact frozen_of hk1 1
    · intro e; have e2 : w3.heap.size = r := e; omega
    · intro e; have e2 : w3.heap.size + 1 = r := e; omega
    · intro e; have e2 : w3.heap.size + 1 = r := e; omega
    · rfl
    · rfl
    · rfl)
  have HN := Lib.hid (rnums_calls (R := ⟨l, false⟩) (((HR3.out.chg (Chg.alloc w3 (.cells #[.int .i64 0] 3)) (fun e => e) fun _ _ e => e).chg (Chg.alloc _ (.cells #[.int .i64 0, .int .i64 0, .slice none 0 0, .slice none 0 0] 47)) (fun e => e) fun _ _ e => e).chg (Chg.alloc _ (.cells #[.pointer (some ⟨w3.heap.size, 0, none⟩), .pointer (some ⟨w3.heap.size + 1, 0, none⟩), .pointer (some ⟨w3.heap.size + 1, 1, none⟩)] 131)) (fun e => e) fun _ _ e => e) (g := w3.heap.size + 2) (c := 3) HP.out (by simp) (fun i a hi => by
    refine cell_of hk2 ?_
    match i, hi with
    | 0, hi => cases hi; rfl
    | 1, hi => cases hi; rfl
    | 2, hi => cases hi; rfl) (fun e => by omega) (fun a ha e => by
      simp only [List.mem_cons, List.not_mem_nil, or_false] at ha
      rcases ha with rfl | rfl | rfl
      · have e3 : w3.heap.size = w3.heap.size + 2 := e
        omega
      · have e3 : w3.heap.size + 1 = w3.heap.size + 2 := e
        omega
      · have e3 : w3.heap.size + 1 = w3.heap.size + 2 := e
        omega) (fun k hk => ⟨by omega, fun a ha e => by
      simp only [List.mem_cons, List.not_mem_nil, or_false] at ha
      rcases ha with rfl | rfl | rfl
      · have e3 : k = w3.heap.size := e
        omega
      · have e3 : k = w3.heap.size + 1 := e
        omega
      · have e3 : k = w3.heap.size + 1 := e
        omega⟩))
  have HBW := Lib.hid (show Below w1.heap.size w1 (((w3.alloc (.cells #[.int .i64 0] 3)).alloc (.cells #[.int .i64 0, .int .i64 0, .slice none 0 0, .slice none 0 0] 47)).alloc (.cells #[.pointer (some ⟨w3.heap.size, 0, none⟩), .pointer (some ⟨w3.heap.size + 1, 0, none⟩), .pointer (some ⟨w3.heap.size + 1, 1, none⟩)] 131)) from ((HB3.out.alloc HB3.out.size (.cells #[.int .i64 0] 3)).alloc (by have := HB3.out.size; simp; omega) (.cells #[.int .i64 0, .int .i64 0, .slice none 0 0, .slice none 0 0] 47)).alloc (by have := HB3.out.size; simp; omega) (.cells #[.pointer (some ⟨w3.heap.size, 0, none⟩), .pointer (some ⟨w3.heap.size + 1, 0, none⟩), .pointer (some ⟨w3.heap.size + 1, 1, none⟩)] 131))
  have HCE := Lib.hid (And.intro hk0 (And.intro hk1 (show (((w3.alloc (.cells #[.int .i64 0] 3)).alloc (.cells #[.int .i64 0, .int .i64 0, .slice none 0 0, .slice none 0 0] 47)).alloc (.cells #[.pointer (some ⟨w3.heap.size, 0, none⟩), .pointer (some ⟨w3.heap.size + 1, 0, none⟩), .pointer (some ⟨w3.heap.size + 1, 1, none⟩)] 131)).heap.size = w3.heap.size + 3 from by simp)))
  clear hk0 hk1 hk2 hrl HP
  go_wp2_with fail
  refine HN.out.mono ?_
  rintro e w4 ⟨rfl, hr4, hc4, hp4⟩
  have hB4 : Below w1.heap.size w1 w4 := by
    have hs := HB3.out.size
    have hr := HRn.out.1
    refine (((Chg.of_below HBW.out).mono fun _ _ e => e.elim : Chg (fun k => w1.heap.size ≤ k) w1 _).trans hc4 fun k _ e => ?_).below (Nat.le_refl _) fun k hk e => by omega
    rcases e with rfl | ⟨a, ha, rfl⟩
    · exact hr
    · simp only [List.mem_cons, List.not_mem_nil, or_false] at ha
      rcases ha with rfl | rfl | rfl
      · exact hs
      · show w1.heap.size ≤ w3.heap.size + 1
        omega
      · show w1.heap.size ≤ w3.heap.size + 1
        omega
  rw [show ([⟨w3.heap.size, 0, none⟩, ⟨w3.heap.size + 1, 0, none⟩, ⟨w3.heap.size + 1, 1, none⟩] : List Addr).length = 3 from rfl, HI.out] at hr4 hp4
  obtain ⟨hk0, hk1, hsz⟩ := HCE.out
  have hrl := HRl.out
  have hq0 : w4.heap[w3.heap.size]? = some (.cells #[.int .i64 (m1 : Int)] 3 (0, 0)) := by
    rw [hp4 _ (by omega) (by omega)]
    refine (set_other (w := World.setCell _ ⟨w3.heap.size + 1, 0, none⟩ (.int .i64 (m2 : Int))) (.int .i64 (m3 : Int)) (by show w3.heap.size ≠ w3.heap.size + 1; omega)).trans ?_
    refine (set_other (w := World.setCell _ ⟨w3.heap.size, 0, none⟩ (.int .i64 (m1 : Int))) (.int .i64 (m2 : Int)) (by show w3.heap.size ≠ w3.heap.size + 1; omega)).trans ?_
    have := set_block hk0 0 (.int .i64 (m1 : Int))
    simpa using this
  have hq1 : w4.heap[w3.heap.size + 1]? = some (.cells #[.int .i64 (m2 : Int), .int .i64 (m3 : Int), (.slice none 0 0), (.slice none 0 0)] 47 (0, 0)) := by
    rw [hp4 _ (by omega) (by omega)]
    have h0 := (set_other (w := (((w3.alloc (.cells #[.int .i64 0] 3)).alloc (.cells #[.int .i64 0, .int .i64 0, .slice none 0 0, .slice none 0 0] 47)).alloc (.cells #[.pointer (some ⟨w3.heap.size, 0, none⟩), .pointer (some ⟨w3.heap.size + 1, 0, none⟩), .pointer (some ⟨w3.heap.size + 1, 1, none⟩)] 131))) (a := ⟨w3.heap.size, 0, none⟩) (.int .i64 (m1 : Int)) (show w3.heap.size + 1 ≠ w3.heap.size by omega)).trans hk1
    have h1 := set_block h0 0 (.int .i64 (m2 : Int))
    have h2 := set_block h1 1 (.int .i64 (m3 : Int))
    rw [show ((#[Value.int IntKind.i64 0, .int .i64 0, .slice none 0 0, .slice none 0 0] : Array Value).setIfInBounds 0 (.int .i64 (m2 : Int))).setIfInBounds 1 (.int .i64 (m3 : Int)) = #[.int .i64 (m2 : Int), .int .i64 (m3 : Int), .slice none 0 0, .slice none 0 0] from rfl] at h2
    exact h2
  have HB4 := Lib.hid hB4
  have hls : w3.heap.size ≠ r := by omega
  have hls1 : w3.heap.size + 1 ≠ r := by omega
  have hrw4 : r < w3.heap.size := hrl
  have hge : w1.heap.size ≤ w3.heap.size := HB3.out.size
  have HBy := Lib.hid (rbytesX_calls hr4)
  clear hr4 hc4 hp4 hB4 HN hk0 hk1 hsz hrl HCE HBW HR3 HRl HB3 hkc HI
  generalize w3.heap.size = a at *
  have HS := Lib.hid (And.intro hls1 (And.intro hrw4 hge))
  clear hls hls1 hrw4 hge
  have HQ4 := Lib.hid (And.intro hq0 hq1)
  clear hq0 hq1
  go_wp2_with fail
  refine HBy.out.mono ?_
  rintro e w5 ⟨v5, rfl, hv5, hn5, hr5, hc5⟩
  have hB5 : Below w1.heap.size w1 w5 := HB4.out.trans (hc5.below HB4.out.size fun k hk e => by have := HRn.out.1; omega)
  have hq0 := (hc5.block a (lt_of_block HQ4.out.1) (by have := HS.out.2.1; omega)).trans HQ4.out.1
  have hq1 := (hc5.block (a + 1) (lt_of_block HQ4.out.2) (fun e => HS.out.1 e)).trans HQ4.out.2
  have HB5 := Lib.hid hB5
  have HR5 := Lib.hid (show ∀ k, v5.ownBlock = some k → k ≠ r from fun k hk e => by
    have h1 := hn5 k hk
    have h3 := lt_of_block HQ4.out.1
    have h4 := HS.out.2.1
    omega)
  have HV5 := Lib.hid (And.intro hv5 (show ∀ k, v5.ownBlock = some k → w1.heap.size ≤ k ∧ k ≠ a ∧ k ≠ a + 1 from fun k hk => by
    have h1 := hn5 k hk
    have h2 := HB4.out.size
    have h3 := lt_of_block HQ4.out.1
    have h4 := lt_of_block HQ4.out.2
    exact ⟨by omega, by omega, by omega⟩))
  generalize hbb : R3.bytes.1 = bb at *
  generalize R3.bytes.2 = R4 at *
  obtain ⟨p5, c5, e5, -⟩ := own_cap0 hv5
  subst e5
  have c2 := cell_of hq1 (i := 2) rfl
  have f2 := frozen_of hq1 2
  have h6 := set_block hq1 2 (.slice p5 bb.length c5)
  rw [show (#[Value.int IntKind.i64 (m2 : Int), .int .i64 (m3 : Int), .slice none 0 0, .slice none 0 0] : Array Value).setIfInBounds 2 (.slice p5 bb.length c5) = #[.int .i64 (m2 : Int), .int .i64 (m3 : Int), (.slice p5 bb.length c5), .slice none 0 0] from rfl] at h6
  have h60 : (w5.setCell ⟨a + 1, 2, none⟩ (.slice p5 bb.length c5)).heap[a]? = some (.cells #[.int .i64 (m1 : Int)] 3 (0, 0)) := (set_other _ (by show a ≠ a + 1; omega)).trans hq0
  have HQ5 := Lib.hid (And.intro h60 h6)
  have HG := Lib.hid (readGrp_any (A := fun k => w1.heap.size ≤ k ∧ k < r) (w := w5.setCell ⟨a + 1, 2, none⟩ (.slice p5 bb.length c5)) (hr5.chg (Chg.setCell w5 ⟨a + 1, 2, none⟩ (.slice p5 bb.length c5)) (fun e => HS.out.1 (show r = a + 1 from e).symm) fun k hk e => by have := HS.out.2.1; have e2 : k = a + 1 := e; omega) (fun k hk => ⟨Nat.lt_of_lt_of_le (show k < w5.heap.size from by have := hr5.lt; omega) (Chg.setCell w5 ⟨a + 1, 2, none⟩ (.slice p5 bb.length c5)).size, by omega⟩))
  have HB5' := Lib.hid (show Below w1.heap.size w1 (w5.setCell ⟨a + 1, 2, none⟩ (.slice p5 bb.length c5)) from (((Chg.of_below HB5.out).mono fun _ _ e => e.elim : Chg (fun k => k = a + 1) w1 w5).trans (Chg.setCell w5 ⟨a + 1, 2, none⟩ _) fun k _ e => e).below (Nat.le_refl _) fun k hk e => by have := HS.out.2.2; omega)
  have HV5' := Lib.hid (show OwnB (w5.setCell ⟨a + 1, 2, none⟩ (.slice p5 bb.length c5)) 5 (.slice p5 bb.length c5) bb from OwnR.keep hv5 fun k hk => set_other _ fun e => (HV5.out.2 k hk).2.2 e)
  clear hv5 hn5 hr5 hc5 hB5 hq0 hq1 h6 h60 HBy HQ4 HB5
  go_wp2_with fail
  clear c2 f2
  generalize w5.setCell ⟨a + 1, 2, none⟩ (.slice p5 bb.length c5) = w5' at *
  refine HG.out.mono ?_
  rintro e w6 ⟨v6, rfl, hv6, hn6, hr6, hc6⟩
  have hB6 : Below w1.heap.size w1 w6 := HB5'.out.trans (hc6.below HB5'.out.size fun k hk e => by have := HRn.out.1; omega)
  have hq0 := (hc6.block a (lt_of_block HQ5.out.1) (by have := HS.out.2.1; omega)).trans HQ5.out.1
  have hq1 := (hc6.block (a + 1) (lt_of_block HQ5.out.2) (fun e => HS.out.1 e)).trans HQ5.out.2
  have hv56 : OwnB w6 5 (.slice p5 bb.length c5) bb := OwnR.keep HV5'.out fun k hk => hc6.block k (OwnR.lt HV5'.out hk) fun e => by
    have h1 := hn6
    have h2 := HV5.out.2 k hk
    have h3 := HS.out.2.1
    have h4 := HV5.out.2 k hk
    have h5 := HR5.out k hk
    exact h5 e
  have HV6 := Lib.hid (show ∀ k, v6.ownBlock = some k → w1.heap.size ≤ k ∧ k ≠ a ∧ k ≠ a + 1 from fun k hk => by
    have h1 := hn6 k hk
    have h2 := HB5'.out.size
    have h3 := lt_of_block HQ5.out.1
    have h4 := lt_of_block HQ5.out.2
    exact ⟨by omega, by omega, by omega⟩)
  generalize (R4.grp anyG).1 = gg at *
  generalize (R4.grp anyG).2 = R5 at *
  obtain ⟨p6, c6, e6, -⟩ := own_capI hv6
  subst e6
  have c3 := cell_of hq1 (i := 3) rfl
  have f3 := frozen_of hq1 3
  have h7 := set_block hq1 3 (.slice p6 gg.length c6)
  rw [show (#[Value.int IntKind.i64 (m2 : Int), .int .i64 (m3 : Int), (.slice p5 bb.length c5), .slice none 0 0] : Array Value).setIfInBounds 3 (.slice p6 gg.length c6) = #[.int .i64 (m2 : Int), .int .i64 (m3 : Int), (.slice p5 bb.length c5), (.slice p6 gg.length c6)] from rfl] at h7
  have h70 : (w6.setCell ⟨a + 1, 3, none⟩ (.slice p6 gg.length c6)).heap[a]? = some (.cells #[.int .i64 (m1 : Int)] 3 (0, 0)) := (set_other _ (by show a ≠ a + 1; omega)).trans hq0
  have hB7 : Below w1.heap.size w1 (w6.setCell ⟨a + 1, 3, none⟩ (.slice p6 gg.length c6)) := (((Chg.of_below hB6).mono fun _ _ e => e.elim : Chg (fun k => k = a + 1) w1 w6).trans (Chg.setCell w6 ⟨a + 1, 3, none⟩ _) fun k _ e => e).below (Nat.le_refl _) fun k hk e => by have := HS.out.2.2; omega
  have HQ6 := Lib.hid (And.intro h70 h7)
  have HB7 := Lib.hid hB7
  have HW0 := Lib.hid ((hr6.at.hd).same (w' := w6.setCell ⟨a + 1, 3, none⟩ (.slice p6 gg.length c6)) (set_other _ fun e => HS.out.1 (show r = a + 1 from e).symm))
  have HU0 := Lib.hid (show EntAt (w6.setCell ⟨a + 1, 3, none⟩ (.slice p6 gg.length c6)) (⟨(m2 : Int), (m3 : Int), bb, gg⟩ : Ent) ((.slice p5 bb.length c5), (.slice p6 gg.length c6)) from ⟨OwnR.keep hv56 fun k hk => set_other _ fun e => (HV5.out.2 k hk).2.2 e, OwnR.keep hv6 fun k hk => set_other _ fun e => (HV6.out k hk).2.2 e⟩)
  clear hv6 hv56 hn6 hr6 hc6 hB6 hq0 hq1 h7 h70 hB7 HG HQ5 HV5' HB5'
  go_wp2_with fail
  clear c3 f3
  generalize w6.setCell ⟨a + 1, 3, none⟩ (.slice p6 gg.length c6) = w6' at *
  have Hla := Lib.hid (jlast_calls (H.out.next HB7.out))
  refine Hla.out.mono ?_
  rintro e w7 ⟨rfl, q, rfl⟩
  have HB8 := Lib.hid (show Below w1.heap.size w1 (w6'.drewN q) from HB7.out.trans ⟨rfl, rfl, rfl, Nat.le_refl _, fun _ _ => rfl⟩)
  have HW := Lib.hid (whole_calls (HW0.out.same (w' := w6'.drewN q) rfl))
  have hQ7 : (w6'.drewN q).heap[a]? = some (.cells #[.int .i64 (m1 : Int)] 3 (0, 0)) ∧ (w6'.drewN q).heap[a + 1]? = some (.cells #[.int .i64 (m2 : Int), .int .i64 (m3 : Int), (.slice p5 bb.length c5), (.slice p6 gg.length c6)] 47 (0, 0)) := HQ6.out
  have HU := Lib.hid (show EntAt (w6'.drewN q) (⟨(m2 : Int), (m3 : Int), bb, gg⟩ : Ent) ((.slice p5 bb.length c5), (.slice p6 gg.length c6)) from HU0.out.keep fun _ _ => rfl)
  clear Hla HW0 HQ6 HU0 HB7
  generalize w6'.drewN q = w7 at *
  have HQ7 := Lib.hid hQ7
  have Hno := Lib.hid (fun w8 (hb : Below w1.heap.size w1 w8) (ho : O = none) => rec_no (o := O) H.out hb ho)
  have hlast := H.out.okM.last
  cases hw : R5.whole with
  | false =>
    rw [hw] at HW
    have HE := Lib.hid (Hno.out w7 HB8.out (by rw [HM.out, hw, if_neg (by simp)]))
    clear hw hQ7
    go_wp2_with fail
    refine HW.out.mono ?_
    rintro e w8 ⟨rfl, rfl⟩
    go_wp2_with fail
    go_ret
    exact HE.out
  | true =>
    rw [hw] at HW
    have Hw := Lib.hid hw
    have q0 := cell_of hQ7.1 (i := 0) rfl
    have hwa : IntKind.i64.wrap ((M.last : Int) + 1) = (M.last : Int) + 1 := IntWalk.i64_in _ (by omega)
    clear hw hQ7
    by_cases h1 : m1 = M.last + 1
    · by_cases h2 : m1 ≤ 1099511627776
      · have d1 : ((m1 : Int) != (M.last : Int) + 1) = false := by simp; omega
        have d2 : decide ((1099511627776 : Int) < (m1 : Int)) = false := by simp; omega
        have d2n : decide (1099511627776 < m1) = false := by simp; omega
        have e0 := cell_of HQ7.out.2 (i := 0) rfl
        have e1 := cell_of HQ7.out.2 (i := 1) rfl
        have e2 := cell_of HQ7.out.2 (i := 2) rfl
        have e3 := cell_of HQ7.out.2 (i := 3) rfl
        have Hone := Lib.hid (isone_calls (HU.out.has (show bb.length ≤ 1099511627776 by omega) (show gg.length ≤ 1099511627776 by omega)))
        unfold entV at Hone
        have H12 := Lib.hid (And.intro h1 h2)
        clear h1 h2
        go_wp2_with fail
        refine HW.out.mono ?_
        rintro e w8 ⟨rfl, rfl⟩
        go_wp2_with fail
        refine Hone.out.mono ?_
        rintro e w9 ⟨rfl, hb9⟩
        have HB9 := Lib.hid hb9
        cases hie : isEnt (⟨(m2 : Int), (m3 : Int), bb, gg⟩ : Ent) with
        | false =>
          have HE := Lib.hid (Hno.out w9 (HB8.out.trans (hb9.mono HB8.out.size)) (by rw [HM.out, hie, if_neg (by simp)]))
          clear hie hb9
          go_wp2_with fail
          go_ret
          exact HE.out
        | true =>
          have Hie := Lib.hid hie
          have h9 := hb9
          obtain ⟨own, gv, dv, ev, us, hJ, hS, hno, hlF⟩ := H.out
          have hB19 := HB8.out.trans (h9.mono HB8.out.size)
          have hJ9 := hJ.below hB19
          obtain ⟨pe, ce, rfl⟩ := hJ.row.shape
          have c8 := hJ9.c 8 rfl
          have hb1 := (h9.block (a + 1) (lt_of_block HQ7.out.2)).trans HQ7.out.2
          have HJ := Lib.hid (And.intro hJ (And.intro hS (And.intro hno hlF)))
          have HB19 := Lib.hid hB19
          have hml : M.entries.length ≤ M.last := by unfold JouM.last; omega
          have HB1 := Lib.hid hb1
          have HU9 := Lib.hid (HU.out.keep fun k hk => h9.block k (HU.out.lt hk))
          have hm40 : M.last + 1 ≤ 1099511627776 := by have := H12.out.1; have := H12.out.2; omega
          have Hml := Lib.hid (And.intro hml hm40)
          have Hm := Lib.hid (show M.entries.length = M.entries.length from rfl)
          clear hie hb9 hJ hS hno hlF hB19 hJ9 h9 e0 e1 e2 e3 q0 hml hm40 hwa hlast
          generalize hmm : M.entries.length = m at *
          clear Hm
          have Hm := Lib.hid hmm
          clear hmm
          go_wp2_with fail
          refine g_start [10] (fun w' : World => w'.cell? ⟨j, 8, none⟩ = some (.slice pe m ce) ∧ w'.heap[a + 1]? = some (.cells #[.int .i64 (m2 : Int), .int .i64 (m3 : Int), (.slice p5 bb.length c5), (.slice p6 gg.length c6)] 47 (0, 0))) (n := 11) (by kernel_rfl) rfl (⟨c8, hb1⟩) (fun hHeld => ?_)
          have HBd := Lib.hid (show Below w9.heap.size w9 w9.drew from ⟨rfl, rfl, rfl, by simp, fun _ _ => rfl⟩)
          clear c8 hb1
          generalize hWd : w9.drew = Wd at *
          refine Gl [0,1,2,3] ?_
          iterate 4 (refine Gp rfl ?_;simp only [Act.put, uA, uB, uC])
          refine Gn ?_
          refine g_take 4 (v := ?v23x4) rfl (by kernel_rfl) (by kernel_rfl) (by kernel_rfl) (by kernel_rfl) (fun _ _ _ h => h) (by rfl) (by assumption) ?y23x4 ?_
          case y23x4 => (intro w hSw; (try dsimp only at hSw); go_simp; try with_reducible rfl)
          simp only [Act.put, List.setIfInBounds_toArray, List.set_cons_zero, List.set_cons_succ]
          refine g_take 5 (v := .agg #[.int .i64 (m2 : Int), .int .i64 (m3 : Int), (.slice p5 bb.length c5), (.slice p6 gg.length c6)]) rfl (by kernel_rfl) (by kernel_rfl) (by kernel_rfl) (by kernel_rfl) (fun _ _ _ h => h) (by rfl) (by assumption) (fun W hSw => by have q0 := cell_of hSw.2 (i := 0) rfl; have q1 := cell_of hSw.2 (i := 1) rfl; have q2 := cell_of hSw.2 (i := 2) rfl; have q3 := cell_of hSw.2 (i := 3) rfl; go_simp; try with_reducible rfl) ?_
          simp only [Act.put, List.setIfInBounds_toArray, List.set_cons_zero, List.set_cons_succ]
          refine g_one 6 rfl (by kernel_rfl) (by rfl) (fun K hK => ?_)
          have Hh10 := Lib.hid (And.intro (al_cell hHeld.1 (.cells #[.int .i64 (m2 : Int), .int .i64 (m3 : Int), (.slice p5 bb.length c5), (.slice p6 gg.length c6)] 47 (0, 0))) ((al_old _ (.cells #[.int .i64 (m2 : Int), .int .i64 (m3 : Int), (.slice p5 bb.length c5), (.slice p6 gg.length c6)] 47 (0, 0)) (lt_of_block hHeld.2)).trans hHeld.2))
          go_wp2_with fail
          refine hK.out _ _ (Hh10.out) (fun hHeld => ?_)
          clear hK
          try simp only [Act.put, List.setIfInBounds_toArray, List.set_cons_zero, List.set_cons_succ]
          refine g_one 7 rfl (by kernel_rfl) (by rfl) (fun K hK => ?_)
          obtain ⟨hJ, hS, hno, hlF⟩ := HJ.out
          have hb9 := HB19.out.trans (HBd.out.mono HB19.out.size)
          have hJ9 := hJ.below hb9
          have hU9 := HU9.out.keep fun k hk => HBd.out.block k (HU9.out.lt hk)
          have hba := below_one Wd (.cells #[.int .i64 (m2 : Int), .int .i64 (m3 : Int), (.slice p5 bb.length c5), (.slice p6 gg.length c6)] 47 (0, 0))
          have hal := (hJ9.below hba).row
          rw [Hm.out] at hal
          have hxx : Holds (Wd.alloc (.cells #[.int .i64 (m2 : Int), .int .i64 (m3 : Int), (.slice p5 bb.length c5), (.slice p6 gg.length c6)] 47 (0, 0))) 4 (.slice (some ⟨Wd.heap.size, 0, none⟩) 1 1) 1 (entC (⟨(m2 : Int), (m3 : Int), bb, gg⟩ : Ent) ((.slice p5 bb.length c5), (.slice p6 gg.length c6))) := ⟨rfl, some ⟨Wd.heap.size, 0, none⟩, 1, rfl, fun e => (by cases e), fun a ha i u hu => by
            cases ha
            rw [add_zero]
            refine cell_of (new_block Wd _) ?_
            simpa [entC] using hu⟩
          refine wp_app (.tmp 137) (.tmp 139) 38 rfl 47 i4 (.agg #[.int .i64 0, .int .i64 0, .slice none 0 0, .slice none 0 0]) 4 64 Tryz.underlying38 hi4 hz40 hz41 hz42 rfl (by decide) _ m _ rfl hal (.slice (some ⟨Wd.heap.size, 0, none⟩) 1 1) 1 _ rfl hxx (by simp [entC, Value.oneCell']) (by unfold maxLen; have := Hml.out; omega) (by have := Hml.out; omega) ?_
          intro v3 w3 hown3 hgrow3 hloc3
          obtain ⟨hP1, hP2, hP3, hP4⟩ := jouIn_push hJ9 hU9 (fun x hx ho => by
            have h2 := hJ.olt x ho
            rcases hx with hx | hx
            · have := (HV5.out.2 x hx).1
              omega
            · have := (HV6.out x hx).1
              omega) Hie.out Hml.out.2 hba (by rw [Hm.out]; exact hown3) hgrow3 hloc3
          have HE := Lib.hid (rec_ent_ok (o := O) hJ hS hno hlF hP1 (((Chg.of_below hb9).mono fun _ _ h => h.elim).trans hP2 fun _ _ h => h) (fun x hx => by
            rcases hx with hx | hx | hx
            · exact .inl hx
            · rcases hx with hx | hx
              · exact .inr (HV5.out.2 x hx).1
              · exact .inr (HV6.out x hx).1
            · exact (hP3 x hx).imp id fun h => Nat.le_trans hb9.size h) (by rw [HM.out, if_pos ⟨Hw.out, H12.out.1, H12.out.2, Hie.out⟩]))
          have hbne : ∀ x, (Value.slice pe m ce).ownBlock = some x → x ≠ a + 1 := fun x hx e => by have := hJ.olt x (hJ.oe x hx).1; have := HS.out.2.2; omega
          have hc8 : w3.cell? ⟨j, 8, none⟩ = some (.slice pe m ce) := cell_of (hP4.trans hJ9.cells) (i := 8) rfl
          have hf8 : w3.frozen? ⟨j, 8, none⟩ = false := frozen_of (hP4.trans hJ9.cells) 8
          have hbx : w3.heap[a + 1]? = some (.cells #[.int .i64 (m2 : Int), .int .i64 (m3 : Int), (.slice p5 bb.length c5), (.slice p6 gg.length c6)] 47 (0, 0)) := (hgrow3.block _ (lt_of_block hHeld.2) fun e => hbne _ e.symm rfl).trans hHeld.2
          obtain ⟨p3, q3, rfl⟩ := OwnR.shape hown3
          clear hJ hS hno hlF hJ9 hba hal hxx hown3 hgrow3 hloc3 hP1 hP2 hP3 hP4 hbne hb9 hU9
          refine hK.out _ _ ⟨hc8, hbx⟩ (fun hHeld => ?_)
          clear hK
          try simp only [Act.put, List.setIfInBounds_toArray, List.set_cons_zero, List.set_cons_succ]
          refine Gl [8,9] ?_
          iterate 2 (refine Gp rfl ?_;simp only [Act.put, uA, uB, uC])
          refine Gn ?_
          refine g_end 10 rfl (by kernel_rfl) (by rfl) (by kernel_rfl) (fun K hK => ?_)
          go_wp2_with fail
          refine hK.out _ _ ?_
          clear hK
          try simp only [Act.put, List.setIfInBounds_toArray, List.set_cons_zero, List.set_cons_succ]
          refine g_done (by kernel_rfl) ?_ _
          go_wp2_with fail
          go_ret
          exact HE.out
      · have d2 : decide ((1099511627776 : Int) < (m1 : Int)) = true := by simp; omega
        have d2n : decide (1099511627776 < m1) = true := by simp; omega
        have d1 : ((m1 : Int) != (M.last : Int) + 1) = false := by simp; omega
        have HE := Lib.hid (Hno.out w7 HB8.out (by rw [HM.out, if_neg (fun e => h2 e.2.2.1)]))
        clear h1 h2
        go_wp2_with fail
        refine HW.out.mono ?_
        rintro e w8 ⟨rfl, rfl⟩
        go_wp2_with fail
        go_ret
        exact HE.out
    · have d1 : ((m1 : Int) != (M.last : Int) + 1) = true := by simp; omega
      have HE := Lib.hid (Hno.out w7 HB8.out (by rw [HM.out, if_neg (fun e => h1 e.2.1)]))
      clear h1
      go_wp2_with fail
      refine HW.out.mono ?_
      rintro e w8 ⟨rfl, rfl⟩
      go_wp2_with fail
      go_ret
      exact HE.out
end
end Go.Proofs.YtngflpaooppmhaaGreat

namespace Go.Proofs.YtngflpaooppmhaaGreat
open Go.RowKit Go.Sat Go.Maps

section
variable {w w1 w2 : World} {j d : Nat} {pre : ByteArray} {D : DiskM} {M : JouM} {F : Nat → Prop}

theorem record_calls (h : JouF w w1 j d pre D M F) (f : Bool) (he : f = true → M.entries = []) {p : Option Addr} {n c : Nat} {b : Bs} (hx : HasB w1 (.slice p n c) b) (hl : b.length ≤ 1073741824) :
    Calls Tryz.prog 102 #[.pointer (some ⟨j, 0, none⟩), .bool f, .slice p n c] w1 (RecTold w w1 j d pre D F (rec1 f M b)) := by
  have hn : n = b.length := by
    obtain ⟨_, _, e⟩ := hx.slice
    simp only [Value.slice.injEq] at e
    exact e.2.1
  subst hn
  cases b with
  | nil => exact rec_nil h f hx
  | cons k l =>
    by_cases h1 : f ≠ decide (k = 1)
    · exact rec_else h hx hl (.inl h1)
    · have h1 : f = decide (k = 1) := by simpa using h1
      by_cases hk1 : k = 1
      · subst hk1
        rw [h1]
        exact rec_k1 h hx hl (he (by rw [h1]; rfl))
      · rw [decide_eq_false hk1] at h1
        subst h1
        by_cases hk2 : k = 2
        · subst hk2
          exact rec_k2 h hx hl
        · by_cases hk3 : k = 3
          · subst hk3
            exact rec_k3 h hx hl
          · by_cases hk4 : k = 4
            · subst hk4
              exact rec_k4 h hx hl
            · exact rec_else h hx hl (.inr ⟨hk1, hk2, hk3, hk4⟩)
end
end Go.Proofs.YtngflpaooppmhaaGreat
