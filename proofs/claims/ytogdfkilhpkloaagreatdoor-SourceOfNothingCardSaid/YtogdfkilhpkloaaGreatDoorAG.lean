/- ledger: log. (Printed by mkled5.py.) ledger: Open. ledger: Append. (Printed by mkled6.py.) ledger: Write. (Printed by mkled7.py.) -/
import Derived.Test.YtogdfkilhpkloaaGreatDoorAA
import Derived.Test.YtogdfkilhpkloaaGreatDoorAF
namespace Go.Proofs.YtogdfkilhpkloaaGreatDoor
open Go.RowKit Go.Sat Go.Maps

section
variable {w w1 w2 : World} {l d t : Nat} {pre : ByteArray} {D : DiskM} {M : LedM} {F F' : Nat → Prop}

theorem led_has (h : LedF w w1 l d pre D M F) (s : ByteArray) :
    Calls Tryz.prog 161 #[.pointer (some ⟨d, 0, none⟩), .string s] w1 fun e w' => e = .returned (.bool (Sat.get (nm s) D.files).isSome) ∧ Below w1.heap.size w1 w' := by
  refine (has_calls h.st s).mono ?_
  rintro e w' ⟨rfl, hb, -⟩
  exact ⟨rfl, hb⟩
theorem led_read (h : LedF w w1 l d pre D M F) (s : ByteArray) (hs : s.size ≤ 9223372036854775807) :
    Calls Tryz.prog 162 #[.pointer (some ⟨d, 0, none⟩), .string s] w1 fun e w' => ∃ v, e = .returned (.tuple #[v, .int .i64 (readE (Sat.get (nm s) D.files))]) ∧ OwnB w' 5 v (dataOf (Sat.get (nm s) D.files)) ∧ (∀ k, v.ownBlock = some k → w1.heap.size ≤ k) ∧ Below w1.heap.size w1 w' := by
  refine (st_read h.st s hs).mono ?_
  rintro e w' ⟨v, rfl, hv, hn, hb, -⟩
  exact ⟨v, rfl, hv, hn, hb⟩
theorem led_trunc (h : LedF w w1 l d pre D M F) (s : ByteArray) (hs : s.size ≤ 9223372036854775807) (z : Int) (hz : -9223372036854775808 ≤ z) (hz' : z ≤ 9223372036854775807) :
    Calls Tryz.prog 165 #[.pointer (some ⟨d, 0, none⟩), .string s, .int .i64 z] w1 fun e w' => e = .returned (.int .i64 ((D.truncate (nm s) z).2 : Int)) ∧ LedF w w' l d pre (D.truncate (nm s) z).1 M F ∧ Same F w1 w' ∧ w'.heap[l]? = w1.heap[l]? :=
  led_disk h (Below.refl _ _) fun _ hS => st_trunc hS s hs z hz hz'
theorem led_sync (h : LedF w w1 l d pre D M F) (s : ByteArray) (hs : s.size ≤ 9223372036854775807) :
    Calls Tryz.prog 117 #[.pointer (some ⟨d, 0, none⟩), .slice (some ⟨w1.heap.size, 0, none⟩) 1 1] (w1.alloc (.cells #[.string s] 9)) fun e w' => e = .returned (.int .i64 ((D.sync [nm s]).2 : Int)) ∧ LedF w w' l d pre (D.sync [nm s]).1 M F ∧ Same F w1 w' ∧ w'.heap[l]? = w1.heap[l]? :=
  led_disk h (below_one _ _) fun _ hS => st_sync hS [s] w1.heap.size 1 rfl (0, 0) (by simp) (by simpa using hs)
theorem led_remove (h : LedF w w1 l d pre D M F) (s : ByteArray) (hs : s.size ≤ 9223372036854775807) :
    Calls Tryz.prog 166 #[.pointer (some ⟨d, 0, none⟩), .slice (some ⟨w1.heap.size, 0, none⟩) 1 1] (w1.alloc (.cells #[.string s] 9)) fun e w' => e = .returned (.int .i64 ((D.remove [nm s]).2 : Int)) ∧ LedF w w' l d pre (D.remove [nm s]).1 M F ∧ Same F w1 w' ∧ w'.heap[l]? = w1.heap[l]? :=
  led_disk h (below_one _ _) fun _ hS => st_remove hS [s] w1.heap.size 1 rfl (0, 0) (by simp) (by simpa using hs)

/-- What reading the log leaves. -/
def LogTold (w w1 : World) (l d : Nat) (pre : ByteArray) (M : LedM) (F : Nat → Prop) (r : DiskM × Nat × List Bs) (e : Ending) (w' : World) : Prop :=
  e = .returned (.int .i64 (r.2.1 : Int)) ∧ St w w' d r.1 F ∧ Same F w1 w' ∧ (r.2.1 = 0 → LedF w w' l d pre r.1 { M with entries := r.2.2 } F)

theorem log_end {r : DiskM × Nat × List Bs} {k : Nat} {es : List Bs} (h : LedF w w2 l d pre D { M with entries := es } F) (hs : Same F w1 w2) (hr : r = (D, k, es)) : LogTold w w1 l d pre M F r (.returned (.int .i64 (k : Int))) w2 := by
  subst hr
  exact ⟨rfl, h.stF, hs, fun _ => h⟩
theorem log_bad {r : DiskM × Nat × List Bs} {k : Nat} {es : List Bs} (h : St w w2 d D F) (hs : Same F w1 w2) (hr : r = (D, k, es)) (hk : k ≠ 0) : LogTold w w1 l d pre M F r (.returned (.int .i64 (k : Int))) w2 := by
  subst hr
  exact ⟨rfl, h, hs, fun e => (hk e).elim⟩

theorem takeAll_cons (base : Nat) (s : Int × List Bs) (p : Bs) (r : List Bs) : takeAll base s (p :: r) = match take1 base s p with | none => none | some t => takeAll base t r := rfl

/-- A record's number is none above what there may be. -/
theorem take1_le {base : Nat} {s s' : Int × List Bs} {p : Bs} (h : take1 base s p = some s') : -1 ≤ s'.1 ∧ s'.1 ≤ 1099511627776 := by
  unfold take1 at h
  split at h
  · cases h
  · rename_i hc
    have h2 : ¬ 1099511627776 < (Rd.num ⟨p, false⟩).1 := fun e => hc (.inr (.inr (.inl e)))
    split at h
    · cases h
      exact ⟨by show (-1 : Int) ≤ _; omega, by show ((Rd.num ⟨p, false⟩).1 : Int) ≤ _; omega⟩
    · split at h
      · cases h
      · cases h
        exact ⟨by show (-1 : Int) ≤ _; omega, by show ((Rd.num ⟨p, false⟩).1 : Int) ≤ _; omega⟩

theorem RowsIn.keep {w w' : World} {v : Value} {vs : List Value} {ls : List Bs} (h : RowsIn w v vs ls) (hs : ∀ j, (v.ownBlock = some j ∨ ∃ u ∈ vs, u.ownBlock = some j) → w'.heap[j]? = w.heap[j]?) : RowsIn w' v vs ls :=
  ⟨h.row.keep fun k hk => hs k (.inl hk), fun i u b hu hl => OwnR.keep (h.has i u b hu hl) fun k hk => hs k (.inr ⟨u, List.mem_of_getElem? hu, hk⟩), h.sep⟩

theorem told_none {la : Int} {b : Bs} {e : Ending} {w' : World} (h : TakeTold w w1 l d pre D M F t la b e w') (hc : take1 M.base (la, M.entries) b = none) : St w w' d D F ∧ (∀ k, F k → k ≠ t → w'.heap[k]? = w1.heap[k]?) ∧ e = .returned (.bool false) := by
  unfold TakeTold at h
  rw [hc] at h
  exact h
theorem told_some {la : Int} {b : Bs} {e : Ending} {w' : World} {s : Int × List Bs} (h : TakeTold w w1 l d pre D M F t la b e w') (hc : take1 M.base (la, M.entries) b = some s) : (∀ k, F k → k ≠ t → w'.heap[k]? = w1.heap[k]?) ∧ e = .returned (.bool true) ∧ LedF w w' l d pre D { M with entries := s.2 } F ∧ w'.heap[t]? = some (takerO l s.1) := by
  unfold TakeTold at h
  rw [hc] at h
  exact ⟨h.2.1, h.2.2⟩

/-- The loop's relation. -/
def LogRel (w w1 : World) (l d t : Nat) (pre : ByteArray) (D : DiskM) (M : LedM) (G : Nat → Prop) (rows : List Bs) (n : Nat) (i : Value) (wr : World) : Prop :=
  ∃ (k : Nat) (la : Int) (es : List Bs), k ≤ n ∧ i = .int .i64 k ∧ LedF w wr l d pre D { M with entries := es } G ∧ wr.heap[t]? = some (takerO l la) ∧ (∀ j, G j → j ≠ t → wr.heap[j]? = w1.heap[j]?) ∧ -1 ≤ la ∧ la ≤ 1099511627776 ∧ takeAll M.base (-1, []) rows = takeAll M.base (la, es) (rows.drop k)

/-- What is set apart in the loop. -/
def LogF (F : Nat → Prop) (v : Value) (vs : List Value) (t : Nat) (k : Nat) : Prop := F k ∨ v.ownBlock = some k ∨ (∃ u ∈ vs, u.ownBlock = some k) ∨ k = t

theorem log_some {f : FileM} (h : Sat.get (logN (nm pre)) D.files = some f) (base : Nat) : logOf D (nm pre) base = match takeAll base (-1, []) (scan f.data).1 with
    | none => (D, 3, [])
    | some s =>
      if (tornOff D (logN (nm pre)) (scan f.data).2 f.data.length).2 ≠ 0 then ((tornOff D (logN (nm pre)) (scan f.data).2 f.data.length).1, (tornOff D (logN (nm pre)) (scan f.data).2 f.data.length).2, s.2)
      else if s.2 = [] then (((tornOff D (logN (nm pre)) (scan f.data).2 f.data.length).1.remove [logN (nm pre)]).1, ((tornOff D (logN (nm pre)) (scan f.data).2 f.data.length).1.remove [logN (nm pre)]).2, s.2)
      else ((tornOff D (logN (nm pre)) (scan f.data).2 f.data.length).1, 0, s.2) := by
  unfold logOf
  rw [h]
  rfl

theorem scan_rows_le (k : Nat) : ∀ b : Bs, b.length ≤ k → (∀ x ∈ (scan b).1, x.length ≤ b.length) ∧ (scan b).1.length ≤ b.length := by
  induction k with
  | zero =>
    intro b h
    rw [scan_stop (.inl (List.eq_nil_of_length_eq_zero (by omega)))]
    exact ⟨fun x hx => by simp at hx, Nat.zero_le _⟩
  | succ k ih =>
    intro b h
    by_cases he : decE b = 0
    · have hd := decL_pos he
      have hi := ih (b.drop (decL b)) (by rw [List.length_drop]; omega)
      rw [scan_go he]
      rw [List.length_drop] at hi
      refine ⟨fun x hx => ?_, ?_⟩
      · rcases List.mem_cons.1 hx with rfl | hx
        · unfold decB
          rw [if_pos he, List.length_take, List.length_drop]
          omega
        · exact Nat.le_trans (hi.1 x hx) (by omega)
      · show _ + 1 ≤ _
        omega
    · rw [scan_stop (.inr he)]
      exact ⟨fun x hx => by simp at hx, Nat.zero_le _⟩

theorem scan_row {b x : Bs} {n : Nat} (h : n ≤ 1073741824) (hn : b.length = n) (hx : x ∈ (scan b).1) : x.length ≤ 1073741824 := Nat.le_trans ((scan_rows_le _ b (Nat.le_refl _)).1 x hx) (by omega)
theorem scan_count {b : Bs} {n : Nat} {rows : List Bs} (h : n ≤ 1073741824) (hn : b.length = n) (hr : (scan b).1 = rows) : rows.length ≤ 1073741824 := by
  rw [← hr]
  exact Nat.le_trans (scan_rows_le _ b (Nat.le_refl _)).2 (by omega)

set_option maxRecDepth 100000 in
set_option maxHeartbeats 16000000 in
theorem log_calls (h : LedF w w1 l d pre D M F) (he0 : M.entries = []) :
    Calls Tryz.prog 93 #[.pointer (some ⟨l, 0, none⟩)] w1 (LogTold w w1 l d pre M F (logOf D (nm pre) M.base)) := by
  have hps := h.psz.2
  have hM : M = { M with entries := [] } := by rw [← he0]
  have hln := data_len h.okD (logN (nm pre))
  have hmf : ∀ (fn : Fn) (first cap : Array Value) (w : World), (Instr.makeFunc fn first cap).run Tryz.prog w = .ok (.func fn first cap) w := fun _ _ _ _ => rfl
  have H := Lib.hid h
  have HM := Lib.hid hM
  clear h hM
  cases ho : Sat.get (logN (nm pre)) D.files with
  | none =>
    have HR := Lib.hid (show logOf D (nm pre) M.base = (D, 0, []) from by unfold logOf; rw [ho])
    clear hln hmf
    go_enter Tryz.func93, Tryz.ntmps93
    go_wp2_with fail
    have Hsd := Lib.hid (H.out.same (below_drew w1))
    have HLd := Lib.hid (H.out.next (below_drew _))
    obtain ⟨hc0, hc1, -⟩ := H.out.lc
    refine ord_start (fun w' : World => w'.cell? ⟨l, 0, none⟩ = some (.pointer (some ⟨d, 0, none⟩)) ∧ w'.cell? ⟨l, 1, none⟩ = some (.string pre)) (n := 8) (by kernel_rfl) rfl (⟨hc0, hc1⟩) (fun hHeld => ?_)
    generalize w1.drew = W1 at *
    refine Pl [0,1,2,3,4] ?_
    iterate 5 (refine Pc rfl ?_;simp only [Act.put, uA, uB, uC])
    refine Pn ?_
    refine ord_one 5 rfl (by kernel_rfl) (by rfl) (fun K hK => ?_)
    go_wp2_with fail
    refine (logName_calls ⟨hHeld.1, hHeld.2, hps⟩).mono ?_
    rintro e w9 ⟨rfl, rfl⟩
    go_wp2_with fail
    refine hK.out _ _ (hHeld) (fun hHeld => ?_)
    clear hK
    try simp only [Act.put, List.setIfInBounds_toArray, List.set_cons_zero, List.set_cons_succ]
    refine ord_one 6 rfl (by kernel_rfl) (by rfl) (fun K hK => ?_)
    have Hcl := Lib.hid (led_has HLd.out (sLog pre))
    rw [nm_log] at Hcl
    go_wp2_with fail
    refine Hcl.out.mono ?_
    rintro e w2 ⟨rfl, hb2⟩
    have Hh3 := Lib.hid (HLd.out.lc.same (hb2.block l HLd.out.llt))
    have HE := Lib.hid (show LogTold w w1 l d pre M F (logOf D (nm pre) M.base) (.returned (.int .i64 0)) w2 from log_end (k := 0) (by rw [← HM.out]; exact HLd.out.next hb2) (fun k hk => (HLd.out.same hb2 k hk).trans (Hsd.out k hk)) HR.out)
    rw [ho]
    clear hb2 Hcl
    go_wp2_with fail
    refine hK.out _ _ (⟨Hh3.out.1, Hh3.out.2.1⟩) (fun hHeld => ?_)
    clear hK
    try simp only [Act.put, List.setIfInBounds_toArray, List.set_cons_zero, List.set_cons_succ]
    refine ord_take 7 (v := ?v1x7) rfl (by kernel_rfl) (by kernel_rfl) (by kernel_rfl) (fun _ _ _ h => h) (by rfl) (by assumption) ?y1x7 ?_
    case y1x7 => (intro w hSw; (try dsimp only at hSw); go_simp; try with_reducible rfl)
    simp only [Act.put, List.setIfInBounds_toArray, List.set_cons_zero, List.set_cons_succ]
    refine wpAnyH_done (by kernel_rfl) ?_ _
    go_wp2_with fail
    go_ret
    exact HE.out
  | some f =>
    rw [ho] at hln
    have hdl : f.data.length ≤ 1073741824 := hln
    have HR := Lib.hid (log_some ho M.base)
    have hq30 := scan_le f.data
    clear hln
    go_enter Tryz.func93, Tryz.ntmps93
    go_wp2_with fail
    have Hsd := Lib.hid (H.out.same (below_drew w1))
    have HLd := Lib.hid (H.out.next (below_drew _))
    obtain ⟨hc0, hc1, -⟩ := H.out.lc
    refine ord_start (fun w' : World => w'.cell? ⟨l, 0, none⟩ = some (.pointer (some ⟨d, 0, none⟩)) ∧ w'.cell? ⟨l, 1, none⟩ = some (.string pre)) (n := 8) (by kernel_rfl) rfl (⟨hc0, hc1⟩) (fun hHeld => ?_)
    generalize w1.drew = W1 at *
    refine Pl [0,1,2,3,4] ?_
    iterate 5 (refine Pc rfl ?_;simp only [Act.put, uA, uB, uC])
    refine Pn ?_
    refine ord_one 5 rfl (by kernel_rfl) (by rfl) (fun K hK => ?_)
    go_wp2_with fail
    refine (logName_calls ⟨hHeld.1, hHeld.2, hps⟩).mono ?_
    rintro e w9 ⟨rfl, rfl⟩
    go_wp2_with fail
    refine hK.out _ _ (hHeld) (fun hHeld => ?_)
    clear hK
    try simp only [Act.put, List.setIfInBounds_toArray, List.set_cons_zero, List.set_cons_succ]
    refine ord_one 6 rfl (by kernel_rfl) (by rfl) (fun K hK => ?_)
    have Hcl := Lib.hid (led_has HLd.out (sLog pre))
    rw [nm_log] at Hcl
    go_wp2_with fail
    refine Hcl.out.mono ?_
    rintro e w2 ⟨rfl, hb2⟩
    have Hh3 := Lib.hid (HLd.out.lc.same (hb2.block l HLd.out.llt))
    have HL2 := Lib.hid (HLd.out.next hb2)
    have Hs2 := Lib.hid (show Same F w1 w2 from fun k hk => (HLd.out.same hb2 k hk).trans (Hsd.out k hk))
    rw [ho]
    clear hb2 Hcl
    go_wp2_with fail
    refine hK.out _ _ (⟨Hh3.out.1, Hh3.out.2.1⟩) (fun hHeld => ?_)
    clear hK
    try simp only [Act.put, List.setIfInBounds_toArray, List.set_cons_zero, List.set_cons_succ]
    refine ord_take 7 (v := ?v2x7) rfl (by kernel_rfl) (by kernel_rfl) (by kernel_rfl) (fun _ _ _ h => h) (by rfl) (by assumption) ?y2x7 ?_
    case y2x7 => (intro w hSw; (try dsimp only at hSw); go_simp; try with_reducible rfl)
    simp only [Act.put, List.setIfInBounds_toArray, List.set_cons_zero, List.set_cons_succ]
    refine wpAnyH_done (by kernel_rfl) ?_ _
    clear HLd Hsd Hh3
    go_wp2_with fail
    have Hsd := Lib.hid (show Same F w1 w2.drew from Hs2.out)
    have HLd := Lib.hid (HL2.out.next (below_drew _))
    obtain ⟨hc0, hc1, -⟩ := HL2.out.lc
    refine ord_start (fun w' : World => w'.cell? ⟨l, 0, none⟩ = some (.pointer (some ⟨d, 0, none⟩)) ∧ w'.cell? ⟨l, 1, none⟩ = some (.string pre)) (n := 12) (by kernel_rfl) rfl (⟨hc0, hc1⟩) (fun hHeld => ?_)
    generalize w2.drew = W1 at *
    refine Pl [0,1,2,3,4] ?_
    iterate 5 (refine Pc rfl ?_;simp only [Act.put, uA, uB, uC])
    refine Pn ?_
    refine ord_one 5 rfl (by kernel_rfl) (by rfl) (fun K hK => ?_)
    go_wp2_with fail
    refine (logName_calls ⟨hHeld.1, hHeld.2, hps⟩).mono ?_
    rintro e w9 ⟨rfl, rfl⟩
    go_wp2_with fail
    refine hK.out _ _ (hHeld) (fun hHeld => ?_)
    clear hK
    try simp only [Act.put, List.setIfInBounds_toArray, List.set_cons_zero, List.set_cons_succ]
    refine ord_one 6 rfl (by kernel_rfl) (by rfl) (fun K hK => ?_)
    have Hcl := Lib.hid (led_read HLd.out (sLog pre) (by rw [size_log]; omega))
    rw [nm_log] at Hcl
    go_wp2_with fail
    refine Hcl.out.mono ?_
    rintro e w3 ⟨v2, rfl, hv2, hn2, hb2⟩
    have Hh3 := Lib.hid (HLd.out.lc.same (hb2.block l HLd.out.llt))
    have HL3 := Lib.hid (HLd.out.next hb2)
    have Hs3 := Lib.hid (show Same F w1 w3 from fun k hk => (HLd.out.same hb2 k hk).trans (Hsd.out k hk))
    rw [ho]
    rw [ho] at hv2
    have Hv3 := Lib.hid (show OwnB w3 5 v2 f.data from hv2)
    rw [show readE (some f) = 0 from rfl]
    clear hb2 hv2 hn2 Hcl
    go_wp2_with fail
    refine hK.out _ _ (⟨Hh3.out.1, Hh3.out.2.1⟩) (fun hHeld => ?_)
    clear hK
    try simp only [Act.put, List.setIfInBounds_toArray, List.set_cons_zero, List.set_cons_succ]
    refine Pl [7,8,9,10,11] ?_
    iterate 5 (refine Pc rfl ?_;simp only [Act.put, uA, uB, uC])
    refine Pn ?_
    refine wpAnyH_done (by kernel_rfl) ?_ _
    obtain ⟨pb, cb, rfl, hcap⟩ := own_cap0 Hv3.out
    have Hsc := Lib.hid (scan_calls Hv3.out.has hcap hdl)
    clear HLd Hsd Hh3 Hs2 HL2 hcap
    generalize hlen : f.data.length = len at *
    go_wp2_with fail
    refine Hsc.out.mono ?_
    rintro e w4 ⟨v4, vs, rfl, hr4, hn4, hb4⟩
    have HL4 := Lib.hid (show LedF w (w4.alloc (takerO l (-1))) l d pre D M (LogF F v4 vs w4.heap.size) from HL3.out.more (hb4.alloc hb4.size _) fun k hk => by
      rcases hk with hk | hk | ⟨u, hu, hk⟩ | rfl
      · exact .inl hk
      · exact .inr ⟨hn4.1 k hk, by have := OwnR.lt hr4.row hk; simp; omega⟩
      · obtain ⟨c, hc⟩ := mem_rows hr4 hu
        exact .inr ⟨hn4.2 u hu k hk, by have := OwnR.lt hc hk; simp; omega⟩
      · exact .inr ⟨hb4.size, by simp⟩)
    have Hs4 := Lib.hid (show Same F w1 (w4.alloc (takerO l (-1))) from fun k hk => (HL3.out.same (hb4.alloc hb4.size _) k hk).trans (Hs3.out k hk))
    have HR4 := Lib.hid (hr4.below (below_one0 w4 (takerO l (-1))))
    have Htk := Lib.hid (new_block w4 (takerO l (-1)))
    have Htn := Lib.hid (show w.heap.size ≤ w4.heap.size from Nat.le_trans HL3.out.bel.size hb4.size)
    have Hnt := Lib.hid (show ∀ k, v4.ownBlock = some k → k ≠ w4.heap.size from fun k hk e => by have := OwnR.lt hr4.row hk; omega)
    have Hnt2 := Lib.hid (show ∀ u ∈ vs, ∀ k, u.ownBlock = some k → k ≠ w4.heap.size from fun u hu k hk e => by obtain ⟨c, hc⟩ := mem_rows hr4 hu; have := OwnR.lt hc hk; omega)
    have Hrl := Lib.hid (show ∀ x ∈ (scan f.data).1, x.length ≤ 1073741824 from fun x hx => scan_row hdl hlen hx)
    have Hjt := Lib.hid (show ∀ j, F j → j ≠ w4.heap.size from fun j hj e => by have h1 := HL3.out.flt hj; have h2 := hb4.size; omega)
    clear hr4 hn4 hb4 Hsc HL3 Hs3
    obtain ⟨pr, cr, rfl⟩ := OwnR.shape HR4.out.row
    generalize hq : (scan f.data).2 = q at *
    generalize hrows : (scan f.data).1 = rows at *
    have hnr : rows.length ≤ 1073741824 := scan_count hdl hlen hrows
    generalize hnn : rows.length = n at *
    have Hnn := Lib.hid hnn
    clear hq hrows hnn
    go_wp2_with fail
    go_loopw [44] (LogRel w (w4.alloc (takerO l (-1))) l d w4.heap.size pre D M (LogF F (.slice pr n cr) vs w4.heap.size) rows n) (fun i _ => n - (intOf i).toNat)
    case atStart => exact ⟨0, -1, [], Nat.zero_le _, rfl, by rw [← HM.out]; exact HL4.out, Htk.out, fun _ _ _ => rfl, by omega, by omega, rfl⟩
    case round =>
      clear HL4 Htk
      obtain ⟨k, la, es, hk, rfl, hL, ht, hsm, h1, h2, htk⟩ := hrel
      by_cases hlt : k < n
      · have hkl : k < rows.length := by rw [Hnn.out]; exact hlt
        rw [List.drop_eq_getElem_cons hkl, takeAll_cons] at htk
        have hRW := HR4.out.keep (w' := wr) fun j hj => by
          rcases hj with hj | ⟨u, hu, hj⟩
          · exact hsm j (.inr (.inl hj)) (Hnt.out j hj)
          · exact hsm j (.inr (.inr (.inl ⟨u, hu, hj⟩))) (Hnt2.out u hu j hj)
        have hkv : k < vs.length := by rw [hRW.len]; exact hkl
        have hxr := hRW.has k _ _ (List.getElem?_eq_getElem hkv) (List.getElem?_eq_getElem hkl)
        have hcell : ∃ g, pr = some ⟨g, 0, none⟩ ∧ wr.cell? ⟨g, k, none⟩ = some vs[k] := by
          rcases hRW.row.2 with ⟨-, h0⟩ | ⟨g, cap, cur, e, -⟩
          · omega
          · refine ⟨g, ?_, ?_⟩
            · simp only [Value.slice.injEq] at e
              exact e.1
            · have hc := hRW.row.cells (g := g) (by rw [e]; rfl) k _ (List.getElem?_eq_getElem hkv)
              rwa [add_zero] at hc
        obtain ⟨g, rfl, hcell⟩ := hcell
        have hx30 := Hrl.out _ (List.getElem_mem hkl)
        obtain ⟨px, cx, hpx, -⟩ := own_cap0 hxr
        rw [hpx] at hxr hcell
        have Hta := Lib.hid (takes_calls hL ht (.inr (.inr (.inr rfl))) Htn.out hxr.has hx30 h1 h2)
        have Hsm := Lib.hid hsm
        have hxl : rows[k].length ≤ 1073741824 := hx30
        cases hc : take1 M.base (la, es) rows[k] with
        | none =>
          rw [hc] at htk
          have HRn := Lib.hid (show logOf D (nm pre) M.base = (D, 3, []) from by rw [HR.out, htk])
          have Hc := Lib.hid hc
          clear hL ht hsm htk hRW hxr hx30 hc hpx hkv
          generalize rows[k] = x at *
          generalize x.length = m at *
          clear hkl
          go_wp2_with fail
          refine Hta.out.mono ?_
          intro e w6 hT
          obtain ⟨hS6, hF6, rfl⟩ := told_none hT Hc.out
          have HE := Lib.hid (show LogTold w w1 l d pre M F (logOf D (nm pre) M.base) (.returned (.int .i64 3)) w6 from log_bad (k := 3) (hS6.less fun _ h => .inl h) (fun j hj => (hF6 j (.inl hj) (Hjt.out j hj)).trans ((Hsm.out j (.inl hj) (Hjt.out j hj)).trans (Hs4.out j hj))) HRn.out (by decide))
          clear hS6 hF6 hT
          go_wp2_with fail
          go_ret
          exact HE.out
        | some s =>
          rw [hc] at htk
          have Hc := Lib.hid hc
          have Hk := Lib.hid (show takeAll M.base (-1, []) rows = takeAll M.base (s.1, s.2) (rows.drop (k + 1)) from htk)
          have Hle := Lib.hid (take1_le hc)
          clear hL ht hsm htk hRW hxr hx30 hc hpx hkv
          generalize rows[k] = x at *
          generalize x.length = m at *
          clear hkl
          go_wp2_with fail
          refine Hta.out.mono ?_
          intro e w6 hT
          obtain ⟨hF6, rfl, hL6, ht6⟩ := told_some hT Hc.out
          have HE := Lib.hid (And.intro hL6 (And.intro ht6 (show ∀ j, LogF F (.slice (some ⟨g, 0, none⟩) n cr) vs w4.heap.size j → j ≠ w4.heap.size → w6.heap[j]? = (w4.alloc (takerO l (-1))).heap[j]? from fun j hj hjt => (hF6 j hj hjt).trans (Hsm.out j hj hjt))))
          clear hF6 hL6 ht6 hT
          go_wp2_with fail
          go_roundw
          case rel => exact ⟨k + 1, s.1, s.2, by omega, by go_num, HE.out.1, HE.out.2.1, HE.out.2.2, Hle.out.1, Hle.out.2, Hk.out⟩
          case measure => simp [intOf]; omega
      · have hrn : rows.drop k = [] := List.drop_of_length_le (by rw [Hnn.out]; omega)
        have htk2 : takeAll M.base (-1, []) rows = some (la, es) := by rw [htk, hrn]; rfl
        have HLf := Lib.hid (show LedF w wr l d pre D { M with entries := es } F from hL.less fun _ h => .inl h)
        have Hsf := Lib.hid (show Same F w1 wr from fun j hj => (hsm j (.inl hj) (Hjt.out j hj)).trans (Hs4.out j hj))
        have hR2 := HR.out
        rw [htk2] at hR2
        clear hL ht hsm htk htk2 hrn HR4 Hs4 Hrl Hnt Hnt2 Htn Hjt HR
        by_cases hq : q < len
        · cases htr : D.truncate (logN (nm pre)) (q : Int) with
          | mk D1 e1 =>
            have Htr := Lib.hid (show ∀ W, LedF w W l d pre D { M with entries := es } F → Calls Tryz.prog 165 #[.pointer (some ⟨d, 0, none⟩), .string (sLog pre), .int .i64 (q : Int)] W fun e w' => e = .returned (.int .i64 (e1 : Int)) ∧ LedF w w' l d pre D1 { M with entries := es } F ∧ Same F W w' ∧ w'.heap[l]? = W.heap[l]? from fun W h => by
              have := led_trunc h (sLog pre) (by rw [size_log]; omega) (q : Int) (by omega) (by omega)
              rwa [nm_log, htr] at this)
            by_cases he1 : e1 = 0
            · subst he1
              cases hsy : D1.sync [logN (nm pre)] with
              | mk D2 e2 =>
                have hT : tornOff D (logN (nm pre)) q len = (D2, e2) := by unfold tornOff; rw [if_pos hq, htr, if_neg (by simp)]; exact hsy
                have Hsy := Lib.hid (show ∀ W, LedF w W l d pre D1 { M with entries := es } F → Calls Tryz.prog 117 #[.pointer (some ⟨d, 0, none⟩), .slice (some ⟨W.heap.size, 0, none⟩) 1 1] (W.alloc (.cells #[.string (sLog pre)] 9)) fun e w' => e = .returned (.int .i64 (e2 : Int)) ∧ LedF w w' l d pre D2 { M with entries := es } F ∧ Same F W w' ∧ w'.heap[l]? = W.heap[l]? from fun W h => by
                  have := led_sync h (sLog pre) (by rw [size_log]; omega)
                  rwa [nm_log, hsy] at this)
                rw [hT] at hR2
                have HR2 := Lib.hid hR2
                clear htr hsy hT hR2
                by_cases he2 : e2 = 0
                · subst he2
                  go_wp2_with fail
                  have Hsd := Lib.hid (show Same F w1 wr.drew from Hsf.out)
                  have HLd := Lib.hid (HLf.out.next (below_drew _))
                  obtain ⟨hc0, hc1, -⟩ := HLf.out.lc
                  refine ord_start (fun w' : World => w'.cell? ⟨l, 0, none⟩ = some (.pointer (some ⟨d, 0, none⟩)) ∧ w'.cell? ⟨l, 1, none⟩ = some (.string pre)) (n := 9) (by kernel_rfl) rfl (⟨hc0, hc1⟩) (fun hHeld => ?_)
                  generalize wr.drew = W1 at *
                  refine Pl [0,1,2,3,4,6] ?_
                  iterate 6 (refine Pc rfl ?_;simp only [Act.put, uA, uB, uC])
                  refine Pn ?_
                  refine ord_one 5 rfl (by kernel_rfl) (by rfl) (fun K hK => ?_)
                  go_wp2_with fail
                  refine (logName_calls ⟨hHeld.1, hHeld.2, hps⟩).mono ?_
                  rintro e w9 ⟨rfl, rfl⟩
                  go_wp2_with fail
                  refine hK.out _ _ (hHeld) (fun hHeld => ?_)
                  clear hK
                  try simp only [Act.put, List.setIfInBounds_toArray, List.set_cons_zero, List.set_cons_succ]
                  refine ord_one 7 rfl (by kernel_rfl) (by rfl) (fun K hK => ?_)
                  go_wp2_with fail
                  refine (Htr.out W1 HLd.out).mono ?_
                  rintro e w5 ⟨rfl, hl2, hs2, hk2⟩
                  have Hh3 := Lib.hid (HLd.out.lc.same hk2)
                  have HLt := Lib.hid hl2
                  have Hst := Lib.hid (show Same F w1 w5 from fun k hk => (hs2 k hk).trans (Hsd.out k hk))
                  clear hl2 hs2 hk2
                  go_wp2_with fail
                  refine hK.out _ _ (⟨Hh3.out.1, Hh3.out.2.1⟩) (fun hHeld => ?_)
                  clear hK
                  try simp only [Act.put, List.setIfInBounds_toArray, List.set_cons_zero, List.set_cons_succ]
                  refine ord_take 8 (v := ?v4x8) rfl (by kernel_rfl) (by kernel_rfl) (by kernel_rfl) (fun _ _ _ h => h) (by rfl) (by assumption) ?y4x8 ?_
                  case y4x8 => (intro w hSw; (try dsimp only at hSw); go_simp; try with_reducible rfl)
                  simp only [Act.put, List.setIfInBounds_toArray, List.set_cons_zero, List.set_cons_succ]
                  refine wpAnyH_done (by kernel_rfl) ?_ _
                  clear HLd Hsd Hh3
                  go_wp2_with fail
                  have Hsd := Lib.hid (show Same F w1 w5.drew from Hst.out)
                  have HLd := Lib.hid (HLt.out.next (below_drew _))
                  obtain ⟨hc0, hc1, -⟩ := HLt.out.lc
                  refine ord_start (fun w' : World => w'.cell? ⟨l, 0, none⟩ = some (.pointer (some ⟨d, 0, none⟩)) ∧ w'.cell? ⟨l, 1, none⟩ = some (.string pre)) (n := 9) (by kernel_rfl) rfl (⟨hc0, hc1⟩) (fun hHeld => ?_)
                  generalize w5.drew = W1 at *
                  refine Pl [0,1,2,3,4] ?_
                  iterate 5 (refine Pc rfl ?_;simp only [Act.put, uA, uB, uC])
                  refine Pn ?_
                  refine ord_one 5 rfl (by kernel_rfl) (by rfl) (fun K hK => ?_)
                  go_wp2_with fail
                  refine (logName_calls ⟨hHeld.1, hHeld.2, hps⟩).mono ?_
                  rintro e w9 ⟨rfl, rfl⟩
                  go_wp2_with fail
                  refine hK.out _ _ (hHeld) (fun hHeld => ?_)
                  clear hK
                  try simp only [Act.put, List.setIfInBounds_toArray, List.set_cons_zero, List.set_cons_succ]
                  refine ord_one 6 rfl (by kernel_rfl) (by rfl) (fun K hK => ?_)
                  have Hh2 := Lib.hid (show (W1.alloc (.cells #[.string (sLog pre)] 9)).cell? ⟨l, 0, none⟩ = some (.pointer (some ⟨d, 0, none⟩)) ∧ (W1.alloc (.cells #[.string (sLog pre)] 9)).cell? ⟨l, 1, none⟩ = some (.string pre) from ⟨al_cell hHeld.1 _, al_cell hHeld.2 _⟩)
                  go_wp2_with fail
                  refine hK.out _ _ (Hh2.out) (fun hHeld => ?_)
                  clear hK
                  try simp only [Act.put, List.setIfInBounds_toArray, List.set_cons_zero, List.set_cons_succ]
                  refine ord_one 7 rfl (by kernel_rfl) (by rfl) (fun K hK => ?_)
                  go_wp2_with fail
                  refine (Hsy.out W1 HLd.out).mono ?_
                  rintro e w6 ⟨rfl, hl2, hs2, hk2⟩
                  have Hh3 := Lib.hid (HLd.out.lc.same hk2)
                  have HLu := Lib.hid hl2
                  have Hsu := Lib.hid (show Same F w1 w6 from fun k hk => (hs2 k hk).trans (Hsd.out k hk))
                  clear hl2 hs2 hk2
                  go_wp2_with fail
                  refine hK.out _ _ (⟨Hh3.out.1, Hh3.out.2.1⟩) (fun hHeld => ?_)
                  clear hK
                  try simp only [Act.put, List.setIfInBounds_toArray, List.set_cons_zero, List.set_cons_succ]
                  refine ord_take 8 (v := ?v5x8) rfl (by kernel_rfl) (by kernel_rfl) (by kernel_rfl) (fun _ _ _ h => h) (by rfl) (by assumption) ?y5x8 ?_
                  case y5x8 => (intro w hSw; (try dsimp only at hSw); go_simp; try with_reducible rfl)
                  simp only [Act.put, List.setIfInBounds_toArray, List.set_cons_zero, List.set_cons_succ]
                  refine wpAnyH_done (by kernel_rfl) ?_ _
                  clear HLd Hsd Hh3
                  have HR3 := Lib.hid (show logOf D (nm pre) M.base = if es = [] then ((D2.remove [logN (nm pre)]).1, (D2.remove [logN (nm pre)]).2, es) else (D2, 0, es) from by rw [HR2.out]; rfl)
                  obtain ⟨dv, ev, hcl, -, vs', hrow, -⟩ := HLu.out.cells
                  obtain ⟨p4, c4, rfl⟩ := OwnR.shape hrow
                  have k4 := cell_of hcl (i := 4) rfl
                  clear hcl hrow
                  by_cases hes : es = []
                  · have hlen0 : (({ M with entries := es } : LedM).entries.length : Int) = 0 := by rw [hes]; rfl
                    generalize ({ M with entries := es } : LedM).entries.length = m4 at *
                    obtain rfl : m4 = 0 := by omega
                    clear hlen0
                    cases hrm : DiskM.remove D2 [logN (nm pre)] with
                    | mk D3 e3 =>
                      have Hsy := Lib.hid (show ∀ W, LedF w W l d pre D2 { M with entries := es } F → Calls Tryz.prog 166 #[.pointer (some ⟨d, 0, none⟩), .slice (some ⟨W.heap.size, 0, none⟩) 1 1] (W.alloc (.cells #[.string (sLog pre)] 9)) fun e w' => e = .returned (.int .i64 (e3 : Int)) ∧ LedF w w' l d pre D3 { M with entries := es } F ∧ Same F W w' ∧ w'.heap[l]? = W.heap[l]? from fun W h => by
                        have := led_remove h (sLog pre) (by rw [size_log]; omega)
                        rwa [nm_log, hrm] at this)
                      have HR4 := Lib.hid (show logOf D (nm pre) M.base = (D3, e3, es) from by rw [HR3.out, if_pos hes, hrm])
                      clear hrm hes
                      go_wp2_with fail
                      have Hsd := Lib.hid (show Same F w1 w6.drew from Hsu.out)
                      have HLd := Lib.hid (HLu.out.next (below_drew _))
                      obtain ⟨hc0, hc1, -⟩ := HLu.out.lc
                      refine ord_start (fun w' : World => w'.cell? ⟨l, 0, none⟩ = some (.pointer (some ⟨d, 0, none⟩)) ∧ w'.cell? ⟨l, 1, none⟩ = some (.string pre)) (n := 9) (by kernel_rfl) rfl (⟨hc0, hc1⟩) (fun hHeld => ?_)
                      generalize w6.drew = W1 at *
                      refine Pl [0,1,2,3,4] ?_
                      iterate 5 (refine Pc rfl ?_;simp only [Act.put, uA, uB, uC])
                      refine Pn ?_
                      refine ord_one 5 rfl (by kernel_rfl) (by rfl) (fun K hK => ?_)
                      go_wp2_with fail
                      refine (logName_calls ⟨hHeld.1, hHeld.2, hps⟩).mono ?_
                      rintro e w9 ⟨rfl, rfl⟩
                      go_wp2_with fail
                      refine hK.out _ _ (hHeld) (fun hHeld => ?_)
                      clear hK
                      try simp only [Act.put, List.setIfInBounds_toArray, List.set_cons_zero, List.set_cons_succ]
                      refine ord_one 6 rfl (by kernel_rfl) (by rfl) (fun K hK => ?_)
                      have Hh2 := Lib.hid (show (W1.alloc (.cells #[.string (sLog pre)] 9)).cell? ⟨l, 0, none⟩ = some (.pointer (some ⟨d, 0, none⟩)) ∧ (W1.alloc (.cells #[.string (sLog pre)] 9)).cell? ⟨l, 1, none⟩ = some (.string pre) from ⟨al_cell hHeld.1 _, al_cell hHeld.2 _⟩)
                      go_wp2_with fail
                      refine hK.out _ _ (Hh2.out) (fun hHeld => ?_)
                      clear hK
                      try simp only [Act.put, List.setIfInBounds_toArray, List.set_cons_zero, List.set_cons_succ]
                      refine ord_one 7 rfl (by kernel_rfl) (by rfl) (fun K hK => ?_)
                      go_wp2_with fail
                      refine (Hsy.out W1 HLd.out).mono ?_
                      rintro e w8 ⟨rfl, hl2, hs2, hk2⟩
                      have Hh3 := Lib.hid (HLd.out.lc.same hk2)
                      have HE := Lib.hid (show LogTold w w1 l d pre M F (logOf D (nm pre) M.base) (.returned (.int .i64 (e3 : Int))) w8 from log_end hl2 (fun k hk => (hs2 k hk).trans (Hsd.out k hk)) HR4.out)
                      clear hl2 hs2 hk2
                      go_wp2_with fail
                      refine hK.out _ _ (⟨Hh3.out.1, Hh3.out.2.1⟩) (fun hHeld => ?_)
                      clear hK
                      try simp only [Act.put, List.setIfInBounds_toArray, List.set_cons_zero, List.set_cons_succ]
                      refine ord_take 8 (v := ?v6x8) rfl (by kernel_rfl) (by kernel_rfl) (by kernel_rfl) (fun _ _ _ h => h) (by rfl) (by assumption) ?y6x8 ?_
                      case y6x8 => (intro w hSw; (try dsimp only at hSw); go_simp; try with_reducible rfl)
                      simp only [Act.put, List.setIfInBounds_toArray, List.set_cons_zero, List.set_cons_succ]
                      refine wpAnyH_done (by kernel_rfl) ?_ _
                      go_wp2_with fail
                      go_ret
                      exact HE.out
                  · have hlen0 : ((({ M with entries := es } : LedM).entries.length : Int) == 0) = false := by
                      have : es.length ≠ 0 := fun e => hes (List.eq_nil_of_length_eq_zero e)
                      show ((es.length : Int) == 0) = false
                      simp; omega
                    have HE := Lib.hid (show LogTold w w1 l d pre M F (logOf D (nm pre) M.base) (.returned (.int .i64 0)) w6 from log_end (k := 0) HLu.out Hsu.out (by rw [HR3.out, if_neg hes]))
                    generalize ({ M with entries := es } : LedM).entries.length = m4 at *
                    clear hes
                    go_wp2_with fail
                    go_ret
                    exact HE.out
                · have hne : ((e2 : Int) != 0) = true := by simp; omega
                  have HR3 := Lib.hid (show logOf D (nm pre) M.base = (D2, e2, es) from by rw [HR2.out]; exact if_pos he2)
                  go_wp2_with fail
                  have Hsd := Lib.hid (show Same F w1 wr.drew from Hsf.out)
                  have HLd := Lib.hid (HLf.out.next (below_drew _))
                  obtain ⟨hc0, hc1, -⟩ := HLf.out.lc
                  refine ord_start (fun w' : World => w'.cell? ⟨l, 0, none⟩ = some (.pointer (some ⟨d, 0, none⟩)) ∧ w'.cell? ⟨l, 1, none⟩ = some (.string pre)) (n := 9) (by kernel_rfl) rfl (⟨hc0, hc1⟩) (fun hHeld => ?_)
                  generalize wr.drew = W1 at *
                  refine Pl [0,1,2,3,4,6] ?_
                  iterate 6 (refine Pc rfl ?_;simp only [Act.put, uA, uB, uC])
                  refine Pn ?_
                  refine ord_one 5 rfl (by kernel_rfl) (by rfl) (fun K hK => ?_)
                  go_wp2_with fail
                  refine (logName_calls ⟨hHeld.1, hHeld.2, hps⟩).mono ?_
                  rintro e w9 ⟨rfl, rfl⟩
                  go_wp2_with fail
                  refine hK.out _ _ (hHeld) (fun hHeld => ?_)
                  clear hK
                  try simp only [Act.put, List.setIfInBounds_toArray, List.set_cons_zero, List.set_cons_succ]
                  refine ord_one 7 rfl (by kernel_rfl) (by rfl) (fun K hK => ?_)
                  go_wp2_with fail
                  refine (Htr.out W1 HLd.out).mono ?_
                  rintro e w5 ⟨rfl, hl2, hs2, hk2⟩
                  have Hh3 := Lib.hid (HLd.out.lc.same hk2)
                  have HLt := Lib.hid hl2
                  have Hst := Lib.hid (show Same F w1 w5 from fun k hk => (hs2 k hk).trans (Hsd.out k hk))
                  clear hl2 hs2 hk2
                  go_wp2_with fail
                  refine hK.out _ _ (⟨Hh3.out.1, Hh3.out.2.1⟩) (fun hHeld => ?_)
                  clear hK
                  try simp only [Act.put, List.setIfInBounds_toArray, List.set_cons_zero, List.set_cons_succ]
                  refine ord_take 8 (v := ?v7x8) rfl (by kernel_rfl) (by kernel_rfl) (by kernel_rfl) (fun _ _ _ h => h) (by rfl) (by assumption) ?y7x8 ?_
                  case y7x8 => (intro w hSw; (try dsimp only at hSw); go_simp; try with_reducible rfl)
                  simp only [Act.put, List.setIfInBounds_toArray, List.set_cons_zero, List.set_cons_succ]
                  refine wpAnyH_done (by kernel_rfl) ?_ _
                  clear HLd Hsd Hh3
                  go_wp2_with fail
                  have Hsd := Lib.hid (show Same F w1 w5.drew from Hst.out)
                  have HLd := Lib.hid (HLt.out.next (below_drew _))
                  obtain ⟨hc0, hc1, -⟩ := HLt.out.lc
                  refine ord_start (fun w' : World => w'.cell? ⟨l, 0, none⟩ = some (.pointer (some ⟨d, 0, none⟩)) ∧ w'.cell? ⟨l, 1, none⟩ = some (.string pre)) (n := 9) (by kernel_rfl) rfl (⟨hc0, hc1⟩) (fun hHeld => ?_)
                  generalize w5.drew = W1 at *
                  refine Pl [0,1,2,3,4] ?_
                  iterate 5 (refine Pc rfl ?_;simp only [Act.put, uA, uB, uC])
                  refine Pn ?_
                  refine ord_one 5 rfl (by kernel_rfl) (by rfl) (fun K hK => ?_)
                  go_wp2_with fail
                  refine (logName_calls ⟨hHeld.1, hHeld.2, hps⟩).mono ?_
                  rintro e w9 ⟨rfl, rfl⟩
                  go_wp2_with fail
                  refine hK.out _ _ (hHeld) (fun hHeld => ?_)
                  clear hK
                  try simp only [Act.put, List.setIfInBounds_toArray, List.set_cons_zero, List.set_cons_succ]
                  refine ord_one 6 rfl (by kernel_rfl) (by rfl) (fun K hK => ?_)
                  have Hh2 := Lib.hid (show (W1.alloc (.cells #[.string (sLog pre)] 9)).cell? ⟨l, 0, none⟩ = some (.pointer (some ⟨d, 0, none⟩)) ∧ (W1.alloc (.cells #[.string (sLog pre)] 9)).cell? ⟨l, 1, none⟩ = some (.string pre) from ⟨al_cell hHeld.1 _, al_cell hHeld.2 _⟩)
                  go_wp2_with fail
                  refine hK.out _ _ (Hh2.out) (fun hHeld => ?_)
                  clear hK
                  try simp only [Act.put, List.setIfInBounds_toArray, List.set_cons_zero, List.set_cons_succ]
                  refine ord_one 7 rfl (by kernel_rfl) (by rfl) (fun K hK => ?_)
                  go_wp2_with fail
                  refine (Hsy.out W1 HLd.out).mono ?_
                  rintro e w6 ⟨rfl, hl2, hs2, hk2⟩
                  have Hh3 := Lib.hid (HLd.out.lc.same hk2)
                  have HLu := Lib.hid hl2
                  have Hsu := Lib.hid (show Same F w1 w6 from fun k hk => (hs2 k hk).trans (Hsd.out k hk))
                  clear hl2 hs2 hk2
                  go_wp2_with fail
                  refine hK.out _ _ (⟨Hh3.out.1, Hh3.out.2.1⟩) (fun hHeld => ?_)
                  clear hK
                  try simp only [Act.put, List.setIfInBounds_toArray, List.set_cons_zero, List.set_cons_succ]
                  refine ord_take 8 (v := ?v8x8) rfl (by kernel_rfl) (by kernel_rfl) (by kernel_rfl) (fun _ _ _ h => h) (by rfl) (by assumption) ?y8x8 ?_
                  case y8x8 => (intro w hSw; (try dsimp only at hSw); go_simp; try with_reducible rfl)
                  simp only [Act.put, List.setIfInBounds_toArray, List.set_cons_zero, List.set_cons_succ]
                  refine wpAnyH_done (by kernel_rfl) ?_ _
                  clear HLd Hsd Hh3
                  have HE := Lib.hid (show LogTold w w1 l d pre M F (logOf D (nm pre) M.base) (.returned (.int .i64 (e2 : Int))) w6 from log_end HLu.out Hsu.out HR3.out)
                  go_wp2_with fail
                  go_ret
                  exact HE.out
            · have hT : tornOff D (logN (nm pre)) q len = (D1, e1) := by unfold tornOff; rw [if_pos hq, htr, if_pos he1]
              rw [hT] at hR2
              have hne : ((e1 : Int) != 0) = true := by simp; omega
              have HR3 := Lib.hid (show logOf D (nm pre) M.base = (D1, e1, es) from by rw [hR2]; exact if_pos he1)
              clear htr hT hR2 he1
              go_wp2_with fail
              have Hsd := Lib.hid (show Same F w1 wr.drew from Hsf.out)
              have HLd := Lib.hid (HLf.out.next (below_drew _))
              obtain ⟨hc0, hc1, -⟩ := HLf.out.lc
              refine ord_start (fun w' : World => w'.cell? ⟨l, 0, none⟩ = some (.pointer (some ⟨d, 0, none⟩)) ∧ w'.cell? ⟨l, 1, none⟩ = some (.string pre)) (n := 9) (by kernel_rfl) rfl (⟨hc0, hc1⟩) (fun hHeld => ?_)
              generalize wr.drew = W1 at *
              refine Pl [0,1,2,3,4,6] ?_
              iterate 6 (refine Pc rfl ?_;simp only [Act.put, uA, uB, uC])
              refine Pn ?_
              refine ord_one 5 rfl (by kernel_rfl) (by rfl) (fun K hK => ?_)
              go_wp2_with fail
              refine (logName_calls ⟨hHeld.1, hHeld.2, hps⟩).mono ?_
              rintro e w9 ⟨rfl, rfl⟩
              go_wp2_with fail
              refine hK.out _ _ (hHeld) (fun hHeld => ?_)
              clear hK
              try simp only [Act.put, List.setIfInBounds_toArray, List.set_cons_zero, List.set_cons_succ]
              refine ord_one 7 rfl (by kernel_rfl) (by rfl) (fun K hK => ?_)
              go_wp2_with fail
              refine (Htr.out W1 HLd.out).mono ?_
              rintro e w5 ⟨rfl, hl2, hs2, hk2⟩
              have Hh3 := Lib.hid (HLd.out.lc.same hk2)
              have HLt := Lib.hid hl2
              have Hst := Lib.hid (show Same F w1 w5 from fun k hk => (hs2 k hk).trans (Hsd.out k hk))
              clear hl2 hs2 hk2
              go_wp2_with fail
              refine hK.out _ _ (⟨Hh3.out.1, Hh3.out.2.1⟩) (fun hHeld => ?_)
              clear hK
              try simp only [Act.put, List.setIfInBounds_toArray, List.set_cons_zero, List.set_cons_succ]
              refine ord_take 8 (v := ?v9x8) rfl (by kernel_rfl) (by kernel_rfl) (by kernel_rfl) (fun _ _ _ h => h) (by rfl) (by assumption) ?y9x8 ?_
              case y9x8 => (intro w hSw; (try dsimp only at hSw); go_simp; try with_reducible rfl)
              simp only [Act.put, List.setIfInBounds_toArray, List.set_cons_zero, List.set_cons_succ]
              refine wpAnyH_done (by kernel_rfl) ?_ _
              clear HLd Hsd Hh3
              have HE := Lib.hid (show LogTold w w1 l d pre M F (logOf D (nm pre) M.base) (.returned (.int .i64 (e1 : Int))) w5 from log_end HLt.out Hst.out HR3.out)
              go_wp2_with fail
              go_ret
              exact HE.out
        · have hT : tornOff D (logN (nm pre)) q len = (D, 0) := by unfold tornOff; rw [if_neg hq]
          rw [hT] at hR2
          have HR3 := Lib.hid (show logOf D (nm pre) M.base = if es = [] then ((D.remove [logN (nm pre)]).1, (D.remove [logN (nm pre)]).2, es) else (D, 0, es) from by rw [hR2]; rfl)
          clear hT hR2
          obtain ⟨dv, ev, hcl, -, vs', hrow, -⟩ := HLf.out.cells
          obtain ⟨p4, c4, rfl⟩ := OwnR.shape hrow
          have k4 := cell_of hcl (i := 4) rfl
          clear hcl hrow
          by_cases hes : es = []
          · have hlen0 : (({ M with entries := es } : LedM).entries.length : Int) = 0 := by rw [hes]; rfl
            generalize ({ M with entries := es } : LedM).entries.length = m4 at *
            obtain rfl : m4 = 0 := by omega
            clear hlen0
            cases hrm : DiskM.remove D [logN (nm pre)] with
            | mk D3 e3 =>
              have Hsy := Lib.hid (show ∀ W, LedF w W l d pre D { M with entries := es } F → Calls Tryz.prog 166 #[.pointer (some ⟨d, 0, none⟩), .slice (some ⟨W.heap.size, 0, none⟩) 1 1] (W.alloc (.cells #[.string (sLog pre)] 9)) fun e w' => e = .returned (.int .i64 (e3 : Int)) ∧ LedF w w' l d pre D3 { M with entries := es } F ∧ Same F W w' ∧ w'.heap[l]? = W.heap[l]? from fun W h => by
                have := led_remove h (sLog pre) (by rw [size_log]; omega)
                rwa [nm_log, hrm] at this)
              have HR4 := Lib.hid (show logOf D (nm pre) M.base = (D3, e3, es) from by rw [HR3.out, if_pos hes, hrm])
              clear hrm hes
              go_wp2_with fail
              have Hsd := Lib.hid (show Same F w1 wr.drew from Hsf.out)
              have HLd := Lib.hid (HLf.out.next (below_drew _))
              obtain ⟨hc0, hc1, -⟩ := HLf.out.lc
              refine ord_start (fun w' : World => w'.cell? ⟨l, 0, none⟩ = some (.pointer (some ⟨d, 0, none⟩)) ∧ w'.cell? ⟨l, 1, none⟩ = some (.string pre)) (n := 9) (by kernel_rfl) rfl (⟨hc0, hc1⟩) (fun hHeld => ?_)
              generalize wr.drew = W1 at *
              refine Pl [0,1,2,3,4] ?_
              iterate 5 (refine Pc rfl ?_;simp only [Act.put, uA, uB, uC])
              refine Pn ?_
              refine ord_one 5 rfl (by kernel_rfl) (by rfl) (fun K hK => ?_)
              go_wp2_with fail
              refine (logName_calls ⟨hHeld.1, hHeld.2, hps⟩).mono ?_
              rintro e w9 ⟨rfl, rfl⟩
              go_wp2_with fail
              refine hK.out _ _ (hHeld) (fun hHeld => ?_)
              clear hK
              try simp only [Act.put, List.setIfInBounds_toArray, List.set_cons_zero, List.set_cons_succ]
              refine ord_one 6 rfl (by kernel_rfl) (by rfl) (fun K hK => ?_)
              have Hh2 := Lib.hid (show (W1.alloc (.cells #[.string (sLog pre)] 9)).cell? ⟨l, 0, none⟩ = some (.pointer (some ⟨d, 0, none⟩)) ∧ (W1.alloc (.cells #[.string (sLog pre)] 9)).cell? ⟨l, 1, none⟩ = some (.string pre) from ⟨al_cell hHeld.1 _, al_cell hHeld.2 _⟩)
              go_wp2_with fail
              refine hK.out _ _ (Hh2.out) (fun hHeld => ?_)
              clear hK
              try simp only [Act.put, List.setIfInBounds_toArray, List.set_cons_zero, List.set_cons_succ]
              refine ord_one 7 rfl (by kernel_rfl) (by rfl) (fun K hK => ?_)
              go_wp2_with fail
              refine (Hsy.out W1 HLd.out).mono ?_
              rintro e w8 ⟨rfl, hl2, hs2, hk2⟩
              have Hh3 := Lib.hid (HLd.out.lc.same hk2)
              have HE := Lib.hid (show LogTold w w1 l d pre M F (logOf D (nm pre) M.base) (.returned (.int .i64 (e3 : Int))) w8 from log_end hl2 (fun k hk => (hs2 k hk).trans (Hsd.out k hk)) HR4.out)
              clear hl2 hs2 hk2
              go_wp2_with fail
              refine hK.out _ _ (⟨Hh3.out.1, Hh3.out.2.1⟩) (fun hHeld => ?_)
              clear hK
              try simp only [Act.put, List.setIfInBounds_toArray, List.set_cons_zero, List.set_cons_succ]
              refine ord_take 8 (v := ?v10x8) rfl (by kernel_rfl) (by kernel_rfl) (by kernel_rfl) (fun _ _ _ h => h) (by rfl) (by assumption) ?y10x8 ?_
              case y10x8 => (intro w hSw; (try dsimp only at hSw); go_simp; try with_reducible rfl)
              simp only [Act.put, List.setIfInBounds_toArray, List.set_cons_zero, List.set_cons_succ]
              refine wpAnyH_done (by kernel_rfl) ?_ _
              go_wp2_with fail
              go_ret
              exact HE.out
          · have hlen0 : ((({ M with entries := es } : LedM).entries.length : Int) == 0) = false := by
              have : es.length ≠ 0 := fun e => hes (List.eq_nil_of_length_eq_zero e)
              show ((es.length : Int) == 0) = false
              simp; omega
            have HE := Lib.hid (show LogTold w w1 l d pre M F (logOf D (nm pre) M.base) (.returned (.int .i64 0)) wr from log_end (k := 0) HLf.out Hsf.out (by rw [HR3.out, if_neg hes]))
            generalize ({ M with entries := es } : LedM).entries.length = m4 at *
            clear hes
            go_wp2_with fail
            go_ret
            exact HE.out
end
end Go.Proofs.YtogdfkilhpkloaaGreatDoor

namespace Go.Proofs.YtogdfkilhpkloaaGreatDoor
open Go.RowKit Go.Sat Go.Maps

/-- What an opening leaves. -/
def OpenTold (w w1 : World) (d : Nat) (pre : ByteArray) (F : Nat → Prop) (r : DiskM × Nat × LedM) (e : Ending) (w' : World) : Prop :=
  St w w' d r.1 F ∧ Same F w1 w' ∧ ((r.2.1 = 0 ∧ ∃ l, e = .returned (.tuple #[.pointer (some ⟨l, 0, none⟩), .int .i64 0]) ∧ LedF w w' l d pre r.1 r.2.2 F) ∨ (r.2.1 ≠ 0 ∧ e = .returned (.tuple #[.pointer none, .int .i64 (r.2.1 : Int)])))

/-- The steps of an opening. -/
structure Opens (D : DiskM) (pre : Bs) where
  D1 : DiskM
  e1 : Nat
  h1 : D.rid [shadowN (imgN pre)] = (D1, e1)
  i : Nat × Nat × Bs
  hi : imageOf (Sat.get (imgN pre) D1.files) = i
  g : DiskM × Nat × List Bs
  hg : logOf D1 pre i.2.1 = g

theorem opens_of (D : DiskM) (pre : Bs) : Nonempty (Opens D pre) := ⟨⟨_, _, rfl, _, rfl, _, rfl⟩⟩

section
variable {D : DiskM} {pre : Bs} (O : Opens D pre)

theorem open_e1 (h : ¬ (pre.length < 1 ∨ 20 < pre.length)) (h1 : O.e1 ≠ 0) : ledOpen D pre = (O.D1, O.e1, LedM.none0) := by
  unfold ledOpen
  rw [if_neg h, O.h1]
  exact if_pos h1
theorem open_e2 (h : ¬ (pre.length < 1 ∨ 20 < pre.length)) (h1 : O.e1 = 0) (h2 : O.i.1 ≠ 0) : ledOpen D pre = (O.D1, O.i.1, LedM.none0) := by
  unfold ledOpen
  rw [if_neg h, O.h1]
  rw [if_neg (by simpa using h1)]
  dsimp only
  rw [O.hi, if_pos h2]
theorem open_e3 (h : ¬ (pre.length < 1 ∨ 20 < pre.length)) (h1 : O.e1 = 0) (h2 : O.i.1 = 0) : ledOpen D pre = (O.g.1, O.g.2.1, ⟨O.i.2.1, O.i.2.2, O.g.2.2, false⟩) := by
  unfold ledOpen
  rw [if_neg h, O.h1]
  rw [if_neg (by simpa using h1)]
  dsimp only
  rw [O.hi, if_neg (by simpa using h2), O.hg]
end

/-- The loop over the three steps. -/
def OpenRel (w w0 : World) (l d : Nat) (pre : ByteArray) (G : Nat → Prop) (D D1 D3 : DiskM) (M2 M3 : LedM) (e1 e2 e3 : Nat) (x : Value) (wr : World) : Prop :=
  Same G w0 wr ∧ ((x = .int .i64 0 ∧ LedF w wr l d pre D LedM.none0 G) ∨ (x = .int .i64 1 ∧ e1 = 0 ∧ LedF w wr l d pre D1 LedM.none0 G) ∨ (x = .int .i64 2 ∧ e1 = 0 ∧ e2 = 0 ∧ LedF w wr l d pre D1 M2 G) ∨ (x = .int .i64 3 ∧ e1 = 0 ∧ e2 = 0 ∧ e3 = 0 ∧ LedF w wr l d pre D3 M3 G))

theorem led_clears {w w1 : World} {l d : Nat} {pre : ByteArray} {D : DiskM} {M : LedM} {F : Nat → Prop} (h : LedF w w1 l d pre D M F) :
    Calls Tryz.prog 91 #[.pointer (some ⟨l, 0, none⟩)] w1 fun e w' => e = .returned (.int .i64 ((D.rid [shadowN (imgN (nm pre))]).2 : Int)) ∧ LedF w w' l d pre (D.rid [shadowN (imgN (nm pre))]).1 M F ∧ Same F w1 w' := by
  obtain ⟨own, dv, ev, vs, hL, hS, hn, hl⟩ := h
  refine (clears_calls hS hL.lc (.inl hL.ol)).mono ?_
  rintro e w' ⟨rfl, hS', hs⟩
  exact ⟨rfl, ⟨own, dv, ev, vs, hL.keep (fun k hk => hs k (.inl hk)) fun k hk => hS'.flt (.inl hk), hS', hn, fun k hk => hS'.flt (.inr hk)⟩, fun k hk => hs k (.inr hk)⟩

/-- A ledger that was made a moment ago. -/
theorem led_fresh {w w1 : World} {d : Nat} {D : DiskM} {F : Nat → Prop} (h : St w w1 d D F) (pre : ByteArray) (hp : 1 ≤ pre.size ∧ pre.size ≤ 20) :
    LedF w (w1.alloc (.cells #[.pointer (some ⟨d, 0, none⟩), .string pre, .int .i64 0, .slice none 0 0, .slice none 0 0, .bool false] 157)) w1.heap.size d pre D LedM.none0 F := by
  have hb := below_one w1 (.cells #[.pointer (some ⟨d, 0, none⟩), .string pre, .int .i64 0, .slice none 0 0, .slice none 0 0, .bool false] 157)
  refine ⟨fun k => k = w1.heap.size, .slice none 0 0, .slice none 0 0, [], ⟨new_block w1 _, OwnR.nil _ _ _, OwnR.nil _ _ _, fun i u b hu => (by simp at hu), rfl, fun k hk => (by cases hk), fun k hk => (by cases hk), fun u hu => (by simp at hu), fun k hk => (by rw [hk]; simp), Nat.zero_le _, hp, ⟨Nat.zero_le _, fun b hb => (by cases hb)⟩⟩, h.move (Chg.of_below hb) (fun _ _ h => h.elim) (fun k hk => ?_), fun k hk => ⟨by rw [hk]; exact h.below.size, fun hf => by have := h.flt hf; omega⟩, fun k hk => Nat.lt_of_lt_of_le (h.flt hk) hb.size⟩
  rcases hk with hk | hk
  · exact ⟨.inr (by omega), by rw [hk]; simp⟩
  · exact ⟨.inl hk, Nat.lt_of_lt_of_le (h.flt hk) hb.size⟩

set_option maxRecDepth 100000 in
set_option maxHeartbeats 16000000 in
theorem open_calls {w w1 : World} {d : Nat} {D : DiskM} {F : Nat → Prop} (h : St w w1 d D F) (pre : ByteArray) :
    Calls Tryz.prog 43 #[.pointer (some ⟨d, 0, none⟩), .string pre] w1 (OpenTold w w1 d pre F (ledOpen D (nm pre))) := by
  have hsz : (nm pre).length = pre.size := nm_len pre
  by_cases hp : (nm pre).length < 1 ∨ 20 < (nm pre).length
  · have HE := Lib.hid (show OpenTold w w1 d pre F (ledOpen D (nm pre)) (.returned (.tuple #[.pointer none, .int .i64 1])) w1 from by
      unfold ledOpen
      rw [if_pos hp]
      exact ⟨h, fun _ _ => rfl, .inr ⟨(show (1 : Nat) ≠ 0 by decide), rfl⟩⟩)
    rw [hsz] at hp
    clear h hsz
    generalize hzz : pre.size = z at *
    by_cases hz : z < 1
    · have hz0 : z = 0 := by omega
      subst hz0
      go_enter Tryz.func43, Tryz.ntmps43
      go_wp2_with fail
      go_ret2
      exact HE.out
    · have hz6 : 20 < z := by omega
      go_enter Tryz.func43, Tryz.ntmps43
      go_wp2_with fail
      go_ret2
      exact HE.out
  · obtain ⟨O⟩ := opens_of D (nm pre)
    have hp2 : 1 ≤ pre.size ∧ pre.size ≤ 20 := by rw [hsz] at hp; omega
    have H0 := Lib.hid (led_fresh h pre hp2)
    have Hs0 := Lib.hid (same_below h (below_one w1 (.cells #[.pointer (some ⟨d, 0, none⟩), .string pre, .int .i64 0, .slice none 0 0, .slice none 0 0, .bool false] 157)))
    have Hp := Lib.hid hp
    obtain ⟨hpa, hpb⟩ := hp2
    have hmf : ∀ (fn : Fn) (first cap : Array Value) (w : World), (Instr.makeFunc fn first cap).run Tryz.prog w = .ok (.func fn first cap) w := fun _ _ _ _ => rfl
    clear h hsz hp
    generalize hzz : pre.size = z at *
    go_enter Tryz.func43, Tryz.ntmps43
    go_wp2_with fail
    have hz1 : (w1.alloc (.cells #[.pointer (some ⟨d, 0, none⟩), .string pre, .int .i64 0, .slice none 0 0, .slice none 0 0, .bool false] 157)).heap.size = w1.heap.size + 1 := by simp
    have hL1 := H0.out.box (.cells #[.func (.func 91) #[.pointer (some ⟨w1.heap.size, 0, none⟩)] #[], .func (.func 92) #[.pointer (some ⟨w1.heap.size, 0, none⟩)] #[], .func (.func 93) #[.pointer (some ⟨w1.heap.size, 0, none⟩)] #[]] 57)
    have hfs := new_block (w1.alloc (.cells #[.pointer (some ⟨d, 0, none⟩), .string pre, .int .i64 0, .slice none 0 0, .slice none 0 0, .bool false] 157)) (.cells #[.func (.func 91) #[.pointer (some ⟨w1.heap.size, 0, none⟩)] #[], .func (.func 92) #[.pointer (some ⟨w1.heap.size, 0, none⟩)] #[], .func (.func 93) #[.pointer (some ⟨w1.heap.size, 0, none⟩)] #[]] 57)
    rw [hz1] at hL1 hfs
    have HL1 := Lib.hid hL1
    have Hs1 := Lib.hid (show Same F w1 ((w1.alloc (.cells #[.pointer (some ⟨d, 0, none⟩), .string pre, .int .i64 0, .slice none 0 0, .slice none 0 0, .bool false] 157)).alloc (.cells #[.func (.func 91) #[.pointer (some ⟨w1.heap.size, 0, none⟩)] #[], .func (.func 92) #[.pointer (some ⟨w1.heap.size, 0, none⟩)] #[], .func (.func 93) #[.pointer (some ⟨w1.heap.size, 0, none⟩)] #[]] 57)) from fun k hk => (H0.out.same (below_one _ _) k hk).trans (Hs0.out k hk))
    have Hfs := Lib.hid hfs
    clear hz1 hL1 hfs H0 Hs0
    generalize (w1.alloc (.cells #[.pointer (some ⟨d, 0, none⟩), .string pre, .int .i64 0, .slice none 0 0, .slice none 0 0, .bool false] 157)).alloc (.cells #[.func (.func 91) #[.pointer (some ⟨w1.heap.size, 0, none⟩)] #[], .func (.func 92) #[.pointer (some ⟨w1.heap.size, 0, none⟩)] #[], .func (.func 93) #[.pointer (some ⟨w1.heap.size, 0, none⟩)] #[]] 57) = W0 at *
    generalize w1.heap.size = l at *
    go_loopw [34] (OpenRel w W0 l d pre (fun k => F k ∨ k = l + 1) D O.D1 O.g.1 ⟨O.i.2.1, O.i.2.2, [], false⟩ ⟨O.i.2.1, O.i.2.2, O.g.2.2, false⟩ O.e1 O.i.1 O.g.2.1) (fun i _ => 3 - (intOf i).toNat)
    case atStart => exact ⟨fun _ _ => rfl, .inl ⟨rfl, HL1.out⟩⟩
    case round =>
      clear HL1
      obtain ⟨hsm, hx⟩ := hrel
      have hfb := (hsm (l + 1) (.inr rfl)).trans Hfs.out
      have k0 := cell_of hfb (i := 0) rfl
      have k1 := cell_of hfb (i := 1) rfl
      have k2 := cell_of hfb (i := 2) rfl
      have HsF := Lib.hid (show Same F w1 wr from fun k hk => (hsm k (.inl hk)).trans (Hs1.out k hk))
      have Hsm := Lib.hid hsm
      clear hsm hfb
      rcases hx with ⟨rfl, hL⟩ | ⟨rfl, he1, hL⟩ | ⟨rfl, he1, he2, hL⟩ | ⟨rfl, he1, he2, he3, hL⟩
      · have hcl := led_clears hL
        rw [O.h1] at hcl
        have Hcl := Lib.hid hcl
        clear hcl hL
        by_cases he : O.e1 = 0
        · have He := Lib.hid he
          rw [he] at Hcl
          clear he
          go_wp2_with fail
          refine Hcl.out.mono ?_
          rintro e w3 ⟨rfl, hL3, hs3⟩
          have HE := Lib.hid (show OpenRel w W0 l d pre (fun k => F k ∨ k = l + 1) D O.D1 O.g.1 ⟨O.i.2.1, O.i.2.2, [], false⟩ ⟨O.i.2.1, O.i.2.2, O.g.2.2, false⟩ O.e1 O.i.1 O.g.2.1 (.int .i64 1) w3 from ⟨Hsm.out.trans hs3, .inr (.inl ⟨rfl, He.out, hL3⟩)⟩)
          clear hL3 hs3
          go_wp2_with fail
          go_roundw
          case rel => first | exact HE.out | ((repeat apply Exists.intro); exact ⟨HE.out, rfl⟩)
          case measure => simp [intOf]
        · have hne : ((O.e1 : Int) != 0) = true := by simp; omega
          have HR := Lib.hid (open_e1 O Hp.out he)
          have He := Lib.hid he
          clear he
          generalize hek : O.e1 = k at *
          go_wp2_with fail
          refine Hcl.out.mono ?_
          rintro e w3 ⟨rfl, hL3, hs3⟩
          have HE := Lib.hid (show OpenTold w w1 d pre F (ledOpen D (nm pre)) (.returned (.tuple #[.pointer none, .int .i64 (k : Int)])) w3 from by
            rw [HR.out]
            exact ⟨hL3.stF.less fun _ h => .inl h, fun j hj => (hs3 j (.inl hj)).trans (HsF.out j hj), .inr ⟨He.out, rfl⟩⟩)
          clear hL3 hs3
          go_wp2_with fail
          go_ret2
          exact HE.out
      · have him := image_calls hL
        rw [O.hi] at him
        have Him := Lib.hid him
        have He1 := Lib.hid he1
        clear him hL he1
        by_cases he : O.i.1 = 0
        · have He := Lib.hid he
          clear he
          go_wp2_with fail
          refine Him.out.mono ?_
          intro e w3 hT
          have HE := Lib.hid (show OpenRel w W0 l d pre (fun k => F k ∨ k = l + 1) D O.D1 O.g.1 ⟨O.i.2.1, O.i.2.2, [], false⟩ ⟨O.i.2.1, O.i.2.2, O.g.2.2, false⟩ O.e1 O.i.1 O.g.2.1 (.int .i64 2) w3 from ⟨Hsm.out.trans hT.2.2.2, .inr (.inr (.inl ⟨rfl, He1.out, He.out, hT.2.1 He.out⟩))⟩)
          obtain ⟨he3, -⟩ := hT
          rw [He.out] at he3
          subst he3
          go_wp2_with fail
          go_roundw
          case rel => first | exact HE.out | ((repeat apply Exists.intro); exact ⟨HE.out, rfl⟩)
          case measure => simp [intOf]
        · have hne : ((O.i.1 : Int) != 0) = true := by simp; omega
          have HR := Lib.hid (open_e2 O Hp.out He1.out he)
          have He := Lib.hid he
          clear he
          go_wp2_with fail
          refine Him.out.mono ?_
          intro e w3 hT
          have HE := Lib.hid (show OpenTold w w1 d pre F (ledOpen D (nm pre)) (.returned (.tuple #[.pointer none, .int .i64 (O.i.1 : Int)])) w3 from by
            rw [HR.out]
            exact ⟨hT.2.2.1.less fun _ h => .inl h, fun j hj => (hT.2.2.2 j (.inl hj)).trans (HsF.out j hj), .inr ⟨He.out, rfl⟩⟩)
          obtain ⟨he3, -⟩ := hT
          subst he3
          generalize O.i.1 = k at *
          go_wp2_with fail
          go_ret2
          exact HE.out
      · have hlo := log_calls hL rfl
        rw [show logOf O.D1 (nm pre) (LedM.mk O.i.2.1 O.i.2.2 [] false).base = O.g from O.hg] at hlo
        have Hlo := Lib.hid hlo
        have He1 := Lib.hid he1
        have He2 := Lib.hid he2
        clear hlo hL he1 he2
        by_cases he : O.g.2.1 = 0
        · have He := Lib.hid he
          clear he
          go_wp2_with fail
          refine Hlo.out.mono ?_
          intro e w3 hT
          have HE := Lib.hid (show OpenRel w W0 l d pre (fun k => F k ∨ k = l + 1) D O.D1 O.g.1 ⟨O.i.2.1, O.i.2.2, [], false⟩ ⟨O.i.2.1, O.i.2.2, O.g.2.2, false⟩ O.e1 O.i.1 O.g.2.1 (.int .i64 3) w3 from ⟨Hsm.out.trans hT.2.2.1, .inr (.inr (.inr ⟨rfl, He1.out, He2.out, He.out, hT.2.2.2 He.out⟩))⟩)
          obtain ⟨he3, -⟩ := hT
          rw [He.out] at he3
          subst he3
          go_wp2_with fail
          go_roundw
          case rel => first | exact HE.out | ((repeat apply Exists.intro); exact ⟨HE.out, rfl⟩)
          case measure => simp [intOf]
        · have hne : ((O.g.2.1 : Int) != 0) = true := by simp; omega
          have HR := Lib.hid (open_e3 O Hp.out He1.out He2.out)
          have He := Lib.hid he
          clear he
          go_wp2_with fail
          refine Hlo.out.mono ?_
          intro e w3 hT
          have HE := Lib.hid (show OpenTold w w1 d pre F (ledOpen D (nm pre)) (.returned (.tuple #[.pointer none, .int .i64 (O.g.2.1 : Int)])) w3 from by
            rw [HR.out]
            exact ⟨hT.2.1.less fun _ h => .inl h, fun j hj => (hT.2.2.1 j (.inl hj)).trans (HsF.out j hj), .inr ⟨He.out, rfl⟩⟩)
          obtain ⟨he3, -⟩ := hT
          subst he3
          generalize O.g.2.1 = k at *
          go_wp2_with fail
          go_ret2
          exact HE.out
      · have HE := Lib.hid (show OpenTold w w1 d pre F (ledOpen D (nm pre)) (.returned (.tuple #[.pointer (some ⟨l, 0, none⟩), .int .i64 0])) wr from by
          rw [open_e3 O Hp.out he1 he2]
          exact ⟨hL.stF.less fun _ h => .inl h, HsF.out, .inl ⟨he3, l, rfl, hL.less fun _ h => .inl h⟩⟩)
        clear hL he1 he2 he3
        go_wp2_with fail
        go_ret2
        exact HE.out
end Go.Proofs.YtogdfkilhpkloaaGreatDoor

namespace Go.Proofs.YtogdfkilhpkloaaGreatDoor
open Go.RowKit Go.Sat Go.Maps

section
variable {w w1 w2 wc : World} {l d : Nat} {pre : ByteArray} {D : DiskM} {M : LedM} {F : Nat → Prop}

theorem wr_fresh (w : World) (fr : Nat × Nat) : fr = (0, 0) → WrIn (w.alloc (.cells #[.slice none 0 0] 160 fr)) w.heap.size (.slice none 0 0) [] := fun h => by
  subst h
  exact ⟨new_block w _, OwnR.nil _ _ _, fun e => by cases e⟩

/-- What a Writer has done lies in what is new. -/
theorem wr_below {W0 W1 W2 : World} {k : Nat} {v v2 : Value} (hb : Below W0.heap.size W0 W1) (hk : W0.heap.size ≤ k) (hv : ∀ j, v.ownBlock = some j → W0.heap.size ≤ j) (hc : Chg (WrS k v) W1 W2) (hn : ∀ j, v2.ownBlock = some j → v.ownBlock = some j ∨ W1.heap.size ≤ j) : Below W0.heap.size W0 W2 ∧ ∀ j, v2.ownBlock = some j → W0.heap.size ≤ j :=
  ⟨hb.trans (hc.below hb.size fun j hj hs => by
    rcases hs with rfl | hs
    · omega
    · have := hv j hs
      omega), fun j hj => (hn j hj).elim (hv j) (Nat.le_trans hb.size)⟩

end
end Go.Proofs.YtogdfkilhpkloaaGreatDoor

namespace Go.Proofs.YtogdfkilhpkloaaGreatDoor
open Go.RowKit Go.Sat Go.Maps

def WriTold (w w1 : World) (l d : Nat) (pre : ByteArray) (F : Nat → Prop) (r : Wrote) (e : Ending) (w' : World) : Prop :=
  e = .returned (.int .i64 (r.err : Int)) ∧ LedF w w' l d pre r.disk r.led F ∧ Same F w1 w'

section
variable {w w1 w2 wc : World} {l d : Nat} {pre : ByteArray} {D : DiskM} {M : LedM} {F : Nat → Prop}

theorem led_save (h : LedF w w1 l d pre D M F) (hb : Below w1.heap.size w1 wc) (s : ByteArray) (hs : s.size ≤ 9223372036854775807) {p : Option Addr} {n c : Nat} {ls : List Bs} (hx : RowsAt wc (.slice p n c) ls) (hn : n ≤ 140737488355328) (hl : ls.flatten.length ≤ 1048576) :
    Calls Tryz.prog 97 #[.pointer (some ⟨d, 0, none⟩), .string s, .slice p n c] wc fun e w' => e = .returned (.int .i64 ((D.save (nm s) ls.flatten).2 : Int)) ∧ LedF w w' l d pre (D.save (nm s) ls.flatten).1 M F ∧ Same F w1 w' ∧ w'.heap[l]? = w1.heap[l]? :=
  led_disk h hb fun _ hS => save_calls (hS.next hb) s hs hx hn hl

/-- A thing done with the disk, told from further back. -/
theorem led_diskB {P : Program} {f : FuncId} {args : Array Value} {Re : DiskM × Nat} (h : LedF w w1 l d pre D M F) (hx : ∀ G, St w w1 d D G → Calls P f args wc (Told w d G w1 Re)) :
    Calls P f args wc fun e w' => e = .returned (.int .i64 (Re.2 : Int)) ∧ LedF w w' l d pre Re.1 M F ∧ Same F w1 w' ∧ w'.heap[l]? = w1.heap[l]? := by
  obtain ⟨own, dv, ev, vs, hL, hS, hn, hl⟩ := h
  refine (hx _ hS).mono ?_
  rintro e w' ⟨rfl, hS', hs⟩
  exact ⟨rfl, ⟨own, dv, ev, vs, hL.keep (fun k hk => hs k (.inl hk)) fun k hk => hS'.flt (.inl hk), hS', hn, fun k hk => hS'.flt (.inr hk)⟩, fun k hk => hs k (.inr hk), hs l (.inl hL.ol)⟩
theorem led_rid1 (h : LedF w w1 l d pre D M F) (s : ByteArray) (hs : s.size ≤ 9223372036854775807) :
    Calls Tryz.prog 100 #[.pointer (some ⟨d, 0, none⟩), .slice (some ⟨w1.heap.size, 0, none⟩) 1 1] (w1.alloc (.cells #[.string s] 9)) fun e w' => e = .returned (.int .i64 ((D.rid [nm s]).2 : Int)) ∧ LedF w w' l d pre (D.rid [nm s]).1 M F ∧ Same F w1 w' ∧ w'.heap[l]? = w1.heap[l]? :=
  led_diskB h fun _ hS => told_rid1 hS (Below.refl _ _) s hs

theorem wri_dead (hd : M.dead = true) (i : Int) (b : Bs) : ledWrite (nm pre) D M i b = ⟨D, M, 0, 9⟩ := by unfold ledWrite; rw [if_pos hd]
theorem wri_arg (hd : M.dead = false) (i : Int) (b : Bs) (h : i < (M.last : Int) ∨ 1099511627776 < i) : ledWrite (nm pre) D M i b = ⟨D, M, 0, 1⟩ := by unfold ledWrite; rw [if_neg (by simp [hd]), if_pos h]
theorem wri_long (hd : M.dead = false) (i : Int) (b : Bs) (h : ¬ (i < (M.last : Int) ∨ 1099511627776 < i)) (h2 : 524288 < b.length) : ledWrite (nm pre) D M i b = ⟨D, M, 0, 5⟩ := by unfold ledWrite; rw [if_neg (by simp [hd]), if_neg h, if_pos h2]
theorem wri_err (hd : M.dead = false) (m : Nat) (b : Bs) (h : ¬ ((m : Int) < (M.last : Int) ∨ 1099511627776 < (m : Int))) (h2 : ¬ 524288 < b.length) {r : DiskM × Nat} (hr : imgOn (nm pre) D m b = r) (h1 : r.2 ≠ 0) : ledWrite (nm pre) D M (m : Int) b = ⟨r.1, M.die, 0, r.2⟩ := by
  unfold ledWrite
  rw [if_neg (by simp [hd]), if_neg h, if_neg h2, Int.toNat_natCast, hr, if_pos h1]
theorem wri_ok (hd : M.dead = false) (m : Nat) (b : Bs) (h : ¬ ((m : Int) < (M.last : Int) ∨ 1099511627776 < (m : Int))) (h2 : ¬ 524288 < b.length) {r : DiskM × Nat} (hr : imgOn (nm pre) D m b = r) (h1 : r.2 = 0) : ledWrite (nm pre) D M (m : Int) b = ⟨r.1, ⟨m, b, [], M.dead⟩, 0, 0⟩ := by
  unfold ledWrite
  rw [if_neg (by simp [hd]), if_neg h, if_neg h2, Int.toNat_natCast, hr, if_neg (by simpa using h1)]

/-- The image stands for all. -/
theorem led_reset {own : Nat → Prop} {dv ev : Value} {vs : List Value} (hL : LedIn w1 l d pre own M dv ev vs) {m : Nat} {v : Value} {b : Bs} (hv : OwnB w1 5 v b) (hvo : ∀ k, v.ownBlock = some k → ¬ own k) (hm : m ≤ 1099511627776) (hb : b.length ≤ 1073741824) :
    LedIn (((w1.setCell ⟨l, 2, none⟩ (.int .i64 (m : Int))).setCell ⟨l, 3, none⟩ v).setCell ⟨l, 4, none⟩ (.slice none 0 0)) l d pre (fun k => own k ∨ v.ownBlock = some k) ⟨m, b, [], M.dead⟩ v (.slice none 0 0) [] := by
  have hne : ∀ k, v.ownBlock = some k → k ≠ l := fun k hk e => hvo k hk (e ▸ hL.ol)
  have hk : ∀ k, k ≠ l → (((w1.setCell ⟨l, 2, none⟩ (.int .i64 (m : Int))).setCell ⟨l, 3, none⟩ v).setCell ⟨l, 4, none⟩ (.slice none 0 0)).heap[k]? = w1.heap[k]? := fun k e => (set_other _ e).trans ((set_other _ e).trans (set_other _ e))
  refine ⟨?_, OwnR.keep hv fun k h => hk k (hne k h), OwnR.nil _ _ _, fun i u b hu => (by simp at hu), .inl hL.ol, fun k h => ⟨.inr h, hne k h, fun e => by cases e⟩, fun k h => (by cases h), fun u hu => (by simp at hu), fun k h => ?_, ?_, hL.psz, hb, fun b hb => (by cases hb)⟩
  · have h1 := set_block hL.cells 2 (.int .i64 (m : Int))
    have h2 := set_block h1 3 v
    have h3 := set_block h2 4 (.slice none 0 0)
    simpa using h3
  · have : k < w1.heap.size := h.elim (hL.olt k) fun h => OwnR.lt hv h
    simpa [World.setCell] using this
  · show m + 0 ≤ _
    omega

set_option maxRecDepth 100000 in
set_option maxHeartbeats 16000000 in
theorem lwrite_calls (h : LedF w w1 l d pre D M F) (i : Int) (hir : -9223372036854775808 ≤ i ∧ i ≤ 9223372036854775807) {pp : Option Addr} {n c : Nat} {b : Bs} (hx : ∀ W, Below w.heap.size w W → Same F w1 W → HasB W (.slice pp n c) b) (hb47 : b.length ≤ 140737488355328) :
    Calls Tryz.prog 45 #[.pointer (some ⟨l, 0, none⟩), .int .i64 i, .slice pp n c] w1 (WriTold w w1 l d pre F (ledWrite (nm pre) D M i b)) := by
  have hn : b.length = n := by obtain ⟨_, _, e⟩ := (hx w1 h.bel fun _ _ => rfl).slice; simp only [Value.slice.injEq] at e; exact e.2.1.symm
  have hps := h.psz.2
  have hlast40 := h.last
  obtain ⟨dv, ev, hcl, -⟩ := h.cells
  have k5 := cell_of hcl (i := 5) rfl
  have H := Lib.hid h
  have Hx := Lib.hid hx
  have Hla := Lib.hid (last_calls h)
  clear h hx hcl
  cases hd : M.dead with
  | true =>
    have HE := Lib.hid (show WriTold w w1 l d pre F (ledWrite (nm pre) D M i b) (.returned (.int .i64 9)) w1 from by rw [wri_dead hd]; exact ⟨rfl, H.out, fun _ _ => rfl⟩)
    have k5' : w1.cell? ⟨l, 5, none⟩ = some (.bool true) := by rw [← hd]; exact k5
    clear k5 hd
    go_enter Tryz.func45, Tryz.ntmps45
    go_wp2_with fail
    go_ret
    exact HE.out
  | false =>
    have k5' : w1.cell? ⟨l, 5, none⟩ = some (.bool false) := by rw [← hd]; exact k5
    have Hd := Lib.hid hd
    clear k5 hd
    by_cases harg : i < (M.last : Int) ∨ 1099511627776 < i
    · have HE := Lib.hid (fun q => show WriTold w w1 l d pre F (ledWrite (nm pre) D M i b) (.returned (.int .i64 1)) (w1.drewN q) from by rw [wri_arg Hd.out _ _ harg]; exact ⟨rfl, H.out.next ⟨rfl, rfl, rfl, Nat.le_refl _, fun _ _ => rfl⟩, fun _ _ => rfl⟩)
      generalize M.last = la at *
      by_cases h1 : i < (la : Int)
      · clear harg
        go_enter Tryz.func45, Tryz.ntmps45
        go_wp2_with fail
        refine Hla.out.mono ?_
        rintro e w2 ⟨rfl, q, rfl⟩
        go_wp2_with fail
        go_ret
        exact HE.out q
      · have h2 : 1099511627776 < i := harg.resolve_left h1
        clear harg
        go_enter Tryz.func45, Tryz.ntmps45
        go_wp2_with fail
        refine Hla.out.mono ?_
        rintro e w2 ⟨rfl, q, rfl⟩
        go_wp2_with fail
        go_ret
        exact HE.out q
    · obtain ⟨m, rfl⟩ : ∃ m : Nat, i = (m : Int) := ⟨i.toNat, by omega⟩
      by_cases hlong : 524288 < n
      · have HE := Lib.hid (fun q => show WriTold w w1 l d pre F (ledWrite (nm pre) D M (m : Int) b) (.returned (.int .i64 5)) (w1.drewN q) from by rw [wri_long Hd.out _ _ harg (by omega)]; exact ⟨rfl, H.out.next ⟨rfl, rfl, rfl, Nat.le_refl _, fun _ _ => rfl⟩, fun _ _ => rfl⟩)
        have h1 : (M.last : Int) ≤ (m : Int) := by omega
        have h2 : (m : Int) ≤ 1099511627776 := by omega
        generalize M.last = la at *
        clear harg
        go_enter Tryz.func45, Tryz.ntmps45
        go_wp2_with fail
        refine Hla.out.mono ?_
        rintro e w2 ⟨rfl, q, rfl⟩
        go_wp2_with fail
        go_ret
        exact HE.out q
      · have Hno := Lib.hid harg
        have Hsh := Lib.hid (show ¬ 524288 < b.length by omega)
        have h1 : (M.last : Int) ≤ (m : Int) := by omega
        have h2 : (m : Int) ≤ 1099511627776 := by omega
        have Hm40 := Lib.hid (show m ≤ 1099511627776 by omega)
        have Hb30 := Lib.hid (show b.length ≤ 524288 by omega)
        have Hps := Lib.hid hps
        clear harg
        generalize hlaE : M.last = la at *
        have HlaE := Lib.hid hlaE
        clear hlaE
        go_enter Tryz.func45, Tryz.ntmps45
        go_wp2_with fail
        refine Hla.out.mono ?_
        rintro e w2 ⟨rfl, q, rfl⟩
        go_wp2_with fail
        have Hw2 := Lib.hid (show WrIn ((w1.drewN q).alloc (.cells #[.slice none 0 0] 160)) w1.heap.size (.slice none 0 0) [] from wr_fresh (w1.drewN q) (0, 0) rfl)
        have HB2 := Lib.hid (show Below w1.heap.size w1 ((w1.drewN q).alloc (.cells #[.slice none 0 0] 160)) from (show Below w1.heap.size w1 (w1.drewN q) from ⟨rfl, rfl, rfl, Nat.le_refl _, fun _ _ => rfl⟩).alloc (Nat.le_refl _) _)
        have hsz2 : ((w1.drewN q).alloc (.cells #[.slice none 0 0] 160)).heap.size = w1.heap.size + 1 := by simp
        have Hn1 := Lib.hid (wnum_one Hw2.out (m : Int) ⟨by omega, by omega⟩ (by simp) (w1.heap.size + 1) 1 hsz2.symm (0, 0))
        have Hba := Lib.hid (show Below w1.heap.size w1 (((w1.drewN q).alloc (.cells #[.slice none 0 0] 160)).alloc (.cells #[.int .i64 (m : Int)] 3)) from HB2.out.alloc HB2.out.size _)
        clear hsz2
        generalize (w1.drewN q).alloc (.cells #[.slice none 0 0] 160) = W2 at *
        refine Hn1.out.mono ?_
        rintro e w3 ⟨rfl, v3, hv3, hc3, hn3⟩
        have HB3 := Lib.hid (wr_below Hba.out (Nat.le_refl _) (fun j hj => by cases hj) hc3 hn3)
        have Hby := Lib.hid (wbytes_one hv3 (pv := pp) (m := n) (cv := c) (x := b) (fun W hc => by
          have hbW : Below w1.heap.size w1 W := HB3.out.1.trans (hc.below HB3.out.1.size fun j hj hs => by
            rcases hs with rfl | hs
            · omega
            · have := HB3.out.2 j hs
              omega)
          exact Hx.out W (H.out.bel.trans (hbW.mono H.out.bel.size)) fun k hk => hbW.block k (H.out.flt hk)) (by
          have h1 := numI_len (m : Int)
          rw [List.nil_append]
          have := Hb30.out
          omega) w3.heap.size 1 rfl (0, 0))
        have Hbb := Lib.hid (show Below w1.heap.size w1 (w3.alloc (.cells #[.slice pp n c] 39)) from HB3.out.1.alloc HB3.out.1.size _)
        clear hv3 hc3 hn3 Hn1
        go_wp2_with fail
        refine Hby.out.mono ?_
        rintro e w4 ⟨rfl, v4, hv4, hc4, hn4⟩
        have HB4 := Lib.hid (wr_below Hbb.out (Nat.le_refl _) HB3.out.2 hc4 hn4).1
        have hi4 : [] ++ numI (m : Int) ++ rowB b = imgB m b := by
          rw [List.nil_append]
          unfold imgB
          rw [numI_nat (by have := Hm40.out; omega)]
        rw [hi4] at hv4
        have Hil := Lib.hid (show (imgB m b).length ≤ 540000 from by
          unfold imgB rowB
          have h1 := numB_nine (n := m) (by have := Hm40.out; omega)
          have h2 := numB_nine (n := b.length) (by have := Hb30.out; omega)
          have h3 := Hb30.out
          rw [List.length_append, List.length_append]
          omega)
        have Hv4 := Lib.hid hv4
        have HL4 := Lib.hid (H.out.next HB4.out)
        have Hs4 := Lib.hid (H.out.same HB4.out)
        clear hv4 hc4 hn4 hi4 Hby
        generalize hIM : imgB m b = im at *
        have HIM := Lib.hid hIM
        clear hIM
        generalize hml : im.length = ml at *
        have Hml := Lib.hid hml
        clear hml
        cases hsv : D.save (imgN (nm pre)) im with
        | mk D1 e1 =>
          have Hsave := Lib.hid (show ∀ W, LedF w W l d pre D M F → ∀ p c, HasB W (.slice p ml c) im → Calls Tryz.prog 97 #[.pointer (some ⟨d, 0, none⟩), .string (sImg pre), .slice (some ⟨W.heap.size, 0, none⟩) 1 1] (W.alloc (.cells #[.slice p ml c] 39)) fun e w' => e = .returned (.int .i64 (e1 : Int)) ∧ LedF w w' l d pre D1 M F ∧ Same F W w' ∧ w'.heap[l]? = W.heap[l]? from fun W h p c hf => by
            have hr := rows_one hf 39 (0, 0) W.heap.size 1 rfl (Nat.le_refl _)
            have := led_save h (below_one W (.cells #[.slice p ml c] 39)) (sImg pre) (by rw [size_img]; omega) hr (by decide) (by rw [List.flatten_cons, List.flatten_nil, List.append_nil, Hml.out]; have := Hil.out; omega)
            rwa [nm_img, show [im].flatten = im from by rw [List.flatten_cons, List.flatten_nil, List.append_nil], hsv] at this)
          by_cases he1 : e1 = 0
          · subst he1
            cases hri : D1.rid [logN (nm pre)] with
            | mk D2 e2 =>
              have Hly := Lib.hid (show imgOn (nm pre) D m b = (D2, e2) from by unfold imgOn; rw [HIM.out, hsv]; rw [if_neg (by simp)]; exact hri)
              have Hrid := Lib.hid (show ∀ W, LedF w W l d pre D1 M F → Calls Tryz.prog 100 #[.pointer (some ⟨d, 0, none⟩), .slice (some ⟨W.heap.size, 0, none⟩) 1 1] (W.alloc (.cells #[.string (sLog pre)] 9)) fun e w' => e = .returned (.int .i64 (e2 : Int)) ∧ LedF w w' l d pre D2 M F ∧ Same F W w' ∧ w'.heap[l]? = W.heap[l]? from fun W h => by
                have := led_rid1 h (sLog pre) (by rw [size_log]; omega)
                rwa [nm_log, hri] at this)
              clear hsv hri
              by_cases he2 : e2 = 0
              · subst he2
                have HR := Lib.hid (wri_ok Hd.out m b (by rw [HlaE.out]; exact Hno.out) Hsh.out Hly.out rfl)
                go_wp2_with fail
                have HLd := Lib.hid (HL4.out.next (below_drew w4))
                have Hsd := Lib.hid (show Same F w1 w4.drew from Hs4.out)
                have Hwd := Lib.hid (show WrIn w4.drew w1.heap.size v4 im from Hv4.out.keep (below_drew w4))
                have HBd := Lib.hid (show Below w1.heap.size w1 w4.drew from HB4.out.trans ((below_drew w4).mono HB4.out.size))
                obtain ⟨hc0, hc1, -⟩ := HL4.out.lc
                refine ord_start (fun w' : World => w'.cell? ⟨l, 0, none⟩ = some (.pointer (some ⟨d, 0, none⟩)) ∧ w'.cell? ⟨l, 1, none⟩ = some (.string pre)) (n := 10) (by kernel_rfl) rfl (⟨hc0, hc1⟩) (fun hHeld => ?_)
                generalize w4.drew = W1 at *
                refine Pl [0,1,2,3,4] ?_
                iterate 5 (refine Pc rfl ?_;simp only [Act.put, uA, uB, uC])
                refine Pn ?_
                refine ord_one 5 rfl (by kernel_rfl) (by rfl) (fun K hK => ?_)
                go_wp2_with fail
                refine (imgName_calls ⟨hHeld.1, hHeld.2, hps⟩).mono ?_
                rintro e w9 ⟨rfl, rfl⟩
                go_wp2_with fail
                refine hK.out _ _ (hHeld) (fun hHeld => ?_)
                clear hK
                try simp only [Act.put, List.setIfInBounds_toArray, List.set_cons_zero, List.set_cons_succ]
                refine ord_one 6 rfl (by kernel_rfl) (by rfl) (fun K hK => ?_)
                have Hou := Lib.hid (wout_calls Hwd.out (by rw [Hml.out]; have := Hil.out; omega))
                go_wp2_with fail
                refine Hou.out.mono ?_
                rintro e w5 ⟨v5, rfl, hv5, hn5, hb5⟩
                have HL5 := Lib.hid (HLd.out.next hb5)
                have Hs5 := Lib.hid (show Same F w1 w5 from fun k hk => (HLd.out.same hb5 k hk).trans (Hsd.out k hk))
                have Hk5 := Lib.hid (HLd.out.lc.same (hb5.block l HLd.out.llt))
                have Hv5 := Lib.hid (show HasB w5 v5 im from hv5.has)
                obtain ⟨p5, c5, rfl, -⟩ := own_cap0 hv5
                rw [Hml.out] at Hv5
                clear hv5 hn5 hb5 Hou
                rw [Hml.out]
                go_wp2_with fail
                refine hK.out _ _ (⟨Hk5.out.1, Hk5.out.2.1⟩) (fun hHeld => ?_)
                clear hK
                try simp only [Act.put, List.setIfInBounds_toArray, List.set_cons_zero, List.set_cons_succ]
                refine ord_one 7 rfl (by kernel_rfl) (by rfl) (fun K hK => ?_)
                have Hh2 := Lib.hid (show (w5.alloc (.cells #[.slice p5 ml c5] 39)).cell? ⟨l, 0, none⟩ = some (.pointer (some ⟨d, 0, none⟩)) ∧ (w5.alloc (.cells #[.slice p5 ml c5] 39)).cell? ⟨l, 1, none⟩ = some (.string pre) from ⟨al_cell hHeld.1 _, al_cell hHeld.2 _⟩)
                go_wp2_with fail
                refine hK.out _ _ (Hh2.out) (fun hHeld => ?_)
                clear hK
                try simp only [Act.put, List.setIfInBounds_toArray, List.set_cons_zero, List.set_cons_succ]
                refine ord_one 8 rfl (by kernel_rfl) (by rfl) (fun K hK => ?_)
                have Hsv := Lib.hid (Hsave.out w5 HL5.out p5 c5 Hv5.out)
                go_wp2_with fail
                refine Hsv.out.mono ?_
                rintro e w7 ⟨rfl, hl7, hs7, hk7⟩
                have Hh3 := Lib.hid (HL5.out.lc.same hk7)
                have HL7 := Lib.hid hl7
                have Hs7 := Lib.hid (show Same F w1 w7 from fun k hk => (hs7 k hk).trans (Hs5.out k hk))
                clear hl7 hs7 hk7 Hsv
                go_wp2_with fail
                refine hK.out _ _ (⟨Hh3.out.1, Hh3.out.2.1⟩) (fun hHeld => ?_)
                clear hK
                try simp only [Act.put, List.setIfInBounds_toArray, List.set_cons_zero, List.set_cons_succ]
                refine ord_take 9 (v := ?v10x9) rfl (by kernel_rfl) (by kernel_rfl) (by kernel_rfl) (fun _ _ _ h => h) (by rfl) (by assumption) ?y10x9 ?_
                case y10x9 => (intro w hSw; (try dsimp only at hSw); go_simp; try with_reducible rfl)
                simp only [Act.put, List.setIfInBounds_toArray, List.set_cons_zero, List.set_cons_succ]
                refine wpAnyH_done (by kernel_rfl) ?_ _
                clear HLd Hsd Hwd HBd Hh3 HL5 Hs5
                go_wp2_with fail
                have HLd := Lib.hid (HL7.out.next (below_drew w7))
                have Hsd := Lib.hid (show Same F w1 w7.drew from Hs7.out)
                obtain ⟨hc0, hc1, -⟩ := HL7.out.lc
                refine ord_start (fun w' : World => w'.cell? ⟨l, 0, none⟩ = some (.pointer (some ⟨d, 0, none⟩)) ∧ w'.cell? ⟨l, 1, none⟩ = some (.string pre)) (n := 9) (by kernel_rfl) rfl (⟨hc0, hc1⟩) (fun hHeld => ?_)
                generalize w7.drew = W1 at *
                refine Pl [0,1,2,3,4] ?_
                iterate 5 (refine Pc rfl ?_;simp only [Act.put, uA, uB, uC])
                refine Pn ?_
                refine ord_one 5 rfl (by kernel_rfl) (by rfl) (fun K hK => ?_)
                go_wp2_with fail
                refine (logName_calls ⟨hHeld.1, hHeld.2, hps⟩).mono ?_
                rintro e w9 ⟨rfl, rfl⟩
                go_wp2_with fail
                refine hK.out _ _ (hHeld) (fun hHeld => ?_)
                clear hK
                try simp only [Act.put, List.setIfInBounds_toArray, List.set_cons_zero, List.set_cons_succ]
                refine ord_one 6 rfl (by kernel_rfl) (by rfl) (fun K hK => ?_)
                have Hh2 := Lib.hid (show (W1.alloc (.cells #[.string (sLog pre)] 9)).cell? ⟨l, 0, none⟩ = some (.pointer (some ⟨d, 0, none⟩)) ∧ (W1.alloc (.cells #[.string (sLog pre)] 9)).cell? ⟨l, 1, none⟩ = some (.string pre) from ⟨al_cell hHeld.1 _, al_cell hHeld.2 _⟩)
                go_wp2_with fail
                refine hK.out _ _ (Hh2.out) (fun hHeld => ?_)
                clear hK
                try simp only [Act.put, List.setIfInBounds_toArray, List.set_cons_zero, List.set_cons_succ]
                refine ord_one 7 rfl (by kernel_rfl) (by rfl) (fun K hK => ?_)
                go_wp2_with fail
                refine (Hrid.out W1 HLd.out).mono ?_
                rintro e w8 ⟨rfl, hl8, hs8, hk8⟩
                have Hh3 := Lib.hid (HLd.out.lc.same hk8)
                have HL8 := Lib.hid hl8
                have Hs8 := Lib.hid (show Same F w1 w8 from fun k hk => (hs8 k hk).trans (Hsd.out k hk))
                clear hl8 hs8 hk8
                go_wp2_with fail
                refine hK.out _ _ (⟨Hh3.out.1, Hh3.out.2.1⟩) (fun hHeld => ?_)
                clear hK
                try simp only [Act.put, List.setIfInBounds_toArray, List.set_cons_zero, List.set_cons_succ]
                refine ord_take 8 (v := ?v20x8) rfl (by kernel_rfl) (by kernel_rfl) (by kernel_rfl) (fun _ _ _ h => h) (by rfl) (by assumption) ?y20x8 ?_
                case y20x8 => (intro w hSw; (try dsimp only at hSw); go_simp; try with_reducible rfl)
                simp only [Act.put, List.setIfInBounds_toArray, List.set_cons_zero, List.set_cons_succ]
                refine wpAnyH_done (by kernel_rfl) ?_ _
                clear HLd Hsd Hh3
                have Hdi := Lib.hid (dies_calls HL8.out 0)
                go_wp2_with fail
                refine Hdi.out.mono ?_
                rintro e w10 ⟨rfl, hl10, hs10⟩
                have HL10 := Lib.hid hl10
                have Hs10 := Lib.hid (show Same F w1 w10 from fun k hk => (hs10 k hk).trans (Hs8.out k hk))
                clear hl10 hs10 Hdi
                have HLm := Lib.hid (show LedF w w10 l d pre D2 M F from by
                  have h := HL10.out
                  have e : ({ M with dead := M.dead || decide ((0 : Nat) ≠ 0) } : LedM) = M := by
                    rw [Hd.out]
                    show (⟨M.base, M.data, M.entries, false⟩ : LedM) = M
                    rw [← Hd.out]
                  rwa [e] at h)
                have Hcl := Lib.hid (clone_calls (Hx.out w10 HLm.out.bel Hs10.out) (by have := Hb30.out; omega))
                clear HL10
                go_wp2_with fail
                refine Hcl.out.mono ?_
                rintro e w11 ⟨u, rfl, hu, hun, hb11⟩
                obtain ⟨own, dv, ev, vs, hL, hS, hn', hl⟩ := HLm.out
                have hL11 := hL.below hb11
                have hfin := led_reset hL11 hu (fun k hk ho => by have h1 := hun k hk; have h2 := hL.olt k ho; omega) Hm40.out (by have := Hb30.out; omega)
                have hch : Chg own w10 (((w11.setCell ⟨l, 2, none⟩ (.int .i64 (m : Int))).setCell ⟨l, 3, none⟩ u).setCell ⟨l, 4, none⟩ (.slice none 0 0)) := ((((Chg.of_below hb11).mono fun _ _ h => h.elim).trans (Chg.setCell w11 ⟨l, 2, none⟩ _) fun k _ e => by rw [e]; exact hL.ol).trans (Chg.setCell _ ⟨l, 3, none⟩ _) fun k _ e => by rw [e]; exact hL.ol).trans (Chg.setCell _ ⟨l, 4, none⟩ _) fun k _ e => by rw [e]; exact hL.ol
                have hQ := LedF.turned hS hn' hl hfin hch fun k hk => hk.imp id (hun k)
                have HE := Lib.hid (show WriTold w w1 l d pre F (ledWrite (nm pre) D M (m : Int) b) (.returned (.int .i64 0)) (((w11.setCell ⟨l, 2, none⟩ (.int .i64 (m : Int))).setCell ⟨l, 3, none⟩ u).setCell ⟨l, 4, none⟩ (.slice none 0 0)) from by
                  rw [HR.out]
                  exact ⟨rfl, hQ.1, fun k hk => (hQ.2 k hk).trans (Hs10.out k hk)⟩)
                have k2 := hL11.c2
                have k3 := hL11.c3
                have k4 := hL11.c4
                have f2 := hL11.fr 2
                have f3 := hL11.fr 3
                have f4 := hL11.fr 4
                obtain ⟨pu, cu, rfl, -⟩ := own_cap0 hu
                obtain ⟨pd, cd, rfl, -⟩ := own_cap0 hL.data
                obtain ⟨pe, ce, rfl⟩ := OwnR.shape hL.row
                rw [hn] at HE ⊢
                clear hL hS hn' hl hL11 hfin hch hQ hu hun hb11 Hcl
                go_wp2_with fail
                go_ret
                exact HE.out
              · have hne : ((e2 : Int) != 0) = true := by simp; omega
                have HR := Lib.hid (wri_err Hd.out m b (by rw [HlaE.out]; exact Hno.out) Hsh.out Hly.out he2)
                have He := Lib.hid he2
                have hne2 : ((e2 : Int) == 0) = false := by simp; omega
                clear he2
                go_wp2_with fail
                have HLd := Lib.hid (HL4.out.next (below_drew w4))
                have Hsd := Lib.hid (show Same F w1 w4.drew from Hs4.out)
                have Hwd := Lib.hid (show WrIn w4.drew w1.heap.size v4 im from Hv4.out.keep (below_drew w4))
                have HBd := Lib.hid (show Below w1.heap.size w1 w4.drew from HB4.out.trans ((below_drew w4).mono HB4.out.size))
                obtain ⟨hc0, hc1, -⟩ := HL4.out.lc
                refine ord_start (fun w' : World => w'.cell? ⟨l, 0, none⟩ = some (.pointer (some ⟨d, 0, none⟩)) ∧ w'.cell? ⟨l, 1, none⟩ = some (.string pre)) (n := 10) (by kernel_rfl) rfl (⟨hc0, hc1⟩) (fun hHeld => ?_)
                generalize w4.drew = W1 at *
                refine Pl [0,1,2,3,4] ?_
                iterate 5 (refine Pc rfl ?_;simp only [Act.put, uA, uB, uC])
                refine Pn ?_
                refine ord_one 5 rfl (by kernel_rfl) (by rfl) (fun K hK => ?_)
                go_wp2_with fail
                refine (imgName_calls ⟨hHeld.1, hHeld.2, hps⟩).mono ?_
                rintro e w9 ⟨rfl, rfl⟩
                go_wp2_with fail
                refine hK.out _ _ (hHeld) (fun hHeld => ?_)
                clear hK
                try simp only [Act.put, List.setIfInBounds_toArray, List.set_cons_zero, List.set_cons_succ]
                refine ord_one 6 rfl (by kernel_rfl) (by rfl) (fun K hK => ?_)
                have Hou := Lib.hid (wout_calls Hwd.out (by rw [Hml.out]; have := Hil.out; omega))
                go_wp2_with fail
                refine Hou.out.mono ?_
                rintro e w5 ⟨v5, rfl, hv5, hn5, hb5⟩
                have HL5 := Lib.hid (HLd.out.next hb5)
                have Hs5 := Lib.hid (show Same F w1 w5 from fun k hk => (HLd.out.same hb5 k hk).trans (Hsd.out k hk))
                have Hk5 := Lib.hid (HLd.out.lc.same (hb5.block l HLd.out.llt))
                have Hv5 := Lib.hid (show HasB w5 v5 im from hv5.has)
                obtain ⟨p5, c5, rfl, -⟩ := own_cap0 hv5
                rw [Hml.out] at Hv5
                clear hv5 hn5 hb5 Hou
                rw [Hml.out]
                go_wp2_with fail
                refine hK.out _ _ (⟨Hk5.out.1, Hk5.out.2.1⟩) (fun hHeld => ?_)
                clear hK
                try simp only [Act.put, List.setIfInBounds_toArray, List.set_cons_zero, List.set_cons_succ]
                refine ord_one 7 rfl (by kernel_rfl) (by rfl) (fun K hK => ?_)
                have Hh2 := Lib.hid (show (w5.alloc (.cells #[.slice p5 ml c5] 39)).cell? ⟨l, 0, none⟩ = some (.pointer (some ⟨d, 0, none⟩)) ∧ (w5.alloc (.cells #[.slice p5 ml c5] 39)).cell? ⟨l, 1, none⟩ = some (.string pre) from ⟨al_cell hHeld.1 _, al_cell hHeld.2 _⟩)
                go_wp2_with fail
                refine hK.out _ _ (Hh2.out) (fun hHeld => ?_)
                clear hK
                try simp only [Act.put, List.setIfInBounds_toArray, List.set_cons_zero, List.set_cons_succ]
                refine ord_one 8 rfl (by kernel_rfl) (by rfl) (fun K hK => ?_)
                have Hsv := Lib.hid (Hsave.out w5 HL5.out p5 c5 Hv5.out)
                go_wp2_with fail
                refine Hsv.out.mono ?_
                rintro e w7 ⟨rfl, hl7, hs7, hk7⟩
                have Hh3 := Lib.hid (HL5.out.lc.same hk7)
                have HL7 := Lib.hid hl7
                have Hs7 := Lib.hid (show Same F w1 w7 from fun k hk => (hs7 k hk).trans (Hs5.out k hk))
                clear hl7 hs7 hk7 Hsv
                go_wp2_with fail
                refine hK.out _ _ (⟨Hh3.out.1, Hh3.out.2.1⟩) (fun hHeld => ?_)
                clear hK
                try simp only [Act.put, List.setIfInBounds_toArray, List.set_cons_zero, List.set_cons_succ]
                refine ord_take 9 (v := ?v30x9) rfl (by kernel_rfl) (by kernel_rfl) (by kernel_rfl) (fun _ _ _ h => h) (by rfl) (by assumption) ?y30x9 ?_
                case y30x9 => (intro w hSw; (try dsimp only at hSw); go_simp; try with_reducible rfl)
                simp only [Act.put, List.setIfInBounds_toArray, List.set_cons_zero, List.set_cons_succ]
                refine wpAnyH_done (by kernel_rfl) ?_ _
                clear HLd Hsd Hwd HBd Hh3 HL5 Hs5
                go_wp2_with fail
                have HLd := Lib.hid (HL7.out.next (below_drew w7))
                have Hsd := Lib.hid (show Same F w1 w7.drew from Hs7.out)
                obtain ⟨hc0, hc1, -⟩ := HL7.out.lc
                refine ord_start (fun w' : World => w'.cell? ⟨l, 0, none⟩ = some (.pointer (some ⟨d, 0, none⟩)) ∧ w'.cell? ⟨l, 1, none⟩ = some (.string pre)) (n := 9) (by kernel_rfl) rfl (⟨hc0, hc1⟩) (fun hHeld => ?_)
                generalize w7.drew = W1 at *
                refine Pl [0,1,2,3,4] ?_
                iterate 5 (refine Pc rfl ?_;simp only [Act.put, uA, uB, uC])
                refine Pn ?_
                refine ord_one 5 rfl (by kernel_rfl) (by rfl) (fun K hK => ?_)
                go_wp2_with fail
                refine (logName_calls ⟨hHeld.1, hHeld.2, hps⟩).mono ?_
                rintro e w9 ⟨rfl, rfl⟩
                go_wp2_with fail
                refine hK.out _ _ (hHeld) (fun hHeld => ?_)
                clear hK
                try simp only [Act.put, List.setIfInBounds_toArray, List.set_cons_zero, List.set_cons_succ]
                refine ord_one 6 rfl (by kernel_rfl) (by rfl) (fun K hK => ?_)
                have Hh2 := Lib.hid (show (W1.alloc (.cells #[.string (sLog pre)] 9)).cell? ⟨l, 0, none⟩ = some (.pointer (some ⟨d, 0, none⟩)) ∧ (W1.alloc (.cells #[.string (sLog pre)] 9)).cell? ⟨l, 1, none⟩ = some (.string pre) from ⟨al_cell hHeld.1 _, al_cell hHeld.2 _⟩)
                go_wp2_with fail
                refine hK.out _ _ (Hh2.out) (fun hHeld => ?_)
                clear hK
                try simp only [Act.put, List.setIfInBounds_toArray, List.set_cons_zero, List.set_cons_succ]
                refine ord_one 7 rfl (by kernel_rfl) (by rfl) (fun K hK => ?_)
                go_wp2_with fail
                refine (Hrid.out W1 HLd.out).mono ?_
                rintro e w8 ⟨rfl, hl8, hs8, hk8⟩
                have Hh3 := Lib.hid (HLd.out.lc.same hk8)
                have HL8 := Lib.hid hl8
                have Hs8 := Lib.hid (show Same F w1 w8 from fun k hk => (hs8 k hk).trans (Hsd.out k hk))
                clear hl8 hs8 hk8
                go_wp2_with fail
                refine hK.out _ _ (⟨Hh3.out.1, Hh3.out.2.1⟩) (fun hHeld => ?_)
                clear hK
                try simp only [Act.put, List.setIfInBounds_toArray, List.set_cons_zero, List.set_cons_succ]
                refine ord_take 8 (v := ?v40x8) rfl (by kernel_rfl) (by kernel_rfl) (by kernel_rfl) (fun _ _ _ h => h) (by rfl) (by assumption) ?y40x8 ?_
                case y40x8 => (intro w hSw; (try dsimp only at hSw); go_simp; try with_reducible rfl)
                simp only [Act.put, List.setIfInBounds_toArray, List.set_cons_zero, List.set_cons_succ]
                refine wpAnyH_done (by kernel_rfl) ?_ _
                clear HLd Hsd Hh3
                have Hdi := Lib.hid (dies_calls HL8.out e2)
                go_wp2_with fail
                refine Hdi.out.mono ?_
                rintro e w10 ⟨rfl, hl10, hs10⟩
                have HL10 := Lib.hid hl10
                have Hs10 := Lib.hid (show Same F w1 w10 from fun k hk => (hs10 k hk).trans (Hs8.out k hk))
                clear hl10 hs10 Hdi
                have HE := Lib.hid (show WriTold w w1 l d pre F (ledWrite (nm pre) D M (m : Int) b) (.returned (.int .i64 (e2 : Int))) w10 from by
                  rw [HR.out]
                  refine ⟨rfl, ?_, Hs10.out⟩
                  have h := HL10.out
                  rwa [show ({ M with dead := M.dead || decide (e2 ≠ 0) } : LedM) = M.die from by rw [Hd.out]; unfold LedM.die; simp [He.out]] at h)
                go_wp2_with fail
                go_ret
                exact HE.out
          · have hne : ((e1 : Int) != 0) = true := by simp; omega
            have hne' : ((e1 : Int) == 0) = false := by simp; omega
            have Hly := Lib.hid (show imgOn (nm pre) D m b = (D1, e1) from by unfold imgOn; rw [HIM.out, hsv]; exact if_pos he1)
            have HR := Lib.hid (wri_err Hd.out m b (by rw [HlaE.out]; exact Hno.out) Hsh.out Hly.out he1)
            have He := Lib.hid he1
            clear hsv he1
            go_wp2_with fail
            have HLd := Lib.hid (HL4.out.next (below_drew w4))
            have Hsd := Lib.hid (show Same F w1 w4.drew from Hs4.out)
            have Hwd := Lib.hid (show WrIn w4.drew w1.heap.size v4 im from Hv4.out.keep (below_drew w4))
            have HBd := Lib.hid (show Below w1.heap.size w1 w4.drew from HB4.out.trans ((below_drew w4).mono HB4.out.size))
            obtain ⟨hc0, hc1, -⟩ := HL4.out.lc
            refine ord_start (fun w' : World => w'.cell? ⟨l, 0, none⟩ = some (.pointer (some ⟨d, 0, none⟩)) ∧ w'.cell? ⟨l, 1, none⟩ = some (.string pre)) (n := 10) (by kernel_rfl) rfl (⟨hc0, hc1⟩) (fun hHeld => ?_)
            generalize w4.drew = W1 at *
            refine Pl [0,1,2,3,4] ?_
            iterate 5 (refine Pc rfl ?_;simp only [Act.put, uA, uB, uC])
            refine Pn ?_
            refine ord_one 5 rfl (by kernel_rfl) (by rfl) (fun K hK => ?_)
            go_wp2_with fail
            refine (imgName_calls ⟨hHeld.1, hHeld.2, hps⟩).mono ?_
            rintro e w9 ⟨rfl, rfl⟩
            go_wp2_with fail
            refine hK.out _ _ (hHeld) (fun hHeld => ?_)
            clear hK
            try simp only [Act.put, List.setIfInBounds_toArray, List.set_cons_zero, List.set_cons_succ]
            refine ord_one 6 rfl (by kernel_rfl) (by rfl) (fun K hK => ?_)
            have Hou := Lib.hid (wout_calls Hwd.out (by rw [Hml.out]; have := Hil.out; omega))
            go_wp2_with fail
            refine Hou.out.mono ?_
            rintro e w5 ⟨v5, rfl, hv5, hn5, hb5⟩
            have HL5 := Lib.hid (HLd.out.next hb5)
            have Hs5 := Lib.hid (show Same F w1 w5 from fun k hk => (HLd.out.same hb5 k hk).trans (Hsd.out k hk))
            have Hk5 := Lib.hid (HLd.out.lc.same (hb5.block l HLd.out.llt))
            have Hv5 := Lib.hid (show HasB w5 v5 im from hv5.has)
            obtain ⟨p5, c5, rfl, -⟩ := own_cap0 hv5
            rw [Hml.out] at Hv5
            clear hv5 hn5 hb5 Hou
            rw [Hml.out]
            go_wp2_with fail
            refine hK.out _ _ (⟨Hk5.out.1, Hk5.out.2.1⟩) (fun hHeld => ?_)
            clear hK
            try simp only [Act.put, List.setIfInBounds_toArray, List.set_cons_zero, List.set_cons_succ]
            refine ord_one 7 rfl (by kernel_rfl) (by rfl) (fun K hK => ?_)
            have Hh2 := Lib.hid (show (w5.alloc (.cells #[.slice p5 ml c5] 39)).cell? ⟨l, 0, none⟩ = some (.pointer (some ⟨d, 0, none⟩)) ∧ (w5.alloc (.cells #[.slice p5 ml c5] 39)).cell? ⟨l, 1, none⟩ = some (.string pre) from ⟨al_cell hHeld.1 _, al_cell hHeld.2 _⟩)
            go_wp2_with fail
            refine hK.out _ _ (Hh2.out) (fun hHeld => ?_)
            clear hK
            try simp only [Act.put, List.setIfInBounds_toArray, List.set_cons_zero, List.set_cons_succ]
            refine ord_one 8 rfl (by kernel_rfl) (by rfl) (fun K hK => ?_)
            have Hsv := Lib.hid (Hsave.out w5 HL5.out p5 c5 Hv5.out)
            go_wp2_with fail
            refine Hsv.out.mono ?_
            rintro e w7 ⟨rfl, hl7, hs7, hk7⟩
            have Hh3 := Lib.hid (HL5.out.lc.same hk7)
            have HL7 := Lib.hid hl7
            have Hs7 := Lib.hid (show Same F w1 w7 from fun k hk => (hs7 k hk).trans (Hs5.out k hk))
            clear hl7 hs7 hk7 Hsv
            go_wp2_with fail
            refine hK.out _ _ (⟨Hh3.out.1, Hh3.out.2.1⟩) (fun hHeld => ?_)
            clear hK
            try simp only [Act.put, List.setIfInBounds_toArray, List.set_cons_zero, List.set_cons_succ]
            refine ord_take 9 (v := ?v50x9) rfl (by kernel_rfl) (by kernel_rfl) (by kernel_rfl) (fun _ _ _ h => h) (by rfl) (by assumption) ?y50x9 ?_
            case y50x9 => (intro w hSw; (try dsimp only at hSw); go_simp; try with_reducible rfl)
            simp only [Act.put, List.setIfInBounds_toArray, List.set_cons_zero, List.set_cons_succ]
            refine wpAnyH_done (by kernel_rfl) ?_ _
            clear HLd Hsd Hwd HBd Hh3 HL5 Hs5
            have Hdi := Lib.hid (dies_calls HL7.out e1)
            go_wp2_with fail
            refine Hdi.out.mono ?_
            rintro e w10 ⟨rfl, hl10, hs10⟩
            have HL10 := Lib.hid hl10
            have Hs10 := Lib.hid (show Same F w1 w10 from fun k hk => (hs10 k hk).trans (Hs7.out k hk))
            clear hl10 hs10 Hdi
            have HE := Lib.hid (show WriTold w w1 l d pre F (ledWrite (nm pre) D M (m : Int) b) (.returned (.int .i64 (e1 : Int))) w10 from by
              rw [HR.out]
              refine ⟨rfl, ?_, Hs10.out⟩
              have h := HL10.out
              rwa [show ({ M with dead := M.dead || decide (e1 ≠ 0) } : LedM) = M.die from by rw [Hd.out]; unfold LedM.die; simp [He.out]] at h)
            go_wp2_with fail
            go_ret
            exact HE.out
end
end Go.Proofs.YtogdfkilhpkloaaGreatDoor
