/- journal: goes. (Printed by mkj15.py.) journal: Compact, Install. (Printed by mkj16.py.) journal: Install. (Printed by mkj17.py.) The contracts of octet's Reader, with the set of blocks in which its bytes lie. (Printed by mkx.py out of the texts Rdr, RdrN.) octet: Reader.Nums; journal: readGroup. (Printed by mkj18.py.) journal: record. (Printed by mkj19.py.) journal: record, kind 4. (Printed by mkj20.py.) -/
import Derived.Test.YtapfnehdgailmaaGreatQB
import Derived.Test.YtapfnehdgailmaaGreatQF
namespace Go.Proofs.YtapfnehdgailmaaGreat
open Go.RowKit Go.Sat Go.Maps

def sSnp (s : ByteArray) : ByteArray := s ++ ⟨#[45, 115, 110, 97, 112]⟩
theorem nm_snp (s : ByteArray) : nm (sSnp s) = snpN (nm s) := by simp [nm, sSnp, snpN, snpX]
theorem size_snp (s : ByteArray) : (sSnp s).size = s.size + 5 := by simp [sSnp, ByteArray.size_append]; rfl

theorem wrB_outS {B : Nat} {w : World} {k : Nat} {l : Bs} (h : WrB B w k l) (hl : l.length ≤ 140737488355328) :
    Calls Tryz.prog 106 #[.pointer (some ⟨k, 0, none⟩)] w fun e w' => ∃ v, e = .returned v ∧ OwnB w' 5 v l ∧ Below w.heap.size w w' := by
  obtain ⟨v, h1, h2, h3, h4⟩ := h
  refine (wout_calls h1 hl).mono ?_
  rintro e w' ⟨u, rfl, hu, hn, hb⟩
  exact ⟨u, rfl, hu, hb⟩

theorem goes_err {pre : Bs} {D D' : DiskM} {M : JouM} {s : Snap} {e : Nat} (h : D.save (snpN pre) (snpB s.number s.term s.group s.data) = (D', e)) (he : e ≠ 0) : jouGoes pre D M s = ⟨D', M.die, e⟩ := by
  unfold jouGoes
  rw [h, if_pos he]
theorem goes_err2 {pre : Bs} {D D1 D2 : DiskM} {M : JouM} {s : Snap} {e : Nat} (h : D.save (snpN pre) (snpB s.number s.term s.group s.data) = (D1, 0)) (h2 : writesJ D1 pre (M.rebase s) = (D2, e)) (he : e ≠ 0) : jouGoes pre D M s = ⟨D2, (M.rebase s).die, e⟩ := by
  unfold jouGoes
  rw [h, if_neg (by simp), h2, if_pos he]
theorem goes_ok {pre : Bs} {D D1 D2 : DiskM} {M : JouM} {s : Snap} (h : D.save (snpN pre) (snpB s.number s.term s.group s.data) = (D1, 0)) (h2 : writesJ D1 pre (M.rebase s) = (D2, 0)) : jouGoes pre D M s = ⟨D2, M.rebase s, 0⟩ := by
  unfold jouGoes
  rw [h, if_neg (by simp), h2, if_neg (by simp)]

theorem rebase_len (M : JouM) (s : Snap) : (M.rebase s).entries.length ≤ M.entries.length := by
  show (if M.number < s.number ∧ M.termAt s.number = some s.term then M.entries.drop (s.number - M.number) else []).length ≤ _
  split
  · rw [List.length_drop]; omega
  · exact Nat.zero_le _

section
variable {w w1 wc : World} {j d : Nat} {pre : ByteArray} {D : DiskM} {M : JouM} {F F2 : Nat → Prop}

theorem jou_save (h : JouF w w1 j d pre D M F) (hb : Below w1.heap.size w1 wc) (s : ByteArray) (hs : s.size ≤ 9223372036854775807) {p : Option Addr} {n c : Nat} {ls : List Bs} (hx : RowsAt wc (.slice p n c) ls) (hn : n ≤ 140737488355328) (hl : ls.flatten.length ≤ 1048576) :
    Calls Tryz.prog 135 #[.pointer (some ⟨d, 0, none⟩), .string s, .slice p n c] wc fun e w' => e = .returned (.int .i64 ((D.save (nm s) ls.flatten).2 : Int)) ∧ JouF w w' j d pre (D.save (nm s) ls.flatten).1 M F ∧ Same F w1 w' ∧ w'.heap[j]? = w1.heap[j]? :=
  jou_disk h hb fun _ hS => save_calls (hS.next hb) s hs hx hn hl

set_option maxRecDepth 100000 in
set_option maxHeartbeats 16000000 in
theorem jgoes_calls (h : JouF w w1 j d pre D M F) (hm : M.entries.length ≤ 1000000) {s : Snap} (hs : s.OK) (hsd : s.data.length ≤ 524288) {pg pd : Option Addr} {cg cd : Nat} (hg : OwnI w1 (.slice pg s.group.length cg) s.group)
    (hx : ∀ W, Below w.heap.size w W → Same F w1 W → HasB W (.slice pd s.data.length cd) s.data)
    (hF : ∀ k, (Value.slice pg s.group.length cg).ownBlock = some k → F k ∧ w.heap.size ≤ k) (hF2 : ∀ k, F2 k → F k ∧ (Value.slice pg s.group.length cg).ownBlock ≠ some k) :
    Calls Tryz.prog 110 #[.pointer (some ⟨j, 0, none⟩), .agg #[.int .i64 (s.number : Int), .int .i64 s.term, .slice pg s.group.length cg], .slice pd s.data.length cd] w1 (JouTold w w1 j d pre F2 (jouGoes (nm pre) D M s)) := by
  have hps := h.psz
  have hssn : (sSnp pre).size = pre.size + 5 := size_snp pre
  have hsn := hs.number
  have hst := isTm_iff.1 hs.term
  have hgb := grp_bound hs.group
  have hgl := hgb.1
  have Hgb := Lib.hid hgb
  obtain ⟨c3, c4, -⟩ := h.jc
  have HG := Lib.hid hg
  have Hx := Lib.hid hx
  have HF := Lib.hid hF
  have HF2 := Lib.hid hF2
  have Hs := Lib.hid hs
  have H := Lib.hid (h.box (.cells #[.int .i64 (s.number : Int), .int .i64 s.term, .slice pg s.group.length cg] 130))
  have H0 := Lib.hid h
  have HT := Lib.hid (show snpB s.number s.term s.group s.data = [] ++ numsI [(s.number : Int), s.term] ++ grpB s.group ++ rowB s.data from by simp [snpB, numsI, numI_nat (show s.number ≤ 4611686018427387904 by omega)])
  have Hbox := Lib.hid (new_block w1 (.cells #[.int .i64 (s.number : Int), .int .i64 s.term, .slice pg s.group.length cg] 130))
  have Hb1 := Lib.hid (below_one w1 (.cells #[.int .i64 (s.number : Int), .int .i64 s.term, .slice pg s.group.length cg] 130))
  clear h hg hx hF hF2 hs hgb
  go_enter Tryz.func110, Tryz.ntmps110
  go_wp2_with fail
  have hwr := wrB_new (w1.alloc (.cells #[.int .i64 (s.number : Int), .int .i64 s.term, .slice pg s.group.length cg] 130))
  have hsz : (w1.alloc (.cells #[.int .i64 (s.number : Int), .int .i64 s.term, .slice pg s.group.length cg] 130)).heap.size = w1.heap.size + 1 := by simp
  rw [hsz] at hwr
  have hb2 : Below w1.heap.size w1 ((w1.alloc (.cells #[.int .i64 (s.number : Int), .int .i64 s.term, .slice pg s.group.length cg] 130)).alloc (.cells #[.slice none 0 0] 163)) := Hb1.out.alloc Hb1.out.size _
  have hbx2 := (al_old _ (.cells #[.slice none 0 0] 163) (lt_of_block Hbox.out)).trans Hbox.out
  have HB2 := Lib.hid hb2
  have HX2 := Lib.hid hbx2
  have HW2 := Lib.hid hwr
  have z0 := cell_of hbx2 (i := 0) rfl
  have z1 := cell_of hbx2 (i := 1) rfl
  have z0 : ((w1.alloc (.cells #[.int .i64 (s.number : Int), .int .i64 s.term, .slice pg s.group.length cg] 130)).alloc (.cells #[.slice none 0 0] 163)).cell? ⟨w1.heap.size, 0, none⟩ = some (.int .i64 (s.number : Int)) := z0
  have z1 : ((w1.alloc (.cells #[.int .i64 (s.number : Int), .int .i64 s.term, .slice pg s.group.length cg] 130)).alloc (.cells #[.slice none 0 0] 163)).cell? ⟨w1.heap.size, 1, none⟩ = some (.int .i64 s.term) := z1
  have HWs := Lib.hid (show w1.heap.size + 1 + 1 = ((w1.alloc (.cells #[.int .i64 (s.number : Int), .int .i64 s.term, .slice pg s.group.length cg] 130)).alloc (.cells #[.slice none 0 0] 163)).heap.size from by simp)
  clear hwr hsz hb2 hbx2
  generalize (w1.alloc (.cells #[.int .i64 (s.number : Int), .int .i64 s.term, .slice pg s.group.length cg] 130)).alloc (.cells #[.slice none 0 0] 163) = W0 at *
  have H1 := Lib.hid (wrB_nums HW2.out [(s.number : Int), s.term] #[.int .i64 (s.number : Int), .int .i64 s.term] rfl (by simp; omega) (by simp) (w1.heap.size + 1 + 1) 2 2 HWs.out rfl (0, 0))
  clear z0 z1
  refine H1.out.mono ?_
  rintro e w3 ⟨rfl, hw3, hb3⟩
  have h9 := numsI_len [(s.number : Int), s.term]
  have HB3 := Lib.hid (show Below w1.heap.size w1 w3 from HB2.out.trans (hb3.mono (Nat.le_succ _)))
  have HX3 := Lib.hid ((hb3.block w1.heap.size (Nat.lt_succ_self _)).trans HX2.out)
  have H2 := Lib.hid (wgroup_calls hw3 (p := pg) (n := s.group.length) (c := cg) (zs := s.group) (fun W hb => Holds.chg (OwnI.has HG.out) (Chg.of_below (HB3.out.trans (hb.mono (Nat.le_succ _)))) fun _ _ => id) (fun z hz => by have := Hgb.out.2 z hz; omega) (by simp at h9 ⊢; omega))
  have z2 : w3.cell? ⟨w1.heap.size, 2, none⟩ = some (.slice pg s.group.length cg) := cell_of HX3.out (i := 2) rfl
  clear hw3 hb3 H1
  go_wp2_with fail
  refine H2.out.mono ?_
  rintro e w4 ⟨rfl, hw4, hb4⟩
  have h8 := grpB_len s.group (by omega)
  have HB4 := Lib.hid (show Below w1.heap.size w1 w4 from HB3.out.trans (hb4.mono (Nat.le_succ _)))
  have HX4 := Lib.hid ((hb4.block w1.heap.size (Nat.lt_succ_self _)).trans HX3.out)
  have H3 := Lib.hid (wrB_bytes hw4 (pv := pd) (m := s.data.length) (cv := cd) (x := s.data) (fun W hb => Hx.out W (H0.out.bel.trans ((HB4.out.trans (hb.mono (Nat.le_succ _))).mono H0.out.bel.size)) (H0.out.same (HB4.out.trans (hb.mono (Nat.le_succ _))))) (by simp at h9 ⊢; omega) w4.heap.size 1 rfl (0, 0))
  clear hw4 hb4 H2 z2
  go_wp2_with fail
  refine H3.out.mono ?_
  rintro e w5 ⟨rfl, hw5, hb5⟩
  have HB5 := Lib.hid (show Below w1.heap.size w1 w5 from HB4.out.trans (hb5.mono (Nat.le_succ _)))
  have HX5 := Lib.hid ((hb5.block w1.heap.size (Nat.lt_succ_self _)).trans HX4.out)
  rw [← HT.out] at hw5
  have h7 : (snpB s.number s.term s.group s.data).length ≤ 600000 := by
    rw [HT.out]
    unfold rowB
    have := numB_nine (n := s.data.length) (by omega)
    simp at h9 ⊢
    omega
  have HW5 := Lib.hid hw5
  have HL7 := Lib.hid h7
  have c3 := cell_far c3 HB5.out
  have c4 := cell_far c4 HB5.out
  clear hw5 hb5 H3 h9 h8 h7
  go_wp2_with fail
  cases hsv : D.save (snpN (nm pre)) (snpB s.number s.term s.group s.data) with
  | mk D1 e1 =>
    have HJB := Lib.hid (show JouF w w5 j d pre D M (fun k => F k ∨ k = w1.heap.size) from H0.out.more HB5.out fun k hk => hk.imp id fun e => ⟨by omega, by rw [e]; exact lt_of_block HX5.out⟩)
    have Hsv := Lib.hid (fun W (hb : Below w5.heap.size w5 W) p n c (hx : RowsAt W (.slice p n c) [snpB s.number s.term s.group s.data]) (hn : n = 1) => show Calls Tryz.prog 135 #[.pointer (some ⟨d, 0, none⟩), .string (sSnp pre), .slice p n c] W fun e w' => e = .returned (.int .i64 (e1 : Int)) ∧ JouF w w' j d pre D1 M (fun k => F k ∨ k = w1.heap.size) ∧ Same (fun k => F k ∨ k = w1.heap.size) w5 w' ∧ w'.heap[j]? = w5.heap[j]? from by
      have := jou_save HJB.out hb (sSnp pre) (by rw [hssn]; omega) hx (by omega) (by simp; have := HL7.out; omega)
      rw [show [snpB s.number s.term s.group s.data].flatten = snpB s.number s.term s.group s.data by simp, nm_snp, hsv] at this
      exact this)
    have HSV := Lib.hid hsv
    clear hsv
    refine ord_start (fun w' : World => w'.cell? ⟨j, 3, none⟩ = some (.pointer (some ⟨d, 0, none⟩)) ∧ w'.cell? ⟨j, 4, none⟩ = some (.string pre)) (n := 13) (by kernel_rfl) rfl (⟨c3, c4⟩) (fun hHeld => ?_)
    refine ord_take 0 (v := ?v5x0) rfl (by kernel_rfl) (by kernel_rfl) (by kernel_rfl) (fun _ _ _ h => h) (by rfl) (by assumption) ?y5x0 ?_
    case y5x0 => (intro w hSw; (try dsimp only at hSw); go_simp; try with_reducible rfl)
    simp only [Act.put, List.setIfInBounds_toArray, List.set_cons_zero, List.set_cons_succ]
    refine ord_take 1 (v := ?v5x1) rfl (by kernel_rfl) (by kernel_rfl) (by kernel_rfl) (fun _ _ _ h => h) (by rfl) (by assumption) ?y5x1 ?_
    case y5x1 => (intro w hSw; (try dsimp only at hSw); go_simp; try with_reducible rfl)
    simp only [Act.put, List.setIfInBounds_toArray, List.set_cons_zero, List.set_cons_succ]
    refine ord_take 2 (v := ?v5x2) rfl (by kernel_rfl) (by kernel_rfl) (by kernel_rfl) (fun _ _ _ h => h) (by rfl) (by assumption) ?y5x2 ?_
    case y5x2 => (intro w hSw; (try dsimp only at hSw); go_simp; try with_reducible rfl)
    simp only [Act.put, List.setIfInBounds_toArray, List.set_cons_zero, List.set_cons_succ]
    refine ord_take 3 (v := ?v5x3) rfl (by kernel_rfl) (by kernel_rfl) (by kernel_rfl) (fun _ _ _ h => h) (by rfl) (by assumption) ?y5x3 ?_
    case y5x3 => (intro w hSw; (try dsimp only at hSw); go_simp; try with_reducible rfl)
    simp only [Act.put, List.setIfInBounds_toArray, List.set_cons_zero, List.set_cons_succ]
    refine ord_take 4 (v := ?v5x4) rfl (by kernel_rfl) (by kernel_rfl) (by kernel_rfl) (fun _ _ _ h => h) (by rfl) (by assumption) ?y5x4 ?_
    case y5x4 => (intro w hSw; (try dsimp only at hSw); go_simp; try with_reducible rfl)
    simp only [Act.put, List.setIfInBounds_toArray, List.set_cons_zero, List.set_cons_succ]
    refine ord_take 5 (v := ?v5x5) rfl (by kernel_rfl) (by kernel_rfl) (by kernel_rfl) (fun _ _ _ h => h) (by rfl) (by assumption) ?y5x5 ?_
    case y5x5 => (intro w hSw; (try dsimp only at hSw); go_simp; try with_reducible rfl)
    simp only [Act.put, List.setIfInBounds_toArray, List.set_cons_zero, List.set_cons_succ]
    refine ord_take 6 (v := ?v5x6) rfl (by kernel_rfl) (by kernel_rfl) (by kernel_rfl) (fun _ _ _ h => h) (by rfl) (by assumption) ?y5x6 ?_
    case y5x6 => (intro w hSw; (try dsimp only at hSw); go_simp; try with_reducible rfl)
    simp only [Act.put, List.setIfInBounds_toArray, List.set_cons_zero, List.set_cons_succ]
    refine ord_take 7 (v := ?v5x7) rfl (by kernel_rfl) (by kernel_rfl) (by kernel_rfl) (fun _ _ _ h => h) (by rfl) (by assumption) ?y5x7 ?_
    case y5x7 => (intro w hSw; (try dsimp only at hSw); go_simp; try with_reducible rfl)
    simp only [Act.put, List.setIfInBounds_toArray, List.set_cons_zero, List.set_cons_succ]
    refine ord_take 8 (v := ?v5x8) rfl (by kernel_rfl) (by kernel_rfl) (by kernel_rfl) (fun _ _ _ h => h) (by rfl) (by assumption) ?y5x8 ?_
    case y5x8 => (intro w hSw; (try dsimp only at hSw); go_simp; rw [if_neg (by omega)]; try with_reducible rfl)
    simp only [Act.put, List.setIfInBounds_toArray, List.set_cons_zero, List.set_cons_succ]
    refine ord_one 9 rfl (by kernel_rfl) (by rfl) (fun K hK => ?_)
    have HBd := Lib.hid (below_drew w5)
    have H6 := Lib.hid (wrB_outS (HW5.out.keep (below_drew w5)) (by have := HL7.out; omega))
    go_wp2_with fail
    refine H6.out.mono ?_
    rintro e w6 ⟨v, rfl, hv, hb6⟩
    have HB6 := Lib.hid (HBd.out.trans hb6)
    have Hh6 := Lib.hid (And.intro (cell_far hHeld.1 hb6) (cell_far hHeld.2 hb6))
    have HV := Lib.hid (OwnB.has hv)
    obtain ⟨pv, cv, rfl, -⟩ := own_cap0 hv
    clear hv hb6 H6
    go_wp2_with fail
    refine hK.out _ _ (Hh6.out) (fun hHeld => ?_)
    clear hK
    try simp only [Act.put, List.setIfInBounds_toArray, List.set_cons_zero, List.set_cons_succ]
    refine ord_one 10 rfl (by kernel_rfl) (by rfl) (fun K hK => ?_)
    have Hh7 := Lib.hid (And.intro (al_cell hHeld.1 (.cells #[.slice pv (snpB s.number s.term s.group s.data).length cv] 22)) (al_cell hHeld.2 (.cells #[.slice pv (snpB s.number s.term s.group s.data).length cv] 22)))
    go_wp2_with fail
    refine hK.out _ _ (Hh7.out) (fun hHeld => ?_)
    clear hK
    try simp only [Act.put, List.setIfInBounds_toArray, List.set_cons_zero, List.set_cons_succ]
    refine ord_one 11 rfl (by kernel_rfl) (by rfl) (fun K hK => ?_)
    have Hcl := Lib.hid (Hsv.out _ (HB6.out.trans ((below_one w6 (.cells #[.slice pv (snpB s.number s.term s.group s.data).length cv] 22)).mono HB6.out.size)) _ _ _ (rows_one HV.out 22 (0, 0) w6.heap.size 1 rfl (Nat.le_refl _)) rfl)
    go_wp2_with fail
    refine Hcl.out.mono ?_
    rintro e w7 ⟨rfl, hj7, hs7, hh7⟩
    have HJ7 := Lib.hid hj7
    have HS7 := Lib.hid hs7
    have Hh8 := Lib.hid (And.intro ((World.cell?_of_block (a := ⟨j, 3, none⟩) hh7).trans c3) ((World.cell?_of_block (a := ⟨j, 4, none⟩) hh7).trans c4))
    clear hj7 hs7 hh7 Hcl
    go_wp2_with fail
    refine hK.out _ _ (Hh8.out) (fun hHeld => ?_)
    clear hK
    try simp only [Act.put, List.setIfInBounds_toArray, List.set_cons_zero, List.set_cons_succ]
    refine ord_take 12 (v := ?v5x12) rfl (by kernel_rfl) (by kernel_rfl) (by kernel_rfl) (fun _ _ _ h => h) (by rfl) (by assumption) ?y5x12 ?_
    case y5x12 => (intro w hSw; (try dsimp only at hSw); go_simp; try with_reducible rfl)
    simp only [Act.put, List.setIfInBounds_toArray, List.set_cons_zero, List.set_cons_succ]
    refine wpAnyH_done (by kernel_rfl) ?_ _
    have HSF := Lib.hid (show Same F w1 w7 from fun k hk => (HS7.out k (.inl hk)).trans (H0.out.same HB5.out k hk))
    have HX7 := Lib.hid ((HS7.out w1.heap.size (.inr rfl)).trans HX5.out)
    by_cases he1 : e1 = 0
    · subst he1
      have Hcl := Lib.hid (fun W (hb : Below w7.heap.size w7 W) => clone_calls (Hx.out W (HJ7.out.bel.trans (hb.mono HJ7.out.bel.size)) (fun k hk => (HJ7.out.same hb k (.inl hk)).trans (HSF.out k hk))) (by omega))
      have hm2 := Nat.le_trans (rebase_len M s) hm
      cases hwj : writesJ D1 (nm pre) (M.rebase s) with
      | mk D2 e2 =>
        have HWJ := Lib.hid hwj
        have Hok := Lib.hid (fun (h : e2 = 0) => goes_ok (pre := nm pre) (M := M) HSV.out (by rw [hwj, h]))
        have Her := Lib.hid (fun (h : e2 ≠ 0) => goes_err2 (pre := nm pre) (M := M) HSV.out hwj h)
        clear hwj
        go_wp2_with fail
        refine g_start [4] (fun w' : World => w'.heap[w1.heap.size]? = some (.cells #[.int .i64 (s.number : Int), .int .i64 s.term, .slice pg s.group.length cg] 130 (0, 0))) (n := 5) (by kernel_rfl) rfl (HX7.out) (fun hHeld => ?_)
        refine g_pure0 0 (v := ?v8x0) rfl (by kernel_rfl) (by kernel_rfl) (by kernel_rfl) (by kernel_rfl) (fun _ _ _ h => h) (by rfl) (by assumption) ?y8x0 ?_
        case y8x0 => (intro w; go_simp; try with_reducible rfl)
        simp only [Act.put, List.setIfInBounds_toArray, List.set_cons_zero, List.set_cons_succ]
        refine g_take 1 (v := .agg #[.int .i64 (s.number : Int), .int .i64 s.term, .slice pg s.group.length cg]) rfl (by kernel_rfl) (by kernel_rfl) (by kernel_rfl) (by kernel_rfl) (fun _ _ _ h => h) (by rfl) (by assumption) (fun W hSw => by have q0 := cell_of hSw (i := 0) rfl; have q1 := cell_of hSw (i := 1) rfl; have q2 := cell_of hSw (i := 2) rfl; go_simp; try with_reducible rfl) ?_
        simp only [Act.put, List.setIfInBounds_toArray, List.set_cons_zero, List.set_cons_succ]
        refine g_pure0 2 (v := ?v8x2) rfl (by kernel_rfl) (by kernel_rfl) (by kernel_rfl) (by kernel_rfl) (fun _ _ _ h => h) (by rfl) (by assumption) ?y8x2 ?_
        case y8x2 => (intro w; go_simp; try with_reducible rfl)
        simp only [Act.put, List.setIfInBounds_toArray, List.set_cons_zero, List.set_cons_succ]
        refine g_one 3 rfl (by kernel_rfl) (by rfl) (fun K hK => ?_)
        have HBd := Lib.hid (below_drew w7)
        go_wp2_with fail
        refine (Hcl.out w7.drew HBd.out).mono ?_
        rintro e w8 ⟨v, rfl, hv, hvn, hb8⟩
        have HB8 := Lib.hid (HBd.out.trans hb8)
        have Hh9 := Lib.hid ((hb8.block _ (lt_of_block hHeld)).trans hHeld)
        have HV := Lib.hid (And.intro hv (show ∀ k, v.ownBlock = some k → w7.heap.size ≤ k from hvn))
        obtain ⟨pv, cv, rfl, -⟩ := own_cap0 hv
        clear hv hvn hb8 Hcl
        go_wp2_with fail
        refine hK.out _ _ (Hh9.out) (fun hHeld => ?_)
        clear hK
        try simp only [Act.put, List.setIfInBounds_toArray, List.set_cons_zero, List.set_cons_succ]
        refine g_end 4 rfl (by kernel_rfl) (by rfl) (by kernel_rfl) (fun K hK => ?_)
        have hJ8 : JouF w w8 j d pre D1 M (fun k => (F k ∨ k = w1.heap.size) ∨ (Value.slice pv s.data.length cv).ownBlock = some k) := HJ7.out.more HB8.out fun k hk => hk.imp id fun e => ⟨HV.out.2 k e, OwnR.lt HV.out.1 e⟩
        have hG8 : OwnI w8 (.slice pg s.group.length cg) s.group := OwnR.keep HG.out fun k hk => (HJ7.out.same HB8.out k (.inl (HF.out k hk).1)).trans (HSF.out k (HF.out k hk).1)
        have Hrb := Lib.hid (jrebase_calls (F2 := F2) hJ8 Hs.out hG8 HV.out.1 (fun k hk => by
          rcases hk with hk | hk
          · exact ⟨.inl (.inl (HF.out k hk).1), (HF.out k hk).2⟩
          · exact ⟨.inr hk, Nat.le_trans HJ7.out.bel.size (HV.out.2 k hk)⟩) (fun k hk => ⟨.inl (.inl (HF2.out k hk).1), (HF2.out k hk).2, fun e => by have h1 := HV.out.2 k e; have h2 := HJ7.out.flt (.inl (HF2.out k hk).1); omega⟩))
        have HS8 := Lib.hid (show Same F2 w1 w8 from fun k hk => (HJ7.out.same HB8.out k (.inl (HF2.out k hk).1)).trans (HSF.out k (HF2.out k hk).1))
        clear hJ8 hG8
        go_wp2_with fail
        refine Hrb.out.mono ?_
        rintro e w9 ⟨rfl, hj9, hs9⟩
        have HJ9 := Lib.hid hj9
        have HS9 := Lib.hid (HS8.out.trans hs9)
        clear hj9 hs9 Hrb
        go_wp2_with fail
        refine hK.out _ _ ?_
        clear hK
        try simp only [Act.put, List.setIfInBounds_toArray, List.set_cons_zero, List.set_cons_succ]
        refine g_done (by kernel_rfl) ?_ _
        have Hwr := Lib.hid (jwrites_calls HJ9.out hm2)
        unfold WritTold at Hwr
        rw [HWJ.out] at Hwr
        go_wp2_with fail
        refine Hwr.out.mono ?_
        rintro e wa ⟨rfl, hja, hsa⟩
        have Hen := Lib.hid (jended_calls hja e2)
        have HSa := Lib.hid (HS9.out.trans hsa)
        clear hja hsa Hwr
        go_wp2_with fail
        refine Hen.out.mono ?_
        rintro e wb ⟨rfl, hjb, hsb⟩
        have HE := Lib.hid (And.intro hjb (HSa.out.trans hsb))
        clear hjb hsb
        go_wp2_with fail
        go_ret
        by_cases he2 : e2 = 0
        · rw [Hok.out he2, he2]
          have h1 := HE.out.1
          rw [he2] at h1
          exact ⟨rfl, by have := deadIf_zero (M.rebase s); unfold deadIf at this; rw [this] at h1; exact h1, HE.out.2⟩
        · rw [Her.out he2]
          have h1 := HE.out.1
          exact ⟨rfl, by have := deadIf_ne (M.rebase s) he2; unfold deadIf at this; rw [this] at h1; exact h1, HE.out.2⟩
    · have hne : ((e1 : Int) != 0) = true := by simp; omega
      have HZ := Lib.hid (goes_err (pre := nm pre) (M := M) HSV.out he1)
      have hen := jended_calls (HJ7.out.less fun k hk => .inl (HF2.out k hk).1 : JouF w w7 j d pre D1 M F2) e1
      have hdi := deadIf_ne M he1
      unfold deadIf at hdi
      rw [hdi] at hen
      have Hen := Lib.hid hen
      clear he1 hen hdi
      go_wp2_with fail
      refine Hen.out.mono ?_
      rintro e w8 ⟨rfl, hj8, hs8⟩
      have HE := Lib.hid (And.intro hj8 (show Same F2 w1 w8 from fun k hk => (hs8 k hk).trans (HSF.out k (HF2.out k hk).1)))
      clear hj8 hs8
      go_wp2_with fail
      go_ret
      rw [HZ.out]
      exact ⟨rfl, HE.out.1, HE.out.2⟩
end
end Go.Proofs.YtapfnehdgailmaaGreat

namespace Go.Proofs.YtapfnehdgailmaaGreat
open Go.RowKit Go.Sat Go.Maps

theorem grpIn_ok {M : JouM} (h : M.OK) : ∀ k, isGrp (M.grpIn k).1 = true
  | 0 => h.group
  | k + 1 => by
    have ih := grpIn_ok h k
    cases he : M.entries[k]? with
    | none =>
      have : M.grpIn (k + 1) = M.grpIn k := by
        show (match M.entries[k]? with | some e => _ | none => _) = _
        rw [he]
      rw [this]
      exact ih
    | some e =>
      by_cases hk : e.kind = 2
      · rw [grpIn_yes he hk]
        have := h.ents e (List.mem_of_getElem? he)
        rw [ent_two hk] at this
        simp only [Bool.and_eq_true] at this
        exact this.2.2
      · rw [grpIn_no he hk]
        exact ih
theorem termAt_ok {M : JouM} (h : M.OK) {i : Int} {t : Int} (ht : M.termAt i = some t) : isTm t = true := by
  unfold JouM.termAt at ht
  split at ht
  · cases ht
    exact h.term
  · split at ht
    · cases ht
    · cases he : M.entries[(i - (M.number : Int) - 1).toNat]? with
      | none => rw [he] at ht; cases ht
      | some e =>
        rw [he] at ht
        cases ht
        exact isTm_iff.2 (ent_bound (h.ents e (List.mem_of_getElem? he))).1

section
variable {w w1 : World} {j d : Nat} {pre : ByteArray} {D : DiskM} {M : JouM} {F : Nat → Prop}

set_option maxRecDepth 100000 in
set_option maxHeartbeats 8000000 in
theorem jcompact_calls (h : JouF w w1 j d pre D M F) (hm : M.entries.length ≤ 1000000) (i : Int) (hi : -9223372036854775808 ≤ i ∧ i ≤ 9223372036854775807) {pd : Option Addr} {n cd : Nat} {b : Bs} (hn : b.length = n) (hn47 : n ≤ 140737488355328)
    (hx : ∀ W, Below w.heap.size w W → Same F w1 W → HasB W (.slice pd n cd) b) :
    Calls Tryz.prog 30 #[.pointer (some ⟨j, 0, none⟩), .int .i64 i, .slice pd n cd] w1 (JouTold w w1 j d pre F (jouCompact (nm pre) D M i b)) := by
  have Hmay := Lib.hid (jmay_calls h)
  have Hha := Lib.hid (jhas_calls h i hi)
  have Hid := Lib.hid (fun k w2 (hb : Below w1.heap.size w1 w2) (hr : jouCompact (nm pre) D M i b = ⟨D, M, k⟩) => jouTold_id h hb hr)
  have HR := Lib.hid (show jouCompact (nm pre) D M i b = if M.dead then ⟨D, M, 9⟩ else if i ≤ (M.number : Int) ∨ (M.last : Int) < i ∨ 524288 < b.length then ⟨D, M, 1⟩ else jouGoes (nm pre) D M ⟨i.toNat, (M.termAt i).getD 0, (M.grpIn (i.toNat - M.number)).1, b⟩ from rfl)
  have hok := h.okM
  have hlast := hok.last
  cases hd : M.dead with
  | true =>
    rw [hd] at Hmay
    have HE := Lib.hid (Hid.out 9 w1 (Below.refl _ _) (by rw [HR.out, hd]; rfl))
    clear h
    go_enter Tryz.func30, Tryz.ntmps30
    go_wp2_with fail
    refine Hmay.out.mono ?_
    rintro e w2 ⟨rfl, rfl⟩
    go_wp2_with fail
    go_ret
    exact HE.out
  | false =>
    rw [hd] at Hmay
    by_cases hin : (M.number : Int) < i ∧ i ≤ (M.last : Int)
    · rw [decide_eq_true hin] at Hha
      by_cases hbig : 524288 < n
      · have HE := Lib.hid (fun q => Hid.out 1 (w1.drewN q) ⟨rfl, rfl, rfl, Nat.le_refl _, fun _ _ => rfl⟩ (by rw [HR.out, hd, if_neg (by simp), if_pos (.inr (.inr (by rw [hn]; exact hbig)))]))
        clear h hx hin
        go_enter Tryz.func30, Tryz.ntmps30
        go_wp2_with fail
        refine Hmay.out.mono ?_
        rintro e w2 ⟨rfl, rfl⟩
        go_wp2_with fail
        refine Hha.out.mono ?_
        rintro e w2 ⟨rfl, q, rfl⟩
        go_wp2_with fail
        go_ret
        exact HE.out q
      · have hdb : decide (524288 < (n : Int)) = false := by simp; omega
        have HR2 := Lib.hid (show jouCompact (nm pre) D M i b = jouGoes (nm pre) D M ⟨i.toNat, (M.termAt i).getD 0, (M.grpIn (i.toNat - M.number)).1, b⟩ from by rw [HR.out, hd, if_neg (by simp), if_neg (by rw [hn]; omega)])
        have hlm : (M.last : Int) = (M.number : Int) + (M.entries.length : Int) := by unfold JouM.last; omega
        have hit : ∃ t, M.termAt i = some t := by
          have hkl : (i - (M.number : Int) - 1).toNat < M.entries.length := by omega
          exact ⟨_, termAt_yes hin.1 (List.getElem?_eq_getElem hkl)⟩
        obtain ⟨t, ht⟩ := hit
        have htm := termAt_ok hok ht
        generalize hN : i.toNat - M.number = N at *
        have hNl : N ≤ M.entries.length := by omega
        have hiN : i = ((M.number + N : Nat) : Int) := by omega
        have hgo := grpIn_ok hok N
        rw [ht] at HR2
        have Hta := Lib.hid (fun q => jtermAt_calls (h.drewN q) i hi)
        rw [ht] at Hta
        have Hgr := Lib.hid (fun q => show Calls Tryz.prog 107 #[.pointer (some ⟨j, 0, none⟩), .int .i64 i] (w1.drewN q) (NodesTold (w1.drewN q) (M.grpIn N)) from by rw [hiN]; exact jgrpAt_calls (h.drewN q) N hNl)
        have HBq := Lib.hid (fun q => (show Below w1.heap.size w1 (w1.drewN q) from ⟨rfl, rfl, rfl, Nat.le_refl _, fun _ _ => rfl⟩))
        have hi0 : ((i.toNat : Nat) : Int) = i := by omega
        have Hgo := Lib.hid (fun W v pg cg (hb : Below w1.heap.size w1 W) (hv : OwnI W v (M.grpIn N).1) (hvn : ∀ k, v.ownBlock = some k → w1.heap.size ≤ k) (hsh : v = .slice pg (M.grpIn N).1.length cg) => show Calls Tryz.prog 110 #[.pointer (some ⟨j, 0, none⟩), .agg #[.int .i64 i, .int .i64 t, .slice pg (M.grpIn N).1.length cg], .slice pd n cd] W (JouTold w w1 j d pre F (jouCompact (nm pre) D M i b)) from by
          subst hsh
          rw [HR2.out]
          have hJ : JouF w W j d pre D M (fun k => F k ∨ (Value.slice pg (M.grpIn N).1.length cg).ownBlock = some k) := h.more hb fun k hk => hk.imp id fun e => ⟨hvn k e, OwnR.lt hv e⟩
          have := jgoes_calls (F2 := F) hJ hm (s := ⟨i.toNat, t, (M.grpIn N).1, b⟩) ⟨by show i.toNat ≤ _; omega, htm, hgo, by show b.length ≤ _; omega⟩ (by show b.length ≤ _; omega) (pg := pg) (cg := cg) (pd := pd) (cd := cd) hv (fun W' hb' hs' => by show HasB W' (.slice pd b.length cd) b; rw [hn]; exact hx W' hb' fun k hk => (hs' k (.inl hk)).trans (h.same hb k hk)) (fun k hk => ⟨.inr hk, Nat.le_trans h.bel.size (hvn k hk)⟩) (fun k hk => ⟨.inl hk, fun e => by have h1 := hvn k e; have h2 := h.flt hk; omega⟩)
          dsimp only at this
          rw [hi0, hn] at this
          exact this.mono fun e w' hT => ⟨hT.1, hT.2.1, fun k hk => (hT.2.2 k hk).trans (h.same hb k hk)⟩)
        clear h hx hin hok ht htm hN hNl hiN hgo hlm hlast hi0 hd hi
        go_enter Tryz.func30, Tryz.ntmps30
        go_wp2_with fail
        refine Hmay.out.mono ?_
        rintro e w2 ⟨rfl, rfl⟩
        go_wp2_with fail
        refine Hha.out.mono ?_
        rintro e w3 ⟨rfl, q, rfl⟩
        go_wp2_with fail
        refine (Hta.out q).mono ?_
        rintro e w3 ⟨rfl, q2, rfl⟩
        rw [drewN_two]
        go_wp2_with fail
        refine (Hgr.out (q + q2)).mono ?_
        rintro e w4 ⟨v, rfl, hv, hvn, hb⟩
        obtain ⟨pg, cg, hsh, -⟩ := own_capI hv
        have Hcl := Lib.hid (Hgo.out w4 v pg cg ((HBq.out (q + q2)).trans hb) hv hvn hsh)
        subst hsh
        clear hv hvn hb Hgo
        go_wp2_with fail
        refine Hcl.out.mono ?_
        intro e w5 hT
        obtain ⟨e1, hT2⟩ := hT
        have HE := Lib.hid hT2
        subst e1
        clear hT2 Hcl
        go_wp2_with fail
        go_ret
        exact ⟨rfl, HE.out⟩
    · rw [decide_eq_false hin] at Hha
      have HE := Lib.hid (fun q => Hid.out 1 (w1.drewN q) ⟨rfl, rfl, rfl, Nat.le_refl _, fun _ _ => rfl⟩ (by rw [HR.out, hd, if_neg (by simp), if_pos (by omega)]))
      clear h hx hin
      go_enter Tryz.func30, Tryz.ntmps30
      go_wp2_with fail
      refine Hmay.out.mono ?_
      rintro e w2 ⟨rfl, rfl⟩
      go_wp2_with fail
      refine Hha.out.mono ?_
      rintro e w2 ⟨rfl, q, rfl⟩
      go_wp2_with fail
      go_ret
      exact HE.out q
end
end Go.Proofs.YtapfnehdgailmaaGreat

namespace Go.Proofs.YtapfnehdgailmaaGreat
open Go.RowKit Go.Sat Go.Maps

/-- A Reader whose bytes lie in the blocks of A. -/
def RdX (A : Nat → Prop) (w : World) (r : Nat) (R : Rd) : Prop := ∃ p n c, RdIn w r R p n c ∧ ∀ k, (Value.slice p n c).ownBlock = some k → A k
theorem RdX.at {A : Nat → Prop} {w : World} {r : Nat} {R : Rd} (h : RdX A w r R) : RdAt w r R := let ⟨p, n, c, h, _⟩ := h; ⟨p, n, c, h⟩
theorem RdX.lt {A : Nat → Prop} {w : World} {r : Nat} {R : Rd} (h : RdX A w r R) : r < w.heap.size := let ⟨_, _, _, h, _⟩ := h; h.rlt
theorem RdX.chg {A S : Nat → Prop} {w w' : World} {r : Nat} {R : Rd} (h : RdX A w r R) (hc : Chg S w w') (hr : ¬ S r) (hA : ∀ k, A k → ¬ S k) : RdX A w' r R := by
  obtain ⟨p, n, c, h, ha⟩ := h
  exact ⟨p, n, c, ⟨(hc.block r h.rlt hr).trans h.cells, HasB.chg h.has hc fun k hk => hA k (ha k hk), h.cap, h.ne, h.len⟩, ha⟩
def RStepX (A : Nat → Prop) (w : World) (r : Nat) (R' : Rd) (v : Value) (e : Ending) (w' : World) : Prop := e = .returned v ∧ RdX A w' r R' ∧ Chg (fun k => k = r) w w'
def NumX (A : Nat → Prop) (w : World) (r : Nat) (R : Rd) (e : Ending) (w' : World) : Prop := e = .returned (.int .i64 (R.num.1 : Int)) ∧ RdX A w' r R.num.2 ∧ Chg (fun k => k = r) w w'
def RowX (A : Nat → Prop) (w : World) (r : Nat) (b : Bs) (R' : Rd) (e : Ending) (w' : World) : Prop :=
  ∃ v, e = .returned v ∧ OwnB w' 5 v b ∧ (∀ j, v.ownBlock = some j → w.heap.size ≤ j) ∧ RdX A w' r R' ∧ Chg (fun j => j = r) w w'

theorem run_tailX {P : Program} {w : World} {t e : TypeId} {i : TypeInfo} (ht : P.underlying t = some (.slice e)) (hi : P.info? e = some i) (hsz : i.size = 1) {p : Option Addr} {n c : Nat} {l : Bs} (h : HasB w (.slice p n c) l) (hnc : n ≤ c) (r k : Nat) (hne : (Value.slice p n c).ownBlock ≠ some r) (hk : k ≤ n) :
    ∃ p' c', (∀ W, (Instr.slice t (.slice p n c) (some (.int .i64 (k : Int))) none none).run P W = .ok (.slice p' (n - k) c') W) ∧ HasB w (.slice p' (n - k) c') (l.drop k) ∧ n - k ≤ c' ∧ (Value.slice p' (n - k) c').ownBlock ≠ some r ∧ ∀ x, (Value.slice p' (n - k) c').ownBlock = some x → (Value.slice p n c).ownBlock = some x := by
  obtain ⟨p', c', h1, h2, h3, h4⟩ := run_tail (P := P) ht hi hsz h hnc r k hne hk
  refine ⟨p', c', h1, h2, h3, h4, fun x hx => ?_⟩
  have e1 := h1 w
  rw [run_tail0 (P := P) w ht hi hsz p n c k hk hnc] at e1
  have e2 : (if c = k then p else p.map fun x => x.add k) = p' := by
    have := congrArg (fun z : Result Value => match z with | .ok (.slice a _ _) _ => a | _ => none) e1
    exact this
  subst e2
  split at hx
  · cases p with
    | none => cases hx
    | some a => exact hx
  · cases p with
    | none => cases hx
    | some a =>
      have e3 : (Value.slice (some (a.add k)) (n - k) c').ownBlock = some (a.add k).block := rfl
      have hx' : (Value.slice (some (a.add k)) (n - k) c').ownBlock = some x := hx
      rw [e3, add_block] at hx'
      exact hx'

section
variable {w : World} {r : Nat} {R : Rd} {p : Option Addr} {n c : Nat}
theorem rdX_bad {A : Nat → Prop} (h : RdIn w r R p n c) : RdX A ((w.setCell ⟨r, 0, none⟩ (.slice none 0 0)).setCell ⟨r, 1, none⟩ (.bool true)) r Rd.fail :=
  ⟨none, 0, 0, ⟨rd_set h _ _, OwnB.has (e := 0) (OwnR.nil _ _ _), Nat.le_refl _, fun h => (by cases h), Nat.zero_le _⟩, fun k hk => (by cases hk)⟩

theorem badX_calls {A : Nat → Prop} (h : RdIn w r R p n c) :
    Calls Tryz.prog 192 #[.pointer (some ⟨r, 0, none⟩)] w (RStepX A w r Rd.fail (.tuple #[])) := by
  have h0 := h.c0
  have h1 := h.c1
  have hf := fun i => frozen_of h.cells i
  have HE := Lib.hid (show RStepX A w r Rd.fail (.tuple #[]) (.returned (.tuple #[])) ((w.setCell ⟨r, 0, none⟩ (.slice none 0 0)).setCell ⟨r, 1, none⟩ (.bool true)) from ⟨rfl, rdX_bad h, (Chg.setCell w ⟨r, 0, none⟩ _).trans (Chg.setCell _ ⟨r, 1, none⟩ _) fun _ _ e => e⟩)
  clear h
  go_enter Tryz.func192, Tryz.ntmps192
  go_wp2_with fail
  go_end0
  exact HE.out

set_option maxRecDepth 100000 in
set_option maxHeartbeats 4000000 in
theorem rawX_calls {A : Nat → Prop} (h : RdIn w r R p n c) (hA : ∀ k, (Value.slice p n c).ownBlock = some k → A k) (k : Int) (hk : 0 ≤ k) (hk' : k ≤ 9223372036854775807) :
    Calls Tryz.prog 193 #[.pointer (some ⟨r, 0, none⟩), .int .i64 k] w fun e w' => ∃ v, e = .returned v ∧ OwnB w' 5 v (R.raw k.toNat).1 ∧ (∀ j, v.ownBlock = some j → w.heap.size ≤ j) ∧ RdX A w' r (R.raw k.toNat).2 ∧ Chg (fun j => j = r) w w' := by
  obtain ⟨i0, hi, -, hz1, -⟩ := info_parts (show (Tryz.prog.info? 5).map (fun i => (i.zero, i.size, i.bytes)) = some (some (.int .u8 0), 1, 1) by kernel_rfl)
  obtain ⟨m, rfl⟩ : ∃ m : Nat, k = (m : Int) := ⟨k.toNat, by omega⟩
  have hn := h.n_eq
  have hlen := h.len
  rw [Int.toNat_natCast]
  have c0 := h.c0
  have hfr := fun i => frozen_of h.cells i
  by_cases hm : m ≤ n
  · have hR : R.raw m = (R.rest.take m, ⟨R.rest.drop m, R.bad⟩) := by unfold Rd.raw; rw [if_pos (by omega)]
    rw [hR]
    obtain ⟨p', c', hsl, hh, hc, hne, hnA⟩ := run_tailX (P := Tryz.prog) Tryz.underlying22 hi hz1 h.has h.cap r m h.ne hm
    have hup : ∀ W, (Instr.slice 22 (.slice p n c) none (some (.int .i64 (m : Int))) none).run Tryz.prog W = .ok (.slice p m c) W := fun W => run_upto W Tryz.underlying22 hi p n c m (by have := h.cap; omega)
    have Hcl := Lib.hid (clone_calls (HasB.cut h.has (k := m) (by omega) c) (by rw [List.length_take]; omega))
    have Hin := Lib.hid h
    have Hh := Lib.hid (And.intro hh (And.intro hc hne))
    have HA := Lib.hid (fun k hk => hA k (hnA k hk))
    clear hh hc hne h hR hnA hA
    go_enter Tryz.func193, Tryz.ntmps193
    go_wp2_with fail
    refine Hcl.out.mono ?_
    rintro e w1 ⟨v, rfl, hv, hvn, hb⟩
    have hcell := hb.block r Hin.out.rlt
    have hin1 : RdIn w1 r R p n c := ⟨hcell.trans Hin.out.cells, HasB.below Hin.out.has hb, Hin.out.cap, Hin.out.ne, Hin.out.len⟩
    have hc1 := hin1.c0
    have hfr1 := fun i => frozen_of hin1.cells i
    have HV := Lib.hid (And.intro (show OwnB (w1.setCell ⟨r, 0, none⟩ (.slice p' (n - m) c')) 5 v (R.rest.take m) from hv.keep fun k hk => set_other _ fun e => by
      have := hvn k hk
      have h2 := Hin.out.rlt
      have h3 : k = r := e
      omega) (And.intro hvn (And.intro (show RdX A (w1.setCell ⟨r, 0, none⟩ (.slice p' (n - m) c')) r ⟨R.rest.drop m, R.bad⟩ from ⟨p', n - m, c', ⟨rd_set0 hin1 _, (HasB.set (HasB.below Hh.out.1 hb) _ Hh.out.2.2), Hh.out.2.1, Hh.out.2.2, by rw [List.length_drop]; omega⟩, HA.out⟩)
        (((Chg.of_below hb).mono fun _ _ h => h.elim).trans (Chg.setCell _ ⟨r, 0, none⟩ _) fun _ _ e => e : Chg (fun j => j = r) w (w1.setCell ⟨r, 0, none⟩ (.slice p' (n - m) c'))))))
    clear hv hvn hin1 Hin Hh Hcl hcell
    go_wp2_with fail
    go_ret
    exact ⟨v, rfl, HV.out⟩
  · have hR : R.raw m = ([], Rd.fail) := by unfold Rd.raw; rw [if_neg (by omega)]
    rw [hR]
    have Hbd := Lib.hid (badX_calls (A := A) h)
    have hgt : ((m : Int) > (n : Int)) := by omega
    clear h hR
    go_enter Tryz.func193, Tryz.ntmps193
    go_wp2_with fail
    refine Hbd.out.mono ?_
    rintro e w1 ⟨rfl, hr, hc⟩
    have HE := Lib.hid (And.intro hr hc)
    clear hr hc
    go_wp2_with fail
    go_ret
    exact ⟨_, rfl, OwnR.nil _ _ _, fun j hj => (by cases hj), HE.out⟩
end

set_option maxRecDepth 100000 in
set_option maxHeartbeats 4000000 in
theorem numX_calls {AA : Nat → Prop} {w : World} {r : Nat} {R : Rd} {p : Option Addr} {n c : Nat} (h : RdIn w r R p n c) (hA : ∀ k, (Value.slice p n c).ownBlock = some k → AA k) :
    Calls Tryz.prog 191 #[.pointer (some ⟨r, 0, none⟩)] w (NumX AA w r R) := by
  obtain ⟨i0, hi, -, hz1, -⟩ := info_parts (show (Tryz.prog.info? 5).map (fun i => (i.zero, i.size, i.bytes)) = some (some (.int .u8 0), 1, 1) by kernel_rfl)
  have hn := h.n_eq
  have hlen := h.len
  rw [hn] at hlen
  have c0 := h.c0
  have hfr := frozen_of h.cells 0
  have Hbad := Lib.hid (badX_calls (A := AA) h)
  have Hno := Lib.hid (show numGo 0 0 R.rest = none → R.num = (0, Rd.fail) from fun e => by unfold Rd.num; rw [e])
  have Hyes := Lib.hid (show ∀ v t, numGo 0 0 R.rest = some (v, t) → R.num = (v, ⟨t, R.bad⟩) from fun v t e => by unfold Rd.num; rw [e])
  have Hin := Lib.hid h
  have HA := Lib.hid hA
  have Hn := Lib.hid hn
  clear h hn hA
  go_enter Tryz.func191, Tryz.ntmps191
  go_wp2_with fail
  go_loop [3, 13] (fun u i => ∃ k a : Nat, k ≤ n ∧ k ≤ 9 ∧ i = .int .i64 k ∧ u = .int .u64 a ∧ a < 128 ^ k ∧ numGo 0 0 R.rest = numGo k a (R.rest.drop k)) (fun _ i => n - (intOf i).toNat)
  case atStart => exact ⟨0, 0, Nat.zero_le _, by omega, rfl, rfl, by simp, rfl⟩
  case round =>
    obtain ⟨k, a, hk, hk9, rfl, rfl, ha, hgo⟩ := hrel
    by_cases hlt : k < n
    · have hkl : k < R.rest.length := by rw [Hn.out]; exact hlt
      rw [List.drop_eq_getElem_cons hkl] at hgo
      rcases Hin.out.has.at with h0 | ⟨g, o, c1, e1, hc⟩
      · rw [h0] at hkl
        simp at hkl
      simp only [Value.slice.injEq] at e1
      obtain ⟨rfl, -, rfl⟩ := e1
      have hck := hc k _ (List.getElem?_eq_getElem hkl)
      have Hgo := Lib.hid hgo
      clear hc hgo
      have hx := R.rest[k].toNat_lt
      have Hstop := Lib.hid (show 9 ≤ k ∨ (0 < k ∧ R.rest[k].toNat = 0) → numGo k a (R.rest[k] :: R.rest.drop (k + 1)) = none from fun e => by
        unfold numGo
        rw [if_pos (e.imp id fun e => ⟨e.1, UInt8.toNat.inj (by rw [e.2]; rfl)⟩)])
      have Hgo1 := Lib.hid (show ¬ (9 ≤ k ∨ (0 < k ∧ R.rest[k].toNat = 0)) → R.rest[k].toNat < 128 → numGo k a (R.rest[k] :: R.rest.drop (k + 1)) = if 4611686018427387904 < a + R.rest[k].toNat * 128 ^ k then none else some (a + R.rest[k].toNat * 128 ^ k, R.rest.drop (k + 1)) from fun e h => by
        rw [numGo, if_neg (fun h => e (h.imp id fun h => ⟨h.1, by rw [h.2]; rfl⟩)), if_pos h])
      have Hgo2 := Lib.hid (show ¬ (9 ≤ k ∨ (0 < k ∧ R.rest[k].toNat = 0)) → ¬ R.rest[k].toNat < 128 → numGo k a (R.rest[k] :: R.rest.drop (k + 1)) = numGo (k + 1) (a + R.rest[k].toNat % 128 * 128 ^ k) (R.rest.drop (k + 1)) from fun e h => by
        rw [numGo, if_neg (fun h => e (h.imp id fun h => ⟨h.1, by rw [h.2]; rfl⟩)), if_neg h])
      generalize R.rest[k].toNat = x at *
      by_cases h9 : 9 ≤ k
      · have HE := Lib.hid (Hno.out (Hgo.out.trans (Hstop.out (.inl h9))))
        go_wp2_with fail
        refine Hbad.out.mono ?_
        rintro e w1 ⟨rfl, hr, hc⟩
        have HF := Lib.hid (show NumX AA w r R (.returned (.int .i64 0)) w1 from ⟨by rw [HE.out]; rfl, by rw [HE.out]; exact hr, hc⟩)
        clear hr hc
        go_wp2_with fail
        go_ret
        exact HF.out
      · by_cases hz : 0 < k ∧ x = 0
        · have HE := Lib.hid (Hno.out (Hgo.out.trans (Hstop.out (.inr hz))))
          obtain ⟨hk0, rfl⟩ := hz
          go_wp2_with fail
          refine Hbad.out.mono ?_
          rintro e w1 ⟨rfl, hr, hc⟩
          have HF := Lib.hid (show NumX AA w r R (.returned (.int .i64 0)) w1 from ⟨by rw [HE.out]; rfl, by rw [HE.out]; exact hr, hc⟩)
          clear hr hc
          go_wp2_with fail
          go_ret
          exact HF.out
        · have hs : ¬ (9 ≤ k ∨ (0 < k ∧ x = 0)) := fun e => e.elim h9 hz
          have hd9 : decide ((9 : Int) ≤ (k : Int)) = false := by simp; omega
          by_cases h128 : x < 128
          · have HE := Lib.hid (Hgo.out.trans (Hgo1.out hs h128))
            have h7 := u64_seven ha (by omega) (show x < 256 by omega)
            rw [show x % 128 = x by omega] at h7
            obtain ⟨h7, -, h73⟩ := h7
            generalize a + x * 128 ^ k = A at *
            by_cases hA : 4611686018427387904 < A
            · have HE2 := Lib.hid (Hno.out (HE.out.trans (if_pos hA)))
              rcases Nat.lt_or_ge 0 k with hk0 | hk0
              rotate_left
              · go_wp2_with fail
                refine Hbad.out.mono ?_
                rintro e w1 ⟨rfl, hr, hc⟩
                have HF := Lib.hid (show NumX AA w r R (.returned (.int .i64 0)) w1 from ⟨by rw [HE2.out]; rfl, by rw [HE2.out]; exact hr, hc⟩)
                clear hr hc
                go_wp2_with fail
                go_ret
                exact HF.out
              · have hx0 : 0 < x := by omega
                go_wp2_with fail
                refine Hbad.out.mono ?_
                rintro e w1 ⟨rfl, hr, hc⟩
                have HF := Lib.hid (show NumX AA w r R (.returned (.int .i64 0)) w1 from ⟨by rw [HE2.out]; rfl, by rw [HE2.out]; exact hr, hc⟩)
                clear hr hc
                go_wp2_with fail
                go_ret
                exact HF.out
            · have HE2 := Lib.hid (Hyes.out _ _ (HE.out.trans (if_neg hA)))
              obtain ⟨p', c', hsl, hh, hcc, hne, hnA⟩ := run_tailX (P := Tryz.prog) Tryz.underlying22 hi hz1 Hin.out.has Hin.out.cap r (k + 1) Hin.out.ne hlt
              have HF := Lib.hid (show NumX AA w r R (.returned (.int .i64 (A : Int))) (w.setCell ⟨r, 0, none⟩ (.slice p' (n - (k + 1)) c')) from
                ⟨by rw [HE2.out], by rw [HE2.out]; exact ⟨p', n - (k + 1), c', ⟨rd_set0 Hin.out _, HasB.set hh _ hne, hcc, hne, by rw [List.length_drop, Hn.out]; omega⟩, fun k hk => HA.out k (hnA k hk)⟩, Chg.setCell w ⟨r, 0, none⟩ _⟩)
              rw [Int.natCast_add, Int.natCast_one] at hsl
              clear hh hcc hne hnA
              rcases Nat.lt_or_ge 0 k with hk0 | hk0
              rotate_left
              · go_wp2_with fail
                go_ret
                exact HF.out
              · have hx0 : 0 < x := by omega
                go_wp2_with fail
                go_ret
                exact HF.out
          · have hgo2 := Hgo.out.trans (Hgo2.out hs h128)
            obtain ⟨h7, h72, h73⟩ := u64_seven ha (by omega) (show x < 256 by omega)
            have Hgn := Lib.hid (And.intro hgo2 h72)
            clear hgo2 h72
            generalize a + x % 128 * 128 ^ k = A at *
            rcases Nat.lt_or_ge 0 k with hk0 | hk0
            rotate_left
            · go_wp2_with fail
              go_round
              case rel => exact ⟨k + 1, A, by omega, by omega, by go_num, rfl, Hgn.out.2, Hgn.out.1⟩
              case measure => simp [intOf]; omega
            · have hx0 : 0 < x := by omega
              go_wp2_with fail
              go_round
              case rel => exact ⟨k + 1, A, by omega, by omega, by go_num, rfl, Hgn.out.2, Hgn.out.1⟩
              case measure => simp [intOf]; omega
    · have hkn : R.rest.drop k = [] := List.drop_of_length_le (by rw [Hn.out]; omega)
      rw [hkn] at hgo
      have HE := Lib.hid (Hno.out hgo)
      clear hgo hkn
      go_wp2_with fail
      refine Hbad.out.mono ?_
      rintro e w1 ⟨rfl, hr, hc⟩
      have HF := Lib.hid (show NumX AA w r R (.returned (.int .i64 0)) w1 from ⟨by rw [HE.out]; rfl, by rw [HE.out]; exact hr, hc⟩)
      clear hr hc
      go_wp2_with fail
      go_ret
      exact HF.out

set_option maxRecDepth 100000 in
set_option maxHeartbeats 2000000 in
theorem rbytesX_calls {A : Nat → Prop} {w : World} {r : Nat} {R : Rd} (h : RdX A w r R) :
    Calls Tryz.prog 152 #[.pointer (some ⟨r, 0, none⟩)] w (RowX A w r R.bytes.1 R.bytes.2) := by
  obtain ⟨p, n, c, h, hA⟩ := h
  have Hn := Lib.hid (numX_calls h hA)
  have hle := Rd.num_le R
  have HB := Lib.hid (show R.bytes = R.num.2.raw R.num.1 from rfl)
  clear h hA
  go_enter Tryz.func152, Tryz.ntmps152
  go_wp2_with fail
  refine Hn.out.mono ?_
  rintro e w1 ⟨rfl, ⟨p1, n1, c1, hr, hA1⟩, hc⟩
  have Hr := Lib.hid (rawX_calls hr hA1 (R.num.1 : Int) (by omega) (by omega))
  have Hc := Lib.hid hc
  rw [Int.toNat_natCast] at Hr
  clear hr hc Hn hA1
  generalize R.num.1 = m at *
  generalize R.num.2 = R1 at *
  go_wp2_with fail
  refine Hr.out.mono ?_
  rintro e w2 ⟨v, rfl, hv, hvn, hr2, hc2⟩
  have HE := Lib.hid (show RowX A w r R.bytes.1 R.bytes.2 (.returned v) w2 from ⟨v, rfl, by rw [HB.out]; exact hv, fun j hj => Nat.le_trans Hc.out.size (hvn j hj), by rw [HB.out]; exact hr2, Hc.out.trans hc2 fun _ _ e => e⟩)
  clear hv hvn hr2 hc2 Hr
  go_wp2_with fail
  go_ret
  exact HE.out

theorem newrdX_calls {w : World} {x : Value} {l : Bs} (h : HasB w x l) (hl : l.length ≤ 140737488355328) :
    Calls Tryz.prog 149 #[x] w fun e w' => ∃ r, e = .returned (.pointer (some ⟨r, 0, none⟩)) ∧ RdX (fun k => w.heap.size ≤ k ∧ k < r) w' r ⟨l, false⟩ ∧ w.heap.size ≤ r ∧ r < w'.heap.size ∧ Below w.heap.size w w' := by
  have Hc := Lib.hid (clone_calls h hl)
  clear h
  go_enter Tryz.func149, Tryz.ntmps149
  go_wp2_with fail
  refine Hc.out.mono ?_
  rintro e w1 ⟨v, rfl, hv, hvn, hb⟩
  obtain ⟨p, c, rfl, hcap⟩ := own_cap0 hv
  have HE := Lib.hid (show RdX (fun k => w.heap.size ≤ k ∧ k < w1.heap.size) (w1.alloc (.cells #[.slice p l.length c, .bool false] 232)) w1.heap.size ⟨l, false⟩ from
    ⟨p, l.length, c, ⟨new_block w1 _, has_alloc hv.has _, hcap, fun e => by have := OwnR.lt hv e; omega, hl⟩, fun k hk => ⟨hvn k hk, OwnR.lt hv hk⟩⟩)
  have HB := Lib.hid (And.intro hb.size (And.intro (show w1.heap.size < (w1.alloc (.cells #[.slice p l.length c, .bool false] 232)).heap.size from by simp) (hb.alloc hb.size (.cells #[.slice p l.length c, .bool false] 232))))
  clear hv hvn hb Hc
  generalize l.length = n at *
  go_wp2_with fail
  go_ret
  exact ⟨_, rfl, HE.out, HB.out⟩
end Go.Proofs.YtapfnehdgailmaaGreat

namespace Go.Proofs.YtapfnehdgailmaaGreat
open Go.RowKit Go.Sat Go.Maps

theorem setCell_heap {w u : World} (a : Addr) (v : Value) {b : Nat} (h : w.heap[b]? = u.heap[b]?) : (w.setCell a v).heap[b]? = (u.setCell a v).heap[b]? := by
  simp [World.setCell, Array.getElem?_modify, h]

/-- Numbers, laid into places. -/
def putN (w : World) : List Addr → List Int → World
  | a :: l, z :: zs => putN (w.setCell a (.int .i64 z)) l zs
  | _, _ => w
theorem putN_snoc : ∀ (l : List Addr) (zs : List Int) (w : World) (a : Addr) (z : Int), zs.length = l.length → putN w (l ++ [a]) (zs ++ [z]) = (putN w l zs).setCell a (.int .i64 z)
  | [], [], _, _, _, _ => rfl
  | _ :: l, _ :: zs, _, a, z, h => putN_snoc l zs _ a z (by simpa using h)
  | [], _ :: _, _, _, _, h => by simp at h
  | _ :: _, [], _, _, _, h => by simp at h

theorem ints_len : ∀ (k : Nat) (R : Rd), (Rd.ints k R).1.length = k
  | 0, _ => rfl
  | k + 1, R => by
    show ((R.num.1 : Int) :: (Rd.ints k R.num.2).1).length = _
    rw [List.length_cons, ints_len k]
theorem ints_snoc : ∀ (k : Nat) (R : Rd), Rd.ints (k + 1) R = ((Rd.ints k R).1 ++ [((Rd.ints k R).2.num.1 : Int)], (Rd.ints k R).2.num.2)
  | 0, R => rfl
  | k + 1, R => by
    show ((R.num.1 : Int) :: (Rd.ints (k + 1) R.num.2).1, (Rd.ints (k + 1) R.num.2).2) = _
    rw [ints_snoc k R.num.2]
    rfl
theorem ints_rest : ∀ (k : Nat) (R : Rd), (Rd.ints k R).2.rest.length ≤ R.rest.length
  | 0, _ => Nat.le_refl _
  | k + 1, R => Nat.le_trans (ints_rest k R.num.2) (Rd.num_rest R)

/-- Places that numbers may be laid into. -/
structure Places (w : World) (r : Nat) (ps : List Addr) : Prop where
  cell : ∀ a ∈ ps, ∃ z, w.cell? a = some (.int .i64 z)
  free : ∀ a ∈ ps, w.frozen? a = false
  ne : ∀ a ∈ ps, a.block ≠ r
  sp : ∀ a ∈ ps, a.spot = none

def NumsTold (A : Nat → Prop) (w : World) (r : Nat) (R : Rd) (ps : List Addr) (w' : World) : Prop :=
  RdX A w' r (Rd.ints ps.length R).2 ∧ Chg (fun b => b = r ∨ ∃ a ∈ ps, b = a.block) w w' ∧ ∀ b, b < w.heap.size → b ≠ r → w'.heap[b]? = (putN w ps (Rd.ints ps.length R).1).heap[b]?

theorem Places.chg {w w' : World} {r : Nat} {ps : List Addr} (h : Places w r ps) (hc : Chg (fun k => k = r) w w') : Places w' r ps := by
  have hb : ∀ a ∈ ps, w'.heap[a.block]? = w.heap[a.block]? := fun a ha => by
    obtain ⟨z, hz⟩ := h.cell a ha
    exact hc.block _ (World.block_lt_of_cell? _ _ hz) (h.ne a ha)
  exact ⟨fun a ha => by obtain ⟨z, hz⟩ := h.cell a ha; exact ⟨z, (World.cell?_of_block (hb a ha)).trans hz⟩, fun a ha => by have := h.free a ha; simpa [World.frozen?, hb a ha] using this, h.ne, h.sp⟩

theorem Places.set {w : World} {r : Nat} {ps : List Addr} (h : Places w r ps) {a : Addr} (ha : a ∈ ps) (z : Int) : Places (w.setCell a (.int .i64 z)) r ps := by
  have hcell : ∀ b, w.cell? b ≠ none → (∃ y, (w.setCell a (.int .i64 z)).cell? b = some y ∧ (y = .int .i64 z ∨ w.cell? b = some y)) := fun b hb => by
    by_cases e : a = b
    · subst e
      exact ⟨.int .i64 z, by obtain ⟨z', hz⟩ := h.cell a ha; exact World.cell?_setCell_same w a _ hz, .inl rfl⟩
    · rw [World.cell?_setCell_other (h := e)]
      cases hc : w.cell? b with
      | none => exact absurd hc hb
      | some y => exact ⟨y, rfl, .inr rfl⟩
  refine ⟨fun b hb => ?_, fun b hb => by rw [World.frozen?_setCell]; exact h.free b hb, h.ne, h.sp⟩
  · obtain ⟨z', hz⟩ := h.cell b hb
    obtain ⟨y, hy, he⟩ := hcell b (by rw [hz]; simp)
    rcases he with rfl | he
    · exact ⟨z, hy⟩
    · rw [hz] at he
      cases he
      exact ⟨z', hy⟩

set_option maxRecDepth 100000 in
set_option maxHeartbeats 4000000 in
theorem rnums_calls {A : Nat → Prop} {w : World} {r : Nat} {R : Rd} (h : RdX A w r R) {g c : Nat} {ps : List Addr} (hp : Places w r ps) (hl : ps.length ≤ 1000) (hg : ∀ i a, ps[i]? = some a → w.cell? ⟨g, i, none⟩ = some (.pointer (some a))) (hgr : g ≠ r) (hgn : ∀ a ∈ ps, a.block ≠ g) (hA : ∀ k, A k → k ≠ r ∧ ∀ a ∈ ps, k ≠ a.block) :
    Calls Tryz.prog 150 #[.pointer (some ⟨r, 0, none⟩), .slice (some ⟨g, 0, none⟩) ps.length c] w fun e w' => e = .returned (.tuple #[]) ∧ NumsTold A w r R ps w' := by
  have Hg := Lib.hid hg
  have H := Lib.hid h
  have Hp := Lib.hid hp
  have Hgr := Lib.hid hgr
  have Hgn := Lib.hid hgn
  have HA := Lib.hid hA
  clear h hp hg hgr hgn hA
  generalize hn : ps.length = n at *
  have Hn := Lib.hid hn
  clear hn
  go_enter Tryz.func150, Tryz.ntmps150
  go_wp2_with fail
  go_loopw [9] (fun i wr => ∃ k : Nat, k ≤ n ∧ i = .int .i64 k ∧ RdX A wr r (Rd.ints k R).2 ∧ Chg (fun b => b = r ∨ ∃ a ∈ ps, b = a.block) w wr ∧ Places wr r ps ∧ ∀ b, b < w.heap.size → b ≠ r → wr.heap[b]? = (putN w (ps.take k) (Rd.ints k R).1).heap[b]?) (fun i _ => n - (intOf i).toNat)
  case atStart => exact ⟨0, Nat.zero_le _, rfl, H.out, Chg.refl _ _, Hp.out, fun b _ _ => by rw [List.take_zero]; rfl⟩
  case round =>
    clear H Hp
    obtain ⟨k, hk, rfl, hrd, hch, hpl, hpu⟩ := hrel
    by_cases hlt : k < n
    · have hkl : k < ps.length := by rw [Hn.out]; exact hlt
      have ha := List.getElem?_eq_getElem hkl
      have ham := List.getElem_mem hkl
      have hcg := hch.cell (Hg.out k _ ha) (fun e => e.elim Hgr.out fun ⟨a, h1, h2⟩ => Hgn.out a h1 h2.symm)
      have Hsn := Lib.hid (ints_snoc k R)
      have HTk := Lib.hid (List.take_succ_eq_append_getElem hkl)
      generalize ps[k] = a at *
      have Hlen := Lib.hid (show ((Rd.ints k R).1).length = (ps.take k).length from by rw [ints_len, List.length_take, Nat.min_eq_left (by omega)])
      have Hnum := Lib.hid (show Calls Tryz.prog 191 #[.pointer (some ⟨r, 0, none⟩)] wr (NumX A wr r (Rd.ints k R).2) from by obtain ⟨_, _, _, h, ha⟩ := hrd; exact numX_calls h ha)
      have HX := Lib.hid (And.intro hch (And.intro hpl hpu))
      have Ham := Lib.hid ham
      have hle := Rd.num_le (Rd.ints k R).2
      clear hrd hch hpl hpu hkl ha ham
      generalize hRk : (Rd.ints k R).2 = Rk at *
      generalize hv : Rk.num.1 = v at *
      have HRk := Lib.hid hRk
      have Hv := Lib.hid hv
      clear hRk hv
      go_wp2_with fail
      refine Hnum.out.mono ?_
      rintro e w2 ⟨rfl, hr2, hc2⟩
      have hpl2 := HX.out.2.1.chg hc2
      have HP2 := Lib.hid hpl2
      obtain ⟨z, hz⟩ := hpl2.cell a Ham.out
      have hfz := hpl2.free a Ham.out
      have HR2 := Lib.hid hr2
      have HC2 := Lib.hid hc2
      rw [Hv.out]
      clear hr2 hc2 hpl2 Hnum
      go_wp2_with fail
      have HE := Lib.hid (show RdX A (w2.setCell a (.int .i64 (v : Int))) r (Rd.ints (k + 1) R).2 ∧ Chg (fun b => b = r ∨ ∃ a ∈ ps, b = a.block) w (w2.setCell a (.int .i64 (v : Int))) ∧ Places (w2.setCell a (.int .i64 (v : Int))) r ps ∧ ∀ b, b < w.heap.size → b ≠ r → (w2.setCell a (.int .i64 (v : Int))).heap[b]? = (putN w (ps.take (k + 1)) (Rd.ints (k + 1) R).1).heap[b]? from by
        rw [Hsn.out, HTk.out]
        refine ⟨HR2.out.chg (Chg.setCell w2 a _) (fun e => HP2.out.ne a Ham.out e.symm) (fun k hk e => (HA.out k hk).2 a Ham.out e), ?_, HP2.out.set Ham.out _, fun b hb hbr => ?_⟩
        · exact (HX.out.1.trans (HC2.out.mono (T := fun b => b = r ∨ ∃ a ∈ ps, b = a.block) fun _ _ e => .inl e) fun _ _ e => e).trans ((Chg.setCell w2 a (.int .i64 (v : Int))).mono (T := fun b => b = r ∨ ∃ a ∈ ps, b = a.block) fun _ _ e => .inr ⟨a, Ham.out, e⟩) fun _ _ e => e
        · rw [putN_snoc _ _ _ _ _ Hlen.out]
          exact setCell_heap _ _ ((HC2.out.block b (Nat.lt_of_lt_of_le hb HX.out.1.size) hbr).trans (HX.out.2.2 b hb hbr)))
      go_roundw
      case rel => exact ⟨k + 1, by omega, by go_num, HE.out⟩
      case measure => simp [intOf]; omega
    · have hkn : k = n := by omega
      have het : ps.take k = ps := List.take_of_length_le (by rw [Hn.out]; omega)
      rw [het, hkn] at hpu
      rw [hkn] at hrd
      have HE := Lib.hid (show NumsTold A w r R ps wr from ⟨by rw [Hn.out]; exact hrd, hch, by rw [Hn.out]; exact hpu⟩)
      clear hrd hch hpl hpu het hkn
      go_wp2_with fail
      go_end0
      exact ⟨rfl, HE.out⟩

/-- What a group that is read is told with. -/
def GrpTold (A : Nat → Prop) (w : World) (r : Nat) (g : List Int × Rd) (e : Ending) (w' : World) : Prop :=
  ∃ v, e = .returned v ∧ OwnI w' v g.1 ∧ (∀ k, v.ownBlock = some k → w.heap.size ≤ k) ∧ RdX A w' r g.2 ∧ Chg (fun k => k = r) w w'

theorem any_calls (w : World) (x : Value) : Calls Tryz.prog 196 #[x] w fun e w' => e = .returned (.bool true) ∧ w' = w := by
  go_enter Tryz.func196, Tryz.ntmps196
  go_wp2_with fail
  go_ret
  exact ⟨rfl, rfl⟩

theorem grp_big {may : List Int → Bool} {R : Rd} (h : 7 < R.num.1) : R.grp may = ([], Rd.fail) := by
  unfold Rd.grp
  rw [if_pos h]
theorem grp_small {may : List Int → Bool} {R : Rd} (h : ¬ 7 < R.num.1) : R.grp may = ((Rd.ints R.num.1 R.num.2).1, if may (Rd.ints R.num.1 R.num.2).1 then (Rd.ints R.num.1 R.num.2).2 else Rd.fail) := by
  unfold Rd.grp
  rw [if_neg h]

theorem grp_round {A : Nat → Prop} {w wr w3 w4 : World} {r k v : Nat} {xv v4 : Value} {zs : List Int} {R2 : Rd} {o : Obj} (hA : ∀ k, A k → k < w.heap.size ∧ k ≠ r) (hrl : r < w.heap.size) (hnew : ∀ y, xv.ownBlock = some y → w.heap.size ≤ y ∧ y ≠ r) (hch : Chg (fun k => k = r) w wr)
    (hr3 : RdX A w3 r R2) (hc3 : Chg (fun k => k = r) wr w3) (hik : zs.length = k) (hown : OwnR w4 3 1 v4 (k + 1) (intsV zs ++ [.int .i64 (v : Int)])) (hg : (w3.alloc o).grownBy w4 xv.ownBlock) (hloc : v4.ownBlock = xv.ownBlock ∨ ∃ g, v4.ownBlock = some g ∧ (w3.alloc o).heap.size ≤ g) :
    OwnI w4 v4 (zs ++ [(v : Int)]) ∧ (∀ y, v4.ownBlock = some y → w.heap.size ≤ y ∧ y ≠ r) ∧ RdX A w4 r R2 ∧ Chg (fun k => k = r) w w4 := by
  have hs1 := hch.size
  have hs3 := hc3.size
  have hb := below_one0 w3 o
  have hs4 := hb.size
  have hC : Chg (fun k => some k = xv.ownBlock) w3 w4 := ((Chg.of_below hb).mono fun _ _ e => e.elim).trans (Chg.of_grown hg) fun _ _ e => e
  refine ⟨?_, fun y hy => ?_, hr3.chg hC (fun e => (hnew r e.symm).2 rfl) (fun x hx e => by have h1 := (hnew x e.symm).1; have h2 := (hA x hx).1; omega), (hch.trans hc3 fun _ _ e => e).trans hC fun x hx e => by have := (hnew x e.symm).1; omega⟩
  · unfold OwnI intsV
    rw [List.length_append, hik, List.map_append]
    exact hown
  · rcases hloc with e | ⟨g, e, hge⟩
    · exact hnew y (e ▸ hy)
    · rw [hy] at e
      cases e
      exact ⟨by omega, by omega⟩

set_option maxRecDepth 100000 in
set_option maxHeartbeats 4000000 in
theorem readGrp_grp {A : Nat → Prop} {w : World} {r : Nat} {R : Rd} (h : RdX A w r R) (hA : ∀ k, A k → k < w.heap.size ∧ k ≠ r) :
    Calls Tryz.prog 151 #[.pointer (some ⟨r, 0, none⟩), .func (.func 73) #[] #[]] w (GrpTold A w r (R.grp isGrp)) := by
  obtain ⟨i0, hi, hz0, hz1, hz2⟩ := info_parts (show (Tryz.prog.info? 3).map (fun i => (i.zero, i.size, i.bytes)) = some (some (.int .i64 0), 1, 8) by kernel_rfl)
  have Hnum := Lib.hid (show Calls Tryz.prog 191 #[.pointer (some ⟨r, 0, none⟩)] w (NumX A w r R) from by obtain ⟨_, _, _, h, ha⟩ := h; exact numX_calls h ha)
  have hle := Rd.num_le R
  have HB := Lib.hid (grp_big (may := isGrp) (R := R))
  have HS := Lib.hid (grp_small (may := isGrp) (R := R))
  have HA := Lib.hid hA
  have Hrl := Lib.hid h.lt
  clear h hA
  generalize R.grp isGrp = G at *
  generalize hn : R.num.1 = n at *
  generalize hR1 : R.num.2 = R1 at *
  have Hn := Lib.hid hn
  have HR1 := Lib.hid hR1
  clear hn hR1
  go_enter Tryz.func151, Tryz.ntmps151
  go_wp2_with fail
  refine Hnum.out.mono ?_
  rintro e w2 ⟨rfl, hr2, hc2⟩
  rw [HR1.out] at hr2
  rw [Hn.out]
  have HR2 := Lib.hid hr2
  have HC2 := Lib.hid hc2
  by_cases h7 : 7 < n
  · have Hbad := Lib.hid (show Calls Tryz.prog 192 #[.pointer (some ⟨r, 0, none⟩)] w2 (RStepX A w2 r Rd.fail (.tuple #[])) from by obtain ⟨_, _, _, h, _⟩ := hr2; exact badX_calls h)
    have HG := Lib.hid (HB.out h7)
    clear hr2 hc2 Hnum
    go_wp2_with fail
    refine Hbad.out.mono ?_
    rintro e w3 ⟨rfl, hr3, hc3⟩
    have HE := Lib.hid (show GrpTold A w r G (.returned (.slice none 0 0)) w3 from ⟨.slice none 0 0, rfl, by rw [HG.out]; exact OwnR.nil _ _ _, fun k hk => (by cases hk), by rw [HG.out]; exact hr3, HC2.out.trans hc3 fun _ _ e => e⟩)
    clear hr3 hc3 Hbad
    go_wp2_with fail
    go_ret
    exact HE.out
  · have HG := Lib.hid (HS.out h7)
    have hn7 : n ≤ 7 := by omega
    clear hr2 hc2 Hnum
    go_wp2_with fail
    go_loopw [6, 14] (fun x i wr => ∃ (k : Nat) (xv : Value), k ≤ n ∧ i = .int .i64 k ∧ xv = x ∧ OwnI wr xv (Rd.ints k R1).1 ∧ (∀ y, xv.ownBlock = some y → w.heap.size ≤ y ∧ y ≠ r) ∧ RdX A wr r (Rd.ints k R1).2 ∧ Chg (fun k => k = r) w wr) (fun _ i _ => n - (intOf i).toNat)
    case atStart => exact ⟨0, _, Nat.zero_le _, rfl, rfl, OwnR.nil _ _ _, fun y hy => (by cases hy), HR2.out, HC2.out⟩
    case round =>
      clear HR2 HC2
      obtain ⟨k, xv, hk, rfl, rfl, hown, hnew, hrd, hch⟩ := hrel
      by_cases hlt : k < n
      · have Hnm := Lib.hid (show Calls Tryz.prog 191 #[.pointer (some ⟨r, 0, none⟩)] wr (NumX A wr r (Rd.ints k R1).2) from by obtain ⟨_, _, _, h, ha⟩ := hrd; exact numX_calls h ha)
        have Hsn := Lib.hid (ints_snoc k R1)
        have hik := ints_len k R1
        have HX := Lib.hid (And.intro hown (And.intro hnew hch))
        have Hrow := Lib.hid (show OwnR wr 3 1 xv k (intsV (Rd.ints k R1).1) from by have := hown; unfold OwnI at this; rwa [hik] at this)
        have Hik := Lib.hid hik
        have hle2 := Rd.num_le (Rd.ints k R1).2
        have Hsn2 := Lib.hid Hsn.out
        clear hown hnew hrd hch hik
        generalize hv : (Rd.ints k R1).2.num.1 = v at *
        have Hv := Lib.hid hv
        clear hv
        go_wp2_with fail
        refine Hnm.out.mono ?_
        rintro e w3 ⟨rfl, hr3, hc3⟩
        have HR3 := Lib.hid hr3
        have HC3 := Lib.hid hc3
        rw [Hv.out]
        have Hrow3 := Lib.hid (Hrow.out.keep fun y hy => hc3.block y (OwnR.lt Hrow.out hy) fun e => (HX.out.2.1 y hy).2 e)
        clear hr3 hc3 Hnm
        go_wp2_with (at_builtin; have hal := Hrow3.out.keep (w' := w3.alloc (.cells #[.int .i64 (v : Int)] 3)) (fun z hz => (below_one0 w3 _).block z (OwnR.lt Hrow3.out hz)); have hxx := slit_one w3 (.int .i64 (v : Int)) 3 (0, 0); refine wpList_app _ rfl (.tmp 16) (.tmp 19) 38 rfl 3 i0 (.int .i64 0) 1 8 Tryz.underlying38 hi hz0 hz1 hz2 rfl (by decide) xv k _ rfl hal (.slice (some ⟨w3.heap.size, 0, none⟩) 1 1) 1 _ rfl hxx (by simp [Value.oneCell']) (by unfold maxLen; omega) (by omega) ?_; clear hal hxx; intro v4 w4 hown4 hgrow4 hloc4; go_loud (have HE := Lib.hid (grp_round (v := v) HA.out Hrl.out HX.out.2.1 HX.out.2.2 HR3.out HC3.out Hik.out hown4 hgrow4 hloc4); clear hgrow4 hloc4; obtain ⟨p4, q4, rfl⟩ := OwnR.shape hown4; clear hown4))
        go_roundw
        case rel => exact ⟨k + 1, _, by omega, by go_num, rfl, by rw [Hsn2.out]; exact HE.out.1, HE.out.2.1, by rw [Hsn2.out]; exact HE.out.2.2.1, HE.out.2.2.2⟩
        case measure => simp [intOf]; omega
      · have hkn : k = n := by omega
        subst hkn
        have hlen := ints_len k R1
        obtain ⟨px, cx, e1, -⟩ := own_capI hown
        have Hmay := Lib.hid (show Calls Tryz.prog 73 #[xv] wr fun e w' => e = .returned (.bool (isGrp (Rd.ints k R1).1)) ∧ w' = wr from by rw [e1]; exact isgrp_calls (by rw [← e1]; exact OwnI.has hown) (by omega))
        have Hbad := Lib.hid (show Calls Tryz.prog 192 #[.pointer (some ⟨r, 0, none⟩)] wr (RStepX A wr r Rd.fail (.tuple #[])) from by obtain ⟨_, _, _, h, _⟩ := hrd; exact badX_calls h)
        have HX := Lib.hid (And.intro hown (And.intro hnew (And.intro hch hrd)))
        have HXS := Lib.hid (show xv.ownBlock ≠ some r from fun e => (hnew r e).2 rfl)
        subst e1
        clear hown hnew hch hrd hlen
        cases hmy : isGrp (Rd.ints k R1).1 with
        | false =>
          rw [hmy] at Hmay HG
          go_wp2_with fail
          refine Hmay.out.mono ?_
          rintro e w3 ⟨rfl, rfl⟩
          go_wp2_with fail
          refine Hbad.out.mono ?_
          rintro e w4 ⟨rfl, hr4, hc4⟩
          have HE := Lib.hid (show GrpTold A w r G (.returned (.slice px (Rd.ints k R1).1.length cx)) w4 from ⟨_, rfl, by rw [HG.out]; exact OwnR.keep HX.out.1 fun y hy => hc4.block y (OwnR.lt HX.out.1 hy) fun e => HXS.out (e ▸ hy), fun y hy => (HX.out.2.1 y hy).1, by rw [HG.out]; exact hr4, HX.out.2.2.1.trans hc4 fun _ _ e => e⟩)
          clear hr4 hc4 Hbad
          go_wp2_with fail
          go_ret
          exact HE.out
        | true =>
          rw [hmy] at Hmay HG
          have HE := Lib.hid (show GrpTold A w r G (.returned (.slice px (Rd.ints k R1).1.length cx)) wr from ⟨_, rfl, by rw [HG.out]; exact HX.out.1, fun y hy => (HX.out.2.1 y hy).1, by rw [HG.out]; exact HX.out.2.2.2, HX.out.2.2.1⟩)
          go_wp2_with fail
          refine Hmay.out.mono ?_
          rintro e w3 ⟨rfl, rfl⟩
          go_wp2_with fail
          go_ret
          exact HE.out

set_option maxRecDepth 100000 in
set_option maxHeartbeats 4000000 in
theorem readGrp_any {A : Nat → Prop} {w : World} {r : Nat} {R : Rd} (h : RdX A w r R) (hA : ∀ k, A k → k < w.heap.size ∧ k ≠ r) :
    Calls Tryz.prog 151 #[.pointer (some ⟨r, 0, none⟩), .func (.func 196) #[] #[]] w (GrpTold A w r (R.grp anyG)) := by
  obtain ⟨i0, hi, hz0, hz1, hz2⟩ := info_parts (show (Tryz.prog.info? 3).map (fun i => (i.zero, i.size, i.bytes)) = some (some (.int .i64 0), 1, 8) by kernel_rfl)
  have Hnum := Lib.hid (show Calls Tryz.prog 191 #[.pointer (some ⟨r, 0, none⟩)] w (NumX A w r R) from by obtain ⟨_, _, _, h, ha⟩ := h; exact numX_calls h ha)
  have hle := Rd.num_le R
  have HB := Lib.hid (grp_big (may := anyG) (R := R))
  have HS := Lib.hid (grp_small (may := anyG) (R := R))
  have HA := Lib.hid hA
  have Hrl := Lib.hid h.lt
  clear h hA
  generalize R.grp anyG = G at *
  generalize hn : R.num.1 = n at *
  generalize hR1 : R.num.2 = R1 at *
  have Hn := Lib.hid hn
  have HR1 := Lib.hid hR1
  clear hn hR1
  go_enter Tryz.func151, Tryz.ntmps151
  go_wp2_with fail
  refine Hnum.out.mono ?_
  rintro e w2 ⟨rfl, hr2, hc2⟩
  rw [HR1.out] at hr2
  rw [Hn.out]
  have HR2 := Lib.hid hr2
  have HC2 := Lib.hid hc2
  by_cases h7 : 7 < n
  · have Hbad := Lib.hid (show Calls Tryz.prog 192 #[.pointer (some ⟨r, 0, none⟩)] w2 (RStepX A w2 r Rd.fail (.tuple #[])) from by obtain ⟨_, _, _, h, _⟩ := hr2; exact badX_calls h)
    have HG := Lib.hid (HB.out h7)
    clear hr2 hc2 Hnum
    go_wp2_with fail
    refine Hbad.out.mono ?_
    rintro e w3 ⟨rfl, hr3, hc3⟩
    have HE := Lib.hid (show GrpTold A w r G (.returned (.slice none 0 0)) w3 from ⟨.slice none 0 0, rfl, by rw [HG.out]; exact OwnR.nil _ _ _, fun k hk => (by cases hk), by rw [HG.out]; exact hr3, HC2.out.trans hc3 fun _ _ e => e⟩)
    clear hr3 hc3 Hbad
    go_wp2_with fail
    go_ret
    exact HE.out
  · have HG := Lib.hid (HS.out h7)
    have hn7 : n ≤ 7 := by omega
    clear hr2 hc2 Hnum
    go_wp2_with fail
    go_loopw [6, 14] (fun x i wr => ∃ (k : Nat) (xv : Value), k ≤ n ∧ i = .int .i64 k ∧ xv = x ∧ OwnI wr xv (Rd.ints k R1).1 ∧ (∀ y, xv.ownBlock = some y → w.heap.size ≤ y ∧ y ≠ r) ∧ RdX A wr r (Rd.ints k R1).2 ∧ Chg (fun k => k = r) w wr) (fun _ i _ => n - (intOf i).toNat)
    case atStart => exact ⟨0, _, Nat.zero_le _, rfl, rfl, OwnR.nil _ _ _, fun y hy => (by cases hy), HR2.out, HC2.out⟩
    case round =>
      clear HR2 HC2
      obtain ⟨k, xv, hk, rfl, rfl, hown, hnew, hrd, hch⟩ := hrel
      by_cases hlt : k < n
      · have Hnm := Lib.hid (show Calls Tryz.prog 191 #[.pointer (some ⟨r, 0, none⟩)] wr (NumX A wr r (Rd.ints k R1).2) from by obtain ⟨_, _, _, h, ha⟩ := hrd; exact numX_calls h ha)
        have Hsn := Lib.hid (ints_snoc k R1)
        have hik := ints_len k R1
        have HX := Lib.hid (And.intro hown (And.intro hnew hch))
        have Hrow := Lib.hid (show OwnR wr 3 1 xv k (intsV (Rd.ints k R1).1) from by have := hown; unfold OwnI at this; rwa [hik] at this)
        have Hik := Lib.hid hik
        have hle2 := Rd.num_le (Rd.ints k R1).2
        have Hsn2 := Lib.hid Hsn.out
        clear hown hnew hrd hch hik
        generalize hv : (Rd.ints k R1).2.num.1 = v at *
        have Hv := Lib.hid hv
        clear hv
        go_wp2_with fail
        refine Hnm.out.mono ?_
        rintro e w3 ⟨rfl, hr3, hc3⟩
        have HR3 := Lib.hid hr3
        have HC3 := Lib.hid hc3
        rw [Hv.out]
        have Hrow3 := Lib.hid (Hrow.out.keep fun y hy => hc3.block y (OwnR.lt Hrow.out hy) fun e => (HX.out.2.1 y hy).2 e)
        clear hr3 hc3 Hnm
        go_wp2_with (at_builtin; have hal := Hrow3.out.keep (w' := w3.alloc (.cells #[.int .i64 (v : Int)] 3)) (fun z hz => (below_one0 w3 _).block z (OwnR.lt Hrow3.out hz)); have hxx := slit_one w3 (.int .i64 (v : Int)) 3 (0, 0); refine wpList_app _ rfl (.tmp 16) (.tmp 19) 38 rfl 3 i0 (.int .i64 0) 1 8 Tryz.underlying38 hi hz0 hz1 hz2 rfl (by decide) xv k _ rfl hal (.slice (some ⟨w3.heap.size, 0, none⟩) 1 1) 1 _ rfl hxx (by simp [Value.oneCell']) (by unfold maxLen; omega) (by omega) ?_; clear hal hxx; intro v4 w4 hown4 hgrow4 hloc4; go_loud (have HE := Lib.hid (grp_round (v := v) HA.out Hrl.out HX.out.2.1 HX.out.2.2 HR3.out HC3.out Hik.out hown4 hgrow4 hloc4); clear hgrow4 hloc4; obtain ⟨p4, q4, rfl⟩ := OwnR.shape hown4; clear hown4))
        go_roundw
        case rel => exact ⟨k + 1, _, by omega, by go_num, rfl, by rw [Hsn2.out]; exact HE.out.1, HE.out.2.1, by rw [Hsn2.out]; exact HE.out.2.2.1, HE.out.2.2.2⟩
        case measure => simp [intOf]; omega
      · have hkn : k = n := by omega
        subst hkn
        have hlen := ints_len k R1
        obtain ⟨px, cx, e1, -⟩ := own_capI hown
        have Hmay := Lib.hid (show Calls Tryz.prog 196 #[xv] wr fun e w' => e = .returned (.bool (anyG (Rd.ints k R1).1)) ∧ w' = wr from by exact any_calls wr xv)
        have Hbad := Lib.hid (show Calls Tryz.prog 192 #[.pointer (some ⟨r, 0, none⟩)] wr (RStepX A wr r Rd.fail (.tuple #[])) from by obtain ⟨_, _, _, h, _⟩ := hrd; exact badX_calls h)
        have HX := Lib.hid (And.intro hown (And.intro hnew (And.intro hch hrd)))
        have HXS := Lib.hid (show xv.ownBlock ≠ some r from fun e => (hnew r e).2 rfl)
        subst e1
        clear hown hnew hch hrd hlen
        cases hmy : anyG (Rd.ints k R1).1 with
        | false =>
          rw [hmy] at Hmay HG
          go_wp2_with fail
          refine Hmay.out.mono ?_
          rintro e w3 ⟨rfl, rfl⟩
          go_wp2_with fail
          refine Hbad.out.mono ?_
          rintro e w4 ⟨rfl, hr4, hc4⟩
          have HE := Lib.hid (show GrpTold A w r G (.returned (.slice px (Rd.ints k R1).1.length cx)) w4 from ⟨_, rfl, by rw [HG.out]; exact OwnR.keep HX.out.1 fun y hy => hc4.block y (OwnR.lt HX.out.1 hy) fun e => HXS.out (e ▸ hy), fun y hy => (HX.out.2.1 y hy).1, by rw [HG.out]; exact hr4, HX.out.2.2.1.trans hc4 fun _ _ e => e⟩)
          clear hr4 hc4 Hbad
          go_wp2_with fail
          go_ret
          exact HE.out
        | true =>
          rw [hmy] at Hmay HG
          have HE := Lib.hid (show GrpTold A w r G (.returned (.slice px (Rd.ints k R1).1.length cx)) wr from ⟨_, rfl, by rw [HG.out]; exact HX.out.1, fun y hy => (HX.out.2.1 y hy).1, by rw [HG.out]; exact HX.out.2.2.2, HX.out.2.2.1⟩)
          go_wp2_with fail
          refine Hmay.out.mono ?_
          rintro e w3 ⟨rfl, rfl⟩
          go_wp2_with fail
          go_ret
          exact HE.out
end Go.Proofs.YtapfnehdgailmaaGreat

namespace Go.Proofs.YtapfnehdgailmaaGreat
open Go.RowKit Go.Sat Go.Maps

/-- What a record leaves. -/
def RecTold (w w1 : World) (j d : Nat) (pre : ByteArray) (D : DiskM) (F : Nat → Prop) (o : Option JouM) (e : Ending) (w' : World) : Prop :=
  St w w' d D F ∧ Same F w1 w' ∧ match o with
  | none => e = .returned (.bool false)
  | some M' => e = .returned (.bool true) ∧ JouF w w' j d pre D M' F

/-- The first byte. -/
theorem rd_first {w w2 : World} {r : Nat} {k : UInt8} {l : Bs} (h : RdX (fun k => w.heap.size ≤ k ∧ k < r) w2 r ⟨k :: l, false⟩) :
    Calls Tryz.prog 193 #[.pointer (some ⟨r, 0, none⟩), .int .i64 1] w2 fun e w' => ∃ g q, e = .returned (.slice (some ⟨g, 0, none⟩) 1 q) ∧ w'.cell? ⟨g, 0, none⟩ = some (.int .u8 (k.toNat : Int)) ∧ RdX (fun k => w.heap.size ≤ k ∧ k < r) w' r ⟨l, false⟩ ∧ Chg (fun j => j = r) w2 w' := by
  obtain ⟨p, n, c, h, hA⟩ := h
  refine (rawX_calls h hA 1 (by decide) (by decide)).mono ?_
  rintro e w' ⟨v, rfl, hv, hvn, hr, hc⟩
  have e1 : Rd.raw ⟨k :: l, false⟩ (1 : Int).toNat = ([k], ⟨l, false⟩) := by
    unfold Rd.raw
    simp
  rw [e1] at hv hr
  rcases hv.2 with ⟨-, h0⟩ | ⟨g, cap, cur, rfl, -⟩
  · simp at h0
  · have := OwnR.cells hv (g := g) rfl 0 (.int .u8 (k.toNat : Int)) rfl
    rw [add_zero] at this
    exact ⟨g, cap, rfl, this, hr, hc⟩

section
variable {w w1 w2 : World} {j d : Nat} {pre : ByteArray} {D : DiskM} {M : JouM} {F : Nat → Prop}

theorem rec_no (h : JouF w w1 j d pre D M F) (hb : Below w1.heap.size w1 w2) {o : Option JouM} (ho : o = none) : RecTold w w1 j d pre D F o (.returned (.bool false)) w2 := by
  subst ho
  exact ⟨(h.next hb).stF, h.same hb, rfl⟩

theorem rec_noj (h : JouF w w1 j d pre D M F) (hc : Chg (fun k => k = j) w1 w2) {o : Option JouM} (ho : o = none) : RecTold w w1 j d pre D F o (.returned (.bool false)) w2 := by
  subst ho
  obtain ⟨own, gv, dv, ev, vs, hJ, hS, hn, hl⟩ := h
  have hco : Chg own w1 w2 := hc.mono fun k _ e => by rw [e]; exact hJ.ol
  exact ⟨hS.move hco (fun k _ hk => ⟨.inl hk, (hn k hk).1⟩) fun k hk => ⟨.inl (.inr hk), Nat.lt_of_lt_of_le (hl k hk) hc.size⟩, fun k hk => hc.block k (hl k hk) fun e => (hn j hJ.ol).2 (e ▸ hk), rfl⟩

/-- The first record has been done. -/
theorem rec_fst_ok (h : JouF w w1 j d pre D M F) (hc : Chg (fun k => k = j) w1 w2) {n : Nat} {t : Int} {g : List Int} {gv : Value} (hcell : ∀ own gv0 dv ev vs, JouIn w1 j d pre own M gv0 dv ev vs → w2.heap[j]? = some (.cells #[.int .i64 (n : Int), .int .i64 t, gv, .pointer (some ⟨d, 0, none⟩), .string pre, .int .i64 M.now, .int .i64 M.vote, dv, ev, .bool M.dead] 132 (0, 0)))
    (hg : OwnI w2 gv g) (hgn : ∀ k, gv.ownBlock = some k → w1.heap.size ≤ k) (he : M.entries = []) (hn40 : n ≤ 1099511627776) (ht : isTm t = true) (hgr : isGrp g = true) {o : Option JouM} (ho : o = some { M with number := n, term := t, group := g }) : RecTold w w1 j d pre D F o (.returned (.bool true)) w2 := by
  subst ho
  obtain ⟨own, gv0, dv, ev, vs, hJ, hS, hn, hl⟩ := h
  have hco : Chg own w1 w2 := hc.mono fun k _ e => by rw [e]; exact hJ.ol
  have hjl := hJ.olt j hJ.ol
  have hk : ∀ k, own k → k ≠ j → w2.heap[k]? = w1.heap[k]? := fun k ho hne => hc.block k (hJ.olt k ho) hne
  have hJ' : JouIn w2 j d pre (fun k => own k ∨ gv.ownBlock = some k) { M with number := n, term := t, group := g } gv dv ev vs := by
    refine ⟨hcell _ _ _ _ _ hJ, hg, OwnR.keep hJ.data fun k h => hk k (hJ.od k h).1 (hJ.od k h).2.1, hJ.row.keep fun k h => hk k (hJ.oe k h).1 (hJ.oe k h).2, ⟨hJ.rows.1, fun i e v h1 h2 => (hJ.rows.2 i e v h1 h2).keep fun k h => hk k (hJ.ov v (List.mem_of_getElem? h2) k h).1 (hJ.ov v (List.mem_of_getElem? h2) k h).2.1⟩, .inl hJ.ol, fun k h => ⟨.inr h, fun e => by have := hgn k h; omega, fun e => by have h1 := hgn k h; have h2 := hJ.olt k (hJ.oe k e).1; omega⟩, fun k h => ⟨.inl (hJ.od k h).1, (hJ.od k h).2⟩, fun k h => ⟨.inl (hJ.oe k h).1, (hJ.oe k h).2⟩, fun u hu k h => ⟨.inl (hJ.ov u hu k h).1, (hJ.ov u hu k h).2⟩, fun k h => ?_, hJ.psz, ⟨?_, ht, hgr, hJ.ok.now, hJ.ok.vote, hJ.ok.data, hJ.ok.ents⟩⟩
    · rcases h with h | h
      · exact Nat.lt_of_lt_of_le (hJ.olt k h) hc.size
      · exact OwnR.lt hg h
    · show n + M.entries.length ≤ _
      rw [he]
      exact hn40
  obtain ⟨h1, h2⟩ := JouF.turned hS hn hl hJ' hco fun k h => h.imp id (hgn k)
  exact ⟨h1.stF, h2, rfl, h1⟩

theorem rec_yes {M' : JouM} (h : JouF w w2 j d pre D M' F) (hs : Same F w1 w2) {o : Option JouM} (ho : o = some M') : RecTold w w1 j d pre D F o (.returned (.bool true)) w2 := by
  subst ho
  exact ⟨h.stF, hs, rfl, h⟩

theorem rec1_early {f : Bool} {k : UInt8} {l : Bs} (h : f ≠ decide (k = 1)) : rec1 f M (k :: l) = none := by
  unfold rec1
  dsimp only
  rw [if_pos h]
theorem rec1_other {f : Bool} {k : UInt8} {l : Bs} (h1 : k ≠ 1) (h2 : k ≠ 2) (h3 : k ≠ 3) (h4 : k ≠ 4) : rec1 f M (k :: l) = none := by
  unfold rec1
  dsimp only
  by_cases h : f ≠ decide (k = 1)
  · rw [if_pos h]
  · rw [if_neg h, if_neg h1, if_neg h2, if_neg h3, if_neg h4]

theorem jou_places {own : Nat → Prop} {gv dv ev : Value} {vs : List EV} {W : World} {r : Nat} (hJ : JouIn w1 j d pre own M gv dv ev vs) (hb : Below w1.heap.size w1 W) (hr : j ≠ r) : Places W r [⟨j, 0, none⟩, ⟨j, 1, none⟩] := by
  have hb1 := hJ.below hb
  refine ⟨fun a ha => ?_, fun a ha => ?_, fun a ha => ?_, fun a ha => ?_⟩
  all_goals
    simp only [List.mem_cons, List.not_mem_nil, or_false] at ha
    rcases ha with rfl | rfl
  · exact ⟨_, hb1.c 0 rfl⟩
  · exact ⟨_, hb1.c 1 rfl⟩
  · exact hb1.fr 0
  · exact hb1.fr 1
  · exact hr
  · exact hr
  · rfl
  · rfl

theorem grp_whole {R : Rd} (h : (R.grp isGrp).2.whole = true) : isGrp (R.grp isGrp).1 = true := by
  unfold Rd.grp at h ⊢
  split at h
  · cases h
  · rename_i h7
    rw [if_neg h7]
    dsimp only at h ⊢
    split at h
    · assumption
    · cases h

set_option maxRecDepth 100000 in
set_option maxHeartbeats 4000000 in
theorem rec_k1 (h : JouF w w1 j d pre D M F) {p : Option Addr} {n c : Nat} {l : Bs} (hx : HasB w1 (.slice p n c) (1 :: l)) (hl : n ≤ 1073741824) (he : M.entries = []) :
    Calls Tryz.prog 155 #[.pointer (some ⟨j, 0, none⟩), .bool true, .slice p n c] w1 (RecTold w w1 j d pre D F (rec1 true M (1 :: l))) := by
  have Hrd0 := Lib.hid (newrdX_calls hx (by obtain ⟨_, _, e⟩ := hx.slice; simp only [Value.slice.injEq] at e; omega))
  have H := Lib.hid h
  have Hjlt := Lib.hid h.jlt
  have HM := Lib.hid (show rec1 true M (1 :: l) = (if (Rd.num ⟨l, false⟩).2.num.2.grp isGrp |>.2.whole then
        if (Rd.num ⟨l, false⟩).1 ≤ 1099511627776 ∧ (Rd.num ⟨l, false⟩).2.num.1 ≤ 1099511627776 then
          some { M with number := (Rd.num ⟨l, false⟩).1, term := ((Rd.num ⟨l, false⟩).2.num.1 : Int), group := ((Rd.num ⟨l, false⟩).2.num.2.grp isGrp).1 } else none
      else none) from rfl)
  have Hgok := Lib.hid (grp_whole (R := (Rd.num ⟨l, false⟩).2.num.2))
  have hm1 := Rd.num_le ⟨l, false⟩
  have hm2 := Rd.num_le (Rd.num ⟨l, false⟩).2
  have HI := Lib.hid (show Rd.ints 2 ⟨l, false⟩ = ([((Rd.num ⟨l, false⟩).1 : Int), ((Rd.num ⟨l, false⟩).2.num.1 : Int)], (Rd.num ⟨l, false⟩).2.num.2) from rfl)
  have He := Lib.hid he
  generalize rec1 true M (1 :: l) = O at *
  generalize (Rd.num ⟨l, false⟩).1 = m1 at *
  generalize (Rd.num ⟨l, false⟩).2.num.1 = m2 at *
  generalize (Rd.num ⟨l, false⟩).2.num.2 = R3 at *
  clear h hx he
  go_enter Tryz.func155, Tryz.ntmps155
  go_wp2_with fail
  refine Hrd0.out.mono ?_
  rintro e w2 ⟨r, rfl, hr, hrn, hrl, hb2⟩
  have HR2 := Lib.hid (rd_first hr)
  have HB2 := Lib.hid hb2
  have HRn := Lib.hid (And.intro hrn hrl)
  clear hr hrn hrl hb2 Hrd0
  go_wp2_with fail
  refine HR2.out.mono ?_
  rintro e w3 ⟨g, q, rfl, hg, hr3, hc3⟩
  have HB3 := Lib.hid (show Below w1.heap.size w1 w3 from HB2.out.trans (hc3.below HB2.out.size fun i hi e => by have := HRn.out.1; omega))
  have HR3 := Lib.hid hr3
  have HRl := Lib.hid hr3.lt
  have hkc : w3.cell? ⟨g, 0, none⟩ = some (.int .u8 1) := hg
  clear hr3 hc3 HR2 hg
  go_wp2_with fail
  refine ord_start (fun _ : World => True) (n := 11) (by kernel_rfl) rfl (trivial) (fun hHeld => ?_)
  refine ord_take 0 (v := ?v10x0) rfl (by kernel_rfl) (by kernel_rfl) (by kernel_rfl) (fun _ _ _ h => h) (by rfl) (by assumption) ?y10x0 ?_
  case y10x0 => (intro w hSw; (try dsimp only at hSw); go_simp; try with_reducible rfl)
  simp only [Act.put, List.setIfInBounds_toArray, List.set_cons_zero, List.set_cons_succ]
  refine ord_take 1 (v := ?v10x1) rfl (by kernel_rfl) (by kernel_rfl) (by kernel_rfl) (fun _ _ _ h => h) (by rfl) (by assumption) ?y10x1 ?_
  case y10x1 => (intro w hSw; (try dsimp only at hSw); go_simp; try with_reducible rfl)
  simp only [Act.put, List.setIfInBounds_toArray, List.set_cons_zero, List.set_cons_succ]
  refine ord_take 2 (v := ?v10x2) rfl (by kernel_rfl) (by kernel_rfl) (by kernel_rfl) (fun _ _ _ h => h) (by rfl) (by assumption) ?y10x2 ?_
  case y10x2 => (intro w hSw; (try dsimp only at hSw); go_simp; try with_reducible rfl)
  simp only [Act.put, List.setIfInBounds_toArray, List.set_cons_zero, List.set_cons_succ]
  refine ord_take 3 (v := ?v10x3) rfl (by kernel_rfl) (by kernel_rfl) (by kernel_rfl) (fun _ _ _ h => h) (by rfl) (by assumption) ?y10x3 ?_
  case y10x3 => (intro w hSw; (try dsimp only at hSw); go_simp; try with_reducible rfl)
  simp only [Act.put, List.setIfInBounds_toArray, List.set_cons_zero, List.set_cons_succ]
  refine ord_take 4 (v := ?v10x4) rfl (by kernel_rfl) (by kernel_rfl) (by kernel_rfl) (fun _ _ _ h => h) (by rfl) (by assumption) ?y10x4 ?_
  case y10x4 => (intro w hSw; (try dsimp only at hSw); go_simp; try with_reducible rfl)
  simp only [Act.put, List.setIfInBounds_toArray, List.set_cons_zero, List.set_cons_succ]
  refine ord_take 5 (v := ?v10x5) rfl (by kernel_rfl) (by kernel_rfl) (by kernel_rfl) (fun _ _ _ h => h) (by rfl) (by assumption) ?y10x5 ?_
  case y10x5 => (intro w hSw; (try dsimp only at hSw); go_simp; try with_reducible rfl)
  simp only [Act.put, List.setIfInBounds_toArray, List.set_cons_zero, List.set_cons_succ]
  refine ord_take 6 (v := ?v10x6) rfl (by kernel_rfl) (by kernel_rfl) (by kernel_rfl) (fun _ _ _ h => h) (by rfl) (by assumption) ?y10x6 ?_
  case y10x6 => (intro w hSw; (try dsimp only at hSw); go_simp; try with_reducible rfl)
  simp only [Act.put, List.setIfInBounds_toArray, List.set_cons_zero, List.set_cons_succ]
  refine ord_take 7 (v := ?v10x7) rfl (by kernel_rfl) (by kernel_rfl) (by kernel_rfl) (fun _ _ _ h => h) (by rfl) (by assumption) ?y10x7 ?_
  case y10x7 => (intro w hSw; (try dsimp only at hSw); go_simp; try with_reducible rfl)
  simp only [Act.put, List.setIfInBounds_toArray, List.set_cons_zero, List.set_cons_succ]
  refine ord_take 8 (v := ?v10x8) rfl (by kernel_rfl) (by kernel_rfl) (by kernel_rfl) (fun _ _ _ h => h) (by rfl) (by assumption) ?y10x8 ?_
  case y10x8 => (intro w hSw; (try dsimp only at hSw); go_simp; try with_reducible rfl)
  simp only [Act.put, List.setIfInBounds_toArray, List.set_cons_zero, List.set_cons_succ]
  refine ord_one 9 rfl (by kernel_rfl) (by rfl) (fun K hK => ?_)
  go_wp2_with fail
  refine hK.out _ _ (trivial) (fun hHeld => ?_)
  clear hK
  try simp only [Act.put, List.setIfInBounds_toArray, List.set_cons_zero, List.set_cons_succ]
  refine ord_one 10 rfl (by kernel_rfl) (by rfl) (fun K hK => ?_)
  have HP := Lib.hid (show Places (w3.drew.alloc (.cells #[.pointer (some ⟨j, 0, none⟩), .pointer (some ⟨j, 1, none⟩)] 204)) r [⟨j, 0, none⟩, ⟨j, 1, none⟩] from by
    obtain ⟨own, gv, dv, ev, vs, hJ, -⟩ := H.out
    exact jou_places hJ (HB3.out.trans ((below_drew w3).trans (below_one w3.drew _) |>.mono HB3.out.size)) (by have := HRn.out.1; have := Hjlt.out; omega))
  have HN := Lib.hid (rnums_calls (R := ⟨l, false⟩) ((HR3.out.chg (Chg.drew w3) (fun e => e) fun _ _ e => e).chg (Chg.alloc w3.drew (.cells #[.pointer (some ⟨j, 0, none⟩), .pointer (some ⟨j, 1, none⟩)] 204)) (fun e => e) fun _ _ e => e) (g := w3.drew.heap.size) (c := 2) HP.out (by simp) (fun i a hi => by
    refine cell_of (new_block w3.drew _) ?_
    match i, hi with
    | 0, hi => cases hi; rfl
    | 1, hi => cases hi; rfl) (fun e => by have := HRl.out; have e2 : w3.heap.size = r := e; omega) (fun a ha e => by
      have h1 := Hjlt.out
      have h2 := HB3.out.size
      have e2 : a.block = w3.heap.size := e
      simp at ha
      rcases ha with rfl | rfl
      · have e3 : j = w3.heap.size := e2
        omega
      · have e3 : j = w3.heap.size := e2
        omega) (fun k hk => ⟨by omega, fun a ha e => by
      have h1 := Hjlt.out
      simp at ha
      rcases ha with rfl | rfl
      · have e3 : k = j := e
        omega
      · have e3 : k = j := e
        omega⟩))
  go_wp2_with fail
  refine HN.out.mono ?_
  rintro e w4 ⟨rfl, hn4⟩
  have HN4 := Lib.hid hn4
  clear hn4 HN
  go_wp2_with fail
  refine hK.out _ _ (trivial) (fun hHeld => ?_)
  clear hK
  try simp only [Act.put, List.setIfInBounds_toArray, List.set_cons_zero, List.set_cons_succ]
  refine wpAnyH_done (by kernel_rfl) ?_ _
  have Hgr := Lib.hid (readGrp_grp (A := fun k => w1.heap.size ≤ k ∧ k < r) (w := w4) (by have := HN4.out.1; rw [show [(⟨j, 0, none⟩ : Addr), ⟨j, 1, none⟩].length = 2 from rfl, HI.out] at this; exact this) (fun k hk => ⟨by have := HN4.out.1.lt; omega, by omega⟩))
  have HC4 := Lib.hid (show Chg (fun k => k = j) w1 w4 from by
    refine ((Chg.of_below (HB3.out.trans (((below_drew w3).trans (below_one w3.drew (.cells #[.pointer (some ⟨j, 0, none⟩), .pointer (some ⟨j, 1, none⟩)] 204))).mono HB3.out.size))).mono (T := fun k => k = j) fun _ _ e => e.elim).trans HN4.out.2.1 fun k hk e => ?_
    rcases e with e | ⟨a, ha, e⟩
    · have := HRn.out.1
      omega
    · simp at ha
      rcases ha with rfl | rfl <;> exact e)
  have Hj4 := Lib.hid (fun own gv0 dv ev vs (hJ : JouIn w1 j d pre own M gv0 dv ev vs) => show w4.heap[j]? = some (.cells #[.int .i64 (m1 : Int), .int .i64 (m2 : Int), gv0, .pointer (some ⟨d, 0, none⟩), .string pre, .int .i64 M.now, .int .i64 M.vote, dv, ev, .bool M.dead] 132 (0, 0)) from by
    have hjl := Hjlt.out
    have hs3 := HB3.out.size
    rw [HN4.out.2.2 j (by simp; show j < w3.heap.size + 1; omega) (by have := HRn.out.1; omega)]
    rw [show [(⟨j, 0, none⟩ : Addr), ⟨j, 1, none⟩].length = 2 from rfl, HI.out]
    have hjc := (((below_drew w3).trans (below_one w3.drew (.cells #[.pointer (some ⟨j, 0, none⟩), .pointer (some ⟨j, 1, none⟩)] 204))).block j (by omega)).trans ((HB3.out.block j hjl).trans hJ.cells)
    have h1 := set_block hjc 0 (.int .i64 (m1 : Int))
    have h2 := set_block h1 1 (.int .i64 (m2 : Int))
    have e0 : ∀ (W : World) (z : Int), putN W [(⟨j, 0, none⟩ : Addr), ⟨j, 1, none⟩] [(m1 : Int), (m2 : Int)] = (W.setCell ⟨j, 0, none⟩ (.int .i64 (m1 : Int))).setCell ⟨j, 1, none⟩ (.int .i64 (m2 : Int)) := fun _ _ => rfl
    rw [e0 _ 0]
    simpa using h2)
  clear HN4
  go_wp2_with fail
  refine Hgr.out.mono ?_
  rintro e w5 ⟨v5, rfl, hv5, hn5, hr5, hc5⟩
  have HC5 := Lib.hid (show Chg (fun k => k = j) w1 w5 from HC4.out.trans (hc5.mono (T := fun k => k = r) fun _ _ e => e) fun k hk e => by have := HRn.out.1; omega)
  have Hrj := Lib.hid (show r ≠ j from fun e => by have h1 := HRn.out.1; have h2 := Hjlt.out; omega)
  have Hj5 := Lib.hid (fun own gv0 dv ev vs (hJ : JouIn w1 j d pre own M gv0 dv ev vs) => (hc5.block j (lt_of_block (Hj4.out own gv0 dv ev vs hJ)) fun e => Hrj.out e.symm).trans (Hj4.out own gv0 dv ev vs hJ))
  have HV5 := Lib.hid (And.intro hv5 (show ∀ k, v5.ownBlock = some k → w1.heap.size ≤ k from fun k hk => Nat.le_trans HC4.out.size (hn5 k hk)))
  have HR5 := Lib.hid hr5
  obtain ⟨own, gv0, dv, ev, vs, hJ, -⟩ := H.out
  have hj5 := Hj5.out own gv0 dv ev vs hJ
  have c2 := cell_of hj5 (i := 2) rfl
  have f2 := frozen_of hj5 2
  have h6 := set_block hj5 2 v5
  have d0 : (w5.setCell ⟨j, 2, none⟩ v5).cell? ⟨j, 0, none⟩ = some (.int .i64 (m1 : Int)) := cell_of h6 (by simp)
  have d1 : (w5.setCell ⟨j, 2, none⟩ v5).cell? ⟨j, 1, none⟩ = some (.int .i64 (m2 : Int)) := cell_of h6 (by simp)
  have Hd := Lib.hid (And.intro d0 d1)
  have HW := Lib.hid (whole_calls ((hr5.at.hd).same (w' := w5.setCell ⟨j, 2, none⟩ v5) (set_other _ Hrj.out)))
  have HC6 := Lib.hid (show Chg (fun k => k = j) w1 (w5.setCell ⟨j, 2, none⟩ v5) from HC5.out.trans (Chg.setCell w5 ⟨j, 2, none⟩ v5) fun _ _ e => e)
  have HG6 := Lib.hid (show OwnI (w5.setCell ⟨j, 2, none⟩ v5) v5 (R3.grp isGrp).1 from OwnR.keep HV5.out.1 fun k hk => set_other _ fun e => by have h1 := HV5.out.2 k hk; have h2 := Hjlt.out; have e2 : k = j := e; omega)
  have Hj6 := Lib.hid (fun own gv0 dv ev vs (hJ : JouIn w1 j d pre own M gv0 dv ev vs) => show (w5.setCell ⟨j, 2, none⟩ v5).heap[j]? = some (.cells #[.int .i64 (m1 : Int), .int .i64 (m2 : Int), v5, .pointer (some ⟨d, 0, none⟩), .string pre, .int .i64 M.now, .int .i64 M.vote, dv, ev, .bool M.dead] 132 (0, 0)) from by
    have := set_block (Hj5.out own gv0 dv ev vs hJ) 2 v5
    simpa using this)
  obtain ⟨p5, c5, e5, -⟩ := own_capI hv5
  subst e5
  clear hv5 hn5 hr5 hc5 Hgr hJ hj5 h6 d0 d1
  generalize (R3.grp isGrp).2 = R5 at *
  generalize (R3.grp isGrp).1 = gg at *
  cases hw : R5.whole with
  | false =>
    rw [hw] at HW
    have HE := Lib.hid (rec_noj (o := O) H.out HC6.out (by rw [HM.out, hw]; rfl))
    clear hw
    go_wp2_with fail
    clear c2 f2
    generalize w5.setCell ⟨j, 2, none⟩ (.slice p5 gg.length c5) = w6 at *
    refine HW.out.mono ?_
    rintro e w7 ⟨rfl, rfl⟩
    go_wp2_with fail
    go_ret
    exact HE.out
  | true =>
    rw [hw] at HW
    go_wp2_with fail
    clear c2 f2
    generalize w5.setCell ⟨j, 2, none⟩ (.slice p5 gg.length c5) = w6 at *
    refine HW.out.mono ?_
    rintro e w7 ⟨rfl, rfl⟩
    obtain ⟨d0, d1⟩ := Hd.out
    have Ht1 := Lib.hid (istm_calls w7 (m1 : Int))
    have Ht2 := Lib.hid (istm_calls w7 (m2 : Int))
    by_cases h1 : m1 ≤ 1099511627776
    · rw [show isTm (m1 : Int) = true from isTm_iff.2 ⟨by omega, by omega⟩] at Ht1
      by_cases h2 : m2 ≤ 1099511627776
      · rw [show isTm (m2 : Int) = true from isTm_iff.2 ⟨by omega, by omega⟩] at Ht2
        have HE := Lib.hid (rec_fst_ok (o := O) H.out HC6.out Hj6.out HG6.out HV5.out.2 He.out h1 (isTm_iff.2 ⟨by omega, by omega⟩) (Hgok.out hw) (by rw [HM.out, if_pos hw, if_pos ⟨h1, h2⟩]))
        clear hw h1 h2
        go_wp2_with fail
        refine Ht1.out.mono ?_
        rintro e w8 ⟨rfl, rfl⟩
        go_wp2_with fail
        refine Ht2.out.mono ?_
        rintro e w8 ⟨rfl, rfl⟩
        go_wp2_with fail
        go_ret
        exact HE.out
      · rw [show isTm (m2 : Int) = false from by rw [Bool.eq_false_iff]; intro e; have := isTm_iff.1 e; omega] at Ht2
        have HE := Lib.hid (rec_noj (o := O) H.out HC6.out (by rw [HM.out, if_pos hw, if_neg (fun e => h2 e.2)]))
        clear hw h1 h2
        go_wp2_with fail
        refine Ht1.out.mono ?_
        rintro e w8 ⟨rfl, rfl⟩
        go_wp2_with fail
        refine Ht2.out.mono ?_
        rintro e w8 ⟨rfl, rfl⟩
        go_wp2_with fail
        go_ret
        exact HE.out
    · rw [show isTm (m1 : Int) = false from by rw [Bool.eq_false_iff]; intro e; have := isTm_iff.1 e; omega] at Ht1
      have HE := Lib.hid (rec_noj (o := O) H.out HC6.out (by rw [HM.out, if_pos hw, if_neg (fun e => h1 e.1)]))
      clear hw h1
      go_wp2_with fail
      refine Ht1.out.mono ?_
      rintro e w8 ⟨rfl, rfl⟩
      go_wp2_with fail
      go_ret
      exact HE.out
end
end Go.Proofs.YtapfnehdgailmaaGreat

namespace Go.Proofs.YtapfnehdgailmaaGreat
open Go.RowKit Go.Sat Go.Maps

section
variable {w w1 w2 : World} {j d : Nat} {pre : ByteArray} {D : DiskM} {M : JouM} {F : Nat → Prop}

theorem rec_cut_ok {k : Nat} {own : Nat → Prop} {gv dv : Value} {p : Option Addr} {n c : Nat} {vs : List EV} (hJ : JouIn w2 j d pre own M gv dv (.slice p n c) vs) (hS : St w w2 d D (fun k => own k ∨ F k)) (hn : ∀ k, own k → w.heap.size ≤ k ∧ ¬ F k) (hl : ∀ k, F k → k < w2.heap.size)
    (hs : Same F w1 w2) (hne : M.entries.length = n) (hk : k ≤ n) {o : Option JouM} (ho : o = some { M with entries := M.entries.take k }) (q : Nat) : RecTold w w1 j d pre D F o (.returned (.bool true)) ((w2.setCell ⟨j, 8, none⟩ (.slice p k c)).drewN q) := by
  obtain ⟨h1, h2⟩ := JouF.turned (D := D) (F := F) hS hn hl (jouIn_cut hJ hne hk (.inr rfl)) ((Chg.setCell w2 ⟨j, 8, none⟩ _).mono fun x _ e => by rw [e]; exact hJ.ol) fun _ h => .inl h
  exact rec_yes (h1.drewN q) (hs.trans h2) ho

set_option maxRecDepth 100000 in
set_option maxHeartbeats 4000000 in
theorem rec_k4 (h : JouF w w1 j d pre D M F) {p : Option Addr} {n c : Nat} {l : Bs} (hx : HasB w1 (.slice p n c) (4 :: l)) (hl : n ≤ 1073741824) :
    Calls Tryz.prog 155 #[.pointer (some ⟨j, 0, none⟩), .bool false, .slice p n c] w1 (RecTold w w1 j d pre D F (rec1 false M (4 :: l))) := by
  obtain ⟨i0, hii, -, -, -⟩ := info_parts (show (Tryz.prog.info? 50).map (fun i => (i.zero, i.size, i.bytes)) = some (some (.agg #[.int .i64 0, .int .i64 0, .slice none 0 0, .slice none 0 0]), 4, 64) by kernel_rfl)
  have Hrd0 := Lib.hid (newrdX_calls hx (by obtain ⟨_, _, e⟩ := hx.slice; simp only [Value.slice.injEq] at e; omega))
  have H := Lib.hid h
  have HM := Lib.hid (show rec1 false M (4 :: l) = (if (Rd.num ⟨l, false⟩).2.whole ∧ M.number < (Rd.num ⟨l, false⟩).1 ∧ (Rd.num ⟨l, false⟩).1 ≤ M.last + 1 then some { M with entries := M.entries.take ((Rd.num ⟨l, false⟩).1 - M.number - 1) } else none) from rfl)
  have hm1 := Rd.num_le ⟨l, false⟩
  generalize rec1 false M (4 :: l) = O at *
  clear h hx
  go_enter Tryz.func155, Tryz.ntmps155
  go_wp2_with fail
  refine Hrd0.out.mono ?_
  rintro e w2 ⟨r, rfl, hr, hrn, hrl, hb2⟩
  have HR2 := Lib.hid (rd_first hr)
  have HB2 := Lib.hid hb2
  have HRn := Lib.hid (And.intro hrn hrl)
  clear hr hrn hrl hb2 Hrd0
  go_wp2_with fail
  refine HR2.out.mono ?_
  rintro e w3 ⟨g, q, rfl, hg, hr3, hc3⟩
  have HB3 := Lib.hid (show Below w1.heap.size w1 w3 from HB2.out.trans (hc3.below HB2.out.size fun i hi e => by have := HRn.out.1; omega))
  have HR3 := Lib.hid hr3
  have HRl := Lib.hid hr3.lt
  have hkc : w3.cell? ⟨g, 0, none⟩ = some (.int .u8 4) := hg
  clear hr3 hc3 HR2 hg
  go_wp2_with fail
  have HN := Lib.hid (show Calls Tryz.prog 191 #[.pointer (some ⟨r, 0, none⟩)] w3 (NumX _ w3 r ⟨l, false⟩) from by obtain ⟨_, _, _, h, ha⟩ := HR3.out; exact numX_calls h ha)
  refine HN.out.mono ?_
  rintro e w4 ⟨rfl, hr4, hc4⟩
  have HB4 := Lib.hid (show Below w1.heap.size w1 w4 from HB3.out.trans (hc4.below HB3.out.size fun i hi e => by have := HRn.out.1; omega))
  have Hla := Lib.hid (jlast_calls (H.out.next HB4.out))
  have HW := Lib.hid (fun q => whole_calls ((hr4.at.hd).same (w' := w4.drewN q) rfl))
  have Hno := Lib.hid (fun q (ho : O = none) => rec_no (o := O) H.out (w2 := w4.drewN q) (HB4.out.trans ⟨rfl, rfl, rfl, Nat.le_refl _, fun _ _ => rfl⟩) ho)
  have Hyes := Lib.hid (fun q => And.intro ((H.out.next HB4.out).drewN q) (show Same F w1 (w4.drewN q) from H.out.same (HB4.out.trans ⟨rfl, rfl, rfl, Nat.le_refl _, fun _ _ => rfl⟩)))
  have hlast := H.out.okM.last
  have HL := Lib.hid (show M.last = M.number + M.entries.length from rfl)
  generalize (Rd.num ⟨l, false⟩).2 = R1 at *
  generalize (Rd.num ⟨l, false⟩).1 = m at *
  clear hr4 hc4 HN
  go_wp2_with fail
  refine Hla.out.mono ?_
  rintro e w5 ⟨rfl, q, rfl⟩
  have Hw := Lib.hid (HW.out q)
  have HN5 := Lib.hid (Hno.out q)
  have HY5 := Lib.hid (Hyes.out q)
  clear Hla HW Hno Hyes
  generalize w4.drewN q = w5 at *
  cases hw : R1.whole with
  | false =>
    rw [hw] at Hw
    have HE := Lib.hid (HN5.out (by rw [HM.out, hw, if_neg (by simp)]))
    clear hw
    go_wp2_with fail
    refine Hw.out.mono ?_
    rintro e w7 ⟨rfl, rfl⟩
    go_wp2_with fail
    go_ret
    exact HE.out
  | true =>
    rw [hw] at Hw
    obtain ⟨hj, hs⟩ := HY5.out
    obtain ⟨own, gv, dv, ev, vs, hJ, hS, hn, hl9⟩ := hj
    have c0 := hJ.c 0 rfl
    by_cases h1 : M.number < m
    · have d1 : decide (m ≤ M.number) = false := by simpa using h1
      have d1i : decide ((m : Int) ≤ (M.number : Int)) = false := by simpa using h1
      have hwa : IntKind.i64.wrap ((M.last : Int) + 1) = (M.last : Int) + 1 := IntWalk.i64_in _ (by omega)
      by_cases h2 : m ≤ M.last + 1
      · have d2 : decide ((M.last : Int) + 1 < (m : Int)) = false := by simp; omega
        have d2n : decide (M.last + 1 < m) = false := by simp; omega
        obtain ⟨pe, ce, rfl⟩ := hJ.row.shape
        have hce : M.entries.length ≤ ce := by
          rcases hJ.row.2 with ⟨e1, e2⟩ | ⟨g, cap, cur, e1, -, e3, -⟩
          · rw [e2]; exact Nat.zero_le _
          · simp only [Value.slice.injEq] at e1; omega
        have HL2 := HL.out
        have hx1 : IntKind.i64.wrap ((m : Int) - (M.number : Int)) = ((m - M.number - 1 : Nat) : Int) + 1 := by rw [IntWalk.i64_in _ (by omega)]; omega
        have hx2 : IntKind.i64.wrap (((m - M.number - 1 : Nat) : Int)) = ((m - M.number - 1 : Nat) : Int) := IntWalk.i64_in _ (by omega)
        have HE := Lib.hid (rec_cut_ok (o := O) (k := m - M.number - 1) hJ hS hn hl9 hs rfl (by omega) (by rw [HM.out, hw, if_pos ⟨rfl, h1, h2⟩]) 1)
        have hsl : ∀ W, (Instr.slice 78 (.slice pe M.entries.length ce) none (some (.int .i64 ((m - M.number - 1 : Nat) : Int))) none).run Tryz.prog W = .ok (.slice pe (m - M.number - 1) ce) W := fun W => run_upto W Tryz.underlying78 hii pe _ ce _ (by omega)
        have d8 := hJ.c 8 rfl
        have f8 := hJ.fr 8
        generalize m - M.number - 1 = k at *
        clear hw hJ hS hn hl9 hs h1 h2 hlast HL2 hce HM
        generalize M.last = la at *
        generalize M.number = b at *
        generalize M.entries.length = ne at *
        go_wp2_with fail
        refine Hw.out.mono ?_
        rintro e w7 ⟨rfl, rfl⟩
        go_wp2_with fail
        refine g_start [16] (fun w' : World => w'.cell? ⟨j, 8, none⟩ = some (.slice pe ne ce) ∧ w'.cell? ⟨j, 0, none⟩ = some (.int .i64 (b : Int))) (n := 17) (by kernel_rfl) rfl (⟨d8, c0⟩) (fun hHeld => ?_)
        refine g_pure0 0 (v := ?v14x0) rfl (by kernel_rfl) (by kernel_rfl) (by kernel_rfl) (by kernel_rfl) (fun _ _ _ h => h) (by rfl) (by assumption) ?y14x0 ?_
        case y14x0 => (intro w; go_simp; try with_reducible rfl)
        simp only [Act.put, List.setIfInBounds_toArray, List.set_cons_zero, List.set_cons_succ]
        refine g_pure0 1 (v := ?v14x1) rfl (by kernel_rfl) (by kernel_rfl) (by kernel_rfl) (by kernel_rfl) (fun _ _ _ h => h) (by rfl) (by assumption) ?y14x1 ?_
        case y14x1 => (intro w; go_simp; try with_reducible rfl)
        simp only [Act.put, List.setIfInBounds_toArray, List.set_cons_zero, List.set_cons_succ]
        refine g_pure0 2 (v := ?v14x2) rfl (by kernel_rfl) (by kernel_rfl) (by kernel_rfl) (by kernel_rfl) (fun _ _ _ h => h) (by rfl) (by assumption) ?y14x2 ?_
        case y14x2 => (intro w; go_simp; try with_reducible rfl)
        simp only [Act.put, List.setIfInBounds_toArray, List.set_cons_zero, List.set_cons_succ]
        refine g_pure0 3 (v := ?v14x3) rfl (by kernel_rfl) (by kernel_rfl) (by kernel_rfl) (by kernel_rfl) (fun _ _ _ h => h) (by rfl) (by assumption) ?y14x3 ?_
        case y14x3 => (intro w; go_simp; try with_reducible rfl)
        simp only [Act.put, List.setIfInBounds_toArray, List.set_cons_zero, List.set_cons_succ]
        refine g_take 4 (v := ?v14x4) rfl (by kernel_rfl) (by kernel_rfl) (by kernel_rfl) (by kernel_rfl) (fun _ _ _ h => h) (by rfl) (by assumption) ?y14x4 ?_
        case y14x4 => (intro w hSw; (try dsimp only at hSw); go_simp; try with_reducible rfl)
        simp only [Act.put, List.setIfInBounds_toArray, List.set_cons_zero, List.set_cons_succ]
        refine g_pure0 5 (v := ?v14x5) rfl (by kernel_rfl) (by kernel_rfl) (by kernel_rfl) (by kernel_rfl) (fun _ _ _ h => h) (by rfl) (by assumption) ?y14x5 ?_
        case y14x5 => (intro w; go_simp; try with_reducible rfl)
        simp only [Act.put, List.setIfInBounds_toArray, List.set_cons_zero, List.set_cons_succ]
        refine g_pure0 6 (v := ?v14x6) rfl (by kernel_rfl) (by kernel_rfl) (by kernel_rfl) (by kernel_rfl) (fun _ _ _ h => h) (by rfl) (by assumption) ?y14x6 ?_
        case y14x6 => (intro w; go_simp; try with_reducible rfl)
        simp only [Act.put, List.setIfInBounds_toArray, List.set_cons_zero, List.set_cons_succ]
        refine g_pure0 7 (v := ?v14x7) rfl (by kernel_rfl) (by kernel_rfl) (by kernel_rfl) (by kernel_rfl) (fun _ _ _ h => h) (by rfl) (by assumption) ?y14x7 ?_
        case y14x7 => (intro w; go_simp; try with_reducible rfl)
        simp only [Act.put, List.setIfInBounds_toArray, List.set_cons_zero, List.set_cons_succ]
        refine g_pure0 8 (v := ?v14x8) rfl (by kernel_rfl) (by kernel_rfl) (by kernel_rfl) (by kernel_rfl) (fun _ _ _ h => h) (by rfl) (by assumption) ?y14x8 ?_
        case y14x8 => (intro w; go_simp; try with_reducible rfl)
        simp only [Act.put, List.setIfInBounds_toArray, List.set_cons_zero, List.set_cons_succ]
        refine g_pure0 9 (v := ?v14x9) rfl (by kernel_rfl) (by kernel_rfl) (by kernel_rfl) (by kernel_rfl) (fun _ _ _ h => h) (by rfl) (by assumption) ?y14x9 ?_
        case y14x9 => (intro w; go_simp; try with_reducible rfl)
        simp only [Act.put, List.setIfInBounds_toArray, List.set_cons_zero, List.set_cons_succ]
        refine g_take 10 (v := ?v14x10) rfl (by kernel_rfl) (by kernel_rfl) (by kernel_rfl) (by kernel_rfl) (fun _ _ _ h => h) (by rfl) (by assumption) ?y14x10 ?_
        case y14x10 => (intro w hSw; (try dsimp only at hSw); go_simp; try with_reducible rfl)
        simp only [Act.put, List.setIfInBounds_toArray, List.set_cons_zero, List.set_cons_succ]
        refine g_pure0 11 (v := ?v14x11) rfl (by kernel_rfl) (by kernel_rfl) (by kernel_rfl) (by kernel_rfl) (fun _ _ _ h => h) (by rfl) (by assumption) ?y14x11 ?_
        case y14x11 => (intro w; go_simp; try with_reducible rfl)
        simp only [Act.put, List.setIfInBounds_toArray, List.set_cons_zero, List.set_cons_succ]
        refine g_pure0 12 (v := ?v14x12) rfl (by kernel_rfl) (by kernel_rfl) (by kernel_rfl) (by kernel_rfl) (fun _ _ _ h => h) (by rfl) (by assumption) ?y14x12 ?_
        case y14x12 => (intro w; go_simp; try with_reducible rfl)
        simp only [Act.put, List.setIfInBounds_toArray, List.set_cons_zero, List.set_cons_succ]
        refine g_pure0 13 (v := ?v14x13) rfl (by kernel_rfl) (by kernel_rfl) (by kernel_rfl) (by kernel_rfl) (fun _ _ _ h => h) (by rfl) (by assumption) ?y14x13 ?_
        case y14x13 => (intro w; go_simp; try with_reducible rfl)
        simp only [Act.put, List.setIfInBounds_toArray, List.set_cons_zero, List.set_cons_succ]
        refine g_pure0 14 (v := ?v14x14) rfl (by kernel_rfl) (by kernel_rfl) (by kernel_rfl) (by kernel_rfl) (fun _ _ _ h => h) (by rfl) (by assumption) ?y14x14 ?_
        case y14x14 => (intro w; go_simp; try with_reducible rfl)
        simp only [Act.put, List.setIfInBounds_toArray, List.set_cons_zero, List.set_cons_succ]
        refine g_pure0 15 (v := ?v14x15) rfl (by kernel_rfl) (by kernel_rfl) (by kernel_rfl) (by kernel_rfl) (fun _ _ _ h => h) (by rfl) (by assumption) ?y14x15 ?_
        case y14x15 => (intro w; go_simp; try with_reducible rfl)
        simp only [Act.put, List.setIfInBounds_toArray, List.set_cons_zero, List.set_cons_succ]
        refine g_end 16 rfl (by kernel_rfl) (by rfl) (by kernel_rfl) (fun K hK => ?_)
        have f8d : w7.drew.frozen? ⟨j, 8, none⟩ = false := f8
        have d8d : w7.drew.cell? ⟨j, 8, none⟩ = some (.slice pe ne ce) := d8
        go_wp2_with fail
        refine hK.out _ _ ?_
        clear hK
        try simp only [Act.put, List.setIfInBounds_toArray, List.set_cons_zero, List.set_cons_succ]
        refine g_done (by kernel_rfl) ?_ _
        go_wp2_with fail
        go_ret
        exact HE.out
      · have d2 : decide ((M.last : Int) + 1 < (m : Int)) = true := by simp; omega
        have d2n : decide (M.last + 1 < m) = true := by simp; omega
        have HE := Lib.hid (HN5.out (by rw [HM.out, if_neg (fun e => h2 e.2.2)]))
        clear hw hJ hS hn hl9 hs h1 h2
        go_wp2_with fail
        refine Hw.out.mono ?_
        rintro e w7 ⟨rfl, rfl⟩
        go_wp2_with fail
        go_ret
        exact HE.out
    · have d1 : decide (m ≤ M.number) = true := by simp; omega
      have d1i : decide ((m : Int) ≤ (M.number : Int)) = true := by simp; omega
      have HE := Lib.hid (HN5.out (by rw [HM.out, if_neg (fun e => h1 e.2.1)]))
      clear hw hJ hS hn hl9 hs h1
      go_wp2_with fail
      refine Hw.out.mono ?_
      rintro e w7 ⟨rfl, rfl⟩
      go_wp2_with fail
      go_ret
      exact HE.out

set_option maxRecDepth 100000 in
set_option maxHeartbeats 4000000 in
theorem rec_nil (h : JouF w w1 j d pre D M F) {p : Option Addr} {c : Nat} (f : Bool) (hx : HasB w1 (.slice p 0 c) []) :
    Calls Tryz.prog 155 #[.pointer (some ⟨j, 0, none⟩), .bool f, .slice p 0 c] w1 (RecTold w w1 j d pre D F (rec1 f M [])) := by
  have Hrd0 := Lib.hid (newrdX_calls hx (by simp))
  have H := Lib.hid h
  clear h hx
  go_enter Tryz.func155, Tryz.ntmps155
  go_wp2_with fail
  refine Hrd0.out.mono ?_
  rintro e w2 ⟨r, rfl, hr, hrn, hrl, hb2⟩
  obtain ⟨p0, n0, c0, hr, hA⟩ := hr
  have HR := Lib.hid (rawX_calls hr hA 1 (by decide) (by decide))
  have HB2 := Lib.hid hb2
  clear hr hA hb2 Hrd0
  go_wp2_with fail
  refine HR.out.mono ?_
  rintro e w3 ⟨v, rfl, hv, -, -, hc⟩
  have hB3 : Below w1.heap.size w1 w3 := HB2.out.trans (hc.below HB2.out.size fun i hi e => by omega)
  have e1 : Rd.raw ⟨[], false⟩ (1 : Int).toNat = ([], Rd.fail) := by
    unfold Rd.raw
    simp
  rw [e1] at hv
  obtain ⟨p3, c3, rfl, -⟩ := own_cap0 hv
  have HE := Lib.hid (rec_no (o := rec1 f M []) H.out hB3 rfl)
  clear hv hc hB3 HR
  cases f with
  | false =>
    go_wp2_with fail
    go_ret
    exact HE.out
  | true =>
    go_wp2_with fail
    go_ret
    exact HE.out

set_option maxRecDepth 100000 in
set_option maxHeartbeats 4000000 in
theorem rec_else (h : JouF w w1 j d pre D M F) {p : Option Addr} {n c : Nat} {f : Bool} {k : UInt8} {l : Bs} (hx : HasB w1 (.slice p n c) (k :: l)) (hl : n ≤ 1073741824) (hk : f ≠ decide (k = 1) ∨ (k ≠ 1 ∧ k ≠ 2 ∧ k ≠ 3 ∧ k ≠ 4)) :
    Calls Tryz.prog 155 #[.pointer (some ⟨j, 0, none⟩), .bool f, .slice p n c] w1 (RecTold w w1 j d pre D F (rec1 f M (k :: l))) := by
  have Hrd0 := Lib.hid (newrdX_calls hx (by obtain ⟨_, _, e⟩ := hx.slice; simp only [Value.slice.injEq] at e; omega))
  have H := Lib.hid h
  have hM : rec1 f M (k :: l) = none := by
    rcases hk with hk | ⟨h1, h2, h3, h4⟩
    · exact rec1_early hk
    · exact rec1_other h1 h2 h3 h4
  have HM := Lib.hid hM
  have hkb : k.toNat < 256 := k.toNat_lt
  have heq : ∀ z : UInt8, k = z ↔ k.toNat = z.toNat := fun z => ⟨fun e => by rw [e], fun e => UInt8.toNat.inj e⟩
  have hk1 := heq 1
  have hk2 := heq 2
  have hk3 := heq 3
  have hk4 := heq 4
  have e1 : (1 : UInt8).toNat = 1 := rfl
  have e2 : (2 : UInt8).toNat = 2 := rfl
  have e3 : (3 : UInt8).toNat = 3 := rfl
  have e4 : (4 : UInt8).toNat = 4 := rfl
  rw [e1] at hk1
  rw [e2] at hk2
  rw [e3] at hk3
  rw [e4] at hk4
  clear heq e1 e2 e3 e4 hM h hx
  have hkw : IntKind.i64.wrap (k.toNat : Int) = (k.toNat : Int) := IntWalk.i64_in _ (by omega)
  go_enter Tryz.func155, Tryz.ntmps155
  go_wp2_with fail
  refine Hrd0.out.mono ?_
  rintro e w2 ⟨r, rfl, hr, hrn, hrl, hb2⟩
  have HR2 := Lib.hid (rd_first hr)
  have HB2 := Lib.hid hb2
  have HRn := Lib.hid (And.intro hrn hrl)
  clear hr hrn hrl hb2 Hrd0
  go_wp2_with fail
  refine HR2.out.mono ?_
  rintro e w3 ⟨g, q, rfl, hg, hr3, hc3⟩
  have HB3 := Lib.hid (show Below w1.heap.size w1 w3 from HB2.out.trans (hc3.below HB2.out.size fun i hi e => by have := HRn.out.1; omega))
  have HR3 := Lib.hid hr3
  have HRl := Lib.hid hr3.lt
  have hkc : w3.cell? ⟨g, 0, none⟩ = some (.int .u8 (k.toNat : Int)) := hg
  clear hr3 hc3 HR2 hg
  have HE := Lib.hid (rec_no (o := rec1 f M (k :: l)) H.out HB3.out HM.out)
  have HK := Lib.hid hk
  have HQ := Lib.hid (And.intro hk1 (And.intro hk2 (And.intro hk3 hk4)))
  clear hk hk1 hk2 hk3 hk4
  by_cases h1 : k.toNat = 1
  · have hk : k = 1 := HQ.out.1.2 h1
    have hf : f = false := by
      rcases HK.out with h | h
      · rw [decide_eq_true hk] at h
        simpa using h
      · exact absurd hk h.1
    subst hf
    rw [h1] at hkc hkw
    clear HK HQ h1 hk hkb
    go_wp2_with fail
    go_ret
    exact HE.out
  · have hk : ¬ k = 1 := fun e => h1 (HQ.out.1.1 e)
    have hf1 : decide (k.toNat = 1) = false := decide_eq_false h1
    have hf1i : ((k.toNat : Int) == 1) = false := beq_eq_false_iff_ne.2 (by omega)
    cases f with
    | true =>
      clear HK HQ hk
      go_wp2_with fail
      go_ret
      exact HE.out
    | false =>
      have h9 : k ≠ 1 ∧ k ≠ 2 ∧ k ≠ 3 ∧ k ≠ 4 := by
        rcases HK.out with h | h
        · exact absurd (decide_eq_false hk).symm h
        · exact h
      have h2 : ¬ k.toNat = 2 := fun e => h9.2.1 (HQ.out.2.1.2 e)
      have h3 : ¬ k.toNat = 3 := fun e => h9.2.2.1 (HQ.out.2.2.1.2 e)
      have h4 : ¬ k.toNat = 4 := fun e => h9.2.2.2 (HQ.out.2.2.2.2 e)
      have q2 : decide (k.toNat = 2) = false := decide_eq_false h2
      have q2i : ((k.toNat : Int) == 2) = false := beq_eq_false_iff_ne.2 (by omega)
      have q3 : decide (k.toNat = 3) = false := decide_eq_false h3
      have q3i : ((k.toNat : Int) == 3) = false := beq_eq_false_iff_ne.2 (by omega)
      have q4 : decide (k.toNat = 4) = false := decide_eq_false h4
      have q4i : ((k.toNat : Int) == 4) = false := beq_eq_false_iff_ne.2 (by omega)
      clear HK HQ hk h9
      go_wp2_with fail
      go_ret
      exact HE.out
end
end Go.Proofs.YtapfnehdgailmaaGreat
