/- journal: At (no), TermAt, groupAt, Nodes, Snapshot. (Printed by mkj6.py.) journal: a Writer of a function's own; group, first, termRecord, entryRecord, framed. (Printed by mkj7.py.) journal: lays, SetTerm. (Printed by mkj8.py.) journal: SetTerm. (Printed by mkj9.py.) journal: Cut. (Printed by mkj10.py.) journal: rows that are gathered, entries handed in. (Printed by mkj11.py.) -/
import Derived.Test.YtapfnehdgailmaaGreatQD
namespace Go.Proofs.YtapfnehdgailmaaGreat
open Go.RowKit Go.Sat Go.Maps

theorem drewN_two (w : World) (a b : Nat) : (w.drewN a).drewN b = w.drewN (a + b) := by
  unfold World.drewN
  simp [Nat.add_assoc]

section
variable {w w1 : World} {j d : Nat} {pre : ByteArray} {D : DiskM} {M : JouM} {F : Nat → Prop}

set_option maxRecDepth 100000 in
set_option maxHeartbeats 4000000 in
theorem jat_no (h : JouF w w1 j d pre D M F) (i : Int) (hi : -9223372036854775808 ≤ i ∧ i ≤ 9223372036854775807) (hno : ¬ ((M.number : Int) < i ∧ i ≤ (M.last : Int))) :
    Calls Tryz.prog 34 #[.pointer (some ⟨j, 0, none⟩), .int .i64 i] w1 fun r w' => r = .returned (.tuple #[.agg #[.int .i64 0, .int .i64 0, .slice none 0 0, .slice none 0 0], .int .i64 7]) ∧ Below w1.heap.size w1 w' := by
  have hb0 := below_one w1 (.cells #[.int .i64 0, .int .i64 0, .slice none 0 0, .slice none 0 0] 50)
  have Hha := Lib.hid (jhas_calls (h.next hb0) i hi)
  rw [decide_eq_false hno] at Hha
  clear h hno
  go_enter Tryz.func34, Tryz.ntmps34
  go_wp2_with fail
  refine Hha.out.mono ?_
  rintro r w2 ⟨rfl, q, rfl⟩
  have HB2 := Lib.hid (show Below w1.heap.size w1 ((w1.alloc (.cells #[.int .i64 0, .int .i64 0, .slice none 0 0, .slice none 0 0] 50)).drewN q) from hb0.trans ⟨rfl, rfl, rfl, by simp, fun _ _ => rfl⟩)
  have hR : ((w1.alloc (.cells #[.int .i64 0, .int .i64 0, .slice none 0 0, .slice none 0 0] 50)).drewN q).heap[w1.heap.size]? = some (.cells #[.int .i64 0, .int .i64 0, .slice none 0 0, .slice none 0 0] 50) := new_block w1 _
  generalize (w1.alloc (.cells #[.int .i64 0, .int .i64 0, .slice none 0 0, .slice none 0 0] 50)).drewN q = W at *
  have r0 := cell_of hR (i := 0) rfl
  have r1 := cell_of hR (i := 1) rfl
  have r2 := cell_of hR (i := 2) rfl
  have r3 := cell_of hR (i := 3) rfl
  have fr := frozen_of hR
  have HR := Lib.hid hR
  clear hb0 Hha hR
  go_wp2_with fail
  have hz : ((((W.setCell ⟨w1.heap.size, 0, none⟩ (.int .i64 0)).setCell ⟨w1.heap.size, 1, none⟩ (.int .i64 0)).setCell ⟨w1.heap.size, 2, none⟩ (.slice none 0 0)).setCell ⟨w1.heap.size, 3, none⟩ (.slice none 0 0)).heap[w1.heap.size]? = some (.cells #[.int .i64 0, .int .i64 0, .slice none 0 0, .slice none 0 0] 50) := by
    have h1 := set_block HR.out 0 (.int .i64 0)
    have h2 := set_block h1 1 (.int .i64 0)
    have h3 := set_block h2 2 (.slice none 0 0)
    have h4 := set_block h3 3 (.slice none 0 0)
    simpa using h4
  have hC : Chg (fun x => x = w1.heap.size) W ((((W.setCell ⟨w1.heap.size, 0, none⟩ (.int .i64 0)).setCell ⟨w1.heap.size, 1, none⟩ (.int .i64 0)).setCell ⟨w1.heap.size, 2, none⟩ (.slice none 0 0)).setCell ⟨w1.heap.size, 3, none⟩ (.slice none 0 0)) := (((Chg.setCell W ⟨w1.heap.size, 0, none⟩ _).trans (Chg.setCell _ ⟨w1.heap.size, 1, none⟩ _) fun _ _ e => e).trans (Chg.setCell _ ⟨w1.heap.size, 2, none⟩ _) fun _ _ e => e).trans (Chg.setCell _ ⟨w1.heap.size, 3, none⟩ _) fun _ _ e => e
  have HE := Lib.hid (show Below w1.heap.size w1 _ from HB2.out.trans (hC.below HB2.out.size fun k hk e => by omega))
  (try simp only [Exit.inBlock, Exit.then])
  refine bodyPost_ret (results_row2 rfl _ _ w1.heap.size _ _ (0, 0) _ rfl hz Tryz.underlying50 rfl (by kernel_rfl)) rfl ?_
  exact ⟨rfl, HE.out⟩

theorem termAt_no {i : Int} (h : ¬ ((M.number : Int) < i ∧ i ≤ (M.last : Int))) (h2 : i ≠ (M.number : Int)) : M.termAt i = none := by
  unfold JouM.last at h
  unfold JouM.termAt
  rw [if_neg h2]
  by_cases h3 : i < (M.number : Int)
  · rw [if_pos h3]
  · rw [if_neg h3, List.getElem?_eq_none (by omega)]
    rfl
theorem termAt_yes {i : Int} (h : (M.number : Int) < i) {e : Ent} (he : M.entries[(i - (M.number : Int) - 1).toNat]? = some e) : M.termAt i = some e.term := by
  unfold JouM.termAt
  rw [if_neg (by omega), if_neg (by omega), he]
  rfl
theorem termAt_base : M.termAt (M.number : Int) = some M.term := if_pos rfl

set_option maxRecDepth 100000 in
set_option maxHeartbeats 4000000 in
theorem jtermAt_calls (h : JouF w w1 j d pre D M F) (i : Int) (hi : -9223372036854775808 ≤ i ∧ i ≤ 9223372036854775807) :
    Calls Tryz.prog 35 #[.pointer (some ⟨j, 0, none⟩), .int .i64 i] w1 fun r w' => r = .returned (.tuple #[.int .i64 ((M.termAt i).getD 0), .bool (M.termAt i).isSome]) ∧ ∃ q, w' = w1.drewN q := by
  have Hha := Lib.hid (jhas_calls h i hi)
  have hlast := h.okM.last
  obtain ⟨own, gv, dv, ev, vs, hJ, hS, hn, hl⟩ := h
  have c0 := hJ.c 0 rfl
  have c1 := hJ.c 1 rfl
  have c8 := hJ.c 8 rfl
  by_cases hin : (M.number : Int) < i ∧ i ≤ (M.last : Int)
  · rw [decide_eq_true hin] at Hha
    have hil := hin.2
    unfold JouM.last at hil hlast
    have hkl : (i - (M.number : Int) - 1).toNat < M.entries.length := by omega
    obtain ⟨g, c, v, rfl, -, -, k0, -⟩ := hJ.ent (List.getElem?_eq_getElem hkl)
    have HT := Lib.hid (termAt_yes hin.1 (List.getElem?_eq_getElem hkl))
    have hi1 := hin.1
    clear hJ hS hn hl hin c1
    generalize hk : (i - (M.number : Int) - 1).toNat = k at *
    generalize M.entries[k] = e at *
    generalize M.entries.length = n at *
    generalize M.termAt i = ta at *
    generalize M.number = b at *
    have hw1 : IntKind.i64.wrap (i - (b : Int)) = (k : Int) + 1 := by rw [IntWalk.i64_in _ (by omega)]; omega
    have hw2 : IntKind.i64.wrap (k : Int) = (k : Int) := IntWalk.i64_in _ (by omega)
    clear hk hil hi1
    go_enter Tryz.func35, Tryz.ntmps35
    go_wp2_with fail
    refine Hha.out.mono ?_
    rintro r w2 ⟨rfl, q, rfl⟩
    have c0 : (w1.drewN q).cell? ⟨j, 0, none⟩ = some (.int .i64 (b : Int)) := c0
    have c8 : (w1.drewN q).cell? ⟨j, 8, none⟩ = some (.slice (some ⟨g, 0, none⟩) n c) := c8
    have k0 : (w1.drewN q).cell? ⟨g, k * 4, none⟩ = some (.int .i64 e.term) := k0
    go_wp2_with fail
    go_quiet (fail)
    go_wp2_with fail
    go_ret2
    exact ⟨by rw [HT.out]; rfl, _, drewN_two _ _ _⟩
  · rw [decide_eq_false hin] at Hha
    by_cases hib : i = (M.number : Int)
    · subst hib
      have HT := Lib.hid (termAt_base (M := M))
      clear hJ hS hn hl hin c8
      generalize M.termAt (M.number : Int) = ta at *
      generalize M.number = b at *
      go_enter Tryz.func35, Tryz.ntmps35
      go_wp2_with fail
      refine Hha.out.mono ?_
      rintro r w2 ⟨rfl, q, rfl⟩
      have c0 : (w1.drewN q).cell? ⟨j, 0, none⟩ = some (.int .i64 (b : Int)) := c0
      have c1 : (w1.drewN q).cell? ⟨j, 1, none⟩ = some (.int .i64 M.term) := c1
      go_wp2_with fail
      go_ret2
      exact ⟨by rw [HT.out]; rfl, _, rfl⟩
    · have HT := Lib.hid (termAt_no hin hib)
      have he : (i == (M.number : Int)) = false := by simpa using hib
      clear hJ hS hn hl hin hib c8 c1
      generalize M.termAt i = ta at *
      generalize M.number = b at *
      go_enter Tryz.func35, Tryz.ntmps35
      go_wp2_with fail
      refine Hha.out.mono ?_
      rintro r w2 ⟨rfl, q, rfl⟩
      have c0 : (w1.drewN q).cell? ⟨j, 0, none⟩ = some (.int .i64 (b : Int)) := c0
      go_wp2_with fail
      go_ret2
      exact ⟨by rw [HT.out]; rfl, _, rfl⟩

/-- Nodes that are handed back, and a number. -/
def NodesTold (w1 : World) (r : List Int × Nat) (e : Ending) (w' : World) : Prop := ∃ v, e = .returned (.tuple #[v, .int .i64 (r.2 : Int)]) ∧ OwnI w' v r.1 ∧ (∀ k, v.ownBlock = some k → w1.heap.size ≤ k) ∧ Below w1.heap.size w1 w'

theorem grpIn_yes {k : Nat} {e : Ent} (he : M.entries[k]? = some e) (hk : e.kind = 2) : M.grpIn (k + 1) = (e.nodes, M.number + k + 1) := by
  show (match M.entries[k]? with | some e => _ | none => _) = _
  rw [he]
  exact if_pos hk
theorem grpIn_no {k : Nat} {e : Ent} (he : M.entries[k]? = some e) (hk : e.kind ≠ 2) : M.grpIn (k + 1) = M.grpIn k := by
  show (match M.entries[k]? with | some e => _ | none => _) = _
  rw [he]
  exact if_neg hk

set_option maxRecDepth 100000 in
set_option maxHeartbeats 8000000 in
theorem jgrpAt_calls (h : JouF w w1 j d pre D M F) (N : Nat) (hN : N ≤ M.entries.length) :
    Calls Tryz.prog 107 #[.pointer (some ⟨j, 0, none⟩), .int .i64 ((M.number + N : Nat) : Int)] w1 (NodesTold w1 (M.grpIn N)) := by
  have hlast := h.okM.last
  have hog := h.okM.group
  have Hents := Lib.hid h.okM.ents
  obtain ⟨own, gv, dv, ev, vs, hJ, hS, hn, hl⟩ := h
  have HJ := Lib.hid hJ
  have c0 := hJ.c 0 rfl
  have c2 := hJ.c 2 rfl
  obtain ⟨pg, cg, hgv, -⟩ := own_capI hJ.group
  rw [hgv] at c2
  have Hgv := Lib.hid (hgv ▸ hJ.group)
  have hgl := (grp_len hog).2
  unfold JouM.last at hlast
  clear hJ hS hn hl hog hgv
  generalize hb : M.number = b at *
  go_enter Tryz.func107, Tryz.ntmps107
  go_wp2_with fail
  go_loopw [6] (fun x wr => ∃ k : Nat, k ≤ N ∧ x = .int .i64 ((b + k : Nat) : Int) ∧ M.grpIn N = M.grpIn k ∧ Below w1.heap.size w1 wr) (fun x _ => (intOf x).toNat)
  case atStart => exact ⟨N, Nat.le_refl _, rfl, rfl, Below.refl _ _⟩
  case round =>
    obtain ⟨k, hk, rfl, hgr, hbl⟩ := hrel
    have c0r := cell_far c0 hbl
    have c2r := cell_far c2 hbl
    cases k with
    | zero =>
      have Hgr := Lib.hid hgr
      have HB := Lib.hid hbl
      have Hcl := Lib.hid (fun W (hb : Below w1.heap.size w1 W) => icl_calls (OwnI.has (ownI_far Hgv.out hb)) (by omega))
      clear hgr hbl
      go_wp2_with fail
      refine ord_start (fun w' : World => w'.cell? ⟨j, 0, none⟩ = some (.int .i64 (b : Int)) ∧ w'.cell? ⟨j, 2, none⟩ = some (.slice pg M.group.length cg)) (n := 13) (by kernel_rfl) rfl (⟨c0r, c2r⟩) (fun hHeld => ?_)
      refine ord_take 0 (v := ?v7x0) rfl (by kernel_rfl) (by kernel_rfl) (by kernel_rfl) (fun _ _ _ h => h) (by rfl) (by assumption) ?y7x0 ?_
      case y7x0 => (intro w hSw; (try dsimp only at hSw); go_simp; try with_reducible rfl)
      simp only [Act.put, List.setIfInBounds_toArray, List.set_cons_zero, List.set_cons_succ]
      refine ord_take 1 (v := ?v7x1) rfl (by kernel_rfl) (by kernel_rfl) (by kernel_rfl) (fun _ _ _ h => h) (by rfl) (by assumption) ?y7x1 ?_
      case y7x1 => (intro w hSw; (try dsimp only at hSw); go_simp; try with_reducible rfl)
      simp only [Act.put, List.setIfInBounds_toArray, List.set_cons_zero, List.set_cons_succ]
      refine ord_take 2 (v := ?v7x2) rfl (by kernel_rfl) (by kernel_rfl) (by kernel_rfl) (fun _ _ _ h => h) (by rfl) (by assumption) ?y7x2 ?_
      case y7x2 => (intro w hSw; (try dsimp only at hSw); go_simp; try with_reducible rfl)
      simp only [Act.put, List.setIfInBounds_toArray, List.set_cons_zero, List.set_cons_succ]
      refine ord_take 3 (v := ?v7x3) rfl (by kernel_rfl) (by kernel_rfl) (by kernel_rfl) (fun _ _ _ h => h) (by rfl) (by assumption) ?y7x3 ?_
      case y7x3 => (intro w hSw; (try dsimp only at hSw); go_simp; try with_reducible rfl)
      simp only [Act.put, List.setIfInBounds_toArray, List.set_cons_zero, List.set_cons_succ]
      refine ord_take 4 (v := ?v7x4) rfl (by kernel_rfl) (by kernel_rfl) (by kernel_rfl) (fun _ _ _ h => h) (by rfl) (by assumption) ?y7x4 ?_
      case y7x4 => (intro w hSw; (try dsimp only at hSw); go_simp; try with_reducible rfl)
      simp only [Act.put, List.setIfInBounds_toArray, List.set_cons_zero, List.set_cons_succ]
      refine ord_take 6 (v := ?v7x6) rfl (by kernel_rfl) (by kernel_rfl) (by kernel_rfl) (fun _ _ _ h => h) (by rfl) (by assumption) ?y7x6 ?_
      case y7x6 => (intro w hSw; (try dsimp only at hSw); go_simp; try with_reducible rfl)
      simp only [Act.put, List.setIfInBounds_toArray, List.set_cons_zero, List.set_cons_succ]
      refine ord_take 7 (v := ?v7x7) rfl (by kernel_rfl) (by kernel_rfl) (by kernel_rfl) (fun _ _ _ h => h) (by rfl) (by assumption) ?y7x7 ?_
      case y7x7 => (intro w hSw; (try dsimp only at hSw); go_simp; try with_reducible rfl)
      simp only [Act.put, List.setIfInBounds_toArray, List.set_cons_zero, List.set_cons_succ]
      refine ord_take 8 (v := ?v7x8) rfl (by kernel_rfl) (by kernel_rfl) (by kernel_rfl) (fun _ _ _ h => h) (by rfl) (by assumption) ?y7x8 ?_
      case y7x8 => (intro w hSw; (try dsimp only at hSw); go_simp; try with_reducible rfl)
      simp only [Act.put, List.setIfInBounds_toArray, List.set_cons_zero, List.set_cons_succ]
      refine ord_take 9 (v := ?v7x9) rfl (by kernel_rfl) (by kernel_rfl) (by kernel_rfl) (fun _ _ _ h => h) (by rfl) (by assumption) ?y7x9 ?_
      case y7x9 => (intro w hSw; (try dsimp only at hSw); go_simp; try with_reducible rfl)
      simp only [Act.put, List.setIfInBounds_toArray, List.set_cons_zero, List.set_cons_succ]
      refine ord_take 10 (v := ?v7x10) rfl (by kernel_rfl) (by kernel_rfl) (by kernel_rfl) (fun _ _ _ h => h) (by rfl) (by assumption) ?y7x10 ?_
      case y7x10 => (intro w hSw; (try dsimp only at hSw); go_simp; try with_reducible rfl)
      simp only [Act.put, List.setIfInBounds_toArray, List.set_cons_zero, List.set_cons_succ]
      refine ord_one 5 rfl (by kernel_rfl) (by rfl) (fun K hK => ?_)
      go_wp2_with fail
      refine (Hcl.out wr.drew (HB.out.trans ⟨rfl, rfl, rfl, Nat.le_refl _, fun _ _ => rfl⟩)).mono ?_
      rintro r w5 ⟨v, rfl, hv, hvn, hb5⟩
      have hBd : Below w1.heap.size w1 wr.drew := HB.out.trans ⟨rfl, rfl, rfl, Nat.le_refl _, fun _ _ => rfl⟩
      have HE := Lib.hid (show NodesTold w1 (M.grpIn N) (.returned (.tuple #[v, .int .i64 (b : Int)])) w5 from by
        rw [Hgr.out]
        exact ⟨v, by show _ = Ending.returned (.tuple #[v, .int .i64 (M.number : Int)]); rw [hb], hv, fun x hx => Nat.le_trans hBd.size (hvn x hx), hBd.trans (hb5.mono hBd.size)⟩)
      have Hh5 := Lib.hid (And.intro (cell_far hHeld.1 hb5) (cell_far hHeld.2 hb5))
      clear hv hvn hb5 hBd
      go_wp2_with fail
      refine hK.out _ _ (Hh5.out) (fun hHeld => ?_)
      clear hK
      try simp only [Act.put, List.setIfInBounds_toArray, List.set_cons_zero, List.set_cons_succ]
      refine ord_take 11 (v := ?v7x11) rfl (by kernel_rfl) (by kernel_rfl) (by kernel_rfl) (fun _ _ _ h => h) (by rfl) (by assumption) ?y7x11 ?_
      case y7x11 => (intro w hSw; (try dsimp only at hSw); go_simp; try with_reducible rfl)
      simp only [Act.put, List.setIfInBounds_toArray, List.set_cons_zero, List.set_cons_succ]
      refine ord_take 12 (v := ?v7x12) rfl (by kernel_rfl) (by kernel_rfl) (by kernel_rfl) (fun _ _ _ h => h) (by rfl) (by assumption) ?y7x12 ?_
      case y7x12 => (intro w hSw; (try dsimp only at hSw); go_simp; try with_reducible rfl)
      simp only [Act.put, List.setIfInBounds_toArray, List.set_cons_zero, List.set_cons_succ]
      refine wpAnyH_done (by kernel_rfl) ?_ _
      go_wp2_with fail
      go_ret2
      exact HE.out
    | succ k =>
      have hkl : k < M.entries.length := by omega
      have he := List.getElem?_eq_getElem hkl
      obtain ⟨g, c, v, hev, -, hat, k0, k1, k2, k3⟩ := HJ.out.ent he
      have hf := ent_bound (Hents.out _ (List.getElem_mem hkl))
      have hgy := grpIn_yes he
      have hgn := grpIn_no he
      generalize M.entries[k] = e at *
      have c8 := HJ.out.c 8 rfl
      rw [hev] at c8
      obtain ⟨pu, cu, eu, -⟩ := own_cap0 hat.data
      obtain ⟨pn, cn, en, -⟩ := own_capI hat.nodes
      rw [eu] at k2
      rw [en] at k3
      have hno : OwnI w1 (.slice pn e.nodes.length cn) e.nodes := by rw [← en]; exact hat.nodes
      have Hcl := Lib.hid (fun W (hb : Below w1.heap.size w1 W) => icl_calls (OwnI.has (ownI_far hno hb)) (by omega))
      have HX := Lib.hid (show EntIn w1 j g M.entries.length c b k e (.slice pu e.data.length cu, .slice pn e.nodes.length cn) from ⟨c8, by rw [← hb] at c0; rw [← hb]; exact c0, k0, k1, k2, k3⟩)
      have Hgr := Lib.hid hgr
      have HB := Lib.hid hbl
      have Hgy := Lib.hid hgy
      have Hgn := Lib.hid hgn
      have hw1 : IntKind.i64.wrap (((b + (k + 1) : Nat) : Int) - (b : Int)) = (k : Int) + 1 := by rw [IntWalk.i64_in _ (by omega)]; omega
      have hw1' : IntKind.i64.wrap ((b : Int) + ((k : Int) + 1) - (b : Int)) = (k : Int) + 1 := by rw [IntWalk.i64_in _ (by omega)]; omega
      have hw2 : IntKind.i64.wrap (k : Int) = (k : Int) := IntWalk.i64_in _ (by omega)
      have hw3 : IntKind.i64.wrap (((b + (k + 1) : Nat) : Int) - 1) = ((b + k : Nat) : Int) := by rw [IntWalk.i64_in _ (by omega)]; omega
      have hlt : (b : Int) < ((b + (k + 1) : Nat) : Int) := by omega
      generalize hx : ((b + (k + 1) : Nat) : Int) = x at *
      have HEx := Lib.hid (show x = ((M.number + k + 1 : Nat) : Int) from by rw [← hx, hb]; rfl)
      clear hgr hbl hgy hgn c8 k0 k1 k2 k3 hev hat hno eu en he c2r
      generalize M.entries.length = n at *
      clear hx
      go_wp2_with fail
      refine ord_start (fun w' : World => w'.cell? ⟨j, 8, none⟩ = some (.slice (some ⟨g, 0, none⟩) n c) ∧ w'.cell? ⟨j, 0, none⟩ = some (.int .i64 (b : Int)) ∧ w'.cell? ⟨g, k * 4, none⟩ = some (.int .i64 e.term) ∧ w'.cell? ⟨g, k * 4 + 1, none⟩ = some (.int .i64 e.kind) ∧ w'.cell? ⟨g, k * 4 + 2, none⟩ = some (.slice pu e.data.length cu) ∧ w'.cell? ⟨g, k * 4 + 3, none⟩ = some (.slice pn e.nodes.length cn)) (n := 16) (by kernel_rfl) rfl ((ent_far HX.out (HB.out.trans ⟨rfl, rfl, rfl, Nat.le_refl _, fun _ _ => rfl⟩)).all) (fun hHeld => ?_)
      generalize hWd : wr.drew = W1 at *
      have HB1 := Lib.hid (show Below w1.heap.size w1 W1 from by rw [← hWd]; exact HB.out.trans ⟨rfl, rfl, rfl, Nat.le_refl _, fun _ _ => rfl⟩)
      clear hWd
      refine ord_take 0 (v := ?v4x0) rfl (by kernel_rfl) (by kernel_rfl) (by kernel_rfl) (fun _ _ _ h => h) (by rfl) (by assumption) ?y4x0 ?_
      case y4x0 => (intro w hSw; (try dsimp only at hSw); go_simp; try with_reducible rfl)
      simp only [Act.put, List.setIfInBounds_toArray, List.set_cons_zero, List.set_cons_succ]
      refine ord_take 1 (v := ?v4x1) rfl (by kernel_rfl) (by kernel_rfl) (by kernel_rfl) (fun _ _ _ h => h) (by rfl) (by assumption) ?y4x1 ?_
      case y4x1 => (intro w hSw; (try dsimp only at hSw); go_simp; try with_reducible rfl)
      simp only [Act.put, List.setIfInBounds_toArray, List.set_cons_zero, List.set_cons_succ]
      refine ord_take 2 (v := ?v4x2) rfl (by kernel_rfl) (by kernel_rfl) (by kernel_rfl) (fun _ _ _ h => h) (by rfl) (by assumption) ?y4x2 ?_
      case y4x2 => (intro w hSw; (try dsimp only at hSw); go_simp; try with_reducible rfl)
      simp only [Act.put, List.setIfInBounds_toArray, List.set_cons_zero, List.set_cons_succ]
      refine ord_take 3 (v := ?v4x3) rfl (by kernel_rfl) (by kernel_rfl) (by kernel_rfl) (fun _ _ _ h => h) (by rfl) (by assumption) ?y4x3 ?_
      case y4x3 => (intro w hSw; (try dsimp only at hSw); go_simp; try with_reducible rfl)
      simp only [Act.put, List.setIfInBounds_toArray, List.set_cons_zero, List.set_cons_succ]
      refine ord_take 4 (v := ?v4x4) rfl (by kernel_rfl) (by kernel_rfl) (by kernel_rfl) (fun _ _ _ h => h) (by rfl) (by assumption) ?y4x4 ?_
      case y4x4 => (intro w hSw; (try dsimp only at hSw); go_simp; try with_reducible rfl)
      simp only [Act.put, List.setIfInBounds_toArray, List.set_cons_zero, List.set_cons_succ]
      refine ord_take 5 (v := ?v4x5) rfl (by kernel_rfl) (by kernel_rfl) (by kernel_rfl) (fun _ _ _ h => h) (by rfl) (by assumption) ?y4x5 ?_
      case y4x5 => (intro w hSw; (try dsimp only at hSw); go_simp; try with_reducible rfl)
      simp only [Act.put, List.setIfInBounds_toArray, List.set_cons_zero, List.set_cons_succ]
      refine ord_take 6 (v := ?v4x6) rfl (by kernel_rfl) (by kernel_rfl) (by kernel_rfl) (fun _ _ _ h => h) (by rfl) (by assumption) ?y4x6 ?_
      case y4x6 => (intro w hSw; (try dsimp only at hSw); go_simp; try with_reducible rfl)
      simp only [Act.put, List.setIfInBounds_toArray, List.set_cons_zero, List.set_cons_succ]
      refine ord_take 7 (v := ?v4x7) rfl (by kernel_rfl) (by kernel_rfl) (by kernel_rfl) (fun _ _ _ h => h) (by rfl) (by assumption) ?y4x7 ?_
      case y4x7 => (intro w hSw; (try dsimp only at hSw); go_simp; try with_reducible rfl)
      simp only [Act.put, List.setIfInBounds_toArray, List.set_cons_zero, List.set_cons_succ]
      refine ord_take 8 (v := ?v4x8) rfl (by kernel_rfl) (by kernel_rfl) (by kernel_rfl) (fun _ _ _ h => h) (by rfl) (by assumption) ?y4x8 ?_
      case y4x8 => (intro w hSw; (try dsimp only at hSw); go_simp; try with_reducible rfl)
      simp only [Act.put, List.setIfInBounds_toArray, List.set_cons_zero, List.set_cons_succ]
      refine ord_take 9 (v := ?v4x9) rfl (by kernel_rfl) (by kernel_rfl) (by kernel_rfl) (fun _ _ _ h => h) (by rfl) (by assumption) ?y4x9 ?_
      case y4x9 => (intro w hSw; (try dsimp only at hSw); go_simp; try with_reducible rfl)
      simp only [Act.put, List.setIfInBounds_toArray, List.set_cons_zero, List.set_cons_succ]
      refine ord_take 10 (v := ?v4x10) rfl (by kernel_rfl) (by kernel_rfl) (by kernel_rfl) (fun _ _ _ h => h) (by rfl) (by assumption) ?y4x10 ?_
      case y4x10 => (intro w hSw; (try dsimp only at hSw); go_simp; try with_reducible rfl)
      simp only [Act.put, List.setIfInBounds_toArray, List.set_cons_zero, List.set_cons_succ]
      refine ord_take 11 (v := ?v4x11) rfl (by kernel_rfl) (by kernel_rfl) (by kernel_rfl) (fun _ _ _ h => h) (by rfl) (by assumption) ?y4x11 ?_
      case y4x11 => (intro w hSw; (try dsimp only at hSw); go_simp; try with_reducible rfl)
      simp only [Act.put, List.setIfInBounds_toArray, List.set_cons_zero, List.set_cons_succ]
      refine ord_take 12 (v := ?v4x12) rfl (by kernel_rfl) (by kernel_rfl) (by kernel_rfl) (fun _ _ _ h => h) (by rfl) (by assumption) ?y4x12 ?_
      case y4x12 => (intro w hSw; (try dsimp only at hSw); go_simp; try with_reducible rfl)
      simp only [Act.put, List.setIfInBounds_toArray, List.set_cons_zero, List.set_cons_succ]
      refine ord_take 13 (v := ?v4x13) rfl (by kernel_rfl) (by kernel_rfl) (by kernel_rfl) (fun _ _ _ h => h) (by rfl) (by assumption) ?y4x13 ?_
      case y4x13 => (intro w hSw; (try dsimp only at hSw); go_simp; try with_reducible rfl)
      simp only [Act.put, List.setIfInBounds_toArray, List.set_cons_zero, List.set_cons_succ]
      refine ord_one 14 rfl (by kernel_rfl) (by rfl) (fun K hK => ?_)
      have Hh6 := Lib.hid (ent_far (⟨hHeld⟩ : EntIn W1 j g n c b k e (.slice pu e.data.length cu, .slice pn e.nodes.length cn)) (below_one W1 (.cells #[.int .i64 0, .int .i64 0, .slice none 0 0, .slice none 0 0] 50)))
      go_wp2_with fail
      refine hK.out _ _ (Hh6.out.all) (fun hHeld => ?_)
      clear hK
      try simp only [Act.put, List.setIfInBounds_toArray, List.set_cons_zero, List.set_cons_succ]
      refine ord_one 15 rfl (by kernel_rfl) (by rfl) (fun K hK => ?_)
      have hR : (W1.alloc (.cells #[.int .i64 0, .int .i64 0, .slice none 0 0, .slice none 0 0] 50)).heap[W1.heap.size]? = some (.cells #[.int .i64 0, .int .i64 0, .slice none 0 0, .slice none 0 0] 50) := new_block W1 _
      have r0 := cell_of hR (i := 0) rfl
      have r1 := cell_of hR (i := 1) rfl
      have r2 := cell_of hR (i := 2) rfl
      have r3 := cell_of hR (i := 3) rfl
      have fr := frozen_of hR
      have HR := Lib.hid hR
      clear hR
      have HBa := Lib.hid (HB1.out.trans ((below_one W1 (.cells #[.int .i64 0, .int .i64 0, .slice none 0 0, .slice none 0 0] 50)).mono HB1.out.size))
      have HW1 := Lib.hid HB1.out.size
      generalize W1.heap.size = B at *
      generalize W1.alloc (.cells #[.int .i64 0, .int .i64 0, .slice none 0 0, .slice none 0 0] 50) = W2 at *
      go_wp2_with fail
      have hz : ((((W2.setCell ⟨B, 0, none⟩ (.int .i64 e.term)).setCell ⟨B, 1, none⟩ (.int .i64 e.kind)).setCell ⟨B, 2, none⟩ (.slice pu e.data.length cu)).setCell ⟨B, 3, none⟩ (.slice pn e.nodes.length cn)).heap[B]? = some (.cells #[.int .i64 e.term, .int .i64 e.kind, .slice pu e.data.length cu, .slice pn e.nodes.length cn] 50 (0, 0)) := by
        have h1 := set_block HR.out 0 (.int .i64 e.term)
        have h2 := set_block h1 1 (.int .i64 e.kind)
        have h3 := set_block h2 2 (.slice pu e.data.length cu)
        have h4 := set_block h3 3 (.slice pn e.nodes.length cn)
        simpa using h4
      have hC : Chg (fun x => x = B) W2 ((((W2.setCell ⟨B, 0, none⟩ (.int .i64 e.term)).setCell ⟨B, 1, none⟩ (.int .i64 e.kind)).setCell ⟨B, 2, none⟩ (.slice pu e.data.length cu)).setCell ⟨B, 3, none⟩ (.slice pn e.nodes.length cn)) := (((Chg.setCell W2 ⟨B, 0, none⟩ _).trans (Chg.setCell _ ⟨B, 1, none⟩ _) fun _ _ e => e).trans (Chg.setCell _ ⟨B, 2, none⟩ _) fun _ _ e => e).trans (Chg.setCell _ ⟨B, 3, none⟩ _) fun _ _ e => e
      have HBz := Lib.hid (show Below w1.heap.size w1 ((((W2.setCell ⟨B, 0, none⟩ (.int .i64 e.term)).setCell ⟨B, 1, none⟩ (.int .i64 e.kind)).setCell ⟨B, 2, none⟩ (.slice pu e.data.length cu)).setCell ⟨B, 3, none⟩ (.slice pn e.nodes.length cn)) from HBa.out.trans (hC.below HBa.out.size fun k hk e => by have := HW1.out; omega))
      have Hh7 := Lib.hid (ent_far HX.out HBz.out)
      have z1 := cell_of hz (i := 1) rfl
      have z3 := cell_of hz (i := 3) rfl
      clear r0 r1 r2 r3 fr hC hz
      generalize (((W2.setCell ⟨B, 0, none⟩ (.int .i64 e.term)).setCell ⟨B, 1, none⟩ (.int .i64 e.kind)).setCell ⟨B, 2, none⟩ (.slice pu e.data.length cu)).setCell ⟨B, 3, none⟩ (.slice pn e.nodes.length cn) = W3 at *
      refine hK.out _ _ (Hh7.out.all) (fun hHeld => ?_)
      clear hK
      try simp only [Act.put, List.setIfInBounds_toArray, List.set_cons_zero, List.set_cons_succ]
      refine wpAnyH_done (by kernel_rfl) ?_ _
      have z1 : W3.cell? ⟨B, 1, none⟩ = some (.int .i64 e.kind) := z1
      have z3 : W3.cell? ⟨B, 3, none⟩ = some (.slice pn e.nodes.length cn) := z3
      by_cases hk2 : e.kind = 2
      · have hke : (e.kind == 2) = true := by simpa using hk2
        have HE := Lib.hid (Hgr.out.trans (Hgy.out hk2))
        clear hk2
        go_wp2_with fail
        refine (Hcl.out W3 HBz.out).mono ?_
        rintro r w5 ⟨v, rfl, hv, hvn, hb5⟩
        have HF := Lib.hid (show NodesTold w1 (M.grpIn N) (.returned (.tuple #[v, .int .i64 x])) w5 from by
          rw [HE.out, HEx.out]
          exact ⟨v, rfl, hv, fun x hx => Nat.le_trans HBz.out.size (hvn x hx), HBz.out.trans (hb5.mono HBz.out.size)⟩)
        clear hv hvn hb5
        go_wp2_with fail
        go_ret2
        exact HF.out
      · have hke : (e.kind == 2) = false := by simpa using hk2
        have HE := Lib.hid (Hgr.out.trans (Hgn.out hk2))
        clear hk2
        go_wp2_with fail
        go_roundw
        case rel => exact ⟨k, by omega, rfl, HE.out, HBz.out⟩
        case measure => simp [intOf]; have := HEx.out; omega

set_option maxRecDepth 100000 in
theorem jnodes_calls (h : JouF w w1 j d pre D M F) : Calls Tryz.prog 24 #[.pointer (some ⟨j, 0, none⟩)] w1 (NodesTold w1 (M.grpIn M.entries.length)) := by
  have Hla := Lib.hid (jlast_calls h)
  have Hg := Lib.hid (fun q => jgrpAt_calls (h.drewN q) M.entries.length (Nat.le_refl _))
  have HL := Lib.hid (show (M.number + M.entries.length : Nat) = M.last from rfl)
  rw [HL.out] at Hg
  clear h
  go_enter Tryz.func24, Tryz.ntmps24
  go_wp2_with fail
  refine Hla.out.mono ?_
  rintro r w2 ⟨rfl, q, rfl⟩
  go_wp2_with fail
  refine (Hg.out q).mono ?_
  rintro r w5 ⟨v, rfl, hv, hvn, hb5⟩
  have HF := Lib.hid (show NodesTold w1 (M.grpIn M.entries.length) (.returned (.tuple #[v, .int .i64 ((M.grpIn M.entries.length).2 : Int)])) w5 from ⟨v, rfl, hv, hvn, (show Below w1.heap.size w1 (w1.drewN q) from ⟨rfl, rfl, rfl, Nat.le_refl _, fun _ _ => rfl⟩).trans hb5⟩)
  clear hv hvn hb5
  go_wp2_with fail
  go_ret2
  exact HF.out

/-- The snapshot that is handed back. -/
def SnapTold (w1 : World) (b : Bs) (g : List Int) (e : Ending) (w' : World) : Prop := ∃ v u, e = .returned (.tuple #[v, u]) ∧ OwnB w' 5 v b ∧ OwnI w' u g ∧ (∀ k, v.ownBlock = some k ∨ u.ownBlock = some k → w1.heap.size ≤ k) ∧ Below w1.heap.size w1 w'

set_option maxRecDepth 100000 in
set_option maxHeartbeats 4000000 in
theorem jsnap_calls (h : JouF w w1 j d pre D M F) : Calls Tryz.prog 32 #[.pointer (some ⟨j, 0, none⟩)] w1 (SnapTold w1 M.data M.group) := by
  have hok := h.okM
  obtain ⟨own, gv, dv, ev, vs, hJ, hS, hn, hl⟩ := h
  have c2 := hJ.c 2 rfl
  have c7 := hJ.c 7 rfl
  obtain ⟨pg, cg, hgv, -⟩ := own_capI hJ.group
  obtain ⟨pd, cd, hdv, -⟩ := own_cap0 hJ.data
  have hgl := (grp_len hok.group).2
  have hdl := hok.data
  rw [hgv] at c2
  rw [hdv] at c7
  have Hg := Lib.hid (fun W (hb : Below w1.heap.size w1 W) => icl_calls (OwnI.has (ownI_far (hgv ▸ hJ.group) hb)) (by omega))
  have Hd := Lib.hid (fun W (hb : Below w1.heap.size w1 W) => clone_calls (OwnB.has (ownB_far (hdv ▸ hJ.data) hb)) (Nat.le_trans hdl (by decide)))
  clear hJ hS hn hl hgv hdv hok
  go_enter Tryz.func32, Tryz.ntmps32
  go_wp2_with fail
  refine ord_start (fun w' : World => w'.cell? ⟨j, 7, none⟩ = some (.slice pd M.data.length cd) ∧ w'.cell? ⟨j, 2, none⟩ = some (.slice pg M.group.length cg)) (n := 13) (by kernel_rfl) rfl (⟨c7, c2⟩) (fun hHeld => ?_)
  refine ord_take 0 (v := ?v9x0) rfl (by kernel_rfl) (by kernel_rfl) (by kernel_rfl) (fun _ _ _ h => h) (by rfl) (by assumption) ?y9x0 ?_
  case y9x0 => (intro w hSw; (try dsimp only at hSw); go_simp; try with_reducible rfl)
  simp only [Act.put, List.setIfInBounds_toArray, List.set_cons_zero, List.set_cons_succ]
  refine ord_take 1 (v := ?v9x1) rfl (by kernel_rfl) (by kernel_rfl) (by kernel_rfl) (fun _ _ _ h => h) (by rfl) (by assumption) ?y9x1 ?_
  case y9x1 => (intro w hSw; (try dsimp only at hSw); go_simp; try with_reducible rfl)
  simp only [Act.put, List.setIfInBounds_toArray, List.set_cons_zero, List.set_cons_succ]
  refine ord_take 2 (v := ?v9x2) rfl (by kernel_rfl) (by kernel_rfl) (by kernel_rfl) (fun _ _ _ h => h) (by rfl) (by assumption) ?y9x2 ?_
  case y9x2 => (intro w hSw; (try dsimp only at hSw); go_simp; try with_reducible rfl)
  simp only [Act.put, List.setIfInBounds_toArray, List.set_cons_zero, List.set_cons_succ]
  refine ord_take 3 (v := ?v9x3) rfl (by kernel_rfl) (by kernel_rfl) (by kernel_rfl) (fun _ _ _ h => h) (by rfl) (by assumption) ?y9x3 ?_
  case y9x3 => (intro w hSw; (try dsimp only at hSw); go_simp; try with_reducible rfl)
  simp only [Act.put, List.setIfInBounds_toArray, List.set_cons_zero, List.set_cons_succ]
  refine ord_take 5 (v := ?v9x5) rfl (by kernel_rfl) (by kernel_rfl) (by kernel_rfl) (fun _ _ _ h => h) (by rfl) (by assumption) ?y9x5 ?_
  case y9x5 => (intro w hSw; (try dsimp only at hSw); go_simp; try with_reducible rfl)
  simp only [Act.put, List.setIfInBounds_toArray, List.set_cons_zero, List.set_cons_succ]
  refine ord_take 6 (v := ?v9x6) rfl (by kernel_rfl) (by kernel_rfl) (by kernel_rfl) (fun _ _ _ h => h) (by rfl) (by assumption) ?y9x6 ?_
  case y9x6 => (intro w hSw; (try dsimp only at hSw); go_simp; try with_reducible rfl)
  simp only [Act.put, List.setIfInBounds_toArray, List.set_cons_zero, List.set_cons_succ]
  refine ord_take 7 (v := ?v9x7) rfl (by kernel_rfl) (by kernel_rfl) (by kernel_rfl) (fun _ _ _ h => h) (by rfl) (by assumption) ?y9x7 ?_
  case y9x7 => (intro w hSw; (try dsimp only at hSw); go_simp; try with_reducible rfl)
  simp only [Act.put, List.setIfInBounds_toArray, List.set_cons_zero, List.set_cons_succ]
  refine ord_take 8 (v := ?v9x8) rfl (by kernel_rfl) (by kernel_rfl) (by kernel_rfl) (fun _ _ _ h => h) (by rfl) (by assumption) ?y9x8 ?_
  case y9x8 => (intro w hSw; (try dsimp only at hSw); go_simp; try with_reducible rfl)
  simp only [Act.put, List.setIfInBounds_toArray, List.set_cons_zero, List.set_cons_succ]
  refine ord_take 9 (v := ?v9x9) rfl (by kernel_rfl) (by kernel_rfl) (by kernel_rfl) (fun _ _ _ h => h) (by rfl) (by assumption) ?y9x9 ?_
  case y9x9 => (intro w hSw; (try dsimp only at hSw); go_simp; try with_reducible rfl)
  simp only [Act.put, List.setIfInBounds_toArray, List.set_cons_zero, List.set_cons_succ]
  refine ord_one 4 rfl (by kernel_rfl) (by rfl) (fun K hK => ?_)
  have HB0 := Lib.hid (below_drew w1)
  go_wp2_with fail
  refine (Hd.out w1.drew HB0.out).mono ?_
  rintro r w5 ⟨v, rfl, hv, hvn, hb5⟩
  have HB5 := Lib.hid (HB0.out.trans hb5)
  have Hh5 := Lib.hid (And.intro (cell_far hHeld.1 hb5) (cell_far hHeld.2 hb5))
  have HV := Lib.hid (And.intro hv hvn)
  obtain ⟨pv, cv, rfl, -⟩ := own_cap0 hv
  clear hv hvn hb5
  go_wp2_with fail
  refine hK.out _ _ (Hh5.out) (fun hHeld => ?_)
  clear hK
  try simp only [Act.put, List.setIfInBounds_toArray, List.set_cons_zero, List.set_cons_succ]
  refine ord_one 10 rfl (by kernel_rfl) (by rfl) (fun K hK => ?_)
  go_wp2_with fail
  refine (Hg.out w5 HB5.out).mono ?_
  rintro r w6 ⟨u, rfl, hu, hun, hb6⟩
  have Hh6 := Lib.hid (And.intro (cell_far hHeld.1 hb6) (cell_far hHeld.2 hb6))
  have HE := Lib.hid (show SnapTold w1 M.data M.group (.returned (.tuple #[.slice pv M.data.length cv, u])) w6 from ⟨_, u, rfl, ownB_far HV.out.1 hb6, hu, fun x hx => hx.elim (HV.out.2 x) fun hx => Nat.le_trans HB5.out.size (hun x hx), HB5.out.trans (hb6.mono HB5.out.size)⟩)
  obtain ⟨pw, cw, rfl, -⟩ := own_capI hu
  clear hu hun hb6
  go_wp2_with fail
  refine hK.out _ _ (Hh6.out) (fun hHeld => ?_)
  clear hK
  try simp only [Act.put, List.setIfInBounds_toArray, List.set_cons_zero, List.set_cons_succ]
  refine ord_take 11 (v := ?v9x11) rfl (by kernel_rfl) (by kernel_rfl) (by kernel_rfl) (fun _ _ _ h => h) (by rfl) (by assumption) ?y9x11 ?_
  case y9x11 => (intro w hSw; (try dsimp only at hSw); go_simp; try with_reducible rfl)
  simp only [Act.put, List.setIfInBounds_toArray, List.set_cons_zero, List.set_cons_succ]
  refine ord_take 12 (v := ?v9x12) rfl (by kernel_rfl) (by kernel_rfl) (by kernel_rfl) (fun _ _ _ h => h) (by rfl) (by assumption) ?y9x12 ?_
  case y9x12 => (intro w hSw; (try dsimp only at hSw); go_simp; try with_reducible rfl)
  simp only [Act.put, List.setIfInBounds_toArray, List.set_cons_zero, List.set_cons_succ]
  refine wpAnyH_done (by kernel_rfl) ?_ _
  go_wp2_with fail
  go_ret2
  exact HE.out
end
end Go.Proofs.YtapfnehdgailmaaGreat

namespace Go.Proofs.YtapfnehdgailmaaGreat
open Go.RowKit Go.Sat Go.Maps

/-- A Writer that is new since B. -/
def WrB (B : Nat) (w : World) (k : Nat) (l : Bs) : Prop := ∃ v, WrIn w k v l ∧ B ≤ k ∧ (∀ j, v.ownBlock = some j → B ≤ j) ∧ B ≤ w.heap.size
/-- What a thing done with it leaves. -/
def WrNext (B : Nat) (w : World) (k : Nat) (l : Bs) (e : Ending) (w' : World) : Prop := e = .returned (.tuple #[]) ∧ WrB B w' k l ∧ Below B w w'

section
variable {B : Nat} {w w1 : World} {k : Nat} {l : Bs}

theorem WrB.keep (h : WrB B w k l) (hb : Below w.heap.size w w1) : WrB B w1 k l := let ⟨v, h1, h2, h3, h4⟩ := h; ⟨v, h1.keep hb, h2, h3, Nat.le_trans h4 hb.size⟩
theorem wrB_new (w : World) : WrB w.heap.size (w.alloc (.cells #[.slice none 0 0] 163)) w.heap.size [] :=
  ⟨.slice none 0 0, ⟨new_block w _, OwnR.nil _ _ _, fun h => (by cases h)⟩, Nat.le_refl _, fun j hj => (by cases hj), by simp⟩

theorem wrB_told {w0 : World} {v : Value} {e : Ending} {w' : World} {l' : Bs} (hb : Below w.heap.size w w0) (h2 : B ≤ k) (h3 : ∀ j, v.ownBlock = some j → B ≤ j) (h4 : B ≤ w.heap.size) (hT : WrTold w0 k v l' e w') : WrNext B w k l' e w' := by
  obtain ⟨rfl, v', hv', hc, hn⟩ := hT
  have hs := hb.size
  refine ⟨rfl, ⟨v', hv', h2, fun j hj => ?_, by have := hc.size; omega⟩, ?_⟩
  · rcases hn j hj with h | h
    · exact h3 j h
    · omega
  · refine (((Chg.of_below hb).mono fun _ _ h => h.elim).trans hc fun _ _ hs => hs : Chg (WrS k v) w w').below h4 fun i hi hs => ?_
    rcases hs with rfl | hs
    · omega
    · have := h3 i hs
      omega

theorem HasI.lit {w : World} (zs : List Int) (cs : Array Value) (h : cs.toList = zs.map (Value.int .i64)) (e : TypeId) (fr : Nat × Nat) (g n c : Nat) (hg : g = w.heap.size) (hn : n = zs.length) : HasI (w.alloc (.cells cs e fr)) (.slice (some ⟨g, 0, none⟩) n c) zs := by
  subst hg
  subst hn
  refine ⟨by simp, some ⟨w.heap.size, 0, none⟩, c, rfl, fun e => (by cases e), fun a ha i u hu => ?_⟩
  cases ha
  rw [add_zero]
  refine cell_of (new_block w _) ?_
  rw [← h] at hu
  simpa using hu

/-- Nums of numbers that were laid a moment ago. -/
theorem wrB_nums (h : WrB B w k l) (zs : List Int) (cs : Array Value) (hcs : cs.toList = zs.map (Value.int .i64)) (hz : ∀ z ∈ zs, -9223372036854775808 ≤ z ∧ z ≤ 9223372036854775807) (hl : l.length + 9 * zs.length ≤ 140737488355000) (g n c : Nat) (hg : g = w.heap.size) (hn : n = zs.length) (fr : Nat × Nat) :
    Calls Tryz.prog 105 #[.pointer (some ⟨k, 0, none⟩), .slice (some ⟨g, 0, none⟩) n c] (w.alloc (.cells cs 3 fr)) (WrNext B w k (l ++ numsI zs)) := by
  obtain ⟨v, h1, h2, h3, h4⟩ := h
  have hb := below_one w (.cells cs 3 fr)
  have hk := h1.klt
  refine (wnums_calls (h1.keep hb) (zs := zs) (fun W hc => Holds.chg (HasI.lit zs cs hcs _ _ g n c hg hn) hc fun x hx hs => ?_) hz hl).mono fun e w' hT => wrB_told hb h2 h3 h4 hT
  have hx' : x = g := by cases hx; rfl
  rcases hs with e | e
  · omega
  · have := OwnR.lt h1.row e
    omega

/-- Nums of numbers that lie elsewhere. -/
theorem wrB_numsx (h : WrB B w k l) {p : Option Addr} {n c : Nat} {zs : List Int} (hx : ∀ W, Below B w W → HasI W (.slice p n c) zs) (hz : ∀ z ∈ zs, -9223372036854775808 ≤ z ∧ z ≤ 9223372036854775807) (hl : l.length + 9 * zs.length ≤ 140737488355000) :
    Calls Tryz.prog 105 #[.pointer (some ⟨k, 0, none⟩), .slice p n c] w (WrNext B w k (l ++ numsI zs)) := by
  obtain ⟨v, h1, h2, h3, h4⟩ := h
  refine (wnums_calls h1 (zs := zs) (fun W hc => hx W (hc.below h4 fun i hi hs => ?_)) hz hl).mono fun e w' hT => wrB_told (Below.refl _ _) h2 h3 h4 hT
  rcases hs with rfl | hs
  · omega
  · have := h3 i hs
    omega

/-- Raw of bytes that stand in the code. -/
theorem wrB_raw (h : WrB B w k l) (m : Bs) (cs : Array Value) (hcs : cs.toList = bytesV m) (hl : l.length + m.length ≤ 140737488355328) (g n c : Nat) (hg : g = w.heap.size) (hn : n = m.length) (fr : Nat × Nat) :
    Calls Tryz.prog 104 #[.pointer (some ⟨k, 0, none⟩), .slice (some ⟨g, 0, none⟩) n c] (w.alloc (.cells cs 5 fr)) (WrNext B w k (l ++ m)) := by
  obtain ⟨v, h1, h2, h3, h4⟩ := h
  have hb := below_one w (.cells cs 5 fr)
  exact (wraw_calls (h1.keep hb) (has_lit cs m g n c hg hn hcs) hl).mono fun e w' hT => wrB_told hb h2 h3 h4 hT

/-- Bytes of one row. -/
theorem wrB_bytes (h : WrB B w k l) {pv : Option Addr} {m cv : Nat} {x : Bs} (hx : ∀ W, Below B w W → HasB W (.slice pv m cv) x) (hl : l.length + x.length ≤ 140737488354000) (g c : Nat) (hg : g = w.heap.size) (fr : Nat × Nat) :
    Calls Tryz.prog 127 #[.pointer (some ⟨k, 0, none⟩), .slice (some ⟨g, 0, none⟩) 1 c] (w.alloc (.cells #[.slice pv m cv] 22 fr)) (WrNext B w k (l ++ rowB x)) := by
  obtain ⟨v, h1, h2, h3, h4⟩ := h
  refine (wbytes_one h1 (fun W hc => hx W (hc.below h4 fun i hi hs => ?_)) hl g c hg fr).mono fun e w' hT => wrB_told (below_one w _) h2 h3 h4 hT
  rcases hs with rfl | hs
  · omega
  · have := h3 i hs
    omega

theorem wrB_out (h : WrB B w k l) (hl : l.length ≤ 140737488355328) :
    Calls Tryz.prog 106 #[.pointer (some ⟨k, 0, none⟩)] w fun e w' => ∃ v, e = .returned v ∧ OwnB w' 5 v l ∧ (∀ j, v.ownBlock = some j → B ≤ j) ∧ Below B w w' := by
  obtain ⟨v, h1, h2, h3, h4⟩ := h
  refine (wout_calls h1 hl).mono ?_
  rintro e w' ⟨u, rfl, hu, hn, hb⟩
  exact ⟨u, rfl, hu, fun x hx => Nat.le_trans h4 (hn x hx), hb.mono h4⟩

theorem grpB_len (zs : List Int) (h : zs.length ≤ 4611686018427387904) : (grpB zs).length ≤ 9 + 9 * zs.length := by
  unfold grpB
  rw [List.length_append]
  have h1 := numB_nine h
  have h2 := numsI_len zs
  omega

set_option maxRecDepth 100000 in
theorem wgroup_calls (h : WrB B w k l) {p : Option Addr} {n c : Nat} {zs : List Int} (hx : ∀ W, Below B w W → HasI W (.slice p n c) zs) (hz : ∀ z ∈ zs, -9223372036854775808 ≤ z ∧ z ≤ 9223372036854775807) (hl : l.length + 9 + 9 * zs.length ≤ 140737488354000) :
    Calls Tryz.prog 169 #[.pointer (some ⟨k, 0, none⟩), .slice p n c] w (WrNext B w k (l ++ grpB zs)) := by
  have hn : zs.length = n := by obtain ⟨_, _, e⟩ := (hx w (Below.refl _ _)).slice; simp only [Value.slice.injEq] at e; exact e.2.1.symm
  have h9 := numB_nine (n := zs.length) (by omega)
  have Hg := Lib.hid (show grpB zs = numB zs.length ++ numsI zs from rfl)
  have h1 := wrB_nums h [(n : Int)] #[.int .i64 (n : Int)] rfl (by simp; omega) (by simp; omega) w.heap.size 1 1 rfl rfl (0, 0)
  rw [show numsI [(n : Int)] = numB zs.length by rw [hn]; simp [numsI, numI_nat (show n ≤ 4611686018427387904 by omega)]] at h1
  have H1 := Lib.hid h1
  have H2 := Lib.hid (fun (W : World) (h : WrB B W k (l ++ numB zs.length)) (hb : Below B w W) => wrB_numsx h (fun W' hb' => hx W' (hb.trans hb')) hz (by rw [List.length_append]; omega))
  clear h1 h hx hz hn h9 hl
  go_enter Tryz.func169, Tryz.ntmps169
  go_wp2_with fail
  refine H1.out.mono ?_
  rintro e w2 ⟨rfl, hw2, hb2⟩
  have HB2 := Lib.hid hb2
  have H3 := Lib.hid (H2.out w2 hw2 hb2)
  clear hw2 hb2 H1
  go_wp2_with fail
  refine H3.out.mono ?_
  rintro e w3 ⟨rfl, hw3, hb3⟩
  have HE := Lib.hid (show WrNext B w k (l ++ grpB zs) (.returned (.tuple #[])) w3 from ⟨rfl, by rw [Hg.out, ← List.append_assoc]; exact hw3, HB2.out.trans hb3⟩)
  clear hw3 hb3
  go_wp2_with fail
  go_end0
  exact HE.out
end

/-- A row of one's own, new since. -/
def RowNew (w : World) (b : Bs) (e : Ending) (w' : World) : Prop := ∃ v, e = .returned v ∧ OwnB w' 5 v b ∧ (∀ k, v.ownBlock = some k → w.heap.size ≤ k) ∧ Below w.heap.size w w'

set_option maxRecDepth 100000 in
theorem termRec_calls (w : World) (t v : Int) (ht : -9223372036854775808 ≤ t ∧ t ≤ 9223372036854775807) (hv : -9223372036854775808 ≤ v ∧ v ≤ 1099511627776) : Calls Tryz.prog 109 #[.int .i64 t, .int .i64 v] w (RowNew w (trmB t v)) := by
  have H0 := Lib.hid (wrB_new w)
  have hbw : Below w.heap.size w (w.alloc (.cells #[.slice none 0 0] 163)) := below_one w _
  have h1 := wrB_raw (wrB_new w) [2] #[.int .u8 2] rfl (by decide) (w.heap.size + 1) 1 1 (by simp) rfl (0, 0)
  have H1 := Lib.hid h1
  have hw1 : IntKind.i64.wrap (v + 1) = v + 1 := IntWalk.i64_in _ (by omega)
  have HT := Lib.hid (show trmB t v = [2] ++ numsI [t, v + 1] from by simp [trmB, numsI])
  have H2 := Lib.hid (fun (W : World) (h : WrB w.heap.size W w.heap.size ([] ++ [2])) => wrB_nums h [t, v + 1] #[.int .i64 t, .int .i64 (v + 1)] rfl (by simp; omega) (by simp) W.heap.size 2 2 rfl rfl (0, 0))
  clear h1 H0
  go_enter Tryz.func109, Tryz.ntmps109
  go_wp2_with fail
  refine H1.out.mono ?_
  rintro e w2 ⟨rfl, hw2, hb2⟩
  have HB2 := Lib.hid (hbw.trans (hb2.mono (Nat.le_refl _)))
  have H3 := Lib.hid (H2.out w2 hw2)
  clear hw2 hb2 H1
  go_wp2_with fail
  refine H3.out.mono ?_
  rintro e w3 ⟨rfl, hw3, hb3⟩
  have HB3 := Lib.hid (HB2.out.trans hb3)
  have H4 := Lib.hid (wrB_out hw3 (by have := numsI_len [t, v + 1]; simp at this ⊢; omega))
  clear hw3 hb3 H3
  go_wp2_with fail
  refine H4.out.mono ?_
  rintro e w4 ⟨u, rfl, hu, hun, hb4⟩
  have HE := Lib.hid (show RowNew w (trmB t v) (.returned u) w4 from ⟨u, rfl, by rw [HT.out]; exact hu, hun, HB3.out.trans hb4⟩)
  clear hu hun hb4
  go_wp2_with fail
  go_ret
  exact HE.out

set_option maxRecDepth 100000 in
theorem entRec_calls {w : World} (n : Nat) (hn : n ≤ 4611686018427387904) {e : Ent} {v : EV} (h : EntHas w e v) (he : isEnt e = true) : Calls Tryz.prog 100 #[.int .i64 (n : Int), entV e v] w (RowNew w (entB n e)) := by
  obtain ⟨t, k, da, no⟩ := e
  obtain ⟨v1, v2⟩ := v
  have hf := ent_bound he
  dsimp only at hf
  have hb1 := below_one w (.cells #[.int .i64 t, .int .i64 k, v1, v2] 50)
  have hbox := new_block w (.cells #[.int .i64 t, .int .i64 k, v1, v2] 50)
  obtain ⟨p1, c1, e1⟩ := h.data.slice
  obtain ⟨p2, c2, e2⟩ := h.nodes.slice
  have e1' : v1 = .slice p1 da.length c1 := e1
  have e2' : v2 = .slice p2 no.length c2 := e2
  subst e1'
  subst e2'
  have H := Lib.hid h
  have HT := Lib.hid (show entB n ⟨t, k, da, no⟩ = ([] ++ [3]) ++ numsI [(n : Int), t, k] ++ rowB da ++ grpB no from by simp [entB, numsI, numI_nat hn])
  have hd6 := hf.2.2.1
  have hn7 := hf.2.2.2.1
  have Hf := Lib.hid hf
  clear e1 e2 h he hf
  unfold entV
  dsimp only
  go_enter Tryz.func100, Tryz.ntmps100
  go_wp2_with fail
  have hb2 : Below w.heap.size w ((w.alloc (.cells #[.int .i64 t, .int .i64 k, .slice p1 da.length c1, .slice p2 no.length c2] 50)).alloc (.cells #[.slice none 0 0] 163)) := hb1.alloc hb1.size _
  have hwr := wrB_new (w.alloc (.cells #[.int .i64 t, .int .i64 k, .slice p1 da.length c1, .slice p2 no.length c2] 50))
  have hbx := (al_old _ (.cells #[.slice none 0 0] 163) (lt_of_block hbox)).trans hbox
  have hsz : (w.alloc (.cells #[.int .i64 t, .int .i64 k, .slice p1 da.length c1, .slice p2 no.length c2] 50)).heap.size = w.heap.size + 1 := by simp
  rw [hsz] at hwr
  have H1 := Lib.hid (wrB_raw hwr [3] #[.int .u8 3] rfl (by decide) (w.heap.size + 2) 1 1 (by simp) rfl (0, 0))
  have hS : Below (w.heap.size + 1) (w.alloc (.cells #[.int .i64 t, .int .i64 k, .slice p1 da.length c1, .slice p2 no.length c2] 50)) ((w.alloc (.cells #[.int .i64 t, .int .i64 k, .slice p1 da.length c1, .slice p2 no.length c2] 50)).alloc (.cells #[.slice none 0 0] 163)) := by rw [← hsz]; exact below_one _ _
  have HBX := Lib.hid hbx
  have HB2 := Lib.hid hb2
  generalize (w.alloc (.cells #[.int .i64 t, .int .i64 k, .slice p1 da.length c1, .slice p2 no.length c2] 50)).alloc (.cells #[.slice none 0 0] 163) = W0 at *
  clear hb1 hbox hwr hbx hb2 hsz hS
  generalize hB : w.heap.size = B at *
  refine H1.out.mono ?_
  rintro e w2 ⟨rfl, hw2, hb2⟩
  have HBx2 := Lib.hid ((hb2.block B (by omega)).trans HBX.out)
  have HB3 := Lib.hid (show Below B w w2 from HB2.out.trans (hb2.mono (Nat.le_succ _)))
  have H2 := Lib.hid (wrB_nums hw2 [(n : Int), t, k] #[.int .i64 (n : Int), .int .i64 t, .int .i64 k] rfl (by have := Hf.out; simp; omega) (by simp) w2.heap.size 3 3 rfl rfl (0, 0))
  have l0 := cell_of HBx2.out (i := 0) rfl
  have l1 := cell_of HBx2.out (i := 1) rfl
  have l0 : w2.cell? ⟨B, 0, none⟩ = some (.int .i64 t) := l0
  have l1 : w2.cell? ⟨B, 1, none⟩ = some (.int .i64 k) := l1
  clear hw2 hb2 H1
  go_wp2_with fail
  refine H2.out.mono ?_
  rintro e w3 ⟨rfl, hw3, hb3⟩
  have HBx3 := Lib.hid ((hb3.block B (by omega)).trans HBx2.out)
  have HB4 := Lib.hid (show Below B w w3 from HB3.out.trans (hb3.mono (Nat.le_succ _)))
  have h9 := numsI_len [(n : Int), t, k]
  have H3 := Lib.hid (wrB_bytes hw3 (pv := p1) (m := da.length) (cv := c1) (x := da) (fun W hb => HasB.below H.out.data (by rw [hB]; exact HB4.out.trans (hb.mono (Nat.le_succ _)))) (by simp at h9 ⊢; omega) w3.heap.size 1 rfl (0, 0))
  have l2 : w3.cell? ⟨B, 2, none⟩ = some (.slice p1 da.length c1) := cell_of HBx3.out (i := 2) rfl
  clear hw3 hb3 H2 l0 l1
  go_wp2_with fail
  refine H3.out.mono ?_
  rintro e w4 ⟨rfl, hw4, hb4⟩
  have HBx4 := Lib.hid ((hb4.block B (by omega)).trans HBx3.out)
  have HB5 := Lib.hid (show Below B w w4 from HB4.out.trans (hb4.mono (Nat.le_succ _)))
  have h8 : (rowB da).length ≤ 65536 + 9 := by unfold rowB; have := numB_nine (n := da.length) (by omega); rw [List.length_append]; omega
  have H4 := Lib.hid (wgroup_calls hw4 (p := p2) (n := no.length) (c := c2) (zs := no) (fun W hb => Holds.chg H.out.nodes (Chg.of_below (by rw [hB]; exact HB5.out.trans (hb.mono (Nat.le_succ _)))) fun _ _ => id) (fun z hz => by have := Hf.out.2.2.2.2 z hz; omega) (by simp at h9 ⊢; omega))
  have l3 : w4.cell? ⟨B, 3, none⟩ = some (.slice p2 no.length c2) := cell_of HBx4.out (i := 3) rfl
  clear hw4 hb4 H3 l2
  go_wp2_with fail
  refine H4.out.mono ?_
  rintro e w5 ⟨rfl, hw5, hb5⟩
  have HB6 := Lib.hid (show Below B w w5 from HB5.out.trans (hb5.mono (Nat.le_succ _)))
  have h7 := grpB_len no (by omega)
  have H5 := Lib.hid (wrB_out hw5 (by simp at h9 ⊢; omega))
  clear hw5 hb5 H4 l3
  go_wp2_with fail
  refine H5.out.mono ?_
  rintro e w6 ⟨u, rfl, hu, hun, hb6⟩
  have HE := Lib.hid (show RowNew w (entB n ⟨t, k, da, no⟩) (.returned u) w6 from ⟨u, rfl, by rw [HT.out]; exact hu, fun x hx => by have := hun x hx; omega, by rw [hB]; exact HB6.out.trans (hb6.mono (Nat.le_succ _))⟩)
  clear hu hun hb6
  go_wp2_with fail
  go_ret
  exact HE.out

section
variable {w w1 : World} {j d : Nat} {pre : ByteArray} {D : DiskM} {M : JouM} {F : Nat → Prop}
set_option maxRecDepth 100000 in
set_option maxHeartbeats 4000000 in
theorem jfirst_calls (h : JouF w w1 j d pre D M F) : Calls Tryz.prog 158 #[.pointer (some ⟨j, 0, none⟩)] w1 (RowNew w1 (fstB M.number M.term M.group)) := by
  have hok := h.okM
  have hlast := hok.last
  have ht := isTm_iff.1 hok.term
  have hg := grp_bound hok.group
  obtain ⟨own, gv, dv, ev, vs, hJ, hS, hn, hl⟩ := h
  have c0 := hJ.c 0 rfl
  have c1 := hJ.c 1 rfl
  have c2 := hJ.c 2 rfl
  obtain ⟨pg, cg, hgv, -⟩ := own_capI hJ.group
  rw [hgv] at c2
  have HG := Lib.hid (hgv ▸ hJ.group)
  unfold JouM.last at hlast
  have HT := Lib.hid (show fstB M.number M.term M.group = [] ++ [1] ++ numsI [(M.number : Int), M.term] ++ grpB M.group from by simp [fstB, numsI, numI_nat (show M.number ≤ 4611686018427387904 by omega)])
  have Hg := Lib.hid hg
  have hg7 := hg.1
  have hb1 := below_one w1 (.cells #[.slice none 0 0] 163)
  have H1 := Lib.hid (wrB_raw (wrB_new w1) [1] #[.int .u8 1] rfl (by decide) (w1.heap.size + 1) 1 1 (by simp) rfl (0, 0))
  have HB1 := Lib.hid hb1
  have c0b := Lib.hid (And.intro c0 c1)
  have hnb : M.number ≤ 1099511627776 := by omega
  clear hJ hS hn hl hgv hok hg hlast hb1
  generalize M.number = b at *
  generalize M.term = t at *
  go_enter Tryz.func158, Tryz.ntmps158
  go_wp2_with fail
  refine H1.out.mono ?_
  rintro e w2 ⟨rfl, hw2, hb2⟩
  have HB2 := Lib.hid (HB1.out.trans hb2)
  have c0 := cell_far c0 HB2.out
  have c1 := cell_far c1 HB2.out
  have HW2 := Lib.hid hw2
  clear hw2 hb2 H1
  go_wp2_with fail
  refine ord_start (fun w' : World => w'.cell? ⟨j, 0, none⟩ = some (.int .i64 (b : Int)) ∧ w'.cell? ⟨j, 1, none⟩ = some (.int .i64 t)) (n := 12) (by kernel_rfl) rfl (⟨c0, c1⟩) (fun hHeld => ?_)
  have HW2d := Lib.hid (HW2.out.keep (below_drew w2))
  have HB2d := Lib.hid (HB2.out.trans ⟨rfl, rfl, rfl, Nat.le_refl _, fun _ _ => rfl⟩ : Below w1.heap.size w1 w2.drew)
  generalize w2.drew = W2 at *
  refine ord_take 0 (v := ?v3x0) rfl (by kernel_rfl) (by kernel_rfl) (by kernel_rfl) (fun _ _ _ h => h) (by rfl) (by assumption) ?y3x0 ?_
  case y3x0 => (intro w hSw; (try dsimp only at hSw); go_simp; try with_reducible rfl)
  simp only [Act.put, List.setIfInBounds_toArray, List.set_cons_zero, List.set_cons_succ]
  refine ord_take 1 (v := ?v3x1) rfl (by kernel_rfl) (by kernel_rfl) (by kernel_rfl) (fun _ _ _ h => h) (by rfl) (by assumption) ?y3x1 ?_
  case y3x1 => (intro w hSw; (try dsimp only at hSw); go_simp; try with_reducible rfl)
  simp only [Act.put, List.setIfInBounds_toArray, List.set_cons_zero, List.set_cons_succ]
  refine ord_take 2 (v := ?v3x2) rfl (by kernel_rfl) (by kernel_rfl) (by kernel_rfl) (fun _ _ _ h => h) (by rfl) (by assumption) ?y3x2 ?_
  case y3x2 => (intro w hSw; (try dsimp only at hSw); go_simp; try with_reducible rfl)
  simp only [Act.put, List.setIfInBounds_toArray, List.set_cons_zero, List.set_cons_succ]
  refine ord_take 3 (v := ?v3x3) rfl (by kernel_rfl) (by kernel_rfl) (by kernel_rfl) (fun _ _ _ h => h) (by rfl) (by assumption) ?y3x3 ?_
  case y3x3 => (intro w hSw; (try dsimp only at hSw); go_simp; try with_reducible rfl)
  simp only [Act.put, List.setIfInBounds_toArray, List.set_cons_zero, List.set_cons_succ]
  refine ord_take 4 (v := ?v3x4) rfl (by kernel_rfl) (by kernel_rfl) (by kernel_rfl) (fun _ _ _ h => h) (by rfl) (by assumption) ?y3x4 ?_
  case y3x4 => (intro w hSw; (try dsimp only at hSw); go_simp; try with_reducible rfl)
  simp only [Act.put, List.setIfInBounds_toArray, List.set_cons_zero, List.set_cons_succ]
  refine ord_take 5 (v := ?v3x5) rfl (by kernel_rfl) (by kernel_rfl) (by kernel_rfl) (fun _ _ _ h => h) (by rfl) (by assumption) ?y3x5 ?_
  case y3x5 => (intro w hSw; (try dsimp only at hSw); go_simp; try with_reducible rfl)
  simp only [Act.put, List.setIfInBounds_toArray, List.set_cons_zero, List.set_cons_succ]
  refine ord_take 6 (v := ?v3x6) rfl (by kernel_rfl) (by kernel_rfl) (by kernel_rfl) (fun _ _ _ h => h) (by rfl) (by assumption) ?y3x6 ?_
  case y3x6 => (intro w hSw; (try dsimp only at hSw); go_simp; try with_reducible rfl)
  simp only [Act.put, List.setIfInBounds_toArray, List.set_cons_zero, List.set_cons_succ]
  refine ord_take 7 (v := ?v3x7) rfl (by kernel_rfl) (by kernel_rfl) (by kernel_rfl) (fun _ _ _ h => h) (by rfl) (by assumption) ?y3x7 ?_
  case y3x7 => (intro w hSw; (try dsimp only at hSw); go_simp; try with_reducible rfl)
  simp only [Act.put, List.setIfInBounds_toArray, List.set_cons_zero, List.set_cons_succ]
  refine ord_take 8 (v := ?v3x8) rfl (by kernel_rfl) (by kernel_rfl) (by kernel_rfl) (fun _ _ _ h => h) (by rfl) (by assumption) ?y3x8 ?_
  case y3x8 => (intro w hSw; (try dsimp only at hSw); go_simp; try with_reducible rfl)
  simp only [Act.put, List.setIfInBounds_toArray, List.set_cons_zero, List.set_cons_succ]
  refine ord_take 9 (v := ?v3x9) rfl (by kernel_rfl) (by kernel_rfl) (by kernel_rfl) (fun _ _ _ h => h) (by rfl) (by assumption) ?y3x9 ?_
  case y3x9 => (intro w hSw; (try dsimp only at hSw); go_simp; try with_reducible rfl)
  simp only [Act.put, List.setIfInBounds_toArray, List.set_cons_zero, List.set_cons_succ]
  refine ord_one 10 rfl (by kernel_rfl) (by rfl) (fun K hK => ?_)
  have Hh6 := Lib.hid (And.intro (al_cell hHeld.1 (.cells #[.int .i64 (b : Int), .int .i64 t] 3)) (al_cell hHeld.2 (.cells #[.int .i64 (b : Int), .int .i64 t] 3)))
  have H2 := Lib.hid (wrB_nums HW2d.out [(b : Int), t] #[.int .i64 (b : Int), .int .i64 t] rfl (by simp; omega) (by simp) W2.heap.size 2 2 rfl rfl (0, 0))
  go_wp2_with fail
  refine hK.out _ _ (Hh6.out) (fun hHeld => ?_)
  clear hK
  try simp only [Act.put, List.setIfInBounds_toArray, List.set_cons_zero, List.set_cons_succ]
  refine ord_one 11 rfl (by kernel_rfl) (by rfl) (fun K hK => ?_)
  go_wp2_with fail
  refine H2.out.mono ?_
  rintro e w3 ⟨rfl, hw3, hb3⟩
  have HB3 := Lib.hid (HB2d.out.trans hb3)
  have c2 := cell_far c2 HB3.out
  have Hh3 := Lib.hid (And.intro (cell_far c0b.out.1 HB3.out) (cell_far c0b.out.2 HB3.out))
  have h9 := numsI_len [(b : Int), t]
  have H5 := Lib.hid (wgroup_calls hw3 (p := pg) (n := M.group.length) (c := cg) (zs := M.group) (fun W hb => Holds.chg (OwnI.has HG.out) (Chg.of_below (HB3.out.trans hb)) fun _ _ => id) (fun z hz => by have := Hg.out.2 z hz; omega) (by simp at h9 ⊢; omega))
  clear hw3 hb3 H2 h9
  go_wp2_with fail
  refine hK.out _ _ (Hh3.out) (fun hHeld => ?_)
  clear hK
  try simp only [Act.put, List.setIfInBounds_toArray, List.set_cons_zero, List.set_cons_succ]
  refine wpAnyH_done (by kernel_rfl) ?_ _
  go_wp2_with fail
  refine H5.out.mono ?_
  rintro e w4 ⟨rfl, hw4, hb4⟩
  have HB6 := Lib.hid (show Below w1.heap.size w1 w4 from HB3.out.trans hb4)
  have h7 := grpB_len M.group (by omega)
  have H6 := Lib.hid (wrB_out hw4 (by have h9 := numsI_len [(b : Int), t]; simp at h9 ⊢; omega))
  clear hw4 hb4 H5
  go_wp2_with fail
  refine H6.out.mono ?_
  rintro e w6 ⟨u, rfl, hu, hun, hb6⟩
  have HE := Lib.hid (show RowNew w1 (fstB b t M.group) (.returned u) w6 from ⟨u, rfl, by rw [HT.out]; exact hu, hun, HB6.out.trans hb6⟩)
  clear hu hun hb6
  go_wp2_with fail
  go_ret
  exact HE.out
end

theorem recsB_take {ls : List Bs} {k : Nat} (hk : k < ls.length) : recsB (ls.take (k + 1)) = recsB (ls.take k) ++ frameN ls[k] := by
  rw [List.take_succ_eq_append_getElem hk, recsB_app, recsB_one]
theorem recsB_take_le (ls : List Bs) (k : Nat) : (recsB (ls.take k)).length ≤ (recsB ls).length := by
  have h : recsB ls = recsB (ls.take k) ++ recsB (ls.drop k) := by rw [← recsB_app, List.take_append_drop]
  rw [h, List.length_append]
  omega

set_option maxRecDepth 100000 in
set_option maxHeartbeats 4000000 in
theorem framed_calls {w : World} {p : Option Addr} {n c : Nat} {ls : List Bs} (hx : RowsAt w (.slice p n c) ls) (hn : n ≤ 1099511627776) (h1 : ∀ l ∈ ls, l.length ≤ 1048576) (hl : (recsB ls).length ≤ 1099511627776) :
    Calls Tryz.prog 159 #[.slice p n c] w (RowNew w (recsB ls)) := by
  obtain ⟨i0, hi, hz0, hz1, hz2⟩ := info_parts (show (Tryz.prog.info? 5).map (fun i => (i.zero, i.size, i.bytes)) = some (some (.int .u8 0), 1, 1) by kernel_rfl)
  have Hn := Lib.hid (RowsAt.len hx)
  have Hx := Lib.hid hx
  have H1 := Lib.hid h1
  have Hl := Lib.hid hl
  clear hx h1 hl
  go_enter Tryz.func159, Tryz.ntmps159
  go_wp2_with fail
  go_loopw [3, 10] (fun x i wr => ∃ k : Nat, k ≤ n ∧ i = .int .i64 k ∧ OwnB wr 5 x (recsB (ls.take k)) ∧ (∀ y, x.ownBlock = some y → w.heap.size ≤ y) ∧ Below w.heap.size w wr) (fun _ i _ => n - (intOf i).toNat)
  case atStart => exact ⟨0, Nat.zero_le _, rfl, OwnR.nil _ _ _, fun y hy => (by cases hy), Below.refl _ _⟩
  case round =>
    obtain ⟨k, hk, rfl, hown, hnew, hb⟩ := hrel
    by_cases hlt : k < n
    · have hkl : k < ls.length := by rw [← Hn.out]; exact hlt
      have hb' := rows_below Hx.out hb
      obtain ⟨-, b, o, v, rfl, hcell, hv⟩ := RowsAt.row hb' hkl
      have hlk := H1.out _ (List.getElem_mem hkl)
      have HTk := Lib.hid (recsB_take hkl)
      have hle := recsB_take_le ls (k + 1)
      generalize ls[k] = y at *
      obtain ⟨pv, cv, rfl⟩ := hv.slice
      have He := Lib.hid (enc_calls (rows_one hv 22 (0, 0) _ 1 rfl (Nat.le_refl _)) (by decide) (by simpa using hlk))
      rw [show [y].flatten = y by simp] at He
      have Hlen := Lib.hid (show (recsB (ls.take k)).length + (frameN y).length ≤ 1099511627776 from by
        have := Hl.out
        rw [HTk.out, List.length_append] at hle
        omega)
      have HX := Lib.hid (And.intro hown (And.intro hnew hb))
      clear hv hb' hown hnew hb hle
      go_wp2_with fail
      refine He.out.mono ?_
      rintro e w2 ⟨u, rfl, hu, -, hb2⟩
      have hba : Below wr.heap.size wr w2 := (below_one wr (.cells #[.slice pv y.length cv] 22)).trans (hb2.mono (by simp))
      have hown2 := ownB_far HX.out.1 hba
      have Hown2 := Lib.hid hown2
      have HB2 := Lib.hid (HX.out.2.2.trans (hba.mono HX.out.2.2.size))
      obtain ⟨pu, cu, rfl⟩ := hu.slice
      have Hu := Lib.hid hu
      have hL47 := Hlen.out
      generalize hA : (recsB (ls.take k)).length = A at *
      generalize hN : (frameN y).length = N at *
      have Hrow := Lib.hid (show OwnR w2 5 1 u3 A (bytesV (recsB (ls.take k))) from by have := Hown2.out; unfold OwnB at this; rwa [hA] at this)
      have Hxx := Lib.hid (show Holds w2 1 (.slice pu N cu) N (bytesV (frameN y)) from by have := Hu.out; unfold HasB at this; rwa [hN] at this)
      clear hb2 hba hown2 hu He
      have HA := Lib.hid hA
      have HN := Lib.hid hN
      clear hA hN
      go_wp2_with (at_builtin; refine wpList_app _ rfl (.tmp 20) (.tmp 21) 22 rfl 5 i0 (.int .u8 0) 1 1 Tryz.underlying22 hi hz0 hz1 hz2 rfl (by decide) _ A _ rfl Hrow.out (.slice pu N cu) N _ rfl Hxx.out (bytesV_one _) (by unfold maxLen; omega) (by omega) ?_; intro v3 w3 hown3 hgrow3 hloc3; go_loud (have HE := Lib.hid (show OwnB w3 5 v3 (recsB (ls.take (k + 1))) ∧ (∀ y, v3.ownBlock = some y → w.heap.size ≤ y) ∧ Below w.heap.size w w3 from ⟨by unfold OwnB; rw [HTk.out, List.length_append, HA.out, HN.out, bytesV_app]; exact hown3, fun z hz => (by { rcases hloc3 with e | ⟨g, e, hge⟩; exact HX.out.2.1 z (e ▸ hz); rw [hz] at e; cases e; exact Nat.le_trans HB2.out.size hge }), HB2.out.trans ((Chg.of_grown hgrow3).below HB2.out.size fun z hz e => (by have := HX.out.2.1 z e.symm; omega))⟩); clear hgrow3 hloc3; obtain ⟨p3, q3, rfl⟩ := OwnR.shape hown3; clear hown3))
      go_roundw
      case rel => exact ⟨k + 1, by omega, by go_num, HE.out⟩
      case measure => simp [intOf]; omega
    · have he : ls.take k = ls := List.take_of_length_le (by rw [← Hn.out]; omega)
      rw [he] at hown
      have HE := Lib.hid (show RowNew w (recsB ls) (.returned u3) wr from ⟨u3, rfl, hown, hnew, hb⟩)
      clear hown hnew hb he
      go_wp2_with fail
      go_ret
      exact HE.out
end Go.Proofs.YtapfnehdgailmaaGreat

namespace Go.Proofs.YtapfnehdgailmaaGreat
open Go.RowKit Go.Sat Go.Maps

section
variable {w w1 wc : World} {j d : Nat} {pre : ByteArray} {D : DiskM} {M : JouM} {F : Nat → Prop}

theorem jou_append (h : JouF w w1 j d pre D M F) (hb : Below w1.heap.size w1 wc) (s : ByteArray) (x : Value) (ls : List Bs) (hx : RowsAt wc x ls) (hn : ls.length ≤ 140737488355328) (hl : ls.flatten.length ≤ 140737488355328) (hsz : s.size ≤ 9223372036854775807) :
    Calls Tryz.prog 15 #[.pointer (some ⟨d, 0, none⟩), .string s, x] wc fun e w' => e = .returned (.int .i64 ((D.append (nm s) ls.flatten).2 : Int)) ∧ JouF w w' j d pre (D.append (nm s) ls.flatten).1 M F ∧ Same F w1 w' ∧ w'.heap[j]? = w1.heap[j]? :=
  jou_disk h hb fun _ hS => st_append (hS.next hb) s x ls hx hn hl hsz
theorem jou_sync (h : JouF w w1 j d pre D M F) (s : ByteArray) (hs : s.size ≤ 9223372036854775807) :
    Calls Tryz.prog 130 #[.pointer (some ⟨d, 0, none⟩), .slice (some ⟨w1.heap.size, 0, none⟩) 1 1] (w1.alloc (.cells #[.string s] 9)) fun e w' => e = .returned (.int .i64 ((D.sync [nm s]).2 : Int)) ∧ JouF w w' j d pre (D.sync [nm s]).1 M F ∧ Same F w1 w' ∧ w'.heap[j]? = w1.heap[j]? :=
  jou_disk h (below_one _ _) fun _ hS => st_sync hS [s] w1.heap.size 1 rfl (0, 0) (by simp) (by simpa using hs)
theorem jou_remove (h : JouF w w1 j d pre D M F) (s : ByteArray) (hs : s.size ≤ 9223372036854775807) :
    Calls Tryz.prog 76 #[.pointer (some ⟨d, 0, none⟩), .slice (some ⟨w1.heap.size, 0, none⟩) 1 1] (w1.alloc (.cells #[.string s] 9)) fun e w' => e = .returned (.int .i64 ((D.remove [nm s]).2 : Int)) ∧ JouF w w' j d pre (D.remove [nm s]).1 M F ∧ Same F w1 w' ∧ w'.heap[j]? = w1.heap[j]? :=
  jou_disk h (below_one _ _) fun _ hS => st_remove hS [s] w1.heap.size 1 rfl (0, 0) (by simp) (by simpa using hs)
theorem jou_trunc (h : JouF w w1 j d pre D M F) (s : ByteArray) (hs : s.size ≤ 9223372036854775807) (z : Int) (hz : -9223372036854775808 ≤ z) (hz' : z ≤ 9223372036854775807) :
    Calls Tryz.prog 156 #[.pointer (some ⟨d, 0, none⟩), .string s, .int .i64 z] w1 fun e w' => e = .returned (.int .i64 ((D.truncate (nm s) z).2 : Int)) ∧ JouF w w' j d pre (D.truncate (nm s) z).1 M F ∧ Same F w1 w' ∧ w'.heap[j]? = w1.heap[j]? :=
  jou_disk h (Below.refl _ _) fun _ hS => st_trunc hS s hs z hz hz'

/-- What a change of the disk and the journal leaves. -/
def JouTold (w w1 : World) (j d : Nat) (pre : ByteArray) (F : Nat → Prop) (r : WroteJ) (e : Ending) (w' : World) : Prop :=
  e = .returned (.int .i64 (r.err : Int)) ∧ JouF w w' j d pre r.disk r.jou F ∧ Same F w1 w'

def deadIf (M : JouM) (k : Nat) : JouM := { M with dead := M.dead || decide (k ≠ 0) }
theorem deadIf_zero (M : JouM) : deadIf M 0 = M := by unfold deadIf; simp
theorem deadIf_ne (M : JouM) {k : Nat} (h : k ≠ 0) : deadIf M k = M.die := by unfold deadIf JouM.die; simp [h]

set_option maxRecDepth 100000 in
set_option maxHeartbeats 4000000 in
theorem jlays_calls (h : JouF w w1 j d pre D M F) {p : Option Addr} {n c : Nat} {ls : List Bs} (hx : RowsAt w1 (.slice p n c) ls) (hn : n ≤ 1099511627776) (h1 : ∀ l ∈ ls, l.length ≤ 1048576) (hl : (recsB ls).length ≤ 1099511627776) :
    Calls Tryz.prog 101 #[.pointer (some ⟨j, 0, none⟩), .slice p n c] w1 fun e w' => e = .returned (.int .i64 ((layOn D (logN (nm pre)) (recsB ls)).2 : Int)) ∧ JouF w w' j d pre (layOn D (logN (nm pre)) (recsB ls)).1 (deadIf M (layOn D (logN (nm pre)) (recsB ls)).2) F ∧ Same F w1 w' := by
  have hps := h.psz
  obtain ⟨c3, c4, -⟩ := h.jc
  have hsl : (sLog pre).size = pre.size + 4 := size_log pre
  have Hfr := Lib.hid (fun W (hb : Below w1.heap.size w1 W) => framed_calls (rows_below hx hb) hn h1 hl)
  have HL := Lib.hid (show layOn D (logN (nm pre)) (recsB ls) = if (D.append (logN (nm pre)) (recsB ls)).2 ≠ 0 then D.append (logN (nm pre)) (recsB ls) else (D.append (logN (nm pre)) (recsB ls)).1.sync [logN (nm pre)] from rfl)
  have H := Lib.hid h
  have hll := hl
  clear hx h1 hl h
  cases hap : D.append (logN (nm pre)) (recsB ls) with
  | mk D1 e1 =>
    have Hap := Lib.hid (fun W (hb : Below w1.heap.size w1 W) x (hx : RowsAt W x [recsB ls]) => show Calls Tryz.prog 15 #[.pointer (some ⟨d, 0, none⟩), .string (sLog pre), x] W fun e w' => e = .returned (.int .i64 (e1 : Int)) ∧ JouF w w' j d pre D1 M F ∧ Same F w1 w' ∧ w'.heap[j]? = w1.heap[j]? from by
      have := jou_append H.out hb (sLog pre) x [recsB ls] hx (by simp) (by simp; omega) (by rw [hsl]; omega)
      rw [show [recsB ls].flatten = recsB ls by simp, nm_log, hap] at this
      exact this)
    rw [hap] at HL
    dsimp only at HL
    clear hap
    generalize layOn D (logN (nm pre)) (recsB ls) = Z at *
    generalize (recsB ls).length = L at *
    go_enter Tryz.func101, Tryz.ntmps101
    go_wp2_with fail
    refine ord_start (fun w' : World => w'.cell? ⟨j, 3, none⟩ = some (.pointer (some ⟨d, 0, none⟩))) (n := 10) (by kernel_rfl) rfl (c3) (fun hHeld => ?_)
    refine ord_take 0 (v := ?v1x0) rfl (by kernel_rfl) (by kernel_rfl) (by kernel_rfl) (fun _ _ _ h => h) (by rfl) (by assumption) ?y1x0 ?_
    case y1x0 => (intro w hSw; (try dsimp only at hSw); go_simp; try with_reducible rfl)
    simp only [Act.put, List.setIfInBounds_toArray, List.set_cons_zero, List.set_cons_succ]
    refine ord_take 1 (v := ?v1x1) rfl (by kernel_rfl) (by kernel_rfl) (by kernel_rfl) (fun _ _ _ h => h) (by rfl) (by assumption) ?y1x1 ?_
    case y1x1 => (intro w hSw; (try dsimp only at hSw); go_simp; try with_reducible rfl)
    simp only [Act.put, List.setIfInBounds_toArray, List.set_cons_zero, List.set_cons_succ]
    refine ord_take 2 (v := ?v1x2) rfl (by kernel_rfl) (by kernel_rfl) (by kernel_rfl) (fun _ _ _ h => h) (by rfl) (by assumption) ?y1x2 ?_
    case y1x2 => (intro w hSw; (try dsimp only at hSw); go_simp; try with_reducible rfl)
    simp only [Act.put, List.setIfInBounds_toArray, List.set_cons_zero, List.set_cons_succ]
    refine ord_take 3 (v := ?v1x3) rfl (by kernel_rfl) (by kernel_rfl) (by kernel_rfl) (fun _ _ _ h => h) (by rfl) (by assumption) ?y1x3 ?_
    case y1x3 => (intro w hSw; (try dsimp only at hSw); go_simp; try with_reducible rfl)
    simp only [Act.put, List.setIfInBounds_toArray, List.set_cons_zero, List.set_cons_succ]
    refine ord_take 4 (v := ?v1x4) rfl (by kernel_rfl) (by kernel_rfl) (by kernel_rfl) (fun _ _ _ h => h) (by rfl) (by assumption) ?y1x4 ?_
    case y1x4 => (intro w hSw; (try dsimp only at hSw); go_simp; try with_reducible rfl)
    simp only [Act.put, List.setIfInBounds_toArray, List.set_cons_zero, List.set_cons_succ]
    refine ord_take 5 (v := ?v1x5) rfl (by kernel_rfl) (by kernel_rfl) (by kernel_rfl) (fun _ _ _ h => h) (by rfl) (by assumption) ?y1x5 ?_
    case y1x5 => (intro w hSw; (try dsimp only at hSw); go_simp; try with_reducible rfl)
    simp only [Act.put, List.setIfInBounds_toArray, List.set_cons_zero, List.set_cons_succ]
    refine ord_one 6 rfl (by kernel_rfl) (by rfl) (fun K hK => ?_)
    have HB0 := Lib.hid (below_drew w1)
    go_wp2_with fail
    refine (Hfr.out w1.drew HB0.out).mono ?_
    rintro e w3 ⟨v, rfl, hv, -, hb3⟩
    have HB3 := Lib.hid (HB0.out.trans hb3)
    have Hh3 := Lib.hid (cell_far hHeld hb3)
    have HV := Lib.hid (OwnB.has hv)
    obtain ⟨pv, cv, rfl, -⟩ := own_cap0 hv
    clear hv hb3 Hfr
    go_wp2_with fail
    refine hK.out _ _ (Hh3.out) (fun hHeld => ?_)
    clear hK
    try simp only [Act.put, List.setIfInBounds_toArray, List.set_cons_zero, List.set_cons_succ]
    refine ord_one 7 rfl (by kernel_rfl) (by rfl) (fun K hK => ?_)
    have Hh4 := Lib.hid (al_cell hHeld (.cells #[.slice pv (recsB ls).length cv] 22))
    go_wp2_with fail
    refine hK.out _ _ (Hh4.out) (fun hHeld => ?_)
    clear hK
    try simp only [Act.put, List.setIfInBounds_toArray, List.set_cons_zero, List.set_cons_succ]
    refine ord_one 8 rfl (by kernel_rfl) (by rfl) (fun K hK => ?_)
    have Hcl := Lib.hid (Hap.out _ (HB3.out.trans ((below_one w3 (.cells #[.slice pv (recsB ls).length cv] 22)).mono HB3.out.size)) _ (rows_one HV.out 22 (0, 0) w3.heap.size 1 rfl (Nat.le_refl _)))
    go_wp2_with fail
    refine Hcl.out.mono ?_
    rintro e w5 ⟨rfl, hj5, hs5, hh5⟩
    have HJ5 := Lib.hid hj5
    have HS5 := Lib.hid hs5
    have Hh5 := Lib.hid ((World.cell?_of_block (a := ⟨j, 3, none⟩) hh5).trans c3)
    clear hj5 hs5 hh5 Hcl
    go_wp2_with fail
    refine hK.out _ _ (Hh5.out) (fun hHeld => ?_)
    clear hK
    try simp only [Act.put, List.setIfInBounds_toArray, List.set_cons_zero, List.set_cons_succ]
    refine ord_take 9 (v := ?v1x9) rfl (by kernel_rfl) (by kernel_rfl) (by kernel_rfl) (fun _ _ _ h => h) (by rfl) (by assumption) ?y1x9 ?_
    case y1x9 => (intro w hSw; (try dsimp only at hSw); go_simp; try with_reducible rfl)
    simp only [Act.put, List.setIfInBounds_toArray, List.set_cons_zero, List.set_cons_succ]
    refine wpAnyH_done (by kernel_rfl) ?_ _
    clear HV HB3
    by_cases he1 : e1 = 0
    · subst he1
      cases hsy : D1.sync [logN (nm pre)] with
      | mk D2 e2 =>
        have HZ := Lib.hid (show Z = (D2, e2) from by rw [HL.out, if_neg (by simp), hsy])
        have hsyc := jou_sync HJ5.out (sLog pre) (by rw [hsl]; omega)
        rw [nm_log, hsy] at hsyc
        have Hsy := Lib.hid hsyc
        have c3 : w5.cell? ⟨j, 3, none⟩ = some (.pointer (some ⟨d, 0, none⟩)) := Hh5.out
        clear hsyc hsy
        go_wp2_with fail
        refine Hsy.out.mono ?_
        rintro e w6 ⟨rfl, hj6, hs6, -⟩
        have Hen := Lib.hid (jended_calls hj6 e2)
        have HS6 := Lib.hid (HS5.out.trans hs6)
        clear hj6 hs6 Hsy
        go_wp2_with fail
        refine Hen.out.mono ?_
        rintro e w7 ⟨rfl, hj7, hs7⟩
        have HE := Lib.hid (show JouF w w7 j d pre Z.1 (deadIf M Z.2) F ∧ Same F w1 w7 from ⟨by rw [HZ.out]; exact hj7, HS6.out.trans hs7⟩)
        clear hj7 hs7
        go_wp2_with fail
        go_ret
        exact ⟨by rw [HZ.out]; rfl, HE.out⟩
    · have HZ := Lib.hid (show Z = (D1, e1) from by rw [HL.out, if_pos he1])
      have hne : ((e1 : Int) == 0) = false := by simp; omega
      have Hen := Lib.hid (jended_calls HJ5.out e1)
      clear he1
      go_wp2_with fail
      refine Hen.out.mono ?_
      rintro e w7 ⟨rfl, hj7, hs7⟩
      have HE := Lib.hid (show JouF w w7 j d pre Z.1 (deadIf M Z.2) F ∧ Same F w1 w7 from ⟨by rw [HZ.out]; exact hj7, HS5.out.trans hs7⟩)
      clear hj7 hs7
      go_wp2_with fail
      go_ret
      exact ⟨by rw [HZ.out]; rfl, HE.out⟩
end
end Go.Proofs.YtapfnehdgailmaaGreat

namespace Go.Proofs.YtapfnehdgailmaaGreat
open Go.RowKit Go.Sat Go.Maps

section
variable {pre : Bs} {D : DiskM} {M M' : JouM} {rows : List Bs}
theorem laysJ_ok {D' : DiskM} (h : layOn D (logN pre) (recsB rows) = (D', 0)) : laysJ pre D M rows M' = ⟨D', M', 0⟩ := by
  unfold laysJ
  rw [h, if_neg (by simp)]
theorem laysJ_err {D' : DiskM} {e : Nat} (h : layOn D (logN pre) (recsB rows) = (D', e)) (he : e ≠ 0) : laysJ pre D M rows M' = ⟨D', M.die, e⟩ := by
  unfold laysJ
  rw [h, if_pos he]
end

theorem trmB_len (t v : Int) : (trmB t v).length ≤ 19 := by
  unfold trmB
  rw [List.length_cons, List.length_append]
  have h1 := numI_len t
  have h2 := numI_len (v + 1)
  omega
theorem recs_one_len (l : Bs) : (recsB [l]).length = l.length + 12 := by rw [recsB_one, frame_len]

section
variable {w w1 : World} {j d : Nat} {pre : ByteArray} {D : DiskM} {M : JouM} {F : Nat → Prop}

theorem jouTold_id (h : JouF w w1 j d pre D M F) {w2 : World} (hb : Below w1.heap.size w1 w2) {r : WroteJ} {k : Nat} (hr : r = ⟨D, M, k⟩) : JouTold w w1 j d pre F r (.returned (.int .i64 (k : Int))) w2 := by
  subst hr
  exact ⟨rfl, h.next hb, h.same hb⟩

theorem jou_set56 (h : JouF w w1 j d pre D M F) (t v : Int) (ht : isTm t = true) (hv : -1 ≤ v ∧ v < 7) : JouF w ((w1.setCell ⟨j, 5, none⟩ (.int .i64 t)).setCell ⟨j, 6, none⟩ (.int .i64 v)) j d pre D { M with now := t, vote := v } F ∧ Same F w1 ((w1.setCell ⟨j, 5, none⟩ (.int .i64 t)).setCell ⟨j, 6, none⟩ (.int .i64 v)) := by
  obtain ⟨own, gv, dv, ev, vs, hJ, hS, hn, hl⟩ := h
  refine JouF.turned (M' := { M with now := t, vote := v }) hS hn hl (hJ.set ?_ (fun k hk => (set_other _ hk).trans (set_other _ hk)) (by simp [World.setCell]) rfl rfl rfl ⟨hJ.ok.last, hJ.ok.term, hJ.ok.group, ht, hv, hJ.ok.data, hJ.ok.ents⟩) (((Chg.setCell w1 ⟨j, 5, none⟩ _).trans (Chg.setCell _ ⟨j, 6, none⟩ _) fun _ _ e => e).mono fun k _ e => by rw [e]; exact hJ.ol) fun _ h => .inl h
  have h1 := set_block hJ.cells 5 (.int .i64 t)
  have h2 := set_block h1 6 (.int .i64 v)
  simpa using h2

theorem mayVote_facts {t v : Int} (h : M.mayVote t v = true) : M.now ≤ t ∧ t ≤ 1099511627776 ∧ -1 ≤ v ∧ v < 7 := by
  unfold JouM.mayVote at h
  simp only [Bool.and_eq_true, decide_eq_true_eq] at h
  exact h.1

set_option maxRecDepth 100000 in
set_option maxHeartbeats 4000000 in
theorem jsetTerm_calls (h : JouF w w1 j d pre D M F) (t v : Int) (ht : -9223372036854775808 ≤ t ∧ t ≤ 9223372036854775807) (hv : -9223372036854775808 ≤ v ∧ v ≤ 9223372036854775807) :
    Calls Tryz.prog 27 #[.pointer (some ⟨j, 0, none⟩), .int .i64 t, .int .i64 v] w1 (JouTold w w1 j d pre F (jouTerm (nm pre) D M t v)) := by
  have Hmay := Lib.hid (jmay_calls h)
  have Hid := Lib.hid (fun k (hr : jouTerm (nm pre) D M t v = ⟨D, M, k⟩) => jouTold_id h (Below.refl _ _) hr)
  have HR := Lib.hid (show jouTerm (nm pre) D M t v = if M.dead then ⟨D, M, 9⟩ else if M.mayVote t v = false then ⟨D, M, 1⟩ else if t = M.now ∧ v = M.vote then ⟨D, M, 0⟩ else laysJ (nm pre) D M [trmB t v] { M with now := t, vote := v } from rfl)
  cases hd : M.dead with
  | true =>
    rw [hd] at Hmay
    have HE := Lib.hid (Hid.out 9 (by rw [HR.out, hd]; rfl))
    clear h
    go_enter Tryz.func27, Tryz.ntmps27
    go_wp2_with fail
    refine Hmay.out.mono ?_
    rintro e w2 ⟨rfl, rfl⟩
    go_wp2_with fail
    go_ret
    exact HE.out
  | false =>
    rw [hd] at Hmay
    have Hmv := Lib.hid (jmv_calls h t v)
    cases hmv : M.mayVote t v with
    | false =>
      rw [hmv] at Hmv
      have HE := Lib.hid (Hid.out 1 (by rw [HR.out, hd, hmv]; rfl))
      clear h
      go_enter Tryz.func27, Tryz.ntmps27
      go_wp2_with fail
      refine Hmay.out.mono ?_
      rintro e w2 ⟨rfl, rfl⟩
      go_wp2_with fail
      refine Hmv.out.mono ?_
      rintro e w2 ⟨rfl, rfl⟩
      go_wp2_with fail
      go_ret
      exact HE.out
    | true =>
      rw [hmv] at Hmv
      have hfc := mayVote_facts hmv
      have hnow := isTm_iff.1 h.okM.now
      have htm : isTm t = true := isTm_iff.2 (by omega)
      have hvr : -1 ≤ v ∧ v < 7 := ⟨hfc.2.2.1, hfc.2.2.2⟩
      obtain ⟨own, gv, dv, ev, vs, hJ, hS, hn, hl⟩ := id h
      have c5 := hJ.c 5 rfl
      have c6 := hJ.c 6 rfl
      clear hJ hS hn hl
      by_cases hsame : t = M.now ∧ v = M.vote
      · have HE := Lib.hid (Hid.out 0 (by rw [HR.out, hd, hmv]; simp [hsame]))
        have e1 : (t == M.now) = true := by simpa using hsame.1
        have e2 : (v == M.vote) = true := by simpa using hsame.2
        clear h hsame
        go_enter Tryz.func27, Tryz.ntmps27
        go_wp2_with fail
        refine Hmay.out.mono ?_
        rintro e w2 ⟨rfl, rfl⟩
        go_wp2_with fail
        refine Hmv.out.mono ?_
        rintro e w2 ⟨rfl, rfl⟩
        go_wp2_with fail
        go_ret
        exact HE.out
      · have HR2 := Lib.hid (show jouTerm (nm pre) D M t v = laysJ (nm pre) D M [trmB t v] { M with now := t, vote := v } from by rw [HR.out, hd, hmv]; simp [hsame])
        have Htr := Lib.hid (termRec_calls w1 t v ht (by omega))
        have Hla := Lib.hid (fun W (hb : Below w1.heap.size w1 W) (x : Value) pv m cv (_ : x = .slice pv m cv) (hx : OwnB W 5 x (trmB t v)) => jlays_calls ((h.next hb).next (below_one W (.cells #[x] 22))) (rows_one (OwnB.has hx) 22 (0, 0) W.heap.size 1 rfl (Nat.le_refl _)) (by decide) (by simpa using Nat.le_trans (trmB_len t v) (by decide)) (by rw [recs_one_len]; have := trmB_len t v; omega))
        cases hly : layOn D (logN (nm pre)) (recsB [trmB t v]) with
        | mk D1 e1 =>
          rw [hly] at Hla
          have HS := Lib.hid (fun W (hb : Below w1.heap.size w1 W) (o : Obj) => (h.same (hb.trans ((below_one W o).mono hb.size))))
          by_cases he1 : e1 = 0
          · subst he1
            have HZ := Lib.hid (HR2.out.trans (laysJ_ok hly))
            rw [deadIf_zero] at Hla
            have Htv := Lib.hid (And.intro htm hvr)
            clear h hly hfc hnow htm hvr
            have hor : (t == M.now) = false ∨ (t == M.now) = true ∧ (v == M.vote) = false := by
              by_cases h1 : t = M.now
              · exact .inr ⟨by simpa using h1, by simpa using fun h2 => hsame ⟨h1, h2⟩⟩
              · exact .inl (by simpa using h1)
            clear hsame
            rcases hor with e1 | ⟨e1, e2⟩
            all_goals
              go_enter Tryz.func27, Tryz.ntmps27
              go_wp2_with fail
              refine Hmay.out.mono ?_
              rintro e w2 ⟨rfl, rfl⟩
              go_wp2_with fail
              refine Hmv.out.mono ?_
              rintro e w2 ⟨rfl, rfl⟩
              go_wp2_with fail
              refine Htr.out.mono ?_
              rintro e w3 ⟨x, rfl, hx, -, hb3⟩
              obtain ⟨pv, cv, hxs, -⟩ := own_cap0 hx
              have Hl2 := Lib.hid (Hla.out w3 hb3 x pv _ cv hxs hx)
              have HS2 := Lib.hid (HS.out w3 hb3 (.cells #[x] 22))
              subst hxs
              clear hx hb3
              go_wp2_with fail
              refine Hl2.out.mono ?_
              rintro e w4 ⟨rfl, hj4, hs4⟩
              have HF := Lib.hid (jou_set56 hj4 t v Htv.out.1 Htv.out.2)
              obtain ⟨own, gv, dv, ev, vs, hJ4, -⟩ := id hj4
              have d5 := hJ4.c 5 rfl
              have d6 := hJ4.c 6 rfl
              have f5 := hJ4.fr 5
              have f6 := hJ4.fr 6
              have HS4 := Lib.hid (HS2.out.trans hs4)
              clear hj4 hs4 hJ4 Hl2
              go_wp2_with fail
              go_ret
              rw [HZ.out]
              exact ⟨rfl, HF.out.1, HS4.out.trans HF.out.2⟩
          · have HZ := Lib.hid (HR2.out.trans (laysJ_err hly he1))
            rw [deadIf_ne M he1] at Hla
            have hne : ((e1 : Int) != 0) = true := by simp; omega
            clear h hly hfc hnow htm hvr he1
            have hor : (t == M.now) = false ∨ (t == M.now) = true ∧ (v == M.vote) = false := by
              by_cases h1 : t = M.now
              · exact .inr ⟨by simpa using h1, by simpa using fun h2 => hsame ⟨h1, h2⟩⟩
              · exact .inl (by simpa using h1)
            clear hsame
            rcases hor with e3 | ⟨e3, e4⟩
            all_goals
              go_enter Tryz.func27, Tryz.ntmps27
              go_wp2_with fail
              refine Hmay.out.mono ?_
              rintro e w2 ⟨rfl, rfl⟩
              go_wp2_with fail
              refine Hmv.out.mono ?_
              rintro e w2 ⟨rfl, rfl⟩
              go_wp2_with fail
              refine Htr.out.mono ?_
              rintro e w3 ⟨x, rfl, hx, -, hb3⟩
              obtain ⟨pv, cv, hxs, -⟩ := own_cap0 hx
              have Hl2 := Lib.hid (Hla.out w3 hb3 x pv _ cv hxs hx)
              have HS2 := Lib.hid (HS.out w3 hb3 (.cells #[x] 22))
              subst hxs
              clear hx hb3
              go_wp2_with fail
              refine Hl2.out.mono ?_
              rintro e w4 ⟨rfl, hj4, hs4⟩
              have HF := Lib.hid (And.intro hj4 (HS2.out.trans hs4))
              clear hj4 hs4 Hl2
              go_wp2_with fail
              go_ret
              rw [HZ.out]
              exact ⟨rfl, HF.out.1, HF.out.2⟩
end
end Go.Proofs.YtapfnehdgailmaaGreat

namespace Go.Proofs.YtapfnehdgailmaaGreat
open Go.RowKit Go.Sat Go.Maps

theorem ownR_cut {w : World} {e : TypeId} {s n y c' : Nat} {p : Option Addr} {c : Nat} {xs : List Value} (h : OwnR w e s (.slice p n c) n xs) (hy : y ≤ n) (hc : c' = y ∨ c' = c) : OwnR w e s (.slice p y c') y (xs.take (y * s)) := by
  have hm : y * s ≤ n * s := Nat.mul_le_mul_right _ hy
  refine ⟨by rw [List.length_take, h.1]; omega, ?_⟩
  rcases h.2 with ⟨e1, hn⟩ | ⟨g, cap, cur, e1, hg, hnc, hcm, hcs, ht⟩
  · cases e1
    have hy0 : y = 0 := by omega
    subst hy0
    have hc0 : c' = 0 := by omega
    subst hc0
    exact .inl ⟨rfl, rfl⟩
  · cases e1
    refine .inr ⟨g, c', cur, rfl, hg, by omega, by omega, ?_, ?_⟩
    · have : c' * s ≤ c * s := Nat.mul_le_mul_right _ (by omega)
      omega
    · rw [← ht, List.take_take, Nat.min_eq_left hm]

section
variable {w w1 : World} {j d : Nat} {pre : ByteArray} {D : DiskM} {M : JouM} {F : Nat → Prop}

theorem jouIn_cut {own : Nat → Prop} {gv dv : Value} {p : Option Addr} {n c c' k : Nat} {vs : List EV} (hJ : JouIn w1 j d pre own M gv dv (.slice p n c) vs) (hn : M.entries.length = n) (hk : k ≤ n) (hc : c' = k ∨ c' = c) :
    JouIn (w1.setCell ⟨j, 8, none⟩ (.slice p k c')) j d pre own { M with entries := M.entries.take k } gv dv (.slice p k c') (vs.take k) := by
  have hs : ∀ x, x ≠ j → (w1.setCell ⟨j, 8, none⟩ (.slice p k c')).heap[x]? = w1.heap[x]? := fun x hx => set_other _ hx
  have hb : (Value.slice p k c').ownBlock = (Value.slice p n c).ownBlock := ownBlock_slice _ _ _ _ _
  have hlen : (M.entries.take k).length = k := by rw [List.length_take]; omega
  refine ⟨?_, OwnR.keep hJ.group fun x hx => hs x (hJ.og x hx).2.1, OwnR.keep hJ.data fun x hx => hs x (hJ.od x hx).2.1, ?_, ⟨by rw [List.length_take, hJ.rows.1, hlen]; omega, fun i e v he hv => ?_⟩, hJ.ol, fun x hx => by rw [hb]; exact hJ.og x hx, fun x hx => by rw [hb]; exact hJ.od x hx, fun x hx => hJ.oe x (by rw [← hb]; exact hx), fun u hu x hx => by rw [hb]; exact hJ.ov u (List.mem_of_mem_take hu) x hx, fun x hx => by have := hJ.olt x hx; simpa [World.setCell] using this, hJ.psz, ⟨?_, hJ.ok.term, hJ.ok.group, hJ.ok.now, hJ.ok.vote, hJ.ok.data, fun e he => hJ.ok.ents e (List.mem_of_mem_take he)⟩⟩
  · have := set_block hJ.cells 8 (.slice p k c')
    simpa using this
  · show OwnR _ _ 4 _ (M.entries.take k).length (entsC (M.entries.take k) (vs.take k))
    rw [hlen, entsC_take k _ _ hJ.rows.1]
    have h0 := hJ.row
    rw [hn] at h0
    refine (ownR_cut h0 hk hc).keep fun x hx => hs x (hJ.oe x (by rw [← hb]; exact hx)).2
  · have h1 : M.entries[i]? = some e := by
      have he : (M.entries.take k)[i]? = some e := he
      rw [List.getElem?_take] at he
      split at he
      · exact he
      · cases he
    have h2 : vs[i]? = some v := by
      rw [List.getElem?_take] at hv
      split at hv
      · exact hv
      · cases hv
    exact (hJ.rows.2 i e v h1 h2).keep fun x hx => hs x (hJ.ov v (List.mem_of_getElem? h2) x hx).2.1
  · have h0 := hJ.ok.last
    unfold JouM.last at h0 ⊢
    show M.number + (M.entries.take k).length ≤ _
    rw [hlen]
    omega

theorem cutB_len (n : Nat) (h : n ≤ 4611686018427387904) : (cutB n).length ≤ 10 := by
  unfold cutB
  have := numB_nine h
  rw [List.length_cons]
  omega

set_option maxRecDepth 100000 in
set_option maxHeartbeats 8000000 in
theorem jcut_calls (h : JouF w w1 j d pre D M F) (i : Int) (hi : -9223372036854775808 ≤ i ∧ i ≤ 9223372036854775807) :
    Calls Tryz.prog 23 #[.pointer (some ⟨j, 0, none⟩), .int .i64 i] w1 (JouTold w w1 j d pre F (jouCut (nm pre) D M i)) := by
  obtain ⟨i0, hii, -, -, -⟩ := info_parts (show (Tryz.prog.info? 50).map (fun i => (i.zero, i.size, i.bytes)) = some (some (.agg #[.int .i64 0, .int .i64 0, .slice none 0 0, .slice none 0 0]), 4, 64) by kernel_rfl)
  have Hmay := Lib.hid (jmay_calls h)
  have Hid := Lib.hid (fun k w2 (hb : Below w1.heap.size w1 w2) (hr : jouCut (nm pre) D M i = ⟨D, M, k⟩) => jouTold_id h hb hr)
  have HR := Lib.hid (show jouCut (nm pre) D M i = if M.dead then ⟨D, M, 9⟩ else if i ≤ (M.number : Int) then ⟨D, M, 1⟩ else if (M.last : Int) < i then ⟨D, M, 0⟩ else laysJ (nm pre) D M [cutB i.toNat] { M with entries := M.entries.take (i.toNat - M.number - 1) } from rfl)
  obtain ⟨own, gv, dv, ev, vs, hJ, hS, hn, hl⟩ := id h
  have c0 := hJ.c 0 rfl
  have hlast := hJ.ok.last
  clear hJ hS hn hl
  cases hd : M.dead with
  | true =>
    rw [hd] at Hmay
    have HE := Lib.hid (Hid.out 9 w1 (Below.refl _ _) (by rw [HR.out, hd]; rfl))
    clear h
    go_enter Tryz.func23, Tryz.ntmps23
    go_wp2_with fail
    refine Hmay.out.mono ?_
    rintro e w2 ⟨rfl, rfl⟩
    go_wp2_with fail
    go_ret
    exact HE.out
  | false =>
    rw [hd] at Hmay
    by_cases h1 : i ≤ (M.number : Int)
    · have HE := Lib.hid (Hid.out 1 w1 (Below.refl _ _) (by rw [HR.out, hd, if_neg (by simp), if_pos h1]))
      clear h
      go_enter Tryz.func23, Tryz.ntmps23
      go_wp2_with fail
      refine Hmay.out.mono ?_
      rintro e w2 ⟨rfl, rfl⟩
      go_wp2_with fail
      go_ret
      exact HE.out
    · have d1 : decide (i ≤ (M.number : Int)) = false := by simpa using h1
      have Hha := Lib.hid (jhas_calls h i hi)
      by_cases h2 : (M.last : Int) < i
      · rw [decide_eq_false (show ¬ ((M.number : Int) < i ∧ i ≤ (M.last : Int)) by omega)] at Hha
        have HE := Lib.hid (fun q => Hid.out 0 (w1.drewN q) ⟨rfl, rfl, rfl, Nat.le_refl _, fun _ _ => rfl⟩ (by rw [HR.out, hd, if_neg (by simp), if_neg h1, if_pos h2]))
        clear h h2
        go_enter Tryz.func23, Tryz.ntmps23
        go_wp2_with fail
        refine Hmay.out.mono ?_
        rintro e w2 ⟨rfl, rfl⟩
        go_wp2_with fail
        refine Hha.out.mono ?_
        rintro e w2 ⟨rfl, q, rfl⟩
        go_wp2_with fail
        go_ret
        exact HE.out q
      · rw [decide_eq_true (show (M.number : Int) < i ∧ i ≤ (M.last : Int) by omega)] at Hha
        have HR2 := Lib.hid (show jouCut (nm pre) D M i = laysJ (nm pre) D M [cutB i.toNat] { M with entries := M.entries.take (i.toNat - M.number - 1) } from by rw [HR.out, hd, if_neg (by simp), if_neg h1, if_neg h2])
        have hlm : (M.last : Int) = (M.number : Int) + (M.entries.length : Int) := by unfold JouM.last; omega
        have Hla := Lib.hid (fun W (hb : Below w1.heap.size w1 W) (x : Value) (hx : OwnB W 5 x (cutB i.toNat)) => jlays_calls ((h.next hb).next (below_one W (.cells #[x] 22))) (rows_one (OwnB.has hx) 22 (0, 0) W.heap.size 1 rfl (Nat.le_refl _)) (by decide) (by simpa using Nat.le_trans (cutB_len i.toNat (by omega)) (by decide)) (by rw [recs_one_len]; have := cutB_len i.toNat (by omega); omega))
        have HSm := Lib.hid (fun W (hb : Below w1.heap.size w1 W) (o : Obj) => (h.same (hb.trans ((below_one W o).mono hb.size))))
        have HB0 := Lib.hid (fun q => (show Below w1.heap.size w1 (w1.drewN q) from ⟨rfl, rfl, rfl, Nat.le_refl _, fun _ _ => rfl⟩))
        generalize hk : i.toNat - M.number - 1 = k at *
        generalize hm : i.toNat = m at *
        have hmi : i = (m : Int) := by omega
        subst hmi
        have Hkn := Lib.hid (show k ≤ M.entries.length from by omega)
        have hwa : IntKind.i64.wrap ((m : Int) - (M.number : Int)) = (k : Int) + 1 := by rw [IntWalk.i64_in _ (by omega)]; omega
        have hwb : IntKind.i64.wrap (k : Int) = (k : Int) := IntWalk.i64_in _ (by omega)
        cases hly : layOn D (logN (nm pre)) (recsB [cutB m]) with
        | mk D1 e1 =>
          rw [hly] at Hla
          have HHead := Lib.hid (show ∀ q, WrB (w1.drewN q).heap.size ((w1.drewN q).alloc (.cells #[.slice none 0 0] 163)) (w1.drewN q).heap.size [] from fun q => wrB_new _)
          have hm40 : m ≤ 4611686018427387904 := by omega
          have d1n : decide (m ≤ M.number) = false := by simp; omega
          clear h hm hk hd h1 h2 hlm hlast hi
          go_enter Tryz.func23, Tryz.ntmps23
          go_wp2_with fail
          refine Hmay.out.mono ?_
          rintro e w2 ⟨rfl, rfl⟩
          go_wp2_with fail
          refine Hha.out.mono ?_
          rintro e w2 ⟨rfl, q, rfl⟩
          have HB1 := Lib.hid (HB0.out q)
          have HH := Lib.hid (HHead.out q)
          generalize hW : w2.drewN q = W0 at *
          clear hW
          go_wp2_with fail
          have HB2 := Lib.hid (HB1.out.trans ((below_one W0 (.cells #[.slice none 0 0] 163)).mono HB1.out.size))
          refine (wrB_raw HH.out [4] #[.int .u8 4] rfl (by decide) (W0.heap.size + 1) 1 1 (by simp) rfl (0, 0)).mono ?_
          rintro e w3 ⟨rfl, hw3, hb3⟩
          have HB3 := Lib.hid (HB2.out.trans (hb3.mono HB1.out.size))
          have H3 := Lib.hid (wrB_nums hw3 [(m : Int)] #[.int .i64 (m : Int)] rfl (by simp; omega) (by simp) w3.heap.size 1 1 rfl rfl (0, 0))
          clear hw3 hb3
          go_wp2_with fail
          refine H3.out.mono ?_
          rintro e w4 ⟨rfl, hw4, hb4⟩
          have HB4 := Lib.hid (HB3.out.trans (hb4.mono HB1.out.size))
          have H4 := Lib.hid (wrB_out hw4 (by have := numsI_len [(m : Int)]; simp at this ⊢; omega))
          clear hw4 hb4 H3
          go_wp2_with fail
          refine H4.out.mono ?_
          rintro e w5 ⟨x, rfl, hx, -, hb5⟩
          have hb15 := HB4.out.trans (hb5.mono HB1.out.size)
          have hx' : OwnB w5 5 x (cutB m) := by
            have : [] ++ [4] ++ numsI [(m : Int)] = cutB m := by simp [cutB, numsI, numI_nat (show m ≤ 4611686018427387904 by omega)]
            rw [← this]
            exact hx
          have Hl5 := Lib.hid (Hla.out w5 hb15 x hx')
          have HS5 := Lib.hid (HSm.out w5 hb15 (.cells #[x] 22))
          obtain ⟨pv, cv, rfl, -⟩ := own_cap0 hx
          clear hx hx' hb5 hb15 H4
          go_wp2_with fail
          refine Hl5.out.mono ?_
          rintro e w6 ⟨rfl, hj6, hs6⟩
          have HS6 := Lib.hid (HS5.out.trans hs6)
          by_cases he1 : e1 = 0
          · subst he1
            have HZ := Lib.hid (HR2.out.trans (laysJ_ok hly))
            rw [deadIf_zero] at hj6
            obtain ⟨own, gv, dv, ev, vs, hJ, hS, hn, hl⟩ := hj6
            obtain ⟨pe, ce, rfl⟩ := hJ.row.shape
            have hkl := Hkn.out
            have hce : M.entries.length ≤ ce := by
              rcases hJ.row.2 with ⟨e1, e2⟩ | ⟨g, cap, cur, e1, -, e3, -⟩
              · rw [e2]; exact Nat.zero_le _
              · simp only [Value.slice.injEq] at e1; omega
            have HJ := Lib.hid (JouF.turned (D := D1) (F := F) hS hn hl (jouIn_cut hJ rfl hkl (.inl rfl)) ((Chg.setCell w6 ⟨j, 8, none⟩ _).mono fun x _ e => by rw [e]; exact hJ.ol) fun _ h => .inl h)
            have d0 := hJ.c 0 rfl
            have d8 := hJ.c 8 rfl
            have f8 := hJ.fr 8
            have hsl : ∀ W, (Instr.slice 78 (.slice pe M.entries.length ce) none (some (.int .i64 (k : Int))) (some (.int .i64 (k : Int)))).run Tryz.prog W = .ok (.slice pe k k) W := fun W => run_cut W Tryz.underlying78 hii pe _ ce k (by omega)
            clear hJ hS hn hl hs6 Hl5 hly c0 Hha hce
            generalize M.entries.length = n at *
            generalize M.number = b at *
            go_wp2_with fail
            refine g_start [24] (fun w' : World => w'.cell? ⟨j, 8, none⟩ = some (.slice pe n ce) ∧ w'.cell? ⟨j, 0, none⟩ = some (.int .i64 (b : Int))) (n := 25) (by kernel_rfl) rfl (⟨d8, d0⟩) (fun hHeld => ?_)
            refine g_pure0 0 (v := ?v14x0) rfl (by kernel_rfl) (by kernel_rfl) (by kernel_rfl) (by kernel_rfl) (fun _ _ _ h => h) (by rfl) (by assumption) ?y14x0 ?_
            case y14x0 => (intro w; go_simp; try with_reducible rfl)
            simp only [Act.put, List.setIfInBounds_toArray, List.set_cons_zero, List.set_cons_succ]
            refine g_pure0 1 (v := ?v14x1) rfl (by kernel_rfl) (by kernel_rfl) (by kernel_rfl) (by kernel_rfl) (fun _ _ _ h => h) (by rfl) (by assumption) ?y14x1 ?_
            case y14x1 => (intro w; go_simp; try with_reducible rfl)
            simp only [Act.put, List.setIfInBounds_toArray, List.set_cons_zero, List.set_cons_succ]
            refine g_pure0 2 (v := ?v14x2) rfl (by kernel_rfl) (by kernel_rfl) (by kernel_rfl) (by kernel_rfl) (fun _ _ _ h => h) (by rfl) (by assumption) ?y14x2 ?_
            case y14x2 => (intro w; go_simp; try with_reducible rfl)
            simp only [Act.put, List.setIfInBounds_toArray, List.set_cons_zero, List.set_cons_succ]
            refine g_pure0 3 (v := ?v14x3) rfl (by kernel_rfl) (by kernel_rfl) (by kernel_rfl) (by kernel_rfl) (fun _ _ _ h => h) (by rfl) (by assumption) ?y14x3 ?_
            case y14x3 => (intro w; go_simp; try with_reducible rfl)
            simp only [Act.put, List.setIfInBounds_toArray, List.set_cons_zero, List.set_cons_succ]
            refine g_take 4 (v := ?v14x4) rfl (by kernel_rfl) (by kernel_rfl) (by kernel_rfl) (by kernel_rfl) (fun _ _ _ h => h) (by rfl) (by assumption) ?y14x4 ?_
            case y14x4 => (intro w hSw; (try dsimp only at hSw); go_simp; try with_reducible rfl)
            simp only [Act.put, List.setIfInBounds_toArray, List.set_cons_zero, List.set_cons_succ]
            refine g_pure0 5 (v := ?v14x5) rfl (by kernel_rfl) (by kernel_rfl) (by kernel_rfl) (by kernel_rfl) (fun _ _ _ h => h) (by rfl) (by assumption) ?y14x5 ?_
            case y14x5 => (intro w; go_simp; try with_reducible rfl)
            simp only [Act.put, List.setIfInBounds_toArray, List.set_cons_zero, List.set_cons_succ]
            refine g_pure0 6 (v := ?v14x6) rfl (by kernel_rfl) (by kernel_rfl) (by kernel_rfl) (by kernel_rfl) (fun _ _ _ h => h) (by rfl) (by assumption) ?y14x6 ?_
            case y14x6 => (intro w; go_simp; try with_reducible rfl)
            simp only [Act.put, List.setIfInBounds_toArray, List.set_cons_zero, List.set_cons_succ]
            refine g_pure0 7 (v := ?v14x7) rfl (by kernel_rfl) (by kernel_rfl) (by kernel_rfl) (by kernel_rfl) (fun _ _ _ h => h) (by rfl) (by assumption) ?y14x7 ?_
            case y14x7 => (intro w; go_simp; try with_reducible rfl)
            simp only [Act.put, List.setIfInBounds_toArray, List.set_cons_zero, List.set_cons_succ]
            refine g_pure0 8 (v := ?v14x8) rfl (by kernel_rfl) (by kernel_rfl) (by kernel_rfl) (by kernel_rfl) (fun _ _ _ h => h) (by rfl) (by assumption) ?y14x8 ?_
            case y14x8 => (intro w; go_simp; try with_reducible rfl)
            simp only [Act.put, List.setIfInBounds_toArray, List.set_cons_zero, List.set_cons_succ]
            refine g_pure0 9 (v := ?v14x9) rfl (by kernel_rfl) (by kernel_rfl) (by kernel_rfl) (by kernel_rfl) (fun _ _ _ h => h) (by rfl) (by assumption) ?y14x9 ?_
            case y14x9 => (intro w; go_simp; try with_reducible rfl)
            simp only [Act.put, List.setIfInBounds_toArray, List.set_cons_zero, List.set_cons_succ]
            refine g_take 10 (v := ?v14x10) rfl (by kernel_rfl) (by kernel_rfl) (by kernel_rfl) (by kernel_rfl) (fun _ _ _ h => h) (by rfl) (by assumption) ?y14x10 ?_
            case y14x10 => (intro w hSw; (try dsimp only at hSw); go_simp; try with_reducible rfl)
            simp only [Act.put, List.setIfInBounds_toArray, List.set_cons_zero, List.set_cons_succ]
            refine g_pure0 11 (v := ?v14x11) rfl (by kernel_rfl) (by kernel_rfl) (by kernel_rfl) (by kernel_rfl) (fun _ _ _ h => h) (by rfl) (by assumption) ?y14x11 ?_
            case y14x11 => (intro w; go_simp; try with_reducible rfl)
            simp only [Act.put, List.setIfInBounds_toArray, List.set_cons_zero, List.set_cons_succ]
            refine g_pure0 12 (v := ?v14x12) rfl (by kernel_rfl) (by kernel_rfl) (by kernel_rfl) (by kernel_rfl) (fun _ _ _ h => h) (by rfl) (by assumption) ?y14x12 ?_
            case y14x12 => (intro w; go_simp; try with_reducible rfl)
            simp only [Act.put, List.setIfInBounds_toArray, List.set_cons_zero, List.set_cons_succ]
            refine g_pure0 13 (v := ?v14x13) rfl (by kernel_rfl) (by kernel_rfl) (by kernel_rfl) (by kernel_rfl) (fun _ _ _ h => h) (by rfl) (by assumption) ?y14x13 ?_
            case y14x13 => (intro w; go_simp; try with_reducible rfl)
            simp only [Act.put, List.setIfInBounds_toArray, List.set_cons_zero, List.set_cons_succ]
            refine g_pure0 14 (v := ?v14x14) rfl (by kernel_rfl) (by kernel_rfl) (by kernel_rfl) (by kernel_rfl) (fun _ _ _ h => h) (by rfl) (by assumption) ?y14x14 ?_
            case y14x14 => (intro w; go_simp; try with_reducible rfl)
            simp only [Act.put, List.setIfInBounds_toArray, List.set_cons_zero, List.set_cons_succ]
            refine g_pure0 15 (v := ?v14x15) rfl (by kernel_rfl) (by kernel_rfl) (by kernel_rfl) (by kernel_rfl) (fun _ _ _ h => h) (by rfl) (by assumption) ?y14x15 ?_
            case y14x15 => (intro w; go_simp; try with_reducible rfl)
            simp only [Act.put, List.setIfInBounds_toArray, List.set_cons_zero, List.set_cons_succ]
            refine g_pure0 16 (v := ?v14x16) rfl (by kernel_rfl) (by kernel_rfl) (by kernel_rfl) (by kernel_rfl) (fun _ _ _ h => h) (by rfl) (by assumption) ?y14x16 ?_
            case y14x16 => (intro w; go_simp; try with_reducible rfl)
            simp only [Act.put, List.setIfInBounds_toArray, List.set_cons_zero, List.set_cons_succ]
            refine g_pure0 17 (v := ?v14x17) rfl (by kernel_rfl) (by kernel_rfl) (by kernel_rfl) (by kernel_rfl) (fun _ _ _ h => h) (by rfl) (by assumption) ?y14x17 ?_
            case y14x17 => (intro w; go_simp; try with_reducible rfl)
            simp only [Act.put, List.setIfInBounds_toArray, List.set_cons_zero, List.set_cons_succ]
            refine g_take 18 (v := ?v14x18) rfl (by kernel_rfl) (by kernel_rfl) (by kernel_rfl) (by kernel_rfl) (fun _ _ _ h => h) (by rfl) (by assumption) ?y14x18 ?_
            case y14x18 => (intro w hSw; (try dsimp only at hSw); go_simp; try with_reducible rfl)
            simp only [Act.put, List.setIfInBounds_toArray, List.set_cons_zero, List.set_cons_succ]
            refine g_pure0 19 (v := ?v14x19) rfl (by kernel_rfl) (by kernel_rfl) (by kernel_rfl) (by kernel_rfl) (fun _ _ _ h => h) (by rfl) (by assumption) ?y14x19 ?_
            case y14x19 => (intro w; go_simp; try with_reducible rfl)
            simp only [Act.put, List.setIfInBounds_toArray, List.set_cons_zero, List.set_cons_succ]
            refine g_pure0 20 (v := ?v14x20) rfl (by kernel_rfl) (by kernel_rfl) (by kernel_rfl) (by kernel_rfl) (fun _ _ _ h => h) (by rfl) (by assumption) ?y14x20 ?_
            case y14x20 => (intro w; go_simp; try with_reducible rfl)
            simp only [Act.put, List.setIfInBounds_toArray, List.set_cons_zero, List.set_cons_succ]
            refine g_pure0 21 (v := ?v14x21) rfl (by kernel_rfl) (by kernel_rfl) (by kernel_rfl) (by kernel_rfl) (fun _ _ _ h => h) (by rfl) (by assumption) ?y14x21 ?_
            case y14x21 => (intro w; go_simp; try with_reducible rfl)
            simp only [Act.put, List.setIfInBounds_toArray, List.set_cons_zero, List.set_cons_succ]
            refine g_pure0 22 (v := ?v14x22) rfl (by kernel_rfl) (by kernel_rfl) (by kernel_rfl) (by kernel_rfl) (fun _ _ _ h => h) (by rfl) (by assumption) ?y14x22 ?_
            case y14x22 => (intro w; go_simp; try with_reducible rfl)
            simp only [Act.put, List.setIfInBounds_toArray, List.set_cons_zero, List.set_cons_succ]
            refine g_pure0 23 (v := ?v14x23) rfl (by kernel_rfl) (by kernel_rfl) (by kernel_rfl) (by kernel_rfl) (fun _ _ _ h => h) (by rfl) (by assumption) ?y14x23 ?_
            case y14x23 => (intro w; go_simp; try with_reducible rfl)
            simp only [Act.put, List.setIfInBounds_toArray, List.set_cons_zero, List.set_cons_succ]
            refine g_end 24 rfl (by kernel_rfl) (by rfl) (by kernel_rfl) (fun K hK => ?_)
            have f8d : w6.drew.frozen? ⟨j, 8, none⟩ = false := f8
            have d8d : w6.drew.cell? ⟨j, 8, none⟩ = some (.slice pe n ce) := d8
            go_wp2_with fail
            refine hK.out _ _ ?_
            clear hK
            try simp only [Act.put, List.setIfInBounds_toArray, List.set_cons_zero, List.set_cons_succ]
            refine g_done (by kernel_rfl) ?_ _
            go_wp2_with fail
            go_ret
            rw [HZ.out]
            exact ⟨rfl, HJ.out.1.drewN 1, HS6.out.trans HJ.out.2⟩
          · have HZ := Lib.hid (HR2.out.trans (laysJ_err hly he1))
            rw [deadIf_ne M he1] at hj6
            have hne : ((e1 : Int) != 0) = true := by simp; omega
            have HF := Lib.hid hj6
            clear he1 hj6 hs6 Hl5
            go_wp2_with fail
            go_ret
            rw [HZ.out]
            exact ⟨rfl, HF.out, HS6.out⟩
end
end Go.Proofs.YtapfnehdgailmaaGreat

namespace Go.Proofs.YtapfnehdgailmaaGreat
open Go.RowKit Go.Sat Go.Maps

/-- Rows that are gathered since w. -/
structure RowsN (w W : World) (v : Value) (vs : List Value) (ls : List Bs) : Prop where
  rows : RowsIn W v vs ls
  new : NewRows w.heap.size v vs
  bel : Below w.heap.size w W

theorem RowsN.nil (w : World) : RowsN w w (.slice none 0 0) [] [] := ⟨RowsIn.nil _, ⟨fun k hk => (by cases hk), fun u hu => (by simp at hu)⟩, Below.refl _ _⟩
theorem RowsN.next {w W W2 : World} {v : Value} {vs : List Value} {ls : List Bs} (h : RowsN w W v vs ls) (hb : Below W.heap.size W W2) : RowsN w W2 v vs ls := ⟨h.rows.below hb, h.new, h.bel.trans (hb.mono h.bel.size)⟩

theorem RowsN.push {w W W2 w3 : World} {v v3 u : Value} {vs : List Value} {ls : List Bs} {x : Bs} {o : Obj} (h : RowsN w W v vs ls) (hb : Below W.heap.size W W2) (hu : OwnB W2 5 u x) (hun : ∀ k, u.ownBlock = some k → W.heap.size ≤ k)
    (hown : OwnR w3 22 1 v3 (ls.length + 1) (vs ++ [u])) (hg : (W2.alloc o).grownBy w3 v.ownBlock) (hloc : v3.ownBlock = v.ownBlock ∨ ∃ g, v3.ownBlock = some g ∧ (W2.alloc o).heap.size ≤ g) : RowsN w w3 v3 (vs ++ [u]) (ls ++ [x]) := by
  have h1 := h.next hb
  have h2 := below_one0 W2 o
  have hs := hb.size
  have hs2 := h2.size
  have hs3 := h.bel.size
  refine ⟨RowsIn.push (h1.rows.below h2) (ownB_far hu h2) (fun k hk e => by have a := hun k hk; have b := OwnR.lt h.rows.row e; omega) hown hg hloc, NewRows.push h.new (fun k hk => Nat.le_trans hs3 (hun k hk)) hloc (by omega), ?_⟩
  exact ((Chg.of_below (h1.bel.trans (h2.mono h1.bel.size))).trans (Chg.of_grown hg) fun k hk e => by have := h.new.1 k e.symm; omega : Chg (fun _ => False) w w3).below (Nat.le_refl _) fun _ _ => id

theorem RowsIn.at {w : World} {p : Option Addr} {n c : Nat} {vs : List Value} {ls : List Bs} (h : RowsIn w (.slice p n c) vs ls) : RowsAt w (.slice p n c) ls := by
  have hlen := h.len
  rcases h.row.2 with ⟨e, h0⟩ | ⟨g, cap, cur, e, hg, hnc, -⟩
  · simp only [Value.slice.injEq] at e
    obtain ⟨rfl, rfl, rfl⟩ := e
    have hl : ls = [] := List.eq_nil_of_length_eq_zero h0
    subst hl
    exact ⟨none, 0, rfl, Nat.le_refl _, fun h => absurd rfl h⟩
  · simp only [Value.slice.injEq] at e
    obtain ⟨rfl, rfl, rfl⟩ := e
    refine ⟨_, c, rfl, hnc, fun _ => ⟨g, 0, vs, rfl, hlen, fun i u hu => ?_, fun i u m hu hm => (h.has i u m hu hm).has.kit⟩⟩
    exact h.row.cells (g := g) rfl i u hu

theorem holds_at4 {w : World} {p : Option Addr} {n c s : Nat} {xs : List Value} (h : Holds w s (.slice p n c) n xs) (hne : xs ≠ []) : ∃ b o, p = some ⟨b, o, none⟩ ∧ ∀ i u, xs[i]? = some u → w.cell? ⟨b, o + i, none⟩ = some u := by
  obtain ⟨hlen, p', c', e, h0, hc⟩ := h
  simp only [Value.slice.injEq] at e
  obtain ⟨rfl, -, rfl⟩ := e
  cases p with
  | none =>
    have := h0 rfl
    subst this
    exact absurd (List.eq_nil_of_length_eq_zero (by simpa using hlen)) hne
  | some a =>
    obtain ⟨b, o, sp⟩ := a
    cases xs with
    | nil => exact absurd rfl hne
    | cons x r =>
      have h1 := hc _ rfl 0 x rfl
      have hsp : sp = none := by
        have := World.cell?_spot h1
        simpa [Addr.add] using this
      subst hsp
      refine ⟨b, o, rfl, fun i u hu => ?_⟩
      have h2 := hc _ rfl i u hu
      have e : (⟨b, o, none⟩ : Addr).add i = ⟨b, o + i, none⟩ := by unfold Addr.add; split <;> simp_all
      rw [← e]
      exact h2

/-- Entries that were handed in. -/
def EntsHas (w : World) (x : Value) (es : List Ent) (vs : List EV) : Prop := vs.length = es.length ∧ Holds w 4 x es.length (entsC es vs) ∧ ∀ (i : Nat) e v, es[i]? = some e → vs[i]? = some v → EntHas w e v

theorem EntsHas.len {w : World} {p : Option Addr} {n c : Nat} {es : List Ent} {vs : List EV} (h : EntsHas w (.slice p n c) es vs) : es.length = n := by
  obtain ⟨-, ⟨-, _, _, e, -⟩, -⟩ := h
  simp only [Value.slice.injEq] at e
  exact e.2.1.symm

theorem EntsHas.ent {w : World} {p : Option Addr} {n c : Nat} {es : List Ent} {vs : List EV} (h : EntsHas w (.slice p n c) es vs) {i : Nat} (hi : i < es.length) : ∃ b o v, p = some ⟨b, o, none⟩ ∧ EntHas w es[i] v ∧
    w.cell? ⟨b, o + i * 4, none⟩ = some (.int .i64 es[i].term) ∧ w.cell? ⟨b, o + i * 4 + 1, none⟩ = some (.int .i64 es[i].kind) ∧ w.cell? ⟨b, o + i * 4 + 2, none⟩ = some v.1 ∧ w.cell? ⟨b, o + i * 4 + 3, none⟩ = some v.2 := by
  have hn := h.len
  obtain ⟨hlen, hh, hE⟩ := h
  rw [hn] at hh
  have hv : vs[i]? = some (vs[i]'(by omega)) := List.getElem?_eq_getElem _
  generalize vs[i]'(by omega) = v at hv
  have he := List.getElem?_eq_getElem hi
  have hne : entsC es vs ≠ [] := fun e => by
    have := entsC_len es vs hlen
    rw [e] at this
    simp at this
    omega
  obtain ⟨b, o, rfl, hc⟩ := holds_at4 hh hne
  have hc' : ∀ (k : Nat) u, (entC es[i] v)[k]? = some u → w.cell? ⟨b, o + (i * 4 + k), none⟩ = some u := fun k u hu => hc _ _ (entsC_at _ _ i _ v he hv k u hu)
  exact ⟨b, o, v, rfl, hE i _ v he hv, hc' 0 _ rfl, hc' 1 _ rfl, hc' 2 _ rfl, hc' 3 _ rfl⟩

theorem entB_len {n : Nat} {e : Ent} (hn : n ≤ 4611686018427387904) (h : isEnt e = true) : (entB n e).length ≤ 65800 := by
  have hf := ent_bound h
  unfold entB rowB
  simp only [List.length_cons, List.length_append]
  have h1 := numB_nine hn
  have h2 := numI_len e.term
  have h3 := numI_len e.kind
  have h4 := numB_nine (n := e.data.length) (by omega)
  have h5 := grpB_len e.nodes (by omega)
  omega

theorem entsB_len : ∀ (n : Nat) (es : List Ent), (entsB n es).length = es.length
  | _, [] => rfl
  | n, e :: r => by
    show (entsB (n + 1) r).length + 1 = _
    rw [entsB_len (n + 1) r]
    rfl
theorem entsB_app : ∀ (n : Nat) (es fs : List Ent), entsB n (es ++ fs) = entsB n es ++ entsB (n + es.length) fs
  | _, [], _ => rfl
  | n, e :: r, fs => by
    show entB (n + 1) e :: entsB (n + 1) (r ++ fs) = _
    rw [entsB_app (n + 1) r fs]
    show _ = entB (n + 1) e :: (entsB (n + 1) r ++ entsB (n + (r.length + 1)) fs)
    rw [show n + 1 + r.length = n + (r.length + 1) by omega]
theorem entsB_take {n k : Nat} {es : List Ent} (hk : k < es.length) : entsB n (es.take (k + 1)) = entsB n (es.take k) ++ [entB (n + k + 1) es[k]] := by
  rw [List.take_succ_eq_append_getElem hk, entsB_app, List.length_take, Nat.min_eq_left (by omega)]
  rfl
theorem entsB_rows : ∀ (n : Nat) (es : List Ent), (∀ e ∈ es, isEnt e = true) → n + es.length ≤ 4611686018427387904 → ∀ l ∈ entsB n es, l.length ≤ 65800
  | _, [], _, _, l, hl => by cases hl
  | n, e :: r, h, hn, l, hl => by
    simp only [List.length_cons] at hn
    cases hl with
    | head => exact entB_len (by omega) (h e (by simp))
    | tail _ hl => exact entsB_rows (n + 1) r (fun x hx => h x (by simp [hx])) (by omega) l hl
theorem recsB_le {c : Nat} : ∀ (ls : List Bs), (∀ l ∈ ls, l.length ≤ c) → (recsB ls).length ≤ (c + 12) * ls.length
  | [], _ => by simp [recsB]
  | l :: ls, h => by
    have h1 := recsB_le ls fun x hx => h x (by simp [hx])
    have h2 := h l (by simp)
    rw [recsB_cons, List.length_append, frame_len, List.length_cons, Nat.mul_add]
    omega

/-- An entry is laid behind the journal's. -/
theorem jouIn_push {w1 w0 w2 : World} {j d : Nat} {pre : ByteArray} {M : JouM} {own : Nat → Prop} {gv dv ev v' : Value} {vs : List EV} {u : EV} {e : Ent} (hJ : JouIn w1 j d pre own M gv dv ev vs) (hu : EntAt w1 e u) (hun : ∀ k, (u.1.ownBlock = some k ∨ u.2.ownBlock = some k) → ¬ own k) (he : isEnt e = true) (hla : M.last + 1 ≤ 1099511627776)
    (hb0 : Below w1.heap.size w1 w0) (hown : OwnR w2 50 4 v' (M.entries.length + 1) (entsC M.entries vs ++ entC e u)) (hg : w0.grownBy w2 ev.ownBlock) (hloc : v'.ownBlock = ev.ownBlock ∨ ∃ g, v'.ownBlock = some g ∧ w0.heap.size ≤ g) :
    JouIn (w2.setCell ⟨j, 8, none⟩ v') j d pre (fun k => own k ∨ (u.1.ownBlock = some k ∨ u.2.ownBlock = some k) ∨ v'.ownBlock = some k) { M with entries := M.entries ++ [e] } gv dv v' (vs ++ [u]) ∧ Chg own w1 (w2.setCell ⟨j, 8, none⟩ v') ∧ (∀ k, v'.ownBlock = some k → own k ∨ w1.heap.size ≤ k) ∧
    w2.heap[j]? = w1.heap[j]? := by
  have hs := hb0.size
  have hg2 := hg.size
  have hjj : w2.heap[j]? = w1.heap[j]? := (hg.block j (by have := hJ.olt j hJ.ol; omega) fun e => (hJ.oe j e.symm).2 rfl).trans (hb0.block j (hJ.olt j hJ.ol))
  have hnew : ∀ k, v'.ownBlock = some k → ev.ownBlock = some k ∨ w1.heap.size ≤ k := fun k hk => by
    rcases hloc with e | ⟨g, e, hge⟩
    · exact .inl (e ▸ hk)
    · rw [hk] at e
      cases e
      exact .inr (by omega)
  have hv'j : ∀ k, v'.ownBlock = some k → k ≠ j := fun k hk e => by
    rcases hnew k hk with h | h
    · exact (hJ.oe k h).2 e
    · have := hJ.olt j hJ.ol
      omega
  have huj : ∀ k, (u.1.ownBlock = some k ∨ u.2.ownBlock = some k) → k ≠ j := fun k hk e => hun k hk (e ▸ hJ.ol)
  have hkeep : ∀ k, k < w1.heap.size → ev.ownBlock ≠ some k → k ≠ j → (w2.setCell ⟨j, 8, none⟩ v').heap[k]? = w1.heap[k]? := fun k hk he hkl =>
    (set_other v' hkl).trans ((hg.block k (by omega) fun e => he e.symm).trans (hb0.block k hk))
  have hv'n : ∀ k, k < w1.heap.size → ev.ownBlock ≠ some k → v'.ownBlock ≠ some k := fun k hk he e => by
    rcases hnew k e with h | h
    · exact he h
    · omega
  have hune : ∀ k, (u.1.ownBlock = some k ∨ u.2.ownBlock = some k) → ev.ownBlock ≠ some k := fun k hk e => hun k hk (hJ.oe k e).1
  have hvl := hJ.rows.1
  have hlen : (M.entries ++ [e]).length = M.entries.length + 1 := by simp
  refine ⟨⟨?_, ?_, ?_, ?_, ⟨by simp [hvl], ?_⟩, .inl hJ.ol, ?_, ?_, fun k hk => ⟨.inr (.inr hk), hv'j k hk⟩, ?_, ?_, hJ.psz, ⟨?_, hJ.ok.term, hJ.ok.group, hJ.ok.now, hJ.ok.vote, hJ.ok.data, ?_⟩⟩, ?_, fun k hk => (hnew k hk).imp (fun h => (hJ.oe k h).1) id, hjj⟩
  · have h1 := set_block (hjj.trans hJ.cells) 8 v'
    simpa using h1
  · exact OwnR.keep hJ.group fun k hk => hkeep k (OwnR.lt hJ.group hk) (hJ.og k hk).2.2 (hJ.og k hk).2.1
  · exact OwnR.keep hJ.data fun k hk => hkeep k (OwnR.lt hJ.data hk) (hJ.od k hk).2.2 (hJ.od k hk).2.1
  · show OwnR _ _ _ _ (M.entries ++ [e]).length (entsC (M.entries ++ [e]) (vs ++ [u]))
    rw [hlen, entsC_app _ _ _ _ hvl]
    exact hown.keep fun k hk => set_other v' (hv'j k hk)
  · intro i x c hx hc
    have hx' : (M.entries ++ [e])[i]? = some x := hx
    by_cases hi : i < vs.length
    · rw [List.getElem?_append_left hi] at hc
      rw [List.getElem?_append_left (by omega)] at hx'
      have hcm := List.mem_of_getElem? hc
      exact (hJ.rows.2 i x c hx' hc).keep fun k hk => hkeep k (hJ.olt k (hJ.ov c hcm k hk).1) (hJ.ov c hcm k hk).2.2 (hJ.ov c hcm k hk).2.1
    · rw [List.getElem?_append_right (by omega)] at hc
      rw [List.getElem?_append_right (by omega)] at hx'
      have hi0 : i - vs.length = 0 := by
        have := (List.getElem?_eq_some_iff.1 hc).1
        simp at this
        omega
      rw [hi0] at hc
      rw [← hvl, hi0] at hx'
      simp only [List.getElem?_cons_zero, Option.some.injEq] at hc hx'
      subst hc
      subst hx'
      exact hu.keep fun k hk => hkeep k (hu.lt hk) (hune k hk) (huj k hk)
  · exact fun k hk => ⟨.inl (hJ.og k hk).1, (hJ.og k hk).2.1, hv'n k (OwnR.lt hJ.group hk) (hJ.og k hk).2.2⟩
  · exact fun k hk => ⟨.inl (hJ.od k hk).1, (hJ.od k hk).2.1, hv'n k (OwnR.lt hJ.data hk) (hJ.od k hk).2.2⟩
  · intro x hx k hk
    rcases List.mem_append.1 hx with hx | hx
    · exact ⟨.inl (hJ.ov x hx k hk).1, (hJ.ov x hx k hk).2.1, hv'n k (hJ.olt k (hJ.ov x hx k hk).1) (hJ.ov x hx k hk).2.2⟩
    · obtain rfl : x = u := by simpa using hx
      exact ⟨.inr (.inl hk), huj k hk, hv'n k (hu.lt hk) (hune k hk)⟩
  · intro k hk
    have hz : (w2.setCell ⟨j, 8, none⟩ v').heap.size = w2.heap.size := by simp [World.setCell]
    rw [hz]
    rcases hk with hk | hk | hk
    · have := hJ.olt k hk
      omega
    · have := hu.lt hk
      omega
    · exact hown.lt hk
  · show M.number + (M.entries ++ [e]).length ≤ _
    rw [hlen]
    unfold JouM.last at hla
    omega
  · intro x hx
    rcases List.mem_append.1 hx with hx | hx
    · exact hJ.ok.ents x hx
    · obtain rfl : x = e := by simpa using hx
      exact he
  · exact ((((Chg.of_below hb0).mono fun _ _ h => h.elim).trans (Chg.of_grown hg) fun k _ e => (hJ.oe k e.symm).1).trans (Chg.setCell w2 ⟨j, 8, none⟩ v') fun k _ e => e ▸ hJ.ol : Chg own w1 _)
end Go.Proofs.YtapfnehdgailmaaGreat
