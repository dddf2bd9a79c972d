/- The document's disk: Truncate. (Its walk is printed by mkr.py.) The document's journal: List, first. (Printed by mkrj3.py.) The document's order of a record's checks comes to the same (plain laws). The document's Decode (satrapyref2): the walk. The document's One (satrapyref2). The document's disk: its list of files is laid anew; parts of a list. The document's disk: Append. (Its walk is printed by mkr2.py.) The document's disk: Append onto a file that is not there. (Its walk is printed by mkr2.py.) The document's disk: Append, whole. -/
import Derived.Test.YtapfnehdgailmaaGreatQB
import Derived.Test.YtapfnehdgailmaaGreatQJ
namespace Go.Sat
open Go Go.RowKit
/-- Two may come up. -/
theorem ord_two {P : Program} {l : List Oper} {Q : Exit → Act → World → Prop} {md : Region.Mode} {S : World → Prop} {fuel : Nat} {listed : Array Bool} {a : Act} {w : World} (i j : Nat) {oi oj : Oper} {ri rj : List Oper} (hdi : l.drop i = oi :: ri) (hdj : l.drop j = oj :: rj) (hr : Region.ready md l.toArray listed = [i, j])
    (hwi : Region.wanted oi (yielded l.toArray a.tmps) = true) (hwj : Region.wanted oj (yielded l.toArray a.tmps) = true)
    (hi : ∀ K : Act → World → Prop, Shut (∀ a w, S w → (S w → wpAnyH P md l.toArray Q S fuel (listed.setIfInBounds i true) a w) → K a w) → Oper.wp P oi a w K Q)
    (hj : ∀ K : Act → World → Prop, Shut (∀ a w, S w → (S w → wpAnyH P md l.toArray Q S fuel (listed.setIfInBounds j true) a w) → K a w) → Oper.wp P oj a w K Q) : wpAnyH P md l.toArray Q S (fuel + 1) listed a w :=
  wpAnyH_ready hr (by simp) (AllReadyH.cons (ord_get hdi) (fun K hK => by rw [if_pos hwi]; exact hi K hK) (AllReadyH.cons (ord_get hdj) (fun K hK => by rw [if_pos hwj]; exact hj K hK) AllReadyH.nil))
end Go.Sat

namespace Go.Proofs.YtapfnehdgailmaaGreat
open Go.RowKit Go.Sat Go.Maps

section
variable {w : World} {r : Nat} {v : Value} {L : List RFile} {own : Nat → Prop} {D : DiskM} {room : Nat} {fuse : Option Nat}

theorem RefCore.keep {w' : World} (h : RefCore w r v L own room fuse) (hs : w.heap.size ≤ w'.heap.size) (hb : ∀ k, own k → w'.heap[k]? = w.heap[k]?) : RefCore w' r v L own room fuse where
  cells := (hb r h.or).trans h.cells
  row := h.row.keep fun k hk => hb k (h.ov k hk).1
  data := fun x hx => OwnR.keep (h.data x hx) fun k hk => hb k (h.ob x hx k hk).1
  or := h.or
  ov := h.ov
  ob := h.ob
  olt := fun k hk => Nat.lt_of_lt_of_le (h.olt k hk) hs

theorem RefCore.c1 (h : RefCore w r v L own room fuse) : w.cell? ⟨r, 1, none⟩ = some v := cell_of h.cells rfl

end
end Go.Proofs.YtapfnehdgailmaaGreat

namespace Go.Proofs.YtapfnehdgailmaaGreat
open Go.RowKit Go.Sat Go.Maps

set_option maxRecDepth 100000 in
set_option maxHeartbeats 4000000 in
theorem rglist_calls {w : World} {p : Option Addr} {n c : Nat} {l : List Int} (hx : HasI w (.slice p n c) l) (hz : ∀ z ∈ l, -9223372036854775808 ≤ z ∧ z ≤ 9223372036854775807) (hl : l.length ≤ 1073741824) :
    Calls Tryz.prog 173 #[.slice p n c] w (RowNew w (grpB l)) := by
  obtain ⟨i0, hi, hz0, hz1, hz2⟩ := info_parts (show (Tryz.prog.info? 3).map (fun i => (i.zero, i.size, i.bytes)) = some (some (.int .i64 0), 1, 8) by kernel_rfl)
  have hn : l.length = n := by obtain ⟨_, _, e⟩ := hx.slice; simp only [Value.slice.injEq] at e; exact e.2.1.symm
  have Hrow := Lib.hid (show OwnR (w.alloc (.cells #[.int .i64 (n : Int)] 3)) 3 1 (.slice (some ⟨w.heap.size, 0, none⟩) 1 1) 1 [.int .i64 (n : Int)] from ⟨rfl, .inr ⟨w.heap.size, 1, #[.int .i64 (n : Int)], rfl, new_block w _, Nat.le_refl _, by decide, Nat.le_refl _, rfl⟩⟩)
  have Hxx := Lib.hid (show Holds (w.alloc (.cells #[.int .i64 (n : Int)] 3)) 1 (.slice p n c) n (l.map (Value.int .i64)) from by
    have := Holds.chg hx (Chg.of_below (below_one w (.cells #[.int .i64 (n : Int)] 3))) fun _ _ => id
    rwa [hn] at this)
  have Hn := Lib.hid hn
  have Hz := Lib.hid hz
  have hn30 : n ≤ 1073741824 := by omega
  clear hx hn hz hl
  go_enter Tryz.func173, Tryz.ntmps173
  go_wp2_with (at_builtin; refine wpList_app _ rfl (.tmp 5) (.tmp 6) 38 rfl 3 i0 (.int .i64 0) 1 8 Tryz.underlying38 hi hz0 hz1 hz2 rfl (by decide) (.slice (some ⟨w.heap.size, 0, none⟩) 1 1) 1 _ rfl Hrow.out (.slice p n c) n _ rfl Hxx.out (fun u hu => by obtain ⟨z, -, rfl⟩ := List.mem_map.1 hu; rfl) (by unfold maxLen; omega) (by omega) ?_; intro v3 w3 hown3 hgrow3 hloc3; go_loud (have HB := Lib.hid (show Below w.heap.size w w3 from (below_one w (.cells #[.int .i64 (n : Int)] 3)).grown hgrow3 (below_one w (.cells #[.int .i64 (n : Int)] 3)).size fun j e => by cases e; exact Nat.le_refl _); clear hgrow3 hloc3; obtain ⟨p3, q3, rfl⟩ := OwnR.shape hown3; have HO := Lib.hid hown3; clear hown3))
  have Hnum := Lib.hid (rnums1_calls (w := w3) (p := p3) (n := 1 + n) (c := q3) (zs := (n : Int) :: l) (by
    have := OwnR.holds HO.out
    unfold HasI
    rw [List.length_cons, Hn.out, Nat.add_comm n 1]
    exact this) (fun z hzm => by
      rcases List.mem_cons.1 hzm with rfl | h
      · omega
      · exact Hz.out z h) (by rw [List.length_cons, Hn.out]; omega))
  have HT := Lib.hid (show numsI ((n : Int) :: l) = grpB l from by
    rw [show numsI ((n : Int) :: l) = numI (n : Int) ++ numsI l from rfl, numI_nat (show n ≤ 4611686018427387904 by omega), ← Hn.out]
    rfl)
  rw [HT.out] at Hnum
  refine Hnum.out.mono ?_
  rintro e w4 ⟨y, rfl, hy, hyn, hb4⟩
  have HF := Lib.hid (show RowNew w (grpB l) (.returned y) w4 from ⟨y, rfl, hy, fun k hk => Nat.le_trans HB.out.size (hyn k hk), HB.out.trans (hb4.mono HB.out.size)⟩)
  clear hy hyn hb4 Hnum
  go_wp2_with fail
  go_ret
  exact HF.out

def fstB0 (n t : Int) (g : List Int) : Bs := 1 :: (numI n ++ numI t ++ grpB g)
theorem fstB0_nat {n : Nat} (h : n ≤ 4611686018427387904) (t : Int) (g : List Int) : fstB0 (n : Int) t g = fstB n t g := by
  unfold fstB0 fstB
  rw [numI_nat h]

/-- The row of the document's journal. -/
abbrev RJC (r : Nat) (n t : Int) (gv : Value) (pre : ByteArray) (now vote : Int) (dv ev : Value) (dead : Bool) : Obj := .cells #[.int .i64 n, .int .i64 t, gv, .pointer (some ⟨r, 0, none⟩), .string pre, .int .i64 now, .int .i64 vote, dv, ev, .bool dead] 84 (0, 0)

theorem rowB_lit2 {w W : World} (hb : Below w.heap.size w W) (x : UInt8) (g : Nat) (hg : g = W.heap.size) : RowB w (W.alloc (.cells #[.int .u8 (x.toNat : Int)] 5)) (.slice (some ⟨g, 0, none⟩) 1 1) [x] := by
  subst hg
  exact ⟨own_lit #[.int .u8 (x.toNat : Int)] [x] 5 rfl 1 rfl (by decide), fun k hk => by cases hk; exact hb.size, hb.trans ((below_one W _).mono hb.size)⟩
theorem hasI_two (W : World) (n t : Int) (g : Nat) (hg : g = W.heap.size) : HasI (W.alloc (.cells #[.int .i64 n, .int .i64 t] 3)) (.slice (some ⟨g, 0, none⟩) 2 2) [n, t] := by
  subst hg
  exact ⟨by simp, some ⟨W.heap.size, 0, none⟩, 2, rfl, fun e => (by cases e), fun a ha i u hu => by
    cases ha
    rw [add_zero]
    refine cell_of (new_block W _) ?_
    simpa using hu⟩
theorem grpB_len0 (g : List Int) (h : g.length ≤ 1000) : (grpB g).length ≤ 9009 := by
  unfold grpB
  have h1 := numB_nine (n := g.length) (by omega)
  have h2 := numsI_len g
  rw [List.length_append]
  omega

set_option maxRecDepth 100000 in
set_option maxHeartbeats 8000000 in
theorem rfirst_calls {w : World} {j r : Nat} {n t : Int} {pre : ByteArray} {now vote : Int} {dv ev : Value} {dead : Bool} {p : Option Addr} {m c : Nat} {g : List Int} (hc : w.heap[j]? = some (RJC r n t (.slice p m c) pre now vote dv ev dead)) (hg : HasI w (.slice p m c) g) (hz : ∀ z ∈ g, -9223372036854775808 ≤ z ∧ z ≤ 9223372036854775807) (hl : g.length ≤ 1000) (hn : -9223372036854775808 ≤ n ∧ n ≤ 9223372036854775807) (ht : -9223372036854775808 ≤ t ∧ t ≤ 9223372036854775807) :
    Calls Tryz.prog 167 #[.pointer (some ⟨j, 0, none⟩)] w (RowNew w (frameN (fstB0 n t g))) := by
  obtain ⟨i0, hi, hz0, hz1, hz2⟩ := info_parts (show (Tryz.prog.info? 5).map (fun i => (i.zero, i.size, i.bytes)) = some (some (.int .u8 0), 1, 1) by kernel_rfl)
  have c0 := cell_of hc (i := 0) rfl
  have c1 := cell_of hc (i := 1) rfl
  have c2 := cell_of hc (i := 2) rfl
  have Hg := Lib.hid hg
  have Hz := Lib.hid hz
  have Hl := Lib.hid hl
  clear hg hz c0 c1 c2
  have HT := Lib.hid (show [1] ++ numsI [n, t] ++ grpB g = fstB0 n t g from by simp [numsI, fstB0])
  have hnl := numsI_len [n, t]
  have hn2 : (numsI [n, t]).length ≤ 18 := by simpa using hnl
  have Hgl := Lib.hid (grpB_len0 g hl)
  clear hnl
  go_enter Tryz.func167, Tryz.ntmps167
  go_wp2_with fail
  refine ord_start (fun w' : World => w'.heap[j]? = some (RJC r n t (.slice p m c) pre now vote dv ev dead)) (n := 15) (by kernel_rfl) rfl (hc) (fun hHeld => ?_)
  have HB1 := Lib.hid (below_drew w)
  have Hj0 := Lib.hid hc
  have Hjl := Lib.hid (lt_of_block hc)
  clear hc
  generalize w.drew = W1 at *
  refine ord_take 1 (v := ?v30x1) rfl (by kernel_rfl) (by kernel_rfl) (by kernel_rfl) (fun _ _ _ h => h) (by rfl) (by assumption) ?y30x1 ?_
  case y30x1 => (intro w hSw; have q0 := cell_of hSw (i := 0) rfl; have q1 := cell_of hSw (i := 1) rfl; go_simp; try with_reducible rfl)
  simp only [Act.put, List.setIfInBounds_toArray, List.set_cons_zero, List.set_cons_succ]
  refine ord_take 2 (v := ?v30x2) rfl (by kernel_rfl) (by kernel_rfl) (by kernel_rfl) (fun _ _ _ h => h) (by rfl) (by assumption) ?y30x2 ?_
  case y30x2 => (intro w hSw; have q0 := cell_of hSw (i := 0) rfl; have q1 := cell_of hSw (i := 1) rfl; go_simp; try with_reducible rfl)
  simp only [Act.put, List.setIfInBounds_toArray, List.set_cons_zero, List.set_cons_succ]
  refine ord_take 3 (v := ?v30x3) rfl (by kernel_rfl) (by kernel_rfl) (by kernel_rfl) (fun _ _ _ h => h) (by rfl) (by assumption) ?y30x3 ?_
  case y30x3 => (intro w hSw; have q0 := cell_of hSw (i := 0) rfl; have q1 := cell_of hSw (i := 1) rfl; go_simp; try with_reducible rfl)
  simp only [Act.put, List.setIfInBounds_toArray, List.set_cons_zero, List.set_cons_succ]
  refine ord_take 4 (v := ?v30x4) rfl (by kernel_rfl) (by kernel_rfl) (by kernel_rfl) (fun _ _ _ h => h) (by rfl) (by assumption) ?y30x4 ?_
  case y30x4 => (intro w hSw; have q0 := cell_of hSw (i := 0) rfl; have q1 := cell_of hSw (i := 1) rfl; go_simp; try with_reducible rfl)
  simp only [Act.put, List.setIfInBounds_toArray, List.set_cons_zero, List.set_cons_succ]
  refine ord_take 5 (v := ?v30x5) rfl (by kernel_rfl) (by kernel_rfl) (by kernel_rfl) (fun _ _ _ h => h) (by rfl) (by assumption) ?y30x5 ?_
  case y30x5 => (intro w hSw; have q0 := cell_of hSw (i := 0) rfl; have q1 := cell_of hSw (i := 1) rfl; go_simp; try with_reducible rfl)
  simp only [Act.put, List.setIfInBounds_toArray, List.set_cons_zero, List.set_cons_succ]
  refine ord_take 6 (v := ?v30x6) rfl (by kernel_rfl) (by kernel_rfl) (by kernel_rfl) (fun _ _ _ h => h) (by rfl) (by assumption) ?y30x6 ?_
  case y30x6 => (intro w hSw; have q0 := cell_of hSw (i := 0) rfl; have q1 := cell_of hSw (i := 1) rfl; go_simp; try with_reducible rfl)
  simp only [Act.put, List.setIfInBounds_toArray, List.set_cons_zero, List.set_cons_succ]
  refine ord_take 7 (v := ?v30x7) rfl (by kernel_rfl) (by kernel_rfl) (by kernel_rfl) (fun _ _ _ h => h) (by rfl) (by assumption) ?y30x7 ?_
  case y30x7 => (intro w hSw; have q0 := cell_of hSw (i := 0) rfl; have q1 := cell_of hSw (i := 1) rfl; go_simp; try with_reducible rfl)
  simp only [Act.put, List.setIfInBounds_toArray, List.set_cons_zero, List.set_cons_succ]
  refine ord_take 8 (v := ?v30x8) rfl (by kernel_rfl) (by kernel_rfl) (by kernel_rfl) (fun _ _ _ h => h) (by rfl) (by assumption) ?y30x8 ?_
  case y30x8 => (intro w hSw; have q0 := cell_of hSw (i := 0) rfl; have q1 := cell_of hSw (i := 1) rfl; go_simp; try with_reducible rfl)
  simp only [Act.put, List.setIfInBounds_toArray, List.set_cons_zero, List.set_cons_succ]
  refine ord_take 9 (v := ?v30x9) rfl (by kernel_rfl) (by kernel_rfl) (by kernel_rfl) (fun _ _ _ h => h) (by rfl) (by assumption) ?y30x9 ?_
  case y30x9 => (intro w hSw; have q0 := cell_of hSw (i := 0) rfl; have q1 := cell_of hSw (i := 1) rfl; go_simp; try with_reducible rfl)
  simp only [Act.put, List.setIfInBounds_toArray, List.set_cons_zero, List.set_cons_succ]
  refine ord_take 10 (v := ?v30x10) rfl (by kernel_rfl) (by kernel_rfl) (by kernel_rfl) (fun _ _ _ h => h) (by rfl) (by assumption) ?y30x10 ?_
  case y30x10 => (intro w hSw; have q0 := cell_of hSw (i := 0) rfl; have q1 := cell_of hSw (i := 1) rfl; go_simp; try with_reducible rfl)
  simp only [Act.put, List.setIfInBounds_toArray, List.set_cons_zero, List.set_cons_succ]
  refine ord_two 0 11 rfl rfl (by kernel_rfl) (by rfl) (by rfl) (fun K hK => ?_) (fun K hK => ?_)
  · have Hj2 := Lib.hid ((al_old W1 (.cells #[.int .u8 1] 5) (lt_of_block hHeld)).trans hHeld)
    have HR2 := Lib.hid (rowB_lit2 HB1.out 1 (W1.heap.size) (by simp))
    have HB2 := Lib.hid (HR2.out.bel)
    go_wp2_with fail
    refine hK.out _ _ (Hj2.out) (fun hHeld => ?_)
    clear hK
    try simp only [Act.put, List.setIfInBounds_toArray, List.set_cons_zero, List.set_cons_succ]
    refine ord_one 11 rfl (by kernel_rfl) (by rfl) (fun K hK => ?_)
    have Hj3 := Lib.hid ((al_old (W1.alloc (.cells #[.int .u8 1] 5)) (.cells #[.int .i64 n, .int .i64 t] 3) (lt_of_block hHeld)).trans hHeld)
    have HI3 := Lib.hid (hasI_two (W1.alloc (.cells #[.int .u8 1] 5)) n t (W1.heap.size + 1) (by simp))
    have HB3 := Lib.hid (HB2.out.trans ((below_one (W1.alloc (.cells #[.int .u8 1] 5)) (.cells #[.int .i64 n, .int .i64 t] 3)).mono HB2.out.size))
    go_wp2_with fail
    refine hK.out _ _ (Hj3.out) (fun hHeld => ?_)
    clear hK
    try simp only [Act.put, List.setIfInBounds_toArray, List.set_cons_zero, List.set_cons_succ]
    refine ord_one 12 rfl (by kernel_rfl) (by rfl) (fun K hK => ?_)
    have Hnum := Lib.hid (rnums1_calls HI3.out (by simp; omega) (by simp))
    go_wp2_with fail
    refine Hnum.out.mono ?_
    rintro e w2 ⟨x, rfl, hx2, hxn, hb2⟩
    have Hj4 := Lib.hid ((hb2.block _ (lt_of_block hHeld)).trans hHeld)
    have HB4 := Lib.hid (HB3.out.trans (hb2.mono HB3.out.size))
    have HX4 := Lib.hid hx2
    have Hb4 := Lib.hid hb2
    obtain ⟨px, cx, rfl, -⟩ := own_cap0 hx2
    clear hx2 hxn hb2 Hnum
    generalize hL2 : (numsI [n, t]).length = m2 at *
    have HL := Lib.hid hL2
    clear hL2
    go_wp2_with fail
    refine hK.out _ _ (Hj4.out) (fun hHeld => ?_)
    clear hK
    try simp only [Act.put, List.setIfInBounds_toArray, List.set_cons_zero, List.set_cons_succ]
    have HR9 := Lib.hid ((HR2.out.next (below_one _ (.cells #[.int .i64 n, .int .i64 t] 3))).next Hb4.out)
    have HX9 := Lib.hid (OwnB.has HX4.out)
    have Hrow := Lib.hid (show OwnR w2 5 1 (.slice (some ⟨W1.heap.size, 0, none⟩) 1 1) 1 (bytesV [1]) from HR9.out.own)
    have Hxx := Lib.hid (show Holds w2 1 (.slice px m2 cx) m2 (bytesV (numsI [n, t])) by have := HX9.out; unfold HasB at this; rwa [HL.out] at this)
    refine ord_one 13 rfl (by kernel_rfl) (by rfl) (fun K hK => ?_)
    refine wp_app (.tmp 4) (.tmp 16) 22 rfl 5 i0 (.int .u8 0) 1 1 Tryz.underlying22 hi hz0 hz1 hz2 rfl (by decide) (.slice (some ⟨W1.heap.size, 0, none⟩) 1 1) 1 _ rfl Hrow.out (.slice px m2 cx) m2 _ rfl Hxx.out (bytesV_one _) (by unfold maxLen; omega) (by omega) ?_
    intro v3 w3 hown3 hgrow3 hloc3
    have HE := Lib.hid (RowB.grown (x := numsI [n, t]) HR9.out (by rw [HL.out]; exact hown3) hgrow3 hloc3)
    have Hj3 := Lib.hid ((HE.out.bel.block j Hjl.out).trans Hj0.out)
    obtain ⟨p3, q3, rfl⟩ := OwnR.shape hown3
    have Hrow3 := Lib.hid hown3
    clear hown3 hgrow3 hloc3
    refine hK.out _ _ (Hj3.out) (fun hHeld => ?_)
    clear hK
    try simp only [Act.put, List.setIfInBounds_toArray, List.set_cons_zero, List.set_cons_succ]
    refine ord_take 14 (v := ?v31x14) rfl (by kernel_rfl) (by kernel_rfl) (by kernel_rfl) (fun _ _ _ h => h) (by rfl) (by assumption) ?y31x14 ?_
    case y31x14 => (intro w hSw; (try dsimp only at hSw); go_simp; try with_reducible rfl)
    simp only [Act.put, List.setIfInBounds_toArray, List.set_cons_zero, List.set_cons_succ]
    refine wpAnyH_done (by kernel_rfl) ?_ _
    have d2 := cell_of Hj3.out (i := 2) rfl
    have Hls := Lib.hid (rglist_calls (w := w3) (p := p) (n := m) (c := c) (l := g) (Holds.chg Hg.out (Chg.of_below HE.out.bel) fun _ _ => id) Hz.out (Nat.le_trans Hl.out (by decide)))
    go_wp2_with fail
    refine Hls.out.mono ?_
    rintro e w4 ⟨y, rfl, hy, hyn, hb4⟩
    have HE4 := Lib.hid (HE.out.next hb4)
    have HY4 := Lib.hid (OwnB.has hy)
    obtain ⟨py, cy, rfl, -⟩ := own_cap0 hy
    clear hy hyn hb4 Hls d2
    generalize hL3 : (grpB g).length = m3 at *
    have HL3 := Lib.hid hL3
    have hm3 : m3 ≤ 10000 := by
      have h1 := Hgl.out
      omega
    have HLen := Lib.hid (show (([1] : Bs) ++ numsI [n, t]).length = 1 + m2 from by rw [List.length_append, HL.out]; rfl)
    have Hrow4 := Lib.hid (show OwnR w4 5 1 (.slice p3 (1 + m2) q3) (1 + m2) (bytesV ([1] ++ numsI [n, t])) by have := HE4.out.own; unfold OwnB at this; rwa [HLen.out] at this)
    have Hyy := Lib.hid (show Holds w4 1 (.slice py m3 cy) m3 (bytesV (grpB g)) by have := HY4.out; unfold HasB at this; rwa [HL3.out] at this)
    clear hL3
    go_wp2_with (at_builtin; refine wpList_app _ rfl (.tmp 18) (.tmp 24) 22 rfl 5 i0 (.int .u8 0) 1 1 Tryz.underlying22 hi hz0 hz1 hz2 rfl (by decide) (.slice p3 (1 + m2) q3) (1 + m2) _ rfl Hrow4.out (.slice py m3 cy) m3 _ rfl Hyy.out (bytesV_one _) (by unfold maxLen; omega) (by omega) ?_; intro v5 w5 hown5 hgrow5 hloc5; go_loud (have hE := RowB.grown (x := grpB g) HE4.out (by rw [HLen.out, HL3.out]; exact hown5) hgrow5 hloc5; rw [HT.out] at hE; have HE5 := Lib.hid hE; clear hgrow5 hloc5 hE; obtain ⟨p5, q5, rfl⟩ := OwnR.shape hown5; clear hown5))
    have Hrec := Lib.hid (rrecord_calls (p := p5) (m := 1 + m2 + m3) (c := q5) (l := fstB0 n t g) (w := w5) HE5.out.own.has (by rw [← HT.out, List.length_append, List.length_append, HL.out, HL3.out]; simp; omega))
    refine Hrec.out.mono ?_
    rintro e w6 ⟨z, rfl, hz6, hzn, hb6⟩
    have HF := Lib.hid (show RowNew w (frameN (fstB0 n t g)) (.returned z) w6 from ⟨z, rfl, hz6, fun k hk => Nat.le_trans HE5.out.bel.size (hzn k hk), HE5.out.bel.trans (hb6.mono HE5.out.bel.size)⟩)
    clear hz6 hzn hb6 Hrec
    go_wp2_with fail
    go_ret
    exact HF.out
  · have Hj2 := Lib.hid ((al_old W1 (.cells #[.int .i64 n, .int .i64 t] 3) (lt_of_block hHeld)).trans hHeld)
    have HI2 := Lib.hid (hasI_two W1 n t (W1.heap.size) (by simp))
    have HB2 := Lib.hid (HB1.out.trans ((below_one W1 (.cells #[.int .i64 n, .int .i64 t] 3)).mono HB1.out.size))
    go_wp2_with fail
    refine hK.out _ _ (Hj2.out) (fun hHeld => ?_)
    clear hK
    try simp only [Act.put, List.setIfInBounds_toArray, List.set_cons_zero, List.set_cons_succ]
    refine ord_two 0 12 rfl rfl (by kernel_rfl) (by rfl) (by rfl) (fun K hK => ?_) (fun K hK => ?_)
    · have Hj3 := Lib.hid ((al_old (W1.alloc (.cells #[.int .i64 n, .int .i64 t] 3)) (.cells #[.int .u8 1] 5) (lt_of_block hHeld)).trans hHeld)
      have HR3 := Lib.hid (rowB_lit2 HB2.out 1 (W1.heap.size + 1) (by simp))
      have HB3 := Lib.hid (HR3.out.bel)
      go_wp2_with fail
      refine hK.out _ _ (Hj3.out) (fun hHeld => ?_)
      clear hK
      try simp only [Act.put, List.setIfInBounds_toArray, List.set_cons_zero, List.set_cons_succ]
      refine ord_one 12 rfl (by kernel_rfl) (by rfl) (fun K hK => ?_)
      have HI3 := Lib.hid (show HasI ((W1.alloc (.cells #[.int .i64 n, .int .i64 t] 3)).alloc (.cells #[.int .u8 1] 5)) _ [n, t] from Holds.chg HI2.out (Chg.of_below (below_one _ (.cells #[.int .u8 1] 5))) fun _ _ => id)
      have Hnum := Lib.hid (rnums1_calls HI3.out (by simp; omega) (by simp))
      go_wp2_with fail
      refine Hnum.out.mono ?_
      rintro e w2 ⟨x, rfl, hx2, hxn, hb2⟩
      have Hj4 := Lib.hid ((hb2.block _ (lt_of_block hHeld)).trans hHeld)
      have HB4 := Lib.hid (HB3.out.trans (hb2.mono HB3.out.size))
      have HX4 := Lib.hid hx2
      have Hb4 := Lib.hid hb2
      obtain ⟨px, cx, rfl, -⟩ := own_cap0 hx2
      clear hx2 hxn hb2 Hnum
      generalize hL2 : (numsI [n, t]).length = m2 at *
      have HL := Lib.hid hL2
      clear hL2
      go_wp2_with fail
      refine hK.out _ _ (Hj4.out) (fun hHeld => ?_)
      clear hK
      try simp only [Act.put, List.setIfInBounds_toArray, List.set_cons_zero, List.set_cons_succ]
      have HR9 := Lib.hid (HR3.out.next Hb4.out)
      have HX9 := Lib.hid (OwnB.has HX4.out)
      have Hrow := Lib.hid (show OwnR w2 5 1 (.slice (some ⟨W1.heap.size + 1, 0, none⟩) 1 1) 1 (bytesV [1]) from HR9.out.own)
      have Hxx := Lib.hid (show Holds w2 1 (.slice px m2 cx) m2 (bytesV (numsI [n, t])) by have := HX9.out; unfold HasB at this; rwa [HL.out] at this)
      refine ord_one 13 rfl (by kernel_rfl) (by rfl) (fun K hK => ?_)
      refine wp_app (.tmp 4) (.tmp 16) 22 rfl 5 i0 (.int .u8 0) 1 1 Tryz.underlying22 hi hz0 hz1 hz2 rfl (by decide) (.slice (some ⟨W1.heap.size + 1, 0, none⟩) 1 1) 1 _ rfl Hrow.out (.slice px m2 cx) m2 _ rfl Hxx.out (bytesV_one _) (by unfold maxLen; omega) (by omega) ?_
      intro v3 w3 hown3 hgrow3 hloc3
      have HE := Lib.hid (RowB.grown (x := numsI [n, t]) HR9.out (by rw [HL.out]; exact hown3) hgrow3 hloc3)
      have Hj3 := Lib.hid ((HE.out.bel.block j Hjl.out).trans Hj0.out)
      obtain ⟨p3, q3, rfl⟩ := OwnR.shape hown3
      have Hrow3 := Lib.hid hown3
      clear hown3 hgrow3 hloc3
      refine hK.out _ _ (Hj3.out) (fun hHeld => ?_)
      clear hK
      try simp only [Act.put, List.setIfInBounds_toArray, List.set_cons_zero, List.set_cons_succ]
      refine ord_take 14 (v := ?v32x14) rfl (by kernel_rfl) (by kernel_rfl) (by kernel_rfl) (fun _ _ _ h => h) (by rfl) (by assumption) ?y32x14 ?_
      case y32x14 => (intro w hSw; (try dsimp only at hSw); go_simp; try with_reducible rfl)
      simp only [Act.put, List.setIfInBounds_toArray, List.set_cons_zero, List.set_cons_succ]
      refine wpAnyH_done (by kernel_rfl) ?_ _
      have d2 := cell_of Hj3.out (i := 2) rfl
      have Hls := Lib.hid (rglist_calls (w := w3) (p := p) (n := m) (c := c) (l := g) (Holds.chg Hg.out (Chg.of_below HE.out.bel) fun _ _ => id) Hz.out (Nat.le_trans Hl.out (by decide)))
      go_wp2_with fail
      refine Hls.out.mono ?_
      rintro e w4 ⟨y, rfl, hy, hyn, hb4⟩
      have HE4 := Lib.hid (HE.out.next hb4)
      have HY4 := Lib.hid (OwnB.has hy)
      obtain ⟨py, cy, rfl, -⟩ := own_cap0 hy
      clear hy hyn hb4 Hls d2
      generalize hL3 : (grpB g).length = m3 at *
      have HL3 := Lib.hid hL3
      have hm3 : m3 ≤ 10000 := by
        have h1 := Hgl.out
        omega
      have HLen := Lib.hid (show (([1] : Bs) ++ numsI [n, t]).length = 1 + m2 from by rw [List.length_append, HL.out]; rfl)
      have Hrow4 := Lib.hid (show OwnR w4 5 1 (.slice p3 (1 + m2) q3) (1 + m2) (bytesV ([1] ++ numsI [n, t])) by have := HE4.out.own; unfold OwnB at this; rwa [HLen.out] at this)
      have Hyy := Lib.hid (show Holds w4 1 (.slice py m3 cy) m3 (bytesV (grpB g)) by have := HY4.out; unfold HasB at this; rwa [HL3.out] at this)
      clear hL3
      go_wp2_with (at_builtin; refine wpList_app _ rfl (.tmp 18) (.tmp 24) 22 rfl 5 i0 (.int .u8 0) 1 1 Tryz.underlying22 hi hz0 hz1 hz2 rfl (by decide) (.slice p3 (1 + m2) q3) (1 + m2) _ rfl Hrow4.out (.slice py m3 cy) m3 _ rfl Hyy.out (bytesV_one _) (by unfold maxLen; omega) (by omega) ?_; intro v5 w5 hown5 hgrow5 hloc5; go_loud (have hE := RowB.grown (x := grpB g) HE4.out (by rw [HLen.out, HL3.out]; exact hown5) hgrow5 hloc5; rw [HT.out] at hE; have HE5 := Lib.hid hE; clear hgrow5 hloc5 hE; obtain ⟨p5, q5, rfl⟩ := OwnR.shape hown5; clear hown5))
      have Hrec := Lib.hid (rrecord_calls (p := p5) (m := 1 + m2 + m3) (c := q5) (l := fstB0 n t g) (w := w5) HE5.out.own.has (by rw [← HT.out, List.length_append, List.length_append, HL.out, HL3.out]; simp; omega))
      refine Hrec.out.mono ?_
      rintro e w6 ⟨z, rfl, hz6, hzn, hb6⟩
      have HF := Lib.hid (show RowNew w (frameN (fstB0 n t g)) (.returned z) w6 from ⟨z, rfl, hz6, fun k hk => Nat.le_trans HE5.out.bel.size (hzn k hk), HE5.out.bel.trans (hb6.mono HE5.out.bel.size)⟩)
      clear hz6 hzn hb6 Hrec
      go_wp2_with fail
      go_ret
      exact HF.out
    · have Hnum := Lib.hid (rnums1_calls HI2.out (by simp; omega) (by simp))
      go_wp2_with fail
      refine Hnum.out.mono ?_
      rintro e w2 ⟨x, rfl, hx2, hxn, hb2⟩
      have Hj3 := Lib.hid ((hb2.block _ (lt_of_block hHeld)).trans hHeld)
      have HB3 := Lib.hid (HB2.out.trans (hb2.mono HB2.out.size))
      have HX3 := Lib.hid hx2
      have Hb3 := Lib.hid hb2
      obtain ⟨px, cx, rfl, -⟩ := own_cap0 hx2
      clear hx2 hxn hb2 Hnum
      generalize hL2 : (numsI [n, t]).length = m2 at *
      have HL := Lib.hid hL2
      clear hL2
      go_wp2_with fail
      refine hK.out _ _ (Hj3.out) (fun hHeld => ?_)
      clear hK
      try simp only [Act.put, List.setIfInBounds_toArray, List.set_cons_zero, List.set_cons_succ]
      refine ord_one 0 rfl (by kernel_rfl) (by rfl) (fun K hK => ?_)
      have Hj4 := Lib.hid ((al_old w2 (.cells #[.int .u8 1] 5) (lt_of_block hHeld)).trans hHeld)
      have HR4 := Lib.hid (rowB_lit2 HB3.out 1 (w2.heap.size) (by simp))
      have HB4 := Lib.hid (HR4.out.bel)
      go_wp2_with fail
      refine hK.out _ _ (Hj4.out) (fun hHeld => ?_)
      clear hK
      try simp only [Act.put, List.setIfInBounds_toArray, List.set_cons_zero, List.set_cons_succ]
      have HR9 := Lib.hid HR4.out
      have HX9 := Lib.hid (OwnB.has (ownB_far HX3.out (below_one w2 (.cells #[.int .u8 1] 5))))
      have Hrow := Lib.hid (show OwnR (w2.alloc (.cells #[.int .u8 1] 5)) 5 1 (.slice (some ⟨w2.heap.size, 0, none⟩) 1 1) 1 (bytesV [1]) from HR9.out.own)
      have Hxx := Lib.hid (show Holds (w2.alloc (.cells #[.int .u8 1] 5)) 1 (.slice px m2 cx) m2 (bytesV (numsI [n, t])) by have := HX9.out; unfold HasB at this; rwa [HL.out] at this)
      refine ord_one 13 rfl (by kernel_rfl) (by rfl) (fun K hK => ?_)
      refine wp_app (.tmp 4) (.tmp 16) 22 rfl 5 i0 (.int .u8 0) 1 1 Tryz.underlying22 hi hz0 hz1 hz2 rfl (by decide) (.slice (some ⟨w2.heap.size, 0, none⟩) 1 1) 1 _ rfl Hrow.out (.slice px m2 cx) m2 _ rfl Hxx.out (bytesV_one _) (by unfold maxLen; omega) (by omega) ?_
      intro v3 w3 hown3 hgrow3 hloc3
      have HE := Lib.hid (RowB.grown (x := numsI [n, t]) HR9.out (by rw [HL.out]; exact hown3) hgrow3 hloc3)
      have Hj3 := Lib.hid ((HE.out.bel.block j Hjl.out).trans Hj0.out)
      obtain ⟨p3, q3, rfl⟩ := OwnR.shape hown3
      have Hrow3 := Lib.hid hown3
      clear hown3 hgrow3 hloc3
      refine hK.out _ _ (Hj3.out) (fun hHeld => ?_)
      clear hK
      try simp only [Act.put, List.setIfInBounds_toArray, List.set_cons_zero, List.set_cons_succ]
      refine ord_take 14 (v := ?v33x14) rfl (by kernel_rfl) (by kernel_rfl) (by kernel_rfl) (fun _ _ _ h => h) (by rfl) (by assumption) ?y33x14 ?_
      case y33x14 => (intro w hSw; (try dsimp only at hSw); go_simp; try with_reducible rfl)
      simp only [Act.put, List.setIfInBounds_toArray, List.set_cons_zero, List.set_cons_succ]
      refine wpAnyH_done (by kernel_rfl) ?_ _
      have d2 := cell_of Hj3.out (i := 2) rfl
      have Hls := Lib.hid (rglist_calls (w := w3) (p := p) (n := m) (c := c) (l := g) (Holds.chg Hg.out (Chg.of_below HE.out.bel) fun _ _ => id) Hz.out (Nat.le_trans Hl.out (by decide)))
      go_wp2_with fail
      refine Hls.out.mono ?_
      rintro e w4 ⟨y, rfl, hy, hyn, hb4⟩
      have HE4 := Lib.hid (HE.out.next hb4)
      have HY4 := Lib.hid (OwnB.has hy)
      obtain ⟨py, cy, rfl, -⟩ := own_cap0 hy
      clear hy hyn hb4 Hls d2
      generalize hL3 : (grpB g).length = m3 at *
      have HL3 := Lib.hid hL3
      have hm3 : m3 ≤ 10000 := by
        have h1 := Hgl.out
        omega
      have HLen := Lib.hid (show (([1] : Bs) ++ numsI [n, t]).length = 1 + m2 from by rw [List.length_append, HL.out]; rfl)
      have Hrow4 := Lib.hid (show OwnR w4 5 1 (.slice p3 (1 + m2) q3) (1 + m2) (bytesV ([1] ++ numsI [n, t])) by have := HE4.out.own; unfold OwnB at this; rwa [HLen.out] at this)
      have Hyy := Lib.hid (show Holds w4 1 (.slice py m3 cy) m3 (bytesV (grpB g)) by have := HY4.out; unfold HasB at this; rwa [HL3.out] at this)
      clear hL3
      go_wp2_with (at_builtin; refine wpList_app _ rfl (.tmp 18) (.tmp 24) 22 rfl 5 i0 (.int .u8 0) 1 1 Tryz.underlying22 hi hz0 hz1 hz2 rfl (by decide) (.slice p3 (1 + m2) q3) (1 + m2) _ rfl Hrow4.out (.slice py m3 cy) m3 _ rfl Hyy.out (bytesV_one _) (by unfold maxLen; omega) (by omega) ?_; intro v5 w5 hown5 hgrow5 hloc5; go_loud (have hE := RowB.grown (x := grpB g) HE4.out (by rw [HLen.out, HL3.out]; exact hown5) hgrow5 hloc5; rw [HT.out] at hE; have HE5 := Lib.hid hE; clear hgrow5 hloc5 hE; obtain ⟨p5, q5, rfl⟩ := OwnR.shape hown5; clear hown5))
      have Hrec := Lib.hid (rrecord_calls (p := p5) (m := 1 + m2 + m3) (c := q5) (l := fstB0 n t g) (w := w5) HE5.out.own.has (by rw [← HT.out, List.length_append, List.length_append, HL.out, HL3.out]; simp; omega))
      refine Hrec.out.mono ?_
      rintro e w6 ⟨z, rfl, hz6, hzn, hb6⟩
      have HF := Lib.hid (show RowNew w (frameN (fstB0 n t g)) (.returned z) w6 from ⟨z, rfl, hz6, fun k hk => Nat.le_trans HE5.out.bel.size (hzn k hk), HE5.out.bel.trans (hb6.mono HE5.out.bel.size)⟩)
      clear hz6 hzn hb6 Hrec
      go_wp2_with fail
      go_ret
      exact HF.out
end Go.Proofs.YtapfnehdgailmaaGreat

namespace Go.Proofs.YtapfnehdgailmaaGreat
open Go.RowKit Go.Sat Go.Maps

theorem four_inv (a0 a1 a2 a3 : UInt8) : fourN (ofFour a0 a1 a2 a3) = [a0, a1, a2, a3] := by
  have l0 := a0.toNat_lt
  have l1 := a1.toNat_lt
  have l2 := a2.toNat_lt
  have l3 := a3.toNat_lt
  have e : ∀ (n : Nat) (a : UInt8), n % 256 = a.toNat → UInt8.ofNat n = a := fun n a h => by
    apply UInt8.toNat_inj.1
    rw [UInt8.toNat_ofNat']
    exact h
  unfold fourN ofFour
  rw [e _ a0 (by omega), e _ a1 (by omega), e _ a2 (by omega), e _ a3 (by omega)]

theorem fourAt_inv {b : Bs} (h : 4 ≤ b.length) : fourN (fourAt b) = b.take 4 := by
  match b, h with
  | a0 :: a1 :: a2 :: a3 :: r, _ => exact four_inv a0 a1 a2 a3

theorem four_inj {m n : Nat} (hm : m < 4294967296) (hn : n < 4294967296) (h : fourN m = fourN n) : m = n := by
  have e1 := fourAt_four m hm []
  have e2 := fourAt_four n hn []
  rw [h] at e1
  omega

/-- The head is right: both ways of looking. -/
theorem head_iff {b : Bs} (h : 8 ≤ b.length) : b.take 8 = headN (fourAt b) ↔ fourAt (b.drop 4) = sumN (b.take 4) := by
  have h1 := fourAt_inv (b := b) (by omega)
  have h2 := fourAt_inv (b := b.drop 4) (by rw [List.length_drop]; omega)
  have e8 : b.take 8 = b.take 4 ++ (b.drop 4).take 4 := by rw [← List.take_add]
  have eh : headN (fourAt b) = b.take 4 ++ fourN (sumN (b.take 4)) := by
    show fourN (fourAt b) ++ fourN (sumN (fourN (fourAt b))) = _
    rw [h1]
  rw [e8, eh, List.append_cancel_left_eq, ← h2]
  exact ⟨fun e => four_inj (fourAt_lt _) (sumN_lt _) e, fun e => by rw [e]⟩
end Go.Proofs.YtapfnehdgailmaaGreat

namespace Go.Proofs.YtapfnehdgailmaaGreat
open Go.RowKit Go.Sat Go.Maps

theorem quiet_drew {P : Program} {f : FuncId} {args : Array Value} {w : World} {n : Nat} {v : Value} (h : Calls P f args (w.drewN n) fun e w' => e = .returned v ∧ ∃ q, w' = (w.drewN n).drewN q) : Calls P f args (w.drewN n) fun e w'' => e = .returned v ∧ ∃ m, w'' = w.drewN m :=
  h.mono fun _ _ ⟨he, q, hq⟩ => ⟨he, n + q, by rw [hq, World.drewN_drewN]⟩

/-- 'x[l:h]'. -/
theorem run_window {P : Program} (W : World) (t e : TypeId) (ht : P.underlying t = some (.slice e)) (hz : ∀ w, (Go.sizeOf e).run P w = .ok 1 w) (b o len cap l h : Nat) (hlh : l ≤ h) (hh : h ≤ cap) (hl : l < cap) :
    (Instr.slice t (.slice (some ⟨b, o, none⟩) len cap) (some (.int .i64 (l : Int))) (some (.int .i64 (h : Int))) none).run P W = .ok (.slice (some ⟨b, o + l, none⟩) (h - l) (cap - l)) W := by
  have ht' : P.underlying t = some (.slice (P.elem t)) := by simp [Program.elem, ht]
  have he : P.elem t = e := by simp [Program.elem, ht]
  rw [run_slice_lh W t _ _ _ ht' .i64 .i64 _ _ (by omega) (by omega) (by omega), he, hz]
  have hne : ¬ cap = l := by omega
  by_cases h0 : l = 0
  · subst h0
    simp [Result.andThen, sliced, Addr.add, hne]
  · simp [Result.andThen, sliced, Addr.add, hne, h0]

theorem below_drewN (w : World) (n : Nat) : Below w.heap.size w (w.drewN n) := ⟨rfl, rfl, rfl, Nat.le_refl _, fun _ _ => rfl⟩

theorem below_dn {w W : World} (h : Below w.heap.size w W) (n : Nat) : Below w.heap.size w (W.drewN n) := h.trans ⟨rfl, rfl, rfl, Nat.le_refl _, fun _ _ => rfl⟩

set_option maxRecDepth 100000 in
set_option maxHeartbeats 4000000 in
theorem rdec_calls {w : World} {p : Option Addr} {n c : Nat} {b : Bs} (h : HasB w (.slice p n c) b) (hnc : n ≤ c) (hl : b.length ≤ 140737488355328) :
    Calls Tryz.prog 165 #[.slice p n c] w (Decoded w b) := by
  have hn : n = b.length := (bytes_in h).1
  subst hn
  obtain ⟨i0, hi, hz0, hz1, hz2⟩ := info_parts (show (Tryz.prog.info? 5).map (fun i => (i.zero, i.size, i.bytes)) = some (some (.int .u8 0), 1, 1) by kernel_rfl)
  by_cases h8 : b.length < 8
  · have Hfin := Lib.hid (decoded_bad (w := w) (w' := w) (b := b) (k := 2) (by unfold decE; rw [if_pos h8]) (by decide) (Below.refl _ _))
    generalize hN : b.length = N at *
    clear hN h
    go_enter Tryz.func165, Tryz.ntmps165
    go_wp2_with fail
    go_ret3
    exact Hfin.out
  · have hpos : 0 < b.length := by omega
    rcases h.at with e | ⟨g, o, c2, e, -⟩
    · rw [e] at hpos
      simp at hpos
    cases e
    have H4 := Lib.hid (fun (W : World) (hb : Below w.heap.size w W) => rfour_at (HasB.from (h.below hb) (k := 4) (by omega) (c - 4)) (by rw [List.length_drop]; omega))
    have HS := Lib.hid (fun (W : World) (hb : Below w.heap.size w W) => rsum_calls (HasB.cut (h.below hb) (k := 4) (by omega) c) (by rw [List.length_take]; omega))
    have hs1 : ∀ W, (Instr.slice 22 (.slice (some ⟨g, o, none⟩) b.length c) (some (.int .i64 4)) none none).run Tryz.prog W = .ok (.slice (some ⟨g, o + 4, none⟩) (b.length - 4) (c - 4)) W := fun W => run_from W Tryz.underlying22 hi hz1 g o b.length c 4 (by omega) hnc (by omega)
    have hs2 : ∀ W, (Instr.slice 22 (.slice (some ⟨g, o, none⟩) b.length c) none (some (.int .i64 4)) none).run Tryz.prog W = .ok (.slice (some ⟨g, o, none⟩) 4 c) W := fun W => run_upto W Tryz.underlying22 hi _ _ c 4 (by omega)
    by_cases hh : fourAt (b.drop 4) = sumN (b.take 4)
    · have hhead := (head_iff (b := b) (by omega)).2 hh
      have heq : ((fourAt (b.drop 4) : Int) != sumF (b.take 4)) = false := by rw [sumF_nat]; simp; omega
      have HF := Lib.hid (fun (W : World) (hb : Below w.heap.size w W) => rfour_at (h.below hb) (by omega))
      by_cases hm : 1048576 < fourAt b
      · have Hfin := Lib.hid (fun W => decoded_bad (w := w) (w' := W) (b := b) (k := 5) (by unfold decE; rw [if_neg h8, if_neg (by simpa using hhead), if_pos hm]) (by decide))
        have hlt := fourAt_lt b
        generalize fourAt (b.drop 4) = x at *
        generalize sumF (b.take 4) = y at *
        generalize fourAt b = z at *
        generalize b.length = N at *
        clear h hh hhead
        go_enter Tryz.func165, Tryz.ntmps165
        go_wp2_with fail
        go_quiet ((first | (go_at_call 197; refine quiet_drew (H4.out _ (below_drewN _ _))) | (go_at_call 184; refine Calls.quiet_of_same (HS.out _ (below_drewN _ _)))))
        go_wp2_with fail
        refine (HF.out _ (below_drewN _ _)).mono ?_
        rintro e w2 ⟨rfl, q2, rfl⟩
        go_wp2_with fail
        go_ret3
        exact Hfin.out _ (below_drewN _ _)
      · by_cases hd : b.length < fourAt b + 12
        · have Hfin := Lib.hid (fun W => decoded_bad (w := w) (w' := W) (b := b) (k := 2) (by unfold decE; rw [if_neg h8, if_neg (by simpa using hhead), if_neg hm, if_pos hd]) (by decide))
          have hlt := fourAt_lt b
          generalize fourAt (b.drop 4) = x at *
          generalize sumF (b.take 4) = y at *
          generalize fourAt b = z at *
          generalize b.length = N at *
          clear h hh hhead
          go_enter Tryz.func165, Tryz.ntmps165
          go_wp2_with fail
          go_quiet ((first | (go_at_call 197; refine quiet_drew (H4.out _ (below_drewN _ _))) | (go_at_call 184; refine Calls.quiet_of_same (HS.out _ (below_drewN _ _)))))
          go_wp2_with fail
          refine (HF.out _ (below_drewN _ _)).mono ?_
          rintro e w2 ⟨rfl, q2, rfl⟩
          go_wp2_with fail
          go_ret3
          exact Hfin.out _ (below_drewN _ _)
        · have hlt := fourAt_lt b
          have H8 := Lib.hid (fun (W : World) (hb : Below w.heap.size w W) => rfour_at (HasB.from (h.below hb) (k := 8 + fourAt b) (by omega) (c - (8 + fourAt b))) (by rw [List.length_drop]; omega))
          have HS8 := Lib.hid (fun (W : World) (hb : Below w.heap.size w W) => rsum_calls (HasB.cut (h.below hb) (k := 8 + fourAt b) (by omega) c) (by rw [List.length_take]; omega))
          have HxW := Lib.hid (show ∀ W, Below w.heap.size w W → Holds W 1 (.slice (some ⟨g, o + 8, none⟩) (fourAt b) (c - 8)) (fourAt b) (bytesV ((b.drop 8).take (fourAt b))) from fun W hb => by
            have h2 := HasB.cut (HasB.from (h.below hb) (k := 8) (by omega) (c - 8)) (k := fourAt b) (by rw [List.length_drop]; omega) (c - 8)
            unfold HasB at h2
            rw [List.length_take, List.length_drop, Nat.min_eq_left (by omega)] at h2
            exact h2)
          have hs3 : ∀ W, (Instr.slice 22 (.slice (some ⟨g, o, none⟩) b.length c) (some (.int .i64 (8 + (fourAt b : Int)))) none none).run Tryz.prog W = .ok (.slice (some ⟨g, o + (8 + fourAt b), none⟩) (b.length - (8 + fourAt b)) (c - (8 + fourAt b))) W := fun W => by
            have := run_from (P := Tryz.prog) W Tryz.underlying22 hi hz1 g o b.length c (8 + fourAt b) (by omega) hnc (by omega)
            rwa [show ((8 + fourAt b : Nat) : Int) = 8 + (fourAt b : Int) by omega] at this
          have hs4 : ∀ W, (Instr.slice 22 (.slice (some ⟨g, o, none⟩) b.length c) none (some (.int .i64 (8 + (fourAt b : Int)))) none).run Tryz.prog W = .ok (.slice (some ⟨g, o, none⟩) (8 + fourAt b) c) W := fun W => by
            have := run_upto (P := Tryz.prog) W Tryz.underlying22 hi (some ⟨g, o, none⟩) b.length c (8 + fourAt b) (by omega)
            rwa [show ((8 + fourAt b : Nat) : Int) = 8 + (fourAt b : Int) by omega] at this
          have hs5 : ∀ W, (Instr.slice 22 (.slice (some ⟨g, o, none⟩) b.length c) (some (.int .i64 8)) (some (.int .i64 (8 + (fourAt b : Int)))) none).run Tryz.prog W = .ok (.slice (some ⟨g, o + 8, none⟩) (fourAt b) (c - 8)) W := fun W => by
            have := run_window (P := Tryz.prog) W 22 5 Tryz.underlying22 (fun w => by simp [sizeOf, typeInfo, hi, hz1]) g o b.length c 8 (8 + fourAt b) (by omega) (by omega) (by omega)
            rwa [show ((8 + fourAt b : Nat) : Int) = 8 + (fourAt b : Int) by omega, Nat.add_sub_cancel_left] at this
          have hwr : IntKind.i64.wrap (8 + (fourAt b : Int)) = 8 + (fourAt b : Int) := IntWalk.i64_in _ ⟨by omega, by omega⟩
          have hwr2 : IntKind.i64.wrap (12 + (fourAt b : Int)) = 12 + (fourAt b : Int) := IntWalk.i64_in _ ⟨by omega, by omega⟩
          by_cases hs : fourAt (b.drop (8 + fourAt b)) = sumN (b.take (8 + fourAt b))
          · have hE : decE b = 0 := by unfold decE; rw [if_neg h8, if_neg (by simpa using hhead), if_neg hm, if_neg hd, if_neg (by simpa using hs)]
            have Hfin := Lib.hid (show ∀ v W, OwnR W 5 1 v (fourAt b) (bytesV ((b.drop 8).take (fourAt b))) → (∀ k, v.ownBlock = some k → w.heap.size ≤ k) → Below w.heap.size w W → Decoded w b (.returned (.tuple #[v, .int .i64 (12 + (fourAt b : Int)), .int .i64 0])) W from fun v W ho hn hb =>
              ⟨v, by unfold decL; rw [hE, if_pos rfl, show ((fourAt b + 12 : Nat) : Int) = 12 + (fourAt b : Int) by omega]; rfl, by
                unfold decB
                rw [if_pos hE]
                unfold OwnB
                rw [List.length_take, List.length_drop, Nat.min_eq_left (by omega)]
                exact ho, hn, hb⟩)
            have heq2 : ((fourAt (b.drop (8 + fourAt b)) : Int) != sumF (b.take (8 + fourAt b))) = false := by rw [sumF_nat]; simp; omega
            generalize fourAt (b.drop (8 + fourAt b)) = x2 at *
            generalize sumF (b.take (8 + fourAt b)) = y2 at *
            generalize fourAt (b.drop 4) = x at *
            generalize sumF (b.take 4) = y at *
            generalize hz : fourAt b = z at *
            generalize b.length = N at *
            clear h hh hhead hs hE hz
            go_enter Tryz.func165, Tryz.ntmps165
            go_wp2_with fail
            go_quiet ((first | (go_at_call 197; refine quiet_drew (H4.out _ (below_drewN _ _))) | (go_at_call 184; refine Calls.quiet_of_same (HS.out _ (below_drewN _ _)))))
            go_wp2_with fail
            refine (HF.out _ (below_drewN _ _)).mono ?_
            rintro e w2 ⟨rfl, q2, hq2⟩
            have HbX := Lib.hid (show Below w.heap.size w w2 by rw [hq2]; exact below_dn (below_drewN _ _) _)
            clear hq2
            go_wp2_with fail
            go_quiet ((first | (go_at_call 197; refine quiet_drew (H8.out _ (below_dn HbX.out _))) | (go_at_call 184; refine Calls.quiet_of_same (HS8.out _ (below_dn HbX.out _)))))
            have HbY := Lib.hid (below_dn HbX.out nq)
            generalize w2.drewN nq = w5 at *
            have HbZ := Lib.hid (HbY.out.alloc HbY.out.size (.cells #[] 5))
            go_wp2_with (at_builtin; refine wpList_app (w5.alloc (.cells #[] 5)) rfl (.tmp 37) (.tmp 41) 22 rfl 5 i0 (.int .u8 0) 1 1 Tryz.underlying22 hi hz0 hz1 hz2 rfl (by decide) (.slice (some ⟨w5.heap.size, 0, none⟩) 0 0) 0 [] rfl (own_empty w5 _) (.slice (some ⟨g, o + 8, none⟩) z (c - 8)) z _ rfl (HxW.out _ HbZ.out) (bytesV_one _) (by unfold maxLen; omega) (by omega) ?_; intro v12 w12 hown12 hgrow12 hloc12; rw [Nat.zero_add, List.nil_append] at hown12; have hX := HbZ.out.grown hgrow12 HbZ.out.size (fun j e => by have := HbY.out.size; simp [Value.ownBlock] at e; omega); have hnew := own_ge (B := w.heap.size) hloc12 (fun k hk => by have := HbY.out.size; simp [Value.ownBlock] at hk; omega) HbZ.out.size; have X12 := Lib.hid (And.intro hX (And.intro hown12 hnew)); clear hown12 hgrow12 hloc12 hX hnew)
            go_ret3
            exact Hfin.out _ _ X12.out.2.1 X12.out.2.2 X12.out.1
          · have Hfin := Lib.hid (fun W => decoded_bad (w := w) (w' := W) (b := b) (k := 4) (by unfold decE; rw [if_neg h8, if_neg (by simpa using hhead), if_neg hm, if_neg hd, if_pos hs]) (by decide))
            have heq2 : ((fourAt (b.drop (8 + fourAt b)) : Int) != sumF (b.take (8 + fourAt b))) = true := by rw [sumF_nat]; simp; omega
            generalize fourAt (b.drop (8 + fourAt b)) = x2 at *
            generalize sumF (b.take (8 + fourAt b)) = y2 at *
            generalize fourAt (b.drop 4) = x at *
            generalize sumF (b.take 4) = y at *
            generalize fourAt b = z at *
            generalize b.length = N at *
            clear h hh hhead hs
            go_enter Tryz.func165, Tryz.ntmps165
            go_wp2_with fail
            go_quiet ((first | (go_at_call 197; refine quiet_drew (H4.out _ (below_drewN _ _))) | (go_at_call 184; refine Calls.quiet_of_same (HS.out _ (below_drewN _ _)))))
            go_wp2_with fail
            refine (HF.out _ (below_drewN _ _)).mono ?_
            rintro e w2 ⟨rfl, q2, hq2⟩
            have HbX := Lib.hid (show Below w.heap.size w w2 by rw [hq2]; exact below_dn (below_drewN _ _) _)
            clear hq2
            go_wp2_with fail
            go_quiet ((first | (go_at_call 197; refine quiet_drew (H8.out _ (below_dn HbX.out _))) | (go_at_call 184; refine Calls.quiet_of_same (HS8.out _ (below_dn HbX.out _)))))
            go_wp2_with fail
            go_ret3
            exact Hfin.out _ (below_dn HbX.out _)
    · have Hfin := Lib.hid (fun W => decoded_bad (w := w) (w' := W) (b := b) (k := 4) (by unfold decE; rw [if_neg h8, if_pos (fun e => hh ((head_iff (by omega)).1 e))]) (by decide))
      have hne : ((fourAt (b.drop 4) : Int) != sumF (b.take 4)) = true := by rw [sumF_nat]; simp; omega
      generalize fourAt (b.drop 4) = x at *
      generalize sumF (b.take 4) = y at *
      generalize b.length = N at *
      clear h hh
      go_enter Tryz.func165, Tryz.ntmps165
      go_wp2_with fail
      go_quiet ((first | (go_at_call 197; refine quiet_drew (H4.out _ (below_drewN _ _))) | (go_at_call 184; refine Calls.quiet_of_same (HS.out _ (below_drewN _ _)))))
      go_wp2
      go_ret3
      exact Hfin.out _ (below_drewN _ _)
end Go.Proofs.YtapfnehdgailmaaGreat

namespace Go.Proofs.YtapfnehdgailmaaGreat
open Go.RowKit Go.Sat Go.Maps

set_option maxRecDepth 100000 in
set_option maxHeartbeats 1000000 in
theorem rone_calls {w : World} {p : Option Addr} {n c : Nat} {b : Bs} (h : HasB w (.slice p n c) b) (hnc : n ≤ c) (hl : b.length ≤ 140737488355328) :
    Calls Tryz.prog 162 #[.slice p n c] w (OneOf w b) := by
  have hn : n = b.length := (bytes_in h).1
  subst hn
  have Hd := Lib.hid (rdec_calls h hnc hl)
  have hdl : decL b ≤ 4294967307 := by
    have := fourAt_lt b
    unfold decL
    split <;> omega
  clear h
  go_enter Tryz.func162, Tryz.ntmps162
  go_wp2_with fail
  refine Hd.out.mono ?_
  rintro e w1 ⟨v, rfl, hv, hn1, hb1⟩
  by_cases he : decE b = 0
  · by_cases hL : decL b = b.length
    · have hE : oneE b = 0 := by unfold oneE; rw [if_pos he, if_pos hL]
      have Hfin := Lib.hid (show OneOf w b (.returned (.tuple #[v, .int .i64 0])) w1 from ⟨v, by rw [hE]; rfl, by unfold oneB; rw [if_pos hE]; exact hv, hn1, hb1⟩)
      rw [he, hL]
      generalize b.length = N at *
      clear hv hn1 hb1 he hL hE hdl
      go_wp2_with fail
      go_ret2
      exact Hfin.out
    · have Hfin := Lib.hid (one_nil (w := w) (w' := w1) (b := b) (k := 3) (by unfold oneE; rw [if_pos he, if_neg hL]) (by decide) hb1)
      have hne : ((decL b : Int) != (b.length : Int)) = true := by
        simp only [bne_iff_ne, ne_eq, Int.natCast_inj]
        exact hL
      rw [he]
      generalize decL b = M at *
      generalize b.length = N at *
      clear hv hn1 hb1 he hL
      go_wp2_with fail
      go_ret2
      exact Hfin.out
  · have hE : oneE b = decE b := by unfold oneE; rw [if_neg he]
    have Hfin := Lib.hid (one_nil (w := w) (w' := w1) (b := b) (k := decE b) hE he hb1)
    have hne : ((decE b : Int) == 0) = false := by simp; omega
    have hne2 : ((decE b : Int) != 0) = true := by simp; omega
    generalize decE b = E at *
    generalize decL b = M at *
    generalize b.length = N at *
    clear hv hn1 hb1 hE
    go_wp2_with fail
    go_ret2
    exact Hfin.out
end Go.Proofs.YtapfnehdgailmaaGreat

namespace Go.Sat
open Go Go.RowKit
/-- 'x[k:]', of elements of whatever size. -/
theorem run_from_any {P : Program} (w : World) {t e : TypeId} {i : TypeInfo} (ht : P.underlying t = some (.slice e)) (hi : P.info? e = some i) (p : Option Addr) (len cap k : Nat) (h : k ≤ len) (h2 : len ≤ cap) :
    (Instr.slice t (.slice p len cap) (some (.int .i64 (k : Int))) none none).run P w = .ok (.slice (if cap - k = 0 then p else p.map fun x => x.add (k * i.size)) (len - k) (cap - k)) w := by
  have h1 : (Instr.sliceBound (.int .i64 (k : Int)) len .sliceB).run P w = .ok k w := by
    rw [run_sliceBound _ _ _ _ _ (by omega) (by omega)]
    simp
  simp [Instr.slice, run_underlying ht, Instr.sliceBounds, h1, sizeOf, typeInfo, hi, Result.andThen]
  by_cases hc : cap = k
  · rw [if_pos hc, if_pos (by omega)]
  · rw [if_neg hc, if_neg (by omega)]

theorem Holds.upto {w : World} {size : Nat} {p : Option Addr} {n c : Nat} {xs : List Value} (h : Holds w size (.slice p n c) n xs) {k : Nat} (hk : k ≤ n) (c' : Nat) : Holds w size (.slice p k c') k (xs.take (k * size)) := by
  obtain ⟨hl, p', cap, e, h0, hc⟩ := h
  cases e
  refine ⟨by rw [List.length_take, hl]; exact Nat.min_eq_left (Nat.mul_le_mul_right _ hk), p, c', rfl, fun e => ?_, fun a ha i u hu => hc a ha i u ?_⟩
  · have := h0 e
    omega
  · rw [List.getElem?_take] at hu
    split at hu
    · exact hu
    · cases hu

theorem OwnR.cut_from {w : World} {e : TypeId} {size : Nat} {p : Option Addr} {n c : Nat} {xs : List Value} (h : OwnR w e size (.slice p n c) n xs) {k : Nat} (hk : k ≤ n) : Holds w size (.slice (if c - k = 0 then p else p.map fun x => x.add (k * size)) (n - k) (c - k)) (n - k) (xs.drop (k * size)) := by
  have hl : (xs.drop (k * size)).length = (n - k) * size := by rw [List.length_drop, h.1, Nat.sub_mul]
  rcases h.2 with ⟨e, hn⟩ | ⟨g, cap, cur, e, hg, hnc, _⟩
  · cases e
    have hk0 : k = 0 := by omega
    subst hk0
    exact ⟨hl, none, 0, by simp, fun _ => rfl, fun a ha => by cases ha⟩
  · cases e
    by_cases h0 : c - k = 0
    · rw [if_pos h0]
      have hnk : n - k = 0 := by omega
      rw [hnk] at hl ⊢
      have hx : xs.drop (k * size) = [] := List.eq_nil_of_length_eq_zero (by rw [hl]; simp)
      rw [hx]
      exact ⟨by simp, _, _, rfl, fun e => (by cases e), fun a ha i u hu => by simp at hu⟩
    · rw [if_neg h0]
      refine ⟨hl, _, _, rfl, fun e => (by cases e), fun a ha i u hu => ?_⟩
      cases ha
      have e1 : (⟨g, 0, none⟩ : Addr).add (k * size) = ⟨g, k * size, none⟩ := add_zero _ _
      have e2 : (⟨g, k * size, none⟩ : Addr).add i = ⟨g, k * size + i, none⟩ := by unfold Addr.add; split <;> simp_all
      show w.cell? (((⟨g, 0, none⟩ : Addr).add (k * size)).add i) = some u
      rw [e1, e2]
      rw [List.getElem?_drop] at hu
      have := h.cells (g := g) rfl (k * size + i) u hu
      rwa [add_zero] at this
end Go.Sat

namespace Go.Proofs.YtapfnehdgailmaaGreat
open Go.RowKit Go.Sat Go.Maps

theorem cells_take (L : List RFile) (i : Nat) : (L.take i).flatMap RFile.cells = (L.flatMap RFile.cells).take (i * 3) := by
  induction L generalizing i with
  | nil => simp
  | cons y r ih =>
    cases i with
    | zero => simp
    | succ i =>
      have hy : y.cells.length = 3 := rfl
      rw [List.take_succ_cons, List.flatMap_cons, List.flatMap_cons, ih i, List.take_append, List.take_of_length_le (l := y.cells) (by omega)]
      congr 2
      omega

theorem cells_drop (L : List RFile) (i : Nat) : (L.drop i).flatMap RFile.cells = (L.flatMap RFile.cells).drop (i * 3) := by
  induction L generalizing i with
  | nil => simp
  | cons y r ih =>
    cases i with
    | zero => simp
    | succ i =>
      have hy : y.cells.length = 3 := rfl
      rw [List.drop_succ_cons, List.flatMap_cons, ih i, List.drop_append, List.drop_of_length_le (l := y.cells) (by omega), List.nil_append]
      congr 1
      omega

section
variable {w : World} {r : Nat} {v : Value} {L : List RFile} {own : Nat → Prop} {D : DiskM} {room : Nat} {fuse : Option Nat}

theorem cells_one {L : List RFile} (h : ∀ x ∈ L, x.b.oneCell' = true) : ∀ u ∈ L.flatMap RFile.cells, u.oneCell' = true := by
  intro u hu
  obtain ⟨x, hx, hux⟩ := List.mem_flatMap.1 hu
  simp only [RFile.cells, List.mem_cons, List.not_mem_nil, or_false] at hux
  rcases hux with rfl | rfl | rfl
  · rfl
  · exact h x hx
  · rfl

theorem RefCore.one (h : RefCore w r v L own room fuse) : ∀ x ∈ L, x.b.oneCell' = true := fun x hx => by
  obtain ⟨p, c, e, _⟩ := own_slice (h.data x hx)
  rw [e]
  rfl

/-- The list is another one. -/
theorem RefCore.relist (h : RefCore w r v L own room fuse) {v' : Value} {L' : List RFile} (hrow : OwnR w 127 3 v' L'.length (L'.flatMap RFile.cells)) (hL : ∀ x ∈ L', x ∈ L ∨ (OwnB w 5 x.b x.f.data ∧ ∀ k, x.b.ownBlock = some k → own k ∧ k ≠ r)) (hn : ∀ k, v'.ownBlock = some k → ¬ own k) :
    RefCore (w.setCell ⟨r, 1, none⟩ v') r v' L' (fun k => own k ∨ v'.ownBlock = some k) room fuse where
  cells := set_block h.cells 1 v'
  row := hrow.keep fun k hk => set_other _ (fun e => hn k hk (by have e : k = r := e; rw [e]; exact h.or))
  data := fun x hx => by
    rcases hL x hx with hx | ⟨e, e2⟩
    · exact OwnR.keep (h.data x hx) fun k hk => set_other _ (h.ob x hx k hk).2.1
    · exact OwnR.keep e fun k hk => set_other _ (e2 k hk).2
  or := .inl h.or
  ov := fun k hk => ⟨.inr hk, fun e => hn k hk (by rw [e]; exact h.or)⟩
  ob := fun x hx k hk => by
    rcases hL x hx with hx | ⟨_, e⟩
    · exact ⟨.inl (h.ob x hx k hk).1, (h.ob x hx k hk).2.1, fun e => hn k e (h.ob x hx k hk).1⟩
    · exact ⟨.inl (e k hk).1, (e k hk).2, fun e2 => hn k e2 (e k hk).1⟩
  olt := fun k hk => by
    have : k < w.heap.size := by
      rcases hk with hk | hk
      · exact h.olt k hk
      · exact hrow.lt hk
    simpa [World.setCell] using this
end
end Go.Proofs.YtapfnehdgailmaaGreat

namespace Go.Proofs.YtapfnehdgailmaaGreat
open Go.RowKit Go.Sat Go.Maps

section
variable {w : World} {r : Nat} {v : Value} {L : List RFile} {own : Nat → Prop} {D : DiskM}

theorem RefIn.fit (h : RefIn w r v L own D) : L.length ≤ 4096 := by rw [h.len]; exact h.ok.count

set_option maxRecDepth 100000 in
set_option maxHeartbeats 4000000 in
/-- No room. -/
theorem rappend_full (h : RefIn w r v L own D) (s : ByteArray) (hs : s.size ≤ 9223372036854775807) {pb : Option Addr} {m cb : Nat} (hm2 : m ≤ 140737488355328) (hm : D.may [nm s] = 0)
    (hf : D.room < D.used + m ∨ (Sat.get (nm s) D.files = none ∧ 4096 ≤ D.files.length)) :
    Calls Tryz.prog 16 #[.pointer (some ⟨r, 0, none⟩), .string s, .slice pb m cb] w (RStep w r own (D, 6)) := by
  have h1 : RefIn (w.alloc (.cells #[.string s] 9)) r v L own D := h.below ((Below.refl _ _).alloc (Nat.le_refl _) _)
  have hmay := rmay_calls h1 (some ⟨w.heap.size, 0, none⟩) [s] 1 (strs_one w s) (by simp) (by simpa using hs)
  simp only [List.map_cons, List.map_nil] at hmay
  have hsp := spot_calls h1 s
  rw [h.is] at hsp
  rw [hm] at hmay
  have Hf := Lib.hid (fun W hb => rstep_same h (w' := W) hb 6)
  have HU := Lib.hid (fun W hb => rused_calls (h.below (w' := W) hb))
  obtain ⟨pv, cv, rfl⟩ := h.slice
  have Hcells := Lib.hid (show ∀ W, Below w.heap.size w W → W.cell? ⟨r, 0, none⟩ = some (.int .i64 (D.room : Int)) ∧ W.cell? ⟨r, 1, none⟩ = some (.slice pv L.length cv) from fun W hb => ⟨(h.below hb).c0, (h.below hb).c1⟩)
  have hub : D.used ≤ 1073741824 := Nat.le_trans h.ok.used h.ok.room
  have hrb := h.ok.room
  have hfit := h.fit
  rw [← h.len] at hf
  generalize spotN (nm s) (L.map RFile.n) = i at *
  clear h h1
  generalize D.used = U at *
  generalize D.room = R at *
  generalize L.length = N at *
  by_cases hA : R < U + m
  · have hd1 : decide ((R : Int) < (U : Int) + (m : Int)) = true := by simp; omega
    have hd2 : decide (R < U + m) = true := by simpa using hA
    clear hf hm
    have Hmay := Lib.hid hmay
    have Hsp := Lib.hid hsp
    clear hmay hsp
    go_enter Tryz.func16, Tryz.ntmps16
    go_wp2_with fail
    refine Hmay.out.mono ?_
    rintro e w2 ⟨rfl, rfl⟩
    go_wp2_with fail
    refine Hsp.out.mono ?_
    rintro e w3 ⟨rfl, q, rfl⟩
    have HbW := Lib.hid (below_names w (.cells #[.string s] 9) q)
    have Hused := Lib.hid (fun n => HU.out _ (HbW.out.trans (show Below _ _ (((w.alloc (.cells #[.string s] 9)).drewN q).drewN n) from ⟨rfl, rfl, rfl, Nat.le_refl _, fun _ _ => rfl⟩)))
    obtain ⟨hc0, hc1⟩ := Hcells.out _ HbW.out
    generalize (w.alloc (.cells #[.string s] 9)).drewN q = W at *
    go_wp2_with fail
    go_quiet ((go_at_call 71; refine Calls.quiet_of_same (Hused.out _)))
    clear hc0 hc1
    go_wp2_with fail
    go_ret
    exact Hf.out _ (HbW.out.trans ⟨rfl, rfl, rfl, Nat.le_refl _, fun _ _ => rfl⟩)
  · obtain ⟨hg, h4⟩ : Sat.get (nm s) D.files = none ∧ 4096 ≤ N := by
      rcases hf with hf | hf
      · exact absurd hf hA
      · exact hf
    rw [hg] at hsp
    have hN : N = 4096 := by omega
    subst hN
    have hd1 : decide ((R : Int) < (U : Int) + (m : Int)) = false := by simp; omega
    have hd2 : decide (R < U + m) = false := by simpa using hA
    clear hf hm hg
    have Hmay := Lib.hid hmay
    have Hsp := Lib.hid hsp
    clear hmay hsp
    go_enter Tryz.func16, Tryz.ntmps16
    go_wp2_with fail
    refine Hmay.out.mono ?_
    rintro e w2 ⟨rfl, rfl⟩
    go_wp2_with fail
    refine Hsp.out.mono ?_
    rintro e w3 ⟨rfl, q, rfl⟩
    have HbW := Lib.hid (below_names w (.cells #[.string s] 9) q)
    have Hused := Lib.hid (fun n => HU.out _ (HbW.out.trans (show Below _ _ (((w.alloc (.cells #[.string s] 9)).drewN q).drewN n) from ⟨rfl, rfl, rfl, Nat.le_refl _, fun _ _ => rfl⟩)))
    obtain ⟨hc0, hc1⟩ := Hcells.out _ HbW.out
    generalize (w.alloc (.cells #[.string s] 9)).drewN q = W at *
    go_wp2_with fail
    go_quiet ((go_at_call 71; refine Calls.quiet_of_same (Hused.out _)))
    clear hc0 hc1
    go_wp2_with fail
    go_ret
    exact Hf.out _ (HbW.out.trans ⟨rfl, rfl, rfl, Nat.le_refl _, fun _ _ => rfl⟩)
/-- Behind the row that was laid anew: it is written, and the fuse burns on. -/
theorem rapp_end {W w7 : World} {own1 : Nat → Prop} {g i : Nat} {x : RFile} {v7 : Value} {d7 : Bs} {F : List (Bs × FileM)} (hc : RefCore W r v L own1 D.room D.fuse) (hg : v.ownBlock = some g) (hx : L[i]? = some x) (hb : Below W.heap.size W w7) (h7 : OwnB w7 5 v7 d7) (hn7 : ∀ k, v7.ownBlock = some k → W.heap.size ≤ k)
    (hF : F = (L.set i ⟨x.n, v7, ⟨d7, x.f.lasts⟩⟩).map RFile.key) (hok : DiskM.OK { D with files := F }) (hch : Chg own w W) (hx1 : ∀ k, own1 k → own k ∨ w.heap.size ≤ k) (hfz : D.fuse ≠ some 0) :
    Calls Tryz.prog 72 #[.pointer (some ⟨r, 0, none⟩)] (w7.setCell ⟨g, i * 3 + 1, none⟩ v7) (RStep w r own (DiskM.done { D with files := F }, 0)) := by
  have hk : RefCore w7 r v L own1 D.room D.fuse := hc.keep hb.size fun k hk => hb.block k (hc.olt k hk)
  have hgo := (hc.ov g hg).1
  have hs := hk.store hg hx 1 (by omega) v7 ⟨x.n, v7, ⟨d7, x.f.lasts⟩⟩ rfl (own' := fun k => own1 k ∨ v7.ownBlock = some k) (fun _ h => .inl h) h7
    (fun k hk => ⟨.inr hk, fun e => by have := hc.olt r hc.or; have := hn7 k hk; omega, fun e => by have := hc.olt g hgo; have := hn7 k hk; omega⟩)
    (fun k h => by
      rcases h with h | h
      · exact hk.olt k h
      · exact OwnR.lt h7 h)
  have hin : RefIn (w7.setCell ⟨g, i * 3 + 1, none⟩ v7) r v (L.set i ⟨x.n, v7, ⟨d7, x.f.lasts⟩⟩) (fun k => own1 k ∨ v7.ownBlock = some k) { D with files := F } := hs.full rfl rfl hF hok
  have hsz := hch.size
  have hch2 : Chg own w (w7.setCell ⟨g, i * 3 + 1, none⟩ v7) := by
    refine (hch.trans ((Chg.of_below hb).mono (T := fun _ => False) fun _ _ h => h) fun _ _ h => h.elim).trans (Chg.setCell w7 ⟨g, i * 3 + 1, none⟩ v7) fun k hk e => ?_
    have e : k = g := e
    rcases hx1 g hgo with h | h
    · rw [e]; exact h
    · omega
  refine (rdid_calls hin hfz).mono ?_
  intro e w8 h8
  refine rstep_did hch2 (fun k hk => ?_) hch2.size h8
  rcases hk with hk | hk
  · exact hx1 k hk
  · exact .inr (Nat.le_trans hsz (hn7 k hk))

set_option maxRecDepth 100000 in
set_option maxHeartbeats 8000000 in
/-- The file is there. -/
theorem rappend_is (h : RefIn w r v L own D) (s : ByteArray) (hs : s.size ≤ 9223372036854775807) {pb : Option Addr} {m cb : Nat} {l : Bs} (hl : HasB w (.slice pb m cb) l) (hm : D.may [nm s] = 0) {f : FileM} (hg : Sat.get (nm s) D.files = some f) (hroom : D.used + m ≤ D.room)
    (hok : DiskM.OK { D with files := put (nm s) ⟨f.data ++ l, f.lasts⟩ D.files }) :
    Calls Tryz.prog 16 #[.pointer (some ⟨r, 0, none⟩), .string s, .slice pb m cb] w (RStep w r own (DiskM.done { D with files := put (nm s) ⟨f.data ++ l, f.lasts⟩ D.files }, 0)) := by
  have hml : m = l.length := (bytes_in hl).1
  have h1 : RefIn (w.alloc (.cells #[.string s] 9)) r v L own D := h.below ((Below.refl _ _).alloc (Nat.le_refl _) _)
  have hmay := rmay_calls h1 (some ⟨w.heap.size, 0, none⟩) [s] 1 (strs_one w s) (by simp) (by simpa using hs)
  simp only [List.map_cons, List.map_nil] at hmay
  have hsp := spot_calls h1 s
  rw [h.is, hg] at hsp
  rw [hm] at hmay
  have HU := Lib.hid (fun W hb => rused_calls (h.below (w' := W) hb))
  obtain ⟨x, hx, hxn, rfl⟩ := h.hit hg
  have hlm := h.len_le hx
  have hxm := List.mem_of_getElem? hx
  have hN : spotN (nm s) (L.map RFile.n) < L.length := (List.getElem?_eq_some_iff.1 hx).1
  rcases h.at with h0 | ⟨g, c0, hgv, hlc, -⟩
  · rw [h0] at hN
    simp at hN
  have hgo : v.ownBlock = some g := by rw [hgv]; rfl
  have hub : D.used ≤ 1073741824 := Nat.le_trans h.ok.used h.ok.room
  have hrb := h.ok.room
  have hput := fun v' => h.put hg ⟨x.n, v', ⟨x.f.data ++ l, x.f.lasts⟩⟩ hxn
  have hfz := may_fuse hm
  obtain ⟨px, cx, ex, hxc⟩ := own_slice (h.data x hxm)
  generalize spotN (nm s) (L.map RFile.n) = i at *
  have Hcells := Lib.hid (show ∀ W, Below w.heap.size w W → W.cell? ⟨r, 0, none⟩ = some (.int .i64 (D.room : Int)) ∧ W.cell? ⟨r, 1, none⟩ = some (.slice (some ⟨g, 0, none⟩) L.length c0) from fun W hb => ⟨(h.below hb).c0, (h.below hb).c1.trans (by rw [hgv])⟩)
  have Hcells2 := Lib.hid (show ∀ W, Below w.heap.size w W → W.cell? ⟨r, 1, none⟩ = some (.slice (some ⟨g, 0, none⟩) L.length c0) ∧ W.cell? ⟨g, i * 3 + 1, none⟩ = some (.slice px x.f.data.length cx) ∧ W.frozen? ⟨g, i * 3 + 1, none⟩ = false from fun W hb => by
    have hW := h.below hb
    exact ⟨hW.c1.trans (by rw [hgv]), (hW.core.at hgo hx).2.1.trans (by rw [ex]), hW.core.free hgo _⟩)
  have Hxd := Lib.hid (show ∀ W, Below w.heap.size w W → Holds W 1 (.slice px x.f.data.length cx) x.f.data.length (bytesV x.f.data) from fun W hb => by
    have hW := ((h.below hb).data x hxm).has
    rw [ex] at hW
    exact hW)
  have Hld := Lib.hid (show ∀ W, Below w.heap.size w W → Holds W 1 (.slice pb m cb) m (bytesV l) from fun W hb => by
    have hW := hl.below hb
    unfold HasB at hW
    rw [← hml] at hW
    exact hW)
  have Hend := Lib.hid (show ∀ w7 v7, Below w.heap.size w w7 → OwnB w7 5 v7 (x.f.data ++ l) → (∀ k, v7.ownBlock = some k → w.heap.size ≤ k) → Calls Tryz.prog 72 #[.pointer (some ⟨r, 0, none⟩)] (w7.setCell ⟨g, i * 3 + 1, none⟩ v7) (RStep w r own (DiskM.done { D with files := put (nm s) ⟨x.f.data ++ l, x.f.lasts⟩ D.files }, 0)) from
    fun w7 v7 hb h7 hn7 => rapp_end h.core hgo hx hb h7 hn7 (hput v7) hok (Chg.refl _ _) (fun _ h => .inl h) hfz)
  have Hgr := Lib.hid (show r ≠ g from (h.ov g hgo).2.symm)
  have Hlen := Lib.hid (show (x.f.data ++ l).length = x.f.data.length + m from by rw [List.length_append, hml])
  obtain ⟨i0, hi, hz0, hz1, hz2⟩ := info_parts (show (Tryz.prog.info? 5).map (fun i => (i.zero, i.size, i.bytes)) = some (some (.int .u8 0), 1, 1) by kernel_rfl)
  clear h h1 hm hg hok hx hxm hput hgo ex hml hxc hl hlc hfz
  subst hgv
  generalize hxl : x.f.data.length = mx at *
  have hd1 : decide ((D.room : Int) < (D.used : Int) + (m : Int)) = false := by simp; omega
  have hd2 : decide (D.room < D.used + m) = false := by simp; omega
  generalize D.used = U at *
  generalize hRoom : D.room = R at *
  have Hmay := Lib.hid hmay
  have Hsp := Lib.hid hsp
  clear hmay hsp
  go_enter Tryz.func16, Tryz.ntmps16
  go_wp2_with fail
  refine Hmay.out.mono ?_
  rintro e w2 ⟨rfl, rfl⟩
  go_wp2_with fail
  refine Hsp.out.mono ?_
  rintro e w3 ⟨rfl, q, rfl⟩
  have HbW := Lib.hid (below_names w (.cells #[.string s] 9) q)
  have Hused := Lib.hid (fun n => HU.out _ (HbW.out.trans (show Below _ _ (((w.alloc (.cells #[.string s] 9)).drewN q).drewN n) from ⟨rfl, rfl, rfl, Nat.le_refl _, fun _ _ => rfl⟩)))
  obtain ⟨hc0, hc1⟩ := Hcells.out _ HbW.out
  generalize (w.alloc (.cells #[.string s] 9)).drewN q = W at *
  go_wp2_with fail
  go_quiet ((go_at_call 71; refine Calls.quiet_of_same (Hused.out _)))
  clear hc0 hc1
  go_wp2_with fail
  have X0 := Lib.hid (show Below w.heap.size w (W.drewN nq).drew from HbW.out.trans ⟨rfl, rfl, rfl, Nat.le_refl _, fun _ _ => rfl⟩)
  have hS := (Hcells2.out _ X0.out).1
  refine ord_start (fun W' : World => W'.cell? ⟨r, 1, none⟩ = some (.slice (some ⟨g, 0, none⟩) L.length c0)) (n := 20) (by kernel_rfl) rfl hS (fun hHeld => ?_)
  clear hS
  generalize (W.drewN nq).drew = Wd at *
  refine ord_take 0 (v := ?v1x0) rfl (by kernel_rfl) (by kernel_rfl) (by kernel_rfl) (fun _ _ _ h => h) (by rfl) (by assumption) ?y1x0 ?_
  case y1x0 => (intro w hSw; (try dsimp only at hSw); go_simp; try with_reducible rfl)
  simp only [Act.put, List.setIfInBounds_toArray, List.set_cons_zero, List.set_cons_succ]
  refine ord_take 1 (v := ?v1x1) rfl (by kernel_rfl) (by kernel_rfl) (by kernel_rfl) (fun _ _ _ h => h) (by rfl) (by assumption) ?y1x1 ?_
  case y1x1 => (intro w hSw; (try dsimp only at hSw); go_simp; try with_reducible rfl)
  simp only [Act.put, List.setIfInBounds_toArray, List.set_cons_zero, List.set_cons_succ]
  refine ord_take 2 (v := ?v1x2) rfl (by kernel_rfl) (by kernel_rfl) (by kernel_rfl) (fun _ _ _ h => h) (by rfl) (by assumption) ?y1x2 ?_
  case y1x2 => (intro w hSw; (try dsimp only at hSw); go_simp; try with_reducible rfl)
  simp only [Act.put, List.setIfInBounds_toArray, List.set_cons_zero, List.set_cons_succ]
  refine ord_take 3 (v := ?v1x3) rfl (by kernel_rfl) (by kernel_rfl) (by kernel_rfl) (fun _ _ _ h => h) (by rfl) (by assumption) ?y1x3 ?_
  case y1x3 => (intro w hSw; (try dsimp only at hSw); go_simp; try with_reducible rfl)
  simp only [Act.put, List.setIfInBounds_toArray, List.set_cons_zero, List.set_cons_succ]
  refine ord_take 4 (v := ?v1x4) rfl (by kernel_rfl) (by kernel_rfl) (by kernel_rfl) (fun _ _ _ h => h) (by rfl) (by assumption) ?y1x4 ?_
  case y1x4 => (intro w hSw; (try dsimp only at hSw); go_simp; try with_reducible rfl)
  simp only [Act.put, List.setIfInBounds_toArray, List.set_cons_zero, List.set_cons_succ]
  refine ord_take 6 (v := ?v1x6) rfl (by kernel_rfl) (by kernel_rfl) (by kernel_rfl) (fun _ _ _ h => h) (by rfl) (by assumption) ?y1x6 ?_
  case y1x6 => (intro w hSw; (try dsimp only at hSw); go_simp; try with_reducible rfl)
  simp only [Act.put, List.setIfInBounds_toArray, List.set_cons_zero, List.set_cons_succ]
  refine ord_take 7 (v := ?v1x7) rfl (by kernel_rfl) (by kernel_rfl) (by kernel_rfl) (fun _ _ _ h => h) (by rfl) (by assumption) ?y1x7 ?_
  case y1x7 => (intro w hSw; (try dsimp only at hSw); go_simp; try with_reducible rfl)
  simp only [Act.put, List.setIfInBounds_toArray, List.set_cons_zero, List.set_cons_succ]
  refine ord_take 8 (v := ?v1x8) rfl (by kernel_rfl) (by kernel_rfl) (by kernel_rfl) (fun _ _ _ h => h) (by rfl) (by assumption) ?y1x8 ?_
  case y1x8 => (intro w hSw; (try dsimp only at hSw); go_simp; try with_reducible rfl)
  simp only [Act.put, List.setIfInBounds_toArray, List.set_cons_zero, List.set_cons_succ]
  refine ord_take 9 (v := ?v1x9) rfl (by kernel_rfl) (by kernel_rfl) (by kernel_rfl) (fun _ _ _ h => h) (by rfl) (by assumption) ?y1x9 ?_
  case y1x9 => (intro w hSw; (try dsimp only at hSw); go_simp; try with_reducible rfl)
  simp only [Act.put, List.setIfInBounds_toArray, List.set_cons_zero, List.set_cons_succ]
  refine ord_take 10 (v := ?v1x10) rfl (by kernel_rfl) (by kernel_rfl) (by kernel_rfl) (fun _ _ _ h => h) (by rfl) (by assumption) ?y1x10 ?_
  case y1x10 => (intro w hSw; (try dsimp only at hSw); go_simp; try with_reducible rfl)
  simp only [Act.put, List.setIfInBounds_toArray, List.set_cons_zero, List.set_cons_succ]
  refine ord_take 11 (v := ?v1x11) rfl (by kernel_rfl) (by kernel_rfl) (by kernel_rfl) (fun _ _ _ h => h) (by rfl) (by assumption) ?y1x11 ?_
  case y1x11 => (intro w hSw; (try dsimp only at hSw); go_simp; try with_reducible rfl)
  simp only [Act.put, List.setIfInBounds_toArray, List.set_cons_zero, List.set_cons_succ]
  refine ord_take 12 (v := ?v1x12) rfl (by kernel_rfl) (by kernel_rfl) (by kernel_rfl) (fun _ _ _ h => h) (by rfl) (by assumption) ?y1x12 ?_
  case y1x12 => (intro w hSw; (try dsimp only at hSw); go_simp; try with_reducible rfl)
  simp only [Act.put, List.setIfInBounds_toArray, List.set_cons_zero, List.set_cons_succ]
  refine ord_take 15 (v := ?v1x15) rfl (by kernel_rfl) (by kernel_rfl) (by kernel_rfl) (fun _ _ _ h => h) (by rfl) (by assumption) ?y1x15 ?_
  case y1x15 => (intro w hSw; (try dsimp only at hSw); go_simp; try with_reducible rfl)
  simp only [Act.put, List.setIfInBounds_toArray, List.set_cons_zero, List.set_cons_succ]
  refine ord_two 5 13 rfl rfl (by kernel_rfl) (by rfl) (by rfl) (fun K hK => ?_) (fun K hK => ?_)
  · go_wp2_with fail
    have X1 := Lib.hid (X0.out.alloc X0.out.size (.cells #[] 5))
    refine hK.out _ _ ((Hcells2.out _ X1.out).1) (fun hHeld => ?_)
    clear hK
    try simp only [Act.put, List.setIfInBounds_toArray, List.set_cons_zero, List.set_cons_succ]
    refine ord_one 13 rfl (by kernel_rfl) (by rfl) (fun K hK => ?_)
    have hc2 := (Hcells2.out _ X1.out).2.1
    go_wp2_with fail
    clear hc2
    refine hK.out _ _ ((Hcells2.out _ X1.out).1) (fun hHeld => ?_)
    clear hK
    try simp only [Act.put, List.setIfInBounds_toArray, List.set_cons_zero, List.set_cons_succ]
    refine ord_one 14 rfl (by kernel_rfl) (by rfl) (fun K hK => ?_)
    have hown0 := own_empty Wd 5
    have hxd := Hxd.out _ X1.out
    refine wp_app (.tmp 77) (.tmp 85) 22 (by rfl) 5 i0 (.int .u8 0) 1 1 Tryz.underlying22 hi hz0 hz1 hz2 rfl (by decide) (.slice (some ⟨Wd.heap.size, 0, none⟩) 0 0) 0 [] (by rfl) hown0 (.slice px mx cx) mx _ (by rfl) hxd (bytesV_one _) (by unfold maxLen; omega) (by omega) ?_
    clear hown0 hxd
    intro v6 w6 hown6 hgrow6 hloc6
    have X6 := Lib.hid (X1.out.grown hgrow6 X1.out.size (fun j e => by have := X0.out.size; simp [Value.ownBlock] at e; omega))
    have hnew6 := own_ge (B := w.heap.size) hloc6 (fun k hk => by have := X0.out.size; simp [Value.ownBlock] at hk; omega) X1.out.size
    rw [Nat.zero_add, List.nil_append] at hown6
    obtain ⟨p6, c6, rfl⟩ := OwnR.shape hown6
    have Hown6 := Lib.hid hown6
    have Hnew6 := Lib.hid hnew6
    clear hgrow6 hloc6 hown6 hnew6
    refine hK.out _ _ ((Hcells2.out _ X6.out).1) (fun hHeld => ?_)
    clear hK
    try simp only [Act.put, List.setIfInBounds_toArray, List.set_cons_zero, List.set_cons_succ]
    refine ord_one 16 rfl (by kernel_rfl) (by rfl) (fun K hK => ?_)
    have hld := Hld.out _ X6.out
    refine wp_app (.tmp 86) (.tmp 87) 22 (by rfl) 5 i0 (.int .u8 0) 1 1 Tryz.underlying22 hi hz0 hz1 hz2 rfl (by decide) (.slice p6 mx c6) mx _ (by rfl) Hown6.out (.slice pb m cb) m _ (by rfl) hld (bytesV_one _) (by unfold maxLen; omega) (by omega) ?_
    clear hld
    intro v7 w7 hown7 hgrow7 hloc7
    have X7 := Lib.hid (X6.out.grown hgrow7 X6.out.size Hnew6.out)
    have hnew7 := own_ge (B := w.heap.size) hloc7 Hnew6.out X6.out.size
    obtain ⟨p7, c7, rfl⟩ := OwnR.shape hown7
    rw [← bytesV_app] at hown7
    have Hend7 := Lib.hid (Hend.out w7 (.slice p7 (mx + m) c7) X7.out (by unfold OwnB; rw [Hlen.out]; exact hown7) hnew7)
    clear hgrow7 hloc7 hown7 hnew7
    refine hK.out _ _ ((Hcells2.out _ X7.out).1) (fun hHeld => ?_)
    clear hK
    try simp only [Act.put, List.setIfInBounds_toArray, List.set_cons_zero, List.set_cons_succ]
    refine ord_take 17 (v := ?v2x17) rfl (by kernel_rfl) (by kernel_rfl) (by kernel_rfl) (fun _ _ _ h => h) (by rfl) (by assumption) ?y2x17 ?_
    case y2x17 => (intro w hSw; (try dsimp only at hSw); go_simp; try with_reducible rfl)
    simp only [Act.put, List.setIfInBounds_toArray, List.set_cons_zero, List.set_cons_succ]
    refine ord_take 18 (v := ?v2x18) rfl (by kernel_rfl) (by kernel_rfl) (by kernel_rfl) (fun _ _ _ h => h) (by rfl) (by assumption) ?y2x18 ?_
    case y2x18 => (intro w hSw; (try dsimp only at hSw); go_simp; try with_reducible rfl)
    simp only [Act.put, List.setIfInBounds_toArray, List.set_cons_zero, List.set_cons_succ]
    refine ord_one 19 rfl (by kernel_rfl) (by rfl) (fun K hK => ?_)
    obtain ⟨hc1, hc2, hfz1⟩ := Hcells2.out _ X7.out
    go_wp2_with fail
    have hcs : (w7.setCell ⟨g, i * 3 + 1, none⟩ (.slice p7 (mx + m) c7)).cell? ⟨r, 1, none⟩ = some (.slice (some ⟨g, 0, none⟩) L.length c0) := (World.cell?_of_block (set_other _ Hgr.out)).trans hc1
    clear hc1 hc2 hfz1
    refine hK.out _ _ (hcs) (fun hHeld => ?_)
    clear hK
    try simp only [Act.put, List.setIfInBounds_toArray, List.set_cons_zero, List.set_cons_succ]
    refine wpAnyH_done (by kernel_rfl) ?_ _
    clear hHeld
    go_wp2_with fail
    refine Hend7.out.mono ?_
    intro e w8 hE
    have HE := Lib.hid hE
    obtain ⟨rfl, -⟩ := hE
    go_wp2_with fail
    go_ret
    exact HE.out
  · have hc2 := (Hcells2.out _ X0.out).2.1
    go_wp2_with fail
    clear hc2
    refine hK.out _ _ ((Hcells2.out _ X0.out).1) (fun hHeld => ?_)
    clear hK
    try simp only [Act.put, List.setIfInBounds_toArray, List.set_cons_zero, List.set_cons_succ]
    refine ord_one 5 rfl (by kernel_rfl) (by rfl) (fun K hK => ?_)
    go_wp2_with fail
    have X1 := Lib.hid (X0.out.alloc X0.out.size (.cells #[] 5))
    refine hK.out _ _ ((Hcells2.out _ X1.out).1) (fun hHeld => ?_)
    clear hK
    try simp only [Act.put, List.setIfInBounds_toArray, List.set_cons_zero, List.set_cons_succ]
    refine ord_one 14 rfl (by kernel_rfl) (by rfl) (fun K hK => ?_)
    have hown0 := own_empty Wd 5
    have hxd := Hxd.out _ X1.out
    refine wp_app (.tmp 77) (.tmp 85) 22 (by rfl) 5 i0 (.int .u8 0) 1 1 Tryz.underlying22 hi hz0 hz1 hz2 rfl (by decide) (.slice (some ⟨Wd.heap.size, 0, none⟩) 0 0) 0 [] (by rfl) hown0 (.slice px mx cx) mx _ (by rfl) hxd (bytesV_one _) (by unfold maxLen; omega) (by omega) ?_
    clear hown0 hxd
    intro v6 w6 hown6 hgrow6 hloc6
    have X6 := Lib.hid (X1.out.grown hgrow6 X1.out.size (fun j e => by have := X0.out.size; simp [Value.ownBlock] at e; omega))
    have hnew6 := own_ge (B := w.heap.size) hloc6 (fun k hk => by have := X0.out.size; simp [Value.ownBlock] at hk; omega) X1.out.size
    rw [Nat.zero_add, List.nil_append] at hown6
    obtain ⟨p6, c6, rfl⟩ := OwnR.shape hown6
    have Hown6 := Lib.hid hown6
    have Hnew6 := Lib.hid hnew6
    clear hgrow6 hloc6 hown6 hnew6
    refine hK.out _ _ ((Hcells2.out _ X6.out).1) (fun hHeld => ?_)
    clear hK
    try simp only [Act.put, List.setIfInBounds_toArray, List.set_cons_zero, List.set_cons_succ]
    refine ord_one 16 rfl (by kernel_rfl) (by rfl) (fun K hK => ?_)
    have hld := Hld.out _ X6.out
    refine wp_app (.tmp 86) (.tmp 87) 22 (by rfl) 5 i0 (.int .u8 0) 1 1 Tryz.underlying22 hi hz0 hz1 hz2 rfl (by decide) (.slice p6 mx c6) mx _ (by rfl) Hown6.out (.slice pb m cb) m _ (by rfl) hld (bytesV_one _) (by unfold maxLen; omega) (by omega) ?_
    clear hld
    intro v7 w7 hown7 hgrow7 hloc7
    have X7 := Lib.hid (X6.out.grown hgrow7 X6.out.size Hnew6.out)
    have hnew7 := own_ge (B := w.heap.size) hloc7 Hnew6.out X6.out.size
    obtain ⟨p7, c7, rfl⟩ := OwnR.shape hown7
    rw [← bytesV_app] at hown7
    have Hend7 := Lib.hid (Hend.out w7 (.slice p7 (mx + m) c7) X7.out (by unfold OwnB; rw [Hlen.out]; exact hown7) hnew7)
    clear hgrow7 hloc7 hown7 hnew7
    refine hK.out _ _ ((Hcells2.out _ X7.out).1) (fun hHeld => ?_)
    clear hK
    try simp only [Act.put, List.setIfInBounds_toArray, List.set_cons_zero, List.set_cons_succ]
    refine ord_take 17 (v := ?v3x17) rfl (by kernel_rfl) (by kernel_rfl) (by kernel_rfl) (fun _ _ _ h => h) (by rfl) (by assumption) ?y3x17 ?_
    case y3x17 => (intro w hSw; (try dsimp only at hSw); go_simp; try with_reducible rfl)
    simp only [Act.put, List.setIfInBounds_toArray, List.set_cons_zero, List.set_cons_succ]
    refine ord_take 18 (v := ?v3x18) rfl (by kernel_rfl) (by kernel_rfl) (by kernel_rfl) (fun _ _ _ h => h) (by rfl) (by assumption) ?y3x18 ?_
    case y3x18 => (intro w hSw; (try dsimp only at hSw); go_simp; try with_reducible rfl)
    simp only [Act.put, List.setIfInBounds_toArray, List.set_cons_zero, List.set_cons_succ]
    refine ord_one 19 rfl (by kernel_rfl) (by rfl) (fun K hK => ?_)
    obtain ⟨hc1, hc2, hfz1⟩ := Hcells2.out _ X7.out
    go_wp2_with fail
    have hcs : (w7.setCell ⟨g, i * 3 + 1, none⟩ (.slice p7 (mx + m) c7)).cell? ⟨r, 1, none⟩ = some (.slice (some ⟨g, 0, none⟩) L.length c0) := (World.cell?_of_block (set_other _ Hgr.out)).trans hc1
    clear hc1 hc2 hfz1
    refine hK.out _ _ (hcs) (fun hHeld => ?_)
    clear hK
    try simp only [Act.put, List.setIfInBounds_toArray, List.set_cons_zero, List.set_cons_succ]
    refine wpAnyH_done (by kernel_rfl) ?_ _
    clear hHeld
    go_wp2_with fail
    refine Hend7.out.mono ?_
    intro e w8 hE
    have HE := Lib.hid hE
    obtain ⟨rfl, -⟩ := hE
    go_wp2_with fail
    go_ret
    exact HE.out
end
end Go.Proofs.YtapfnehdgailmaaGreat

namespace Go.Sat
open Go Go.RowKit
theorem own_emptyS (w : World) (e : TypeId) (size : Nat) : OwnR (w.alloc (.cells #[] e)) e size (.slice (some ⟨w.heap.size, 0, none⟩) 0 0) 0 [] :=
  ⟨by simp, .inr ⟨_, 0, #[], rfl, new_block w _, Nat.le_refl _, Nat.zero_le _, by simp, by simp⟩⟩
theorem holds_lit (w : World) (cs : Array Value) (xs : List Value) (size n c : Nat) (hl : cs.toList = xs) (hx : xs.length = n * size) (e : TypeId) (fr : Nat × Nat) : Holds (w.alloc (.cells cs e fr)) size (.slice (some ⟨w.heap.size, 0, none⟩) n c) n xs := by
  refine ⟨hx, some ⟨w.heap.size, 0, none⟩, c, rfl, fun e => (by cases e), fun a ha i u hu => ?_⟩
  cases ha
  rw [add_zero]
  refine cell_of (new_block w _) ?_
  rw [← hl] at hu
  simpa using hu
end Go.Sat
namespace Go.Proofs.YtapfnehdgailmaaGreat
open Go.RowKit Go.Sat Go.Maps

theorem has_void {w w' : World} {v : Value} {l : Bs} (h : HasB w v l) (hl : l = []) : HasB w' v l := by
  subst hl
  obtain ⟨hl, p, c, e, h0, -⟩ := h
  exact ⟨hl, p, c, e, h0, fun a ha i u hu => by simp [bytesV] at hu⟩

section
variable {w : World} {r : Nat} {v : Value} {L : List RFile} {own : Nat → Prop} {D : DiskM}

def nilF (n : Bs) : RFile := ⟨n, .slice none 0 0, ⟨[], 0⟩⟩

theorem new_cells (L : List RFile) (i : Nat) (n : Bs) : (L.take i ++ nilF n :: L.drop i).flatMap RFile.cells = ((L.flatMap RFile.cells).take (i * 3) ++ (nilF n).cells) ++ (L.flatMap RFile.cells).drop (i * 3) := by
  rw [List.flatMap_append, List.flatMap_cons, cells_take, cells_drop, List.append_assoc]

theorem RefIn.putn (h : RefIn w r v L own D) {n : Bs} (hg : Sat.get n D.files = none) (v' : Value) (f : FileM) : Sat.put n f D.files = ((L.take (spotN n (L.map RFile.n)) ++ nilF n :: L.drop (spotN n (L.map RFile.n))).set (spotN n (L.map RFile.n)) ⟨n, v', f⟩).map RFile.key := by
  have hle : spotN n (L.map RFile.n) ≤ L.length := by have := spotN_le n (L.map RFile.n); rwa [List.length_map] at this
  have h1 : Sat.put n f D.files = ins (n, f) D.files := by unfold Sat.put; rw [del_none hg]
  rw [h1, ins_at n f h.ok.srt hg, ← h.names, h.files]
  generalize spotN n (L.map RFile.n) = i at *
  rw [List.set_append_right _ _ (by rw [List.length_take]; omega), List.length_take, Nat.min_eq_left hle, Nat.sub_self, List.set_cons_zero, List.map_append, List.map_cons, List.map_take, List.map_drop]
  rfl

set_option maxRecDepth 100000 in
set_option maxHeartbeats 8000000 in
/-- The file is not there. -/
theorem rappend_new (h : RefIn w r v L own D) (s : ByteArray) (hs : s.size ≤ 9223372036854775807) {pb : Option Addr} {m cb : Nat} {l : Bs} (hl : HasB w (.slice pb m cb) l) (hno : l ≠ [] → ∀ k, (Value.slice pb m cb).ownBlock = some k → ¬ own k) (hm : D.may [nm s] = 0) (hg : Sat.get (nm s) D.files = none) (hroom : D.used + m ≤ D.room) (hcnt : D.files.length < 4096)
    (hok : DiskM.OK { D with files := put (nm s) ⟨[] ++ l, 0⟩ D.files }) :
    Calls Tryz.prog 16 #[.pointer (some ⟨r, 0, none⟩), .string s, .slice pb m cb] w (RStep w r own (DiskM.done { D with files := put (nm s) ⟨[] ++ l, 0⟩ D.files }, 0)) := by
  have hml : m = l.length := (bytes_in hl).1
  have h1 : RefIn (w.alloc (.cells #[.string s] 9)) r v L own D := h.below ((Below.refl _ _).alloc (Nat.le_refl _) _)
  have hmay := rmay_calls h1 (some ⟨w.heap.size, 0, none⟩) [s] 1 (strs_one w s) (by simp) (by simpa using hs)
  simp only [List.map_cons, List.map_nil] at hmay
  have hsp := spot_calls h1 s
  rw [h.is, hg] at hsp
  rw [hm] at hmay
  have HU := Lib.hid (fun W hb => rused_calls (h.below (w' := W) hb))
  have hub : D.used ≤ 1073741824 := Nat.le_trans h.ok.used h.ok.room
  have hrb := h.ok.room
  have hput := fun v' => h.putn hg v' ⟨[] ++ l, 0⟩
  have hfz := may_fuse hm
  rw [← h.len] at hcnt
  have hle : spotN (nm s) (L.map RFile.n) ≤ L.length := by have := spotN_le (nm s) (L.map RFile.n); rwa [List.length_map] at this
  obtain ⟨pv, cv, hgv⟩ := h.slice
  have hNc : L.length ≤ cv := by
    rcases h.at with h0 | ⟨g, c0, e, hc, -⟩
    · rw [h0]; exact Nat.zero_le _
    · rw [hgv] at e; cases e; exact hc
  generalize spotN (nm s) (L.map RFile.n) = i at *
  have Hcells := Lib.hid (show ∀ W, Below w.heap.size w W → W.cell? ⟨r, 0, none⟩ = some (.int .i64 (D.room : Int)) ∧ W.cell? ⟨r, 1, none⟩ = some (.slice pv L.length cv) from fun W hb => ⟨(h.below hb).c0, (h.below hb).c1.trans (by rw [hgv])⟩)
  have Hfr := Lib.hid (show ∀ W, Below w.heap.size w W → W.frozen? ⟨r, 1, none⟩ = false from fun W hb => frozen_of (h.below hb).cells 1)
  have Hrow := Lib.hid (show ∀ W, Below w.heap.size w W → OwnR W 127 3 (.slice pv L.length cv) L.length (L.flatMap RFile.cells) from fun W hb => by rw [← hgv]; exact (h.below hb).row)
  have Hone := Lib.hid (cells_one h.core.one)
  have Hl := Lib.hid hl
  have Hml := Lib.hid hml
  have Hno := Lib.hid hno
  have Hput := Lib.hid hput
  have Hok := Lib.hid hok
  have Hfz := Lib.hid hfz
  have H := Lib.hid h
  obtain ⟨i0, hi, hz0, hz1, hz2⟩ := info_parts (show (Tryz.prog.info? 5).map (fun i => (i.zero, i.size, i.bytes)) = some (some (.int .u8 0), 1, 1) by kernel_rfl)
  obtain ⟨iF, hFi, hF0, hF1, hF2⟩ := info_parts (show (Tryz.prog.info? 127).map (fun i => (i.zero, i.size, i.bytes)) = some (some (.agg #[.string ⟨#[]⟩, .slice none 0 0, .int .i64 0]), 3, 48) by kernel_rfl)
  have hs1 : ∀ W, (Instr.slice 116 (.slice pv L.length cv) none (some (.int .i64 (i : Int))) none).run Tryz.prog W = .ok (.slice pv i cv) W := fun W => run_upto W Tryz.underlying116 hFi pv _ cv i (by omega)
  have hs2 : ∀ W, (Instr.slice 116 (.slice pv L.length cv) (some (.int .i64 (i : Int))) none none).run Tryz.prog W = .ok (.slice (if cv - i = 0 then pv else pv.map fun x => x.add (i * 3)) (L.length - i) (cv - i)) W := fun W => by
    have := run_from_any (P := Tryz.prog) W Tryz.underlying116 hFi pv L.length cv i hle hNc
    rw [hF1] at this
    exact this
  have Hfrom := Lib.hid (show ∀ W, Below w.heap.size w W → Holds W 3 (.slice (if cv - i = 0 then pv else pv.map fun x => x.add (i * 3)) (L.length - i) (cv - i)) (L.length - i) ((L.flatMap RFile.cells).drop (i * 3)) from fun W hb => OwnR.cut_from (Hrow.out W hb) hle)
  generalize hpF : (if cv - i = 0 then pv else pv.map fun x => x.add (i * 3)) = pF at *
  clear h h1 hm hg hok hput hml hl hfz hno hpF
  subst hgv
  have hd1 : decide ((D.room : Int) < (D.used : Int) + (m : Int)) = false := by simp; omega
  have hd2 : decide (D.room < D.used + m) = false := by simp; omega
  generalize hU : D.used = U at *
  generalize hN : L.length = N at *
  have HN := Lib.hid hN
  clear hN hU
  have Hmay := Lib.hid hmay
  have Hsp := Lib.hid hsp
  clear hmay hsp
  go_enter Tryz.func16, Tryz.ntmps16
  go_wp2_with fail
  refine Hmay.out.mono ?_
  rintro e w2 ⟨rfl, rfl⟩
  go_wp2_with fail
  refine Hsp.out.mono ?_
  rintro e w3 ⟨rfl, q, rfl⟩
  have HbW := Lib.hid (below_names w (.cells #[.string s] 9) q)
  have Hused := Lib.hid (fun n => HU.out _ (HbW.out.trans (show Below _ _ (((w.alloc (.cells #[.string s] 9)).drewN q).drewN n) from ⟨rfl, rfl, rfl, Nat.le_refl _, fun _ _ => rfl⟩)))
  obtain ⟨hc0, hc1⟩ := Hcells.out _ HbW.out
  generalize (w.alloc (.cells #[.string s] 9)).drewN q = W at *
  go_wp2_with fail
  go_quiet ((go_at_call 71; refine Calls.quiet_of_same (Hused.out _)))
  clear hc0 hc1
  have X0 := Lib.hid (show Below w.heap.size w (W.drewN nq) from HbW.out.trans ⟨rfl, rfl, rfl, Nat.le_refl _, fun _ _ => rfl⟩)
  generalize W.drewN nq = Wq at *
  have X1 := Lib.hid (X0.out.alloc X0.out.size (.cells #[] 127))
  have hc1a := (Hcells.out _ X1.out).2
  have Hup := Lib.hid (show Holds (Wq.alloc (.cells #[] 127)) 3 (.slice pv i cv) i ((L.flatMap RFile.cells).take (i * 3)) from Holds.upto (OwnR.holds (Hrow.out _ X1.out)) hle cv)
  go_wp2_with (first | (at_builtin; refine wpList_app (Wq.alloc (.cells #[] 127)) rfl (.tmp 48) (.tmp 54) 116 rfl 127 iF _ 3 48 Tryz.underlying116 hFi hF0 hF1 hF2 rfl (by decide) (.slice (some ⟨Wq.heap.size, 0, none⟩) 0 0) 0 [] rfl (own_emptyS Wq _ 3) (.slice pv i cv) i _ rfl Hup.out (fun u hu => Hone.out u (List.mem_of_mem_take hu)) (by unfold maxLen; omega) (by omega) ?_; intro v12 w12 hown12 hgrow12 hloc12; rw [Nat.zero_add, List.nil_append] at hown12; have hX := X1.out.grown hgrow12 X1.out.size (fun j e => by have := X0.out.size; simp [Value.ownBlock] at e; omega); have hnew := own_ge (B := w.heap.size) hloc12 (fun k hk => by have := X0.out.size; simp [Value.ownBlock] at hk; omega) X1.out.size; obtain ⟨p12, c12, rfl⟩ := OwnR.shape hown12; have X12 := Lib.hid (And.intro hX (And.intro hown12 hnew)); clear hown12 hgrow12 hloc12 hX hnew hc1a) | (at_builtin; refine wpList_app (w12.alloc (.cells #[.string s, .slice none 0 0, .int .i64 0] 127)) rfl (.tmp 56) (.tmp 59) 116 rfl 127 iF _ 3 48 Tryz.underlying116 hFi hF0 hF1 hF2 rfl (by decide) (.slice p12 i c12) i _ rfl (OwnR.keep X12.out.2.1 fun j hj => alloc_was w12 _ (OwnR.lt X12.out.2.1 hj)) (.slice (some ⟨w12.heap.size, 0, none⟩) 1 1) 1 [.string s, .slice none 0 0, .int .i64 0] rfl (holds_lit w12 #[.string s, .slice none 0 0, .int .i64 0] _ 3 1 1 rfl rfl _ _) (fun u hu => by simp at hu; rcases hu with rfl | rfl | rfl <;> rfl) (by unfold maxLen; omega) (by omega) ?_; intro v13 w13 hown13 hgrow13 hloc13; have hXa := X12.out.1.alloc X12.out.1.size (.cells #[.string s, .slice none 0 0, .int .i64 0] 127); have hX := hXa.grown hgrow13 hXa.size (fun j hj => X12.out.2.2 j hj); have hnew := own_ge (B := w.heap.size) hloc13 X12.out.2.2 hXa.size; obtain ⟨p13, c13, rfl⟩ := OwnR.shape hown13; have X13 := Lib.hid (And.intro hX (And.intro hown13 hnew)); have hc1b := (Hcells.out _ X13.out.1).2; clear hown13 hgrow13 hloc13 hX hnew hXa) | (at_builtin; refine wpList_app w13 rfl (.tmp 62) (.tmp 68) 116 rfl 127 iF _ 3 48 Tryz.underlying116 hFi hF0 hF1 hF2 rfl (by decide) (.slice p13 (i + 1) c13) (i + 1) _ rfl X13.out.2.1 (.slice pF (N - i) (cv - i)) (N - i) _ rfl (Hfrom.out w13 X13.out.1) (fun u hu => Hone.out u (List.mem_of_mem_drop hu)) (by unfold maxLen; omega) (by omega) ?_; intro v14 w14 hown14 hgrow14 hloc14; have hX := X13.out.1.grown hgrow14 X13.out.1.size (fun j hj => X13.out.2.2 j hj); have hnew := own_ge (B := w.heap.size) hloc14 X13.out.2.2 X13.out.1.size; obtain ⟨p14, c14, rfl⟩ := OwnR.shape hown14; have X14 := Lib.hid (And.intro hX (And.intro hown14 hnew)); have hc1c := (Hcells.out _ X14.out.1).2; have hfrc := Hfr.out _ X14.out.1; clear hown14 hgrow14 hloc14 hX hnew hc1b))
  clear hc1c hfrc
  have hrow := X14.out.2.1
  have hcore0 := (H.out.below X14.out.1).core
  have es : Value.string s = encStr (nm s) := by rw [enc_str]; simp [nm]
  have hlen' : (L.take i ++ nilF (nm s) :: L.drop i).length = i + 1 + (N - i) := by
    rw [List.length_append, List.length_take, List.length_cons, List.length_drop, HN.out]
    omega
  have hrow' : OwnR w14 127 3 (.slice p14 (i + 1 + (N - i)) c14) (L.take i ++ nilF (nm s) :: L.drop i).length ((L.take i ++ nilF (nm s) :: L.drop i).flatMap RFile.cells) := by
    rw [new_cells, hlen']
    show OwnR w14 _ 3 _ _ (((L.flatMap RFile.cells).take (i * 3) ++ [encStr (nm s), .slice none 0 0, .int .i64 0]) ++ _)
    rw [← es]
    exact hrow
  have hfresh : ∀ k, (Value.slice p14 (i + 1 + (N - i)) c14).ownBlock = some k → ¬ own k := fun k hk ho => by
    have h1 := X14.out.2.2 k hk
    have h2 := H.out.olt k ho
    omega
  have hcore := hcore0.relist hrow' (fun x hx => by
    rcases List.mem_append.1 hx with hx | hx
    · exact .inl (List.mem_of_mem_take hx)
    · rcases List.mem_cons.1 hx with rfl | hx
      · exact .inr ⟨OwnR.nil _ _ _, fun k hk => by cases hk⟩
      · exact .inl (List.mem_of_mem_drop hx)) hfresh
  have hld : HasB (w14.setCell ⟨r, 1, none⟩ (.slice p14 (i + 1 + (N - i)) c14)) (.slice pb m cb) l := by
    by_cases hl0 : l = []
    · exact has_void Hl.out hl0
    · exact Hl.out.same fun k hk => by
        have h1 := Hl.out.lt hl0 hk
        have h2 : k ≠ r := fun e => Hno.out hl0 k hk (by rw [e]; exact H.out.or)
        exact (set_other _ h2).trans (X14.out.1.block k h1)
  have hch : Chg own w (w14.setCell ⟨r, 1, none⟩ (.slice p14 (i + 1 + (N - i)) c14)) := chg_below X14.out.1 (chg_own H.out.or)
  have hx1 : ∀ k, (own k ∨ (Value.slice p14 (i + 1 + (N - i)) c14).ownBlock = some k) → own k ∨ w.heap.size ≤ k := fun k hk => hk.imp id (X14.out.2.2 k)
  have hxi : (L.take i ++ nilF (nm s) :: L.drop i)[i]? = some (nilF (nm s)) := by
    rw [List.getElem?_append_right (by rw [List.length_take]; omega), List.length_take, HN.out, Nat.min_eq_left hle, Nat.sub_self]
    rfl
  obtain ⟨g, rfl⟩ : ∃ g, p14 = some ⟨g, 0, none⟩ := by
    rcases hrow.2 with ⟨e, hn⟩ | ⟨g', cap, cur, e, _⟩
    · omega
    · cases e
      exact ⟨g', rfl⟩
  have Hgr := Lib.hid (show r ≠ g from (hcore.ov g rfl).2.symm)
  have Hcore := Lib.hid hcore
  have Hcells2 := Lib.hid (show ∀ W, Below (w14.setCell ⟨r, 1, none⟩ (.slice (some ⟨g, 0, none⟩) (i + 1 + (N - i)) c14)).heap.size (w14.setCell ⟨r, 1, none⟩ (.slice (some ⟨g, 0, none⟩) (i + 1 + (N - i)) c14)) W → W.cell? ⟨r, 1, none⟩ = some (.slice (some ⟨g, 0, none⟩) (i + 1 + (N - i)) c14) ∧ W.cell? ⟨g, i * 3 + 1, none⟩ = some (.slice none 0 0) ∧ W.frozen? ⟨g, i * 3 + 1, none⟩ = false from fun W hb => by
    have hW := hcore.keep (w' := W) hb.size fun k hk => hb.block k (hcore.olt k hk)
    exact ⟨hW.c1, (hW.at rfl hxi).2.1, hW.free rfl _⟩)
  have Hxd := Lib.hid (fun (W : World) (_ : Below (w14.setCell ⟨r, 1, none⟩ (.slice (some ⟨g, 0, none⟩) (i + 1 + (N - i)) c14)).heap.size (w14.setCell ⟨r, 1, none⟩ (.slice (some ⟨g, 0, none⟩) (i + 1 + (N - i)) c14)) W) => (show Holds W 1 (.slice none 0 0) 0 (bytesV []) from ⟨rfl, none, 0, rfl, fun _ => rfl, fun a ha => by cases ha⟩))
  have Hld := Lib.hid (fun (W : World) (hb : Below (w14.setCell ⟨r, 1, none⟩ (.slice (some ⟨g, 0, none⟩) (i + 1 + (N - i)) c14)).heap.size (w14.setCell ⟨r, 1, none⟩ (.slice (some ⟨g, 0, none⟩) (i + 1 + (N - i)) c14)) W) => (show Holds W 1 (.slice pb m cb) m (bytesV l) from by
    have hW := hld.below hb
    unfold HasB at hW
    rw [← Hml.out] at hW
    exact hW))
  have Hend := Lib.hid (fun (w7 : World) (v7 : Value) (hb : Below (w14.setCell ⟨r, 1, none⟩ (.slice (some ⟨g, 0, none⟩) (i + 1 + (N - i)) c14)).heap.size (w14.setCell ⟨r, 1, none⟩ (.slice (some ⟨g, 0, none⟩) (i + 1 + (N - i)) c14)) w7) (h7 : OwnB w7 5 v7 ([] ++ l)) (hn7 : ∀ k, v7.ownBlock = some k → (w14.setCell ⟨r, 1, none⟩ (.slice (some ⟨g, 0, none⟩) (i + 1 + (N - i)) c14)).heap.size ≤ k) => rapp_end (D := D) hcore rfl hxi hb h7 hn7 (Hput.out v7) Hok.out hch hx1 Hfz.out)
  have Hlen := Lib.hid (show ([] ++ l : Bs).length = m from by rw [List.nil_append, Hml.out])
  clear hrow hcore0 es hlen' hrow' hfresh hcore hld hch hx1 hxi Hcore X0 X1 X12 X13 X14 Hup
  generalize w14.setCell ⟨r, 1, none⟩ (.slice (some ⟨g, 0, none⟩) (i + 1 + (N - i)) c14) = Ws at *
  generalize hM : i + 1 + (N - i) = M at *
  have hiM : i < M := by omega
  clear hM
  obtain ⟨hc1d, -, -⟩ := Hcells2.out _ (Below.refl _ _)
  go_wp2_with fail
  clear hc1d
  have X0 := Lib.hid (show Below Ws.heap.size Ws Ws.drew from ⟨rfl, rfl, rfl, Nat.le_refl _, fun _ _ => rfl⟩)
  have hS := (Hcells2.out _ X0.out).1
  refine ord_start (fun W' : World => W'.cell? ⟨r, 1, none⟩ = some (.slice (some ⟨g, 0, none⟩) M c14)) (n := 20) (by kernel_rfl) rfl hS (fun hHeld => ?_)
  clear hS
  generalize Ws.drew = Wd at *
  refine ord_take 0 (v := ?v4x0) rfl (by kernel_rfl) (by kernel_rfl) (by kernel_rfl) (fun _ _ _ h => h) (by rfl) (by assumption) ?y4x0 ?_
  case y4x0 => (intro w hSw; (try dsimp only at hSw); go_simp; try with_reducible rfl)
  simp only [Act.put, List.setIfInBounds_toArray, List.set_cons_zero, List.set_cons_succ]
  refine ord_take 1 (v := ?v4x1) rfl (by kernel_rfl) (by kernel_rfl) (by kernel_rfl) (fun _ _ _ h => h) (by rfl) (by assumption) ?y4x1 ?_
  case y4x1 => (intro w hSw; (try dsimp only at hSw); go_simp; try with_reducible rfl)
  simp only [Act.put, List.setIfInBounds_toArray, List.set_cons_zero, List.set_cons_succ]
  refine ord_take 2 (v := ?v4x2) rfl (by kernel_rfl) (by kernel_rfl) (by kernel_rfl) (fun _ _ _ h => h) (by rfl) (by assumption) ?y4x2 ?_
  case y4x2 => (intro w hSw; (try dsimp only at hSw); go_simp; try with_reducible rfl)
  simp only [Act.put, List.setIfInBounds_toArray, List.set_cons_zero, List.set_cons_succ]
  refine ord_take 3 (v := ?v4x3) rfl (by kernel_rfl) (by kernel_rfl) (by kernel_rfl) (fun _ _ _ h => h) (by rfl) (by assumption) ?y4x3 ?_
  case y4x3 => (intro w hSw; (try dsimp only at hSw); go_simp; try with_reducible rfl)
  simp only [Act.put, List.setIfInBounds_toArray, List.set_cons_zero, List.set_cons_succ]
  refine ord_take 4 (v := ?v4x4) rfl (by kernel_rfl) (by kernel_rfl) (by kernel_rfl) (fun _ _ _ h => h) (by rfl) (by assumption) ?y4x4 ?_
  case y4x4 => (intro w hSw; (try dsimp only at hSw); go_simp; try with_reducible rfl)
  simp only [Act.put, List.setIfInBounds_toArray, List.set_cons_zero, List.set_cons_succ]
  refine ord_take 6 (v := ?v4x6) rfl (by kernel_rfl) (by kernel_rfl) (by kernel_rfl) (fun _ _ _ h => h) (by rfl) (by assumption) ?y4x6 ?_
  case y4x6 => (intro w hSw; (try dsimp only at hSw); go_simp; try with_reducible rfl)
  simp only [Act.put, List.setIfInBounds_toArray, List.set_cons_zero, List.set_cons_succ]
  refine ord_take 7 (v := ?v4x7) rfl (by kernel_rfl) (by kernel_rfl) (by kernel_rfl) (fun _ _ _ h => h) (by rfl) (by assumption) ?y4x7 ?_
  case y4x7 => (intro w hSw; (try dsimp only at hSw); go_simp; try with_reducible rfl)
  simp only [Act.put, List.setIfInBounds_toArray, List.set_cons_zero, List.set_cons_succ]
  refine ord_take 8 (v := ?v4x8) rfl (by kernel_rfl) (by kernel_rfl) (by kernel_rfl) (fun _ _ _ h => h) (by rfl) (by assumption) ?y4x8 ?_
  case y4x8 => (intro w hSw; (try dsimp only at hSw); go_simp; try with_reducible rfl)
  simp only [Act.put, List.setIfInBounds_toArray, List.set_cons_zero, List.set_cons_succ]
  refine ord_take 9 (v := ?v4x9) rfl (by kernel_rfl) (by kernel_rfl) (by kernel_rfl) (fun _ _ _ h => h) (by rfl) (by assumption) ?y4x9 ?_
  case y4x9 => (intro w hSw; (try dsimp only at hSw); go_simp; try with_reducible rfl)
  simp only [Act.put, List.setIfInBounds_toArray, List.set_cons_zero, List.set_cons_succ]
  refine ord_take 10 (v := ?v4x10) rfl (by kernel_rfl) (by kernel_rfl) (by kernel_rfl) (fun _ _ _ h => h) (by rfl) (by assumption) ?y4x10 ?_
  case y4x10 => (intro w hSw; (try dsimp only at hSw); go_simp; try with_reducible rfl)
  simp only [Act.put, List.setIfInBounds_toArray, List.set_cons_zero, List.set_cons_succ]
  refine ord_take 11 (v := ?v4x11) rfl (by kernel_rfl) (by kernel_rfl) (by kernel_rfl) (fun _ _ _ h => h) (by rfl) (by assumption) ?y4x11 ?_
  case y4x11 => (intro w hSw; (try dsimp only at hSw); go_simp; try with_reducible rfl)
  simp only [Act.put, List.setIfInBounds_toArray, List.set_cons_zero, List.set_cons_succ]
  refine ord_take 12 (v := ?v4x12) rfl (by kernel_rfl) (by kernel_rfl) (by kernel_rfl) (fun _ _ _ h => h) (by rfl) (by assumption) ?y4x12 ?_
  case y4x12 => (intro w hSw; (try dsimp only at hSw); go_simp; try with_reducible rfl)
  simp only [Act.put, List.setIfInBounds_toArray, List.set_cons_zero, List.set_cons_succ]
  refine ord_take 15 (v := ?v4x15) rfl (by kernel_rfl) (by kernel_rfl) (by kernel_rfl) (fun _ _ _ h => h) (by rfl) (by assumption) ?y4x15 ?_
  case y4x15 => (intro w hSw; (try dsimp only at hSw); go_simp; try with_reducible rfl)
  simp only [Act.put, List.setIfInBounds_toArray, List.set_cons_zero, List.set_cons_succ]
  refine ord_two 5 13 rfl rfl (by kernel_rfl) (by rfl) (by rfl) (fun K hK => ?_) (fun K hK => ?_)
  · go_wp2_with fail
    have X1 := Lib.hid (X0.out.alloc X0.out.size (.cells #[] 5))
    refine hK.out _ _ ((Hcells2.out _ X1.out).1) (fun hHeld => ?_)
    clear hK
    try simp only [Act.put, List.setIfInBounds_toArray, List.set_cons_zero, List.set_cons_succ]
    refine ord_one 13 rfl (by kernel_rfl) (by rfl) (fun K hK => ?_)
    have hc2 := (Hcells2.out _ X1.out).2.1
    go_wp2_with fail
    clear hc2
    refine hK.out _ _ ((Hcells2.out _ X1.out).1) (fun hHeld => ?_)
    clear hK
    try simp only [Act.put, List.setIfInBounds_toArray, List.set_cons_zero, List.set_cons_succ]
    refine ord_one 14 rfl (by kernel_rfl) (by rfl) (fun K hK => ?_)
    have hown0 := own_empty Wd 5
    have hxd := Hxd.out _ X1.out
    refine wp_app (.tmp 77) (.tmp 85) 22 (by rfl) 5 i0 (.int .u8 0) 1 1 Tryz.underlying22 hi hz0 hz1 hz2 rfl (by decide) (.slice (some ⟨Wd.heap.size, 0, none⟩) 0 0) 0 [] (by rfl) hown0 (.slice none 0 0) 0 _ (by rfl) hxd (bytesV_one _) (by unfold maxLen; omega) (by omega) ?_
    clear hown0 hxd
    intro v6 w6 hown6 hgrow6 hloc6
    have X6 := Lib.hid (X1.out.grown hgrow6 X1.out.size (fun j e => by have := X0.out.size; simp [Value.ownBlock] at e; omega))
    have hnew6 := own_ge (B := Ws.heap.size) hloc6 (fun k hk => by have := X0.out.size; simp [Value.ownBlock] at hk; omega) X1.out.size
    rw [Nat.zero_add, List.nil_append] at hown6
    obtain ⟨p6, c6, rfl⟩ := OwnR.shape hown6
    have Hown6 := Lib.hid hown6
    have Hnew6 := Lib.hid hnew6
    clear hgrow6 hloc6 hown6 hnew6
    refine hK.out _ _ ((Hcells2.out _ X6.out).1) (fun hHeld => ?_)
    clear hK
    try simp only [Act.put, List.setIfInBounds_toArray, List.set_cons_zero, List.set_cons_succ]
    refine ord_one 16 rfl (by kernel_rfl) (by rfl) (fun K hK => ?_)
    have hld := Hld.out _ X6.out
    refine wp_app (.tmp 86) (.tmp 87) 22 (by rfl) 5 i0 (.int .u8 0) 1 1 Tryz.underlying22 hi hz0 hz1 hz2 rfl (by decide) (.slice p6 0 c6) 0 _ (by rfl) Hown6.out (.slice pb m cb) m _ (by rfl) hld (bytesV_one _) (by unfold maxLen; omega) (by omega) ?_
    clear hld
    intro v7 w7 hown7 hgrow7 hloc7
    have X7 := Lib.hid (X6.out.grown hgrow7 X6.out.size Hnew6.out)
    have hnew7 := own_ge (B := Ws.heap.size) hloc7 Hnew6.out X6.out.size
    rw [Nat.zero_add] at hown7
    obtain ⟨p7, c7, rfl⟩ := OwnR.shape hown7
    rw [← bytesV_app] at hown7
    have Hend7 := Lib.hid (Hend.out w7 (.slice p7 m c7) X7.out (by unfold OwnB; rw [Hlen.out]; exact hown7) hnew7)
    clear hgrow7 hloc7 hown7 hnew7
    refine hK.out _ _ ((Hcells2.out _ X7.out).1) (fun hHeld => ?_)
    clear hK
    try simp only [Act.put, List.setIfInBounds_toArray, List.set_cons_zero, List.set_cons_succ]
    refine ord_take 17 (v := ?v5x17) rfl (by kernel_rfl) (by kernel_rfl) (by kernel_rfl) (fun _ _ _ h => h) (by rfl) (by assumption) ?y5x17 ?_
    case y5x17 => (intro w hSw; (try dsimp only at hSw); go_simp; try with_reducible rfl)
    simp only [Act.put, List.setIfInBounds_toArray, List.set_cons_zero, List.set_cons_succ]
    refine ord_take 18 (v := ?v5x18) rfl (by kernel_rfl) (by kernel_rfl) (by kernel_rfl) (fun _ _ _ h => h) (by rfl) (by assumption) ?y5x18 ?_
    case y5x18 => (intro w hSw; (try dsimp only at hSw); go_simp; try with_reducible rfl)
    simp only [Act.put, List.setIfInBounds_toArray, List.set_cons_zero, List.set_cons_succ]
    refine ord_one 19 rfl (by kernel_rfl) (by rfl) (fun K hK => ?_)
    obtain ⟨hc1, hc2, hfz1⟩ := Hcells2.out _ X7.out
    go_wp2_with fail
    have hcs : (w7.setCell ⟨g, i * 3 + 1, none⟩ (.slice p7 m c7)).cell? ⟨r, 1, none⟩ = some (.slice (some ⟨g, 0, none⟩) M c14) := (World.cell?_of_block (set_other _ Hgr.out)).trans hc1
    clear hc1 hc2 hfz1
    refine hK.out _ _ (hcs) (fun hHeld => ?_)
    clear hK
    try simp only [Act.put, List.setIfInBounds_toArray, List.set_cons_zero, List.set_cons_succ]
    refine wpAnyH_done (by kernel_rfl) ?_ _
    clear hHeld
    go_wp2_with fail
    refine Hend7.out.mono ?_
    intro e w8 hE
    have HE := Lib.hid hE
    obtain ⟨rfl, -⟩ := hE
    go_wp2_with fail
    go_ret
    exact HE.out
  · have hc2 := (Hcells2.out _ X0.out).2.1
    go_wp2_with fail
    clear hc2
    refine hK.out _ _ ((Hcells2.out _ X0.out).1) (fun hHeld => ?_)
    clear hK
    try simp only [Act.put, List.setIfInBounds_toArray, List.set_cons_zero, List.set_cons_succ]
    refine ord_one 5 rfl (by kernel_rfl) (by rfl) (fun K hK => ?_)
    go_wp2_with fail
    have X1 := Lib.hid (X0.out.alloc X0.out.size (.cells #[] 5))
    refine hK.out _ _ ((Hcells2.out _ X1.out).1) (fun hHeld => ?_)
    clear hK
    try simp only [Act.put, List.setIfInBounds_toArray, List.set_cons_zero, List.set_cons_succ]
    refine ord_one 14 rfl (by kernel_rfl) (by rfl) (fun K hK => ?_)
    have hown0 := own_empty Wd 5
    have hxd := Hxd.out _ X1.out
    refine wp_app (.tmp 77) (.tmp 85) 22 (by rfl) 5 i0 (.int .u8 0) 1 1 Tryz.underlying22 hi hz0 hz1 hz2 rfl (by decide) (.slice (some ⟨Wd.heap.size, 0, none⟩) 0 0) 0 [] (by rfl) hown0 (.slice none 0 0) 0 _ (by rfl) hxd (bytesV_one _) (by unfold maxLen; omega) (by omega) ?_
    clear hown0 hxd
    intro v6 w6 hown6 hgrow6 hloc6
    have X6 := Lib.hid (X1.out.grown hgrow6 X1.out.size (fun j e => by have := X0.out.size; simp [Value.ownBlock] at e; omega))
    have hnew6 := own_ge (B := Ws.heap.size) hloc6 (fun k hk => by have := X0.out.size; simp [Value.ownBlock] at hk; omega) X1.out.size
    rw [Nat.zero_add, List.nil_append] at hown6
    obtain ⟨p6, c6, rfl⟩ := OwnR.shape hown6
    have Hown6 := Lib.hid hown6
    have Hnew6 := Lib.hid hnew6
    clear hgrow6 hloc6 hown6 hnew6
    refine hK.out _ _ ((Hcells2.out _ X6.out).1) (fun hHeld => ?_)
    clear hK
    try simp only [Act.put, List.setIfInBounds_toArray, List.set_cons_zero, List.set_cons_succ]
    refine ord_one 16 rfl (by kernel_rfl) (by rfl) (fun K hK => ?_)
    have hld := Hld.out _ X6.out
    refine wp_app (.tmp 86) (.tmp 87) 22 (by rfl) 5 i0 (.int .u8 0) 1 1 Tryz.underlying22 hi hz0 hz1 hz2 rfl (by decide) (.slice p6 0 c6) 0 _ (by rfl) Hown6.out (.slice pb m cb) m _ (by rfl) hld (bytesV_one _) (by unfold maxLen; omega) (by omega) ?_
    clear hld
    intro v7 w7 hown7 hgrow7 hloc7
    have X7 := Lib.hid (X6.out.grown hgrow7 X6.out.size Hnew6.out)
    have hnew7 := own_ge (B := Ws.heap.size) hloc7 Hnew6.out X6.out.size
    rw [Nat.zero_add] at hown7
    obtain ⟨p7, c7, rfl⟩ := OwnR.shape hown7
    rw [← bytesV_app] at hown7
    have Hend7 := Lib.hid (Hend.out w7 (.slice p7 m c7) X7.out (by unfold OwnB; rw [Hlen.out]; exact hown7) hnew7)
    clear hgrow7 hloc7 hown7 hnew7
    refine hK.out _ _ ((Hcells2.out _ X7.out).1) (fun hHeld => ?_)
    clear hK
    try simp only [Act.put, List.setIfInBounds_toArray, List.set_cons_zero, List.set_cons_succ]
    refine ord_take 17 (v := ?v6x17) rfl (by kernel_rfl) (by kernel_rfl) (by kernel_rfl) (fun _ _ _ h => h) (by rfl) (by assumption) ?y6x17 ?_
    case y6x17 => (intro w hSw; (try dsimp only at hSw); go_simp; try with_reducible rfl)
    simp only [Act.put, List.setIfInBounds_toArray, List.set_cons_zero, List.set_cons_succ]
    refine ord_take 18 (v := ?v6x18) rfl (by kernel_rfl) (by kernel_rfl) (by kernel_rfl) (fun _ _ _ h => h) (by rfl) (by assumption) ?y6x18 ?_
    case y6x18 => (intro w hSw; (try dsimp only at hSw); go_simp; try with_reducible rfl)
    simp only [Act.put, List.setIfInBounds_toArray, List.set_cons_zero, List.set_cons_succ]
    refine ord_one 19 rfl (by kernel_rfl) (by rfl) (fun K hK => ?_)
    obtain ⟨hc1, hc2, hfz1⟩ := Hcells2.out _ X7.out
    go_wp2_with fail
    have hcs : (w7.setCell ⟨g, i * 3 + 1, none⟩ (.slice p7 m c7)).cell? ⟨r, 1, none⟩ = some (.slice (some ⟨g, 0, none⟩) M c14) := (World.cell?_of_block (set_other _ Hgr.out)).trans hc1
    clear hc1 hc2 hfz1
    refine hK.out _ _ (hcs) (fun hHeld => ?_)
    clear hK
    try simp only [Act.put, List.setIfInBounds_toArray, List.set_cons_zero, List.set_cons_succ]
    refine wpAnyH_done (by kernel_rfl) ?_ _
    clear hHeld
    go_wp2_with fail
    refine Hend7.out.mono ?_
    intro e w8 hE
    have HE := Lib.hid hE
    obtain ⟨rfl, -⟩ := hE
    go_wp2_with fail
    go_ret
    exact HE.out
end
end Go.Proofs.YtapfnehdgailmaaGreat

namespace Go.Proofs.YtapfnehdgailmaaGreat
open Go.RowKit Go.Sat Go.Maps

section
variable {w : World} {r : Nat} {v : Value} {L : List RFile} {own : Nat → Prop} {D : DiskM}

set_option maxRecDepth 100000 in
theorem rappend_calls (h : RefIn w r v L own D) (s : ByteArray) (hs : s.size ≤ 9223372036854775807) {pb : Option Addr} {m cb : Nat} {l : Bs} (hl : HasB w (.slice pb m cb) l) (hlm : l.length ≤ 140737488355328) (hno : l ≠ [] → ∀ k, (Value.slice pb m cb).ownBlock = some k → ¬ own k) :
    Calls Tryz.prog 16 #[.pointer (some ⟨r, 0, none⟩), .string s, .slice pb m cb] w (RStep w r own (D.append (nm s) l)) := by
  have hml : m = l.length := (bytes_in hl).1
  by_cases hm : D.may [nm s] = 0
  · by_cases hf : D.full (nm s) l = true
    · have hR : D.append (nm s) l = (D, 6) := by unfold DiskM.append; rw [if_neg (by rw [hm]; simp), if_pos hf]
      rw [hR]
      refine rappend_full h s hs (by omega) hm ?_
      unfold DiskM.full at hf
      rw [Bool.or_eq_true, Bool.and_eq_true, decide_eq_true_eq, decide_eq_true_eq, Option.isNone_iff_eq_none] at hf
      rw [hml]
      exact hf
    · have hf0 : D.full (nm s) l = false := by simpa using hf
      have hok := ok_append h.ok hm hf0
      have hR : D.append (nm s) l = (DiskM.done { D with files := put (nm s) ⟨(D.cur (nm s)).data ++ l, (D.cur (nm s)).lasts⟩ D.files }, 0) := by unfold DiskM.append; rw [if_neg (by rw [hm]; simp), if_neg hf]
      rw [hR]
      unfold DiskM.full at hf
      rw [Bool.or_eq_true, Bool.and_eq_true, decide_eq_true_eq, decide_eq_true_eq, Option.isNone_iff_eq_none, not_or] at hf
      have hroom : D.used + m ≤ D.room := by omega
      cases hg : Sat.get (nm s) D.files with
      | some f =>
        have hc : D.cur (nm s) = f := by unfold DiskM.cur; rw [hg]; rfl
        rw [hc] at hok ⊢
        exact rappend_is h s hs hl hm hg hroom hok
      | none =>
        have hc : D.cur (nm s) = ⟨[], 0⟩ := by unfold DiskM.cur; rw [hg]; rfl
        rw [hc] at hok ⊢
        exact rappend_new h s hs hl hno hm hg hroom (Nat.lt_of_not_le fun h4 => hf.2 ⟨hg, h4⟩) hok
  · have hR : D.append (nm s) l = (D, D.may [nm s]) := by unfold DiskM.append; rw [if_pos hm]
    rw [hR]
    have h1 : RefIn (w.alloc (.cells #[.string s] 9)) r v L own D := h.below ((Below.refl _ _).alloc (Nat.le_refl _) _)
    have hmay := rmay_calls h1 (some ⟨w.heap.size, 0, none⟩) [s] 1 (strs_one w s) (by simp) (by simpa using hs)
    simp only [List.map_cons, List.map_nil] at hmay
    have Hf := Lib.hid (rstep_same h ((Below.refl _ _).alloc (Nat.le_refl _) (.cells #[.string s] 9)) (D.may [nm s]))
    have Hmay := Lib.hid hmay
    generalize D.may [nm s] = e0 at *
    have hne : ((e0 : Int) != 0) = true := by simp; omega
    clear h h1 hmay hR hl
    go_enter Tryz.func16, Tryz.ntmps16
    go_wp2_with fail
    refine Hmay.out.mono ?_
    rintro e w2 ⟨rfl, rfl⟩
    go_wp2_with fail
    go_ret
    exact Hf.out
end
end Go.Proofs.YtapfnehdgailmaaGreat
