/- The contracts of frame.headOf and frame.Encode. -/
import Derived.Test.YtdlbamhabenhgaaFour
import Derived.Test.YtdlbamhabenhgaaSt
namespace Go.Proofs.Ytdlbamhabenhgaa
open Go.RowKit Go.Sat Go.Maps

def sumN (l : Bs) : Nat := (sumF l).toNat

theorem sumF_range (l : Bs) : 0 ≤ sumF l ∧ sumF l < 4294967296 := by
  unfold sumF bits
  rw [IntKind.wrap_u32]
  omega

theorem sumF_nat (l : Bs) : sumF l = (sumN l : Int) := by
  have := (sumF_range l).1
  unfold sumN
  omega

theorem sumN_lt (l : Bs) : sumN l < 4294967296 := by
  have := sumF_range l
  unfold sumN
  omega

/-- A list of two rows, in a new block. -/
theorem rows_two {w : World} {v1 v2 : Value} {l1 l2 : Bs} (h1 : HasB w v1 l1) (h2 : HasB w v2 l2) (e : TypeId) (fr : Nat × Nat) (g c : Nat) (hg : g = w.heap.size) (hc : 2 ≤ c) : RowsAt (w.alloc (.cells #[v1, v2] e fr)) (.slice (some ⟨g, 0, none⟩) 2 c) [l1, l2] := by
  subst hg
  refine ⟨_, c, rfl, by simpa using hc, fun _ => ⟨_, _, [v1, v2], rfl, rfl, fun i u hu => ?_, fun i u m hu hm => ?_⟩⟩
  · have e1 : (⟨w.heap.size, 0, none⟩ : Addr).add i = ⟨w.heap.size, i, none⟩ := by unfold Addr.add; split <;> simp_all
    rw [e1]
    refine cell_of (new_block w _) ?_
    simpa using hu
  · have hi : i < 2 := by
      have := (List.getElem?_eq_some_iff.1 hu).1
      simpa using this
    have : i = 0 ∨ i = 1 := by omega
    rcases this with rfl | rfl
    · simp at hu hm
      subst hu
      subst hm
      exact (has_alloc h1 _).kit
    · simp at hu hm
      subst hu
      subst hm
      exact (has_alloc h2 _).kit

theorem below_al (w : World) (o : Obj) : Below w.heap.size w (w.alloc o) := (Below.refl _ _).alloc (Nat.le_refl _) o
theorem below_to {w w1 w2 : World} (h : Below w.heap.size w w1) (k : Below w1.heap.size w1 w2) : Below w.heap.size w w2 := h.trans (k.mono h.size)

def headN (n : Nat) : Bs := fourN n ++ fourN (sumN (fourN n))

set_option maxRecDepth 100000 in
set_option maxHeartbeats 4000000 in
theorem head_calls {w : World} (n : Nat) (h : n < 4294967296) :
    Calls Try.prog 78 #[.int .u32 (n : Int)] w (NewB w (headN n)) := by
  have Hf := Lib.hid (fun w => four_calls (w := w) n h)
  go_enter Try.func78, Try.ntmps78
  go_wp2_with fail
  refine (Hf.out _).mono ?_
  rintro e w1 ⟨v1, rfl, hv1, hb1⟩
  have V1 := Lib.hid hv1
  have B1 := Lib.hid hb1
  clear hv1 hb1
  go_wp2_with fail
  refine (Hf.out _).mono ?_
  rintro e w2 ⟨v2, rfl, hv2, hb2⟩
  have V2 := Lib.hid hv2
  have B2 := Lib.hid hb2
  obtain ⟨p2, c2, rfl⟩ := hv2.slice
  clear hv2 hb2
  go_wp2_with fail
  refine (sum_calls (rows_one V2.out 23 (0, 0) _ 1 rfl (Nat.le_refl _)) (by decide) (by simp [fourN])).mono ?_
  rintro e w3 ⟨rfl, rfl⟩
  rw [show [fourN n].flatten = fourN n by simp, sumF_nat]
  have Hg := Lib.hid (fun w => four_calls (w := w) (sumN (fourN n)) (sumN_lt _))
  have Hh := Lib.hid (show headN n = fourN n ++ fourN (sumN (fourN n)) from rfl)
  generalize sumN (fourN n) = q at *
  go_wp2_with fail
  refine (Hg.out _).mono ?_
  rintro e w4 ⟨v4, rfl, hv4, hb4⟩
  have B2' := below_to B1.out (below_to B2.out (below_to (below_al _ _) hb4))
  have V1' := V1.out.below (below_to B2.out (below_to (below_al _ _) hb4))
  obtain ⟨p1, c1, rfl⟩ := V1.out.slice
  obtain ⟨p4, c4, rfl⟩ := hv4.slice
  have hj := join_calls (rows_two V1' hv4 23 (0, 0) _ 2 rfl (Nat.le_refl _)) (by simp) (by simp [fourN])
  have Hj := Lib.hid hj
  have BB := Lib.hid B2'
  clear hj V1' B2' hv4 hb4
  go_wp2_with fail
  refine Hj.out.mono ?_
  rintro e w5 ⟨v5, rfl, hv5, hb5⟩
  have Hfin := Lib.hid (show NewB w (headN n) (.returned v5) w5 from ⟨v5, rfl, by rw [Hh.out]; simpa using hv5, below_to BB.out (below_to (below_al _ _) hb5)⟩)
  clear hv5 hb5
  go_wp2_with fail
  go_ret
  exact Hfin.out
end Go.Proofs.Ytdlbamhabenhgaa
