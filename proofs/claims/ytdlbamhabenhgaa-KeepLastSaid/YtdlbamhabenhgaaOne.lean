/- The contract of frame.One; what a record that was laid reads as. -/
import Derived.Test.YtdlbamhabenhgaaDecW
namespace Go.Proofs.Ytdlbamhabenhgaa
open Go.RowKit Go.Sat Go.Maps

theorem fourAt_four (n : Nat) (h : n < 4294967296) (r : Bs) : fourAt (fourN n ++ r) = n := by
  show ofFour (UInt8.ofNat n) (UInt8.ofNat (n / 256)) (UInt8.ofNat (n / 65536)) (UInt8.ofNat (n / 16777216)) = n
  exact of_four n h

theorem head_len (n : Nat) : (headN n).length = 8 := rfl

theorem frame_len (l : Bs) : (frameN l).length = l.length + 12 := by
  unfold frameN
  rw [List.length_append, List.length_append, head_len]
  simp only [fourN, List.length_cons, List.length_nil]
  omega

theorem frame_at (l : Bs) (h : l.length ≤ 1048576) : fourAt (frameN l) = l.length := by
  have : frameN l = fourN l.length ++ (fourN (sumN (fourN l.length)) ++ l ++ fourN (sumN (headN l.length ++ l))) := by
    simp [frameN, headN]
  rw [this]
  exact fourAt_four _ (by omega) _

theorem frame_dec (l : Bs) (h : l.length ≤ 1048576) : decE (frameN l) = 0 := by
  unfold decE
  have e1 := frame_at l h
  have e2 := frame_len l
  have e3 : (frameN l).take 8 = headN l.length := by
    unfold frameN
    rw [List.append_assoc, List.take_append_of_le_length (by rw [head_len]; omega), List.take_of_length_le (by rw [head_len]; omega)]
  have e4 : (frameN l).take (8 + l.length) = headN l.length ++ l := by
    unfold frameN
    rw [List.take_append_of_le_length (by rw [List.length_append, head_len]; omega), List.take_of_length_le (by rw [List.length_append, head_len]; omega)]
  have e5 : (frameN l).drop (8 + l.length) = fourN (sumN (headN l.length ++ l)) ++ [] := by
    unfold frameN
    rw [List.drop_append_of_le_length (by rw [List.length_append, head_len]; omega), List.drop_of_length_le (by rw [List.length_append, head_len]; omega)]
    simp
  rw [e1, e2, e3, e4, e5, fourAt_four _ (sumN_lt _)]
  rw [if_neg (by omega), if_neg (by simp), if_neg (by omega), if_neg (by omega), if_neg (by simp)]

theorem frame_decB (l : Bs) (h : l.length ≤ 1048576) : decB (frameN l) = l := by
  unfold decB
  rw [if_pos (frame_dec l h), frame_at l h]
  unfold frameN
  rw [List.append_assoc, List.drop_append_of_le_length (by rw [head_len]; omega), List.drop_of_length_le (by rw [head_len]; omega)]
  simp

theorem frame_decL (l : Bs) (h : l.length ≤ 1048576) : decL (frameN l) = (frameN l).length := by
  unfold decL
  rw [if_pos (frame_dec l h), frame_at l h, frame_len]

def oneE (b : Bs) : Nat := if decE b = 0 then (if decL b = b.length then 0 else 3) else decE b
def oneB (b : Bs) : Bs := if oneE b = 0 then decB b else []

theorem frame_oneE (l : Bs) (h : l.length ≤ 1048576) : oneE (frameN l) = 0 := by
  unfold oneE
  rw [if_pos (frame_dec l h), if_pos (frame_decL l h)]
theorem frame_oneB (l : Bs) (h : l.length ≤ 1048576) : oneB (frameN l) = l := by
  unfold oneB
  rw [if_pos (frame_oneE l h), frame_decB l h]

def OneOf (w : World) (b : Bs) (e : Ending) (w' : World) : Prop :=
  ∃ v, e = .returned (.tuple #[v, .int .i64 (oneE b : Int)]) ∧ OwnB w' 5 v (oneB b) ∧ (∀ k, v.ownBlock = some k → w.heap.size ≤ k) ∧ Below w.heap.size w w'

theorem one_nil {w w' : World} {b : Bs} {k : Nat} (he : oneE b = k) (hk : k ≠ 0) (hb : Below w.heap.size w w') : OneOf w b (.returned (.tuple #[.slice none 0 0, .int .i64 (k : Int)])) w' := by
  refine ⟨.slice none 0 0, by rw [he], ?_, fun j hj => (by cases hj), hb⟩
  unfold oneB
  rw [he, if_neg hk]
  exact OwnR.nil _ _ _

set_option maxHeartbeats 1000000 in
theorem one_calls {w : World} {p : Option Addr} {n c : Nat} {b : Bs} (h : HasB w (.slice p n c) b) (hnc : n ≤ c) (hl : b.length ≤ 140737488355328) :
    Calls Try.prog 58 #[.slice p n c] w (OneOf w b) := by
  have hn : n = b.length := (bytes_in h).1
  subst hn
  have Hd := Lib.hid (dec_calls h hnc hl)
  have hdl : decL b ≤ 4294967307 := by
    have := fourAt_lt b
    unfold decL
    split <;> omega
  clear h
  go_enter Try.func58, Try.ntmps58
  go_wp2_with fail
  refine Hd.out.mono ?_
  rintro e w1 ⟨v, rfl, hv, hn1, hb1⟩
  by_cases he : decE b = 0
  · by_cases hL : decL b = b.length
    · have hE : oneE b = 0 := by unfold oneE; rw [if_pos he, if_pos hL]
      have Hfin := Lib.hid (show OneOf w b (.returned (.tuple #[v, .int .i64 0])) w1 from ⟨v, by rw [hE]; rfl, by unfold oneB; rw [if_pos hE]; exact hv, hn1, hb1⟩)
      rw [he, hL]
      generalize b.length = N at *
      clear hv hn1 hb1 he hL hE hdl
      go_wp2_with fail
      go_ret2
      exact Hfin.out
    · have Hfin := Lib.hid (one_nil (w := w) (w' := w1) (b := b) (k := 3) (by unfold oneE; rw [if_pos he, if_neg hL]) (by decide) hb1)
      have hne : ((decL b : Int) != (b.length : Int)) = true := by
        simp only [bne_iff_ne, ne_eq, Int.natCast_inj]
        exact hL
      rw [he]
      generalize decL b = M at *
      generalize b.length = N at *
      clear hv hn1 hb1 he hL
      go_wp2_with fail
      go_ret2
      exact Hfin.out
  · have hE : oneE b = decE b := by unfold oneE; rw [if_neg he]
    have Hfin := Lib.hid (show OneOf w b (.returned (.tuple #[v, .int .i64 (decE b : Int)])) w1 from ⟨v, by rw [hE], by unfold oneB; rw [hE, if_neg he]; unfold decB at hv; rw [if_neg he] at hv; exact hv, hn1, hb1⟩)
    have hne : ((decE b : Int) == 0) = false := by simp; omega
    generalize decE b = E at *
    generalize decL b = M at *
    generalize b.length = N at *
    clear hv hn1 hb1 hE
    go_wp2_with fail
    go_ret2
    exact Hfin.out
end Go.Proofs.Ytdlbamhabenhgaa
