/- keep.Save, keep.Load: the plain model, and the contracts of there. -/
import Derived.Test.YtdlbamhabenhgaaOne
import Derived.Test.YtdlbamhabenhgaaList
import Derived.Test.YtdlbamhabenhgaaSame4
namespace Go.Proofs.Ytdlbamhabenhgaa
open Go.RowKit Go.Sat Go.Maps

def shadowN (n : Bs) : Bs := n ++ [126]

namespace DiskM
/-- Behind the frame: the shadow goes, is written, lasts, and gets the name. -/
def save0 (D : DiskM) (n : Bs) : DiskM × Nat := if (get (shadowN n) D.files).isSome then D.remove [shadowN n] else (D, 0)
def save1 (D : DiskM) (n b : Bs) : DiskM × Nat :=
  let r0 := D.save0 n
  if r0.2 ≠ 0 then r0 else
  let r1 := r0.1.append (shadowN n) b
  if r1.2 ≠ 0 then r1 else
  let r2 := r1.1.sync [shadowN n]
  if r2.2 ≠ 0 then r2 else r2.1.rename (shadowN n) n
def save (D : DiskM) (n l : Bs) : DiskM × Nat := if n.length < 1 ∨ 60 < n.length then (D, 1) else save1 D n (frameN l)
end DiskM

theorem there_calls {w w1 : World} {d : Nat} {D : DiskM} {F : Nat → Prop} (h : St w w1 d D F) (s : ByteArray) (hs : s.size ≤ 9223372036854775807) :
    Calls Try.prog 57 #[.pointer (some ⟨d, 0, none⟩), .string s] w1 fun e w' => e = .returned (.bool (Sat.get (nm s) D.files).isSome) ∧ Below w1.heap.size w1 w' ∧ St w w' d D F := by
  have H := Lib.hid (st_read h s hs)
  clear h
  go_enter Try.func57, Try.ntmps57
  cases hg : Sat.get (nm s) D.files with
  | none =>
    rw [hg] at H
    go_wp2_with fail
    refine H.out.mono ?_
    rintro e w' ⟨v, rfl, -, -, hb, hst⟩
    have Hf := Lib.hid (And.intro hb hst)
    clear hb hst
    go_wp2_with fail
    go_ret
    exact ⟨rfl, Hf.out⟩
  | some f =>
    rw [hg] at H
    go_wp2_with fail
    refine H.out.mono ?_
    rintro e w' ⟨v, rfl, -, -, hb, hst⟩
    have Hf := Lib.hid (And.intro hb hst)
    clear hb hst
    go_wp2_with fail
    go_ret
    exact ⟨rfl, Hf.out⟩

theorem nm_shadow (s : ByteArray) : nm (s ++ ⟨#[126]⟩) = shadowN (nm s) := by
  simp [nm, shadowN]
end Go.Proofs.Ytdlbamhabenhgaa
