/- KeepLast: what the disk keeps (a plain law). -/
import Derived.Test.YtdlbamhabenhgaaApartW
import Derived.Test.YtdlbamhabenhgaaFuses
namespace Go.Proofs.Ytdlbamhabenhgaa
open Go.RowKit Go.Sat Go.Maps

def cost5 (ls : List Bs) : Nat := (ls.map fun l => 5 + l.length).sum

theorem cost5_take (ls : List Bs) (k : Nat) (hk : k < ls.length) : cost5 (ls.take (k + 1)) = cost5 (ls.take k) + 5 + ls[k].length := by
  rw [List.take_succ_eq_append_getElem hk]
  simp only [cost5, List.map_append, List.map_cons, List.map_nil, List.sum_append, List.sum_cons, List.sum_nil]
  omega

theorem cost5_mono (ls : List Bs) (k : Nat) : cost5 (ls.take k) ≤ cost5 ls := by
  conv => rhs; rw [← List.take_append_drop k ls]
  simp only [cost5, List.map_append, List.sum_append]
  omega

theorem cost5_row (ls : List Bs) (k : Nat) (hk : k < ls.length) : ls[k].length ≤ cost5 ls := by
  have h1 := cost5_take ls k hk
  have h2 := cost5_mono ls (k + 1)
  omega

theorem cost5_len (ls : List Bs) : ls.length ≤ cost5 ls := by
  induction ls with
  | nil => exact Nat.zero_le _
  | cons a r ih =>
    simp only [cost5, List.map_cons, List.sum_cons, List.length_cons] at ih ⊢
    omega

/-- What has the name behind k Saves. -/
def lastF (ls : List Bs) (k : Nat) : List (Bs × FileM) := if k = 0 then [] else [(fN, fl (ls.getD (k - 1) []))]
def lastD (ls : List Bs) (y k : Nat) : DiskM := ⟨1048576, lastF ls k, some (y - 3 * k)⟩

theorem fresh_fuse (ls : List Bs) (y : Nat) : (DiskM.fresh (1048576 : Int).toNat).setFuse (y : Int) = lastD ls y 0 := by
  unfold DiskM.setFuse
  rw [if_neg (by omega)]
  rfl

theorem last_zero (ls : List Bs) : lastF ls 0 = [] := rfl
theorem last_get0 (ls : List Bs) : Sat.get fN (lastF ls 0) = none := rfl
theorem last_get (ls : List Bs) (k : Nat) (hk : k < ls.length) : Sat.get fN (lastF ls (k + 1)) = some (fl ls[k]) := by
  unfold lastF
  rw [if_neg (by omega), show k + 1 - 1 = k from rfl]
  simp [Sat.get, List.getD_eq_getElem?_getD, hk]

theorem last_used (ls : List Bs) (k : Nat) (hls : cost5 ls ≤ 5000) (hk : k ≤ ls.length) : sumBy DiskM.size (lastF ls k) ≤ 5012 := by
  unfold lastF
  by_cases h0 : k = 0
  · rw [if_pos h0]
    exact Nat.zero_le _
  · rw [if_neg h0]
    have hlt : k - 1 < ls.length := by omega
    have h1 := cost5_row ls (k - 1) hlt
    simp only [sumBy, List.map_cons, List.map_nil, List.sum_cons, List.sum_nil, fl_size]
    rw [List.getD_eq_getElem?_getD, List.getElem?_eq_getElem hlt]
    simp only [Option.getD_some]
    omega

theorem last_shadow (ls : List Bs) (k : Nat) : Sat.get (shadowN fN) (lastF ls k) = none := by
  unfold lastF
  split <;> rfl
theorem last_count (ls : List Bs) (k : Nat) : (lastF ls k).length < 4096 := by
  unfold lastF
  split <;> simp
theorem last_put (ls : List Bs) (k : Nat) (l : Bs) : put fN (fl l) (lastF ls k) = [(fN, fl l)] := by
  unfold lastF
  split <;> rfl

theorem last_save (ls : List Bs) (y k : Nat) (hls : cost5 ls ≤ 5000) (hk : k < ls.length) (hy : 3 * k + 3 ≤ y) (ok : (lastD ls y k).OK) : (lastD ls y k).save fN ls[k] = (lastD ls y (k + 1), 0) := by
  have h1 := last_used ls k hls (Nat.le_of_lt hk)
  have h2 := cost5_row ls k hk
  have h := save_all (D := lastD ls y k) (n := fN) (l := ls[k]) ok (fun j e => by
    have : some (y - 3 * k) = some j := e
    have := Option.some.inj this
    omega) (by decide) (by decide) (last_shadow ls k) (by show sumBy DiskM.size (lastF ls k) + _ + 12 ≤ 1048576; omega) (last_count ls k)
  rw [h]
  have e1 : put fN ⟨frameN ls[k], (frameN ls[k]).length⟩ (lastD ls y k).files = lastF ls (k + 1) := by
    have := last_put ls k ls[k]
    refine this.trans ?_
    unfold lastF
    rw [if_neg (by omega), show k + 1 - 1 = k from rfl, List.getD_eq_getElem?_getD, List.getElem?_eq_getElem hk]
    rfl
  have e2 : offF (lastD ls y k).fuse 3 = some (y - 3 * (k + 1)) := by
    show some (y - 3 * k - 3) = _
    congr 1
  rw [e1, e2]
  rfl

theorem last_cut (ls : List Bs) (y k : Nat) (hls : cost5 ls ≤ 5000) (hk : k < ls.length) (hy : 3 * k ≤ y) (hy' : y < 3 * k + 3) (ok : (lastD ls y k).OK) : ∃ D', (lastD ls y k).save fN ls[k] = (D', 9) ∧ Sat.get fN D'.files = Sat.get fN (lastF ls k) := by
  have h1 := last_used ls k hls (Nat.le_of_lt hk)
  have h2 := cost5_row ls k hk
  exact save_cut (D := lastD ls y k) (n := fN) (l := ls[k]) ok (j := y - 3 * k) rfl (by omega) (by decide) (by decide) (last_shadow ls k) (by show sumBy DiskM.size (lastF ls k) + _ + 12 ≤ 1048576; omega) (last_count ls k)

/-- What is there behind a crash. -/
theorem last_there {ls : List Bs} {k : Nat} {D : DiskM} (h : Sat.get fN D.files = Sat.get fN (lastF ls (k + 1))) (hk : k < ls.length) (dr : Int) : Sat.get fN (D.crash dr).files = some ⟨frameN ls[k], (frameN ls[k]).length⟩ := by
  rw [last_get ls k hk] at h
  exact get_crash_whole h dr
theorem last_none {ls : List Bs} {D : DiskM} (h : Sat.get fN D.files = Sat.get fN (lastF ls 0)) (dr : Int) : Sat.get fN (D.crash dr).files = none := get_crash_none h dr
end Go.Proofs.Ytdlbamhabenhgaa
