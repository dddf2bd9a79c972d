/- DiskMany: what the disks keep (a plain law). -/
import Derived.Test.YtdlbamhabenhgaaNames
import Derived.Test.YtdlbamhabenhgaaRoom
import Derived.Test.YtdlbamhabenhgaaTwo
namespace Go.Proofs.Ytdlbamhabenhgaa
open Go.RowKit Go.Sat Go.Maps

def b12 : Bs := [49, 50]
def mS (X : Bs) (l t : Nat) : DiskM := ⟨1048576, [(xN, ⟨X, l⟩), (yN, ⟨b12, t⟩)], none⟩

section
variable {X : Bs}

theorem m_app (h : X.length ≤ 8000) : (DiskM.fresh 1048576).append xN X = (nD1 X 0, 0) := by
  have := n_app1 h
  simpa using this

theorem m_next {ls : List Bs} {k : Nat} (hk : k < ls.length) (h : ls.flatten.length ≤ 8000) : (nD1 (ls.take k).flatten 0).append xN [ls[k]].flatten = (nD1 (ls.take (k + 1)).flatten 0, 0) := by
  have h1 := flat_take hk
  have h2 := flat_take_le ls (k + 1)
  rw [h1, List.length_append] at h2
  rw [h1]
  exact n_app2 (by omega) 0

theorem m_y (h : X.length ≤ 8000) : (nD1 X 0).append yN [b12].flatten = (mS X 0 0, 0) := by
  have hm : (nD1 X 0).may [yN] = 0 := rfl
  have h4 : [b12].flatten = b12 := by simp
  rw [h4]
  have hf : (nD1 X 0).full yN b12 = false := by
    have : ¬ (1048576 < X.length + 0 + b12.length) := by simp [b12]; omega
    simp only [DiskM.full, nD1, DiskM.used, sumBy, Sat.get, List.map_cons, List.map_nil, List.sum_cons, List.sum_nil, DiskM.size, decide_eq_false this]
    simp [xN, yN]
  unfold DiskM.append
  rw [if_neg (by rw [hm]; simp), if_neg (by rw [hf]; simp)]
  simp [nD1, mS, b12, DiskM.done, DiskM.cur, Sat.get, put, del, ins, xN, yN, bytesBefore]

theorem m_both (l : Nat) : (mS X l 0).sync [xN, yN] = (mS X X.length 2, 0) := by
  simp [DiskM.sync, DiskM.each, DiskM.each1, mS, b12, DiskM.may, xN, yN, okN, Sat.get, DiskM.done, DiskM.gSync, put, del, ins, bytesBefore]

theorem m_x (l t : Nat) : (mS X l t).sync [xN] = (mS X X.length t, 0) := by
  simp [DiskM.sync, DiskM.each, DiskM.each1, mS, b12, DiskM.may, xN, yN, okN, Sat.get, DiskM.done, DiskM.gSync, put, del, ins, bytesBefore]

theorem m_yy (l t : Nat) : (mS X l t).sync [yN] = (mS X l 2, 0) := by
  simp [DiskM.sync, DiskM.each, DiskM.each1, mS, b12, DiskM.may, xN, yN, okN, Sat.get, DiskM.done, DiskM.gSync, put, del, ins, bytesBefore]

theorem m_xzy (l t : Nat) : (mS X l t).sync [xN, zzN, yN] = (mS X X.length t, 7) := by
  simp [DiskM.sync, DiskM.each, DiskM.each1, mS, b12, DiskM.may, xN, yN, zzN, okN, Sat.get, DiskM.done, DiskM.gSync, put, del, ins, bytesBefore]

theorem m_none (l t : Nat) : (mS X l t).sync [] = (mS X l t, 0) := rfl

theorem m_rem (l t : Nat) (dr : Int) : ((mS X l t).crash dr).remove [xN, yN] = (⟨1048576, [], none⟩, 0) := by
  simp [DiskM.remove, DiskM.each, DiskM.each1, mS, DiskM.crash, mp, DiskM.may, xN, yN, okN, Sat.get, DiskM.done, DiskM.gRemove, del]

theorem m_rem2 : (⟨1048576, [], none⟩ : DiskM).remove [xN] = (⟨1048576, [], none⟩, 7) := rfl
end
end Go.Proofs.Ytdlbamhabenhgaa
