/- DiskNames: what the disk keeps (a plain law). -/
import Derived.Test.YtdlbamhabenhgaaTexts
import Derived.Test.YtdlbamhabenhgaaKeepsW
namespace Go.Proofs.Ytdlbamhabenhgaa
open Go.RowKit Go.Sat Go.Maps

def xN : Bs := [120]
def yN : Bs := [121]
def zzN : Bs := [122]

def nD1 (a : Bs) (l : Nat) : DiskM := ⟨1048576, [(xN, ⟨a, l⟩)], none⟩
def nD2 (a : Bs) (l : Nat) (c : Bs) : DiskM := ⟨1048576, [(xN, ⟨a, l⟩), (yN, ⟨c, 0⟩)], none⟩
def nD3 (a : Bs) (l : Nat) : DiskM := ⟨1048576, [(yN, ⟨a, l⟩)], none⟩

section
variable {a b c : Bs}

theorem n_app1 (h : a.length ≤ 8000) : (DiskM.fresh 1048576).append xN [a].flatten = (nD1 a 0, 0) := by
  have hm : (DiskM.fresh 1048576).may [xN] = 0 := rfl
  have h4 : [a].flatten = a := by simp
  rw [h4]
  have hf : (DiskM.fresh 1048576).full xN a = false := by
    have : ¬ (1048576 < 0 + a.length) := by omega
    simp only [DiskM.full, DiskM.fresh, DiskM.used, sumBy, Sat.get, List.map_nil, List.sum_nil, decide_eq_false this]
    simp
  unfold DiskM.append
  rw [if_neg (by rw [hm]; simp), if_neg (by rw [hf]; simp)]
  rfl

theorem n_sync1 : (nD1 a 0).sync [xN] = (nD1 a a.length, 0) := by
  simp [DiskM.sync, DiskM.each, DiskM.each1, nD1, DiskM.may, xN, okN, Sat.get, DiskM.done, DiskM.gSync, put, del, ins]

theorem n_app2 (h : a.length + b.length ≤ 8000) (l : Nat) : (nD1 a l).append xN [b].flatten = (nD1 (a ++ b) l, 0) := by
  have hm : (nD1 a l).may [xN] = 0 := rfl
  have h4 : [b].flatten = b := by simp
  rw [h4]
  have hf : (nD1 a l).full xN b = false := by
    have : ¬ (1048576 < a.length + 0 + b.length) := by omega
    simp only [DiskM.full, nD1, DiskM.used, sumBy, Sat.get, List.map_cons, List.map_nil, List.sum_cons, List.sum_nil, DiskM.size, decide_eq_false this]
    simp [xN]
  unfold DiskM.append
  rw [if_neg (by rw [hm]; simp), if_neg (by rw [hf]; simp)]
  simp [nD1, DiskM.done, DiskM.cur, Sat.get, put, del, ins, xN]

theorem n_app3 (h : a.length + c.length ≤ 8000) (l : Nat) : (nD1 a l).append yN [c].flatten = (nD2 a l c, 0) := by
  have hm : (nD1 a l).may [yN] = 0 := rfl
  have h4 : [c].flatten = c := by simp
  rw [h4]
  have hf : (nD1 a l).full yN c = false := by
    have : ¬ (1048576 < a.length + 0 + c.length) := by omega
    simp only [DiskM.full, nD1, DiskM.used, sumBy, Sat.get, List.map_cons, List.map_nil, List.sum_cons, List.sum_nil, DiskM.size, decide_eq_false this]
    simp [xN, yN]
  unfold DiskM.append
  rw [if_neg (by rw [hm]; simp), if_neg (by rw [hf]; simp)]
  simp [nD1, nD2, DiskM.done, DiskM.cur, Sat.get, put, del, ins, xN, yN, bytesBefore]

theorem n_sync2 (l : Nat) : (nD2 a l c).sync [xN] = (nD2 a a.length c, 0) := by
  simp [DiskM.sync, DiskM.each, DiskM.each1, nD2, DiskM.may, xN, yN, okN, Sat.get, DiskM.done, DiskM.gSync, put, del, ins, bytesBefore]

theorem n_ren (l : Nat) : (nD2 a l c).rename xN yN = (nD3 a l, 0) := by
  simp [DiskM.rename, nD2, nD3, DiskM.may, xN, yN, okN, Sat.get, DiskM.done, put, del, ins]

theorem n_ren2 (l : Nat) : (nD3 a l).rename xN zzN = (nD3 a l, 7) := by
  simp [DiskM.rename, nD3, DiskM.may, xN, yN, zzN, okN, Sat.get]

theorem n_names (l : Nat) : namesOf (nD3 a l) = [yN] := rfl

theorem n_get (l : Nat) : Sat.get yN ((nD3 a l).crash 0).files = some ⟨a.take l, l⟩ := by
  simp [DiskM.crash, nD3, mp, Sat.get, DiskM.crashF, DiskM.stays, yN]
end
end Go.Proofs.Ytdlbamhabenhgaa
