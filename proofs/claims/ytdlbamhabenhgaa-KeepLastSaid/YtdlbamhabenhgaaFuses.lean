/- DiskFuses: what a disk whose fuse burns down answers (a plain law). -/
import Derived.Test.YtdlbamhabenhgaaKeepsW
namespace Go.Proofs.Ytdlbamhabenhgaa
open Go.RowKit Go.Sat Go.Maps

/-- The disk behind k rounds, where the fuse is of n. -/
def fusesD (ls : List Bs) (n k : Nat) : DiskM := ⟨1048576, if min k n = 0 then [] else [(fN, ⟨(ls.take (min k n)).flatten, 0⟩)], some (n - min k n)⟩

theorem fuses_append {ls : List Bs} (n : Nat) {k : Nat} (hk : k < ls.length) (hl : ls.flatten.length ≤ 8000) : (fusesD ls n k).append fN [ls[k]].flatten = (fusesD ls n (k + 1), if k < n then 0 else 9) := by
  have h4 : [ls[k]].flatten = ls[k] := by simp
  rw [h4]
  by_cases hn : k < n
  · have h1 := flat_take hk
    have h2 := flat_take_le ls (k + 1)
    rw [h1, List.length_append] at h2
    have h3 : (ls.take k).flatten.length + ls[k].length ≤ 8000 := by omega
    have e1 : min k n = k := by omega
    have e2 : min (k + 1) n = k + 1 := by omega
    have hne : ¬ (n - k = 0) := by omega
    have hm : (fusesD ls n k).may [fN] = 0 := by
      simp only [DiskM.may, fusesD, e1]
      rw [if_neg (by simp; omega)]
      rfl
    rw [if_pos hn]
    unfold DiskM.append
    rw [if_neg (by rw [hm]; simp)]
    by_cases h0 : k = 0
    · subst h0
      have hf : (fusesD ls n 0).full fN ls[0] = false := by
        have : ¬ (1048576 < 0 + ls[0].length) := by omega
        simp only [DiskM.full, fusesD, e1, if_true, DiskM.used, sumBy, Sat.get, List.map_nil, List.sum_nil, decide_eq_false this]
        simp
      rw [if_neg (by rw [hf]; simp)]
      simp only [fusesD, e1, e2, if_true, DiskM.done, DiskM.cur, Sat.get, put, del, h1]
      simp
      rfl
    · have hf : (fusesD ls n k).full fN ls[k] = false := by
        have : ¬ (1048576 < (ls.take k).flatten.length + 0 + ls[k].length) := by omega
        simp only [DiskM.full, fusesD, e1, if_neg h0, DiskM.used, sumBy, Sat.get, List.map_cons, List.map_nil, List.sum_cons, List.sum_nil, DiskM.size, decide_eq_false this]
        simp [fN]
      rw [if_neg (by rw [hf]; simp)]
      simp only [fusesD, e1, e2, if_neg h0, DiskM.done, DiskM.cur, Sat.get, put, del, h1]
      simp [fN, ins]
      omega
  · have e1 : min k n = n := by omega
    have e2 : min (k + 1) n = n := by omega
    have hm : (fusesD ls n k).may [fN] = 9 := by simp [DiskM.may, fusesD, e1]
    rw [if_neg hn]
    unfold DiskM.append
    rw [if_pos (by rw [hm]; simp), hm]
    simp only [fusesD, e1, e2]

def noneN : Bs := [110, 111, 110, 101]

theorem fuses_remove (ls : List Bs) (n k : Nat) : (fusesD ls n k).remove [noneN] = (fusesD ls n k, if k < n then 7 else 9) := by
  by_cases hn : k < n
  · have e1 : min k n = k := by omega
    have hm : (fusesD ls n k).may [noneN] = 0 := by
      simp only [DiskM.may, fusesD, e1]
      rw [if_neg (by simp; omega)]
      rfl
    have hg : Sat.get noneN (fusesD ls n k).files = none := by
      simp only [fusesD, e1]
      split
      · rfl
      · simp [Sat.get, fN, noneN]
    simp [DiskM.remove, DiskM.each, DiskM.each1, hm, hg, hn]
  · have e1 : min k n = n := by omega
    have hm : (fusesD ls n k).may [noneN] = 9 := by simp [DiskM.may, fusesD, e1]
    simp [DiskM.remove, DiskM.each, DiskM.each1, hm, hn]

def zN : Bs := [122]

theorem fuses_last (ls : List Bs) (n k : Nat) (dr : Int) (ho : ((fusesD ls n k).crash dr).OK) : (((fusesD ls n k).crash dr).append zN [[]].flatten).2 = 0 := by
  have hu := ho.used
  have hm : ((fusesD ls n k).crash dr).may [zN] = 0 := rfl
  have hf : ((fusesD ls n k).crash dr).full zN [] = false := by
    have h1 : ¬ (((fusesD ls n k).crash dr).room < ((fusesD ls n k).crash dr).used + 0) := by omega
    have h2 : ¬ (4096 ≤ ((fusesD ls n k).crash dr).files.length) := by
      simp only [DiskM.crash, fusesD]
      split <;> simp [mp]
    simp only [DiskM.full, List.length_nil, decide_eq_false h1, decide_eq_false h2]
    simp
  have h4 : ([[]] : List Bs).flatten = [] := rfl
  rw [h4]
  unfold DiskM.append
  rw [if_neg (by rw [hm]; simp), if_neg (by rw [hf]; simp)]

theorem fuses_zero (n : Nat) (h : n ≤ 1000) : (DiskM.fresh 1048576).setFuse (n : Int) = fusesD [] n 0 := by
  simp only [DiskM.setFuse, DiskM.fresh, fusesD, Nat.zero_min, if_true]
  rw [if_neg (by omega)]
  simp

theorem fuses_ls (ls : List Bs) (n : Nat) : fusesD [] n 0 = fusesD ls n 0 := by simp [fusesD]
end Go.Proofs.Ytdlbamhabenhgaa
