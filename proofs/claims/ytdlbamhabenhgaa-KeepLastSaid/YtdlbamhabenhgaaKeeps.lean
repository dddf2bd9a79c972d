/- DiskKeeps: the walk. -/
import Derived.Test.YtdlbamhabenhgaaKnown
namespace Go.Sat
open Go.RowKit
theorem Holds.cut {w : World} {p : Option Addr} {n c : Nat} {xs : List Value} (h : Holds w 1 (.slice p n c) n xs) {k : Nat} (hk : k ≤ n) (c' : Nat) : Holds w 1 (.slice p k c') k (xs.take k) := by
  obtain ⟨hl, p', cap, e, h0, hc⟩ := h
  cases e
  refine ⟨by rw [List.length_take]; omega, p, c', rfl, fun e => ?_, fun a ha i u hu => hc a ha i u ?_⟩
  · have := h0 e
    omega
  · rw [List.getElem?_take] at hu
    split at hu
    · exact hu
    · cases hu

theorem HasB.cut {w : World} {p : Option Addr} {n c : Nat} {l : Bs} (h : HasB w (.slice p n c) l) {k : Nat} (hk : k ≤ l.length) (c' : Nat) : HasB w (.slice p k c') (l.take k) := by
  obtain ⟨p', c2, e⟩ := h.slice
  cases e
  unfold HasB at h ⊢
  have e1 : (l.take k).length = k := by rw [List.length_take]; omega
  rw [e1, bytesV_take]
  exact Holds.cut h hk c'

/-- 'x[:k]'. -/
theorem run_upto {P : Program} (w : World) {t e : TypeId} {i : TypeInfo} (ht : P.underlying t = some (.slice e)) (hi : P.info? e = some i) (a : Option Addr) (len cap k : Nat) (h : k ≤ cap) :
    (Instr.slice t (.slice a len cap) none (some (.int .i64 (k : Int))) none).run P w = .ok (.slice a k cap) w := by
  have h1 : (Instr.sliceBound (.int .i64 (k : Int)) cap .sliceAcap).run P w = .ok k w := by
    rw [run_sliceBound _ _ _ _ _ (by omega) (by omega)]
    simp
  have h3 : (if cap = 0 then a else a.map fun x => x.add (0 * i.size)) = a := by
    split
    · rfl
    · cases a <;> simp [Addr.add]
  simp only [Nat.zero_mul] at h3
  simp [Instr.slice, run_underlying ht, Instr.sliceBounds, h1, sizeOf, typeInfo, hi, Result.andThen, h3]

theorem OwnB.shape {w : World} {e : TypeId} {v : Value} {l : Bs} (h : OwnB w e v l) : v = .slice none 0 0 ∨ ∃ g c, v = .slice (some ⟨g, 0, none⟩) l.length c := by
  rcases h.2 with ⟨rfl, _⟩ | ⟨g, cap, cur, rfl, _⟩
  · exact .inl rfl
  · exact .inr ⟨g, cap, rfl⟩
end Go.Sat

namespace Go.Proofs.Ytdlbamhabenhgaa
open Go.RowKit Go.Sat Go.Maps

/-- What a law looks at: of each row one more than its bytes. -/
def cost (ls : List Bs) : Nat := (ls.map fun l => 1 + l.length).sum

theorem cost_take (ls : List Bs) (k : Nat) (hk : k < ls.length) : cost (ls.take (k + 1)) = cost (ls.take k) + 1 + ls[k].length := by
  rw [List.take_succ_eq_append_getElem hk]
  simp only [cost, List.map_append, List.map_cons, List.map_nil, List.sum_append, List.sum_cons, List.sum_nil]
  omega

theorem cost_flat (ls : List Bs) : cost ls = ls.length + ls.flatten.length := by
  induction ls with
  | nil => rfl
  | cons a r ih =>
    simp only [cost, List.map_cons, List.sum_cons, List.flatten_cons, List.length_append, List.length_cons] at ih ⊢
    omega

/-- How a row of a list of rows is met. -/
theorem RowsAt.row {w : World} {p : Option Addr} {n c : Nat} {ls : List Bs} (h : RowsAt w (.slice p n c) ls) {k : Nat} (hk : k < ls.length) :
    n = ls.length ∧ ∃ b o v, p = some ⟨b, o, none⟩ ∧ w.cell? ⟨b, o + k, none⟩ = some v ∧ HasB w v ls[k] := by
  obtain ⟨p', c', e, hc, hP⟩ := h
  cases e
  have hne : ls ≠ [] := fun e => by rw [e] at hk; simp at hk
  obtain ⟨b, o, vs, rfl, h1, h2, h3⟩ := hP hne
  have hkv : k < vs.length := by rw [h1]; exact hk
  have e1 : (⟨b, o, none⟩ : Addr).add k = ⟨b, o + k, none⟩ := by unfold Addr.add; split <;> simp_all
  refine ⟨rfl, b, o, vs[k], rfl, ?_, HasB.of_kit (h3 k _ _ (List.getElem?_eq_getElem hkv) (List.getElem?_eq_getElem hk))⟩
  rw [← e1]
  exact h2 k _ (List.getElem?_eq_getElem hkv)

theorem RowsAt.len {w : World} {p : Option Addr} {n c : Nat} {ls : List Bs} (h : RowsAt w (.slice p n c) ls) : n = ls.length := by
  obtain ⟨p', c', e, _⟩ := h
  cases e
  rfl

/-! ### The disk behind k rounds -/
def fN : Bs := [102]
def keepsD (ls : List Bs) (sy k : Nat) : DiskM := ⟨1048576, if k = 0 then [] else [(fN, ⟨(ls.take k).flatten, (ls.take (min k sy)).flatten.length⟩)], none⟩
def keepsM (ls : List Bs) (sy k : Nat) : DiskM := ⟨1048576, [(fN, ⟨(ls.take (k + 1)).flatten, (ls.take (min k sy)).flatten.length⟩)], none⟩

theorem flat_take {ls : List Bs} {k : Nat} (hk : k < ls.length) : (ls.take (k + 1)).flatten = (ls.take k).flatten ++ ls[k] := by
  rw [List.take_succ_eq_append_getElem hk, List.flatten_append]
  simp

theorem flat_take_le (ls : List Bs) (k : Nat) : (ls.take k).flatten.length ≤ ls.flatten.length := by
  conv => rhs; rw [← List.take_append_drop k ls, List.flatten_append, List.length_append]
  omega

theorem keeps_append {ls : List Bs} (sy : Nat) {k : Nat} (hk : k < ls.length) (hl : ls.flatten.length ≤ 8000) : (keepsD ls sy k).append fN [ls[k]].flatten = (keepsM ls sy k, 0) := by
  have h1 := flat_take hk
  have h2 := flat_take_le ls (k + 1)
  rw [h1, List.length_append] at h2
  have h3 : (ls.take k).flatten.length + ls[k].length ≤ 8000 := by omega
  have h4 : [ls[k]].flatten = ls[k] := by simp
  rw [h4]
  have hm : (keepsD ls sy k).may [fN] = 0 := rfl
  unfold DiskM.append
  rw [if_neg (by rw [hm]; simp)]
  by_cases h0 : k = 0
  · subst h0
    have hf : (keepsD ls sy 0).full fN ls[0] = false := by
      have : ¬ (1048576 < 0 + ls[0].length) := by omega
      simp only [DiskM.full, keepsD, if_true, DiskM.used, sumBy, Sat.get, List.map_nil, List.sum_nil, decide_eq_false this]
      simp
    rw [if_neg (by rw [hf]; simp)]
    simp only [keepsD, keepsM, if_true, DiskM.done, DiskM.cur, Sat.get, put, del, h1]
    simp
    rfl
  · have hf : (keepsD ls sy k).full fN ls[k] = false := by
      have : ¬ (1048576 < (ls.take k).flatten.length + 0 + ls[k].length) := by omega
      simp only [DiskM.full, keepsD, if_neg h0, DiskM.used, sumBy, Sat.get, List.map_cons, List.map_nil, List.sum_cons, List.sum_nil, DiskM.size, decide_eq_false this]
      simp [fN]
    rw [if_neg (by rw [hf]; simp)]
    simp only [keepsD, keepsM, if_neg h0, DiskM.done, DiskM.cur, Sat.get, put, del, h1]
    simp [fN, ins]

theorem keeps_sync {ls : List Bs} {sy k : Nat} (hs : k < sy) : (keepsM ls sy k).sync [fN] = (keepsD ls sy (k + 1), 0) := by
  have e1 : min (k + 1) sy = k + 1 := by omega
  simp only [DiskM.sync, DiskM.each, DiskM.each1, keepsM, keepsD, e1]
  simp [DiskM.may, fN, okN, Sat.get, DiskM.done, DiskM.gSync, put, del, ins]

theorem keeps_stay {ls : List Bs} {sy k : Nat} (hs : sy ≤ k) : keepsM ls sy k = keepsD ls sy (k + 1) := by
  have e1 : min (k + 1) sy = min k sy := by omega
  simp only [keepsM, keepsD, e1]
  simp

theorem keeps_get0 (ls : List Bs) (sy : Nat) (dr : Int) : Sat.get fN ((keepsD ls sy 0).crash dr).files = none := rfl
theorem keeps_get {ls : List Bs} {sy k : Nat} (dr : Int) (h0 : k ≠ 0) : Sat.get fN ((keepsD ls sy k).crash dr).files = some (DiskM.crashF dr ⟨(ls.take k).flatten, (ls.take (min k sy)).flatten.length⟩) := by
  simp only [DiskM.crash, keepsD, if_neg h0, mp_get]
  rfl
end Go.Proofs.Ytdlbamhabenhgaa
