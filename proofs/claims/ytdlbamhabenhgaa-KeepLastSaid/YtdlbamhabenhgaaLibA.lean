/- Sorted association lists keyed by bytes, and how a map in memory reads as one. Plain lists; no program. -/
import Derived.WalkKit
import Derived.WalkSpells
import Derived.WalkLawsBesides
import Derived.Maps.RangeWalk
import Derived.Maps.OwnOps
import Derived.Lib.Hide
namespace Go.Sat
open Go.Maps (Keyed)

abbrev Bs := List UInt8

section
variable {α β : Type}

def get (n : Bs) (L : List (Bs × α)) : Option α := (L.find? (fun p => p.1 == n)).map (·.2)
def del (n : Bs) (L : List (Bs × α)) : List (Bs × α) := L.filter (fun p => !(p.1 == n))
def ins (x : Bs × α) : List (Bs × α) → List (Bs × α)
  | [] => [x]
  | y :: r => if bytesBefore x.1 y.1 then x :: y :: r else y :: ins x r
def put (n : Bs) (a : α) (L : List (Bs × α)) : List (Bs × α) := ins (n, a) (del n L)
def Srt (L : List (Bs × α)) : Prop := L.Pairwise (fun p q => bytesBefore p.1 q.1 = true)
def sumBy (f : α → Nat) (L : List (Bs × α)) : Nat := (L.map fun p => f p.2).sum

theorem bb_irrefl (a : Bs) : bytesBefore a a = false := WideAt.bytes_irrefl a
theorem bb_trans {a b c : Bs} (h : bytesBefore a b = true) (k : bytesBefore b c = true) : bytesBefore a c = true := WideShapes.bytes_trans a b c h k
theorem bb_total (a b : Bs) (h : a ≠ b) : bytesBefore a b = true ∨ bytesBefore b a = true := WideAt.bytes_total a b h
theorem bb_ne {a b : Bs} (h : bytesBefore a b = true) : a ≠ b := by
  rintro rfl
  rw [bb_irrefl] at h
  cases h

theorem srt_nil : Srt ([] : List (Bs × α)) := List.Pairwise.nil
theorem srt_del {n : Bs} {L : List (Bs × α)} (h : Srt L) : Srt (del n L) := h.filter _

theorem mem_ins {x y : Bs × α} : ∀ {L : List (Bs × α)}, y ∈ ins x L ↔ y = x ∨ y ∈ L
  | [] => by simp [ins]
  | z :: r => by
    unfold ins
    split
    · simp
    · simp [mem_ins (L := r)]
      constructor
      · rintro (h | h | h) <;> simp [h]
      · rintro (h | h | h) <;> simp [h]

theorem ins_perm (x : Bs × α) : ∀ (L : List (Bs × α)), (ins x L).Perm (x :: L)
  | [] => List.Perm.refl _
  | z :: r => by
    unfold ins
    split
    · exact List.Perm.refl _
    · exact ((ins_perm x r).cons z).trans (List.Perm.swap x z r)

theorem srt_ins {x : Bs × α} : ∀ {L : List (Bs × α)}, Srt L → (∀ p ∈ L, p.1 ≠ x.1) → Srt (ins x L)
  | [], _, _ => by simp [ins, Srt]
  | y :: r, h, hne => by
    obtain ⟨h1, h2⟩ := List.pairwise_cons.1 h
    unfold ins
    split
    · rename_i hb
      refine List.pairwise_cons.2 ⟨fun q hq => ?_, h⟩
      rcases List.mem_cons.1 hq with rfl | hq
      · exact hb
      · exact bb_trans hb (h1 q hq)
    · rename_i hb
      have hyx : bytesBefore y.1 x.1 = true := by
        rcases bb_total x.1 y.1 (hne y (by simp)).symm with h' | h'
        · exact absurd h' hb
        · exact h'
      refine List.pairwise_cons.2 ⟨fun q hq => ?_, srt_ins h2 (fun p hp => hne p (by simp [hp]))⟩
      rcases mem_ins.1 hq with rfl | hq
      · exact hyx
      · exact h1 q hq

theorem mem_del {n : Bs} {p : Bs × α} {L : List (Bs × α)} : p ∈ del n L ↔ p ∈ L ∧ p.1 ≠ n := by
  simp [del]

theorem srt_put {n : Bs} {a : α} {L : List (Bs × α)} (h : Srt L) : Srt (put n a L) :=
  srt_ins (srt_del h) fun _ hp => (mem_del.1 hp).2

theorem mem_put {n : Bs} {a : α} {p : Bs × α} {L : List (Bs × α)} : p ∈ put n a L ↔ p = (n, a) ∨ (p ∈ L ∧ p.1 ≠ n) := by
  unfold put
  rw [mem_ins, mem_del]

theorem put_perm (n : Bs) (a : α) (L : List (Bs × α)) : (put n a L).Perm ((n, a) :: del n L) := ins_perm _ _

theorem get_none {n : Bs} {L : List (Bs × α)} : get n L = none ↔ ∀ p ∈ L, p.1 ≠ n := by
  simp [get, List.find?_eq_none]

theorem get_mem {n : Bs} {a : α} {L : List (Bs × α)} (h : get n L = some a) : (n, a) ∈ L := by
  simp only [get, Option.map_eq_some_iff] at h
  obtain ⟨p, hp, rfl⟩ := h
  have h1 := List.mem_of_find?_eq_some hp
  have h2 := List.find?_some hp
  simp at h2
  rw [← h2]
  exact h1

theorem key_uniq {L : List (Bs × α)} (h : Srt L) {p q : Bs × α} (hp : p ∈ L) (hq : q ∈ L) (e : p.1 = q.1) : p = q := by
  induction L with
  | nil => simp at hp
  | cons y r ih =>
    obtain ⟨h1, h2⟩ := List.pairwise_cons.1 h
    rcases List.mem_cons.1 hp with e1 | hp1
    · rcases List.mem_cons.1 hq with e2 | hq1
      · rw [e1, e2]
      · exact absurd (e1 ▸ e) (bb_ne (h1 q hq1))
    · rcases List.mem_cons.1 hq with e2 | hq1
      · exact absurd (e2 ▸ e).symm (bb_ne (h1 p hp1))
      · exact ih h2 hp1 hq1

theorem get_of_mem {L : List (Bs × α)} (h : Srt L) {n : Bs} {a : α} (hm : (n, a) ∈ L) : get n L = some a := by
  cases hg : get n L with
  | none => exact absurd rfl (get_none.1 hg _ hm)
  | some b =>
    have := key_uniq h hm (get_mem hg) rfl
    simp at this
    rw [this]

theorem get_iff {L : List (Bs × α)} (h : Srt L) {n : Bs} {a : α} : get n L = some a ↔ (n, a) ∈ L := ⟨get_mem, get_of_mem h⟩

theorem get_put_same {L : List (Bs × α)} (h : Srt L) (n : Bs) (a : α) : get n (put n a L) = some a :=
  get_of_mem (srt_put h) (mem_put.2 (.inl rfl))

theorem get_put_other {L : List (Bs × α)} (h : Srt L) {n m : Bs} (a : α) (hne : m ≠ n) : get m (put n a L) = get m L := by
  cases hg : get m L with
  | none =>
    rw [get_none] at hg ⊢
    intro p hp
    rcases mem_put.1 hp with rfl | ⟨hp, _⟩
    · exact hne.symm
    · exact hg p hp
  | some b => exact get_of_mem (srt_put h) (mem_put.2 (.inr ⟨get_mem hg, hne⟩))

theorem get_del_same (n : Bs) (L : List (Bs × α)) : get n (del n L) = none := get_none.2 fun _ hp => (mem_del.1 hp).2

theorem get_del_other {L : List (Bs × α)} (h : Srt L) {n m : Bs} (hne : m ≠ n) : get m (del n L) = get m L := by
  cases hg : get m L with
  | none => rw [get_none] at hg ⊢; exact fun p hp => hg p (mem_del.1 hp).1
  | some b => exact get_of_mem (srt_del h) (mem_del.2 ⟨get_mem hg, hne⟩)

theorem del_none {n : Bs} {L : List (Bs × α)} (h : get n L = none) : del n L = L := by
  rw [get_none] at h
  exact List.filter_eq_self.2 fun p hp => by simpa using h p hp

theorem sum_perm {f : α → Nat} {L L' : List (Bs × α)} (h : L.Perm L') : sumBy f L = sumBy f L' := by
  induction h with
  | nil => rfl
  | cons x _ ih => simp only [sumBy, List.map_cons, List.sum_cons] at ih ⊢; omega
  | swap x y l => simp only [sumBy, List.map_cons, List.sum_cons]; omega
  | trans _ _ ih1 ih2 => exact ih1.trans ih2

theorem sum_cons (f : α → Nat) (x : Bs × α) (L : List (Bs × α)) : sumBy f (x :: L) = f x.2 + sumBy f L := rfl

theorem sum_put (f : α → Nat) (n : Bs) (a : α) (L : List (Bs × α)) : sumBy f (put n a L) = f a + sumBy f (del n L) := sum_perm (put_perm n a L)

theorem split_at {L : List (Bs × α)} (h : Srt L) {n : Bs} {a : α} (hg : get n L = some a) : L.Perm ((n, a) :: del n L) := by
  induction L with
  | nil => simp [get] at hg
  | cons y r ih =>
    obtain ⟨h1, h2⟩ := List.pairwise_cons.1 h
    by_cases hy : y.1 = n
    · have hya : y = (n, a) := key_uniq h (by simp) (get_mem hg) hy
      have hd : del n (y :: r) = r := by
        have h1' : ∀ p ∈ r, bytesBefore y.1 p.1 = true := h1
        unfold del
        rw [List.filter_cons, if_neg (by simp [hy])]
        refine List.filter_eq_self.2 fun p hp => ?_
        have := bb_ne (h1' p hp)
        rw [hy] at this
        simpa using fun e => this (Eq.symm e)
      rw [hd, hya]
    · have hg' : get n r = some a := by
        simp only [get, List.find?_cons] at hg
        rw [show (y.1 == n) = false by simpa using hy] at hg
        exact hg
      have hd : del n (y :: r) = y :: del n r := by
        unfold del
        rw [List.filter_cons, if_pos (by simpa using hy)]
      rw [hd]
      exact ((ih h2 hg').cons y).trans (List.Perm.swap _ _ _)

theorem sum_del {f : α → Nat} {L : List (Bs × α)} (h : Srt L) {n : Bs} {a : α} (hg : get n L = some a) : sumBy f L = f a + sumBy f (del n L) := sum_perm (split_at h hg)

theorem len_put (n : Bs) (a : α) (L : List (Bs × α)) : (put n a L).length = (del n L).length + 1 := (put_perm n a L).length_eq

theorem len_del {L : List (Bs × α)} (h : Srt L) {n : Bs} {a : α} (hg : get n L = some a) : L.length = (del n L).length + 1 := (split_at h hg).length_eq

theorem len_del_le (n : Bs) (L : List (Bs × α)) : (del n L).length ≤ L.length := List.length_filter_le _ _

/-- Another thing in each place, under the same names. -/
def mp (g : α → β) (L : List (Bs × α)) : List (Bs × β) := L.map fun p => (p.1, g p.2)

theorem mp_ins (g : α → β) (x : Bs × α) : ∀ L : List (Bs × α), mp g (ins x L) = ins (x.1, g x.2) (mp g L)
  | [] => rfl
  | y :: r => by
    simp only [ins, mp, List.map_cons]
    split
    · simp
    · simp only [List.map_cons]
      rw [show List.map (fun p : Bs × α => (p.1, g p.2)) (ins x r) = mp g (ins x r) from rfl, mp_ins g x r]
      rfl

theorem mp_del (g : α → β) (n : Bs) (L : List (Bs × α)) : mp g (del n L) = del n (mp g L) := by
  simp only [mp, del, List.filter_map]
  rfl

theorem mp_put (g : α → β) (n : Bs) (a : α) (L : List (Bs × α)) : mp g (put n a L) = put n (g a) (mp g L) := by
  simp only [put, mp_ins, mp_del]

theorem mp_get (g : α → β) (n : Bs) (L : List (Bs × α)) : get n (mp g L) = (get n L).map g := by
  simp only [get, mp, List.find?_map, Option.map_map]
  rfl

theorem mp_srt {g : α → β} {L : List (Bs × α)} (h : Srt L) : Srt (mp g L) := by
  unfold Srt mp
  rw [List.pairwise_map]
  exact h

theorem mp_len (g : α → β) (L : List (Bs × α)) : (mp g L).length = L.length := by simp [mp]
theorem mp_sum (f : β → Nat) (g : α → β) (L : List (Bs × α)) : sumBy f (mp g L) = sumBy (fun a => f (g a)) L := by
  simp only [sumBy, mp, List.map_map]
  rfl

/-- Two sorted lists that give the same at every name are one. -/
theorem srt_ext {L M : List (Bs × α)} (hL : Srt L) (hM : Srt M) (h : ∀ n, get n L = get n M) : L = M := by
  have hmem : ∀ p, p ∈ L ↔ p ∈ M := fun p => by rw [← get_iff hL (n := p.1) (a := p.2), h, get_iff hM]
  induction L generalizing M with
  | nil =>
    cases M with
    | nil => rfl
    | cons y s => exact absurd ((hmem y).2 (by simp)) (by simp)
  | cons x r ih =>
    cases M with
    | nil => exact absurd ((hmem x).1 (by simp)) (by simp)
    | cons y s =>
      obtain ⟨x1, x2⟩ := List.pairwise_cons.1 hL
      obtain ⟨y1, y2⟩ := List.pairwise_cons.1 hM
      have hxy : x = y := by
        rcases List.mem_cons.1 ((hmem x).1 (by simp)) with e | hx
        · exact e
        · rcases List.mem_cons.1 ((hmem y).2 (by simp)) with e | hy
          · exact e.symm
          · have a1 := y1 x hx
            have a2 := x1 y hy
            have := bb_trans a1 a2
            rw [bb_irrefl] at this
            cases this
      subst hxy
      have hr : r = s := by
        refine ih x2 y2 (fun n => ?_) (fun p => ?_)
        · by_cases hn : x.1 = n
          · have e1 : get n r = none := get_none.2 fun p hp e => bb_ne (x1 p hp) (hn.trans e.symm)
            have e2 : get n s = none := get_none.2 fun p hp e => bb_ne (y1 p hp) (hn.trans e.symm)
            rw [e1, e2]
          · have := h n
            simp only [get, List.find?_cons] at this
            rw [show (x.1 == n) = false by simpa using hn] at this
            exact this
        · have := hmem p
          simp only [List.mem_cons] at this
          constructor
          · intro hp
            rcases this.1 (.inr hp) with e | e
            · subst e
              exact absurd rfl (bb_ne (x1 p hp))
            · exact e
          · intro hp
            rcases this.2 (.inr hp) with e | e
            · subst e
              exact absurd rfl (bb_ne (y1 p hp))
            · exact e
      rw [hr]

end

/-! ### The reading of a map in memory. -/
section
variable {H α : Type}

def dm (g : α → DataW H) (L : List (Bs × α)) : DataW H := .map (L.map fun p => (Lit.string p.1, g p.2))

theorem sk (a b : Bs) : (Lit.string a).sameKey (.string b) = (a == b) := rfl

theorem dm_insert (g : α → DataW H) (x : Bs × α) : ∀ L : List (Bs × α), DataW.insert (Lit.string x.1, g x.2) (L.map fun p => (Lit.string p.1, g p.2)) = (ins x L).map fun p => (Lit.string p.1, g p.2)
  | [] => rfl
  | y :: r => by
    have ih := dm_insert g x r
    have e1 : DataW.insert (Lit.string x.1, g x.2) ((y :: r).map fun p => (Lit.string p.1, g p.2)) =
        (if bytesBefore x.1 y.1 = true then (Lit.string x.1, g x.2) :: (Lit.string y.1, g y.2) :: r.map fun p => (Lit.string p.1, g p.2)
          else (Lit.string y.1, g y.2) :: DataW.insert (Lit.string x.1, g x.2) (r.map fun p => (Lit.string p.1, g p.2))) := rfl
    have e2 : ins x (y :: r) = if bytesBefore x.1 y.1 = true then x :: y :: r else y :: ins x r := rfl
    rw [e1, ih, e2]
    by_cases hb : bytesBefore x.1 y.1 = true
    · rw [if_pos hb, if_pos hb]
      rfl
    · rw [if_neg hb, if_neg hb]
      rfl

theorem dm_del (g : α → DataW H) (n : Bs) (L : List (Bs × α)) : (dm g L).del (.string n) = dm g (del n L) := by
  simp only [dm, DataW.del, del, List.filter_map]
  rfl

theorem dm_put (g : α → DataW H) (n : Bs) (a : α) (L : List (Bs × α)) : (dm g L).put (.string n) (g a) = dm g (put n a L) := by
  have h := dm_insert g (n, a) (del n L)
  have e : (dm g L).put (.string n) (g a) = .map (DataW.insert (Lit.string n, g a) ((del n L).map fun p => (Lit.string p.1, g p.2))) := by
    simp only [dm, DataW.put, del, List.filter_map]
    rfl
  rw [e, h]
  rfl

theorem dm_atKey (g : α → DataW H) (n : Bs) (L : List (Bs × α)) (z : DataW H) : (dm g L).atKey (.string n) z = ((get n L).map g).getD z := by
  simp only [dm, DataW.atKey, List.find?_map, get, Option.map_map]
  rw [show ((fun p : Lit × DataW H => p.1.sameKey (Lit.string n)) ∘ fun p : Bs × α => (Lit.string p.1, g p.2)) = fun p => p.1 == n from rfl]
  cases List.find? (fun p : Bs × α => p.1 == n) L <;> rfl

theorem dm_has (g : α → DataW H) (n : Bs) (L : List (Bs × α)) : Maps.has (dm g L) (.string n) = (get n L).isSome := by
  simp only [dm, Maps.has, List.any_map, get, Option.isSome_map]
  rw [show ((fun p : Lit × DataW H => p.1.sameKey (Lit.string n)) ∘ fun p : Bs × α => (Lit.string p.1, g p.2)) = fun p => p.1 == n from rfl]
  induction L with
  | nil => rfl
  | cons y r ih =>
    simp only [List.any_cons, List.find?_cons]
    cases (y.1 == n) <;> simp [ih]

theorem dm_size (g : α → DataW H) (L : List (Bs × α)) : Maps.size (dm g L) = L.length := by simp [dm, Maps.size]

theorem dm_nil (g : α → DataW H) : dm g ([] : List (Bs × α)) = .map [] := rfl

/-- What is told of a map of at most n entries is told of it at just its size. -/
theorem exactly {w : World} {P : Program} {k : TypeId} {R : Value → Option (DataW H × List MemPlace)} {b n : Nat} {D : DataW H} (h : w.ownsMap P k R b n D) : w.ownsMap P k R b (Maps.size D) D := by
  obtain ⟨es, clock, hb, F, hs, rfl⟩ := h
  exact ⟨es, clock, hb, F, by simp [Maps.size, length_sorted], rfl⟩

/-- A pointer to the head of a block, or nil, as what a map holds. -/
def ptrR : Value → Option (DataW Nat × List MemPlace)
  | .pointer (some ⟨b, 0, none⟩) => some (.held b, [])
  | .pointer none => some (.nil, [])
  | _ => none

theorem ptrR_inv {v : Value} {y : DataW Nat × List MemPlace} {b : Nat} (h : ptrR v = some y) (hy : y.1 = .held b) : v = .pointer (some ⟨b, 0, none⟩) := by
  unfold ptrR at h
  split at h
  · simp at h
    subst h
    simp at hy
    rw [hy]
  · simp at h
    subst h
    simp at hy
  · simp at h

end
end Go.Sat
