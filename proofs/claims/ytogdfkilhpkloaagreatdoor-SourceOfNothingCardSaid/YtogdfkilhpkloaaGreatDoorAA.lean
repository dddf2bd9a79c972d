/- Sorted association lists keyed by bytes, and how a map in memory reads as one. Plain lists; no program. Rows that a value owns (its array may be longer than its capacity), append onto them, and what a step may turn. No program. Ranging over a map whose keys are strings and whose elements are pointers. No program. Contracts of octet.Join, bytes.Clone. What a law's arguments are, as the form reads them. A region that draws its order, walked in an order that is named: what yields is taken first, one operation at a time; what is not wanted is passed by; what works on the world comes up alone. A region that draws its order, one or some of whose operations (xs: the writers) spoil what its loads ask of the world: S is kept till the first of them has come up; whoever loads is waited for by all of them, and so may be taken first all the same. A region that draws its order: the laws of the text Ord (and OrdG), with all that is alike from place to place left out. A region that draws its order: two operations may come up. No program. Structs of many cells, loaded and stored whole: the cells are a list that stays folded. No program. Structs of many cells at an operation of a region that draws its order. No program. A region that draws its order: what holds may become more on the way. Sorted association lists over any kind of key that has an order, and how a map in memory reads as one. (Printed by mklibk.py.) No program. Numbers and rows as bytes: what is laid, and what is read (a plain model). No program. Requests and items (plain): which may be, their bytes, what bytes are read as. -/
import Derived.BigFrame
import Derived.BigQuiet
import Derived.ChangeOld
import Derived.Deep.DrawnRows
import Derived.Deep.Matrix
import Derived.Deep.MidRow
import Derived.Deep.RegionHeld3
import Derived.Laws.CopyRow
import Derived.Lib.Hide
import Derived.Lib.SlParts
import Derived.Maps.OwnOps
import Derived.Maps.RangeWalk
import Derived.Maps.StringElems
import Derived.OpenShut
import Derived.OwnWalk
import Derived.ProofKit
import Derived.ShutString
import Derived.SizedLaws
import Derived.WalkKit
import Derived.WalkLawsBesides
import Derived.WalkSpells
import Derived.Test.YtogdfkilhpkloaaGreatDoorChecked
import Derived.Test.YtogdfkilhpkloaaGreatDoorRows
import Derived.Test.YtogdfkilhpkloaaGreatDoorShelf
namespace Go.Sat
open Go.Maps (Keyed)

abbrev Bs := List UInt8

section
variable {α β : Type}

def get (n : Bs) (L : List (Bs × α)) : Option α := (L.find? (fun p => p.1 == n)).map (·.2)
def del (n : Bs) (L : List (Bs × α)) : List (Bs × α) := L.filter (fun p => !(p.1 == n))
def ins (x : Bs × α) : List (Bs × α) → List (Bs × α)
  | [] => [x]
  | y :: r => if bytesBefore x.1 y.1 then x :: y :: r else y :: ins x r
def put (n : Bs) (a : α) (L : List (Bs × α)) : List (Bs × α) := ins (n, a) (del n L)
def Srt (L : List (Bs × α)) : Prop := L.Pairwise (fun p q => bytesBefore p.1 q.1 = true)
def sumBy (f : α → Nat) (L : List (Bs × α)) : Nat := (L.map fun p => f p.2).sum

theorem bb_irrefl (a : Bs) : bytesBefore a a = false := WideAt.bytes_irrefl a
theorem bb_trans {a b c : Bs} (h : bytesBefore a b = true) (k : bytesBefore b c = true) : bytesBefore a c = true := WideShapes.bytes_trans a b c h k
theorem bb_total (a b : Bs) (h : a ≠ b) : bytesBefore a b = true ∨ bytesBefore b a = true := WideAt.bytes_total a b h
theorem bb_ne {a b : Bs} (h : bytesBefore a b = true) : a ≠ b := by
  rintro rfl
  rw [bb_irrefl] at h
  cases h

theorem srt_nil : Srt ([] : List (Bs × α)) := List.Pairwise.nil
theorem srt_del {n : Bs} {L : List (Bs × α)} (h : Srt L) : Srt (del n L) := h.filter _

theorem mem_ins {x y : Bs × α} : ∀ {L : List (Bs × α)}, y ∈ ins x L ↔ y = x ∨ y ∈ L
  | [] => by simp [ins]
  | z :: r => by
    unfold ins
    split
    · simp
    · simp [mem_ins (L := r)]
      constructor
      · rintro (h | h | h) <;> simp [h]
      · rintro (h | h | h) <;> simp [h]

theorem ins_perm (x : Bs × α) : ∀ (L : List (Bs × α)), (ins x L).Perm (x :: L)
  | [] => List.Perm.refl _
  | z :: r => by
    unfold ins
    split
    · exact List.Perm.refl _
    · exact ((ins_perm x r).cons z).trans (List.Perm.swap x z r)

theorem srt_ins {x : Bs × α} : ∀ {L : List (Bs × α)}, Srt L → (∀ p ∈ L, p.1 ≠ x.1) → Srt (ins x L)
  | [], _, _ => by simp [ins, Srt]
  | y :: r, h, hne => by
    obtain ⟨h1, h2⟩ := List.pairwise_cons.1 h
    unfold ins
    split
    · rename_i hb
      refine List.pairwise_cons.2 ⟨fun q hq => ?_, h⟩
      rcases List.mem_cons.1 hq with rfl | hq
      · exact hb
      · exact bb_trans hb (h1 q hq)
    · rename_i hb
      have hyx : bytesBefore y.1 x.1 = true := by
        rcases bb_total x.1 y.1 (hne y (by simp)).symm with h' | h'
        · exact absurd h' hb
        · exact h'
      refine List.pairwise_cons.2 ⟨fun q hq => ?_, srt_ins h2 (fun p hp => hne p (by simp [hp]))⟩
      rcases mem_ins.1 hq with rfl | hq
      · exact hyx
      · exact h1 q hq

theorem mem_del {n : Bs} {p : Bs × α} {L : List (Bs × α)} : p ∈ del n L ↔ p ∈ L ∧ p.1 ≠ n := by
  simp [del]

theorem srt_put {n : Bs} {a : α} {L : List (Bs × α)} (h : Srt L) : Srt (put n a L) :=
  srt_ins (srt_del h) fun _ hp => (mem_del.1 hp).2

theorem mem_put {n : Bs} {a : α} {p : Bs × α} {L : List (Bs × α)} : p ∈ put n a L ↔ p = (n, a) ∨ (p ∈ L ∧ p.1 ≠ n) := by
  unfold put
  rw [mem_ins, mem_del]

theorem put_perm (n : Bs) (a : α) (L : List (Bs × α)) : (put n a L).Perm ((n, a) :: del n L) := ins_perm _ _

theorem get_none {n : Bs} {L : List (Bs × α)} : get n L = none ↔ ∀ p ∈ L, p.1 ≠ n := by
  simp [get, List.find?_eq_none]

theorem get_mem {n : Bs} {a : α} {L : List (Bs × α)} (h : get n L = some a) : (n, a) ∈ L := by
  simp only [get, Option.map_eq_some_iff] at h
  obtain ⟨p, hp, rfl⟩ := h
  have h1 := List.mem_of_find?_eq_some hp
  have h2 := List.find?_some hp
  simp at h2
  rw [← h2]
  exact h1

theorem key_uniq {L : List (Bs × α)} (h : Srt L) {p q : Bs × α} (hp : p ∈ L) (hq : q ∈ L) (e : p.1 = q.1) : p = q := by
  induction L with
  | nil => simp at hp
  | cons y r ih =>
    obtain ⟨h1, h2⟩ := List.pairwise_cons.1 h
    rcases List.mem_cons.1 hp with e1 | hp1
    · rcases List.mem_cons.1 hq with e2 | hq1
      · rw [e1, e2]
      · exact absurd (e1 ▸ e) (bb_ne (h1 q hq1))
    · rcases List.mem_cons.1 hq with e2 | hq1
      · exact absurd (e2 ▸ e).symm (bb_ne (h1 p hp1))
      · exact ih h2 hp1 hq1

theorem get_of_mem {L : List (Bs × α)} (h : Srt L) {n : Bs} {a : α} (hm : (n, a) ∈ L) : get n L = some a := by
  cases hg : get n L with
  | none => exact absurd rfl (get_none.1 hg _ hm)
  | some b =>
    have := key_uniq h hm (get_mem hg) rfl
    simp at this
    rw [this]

theorem get_iff {L : List (Bs × α)} (h : Srt L) {n : Bs} {a : α} : get n L = some a ↔ (n, a) ∈ L := ⟨get_mem, get_of_mem h⟩

theorem get_put_same {L : List (Bs × α)} (h : Srt L) (n : Bs) (a : α) : get n (put n a L) = some a :=
  get_of_mem (srt_put h) (mem_put.2 (.inl rfl))

theorem get_put_other {L : List (Bs × α)} (h : Srt L) {n m : Bs} (a : α) (hne : m ≠ n) : get m (put n a L) = get m L := by
  cases hg : get m L with
  | none =>
    rw [get_none] at hg ⊢
    intro p hp
    rcases mem_put.1 hp with rfl | ⟨hp, _⟩
    · exact hne.symm
    · exact hg p hp
  | some b => exact get_of_mem (srt_put h) (mem_put.2 (.inr ⟨get_mem hg, hne⟩))

theorem get_del_same (n : Bs) (L : List (Bs × α)) : get n (del n L) = none := get_none.2 fun _ hp => (mem_del.1 hp).2

theorem get_del_other {L : List (Bs × α)} (h : Srt L) {n m : Bs} (hne : m ≠ n) : get m (del n L) = get m L := by
  cases hg : get m L with
  | none => rw [get_none] at hg ⊢; exact fun p hp => hg p (mem_del.1 hp).1
  | some b => exact get_of_mem (srt_del h) (mem_del.2 ⟨get_mem hg, hne⟩)

theorem del_none {n : Bs} {L : List (Bs × α)} (h : get n L = none) : del n L = L := by
  rw [get_none] at h
  exact List.filter_eq_self.2 fun p hp => by simpa using h p hp

theorem sum_perm {f : α → Nat} {L L' : List (Bs × α)} (h : L.Perm L') : sumBy f L = sumBy f L' := by
  induction h with
  | nil => rfl
  | cons x _ ih => simp only [sumBy, List.map_cons, List.sum_cons] at ih ⊢; omega
  | swap x y l => simp only [sumBy, List.map_cons, List.sum_cons]; omega
  | trans _ _ ih1 ih2 => exact ih1.trans ih2

theorem sum_cons (f : α → Nat) (x : Bs × α) (L : List (Bs × α)) : sumBy f (x :: L) = f x.2 + sumBy f L := rfl

theorem sum_put (f : α → Nat) (n : Bs) (a : α) (L : List (Bs × α)) : sumBy f (put n a L) = f a + sumBy f (del n L) := sum_perm (put_perm n a L)

theorem split_at {L : List (Bs × α)} (h : Srt L) {n : Bs} {a : α} (hg : get n L = some a) : L.Perm ((n, a) :: del n L) := by
  induction L with
  | nil => simp [get] at hg
  | cons y r ih =>
    obtain ⟨h1, h2⟩ := List.pairwise_cons.1 h
    by_cases hy : y.1 = n
    · have hya : y = (n, a) := key_uniq h (by simp) (get_mem hg) hy
      have hd : del n (y :: r) = r := by
        have h1' : ∀ p ∈ r, bytesBefore y.1 p.1 = true := h1
        unfold del
        rw [List.filter_cons, if_neg (by simp [hy])]
        refine List.filter_eq_self.2 fun p hp => ?_
        have := bb_ne (h1' p hp)
        rw [hy] at this
        simpa using fun e => this (Eq.symm e)
      rw [hd, hya]
    · have hg' : get n r = some a := by
        simp only [get, List.find?_cons] at hg
        rw [show (y.1 == n) = false by simpa using hy] at hg
        exact hg
      have hd : del n (y :: r) = y :: del n r := by
        unfold del
        rw [List.filter_cons, if_pos (by simpa using hy)]
      rw [hd]
      exact ((ih h2 hg').cons y).trans (List.Perm.swap _ _ _)

theorem sum_del {f : α → Nat} {L : List (Bs × α)} (h : Srt L) {n : Bs} {a : α} (hg : get n L = some a) : sumBy f L = f a + sumBy f (del n L) := sum_perm (split_at h hg)

theorem len_put (n : Bs) (a : α) (L : List (Bs × α)) : (put n a L).length = (del n L).length + 1 := (put_perm n a L).length_eq

theorem len_del {L : List (Bs × α)} (h : Srt L) {n : Bs} {a : α} (hg : get n L = some a) : L.length = (del n L).length + 1 := (split_at h hg).length_eq

theorem len_del_le (n : Bs) (L : List (Bs × α)) : (del n L).length ≤ L.length := List.length_filter_le _ _

/-- Another thing in each place, under the same names. -/
def mp (g : α → β) (L : List (Bs × α)) : List (Bs × β) := L.map fun p => (p.1, g p.2)

theorem mp_ins (g : α → β) (x : Bs × α) : ∀ L : List (Bs × α), mp g (ins x L) = ins (x.1, g x.2) (mp g L)
  | [] => rfl
  | y :: r => by
    simp only [ins, mp, List.map_cons]
    split
    · simp
    · simp only [List.map_cons]
      rw [show List.map (fun p : Bs × α => (p.1, g p.2)) (ins x r) = mp g (ins x r) from rfl, mp_ins g x r]
      rfl

theorem mp_del (g : α → β) (n : Bs) (L : List (Bs × α)) : mp g (del n L) = del n (mp g L) := by
  simp only [mp, del, List.filter_map]
  rfl

theorem mp_put (g : α → β) (n : Bs) (a : α) (L : List (Bs × α)) : mp g (put n a L) = put n (g a) (mp g L) := by
  simp only [put, mp_ins, mp_del]

theorem mp_get (g : α → β) (n : Bs) (L : List (Bs × α)) : get n (mp g L) = (get n L).map g := by
  simp only [get, mp, List.find?_map, Option.map_map]
  rfl

theorem mp_srt {g : α → β} {L : List (Bs × α)} (h : Srt L) : Srt (mp g L) := by
  unfold Srt mp
  rw [List.pairwise_map]
  exact h

theorem mp_len (g : α → β) (L : List (Bs × α)) : (mp g L).length = L.length := by simp [mp]
theorem mp_sum (f : β → Nat) (g : α → β) (L : List (Bs × α)) : sumBy f (mp g L) = sumBy (fun a => f (g a)) L := by
  simp only [sumBy, mp, List.map_map]
  rfl

/-- Two sorted lists that give the same at every name are one. -/
theorem srt_ext {L M : List (Bs × α)} (hL : Srt L) (hM : Srt M) (h : ∀ n, get n L = get n M) : L = M := by
  have hmem : ∀ p, p ∈ L ↔ p ∈ M := fun p => by rw [← get_iff hL (n := p.1) (a := p.2), h, get_iff hM]
  induction L generalizing M with
  | nil =>
    cases M with
    | nil => rfl
    | cons y s => exact absurd ((hmem y).2 (by simp)) (by simp)
  | cons x r ih =>
    cases M with
    | nil => exact absurd ((hmem x).1 (by simp)) (by simp)
    | cons y s =>
      obtain ⟨x1, x2⟩ := List.pairwise_cons.1 hL
      obtain ⟨y1, y2⟩ := List.pairwise_cons.1 hM
      have hxy : x = y := by
        rcases List.mem_cons.1 ((hmem x).1 (by simp)) with e | hx
        · exact e
        · rcases List.mem_cons.1 ((hmem y).2 (by simp)) with e | hy
          · exact e.symm
          · have a1 := y1 x hx
            have a2 := x1 y hy
            have := bb_trans a1 a2
            rw [bb_irrefl] at this
            cases this
      subst hxy
      have hr : r = s := by
        refine ih x2 y2 (fun n => ?_) (fun p => ?_)
        · by_cases hn : x.1 = n
          · have e1 : get n r = none := get_none.2 fun p hp e => bb_ne (x1 p hp) (hn.trans e.symm)
            have e2 : get n s = none := get_none.2 fun p hp e => bb_ne (y1 p hp) (hn.trans e.symm)
            rw [e1, e2]
          · have := h n
            simp only [get, List.find?_cons] at this
            rw [show (x.1 == n) = false by simpa using hn] at this
            exact this
        · have := hmem p
          simp only [List.mem_cons] at this
          constructor
          · intro hp
            rcases this.1 (.inr hp) with e | e
            · subst e
              exact absurd rfl (bb_ne (x1 p hp))
            · exact e
          · intro hp
            rcases this.2 (.inr hp) with e | e
            · subst e
              exact absurd rfl (bb_ne (y1 p hp))
            · exact e
      rw [hr]

end

/-! ### The reading of a map in memory. -/
section
variable {H α : Type}

def dm (g : α → DataW H) (L : List (Bs × α)) : DataW H := .map (L.map fun p => (Lit.string p.1, g p.2))

theorem sk (a b : Bs) : (Lit.string a).sameKey (.string b) = (a == b) := rfl

theorem dm_insert (g : α → DataW H) (x : Bs × α) : ∀ L : List (Bs × α), DataW.insert (Lit.string x.1, g x.2) (L.map fun p => (Lit.string p.1, g p.2)) = (ins x L).map fun p => (Lit.string p.1, g p.2)
  | [] => rfl
  | y :: r => by
    have ih := dm_insert g x r
    have e1 : DataW.insert (Lit.string x.1, g x.2) ((y :: r).map fun p => (Lit.string p.1, g p.2)) =
        (if bytesBefore x.1 y.1 = true then (Lit.string x.1, g x.2) :: (Lit.string y.1, g y.2) :: r.map fun p => (Lit.string p.1, g p.2)
          else (Lit.string y.1, g y.2) :: DataW.insert (Lit.string x.1, g x.2) (r.map fun p => (Lit.string p.1, g p.2))) := rfl
    have e2 : ins x (y :: r) = if bytesBefore x.1 y.1 = true then x :: y :: r else y :: ins x r := rfl
    rw [e1, ih, e2]
    by_cases hb : bytesBefore x.1 y.1 = true
    · rw [if_pos hb, if_pos hb]
      rfl
    · rw [if_neg hb, if_neg hb]
      rfl

theorem dm_del (g : α → DataW H) (n : Bs) (L : List (Bs × α)) : (dm g L).del (.string n) = dm g (del n L) := by
  simp only [dm, DataW.del, del, List.filter_map]
  rfl

theorem dm_put (g : α → DataW H) (n : Bs) (a : α) (L : List (Bs × α)) : (dm g L).put (.string n) (g a) = dm g (put n a L) := by
  have h := dm_insert g (n, a) (del n L)
  have e : (dm g L).put (.string n) (g a) = .map (DataW.insert (Lit.string n, g a) ((del n L).map fun p => (Lit.string p.1, g p.2))) := by
    simp only [dm, DataW.put, del, List.filter_map]
    rfl
  rw [e, h]
  rfl

theorem dm_atKey (g : α → DataW H) (n : Bs) (L : List (Bs × α)) (z : DataW H) : (dm g L).atKey (.string n) z = ((get n L).map g).getD z := by
  simp only [dm, DataW.atKey, List.find?_map, get, Option.map_map]
  rw [show ((fun p : Lit × DataW H => p.1.sameKey (Lit.string n)) ∘ fun p : Bs × α => (Lit.string p.1, g p.2)) = fun p => p.1 == n from rfl]
  cases List.find? (fun p : Bs × α => p.1 == n) L <;> rfl

theorem dm_has (g : α → DataW H) (n : Bs) (L : List (Bs × α)) : Maps.has (dm g L) (.string n) = (get n L).isSome := by
  simp only [dm, Maps.has, List.any_map, get, Option.isSome_map]
  rw [show ((fun p : Lit × DataW H => p.1.sameKey (Lit.string n)) ∘ fun p : Bs × α => (Lit.string p.1, g p.2)) = fun p => p.1 == n from rfl]
  induction L with
  | nil => rfl
  | cons y r ih =>
    simp only [List.any_cons, List.find?_cons]
    cases (y.1 == n) <;> simp [ih]

theorem dm_size (g : α → DataW H) (L : List (Bs × α)) : Maps.size (dm g L) = L.length := by simp [dm, Maps.size]

/-- What is told of a map of at most n entries is told of it at just its size. -/
theorem exactly {w : World} {P : Program} {k : TypeId} {R : Value → Option (DataW H × List MemPlace)} {b n : Nat} {D : DataW H} (h : w.ownsMap P k R b n D) : w.ownsMap P k R b (Maps.size D) D := by
  obtain ⟨es, clock, hb, F, hs, rfl⟩ := h
  exact ⟨es, clock, hb, F, by simp [Maps.size, length_sorted], rfl⟩

/-- A pointer to the head of a block, or nil, as what a map holds. -/
def ptrR : Value → Option (DataW Nat × List MemPlace)
  | .pointer (some ⟨b, 0, none⟩) => some (.held b, [])
  | .pointer none => some (.nil, [])
  | _ => none

theorem ptrR_inv {v : Value} {y : DataW Nat × List MemPlace} {b : Nat} (h : ptrR v = some y) (hy : y.1 = .held b) : v = .pointer (some ⟨b, 0, none⟩) := by
  unfold ptrR at h
  split at h
  · simp at h
    subst h
    simp at hy
    rw [hy]
  · simp at h
    subst h
    simp at hy
  · simp at h

end
end Go.Sat

namespace Go.Sat
open Go.RowKit

/-- v is a slice of n elements (size cells each) that are the cells xs: nil, or at the head of a block that bears no mark. -/
def OwnR (w : World) (e : TypeId) (size : Nat) (v : Value) (n : Nat) (xs : List Value) : Prop :=
  xs.length = n * size ∧
  ((v = .slice none 0 0 ∧ n = 0) ∨
   ∃ g cap cur, v = .slice (some ⟨g, 0, none⟩) n cap ∧ w.heap[g]? = some (.cells cur e (0, 0)) ∧ n ≤ cap ∧ cap ≤ maxLen ∧ cap * size ≤ cur.size ∧ cur.toList.take (n * size) = xs)

/-- v is a slice whose n elements' cells read as xs, wherever they lie. -/
def Holds (w : World) (size : Nat) (v : Value) (n : Nat) (xs : List Value) : Prop :=
  xs.length = n * size ∧ ∃ p cap, v = .slice p n cap ∧ (p = none → n = 0) ∧ ∀ a, p = some a → ∀ (i : Nat) u, xs[i]? = some u → w.cell? (a.add i) = some u

section
variable {w w' : World} {e : TypeId} {size : Nat} {v : Value} {n : Nat} {xs : List Value}

theorem OwnR.nil (w : World) (e : TypeId) (size : Nat) : OwnR w e size (.slice none 0 0) 0 [] := ⟨by simp, .inl ⟨rfl, rfl⟩⟩

theorem OwnR.lt (h : OwnR w e size v n xs) {k : Nat} (hk : v.ownBlock = some k) : k < w.heap.size := by
  rcases h.2 with ⟨rfl, _⟩ | ⟨g, cap, cur, rfl, hg, _⟩
  · simp [Value.ownBlock] at hk
  · simp [Value.ownBlock] at hk
    subst hk
    exact (Array.getElem?_eq_some_iff.1 hg).1

theorem OwnR.keep (h : OwnR w e size v n xs) (hb : ∀ k, v.ownBlock = some k → w'.heap[k]? = w.heap[k]?) : OwnR w' e size v n xs := by
  refine ⟨h.1, ?_⟩
  rcases h.2 with hn | ⟨g, cap, cur, rfl, hg, rest⟩
  · exact .inl hn
  · exact .inr ⟨g, cap, cur, rfl, (hb g rfl).trans hg, rest⟩

theorem add_zero (g j : Nat) : (⟨g, 0, none⟩ : Addr).add j = ⟨g, j, none⟩ := by
  unfold Addr.add
  split <;> simp_all

theorem OwnR.cells (h : OwnR w e size v n xs) {g : Nat} (hg : v.ownBlock = some g) : ∀ j u, xs[j]? = some u → w.cell? ((⟨g, 0, none⟩ : Addr).add j) = some u := by
  intro j u hu
  rcases h.2 with ⟨rfl, _⟩ | ⟨g', cap, cur, rfl, hgg, _, _, _, htake⟩
  · simp [Value.ownBlock] at hg
  · simp [Value.ownBlock] at hg
    subst hg
    rw [add_zero, cell_of_row w g' j cur e (0, 0) hgg]
    rw [← htake, List.getElem?_take] at hu
    split at hu
    · simpa using hu
    · cases hu

theorem OwnR.holds (h : OwnR w e size v n xs) : Holds w size v n xs := by
  refine ⟨h.1, ?_⟩
  rcases h.2 with ⟨rfl, rfl⟩ | ⟨g, cap, cur, rfl, hgg, _⟩
  · exact ⟨none, 0, rfl, fun _ => rfl, fun a ha => by cases ha⟩
  · refine ⟨some ⟨g, 0, none⟩, cap, rfl, fun e => by (cases e), fun a ha i u hu => ?_⟩
    cases ha
    exact h.cells rfl i u hu

theorem OwnR.shape (h : OwnR w e size v n xs) : ∃ p c, v = .slice p n c := by
  obtain ⟨_, p, c, rfl, _⟩ := h.holds
  exact ⟨p, c, rfl⟩

theorem OwnR.of_kit {base : Nat} (h : w.ownsRow base e size v n xs) : OwnR w e size v n xs := by
  refine ⟨h.1, ?_⟩
  rcases h.2 with hn | ⟨g, cap, cur, rfl, _, hg, hnc, hcm, hcs, ht⟩
  · exact .inl hn
  · exact .inr ⟨g, cap, cur, rfl, hg, hnc, hcm, by omega, ht⟩

theorem OwnR.block_ge {base : Nat} (h : w.ownsRow base e size v n xs) {k : Nat} (hk : v.ownBlock = some k) : base ≤ k := (World.ownsRow.lt h k hk).1

theorem Holds.len (h : Holds w size v n xs) : xs.length = n * size := h.1

theorem Holds.keep (h : Holds w size v n xs) (hb : ∀ k, v.ownBlock = some k → w'.heap[k]? = w.heap[k]?) : Holds w' size v n xs := by
  obtain ⟨hl, p, cap, rfl, h0, hc⟩ := h
  refine ⟨hl, p, cap, rfl, h0, fun a ha i u hu => ?_⟩
  rw [← hc a ha i u hu]
  refine World.cell?_of_block ?_
  have e1 : (a.add i).block = a.block := by unfold Addr.add; split <;> rfl
  rw [e1]
  exact hb a.block (by rw [ha]; rfl)

end

section
variable {P : Program} (w : World)

/-- append(v, x...), v a row of the holder's own, x whatever: the row with x's cells behind it; where it lies. -/
theorem run_app (t ty e : TypeId) (i : TypeInfo) (z : Value) (size bytes : Nat) (ht : P.underlying t = some (.slice e)) (hi : P.info? e = some i) (hz : i.zero = some z)
    (hsize : i.size = size) (hby : i.bytes = bytes) (hzs : z.cells.size = size) (hsz : 0 < size)
    (v : Value) (n : Nat) (xs : List Value) (hown : OwnR w e size v n xs)
    (x : Value) (m : Nat) (news : List Value) (hx : Holds w size x m news) (h1 : ∀ u ∈ news, u.oneCell' = true)
    (h63 : n + m ≤ maxLen) (hbytes : (n + m) * bytes ≤ 140737488355328) :
    ∃ v' w', (Builtin.append_ #[t, t] ty #[v, x]).run P w = .ok v' w' ∧ OwnR w' e size v' (n + m) (xs ++ news) ∧ w.grownBy w' v.ownBlock ∧
      (v'.ownBlock = v.ownBlock ∨ ∃ g, v'.ownBlock = some g ∧ w.heap.size ≤ g) := by
  subst hsize
  subst hby
  obtain ⟨hl, p, c, rfl, hp0, hnews⟩ := hx
  have hsmall : n + m ≤ 9223372036854775807 := by simp only [maxLen] at h63; omega
  have hlen : (xs ++ news).length = (n + m) * i.size := by rw [List.length_append, hown.1, hl, Nat.add_mul]
  by_cases hm : m = 0
  · subst hm
    have hn : news = [] := List.eq_nil_of_length_eq_zero (by simpa using hl)
    subst hn
    refine ⟨v, w, ?_, by simpa using hown, ⟨rfl, rfl, rfl, Nat.le_refl _, fun _ _ _ => rfl⟩, .inl rfl⟩
    have hfc : (Builtin.firstCells i.size 0 (.slice p 0 c)).run P w = .ok #[] w := by
      cases p <;> simp [Builtin.firstCells, loadCells, loadCellsFrom]
    rcases hown.2 with ⟨rfl, rfl⟩ | ⟨g, cap, cur, rfl, hg, hnc, hcm, hcs, htake⟩
    · simp [Builtin.append_, run_underlying ht, sizeOf, typeInfo, hi, Builtin.lenOf, hfc]
    · simp [Builtin.append_, run_underlying ht, sizeOf, typeInfo, hi, Builtin.lenOf, hfc, hnc, storeCells]
  obtain ⟨a, rfl⟩ : ∃ a, p = some a := by
    cases p with
    | none => exact absurd (hp0 rfl) hm
    | some a => exact ⟨a, rfl⟩
  have hnews := hnews a rfl
  have grown : ∀ (old : Nat), old < n + m → ∀ (row : Option Nat),
      OwnR (w.drew.alloc (.cells (xs.toArray ++ news.toArray ++ Builtin.zeroCells z.cells (grownCap w (n + m) old e - (n + m))) e)) e i.size
        (.slice (some ⟨w.heap.size, 0, none⟩) (n + m) (grownCap w (n + m) old e)) (n + m) (xs ++ news) ∧
      w.grownBy (w.drew.alloc (.cells (xs.toArray ++ news.toArray ++ Builtin.zeroCells z.cells (grownCap w (n + m) old e - (n + m))) e)) row := by
    intro old ho row
    have hge := grownCap_ge w (n + m) old e
    have hcm : grownCap w (n + m) old e ≤ maxLen := grownCap_le_maxLen w (n + m) old e h63
    refine ⟨⟨hlen, .inr ⟨w.heap.size, _, _, rfl, heap_alloc_new w.drew _, hge, hcm, ?_, ?_⟩⟩, ⟨rfl, rfl, rfl, by simp, fun k hk _ => heap_alloc_old w.drew _ hk⟩⟩
    · simp only [Array.size_append, List.size_toArray, size_zeroCells, hzs, hown.1, hl, ← Nat.add_mul]
      apply Nat.le_of_eq
      congr 1
      omega
    · simp only [Array.toList_append, List.append_assoc]
      rw [← List.append_assoc, ← hlen]
      exact List.take_left
  rcases hown.2 with ⟨rfl, rfl⟩ | ⟨g, cap, cur, rfl, hg, hnc, hcm, hcs, htake⟩
  · have hx : xs = [] := List.eq_nil_of_length_eq_zero (by simpa using hown.1)
    subst hx
    have hr := run_append_nil (P := P) w t ty e i z ht hi hz a m c news hl hnews (by omega) (by omega) (by have hb := hbytes; simp only [Nat.zero_add] at hb; omega)
    have hgr := grown 0 (by omega) (Value.ownBlock (.slice none 0 0))
    simp only [Nat.zero_add, List.nil_append, Array.empty_append] at hgr ⊢
    exact ⟨_, _, hr, hgr.1, hgr.2, .inr ⟨_, rfl, Nat.le_refl _⟩⟩
  · by_cases hroom : n + m ≤ cap
    · have hfit : n * i.size + news.length ≤ cur.size := by
        rw [hl, ← Nat.add_mul]
        exact Nat.le_trans (Nat.mul_le_mul_right _ hroom) hcs
      have hr := run_append_room (P := P) w t ty e i ht hi g n cap cur hg a m c news hl hnews h1 hroom hfit
      refine ⟨_, _, hr, ⟨hlen, .inr ⟨g, cap, _, rfl, setRow_heap w g cur _ e _ hg, hroom, hcm, ?_, ?_⟩⟩, ⟨rfl, rfl, rfl, by simp, fun k _ hk => setRow_other w g k _ (fun e => hk (by simp [Value.ownBlock, e]))⟩, .inl rfl⟩
      · simp only [List.size_toArray, List.length_append, List.length_take, List.length_drop, Array.length_toList]
        omega
      · rw [htake, ← hlen]
        exact List.take_left
    · have holds : ∀ j u, xs[j]? = some u → w.cell? ((⟨g, 0, none⟩ : Addr).add j) = some u := hown.cells (g := g) rfl
      have hr := run_append_grow (P := P) w t ty e i z ht hi hz ⟨g, 0, none⟩ n cap xs hown.1 holds a m c news hl hnews (by omega) (by omega) (growslice_fits (by omega) hbytes)
      have hgr := grown cap (by omega) (Value.ownBlock (.slice (some ⟨g, 0, none⟩) n cap))
      exact ⟨_, _, hr, hgr.1, hgr.2, .inr ⟨_, rfl, Nat.le_refl _⟩⟩

/-- The same at the operation. -/
theorem wpList_app {ops : Array Oper} {rest : List Oper} {o : Oper} {a : Act} {Q : Exit → Act → World → Prop} (hgd : o.guard = none) (s x : Operand) (t : TypeId)
    (ho : o.op = .call { callee := .builtin .append, args := #[s, x], argTypes := #[t, t] })
    (e : TypeId) (i : TypeInfo) (z : Value) (size bytes : Nat) (ht : P.underlying t = some (.slice e)) (hi : P.info? e = some i) (hz : i.zero = some z)
    (hsize : i.size = size) (hby : i.bytes = bytes) (hzs : z.cells.size = size) (hsz : 0 < size)
    (v : Value) (n : Nat) (xs : List Value) (hs : a.eval s = v) (hown : OwnR w e size v n xs)
    (xv : Value) (m : Nat) (news : List Value) (hxv : a.eval x = xv) (hx : Holds w size xv m news) (h1 : ∀ u ∈ news, u.oneCell' = true)
    (h63 : n + m ≤ maxLen) (hbytes : (n + m) * bytes ≤ 140737488355328)
    (h : ∀ v' w', OwnR w' e size v' (n + m) (xs ++ news) → w.grownBy w' v.ownBlock → (v'.ownBlock = v.ownBlock ∨ ∃ g, v'.ownBlock = some g ∧ w.heap.size ≤ g) → wpList P ops Q rest (a.put o.dst v') w') : wpList P ops Q (o :: rest) a w :=
  wpList_plain hgd fun K hK => by
    obtain ⟨v', w', hr, h2, h3, h4⟩ := run_app (P := P) w t o.type e i z size bytes ht hi hz hsize hby hzs hsz v n xs hown xv m news hx h1 h63 hbytes
    unfold Oper.wp execOp
    simp only [ho, resolve, invoke, builtin, Sem.run_bind, Sem.run_pure, Result.andThen_ok, List.map_toArray, List.map_cons, List.map_nil, hs, hxv, hr]
    exact hK _ _ (h v' w' h2 h3 h4)
end

/-! ### Bytes -/
def bytesV (l : Bs) : List Value := l.map fun u => .int .u8 (u.toNat : Int)

theorem bytesV_len (l : Bs) : (bytesV l).length = l.length := by simp [bytesV]
theorem bytesV_app (l m : Bs) : bytesV (l ++ m) = bytesV l ++ bytesV m := by simp [bytesV]
theorem bytesV_take (l : Bs) (k : Nat) : bytesV (l.take k) = (bytesV l).take k := by simp [bytesV, List.map_take]
theorem bytesV_one (l : Bs) : ∀ u ∈ bytesV l, u.oneCell' = true := by
  intro u hu
  obtain ⟨x, _, rfl⟩ := List.mem_map.1 hu
  rfl
/-- v is a slice of the bytes l, wherever they lie. -/
def HasB (w : World) (v : Value) (l : Bs) : Prop := Holds w 1 v l.length (bytesV l)
/-- v is a row of the bytes l of the holder's own (e: the type of a byte). -/
def OwnB (w : World) (e : TypeId) (v : Value) (l : Bs) : Prop := OwnR w e 1 v l.length (bytesV l)

theorem OwnB.has {w : World} {e : TypeId} {v : Value} {l : Bs} (h : OwnB w e v l) : HasB w v l := OwnR.holds h
theorem OwnB.keep {w w' : World} {e : TypeId} {v : Value} {l : Bs} (h : OwnB w e v l) (hb : ∀ k, v.ownBlock = some k → w'.heap[k]? = w.heap[k]?) : OwnB w' e v l := OwnR.keep h hb

theorem HasB.kit {w : World} {v : Value} {l : Bs} (h : HasB w v l) : Lib.HoldsBytes w v l := by
  obtain ⟨_, p, cap, rfl, h0, hc⟩ := h
  refine ⟨p, cap, rfl, fun e => List.eq_nil_of_length_eq_zero (h0 e), fun a ha i x hx => hc a ha i _ ?_⟩
  simp [bytesV, hx]

theorem HasB.of_kit {w : World} {v : Value} {l : Bs} (h : Lib.HoldsBytes w v l) : HasB w v l := by
  obtain ⟨p, cap, rfl, h0, hc⟩ := h
  refine ⟨by simp [bytesV], p, cap, rfl, fun e => by rw [h0 e]; rfl, fun a ha i u hu => ?_⟩
  simp only [bytesV, List.getElem?_map, Option.map_eq_some_iff] at hu
  obtain ⟨x, hx, rfl⟩ := hu
  exact hc a ha i x hx

/-! ### What a step may turn -/
/-- Nothing but the blocks of S (and new ones) has turned. -/
structure Chg (S : Nat → Prop) (w w' : World) : Prop where
  os : w'.os = w.os
  tape : w'.tape = w.tape
  output : w'.output = w.output
  size : w.heap.size ≤ w'.heap.size
  block : ∀ k, k < w.heap.size → ¬ S k → w'.heap[k]? = w.heap[k]?

section
variable {S T : Nat → Prop} {w w' w'' : World}
theorem Chg.refl (S : Nat → Prop) (w : World) : Chg S w w := ⟨rfl, rfl, rfl, Nat.le_refl _, fun _ _ _ => rfl⟩
theorem Chg.mono (h : Chg S w w') (hs : ∀ k, k < w.heap.size → S k → T k) : Chg T w w' := ⟨h.os, h.tape, h.output, h.size, fun k hk hn => h.block k hk fun s => hn (hs k hk s)⟩
theorem Chg.trans (h : Chg S w w') (k : Chg T w' w'') (hs : ∀ i, i < w.heap.size → T i → S i) : Chg S w w'' :=
  ⟨k.os.trans h.os, k.tape.trans h.tape, k.output.trans h.output, Nat.le_trans h.size k.size, fun i hi hn => (k.block i (Nat.lt_of_lt_of_le hi h.size) fun t => hn (hs i hi t)).trans (h.block i hi hn)⟩
theorem Chg.of_below (h : Below w.heap.size w w') : Chg (fun _ => False) w w' := ⟨h.os, h.tape, h.output, h.size, fun k hk _ => h.block k hk⟩
theorem Chg.below (h : Chg S w w') {B : Nat} (hB : B ≤ w.heap.size) (hs : ∀ k, k < B → ¬ S k) : Below B w w' := ⟨h.os, h.tape, h.output, h.size, fun k hk => h.block k (by omega) (hs k hk)⟩
theorem Chg.of_grown {row : Option Nat} (h : w.grownBy w' row) : Chg (fun k => some k = row) w w' := ⟨h.os, h.tape, h.output, h.size, fun k hk hn => h.block k hk hn⟩
theorem Chg.alloc (w : World) (o : Obj) : Chg (fun _ => False) w (w.alloc o) := ⟨rfl, rfl, rfl, by simp, fun k hk _ => heap_alloc_old w o hk⟩
theorem Chg.drew (w : World) : Chg (fun _ => False) w w.drew := ⟨rfl, rfl, rfl, Nat.le_refl _, fun _ _ _ => rfl⟩
theorem Chg.setCell (w : World) (a : Addr) (u : Value) : Chg (fun k => k = a.block) w (w.setCell a u) := ⟨rfl, rfl, rfl, by simp [World.setCell], fun k _ hn => Below.heap_setCell _ _ _ _ hn⟩
theorem Chg.cell (h : Chg S w w') {a : Addr} {v : Value} (hc : w.cell? a = some v) (hn : ¬ S a.block) : w'.cell? a = some v :=
  (World.cell?_of_block (h.block a.block (World.block_lt_of_cell? w a hc) hn)).trans hc
end

theorem add_block (a : Addr) (i : Nat) : (a.add i).block = a.block := by unfold Addr.add; split <;> rfl

theorem Holds.chg {w w' : World} {S : Nat → Prop} {size : Nat} {v : Value} {n : Nat} {xs : List Value} (h : Holds w size v n xs) (hc : Chg S w w') (hS : ∀ k, v.ownBlock = some k → ¬ S k) : Holds w' size v n xs := by
  obtain ⟨hl, p, cap, rfl, h0, hcs⟩ := h
  refine ⟨hl, p, cap, rfl, h0, fun a ha i u hu => hc.cell (hcs a ha i u hu) ?_⟩
  rw [add_block]
  exact hS _ (by rw [ha]; rfl)

theorem Holds.chg2 {w w' : World} {S : Nat → Prop} {size : Nat} {v : Value} {n : Nat} {xs : List Value} (h : Holds w size v n xs) (hc : Chg S w w') (hS : ∀ a u, w.cell? a = some u → v.ownBlock = some a.block → ¬ S a.block) : Holds w' size v n xs := by
  obtain ⟨hl, p, cap, rfl, h0, hcs⟩ := h
  refine ⟨hl, p, cap, rfl, h0, fun a ha i u hu => hc.cell (hcs a ha i u hu) (hS _ _ (hcs a ha i u hu) ?_)⟩
  rw [add_block, ha]
  rfl

theorem no_cell_map {w : World} {b : Nat} {es : Array MapEntry} {c : Nat} (h : w.heap[b]? = some (.map es c)) {a : Addr} {u : Value} (hc : w.cell? a = some u) : a.block ≠ b := fun e => by
  simp [World.cell?, e, h] at hc

theorem HasB.chg {w w' : World} {S : Nat → Prop} {v : Value} {l : Bs} (h : HasB w v l) (hc : Chg S w w') (hS : ∀ k, v.ownBlock = some k → ¬ S k) : HasB w' v l := Holds.chg h hc hS
theorem HasB.below {w w' : World} {v : Value} {l : Bs} (h : HasB w v l) (hb : Below w.heap.size w w') : HasB w' v l := h.chg (Chg.of_below hb) fun _ _ => id
theorem HasB.slice {w : World} {v : Value} {l : Bs} (h : HasB w v l) : ∃ p c, v = .slice p l.length c := by
  obtain ⟨_, p, c, e, _⟩ := h
  exact ⟨p, c, e⟩
theorem OwnB.slice {w : World} {e : TypeId} {v : Value} {l : Bs} (h : OwnB w e v l) : ∃ p c, v = .slice p l.length c := h.has.slice

/-- Behind an append: a block that the row does not lie in is as it was. -/
theorem grown_block {w w' : World} {row : Option Nat} (h : w.grownBy w' row) {k : Nat} {o : Obj} (hk : w.heap[k]? = some o) (hne : row ≠ some k) : w'.heap[k]? = some o :=
  (h.block k (Array.getElem?_eq_some_iff.1 hk).1 fun e => hne e.symm).trans hk

theorem ownBlock_slice (p : Option Addr) (a b c d : Nat) : (Value.slice p a b).ownBlock = (Value.slice p c d).ownBlock := by cases p <;> rfl

theorem lt_of_block {w : World} {b : Nat} {o : Obj} (h : w.heap[b]? = some o) : b < w.heap.size := (Array.getElem?_eq_some_iff.1 h).1

theorem cell_of {w : World} {b : Nat} {c : Array Value} {e : TypeId} {fr : Nat × Nat} (h : w.heap[b]? = some (.cells c e fr)) {i : Nat} {v : Value} (hi : c[i]? = some v) : w.cell? ⟨b, i, none⟩ = some v := by
  simp [World.cell?, h, hi]
theorem frozen_of {w : World} {b : Nat} {c : Array Value} {e : TypeId} (h : w.heap[b]? = some (.cells c e (0, 0))) (i : Nat) : w.frozen? ⟨b, i, none⟩ = false := by
  simp [World.frozen?, h]
theorem set_block {w : World} {b : Nat} {c : Array Value} {e : TypeId} {fr : Nat × Nat} (h : w.heap[b]? = some (.cells c e fr)) (i : Nat) (v : Value) : (w.setCell ⟨b, i, none⟩ v).heap[b]? = some (.cells (c.setIfInBounds i v) e fr) := by
  simp [World.setCell, Array.getElem?_modify, h]
theorem set_other {w : World} {a : Addr} {k : Nat} (v : Value) (hne : k ≠ a.block) : (w.setCell a v).heap[k]? = w.heap[k]? := Below.heap_setCell _ _ _ _ hne
theorem new_block (w : World) (o : Obj) : (w.alloc o).heap[w.heap.size]? = some o := heap_alloc_new w o
theorem old_block {w : World} {k : Nat} {x : Obj} (o : Obj) (h : w.heap[k]? = some x) : (w.alloc o).heap[k]? = some x := (heap_alloc_old w o (lt_of_block h)).trans h
end Go.Sat

namespace Go.Sat
open Go.RowKit
open Go.Maps (Keyed)

section
variable {α : Type}

/-- What is still to come. -/
def rem (left : Lit → Bool) (L : List (Bs × α)) : List (Bs × α) := L.filter fun p => left (.string p.1)

theorem srt_rem {left : Lit → Bool} {L : List (Bs × α)} (h : Srt L) : Srt (rem left L) := h.filter _

theorem rem_start (g : α → DataW Nat) (L : List (Bs × α)) : rem (Maps.has (dm g L)) L = L := by
  refine List.filter_eq_self.2 fun p hp => ?_
  rw [dm_has]
  cases hg : get p.1 L with
  | none => exact absurd rfl (get_none.1 hg p hp)
  | some a => rfl

theorem rem_end {left : Lit → Bool} (h : ∀ kl, left kl = false) (L : List (Bs × α)) : rem left L = [] := by
  refine List.filter_eq_nil_iff.2 fun p _ => ?_
  rw [h]
  simp

theorem get_rem {left : Lit → Bool} {L : List (Bs × α)} (h : Srt L) {n : Bs} {a : α} (hg : get n L = some a) (hl : left (.string n) = true) : get n (rem left L) = some a :=
  get_of_mem (srt_rem h) (List.mem_filter.2 ⟨get_mem hg, hl⟩)

theorem rem_step (left : Lit → Bool) (n : Bs) (L : List (Bs × α)) : rem (fun z => left z && !z.sameKey (.string n)) L = del n (rem left L) := by
  simp only [rem, del, List.filter_filter]
  refine List.filter_congr fun p _ => ?_
  rw [sk]
  exact Bool.and_comm _ _

/-- One step takes one summand off what is still to come. -/
theorem rem_sum {f : α → Nat} {left : Lit → Bool} {L : List (Bs × α)} (h : Srt L) {n : Bs} {a : α} (hg : get n L = some a) (hl : left (.string n) = true) :
    sumBy f (rem left L) = f a + sumBy f (rem (fun z => left z && !z.sameKey (.string n)) L) := by
  rw [rem_step]
  exact sum_del (srt_rem h) (get_rem h hg hl)
end

theorem keyOf_string_inv {P : Program} {k : TypeId} (hk : P.underlying k = some .string) {key : Value} {kl : Lit} (h : keyOf P k key = some kl) : ∃ s : ByteArray, key = .string s ∧ kl = .string s.data.toList ∧ s.size ≤ maxLen := by
  cases key <;> simp [keyOf, hk, mapKey] at h
  obtain ⟨h1, rfl⟩ := h
  exact ⟨_, rfl, rfl, h1⟩

section
variable {α : Type} {P : Program} (w : World) {ops : Array Oper} {rest : List Oper} {o : Oper} {a : Act} {Q : Exit → Act → World → Prop}

theorem wpList_next_ptr (hg : o.guard = none) (it : Operand) (hop : o.op = Op.next it false) (k : TypeId) (hk : P.underlying k = some .string) (K : Keyed P k)
    (g : α → Nat) (L : List (Bs × α)) (b r n : Nat) (left : Lit → Bool) (cnt : Nat) (hit : a.eval it = .pointer (some ⟨r, 0, none⟩)) (h : w.ranges P k ptrR b r n (dm (fun x => .held (g x)) L) left cnt)
    (hDone : (∀ kl, left kl = false) → wpList P ops Q rest (a.put o.dst (.tuple #[.bool false])) w)
    (hMore : ∀ (s : ByteArray) (x : α) (w' : World) (cnt' : Nat), get s.data.toList L = some x → left (.string s.data.toList) = true → s.size ≤ maxLen →
      w'.ranges P k ptrR b r n (dm (fun x => .held (g x)) L) (fun z => left z && !z.sameKey (.string s.data.toList)) cnt' → cnt' < cnt → w.grownBy w' (some r) → w'.heap.size = w.heap.size →
      (Instr.entry (.pointer (some ⟨r, 0, none⟩))).run P w' = .ok (.tuple #[.string s, .pointer (some ⟨g x, 0, none⟩)]) w' →
      wpList P ops Q rest (a.put o.dst (.tuple #[.bool true, .string s, .pointer (some ⟨g x, 0, none⟩)])) w') :
    wpList P ops Q (o :: rest) a w :=
  wpList_next_ranges w hg it hop k K ptrR (fun s : ByteArray => .string s) (fun v : Value => v) (fun key kl hkey => by obtain ⟨s, rfl, _⟩ := keyOf_string_inv hk hkey; exact ⟨s, rfl⟩) (fun v _ _ => ⟨v, rfl⟩)
    b r n _ left cnt hit h (fun _ hl => hDone hl) (fun s v kl y w' cnt' hkey hl hv hat hrg hlt hgr hsz hen => by
      obtain ⟨s', e1, rfl, hs⟩ := keyOf_string_inv hk hkey
      simp at e1
      subst e1
      have h1 : ∀ zd, ((get s.data.toList L).map fun x => (DataW.held (g x) : DataW Nat)).getD zd = y.1 := fun zd => by rw [← dm_atKey]; exact hat zd
      cases hgt : get s.data.toList L with
      | none =>
        rw [hgt] at h1
        have e1 := h1 .nil
        have e2 := h1 (.held 0)
        rw [← e2] at e1
        cases e1
      | some x =>
        rw [hgt] at h1
        have e1 := (h1 .nil).symm
        have hv' := ptrR_inv hv e1
        subst hv'
        exact hMore s x w' cnt' hgt hl hs hrg hlt hgr hsz hen)

/-- 'm[k]' where the elements are pointers. -/
theorem run_look_ptr {t k e : TypeId} {b n : Nat} (K : Keyed P k) (hk : P.underlying k = some .string) (ht : P.underlying t = some (.map k e)) (hz : (zeroValue e).run P w = .ok (.pointer none) w) (g : α → Nat) (L : List (Bs × α))
    (h : w.ownsMap P k ptrR b n (dm (fun x => .held (g x)) L)) (s : ByteArray) (hs : s.size ≤ maxLen) :
    (Instr.lookup t (.map (some b)) (.string s) false).run P w = .ok (match get s.data.toList L with | some x => .pointer (some ⟨g x, 0, none⟩) | none => .pointer none) w := by
  obtain ⟨v, ps, hrun, hv⟩ := h.lookup K ht hz (z := .pointer none) (zd := .nil) (zp := []) rfl (WideMaps.keyOf_string_mk hk hs)
  rw [hrun]
  rw [dm_atKey] at hv
  cases hgt : get s.data.toList L with
  | none =>
    rw [hgt] at hv
    simp only [Option.map_none, Option.getD_none] at hv
    unfold ptrR at hv
    split at hv <;> simp at hv
    rfl
  | some x =>
    rw [hgt] at hv
    simp only [Option.map_some, Option.getD_some] at hv
    rw [ptrR_inv hv rfl]

theorem run_look_some {t k e : TypeId} {b n : Nat} (K : Keyed P k) (hk : P.underlying k = some .string) (ht : P.underlying t = some (.map k e)) (hz : (zeroValue e).run P w = .ok (.pointer none) w) (g : α → Nat) {L : List (Bs × α)}
    (h : w.ownsMap P k ptrR b n (dm (fun x => .held (g x)) L)) {s : ByteArray} (hs : s.size ≤ maxLen) {x : α} (hg : get s.data.toList L = some x) :
    (Instr.lookup t (.map (some b)) (.string s) false).run P w = .ok (.pointer (some ⟨g x, 0, none⟩)) w := by
  rw [run_look_ptr w K hk ht hz g L h s hs, hg]

theorem run_look_any {t k e : TypeId} {b n : Nat} (K : Keyed P k) (hk : P.underlying k = some .string) (ht : P.underlying t = some (.map k e)) (hz : (zeroValue e).run P w = .ok (.pointer none) w) (g : α → Nat) {L : List (Bs × α)}
    (h : w.ownsMap P k ptrR b n (dm (fun x => .held (g x)) L)) {s : ByteArray} (hs : s.size ≤ maxLen) :
    ∃ fv, (Instr.lookup t (.map (some b)) (.string s) false).run P w = .ok (.pointer fv) w := by
  rw [run_look_ptr w K hk ht hz g L h s hs]
  cases get s.data.toList L with
  | none => exact ⟨none, rfl⟩
  | some x => exact ⟨_, rfl⟩

theorem run_look_none {t k e : TypeId} {b n : Nat} (K : Keyed P k) (hk : P.underlying k = some .string) (ht : P.underlying t = some (.map k e)) (hz : (zeroValue e).run P w = .ok (.pointer none) w) (g : α → Nat) {L : List (Bs × α)}
    (h : w.ownsMap P k ptrR b n (dm (fun x => .held (g x)) L)) {s : ByteArray} (hs : s.size ≤ maxLen) (hg : get s.data.toList L = none) :
    (Instr.lookup t (.map (some b)) (.string s) false).run P w = .ok (.pointer none) w := by
  rw [run_look_ptr w K hk ht hz g L h s hs, hg]
end

/-! ### A region that draws its order, whose operations read or call what keeps a property of the world -/
theorem classOf (S : World → Prop) {w : World} (h : S w) : ∃ (ι : Type) (F : ι → World), Nonempty ι ∧ (∃ n, w = F n) ∧ (∀ n, S (F n)) ∧ ∀ W, S W → ∃ n, W = F n :=
  ⟨{ W : World // S W }, Subtype.val, ⟨⟨w, h⟩⟩, ⟨⟨w, h⟩, rfl⟩, fun n => n.2, fun W h => ⟨⟨W, h⟩, rfl⟩⟩

theorem wp_region_class {P : Program} {ι : Type} (F : ι → World) {id : Nat} {Q : Exit → Act → World → Prop} {a : Act} {w : World} {l : List Oper} (hm : P.follows .mixedOrders = true) (hB : Region.lexB .any l.toArray = true) (h0 : ∃ n, w.drew = F n)
    (h : wpQuiet P l.toArray (fun w' => ∃ n, w' = F n) (fun a' => ∀ w', (∃ n, w' = F n) → Q .normal a' w') l a) : (Code.region id l.toArray true).wp P Q a w :=
  wp_region_quiet (C := fun w' => ∃ n, w' = F n) hm hB h0 (by simpa using h)
end Go.Sat

namespace Go.Proofs.YtogdfkilhpkloaaGreatDoor
open Go.RowKit Go.Sat

/-- x is a slice of rows of bytes, wherever they lie. -/
def RowsAt (w : World) (x : Value) (ls : List Bs) : Prop :=
  ∃ p c, x = .slice p ls.length c ∧ ls.length ≤ c ∧ (ls ≠ [] → ∃ b o vs, p = some ⟨b, o, none⟩ ∧ Lib.PartsAt w ⟨b, o, none⟩ vs ls)

theorem fresh_has {B : Nat} {w : World} {v : Value} {l : Bs} (h : Lib.FreshBytes B w v l) : HasB w v l := by
  obtain ⟨g, cap, zs, rfl, _, hl, _, hz, hr, hb, hc, _⟩ := h
  refine HasB.of_kit ⟨some ⟨g, 0, none⟩, cap, rfl, fun e => (by cases e), fun a ha i x hx => ?_⟩
  cases ha
  have hi : i < l.length := (List.getElem?_eq_some_iff.1 hx).1
  rw [add_zero, hc i (by omega)]
  have hzi : i < zs.length := by omega
  have h1 : (zs.take l.length)[i]? = some zs[i] := by rw [List.getElem?_take, if_pos hi, List.getElem?_eq_getElem hzi]
  have h2 : (Lib.bytesOf (zs.take l.length))[i]? = some x := by rw [hb]; exact hx
  simp only [Lib.bytesOf, List.getElem?_map, h1, Option.map_some, Option.some.injEq] at h2
  have h3 := hr zs[i] (List.getElem_mem hzi)
  have h4 : zs.getD i 0 = zs[i] := by simp [List.getD, List.getElem?_eq_getElem hzi]
  rw [h4, ← h2]
  congr 2
  simp
  omega

theorem join_flat (ls : List Bs) : Lib.join ls [] = ls.flatten := by
  cases ls with
  | nil => rfl
  | cons x r =>
    rw [Lib.join_cons]
    simp [Lib.joinTail]

theorem flat_len (ls : List Bs) : ls.flatten.length = Lib.lens ls := by simp [Lib.lens, List.length_flatten]

/-- bytes.Join of rows, with nothing between them. -/
theorem bjoin {w : World} {x : Value} {ls : List Bs} (h : RowsAt w x ls) (hn : ls.length ≤ 140737488355328) (hl : ls.flatten.length ≤ 140737488355328) :
    Calls Tryz.prog 230 #[x, .slice none 0 0] w fun e w' => ∃ v, e = .returned v ∧ HasB w' v ls.flatten ∧ Below w.heap.size w w' := by
  obtain ⟨p, c, rfl, hc, hQ⟩ := h
  cases ls with
  | nil =>
    refine (Tryz.bytes_Join_none p c (.slice none 0 0) w).mono ?_
    rintro e w' ⟨rfl, rfl⟩
    refine ⟨_, rfl, ?_, (Below.refl _ _).alloc (Nat.le_refl _) _⟩
    exact HasB.of_kit ⟨_, _, rfl, fun e => (by cases e), fun a ha i x hx => by simp at hx⟩
  | cons l0 r =>
    obtain ⟨b, o, vs, rfl, hP⟩ := hQ (by simp)
    cases r with
    | nil =>
      obtain ⟨p0, c0, l0', e0, hcell, hp0, hcs⟩ := hP.get 0 (by simp)
      simp at e0
      subst e0
      have hcell' : w.cell? ⟨b, o, none⟩ = some (.slice p0 l0.length c0) := by simpa [Addr.add] using hcell
      by_cases h0 : l0.length = 0
      · have hl0 : l0 = [] := List.eq_nil_of_length_eq_zero h0
        subst hl0
        refine (Tryz.bytes_Join_one_empty b o c p0 c0 (.slice none 0 0) w hcell').mono ?_
        rintro e w' ⟨rfl, rfl⟩
        exact ⟨_, rfl, HasB.of_kit ⟨none, 0, rfl, fun _ => rfl, fun a ha => (by cases ha)⟩, Below.refl _ _⟩
      · obtain ⟨a0, rfl⟩ : ∃ a, p0 = some a := by
          cases p0 with
          | none => exact absurd (by rw [hp0 rfl]; rfl) h0
          | some a => exact ⟨a, rfl⟩
        refine (Tryz.bytes_Join_one b o c a0 c0 l0 (.slice none 0 0) w hcell' (hcs a0 rfl) (by omega) (by simpa using hl)).mono ?_
        rintro e w' ⟨v, rfl, hf, hb⟩
        exact ⟨v, rfl, by simpa using fresh_has hf, hb⟩
    | cons l1 r =>
      have hsep : Lib.HoldsBytes w (.slice none 0 0) [] := ⟨none, 0, rfl, fun _ => rfl, fun a ha => (by cases ha)⟩
      refine (Tryz.bytes_Join_many b o _ c vs (l0 :: l1 :: r) (.slice none 0 0) [] w rfl (by simp) hP hc hsep hn (by rw [← flat_len]; simpa using hl)).mono ?_
      rintro e w' ⟨v, rfl, hf, hb⟩
      rw [join_flat] at hf
      exact ⟨v, rfl, fresh_has hf, hb⟩

set_option maxHeartbeats 400000 in
/-- octet.Join. -/
theorem join_calls {w : World} {x : Value} {ls : List Bs} (h : RowsAt w x ls) (hn : ls.length ≤ 140737488355328) (hl : ls.flatten.length ≤ 140737488355328) :
    Calls Tryz.prog 174 #[x] w fun e w' => ∃ v, e = .returned v ∧ HasB w' v ls.flatten ∧ Below w.heap.size w w' := by
  have hj := bjoin h hn hl
  obtain ⟨p, c, rfl, hc, hP⟩ := h
  have Hj := Lib.hid hj
  clear hj hP
  go_enter Tryz.func174, Tryz.ntmps174
  go_wp2_with fail
  refine Hj.out.mono ?_
  rintro e w' ⟨v, rfl, hv, hb⟩
  go_wp2_with fail
  go_ret
  exact ⟨v, rfl, hv, hb⟩

/-- bytes.Clone. -/
theorem clone_calls {w : World} {x : Value} {l : Bs} (h : HasB w x l) (hl : l.length ≤ 140737488355328) :
    Calls Tryz.prog 103 #[x] w fun e w' => ∃ v, e = .returned v ∧ OwnB w' 5 v l ∧ (∀ k, v.ownBlock = some k → w.heap.size ≤ k) ∧ Below w.heap.size w w' := by
  obtain ⟨p, cap, rfl, h0, hc⟩ := h.kit
  cases p with
  | none =>
    have := h0 rfl
    subst this
    refine (Tryz.bytes_Clone_nil _ cap w).mono ?_
    rintro e w' ⟨rfl, rfl⟩
    exact ⟨_, rfl, OwnR.nil _ _ _, fun k hk => (by cases hk), Below.refl _ _⟩
  | some a =>
    refine (Tryz.bytes_Clone_at a l.length cap (Lib.numsL l) w (Lib.numsL_length l) hl fun i hi => ?_).mono ?_
    · rw [hc a rfl i l[i] (List.getElem?_eq_getElem hi)]
      simp [Lib.numsL, List.getD, List.getElem?_map, List.getElem?_eq_getElem hi]
    · rintro e w' ⟨v, rfl, hown, _, hb⟩
      have e1 : (Lib.numsL l).map (Value.int .u8) = bytesV l := by simp [Lib.numsL, bytesV]
      rw [e1] at hown
      exact ⟨v, rfl, OwnR.of_kit hown, fun k hk => OwnR.block_ge hown hk, hb⟩
end Go.Proofs.YtogdfkilhpkloaaGreatDoor

namespace Go.Sat
open Go

section
variable {P : Program} {l : List Oper} {Q : Exit → Act → World → Prop} {md : Region.Mode} {S : World → Prop} {fuel : Nat} {listed : Array Bool} {a : Act} {w : World}

theorem ord_get {i : Nat} {o : Oper} {r : List Oper} (h : l.drop i = o :: r) : l.toArray[i]? = some o := by
  have := List.getElem?_drop (xs := l) (i := i) (j := 0)
  rw [h] at this
  simpa using this.symm

/-- The beginning. -/
theorem ord_start (S : World → Prop) {id n : Nat} (hm : P.follows .mixedOrders = true) (hn : l.length = n) (hS : S w.drew) (h : S w.drew → wpAnyH P .any l.toArray Q S n (Array.replicate n false) a w.drew) : (Code.region id l.toArray true).wp P Q a w := by
  subst hn
  exact wp_region_held_drew hm hS (by simpa using h)

/-- Number i is not wanted. -/
theorem ord_skip (i : Nat) {o : Oper} {r : List Oper} (hd : l.drop i = o :: r) (hs : Region.noSelect l.toArray = true) (hf : Region.free md l.toArray listed i = true) (hr : (Region.ready md l.toArray listed).contains i = true)
    (hQ : ∀ c a w, Q (.panic c) (a.put o.dst undef) w → Q (.panic c) a w) (hw : Region.wanted o (yielded l.toArray a.tmps) = false) (hS : S w)
    (h : wpAnyH P md l.toArray Q S fuel (listed.setIfInBounds i true) (a.put o.dst undef) w) : wpAnyH P md l.toArray Q S (fuel + 1) listed a w :=
  wpAnyH_take (ord_get hd) hs hf hr hQ (.inr ⟨hw, rfl⟩) hS h

/-- Number i yields its value, in every world that meets S. -/
theorem ord_take (i : Nat) {o : Oper} {r : List Oper} {v : Value} (hd : l.drop i = o :: r) (hs : Region.noSelect l.toArray = true) (hf : Region.free md l.toArray listed i = true) (hr : (Region.ready md l.toArray listed).contains i = true)
    (hQ : ∀ c a w, Q (.panic c) (a.put o.dst v) w → Q (.panic c) a w) (hw : Region.wanted o (yielded l.toArray a.tmps) = true) (hS : S w) (hy : ∀ w, S w → (execOp a.eval o).run P w = .ok (.value v) w)
    (h : wpAnyH P md l.toArray Q S fuel (listed.setIfInBounds i true) (a.put o.dst v) w) : wpAnyH P md l.toArray Q S (fuel + 1) listed a w :=
  wpAnyH_take (ord_get hd) hs hf hr hQ (.inl ⟨hw, hy⟩) hS h

/-- Number i alone may come up. -/
theorem ord_one (i : Nat) {o : Oper} {r : List Oper} (hd : l.drop i = o :: r) (hr : Region.ready md l.toArray listed = [i]) (hw : Region.wanted o (yielded l.toArray a.tmps) = true)
    (h : ∀ K : Act → World → Prop, Shut (∀ a w, S w → (S w → wpAnyH P md l.toArray Q S fuel (listed.setIfInBounds i true) a w) → K a w) → Oper.wp P o a w K Q) : wpAnyH P md l.toArray Q S (fuel + 1) listed a w :=
  wpAnyH_ready hr (by simp) (AllReadyH.cons (ord_get hd) (fun K hK => by rw [if_pos hw]; exact h K hK) AllReadyH.nil)

/-- append, at an operation. -/
theorem wp_app {o : Oper} {K : Act → World → Prop} (s x : Operand) (t : TypeId)
    (ho : o.op = .call { callee := .builtin .append, args := #[s, x], argTypes := #[t, t] })
    (e : TypeId) (i : TypeInfo) (z : Value) (size bytes : Nat) (ht : P.underlying t = some (.slice e)) (hi : P.info? e = some i) (hz : i.zero = some z)
    (hsize : i.size = size) (hby : i.bytes = bytes) (hzs : z.cells.size = size) (hsz : 0 < size)
    (v : Value) (n : Nat) (xs : List Value) (hs : a.eval s = v) (hown : OwnR w e size v n xs)
    (xv : Value) (m : Nat) (news : List Value) (hxv : a.eval x = xv) (hx : Holds w size xv m news) (h1 : ∀ u ∈ news, u.oneCell' = true)
    (h63 : n + m ≤ maxLen) (hbytes : (n + m) * bytes ≤ 140737488355328)
    (h : ∀ v' w', OwnR w' e size v' (n + m) (xs ++ news) → w.grownBy w' v.ownBlock → (v'.ownBlock = v.ownBlock ∨ ∃ g, v'.ownBlock = some g ∧ w.heap.size ≤ g) → K (a.put o.dst v') w') : Oper.wp P o a w K Q := by
  obtain ⟨v', w', hr, h2, h3, h4⟩ := run_app (P := P) w t o.type e i z size bytes ht hi hz hsize hby hzs hsz v n xs hown xv m news hx h1 h63 hbytes
  unfold Oper.wp execOp
  simp only [ho, resolve, invoke, builtin, Sem.run_bind, Sem.run_pure, Result.andThen_ok, List.map_toArray, List.map_cons, List.map_nil, hs, hxv, hr]
  exact h v' w' h2 h3 h4
end
end Go.Sat

namespace Go.Sat
open Go

section
variable {P : Program} {l : List Oper} {Q : Exit → Act → World → Prop} {md : Region.Mode} {S : World → Prop} {fuel : Nat} {listed : Array Bool} {a : Act} {w : World}

theorem uA {α : Type} {l : List α} {i : Nat} {a : α} : l.toArray.setIfInBounds i a = (l.set i a).toArray := List.setIfInBounds_toArray _ _ _
theorem uB {α : Type} {x : α} {xs : List α} {a : α} : (x :: xs).set 0 a = a :: xs := List.set_cons_zero
theorem uC {α : Type} {x : α} {xs : List α} {i : Nat} {a : α} : (x :: xs).set (i + 1) a = x :: xs.set i a := List.set_cons_succ
/-- What is to be taken, in this order. -/
def wpPlan (P : Program) (md : Region.Mode) (l : List Oper) (Q : Exit → Act → World → Prop) (S : World → Prop) (fuel : Nat) (listed : Array Bool) (a : Act) (w : World) (_ : List Nat) : Prop := wpAnyH P md l.toArray Q S fuel listed a w
theorem Pl (is : List Nat) (h : wpPlan P md l Q S fuel listed a w is) : wpAnyH P md l.toArray Q S fuel listed a w := h
theorem Pn (h : wpAnyH P md l.toArray Q S fuel listed a w) : wpPlan P md l Q S fuel listed a w [] := h
theorem Pc {i : Nat} {is : List Nat} {o : Oper} {r : List Oper} {v : Value} (hd : l.drop i = o :: r) (h : wpPlan P md l Q S fuel (listed.setIfInBounds i true) (a.put o.dst v) w is)
    (hs : Region.noSelect l.toArray = true := by kernel_rfl) (hf : Region.free md l.toArray listed i = true := by kernel_rfl) (hr : (Region.ready md l.toArray listed).contains i = true := by kernel_rfl)
    (hQ : ∀ c a w, Q (.panic c) (a.put o.dst v) w → Q (.panic c) a w := by exact fun _ _ _ h => h) (hw : Region.wanted o (yielded l.toArray a.tmps) = true := by rfl) (hS : S w := by first | assumption | trivial)
    (hy : ∀ w, S w → (execOp a.eval o).run P w = .ok (.value v) w := by (intro w hSw; (try dsimp only at hSw); go_simp; first | done | with_reducible rfl | (rw [if_neg (by omega)]; try with_reducible rfl))) : wpPlan P md l Q S (fuel + 1) listed a w (i :: is) :=
  ord_take i hd hs hf hr hQ hw hS hy h
theorem Pd {i : Nat} {is : List Nat} {o : Oper} {r : List Oper} {v : Value} (hd : l.drop i = o :: r) (hy : ∀ w, S w → (execOp a.eval o).run P w = .ok (.value v) w) (h : wpPlan P md l Q S fuel (listed.setIfInBounds i true) (a.put o.dst v) w is)
    (hs : Region.noSelect l.toArray = true := by kernel_rfl) (hf : Region.free md l.toArray listed i = true := by kernel_rfl) (hr : (Region.ready md l.toArray listed).contains i = true := by kernel_rfl)
    (hQ : ∀ c a w, Q (.panic c) (a.put o.dst v) w → Q (.panic c) a w := by exact fun _ _ _ h => h) (hw : Region.wanted o (yielded l.toArray a.tmps) = true := by rfl) (hS : S w := by first | assumption | trivial) : wpPlan P md l Q S (fuel + 1) listed a w (i :: is) :=
  ord_take i hd hs hf hr hQ hw hS hy h
theorem Ps {i : Nat} {is : List Nat} {o : Oper} {r : List Oper} (hd : l.drop i = o :: r) (h : wpPlan P md l Q S fuel (listed.setIfInBounds i true) (a.put o.dst undef) w is)
    (hs : Region.noSelect l.toArray = true := by kernel_rfl) (hf : Region.free md l.toArray listed i = true := by kernel_rfl) (hr : (Region.ready md l.toArray listed).contains i = true := by kernel_rfl)
    (hQ : ∀ c a w, Q (.panic c) (a.put o.dst undef) w → Q (.panic c) a w := by exact fun _ _ _ h => h) (hw : Region.wanted o (yielded l.toArray a.tmps) = false := by rfl) (hS : S w := by first | assumption | trivial) : wpPlan P md l Q S (fuel + 1) listed a w (i :: is) :=
  ord_skip i hd hs hf hr hQ hw hS h
end
end Go.Sat

namespace Go.Sat
open Go Go.RowKit
/-- Two may come up. -/
theorem ord_pair {P : Program} {l : List Oper} {Q : Exit → Act → World → Prop} {md : Region.Mode} {S : World → Prop} {fuel : Nat} {listed : Array Bool} {a : Act} {w : World} (i j : Nat) {oi oj : Oper} {ri rj : List Oper} (hdi : l.drop i = oi :: ri) (hdj : l.drop j = oj :: rj) (hr : Region.ready md l.toArray listed = [i, j])
    (hwi : Region.wanted oi (yielded l.toArray a.tmps) = true) (hwj : Region.wanted oj (yielded l.toArray a.tmps) = true)
    (hi : ∀ K : Act → World → Prop, Shut (∀ a w, S w → (S w → wpAnyH P md l.toArray Q S fuel (listed.setIfInBounds i true) a w) → K a w) → Oper.wp P oi a w K Q)
    (hj : ∀ K : Act → World → Prop, Shut (∀ a w, S w → (S w → wpAnyH P md l.toArray Q S fuel (listed.setIfInBounds j true) a w) → K a w) → Oper.wp P oj a w K Q) : wpAnyH P md l.toArray Q S (fuel + 1) listed a w :=
  wpAnyH_ready hr (by simp) (AllReadyH.cons (ord_get hdi) (fun K hK => by rw [if_pos hwi]; exact hi K hK) (AllReadyH.cons (ord_get hdj) (fun K hK => by rw [if_pos hwj]; exact hj K hK) AllReadyH.nil))
/-- An append at an operation of a region that draws. -/
theorem wp_appP {P : Program} {o : Oper} {K : Act → World → Prop} {Q : Exit → Act → World → Prop} {a : Act} {w : World} (s x : Operand) (t : TypeId)
    (ho : o.op = .call { callee := .builtin .append, args := #[s, x], argTypes := #[t, t] })
    (e : TypeId) (i : TypeInfo) (z : Value) (size bytes : Nat) (ht : P.underlying t = some (.slice e)) (hi : P.info? e = some i) (hz : i.zero = some z)
    (hsize : i.size = size) (hby : i.bytes = bytes) (hzs : z.cells.size = size) (hsz : 0 < size)
    (v : Value) (n : Nat) (xs : List Value) (hs : a.eval s = v) (hown : OwnR w e size v n xs)
    (xv : Value) (m : Nat) (news : List Value) (hxv : a.eval x = xv) (hx : Holds w size xv m news) (h1 : ∀ u ∈ news, u.oneCell' = true)
    (h63 : n + m ≤ maxLen) (hbytes : (n + m) * bytes ≤ 140737488355328)
    (h : ∀ v' w', OwnR w' e size v' (n + m) (xs ++ news) → w.grownBy w' v.ownBlock → (v'.ownBlock = v.ownBlock ∨ ∃ g, v'.ownBlock = some g ∧ w.heap.size ≤ g) → K (a.put o.dst v') w') : Oper.wp P o a w K Q := by
  obtain ⟨v', w', hr, h2, h3, h4⟩ := run_app (P := P) w t o.type e i z size bytes ht hi hz hsize hby hzs hsz v n xs hown xv m news hx h1 h63 hbytes
  unfold Oper.wp execOp
  simp only [ho, resolve, invoke, builtin, Sem.run_bind, Sem.run_pure, Result.andThen_ok, List.map_toArray, List.map_cons, List.map_nil, hs, hxv, hr]
  exact h v' w' h2 h3 h4
end Go.Sat

namespace Go.Sat
open Go Go.RowKit
theorem range_of {w : World} {b : Nat} {L : List Value} {t : TypeId} {fr : Nat × Nat} (h : w.heap[b]? = some (.cells L.toArray t fr)) : w.rangeAt b 0 L := fun j v hj => by
  rw [Nat.zero_add]
  exact cell_of h (by simpa using hj)
theorem run_storeVar_list {P : Program} {w : World} {b : Nat} {t ty : TypeId} {cs : Array Value} {L : List Value} (h : w.heap[b]? = some (.cells cs t (0, 0))) (hl : cs.size = L.length) (hi : (P.info? ty).map (·.size) = some L.length) (h1 : ∀ v ∈ L, v.oneCell' = true) :
    ∃ w', (storeVar ty ⟨b, 0, none⟩ (.agg L.toArray)).run P w = .ok () w' ∧ w'.heap[b]? = some (.cells L.toArray t (0, 0)) ∧ Chg (fun k => k = b) w w' := by
  refine ⟨w.setRow b L.toArray, run_storeVar_row w b t ty cs L.toArray h (by simpa using hi) (by simpa using hl) (all_oneCell_toArray h1), ?_, rfl, rfl, rfl, ?_, fun k hk hne => ?_⟩
  · simp only [World.setRow]
    rw [Array.getElem?_modify, if_pos rfl, h]
    rfl
  · simp [World.setRow]
  · simp only [World.setRow]
    rw [Array.getElem?_modify, if_neg fun e => hne e.symm]
section
variable {P : Program} {ops : Array Oper} {rest : List Oper} {op : Oper} {a : Act} {w : World} {Q : Exit → Act → World → Prop}
/-- A whole struct is loaded. -/
theorem bload (hw : Region.wanted op (yielded ops a.tmps) = true) (ty : TypeId) (x : Operand) (ho : op.op = .load ty x) (b : Nat) (hx : a.eval x = .pointer (some ⟨b, 0, none⟩)) {L : List Value} {t : TypeId} {fr : Nat × Nat} (hb : w.heap[b]? = some (.cells L.toArray t fr)) {d : TypeDesc}
    (hu : P.underlying ty = some d) (hd : d.isRow = true) (hi : (P.info? ty).map (·.size) = some L.length) (h : wpList P ops Q rest (a.put op.dst (.agg L.toArray)) w) : wpList P ops Q (op :: rest) a w :=
  BigFrame.wpList_want hw fun _ hK => wp_load_mid ty x ho b 0 hx L d (range_of hb) hu hd hi (hK _ _ h)
/-- A whole struct is stored. -/
theorem bstore (hw : Region.wanted op (yielded ops a.tmps) = true) (ty : TypeId) (x y : Operand) (ho : op.op = .store ty x y) (b : Nat) (hx : a.eval x = .pointer (some ⟨b, 0, none⟩)) {L : List Value} (hy : a.eval y = .agg L.toArray) {cs : Array Value} {t : TypeId} (hb : w.heap[b]? = some (.cells cs t (0, 0)))
    (hl : cs.size = L.length) (hi : (P.info? ty).map (·.size) = some L.length) (h1 : ∀ v ∈ L, v.oneCell' = true) (h : ∀ w', w'.heap[b]? = some (.cells L.toArray t (0, 0)) → Chg (fun k => k = b) w w' → wpList P ops Q rest (a.put op.dst undef) w') : wpList P ops Q (op :: rest) a w := by
  obtain ⟨w', hr, h2, h3⟩ := run_storeVar_list (P := P) (ty := ty) hb hl hi h1
  refine BigFrame.wpList_want hw fun K hK => ?_
  unfold Oper.wp execOp
  simp only [ho, hx, hy, Instr.storeAt, Instr.sureAddr, Sem.run_bind, Sem.run_pure, Result.andThen_ok, hr]
  exact hK _ _ (h w' h2 h3)
/-- A variable of a struct's type is made. -/
theorem balloc (hw : Region.wanted op (yielded ops a.tmps) = true) (ty : TypeId) (ho : op.op = .alloc ty) {z : Value} (hz : (zeroValue ty).run P w = .ok z w) (_ : z.cells.size ≠ 0)
    (h : ∀ w', w'.heap[w.heap.size]? = some (.cells z.cells ty (0, 0)) → Below w.heap.size w w' → w'.heap.size = w.heap.size + 1 → wpList P ops Q rest (a.put op.dst (.pointer (some ⟨w.heap.size, 0, none⟩))) w') : wpList P ops Q (op :: rest) a w := by
  refine BigFrame.wpList_want hw fun K hK => ?_
  unfold Oper.wp execOp
  simp only [ho, Instr.alloc, newVar, newRow, Sem.run_bind, Sem.run_pure, Result.andThen_ok, hz, run_newObj_alloc]
  exact hK _ _ (h _ (new_block w _) ((Below.refl _ _).alloc (Nat.le_refl _) _) (by simp))
/-- A value goes into a block of its own. -/
theorem bbox (hw : Region.wanted op (yielded ops a.tmps) = true) (ty : TypeId) (x : Operand) (ho : op.op = .box ty x) {L : List Value} (hx : a.eval x = .agg L.toArray)
    (h : ∀ w', w'.heap[w.heap.size]? = some (.cells L.toArray ty (0, 0)) → Below w.heap.size w w' → w'.heap.size = w.heap.size + 1 → wpList P ops Q rest (a.put op.dst (.pointer (some ⟨w.heap.size, 0, none⟩))) w') : wpList P ops Q (op :: rest) a w := by
  refine BigFrame.wpList_want hw fun K hK => ?_
  unfold Oper.wp execOp
  simp only [ho, hx, Instr.box, newVar, newRow, Value.cells, Sem.run_bind, Sem.run_pure, Result.andThen_ok, run_newObj_alloc]
  exact hK _ _ (h _ (new_block w _) ((Below.refl _ _).alloc (Nat.le_refl _) _) (by simp))
/-- A struct is built. -/
theorem bbuild (hw : Region.wanted op (yielded ops a.tmps) = true) (t : TypeId) (parts : Array (Nat × Operand)) (ho : op.op = .build t parts) {v : Value} (hr : (Instr.build t (parts.map fun p => (p.1, a.eval p.2))).run P w = .ok v w) (h : wpList P ops Q rest (a.put op.dst v) w) : wpList P ops Q (op :: rest) a w := by
  refine BigFrame.wpList_want hw fun K hK => ?_
  unfold Oper.wp execOp
  simp only [ho, Sem.run_bind, Sem.run_pure, Result.andThen_ok, hr]
  exact hK _ _ h
end
/-- A value goes into the cells from place o of a block on. -/
theorem bstoreAt {P : Program} {ops : Array Oper} {rest : List Oper} {op : Oper} {a : Act} {w : World} {Q : Exit → Act → World → Prop} (hw : Region.wanted op (yielded ops a.tmps) = true) (ty : TypeId) (x y : Operand) (ho : op.op = .store ty x y) (b o : Nat) (hx : a.eval x = .pointer (some ⟨b, o, none⟩)) {v : Value} (hy : a.eval y = v) (L : List Value) (hv : v.cells = L.toArray) {cs : Array Value} {t : TypeId} (hb : w.heap[b]? = some (.cells cs t (0, 0)))
    (hl : o + L.length ≤ cs.size) (hi : (P.info? ty).map (·.size) = some L.length) (h1 : ∀ v ∈ L, v.oneCell' = true) (h : ∀ w', w'.heap[b]? = some (.cells (cs.toList.take o ++ L ++ cs.toList.drop (o + L.length)).toArray t (0, 0)) → Chg (fun k => k = b) w w' → wpList P ops Q rest (a.put op.dst undef) w') : wpList P ops Q (op :: rest) a w := by
  have hr := run_storeCells_at P b o t L 0 cs w hb (by simpa using hl) h1
  rw [Nat.add_zero] at hr
  have hs : (storeVar ty ⟨b, o, none⟩ v).run P w = .ok () (w.setRow b (cs.toList.take o ++ L ++ cs.toList.drop (o + L.length)).toArray) := by
    cases hq : P.info? ty with
    | none => simp [hq] at hi
    | some i =>
      have hz : i.size = L.length := by simpa [hq] using hi
      simp [storeVar, sizeOf, typeInfo, hq, hv, hz, hr]
  refine BigFrame.wpList_want hw fun K hK => ?_
  unfold Oper.wp execOp
  simp only [ho, hx, hy, Instr.storeAt, Instr.sureAddr, Sem.run_bind, Sem.run_pure, Result.andThen_ok, hs]
  refine hK _ _ (h _ ?_ ⟨rfl, rfl, rfl, ?_, fun k hk hne => ?_⟩)
  · simp only [World.setRow]
    rw [Array.getElem?_modify, if_pos rfl, hb]
    rfl
  · simp [World.setRow]
  · simp only [World.setRow]
    rw [Array.getElem?_modify, if_neg fun e => hne e.symm]
theorem set_blockL {w : World} {b : Nat} {L : List Value} {t : TypeId} (h : w.heap[b]? = some (.cells L.toArray t (0, 0))) (i : Nat) (v : Value) : (w.setCell ⟨b, i, none⟩ v).heap[b]? = some (.cells (L.set i v).toArray t (0, 0)) := by
  have := set_block h i v
  simpa using this
end Go.Sat

namespace Go.Sat
open Go Go.RowKit
theorem chgOne {w w1 w2 : World} {b : Nat} (h : Below w.heap.size w w1) (hc : Chg (fun k => k = b) w1 w2) (hb : w.heap.size ≤ b) : Below w.heap.size w w2 :=
  (((Chg.of_below h).mono fun _ _ e => e.elim : Chg (fun k => k = b) w w1).trans hc fun _ _ e => e).below (Nat.le_refl _) fun k hk e => by omega
section
variable {P : Program} {op : Oper} {a : Act} {w : World} {K : Act → World → Prop} {Q : Exit → Act → World → Prop}
theorem wp_bstore (ty : TypeId) (x y : Operand) (ho : op.op = .store ty x y) (b : Nat) (hx : a.eval x = .pointer (some ⟨b, 0, none⟩)) {L : List Value} (hy : a.eval y = .agg L.toArray) {cs : Array Value} {t : TypeId} (hb : w.heap[b]? = some (.cells cs t (0, 0)))
    (hl : cs.size = L.length) (hi : (P.info? ty).map (·.size) = some L.length) (h1 : ∀ v ∈ L, v.oneCell' = true) (h : ∀ w', w'.heap[b]? = some (.cells L.toArray t (0, 0)) → Chg (fun k => k = b) w w' → K (a.put op.dst undef) w') : op.wp P a w K Q := by
  obtain ⟨w', hr, h2, h3⟩ := run_storeVar_list (P := P) (ty := ty) hb hl hi h1
  unfold Oper.wp execOp
  simp only [ho, hx, hy, Instr.storeAt, Instr.sureAddr, Sem.run_bind, Sem.run_pure, Result.andThen_ok, hr]
  exact h w' h2 h3
end
end Go.Sat

namespace Go.Sat
open Go Go.RowKit
section
variable {P : Program} {op : Oper} {a : Act} {w : World} {K : Act → World → Prop} {Q : Exit → Act → World → Prop}
/-- A value goes into the cells from place o of a block on. -/
theorem wp_bstoreAt (ty : TypeId) (x y : Operand) (ho : op.op = .store ty x y) (b o : Nat) (hx : a.eval x = .pointer (some ⟨b, o, none⟩)) {v : Value} (hy : a.eval y = v) (L : List Value) (hv : v.cells = L.toArray) {cs : Array Value} {t : TypeId} (hb : w.heap[b]? = some (.cells cs t (0, 0)))
    (hl : o + L.length ≤ cs.size) (hi : (P.info? ty).map (·.size) = some L.length) (h1 : ∀ v ∈ L, v.oneCell' = true) (h : ∀ w', w'.heap[b]? = some (.cells (cs.toList.take o ++ L ++ cs.toList.drop (o + L.length)).toArray t (0, 0)) → Chg (fun k => k = b) w w' → K (a.put op.dst undef) w') : op.wp P a w K Q := by
  have hr := run_storeCells_at P b o t L 0 cs w hb (by simpa using hl) h1
  rw [Nat.add_zero] at hr
  have hs : (storeVar ty ⟨b, o, none⟩ v).run P w = .ok () (w.setRow b (cs.toList.take o ++ L ++ cs.toList.drop (o + L.length)).toArray) := by
    cases hq : P.info? ty with
    | none => simp [hq] at hi
    | some i =>
      have hz : i.size = L.length := by simpa [hq] using hi
      simp [storeVar, sizeOf, typeInfo, hq, hv, hz, hr]
  unfold Oper.wp execOp
  simp only [ho, hx, hy, Instr.storeAt, Instr.sureAddr, Sem.run_bind, Sem.run_pure, Result.andThen_ok, hs]
  refine h _ ?_ ⟨rfl, rfl, rfl, ?_, fun k hk hne => ?_⟩
  · simp only [World.setRow]
    rw [Array.getElem?_modify, if_pos rfl, hb]
    rfl
  · simp [World.setRow]
  · simp only [World.setRow]
    rw [Array.getElem?_modify, if_neg fun e => hne e.symm]
end
end Go.Sat

namespace Go.Sat
open Go.RowKit
open Go.Maps (Keyed)

class OrdK (κ : Type) where
  dec : DecidableEq κ
  lt : κ → κ → Bool
  irr : ∀ a, lt a a = false
  tr : ∀ {a b c}, lt a b = true → lt b c = true → lt a c = true
  tot : ∀ {a b}, a ≠ b → lt a b = true ∨ lt b a = true
instance decK {κ : Type} [OrdK κ] : DecidableEq κ := OrdK.dec
instance ordBs : OrdK Bs := ⟨inferInstance, bytesBefore, bb_irrefl, bb_trans, fun h => bb_total _ _ h⟩
instance ordInt : OrdK Int := ⟨inferInstance, fun a b => decide (a < b), fun a => by simp, fun h k => by simp at h k ⊢; omega, fun h => by simp; omega⟩
instance ordII : OrdK (Int × Int) := ⟨inferInstance, fun a b => decide (a.1 < b.1 ∨ (a.1 = b.1 ∧ a.2 < b.2)), fun a => by simp, fun h k => by simp at h k ⊢; omega, fun {a b} h => by
  have : ¬ (a.1 = b.1 ∧ a.2 = b.2) := fun e => h (Prod.ext e.1 e.2)
  simp
  omega⟩

section
variable {κ α β : Type} [OrdK κ]

def kget (n : κ) (L : List (κ × α)) : Option α := (L.find? (fun p => p.1 == n)).map (·.2)
def kdel (n : κ) (L : List (κ × α)) : List (κ × α) := L.filter (fun p => !(p.1 == n))
def kins (x : κ × α) : List (κ × α) → List (κ × α)
  | [] => [x]
  | y :: r => if OrdK.lt x.1 y.1 then x :: y :: r else y :: kins x r
def kput (n : κ) (a : α) (L : List (κ × α)) : List (κ × α) := kins (n, a) (kdel n L)
def KSrt (L : List (κ × α)) : Prop := L.Pairwise (fun p q => OrdK.lt p.1 q.1 = true)
theorem k_bb_irrefl (a : κ) : OrdK.lt a a = false := OrdK.irr a
theorem k_bb_trans {a b c : κ} (h : OrdK.lt a b = true) (k : OrdK.lt b c = true) : OrdK.lt a c = true := OrdK.tr h k
theorem k_bb_total (a b : κ) (h : a ≠ b) : OrdK.lt a b = true ∨ OrdK.lt b a = true := OrdK.tot h
theorem k_bb_ne {a b : κ} (h : OrdK.lt a b = true) : a ≠ b := by
  rintro rfl
  rw [k_bb_irrefl] at h
  cases h

theorem k_srt_del {n : κ} {L : List (κ × α)} (h : KSrt L) : KSrt (kdel n L) := h.filter _

theorem k_mem_ins {x y : κ × α} : ∀ {L : List (κ × α)}, y ∈ kins x L ↔ y = x ∨ y ∈ L
  | [] => by simp [kins]
  | z :: r => by
    unfold kins
    split
    · simp
    · simp [k_mem_ins (L := r)]
      constructor
      · rintro (h | h | h) <;> simp [h]
      · rintro (h | h | h) <;> simp [h]

theorem k_ins_perm (x : κ × α) : ∀ (L : List (κ × α)), (kins x L).Perm (x :: L)
  | [] => List.Perm.refl _
  | z :: r => by
    unfold kins
    split
    · exact List.Perm.refl _
    · exact ((k_ins_perm x r).cons z).trans (List.Perm.swap x z r)

theorem k_srt_ins {x : κ × α} : ∀ {L : List (κ × α)}, KSrt L → (∀ p ∈ L, p.1 ≠ x.1) → KSrt (kins x L)
  | [], _, _ => by simp [kins, KSrt]
  | y :: r, h, hne => by
    obtain ⟨h1, h2⟩ := List.pairwise_cons.1 h
    unfold kins
    split
    · rename_i hb
      refine List.pairwise_cons.2 ⟨fun q hq => ?_, h⟩
      rcases List.mem_cons.1 hq with rfl | hq
      · exact hb
      · exact k_bb_trans hb (h1 q hq)
    · rename_i hb
      have hyx : OrdK.lt y.1 x.1 = true := by
        rcases k_bb_total x.1 y.1 (hne y (by simp)).symm with h' | h'
        · exact absurd h' hb
        · exact h'
      refine List.pairwise_cons.2 ⟨fun q hq => ?_, k_srt_ins h2 (fun p hp => hne p (by simp [hp]))⟩
      rcases k_mem_ins.1 hq with rfl | hq
      · exact hyx
      · exact h1 q hq

theorem k_mem_del {n : κ} {p : κ × α} {L : List (κ × α)} : p ∈ kdel n L ↔ p ∈ L ∧ p.1 ≠ n := by
  simp [kdel]

theorem k_srt_put {n : κ} {a : α} {L : List (κ × α)} (h : KSrt L) : KSrt (kput n a L) :=
  k_srt_ins (k_srt_del h) fun _ hp => (k_mem_del.1 hp).2

theorem k_mem_put {n : κ} {a : α} {p : κ × α} {L : List (κ × α)} : p ∈ kput n a L ↔ p = (n, a) ∨ (p ∈ L ∧ p.1 ≠ n) := by
  unfold kput
  rw [k_mem_ins, k_mem_del]

theorem k_put_perm (n : κ) (a : α) (L : List (κ × α)) : (kput n a L).Perm ((n, a) :: kdel n L) := k_ins_perm _ _

theorem k_get_none {n : κ} {L : List (κ × α)} : kget n L = none ↔ ∀ p ∈ L, p.1 ≠ n := by
  simp [kget, List.find?_eq_none]

theorem k_get_mem {n : κ} {a : α} {L : List (κ × α)} (h : kget n L = some a) : (n, a) ∈ L := by
  simp only [kget, Option.map_eq_some_iff] at h
  obtain ⟨p, hp, rfl⟩ := h
  have h1 := List.mem_of_find?_eq_some hp
  have h2 := List.find?_some hp
  simp at h2
  rw [← h2]
  exact h1

theorem k_key_uniq {L : List (κ × α)} (h : KSrt L) {p q : κ × α} (hp : p ∈ L) (hq : q ∈ L) (e : p.1 = q.1) : p = q := by
  induction L with
  | nil => simp at hp
  | cons y r ih =>
    obtain ⟨h1, h2⟩ := List.pairwise_cons.1 h
    rcases List.mem_cons.1 hp with e1 | hp1
    · rcases List.mem_cons.1 hq with e2 | hq1
      · rw [e1, e2]
      · exact absurd (e1 ▸ e) (k_bb_ne (h1 q hq1))
    · rcases List.mem_cons.1 hq with e2 | hq1
      · exact absurd (e2 ▸ e).symm (k_bb_ne (h1 p hp1))
      · exact ih h2 hp1 hq1

theorem k_get_of_mem {L : List (κ × α)} (h : KSrt L) {n : κ} {a : α} (hm : (n, a) ∈ L) : kget n L = some a := by
  cases hg : kget n L with
  | none => exact absurd rfl (k_get_none.1 hg _ hm)
  | some b =>
    have := k_key_uniq h hm (k_get_mem hg) rfl
    simp at this
    rw [this]

theorem k_get_iff {L : List (κ × α)} (h : KSrt L) {n : κ} {a : α} : kget n L = some a ↔ (n, a) ∈ L := ⟨k_get_mem, k_get_of_mem h⟩

theorem k_get_put_same {L : List (κ × α)} (h : KSrt L) (n : κ) (a : α) : kget n (kput n a L) = some a :=
  k_get_of_mem (k_srt_put h) (k_mem_put.2 (.inl rfl))

theorem k_get_put_other {L : List (κ × α)} (h : KSrt L) {n m : κ} (a : α) (hne : m ≠ n) : kget m (kput n a L) = kget m L := by
  cases hg : kget m L with
  | none =>
    rw [k_get_none] at hg ⊢
    intro p hp
    rcases k_mem_put.1 hp with rfl | ⟨hp, _⟩
    · exact hne.symm
    · exact hg p hp
  | some b => exact k_get_of_mem (k_srt_put h) (k_mem_put.2 (.inr ⟨k_get_mem hg, hne⟩))

/-- Another thing in each place, under the same names. -/
def kmp (g : α → β) (L : List (κ × α)) : List (κ × β) := L.map fun p => (p.1, g p.2)

theorem k_mp_ins (g : α → β) (x : κ × α) : ∀ L : List (κ × α), kmp g (kins x L) = kins (x.1, g x.2) (kmp g L)
  | [] => rfl
  | y :: r => by
    simp only [kins, kmp, List.map_cons]
    split
    · simp
    · simp only [List.map_cons]
      rw [show List.map (fun p : κ × α => (p.1, g p.2)) (kins x r) = kmp g (kins x r) from rfl, k_mp_ins g x r]
      rfl

theorem k_mp_del (g : α → β) (n : κ) (L : List (κ × α)) : kmp g (kdel n L) = kdel n (kmp g L) := by
  simp only [kmp, kdel, List.filter_map]
  rfl

theorem k_mp_put (g : α → β) (n : κ) (a : α) (L : List (κ × α)) : kmp g (kput n a L) = kput n (g a) (kmp g L) := by
  simp only [kput, k_mp_ins, k_mp_del]

theorem k_mp_get (g : α → β) (n : κ) (L : List (κ × α)) : kget n (kmp g L) = (kget n L).map g := by
  simp only [kget, kmp, List.find?_map, Option.map_map]
  rfl

theorem k_mp_srt {g : α → β} {L : List (κ × α)} (h : KSrt L) : KSrt (kmp g L) := by
  unfold KSrt kmp
  rw [List.pairwise_map]
  exact h

/-- Two sorted lists that give the same at every name are one. -/
theorem k_srt_ext {L M : List (κ × α)} (hL : KSrt L) (hM : KSrt M) (h : ∀ n, kget n L = kget n M) : L = M := by
  have hmem : ∀ p, p ∈ L ↔ p ∈ M := fun p => by rw [← k_get_iff hL (n := p.1) (a := p.2), h, k_get_iff hM]
  induction L generalizing M with
  | nil =>
    cases M with
    | nil => rfl
    | cons y s => exact absurd ((hmem y).2 (by simp)) (by simp)
  | cons x r ih =>
    cases M with
    | nil => exact absurd ((hmem x).1 (by simp)) (by simp)
    | cons y s =>
      obtain ⟨x1, x2⟩ := List.pairwise_cons.1 hL
      obtain ⟨y1, y2⟩ := List.pairwise_cons.1 hM
      have hxy : x = y := by
        rcases List.mem_cons.1 ((hmem x).1 (by simp)) with e | hx
        · exact e
        · rcases List.mem_cons.1 ((hmem y).2 (by simp)) with e | hy
          · exact e.symm
          · have a1 := y1 x hx
            have a2 := x1 y hy
            have := k_bb_trans a1 a2
            rw [k_bb_irrefl] at this
            cases this
      subst hxy
      have hr : r = s := by
        refine ih x2 y2 (fun n => ?_) (fun p => ?_)
        · by_cases hn : x.1 = n
          · have e1 : kget n r = none := k_get_none.2 fun p hp e => k_bb_ne (x1 p hp) (hn.trans e.symm)
            have e2 : kget n s = none := k_get_none.2 fun p hp e => k_bb_ne (y1 p hp) (hn.trans e.symm)
            rw [e1, e2]
          · have := h n
            simp only [kget, List.find?_cons] at this
            rw [show (x.1 == n) = false by simpa using hn] at this
            exact this
        · have := hmem p
          simp only [List.mem_cons] at this
          constructor
          · intro hp
            rcases this.1 (.inr hp) with e | e
            · subst e
              exact absurd rfl (k_bb_ne (x1 p hp))
            · exact e
          · intro hp
            rcases this.2 (.inr hp) with e | e
            · subst e
              exact absurd rfl (k_bb_ne (y1 p hp))
            · exact e
      rw [hr]

end

/-! ### The reading of a map in memory. -/
section
variable {κ α : Type} [OrdK κ]

/-- Keys as the model of maps reads them. -/
structure KeyR (P : Program) (k : TypeId) (κ : Type) where
  v : κ → Value
  lit : κ → Lit
  ok : κ → Prop
  key : ∀ a, ok a → keyOf P k (v a) = some (lit a)
  inj : ∀ a b, ok a → ok b → lit a = lit b → a = b
  back : ∀ x l, keyOf P k x = some l → ∀ a, ok a → l = lit a → x = v a
/-- Elements as the model of maps reads them. -/
structure ElemR (α : Type) where
  R : Value → Option (DataW Nat × List MemPlace)
  val : α → Value
  g : α → DataW Nat
  z : Value
  zd : DataW Nat
  ok : α → Prop
  rd : ∀ x, ok x → R (val x) = some (g x, [])
  inv : ∀ v y x, R v = some y → y.1 = g x → v = val x
  zmk : R z = some (zd, [])
  zinv : ∀ v y, R v = some y → y.1 = zd → v = z
/-- The map at block b reads as L: each key in it may be one. -/
def MapIs (w : World) (P : Program) (k : TypeId) (K : KeyR P k κ) (E : ElemR α) (b : Nat) (L : List (κ × α)) : Prop :=
  ∃ es, w.ownsMap P k E.R b L.length (.map es) ∧ es.Perm (L.map fun p => (K.lit p.1, E.g p.2)) ∧ KSrt L ∧ ∀ p ∈ L, K.ok p.1

section
variable {P : Program} {k : TypeId} {K : KeyR P k κ} {E : ElemR α} {w w' : World} {b : Nat} {L : List (κ × α)}
theorem MapIs.keep (h : MapIs w P k K E b L) (hb : w'.heap[b]? = w.heap[b]?) : MapIs w' P k K E b L := by
  obtain ⟨es, ⟨xs, clock, hm, r⟩, h2⟩ := h
  exact ⟨es, ⟨xs, clock, hb.trans hm, r⟩, h2⟩
theorem MapIs.lt (h : MapIs w P k K E b L) : b < w.heap.size := let ⟨_, h, _⟩ := h; h.lt
theorem MapIs.srt (h : MapIs w P k K E b L) : KSrt L := let ⟨_, _, _, h, _⟩ := h; h
theorem mapIs_made (w : World) : MapIs (w.alloc (.map #[] 0)) P k K E w.heap.size ([] : List (κ × α)) :=
  ⟨[], w.ownsMap_made P k E.R, List.Perm.refl _, List.Pairwise.nil, fun p hp => by cases hp⟩
theorem atKey_map (es : List (Lit × DataW Nat)) (l : Lit) (zd : DataW Nat) : (DataW.map es).atKey l zd = ((es.find? fun p => p.1.sameKey l).map (·.2)).getD zd := by
  simp only [DataW.atKey]
  cases es.find? (fun p => p.1.sameKey l) <;> rfl
theorem uniq_find {l : List (Lit × DataW Nat)} {f : Lit × DataW Nat → Bool} {x : Lit × DataW Nat} (hm : x ∈ l) (hf : f x = true) (hu : ∀ y ∈ l, f y = true → y = x) : l.find? f = some x := by
  cases h : l.find? f with
  | none => exact absurd hf (by have := List.find?_eq_none.1 h x hm; simpa using this)
  | some y => rw [hu y (List.mem_of_find?_eq_some h) (List.find?_some h)]
/-- What is read at a key. -/
theorem MapIs.at (h : MapIs w P k K E b L) (Ky : Keyed P k) {a : κ} (ha : K.ok a) : ∃ es, w.ownsMap P k E.R b L.length (.map es) ∧ (∀ zd, (DataW.map es).atKey (K.lit a) zd = ((kget a L).map E.g).getD zd) ∧ Maps.has (DataW.map es) (K.lit a) = (kget a L).isSome := by
  obtain ⟨es, hm, hp, hs, hk⟩ := h
  have hkl : ∀ p ∈ es, WideAt.IsKeyLit p.1 := by
    obtain ⟨es', e, -, h3⟩ := hm.entries Ky
    cases e
    exact h3
  have hka := Ky.key (K.key a ha)
  have hmem : ∀ p, p ∈ es ↔ ∃ q ∈ L, (K.lit q.1, E.g q.2) = p := fun p => by rw [hp.mem_iff, List.mem_map]
  have hsame : ∀ {q : κ × α}, q ∈ L → (K.lit q.1).sameKey (K.lit a) = true → q.1 = a := fun {q} hq e => K.inj _ _ (hk q hq) ha (WideAt.sameKey_eq e)
  refine ⟨es, hm, fun zd => ?_, ?_⟩
  · rw [atKey_map]
    cases hg : kget a L with
    | none =>
      rw [List.find?_eq_none.2 fun p hpp e => ?_]
      · rfl
      · obtain ⟨q, hq, rfl⟩ := (hmem p).1 hpp
        exact k_get_none.1 hg q hq (hsame hq e)
    | some x =>
      have hx := k_get_mem hg
      rw [uniq_find ((hmem (K.lit a, E.g x)).2 ⟨(a, x), hx, rfl⟩) (WideAt.sameKey_self hka) fun y hy e => ?_]
      · rfl
      · obtain ⟨q, hq, rfl⟩ := (hmem y).1 hy
        have := k_key_uniq hs hq hx (hsame hq e)
        rw [this]
  · show es.any (fun p => p.1.sameKey (K.lit a)) = _
    cases hg : kget a L with
    | none =>
      rw [Option.isSome_none, List.any_eq_false]
      intro p hpp e
      obtain ⟨q, hq, rfl⟩ := (hmem p).1 hpp
      exact k_get_none.1 hg q hq (hsame hq e)
    | some x =>
      rw [Option.isSome_some, List.any_eq_true]
      exact ⟨_, (hmem _).2 ⟨(a, x), k_get_mem hg, rfl⟩, WideAt.sameKey_self hka⟩
theorem MapIs.len (h : MapIs w P k K E b L) {t e : TypeId} (ht : P.underlying t = some (.map k e)) (ty : TypeId) : (Builtin.len_ #[t] ty #[.map (some b)]).run P w = .ok (.int .i64 (L.length : Int)) w := by
  obtain ⟨es, hm, hp, -⟩ := h
  have h1 := hm.len ht ty
  rw [show Maps.size (DataW.map es) = L.length from by show es.length = _; rw [hp.length_eq, List.length_map]] at h1
  exact h1
theorem filter_key {a : κ} (ha : K.ok a) (hka : WideAt.IsKeyLit (K.lit a)) {es : List (Lit × DataW Nat)} (hp : es.Perm (L.map fun p => (K.lit p.1, E.g p.2))) (hk : ∀ p ∈ L, K.ok p.1) :
    (es.filter (ChangeMaps.notKey (K.lit a))).Perm ((kdel a L).map fun p => (K.lit p.1, E.g p.2)) := by
  refine (hp.filter _).trans ?_
  rw [List.filter_map]
  unfold kdel
  refine List.Perm.of_eq (congrArg _ (List.filter_congr fun p hpl => ?_))
  show (!(K.lit p.1).sameKey (K.lit a)) = !(p.1 == a)
  congr 1
  by_cases e : p.1 = a
  · rw [e, WideAt.sameKey_self hka]
    simp
  · rw [show (p.1 == a) = false by simpa using e]
    cases h : (K.lit p.1).sameKey (K.lit a) with
    | false => rfl
    | true => exact absurd (K.inj _ _ (hk p hpl) ha (WideAt.sameKey_eq h)) e
theorem MapIs.store (h : MapIs w P k K E b L) (Ky : Keyed P k) {t e : TypeId} (ht : P.underlying t = some (.map k e)) (hn : L.length < maxLen) {a : κ} (ha : K.ok a) {x : α} (hx : E.ok x) :
    ∃ w', (Instr.mapUpdate t (.map (some b)) (K.v a) (E.val x)).run P w = .ok () w' ∧ MapIs w' P k K E b (kput a x L) ∧ w.mapTurned w' b := by
  obtain ⟨es, hm, hp, hs, hk⟩ := h
  obtain ⟨w', hrun, hm', ht'⟩ := hm.store Ky ht hn (K.key a ha) (E.rd x hx)
  have hka := Ky.key (K.key a ha)
  have hp2 := ((WideShapes.insert_perm (K.lit a, E.g x) _).trans ((filter_key ha hka hp hk).cons (K.lit a, E.g x))).trans ((k_put_perm a x L).symm.map fun p : κ × α => (K.lit p.1, E.g p.2))
  have hsz : Maps.size (DataW.map (ChangeMaps.putKey (K.lit a) (E.g x) es)) = (kput a x L).length := by
    rw [show Maps.size (DataW.map (ChangeMaps.putKey (K.lit a) (E.g x) es)) = (DataW.insert (K.lit a, E.g x) (es.filter (ChangeMaps.notKey (K.lit a)))).length from rfl, hp2.length_eq, List.length_map]
  refine ⟨w', hrun, ⟨ChangeMaps.putKey (K.lit a) (E.g x) es, ?_, hp2, k_srt_put hs, fun p hpp => ?_⟩, ht'⟩
  · rw [← hsz]
    exact exactly hm'
  · rcases k_mem_put.1 hpp with rfl | ⟨h1, -⟩
    · exact ha
    · exact hk p h1
theorem MapIs.drop (h : MapIs w P k K E b L) (Ky : Keyed P k) {t e : TypeId} (ht : P.underlying t = some (.map k e)) {a : κ} (ha : K.ok a) (ty : TypeId) :
    ∃ w', (Builtin.delete_ #[t, k] ty #[.map (some b), K.v a]).run P w = .ok (.tuple #[]) w' ∧ MapIs w' P k K E b (kdel a L) ∧ w.mapTurned w' b := by
  obtain ⟨es, hm, hp, hs, hk⟩ := h
  have hka := Ky.key (K.key a ha)
  obtain ⟨w', hrun, hm', ht'⟩ := hm.drop Ky ht (K.key a ha) ty
  have hp2 := filter_key ha hka hp hk
  have hsz : Maps.size (DataW.map (ChangeMaps.delKey (K.lit a) es)) = (kdel a L).length := by
    show (ChangeMaps.delKey (K.lit a) es).length = _
    rw [show ChangeMaps.delKey (K.lit a) es = es.filter (ChangeMaps.notKey (K.lit a)) from rfl, hp2.length_eq, List.length_map]
  refine ⟨w', hrun, ⟨ChangeMaps.delKey (K.lit a) es, ?_, hp2, k_srt_del hs, fun p hpp => hk p (k_mem_del.1 hpp).1⟩, ht'⟩
  rw [← hsz]
  exact exactly hm'
/-- A range over the map under way: rest is still to come. -/
def RangeIs (w : World) (P : Program) (k : TypeId) (K : KeyR P k κ) (E : ElemR α) (b r : Nat) (L rest : List (κ × α)) (cnt : Nat) : Prop :=
  ∃ es left, w.ranges P k E.R b r L.length (.map es) left cnt ∧ es.Perm (L.map fun p => (K.lit p.1, E.g p.2)) ∧ KSrt L ∧ (∀ p ∈ L, K.ok p.1) ∧ rest = L.filter (fun p => left (K.lit p.1)) ∧ ∀ kl, left kl = true → ∃ p ∈ L, K.lit p.1 = kl
theorem MapIs.range (h : MapIs w P k K E b L) (Ky : Keyed P k) {t e : TypeId} (ht : P.underlying t = some (.map k e)) :
    ∃ w', (Instr.range t (.map (some b))).run P w = .ok (.pointer (some ⟨w.heap.size, 0, none⟩)) w' ∧ RangeIs w' P k K E b w.heap.size L L L.length ∧ w.grownBy w' none ∧ w'.heap.size = w.heap.size + 1 := by
  obtain ⟨es, hm, hp, hs, hk⟩ := h
  obtain ⟨w', h1, h2, h3, h4⟩ := hm.range Ky ht
  have hmem : ∀ p, p ∈ es ↔ ∃ q ∈ L, (K.lit q.1, E.g q.2) = p := fun p => by rw [hp.mem_iff, List.mem_map]
  have hsz : Maps.size (DataW.map es) = L.length := by
    rw [show Maps.size (DataW.map es) = es.length from rfl, hp.length_eq, List.length_map]
  rw [hsz] at h2
  refine ⟨w', h1, ⟨es, _, h2, hp, hs, hk, (List.filter_eq_self.2 fun p hpp => ?_).symm, fun kl hkl => ?_⟩, h3, h4⟩
  · show es.any (fun q => q.1.sameKey (K.lit p.1)) = true
    exact List.any_eq_true.2 ⟨_, (hmem _).2 ⟨p, hpp, rfl⟩, WideAt.sameKey_self (Ky.key (K.key _ (hk p hpp)))⟩
  · obtain ⟨q, hq, e⟩ := List.any_eq_true.1 (show es.any (fun q => q.1.sameKey kl) = true from hkl)
    obtain ⟨p, hpp, rfl⟩ := (hmem q).1 hq
    exact ⟨p, hpp, WideAt.sameKey_eq e⟩
theorem RangeIs.map {b r cnt : Nat} {rest : List (κ × α)} (h : RangeIs w P k K E b r L rest cnt) : MapIs w P k K E b L := let ⟨es, _, h1, h2, h3, h4, _⟩ := h; ⟨es, h1.owns, h2, h3, h4⟩
theorem RangeIs.next {r cnt : Nat} {rest : List (κ × α)} (h : RangeIs w P k K E b r L rest cnt) (Ky : Keyed P k) (ty : TypeId) :
    (rest = [] ∧ (Instr.next (.pointer (some ⟨r, 0, none⟩)) false ty).run P w = .ok (.tuple #[.bool false]) w) ∨
    ∃ p w' cnt', p ∈ rest ∧ p ∈ L ∧ (Instr.next (.pointer (some ⟨r, 0, none⟩)) false ty).run P w = .ok (.tuple #[.bool true, K.v p.1, E.val p.2]) w' ∧ RangeIs w' P k K E b r L (kdel p.1 rest) cnt' ∧ cnt' < cnt ∧ w.grownBy w' (some r) ∧ w'.heap.size = w.heap.size ∧ (Instr.entry (.pointer (some ⟨r, 0, none⟩))).run P w' = .ok (.tuple #[K.v p.1, E.val p.2]) w' := by
  obtain ⟨es, left, hr, hp, hs, hk, rfl, hl⟩ := h
  rcases hr.next Ky ty with ⟨-, h0, hrun⟩ | ⟨key, v, kl, y, w', cnt', hkey, hlk, hv, hat, hrun, hrg, hlt, hgr, hsz, hen⟩
  · exact .inl ⟨List.filter_eq_nil_iff.2 fun p _ => by rw [h0]; simp, hrun⟩
  · obtain ⟨p, hpL, rfl⟩ := hl kl hlk
    have hmem : ∀ p, p ∈ es ↔ ∃ q ∈ L, (K.lit q.1, E.g q.2) = p := fun p => by rw [hp.mem_iff, List.mem_map]
    have hka := Ky.key (K.key p.1 (hk p hpL))
    have hke := K.back key _ hkey p.1 (hk p hpL) rfl
    have hy : y.1 = E.g p.2 := by
      have h1 := hat .nil
      rw [atKey_map, uniq_find ((hmem (K.lit p.1, E.g p.2)).2 ⟨p, hpL, rfl⟩) (WideAt.sameKey_self hka) fun z hz e => ?_] at h1
      · exact h1.symm
      · obtain ⟨q, hq, rfl⟩ := (hmem z).1 hz
        rw [k_key_uniq hs hq hpL (K.inj _ _ (hk q hq) (hk p hpL) (WideAt.sameKey_eq e))]
    have hve := E.inv v y p.2 hv hy
    subst hke
    subst hve
    refine .inr ⟨p, w', cnt', List.mem_filter.2 ⟨hpL, hlk⟩, hpL, hrun, ⟨es, _, hrg, hp, hs, hk, ?_, fun kl hkl => hl kl (by simp at hkl; exact hkl.1)⟩, hlt, hgr, hsz, hen⟩
    unfold kdel
    rw [List.filter_filter]
    refine List.filter_congr fun q hq => ?_
    rw [Bool.and_comm]
    congr 1
    by_cases e : q.1 = p.1
    · rw [e, WideAt.sameKey_self hka]
      simp
    · rw [show (q.1 == p.1) = false by simpa using e]
      cases h : (K.lit q.1).sameKey (K.lit p.1) with
      | false => rfl
      | true => exact absurd (K.inj _ _ (hk q hq) (hk p hpL) (WideAt.sameKey_eq h)) e
end
end

/-! ### Kinds of keys -/
def bsV (b : Bs) : ByteArray := ⟨b.toArray⟩
theorem bsV_of (s : ByteArray) : bsV s.data.toList = s := by
  unfold bsV
  simp
theorem keyOf_string_inv' {P : Program} {k : TypeId} (hk : P.underlying k = some .string) {key : Value} {kl : Lit} (h : keyOf P k key = some kl) : ∃ s : ByteArray, key = .string s ∧ kl = .string s.data.toList ∧ s.size ≤ maxLen := by
  cases key <;> simp [keyOf, hk, mapKey] at h
  obtain ⟨h1, rfl⟩ := h
  exact ⟨_, rfl, rfl, h1⟩
def strK {P : Program} {k : TypeId} (hk : P.underlying k = some .string) : KeyR P k Bs where
  v b := .string (bsV b)
  lit b := .string b
  ok b := b.length ≤ maxLen
  key b h := by
    have := WideMaps.keyOf_string_mk (P := P) hk (s := bsV b) (by show b.toArray.size ≤ maxLen; simpa using h)
    simpa [bsV] using this
  inj a b _ _ e := by
    cases e
    rfl
  back x l h a _ e := by
    subst e
    obtain ⟨s, rfl, e, -⟩ := keyOf_string_inv' hk h
    cases e
    rw [bsV_of]
def intK {P : Program} {k : TypeId} (hk : P.underlying k = some (.int .i64)) : KeyR P k Int where
  v n := .int .i64 n
  lit n := .int .i64 n
  ok n := (Lit.int .i64 n).wf = true
  key n h := Maps.keyOf_int_mk hk h
  inj a b _ _ e := by
    cases e
    rfl
  back x l h a _ e := by
    subst e
    obtain ⟨y, rfl, e, -⟩ := Maps.keyOf_int_inv hk h
    cases e
    rfl
/-- Elements that a value and a datum tell apart. -/
noncomputable def elemK {α : Type} (val : α → Value) (g : α → DataW Nat) (hv : ∀ x y, val x = val y → x = y) (hg : ∀ x y, g x = g y → x = y) (z : α) : ElemR α where
  R v := open Classical in if h : ∃ x, v = val x then some (g h.choose, []) else none
  val := val
  g := g
  z := val z
  zd := g z
  ok _ := True
  rd x _ := by
    have h : ∃ y, val x = val y := ⟨x, rfl⟩
    rw [dif_pos h]
    rw [show h.choose = x from (hv _ _ h.choose_spec).symm]
  inv v y x h e := by
    by_cases hh : ∃ x, v = val x
    · rw [dif_pos hh] at h
      cases h
      rw [hh.choose_spec, hg _ _ e]
    · rw [dif_neg hh] at h
      cases h
  zmk := by
    have h : ∃ y, val z = val y := ⟨z, rfl⟩
    rw [dif_pos h]
    rw [show h.choose = z from (hv _ _ h.choose_spec).symm]
  zinv v y h e := by
    by_cases hh : ∃ x, v = val x
    · rw [dif_pos hh] at h
      cases h
      rw [hh.choose_spec, hg _ _ e]
    · rw [dif_neg hh] at h
      cases h
end Go.Sat

namespace Go.Sat

/-- A number as bytes. -/
def numB (n : Nat) : Bs := if n < 128 then [UInt8.ofNat n] else UInt8.ofNat (n % 128 + 128) :: numB (n / 128)
termination_by n
decreasing_by omega

/-- Any number as bytes. -/
def numI (v : Int) : Bs := numB (max 0 (min v 4611686018427387904)).toNat
def numsI (l : List Int) : Bs := (l.map numI).flatten
/-- Bytes, their length ahead of them. -/
def rowB (p : Bs) : Bs := numB p.length ++ p

theorem numB_small {n : Nat} (h : n < 128) : numB n = [UInt8.ofNat n] := by rw [numB, if_pos h]
theorem numB_more {n : Nat} (h : 128 ≤ n) : numB n = UInt8.ofNat (n % 128 + 128) :: numB (n / 128) := by rw [numB, if_neg (by omega)]
theorem numI_nat {n : Nat} (h : n ≤ 4611686018427387904) : numI (n : Int) = numB n := by
  unfold numI
  congr 1
  omega

theorem numB_len (n : Nat) : 1 ≤ (numB n).length := by
  rw [numB]
  split <;> simp

theorem numB_le (k : Nat) : ∀ n, n < 128 ^ (k + 1) → (numB n).length ≤ k + 1 := by
  induction k with
  | zero =>
    intro n h
    rw [numB_small (by simpa using h)]
    simp
  | succ k ih =>
    intro n h
    by_cases hn : n < 128
    · rw [numB_small hn]
      simp
    · rw [numB_more (by omega), List.length_cons]
      have := ih (n / 128) (by rw [Nat.div_lt_iff_lt_mul (by decide), ← Nat.pow_succ]; exact h)
      omega

theorem numB_nine {n : Nat} (h : n ≤ 4611686018427387904) : (numB n).length ≤ 9 := numB_le 8 n (Nat.lt_of_le_of_lt h (by decide))

/-- The number that bytes begin with, and what is behind it. -/
def numGo : Nat → Nat → Bs → Option (Nat × Bs)
  | _, _, [] => none
  | i, u, c :: r => if 9 ≤ i ∨ (0 < i ∧ c = 0) then none
    else if c.toNat < 128 then (if 4611686018427387904 < u + c.toNat * 128 ^ i then none else some (u + c.toNat * 128 ^ i, r))
    else numGo (i + 1) (u + c.toNat % 128 * 128 ^ i) r

theorem numGo_num (n : Nat) : ∀ (i u : Nat) (r : Bs), (0 < i → 0 < n) → u + n * 128 ^ i ≤ 4611686018427387904 → numGo i u (numB n ++ r) = some (u + n * 128 ^ i, r) := by
  induction n using Nat.strongRecOn with
  | ind n ih =>
    intro i u r h0 hm
    have hi : ¬ 9 ≤ i ∨ n = 0 := by
      by_cases hn : n = 0
      · exact .inr hn
      · refine .inl fun h9 => ?_
        have h1 : 128 ^ 9 ≤ 128 ^ i := Nat.pow_le_pow_right (by decide) h9
        have h2 : 1 * 128 ^ 9 ≤ n * 128 ^ i := Nat.mul_le_mul (by omega) h1
        have h3 : (128 : Nat) ^ 9 = 9223372036854775808 := by decide
        omega
    by_cases hn : n < 128
    · rw [numB_small hn]
      show (if _ then _ else _) = _
      have e : (UInt8.ofNat n).toNat = n := by rw [UInt8.toNat_ofNat']; omega
      have hc : ¬ (9 ≤ i ∨ (0 < i ∧ UInt8.ofNat n = 0)) := by
        rintro (h | ⟨h1, h2⟩)
        · rcases hi with h' | h'
          · exact h' h
          · have := h0 (by omega)
            omega
        · have h3 := congrArg UInt8.toNat h2
          rw [e] at h3
          have := h0 h1
          simp at h3
          omega
      rw [if_neg hc, e, if_pos hn, if_neg (by omega)]
      rfl
    · rw [numB_more (by omega)]
      show (if _ then _ else _) = _
      have e : (UInt8.ofNat (n % 128 + 128)).toNat = n % 128 + 128 := by rw [UInt8.toNat_ofNat']; omega
      have hc : ¬ (9 ≤ i ∨ (0 < i ∧ UInt8.ofNat (n % 128 + 128) = 0)) := by
        rintro (h | ⟨h1, h2⟩)
        · rcases hi with h' | h' <;> omega
        · have h3 := congrArg UInt8.toNat h2
          rw [e] at h3
          simp at h3
      rw [if_neg hc, e, if_neg (by omega)]
      have hs : u + (n % 128 + 128) % 128 * 128 ^ i + n / 128 * 128 ^ (i + 1) = u + n * 128 ^ i := by
        have h1 : n = n % 128 + 128 * (n / 128) := by omega
        have h2 : n * 128 ^ i = n % 128 * 128 ^ i + n / 128 * 128 ^ (i + 1) := by
          conv => lhs; rw [h1]
          rw [Nat.add_mul, Nat.pow_succ, Nat.mul_comm 128 (n / 128), Nat.mul_assoc, Nat.mul_comm 128 (128 ^ i)]
        rw [show (n % 128 + 128) % 128 = n % 128 by omega]
        omega
      have := ih (n / 128) (by omega) (i + 1) (u + (n % 128 + 128) % 128 * 128 ^ i) r (fun _ => by omega) (by rw [hs]; exact hm)
      rw [hs] at this
      exact this

theorem numGo_some : ∀ (l : Bs) (i u n : Nat) (r : Bs), numGo i u l = some (n, r) → n ≤ 4611686018427387904 ∧ ∃ k, 0 < k ∧ k ≤ l.length ∧ r = l.drop k := by
  intro l
  induction l with
  | nil => intro i u n r h; cases h
  | cons c l ih =>
    intro i u n r h
    unfold numGo at h
    split at h
    · cases h
    · split at h
      · split at h
        · cases h
        · cases h
          exact ⟨by omega, 1, by decide, by simp, rfl⟩
      · obtain ⟨h1, k, hk0, hk, hr⟩ := ih _ _ _ _ h
        exact ⟨h1, k + 1, by omega, by simpa using hk, by rw [hr]; rfl⟩

/-- What reads: what is left, whether it erred. -/
structure Rd where
  rest : Bs
  bad : Bool

namespace Rd
def fail : Rd := ⟨[], true⟩
def num (R : Rd) : Nat × Rd := match numGo 0 0 R.rest with
  | some (n, r) => (n, ⟨r, R.bad⟩)
  | none => (0, fail)
def raw (R : Rd) (n : Nat) : Bs × Rd := if n ≤ R.rest.length then (R.rest.take n, ⟨R.rest.drop n, R.bad⟩) else ([], fail)
def bytes (R : Rd) : Bs × Rd := R.num.2.raw R.num.1
def whole (R : Rd) : Bool := !R.bad && R.rest.isEmpty

theorem num_le (R : Rd) : R.num.1 ≤ 4611686018427387904 := by
  unfold num
  split
  · exact (numGo_some _ _ _ _ _ ‹_›).1
  · exact Nat.zero_le _

theorem num_rest (R : Rd) : R.num.2.rest.length ≤ R.rest.length := by
  unfold num
  split
  · obtain ⟨-, k, -, hk, hr⟩ := numGo_some _ _ _ _ _ ‹_›
    simp only [hr, List.length_drop]
    omega
  · exact Nat.zero_le _

theorem raw_len (R : Rd) (n : Nat) : (R.raw n).1.length ≤ R.rest.length := by
  unfold raw
  split
  · simp; omega
  · exact Nat.zero_le _

theorem bytes_len (R : Rd) : R.bytes.1.length ≤ R.rest.length := Nat.le_trans (raw_len _ _) (num_rest R)

theorem num_of {n : Nat} (h : n ≤ 4611686018427387904) (r : Bs) (b : Bool) : num ⟨numB n ++ r, b⟩ = (n, ⟨r, b⟩) := by
  unfold num
  have := numGo_num n 0 0 r (fun h => absurd h (by decide)) (by simpa using h)
  simp only [this]
  simp

theorem raw_of (p r : Bs) (b : Bool) : raw ⟨p ++ r, b⟩ p.length = (p, ⟨r, b⟩) := by
  unfold raw
  rw [if_pos (by simp)]
  simp

theorem bytes_of {p : Bs} (h : p.length ≤ 4611686018427387904) (r : Bs) (b : Bool) : bytes ⟨rowB p ++ r, b⟩ = (p, ⟨r, b⟩) := by
  unfold bytes rowB
  rw [List.append_assoc, num_of h, raw_of]
end Rd
end Go.Sat

namespace Go.Proofs.YtogdfkilhpkloaaGreatDoor
open Go.Sat

/-- So many of each item. -/
structure It where
  a : Int
  b : Int
  c : Int
  d : Int
theorem It.ext' {x y : It} (h1 : x.a = y.a) (h2 : x.b = y.b) (h3 : x.c = y.c) (h4 : x.d = y.d) : x = y := by
  cases x
  cases y
  simp_all
instance : DecidableEq It := fun x y => decidable_of_iff (x.a = y.a ∧ x.b = y.b ∧ x.c = y.c ∧ x.d = y.d) ⟨fun h => It.ext' h.1 h.2.1 h.2.2.1 h.2.2.2, fun h => by subst h; exact ⟨rfl, rfl, rfl, rfl⟩⟩
namespace It
def zero : It := ⟨0, 0, 0, 0⟩
def most : Int := 1152921504606846976
def in1 (n : Int) : Bool := decide (0 ≤ n) && decide (n ≤ most)
def is (x : It) : Bool := in1 x.a && in1 x.b && in1 x.c && in1 x.d
def one (k n : Int) : It := if 0 ≤ k ∧ k < 4 ∧ 0 ≤ n ∧ n ≤ most then (if k = 0 then ⟨n, 0, 0, 0⟩ else if k = 1 then ⟨0, n, 0, 0⟩ else if k = 2 then ⟨0, 0, n, 0⟩ else ⟨0, 0, 0, n⟩) else zero
def less (x y : It) : Bool := decide (x.a < y.a) || decide (x.b < y.b) || decide (x.c < y.c) || decide (x.d < y.d)
def l (x : It) : List Int := [x.a, x.b, x.c, x.d]
end It
/-- A request. -/
structure OpM where
  kind : Int
  client : Int
  seq : Int
  atK : ByteArray
  atW : ByteArray
  toK : ByteArray
  toW : ByteArray
  item : Int
  count : Int
  price : Int
  buy : Bool
  id : Int
def s0 : ByteArray := ⟨#[]⟩
def isPl (k w : ByteArray) : Bool := decide (1 ≤ k.size) && decide (k.size ≤ 16) && decide (1 ≤ w.size) && decide (w.size ≤ 16)
namespace OpM
def zero : OpM := ⟨0, 0, 0, s0, s0, s0, s0, 0, 0, 0, false, 0⟩
/-- Nothing else than what is named. -/
def noTo (o : OpM) : Bool := decide (o.toK = s0) && decide (o.toW = s0)
def cnt (o : OpM) : Bool := decide (0 ≤ o.item) && decide (o.item < 4) && decide (1 ≤ o.count) && decide (o.count ≤ 1048576)
def bare (o : OpM) : Bool := o.noTo && decide (o.item = 0) && decide (o.count = 0) && decide (o.price = 0) && !o.buy && decide (o.id = 0)
def names (o : OpM) : Bool :=
  if o.kind = 1 ∨ o.kind = 6 then o.cnt && o.noTo && decide (o.price = 0) && !o.buy && decide (o.id = 0)
  else if o.kind = 2 then isPl o.toK o.toW && o.cnt && decide (o.price = 0) && !o.buy && decide (o.id = 0)
  else if o.kind = 3 then decide (1 ≤ o.item) && decide (1 ≤ o.price) && decide (o.price ≤ 1024) && o.cnt && o.noTo && decide (o.id = 0)
  else if o.kind = 4 then decide (1 ≤ o.id) && decide (o.id ≤ 1099511627776) && o.noTo && decide (o.item = 0) && decide (o.count = 0) && decide (o.price = 0) && !o.buy
  else if o.kind = 5 ∨ o.kind = 7 then o.bare else false
def may (o : OpM) : Bool := decide (1 ≤ o.client) && decide (o.client ≤ 1048576) && decide (1 ≤ o.seq) && decide (o.seq ≤ 1099511627776) && isPl o.atK o.atW && o.names
def enc (o : OpM) : Bs := numsI [o.kind, o.client, o.seq] ++ (rowB o.atK.data.toList ++ rowB o.atW.data.toList ++ rowB o.toK.data.toList ++ rowB o.toW.data.toList) ++ numsI [o.item, o.count, o.price, if o.buy then 1 else 0, o.id]
end OpM
end Go.Proofs.YtogdfkilhpkloaaGreatDoor
