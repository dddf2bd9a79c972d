/- Sorted association lists keyed by bytes, and how a map in memory reads as one. Plain lists; no program. Rows that a value owns (its array may be longer than its capacity), append onto them, and what a step may turn. No program. Ranging over a map whose keys are strings and whose elements are pointers. No program. Contracts of octet.Join, bytes.Clone. What a law's arguments are, as the form reads them. A region that draws its order, walked in an order that is named: what yields is taken first, one operation at a time; what is not wanted is passed by; what works on the world comes up alone. A region that draws its order, one or some of whose operations (xs: the writers) spoil what its loads ask of the world: S is kept till the first of them has come up; whoever loads is waited for by all of them, and so may be taken first all the same. A region that draws its order: the laws of the text Ord (and OrdG), with all that is alike from place to place left out. A region that draws its order: two operations may come up. No program. Structs of many cells, loaded and stored whole: the cells are a list that stays folded. No program. Structs of many cells at an operation of a region that draws its order. No program. A region that draws its order: what holds may become more on the way. Numbers and rows as bytes: what is laid, and what is read (a plain model). No program. What a disk keeps (a plain model), and what it means that a disk lies in memory. -/
import Derived.BigFrame
import Derived.BigQuiet
import Derived.ChangeOld
import Derived.Deep.DrawnRows
import Derived.Deep.LoopGhost
import Derived.Deep.Matrix
import Derived.Deep.MidRow
import Derived.Deep.QuietTactic
import Derived.Deep.RegionHeld3
import Derived.Laws.CopyRow
import Derived.Lib.Hide
import Derived.Lib.SlParts
import Derived.Maps.OwnOps
import Derived.Maps.RangeWalk
import Derived.Maps.StringElems
import Derived.OpenShut
import Derived.OwnWalk
import Derived.ProofKit
import Derived.ShutString
import Derived.SizedLaws
import Derived.WalkKit
import Derived.WalkLawsBesides
import Derived.WalkSpells
import Derived.Test.YtogdfkilhpkloaaGreatDoorChecked
import Derived.Test.YtogdfkilhpkloaaGreatDoorRows
import Derived.Test.YtogdfkilhpkloaaGreatDoorShelf
namespace Go.Sat
open Go.Maps (Keyed)

abbrev Bs := List UInt8

section
variable {α β : Type}

def get (n : Bs) (L : List (Bs × α)) : Option α := (L.find? (fun p => p.1 == n)).map (·.2)
def del (n : Bs) (L : List (Bs × α)) : List (Bs × α) := L.filter (fun p => !(p.1 == n))
def ins (x : Bs × α) : List (Bs × α) → List (Bs × α)
  | [] => [x]
  | y :: r => if bytesBefore x.1 y.1 then x :: y :: r else y :: ins x r
def put (n : Bs) (a : α) (L : List (Bs × α)) : List (Bs × α) := ins (n, a) (del n L)
def Srt (L : List (Bs × α)) : Prop := L.Pairwise (fun p q => bytesBefore p.1 q.1 = true)
def sumBy (f : α → Nat) (L : List (Bs × α)) : Nat := (L.map fun p => f p.2).sum

theorem bb_irrefl (a : Bs) : bytesBefore a a = false := WideAt.bytes_irrefl a
theorem bb_trans {a b c : Bs} (h : bytesBefore a b = true) (k : bytesBefore b c = true) : bytesBefore a c = true := WideShapes.bytes_trans a b c h k
theorem bb_total (a b : Bs) (h : a ≠ b) : bytesBefore a b = true ∨ bytesBefore b a = true := WideAt.bytes_total a b h
theorem bb_ne {a b : Bs} (h : bytesBefore a b = true) : a ≠ b := by
  rintro rfl
  rw [bb_irrefl] at h
  cases h

theorem srt_nil : Srt ([] : List (Bs × α)) := List.Pairwise.nil
theorem srt_del {n : Bs} {L : List (Bs × α)} (h : Srt L) : Srt (del n L) := h.filter _

theorem mem_ins {x y : Bs × α} : ∀ {L : List (Bs × α)}, y ∈ ins x L ↔ y = x ∨ y ∈ L
  | [] => by simp [ins]
  | z :: r => by
    unfold ins
    split
    · simp
    · simp [mem_ins (L := r)]
      constructor
      · rintro (h | h | h) <;> simp [h]
      · rintro (h | h | h) <;> simp [h]

theorem ins_perm (x : Bs × α) : ∀ (L : List (Bs × α)), (ins x L).Perm (x :: L)
  | [] => List.Perm.refl _
  | z :: r => by
    unfold ins
    split
    · exact List.Perm.refl _
    · exact ((ins_perm x r).cons z).trans (List.Perm.swap x z r)

theorem srt_ins {x : Bs × α} : ∀ {L : List (Bs × α)}, Srt L → (∀ p ∈ L, p.1 ≠ x.1) → Srt (ins x L)
  | [], _, _ => by simp [ins, Srt]
  | y :: r, h, hne => by
    obtain ⟨h1, h2⟩ := List.pairwise_cons.1 h
    unfold ins
    split
    · rename_i hb
      refine List.pairwise_cons.2 ⟨fun q hq => ?_, h⟩
      rcases List.mem_cons.1 hq with rfl | hq
      · exact hb
      · exact bb_trans hb (h1 q hq)
    · rename_i hb
      have hyx : bytesBefore y.1 x.1 = true := by
        rcases bb_total x.1 y.1 (hne y (by simp)).symm with h' | h'
        · exact absurd h' hb
        · exact h'
      refine List.pairwise_cons.2 ⟨fun q hq => ?_, srt_ins h2 (fun p hp => hne p (by simp [hp]))⟩
      rcases mem_ins.1 hq with rfl | hq
      · exact hyx
      · exact h1 q hq

theorem mem_del {n : Bs} {p : Bs × α} {L : List (Bs × α)} : p ∈ del n L ↔ p ∈ L ∧ p.1 ≠ n := by
  simp [del]

theorem srt_put {n : Bs} {a : α} {L : List (Bs × α)} (h : Srt L) : Srt (put n a L) :=
  srt_ins (srt_del h) fun _ hp => (mem_del.1 hp).2

theorem mem_put {n : Bs} {a : α} {p : Bs × α} {L : List (Bs × α)} : p ∈ put n a L ↔ p = (n, a) ∨ (p ∈ L ∧ p.1 ≠ n) := by
  unfold put
  rw [mem_ins, mem_del]

theorem put_perm (n : Bs) (a : α) (L : List (Bs × α)) : (put n a L).Perm ((n, a) :: del n L) := ins_perm _ _

theorem get_none {n : Bs} {L : List (Bs × α)} : get n L = none ↔ ∀ p ∈ L, p.1 ≠ n := by
  simp [get, List.find?_eq_none]

theorem get_mem {n : Bs} {a : α} {L : List (Bs × α)} (h : get n L = some a) : (n, a) ∈ L := by
  simp only [get, Option.map_eq_some_iff] at h
  obtain ⟨p, hp, rfl⟩ := h
  have h1 := List.mem_of_find?_eq_some hp
  have h2 := List.find?_some hp
  simp at h2
  rw [← h2]
  exact h1

theorem key_uniq {L : List (Bs × α)} (h : Srt L) {p q : Bs × α} (hp : p ∈ L) (hq : q ∈ L) (e : p.1 = q.1) : p = q := by
  induction L with
  | nil => simp at hp
  | cons y r ih =>
    obtain ⟨h1, h2⟩ := List.pairwise_cons.1 h
    rcases List.mem_cons.1 hp with e1 | hp1
    · rcases List.mem_cons.1 hq with e2 | hq1
      · rw [e1, e2]
      · exact absurd (e1 ▸ e) (bb_ne (h1 q hq1))
    · rcases List.mem_cons.1 hq with e2 | hq1
      · exact absurd (e2 ▸ e).symm (bb_ne (h1 p hp1))
      · exact ih h2 hp1 hq1

theorem get_of_mem {L : List (Bs × α)} (h : Srt L) {n : Bs} {a : α} (hm : (n, a) ∈ L) : get n L = some a := by
  cases hg : get n L with
  | none => exact absurd rfl (get_none.1 hg _ hm)
  | some b =>
    have := key_uniq h hm (get_mem hg) rfl
    simp at this
    rw [this]

theorem get_iff {L : List (Bs × α)} (h : Srt L) {n : Bs} {a : α} : get n L = some a ↔ (n, a) ∈ L := ⟨get_mem, get_of_mem h⟩

theorem get_put_same {L : List (Bs × α)} (h : Srt L) (n : Bs) (a : α) : get n (put n a L) = some a :=
  get_of_mem (srt_put h) (mem_put.2 (.inl rfl))

theorem get_put_other {L : List (Bs × α)} (h : Srt L) {n m : Bs} (a : α) (hne : m ≠ n) : get m (put n a L) = get m L := by
  cases hg : get m L with
  | none =>
    rw [get_none] at hg ⊢
    intro p hp
    rcases mem_put.1 hp with rfl | ⟨hp, _⟩
    · exact hne.symm
    · exact hg p hp
  | some b => exact get_of_mem (srt_put h) (mem_put.2 (.inr ⟨get_mem hg, hne⟩))

theorem get_del_same (n : Bs) (L : List (Bs × α)) : get n (del n L) = none := get_none.2 fun _ hp => (mem_del.1 hp).2

theorem get_del_other {L : List (Bs × α)} (h : Srt L) {n m : Bs} (hne : m ≠ n) : get m (del n L) = get m L := by
  cases hg : get m L with
  | none => rw [get_none] at hg ⊢; exact fun p hp => hg p (mem_del.1 hp).1
  | some b => exact get_of_mem (srt_del h) (mem_del.2 ⟨get_mem hg, hne⟩)

theorem del_none {n : Bs} {L : List (Bs × α)} (h : get n L = none) : del n L = L := by
  rw [get_none] at h
  exact List.filter_eq_self.2 fun p hp => by simpa using h p hp

theorem sum_perm {f : α → Nat} {L L' : List (Bs × α)} (h : L.Perm L') : sumBy f L = sumBy f L' := by
  induction h with
  | nil => rfl
  | cons x _ ih => simp only [sumBy, List.map_cons, List.sum_cons] at ih ⊢; omega
  | swap x y l => simp only [sumBy, List.map_cons, List.sum_cons]; omega
  | trans _ _ ih1 ih2 => exact ih1.trans ih2

theorem sum_cons (f : α → Nat) (x : Bs × α) (L : List (Bs × α)) : sumBy f (x :: L) = f x.2 + sumBy f L := rfl

theorem sum_put (f : α → Nat) (n : Bs) (a : α) (L : List (Bs × α)) : sumBy f (put n a L) = f a + sumBy f (del n L) := sum_perm (put_perm n a L)

theorem split_at {L : List (Bs × α)} (h : Srt L) {n : Bs} {a : α} (hg : get n L = some a) : L.Perm ((n, a) :: del n L) := by
  induction L with
  | nil => simp [get] at hg
  | cons y r ih =>
    obtain ⟨h1, h2⟩ := List.pairwise_cons.1 h
    by_cases hy : y.1 = n
    · have hya : y = (n, a) := key_uniq h (by simp) (get_mem hg) hy
      have hd : del n (y :: r) = r := by
        have h1' : ∀ p ∈ r, bytesBefore y.1 p.1 = true := h1
        unfold del
        rw [List.filter_cons, if_neg (by simp [hy])]
        refine List.filter_eq_self.2 fun p hp => ?_
        have := bb_ne (h1' p hp)
        rw [hy] at this
        simpa using fun e => this (Eq.symm e)
      rw [hd, hya]
    · have hg' : get n r = some a := by
        simp only [get, List.find?_cons] at hg
        rw [show (y.1 == n) = false by simpa using hy] at hg
        exact hg
      have hd : del n (y :: r) = y :: del n r := by
        unfold del
        rw [List.filter_cons, if_pos (by simpa using hy)]
      rw [hd]
      exact ((ih h2 hg').cons y).trans (List.Perm.swap _ _ _)

theorem sum_del {f : α → Nat} {L : List (Bs × α)} (h : Srt L) {n : Bs} {a : α} (hg : get n L = some a) : sumBy f L = f a + sumBy f (del n L) := sum_perm (split_at h hg)

theorem len_put (n : Bs) (a : α) (L : List (Bs × α)) : (put n a L).length = (del n L).length + 1 := (put_perm n a L).length_eq

theorem len_del {L : List (Bs × α)} (h : Srt L) {n : Bs} {a : α} (hg : get n L = some a) : L.length = (del n L).length + 1 := (split_at h hg).length_eq

theorem len_del_le (n : Bs) (L : List (Bs × α)) : (del n L).length ≤ L.length := List.length_filter_le _ _

/-- Another thing in each place, under the same names. -/
def mp (g : α → β) (L : List (Bs × α)) : List (Bs × β) := L.map fun p => (p.1, g p.2)

theorem mp_ins (g : α → β) (x : Bs × α) : ∀ L : List (Bs × α), mp g (ins x L) = ins (x.1, g x.2) (mp g L)
  | [] => rfl
  | y :: r => by
    simp only [ins, mp, List.map_cons]
    split
    · simp
    · simp only [List.map_cons]
      rw [show List.map (fun p : Bs × α => (p.1, g p.2)) (ins x r) = mp g (ins x r) from rfl, mp_ins g x r]
      rfl

theorem mp_del (g : α → β) (n : Bs) (L : List (Bs × α)) : mp g (del n L) = del n (mp g L) := by
  simp only [mp, del, List.filter_map]
  rfl

theorem mp_put (g : α → β) (n : Bs) (a : α) (L : List (Bs × α)) : mp g (put n a L) = put n (g a) (mp g L) := by
  simp only [put, mp_ins, mp_del]

theorem mp_get (g : α → β) (n : Bs) (L : List (Bs × α)) : get n (mp g L) = (get n L).map g := by
  simp only [get, mp, List.find?_map, Option.map_map]
  rfl

theorem mp_srt {g : α → β} {L : List (Bs × α)} (h : Srt L) : Srt (mp g L) := by
  unfold Srt mp
  rw [List.pairwise_map]
  exact h

theorem mp_len (g : α → β) (L : List (Bs × α)) : (mp g L).length = L.length := by simp [mp]
theorem mp_sum (f : β → Nat) (g : α → β) (L : List (Bs × α)) : sumBy f (mp g L) = sumBy (fun a => f (g a)) L := by
  simp only [sumBy, mp, List.map_map]
  rfl

/-- Two sorted lists that give the same at every name are one. -/
theorem srt_ext {L M : List (Bs × α)} (hL : Srt L) (hM : Srt M) (h : ∀ n, get n L = get n M) : L = M := by
  have hmem : ∀ p, p ∈ L ↔ p ∈ M := fun p => by rw [← get_iff hL (n := p.1) (a := p.2), h, get_iff hM]
  induction L generalizing M with
  | nil =>
    cases M with
    | nil => rfl
    | cons y s => exact absurd ((hmem y).2 (by simp)) (by simp)
  | cons x r ih =>
    cases M with
    | nil => exact absurd ((hmem x).1 (by simp)) (by simp)
    | cons y s =>
      obtain ⟨x1, x2⟩ := List.pairwise_cons.1 hL
      obtain ⟨y1, y2⟩ := List.pairwise_cons.1 hM
      have hxy : x = y := by
        rcases List.mem_cons.1 ((hmem x).1 (by simp)) with e | hx
        · exact e
        · rcases List.mem_cons.1 ((hmem y).2 (by simp)) with e | hy
          · exact e.symm
          · have a1 := y1 x hx
            have a2 := x1 y hy
            have := bb_trans a1 a2
            rw [bb_irrefl] at this
            cases this
      subst hxy
      have hr : r = s := by
        refine ih x2 y2 (fun n => ?_) (fun p => ?_)
        · by_cases hn : x.1 = n
          · have e1 : get n r = none := get_none.2 fun p hp e => bb_ne (x1 p hp) (hn.trans e.symm)
            have e2 : get n s = none := get_none.2 fun p hp e => bb_ne (y1 p hp) (hn.trans e.symm)
            rw [e1, e2]
          · have := h n
            simp only [get, List.find?_cons] at this
            rw [show (x.1 == n) = false by simpa using hn] at this
            exact this
        · have := hmem p
          simp only [List.mem_cons] at this
          constructor
          · intro hp
            rcases this.1 (.inr hp) with e | e
            · subst e
              exact absurd rfl (bb_ne (x1 p hp))
            · exact e
          · intro hp
            rcases this.2 (.inr hp) with e | e
            · subst e
              exact absurd rfl (bb_ne (y1 p hp))
            · exact e
      rw [hr]

end

/-! ### The reading of a map in memory. -/
section
variable {H α : Type}

def dm (g : α → DataW H) (L : List (Bs × α)) : DataW H := .map (L.map fun p => (Lit.string p.1, g p.2))

theorem sk (a b : Bs) : (Lit.string a).sameKey (.string b) = (a == b) := rfl

theorem dm_insert (g : α → DataW H) (x : Bs × α) : ∀ L : List (Bs × α), DataW.insert (Lit.string x.1, g x.2) (L.map fun p => (Lit.string p.1, g p.2)) = (ins x L).map fun p => (Lit.string p.1, g p.2)
  | [] => rfl
  | y :: r => by
    have ih := dm_insert g x r
    have e1 : DataW.insert (Lit.string x.1, g x.2) ((y :: r).map fun p => (Lit.string p.1, g p.2)) =
        (if bytesBefore x.1 y.1 = true then (Lit.string x.1, g x.2) :: (Lit.string y.1, g y.2) :: r.map fun p => (Lit.string p.1, g p.2)
          else (Lit.string y.1, g y.2) :: DataW.insert (Lit.string x.1, g x.2) (r.map fun p => (Lit.string p.1, g p.2))) := rfl
    have e2 : ins x (y :: r) = if bytesBefore x.1 y.1 = true then x :: y :: r else y :: ins x r := rfl
    rw [e1, ih, e2]
    by_cases hb : bytesBefore x.1 y.1 = true
    · rw [if_pos hb, if_pos hb]
      rfl
    · rw [if_neg hb, if_neg hb]
      rfl

theorem dm_del (g : α → DataW H) (n : Bs) (L : List (Bs × α)) : (dm g L).del (.string n) = dm g (del n L) := by
  simp only [dm, DataW.del, del, List.filter_map]
  rfl

theorem dm_put (g : α → DataW H) (n : Bs) (a : α) (L : List (Bs × α)) : (dm g L).put (.string n) (g a) = dm g (put n a L) := by
  have h := dm_insert g (n, a) (del n L)
  have e : (dm g L).put (.string n) (g a) = .map (DataW.insert (Lit.string n, g a) ((del n L).map fun p => (Lit.string p.1, g p.2))) := by
    simp only [dm, DataW.put, del, List.filter_map]
    rfl
  rw [e, h]
  rfl

theorem dm_atKey (g : α → DataW H) (n : Bs) (L : List (Bs × α)) (z : DataW H) : (dm g L).atKey (.string n) z = ((get n L).map g).getD z := by
  simp only [dm, DataW.atKey, List.find?_map, get, Option.map_map]
  rw [show ((fun p : Lit × DataW H => p.1.sameKey (Lit.string n)) ∘ fun p : Bs × α => (Lit.string p.1, g p.2)) = fun p => p.1 == n from rfl]
  cases List.find? (fun p : Bs × α => p.1 == n) L <;> rfl

theorem dm_has (g : α → DataW H) (n : Bs) (L : List (Bs × α)) : Maps.has (dm g L) (.string n) = (get n L).isSome := by
  simp only [dm, Maps.has, List.any_map, get, Option.isSome_map]
  rw [show ((fun p : Lit × DataW H => p.1.sameKey (Lit.string n)) ∘ fun p : Bs × α => (Lit.string p.1, g p.2)) = fun p => p.1 == n from rfl]
  induction L with
  | nil => rfl
  | cons y r ih =>
    simp only [List.any_cons, List.find?_cons]
    cases (y.1 == n) <;> simp [ih]

theorem dm_size (g : α → DataW H) (L : List (Bs × α)) : Maps.size (dm g L) = L.length := by simp [dm, Maps.size]

/-- What is told of a map of at most n entries is told of it at just its size. -/
theorem exactly {w : World} {P : Program} {k : TypeId} {R : Value → Option (DataW H × List MemPlace)} {b n : Nat} {D : DataW H} (h : w.ownsMap P k R b n D) : w.ownsMap P k R b (Maps.size D) D := by
  obtain ⟨es, clock, hb, F, hs, rfl⟩ := h
  exact ⟨es, clock, hb, F, by simp [Maps.size, length_sorted], rfl⟩

/-- A pointer to the head of a block, or nil, as what a map holds. -/
def ptrR : Value → Option (DataW Nat × List MemPlace)
  | .pointer (some ⟨b, 0, none⟩) => some (.held b, [])
  | .pointer none => some (.nil, [])
  | _ => none

theorem ptrR_inv {v : Value} {y : DataW Nat × List MemPlace} {b : Nat} (h : ptrR v = some y) (hy : y.1 = .held b) : v = .pointer (some ⟨b, 0, none⟩) := by
  unfold ptrR at h
  split at h
  · simp at h
    subst h
    simp at hy
    rw [hy]
  · simp at h
    subst h
    simp at hy
  · simp at h

end
end Go.Sat

namespace Go.Sat
open Go.RowKit

/-- v is a slice of n elements (size cells each) that are the cells xs: nil, or at the head of a block that bears no mark. -/
def OwnR (w : World) (e : TypeId) (size : Nat) (v : Value) (n : Nat) (xs : List Value) : Prop :=
  xs.length = n * size ∧
  ((v = .slice none 0 0 ∧ n = 0) ∨
   ∃ g cap cur, v = .slice (some ⟨g, 0, none⟩) n cap ∧ w.heap[g]? = some (.cells cur e (0, 0)) ∧ n ≤ cap ∧ cap ≤ maxLen ∧ cap * size ≤ cur.size ∧ cur.toList.take (n * size) = xs)

/-- v is a slice whose n elements' cells read as xs, wherever they lie. -/
def Holds (w : World) (size : Nat) (v : Value) (n : Nat) (xs : List Value) : Prop :=
  xs.length = n * size ∧ ∃ p cap, v = .slice p n cap ∧ (p = none → n = 0) ∧ ∀ a, p = some a → ∀ (i : Nat) u, xs[i]? = some u → w.cell? (a.add i) = some u

section
variable {w w' : World} {e : TypeId} {size : Nat} {v : Value} {n : Nat} {xs : List Value}

theorem OwnR.nil (w : World) (e : TypeId) (size : Nat) : OwnR w e size (.slice none 0 0) 0 [] := ⟨by simp, .inl ⟨rfl, rfl⟩⟩

theorem OwnR.lt (h : OwnR w e size v n xs) {k : Nat} (hk : v.ownBlock = some k) : k < w.heap.size := by
  rcases h.2 with ⟨rfl, _⟩ | ⟨g, cap, cur, rfl, hg, _⟩
  · simp [Value.ownBlock] at hk
  · simp [Value.ownBlock] at hk
    subst hk
    exact (Array.getElem?_eq_some_iff.1 hg).1

theorem OwnR.keep (h : OwnR w e size v n xs) (hb : ∀ k, v.ownBlock = some k → w'.heap[k]? = w.heap[k]?) : OwnR w' e size v n xs := by
  refine ⟨h.1, ?_⟩
  rcases h.2 with hn | ⟨g, cap, cur, rfl, hg, rest⟩
  · exact .inl hn
  · exact .inr ⟨g, cap, cur, rfl, (hb g rfl).trans hg, rest⟩

theorem add_zero (g j : Nat) : (⟨g, 0, none⟩ : Addr).add j = ⟨g, j, none⟩ := by
  unfold Addr.add
  split <;> simp_all

theorem OwnR.cells (h : OwnR w e size v n xs) {g : Nat} (hg : v.ownBlock = some g) : ∀ j u, xs[j]? = some u → w.cell? ((⟨g, 0, none⟩ : Addr).add j) = some u := by
  intro j u hu
  rcases h.2 with ⟨rfl, _⟩ | ⟨g', cap, cur, rfl, hgg, _, _, _, htake⟩
  · simp [Value.ownBlock] at hg
  · simp [Value.ownBlock] at hg
    subst hg
    rw [add_zero, cell_of_row w g' j cur e (0, 0) hgg]
    rw [← htake, List.getElem?_take] at hu
    split at hu
    · simpa using hu
    · cases hu

theorem OwnR.holds (h : OwnR w e size v n xs) : Holds w size v n xs := by
  refine ⟨h.1, ?_⟩
  rcases h.2 with ⟨rfl, rfl⟩ | ⟨g, cap, cur, rfl, hgg, _⟩
  · exact ⟨none, 0, rfl, fun _ => rfl, fun a ha => by cases ha⟩
  · refine ⟨some ⟨g, 0, none⟩, cap, rfl, fun e => by (cases e), fun a ha i u hu => ?_⟩
    cases ha
    exact h.cells rfl i u hu

theorem OwnR.shape (h : OwnR w e size v n xs) : ∃ p c, v = .slice p n c := by
  obtain ⟨_, p, c, rfl, _⟩ := h.holds
  exact ⟨p, c, rfl⟩

theorem OwnR.of_kit {base : Nat} (h : w.ownsRow base e size v n xs) : OwnR w e size v n xs := by
  refine ⟨h.1, ?_⟩
  rcases h.2 with hn | ⟨g, cap, cur, rfl, _, hg, hnc, hcm, hcs, ht⟩
  · exact .inl hn
  · exact .inr ⟨g, cap, cur, rfl, hg, hnc, hcm, by omega, ht⟩

theorem OwnR.block_ge {base : Nat} (h : w.ownsRow base e size v n xs) {k : Nat} (hk : v.ownBlock = some k) : base ≤ k := (World.ownsRow.lt h k hk).1

theorem Holds.len (h : Holds w size v n xs) : xs.length = n * size := h.1

theorem Holds.keep (h : Holds w size v n xs) (hb : ∀ k, v.ownBlock = some k → w'.heap[k]? = w.heap[k]?) : Holds w' size v n xs := by
  obtain ⟨hl, p, cap, rfl, h0, hc⟩ := h
  refine ⟨hl, p, cap, rfl, h0, fun a ha i u hu => ?_⟩
  rw [← hc a ha i u hu]
  refine World.cell?_of_block ?_
  have e1 : (a.add i).block = a.block := by unfold Addr.add; split <;> rfl
  rw [e1]
  exact hb a.block (by rw [ha]; rfl)

end

section
variable {P : Program} (w : World)

/-- append(v, x...), v a row of the holder's own, x whatever: the row with x's cells behind it; where it lies. -/
theorem run_app (t ty e : TypeId) (i : TypeInfo) (z : Value) (size bytes : Nat) (ht : P.underlying t = some (.slice e)) (hi : P.info? e = some i) (hz : i.zero = some z)
    (hsize : i.size = size) (hby : i.bytes = bytes) (hzs : z.cells.size = size) (hsz : 0 < size)
    (v : Value) (n : Nat) (xs : List Value) (hown : OwnR w e size v n xs)
    (x : Value) (m : Nat) (news : List Value) (hx : Holds w size x m news) (h1 : ∀ u ∈ news, u.oneCell' = true)
    (h63 : n + m ≤ maxLen) (hbytes : (n + m) * bytes ≤ 140737488355328) :
    ∃ v' w', (Builtin.append_ #[t, t] ty #[v, x]).run P w = .ok v' w' ∧ OwnR w' e size v' (n + m) (xs ++ news) ∧ w.grownBy w' v.ownBlock ∧
      (v'.ownBlock = v.ownBlock ∨ ∃ g, v'.ownBlock = some g ∧ w.heap.size ≤ g) := by
  subst hsize
  subst hby
  obtain ⟨hl, p, c, rfl, hp0, hnews⟩ := hx
  have hsmall : n + m ≤ 9223372036854775807 := by simp only [maxLen] at h63; omega
  have hlen : (xs ++ news).length = (n + m) * i.size := by rw [List.length_append, hown.1, hl, Nat.add_mul]
  by_cases hm : m = 0
  · subst hm
    have hn : news = [] := List.eq_nil_of_length_eq_zero (by simpa using hl)
    subst hn
    refine ⟨v, w, ?_, by simpa using hown, ⟨rfl, rfl, rfl, Nat.le_refl _, fun _ _ _ => rfl⟩, .inl rfl⟩
    have hfc : (Builtin.firstCells i.size 0 (.slice p 0 c)).run P w = .ok #[] w := by
      cases p <;> simp [Builtin.firstCells, loadCells, loadCellsFrom]
    rcases hown.2 with ⟨rfl, rfl⟩ | ⟨g, cap, cur, rfl, hg, hnc, hcm, hcs, htake⟩
    · simp [Builtin.append_, run_underlying ht, sizeOf, typeInfo, hi, Builtin.lenOf, hfc]
    · simp [Builtin.append_, run_underlying ht, sizeOf, typeInfo, hi, Builtin.lenOf, hfc, hnc, storeCells]
  obtain ⟨a, rfl⟩ : ∃ a, p = some a := by
    cases p with
    | none => exact absurd (hp0 rfl) hm
    | some a => exact ⟨a, rfl⟩
  have hnews := hnews a rfl
  have grown : ∀ (old : Nat), old < n + m → ∀ (row : Option Nat),
      OwnR (w.drew.alloc (.cells (xs.toArray ++ news.toArray ++ Builtin.zeroCells z.cells (grownCap w (n + m) old e - (n + m))) e)) e i.size
        (.slice (some ⟨w.heap.size, 0, none⟩) (n + m) (grownCap w (n + m) old e)) (n + m) (xs ++ news) ∧
      w.grownBy (w.drew.alloc (.cells (xs.toArray ++ news.toArray ++ Builtin.zeroCells z.cells (grownCap w (n + m) old e - (n + m))) e)) row := by
    intro old ho row
    have hge := grownCap_ge w (n + m) old e
    have hcm : grownCap w (n + m) old e ≤ maxLen := grownCap_le_maxLen w (n + m) old e h63
    refine ⟨⟨hlen, .inr ⟨w.heap.size, _, _, rfl, heap_alloc_new w.drew _, hge, hcm, ?_, ?_⟩⟩, ⟨rfl, rfl, rfl, by simp, fun k hk _ => heap_alloc_old w.drew _ hk⟩⟩
    · simp only [Array.size_append, List.size_toArray, size_zeroCells, hzs, hown.1, hl, ← Nat.add_mul]
      apply Nat.le_of_eq
      congr 1
      omega
    · simp only [Array.toList_append, List.append_assoc]
      rw [← List.append_assoc, ← hlen]
      exact List.take_left
  rcases hown.2 with ⟨rfl, rfl⟩ | ⟨g, cap, cur, rfl, hg, hnc, hcm, hcs, htake⟩
  · have hx : xs = [] := List.eq_nil_of_length_eq_zero (by simpa using hown.1)
    subst hx
    have hr := run_append_nil (P := P) w t ty e i z ht hi hz a m c news hl hnews (by omega) (by omega) (by have hb := hbytes; simp only [Nat.zero_add] at hb; omega)
    have hgr := grown 0 (by omega) (Value.ownBlock (.slice none 0 0))
    simp only [Nat.zero_add, List.nil_append, Array.empty_append] at hgr ⊢
    exact ⟨_, _, hr, hgr.1, hgr.2, .inr ⟨_, rfl, Nat.le_refl _⟩⟩
  · by_cases hroom : n + m ≤ cap
    · have hfit : n * i.size + news.length ≤ cur.size := by
        rw [hl, ← Nat.add_mul]
        exact Nat.le_trans (Nat.mul_le_mul_right _ hroom) hcs
      have hr := run_append_room (P := P) w t ty e i ht hi g n cap cur hg a m c news hl hnews h1 hroom hfit
      refine ⟨_, _, hr, ⟨hlen, .inr ⟨g, cap, _, rfl, setRow_heap w g cur _ e _ hg, hroom, hcm, ?_, ?_⟩⟩, ⟨rfl, rfl, rfl, by simp, fun k _ hk => setRow_other w g k _ (fun e => hk (by simp [Value.ownBlock, e]))⟩, .inl rfl⟩
      · simp only [List.size_toArray, List.length_append, List.length_take, List.length_drop, Array.length_toList]
        omega
      · rw [htake, ← hlen]
        exact List.take_left
    · have holds : ∀ j u, xs[j]? = some u → w.cell? ((⟨g, 0, none⟩ : Addr).add j) = some u := hown.cells (g := g) rfl
      have hr := run_append_grow (P := P) w t ty e i z ht hi hz ⟨g, 0, none⟩ n cap xs hown.1 holds a m c news hl hnews (by omega) (by omega) (growslice_fits (by omega) hbytes)
      have hgr := grown cap (by omega) (Value.ownBlock (.slice (some ⟨g, 0, none⟩) n cap))
      exact ⟨_, _, hr, hgr.1, hgr.2, .inr ⟨_, rfl, Nat.le_refl _⟩⟩

/-- The same at the operation. -/
theorem wpList_app {ops : Array Oper} {rest : List Oper} {o : Oper} {a : Act} {Q : Exit → Act → World → Prop} (hgd : o.guard = none) (s x : Operand) (t : TypeId)
    (ho : o.op = .call { callee := .builtin .append, args := #[s, x], argTypes := #[t, t] })
    (e : TypeId) (i : TypeInfo) (z : Value) (size bytes : Nat) (ht : P.underlying t = some (.slice e)) (hi : P.info? e = some i) (hz : i.zero = some z)
    (hsize : i.size = size) (hby : i.bytes = bytes) (hzs : z.cells.size = size) (hsz : 0 < size)
    (v : Value) (n : Nat) (xs : List Value) (hs : a.eval s = v) (hown : OwnR w e size v n xs)
    (xv : Value) (m : Nat) (news : List Value) (hxv : a.eval x = xv) (hx : Holds w size xv m news) (h1 : ∀ u ∈ news, u.oneCell' = true)
    (h63 : n + m ≤ maxLen) (hbytes : (n + m) * bytes ≤ 140737488355328)
    (h : ∀ v' w', OwnR w' e size v' (n + m) (xs ++ news) → w.grownBy w' v.ownBlock → (v'.ownBlock = v.ownBlock ∨ ∃ g, v'.ownBlock = some g ∧ w.heap.size ≤ g) → wpList P ops Q rest (a.put o.dst v') w') : wpList P ops Q (o :: rest) a w :=
  wpList_plain hgd fun K hK => by
    obtain ⟨v', w', hr, h2, h3, h4⟩ := run_app (P := P) w t o.type e i z size bytes ht hi hz hsize hby hzs hsz v n xs hown xv m news hx h1 h63 hbytes
    unfold Oper.wp execOp
    simp only [ho, resolve, invoke, builtin, Sem.run_bind, Sem.run_pure, Result.andThen_ok, List.map_toArray, List.map_cons, List.map_nil, hs, hxv, hr]
    exact hK _ _ (h v' w' h2 h3 h4)
end

/-! ### Bytes -/
def bytesV (l : Bs) : List Value := l.map fun u => .int .u8 (u.toNat : Int)

theorem bytesV_len (l : Bs) : (bytesV l).length = l.length := by simp [bytesV]
theorem bytesV_app (l m : Bs) : bytesV (l ++ m) = bytesV l ++ bytesV m := by simp [bytesV]
theorem bytesV_take (l : Bs) (k : Nat) : bytesV (l.take k) = (bytesV l).take k := by simp [bytesV, List.map_take]
theorem bytesV_one (l : Bs) : ∀ u ∈ bytesV l, u.oneCell' = true := by
  intro u hu
  obtain ⟨x, _, rfl⟩ := List.mem_map.1 hu
  rfl
/-- v is a slice of the bytes l, wherever they lie. -/
def HasB (w : World) (v : Value) (l : Bs) : Prop := Holds w 1 v l.length (bytesV l)
/-- v is a row of the bytes l of the holder's own (e: the type of a byte). -/
def OwnB (w : World) (e : TypeId) (v : Value) (l : Bs) : Prop := OwnR w e 1 v l.length (bytesV l)

theorem OwnB.has {w : World} {e : TypeId} {v : Value} {l : Bs} (h : OwnB w e v l) : HasB w v l := OwnR.holds h
theorem OwnB.keep {w w' : World} {e : TypeId} {v : Value} {l : Bs} (h : OwnB w e v l) (hb : ∀ k, v.ownBlock = some k → w'.heap[k]? = w.heap[k]?) : OwnB w' e v l := OwnR.keep h hb

theorem HasB.kit {w : World} {v : Value} {l : Bs} (h : HasB w v l) : Lib.HoldsBytes w v l := by
  obtain ⟨_, p, cap, rfl, h0, hc⟩ := h
  refine ⟨p, cap, rfl, fun e => List.eq_nil_of_length_eq_zero (h0 e), fun a ha i x hx => hc a ha i _ ?_⟩
  simp [bytesV, hx]

theorem HasB.of_kit {w : World} {v : Value} {l : Bs} (h : Lib.HoldsBytes w v l) : HasB w v l := by
  obtain ⟨p, cap, rfl, h0, hc⟩ := h
  refine ⟨by simp [bytesV], p, cap, rfl, fun e => by rw [h0 e]; rfl, fun a ha i u hu => ?_⟩
  simp only [bytesV, List.getElem?_map, Option.map_eq_some_iff] at hu
  obtain ⟨x, hx, rfl⟩ := hu
  exact hc a ha i x hx

/-! ### What a step may turn -/
/-- Nothing but the blocks of S (and new ones) has turned. -/
structure Chg (S : Nat → Prop) (w w' : World) : Prop where
  os : w'.os = w.os
  tape : w'.tape = w.tape
  output : w'.output = w.output
  size : w.heap.size ≤ w'.heap.size
  block : ∀ k, k < w.heap.size → ¬ S k → w'.heap[k]? = w.heap[k]?

section
variable {S T : Nat → Prop} {w w' w'' : World}
theorem Chg.refl (S : Nat → Prop) (w : World) : Chg S w w := ⟨rfl, rfl, rfl, Nat.le_refl _, fun _ _ _ => rfl⟩
theorem Chg.mono (h : Chg S w w') (hs : ∀ k, k < w.heap.size → S k → T k) : Chg T w w' := ⟨h.os, h.tape, h.output, h.size, fun k hk hn => h.block k hk fun s => hn (hs k hk s)⟩
theorem Chg.trans (h : Chg S w w') (k : Chg T w' w'') (hs : ∀ i, i < w.heap.size → T i → S i) : Chg S w w'' :=
  ⟨k.os.trans h.os, k.tape.trans h.tape, k.output.trans h.output, Nat.le_trans h.size k.size, fun i hi hn => (k.block i (Nat.lt_of_lt_of_le hi h.size) fun t => hn (hs i hi t)).trans (h.block i hi hn)⟩
theorem Chg.of_below (h : Below w.heap.size w w') : Chg (fun _ => False) w w' := ⟨h.os, h.tape, h.output, h.size, fun k hk _ => h.block k hk⟩
theorem Chg.below (h : Chg S w w') {B : Nat} (hB : B ≤ w.heap.size) (hs : ∀ k, k < B → ¬ S k) : Below B w w' := ⟨h.os, h.tape, h.output, h.size, fun k hk => h.block k (by omega) (hs k hk)⟩
theorem Chg.of_grown {row : Option Nat} (h : w.grownBy w' row) : Chg (fun k => some k = row) w w' := ⟨h.os, h.tape, h.output, h.size, fun k hk hn => h.block k hk hn⟩
theorem Chg.alloc (w : World) (o : Obj) : Chg (fun _ => False) w (w.alloc o) := ⟨rfl, rfl, rfl, by simp, fun k hk _ => heap_alloc_old w o hk⟩
theorem Chg.drew (w : World) : Chg (fun _ => False) w w.drew := ⟨rfl, rfl, rfl, Nat.le_refl _, fun _ _ _ => rfl⟩
theorem Chg.setCell (w : World) (a : Addr) (u : Value) : Chg (fun k => k = a.block) w (w.setCell a u) := ⟨rfl, rfl, rfl, by simp [World.setCell], fun k _ hn => Below.heap_setCell _ _ _ _ hn⟩
theorem Chg.cell (h : Chg S w w') {a : Addr} {v : Value} (hc : w.cell? a = some v) (hn : ¬ S a.block) : w'.cell? a = some v :=
  (World.cell?_of_block (h.block a.block (World.block_lt_of_cell? w a hc) hn)).trans hc
end

theorem add_block (a : Addr) (i : Nat) : (a.add i).block = a.block := by unfold Addr.add; split <;> rfl

theorem Holds.chg {w w' : World} {S : Nat → Prop} {size : Nat} {v : Value} {n : Nat} {xs : List Value} (h : Holds w size v n xs) (hc : Chg S w w') (hS : ∀ k, v.ownBlock = some k → ¬ S k) : Holds w' size v n xs := by
  obtain ⟨hl, p, cap, rfl, h0, hcs⟩ := h
  refine ⟨hl, p, cap, rfl, h0, fun a ha i u hu => hc.cell (hcs a ha i u hu) ?_⟩
  rw [add_block]
  exact hS _ (by rw [ha]; rfl)

theorem Holds.chg2 {w w' : World} {S : Nat → Prop} {size : Nat} {v : Value} {n : Nat} {xs : List Value} (h : Holds w size v n xs) (hc : Chg S w w') (hS : ∀ a u, w.cell? a = some u → v.ownBlock = some a.block → ¬ S a.block) : Holds w' size v n xs := by
  obtain ⟨hl, p, cap, rfl, h0, hcs⟩ := h
  refine ⟨hl, p, cap, rfl, h0, fun a ha i u hu => hc.cell (hcs a ha i u hu) (hS _ _ (hcs a ha i u hu) ?_)⟩
  rw [add_block, ha]
  rfl

theorem no_cell_map {w : World} {b : Nat} {es : Array MapEntry} {c : Nat} (h : w.heap[b]? = some (.map es c)) {a : Addr} {u : Value} (hc : w.cell? a = some u) : a.block ≠ b := fun e => by
  simp [World.cell?, e, h] at hc

theorem HasB.chg {w w' : World} {S : Nat → Prop} {v : Value} {l : Bs} (h : HasB w v l) (hc : Chg S w w') (hS : ∀ k, v.ownBlock = some k → ¬ S k) : HasB w' v l := Holds.chg h hc hS
theorem HasB.below {w w' : World} {v : Value} {l : Bs} (h : HasB w v l) (hb : Below w.heap.size w w') : HasB w' v l := h.chg (Chg.of_below hb) fun _ _ => id
theorem HasB.slice {w : World} {v : Value} {l : Bs} (h : HasB w v l) : ∃ p c, v = .slice p l.length c := by
  obtain ⟨_, p, c, e, _⟩ := h
  exact ⟨p, c, e⟩
theorem OwnB.slice {w : World} {e : TypeId} {v : Value} {l : Bs} (h : OwnB w e v l) : ∃ p c, v = .slice p l.length c := h.has.slice

/-- Behind an append: a block that the row does not lie in is as it was. -/
theorem grown_block {w w' : World} {row : Option Nat} (h : w.grownBy w' row) {k : Nat} {o : Obj} (hk : w.heap[k]? = some o) (hne : row ≠ some k) : w'.heap[k]? = some o :=
  (h.block k (Array.getElem?_eq_some_iff.1 hk).1 fun e => hne e.symm).trans hk

theorem ownBlock_slice (p : Option Addr) (a b c d : Nat) : (Value.slice p a b).ownBlock = (Value.slice p c d).ownBlock := by cases p <;> rfl

theorem lt_of_block {w : World} {b : Nat} {o : Obj} (h : w.heap[b]? = some o) : b < w.heap.size := (Array.getElem?_eq_some_iff.1 h).1

theorem cell_of {w : World} {b : Nat} {c : Array Value} {e : TypeId} {fr : Nat × Nat} (h : w.heap[b]? = some (.cells c e fr)) {i : Nat} {v : Value} (hi : c[i]? = some v) : w.cell? ⟨b, i, none⟩ = some v := by
  simp [World.cell?, h, hi]
theorem frozen_of {w : World} {b : Nat} {c : Array Value} {e : TypeId} (h : w.heap[b]? = some (.cells c e (0, 0))) (i : Nat) : w.frozen? ⟨b, i, none⟩ = false := by
  simp [World.frozen?, h]
theorem set_block {w : World} {b : Nat} {c : Array Value} {e : TypeId} {fr : Nat × Nat} (h : w.heap[b]? = some (.cells c e fr)) (i : Nat) (v : Value) : (w.setCell ⟨b, i, none⟩ v).heap[b]? = some (.cells (c.setIfInBounds i v) e fr) := by
  simp [World.setCell, Array.getElem?_modify, h]
theorem set_other {w : World} {a : Addr} {k : Nat} (v : Value) (hne : k ≠ a.block) : (w.setCell a v).heap[k]? = w.heap[k]? := Below.heap_setCell _ _ _ _ hne
theorem new_block (w : World) (o : Obj) : (w.alloc o).heap[w.heap.size]? = some o := heap_alloc_new w o
theorem old_block {w : World} {k : Nat} {x : Obj} (o : Obj) (h : w.heap[k]? = some x) : (w.alloc o).heap[k]? = some x := (heap_alloc_old w o (lt_of_block h)).trans h
end Go.Sat

namespace Go.Sat
open Go.RowKit
open Go.Maps (Keyed)

section
variable {α : Type}

/-- What is still to come. -/
def rem (left : Lit → Bool) (L : List (Bs × α)) : List (Bs × α) := L.filter fun p => left (.string p.1)

theorem srt_rem {left : Lit → Bool} {L : List (Bs × α)} (h : Srt L) : Srt (rem left L) := h.filter _

theorem rem_start (g : α → DataW Nat) (L : List (Bs × α)) : rem (Maps.has (dm g L)) L = L := by
  refine List.filter_eq_self.2 fun p hp => ?_
  rw [dm_has]
  cases hg : get p.1 L with
  | none => exact absurd rfl (get_none.1 hg p hp)
  | some a => rfl

theorem rem_end {left : Lit → Bool} (h : ∀ kl, left kl = false) (L : List (Bs × α)) : rem left L = [] := by
  refine List.filter_eq_nil_iff.2 fun p _ => ?_
  rw [h]
  simp

theorem get_rem {left : Lit → Bool} {L : List (Bs × α)} (h : Srt L) {n : Bs} {a : α} (hg : get n L = some a) (hl : left (.string n) = true) : get n (rem left L) = some a :=
  get_of_mem (srt_rem h) (List.mem_filter.2 ⟨get_mem hg, hl⟩)

theorem rem_step (left : Lit → Bool) (n : Bs) (L : List (Bs × α)) : rem (fun z => left z && !z.sameKey (.string n)) L = del n (rem left L) := by
  simp only [rem, del, List.filter_filter]
  refine List.filter_congr fun p _ => ?_
  rw [sk]
  exact Bool.and_comm _ _

/-- One step takes one summand off what is still to come. -/
theorem rem_sum {f : α → Nat} {left : Lit → Bool} {L : List (Bs × α)} (h : Srt L) {n : Bs} {a : α} (hg : get n L = some a) (hl : left (.string n) = true) :
    sumBy f (rem left L) = f a + sumBy f (rem (fun z => left z && !z.sameKey (.string n)) L) := by
  rw [rem_step]
  exact sum_del (srt_rem h) (get_rem h hg hl)
end

theorem keyOf_string_inv {P : Program} {k : TypeId} (hk : P.underlying k = some .string) {key : Value} {kl : Lit} (h : keyOf P k key = some kl) : ∃ s : ByteArray, key = .string s ∧ kl = .string s.data.toList ∧ s.size ≤ maxLen := by
  cases key <;> simp [keyOf, hk, mapKey] at h
  obtain ⟨h1, rfl⟩ := h
  exact ⟨_, rfl, rfl, h1⟩

section
variable {α : Type} {P : Program} (w : World) {ops : Array Oper} {rest : List Oper} {o : Oper} {a : Act} {Q : Exit → Act → World → Prop}

theorem wpList_next_ptr (hg : o.guard = none) (it : Operand) (hop : o.op = Op.next it false) (k : TypeId) (hk : P.underlying k = some .string) (K : Keyed P k)
    (g : α → Nat) (L : List (Bs × α)) (b r n : Nat) (left : Lit → Bool) (cnt : Nat) (hit : a.eval it = .pointer (some ⟨r, 0, none⟩)) (h : w.ranges P k ptrR b r n (dm (fun x => .held (g x)) L) left cnt)
    (hDone : (∀ kl, left kl = false) → wpList P ops Q rest (a.put o.dst (.tuple #[.bool false])) w)
    (hMore : ∀ (s : ByteArray) (x : α) (w' : World) (cnt' : Nat), get s.data.toList L = some x → left (.string s.data.toList) = true → s.size ≤ maxLen →
      w'.ranges P k ptrR b r n (dm (fun x => .held (g x)) L) (fun z => left z && !z.sameKey (.string s.data.toList)) cnt' → cnt' < cnt → w.grownBy w' (some r) → w'.heap.size = w.heap.size →
      (Instr.entry (.pointer (some ⟨r, 0, none⟩))).run P w' = .ok (.tuple #[.string s, .pointer (some ⟨g x, 0, none⟩)]) w' →
      wpList P ops Q rest (a.put o.dst (.tuple #[.bool true, .string s, .pointer (some ⟨g x, 0, none⟩)])) w') :
    wpList P ops Q (o :: rest) a w :=
  wpList_next_ranges w hg it hop k K ptrR (fun s : ByteArray => .string s) (fun v : Value => v) (fun key kl hkey => by obtain ⟨s, rfl, _⟩ := keyOf_string_inv hk hkey; exact ⟨s, rfl⟩) (fun v _ _ => ⟨v, rfl⟩)
    b r n _ left cnt hit h (fun _ hl => hDone hl) (fun s v kl y w' cnt' hkey hl hv hat hrg hlt hgr hsz hen => by
      obtain ⟨s', e1, rfl, hs⟩ := keyOf_string_inv hk hkey
      simp at e1
      subst e1
      have h1 : ∀ zd, ((get s.data.toList L).map fun x => (DataW.held (g x) : DataW Nat)).getD zd = y.1 := fun zd => by rw [← dm_atKey]; exact hat zd
      cases hgt : get s.data.toList L with
      | none =>
        rw [hgt] at h1
        have e1 := h1 .nil
        have e2 := h1 (.held 0)
        rw [← e2] at e1
        cases e1
      | some x =>
        rw [hgt] at h1
        have e1 := (h1 .nil).symm
        have hv' := ptrR_inv hv e1
        subst hv'
        exact hMore s x w' cnt' hgt hl hs hrg hlt hgr hsz hen)

/-- 'm[k]' where the elements are pointers. -/
theorem run_look_ptr {t k e : TypeId} {b n : Nat} (K : Keyed P k) (hk : P.underlying k = some .string) (ht : P.underlying t = some (.map k e)) (hz : (zeroValue e).run P w = .ok (.pointer none) w) (g : α → Nat) (L : List (Bs × α))
    (h : w.ownsMap P k ptrR b n (dm (fun x => .held (g x)) L)) (s : ByteArray) (hs : s.size ≤ maxLen) :
    (Instr.lookup t (.map (some b)) (.string s) false).run P w = .ok (match get s.data.toList L with | some x => .pointer (some ⟨g x, 0, none⟩) | none => .pointer none) w := by
  obtain ⟨v, ps, hrun, hv⟩ := h.lookup K ht hz (z := .pointer none) (zd := .nil) (zp := []) rfl (WideMaps.keyOf_string_mk hk hs)
  rw [hrun]
  rw [dm_atKey] at hv
  cases hgt : get s.data.toList L with
  | none =>
    rw [hgt] at hv
    simp only [Option.map_none, Option.getD_none] at hv
    unfold ptrR at hv
    split at hv <;> simp at hv
    rfl
  | some x =>
    rw [hgt] at hv
    simp only [Option.map_some, Option.getD_some] at hv
    rw [ptrR_inv hv rfl]

theorem run_look_some {t k e : TypeId} {b n : Nat} (K : Keyed P k) (hk : P.underlying k = some .string) (ht : P.underlying t = some (.map k e)) (hz : (zeroValue e).run P w = .ok (.pointer none) w) (g : α → Nat) {L : List (Bs × α)}
    (h : w.ownsMap P k ptrR b n (dm (fun x => .held (g x)) L)) {s : ByteArray} (hs : s.size ≤ maxLen) {x : α} (hg : get s.data.toList L = some x) :
    (Instr.lookup t (.map (some b)) (.string s) false).run P w = .ok (.pointer (some ⟨g x, 0, none⟩)) w := by
  rw [run_look_ptr w K hk ht hz g L h s hs, hg]

theorem run_look_any {t k e : TypeId} {b n : Nat} (K : Keyed P k) (hk : P.underlying k = some .string) (ht : P.underlying t = some (.map k e)) (hz : (zeroValue e).run P w = .ok (.pointer none) w) (g : α → Nat) {L : List (Bs × α)}
    (h : w.ownsMap P k ptrR b n (dm (fun x => .held (g x)) L)) {s : ByteArray} (hs : s.size ≤ maxLen) :
    ∃ fv, (Instr.lookup t (.map (some b)) (.string s) false).run P w = .ok (.pointer fv) w := by
  rw [run_look_ptr w K hk ht hz g L h s hs]
  cases get s.data.toList L with
  | none => exact ⟨none, rfl⟩
  | some x => exact ⟨_, rfl⟩

theorem run_look_none {t k e : TypeId} {b n : Nat} (K : Keyed P k) (hk : P.underlying k = some .string) (ht : P.underlying t = some (.map k e)) (hz : (zeroValue e).run P w = .ok (.pointer none) w) (g : α → Nat) {L : List (Bs × α)}
    (h : w.ownsMap P k ptrR b n (dm (fun x => .held (g x)) L)) {s : ByteArray} (hs : s.size ≤ maxLen) (hg : get s.data.toList L = none) :
    (Instr.lookup t (.map (some b)) (.string s) false).run P w = .ok (.pointer none) w := by
  rw [run_look_ptr w K hk ht hz g L h s hs, hg]
end

/-! ### A region that draws its order, whose operations read or call what keeps a property of the world -/
theorem classOf (S : World → Prop) {w : World} (h : S w) : ∃ (ι : Type) (F : ι → World), Nonempty ι ∧ (∃ n, w = F n) ∧ (∀ n, S (F n)) ∧ ∀ W, S W → ∃ n, W = F n :=
  ⟨{ W : World // S W }, Subtype.val, ⟨⟨w, h⟩⟩, ⟨⟨w, h⟩, rfl⟩, fun n => n.2, fun W h => ⟨⟨W, h⟩, rfl⟩⟩

theorem wp_region_class {P : Program} {ι : Type} (F : ι → World) {id : Nat} {Q : Exit → Act → World → Prop} {a : Act} {w : World} {l : List Oper} (hm : P.follows .mixedOrders = true) (hB : Region.lexB .any l.toArray = true) (h0 : ∃ n, w.drew = F n)
    (h : wpQuiet P l.toArray (fun w' => ∃ n, w' = F n) (fun a' => ∀ w', (∃ n, w' = F n) → Q .normal a' w') l a) : (Code.region id l.toArray true).wp P Q a w :=
  wp_region_quiet (C := fun w' => ∃ n, w' = F n) hm hB h0 (by simpa using h)
end Go.Sat

namespace Go.Proofs.YtogdfkilhpkloaaGreatDoor
open Go.RowKit Go.Sat

/-- x is a slice of rows of bytes, wherever they lie. -/
def RowsAt (w : World) (x : Value) (ls : List Bs) : Prop :=
  ∃ p c, x = .slice p ls.length c ∧ ls.length ≤ c ∧ (ls ≠ [] → ∃ b o vs, p = some ⟨b, o, none⟩ ∧ Lib.PartsAt w ⟨b, o, none⟩ vs ls)

theorem fresh_has {B : Nat} {w : World} {v : Value} {l : Bs} (h : Lib.FreshBytes B w v l) : HasB w v l := by
  obtain ⟨g, cap, zs, rfl, _, hl, _, hz, hr, hb, hc, _⟩ := h
  refine HasB.of_kit ⟨some ⟨g, 0, none⟩, cap, rfl, fun e => (by cases e), fun a ha i x hx => ?_⟩
  cases ha
  have hi : i < l.length := (List.getElem?_eq_some_iff.1 hx).1
  rw [add_zero, hc i (by omega)]
  have hzi : i < zs.length := by omega
  have h1 : (zs.take l.length)[i]? = some zs[i] := by rw [List.getElem?_take, if_pos hi, List.getElem?_eq_getElem hzi]
  have h2 : (Lib.bytesOf (zs.take l.length))[i]? = some x := by rw [hb]; exact hx
  simp only [Lib.bytesOf, List.getElem?_map, h1, Option.map_some, Option.some.injEq] at h2
  have h3 := hr zs[i] (List.getElem_mem hzi)
  have h4 : zs.getD i 0 = zs[i] := by simp [List.getD, List.getElem?_eq_getElem hzi]
  rw [h4, ← h2]
  congr 2
  simp
  omega

theorem join_flat (ls : List Bs) : Lib.join ls [] = ls.flatten := by
  cases ls with
  | nil => rfl
  | cons x r =>
    rw [Lib.join_cons]
    simp [Lib.joinTail]

theorem flat_len (ls : List Bs) : ls.flatten.length = Lib.lens ls := by simp [Lib.lens, List.length_flatten]

/-- bytes.Join of rows, with nothing between them. -/
theorem bjoin {w : World} {x : Value} {ls : List Bs} (h : RowsAt w x ls) (hn : ls.length ≤ 140737488355328) (hl : ls.flatten.length ≤ 140737488355328) :
    Calls Tryz.prog 230 #[x, .slice none 0 0] w fun e w' => ∃ v, e = .returned v ∧ HasB w' v ls.flatten ∧ Below w.heap.size w w' := by
  obtain ⟨p, c, rfl, hc, hQ⟩ := h
  cases ls with
  | nil =>
    refine (Tryz.bytes_Join_none p c (.slice none 0 0) w).mono ?_
    rintro e w' ⟨rfl, rfl⟩
    refine ⟨_, rfl, ?_, (Below.refl _ _).alloc (Nat.le_refl _) _⟩
    exact HasB.of_kit ⟨_, _, rfl, fun e => (by cases e), fun a ha i x hx => by simp at hx⟩
  | cons l0 r =>
    obtain ⟨b, o, vs, rfl, hP⟩ := hQ (by simp)
    cases r with
    | nil =>
      obtain ⟨p0, c0, l0', e0, hcell, hp0, hcs⟩ := hP.get 0 (by simp)
      simp at e0
      subst e0
      have hcell' : w.cell? ⟨b, o, none⟩ = some (.slice p0 l0.length c0) := by simpa [Addr.add] using hcell
      by_cases h0 : l0.length = 0
      · have hl0 : l0 = [] := List.eq_nil_of_length_eq_zero h0
        subst hl0
        refine (Tryz.bytes_Join_one_empty b o c p0 c0 (.slice none 0 0) w hcell').mono ?_
        rintro e w' ⟨rfl, rfl⟩
        exact ⟨_, rfl, HasB.of_kit ⟨none, 0, rfl, fun _ => rfl, fun a ha => (by cases ha)⟩, Below.refl _ _⟩
      · obtain ⟨a0, rfl⟩ : ∃ a, p0 = some a := by
          cases p0 with
          | none => exact absurd (by rw [hp0 rfl]; rfl) h0
          | some a => exact ⟨a, rfl⟩
        refine (Tryz.bytes_Join_one b o c a0 c0 l0 (.slice none 0 0) w hcell' (hcs a0 rfl) (by omega) (by simpa using hl)).mono ?_
        rintro e w' ⟨v, rfl, hf, hb⟩
        exact ⟨v, rfl, by simpa using fresh_has hf, hb⟩
    | cons l1 r =>
      have hsep : Lib.HoldsBytes w (.slice none 0 0) [] := ⟨none, 0, rfl, fun _ => rfl, fun a ha => (by cases ha)⟩
      refine (Tryz.bytes_Join_many b o _ c vs (l0 :: l1 :: r) (.slice none 0 0) [] w rfl (by simp) hP hc hsep hn (by rw [← flat_len]; simpa using hl)).mono ?_
      rintro e w' ⟨v, rfl, hf, hb⟩
      rw [join_flat] at hf
      exact ⟨v, rfl, fresh_has hf, hb⟩

set_option maxHeartbeats 400000 in
/-- octet.Join. -/
theorem join_calls {w : World} {x : Value} {ls : List Bs} (h : RowsAt w x ls) (hn : ls.length ≤ 140737488355328) (hl : ls.flatten.length ≤ 140737488355328) :
    Calls Tryz.prog 174 #[x] w fun e w' => ∃ v, e = .returned v ∧ HasB w' v ls.flatten ∧ Below w.heap.size w w' := by
  have hj := bjoin h hn hl
  obtain ⟨p, c, rfl, hc, hP⟩ := h
  have Hj := Lib.hid hj
  clear hj hP
  go_enter Tryz.func174, Tryz.ntmps174
  go_wp2_with fail
  refine Hj.out.mono ?_
  rintro e w' ⟨v, rfl, hv, hb⟩
  go_wp2_with fail
  go_ret
  exact ⟨v, rfl, hv, hb⟩

/-- bytes.Clone. -/
theorem clone_calls {w : World} {x : Value} {l : Bs} (h : HasB w x l) (hl : l.length ≤ 140737488355328) :
    Calls Tryz.prog 103 #[x] w fun e w' => ∃ v, e = .returned v ∧ OwnB w' 5 v l ∧ (∀ k, v.ownBlock = some k → w.heap.size ≤ k) ∧ Below w.heap.size w w' := by
  obtain ⟨p, cap, rfl, h0, hc⟩ := h.kit
  cases p with
  | none =>
    have := h0 rfl
    subst this
    refine (Tryz.bytes_Clone_nil _ cap w).mono ?_
    rintro e w' ⟨rfl, rfl⟩
    exact ⟨_, rfl, OwnR.nil _ _ _, fun k hk => (by cases hk), Below.refl _ _⟩
  | some a =>
    refine (Tryz.bytes_Clone_at a l.length cap (Lib.numsL l) w (Lib.numsL_length l) hl fun i hi => ?_).mono ?_
    · rw [hc a rfl i l[i] (List.getElem?_eq_getElem hi)]
      simp [Lib.numsL, List.getD, List.getElem?_map, List.getElem?_eq_getElem hi]
    · rintro e w' ⟨v, rfl, hown, _, hb⟩
      have e1 : (Lib.numsL l).map (Value.int .u8) = bytesV l := by simp [Lib.numsL, bytesV]
      rw [e1] at hown
      exact ⟨v, rfl, OwnR.of_kit hown, fun k hk => OwnR.block_ge hown hk, hb⟩
end Go.Proofs.YtogdfkilhpkloaaGreatDoor

namespace Go.Sat
open Go

section
variable {P : Program} {l : List Oper} {Q : Exit → Act → World → Prop} {md : Region.Mode} {S : World → Prop} {fuel : Nat} {listed : Array Bool} {a : Act} {w : World}

theorem ord_get {i : Nat} {o : Oper} {r : List Oper} (h : l.drop i = o :: r) : l.toArray[i]? = some o := by
  have := List.getElem?_drop (xs := l) (i := i) (j := 0)
  rw [h] at this
  simpa using this.symm

/-- The beginning. -/
theorem ord_start (S : World → Prop) {id n : Nat} (hm : P.follows .mixedOrders = true) (hn : l.length = n) (hS : S w.drew) (h : S w.drew → wpAnyH P .any l.toArray Q S n (Array.replicate n false) a w.drew) : (Code.region id l.toArray true).wp P Q a w := by
  subst hn
  exact wp_region_held_drew hm hS (by simpa using h)

/-- Number i is not wanted. -/
theorem ord_skip (i : Nat) {o : Oper} {r : List Oper} (hd : l.drop i = o :: r) (hs : Region.noSelect l.toArray = true) (hf : Region.free md l.toArray listed i = true) (hr : (Region.ready md l.toArray listed).contains i = true)
    (hQ : ∀ c a w, Q (.panic c) (a.put o.dst undef) w → Q (.panic c) a w) (hw : Region.wanted o (yielded l.toArray a.tmps) = false) (hS : S w)
    (h : wpAnyH P md l.toArray Q S fuel (listed.setIfInBounds i true) (a.put o.dst undef) w) : wpAnyH P md l.toArray Q S (fuel + 1) listed a w :=
  wpAnyH_take (ord_get hd) hs hf hr hQ (.inr ⟨hw, rfl⟩) hS h

/-- Number i yields its value, in every world that meets S. -/
theorem ord_take (i : Nat) {o : Oper} {r : List Oper} {v : Value} (hd : l.drop i = o :: r) (hs : Region.noSelect l.toArray = true) (hf : Region.free md l.toArray listed i = true) (hr : (Region.ready md l.toArray listed).contains i = true)
    (hQ : ∀ c a w, Q (.panic c) (a.put o.dst v) w → Q (.panic c) a w) (hw : Region.wanted o (yielded l.toArray a.tmps) = true) (hS : S w) (hy : ∀ w, S w → (execOp a.eval o).run P w = .ok (.value v) w)
    (h : wpAnyH P md l.toArray Q S fuel (listed.setIfInBounds i true) (a.put o.dst v) w) : wpAnyH P md l.toArray Q S (fuel + 1) listed a w :=
  wpAnyH_take (ord_get hd) hs hf hr hQ (.inl ⟨hw, hy⟩) hS h

/-- Number i alone may come up. -/
theorem ord_one (i : Nat) {o : Oper} {r : List Oper} (hd : l.drop i = o :: r) (hr : Region.ready md l.toArray listed = [i]) (hw : Region.wanted o (yielded l.toArray a.tmps) = true)
    (h : ∀ K : Act → World → Prop, Shut (∀ a w, S w → (S w → wpAnyH P md l.toArray Q S fuel (listed.setIfInBounds i true) a w) → K a w) → Oper.wp P o a w K Q) : wpAnyH P md l.toArray Q S (fuel + 1) listed a w :=
  wpAnyH_ready hr (by simp) (AllReadyH.cons (ord_get hd) (fun K hK => by rw [if_pos hw]; exact h K hK) AllReadyH.nil)

/-- append, at an operation. -/
theorem wp_app {o : Oper} {K : Act → World → Prop} (s x : Operand) (t : TypeId)
    (ho : o.op = .call { callee := .builtin .append, args := #[s, x], argTypes := #[t, t] })
    (e : TypeId) (i : TypeInfo) (z : Value) (size bytes : Nat) (ht : P.underlying t = some (.slice e)) (hi : P.info? e = some i) (hz : i.zero = some z)
    (hsize : i.size = size) (hby : i.bytes = bytes) (hzs : z.cells.size = size) (hsz : 0 < size)
    (v : Value) (n : Nat) (xs : List Value) (hs : a.eval s = v) (hown : OwnR w e size v n xs)
    (xv : Value) (m : Nat) (news : List Value) (hxv : a.eval x = xv) (hx : Holds w size xv m news) (h1 : ∀ u ∈ news, u.oneCell' = true)
    (h63 : n + m ≤ maxLen) (hbytes : (n + m) * bytes ≤ 140737488355328)
    (h : ∀ v' w', OwnR w' e size v' (n + m) (xs ++ news) → w.grownBy w' v.ownBlock → (v'.ownBlock = v.ownBlock ∨ ∃ g, v'.ownBlock = some g ∧ w.heap.size ≤ g) → K (a.put o.dst v') w') : Oper.wp P o a w K Q := by
  obtain ⟨v', w', hr, h2, h3, h4⟩ := run_app (P := P) w t o.type e i z size bytes ht hi hz hsize hby hzs hsz v n xs hown xv m news hx h1 h63 hbytes
  unfold Oper.wp execOp
  simp only [ho, resolve, invoke, builtin, Sem.run_bind, Sem.run_pure, Result.andThen_ok, List.map_toArray, List.map_cons, List.map_nil, hs, hxv, hr]
  exact h v' w' h2 h3 h4
end
end Go.Sat

namespace Go.Sat
open Go

/-- None of the writers has come up. -/
def calm (xs : List Nat) (listed : Array Bool) : Bool := xs.all fun x => !listed.getD x true

theorem calm_set {xs : List Nat} {listed : Array Bool} {i : Nat} (h : i ∉ xs) : calm xs (listed.setIfInBounds i true) = calm xs listed := by
  unfold calm
  rw [Bool.eq_iff_iff, List.all_eq_true, List.all_eq_true]
  have e : ∀ x ∈ xs, (listed.setIfInBounds i true).getD x true = listed.getD x true := fun x hx => getD_set_ne true fun e => h (e ▸ hx)
  exact ⟨fun H x hx => by rw [← e x hx]; exact H x hx, fun H x hx => by rw [e x hx]; exact H x hx⟩

/-- Each writer waits for number i. -/
def waits (md : Region.Mode) (ops : Array Oper) (xs : List Nat) (i : Nat) : Bool :=
  xs.all fun x => match ops[x]? with
    | some o => o.after.any fun e => Region.binds md e && e.on == i
    | none => true

section
variable {P : Program} {ops : Array Oper} {Q : Exit → Act → World → Prop} {md : Region.Mode} {xs : List Nat} {S : World → Prop}

def wpAnyG (P : Program) (md : Region.Mode) (ops : Array Oper) (Q : Exit → Act → World → Prop) (xs : List Nat) (S : World → Prop) : Nat → Array Bool → Act → World → Prop
  | 0, listed, a, w => Region.ready md ops listed = [] ∧ Q .normal a w
  | n + 1, listed, a, w => (Region.ready md ops listed = [] → Q .normal a w) ∧
      ∀ i ∈ Region.ready md ops listed, wpOp P ops Q i (fun b v => (calm xs (listed.setIfInBounds i true) = true → S v) ∧ wpAnyG P md ops Q xs S n (listed.setIfInBounds i true) b v) a w

theorem any_of_G : ∀ (n : Nat) (listed : Array Bool) (a : Act) (w : World), wpAnyG P md ops Q xs S n listed a w → wpAny P md ops Q n listed a w
  | 0, _, _, _, h => h
  | n + 1, _, _, _, h => ⟨h.1, fun i hi => wpOp_mono (fun b v hb => any_of_G n _ b v hb.2) (h.2 i hi)⟩

theorem G_first {i : Nat} {oi : Oper} {v : Value} {T : World → Prop} (hi : ops[i]? = some oi) (hsel : ∀ (j : Nat) (o : Oper) cs b, ops[j]? = some o → o.op ≠ .select cs b)
    (hQ : ∀ c a w, Q (.panic c) (a.put oi.dst v) w → Q (.panic c) a w) (hix : i ∉ xs) (hT : (∀ w, T w) ∨ (waits md ops xs i = true ∧ ∀ w, S w → T w)) :
    ∀ (n : Nat) (listed : Array Bool) (a : Act) (w : World),
      (∀ j oj, ops[j]? = some oj → j ≠ i → listed.getD j true = false → (∀ e ∈ oj.after, Region.binds md e = true → e.on ≠ i) → oi.apart ops oj = true) →
      i ∈ Region.ready md ops listed → YieldsIf P ops T oi v a → T w → (calm xs listed = true → S w) → ((∀ w, T w) ∨ calm xs listed = true) →
      wpAnyG P md ops Q xs S n (listed.setIfInBounds i true) (a.put oi.dst v) w → wpAnyG P md ops Q xs S (n + 1) listed a w := by
  intro n
  induction n with
  | zero =>
    intro listed a w _ hr hy hTw hSw _ H
    refine ⟨fun e => absurd (e ▸ hr) (by simp), fun j hj => ?_⟩
    by_cases e : j = i
    · subst e
      exact hy.wpOp hi hTw ⟨fun hc => hSw (by rwa [calm_set hix] at hc), H⟩
    · have h0 := ready_mono hj e
      rw [H.1] at h0
      cases h0
  | succ n ih =>
    intro listed a w hfree hr hy hTw hSw hcm H
    refine ⟨fun e => absurd (e ▸ hr) (by simp), fun j hj => ?_⟩
    by_cases e : j = i
    · subst e
      exact hy.wpOp hi hTw ⟨fun hc => hSw (by rwa [calm_set hix] at hc), H⟩
    · have h1 := H.2 j (ready_mono hj e)
      obtain ⟨hjun, oj, hoj, hall⟩ := mem_ready.1 hj
      have hnot : ∀ e ∈ oj.after, Region.binds md e = true → e.on ≠ i := fun e he hb heq => by
        have h1 := hall e he hb
        have h0 := (mem_ready.1 hr).1
        rw [heq] at h1
        rcases Nat.lt_or_ge i listed.size with h' | h'
        · simp [h'] at h0 h1
          rw [h0] at h1
          cases h1
        · simp [Array.getElem?_eq_none h'] at h1
      have hjx : ((∀ w, T w) ∨ (j ∉ xs ∧ ∀ w, S w → T w)) := by
        rcases hT with h | ⟨h, hST⟩
        · exact .inl h
        · refine .inr ⟨fun hx => ?_, hST⟩
          have h3 := List.all_eq_true.1 h j hx
          rw [hoj] at h3
          obtain ⟨e, he, hb⟩ := Array.any_eq_true'.1 h3
          rw [Bool.and_eq_true] at hb
          exact hnot e he hb.1 (by simpa using hb.2)
      have h2 := wpOp_putIf hoj (hfree j oj hoj e hjun hnot) (fun cs b => hsel i oi cs b hi) (fun cs b => hsel j oj cs b hoj) hQ hy h1
      have hfree' : ∀ k ok, ops[k]? = some ok → k ≠ i → (listed.setIfInBounds j true).getD k true = false →
          (∀ e ∈ ok.after, Region.binds md e = true → e.on ≠ i) → oi.apart ops ok = true := fun k ok hk hki hun hno => by
        refine hfree k ok hk hki ?_ hno
        by_cases hjk : j = k
        · subst hjk
          exact hjun
        · rw [getD_set_ne true hjk] at hun
          exact hun
      have hcc : calm xs ((listed.setIfInBounds i true).setIfInBounds j true) = calm xs (listed.setIfInBounds j true) := by
        rw [Array.setIfInBounds_comm _ _ (Ne.symm e), calm_set hix]
      refine wpOp_mono (fun b u h3 => ?_) h2
      have hSu : calm xs (listed.setIfInBounds j true) = true → S u := fun hc => h3.2.1 (by rw [hcc]; exact hc)
      have hnx : (∀ w, T w) ∨ calm xs (listed.setIfInBounds j true) = true := by
        rcases hjx with h | ⟨h, -⟩
        · exact .inl h
        · rcases hcm with h' | h'
          · exact .inl h'
          · exact .inr (by rw [calm_set h]; exact h')
      refine ⟨hSu, ih (listed.setIfInBounds j true) b u hfree' (ready_mono hr (Ne.symm e)) h3.1 ?_ hSu hnx ?_⟩
      · rcases hjx with h | ⟨-, hST⟩
        · exact h u
        · rcases hnx with h' | h'
          · exact h' u
          · exact hST u (hSu h')
      · rw [Array.setIfInBounds_comm _ _ e]
        exact h3.2.2

variable {l : List Oper} {fuel : Nat} {listed : Array Bool} {a : Act} {w : World}

/-- The beginning. -/
theorem g_start (xs : List Nat) (S : World → Prop) {id n : Nat} (hm : P.follows .mixedOrders = true) (hn : l.length = n) (hS : S w.drew) (h : S w.drew → wpAnyG P .any l.toArray Q xs S n (Array.replicate n false) a w.drew) : (Code.region id l.toArray true).wp P Q a w := by
  subst hn
  exact wp_region_any hm (any_of_G _ _ _ _ (by have := h hS; simpa using this))

/-- Number i loads: ahead of the writers. -/
theorem g_take (i : Nat) {o : Oper} {r : List Oper} {v : Value} (hd : l.drop i = o :: r) (hs : Region.noSelect l.toArray = true) (hf : Region.free md l.toArray listed i = true) (hr : (Region.ready md l.toArray listed).contains i = true)
    (hx : (!xs.contains i && waits md l.toArray xs i && calm xs listed) = true)
    (hQ : ∀ c a w, Q (.panic c) (a.put o.dst v) w → Q (.panic c) a w) (hw : Region.wanted o (yielded l.toArray a.tmps) = true) (hS : S w) (hy : ∀ w, S w → (execOp a.eval o).run P w = .ok (.value v) w)
    (h : wpAnyG P md l.toArray Q xs S fuel (listed.setIfInBounds i true) (a.put o.dst v) w) : wpAnyG P md l.toArray Q xs S (fuel + 1) listed a w := by
  simp only [Bool.and_eq_true, Bool.not_eq_true', List.contains_eq_mem, decide_eq_false_iff_not] at hx
  exact G_first (T := S) (ord_get hd) (Region.noSelect_spec hs) hQ hx.1.1 (.inr ⟨hx.1.2, fun _ h => h⟩) fuel listed a w (Region.free_spec (ord_get hd) hf) (by simpa using hr) (.inl ⟨hw, hy⟩) hS (fun _ => hS) (.inr hx.2) h

/-- The same while S still holds. -/
theorem g_pure0 (i : Nat) {o : Oper} {r : List Oper} {v : Value} (hd : l.drop i = o :: r) (hs : Region.noSelect l.toArray = true) (hf : Region.free md l.toArray listed i = true) (hr : (Region.ready md l.toArray listed).contains i = true)
    (hx : (!xs.contains i) = true)
    (hQ : ∀ c a w, Q (.panic c) (a.put o.dst v) w → Q (.panic c) a w) (hw : Region.wanted o (yielded l.toArray a.tmps) = true) (hS : S w) (hy : ∀ w, (execOp a.eval o).run P w = .ok (.value v) w)
    (h : wpAnyG P md l.toArray Q xs S fuel (listed.setIfInBounds i true) (a.put o.dst v) w) : wpAnyG P md l.toArray Q xs S (fuel + 1) listed a w := by
  simp only [Bool.not_eq_true', List.contains_eq_mem, decide_eq_false_iff_not] at hx
  exact G_first (T := fun _ => True) (ord_get hd) (Region.noSelect_spec hs) hQ hx (.inl fun _ => trivial) fuel listed a w (Region.free_spec (ord_get hd) hf) (by simpa using hr) (.inl ⟨hw, fun w _ => hy w⟩) trivial (fun _ => hS) (.inl fun _ => trivial) h

/-- Number i alone may come up; S is kept. -/
theorem g_one (i : Nat) {o : Oper} {r : List Oper} (hd : l.drop i = o :: r) (hr : Region.ready md l.toArray listed = [i]) (hw : Region.wanted o (yielded l.toArray a.tmps) = true)
    (h : ∀ K : Act → World → Prop, Shut (∀ a w, S w → (S w → wpAnyG P md l.toArray Q xs S fuel (listed.setIfInBounds i true) a w) → K a w) → Oper.wp P o a w K Q) : wpAnyG P md l.toArray Q xs S (fuel + 1) listed a w := by
  refine ⟨fun e => (by rw [hr] at e; cases e), fun j hj => ?_⟩
  rw [hr] at hj
  obtain rfl : j = i := by simpa using hj
  exact wpOp_step (ord_get hd) fun K hK => by
    rw [if_pos hw]
    exact h K fun b v hS hW => hK b v ⟨fun _ => hS, hW hS⟩

/-- Number i alone may come up; S is gone behind it. -/
theorem g_end (i : Nat) {o : Oper} {r : List Oper} (hd : l.drop i = o :: r) (hr : Region.ready md l.toArray listed = [i]) (hw : Region.wanted o (yielded l.toArray a.tmps) = true) (hx : calm xs (listed.setIfInBounds i true) = false)
    (h : ∀ K : Act → World → Prop, Shut (∀ a w, wpAnyG P md l.toArray Q xs S fuel (listed.setIfInBounds i true) a w → K a w) → Oper.wp P o a w K Q) : wpAnyG P md l.toArray Q xs S (fuel + 1) listed a w := by
  refine ⟨fun e => (by rw [hr] at e; cases e), fun j hj => ?_⟩
  rw [hr] at hj
  obtain rfl : j = i := by simpa using hj
  exact wpOp_step (ord_get hd) fun K hK => by
    rw [if_pos hw]
    exact h K fun b v hW => hK b v ⟨fun hc => (by rw [hx] at hc; cases hc), hW⟩

/-- All have come up. -/
theorem g_done (hr : Region.ready md l.toArray listed = []) (h : Q .normal a w) : ∀ fuel, wpAnyG P md l.toArray Q xs S fuel listed a w
  | 0 => ⟨hr, h⟩
  | _ + 1 => ⟨fun _ => h, by rw [hr]; simp⟩
end
end Go.Sat

namespace Go.Sat
open Go

section
variable {P : Program} {l : List Oper} {Q : Exit → Act → World → Prop} {md : Region.Mode} {S : World → Prop} {fuel : Nat} {listed : Array Bool} {a : Act} {w : World}

theorem uA {α : Type} {l : List α} {i : Nat} {a : α} : l.toArray.setIfInBounds i a = (l.set i a).toArray := List.setIfInBounds_toArray _ _ _
theorem uB {α : Type} {x : α} {xs : List α} {a : α} : (x :: xs).set 0 a = a :: xs := List.set_cons_zero
theorem uC {α : Type} {x : α} {xs : List α} {i : Nat} {a : α} : (x :: xs).set (i + 1) a = x :: xs.set i a := List.set_cons_succ
/-- What is to be taken, in this order. -/
def wpPlan (P : Program) (md : Region.Mode) (l : List Oper) (Q : Exit → Act → World → Prop) (S : World → Prop) (fuel : Nat) (listed : Array Bool) (a : Act) (w : World) (_ : List Nat) : Prop := wpAnyH P md l.toArray Q S fuel listed a w
theorem Pl (is : List Nat) (h : wpPlan P md l Q S fuel listed a w is) : wpAnyH P md l.toArray Q S fuel listed a w := h
theorem Pn (h : wpAnyH P md l.toArray Q S fuel listed a w) : wpPlan P md l Q S fuel listed a w [] := h
theorem Pc {i : Nat} {is : List Nat} {o : Oper} {r : List Oper} {v : Value} (hd : l.drop i = o :: r) (h : wpPlan P md l Q S fuel (listed.setIfInBounds i true) (a.put o.dst v) w is)
    (hs : Region.noSelect l.toArray = true := by kernel_rfl) (hf : Region.free md l.toArray listed i = true := by kernel_rfl) (hr : (Region.ready md l.toArray listed).contains i = true := by kernel_rfl)
    (hQ : ∀ c a w, Q (.panic c) (a.put o.dst v) w → Q (.panic c) a w := by exact fun _ _ _ h => h) (hw : Region.wanted o (yielded l.toArray a.tmps) = true := by rfl) (hS : S w := by first | assumption | trivial)
    (hy : ∀ w, S w → (execOp a.eval o).run P w = .ok (.value v) w := by (intro w hSw; (try dsimp only at hSw); go_simp; first | done | with_reducible rfl | (rw [if_neg (by omega)]; try with_reducible rfl))) : wpPlan P md l Q S (fuel + 1) listed a w (i :: is) :=
  ord_take i hd hs hf hr hQ hw hS hy h
def wpPlanG (P : Program) (md : Region.Mode) (l : List Oper) (Q : Exit → Act → World → Prop) (xs : List Nat) (S : World → Prop) (fuel : Nat) (listed : Array Bool) (a : Act) (w : World) (_ : List Nat) : Prop := wpAnyG P md l.toArray Q xs S fuel listed a w
theorem Gl {xs : List Nat} (is : List Nat) (h : wpPlanG P md l Q xs S fuel listed a w is) : wpAnyG P md l.toArray Q xs S fuel listed a w := h
theorem Gn {xs : List Nat} (h : wpAnyG P md l.toArray Q xs S fuel listed a w) : wpPlanG P md l Q xs S fuel listed a w [] := h
theorem Gp {xs : List Nat} {i : Nat} {is : List Nat} {o : Oper} {r : List Oper} {v : Value} (hd : l.drop i = o :: r) (h : wpPlanG P md l Q xs S fuel (listed.setIfInBounds i true) (a.put o.dst v) w is)
    (hs : Region.noSelect l.toArray = true := by kernel_rfl) (hf : Region.free md l.toArray listed i = true := by kernel_rfl) (hr : (Region.ready md l.toArray listed).contains i = true := by kernel_rfl)
    (hx : (!xs.contains i) = true := by kernel_rfl) (hQ : ∀ c a w, Q (.panic c) (a.put o.dst v) w → Q (.panic c) a w := by exact fun _ _ _ h => h) (hw : Region.wanted o (yielded l.toArray a.tmps) = true := by rfl) (hS : S w := by assumption)
    (hy : ∀ w, (execOp a.eval o).run P w = .ok (.value v) w := by (intro w; go_simp; try with_reducible rfl)) : wpPlanG P md l Q xs S (fuel + 1) listed a w (i :: is) :=
  g_pure0 i hd hs hf hr hx hQ hw hS hy h
theorem Pd {i : Nat} {is : List Nat} {o : Oper} {r : List Oper} {v : Value} (hd : l.drop i = o :: r) (hy : ∀ w, S w → (execOp a.eval o).run P w = .ok (.value v) w) (h : wpPlan P md l Q S fuel (listed.setIfInBounds i true) (a.put o.dst v) w is)
    (hs : Region.noSelect l.toArray = true := by kernel_rfl) (hf : Region.free md l.toArray listed i = true := by kernel_rfl) (hr : (Region.ready md l.toArray listed).contains i = true := by kernel_rfl)
    (hQ : ∀ c a w, Q (.panic c) (a.put o.dst v) w → Q (.panic c) a w := by exact fun _ _ _ h => h) (hw : Region.wanted o (yielded l.toArray a.tmps) = true := by rfl) (hS : S w := by first | assumption | trivial) : wpPlan P md l Q S (fuel + 1) listed a w (i :: is) :=
  ord_take i hd hs hf hr hQ hw hS hy h
theorem Ps {i : Nat} {is : List Nat} {o : Oper} {r : List Oper} (hd : l.drop i = o :: r) (h : wpPlan P md l Q S fuel (listed.setIfInBounds i true) (a.put o.dst undef) w is)
    (hs : Region.noSelect l.toArray = true := by kernel_rfl) (hf : Region.free md l.toArray listed i = true := by kernel_rfl) (hr : (Region.ready md l.toArray listed).contains i = true := by kernel_rfl)
    (hQ : ∀ c a w, Q (.panic c) (a.put o.dst undef) w → Q (.panic c) a w := by exact fun _ _ _ h => h) (hw : Region.wanted o (yielded l.toArray a.tmps) = false := by rfl) (hS : S w := by first | assumption | trivial) : wpPlan P md l Q S (fuel + 1) listed a w (i :: is) :=
  ord_skip i hd hs hf hr hQ hw hS h
theorem Gd {xs : List Nat} {i : Nat} {is : List Nat} {o : Oper} {r : List Oper} {v : Value} (hd : l.drop i = o :: r) (hy : ∀ w, S w → (execOp a.eval o).run P w = .ok (.value v) w) (h : wpPlanG P md l Q xs S fuel (listed.setIfInBounds i true) (a.put o.dst v) w is)
    (hs : Region.noSelect l.toArray = true := by kernel_rfl) (hf : Region.free md l.toArray listed i = true := by kernel_rfl) (hr : (Region.ready md l.toArray listed).contains i = true := by kernel_rfl)
    (hx : (!xs.contains i && waits md l.toArray xs i && calm xs listed) = true := by kernel_rfl) (hQ : ∀ c a w, Q (.panic c) (a.put o.dst v) w → Q (.panic c) a w := by exact fun _ _ _ h => h) (hw : Region.wanted o (yielded l.toArray a.tmps) = true := by rfl) (hS : S w := by assumption) : wpPlanG P md l Q xs S (fuel + 1) listed a w (i :: is) :=
  g_take i hd hs hf hr hx hQ hw hS hy h
end
end Go.Sat

namespace Go.Sat
open Go Go.RowKit
/-- Two may come up. -/
theorem ord_pair {P : Program} {l : List Oper} {Q : Exit → Act → World → Prop} {md : Region.Mode} {S : World → Prop} {fuel : Nat} {listed : Array Bool} {a : Act} {w : World} (i j : Nat) {oi oj : Oper} {ri rj : List Oper} (hdi : l.drop i = oi :: ri) (hdj : l.drop j = oj :: rj) (hr : Region.ready md l.toArray listed = [i, j])
    (hwi : Region.wanted oi (yielded l.toArray a.tmps) = true) (hwj : Region.wanted oj (yielded l.toArray a.tmps) = true)
    (hi : ∀ K : Act → World → Prop, Shut (∀ a w, S w → (S w → wpAnyH P md l.toArray Q S fuel (listed.setIfInBounds i true) a w) → K a w) → Oper.wp P oi a w K Q)
    (hj : ∀ K : Act → World → Prop, Shut (∀ a w, S w → (S w → wpAnyH P md l.toArray Q S fuel (listed.setIfInBounds j true) a w) → K a w) → Oper.wp P oj a w K Q) : wpAnyH P md l.toArray Q S (fuel + 1) listed a w :=
  wpAnyH_ready hr (by simp) (AllReadyH.cons (ord_get hdi) (fun K hK => by rw [if_pos hwi]; exact hi K hK) (AllReadyH.cons (ord_get hdj) (fun K hK => by rw [if_pos hwj]; exact hj K hK) AllReadyH.nil))
/-- An append at an operation of a region that draws. -/
theorem wp_appP {P : Program} {o : Oper} {K : Act → World → Prop} {Q : Exit → Act → World → Prop} {a : Act} {w : World} (s x : Operand) (t : TypeId)
    (ho : o.op = .call { callee := .builtin .append, args := #[s, x], argTypes := #[t, t] })
    (e : TypeId) (i : TypeInfo) (z : Value) (size bytes : Nat) (ht : P.underlying t = some (.slice e)) (hi : P.info? e = some i) (hz : i.zero = some z)
    (hsize : i.size = size) (hby : i.bytes = bytes) (hzs : z.cells.size = size) (hsz : 0 < size)
    (v : Value) (n : Nat) (xs : List Value) (hs : a.eval s = v) (hown : OwnR w e size v n xs)
    (xv : Value) (m : Nat) (news : List Value) (hxv : a.eval x = xv) (hx : Holds w size xv m news) (h1 : ∀ u ∈ news, u.oneCell' = true)
    (h63 : n + m ≤ maxLen) (hbytes : (n + m) * bytes ≤ 140737488355328)
    (h : ∀ v' w', OwnR w' e size v' (n + m) (xs ++ news) → w.grownBy w' v.ownBlock → (v'.ownBlock = v.ownBlock ∨ ∃ g, v'.ownBlock = some g ∧ w.heap.size ≤ g) → K (a.put o.dst v') w') : Oper.wp P o a w K Q := by
  obtain ⟨v', w', hr, h2, h3, h4⟩ := run_app (P := P) w t o.type e i z size bytes ht hi hz hsize hby hzs hsz v n xs hown xv m news hx h1 h63 hbytes
  unfold Oper.wp execOp
  simp only [ho, resolve, invoke, builtin, Sem.run_bind, Sem.run_pure, Result.andThen_ok, List.map_toArray, List.map_cons, List.map_nil, hs, hxv, hr]
  exact h v' w' h2 h3 h4
end Go.Sat

namespace Go.Sat
open Go Go.RowKit
theorem range_of {w : World} {b : Nat} {L : List Value} {t : TypeId} {fr : Nat × Nat} (h : w.heap[b]? = some (.cells L.toArray t fr)) : w.rangeAt b 0 L := fun j v hj => by
  rw [Nat.zero_add]
  exact cell_of h (by simpa using hj)
theorem run_storeVar_list {P : Program} {w : World} {b : Nat} {t ty : TypeId} {cs : Array Value} {L : List Value} (h : w.heap[b]? = some (.cells cs t (0, 0))) (hl : cs.size = L.length) (hi : (P.info? ty).map (·.size) = some L.length) (h1 : ∀ v ∈ L, v.oneCell' = true) :
    ∃ w', (storeVar ty ⟨b, 0, none⟩ (.agg L.toArray)).run P w = .ok () w' ∧ w'.heap[b]? = some (.cells L.toArray t (0, 0)) ∧ Chg (fun k => k = b) w w' := by
  refine ⟨w.setRow b L.toArray, run_storeVar_row w b t ty cs L.toArray h (by simpa using hi) (by simpa using hl) (all_oneCell_toArray h1), ?_, rfl, rfl, rfl, ?_, fun k hk hne => ?_⟩
  · simp only [World.setRow]
    rw [Array.getElem?_modify, if_pos rfl, h]
    rfl
  · simp [World.setRow]
  · simp only [World.setRow]
    rw [Array.getElem?_modify, if_neg fun e => hne e.symm]
section
variable {P : Program} {ops : Array Oper} {rest : List Oper} {op : Oper} {a : Act} {w : World} {Q : Exit → Act → World → Prop}
/-- A whole struct is loaded. -/
theorem bload (hw : Region.wanted op (yielded ops a.tmps) = true) (ty : TypeId) (x : Operand) (ho : op.op = .load ty x) (b : Nat) (hx : a.eval x = .pointer (some ⟨b, 0, none⟩)) {L : List Value} {t : TypeId} {fr : Nat × Nat} (hb : w.heap[b]? = some (.cells L.toArray t fr)) {d : TypeDesc}
    (hu : P.underlying ty = some d) (hd : d.isRow = true) (hi : (P.info? ty).map (·.size) = some L.length) (h : wpList P ops Q rest (a.put op.dst (.agg L.toArray)) w) : wpList P ops Q (op :: rest) a w :=
  BigFrame.wpList_want hw fun _ hK => wp_load_mid ty x ho b 0 hx L d (range_of hb) hu hd hi (hK _ _ h)
/-- A whole struct is stored. -/
theorem bstore (hw : Region.wanted op (yielded ops a.tmps) = true) (ty : TypeId) (x y : Operand) (ho : op.op = .store ty x y) (b : Nat) (hx : a.eval x = .pointer (some ⟨b, 0, none⟩)) {L : List Value} (hy : a.eval y = .agg L.toArray) {cs : Array Value} {t : TypeId} (hb : w.heap[b]? = some (.cells cs t (0, 0)))
    (hl : cs.size = L.length) (hi : (P.info? ty).map (·.size) = some L.length) (h1 : ∀ v ∈ L, v.oneCell' = true) (h : ∀ w', w'.heap[b]? = some (.cells L.toArray t (0, 0)) → Chg (fun k => k = b) w w' → wpList P ops Q rest (a.put op.dst undef) w') : wpList P ops Q (op :: rest) a w := by
  obtain ⟨w', hr, h2, h3⟩ := run_storeVar_list (P := P) (ty := ty) hb hl hi h1
  refine BigFrame.wpList_want hw fun K hK => ?_
  unfold Oper.wp execOp
  simp only [ho, hx, hy, Instr.storeAt, Instr.sureAddr, Sem.run_bind, Sem.run_pure, Result.andThen_ok, hr]
  exact hK _ _ (h w' h2 h3)
/-- A variable of a struct's type is made. -/
theorem balloc (hw : Region.wanted op (yielded ops a.tmps) = true) (ty : TypeId) (ho : op.op = .alloc ty) {z : Value} (hz : (zeroValue ty).run P w = .ok z w) (hs : z.cells.size ≠ 0)
    (h : ∀ w', w'.heap[w.heap.size]? = some (.cells z.cells ty (0, 0)) → Below w.heap.size w w' → w'.heap.size = w.heap.size + 1 → wpList P ops Q rest (a.put op.dst (.pointer (some ⟨w.heap.size, 0, none⟩))) w') : wpList P ops Q (op :: rest) a w := by
  refine BigFrame.wpList_want hw fun K hK => ?_
  unfold Oper.wp execOp
  simp only [ho, Instr.alloc, newVar, newRow, Sem.run_bind, Sem.run_pure, Result.andThen_ok, hz, run_newObj_alloc]
  exact hK _ _ (h _ (new_block w _) ((Below.refl _ _).alloc (Nat.le_refl _) _) (by simp))
/-- A value goes into a block of its own. -/
theorem bbox (hw : Region.wanted op (yielded ops a.tmps) = true) (ty : TypeId) (x : Operand) (ho : op.op = .box ty x) {L : List Value} (hx : a.eval x = .agg L.toArray)
    (h : ∀ w', w'.heap[w.heap.size]? = some (.cells L.toArray ty (0, 0)) → Below w.heap.size w w' → w'.heap.size = w.heap.size + 1 → wpList P ops Q rest (a.put op.dst (.pointer (some ⟨w.heap.size, 0, none⟩))) w') : wpList P ops Q (op :: rest) a w := by
  refine BigFrame.wpList_want hw fun K hK => ?_
  unfold Oper.wp execOp
  simp only [ho, hx, Instr.box, newVar, newRow, Value.cells, Sem.run_bind, Sem.run_pure, Result.andThen_ok, run_newObj_alloc]
  exact hK _ _ (h _ (new_block w _) ((Below.refl _ _).alloc (Nat.le_refl _) _) (by simp))
/-- A struct is built. -/
theorem bbuild (hw : Region.wanted op (yielded ops a.tmps) = true) (t : TypeId) (parts : Array (Nat × Operand)) (ho : op.op = .build t parts) {v : Value} (hr : (Instr.build t (parts.map fun p => (p.1, a.eval p.2))).run P w = .ok v w) (h : wpList P ops Q rest (a.put op.dst v) w) : wpList P ops Q (op :: rest) a w := by
  refine BigFrame.wpList_want hw fun K hK => ?_
  unfold Oper.wp execOp
  simp only [ho, Sem.run_bind, Sem.run_pure, Result.andThen_ok, hr]
  exact hK _ _ h
end
/-- A value goes into the cells from place o of a block on. -/
theorem bstoreAt {P : Program} {ops : Array Oper} {rest : List Oper} {op : Oper} {a : Act} {w : World} {Q : Exit → Act → World → Prop} (hw : Region.wanted op (yielded ops a.tmps) = true) (ty : TypeId) (x y : Operand) (ho : op.op = .store ty x y) (b o : Nat) (hx : a.eval x = .pointer (some ⟨b, o, none⟩)) {v : Value} (hy : a.eval y = v) (L : List Value) (hv : v.cells = L.toArray) {cs : Array Value} {t : TypeId} (hb : w.heap[b]? = some (.cells cs t (0, 0)))
    (hl : o + L.length ≤ cs.size) (hi : (P.info? ty).map (·.size) = some L.length) (h1 : ∀ v ∈ L, v.oneCell' = true) (h : ∀ w', w'.heap[b]? = some (.cells (cs.toList.take o ++ L ++ cs.toList.drop (o + L.length)).toArray t (0, 0)) → Chg (fun k => k = b) w w' → wpList P ops Q rest (a.put op.dst undef) w') : wpList P ops Q (op :: rest) a w := by
  have hr := run_storeCells_at P b o t L 0 cs w hb (by simpa using hl) h1
  rw [Nat.add_zero] at hr
  have hs : (storeVar ty ⟨b, o, none⟩ v).run P w = .ok () (w.setRow b (cs.toList.take o ++ L ++ cs.toList.drop (o + L.length)).toArray) := by
    cases hq : P.info? ty with
    | none => simp [hq] at hi
    | some i =>
      have hz : i.size = L.length := by simpa [hq] using hi
      simp [storeVar, sizeOf, typeInfo, hq, hv, hz, hr]
  refine BigFrame.wpList_want hw fun K hK => ?_
  unfold Oper.wp execOp
  simp only [ho, hx, hy, Instr.storeAt, Instr.sureAddr, Sem.run_bind, Sem.run_pure, Result.andThen_ok, hs]
  refine hK _ _ (h _ ?_ ⟨rfl, rfl, rfl, ?_, fun k hk hne => ?_⟩)
  · simp only [World.setRow]
    rw [Array.getElem?_modify, if_pos rfl, hb]
    rfl
  · simp [World.setRow]
  · simp only [World.setRow]
    rw [Array.getElem?_modify, if_neg fun e => hne e.symm]
theorem set_blockL {w : World} {b : Nat} {L : List Value} {t : TypeId} (h : w.heap[b]? = some (.cells L.toArray t (0, 0))) (i : Nat) (v : Value) : (w.setCell ⟨b, i, none⟩ v).heap[b]? = some (.cells (L.set i v).toArray t (0, 0)) := by
  have := set_block h i v
  simpa using this
/-- A whole struct's load yields its cells. -/
theorem yload {P : Program} {o : Oper} {ev : Operand → Value} {w : World} (ty : TypeId) (x : Operand) (ho : o.op = .load ty x) {b : Nat} (hx : ev x = .pointer (some ⟨b, 0, none⟩)) {L : List Value} {t : TypeId} {fr : Nat × Nat} (hb : w.heap[b]? = some (.cells L.toArray t fr)) {d : TypeDesc}
    (hu : P.underlying ty = some d) (hd : d.isRow = true) (hi : (P.info? ty).map (·.size) = some L.length) : (execOp ev o).run P w = .ok (.value (.agg L.toArray)) w := by
  unfold execOp
  simp only [ho, hx, Instr.loadAt, Instr.sureAddr, Sem.run_bind, Sem.run_pure, Result.andThen_ok, run_loadVar_mid w b 0 ty L d (range_of hb) hu hd hi]
end Go.Sat

namespace Go.Sat
open Go Go.RowKit
theorem chgOne {w w1 w2 : World} {b : Nat} (h : Below w.heap.size w w1) (hc : Chg (fun k => k = b) w1 w2) (hb : w.heap.size ≤ b) : Below w.heap.size w w2 :=
  (((Chg.of_below h).mono fun _ _ e => e.elim : Chg (fun k => k = b) w w1).trans hc fun _ _ e => e).below (Nat.le_refl _) fun k hk e => by omega
section
variable {P : Program} {op : Oper} {a : Act} {w : World} {K : Act → World → Prop} {Q : Exit → Act → World → Prop}
theorem wp_bstore (ty : TypeId) (x y : Operand) (ho : op.op = .store ty x y) (b : Nat) (hx : a.eval x = .pointer (some ⟨b, 0, none⟩)) {L : List Value} (hy : a.eval y = .agg L.toArray) {cs : Array Value} {t : TypeId} (hb : w.heap[b]? = some (.cells cs t (0, 0)))
    (hl : cs.size = L.length) (hi : (P.info? ty).map (·.size) = some L.length) (h1 : ∀ v ∈ L, v.oneCell' = true) (h : ∀ w', w'.heap[b]? = some (.cells L.toArray t (0, 0)) → Chg (fun k => k = b) w w' → K (a.put op.dst undef) w') : op.wp P a w K Q := by
  obtain ⟨w', hr, h2, h3⟩ := run_storeVar_list (P := P) (ty := ty) hb hl hi h1
  unfold Oper.wp execOp
  simp only [ho, hx, hy, Instr.storeAt, Instr.sureAddr, Sem.run_bind, Sem.run_pure, Result.andThen_ok, hr]
  exact h w' h2 h3
theorem wp_balloc (ty : TypeId) (ho : op.op = .alloc ty) {z : Value} (hz : (zeroValue ty).run P w = .ok z w) (hs : z.cells.size ≠ 0)
    (h : ∀ w', w'.heap[w.heap.size]? = some (.cells z.cells ty (0, 0)) → Below w.heap.size w w' → w'.heap.size = w.heap.size + 1 → K (a.put op.dst (.pointer (some ⟨w.heap.size, 0, none⟩))) w') : op.wp P a w K Q := by
  unfold Oper.wp execOp
  simp only [ho, Instr.alloc, newVar, newRow, Sem.run_bind, Sem.run_pure, Result.andThen_ok, hz, run_newObj_alloc]
  exact h _ (new_block w _) ((Below.refl _ _).alloc (Nat.le_refl _) _) (by simp)
end
end Go.Sat

namespace Go.Sat
open Go Go.RowKit
theorem wpAnyH_more {P : Program} {md : Region.Mode} {ops : Array Oper} {Q : Exit → Act → World → Prop} {S S' : World → Prop} (hs : ∀ w, S' w → S w) :
    ∀ (fuel : Nat) (listed : Array Bool) (a : Act) (w : World), wpAnyH P md ops Q S' fuel listed a w → wpAnyH P md ops Q S fuel listed a w
  | 0, _, _, _, h => h
  | fuel + 1, _, _, _, h => ⟨h.1, fun i hi => wpOp_mono (fun a' w' h' => ⟨hs w' h'.1, wpAnyH_more hs fuel _ a' w' h'.2⟩) (h.2 i hi)⟩
/-- From here on S' holds. -/
theorem ord_more {P : Program} {md : Region.Mode} {ops : Array Oper} {Q : Exit → Act → World → Prop} {S : World → Prop} {fuel : Nat} {listed : Array Bool} {a : Act} {w : World} (S' : World → Prop) (hw : S' w) (hs : ∀ w, S' w → S w) (h : S' w → wpAnyH P md ops Q S' fuel listed a w) : wpAnyH P md ops Q S fuel listed a w := wpAnyH_more hs _ _ _ _ (h hw)
section
variable {P : Program} {op : Oper} {a : Act} {w : World} {K : Act → World → Prop} {Q : Exit → Act → World → Prop}
/-- A value goes into the cells from place o of a block on. -/
theorem wp_bstoreAt (ty : TypeId) (x y : Operand) (ho : op.op = .store ty x y) (b o : Nat) (hx : a.eval x = .pointer (some ⟨b, o, none⟩)) {v : Value} (hy : a.eval y = v) (L : List Value) (hv : v.cells = L.toArray) {cs : Array Value} {t : TypeId} (hb : w.heap[b]? = some (.cells cs t (0, 0)))
    (hl : o + L.length ≤ cs.size) (hi : (P.info? ty).map (·.size) = some L.length) (h1 : ∀ v ∈ L, v.oneCell' = true) (h : ∀ w', w'.heap[b]? = some (.cells (cs.toList.take o ++ L ++ cs.toList.drop (o + L.length)).toArray t (0, 0)) → Chg (fun k => k = b) w w' → K (a.put op.dst undef) w') : op.wp P a w K Q := by
  have hr := run_storeCells_at P b o t L 0 cs w hb (by simpa using hl) h1
  rw [Nat.add_zero] at hr
  have hs : (storeVar ty ⟨b, o, none⟩ v).run P w = .ok () (w.setRow b (cs.toList.take o ++ L ++ cs.toList.drop (o + L.length)).toArray) := by
    cases hq : P.info? ty with
    | none => simp [hq] at hi
    | some i =>
      have hz : i.size = L.length := by simpa [hq] using hi
      simp [storeVar, sizeOf, typeInfo, hq, hv, hz, hr]
  unfold Oper.wp execOp
  simp only [ho, hx, hy, Instr.storeAt, Instr.sureAddr, Sem.run_bind, Sem.run_pure, Result.andThen_ok, hs]
  refine h _ ?_ ⟨rfl, rfl, rfl, ?_, fun k hk hne => ?_⟩
  · simp only [World.setRow]
    rw [Array.getElem?_modify, if_pos rfl, hb]
    rfl
  · simp [World.setRow]
  · simp only [World.setRow]
    rw [Array.getElem?_modify, if_neg fun e => hne e.symm]
end
end Go.Sat

namespace Go.Sat

/-- A number as bytes. -/
def numB (n : Nat) : Bs := if n < 128 then [UInt8.ofNat n] else UInt8.ofNat (n % 128 + 128) :: numB (n / 128)
termination_by n
decreasing_by omega

/-- Any number as bytes. -/
def numI (v : Int) : Bs := numB (max 0 (min v 4611686018427387904)).toNat
def numsI (l : List Int) : Bs := (l.map numI).flatten
/-- Bytes, their length ahead of them. -/
def rowB (p : Bs) : Bs := numB p.length ++ p

theorem numB_small {n : Nat} (h : n < 128) : numB n = [UInt8.ofNat n] := by rw [numB, if_pos h]
theorem numB_more {n : Nat} (h : 128 ≤ n) : numB n = UInt8.ofNat (n % 128 + 128) :: numB (n / 128) := by rw [numB, if_neg (by omega)]
theorem numI_nat {n : Nat} (h : n ≤ 4611686018427387904) : numI (n : Int) = numB n := by
  unfold numI
  congr 1
  omega

theorem numB_len (n : Nat) : 1 ≤ (numB n).length := by
  rw [numB]
  split <;> simp

theorem numB_le (k : Nat) : ∀ n, n < 128 ^ (k + 1) → (numB n).length ≤ k + 1 := by
  induction k with
  | zero =>
    intro n h
    rw [numB_small (by simpa using h)]
    simp
  | succ k ih =>
    intro n h
    by_cases hn : n < 128
    · rw [numB_small hn]
      simp
    · rw [numB_more (by omega), List.length_cons]
      have := ih (n / 128) (by rw [Nat.div_lt_iff_lt_mul (by decide), ← Nat.pow_succ]; exact h)
      omega

theorem numB_nine {n : Nat} (h : n ≤ 4611686018427387904) : (numB n).length ≤ 9 := numB_le 8 n (Nat.lt_of_le_of_lt h (by decide))

/-- The number that bytes begin with, and what is behind it. -/
def numGo : Nat → Nat → Bs → Option (Nat × Bs)
  | _, _, [] => none
  | i, u, c :: r => if 9 ≤ i ∨ (0 < i ∧ c = 0) then none
    else if c.toNat < 128 then (if 4611686018427387904 < u + c.toNat * 128 ^ i then none else some (u + c.toNat * 128 ^ i, r))
    else numGo (i + 1) (u + c.toNat % 128 * 128 ^ i) r

theorem numGo_num (n : Nat) : ∀ (i u : Nat) (r : Bs), (0 < i → 0 < n) → u + n * 128 ^ i ≤ 4611686018427387904 → numGo i u (numB n ++ r) = some (u + n * 128 ^ i, r) := by
  induction n using Nat.strongRecOn with
  | ind n ih =>
    intro i u r h0 hm
    have hi : ¬ 9 ≤ i ∨ n = 0 := by
      by_cases hn : n = 0
      · exact .inr hn
      · refine .inl fun h9 => ?_
        have h1 : 128 ^ 9 ≤ 128 ^ i := Nat.pow_le_pow_right (by decide) h9
        have h2 : 1 * 128 ^ 9 ≤ n * 128 ^ i := Nat.mul_le_mul (by omega) h1
        have h3 : (128 : Nat) ^ 9 = 9223372036854775808 := by decide
        omega
    by_cases hn : n < 128
    · rw [numB_small hn]
      show (if _ then _ else _) = _
      have e : (UInt8.ofNat n).toNat = n := by rw [UInt8.toNat_ofNat']; omega
      have hc : ¬ (9 ≤ i ∨ (0 < i ∧ UInt8.ofNat n = 0)) := by
        rintro (h | ⟨h1, h2⟩)
        · rcases hi with h' | h'
          · exact h' h
          · have := h0 (by omega)
            omega
        · have h3 := congrArg UInt8.toNat h2
          rw [e] at h3
          have := h0 h1
          simp at h3
          omega
      rw [if_neg hc, e, if_pos hn, if_neg (by omega)]
      rfl
    · rw [numB_more (by omega)]
      show (if _ then _ else _) = _
      have e : (UInt8.ofNat (n % 128 + 128)).toNat = n % 128 + 128 := by rw [UInt8.toNat_ofNat']; omega
      have hc : ¬ (9 ≤ i ∨ (0 < i ∧ UInt8.ofNat (n % 128 + 128) = 0)) := by
        rintro (h | ⟨h1, h2⟩)
        · rcases hi with h' | h' <;> omega
        · have h3 := congrArg UInt8.toNat h2
          rw [e] at h3
          simp at h3
      rw [if_neg hc, e, if_neg (by omega)]
      have hs : u + (n % 128 + 128) % 128 * 128 ^ i + n / 128 * 128 ^ (i + 1) = u + n * 128 ^ i := by
        have h1 : n = n % 128 + 128 * (n / 128) := by omega
        have h2 : n * 128 ^ i = n % 128 * 128 ^ i + n / 128 * 128 ^ (i + 1) := by
          conv => lhs; rw [h1]
          rw [Nat.add_mul, Nat.pow_succ, Nat.mul_comm 128 (n / 128), Nat.mul_assoc, Nat.mul_comm 128 (128 ^ i)]
        rw [show (n % 128 + 128) % 128 = n % 128 by omega]
        omega
      have := ih (n / 128) (by omega) (i + 1) (u + (n % 128 + 128) % 128 * 128 ^ i) r (fun _ => by omega) (by rw [hs]; exact hm)
      rw [hs] at this
      exact this

theorem numGo_some : ∀ (l : Bs) (i u n : Nat) (r : Bs), numGo i u l = some (n, r) → n ≤ 4611686018427387904 ∧ ∃ k, 0 < k ∧ k ≤ l.length ∧ r = l.drop k := by
  intro l
  induction l with
  | nil => intro i u n r h; cases h
  | cons c l ih =>
    intro i u n r h
    unfold numGo at h
    split at h
    · cases h
    · split at h
      · split at h
        · cases h
        · cases h
          exact ⟨by omega, 1, by decide, by simp, rfl⟩
      · obtain ⟨h1, k, hk0, hk, hr⟩ := ih _ _ _ _ h
        exact ⟨h1, k + 1, by omega, by simpa using hk, by rw [hr]; rfl⟩

/-- What reads: what is left, whether it erred. -/
structure Rd where
  rest : Bs
  bad : Bool

namespace Rd
def fail : Rd := ⟨[], true⟩
def num (R : Rd) : Nat × Rd := match numGo 0 0 R.rest with
  | some (n, r) => (n, ⟨r, R.bad⟩)
  | none => (0, fail)
def raw (R : Rd) (n : Nat) : Bs × Rd := if n ≤ R.rest.length then (R.rest.take n, ⟨R.rest.drop n, R.bad⟩) else ([], fail)
def bytes (R : Rd) : Bs × Rd := R.num.2.raw R.num.1
def whole (R : Rd) : Bool := !R.bad && R.rest.isEmpty

theorem num_le (R : Rd) : R.num.1 ≤ 4611686018427387904 := by
  unfold num
  split
  · exact (numGo_some _ _ _ _ _ ‹_›).1
  · exact Nat.zero_le _

theorem num_rest (R : Rd) : R.num.2.rest.length ≤ R.rest.length := by
  unfold num
  split
  · obtain ⟨-, k, -, hk, hr⟩ := numGo_some _ _ _ _ _ ‹_›
    simp only [hr, List.length_drop]
    omega
  · exact Nat.zero_le _

theorem raw_rest (R : Rd) (n : Nat) : (R.raw n).2.rest.length ≤ R.rest.length := by
  unfold raw
  split
  · simp
  · exact Nat.zero_le _

theorem raw_len (R : Rd) (n : Nat) : (R.raw n).1.length ≤ R.rest.length := by
  unfold raw
  split
  · simp; omega
  · exact Nat.zero_le _

theorem bytes_rest (R : Rd) : R.bytes.2.rest.length ≤ R.rest.length := Nat.le_trans (raw_rest _ _) (num_rest R)
theorem bytes_len (R : Rd) : R.bytes.1.length ≤ R.rest.length := Nat.le_trans (raw_len _ _) (num_rest R)

theorem num_of {n : Nat} (h : n ≤ 4611686018427387904) (r : Bs) (b : Bool) : num ⟨numB n ++ r, b⟩ = (n, ⟨r, b⟩) := by
  unfold num
  have := numGo_num n 0 0 r (fun h => absurd h (by decide)) (by simpa using h)
  simp only [this]
  simp

theorem raw_of (p r : Bs) (b : Bool) : raw ⟨p ++ r, b⟩ p.length = (p, ⟨r, b⟩) := by
  unfold raw
  rw [if_pos (by simp)]
  simp

theorem bytes_of {p : Bs} (h : p.length ≤ 4611686018427387904) (r : Bs) (b : Bool) : bytes ⟨rowB p ++ r, b⟩ = (p, ⟨r, b⟩) := by
  unfold bytes rowB
  rw [List.append_assoc, num_of h, raw_of]
end Rd
end Go.Sat

namespace Go.Proofs.YtogdfkilhpkloaaGreatDoor
open Go.RowKit Go.Sat Go.Maps

/-! ### The model -/
structure FileM where
  data : Bs
  lasts : Nat

structure DiskM where
  room : Nat
  files : List (Bs × FileM)
  fuse : Option Nat

def okN (n : Bs) : Bool := decide (1 ≤ n.length) && decide (n.length ≤ 64)

namespace DiskM
def size (f : FileM) : Nat := f.data.length
def used (D : DiskM) : Nat := sumBy size D.files
def may (D : DiskM) (ns : List Bs) : Nat := if D.fuse = some 0 then 9 else if ns.all okN then 0 else 1
def done (D : DiskM) : DiskM := { D with fuse := D.fuse.map (· - 1) }
def cur (D : DiskM) (n : Bs) : FileM := (get n D.files).getD ⟨[], 0⟩
def full (D : DiskM) (n b : Bs) : Bool := decide (D.room < D.used + b.length) || ((get n D.files).isNone && decide (4096 ≤ D.files.length))
def append (D : DiskM) (n b : Bs) : DiskM × Nat :=
  if D.may [n] ≠ 0 then (D, D.may [n])
  else if D.full n b then (D, 6)
  else (done { D with files := put n ⟨(D.cur n).data ++ b, (D.cur n).lasts⟩ D.files }, 0)
/-- One of several names: a thing is done with the file that is there. -/
def each1 (g : Bs → FileM → List (Bs × FileM) → List (Bs × FileM)) (D : DiskM) (n : Bs) : DiskM × Nat :=
  if D.may [n] ≠ 0 then (D, D.may [n])
  else match get n D.files with
    | none => (D, 7)
    | some f => (done { D with files := g n f D.files }, 0)
def each (g : Bs → FileM → List (Bs × FileM) → List (Bs × FileM)) (D : DiskM) : List Bs → DiskM × Nat
  | [] => (D, 0)
  | n :: r => if (each1 g D n).2 = 0 then each g (each1 g D n).1 r else each1 g D n
def gSync (n : Bs) (f : FileM) (L : List (Bs × FileM)) : List (Bs × FileM) := put n ⟨f.data, f.data.length⟩ L
def gRemove (n : Bs) (_ : FileM) (L : List (Bs × FileM)) : List (Bs × FileM) := del n L
def sync (D : DiskM) (ns : List Bs) : DiskM × Nat := D.each gSync ns
def remove (D : DiskM) (ns : List Bs) : DiskM × Nat := D.each gRemove ns
def truncate (D : DiskM) (n : Bs) (k : Int) : DiskM × Nat :=
  if D.may [n] ≠ 0 then (D, D.may [n])
  else match get n D.files with
    | none => (D, 7)
    | some f => if k < 0 ∨ (f.data.length : Int) < k then (D, 1)
      else (done { D with files := put n ⟨f.data.take k.toNat, min f.lasts k.toNat⟩ D.files }, 0)
def rename (D : DiskM) (o n : Bs) : DiskM × Nat :=
  if D.may [o, n] ≠ 0 then (D, D.may [o, n])
  else match get o D.files with
    | none => (D, 7)
    | some f => (done { D with files := put n f (del o D.files) }, 0)
def setFuse (D : DiskM) (n : Int) : DiskM := { D with fuse := if n < 0 then none else some n.toNat }
def stays (f : FileM) (k : Int) : Nat := f.lasts + (max 0 k).toNat % (f.data.length - f.lasts + 1)
def crashF (k : Int) (f : FileM) : FileM := ⟨f.data.take (stays f k), stays f k⟩
def crash (D : DiskM) (k : Int) : DiskM := { D with files := mp (crashF k) D.files, fuse := none }
def fresh (room : Nat) : DiskM := ⟨room, [], none⟩
structure OK (D : DiskM) : Prop where
  srt : Srt D.files
  room : D.room ≤ 1073741824
  used : D.used ≤ D.room
  count : D.files.length ≤ 4096
  names : ∀ p ∈ D.files, okN p.1 = true
  lasts : ∀ p ∈ D.files, p.2.lasts ≤ p.2.data.length
  fuse : ∀ k, D.fuse = some k → k ≤ 9223372036854775807
end DiskM

/-! ### In memory -/
abbrev Own := Nat → Option (Nat × Bs)

structure FRep where
  fb : Nat
  v : Value
  f : FileM

structure FileAt (w : World) (own : Own) (n : Bs) (r : FRep) : Prop where
  cells : w.heap[r.fb]? = some (.cells #[r.v, .int .i64 (r.f.lasts : Int)] 128 (0, 0))
  ob : own r.fb = some (2, n)
  row : OwnB w 5 r.v r.f.data
  og : ∀ g, r.v.ownBlock = some g → own g = some (3, n)

def fbD (r : FRep) : DataW Nat := .held r.fb

structure DiskIn (w : World) (d m : Nat) (left : Int) (L : List (Bs × FRep)) (own : Own) (D : DiskM) : Prop where
  cells : w.heap[d]? = some (.cells #[.int .i64 (D.room : Int), .map (some m), .bool D.fuse.isSome, .int .i64 left] 91 (0, 0))
  left : ∀ k, D.fuse = some k → left = (k : Int)
  map : w.ownsMap Tryz.prog 9 ptrR m L.length (dm fbD L)
  files : D.files = mp FRep.f L
  srt : Srt L
  file : ∀ p ∈ L, FileAt w own p.1 p.2
  od : own d = some (0, [])
  om : own m = some (1, [])
  olt : ∀ k t, own k = some t → k < w.heap.size
  ok : D.OK

def DiskAt (w : World) (d : Nat) (D : DiskM) (own : Own) : Prop := ∃ m left L, DiskIn w d m left L own D

/-- own' owns what own did, or what is new. -/
def Ext (w : World) (own own' : Own) : Prop := ∀ k, k < w.heap.size → own k = none → own' k = none

def Has (own : Own) (k : Nat) : Prop := own k ≠ none

theorem FileAt.keep {w w' : World} {own : Own} {n : Bs} {r : FRep} (h : FileAt w own n r) (hb : ∀ k, own k ≠ none → w'.heap[k]? = w.heap[k]?) : FileAt w' own n r :=
  ⟨(hb _ (by rw [h.ob]; simp)).trans h.cells, h.ob, h.row.keep fun k hk => hb k (by rw [h.og k hk]; simp), h.og⟩

theorem DiskIn.keep {w w' : World} {d m : Nat} {left : Int} {L : List (Bs × FRep)} {own : Own} {D : DiskM} (h : DiskIn w d m left L own D) (hs : w.heap.size ≤ w'.heap.size)
    (hb : ∀ k, own k ≠ none → w'.heap[k]? = w.heap[k]?) : DiskIn w' d m left L own D where
  cells := (hb d (by rw [h.od]; simp)).trans h.cells
  left := h.left
  map := by
    obtain ⟨es, clock, hm, r⟩ := h.map
    exact ⟨es, clock, (hb m (by rw [h.om]; simp)).trans hm, r⟩
  files := h.files
  srt := h.srt
  file p hp := (h.file p hp).keep hb
  od := h.od
  om := h.om
  olt k t hk := Nat.lt_of_lt_of_le (h.olt k t hk) hs
  ok := h.ok

theorem DiskIn.chg {w w' : World} {S : Nat → Prop} {d m : Nat} {left : Int} {L : List (Bs × FRep)} {own : Own} {D : DiskM} (h : DiskIn w d m left L own D) (hc : Chg S w w') (hS : ∀ k, S k → own k = none) :
    DiskIn w' d m left L own D :=
  h.keep hc.size fun k hk => hc.block k (by
    cases ho : own k with
    | none => exact absurd ho hk
    | some t => exact h.olt k t ho) fun s => hk (hS k s)

theorem DiskAt.chg {w w' : World} {S : Nat → Prop} {d : Nat} {own : Own} {D : DiskM} (h : DiskAt w d D own) (hc : Chg S w w') (hS : ∀ k, S k → own k = none) : DiskAt w' d D own := by
  obtain ⟨m, left, L, h⟩ := h
  exact ⟨m, left, L, h.chg hc hS⟩

section
variable {w : World} {d m : Nat} {left : Int} {L : List (Bs × FRep)} {own : Own} {D : DiskM}

theorem DiskIn.c0 (h : DiskIn w d m left L own D) : w.cell? ⟨d, 0, none⟩ = some (.int .i64 (D.room : Int)) := cell_of h.cells rfl
theorem DiskIn.c1 (h : DiskIn w d m left L own D) : w.cell? ⟨d, 1, none⟩ = some (.map (some m)) := cell_of h.cells rfl
theorem DiskIn.c2 (h : DiskIn w d m left L own D) : w.cell? ⟨d, 2, none⟩ = some (.bool D.fuse.isSome) := cell_of h.cells rfl
theorem DiskIn.c3 (h : DiskIn w d m left L own D) : w.cell? ⟨d, 3, none⟩ = some (.int .i64 left) := cell_of h.cells rfl

theorem DiskIn.get (h : DiskIn w d m left L own D) (n : Bs) : Sat.get n D.files = (Sat.get n L).map FRep.f := by rw [h.files, mp_get]
theorem DiskIn.len (h : DiskIn w d m left L own D) : D.files.length = L.length := by rw [h.files, mp_len]
theorem DiskIn.used (h : DiskIn w d m left L own D) : D.used = sumBy (fun r : FRep => r.f.data.length) L := by
  unfold DiskM.used
  rw [h.files, mp_sum]
  rfl
theorem DiskIn.dlt (h : DiskIn w d m left L own D) : d < w.heap.size := h.olt d _ h.od
theorem DiskIn.mlt (h : DiskIn w d m left L own D) : m < w.heap.size := h.olt m _ h.om
theorem DiskIn.dm_ne (h : DiskIn w d m left L own D) : d ≠ m := by
  intro e
  have h1 := h.od
  rw [e, h.om] at h1
  simp at h1
end

theorem le_sum {α : Type} {f : α → Nat} {L : List (Bs × α)} {n : Bs} {a : α} (h : Srt L) (hg : get n L = some a) : f a ≤ sumBy f L := by
  rw [sum_del (f := f) h hg]
  omega

end Go.Proofs.YtogdfkilhpkloaaGreatDoor
