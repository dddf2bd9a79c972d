/- Sorted association lists keyed by bytes, and how a map in memory reads as one. Plain lists; no program. Rows that a value owns (its array may be longer than its capacity), append onto them, and what a step may turn. No program. Ranging over a map whose keys are strings and whose elements are pointers. No program. Contracts of octet.Join, bytes.Clone. What a law's arguments are, as the form reads them. Numbers and rows as bytes: what is laid, and what is read (a plain model). No program. What a disk keeps (a plain model), and what it means that a disk lies in memory. Contracts of disk.New, may, done, Used. How a disk in memory stands behind a change of one file, a new file, a file that goes. No walk. -/
import Derived.BigQuiet
import Derived.ChangeOld
import Derived.Deep.LoopGhost
import Derived.Deep.Matrix
import Derived.Deep.QuietTactic
import Derived.Lib.Hide
import Derived.Lib.SlParts
import Derived.Maps.OwnOps
import Derived.Maps.RangeWalk
import Derived.Maps.StringElems
import Derived.OpenShut
import Derived.ProofKit
import Derived.ShutString
import Derived.SizedLaws
import Derived.WalkKit
import Derived.WalkLawsBesides
import Derived.WalkSpells
import Derived.Test.YtngflpaooppmhaaGreatChecked
import Derived.Test.YtngflpaooppmhaaGreatRows
import Derived.Test.YtngflpaooppmhaaGreatShelf
namespace Go.Sat
open Go.Maps (Keyed)

abbrev Bs := List UInt8

section
variable {α β : Type}

def get (n : Bs) (L : List (Bs × α)) : Option α := (L.find? (fun p => p.1 == n)).map (·.2)
def del (n : Bs) (L : List (Bs × α)) : List (Bs × α) := L.filter (fun p => !(p.1 == n))
def ins (x : Bs × α) : List (Bs × α) → List (Bs × α)
  | [] => [x]
  | y :: r => if bytesBefore x.1 y.1 then x :: y :: r else y :: ins x r
def put (n : Bs) (a : α) (L : List (Bs × α)) : List (Bs × α) := ins (n, a) (del n L)
def Srt (L : List (Bs × α)) : Prop := L.Pairwise (fun p q => bytesBefore p.1 q.1 = true)
def sumBy (f : α → Nat) (L : List (Bs × α)) : Nat := (L.map fun p => f p.2).sum

theorem bb_irrefl (a : Bs) : bytesBefore a a = false := WideAt.bytes_irrefl a
theorem bb_trans {a b c : Bs} (h : bytesBefore a b = true) (k : bytesBefore b c = true) : bytesBefore a c = true := WideShapes.bytes_trans a b c h k
theorem bb_total (a b : Bs) (h : a ≠ b) : bytesBefore a b = true ∨ bytesBefore b a = true := WideAt.bytes_total a b h
theorem bb_ne {a b : Bs} (h : bytesBefore a b = true) : a ≠ b := by
  rintro rfl
  rw [bb_irrefl] at h
  cases h

theorem srt_nil : Srt ([] : List (Bs × α)) := List.Pairwise.nil
theorem srt_del {n : Bs} {L : List (Bs × α)} (h : Srt L) : Srt (del n L) := h.filter _

theorem mem_ins {x y : Bs × α} : ∀ {L : List (Bs × α)}, y ∈ ins x L ↔ y = x ∨ y ∈ L
  | [] => by simp [ins]
  | z :: r => by
    unfold ins
    split
    · simp
    · simp [mem_ins (L := r)]
      constructor
      · rintro (h | h | h) <;> simp [h]
      · rintro (h | h | h) <;> simp [h]

theorem ins_perm (x : Bs × α) : ∀ (L : List (Bs × α)), (ins x L).Perm (x :: L)
  | [] => List.Perm.refl _
  | z :: r => by
    unfold ins
    split
    · exact List.Perm.refl _
    · exact ((ins_perm x r).cons z).trans (List.Perm.swap x z r)

theorem srt_ins {x : Bs × α} : ∀ {L : List (Bs × α)}, Srt L → (∀ p ∈ L, p.1 ≠ x.1) → Srt (ins x L)
  | [], _, _ => by simp [ins, Srt]
  | y :: r, h, hne => by
    obtain ⟨h1, h2⟩ := List.pairwise_cons.1 h
    unfold ins
    split
    · rename_i hb
      refine List.pairwise_cons.2 ⟨fun q hq => ?_, h⟩
      rcases List.mem_cons.1 hq with rfl | hq
      · exact hb
      · exact bb_trans hb (h1 q hq)
    · rename_i hb
      have hyx : bytesBefore y.1 x.1 = true := by
        rcases bb_total x.1 y.1 (hne y (by simp)).symm with h' | h'
        · exact absurd h' hb
        · exact h'
      refine List.pairwise_cons.2 ⟨fun q hq => ?_, srt_ins h2 (fun p hp => hne p (by simp [hp]))⟩
      rcases mem_ins.1 hq with rfl | hq
      · exact hyx
      · exact h1 q hq

theorem mem_del {n : Bs} {p : Bs × α} {L : List (Bs × α)} : p ∈ del n L ↔ p ∈ L ∧ p.1 ≠ n := by
  simp [del]

theorem srt_put {n : Bs} {a : α} {L : List (Bs × α)} (h : Srt L) : Srt (put n a L) :=
  srt_ins (srt_del h) fun _ hp => (mem_del.1 hp).2

theorem mem_put {n : Bs} {a : α} {p : Bs × α} {L : List (Bs × α)} : p ∈ put n a L ↔ p = (n, a) ∨ (p ∈ L ∧ p.1 ≠ n) := by
  unfold put
  rw [mem_ins, mem_del]

theorem put_perm (n : Bs) (a : α) (L : List (Bs × α)) : (put n a L).Perm ((n, a) :: del n L) := ins_perm _ _

theorem get_none {n : Bs} {L : List (Bs × α)} : get n L = none ↔ ∀ p ∈ L, p.1 ≠ n := by
  simp [get, List.find?_eq_none]

theorem get_mem {n : Bs} {a : α} {L : List (Bs × α)} (h : get n L = some a) : (n, a) ∈ L := by
  simp only [get, Option.map_eq_some_iff] at h
  obtain ⟨p, hp, rfl⟩ := h
  have h1 := List.mem_of_find?_eq_some hp
  have h2 := List.find?_some hp
  simp at h2
  rw [← h2]
  exact h1

theorem key_uniq {L : List (Bs × α)} (h : Srt L) {p q : Bs × α} (hp : p ∈ L) (hq : q ∈ L) (e : p.1 = q.1) : p = q := by
  induction L with
  | nil => simp at hp
  | cons y r ih =>
    obtain ⟨h1, h2⟩ := List.pairwise_cons.1 h
    rcases List.mem_cons.1 hp with e1 | hp1
    · rcases List.mem_cons.1 hq with e2 | hq1
      · rw [e1, e2]
      · exact absurd (e1 ▸ e) (bb_ne (h1 q hq1))
    · rcases List.mem_cons.1 hq with e2 | hq1
      · exact absurd (e2 ▸ e).symm (bb_ne (h1 p hp1))
      · exact ih h2 hp1 hq1

theorem get_of_mem {L : List (Bs × α)} (h : Srt L) {n : Bs} {a : α} (hm : (n, a) ∈ L) : get n L = some a := by
  cases hg : get n L with
  | none => exact absurd rfl (get_none.1 hg _ hm)
  | some b =>
    have := key_uniq h hm (get_mem hg) rfl
    simp at this
    rw [this]

theorem get_iff {L : List (Bs × α)} (h : Srt L) {n : Bs} {a : α} : get n L = some a ↔ (n, a) ∈ L := ⟨get_mem, get_of_mem h⟩

theorem get_put_same {L : List (Bs × α)} (h : Srt L) (n : Bs) (a : α) : get n (put n a L) = some a :=
  get_of_mem (srt_put h) (mem_put.2 (.inl rfl))

theorem get_put_other {L : List (Bs × α)} (h : Srt L) {n m : Bs} (a : α) (hne : m ≠ n) : get m (put n a L) = get m L := by
  cases hg : get m L with
  | none =>
    rw [get_none] at hg ⊢
    intro p hp
    rcases mem_put.1 hp with rfl | ⟨hp, _⟩
    · exact hne.symm
    · exact hg p hp
  | some b => exact get_of_mem (srt_put h) (mem_put.2 (.inr ⟨get_mem hg, hne⟩))

theorem get_del_same (n : Bs) (L : List (Bs × α)) : get n (del n L) = none := get_none.2 fun _ hp => (mem_del.1 hp).2

theorem get_del_other {L : List (Bs × α)} (h : Srt L) {n m : Bs} (hne : m ≠ n) : get m (del n L) = get m L := by
  cases hg : get m L with
  | none => rw [get_none] at hg ⊢; exact fun p hp => hg p (mem_del.1 hp).1
  | some b => exact get_of_mem (srt_del h) (mem_del.2 ⟨get_mem hg, hne⟩)

theorem del_none {n : Bs} {L : List (Bs × α)} (h : get n L = none) : del n L = L := by
  rw [get_none] at h
  exact List.filter_eq_self.2 fun p hp => by simpa using h p hp

theorem sum_perm {f : α → Nat} {L L' : List (Bs × α)} (h : L.Perm L') : sumBy f L = sumBy f L' := by
  induction h with
  | nil => rfl
  | cons x _ ih => simp only [sumBy, List.map_cons, List.sum_cons] at ih ⊢; omega
  | swap x y l => simp only [sumBy, List.map_cons, List.sum_cons]; omega
  | trans _ _ ih1 ih2 => exact ih1.trans ih2

theorem sum_cons (f : α → Nat) (x : Bs × α) (L : List (Bs × α)) : sumBy f (x :: L) = f x.2 + sumBy f L := rfl

theorem sum_put (f : α → Nat) (n : Bs) (a : α) (L : List (Bs × α)) : sumBy f (put n a L) = f a + sumBy f (del n L) := sum_perm (put_perm n a L)

theorem split_at {L : List (Bs × α)} (h : Srt L) {n : Bs} {a : α} (hg : get n L = some a) : L.Perm ((n, a) :: del n L) := by
  induction L with
  | nil => simp [get] at hg
  | cons y r ih =>
    obtain ⟨h1, h2⟩ := List.pairwise_cons.1 h
    by_cases hy : y.1 = n
    · have hya : y = (n, a) := key_uniq h (by simp) (get_mem hg) hy
      have hd : del n (y :: r) = r := by
        have h1' : ∀ p ∈ r, bytesBefore y.1 p.1 = true := h1
        unfold del
        rw [List.filter_cons, if_neg (by simp [hy])]
        refine List.filter_eq_self.2 fun p hp => ?_
        have := bb_ne (h1' p hp)
        rw [hy] at this
        simpa using fun e => this (Eq.symm e)
      rw [hd, hya]
    · have hg' : get n r = some a := by
        simp only [get, List.find?_cons] at hg
        rw [show (y.1 == n) = false by simpa using hy] at hg
        exact hg
      have hd : del n (y :: r) = y :: del n r := by
        unfold del
        rw [List.filter_cons, if_pos (by simpa using hy)]
      rw [hd]
      exact ((ih h2 hg').cons y).trans (List.Perm.swap _ _ _)

theorem sum_del {f : α → Nat} {L : List (Bs × α)} (h : Srt L) {n : Bs} {a : α} (hg : get n L = some a) : sumBy f L = f a + sumBy f (del n L) := sum_perm (split_at h hg)

theorem len_put (n : Bs) (a : α) (L : List (Bs × α)) : (put n a L).length = (del n L).length + 1 := (put_perm n a L).length_eq

theorem len_del {L : List (Bs × α)} (h : Srt L) {n : Bs} {a : α} (hg : get n L = some a) : L.length = (del n L).length + 1 := (split_at h hg).length_eq

theorem len_del_le (n : Bs) (L : List (Bs × α)) : (del n L).length ≤ L.length := List.length_filter_le _ _

/-- Another thing in each place, under the same names. -/
def mp (g : α → β) (L : List (Bs × α)) : List (Bs × β) := L.map fun p => (p.1, g p.2)

theorem mp_ins (g : α → β) (x : Bs × α) : ∀ L : List (Bs × α), mp g (ins x L) = ins (x.1, g x.2) (mp g L)
  | [] => rfl
  | y :: r => by
    simp only [ins, mp, List.map_cons]
    split
    · simp
    · simp only [List.map_cons]
      rw [show List.map (fun p : Bs × α => (p.1, g p.2)) (ins x r) = mp g (ins x r) from rfl, mp_ins g x r]
      rfl

theorem mp_del (g : α → β) (n : Bs) (L : List (Bs × α)) : mp g (del n L) = del n (mp g L) := by
  simp only [mp, del, List.filter_map]
  rfl

theorem mp_put (g : α → β) (n : Bs) (a : α) (L : List (Bs × α)) : mp g (put n a L) = put n (g a) (mp g L) := by
  simp only [put, mp_ins, mp_del]

theorem mp_get (g : α → β) (n : Bs) (L : List (Bs × α)) : get n (mp g L) = (get n L).map g := by
  simp only [get, mp, List.find?_map, Option.map_map]
  rfl

theorem mp_srt {g : α → β} {L : List (Bs × α)} (h : Srt L) : Srt (mp g L) := by
  unfold Srt mp
  rw [List.pairwise_map]
  exact h

theorem mp_len (g : α → β) (L : List (Bs × α)) : (mp g L).length = L.length := by simp [mp]
theorem mp_sum (f : β → Nat) (g : α → β) (L : List (Bs × α)) : sumBy f (mp g L) = sumBy (fun a => f (g a)) L := by
  simp only [sumBy, mp, List.map_map]
  rfl

/-- Two sorted lists that give the same at every name are one. -/
theorem srt_ext {L M : List (Bs × α)} (hL : Srt L) (hM : Srt M) (h : ∀ n, get n L = get n M) : L = M := by
  have hmem : ∀ p, p ∈ L ↔ p ∈ M := fun p => by rw [← get_iff hL (n := p.1) (a := p.2), h, get_iff hM]
  induction L generalizing M with
  | nil =>
    cases M with
    | nil => rfl
    | cons y s => exact absurd ((hmem y).2 (by simp)) (by simp)
  | cons x r ih =>
    cases M with
    | nil => exact absurd ((hmem x).1 (by simp)) (by simp)
    | cons y s =>
      obtain ⟨x1, x2⟩ := List.pairwise_cons.1 hL
      obtain ⟨y1, y2⟩ := List.pairwise_cons.1 hM
      have hxy : x = y := by
        rcases List.mem_cons.1 ((hmem x).1 (by simp)) with e | hx
        · exact e
        · rcases List.mem_cons.1 ((hmem y).2 (by simp)) with e | hy
          · exact e.symm
          · have a1 := y1 x hx
            have a2 := x1 y hy
            have := bb_trans a1 a2
            rw [bb_irrefl] at this
            cases this
      subst hxy
      have hr : r = s := by
        refine ih x2 y2 (fun n => ?_) (fun p => ?_)
        · by_cases hn : x.1 = n
          · have e1 : get n r = none := get_none.2 fun p hp e => bb_ne (x1 p hp) (hn.trans e.symm)
            have e2 : get n s = none := get_none.2 fun p hp e => bb_ne (y1 p hp) (hn.trans e.symm)
            rw [e1, e2]
          · have := h n
            simp only [get, List.find?_cons] at this
            rw [show (x.1 == n) = false by simpa using hn] at this
            exact this
        · have := hmem p
          simp only [List.mem_cons] at this
          constructor
          · intro hp
            rcases this.1 (.inr hp) with e | e
            · subst e
              exact absurd rfl (bb_ne (x1 p hp))
            · exact e
          · intro hp
            rcases this.2 (.inr hp) with e | e
            · subst e
              exact absurd rfl (bb_ne (y1 p hp))
            · exact e
      rw [hr]

end

/-! ### The reading of a map in memory. -/
section
variable {H α : Type}

def dm (g : α → DataW H) (L : List (Bs × α)) : DataW H := .map (L.map fun p => (Lit.string p.1, g p.2))

theorem sk (a b : Bs) : (Lit.string a).sameKey (.string b) = (a == b) := rfl

theorem dm_insert (g : α → DataW H) (x : Bs × α) : ∀ L : List (Bs × α), DataW.insert (Lit.string x.1, g x.2) (L.map fun p => (Lit.string p.1, g p.2)) = (ins x L).map fun p => (Lit.string p.1, g p.2)
  | [] => rfl
  | y :: r => by
    have ih := dm_insert g x r
    have e1 : DataW.insert (Lit.string x.1, g x.2) ((y :: r).map fun p => (Lit.string p.1, g p.2)) =
        (if bytesBefore x.1 y.1 = true then (Lit.string x.1, g x.2) :: (Lit.string y.1, g y.2) :: r.map fun p => (Lit.string p.1, g p.2)
          else (Lit.string y.1, g y.2) :: DataW.insert (Lit.string x.1, g x.2) (r.map fun p => (Lit.string p.1, g p.2))) := rfl
    have e2 : ins x (y :: r) = if bytesBefore x.1 y.1 = true then x :: y :: r else y :: ins x r := rfl
    rw [e1, ih, e2]
    by_cases hb : bytesBefore x.1 y.1 = true
    · rw [if_pos hb, if_pos hb]
      rfl
    · rw [if_neg hb, if_neg hb]
      rfl

theorem dm_del (g : α → DataW H) (n : Bs) (L : List (Bs × α)) : (dm g L).del (.string n) = dm g (del n L) := by
  simp only [dm, DataW.del, del, List.filter_map]
  rfl

theorem dm_put (g : α → DataW H) (n : Bs) (a : α) (L : List (Bs × α)) : (dm g L).put (.string n) (g a) = dm g (put n a L) := by
  have h := dm_insert g (n, a) (del n L)
  have e : (dm g L).put (.string n) (g a) = .map (DataW.insert (Lit.string n, g a) ((del n L).map fun p => (Lit.string p.1, g p.2))) := by
    simp only [dm, DataW.put, del, List.filter_map]
    rfl
  rw [e, h]
  rfl

theorem dm_atKey (g : α → DataW H) (n : Bs) (L : List (Bs × α)) (z : DataW H) : (dm g L).atKey (.string n) z = ((get n L).map g).getD z := by
  simp only [dm, DataW.atKey, List.find?_map, get, Option.map_map]
  rw [show ((fun p : Lit × DataW H => p.1.sameKey (Lit.string n)) ∘ fun p : Bs × α => (Lit.string p.1, g p.2)) = fun p => p.1 == n from rfl]
  cases List.find? (fun p : Bs × α => p.1 == n) L <;> rfl

theorem dm_has (g : α → DataW H) (n : Bs) (L : List (Bs × α)) : Maps.has (dm g L) (.string n) = (get n L).isSome := by
  simp only [dm, Maps.has, List.any_map, get, Option.isSome_map]
  rw [show ((fun p : Lit × DataW H => p.1.sameKey (Lit.string n)) ∘ fun p : Bs × α => (Lit.string p.1, g p.2)) = fun p => p.1 == n from rfl]
  induction L with
  | nil => rfl
  | cons y r ih =>
    simp only [List.any_cons, List.find?_cons]
    cases (y.1 == n) <;> simp [ih]

theorem dm_size (g : α → DataW H) (L : List (Bs × α)) : Maps.size (dm g L) = L.length := by simp [dm, Maps.size]

/-- What is told of a map of at most n entries is told of it at just its size. -/
theorem exactly {w : World} {P : Program} {k : TypeId} {R : Value → Option (DataW H × List MemPlace)} {b n : Nat} {D : DataW H} (h : w.ownsMap P k R b n D) : w.ownsMap P k R b (Maps.size D) D := by
  obtain ⟨es, clock, hb, F, hs, rfl⟩ := h
  exact ⟨es, clock, hb, F, by simp [Maps.size, length_sorted], rfl⟩

/-- A pointer to the head of a block, or nil, as what a map holds. -/
def ptrR : Value → Option (DataW Nat × List MemPlace)
  | .pointer (some ⟨b, 0, none⟩) => some (.held b, [])
  | .pointer none => some (.nil, [])
  | _ => none

theorem ptrR_inv {v : Value} {y : DataW Nat × List MemPlace} {b : Nat} (h : ptrR v = some y) (hy : y.1 = .held b) : v = .pointer (some ⟨b, 0, none⟩) := by
  unfold ptrR at h
  split at h
  · simp at h
    subst h
    simp at hy
    rw [hy]
  · simp at h
    subst h
    simp at hy
  · simp at h

end
end Go.Sat

namespace Go.Sat
open Go.RowKit

/-- v is a slice of n elements (size cells each) that are the cells xs: nil, or at the head of a block that bears no mark. -/
def OwnR (w : World) (e : TypeId) (size : Nat) (v : Value) (n : Nat) (xs : List Value) : Prop :=
  xs.length = n * size ∧
  ((v = .slice none 0 0 ∧ n = 0) ∨
   ∃ g cap cur, v = .slice (some ⟨g, 0, none⟩) n cap ∧ w.heap[g]? = some (.cells cur e (0, 0)) ∧ n ≤ cap ∧ cap ≤ maxLen ∧ cap * size ≤ cur.size ∧ cur.toList.take (n * size) = xs)

/-- v is a slice whose n elements' cells read as xs, wherever they lie. -/
def Holds (w : World) (size : Nat) (v : Value) (n : Nat) (xs : List Value) : Prop :=
  xs.length = n * size ∧ ∃ p cap, v = .slice p n cap ∧ (p = none → n = 0) ∧ ∀ a, p = some a → ∀ (i : Nat) u, xs[i]? = some u → w.cell? (a.add i) = some u

section
variable {w w' : World} {e : TypeId} {size : Nat} {v : Value} {n : Nat} {xs : List Value}

theorem OwnR.nil (w : World) (e : TypeId) (size : Nat) : OwnR w e size (.slice none 0 0) 0 [] := ⟨by simp, .inl ⟨rfl, rfl⟩⟩

theorem OwnR.lt (h : OwnR w e size v n xs) {k : Nat} (hk : v.ownBlock = some k) : k < w.heap.size := by
  rcases h.2 with ⟨rfl, _⟩ | ⟨g, cap, cur, rfl, hg, _⟩
  · simp [Value.ownBlock] at hk
  · simp [Value.ownBlock] at hk
    subst hk
    exact (Array.getElem?_eq_some_iff.1 hg).1

theorem OwnR.keep (h : OwnR w e size v n xs) (hb : ∀ k, v.ownBlock = some k → w'.heap[k]? = w.heap[k]?) : OwnR w' e size v n xs := by
  refine ⟨h.1, ?_⟩
  rcases h.2 with hn | ⟨g, cap, cur, rfl, hg, rest⟩
  · exact .inl hn
  · exact .inr ⟨g, cap, cur, rfl, (hb g rfl).trans hg, rest⟩

theorem add_zero (g j : Nat) : (⟨g, 0, none⟩ : Addr).add j = ⟨g, j, none⟩ := by
  unfold Addr.add
  split <;> simp_all

theorem OwnR.cells (h : OwnR w e size v n xs) {g : Nat} (hg : v.ownBlock = some g) : ∀ j u, xs[j]? = some u → w.cell? ((⟨g, 0, none⟩ : Addr).add j) = some u := by
  intro j u hu
  rcases h.2 with ⟨rfl, _⟩ | ⟨g', cap, cur, rfl, hgg, _, _, _, htake⟩
  · simp [Value.ownBlock] at hg
  · simp [Value.ownBlock] at hg
    subst hg
    rw [add_zero, cell_of_row w g' j cur e (0, 0) hgg]
    rw [← htake, List.getElem?_take] at hu
    split at hu
    · simpa using hu
    · cases hu

theorem OwnR.holds (h : OwnR w e size v n xs) : Holds w size v n xs := by
  refine ⟨h.1, ?_⟩
  rcases h.2 with ⟨rfl, rfl⟩ | ⟨g, cap, cur, rfl, hgg, _⟩
  · exact ⟨none, 0, rfl, fun _ => rfl, fun a ha => by cases ha⟩
  · refine ⟨some ⟨g, 0, none⟩, cap, rfl, fun e => by (cases e), fun a ha i u hu => ?_⟩
    cases ha
    exact h.cells rfl i u hu

theorem OwnR.shape (h : OwnR w e size v n xs) : ∃ p c, v = .slice p n c := by
  obtain ⟨_, p, c, rfl, _⟩ := h.holds
  exact ⟨p, c, rfl⟩

theorem OwnR.of_kit {base : Nat} (h : w.ownsRow base e size v n xs) : OwnR w e size v n xs := by
  refine ⟨h.1, ?_⟩
  rcases h.2 with hn | ⟨g, cap, cur, rfl, _, hg, hnc, hcm, hcs, ht⟩
  · exact .inl hn
  · exact .inr ⟨g, cap, cur, rfl, hg, hnc, hcm, by omega, ht⟩

theorem OwnR.block_ge {base : Nat} (h : w.ownsRow base e size v n xs) {k : Nat} (hk : v.ownBlock = some k) : base ≤ k := (World.ownsRow.lt h k hk).1

theorem Holds.len (h : Holds w size v n xs) : xs.length = n * size := h.1

theorem Holds.keep (h : Holds w size v n xs) (hb : ∀ k, v.ownBlock = some k → w'.heap[k]? = w.heap[k]?) : Holds w' size v n xs := by
  obtain ⟨hl, p, cap, rfl, h0, hc⟩ := h
  refine ⟨hl, p, cap, rfl, h0, fun a ha i u hu => ?_⟩
  rw [← hc a ha i u hu]
  refine World.cell?_of_block ?_
  have e1 : (a.add i).block = a.block := by unfold Addr.add; split <;> rfl
  rw [e1]
  exact hb a.block (by rw [ha]; rfl)

end

section
variable {P : Program} (w : World)

/-- append(v, x...), v a row of the holder's own, x whatever: the row with x's cells behind it; where it lies. -/
theorem run_app (t ty e : TypeId) (i : TypeInfo) (z : Value) (size bytes : Nat) (ht : P.underlying t = some (.slice e)) (hi : P.info? e = some i) (hz : i.zero = some z)
    (hsize : i.size = size) (hby : i.bytes = bytes) (hzs : z.cells.size = size) (hsz : 0 < size)
    (v : Value) (n : Nat) (xs : List Value) (hown : OwnR w e size v n xs)
    (x : Value) (m : Nat) (news : List Value) (hx : Holds w size x m news) (h1 : ∀ u ∈ news, u.oneCell' = true)
    (h63 : n + m ≤ maxLen) (hbytes : (n + m) * bytes ≤ 140737488355328) :
    ∃ v' w', (Builtin.append_ #[t, t] ty #[v, x]).run P w = .ok v' w' ∧ OwnR w' e size v' (n + m) (xs ++ news) ∧ w.grownBy w' v.ownBlock ∧
      (v'.ownBlock = v.ownBlock ∨ ∃ g, v'.ownBlock = some g ∧ w.heap.size ≤ g) := by
  subst hsize
  subst hby
  obtain ⟨hl, p, c, rfl, hp0, hnews⟩ := hx
  have hsmall : n + m ≤ 9223372036854775807 := by simp only [maxLen] at h63; omega
  have hlen : (xs ++ news).length = (n + m) * i.size := by rw [List.length_append, hown.1, hl, Nat.add_mul]
  by_cases hm : m = 0
  · subst hm
    have hn : news = [] := List.eq_nil_of_length_eq_zero (by simpa using hl)
    subst hn
    refine ⟨v, w, ?_, by simpa using hown, ⟨rfl, rfl, rfl, Nat.le_refl _, fun _ _ _ => rfl⟩, .inl rfl⟩
    have hfc : (Builtin.firstCells i.size 0 (.slice p 0 c)).run P w = .ok #[] w := by
      cases p <;> simp [Builtin.firstCells, loadCells, loadCellsFrom]
    rcases hown.2 with ⟨rfl, rfl⟩ | ⟨g, cap, cur, rfl, hg, hnc, hcm, hcs, htake⟩
    · simp [Builtin.append_, run_underlying ht, sizeOf, typeInfo, hi, Builtin.lenOf, hfc]
    · simp [Builtin.append_, run_underlying ht, sizeOf, typeInfo, hi, Builtin.lenOf, hfc, hnc, storeCells]
  obtain ⟨a, rfl⟩ : ∃ a, p = some a := by
    cases p with
    | none => exact absurd (hp0 rfl) hm
    | some a => exact ⟨a, rfl⟩
  have hnews := hnews a rfl
  have grown : ∀ (old : Nat), old < n + m → ∀ (row : Option Nat),
      OwnR (w.drew.alloc (.cells (xs.toArray ++ news.toArray ++ Builtin.zeroCells z.cells (grownCap w (n + m) old e - (n + m))) e)) e i.size
        (.slice (some ⟨w.heap.size, 0, none⟩) (n + m) (grownCap w (n + m) old e)) (n + m) (xs ++ news) ∧
      w.grownBy (w.drew.alloc (.cells (xs.toArray ++ news.toArray ++ Builtin.zeroCells z.cells (grownCap w (n + m) old e - (n + m))) e)) row := by
    intro old ho row
    have hge := grownCap_ge w (n + m) old e
    have hcm : grownCap w (n + m) old e ≤ maxLen := grownCap_le_maxLen w (n + m) old e h63
    refine ⟨⟨hlen, .inr ⟨w.heap.size, _, _, rfl, heap_alloc_new w.drew _, hge, hcm, ?_, ?_⟩⟩, ⟨rfl, rfl, rfl, by simp, fun k hk _ => heap_alloc_old w.drew _ hk⟩⟩
    · simp only [Array.size_append, List.size_toArray, size_zeroCells, hzs, hown.1, hl, ← Nat.add_mul]
      apply Nat.le_of_eq
      congr 1
      omega
    · simp only [Array.toList_append, List.append_assoc]
      rw [← List.append_assoc, ← hlen]
      exact List.take_left
  rcases hown.2 with ⟨rfl, rfl⟩ | ⟨g, cap, cur, rfl, hg, hnc, hcm, hcs, htake⟩
  · have hx : xs = [] := List.eq_nil_of_length_eq_zero (by simpa using hown.1)
    subst hx
    have hr := run_append_nil (P := P) w t ty e i z ht hi hz a m c news hl hnews (by omega) (by omega) (by have hb := hbytes; simp only [Nat.zero_add] at hb; omega)
    have hgr := grown 0 (by omega) (Value.ownBlock (.slice none 0 0))
    simp only [Nat.zero_add, List.nil_append, Array.empty_append] at hgr ⊢
    exact ⟨_, _, hr, hgr.1, hgr.2, .inr ⟨_, rfl, Nat.le_refl _⟩⟩
  · by_cases hroom : n + m ≤ cap
    · have hfit : n * i.size + news.length ≤ cur.size := by
        rw [hl, ← Nat.add_mul]
        exact Nat.le_trans (Nat.mul_le_mul_right _ hroom) hcs
      have hr := run_append_room (P := P) w t ty e i ht hi g n cap cur hg a m c news hl hnews h1 hroom hfit
      refine ⟨_, _, hr, ⟨hlen, .inr ⟨g, cap, _, rfl, setRow_heap w g cur _ e _ hg, hroom, hcm, ?_, ?_⟩⟩, ⟨rfl, rfl, rfl, by simp, fun k _ hk => setRow_other w g k _ (fun e => hk (by simp [Value.ownBlock, e]))⟩, .inl rfl⟩
      · simp only [List.size_toArray, List.length_append, List.length_take, List.length_drop, Array.length_toList]
        omega
      · rw [htake, ← hlen]
        exact List.take_left
    · have holds : ∀ j u, xs[j]? = some u → w.cell? ((⟨g, 0, none⟩ : Addr).add j) = some u := hown.cells (g := g) rfl
      have hr := run_append_grow (P := P) w t ty e i z ht hi hz ⟨g, 0, none⟩ n cap xs hown.1 holds a m c news hl hnews (by omega) (by omega) (growslice_fits (by omega) hbytes)
      have hgr := grown cap (by omega) (Value.ownBlock (.slice (some ⟨g, 0, none⟩) n cap))
      exact ⟨_, _, hr, hgr.1, hgr.2, .inr ⟨_, rfl, Nat.le_refl _⟩⟩

/-- The same at the operation. -/
theorem wpList_app {ops : Array Oper} {rest : List Oper} {o : Oper} {a : Act} {Q : Exit → Act → World → Prop} (hgd : o.guard = none) (s x : Operand) (t : TypeId)
    (ho : o.op = .call { callee := .builtin .append, args := #[s, x], argTypes := #[t, t] })
    (e : TypeId) (i : TypeInfo) (z : Value) (size bytes : Nat) (ht : P.underlying t = some (.slice e)) (hi : P.info? e = some i) (hz : i.zero = some z)
    (hsize : i.size = size) (hby : i.bytes = bytes) (hzs : z.cells.size = size) (hsz : 0 < size)
    (v : Value) (n : Nat) (xs : List Value) (hs : a.eval s = v) (hown : OwnR w e size v n xs)
    (xv : Value) (m : Nat) (news : List Value) (hxv : a.eval x = xv) (hx : Holds w size xv m news) (h1 : ∀ u ∈ news, u.oneCell' = true)
    (h63 : n + m ≤ maxLen) (hbytes : (n + m) * bytes ≤ 140737488355328)
    (h : ∀ v' w', OwnR w' e size v' (n + m) (xs ++ news) → w.grownBy w' v.ownBlock → (v'.ownBlock = v.ownBlock ∨ ∃ g, v'.ownBlock = some g ∧ w.heap.size ≤ g) → wpList P ops Q rest (a.put o.dst v') w') : wpList P ops Q (o :: rest) a w :=
  wpList_plain hgd fun K hK => by
    obtain ⟨v', w', hr, h2, h3, h4⟩ := run_app (P := P) w t o.type e i z size bytes ht hi hz hsize hby hzs hsz v n xs hown xv m news hx h1 h63 hbytes
    unfold Oper.wp execOp
    simp only [ho, resolve, invoke, builtin, Sem.run_bind, Sem.run_pure, Result.andThen_ok, List.map_toArray, List.map_cons, List.map_nil, hs, hxv, hr]
    exact hK _ _ (h v' w' h2 h3 h4)
end

/-! ### Bytes -/
def bytesV (l : Bs) : List Value := l.map fun u => .int .u8 (u.toNat : Int)

theorem bytesV_len (l : Bs) : (bytesV l).length = l.length := by simp [bytesV]
theorem bytesV_app (l m : Bs) : bytesV (l ++ m) = bytesV l ++ bytesV m := by simp [bytesV]
theorem bytesV_take (l : Bs) (k : Nat) : bytesV (l.take k) = (bytesV l).take k := by simp [bytesV, List.map_take]
theorem bytesV_one (l : Bs) : ∀ u ∈ bytesV l, u.oneCell' = true := by
  intro u hu
  obtain ⟨x, _, rfl⟩ := List.mem_map.1 hu
  rfl
/-- v is a slice of the bytes l, wherever they lie. -/
def HasB (w : World) (v : Value) (l : Bs) : Prop := Holds w 1 v l.length (bytesV l)
/-- v is a row of the bytes l of the holder's own (e: the type of a byte). -/
def OwnB (w : World) (e : TypeId) (v : Value) (l : Bs) : Prop := OwnR w e 1 v l.length (bytesV l)

theorem OwnB.has {w : World} {e : TypeId} {v : Value} {l : Bs} (h : OwnB w e v l) : HasB w v l := OwnR.holds h
theorem OwnB.keep {w w' : World} {e : TypeId} {v : Value} {l : Bs} (h : OwnB w e v l) (hb : ∀ k, v.ownBlock = some k → w'.heap[k]? = w.heap[k]?) : OwnB w' e v l := OwnR.keep h hb

theorem HasB.kit {w : World} {v : Value} {l : Bs} (h : HasB w v l) : Lib.HoldsBytes w v l := by
  obtain ⟨_, p, cap, rfl, h0, hc⟩ := h
  refine ⟨p, cap, rfl, fun e => List.eq_nil_of_length_eq_zero (h0 e), fun a ha i x hx => hc a ha i _ ?_⟩
  simp [bytesV, hx]

theorem HasB.of_kit {w : World} {v : Value} {l : Bs} (h : Lib.HoldsBytes w v l) : HasB w v l := by
  obtain ⟨p, cap, rfl, h0, hc⟩ := h
  refine ⟨by simp [bytesV], p, cap, rfl, fun e => by rw [h0 e]; rfl, fun a ha i u hu => ?_⟩
  simp only [bytesV, List.getElem?_map, Option.map_eq_some_iff] at hu
  obtain ⟨x, hx, rfl⟩ := hu
  exact hc a ha i x hx

/-! ### What a step may turn -/
/-- Nothing but the blocks of S (and new ones) has turned. -/
structure Chg (S : Nat → Prop) (w w' : World) : Prop where
  os : w'.os = w.os
  tape : w'.tape = w.tape
  output : w'.output = w.output
  size : w.heap.size ≤ w'.heap.size
  block : ∀ k, k < w.heap.size → ¬ S k → w'.heap[k]? = w.heap[k]?

section
variable {S T : Nat → Prop} {w w' w'' : World}
theorem Chg.refl (S : Nat → Prop) (w : World) : Chg S w w := ⟨rfl, rfl, rfl, Nat.le_refl _, fun _ _ _ => rfl⟩
theorem Chg.mono (h : Chg S w w') (hs : ∀ k, k < w.heap.size → S k → T k) : Chg T w w' := ⟨h.os, h.tape, h.output, h.size, fun k hk hn => h.block k hk fun s => hn (hs k hk s)⟩
theorem Chg.trans (h : Chg S w w') (k : Chg T w' w'') (hs : ∀ i, i < w.heap.size → T i → S i) : Chg S w w'' :=
  ⟨k.os.trans h.os, k.tape.trans h.tape, k.output.trans h.output, Nat.le_trans h.size k.size, fun i hi hn => (k.block i (Nat.lt_of_lt_of_le hi h.size) fun t => hn (hs i hi t)).trans (h.block i hi hn)⟩
theorem Chg.of_below (h : Below w.heap.size w w') : Chg (fun _ => False) w w' := ⟨h.os, h.tape, h.output, h.size, fun k hk _ => h.block k hk⟩
theorem Chg.below (h : Chg S w w') {B : Nat} (hB : B ≤ w.heap.size) (hs : ∀ k, k < B → ¬ S k) : Below B w w' := ⟨h.os, h.tape, h.output, h.size, fun k hk => h.block k (by omega) (hs k hk)⟩
theorem Chg.of_grown {row : Option Nat} (h : w.grownBy w' row) : Chg (fun k => some k = row) w w' := ⟨h.os, h.tape, h.output, h.size, fun k hk hn => h.block k hk hn⟩
theorem Chg.alloc (w : World) (o : Obj) : Chg (fun _ => False) w (w.alloc o) := ⟨rfl, rfl, rfl, by simp, fun k hk _ => heap_alloc_old w o hk⟩
theorem Chg.drew (w : World) : Chg (fun _ => False) w w.drew := ⟨rfl, rfl, rfl, Nat.le_refl _, fun _ _ _ => rfl⟩
theorem Chg.setCell (w : World) (a : Addr) (u : Value) : Chg (fun k => k = a.block) w (w.setCell a u) := ⟨rfl, rfl, rfl, by simp [World.setCell], fun k _ hn => Below.heap_setCell _ _ _ _ hn⟩
theorem Chg.cell (h : Chg S w w') {a : Addr} {v : Value} (hc : w.cell? a = some v) (hn : ¬ S a.block) : w'.cell? a = some v :=
  (World.cell?_of_block (h.block a.block (World.block_lt_of_cell? w a hc) hn)).trans hc
end

theorem add_block (a : Addr) (i : Nat) : (a.add i).block = a.block := by unfold Addr.add; split <;> rfl

theorem Holds.chg {w w' : World} {S : Nat → Prop} {size : Nat} {v : Value} {n : Nat} {xs : List Value} (h : Holds w size v n xs) (hc : Chg S w w') (hS : ∀ k, v.ownBlock = some k → ¬ S k) : Holds w' size v n xs := by
  obtain ⟨hl, p, cap, rfl, h0, hcs⟩ := h
  refine ⟨hl, p, cap, rfl, h0, fun a ha i u hu => hc.cell (hcs a ha i u hu) ?_⟩
  rw [add_block]
  exact hS _ (by rw [ha]; rfl)

theorem Holds.chg2 {w w' : World} {S : Nat → Prop} {size : Nat} {v : Value} {n : Nat} {xs : List Value} (h : Holds w size v n xs) (hc : Chg S w w') (hS : ∀ a u, w.cell? a = some u → v.ownBlock = some a.block → ¬ S a.block) : Holds w' size v n xs := by
  obtain ⟨hl, p, cap, rfl, h0, hcs⟩ := h
  refine ⟨hl, p, cap, rfl, h0, fun a ha i u hu => hc.cell (hcs a ha i u hu) (hS _ _ (hcs a ha i u hu) ?_)⟩
  rw [add_block, ha]
  rfl

theorem no_cell_map {w : World} {b : Nat} {es : Array MapEntry} {c : Nat} (h : w.heap[b]? = some (.map es c)) {a : Addr} {u : Value} (hc : w.cell? a = some u) : a.block ≠ b := fun e => by
  simp [World.cell?, e, h] at hc

theorem HasB.chg {w w' : World} {S : Nat → Prop} {v : Value} {l : Bs} (h : HasB w v l) (hc : Chg S w w') (hS : ∀ k, v.ownBlock = some k → ¬ S k) : HasB w' v l := Holds.chg h hc hS
theorem HasB.below {w w' : World} {v : Value} {l : Bs} (h : HasB w v l) (hb : Below w.heap.size w w') : HasB w' v l := h.chg (Chg.of_below hb) fun _ _ => id
theorem HasB.slice {w : World} {v : Value} {l : Bs} (h : HasB w v l) : ∃ p c, v = .slice p l.length c := by
  obtain ⟨_, p, c, e, _⟩ := h
  exact ⟨p, c, e⟩
theorem OwnB.slice {w : World} {e : TypeId} {v : Value} {l : Bs} (h : OwnB w e v l) : ∃ p c, v = .slice p l.length c := h.has.slice

/-- Behind an append: a block that the row does not lie in is as it was. -/
theorem grown_block {w w' : World} {row : Option Nat} (h : w.grownBy w' row) {k : Nat} {o : Obj} (hk : w.heap[k]? = some o) (hne : row ≠ some k) : w'.heap[k]? = some o :=
  (h.block k (Array.getElem?_eq_some_iff.1 hk).1 fun e => hne e.symm).trans hk

theorem ownBlock_slice (p : Option Addr) (a b c d : Nat) : (Value.slice p a b).ownBlock = (Value.slice p c d).ownBlock := by cases p <;> rfl

theorem lt_of_block {w : World} {b : Nat} {o : Obj} (h : w.heap[b]? = some o) : b < w.heap.size := (Array.getElem?_eq_some_iff.1 h).1

theorem cell_of {w : World} {b : Nat} {c : Array Value} {e : TypeId} {fr : Nat × Nat} (h : w.heap[b]? = some (.cells c e fr)) {i : Nat} {v : Value} (hi : c[i]? = some v) : w.cell? ⟨b, i, none⟩ = some v := by
  simp [World.cell?, h, hi]
theorem frozen_of {w : World} {b : Nat} {c : Array Value} {e : TypeId} (h : w.heap[b]? = some (.cells c e (0, 0))) (i : Nat) : w.frozen? ⟨b, i, none⟩ = false := by
  simp [World.frozen?, h]
theorem set_block {w : World} {b : Nat} {c : Array Value} {e : TypeId} {fr : Nat × Nat} (h : w.heap[b]? = some (.cells c e fr)) (i : Nat) (v : Value) : (w.setCell ⟨b, i, none⟩ v).heap[b]? = some (.cells (c.setIfInBounds i v) e fr) := by
  simp [World.setCell, Array.getElem?_modify, h]
theorem set_other {w : World} {a : Addr} {k : Nat} (v : Value) (hne : k ≠ a.block) : (w.setCell a v).heap[k]? = w.heap[k]? := Below.heap_setCell _ _ _ _ hne
theorem new_block (w : World) (o : Obj) : (w.alloc o).heap[w.heap.size]? = some o := heap_alloc_new w o
theorem old_block {w : World} {k : Nat} {x : Obj} (o : Obj) (h : w.heap[k]? = some x) : (w.alloc o).heap[k]? = some x := (heap_alloc_old w o (lt_of_block h)).trans h
end Go.Sat

namespace Go.Sat
open Go.RowKit
open Go.Maps (Keyed)

section
variable {α : Type}

/-- What is still to come. -/
def rem (left : Lit → Bool) (L : List (Bs × α)) : List (Bs × α) := L.filter fun p => left (.string p.1)

theorem srt_rem {left : Lit → Bool} {L : List (Bs × α)} (h : Srt L) : Srt (rem left L) := h.filter _

theorem rem_start (g : α → DataW Nat) (L : List (Bs × α)) : rem (Maps.has (dm g L)) L = L := by
  refine List.filter_eq_self.2 fun p hp => ?_
  rw [dm_has]
  cases hg : get p.1 L with
  | none => exact absurd rfl (get_none.1 hg p hp)
  | some a => rfl

theorem rem_end {left : Lit → Bool} (h : ∀ kl, left kl = false) (L : List (Bs × α)) : rem left L = [] := by
  refine List.filter_eq_nil_iff.2 fun p _ => ?_
  rw [h]
  simp

theorem get_rem {left : Lit → Bool} {L : List (Bs × α)} (h : Srt L) {n : Bs} {a : α} (hg : get n L = some a) (hl : left (.string n) = true) : get n (rem left L) = some a :=
  get_of_mem (srt_rem h) (List.mem_filter.2 ⟨get_mem hg, hl⟩)

theorem rem_step (left : Lit → Bool) (n : Bs) (L : List (Bs × α)) : rem (fun z => left z && !z.sameKey (.string n)) L = del n (rem left L) := by
  simp only [rem, del, List.filter_filter]
  refine List.filter_congr fun p _ => ?_
  rw [sk]
  exact Bool.and_comm _ _

/-- One step takes one summand off what is still to come. -/
theorem rem_sum {f : α → Nat} {left : Lit → Bool} {L : List (Bs × α)} (h : Srt L) {n : Bs} {a : α} (hg : get n L = some a) (hl : left (.string n) = true) :
    sumBy f (rem left L) = f a + sumBy f (rem (fun z => left z && !z.sameKey (.string n)) L) := by
  rw [rem_step]
  exact sum_del (srt_rem h) (get_rem h hg hl)
end

theorem keyOf_string_inv {P : Program} {k : TypeId} (hk : P.underlying k = some .string) {key : Value} {kl : Lit} (h : keyOf P k key = some kl) : ∃ s : ByteArray, key = .string s ∧ kl = .string s.data.toList ∧ s.size ≤ maxLen := by
  cases key <;> simp [keyOf, hk, mapKey] at h
  obtain ⟨h1, rfl⟩ := h
  exact ⟨_, rfl, rfl, h1⟩

section
variable {α : Type} {P : Program} (w : World) {ops : Array Oper} {rest : List Oper} {o : Oper} {a : Act} {Q : Exit → Act → World → Prop}

theorem wpList_next_ptr (hg : o.guard = none) (it : Operand) (hop : o.op = Op.next it false) (k : TypeId) (hk : P.underlying k = some .string) (K : Keyed P k)
    (g : α → Nat) (L : List (Bs × α)) (b r n : Nat) (left : Lit → Bool) (cnt : Nat) (hit : a.eval it = .pointer (some ⟨r, 0, none⟩)) (h : w.ranges P k ptrR b r n (dm (fun x => .held (g x)) L) left cnt)
    (hDone : (∀ kl, left kl = false) → wpList P ops Q rest (a.put o.dst (.tuple #[.bool false])) w)
    (hMore : ∀ (s : ByteArray) (x : α) (w' : World) (cnt' : Nat), get s.data.toList L = some x → left (.string s.data.toList) = true → s.size ≤ maxLen →
      w'.ranges P k ptrR b r n (dm (fun x => .held (g x)) L) (fun z => left z && !z.sameKey (.string s.data.toList)) cnt' → cnt' < cnt → w.grownBy w' (some r) → w'.heap.size = w.heap.size →
      (Instr.entry (.pointer (some ⟨r, 0, none⟩))).run P w' = .ok (.tuple #[.string s, .pointer (some ⟨g x, 0, none⟩)]) w' →
      wpList P ops Q rest (a.put o.dst (.tuple #[.bool true, .string s, .pointer (some ⟨g x, 0, none⟩)])) w') :
    wpList P ops Q (o :: rest) a w :=
  wpList_next_ranges w hg it hop k K ptrR (fun s : ByteArray => .string s) (fun v : Value => v) (fun key kl hkey => by obtain ⟨s, rfl, _⟩ := keyOf_string_inv hk hkey; exact ⟨s, rfl⟩) (fun v _ _ => ⟨v, rfl⟩)
    b r n _ left cnt hit h (fun _ hl => hDone hl) (fun s v kl y w' cnt' hkey hl hv hat hrg hlt hgr hsz hen => by
      obtain ⟨s', e1, rfl, hs⟩ := keyOf_string_inv hk hkey
      simp at e1
      subst e1
      have h1 : ∀ zd, ((get s.data.toList L).map fun x => (DataW.held (g x) : DataW Nat)).getD zd = y.1 := fun zd => by rw [← dm_atKey]; exact hat zd
      cases hgt : get s.data.toList L with
      | none =>
        rw [hgt] at h1
        have e1 := h1 .nil
        have e2 := h1 (.held 0)
        rw [← e2] at e1
        cases e1
      | some x =>
        rw [hgt] at h1
        have e1 := (h1 .nil).symm
        have hv' := ptrR_inv hv e1
        subst hv'
        exact hMore s x w' cnt' hgt hl hs hrg hlt hgr hsz hen)

/-- 'm[k]' where the elements are pointers. -/
theorem run_look_ptr {t k e : TypeId} {b n : Nat} (K : Keyed P k) (hk : P.underlying k = some .string) (ht : P.underlying t = some (.map k e)) (hz : (zeroValue e).run P w = .ok (.pointer none) w) (g : α → Nat) (L : List (Bs × α))
    (h : w.ownsMap P k ptrR b n (dm (fun x => .held (g x)) L)) (s : ByteArray) (hs : s.size ≤ maxLen) :
    (Instr.lookup t (.map (some b)) (.string s) false).run P w = .ok (match get s.data.toList L with | some x => .pointer (some ⟨g x, 0, none⟩) | none => .pointer none) w := by
  obtain ⟨v, ps, hrun, hv⟩ := h.lookup K ht hz (z := .pointer none) (zd := .nil) (zp := []) rfl (WideMaps.keyOf_string_mk hk hs)
  rw [hrun]
  rw [dm_atKey] at hv
  cases hgt : get s.data.toList L with
  | none =>
    rw [hgt] at hv
    simp only [Option.map_none, Option.getD_none] at hv
    unfold ptrR at hv
    split at hv <;> simp at hv
    rfl
  | some x =>
    rw [hgt] at hv
    simp only [Option.map_some, Option.getD_some] at hv
    rw [ptrR_inv hv rfl]

theorem run_look_some {t k e : TypeId} {b n : Nat} (K : Keyed P k) (hk : P.underlying k = some .string) (ht : P.underlying t = some (.map k e)) (hz : (zeroValue e).run P w = .ok (.pointer none) w) (g : α → Nat) {L : List (Bs × α)}
    (h : w.ownsMap P k ptrR b n (dm (fun x => .held (g x)) L)) {s : ByteArray} (hs : s.size ≤ maxLen) {x : α} (hg : get s.data.toList L = some x) :
    (Instr.lookup t (.map (some b)) (.string s) false).run P w = .ok (.pointer (some ⟨g x, 0, none⟩)) w := by
  rw [run_look_ptr w K hk ht hz g L h s hs, hg]

theorem run_look_any {t k e : TypeId} {b n : Nat} (K : Keyed P k) (hk : P.underlying k = some .string) (ht : P.underlying t = some (.map k e)) (hz : (zeroValue e).run P w = .ok (.pointer none) w) (g : α → Nat) {L : List (Bs × α)}
    (h : w.ownsMap P k ptrR b n (dm (fun x => .held (g x)) L)) {s : ByteArray} (hs : s.size ≤ maxLen) :
    ∃ fv, (Instr.lookup t (.map (some b)) (.string s) false).run P w = .ok (.pointer fv) w := by
  rw [run_look_ptr w K hk ht hz g L h s hs]
  cases get s.data.toList L with
  | none => exact ⟨none, rfl⟩
  | some x => exact ⟨_, rfl⟩

theorem run_look_none {t k e : TypeId} {b n : Nat} (K : Keyed P k) (hk : P.underlying k = some .string) (ht : P.underlying t = some (.map k e)) (hz : (zeroValue e).run P w = .ok (.pointer none) w) (g : α → Nat) {L : List (Bs × α)}
    (h : w.ownsMap P k ptrR b n (dm (fun x => .held (g x)) L)) {s : ByteArray} (hs : s.size ≤ maxLen) (hg : get s.data.toList L = none) :
    (Instr.lookup t (.map (some b)) (.string s) false).run P w = .ok (.pointer none) w := by
  rw [run_look_ptr w K hk ht hz g L h s hs, hg]
end

/-! ### A region that draws its order, whose operations read or call what keeps a property of the world -/
theorem classOf (S : World → Prop) {w : World} (h : S w) : ∃ (ι : Type) (F : ι → World), Nonempty ι ∧ (∃ n, w = F n) ∧ (∀ n, S (F n)) ∧ ∀ W, S W → ∃ n, W = F n :=
  ⟨{ W : World // S W }, Subtype.val, ⟨⟨w, h⟩⟩, ⟨⟨w, h⟩, rfl⟩, fun n => n.2, fun W h => ⟨⟨W, h⟩, rfl⟩⟩

theorem wp_region_class {P : Program} {ι : Type} (F : ι → World) {id : Nat} {Q : Exit → Act → World → Prop} {a : Act} {w : World} {l : List Oper} (hm : P.follows .mixedOrders = true) (hB : Region.lexB .any l.toArray = true) (h0 : ∃ n, w.drew = F n)
    (h : wpQuiet P l.toArray (fun w' => ∃ n, w' = F n) (fun a' => ∀ w', (∃ n, w' = F n) → Q .normal a' w') l a) : (Code.region id l.toArray true).wp P Q a w :=
  wp_region_quiet (C := fun w' => ∃ n, w' = F n) hm hB h0 (by simpa using h)
end Go.Sat

namespace Go.Proofs.YtngflpaooppmhaaGreat
open Go.RowKit Go.Sat

/-- x is a slice of rows of bytes, wherever they lie. -/
def RowsAt (w : World) (x : Value) (ls : List Bs) : Prop :=
  ∃ p c, x = .slice p ls.length c ∧ ls.length ≤ c ∧ (ls ≠ [] → ∃ b o vs, p = some ⟨b, o, none⟩ ∧ Lib.PartsAt w ⟨b, o, none⟩ vs ls)

theorem fresh_has {B : Nat} {w : World} {v : Value} {l : Bs} (h : Lib.FreshBytes B w v l) : HasB w v l := by
  obtain ⟨g, cap, zs, rfl, _, hl, _, hz, hr, hb, hc, _⟩ := h
  refine HasB.of_kit ⟨some ⟨g, 0, none⟩, cap, rfl, fun e => (by cases e), fun a ha i x hx => ?_⟩
  cases ha
  have hi : i < l.length := (List.getElem?_eq_some_iff.1 hx).1
  rw [add_zero, hc i (by omega)]
  have hzi : i < zs.length := by omega
  have h1 : (zs.take l.length)[i]? = some zs[i] := by rw [List.getElem?_take, if_pos hi, List.getElem?_eq_getElem hzi]
  have h2 : (Lib.bytesOf (zs.take l.length))[i]? = some x := by rw [hb]; exact hx
  simp only [Lib.bytesOf, List.getElem?_map, h1, Option.map_some, Option.some.injEq] at h2
  have h3 := hr zs[i] (List.getElem_mem hzi)
  have h4 : zs.getD i 0 = zs[i] := by simp [List.getD, List.getElem?_eq_getElem hzi]
  rw [h4, ← h2]
  congr 2
  simp
  omega

theorem join_flat (ls : List Bs) : Lib.join ls [] = ls.flatten := by
  cases ls with
  | nil => rfl
  | cons x r =>
    rw [Lib.join_cons]
    simp [Lib.joinTail]

theorem flat_len (ls : List Bs) : ls.flatten.length = Lib.lens ls := by simp [Lib.lens, List.length_flatten]

/-- bytes.Join of rows, with nothing between them. -/
theorem bjoin {w : World} {x : Value} {ls : List Bs} (h : RowsAt w x ls) (hn : ls.length ≤ 140737488355328) (hl : ls.flatten.length ≤ 140737488355328) :
    Calls Tryz.prog 141 #[x, .slice none 0 0] w fun e w' => ∃ v, e = .returned v ∧ HasB w' v ls.flatten ∧ Below w.heap.size w w' := by
  obtain ⟨p, c, rfl, hc, hQ⟩ := h
  cases ls with
  | nil =>
    refine (Tryz.bytes_Join_none p c (.slice none 0 0) w).mono ?_
    rintro e w' ⟨rfl, rfl⟩
    refine ⟨_, rfl, ?_, (Below.refl _ _).alloc (Nat.le_refl _) _⟩
    exact HasB.of_kit ⟨_, _, rfl, fun e => (by cases e), fun a ha i x hx => by simp at hx⟩
  | cons l0 r =>
    obtain ⟨b, o, vs, rfl, hP⟩ := hQ (by simp)
    cases r with
    | nil =>
      obtain ⟨p0, c0, l0', e0, hcell, hp0, hcs⟩ := hP.get 0 (by simp)
      simp at e0
      subst e0
      have hcell' : w.cell? ⟨b, o, none⟩ = some (.slice p0 l0.length c0) := by simpa [Addr.add] using hcell
      by_cases h0 : l0.length = 0
      · have hl0 : l0 = [] := List.eq_nil_of_length_eq_zero h0
        subst hl0
        refine (Tryz.bytes_Join_one_empty b o c p0 c0 (.slice none 0 0) w hcell').mono ?_
        rintro e w' ⟨rfl, rfl⟩
        exact ⟨_, rfl, HasB.of_kit ⟨none, 0, rfl, fun _ => rfl, fun a ha => (by cases ha)⟩, Below.refl _ _⟩
      · obtain ⟨a0, rfl⟩ : ∃ a, p0 = some a := by
          cases p0 with
          | none => exact absurd (by rw [hp0 rfl]; rfl) h0
          | some a => exact ⟨a, rfl⟩
        refine (Tryz.bytes_Join_one b o c a0 c0 l0 (.slice none 0 0) w hcell' (hcs a0 rfl) (by omega) (by simpa using hl)).mono ?_
        rintro e w' ⟨v, rfl, hf, hb⟩
        exact ⟨v, rfl, by simpa using fresh_has hf, hb⟩
    | cons l1 r =>
      have hsep : Lib.HoldsBytes w (.slice none 0 0) [] := ⟨none, 0, rfl, fun _ => rfl, fun a ha => (by cases ha)⟩
      refine (Tryz.bytes_Join_many b o _ c vs (l0 :: l1 :: r) (.slice none 0 0) [] w rfl (by simp) hP hc hsep hn (by rw [← flat_len]; simpa using hl)).mono ?_
      rintro e w' ⟨v, rfl, hf, hb⟩
      rw [join_flat] at hf
      exact ⟨v, rfl, fresh_has hf, hb⟩

set_option maxHeartbeats 400000 in
/-- octet.Join. -/
theorem join_calls {w : World} {x : Value} {ls : List Bs} (h : RowsAt w x ls) (hn : ls.length ≤ 140737488355328) (hl : ls.flatten.length ≤ 140737488355328) :
    Calls Tryz.prog 132 #[x] w fun e w' => ∃ v, e = .returned v ∧ HasB w' v ls.flatten ∧ Below w.heap.size w w' := by
  have hj := bjoin h hn hl
  obtain ⟨p, c, rfl, hc, hP⟩ := h
  have Hj := Lib.hid hj
  clear hj hP
  go_enter Tryz.func132, Tryz.ntmps132
  go_wp2_with fail
  refine Hj.out.mono ?_
  rintro e w' ⟨v, rfl, hv, hb⟩
  go_wp2_with fail
  go_ret
  exact ⟨v, rfl, hv, hb⟩

/-- bytes.Clone. -/
theorem clone_calls {w : World} {x : Value} {l : Bs} (h : HasB w x l) (hl : l.length ≤ 140737488355328) :
    Calls Tryz.prog 72 #[x] w fun e w' => ∃ v, e = .returned v ∧ OwnB w' 5 v l ∧ (∀ k, v.ownBlock = some k → w.heap.size ≤ k) ∧ Below w.heap.size w w' := by
  obtain ⟨p, cap, rfl, h0, hc⟩ := h.kit
  cases p with
  | none =>
    have := h0 rfl
    subst this
    refine (Tryz.bytes_Clone_nil _ cap w).mono ?_
    rintro e w' ⟨rfl, rfl⟩
    exact ⟨_, rfl, OwnR.nil _ _ _, fun k hk => (by cases hk), Below.refl _ _⟩
  | some a =>
    refine (Tryz.bytes_Clone_at a l.length cap (Lib.numsL l) w (Lib.numsL_length l) hl fun i hi => ?_).mono ?_
    · rw [hc a rfl i l[i] (List.getElem?_eq_getElem hi)]
      simp [Lib.numsL, List.getD, List.getElem?_map, List.getElem?_eq_getElem hi]
    · rintro e w' ⟨v, rfl, hown, _, hb⟩
      have e1 : (Lib.numsL l).map (Value.int .u8) = bytesV l := by simp [Lib.numsL, bytesV]
      rw [e1] at hown
      exact ⟨v, rfl, OwnR.of_kit hown, fun k hk => OwnR.block_ge hown hk, hb⟩
end Go.Proofs.YtngflpaooppmhaaGreat

namespace Go.Proofs.YtngflpaooppmhaaGreat
open Go.RowKit Go.Sat Go.ChangeShapes Go.WideShapes Go.ChangeAt Go.Deep

theorem bytes_at {W : World} {a : Addr} {zs : List Int} {cap len : Nat} (hl : len ≤ cap) (hz : zs.length = cap) (hcell : ∀ i, i < cap → W.cell? (a.add i) = some (.int .u8 (zs.getD i 0))) (hwf : ∀ n ∈ zs, (Lit.int .u8 n).wf = true) (c : Nat) :
    HasB W (.slice (some a) len c) (Lib.bytesOf (zs.take len)) ∧ (Lib.bytesOf (zs.take len)).length = len := by
  have hlen : (Lib.bytesOf (zs.take len)).length = len := by simp only [Lib.bytesOf, List.length_map, List.length_take]; omega
  refine ⟨?_, hlen⟩
  refine HasB.of_kit ⟨some a, c, by rw [hlen], fun e => (by cases e), fun a' ha i x hx => ?_⟩
  cases ha
  have hi : i < len := by rw [← hlen]; exact (List.getElem?_eq_some_iff.1 hx).1
  have hiz : i < zs.length := by omega
  rw [hcell i (by omega)]
  have h1 : zs.getD i 0 = zs[i] := by simp [List.getD, List.getElem?_eq_getElem hiz]
  have h2 : (Lib.bytesOf (zs.take len))[i]? = some (UInt8.ofNat zs[i].toNat) := by
    simp only [Lib.bytesOf, List.getElem?_map, List.getElem?_take, if_pos hi, List.getElem?_eq_getElem hiz, Option.map_some]
  rw [h2] at hx
  simp only [Option.some.injEq] at hx
  rw [h1, ← hx]
  have h3 := hwf zs[i] (List.getElem_mem hiz)
  have h4 := bounds_u8 h3
  simp
  omega

theorem weights_head {P : Program} {H : Type} {t e : TypeId} {elems spare : List (DataW H)} (ht : P.underlying t = some (.slice e)) {B : Nat} (h : ∀ n ∈ (DataW.slice elems spare).weights P t, n ≤ B) : (elems.length + spare.length) * P.bytesOf e ≤ B :=
  h _ (by simp [DataW.weights, ht])

theorem weights_in {P : Program} {H : Type} {e : TypeId} {d : DataW H} {n : Nat} (hn : n ∈ d.weights P e) : ∀ {elems : List (DataW H)}, d ∈ elems → n ∈ DataW.weightsAll P e elems
  | [], h => by simp at h
  | x :: r, h => by
    simp only [DataW.weightsAll, List.mem_append]
    rcases List.mem_cons.1 h with rfl | h
    · exact .inl hn
    · exact .inr (weights_in hn h)

theorem weights_elem {P : Program} {H : Type} {t e : TypeId} {elems spare : List (DataW H)} (ht : P.underlying t = some (.slice e)) {B : Nat} (h : ∀ n ∈ (DataW.slice elems spare).weights P t, n ≤ B) {d : DataW H} (hd : d ∈ elems) : ∀ n ∈ d.weights P e, n ≤ B :=
  fun n hn => h n (by simp [DataW.weights, ht, weights_in hn hd])

section
variable {H : Type} {enc : TypeId × Value → H} {W : World} {fuel : Nat} {d : DataW H} {ps : List MemPlace}

/-- A []byte. -/
theorem bytes_arg {a : Option Addr} {len cap : Nat} (hf : DataW.trod enc Tryz.prog W 0 (fun _ => true) true fuel 23 [.slice a len cap] = some (d, ps)) (hw : ∀ n ∈ d.weights Tryz.prog 23, n ≤ reachBytes) :
    ∃ l, HasB W (.slice a len cap) l ∧ l.length ≤ 140737488355328 := by
  rcases open_ints Tryz.underlying23 Tryz.underlying5 (by kernel_rfl) hf with ⟨hcs, _⟩ | ⟨x, l, c, zs, hcs, _, hl, hm, hz, hd, hcell, hwz⟩
  · simp at hcs
    obtain ⟨rfl, rfl, rfl⟩ := hcs
    exact ⟨[], ⟨by simp [bytesV], none, 0, rfl, fun _ => rfl, fun a ha => by cases ha⟩, by simp⟩
  · simp at hcs
    obtain ⟨rfl, rfl, rfl⟩ := hcs
    simp only [if_true] at hz
    obtain ⟨h1, h2⟩ := bytes_at hl hz (fun i hi => hcell i (by omega)) hwz cap
    refine ⟨_, h1, ?_⟩
    simp only [Prod.mk.injEq] at hd
    obtain ⟨rfl, _⟩ := hd
    have hb := weights_head Tryz.underlying23 hw
    rw [show Tryz.prog.bytesOf 5 = 1 by kernel_rfl] at hb
    simp only [lits, List.length_map, List.length_take, List.length_drop] at hb
    rw [h2]
    unfold reachBytes at hb
    omega

/-- A [][]byte. -/
theorem rows_arg {a : Option Addr} {len cap : Nat} (hf : DataW.trod enc Tryz.prog W 0 (fun _ => true) true fuel 22 [.slice a len cap] = some (d, ps)) (hw : ∀ n ∈ d.weights Tryz.prog 22, n ≤ reachBytes) :
    ∃ ls, RowsAt W (.slice a len cap) ls ∧ len ≤ 140737488355328 ∧ ∀ l ∈ ls, l.length ≤ 140737488355328 := by
  rcases open_int_rows Tryz.underlying22 Tryz.underlying23 Tryz.underlying5 (by kernel_rfl) (by kernel_rfl) hf with ⟨hcs, _⟩ | ⟨x, l, c, A, L, C, Z, hcs, _, hl, hm, hd, hrow⟩
  · simp at hcs
    obtain ⟨rfl, rfl, rfl⟩ := hcs
    exact ⟨[], ⟨none, 0, rfl, Nat.le_refl _, fun h => absurd rfl h⟩, by simp, by simp⟩
  · simp at hcs
    obtain ⟨rfl, rfl, rfl⟩ := hcs
    simp only [Prod.mk.injEq] at hd
    obtain ⟨rfl, _⟩ := hd
    have hb := weights_head Tryz.underlying22 hw
    rw [show Tryz.prog.bytesOf 23 = 24 by kernel_rfl] at hb
    simp only [List.length_map, List.length_range] at hb
    unfold reachBytes at hb
    have hlen : len ≤ 140737488355328 := by omega
    have hC : ∀ r, r < len → C r ≤ 140737488355328 := fun r hr => by
      obtain ⟨_, hLC, _, hZ, _, hnone, _⟩ := hrow r (by omega)
      cases hA : A r with
      | none => rw [hnone hA]; exact Nat.zero_le _
      | some a' =>
        have h1 := weights_elem Tryz.underlying22 hw (d := intRow .u8 (A r) (L r) (Z r)) (List.mem_map.2 ⟨r, List.mem_range.2 hr, rfl⟩)
        rw [hA] at h1
        have h2 := weights_head Tryz.underlying23 h1
        rw [show Tryz.prog.bytesOf 5 = 1 by kernel_rfl] at h2
        simp only [lits, List.length_map, List.length_take, List.length_drop] at h2
        unfold reachBytes at h2
        omega
    refine ⟨(List.range len).map fun r => Lib.bytesOf ((Z r).take (L r)), ⟨some x, cap, by simp, by simpa using hl, fun hne => ?_⟩, hlen, fun l hl => ?_⟩
    · have h0 : 0 < len := by
        cases len with
        | zero => simp at hne
        | succ n => omega
      have hc0 := (hrow 0 (by omega)).1
      obtain ⟨b, o, sp⟩ := x
      have hsp : sp = none := by
        have := World.cell?_spot hc0
        simpa [Addr.add] using this
      subst hsp
      refine ⟨b, o, (List.range len).map fun r => .slice (A r) (L r) (C r), rfl, by simp, fun i v hv => ?_, fun i v l hv hl => ?_⟩
      · simp only [List.getElem?_map, Option.map_eq_some_iff] at hv
        obtain ⟨r, hr, rfl⟩ := hv
        have hri : r = i := by
          have := List.getElem?_eq_some_iff.1 hr
          obtain ⟨_, e⟩ := this
          simpa using e.symm
        subst hri
        have hrl : r < len := by
          have := (List.getElem?_eq_some_iff.1 hr).1
          simpa using this
        exact (hrow r (by omega)).1
      · simp only [List.getElem?_map, Option.map_eq_some_iff] at hv hl
        obtain ⟨r, hr, rfl⟩ := hv
        obtain ⟨r', hr', rfl⟩ := hl
        have : r = r' := by rw [hr] at hr'; exact Option.some.inj hr'
        subst this
        have hrl : r < len := List.mem_range.1 (List.mem_of_getElem? hr)
        obtain ⟨_, hLC, _, hZ, hwz, hnone, hcell⟩ := hrow r (by omega)
        cases hA : A r with
        | none =>
          have hC0 := hnone hA
          have hL0 : L r = 0 := by omega
          rw [hL0]
          exact ⟨none, C r, rfl, fun _ => by simp [Lib.bytesOf], fun a ha => by cases ha⟩
        | some a' => exact (bytes_at hLC hZ (fun i hi => (hcell a' hA).2 i hi) hwz (C r)).1.kit
    · obtain ⟨r, hr, rfl⟩ := List.mem_map.1 hl
      have hrl : r < len := List.mem_range.1 hr
      have := hC r hrl
      obtain ⟨_, hLC, _, hZ, _⟩ := hrow r (by omega)
      simp only [Lib.bytesOf, List.length_map, List.length_take]
      omega
end
end Go.Proofs.YtngflpaooppmhaaGreat

namespace Go.Sat

/-- A number as bytes. -/
def numB (n : Nat) : Bs := if n < 128 then [UInt8.ofNat n] else UInt8.ofNat (n % 128 + 128) :: numB (n / 128)
termination_by n
decreasing_by omega

/-- Any number as bytes. -/
def numI (v : Int) : Bs := numB (max 0 (min v 4611686018427387904)).toNat
def numsI (l : List Int) : Bs := (l.map numI).flatten
/-- Bytes, their length ahead of them. -/
def rowB (p : Bs) : Bs := numB p.length ++ p

theorem numB_small {n : Nat} (h : n < 128) : numB n = [UInt8.ofNat n] := by rw [numB, if_pos h]
theorem numB_more {n : Nat} (h : 128 ≤ n) : numB n = UInt8.ofNat (n % 128 + 128) :: numB (n / 128) := by rw [numB, if_neg (by omega)]
theorem numI_nat {n : Nat} (h : n ≤ 4611686018427387904) : numI (n : Int) = numB n := by
  unfold numI
  congr 1
  omega

theorem numB_len (n : Nat) : 1 ≤ (numB n).length := by
  rw [numB]
  split <;> simp

theorem numB_le (k : Nat) : ∀ n, n < 128 ^ (k + 1) → (numB n).length ≤ k + 1 := by
  induction k with
  | zero =>
    intro n h
    rw [numB_small (by simpa using h)]
    simp
  | succ k ih =>
    intro n h
    by_cases hn : n < 128
    · rw [numB_small hn]
      simp
    · rw [numB_more (by omega), List.length_cons]
      have := ih (n / 128) (by rw [Nat.div_lt_iff_lt_mul (by decide), ← Nat.pow_succ]; exact h)
      omega

theorem numB_nine {n : Nat} (h : n ≤ 4611686018427387904) : (numB n).length ≤ 9 := numB_le 8 n (Nat.lt_of_le_of_lt h (by decide))

/-- The number that bytes begin with, and what is behind it. -/
def numGo : Nat → Nat → Bs → Option (Nat × Bs)
  | _, _, [] => none
  | i, u, c :: r => if 9 ≤ i ∨ (0 < i ∧ c = 0) then none
    else if c.toNat < 128 then (if 4611686018427387904 < u + c.toNat * 128 ^ i then none else some (u + c.toNat * 128 ^ i, r))
    else numGo (i + 1) (u + c.toNat % 128 * 128 ^ i) r

theorem numGo_num (n : Nat) : ∀ (i u : Nat) (r : Bs), (0 < i → 0 < n) → u + n * 128 ^ i ≤ 4611686018427387904 → numGo i u (numB n ++ r) = some (u + n * 128 ^ i, r) := by
  induction n using Nat.strongRecOn with
  | ind n ih =>
    intro i u r h0 hm
    have hi : ¬ 9 ≤ i ∨ n = 0 := by
      by_cases hn : n = 0
      · exact .inr hn
      · refine .inl fun h9 => ?_
        have h1 : 128 ^ 9 ≤ 128 ^ i := Nat.pow_le_pow_right (by decide) h9
        have h2 : 1 * 128 ^ 9 ≤ n * 128 ^ i := Nat.mul_le_mul (by omega) h1
        have h3 : (128 : Nat) ^ 9 = 9223372036854775808 := by decide
        omega
    by_cases hn : n < 128
    · rw [numB_small hn]
      show (if _ then _ else _) = _
      have e : (UInt8.ofNat n).toNat = n := by rw [UInt8.toNat_ofNat']; omega
      have hc : ¬ (9 ≤ i ∨ (0 < i ∧ UInt8.ofNat n = 0)) := by
        rintro (h | ⟨h1, h2⟩)
        · rcases hi with h' | h'
          · exact h' h
          · have := h0 (by omega)
            omega
        · have h3 := congrArg UInt8.toNat h2
          rw [e] at h3
          have := h0 h1
          simp at h3
          omega
      rw [if_neg hc, e, if_pos hn, if_neg (by omega)]
      rfl
    · rw [numB_more (by omega)]
      show (if _ then _ else _) = _
      have e : (UInt8.ofNat (n % 128 + 128)).toNat = n % 128 + 128 := by rw [UInt8.toNat_ofNat']; omega
      have hc : ¬ (9 ≤ i ∨ (0 < i ∧ UInt8.ofNat (n % 128 + 128) = 0)) := by
        rintro (h | ⟨h1, h2⟩)
        · rcases hi with h' | h' <;> omega
        · have h3 := congrArg UInt8.toNat h2
          rw [e] at h3
          simp at h3
      rw [if_neg hc, e, if_neg (by omega)]
      have hs : u + (n % 128 + 128) % 128 * 128 ^ i + n / 128 * 128 ^ (i + 1) = u + n * 128 ^ i := by
        have h1 : n = n % 128 + 128 * (n / 128) := by omega
        have h2 : n * 128 ^ i = n % 128 * 128 ^ i + n / 128 * 128 ^ (i + 1) := by
          conv => lhs; rw [h1]
          rw [Nat.add_mul, Nat.pow_succ, Nat.mul_comm 128 (n / 128), Nat.mul_assoc, Nat.mul_comm 128 (128 ^ i)]
        rw [show (n % 128 + 128) % 128 = n % 128 by omega]
        omega
      have := ih (n / 128) (by omega) (i + 1) (u + (n % 128 + 128) % 128 * 128 ^ i) r (fun _ => by omega) (by rw [hs]; exact hm)
      rw [hs] at this
      exact this

theorem numGo_some : ∀ (l : Bs) (i u n : Nat) (r : Bs), numGo i u l = some (n, r) → n ≤ 4611686018427387904 ∧ ∃ k, 0 < k ∧ k ≤ l.length ∧ r = l.drop k := by
  intro l
  induction l with
  | nil => intro i u n r h; cases h
  | cons c l ih =>
    intro i u n r h
    unfold numGo at h
    split at h
    · cases h
    · split at h
      · split at h
        · cases h
        · cases h
          exact ⟨by omega, 1, by decide, by simp, rfl⟩
      · obtain ⟨h1, k, hk0, hk, hr⟩ := ih _ _ _ _ h
        exact ⟨h1, k + 1, by omega, by simpa using hk, by rw [hr]; rfl⟩

/-- What reads: what is left, whether it erred. -/
structure Rd where
  rest : Bs
  bad : Bool

namespace Rd
def fail : Rd := ⟨[], true⟩
def num (R : Rd) : Nat × Rd := match numGo 0 0 R.rest with
  | some (n, r) => (n, ⟨r, R.bad⟩)
  | none => (0, fail)
def raw (R : Rd) (n : Nat) : Bs × Rd := if n ≤ R.rest.length then (R.rest.take n, ⟨R.rest.drop n, R.bad⟩) else ([], fail)
def bytes (R : Rd) : Bs × Rd := R.num.2.raw R.num.1
def whole (R : Rd) : Bool := !R.bad && R.rest.isEmpty

theorem num_le (R : Rd) : R.num.1 ≤ 4611686018427387904 := by
  unfold num
  split
  · exact (numGo_some _ _ _ _ _ ‹_›).1
  · exact Nat.zero_le _

theorem num_rest (R : Rd) : R.num.2.rest.length ≤ R.rest.length := by
  unfold num
  split
  · obtain ⟨-, k, -, hk, hr⟩ := numGo_some _ _ _ _ _ ‹_›
    simp only [hr, List.length_drop]
    omega
  · exact Nat.zero_le _

theorem num_of {n : Nat} (h : n ≤ 4611686018427387904) (r : Bs) (b : Bool) : num ⟨numB n ++ r, b⟩ = (n, ⟨r, b⟩) := by
  unfold num
  have := numGo_num n 0 0 r (fun h => absurd h (by decide)) (by simpa using h)
  simp only [this]
  simp

theorem raw_of (p r : Bs) (b : Bool) : raw ⟨p ++ r, b⟩ p.length = (p, ⟨r, b⟩) := by
  unfold raw
  rw [if_pos (by simp)]
  simp

theorem bytes_of {p : Bs} (h : p.length ≤ 4611686018427387904) (r : Bs) (b : Bool) : bytes ⟨rowB p ++ r, b⟩ = (p, ⟨r, b⟩) := by
  unfold bytes rowB
  rw [List.append_assoc, num_of h, raw_of]
end Rd
end Go.Sat

namespace Go.Proofs.YtngflpaooppmhaaGreat
open Go.RowKit Go.Sat Go.Maps

/-! ### The model -/
structure FileM where
  data : Bs
  lasts : Nat

structure DiskM where
  room : Nat
  files : List (Bs × FileM)
  fuse : Option Nat

def okN (n : Bs) : Bool := decide (1 ≤ n.length) && decide (n.length ≤ 64)

namespace DiskM
def size (f : FileM) : Nat := f.data.length
def used (D : DiskM) : Nat := sumBy size D.files
def may (D : DiskM) (ns : List Bs) : Nat := if D.fuse = some 0 then 9 else if ns.all okN then 0 else 1
def done (D : DiskM) : DiskM := { D with fuse := D.fuse.map (· - 1) }
def cur (D : DiskM) (n : Bs) : FileM := (get n D.files).getD ⟨[], 0⟩
def full (D : DiskM) (n b : Bs) : Bool := decide (D.room < D.used + b.length) || ((get n D.files).isNone && decide (4096 ≤ D.files.length))
def append (D : DiskM) (n b : Bs) : DiskM × Nat :=
  if D.may [n] ≠ 0 then (D, D.may [n])
  else if D.full n b then (D, 6)
  else (done { D with files := put n ⟨(D.cur n).data ++ b, (D.cur n).lasts⟩ D.files }, 0)
/-- One of several names: a thing is done with the file that is there. -/
def each1 (g : Bs → FileM → List (Bs × FileM) → List (Bs × FileM)) (D : DiskM) (n : Bs) : DiskM × Nat :=
  if D.may [n] ≠ 0 then (D, D.may [n])
  else match get n D.files with
    | none => (D, 7)
    | some f => (done { D with files := g n f D.files }, 0)
def each (g : Bs → FileM → List (Bs × FileM) → List (Bs × FileM)) (D : DiskM) : List Bs → DiskM × Nat
  | [] => (D, 0)
  | n :: r => if (each1 g D n).2 = 0 then each g (each1 g D n).1 r else each1 g D n
def gSync (n : Bs) (f : FileM) (L : List (Bs × FileM)) : List (Bs × FileM) := put n ⟨f.data, f.data.length⟩ L
def gRemove (n : Bs) (_ : FileM) (L : List (Bs × FileM)) : List (Bs × FileM) := del n L
def sync (D : DiskM) (ns : List Bs) : DiskM × Nat := D.each gSync ns
def remove (D : DiskM) (ns : List Bs) : DiskM × Nat := D.each gRemove ns
def truncate (D : DiskM) (n : Bs) (k : Int) : DiskM × Nat :=
  if D.may [n] ≠ 0 then (D, D.may [n])
  else match get n D.files with
    | none => (D, 7)
    | some f => if k < 0 ∨ (f.data.length : Int) < k then (D, 1)
      else (done { D with files := put n ⟨f.data.take k.toNat, min f.lasts k.toNat⟩ D.files }, 0)
def rename (D : DiskM) (o n : Bs) : DiskM × Nat :=
  if D.may [o, n] ≠ 0 then (D, D.may [o, n])
  else match get o D.files with
    | none => (D, 7)
    | some f => (done { D with files := put n f (del o D.files) }, 0)
def stays (f : FileM) (k : Int) : Nat := f.lasts + (max 0 k).toNat % (f.data.length - f.lasts + 1)
def crashF (k : Int) (f : FileM) : FileM := ⟨f.data.take (stays f k), stays f k⟩
def crash (D : DiskM) (k : Int) : DiskM := { D with files := mp (crashF k) D.files, fuse := none }
def fresh (room : Nat) : DiskM := ⟨room, [], none⟩
structure OK (D : DiskM) : Prop where
  srt : Srt D.files
  room : D.room ≤ 1073741824
  used : D.used ≤ D.room
  count : D.files.length ≤ 4096
  names : ∀ p ∈ D.files, okN p.1 = true
  lasts : ∀ p ∈ D.files, p.2.lasts ≤ p.2.data.length
  fuse : ∀ k, D.fuse = some k → k ≤ 9223372036854775807
end DiskM

/-! ### In memory -/
abbrev Own := Nat → Option (Nat × Bs)

structure FRep where
  fb : Nat
  v : Value
  f : FileM

structure FileAt (w : World) (own : Own) (n : Bs) (r : FRep) : Prop where
  cells : w.heap[r.fb]? = some (.cells #[r.v, .int .i64 (r.f.lasts : Int)] 147 (0, 0))
  ob : own r.fb = some (2, n)
  row : OwnB w 5 r.v r.f.data
  og : ∀ g, r.v.ownBlock = some g → own g = some (3, n)

def fbD (r : FRep) : DataW Nat := .held r.fb

structure DiskIn (w : World) (d m : Nat) (left : Int) (L : List (Bs × FRep)) (own : Own) (D : DiskM) : Prop where
  cells : w.heap[d]? = some (.cells #[.int .i64 (D.room : Int), .map (some m), .bool D.fuse.isSome, .int .i64 left] 62 (0, 0))
  left : ∀ k, D.fuse = some k → left = (k : Int)
  map : w.ownsMap Tryz.prog 9 ptrR m L.length (dm fbD L)
  files : D.files = mp FRep.f L
  srt : Srt L
  file : ∀ p ∈ L, FileAt w own p.1 p.2
  od : own d = some (0, [])
  om : own m = some (1, [])
  olt : ∀ k t, own k = some t → k < w.heap.size
  ok : D.OK

def DiskAt (w : World) (d : Nat) (D : DiskM) (own : Own) : Prop := ∃ m left L, DiskIn w d m left L own D

/-- own' owns what own did, or what is new. -/
def Ext (w : World) (own own' : Own) : Prop := ∀ k, k < w.heap.size → own k = none → own' k = none

def Has (own : Own) (k : Nat) : Prop := own k ≠ none

theorem FileAt.keep {w w' : World} {own : Own} {n : Bs} {r : FRep} (h : FileAt w own n r) (hb : ∀ k, own k ≠ none → w'.heap[k]? = w.heap[k]?) : FileAt w' own n r :=
  ⟨(hb _ (by rw [h.ob]; simp)).trans h.cells, h.ob, h.row.keep fun k hk => hb k (by rw [h.og k hk]; simp), h.og⟩

theorem DiskIn.keep {w w' : World} {d m : Nat} {left : Int} {L : List (Bs × FRep)} {own : Own} {D : DiskM} (h : DiskIn w d m left L own D) (hs : w.heap.size ≤ w'.heap.size)
    (hb : ∀ k, own k ≠ none → w'.heap[k]? = w.heap[k]?) : DiskIn w' d m left L own D where
  cells := (hb d (by rw [h.od]; simp)).trans h.cells
  left := h.left
  map := by
    obtain ⟨es, clock, hm, r⟩ := h.map
    exact ⟨es, clock, (hb m (by rw [h.om]; simp)).trans hm, r⟩
  files := h.files
  srt := h.srt
  file p hp := (h.file p hp).keep hb
  od := h.od
  om := h.om
  olt k t hk := Nat.lt_of_lt_of_le (h.olt k t hk) hs
  ok := h.ok

theorem DiskIn.chg {w w' : World} {S : Nat → Prop} {d m : Nat} {left : Int} {L : List (Bs × FRep)} {own : Own} {D : DiskM} (h : DiskIn w d m left L own D) (hc : Chg S w w') (hS : ∀ k, S k → own k = none) :
    DiskIn w' d m left L own D :=
  h.keep hc.size fun k hk => hc.block k (by
    cases ho : own k with
    | none => exact absurd ho hk
    | some t => exact h.olt k t ho) fun s => hk (hS k s)

theorem DiskAt.chg {w w' : World} {S : Nat → Prop} {d : Nat} {own : Own} {D : DiskM} (h : DiskAt w d D own) (hc : Chg S w w') (hS : ∀ k, S k → own k = none) : DiskAt w' d D own := by
  obtain ⟨m, left, L, h⟩ := h
  exact ⟨m, left, L, h.chg hc hS⟩

section
variable {w : World} {d m : Nat} {left : Int} {L : List (Bs × FRep)} {own : Own} {D : DiskM}

theorem DiskIn.c0 (h : DiskIn w d m left L own D) : w.cell? ⟨d, 0, none⟩ = some (.int .i64 (D.room : Int)) := cell_of h.cells rfl
theorem DiskIn.c1 (h : DiskIn w d m left L own D) : w.cell? ⟨d, 1, none⟩ = some (.map (some m)) := cell_of h.cells rfl
theorem DiskIn.c2 (h : DiskIn w d m left L own D) : w.cell? ⟨d, 2, none⟩ = some (.bool D.fuse.isSome) := cell_of h.cells rfl
theorem DiskIn.c3 (h : DiskIn w d m left L own D) : w.cell? ⟨d, 3, none⟩ = some (.int .i64 left) := cell_of h.cells rfl

theorem DiskIn.get (h : DiskIn w d m left L own D) (n : Bs) : Sat.get n D.files = (Sat.get n L).map FRep.f := by rw [h.files, mp_get]
theorem DiskIn.len (h : DiskIn w d m left L own D) : D.files.length = L.length := by rw [h.files, mp_len]
theorem DiskIn.used (h : DiskIn w d m left L own D) : D.used = sumBy (fun r : FRep => r.f.data.length) L := by
  unfold DiskM.used
  rw [h.files, mp_sum]
  rfl
theorem DiskIn.dlt (h : DiskIn w d m left L own D) : d < w.heap.size := h.olt d _ h.od
theorem DiskIn.mlt (h : DiskIn w d m left L own D) : m < w.heap.size := h.olt m _ h.om
theorem DiskIn.dm_ne (h : DiskIn w d m left L own D) : d ≠ m := by
  intro e
  have h1 := h.od
  rw [e, h.om] at h1
  simp at h1
end

theorem le_sum {α : Type} {f : α → Nat} {L : List (Bs × α)} {n : Bs} {a : α} (h : Srt L) (hg : get n L = some a) : f a ≤ sumBy f L := by
  rw [sum_del (f := f) h hg]
  omega

end Go.Proofs.YtngflpaooppmhaaGreat

namespace Go.Proofs.YtngflpaooppmhaaGreat
open Go.RowKit Go.Sat Go.Maps

theorem keyLaw : Keyed Tryz.prog 9 := string_keyed Tryz.underlying9
theorem zeroFile (w : World) : (zeroValue 145).run Tryz.prog w = .ok (.pointer none) w := by kernel_rfl

/-! ### New -/
set_option maxHeartbeats 400000 in
theorem new_walk (n : Int) (w : World) (h0 : 0 ≤ n) (h1 : n ≤ 1073741824) :
    Calls Tryz.prog 6 #[.int .i64 n] w fun e w' => e = .returned (.tuple #[.pointer (some ⟨w.heap.size + 1, 0, none⟩), .int .i64 0]) ∧ w' = (w.alloc (.map #[] 0)).alloc (.cells #[.int .i64 n, .map (some w.heap.size), .bool false, .int .i64 0] 62) := by
  have hmm := @run_makeMap Tryz.prog
  go_enter Tryz.func6, Tryz.ntmps6
  go_wp2
  go_ret2
  exact ⟨rfl, rfl⟩

theorem ok_fresh (n : Nat) (h : n ≤ 1073741824) : (DiskM.fresh n).OK where
  srt := srt_nil
  room := h
  used := Nat.zero_le _
  count := Nat.zero_le _
  names p hp := by simp [DiskM.fresh] at hp
  lasts p hp := by simp [DiskM.fresh] at hp
  fuse k hk := by simp [DiskM.fresh] at hk

/-- disk.New: a new disk, of new blocks alone. -/
theorem new_calls (n : Int) (w : World) (h0 : 0 ≤ n) (h1 : n ≤ 1073741824) :
    Calls Tryz.prog 6 #[.int .i64 n] w fun e w' => ∃ d own, e = .returned (.tuple #[.pointer (some ⟨d, 0, none⟩), .int .i64 0]) ∧ DiskAt w' d (DiskM.fresh n.toNat) own ∧ Chg (fun _ => False) w w' ∧
      (∀ k, k < w.heap.size → own k = none) := by
  refine (new_walk n w h0 h1).mono ?_
  rintro e w' ⟨rfl, rfl⟩
  refine ⟨w.heap.size + 1, fun k => if k = w.heap.size + 1 then some (0, []) else if k = w.heap.size then some (1, []) else none, rfl, ⟨w.heap.size, 0, [], ?_⟩, ((Chg.alloc w _).trans (Chg.alloc _ _) fun _ _ h => h), fun k hk => ?_⟩
  · have hs : (w.alloc (.map #[] 0)).heap.size = w.heap.size + 1 := by simp
    refine ⟨?_, fun k hk => by simp [DiskM.fresh] at hk, ?_, rfl, srt_nil, fun p hp => by simp at hp, by simp, by simp, fun k t hk => ?_, ok_fresh _ (by omega)⟩
    · have := new_block (w.alloc (.map #[] 0)) (.cells #[.int .i64 n, .map (some w.heap.size), .bool false, .int .i64 0] 62)
      rw [hs] at this
      rw [this]
      simp only [DiskM.fresh, Option.isSome_none]
      rw [show ((n.toNat : Int)) = n by omega]
    · exact (World.ownsMap_made w Tryz.prog 9 ptrR).alloc _
    · split at hk
      · simp; omega
      · split at hk
        · simp; omega
        · cases hk
  · simp only
    rw [if_neg (by omega), if_neg (by omega)]

/-! ### may -/
def StrsAt (w : World) (p : Option Addr) (ss : List ByteArray) : Prop :=
  ss = [] ∨ ∃ b o, p = some ⟨b, o, none⟩ ∧ ∀ i s, ss[i]? = some s → w.cell? ⟨b, o + i, none⟩ = some (.string s)

def nm (s : ByteArray) : Bs := s.data.toList
theorem nm_len (s : ByteArray) : (nm s).length = s.size := by simp [nm]
def namesE (ss : List ByteArray) : Int := if (ss.map nm).all okN then 0 else 1

theorem okN_nm (s : ByteArray) : okN (nm s) = (decide (1 ≤ s.size) && decide (s.size ≤ 64)) := by simp [okN, nm_len]

set_option maxHeartbeats 400000 in
theorem may_burnt (d : Nat) (p : Option Addr) (n c : Nat) (w : World) (h2 : w.cell? ⟨d, 2, none⟩ = some (.bool true)) (h3 : w.cell? ⟨d, 3, none⟩ = some (.int .i64 0)) :
    Calls Tryz.prog 128 #[.pointer (some ⟨d, 0, none⟩), .slice p n c] w fun e w' => e = .returned (.int .i64 9) ∧ w = w' := by
  go_enter Tryz.func128, Tryz.ntmps128
  go_wp2
  go_ret
  exact ⟨rfl, rfl⟩

theorem take_ok {ss : List ByteArray} {k : Nat} (hlt : k < ss.length) (h : ((ss.take k).map nm).all okN = true) (hk : okN (nm ss[k]) = true) : ((ss.take (k + 1)).map nm).all okN = true := by
  rw [List.take_succ_eq_append_getElem hlt, List.map_append, List.all_append, h]
  simp [hk]

theorem bad_at {ss : List ByteArray} {k : Nat} (hlt : k < ss.length) (hk : okN (nm ss[k]) = false) : namesE ss = 1 := by
  have : (ss.map nm).all okN = false := by
    rw [List.all_eq_false]
    exact ⟨nm ss[k], List.mem_map.2 ⟨_, List.getElem_mem hlt, rfl⟩, by rw [hk]; simp⟩
  simp [namesE, this]

set_option maxHeartbeats 1000000 in
theorem may_names (d : Nat) (p : Option Addr) (ss : List ByteArray) (c : Nat) (w : World) (f : Bool) (l : Int) (h2 : w.cell? ⟨d, 2, none⟩ = some (.bool f)) (h3 : w.cell? ⟨d, 3, none⟩ = some (.int .i64 l))
    (hf : f = false ∨ l ≠ 0) (hs : StrsAt w p ss) (hm : ss.length ≤ 140737488355328) (hsz : ∀ s ∈ ss, s.size ≤ 9223372036854775807) :
    Calls Tryz.prog 128 #[.pointer (some ⟨d, 0, none⟩), .slice p ss.length c] w fun e w' => e = .returned (.int .i64 (namesE ss)) ∧ w = w' := by
  have hfl : f = false ∨ (f = true ∧ (l == 0) = false) := by
    cases f with
    | false => exact .inl rfl
    | true =>
      rcases hf with h | h
      · cases h
      · exact .inr ⟨rfl, by simpa using h⟩
  clear hf
  rcases hfl with rfl | ⟨rfl, hl⟩
  all_goals
    go_enter Tryz.func128, Tryz.ntmps128
    go_wp2
    go_loop [24] (fun i => ∃ k : Nat, k ≤ ss.length ∧ i = .int .i64 k ∧ ((ss.take k).map nm).all okN = true) (fun i => ss.length - (intOf i).toNat)
    case atStart => exact ⟨0, Nat.zero_le _, rfl, rfl⟩
    case round =>
      obtain ⟨k, hk, rfl, hall⟩ := hrel
      by_cases hlt : k < ss.length
      · have hss : ss[k]? = some ss[k] := List.getElem?_eq_getElem hlt
        rcases hs with h | ⟨b, o, rfl, hc⟩
        · subst h
          simp at hlt
        have hcell := hc k _ hss
        have hz : ss[k].size ≤ 9223372036854775807 := hsz _ (List.getElem_mem hlt)
        have Hkey := Lib.hid (take_ok hlt hall)
        have Hno := Lib.hid (bad_at hlt)
        clear hc hsz hall hss
        rw [okN_nm] at Hkey Hno
        generalize ss[k] = s at *
        by_cases h1 : 1 ≤ s.size
        · by_cases h64 : s.size ≤ 64
          · go_wp2
            go_round
            case rel => exact ⟨k + 1, by omega, by go_num, Hkey.out (by simp [h1, h64])⟩
            case measure => simp [intOf]; omega
          · go_wp2
            go_ret
            exact ⟨by rw [Hno.out (by simp [h64])]; rfl, rfl⟩
        · go_wp2
          go_ret
          exact ⟨by rw [Hno.out (by simp [h1])]; rfl, rfl⟩
      · have Hall := Lib.hid hall
        clear hall
        go_wp2
        go_ret
        have h := Hall.out
        rw [List.take_of_length_le (by omega)] at h
        exact ⟨by simp [namesE, h], rfl⟩

/-- may, of a disk: what the model says; nothing is turned. -/
theorem may_calls {w : World} {d m : Nat} {left : Int} {L : List (Bs × FRep)} {own : Own} {D : DiskM} (h : DiskIn w d m left L own D) (p : Option Addr) (ss : List ByteArray) (c : Nat)
    (hs : StrsAt w p ss) (hm : ss.length ≤ 140737488355328) (hsz : ∀ s ∈ ss, s.size ≤ 9223372036854775807) :
    Calls Tryz.prog 128 #[.pointer (some ⟨d, 0, none⟩), .slice p ss.length c] w fun e w' => e = .returned (.int .i64 (D.may (ss.map nm) : Int)) ∧ w = w' := by
  have h2 := h.c2
  have h3 := h.c3
  by_cases hb : D.fuse = some 0
  · have hl := h.left 0 hb
    rw [hb] at h2
    subst hl
    refine (may_burnt d p ss.length c w h2 h3).mono ?_
    rintro e w' ⟨rfl, rfl⟩
    exact ⟨by simp [DiskM.may, hb], rfl⟩
  · have hf : D.fuse.isSome = false ∨ left ≠ 0 := by
      cases hfu : D.fuse with
      | none => exact .inl rfl
      | some k =>
        refine .inr ?_
        rw [h.left k hfu]
        intro e
        have : k = 0 := by omega
        subst this
        exact hb hfu
    refine (may_names d p ss c w _ left h2 h3 hf hs hm hsz).mono ?_
    rintro e w' ⟨rfl, rfl⟩
    refine ⟨?_, rfl⟩
    unfold namesE DiskM.may
    rw [if_neg hb]
    split <;> rfl

/-! ### done -/
set_option maxHeartbeats 400000 in
theorem done_walk (d : Nat) (w : World) (f : Bool) (l : Int) (h2 : w.cell? ⟨d, 2, none⟩ = some (.bool f)) (h3 : w.cell? ⟨d, 3, none⟩ = some (.int .i64 l)) (hz : w.frozen? ⟨d, 3, none⟩ = false) (h1 : f = true → 1 ≤ l ∧ l ≤ 9223372036854775807) :
    Calls Tryz.prog 129 #[.pointer (some ⟨d, 0, none⟩)] w fun e w' => e = .returned (.int .i64 0) ∧ (if f then w.setCell ⟨d, 3, none⟩ (.int .i64 (l - 1)) else w) = w' := by
  cases f with
  | false =>
    go_enter Tryz.func129, Tryz.ntmps129
    go_wp2
    go_ret
    exact ⟨rfl, rfl⟩
  | true =>
    obtain ⟨hl, h9⟩ := h1 rfl
    clear h1
    go_enter Tryz.func129, Tryz.ntmps129
    go_wp2
    go_ret
    exact ⟨rfl, rfl⟩

theorem ok_done {D : DiskM} (h : D.OK) : D.done.OK where
  srt := h.srt
  room := h.room
  used := h.used
  count := h.count
  names := h.names
  lasts := h.lasts
  fuse k hk := by
    simp only [DiskM.done, Option.map_eq_some_iff] at hk
    obtain ⟨j, hj, rfl⟩ := hk
    have := h.fuse j hj
    omega

/-- done, of a disk whose fuse is not burnt. -/
theorem done_calls {w : World} {d m : Nat} {left : Int} {L : List (Bs × FRep)} {own : Own} {D : DiskM} (h : DiskIn w d m left L own D) (hf : D.fuse ≠ some 0) :
    Calls Tryz.prog 129 #[.pointer (some ⟨d, 0, none⟩)] w fun e w' => e = .returned (.int .i64 0) ∧ DiskAt w' d D.done own ∧ Chg (fun k => k = d) w w' := by
  refine (done_walk d w _ left h.c2 h.c3 (frozen_of h.cells 3) ?_).mono ?_
  · intro hs
    cases hfu : D.fuse with
    | none => rw [hfu] at hs; cases hs
    | some k =>
      rw [h.left k hfu]
      have : k ≠ 0 := fun e => hf (by rw [hfu, e])
      have := h.ok.fuse k hfu
      omega
  · rintro e w' ⟨rfl, rfl⟩
    refine ⟨rfl, ?_, ?_⟩
    · cases hfu : D.fuse with
      | none =>
        refine ⟨m, left, L, ?_⟩
        have hd : D.done = D := by
          cases D
          simp only at hfu
          subst hfu
          rfl
        rw [hd]
        exact h
      | some k =>
        refine ⟨m, left - 1, L, ?_⟩
        simp only [Option.isSome_some, if_true]
        have hk : ∀ j, j ≠ d → (w.setCell ⟨d, 3, none⟩ (.int .i64 (left - 1))).heap[j]? = w.heap[j]? := fun j hj => set_other _ hj
        have hne : ∀ j t, own j = some t → t ≠ (0, []) → j ≠ d := fun j t hj ht e => by
          rw [e, h.od] at hj
          exact ht (Option.some.inj hj).symm
        refine ⟨?_, ?_, ?_, h.files, h.srt, fun p hp => ?_, h.od, h.om, fun j t hj => by simpa [World.setCell] using h.olt j t hj, ok_done h.ok⟩
        · rw [set_block h.cells]
          simp [DiskM.done, hfu]
        · intro j hj
          simp only [DiskM.done, hfu, Option.map_some, Option.some.injEq] at hj
          have h1 := h.left k hfu
          have : k ≠ 0 := fun e => hf (by rw [hfu, e])
          omega
        · exact h.map.setCell h.dm_ne.symm _
        · have hp' := h.file p hp
          refine ⟨(hk _ (hne _ _ hp'.ob (by simp))).trans hp'.cells, hp'.ob, hp'.row.keep fun g hg => hk _ (hne _ _ (hp'.og g hg) (by simp)), hp'.og⟩
    · split
      · exact Chg.setCell w ⟨d, 3, none⟩ _
      · exact Chg.refl _ _

/-! ### Used -/
set_option maxHeartbeats 1000000 in
theorem used_walk {w : World} {d m : Nat} {left : Int} {L : List (Bs × FRep)} {own : Own} {D : DiskM} (h : DiskIn w d m left L own D) :
    Calls Tryz.prog 133 #[.pointer (some ⟨d, 0, none⟩)] w fun e w' => e = .returned (.int .i64 (D.used : Int)) ∧ Below w.heap.size w w' := by
  have h1 := h.c1
  obtain ⟨S, hS⟩ : ∃ S, S = D.used := ⟨_, rfl⟩
  have hSL : sumBy (fun r : FRep => r.f.data.length) L = S := by rw [hS, h.used]
  have hbig : S ≤ 1073741824 := by
    have := h.ok.used
    have := h.ok.room
    omega
  rw [← hS]
  have hown := h.map
  have hsrt := h.srt
  have hL : Hid (DiskIn w d m left L own D) := h
  clear h hS
  go_enter Tryz.func133, Tryz.ntmps133
  go_wp2_with (first | (at_range; refine wpList_range_own _ rfl _ 60 rfl 9 145 keyLaw Tryz.underlying60 ptrR m L.length (dm fbD L) rfl hown ?_; intro w0 hrg0 hg0 hs0))
  go_frame
  go_loopw [3] (fun acc wr => ∃ rest cnt, wr.ranges Tryz.prog 9 ptrR m w.heap.size L.length (dm fbD L) rest cnt ∧ (∃ k : Nat, acc = .int .i64 (k : Int) ∧ k + sumBy (fun r : FRep => r.f.data.length) (rem rest L) = S) ∧ Below w.heap.size w wr) (fun _ wr => wr.rangeLeft m w.heap.size)
  case atStart =>
    refine ⟨_, _, hrg0, ⟨0, rfl, ?_⟩, (Below.refl _ _).grown hg0 (Nat.le_refl _) (fun _ e => by cases e)⟩
    rw [show rem (Maps.has (dm fbD L)) L = L from rem_start _ L, hSL, Nat.zero_add]
  case round =>
    obtain ⟨rest, cnt, hrg, ⟨k, rfl, hk⟩, hbel⟩ := hrel
    have Hk := Lib.hid hk
    clear hk hrg0 hg0 hs0 hSL hown
    go_wp2_with (first | (at_next; refine wpList_next_ptr _ rfl _ rfl 9 Tryz.underlying9 keyLaw FRep.fb L m w.heap.size L.length _ _ rfl hrg ?_ ?_))
    · intro hl
      have hS : k = S := by
        have := Hk.out
        rw [rem_end hl] at this
        simpa [sumBy] using this
      subst hS
      go_wp2
      go_ret
      exact ⟨rfl, hbel⟩
    · intro s x w1 cnt1 hgt hl hs hrg1 hlt hg1 hs1 hen
      have hx := hL.out.file _ (get_mem hgt)
      have hbel1 : Below w.heap.size w w1 := hbel.grown hg1 hbel.size (fun j e => by cases e; exact Nat.le_refl _)
      have hcell : w1.cell? ⟨x.fb, 0, none⟩ = some x.v := (hbel1.cell (p := ⟨x.fb, 0, none⟩) (lt_of_block hx.cells)).trans (cell_of hx.cells rfl)
      obtain ⟨p, c, hv⟩ : ∃ p c, x.v = .slice p x.f.data.length c := by
        obtain ⟨_, p, c, hv, _⟩ := hx.row.holds
        exact ⟨p, c, hv⟩
      have hsum := rem_sum (f := fun r : FRep => r.f.data.length) hsrt hgt hl
      have hle : k + x.f.data.length ≤ S := by
        have := Hk.out
        omega
      have hk1 : k + x.f.data.length + sumBy (fun r : FRep => r.f.data.length) (rem (fun z => rest z && !z.sameKey (.string s.data.toList)) L) = S := by
        have := Hk.out
        omega
      have Hk1 := Lib.hid hk1
      have Hm := Lib.hid (show w1.rangeLeft m w.heap.size < wr.rangeLeft m w.heap.size by rw [hrg1.left_eq, hrg.left_eq]; exact hlt)
      rw [hv] at hcell
      clear hk1 hsum hgt hl hg1 hs1 hlt hrg hbel hx hv Hk
      generalize x.f.data.length = j at *
      go_wp2
      go_roundw
      case rel => exact ⟨_, _, hrg1, ⟨k + j, by go_num, Hk1.out⟩, hbel1⟩
      case measure => exact Hm.out
end Go.Proofs.YtngflpaooppmhaaGreat

namespace Go.Sat
theorem put_same {α : Type} {L : List (Bs × α)} (h : Srt L) {n : Bs} {a : α} (hg : get n L = some a) : put n a L = L :=
  srt_ext (srt_put h) h fun m => by
    by_cases hm : m = n
    · subst hm
      rw [get_put_same h, hg]
    · rw [get_put_other h a hm]

theorem dm_mp {H α : Type} (g : α → DataW H) (f : α → Nat) (hgf : ∀ a b, f a = f b → g a = g b) {L M : List (Bs × α)} (h : mp f L = mp f M) : dm g L = dm g M := by
  have : ∀ L M : List (Bs × α), mp f L = mp f M → L.map (fun p => (Lit.string p.1, g p.2)) = M.map (fun p => (Lit.string p.1, g p.2)) := by
    intro L
    induction L with
    | nil =>
      intro M hM
      cases M with
      | nil => rfl
      | cons y s => simp [mp] at hM
    | cons x r ih =>
      intro M hM
      cases M with
      | nil => simp [mp] at hM
      | cons y s =>
        simp only [mp, List.map_cons, List.cons.injEq, Prod.mk.injEq] at hM
        obtain ⟨⟨e1, e2⟩, e3⟩ := hM
        simp only [List.map_cons]
        rw [ih s e3, e1, hgf _ _ e2]
  unfold dm
  rw [this L M h]
end Go.Sat

namespace Go.Proofs.YtngflpaooppmhaaGreat
open Go.RowKit Go.Sat Go.Maps

theorem fbD_of {a b : FRep} (h : a.fb = b.fb) : fbD a = fbD b := by simp [fbD, h]

section
variable {w : World} {d m : Nat} {left : Int} {L : List (Bs × FRep)} {own : Own} {D : DiskM}

theorem DiskIn.fileAt (h : DiskIn w d m left L own D) {n : Bs} {r : FRep} (hg : Sat.get n L = some r) : FileAt w own n r := h.file _ (get_mem hg)

theorem DiskIn.ne_of (_h : DiskIn w d m left L own D) {j k : Nat} {s t : Nat × Bs} (hj : own j = some s) (hk : own k = some t) (hst : s ≠ t) : j ≠ k := fun e => by
  rw [e, hk] at hj
  exact hst (Option.some.inj hj).symm

/-- One file is another one (in the same place), its row the same block's or a new one's. -/
theorem DiskIn.upd (h : DiskIn w d m left L own D) {n : Bs} {r : FRep} (hg : Sat.get n L = some r) {w' : World} {v' : Value} {f' : FileM}
    (hs : w.heap.size ≤ w'.heap.size) (hb : ∀ k, k < w.heap.size → k ≠ r.fb → some k ≠ r.v.ownBlock → w'.heap[k]? = w.heap[k]?)
    (hc : w'.heap[r.fb]? = some (.cells #[v', .int .i64 (f'.lasts : Int)] 147 (0, 0))) (hrow : OwnB w' 5 v' f'.data)
    (hloc : ∀ g, v'.ownBlock = some g → r.v.ownBlock = some g ∨ w.heap.size ≤ g) (hok : DiskM.OK { D with files := put n f' D.files }) :
    ∃ own', DiskIn w' d m left (put n ⟨r.fb, v', f'⟩ L) own' { D with files := put n f' D.files } ∧ Ext w own own' := by
  have hr := h.fileAt hg
  have old : ∀ g, v'.ownBlock = some g → own g = some (3, n) ∨ own g = none := fun g hgv => by
    rcases hloc g hgv with h1 | h1
    · exact .inl (hr.og g h1)
    · cases ho : own g with
      | none => exact .inr rfl
      | some t => have := h.olt g t ho; omega
  have glt : ∀ g, v'.ownBlock = some g → g < w'.heap.size := fun g hgv => OwnR.lt hrow hgv
  refine ⟨fun k => if v'.ownBlock = some k then some (3, n) else own k, ?_, fun k hk ho => ?_⟩
  · have keep : ∀ k t, own k = some t → t ≠ (2, n) → t ≠ (3, n) → w'.heap[k]? = w.heap[k]? := fun k t hk h2 h3 =>
      hb k (h.olt k t hk) (fun e => h2 (by rw [e, hr.ob] at hk; exact (Option.some.inj hk).symm)) (fun e => h3 (by rw [hr.og k e.symm] at hk; exact (Option.some.inj hk).symm))
    have ownk : ∀ k t, own k = some t → t ≠ (3, n) → (if v'.ownBlock = some k then some (3, n) else own k) = some t := fun k t hk h3 => by
      rw [if_neg fun e => ?_, hk]
      rcases old k e with h1 | h1
      · rw [hk] at h1
        exact h3 (Option.some.inj h1)
      · rw [hk] at h1
        cases h1
    refine ⟨(keep d _ h.od (by simp) (by simp)).trans h.cells, h.left, ?_, ?_, srt_put h.srt, ?_, ownk d _ h.od (by simp), ownk m _ h.om (by simp), ?_, hok⟩
    · have e1 : mp FRep.fb (put n ⟨r.fb, v', f'⟩ L) = mp FRep.fb L := by
        rw [mp_put]
        exact put_same (mp_srt h.srt) (by rw [mp_get, hg]; rfl)
      have e2 : (put n (⟨r.fb, v', f'⟩ : FRep) L).length = L.length := by rw [← mp_len FRep.fb, e1, mp_len]
      rw [dm_mp fbD FRep.fb (fun _ _ => fbD_of) e1, e2]
      obtain ⟨es, clock, hm, rest⟩ := h.map
      exact ⟨es, clock, (keep m _ h.om (by simp) (by simp)).trans hm, rest⟩
    · rw [mp_put, ← h.files]
    · intro p hp
      rcases mem_put.1 hp with rfl | ⟨hp, hne⟩
      · refine ⟨hc, ownk _ _ hr.ob (by simp), hrow, fun g hgv => ?_⟩
        show (if v'.ownBlock = some g then some (3, n) else own g) = some (3, n)
        rw [if_pos hgv]
      · have hp' := h.file p hp
        refine ⟨(keep _ _ hp'.ob (by simpa using hne) (by simp)).trans hp'.cells, ownk _ _ hp'.ob (by simp), hp'.row.keep fun g hgv => keep g _ (hp'.og g hgv) (by simp) (by simpa using hne), fun g hgv => ownk _ _ (hp'.og g hgv) (by simpa using hne)⟩
    · intro k t hk
      split at hk
      · rename_i e
        exact glt k e
      · exact Nat.lt_of_lt_of_le (h.olt k t hk) hs
  · show (if v'.ownBlock = some k then some (3, n) else own k) = none
    rw [if_neg fun e => ?_, ho]
    rcases hloc k e with h1 | h1
    · rw [hr.og k h1] at ho
      cases ho
    · omega

/-- A file that was not there: a new block for it, the map holds it too. -/
theorem DiskIn.add (h : DiskIn w d m left L own D) {n : Bs} (_hg : Sat.get n L = none) {w' : World} {r : FRep} (hs : w.heap.size ≤ w'.heap.size) (hb : ∀ k, k < w.heap.size → k ≠ m → w'.heap[k]? = w.heap[k]?)
    (hm : ∃ q, w'.ownsMap Tryz.prog 9 ptrR m q ((dm fbD L).put (.string n) (fbD r)))
    (hc : w'.heap[r.fb]? = some (.cells #[r.v, .int .i64 (r.f.lasts : Int)] 147 (0, 0))) (hn : w.heap.size ≤ r.fb) (hrow : OwnB w' 5 r.v r.f.data) (hv : ∀ g, r.v.ownBlock = some g → w.heap.size ≤ g ∧ g ≠ r.fb)
    (hok : DiskM.OK { D with files := put n r.f D.files }) :
    ∃ own', DiskIn w' d m left (put n r L) own' { D with files := put n r.f D.files } ∧ Ext w own own' := by
  have none_ge : ∀ k, w.heap.size ≤ k → own k = none := fun k hk => by
    cases ho : own k with
    | none => rfl
    | some t => have := h.olt k t ho; omega
  refine ⟨fun k => if k = r.fb then some (2, n) else if r.v.ownBlock = some k then some (3, n) else own k, ?_, fun k hk ho => ?_⟩
  · have ownk : ∀ k t, own k = some t → (if k = r.fb then some (2, n) else if r.v.ownBlock = some k then some (3, n) else own k) = some t := fun k t hk => by
      have := h.olt k t hk
      rw [if_neg (by omega), if_neg (fun e => by have := (hv k e).1; omega), hk]
    have keep : ∀ k t, own k = some t → t ≠ (1, []) → w'.heap[k]? = w.heap[k]? := fun k t hk h1 => hb k (h.olt k t hk) fun e => h1 (by rw [e, h.om] at hk; exact (Option.some.inj hk).symm)
    refine ⟨(keep d _ h.od (by simp)).trans h.cells, h.left, ?_, ?_, srt_put h.srt, ?_, ownk d _ h.od, ownk m _ h.om, ?_, hok⟩
    · obtain ⟨q, hq⟩ := hm
      rw [dm_put] at hq
      have := exactly hq
      rwa [dm_size] at this
    · rw [mp_put, ← h.files]
    · intro p hp
      rcases mem_put.1 hp with rfl | ⟨hp, hne⟩
      · refine ⟨hc, by simp, hrow, fun g hgv => ?_⟩
        show (if g = r.fb then some (2, n) else if r.v.ownBlock = some g then some (3, n) else own g) = some (3, n)
        rw [if_neg (hv g hgv).2, if_pos hgv]
      · have hp' := h.file p hp
        exact ⟨(keep _ _ hp'.ob (by simp)).trans hp'.cells, ownk _ _ hp'.ob, hp'.row.keep fun g hgv => keep g _ (hp'.og g hgv) (by simp), fun g hgv => ownk _ _ (hp'.og g hgv)⟩
    · intro k t hk
      split at hk
      · rename_i e
        rw [e]
        exact lt_of_block hc
      · split at hk
        · rename_i e
          exact OwnR.lt hrow e
        · exact Nat.lt_of_lt_of_le (h.olt k t hk) hs
  · show (if k = r.fb then some (2, n) else if r.v.ownBlock = some k then some (3, n) else own k) = none
    rw [if_neg (by omega), if_neg (fun e => by have := (hv k e).1; omega), ho]

/-- The map holds another list of the files that are there: names go, or are given anew. -/
theorem DiskIn.remap (h : DiskIn w d m left L own D) {w' : World} {L' : List (Bs × FRep)} {D' : DiskM} (hs : w.heap.size ≤ w'.heap.size) (hb : ∀ k, k < w.heap.size → k ≠ m → w'.heap[k]? = w.heap[k]?)
    (hm : ∃ q, w'.ownsMap Tryz.prog 9 ptrR m q (dm fbD L')) (hL : Srt L') (hroom : D'.room = D.room) (hfuse : D'.fuse = D.fuse) (hfiles : D'.files = mp FRep.f L') (hok : D'.OK)
    (hfrom : ∀ p ∈ L', ∃ q ∈ L, q.2 = p.2) (hone : ∀ p ∈ L', ∀ q ∈ L', p.2.fb = q.2.fb → p = q) :
    ∃ own', DiskIn w' d m left L' own' D' ∧ Ext w own own' := by
  classical
  -- a name for each block that a file of L' has
  let nameOf : Bs → Option Bs := fun n => (L'.find? fun p => L.any fun q => decide (q.1 = n ∧ q.2.fb = p.2.fb)).map (·.1)
  have uniq : ∀ p ∈ L', ∀ q ∈ L, q.2 = p.2 → nameOf q.1 = some p.1 := by
    intro p hp q hq e
    have hex : ∃ y, (L'.find? fun p => L.any fun q' => decide (q'.1 = q.1 ∧ q'.2.fb = p.2.fb)) = some y := by
      rw [← Option.isSome_iff_exists, List.find?_isSome]
      exact ⟨p, hp, List.any_eq_true.2 ⟨q, hq, by simp [e]⟩⟩
    obtain ⟨y, hy⟩ := hex
    have h1 := List.find?_some hy
    have h2 := List.mem_of_find?_eq_some hy
    obtain ⟨q', hq', e'⟩ := List.any_eq_true.1 h1
    simp only [decide_eq_true_eq] at e'
    have hqq : q' = q := key_uniq h.srt hq' hq e'.1
    have : y = p := hone y h2 p hp (by rw [← e'.2, hqq, e])
    show (L'.find? fun p => L.any fun q' => decide (q'.1 = q.1 ∧ q'.2.fb = p.2.fb)).map (·.1) = some p.1
    rw [hy, this]
    rfl
  refine ⟨fun k => match own k with
    | some (0, s) => some (0, s)
    | some (1, s) => some (1, s)
    | some (t, s) => (nameOf s).map fun s' => (t, s')
    | none => none, ?_, fun k _ ho => by simp only [ho]⟩
  have keep : ∀ k t, own k = some t → t ≠ (1, []) → w'.heap[k]? = w.heap[k]? := fun k t hk h1 => hb k (h.olt k t hk) fun e => h1 (by rw [e, h.om] at hk; exact (Option.some.inj hk).symm)
  refine ⟨?_, fun k hk => h.left k (by rw [← hfuse]; exact hk), ?_, hfiles, hL, ?_, by simp only [h.od], by simp only [h.om], ?_, hok⟩
  · rw [keep d _ h.od (by simp), h.cells, hroom, hfuse]
  · obtain ⟨q, hq⟩ := hm
    have := exactly hq
    rwa [dm_size] at this
  · intro p hp
    obtain ⟨q, hq, e⟩ := hfrom p hp
    have hq' := h.file q hq
    have hn := uniq p hp q hq e
    rw [e] at hq'
    refine ⟨(keep _ _ hq'.ob (by simp)).trans hq'.cells, ?_, hq'.row.keep fun g hgv => keep g _ (hq'.og g hgv) (by simp), fun g hgv => ?_⟩
    · simp only [hq'.ob, hn]
      rfl
    · simp only [hq'.og g hgv, hn]
      rfl
  · intro k t hk
    cases ho : own k with
    | none => simp only [ho] at hk; cases hk
    | some s => exact Nat.lt_of_lt_of_le (h.olt k s ho) hs
end
end Go.Proofs.YtngflpaooppmhaaGreat
