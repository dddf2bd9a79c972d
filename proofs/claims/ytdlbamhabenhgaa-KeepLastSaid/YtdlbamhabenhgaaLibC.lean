/- Ranging over a map whose keys are strings and whose elements are pointers. No program. -/
import Derived.Test.YtdlbamhabenhgaaLibB
import Derived.Maps.StringElems
import Derived.BigQuiet
namespace Go.Sat
open Go.RowKit
open Go.Maps (Keyed)

section
variable {α : Type}

/-- What is still to come. -/
def rem (left : Lit → Bool) (L : List (Bs × α)) : List (Bs × α) := L.filter fun p => left (.string p.1)

theorem srt_rem {left : Lit → Bool} {L : List (Bs × α)} (h : Srt L) : Srt (rem left L) := h.filter _

theorem rem_start (g : α → DataW Nat) (L : List (Bs × α)) : rem (Maps.has (dm g L)) L = L := by
  refine List.filter_eq_self.2 fun p hp => ?_
  rw [dm_has]
  cases hg : get p.1 L with
  | none => exact absurd rfl (get_none.1 hg p hp)
  | some a => rfl

theorem rem_end {left : Lit → Bool} (h : ∀ kl, left kl = false) (L : List (Bs × α)) : rem left L = [] := by
  refine List.filter_eq_nil_iff.2 fun p _ => ?_
  rw [h]
  simp

theorem get_rem {left : Lit → Bool} {L : List (Bs × α)} (h : Srt L) {n : Bs} {a : α} (hg : get n L = some a) (hl : left (.string n) = true) : get n (rem left L) = some a :=
  get_of_mem (srt_rem h) (List.mem_filter.2 ⟨get_mem hg, hl⟩)

theorem rem_step (left : Lit → Bool) (n : Bs) (L : List (Bs × α)) : rem (fun z => left z && !z.sameKey (.string n)) L = del n (rem left L) := by
  simp only [rem, del, List.filter_filter]
  refine List.filter_congr fun p _ => ?_
  rw [sk]
  exact Bool.and_comm _ _

/-- One step takes one summand off what is still to come. -/
theorem rem_sum {f : α → Nat} {left : Lit → Bool} {L : List (Bs × α)} (h : Srt L) {n : Bs} {a : α} (hg : get n L = some a) (hl : left (.string n) = true) :
    sumBy f (rem left L) = f a + sumBy f (rem (fun z => left z && !z.sameKey (.string n)) L) := by
  rw [rem_step]
  exact sum_del (srt_rem h) (get_rem h hg hl)
end

theorem keyOf_string_inv {P : Program} {k : TypeId} (hk : P.underlying k = some .string) {key : Value} {kl : Lit} (h : keyOf P k key = some kl) : ∃ s : ByteArray, key = .string s ∧ kl = .string s.data.toList ∧ s.size ≤ maxLen := by
  cases key <;> simp [keyOf, hk, mapKey] at h
  obtain ⟨h1, rfl⟩ := h
  exact ⟨_, rfl, rfl, h1⟩

section
variable {α : Type} {P : Program} (w : World) {ops : Array Oper} {rest : List Oper} {o : Oper} {a : Act} {Q : Exit → Act → World → Prop}

theorem wpList_next_ptr (hg : o.guard = none) (it : Operand) (hop : o.op = Op.next it false) (k : TypeId) (hk : P.underlying k = some .string) (K : Keyed P k)
    (g : α → Nat) (L : List (Bs × α)) (b r n : Nat) (left : Lit → Bool) (cnt : Nat) (hit : a.eval it = .pointer (some ⟨r, 0, none⟩)) (h : w.ranges P k ptrR b r n (dm (fun x => .held (g x)) L) left cnt)
    (hDone : (∀ kl, left kl = false) → wpList P ops Q rest (a.put o.dst (.tuple #[.bool false])) w)
    (hMore : ∀ (s : ByteArray) (x : α) (w' : World) (cnt' : Nat), get s.data.toList L = some x → left (.string s.data.toList) = true → s.size ≤ maxLen →
      w'.ranges P k ptrR b r n (dm (fun x => .held (g x)) L) (fun z => left z && !z.sameKey (.string s.data.toList)) cnt' → cnt' < cnt → w.grownBy w' (some r) → w'.heap.size = w.heap.size →
      (Instr.entry (.pointer (some ⟨r, 0, none⟩))).run P w' = .ok (.tuple #[.string s, .pointer (some ⟨g x, 0, none⟩)]) w' →
      wpList P ops Q rest (a.put o.dst (.tuple #[.bool true, .string s, .pointer (some ⟨g x, 0, none⟩)])) w') :
    wpList P ops Q (o :: rest) a w :=
  wpList_next_ranges w hg it hop k K ptrR (fun s : ByteArray => .string s) (fun v : Value => v) (fun key kl hkey => by obtain ⟨s, rfl, _⟩ := keyOf_string_inv hk hkey; exact ⟨s, rfl⟩) (fun v _ _ => ⟨v, rfl⟩)
    b r n _ left cnt hit h (fun _ hl => hDone hl) (fun s v kl y w' cnt' hkey hl hv hat hrg hlt hgr hsz hen => by
      obtain ⟨s', e1, rfl, hs⟩ := keyOf_string_inv hk hkey
      simp at e1
      subst e1
      have h1 : ∀ zd, ((get s.data.toList L).map fun x => (DataW.held (g x) : DataW Nat)).getD zd = y.1 := fun zd => by rw [← dm_atKey]; exact hat zd
      cases hgt : get s.data.toList L with
      | none =>
        rw [hgt] at h1
        have e1 := h1 .nil
        have e2 := h1 (.held 0)
        rw [← e2] at e1
        cases e1
      | some x =>
        rw [hgt] at h1
        have e1 := (h1 .nil).symm
        have hv' := ptrR_inv hv e1
        subst hv'
        exact hMore s x w' cnt' hgt hl hs hrg hlt hgr hsz hen)

/-- 'm[k]' where the elements are pointers. -/
theorem run_look_ptr {t k e : TypeId} {b n : Nat} (K : Keyed P k) (hk : P.underlying k = some .string) (ht : P.underlying t = some (.map k e)) (hz : (zeroValue e).run P w = .ok (.pointer none) w) (g : α → Nat) (L : List (Bs × α))
    (h : w.ownsMap P k ptrR b n (dm (fun x => .held (g x)) L)) (s : ByteArray) (hs : s.size ≤ maxLen) :
    (Instr.lookup t (.map (some b)) (.string s) false).run P w = .ok (match get s.data.toList L with | some x => .pointer (some ⟨g x, 0, none⟩) | none => .pointer none) w := by
  obtain ⟨v, ps, hrun, hv⟩ := h.lookup K ht hz (z := .pointer none) (zd := .nil) (zp := []) rfl (WideMaps.keyOf_string_mk hk hs)
  rw [hrun]
  rw [dm_atKey] at hv
  cases hgt : get s.data.toList L with
  | none =>
    rw [hgt] at hv
    simp only [Option.map_none, Option.getD_none] at hv
    unfold ptrR at hv
    split at hv <;> simp at hv
    rfl
  | some x =>
    rw [hgt] at hv
    simp only [Option.map_some, Option.getD_some] at hv
    rw [ptrR_inv hv rfl]

theorem run_look_some {t k e : TypeId} {b n : Nat} (K : Keyed P k) (hk : P.underlying k = some .string) (ht : P.underlying t = some (.map k e)) (hz : (zeroValue e).run P w = .ok (.pointer none) w) (g : α → Nat) {L : List (Bs × α)}
    (h : w.ownsMap P k ptrR b n (dm (fun x => .held (g x)) L)) {s : ByteArray} (hs : s.size ≤ maxLen) {x : α} (hg : get s.data.toList L = some x) :
    (Instr.lookup t (.map (some b)) (.string s) false).run P w = .ok (.pointer (some ⟨g x, 0, none⟩)) w := by
  rw [run_look_ptr w K hk ht hz g L h s hs, hg]

theorem run_look_any {t k e : TypeId} {b n : Nat} (K : Keyed P k) (hk : P.underlying k = some .string) (ht : P.underlying t = some (.map k e)) (hz : (zeroValue e).run P w = .ok (.pointer none) w) (g : α → Nat) {L : List (Bs × α)}
    (h : w.ownsMap P k ptrR b n (dm (fun x => .held (g x)) L)) {s : ByteArray} (hs : s.size ≤ maxLen) :
    ∃ fv, (Instr.lookup t (.map (some b)) (.string s) false).run P w = .ok (.pointer fv) w := by
  rw [run_look_ptr w K hk ht hz g L h s hs]
  cases get s.data.toList L with
  | none => exact ⟨none, rfl⟩
  | some x => exact ⟨_, rfl⟩

theorem run_look_none {t k e : TypeId} {b n : Nat} (K : Keyed P k) (hk : P.underlying k = some .string) (ht : P.underlying t = some (.map k e)) (hz : (zeroValue e).run P w = .ok (.pointer none) w) (g : α → Nat) {L : List (Bs × α)}
    (h : w.ownsMap P k ptrR b n (dm (fun x => .held (g x)) L)) {s : ByteArray} (hs : s.size ≤ maxLen) (hg : get s.data.toList L = none) :
    (Instr.lookup t (.map (some b)) (.string s) false).run P w = .ok (.pointer none) w := by
  rw [run_look_ptr w K hk ht hz g L h s hs, hg]
end

/-! ### A region that draws its order, whose operations read or call what keeps a property of the world -/
theorem classOf (S : World → Prop) {w : World} (h : S w) : ∃ (ι : Type) (F : ι → World), Nonempty ι ∧ (∃ n, w = F n) ∧ (∀ n, S (F n)) ∧ ∀ W, S W → ∃ n, W = F n :=
  ⟨{ W : World // S W }, Subtype.val, ⟨⟨w, h⟩⟩, ⟨⟨w, h⟩, rfl⟩, fun n => n.2, fun W h => ⟨⟨W, h⟩, rfl⟩⟩

theorem wp_region_class {P : Program} {ι : Type} (F : ι → World) {id : Nat} {Q : Exit → Act → World → Prop} {a : Act} {w : World} {l : List Oper} (hm : P.follows .mixedOrders = true) (hB : Region.lexB .any l.toArray = true) (h0 : ∃ n, w.drew = F n)
    (h : wpQuiet P l.toArray (fun w' => ∃ n, w' = F n) (fun a' => ∀ w', (∃ n, w' = F n) → Q .normal a' w') l a) : (Code.region id l.toArray true).wp P Q a w :=
  wp_region_quiet (C := fun w' => ∃ n, w' = F n) hm hB h0 (by simpa using h)
end Go.Sat
