/- The contract of List. -/
import Derived.Test.YtdlbamhabenhgaaDiskE
import Derived.Test.YtdlbamhabenhgaaIter
namespace Go.Sat
open Go.RowKit Go.Maps

theorem bb_lt : ∀ (a b : Bs), bytesBefore a b = true ↔ a < b
  | [], [] => by simp [bytesBefore]
  | [], _ :: _ => by simp [bytesBefore]
  | _ :: _, [] => by simp [bytesBefore]
  | a :: r, b :: s => by
    rw [List.cons_lt_cons_iff, ← bb_lt r s]
    simp [bytesBefore]

/-- Not behind. -/
def Le (x y : Bs) : Prop := bytesBefore y x = false

theorem le_iff (x y : Bs) : x ≤ y ↔ Le x y := by
  unfold Le
  rw [← Bool.not_eq_true, bb_lt]
  exact Iff.rfl

theorem le_anti {x y : Bs} (h : Le x y) (k : Le y x) : x = y := by
  by_cases e : x = y
  · exact e
  · rcases bb_total x y e with h1 | h1
    · rw [k] at h1; cases h1
    · rw [h] at h1; cases h1

theorem le_total (x y : Bs) : Le x y ∨ Le y x := by
  unfold Le
  cases h : bytesBefore y x with
  | false => exact .inl rfl
  | true =>
    right
    cases h2 : bytesBefore x y with
    | false => rfl
    | true =>
      have := bb_trans h h2
      rw [bb_irrefl] at this
      cases this

theorem le_trans' {x y z : Bs} (h : Le x y) (k : Le y z) : Le x z := by
  by_cases e : x = y
  · rw [e]; exact k
  · by_cases e2 : y = z
    · rw [← e2]; exact h
    · have h1 : bytesBefore x y = true := by
        rcases bb_total x y e with h1 | h1
        · exact h1
        · rw [h] at h1; cases h1
      have h2 : bytesBefore y z = true := by
        rcases bb_total y z e2 with h1 | h1
        · exact h1
        · rw [k] at h1; cases h1
      have h3 := bb_trans h1 h2
      unfold Le
      cases h4 : bytesBefore z x with
      | false => rfl
      | true =>
        have := bb_trans h3 h4
        rw [bb_irrefl] at this
        cases this

theorem sorted_uniq : ∀ {l m : List Bs}, l.Perm m → l.Pairwise Le → m.Pairwise Le → l = m
  | [], m, h, _, _ => h.nil_eq
  | a :: r, [], h, _, _ => by have := h.length_eq; simp at this
  | a :: r, b :: s, h, hl, hm => by
    rw [List.pairwise_cons] at hl hm
    have e : a = b := by
      have ha : a ∈ b :: s := h.subset (List.mem_cons_self ..)
      have hb : b ∈ a :: r := h.symm.subset (List.mem_cons_self ..)
      rcases List.mem_cons.1 ha with e | ha
      · exact e
      · rcases List.mem_cons.1 hb with e | hb
        · exact e.symm
        · exact le_anti (hl.1 b hb) (hm.1 a ha)
    subst e
    rw [sorted_uniq (List.Perm.cons_inv h) hl.2 hm.2]

theorem keys_sorted {α : Type} {L : List (Bs × α)} (h : Srt L) : (L.map (·.1)).Pairwise Le := by
  rw [List.pairwise_map]
  refine h.imp fun {p q} hpq => ?_
  unfold Le
  cases h4 : bytesBefore q.1 p.1 with
  | false => rfl
  | true =>
    have := bb_trans hpq h4
    rw [bb_irrefl] at this
    cases this

theorem merge_keys {α : Type} {L : List (Bs × α)} (h : Srt L) {ss : List Bs} (hp : ss.Perm (L.map (·.1))) : ss.mergeSort (fun x y => decide (x ≤ y)) = L.map (·.1) := by
  refine sorted_uniq ((List.mergeSort_perm ss _).trans hp) ?_ (keys_sorted h)
  have := List.pairwise_mergeSort (le := fun x y : Bs => decide (x ≤ y)) (fun a b c h1 h2 => by
    simp only [decide_eq_true_eq, le_iff] at *
    exact le_trans' h1 h2) (fun a b => by
    simp only [Bool.or_eq_true, decide_eq_true_eq, le_iff]
    exact le_total a b) ss
  exact this.imp fun {a b} hab => by simpa only [decide_eq_true_eq, le_iff] using hab

theorem keys_dm {H α : Type} (g : α → DataW H) (L : List (Bs × α)) : strKeys (dm g L) = L.map (·.1) := by
  simp only [strKeys, dm, List.map_map]
  exact List.map_congr_left fun p _ => rfl
end Go.Sat

namespace Go.Proofs.Ytdlbamhabenhgaa
open Go.RowKit Go.Sat Go.Maps

/-- A slice of strings of one's own. -/
def OwnN (w : World) (v : Value) (ns : List Bs) : Prop := OwnR w 9 1 v ns.length (ns.map encStr)

def namesOf (D : DiskM) : List Bs := D.files.map (·.1)

def Listed (w : World) (D : DiskM) (e : Ending) (w' : World) : Prop := ∃ v, e = .returned v ∧ OwnN w' v (namesOf D) ∧ (∀ k, v.ownBlock = some k → w.heap.size ≤ k) ∧ Below w.heap.size w w'

section
variable {w : World} {d m : Nat} {left : Int} {L : List (Bs × FRep)} {own : Own} {D : DiskM}

set_option maxHeartbeats 1000000 in
theorem list_calls (h : DiskAt w d D own) : Calls Try.prog 28 #[.pointer (some ⟨d, 0, none⟩)] w (Listed w D) := by
  obtain ⟨m, left, L, h⟩ := h
  have hc1 := h.c1
  have hcount : L.length ≤ 4096 := by rw [← h.len]; exact h.ok.count
  have hfin : ∀ (v : Value) (ss : List Bs) (w' : World), ss.Perm (strKeys (dm fbD L)) → w'.ownsRow (w.alloc (.cells #[.map (some m)] 74)).heap.size 9 1 v ss.length ((ss.mergeSort (fun x y => decide (x ≤ y))).map encStr) →
      Below (w.alloc (.cells #[.map (some m)] 74)).heap.size (w.alloc (.cells #[.map (some m)] 74)) w' → Listed w D (.returned v) w' := by
    intro v ss w' hp hr hb
    rw [keys_dm] at hp
    rw [merge_keys h.srt hp, hp.length_eq] at hr
    refine ⟨v, rfl, ?_, fun k hk => ?_, ((Below.refl _ _).alloc (Nat.le_refl _) _).trans (hb.mono (by simp))⟩
    · have e : namesOf D = L.map (·.1) := by
        unfold namesOf
        rw [h.files]
        simp [mp]
      unfold OwnN
      rw [e]
      exact OwnR.of_kit hr
    · have := OwnR.block_ge hr hk
      simp at this
      omega
  have hS := (callsIn_wide (n := 5)).1 (Try.slices_Sorted_keys_59_60 m L.length (dm fbD L) ptrR w h.map (by rw [dm_size]; unfold maxLen; omega) (by rw [dm_size]; omega))
  have hK := (callsIn_wide (n := 5)).1 (Try.maps_Keys_60 (some m) w)
  have Hfin := Lib.hid hfin
  have HS := Lib.hid hS
  have HK := Lib.hid hK
  clear hfin hS hK h hcount
  go_enter Try.func28, Try.ntmps28
  go_wp2_with fail
  refine HK.out.mono ?_
  rintro e w' ⟨rfl, rfl⟩
  go_wp2_with fail
  refine HS.out.mono ?_
  rintro e w' ⟨v, ss, rfl, hp, hr, -, hb⟩
  have Hl := Lib.hid (Hfin.out v ss w' hp hr hb)
  clear hp hr hb
  go_wp2_with fail
  go_ret
  exact Hl.out
end

def ListedS (w : World) (d : Nat) (D : DiskM) (F : Nat → Prop) (w1 : World) (e : Ending) (w' : World) : Prop :=
  ∃ v, e = .returned v ∧ OwnN w' v (namesOf D) ∧ (∀ k, v.ownBlock = some k → w1.heap.size ≤ k) ∧ Below w1.heap.size w1 w' ∧ St w w' d D F

theorem st_list {w w1 : World} {d : Nat} {D : DiskM} {F : Nat → Prop} (h : St w w1 d D F) :
    Calls Try.prog 28 #[.pointer (some ⟨d, 0, none⟩)] w1 (ListedS w d D F w1) := by
  have h0 := h
  obtain ⟨own, hd, hb, hnn, hF⟩ := h
  refine (list_calls hd).mono ?_
  rintro e w' ⟨v, rfl, hv, hn, hb'⟩
  exact ⟨v, rfl, hv, hn, hb', h0.next hb'⟩
end Go.Proofs.Ytdlbamhabenhgaa
