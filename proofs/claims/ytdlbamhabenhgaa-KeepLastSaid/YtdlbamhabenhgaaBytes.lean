/- Contracts of octet.Join, bytes.Clone. -/
import Derived.Test.YtdlbamhabenhgaaLibC
import Derived.Test.YtdlbamhabenhgaaShelf
import Derived.Test.YtdlbamhabenhgaaChecked
namespace Go.Proofs.Ytdlbamhabenhgaa
open Go.RowKit Go.Sat

/-- x is a slice of rows of bytes, wherever they lie. -/
def RowsAt (w : World) (x : Value) (ls : List Bs) : Prop :=
  ∃ p c, x = .slice p ls.length c ∧ ls.length ≤ c ∧ (ls ≠ [] → ∃ b o vs, p = some ⟨b, o, none⟩ ∧ Lib.PartsAt w ⟨b, o, none⟩ vs ls)

theorem fresh_has {B : Nat} {w : World} {v : Value} {l : Bs} (h : Lib.FreshBytes B w v l) : HasB w v l := by
  obtain ⟨g, cap, zs, rfl, _, hl, _, hz, hr, hb, hc, _⟩ := h
  refine HasB.of_kit ⟨some ⟨g, 0, none⟩, cap, rfl, fun e => (by cases e), fun a ha i x hx => ?_⟩
  cases ha
  have hi : i < l.length := (List.getElem?_eq_some_iff.1 hx).1
  rw [add_zero, hc i (by omega)]
  have hzi : i < zs.length := by omega
  have h1 : (zs.take l.length)[i]? = some zs[i] := by rw [List.getElem?_take, if_pos hi, List.getElem?_eq_getElem hzi]
  have h2 : (Lib.bytesOf (zs.take l.length))[i]? = some x := by rw [hb]; exact hx
  simp only [Lib.bytesOf, List.getElem?_map, h1, Option.map_some, Option.some.injEq] at h2
  have h3 := hr zs[i] (List.getElem_mem hzi)
  have h4 : zs.getD i 0 = zs[i] := by simp [List.getD, List.getElem?_eq_getElem hzi]
  rw [h4, ← h2]
  congr 2
  simp
  omega

theorem join_flat (ls : List Bs) : Lib.join ls [] = ls.flatten := by
  cases ls with
  | nil => rfl
  | cons x r =>
    rw [Lib.join_cons]
    simp [Lib.joinTail]

theorem flat_len (ls : List Bs) : ls.flatten.length = Lib.lens ls := by simp [Lib.lens, List.length_flatten]

/-- bytes.Join of rows, with nothing between them. -/
theorem bjoin {w : World} {x : Value} {ls : List Bs} (h : RowsAt w x ls) (hn : ls.length ≤ 140737488355328) (hl : ls.flatten.length ≤ 140737488355328) :
    Calls Try.prog 77 #[x, .slice none 0 0] w fun e w' => ∃ v, e = .returned v ∧ HasB w' v ls.flatten ∧ Below w.heap.size w w' := by
  obtain ⟨p, c, rfl, hc, hQ⟩ := h
  cases ls with
  | nil =>
    refine (Try.bytes_Join_none p c (.slice none 0 0) w).mono ?_
    rintro e w' ⟨rfl, rfl⟩
    refine ⟨_, rfl, ?_, (Below.refl _ _).alloc (Nat.le_refl _) _⟩
    exact HasB.of_kit ⟨_, _, rfl, fun e => (by cases e), fun a ha i x hx => by simp at hx⟩
  | cons l0 r =>
    obtain ⟨b, o, vs, rfl, hP⟩ := hQ (by simp)
    cases r with
    | nil =>
      obtain ⟨p0, c0, l0', e0, hcell, hp0, hcs⟩ := hP.get 0 (by simp)
      simp at e0
      subst e0
      have hcell' : w.cell? ⟨b, o, none⟩ = some (.slice p0 l0.length c0) := by simpa [Addr.add] using hcell
      by_cases h0 : l0.length = 0
      · have hl0 : l0 = [] := List.eq_nil_of_length_eq_zero h0
        subst hl0
        refine (Try.bytes_Join_one_empty b o c p0 c0 (.slice none 0 0) w hcell').mono ?_
        rintro e w' ⟨rfl, rfl⟩
        exact ⟨_, rfl, HasB.of_kit ⟨none, 0, rfl, fun _ => rfl, fun a ha => (by cases ha)⟩, Below.refl _ _⟩
      · obtain ⟨a0, rfl⟩ : ∃ a, p0 = some a := by
          cases p0 with
          | none => exact absurd (by rw [hp0 rfl]; rfl) h0
          | some a => exact ⟨a, rfl⟩
        refine (Try.bytes_Join_one b o c a0 c0 l0 (.slice none 0 0) w hcell' (hcs a0 rfl) (by omega) (by simpa using hl)).mono ?_
        rintro e w' ⟨v, rfl, hf, hb⟩
        exact ⟨v, rfl, by simpa using fresh_has hf, hb⟩
    | cons l1 r =>
      have hsep : Lib.HoldsBytes w (.slice none 0 0) [] := ⟨none, 0, rfl, fun _ => rfl, fun a ha => (by cases ha)⟩
      refine (Try.bytes_Join_many b o _ c vs (l0 :: l1 :: r) (.slice none 0 0) [] w rfl (by simp) hP hc hsep hn (by rw [← flat_len]; simpa using hl)).mono ?_
      rintro e w' ⟨v, rfl, hf, hb⟩
      rw [join_flat] at hf
      exact ⟨v, rfl, fresh_has hf, hb⟩

set_option maxHeartbeats 400000 in
/-- octet.Join. -/
theorem join_calls {w : World} {x : Value} {ls : List Bs} (h : RowsAt w x ls) (hn : ls.length ≤ 140737488355328) (hl : ls.flatten.length ≤ 140737488355328) :
    Calls Try.prog 50 #[x] w fun e w' => ∃ v, e = .returned v ∧ HasB w' v ls.flatten ∧ Below w.heap.size w w' := by
  have hj := bjoin h hn hl
  obtain ⟨p, c, rfl, hc, hP⟩ := h
  have Hj := Lib.hid hj
  clear hj hP
  go_enter Try.func50, Try.ntmps50
  go_wp2_with fail
  refine Hj.out.mono ?_
  rintro e w' ⟨v, rfl, hv, hb⟩
  go_wp2_with fail
  go_ret
  exact ⟨v, rfl, hv, hb⟩

/-- bytes.Clone. -/
theorem clone_calls {w : World} {x : Value} {l : Bs} (h : HasB w x l) (hl : l.length ≤ 140737488355328) :
    Calls Try.prog 54 #[x] w fun e w' => ∃ v, e = .returned v ∧ OwnB w' 5 v l ∧ (∀ k, v.ownBlock = some k → w.heap.size ≤ k) ∧ Below w.heap.size w w' := by
  obtain ⟨p, cap, rfl, h0, hc⟩ := h.kit
  cases p with
  | none =>
    have := h0 rfl
    subst this
    refine (Try.bytes_Clone_nil _ cap w).mono ?_
    rintro e w' ⟨rfl, rfl⟩
    exact ⟨_, rfl, OwnR.nil _ _ _, fun k hk => (by cases hk), Below.refl _ _⟩
  | some a =>
    refine (Try.bytes_Clone_at a l.length cap (Lib.numsL l) w (Lib.numsL_length l) hl fun i hi => ?_).mono ?_
    · rw [hc a rfl i l[i] (List.getElem?_eq_getElem hi)]
      simp [Lib.numsL, List.getD, List.getElem?_map, List.getElem?_eq_getElem hi]
    · rintro e w' ⟨v, rfl, hown, _, hb⟩
      have e1 : (Lib.numsL l).map (Value.int .u8) = bytesV l := by simp [Lib.numsL, bytesV]
      rw [e1] at hown
      exact ⟨v, rfl, OwnR.of_kit hown, fun k hk => OwnR.block_ge hown hk, hb⟩
end Go.Proofs.Ytdlbamhabenhgaa
