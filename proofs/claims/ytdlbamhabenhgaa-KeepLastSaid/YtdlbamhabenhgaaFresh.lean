/- octet.Join: what it hands back lies in a block of its own. -/
import Derived.Test.YtdlbamhabenhgaaBytes
namespace Go.Proofs.Ytdlbamhabenhgaa
open Go.RowKit Go.Sat

theorem fresh_ge {B : Nat} {w : World} {v : Value} {l : Bs} (h : Lib.FreshBytes B w v l) : ∀ k, v.ownBlock = some k → B ≤ k := by
  obtain ⟨g, cap, zs, rfl, h1, _⟩ := h
  intro k hk
  cases hk
  exact h1

/-- bytes.Join of rows, with nothing between them. -/
theorem bjoin_new {w : World} {x : Value} {ls : List Bs} (h : RowsAt w x ls) (hn : ls.length ≤ 140737488355328) (hl : ls.flatten.length ≤ 140737488355328) :
    Calls Try.prog 77 #[x, .slice none 0 0] w fun e w' => ∃ v, e = .returned v ∧ HasB w' v ls.flatten ∧ (∀ k, v.ownBlock = some k → w.heap.size ≤ k) ∧ Below w.heap.size w w' := by
  obtain ⟨p, c, rfl, hc, hQ⟩ := h
  cases ls with
  | nil =>
    refine (Try.bytes_Join_none p c (.slice none 0 0) w).mono ?_
    rintro e w' ⟨rfl, rfl⟩
    refine ⟨_, rfl, ?_, fun k hk => (by simp [Value.ownBlock] at hk; omega), (Below.refl _ _).alloc (Nat.le_refl _) _⟩
    exact HasB.of_kit ⟨_, _, rfl, fun e => (by cases e), fun a ha i x hx => by simp at hx⟩
  | cons l0 r =>
    obtain ⟨b, o, vs, rfl, hP⟩ := hQ (by simp)
    cases r with
    | nil =>
      obtain ⟨p0, c0, l0', e0, hcell, hp0, hcs⟩ := hP.get 0 (by simp)
      simp at e0
      subst e0
      have hcell' : w.cell? ⟨b, o, none⟩ = some (.slice p0 l0.length c0) := by simpa [Addr.add] using hcell
      by_cases h0 : l0.length = 0
      · have hl0 : l0 = [] := List.eq_nil_of_length_eq_zero h0
        subst hl0
        refine (Try.bytes_Join_one_empty b o c p0 c0 (.slice none 0 0) w hcell').mono ?_
        rintro e w' ⟨rfl, rfl⟩
        exact ⟨_, rfl, HasB.of_kit ⟨none, 0, rfl, fun _ => rfl, fun a ha => (by cases ha)⟩, fun k hk => (by cases hk), Below.refl _ _⟩
      · obtain ⟨a0, rfl⟩ : ∃ a, p0 = some a := by
          cases p0 with
          | none => exact absurd (by rw [hp0 rfl]; rfl) h0
          | some a => exact ⟨a, rfl⟩
        refine (Try.bytes_Join_one b o c a0 c0 l0 (.slice none 0 0) w hcell' (hcs a0 rfl) (by omega) (by simpa using hl)).mono ?_
        rintro e w' ⟨v, rfl, hf, hb⟩
        exact ⟨v, rfl, by simpa using fresh_has hf, fresh_ge hf, hb⟩
    | cons l1 r =>
      have hsep : Lib.HoldsBytes w (.slice none 0 0) [] := ⟨none, 0, rfl, fun _ => rfl, fun a ha => (by cases ha)⟩
      refine (Try.bytes_Join_many b o _ c vs (l0 :: l1 :: r) (.slice none 0 0) [] w rfl (by simp) hP hc hsep hn (by rw [← flat_len]; simpa using hl)).mono ?_
      rintro e w' ⟨v, rfl, hf, hb⟩
      rw [join_flat] at hf
      exact ⟨v, rfl, fresh_has hf, fresh_ge hf, hb⟩

set_option maxHeartbeats 400000 in
/-- octet.Join. -/
theorem join_new {w : World} {x : Value} {ls : List Bs} (h : RowsAt w x ls) (hn : ls.length ≤ 140737488355328) (hl : ls.flatten.length ≤ 140737488355328) :
    Calls Try.prog 50 #[x] w fun e w' => ∃ v, e = .returned v ∧ HasB w' v ls.flatten ∧ (∀ k, v.ownBlock = some k → w.heap.size ≤ k) ∧ Below w.heap.size w w' := by
  have hj := bjoin_new h hn hl
  obtain ⟨p, c, rfl, hc, hP⟩ := h
  have Hj := Lib.hid hj
  clear hj hP
  go_enter Try.func50, Try.ntmps50
  go_wp2_with fail
  refine Hj.out.mono ?_
  rintro e w' ⟨v, rfl, hv, hw, hb⟩
  go_wp2_with fail
  go_ret
  exact ⟨v, rfl, hv, hw, hb⟩

end Go.Proofs.Ytdlbamhabenhgaa
