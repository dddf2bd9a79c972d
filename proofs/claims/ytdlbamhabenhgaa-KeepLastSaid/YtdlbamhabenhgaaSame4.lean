/- The contracts of satrapylaw4.same and satrapylaw4.texts. -/
import Derived.Test.YtdlbamhabenhgaaTexts
namespace Go.Proofs.Ytdlbamhabenhgaa
open Go.RowKit Go.Sat Go.Maps

set_option maxHeartbeats 1000000 in
theorem same4_calls {w : World} {x y : Value} {l m : Bs} (hx : HasB w x l) (hy : HasB w y m) (hl : l.length ≤ 140737488355328) (hm : m.length ≤ 140737488355328) :
    Calls Try.prog 27 #[x, y] w (SamePost w (l == m)) := by
  by_cases hlen : l.length = m.length
  · have ax := hx.at
    have ay := hy.at
    obtain ⟨px, cx, rfl⟩ := hx.slice
    obtain ⟨py, cy, rfl⟩ := hy.slice
    have hbne : ((l.length : Int) != (m.length : Int)) = false := by simp [hlen]
    have Hlen := Lib.hid hlen
    have Hax := Lib.hid ax
    have Hay := Lib.hid ay
    clear hx hy hlen ax ay
    generalize hlN : l.length = N at *
    generalize hmM : m.length = M at *
    have HlN := Lib.hid hlN
    have HmM := Lib.hid hmM
    clear hlN hmM
    go_enter Try.func27, Try.ntmps27
    go_wp2
    go_loopw [5] (fun i wr => ∃ k q : Nat, k ≤ N ∧ i = .int .i64 k ∧ l.take k = m.take k ∧ wr = w.drewN q) (fun i _ => N - (intOf i).toNat)
    case atStart => exact ⟨0, 0, Nat.zero_le _, rfl, rfl, rfl⟩
    case round =>
      obtain ⟨k, q, hk, rfl, htake, rfl⟩ := hrel
      have Htake := Lib.hid htake
      clear htake
      by_cases hlt : k < N
      · have hltM : k < M := by have := Hlen.out; omega
        have hkl : k < l.length := by rw [HlN.out]; exact hlt
        have hkm : k < m.length := by rw [HmM.out]; exact hltM
        have h1 : l[k]? = some l[k] := List.getElem?_eq_getElem hkl
        have h2 : m[k]? = some m[k] := List.getElem?_eq_getElem hkm
        rcases Hax.out with h | ⟨b, o, c, e1, hcx⟩
        · rw [h] at hkl
          simp at hkl
        rcases Hay.out with h | ⟨b2, o2, c2, e2, hcy⟩
        · rw [h] at hkm
          simp at hkm
        cases e1
        cases e2
        have hc1 := hcx k _ h1
        have hc2 := hcy k _ h2
        have Hnext := Lib.hid (fun e => take_eq_succ h1 h2 Htake.out e)
        have Hno := Lib.hid (fun e => ne_at h1 h2 e)
        clear hcx hcy h1 h2
        generalize l[k] = a at *
        generalize m[k] = b at *
        by_cases hab : a = b
        · have hd : ((a.toNat : Int) != (b.toNat : Int)) = false := by simp [hab]
          have Hab := Lib.hid hab
          clear hab hkl hkm
          go_wp2_with fail
          go_quiet (fail)
          go_wp2
          go_roundw
          case rel => exact ⟨k + 1, q + nq, by omega, by go_num, Hnext.out Hab.out, by first | rfl | rw [World.drewN_drewN]⟩
          case measure => simp [intOf]; omega
        · have hd : ((a.toNat : Int) != (b.toNat : Int)) = true := by
            simp only [bne_iff_ne, ne_eq, Int.natCast_inj]
            exact fun e => hab (UInt8.toNat.inj e)
          have Hab := Lib.hid hab
          clear hab hkl hkm
          go_wp2_with fail
          go_quiet (fail)
          go_wp2
          go_ret
          exact ⟨by rw [Hno.out Hab.out]; rfl, q + nq, by first | rfl | rw [World.drewN_drewN]⟩
      · go_wp2
        go_ret
        refine ⟨?_, q, rfl⟩
        have h1 := Htake.out
        rw [List.take_of_length_le (by rw [HlN.out]; omega), List.take_of_length_le (by rw [HmM.out]; have := Hlen.out; omega)] at h1
        simp [h1]
  · obtain ⟨px, cx, rfl⟩ := hx.slice
    obtain ⟨py, cy, rfl⟩ := hy.slice
    have hbne : ((l.length : Int) != (m.length : Int)) = true := by simp; omega
    have hres : (l == m) = false := by rw [beq_eq_false_iff_ne]; rintro rfl; exact hlen rfl
    rw [hres]
    clear hx hy hlen hres
    go_enter Try.func27, Try.ntmps27
    go_wp2
    go_ret
    exact ⟨rfl, 0, rfl⟩

set_option maxHeartbeats 1000000 in
theorem texts4_calls {w : World} {x y : Value} {l m : List Bs} (hx : HasN w x l) (hy : HasN w y m) (hl : l.length ≤ 140737488355328) (hm : m.length ≤ 140737488355328) :
    Calls Try.prog 39 #[x, y] w (SamePost w (l == m)) := by
  by_cases hlen : l.length = m.length
  · have ax := hx.at
    have ay := hy.at
    obtain ⟨px, cx, rfl⟩ := hx.slice
    obtain ⟨py, cy, rfl⟩ := hy.slice
    have hbne : ((l.length : Int) != (m.length : Int)) = false := by simp [hlen]
    have Hlen := Lib.hid hlen
    have Hax := Lib.hid ax
    have Hay := Lib.hid ay
    clear hx hy hlen ax ay
    generalize hlN : l.length = N at *
    generalize hmM : m.length = M at *
    have HlN := Lib.hid hlN
    have HmM := Lib.hid hmM
    clear hlN hmM
    go_enter Try.func39, Try.ntmps39
    go_wp2
    go_loopw [5] (fun i wr => ∃ k q : Nat, k ≤ N ∧ i = .int .i64 k ∧ l.take k = m.take k ∧ wr = w.drewN q) (fun i _ => N - (intOf i).toNat)
    case atStart => exact ⟨0, 0, Nat.zero_le _, rfl, rfl, rfl⟩
    case round =>
      obtain ⟨k, q, hk, rfl, htake, rfl⟩ := hrel
      have Htake := Lib.hid htake
      clear htake
      by_cases hlt : k < N
      · have hltM : k < M := by have := Hlen.out; omega
        have hkl : k < l.length := by rw [HlN.out]; exact hlt
        have hkm : k < m.length := by rw [HmM.out]; exact hltM
        have h1 : l[k]? = some l[k] := List.getElem?_eq_getElem hkl
        have h2 : m[k]? = some m[k] := List.getElem?_eq_getElem hkm
        rcases Hax.out with h | ⟨b, o, c, e1, hcx⟩
        · rw [h] at hkl
          simp at hkl
        rcases Hay.out with h | ⟨b2, o2, c2, e2, hcy⟩
        · rw [h] at hkm
          simp at hkm
        cases e1
        cases e2
        have hc1 := hcx k _ h1
        have hc2 := hcy k _ h2
        have Hnext := Lib.hid (fun e => take_eq_succ' h1 h2 Htake.out e)
        have Hno := Lib.hid (fun e => ne_at' h1 h2 e)
        clear hcx hcy h1 h2
        generalize l[k] = a at *
        generalize m[k] = b at *
        by_cases hab : a = b
        · subst hab
          clear hkl hkm
          go_wp2_with fail
          go_quiet (fail)
          go_wp2
          go_roundw
          case rel => exact ⟨k + 1, q + nq, by omega, by go_num, Hnext.out trivial, by first | rfl | rw [World.drewN_drewN]⟩
          case measure => simp [intOf]; omega
        · have hd : ((a == b) = false) := by simpa using hab
          have Hab := Lib.hid hab
          clear hab hkl hkm
          go_wp2_with fail
          go_quiet (fail)
          go_wp2
          go_ret
          exact ⟨by rw [Hno.out Hab.out]; rfl, q + nq, by first | rfl | rw [World.drewN_drewN]⟩
      · go_wp2
        go_ret
        refine ⟨?_, q, rfl⟩
        have h1 := Htake.out
        rw [List.take_of_length_le (by rw [HlN.out]; omega), List.take_of_length_le (by rw [HmM.out]; have := Hlen.out; omega)] at h1
        simp [h1]
  · obtain ⟨px, cx, rfl⟩ := hx.slice
    obtain ⟨py, cy, rfl⟩ := hy.slice
    have hbne : ((l.length : Int) != (m.length : Int)) = true := by simp; omega
    have hres : (l == m) = false := by rw [beq_eq_false_iff_ne]; rintro rfl; exact hlen rfl
    rw [hres]
    clear hx hy hlen hres
    go_enter Try.func39, Try.ntmps39
    go_wp2
    go_ret
    exact ⟨rfl, 0, rfl⟩
end Go.Proofs.Ytdlbamhabenhgaa
