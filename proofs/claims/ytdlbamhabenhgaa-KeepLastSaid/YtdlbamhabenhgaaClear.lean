/- The contract of keep.Clear. -/
import Derived.Test.YtdlbamhabenhgaaLoad
import Derived.Test.YtdlbamhabenhgaaTexts
import Derived.Test.YtdlbamhabenhgaaShelf
namespace Go.Sat
open Go.RowKit
/-- Names that begin with pre and are not to stay go. -/
def skipN (pre : Bs) (stay : List Bs) (n : Bs) : Bool := !(pre.isPrefixOf n) || stay.contains n
end Go.Sat

namespace Go.Proofs.Ytdlbamhabenhgaa
open Go.RowKit Go.Sat Go.Maps

namespace DiskM
def clearL (pre : Bs) (stay : List Bs) (D : DiskM) : List Bs → DiskM × Nat
  | [] => (D, 0)
  | n :: r => if skipN pre stay n then clearL pre stay D r else if (D.remove [n]).2 = 0 then clearL pre stay (D.remove [n]).1 r else D.remove [n]
def clear (D : DiskM) (pre : Bs) (stay : List Bs) : DiskM × Nat := clearL pre stay D (namesOf D)

theorem clearL_skip {pre : Bs} {stay : List Bs} {D : DiskM} {n : Bs} {r : List Bs} (h : skipN pre stay n = true) : clearL pre stay D (n :: r) = clearL pre stay D r := by
  show (if skipN pre stay n then _ else _) = _
  rw [if_pos h]
theorem clearL_go {pre : Bs} {stay : List Bs} {D D' : DiskM} {n : Bs} {r : List Bs} (h : skipN pre stay n = false) (hr : D.remove [n] = (D', 0)) : clearL pre stay D (n :: r) = clearL pre stay D' r := by
  show (if skipN pre stay n then _ else if (D.remove [n]).2 = 0 then clearL pre stay (D.remove [n]).1 r else D.remove [n]) = _
  rw [if_neg (by simp [h]), hr, if_pos rfl]
theorem clearL_err {pre : Bs} {stay : List Bs} {D D' : DiskM} {n : Bs} {r : List Bs} {e : Nat} (h : skipN pre stay n = false) (hr : D.remove [n] = (D', e)) (he : e ≠ 0) : clearL pre stay D (n :: r) = (D', e) := by
  show (if skipN pre stay n then _ else if (D.remove [n]).2 = 0 then clearL pre stay (D.remove [n]).1 r else D.remove [n]) = _
  rw [if_neg (by simp [h]), hr, if_neg he]
end DiskM

theorem enc_str (x : Bs) : encStr x = .string ⟨x.toArray⟩ := rfl
theorem nm_str (x : Bs) : nm ⟨x.toArray⟩ = x := by simp [nm]

theorem HasN.same {w w' : World} {v : Value} {l : List Bs} (h : HasN w v l) (hs : ∀ k, v.ownBlock = some k → w'.heap[k]? = w.heap[k]?) : HasN w' v l := by
  obtain ⟨hl, p, cap, rfl, h0, hc⟩ := h
  refine ⟨hl, p, cap, rfl, h0, fun a ha i u hu => ?_⟩
  have hb : (a.add i).block = a.block := add_block _ _
  exact (World.cell?_of_block (by rw [hb]; exact hs _ (by rw [ha]; rfl))).trans (hc a ha i u hu)

theorem contains_calls {w : World} {v : Value} {l : List Bs} (h : HasN w v l) (hl : l.length ≤ 9223372036854775807) (x : Bs) :
    Calls Try.prog 70 #[v, .string ⟨x.toArray⟩] w fun e w' => e = .returned (.bool (l.contains x)) ∧ w' = w := by
  rcases h.at with rfl | ⟨b, o, c, rfl, hc⟩
  · obtain ⟨p, c, rfl⟩ := h.slice
    exact Try.slices_Contains_string_empty p c _ w
  · have H := Try.slices_Contains_string b o l.length c (l.map fun x => (⟨x.toArray⟩ : ByteArray)) ⟨x.toArray⟩ w (by simp) hl (fun j hj => by
      have hj' : j < l.length := by simpa using hj
      rw [hc j l[j] (List.getElem?_eq_getElem hj'), enc_str]
      simp [List.getD_eq_getElem?_getD, hj'])
    have e : Lib.containsS ((l.map fun x => (⟨x.toArray⟩ : ByteArray)).take l.length) ⟨x.toArray⟩ = l.contains x := by
      rw [List.take_of_length_le (by simp), Bool.eq_iff_iff, Lib.containsS_iff, List.contains_iff_mem, List.mem_map]
      constructor
      · rintro ⟨y, hy, e⟩
        have : y = x := by
          have := congrArg nm e
          rwa [nm_str, nm_str] at this
        rwa [this] at hy
      · intro hx
        exact ⟨x, hx, rfl⟩
    rw [e] at H
    exact H

theorem prefix_calls (w : World) (x : Bs) (s : ByteArray) :
    Calls Try.prog 69 #[.string ⟨x.toArray⟩, .string s] w fun e w' => e = .returned (.bool ((nm s).isPrefixOf x)) ∧ w' = w := by
  have H := Try.strings_HasPrefix ⟨x.toArray⟩ s w
  exact H
end Go.Proofs.Ytdlbamhabenhgaa
