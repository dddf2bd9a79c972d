/- The contracts of bytes.Equal, frame.Decode, frame.One. -/
import Derived.Test.YtdlbamhabenhgaaEnc
namespace Go.Proofs.Ytdlbamhabenhgaa
open Go.RowKit Go.Sat Go.Maps

theorem bytes_in {w : World} {p : Option Addr} {n c : Nat} {l : Bs} (h : HasB w (.slice p n c) l) : n = l.length ∧ Lib.BytesIn w p n (Lib.numsL l) := by
  have h1 := h.at
  obtain ⟨p', c', e⟩ := h.slice
  cases e
  refine ⟨rfl, fun hn => ?_⟩
  rcases h1 with e | ⟨b, o, c2, e, hc⟩
  · rw [e] at hn
    simp at hn
  · cases e
    refine ⟨b, o, rfl, fun i hi => ?_⟩
    rw [hc i l[i] (List.getElem?_eq_getElem hi)]
    simp [Lib.numsL, List.getD, List.getElem?_map, List.getElem?_eq_getElem hi]

theorem equal_calls {w : World} {x y : Value} {l m : Bs} (hx : HasB w x l) (hy : HasB w y m) :
    Calls Try.prog 94 #[x, y] w fun e w' => e = .returned (.bool (l == m)) ∧ w' = w := by
  obtain ⟨p1, c1, rfl⟩ := hx.slice
  obtain ⟨p2, c2, rfl⟩ := hy.slice
  have := Try.bytes_Equal_all p1 p2 l.length c1 m.length c2 (Lib.numsL l) (Lib.numsL m) w (Lib.numsL_length l) (Lib.numsL_length m) (bytes_in hx).2 (bytes_in hy).2
  rwa [Lib.bytesOf_numsL, Lib.bytesOf_numsL] at this

/-- The number that bytes begin with. -/
def fourAt (b : Bs) : Nat := ofFour (b.getD 0 0) (b.getD 1 0) (b.getD 2 0) (b.getD 3 0)

def decE (b : Bs) : Nat :=
  if b.length < 8 then 2 else if b.take 8 ≠ headN (fourAt b) then 4 else if 1048576 < fourAt b then 5 else if b.length < fourAt b + 12 then 2
  else if fourAt (b.drop (8 + fourAt b)) ≠ sumN (b.take (8 + fourAt b)) then 4 else 0
def decB (b : Bs) : Bs := if decE b = 0 then (b.drop 8).take (fourAt b) else []
def decL (b : Bs) : Nat := if decE b = 0 then fourAt b + 12 else 0

def Decoded (w : World) (b : Bs) (e : Ending) (w' : World) : Prop :=
  ∃ v, e = .returned (.tuple #[v, .int .i64 (decL b : Int), .int .i64 (decE b : Int)]) ∧ OwnB w' 5 v (decB b) ∧ (∀ k, v.ownBlock = some k → w.heap.size ≤ k) ∧ Below w.heap.size w w'

theorem four_at {w : World} {p : Option Addr} {n c : Nat} {b : Bs} (h : HasB w (.slice p n c) b) (h4 : 4 ≤ b.length) :
    Calls Try.prog 93 #[.slice p n c] w (fun e w' => e = .returned (.int .u32 (fourAt b : Int)) ∧ ∃ q, w' = w.drewN q) := by
  have h1 := h.at
  obtain ⟨p', c', e⟩ := h.slice
  cases e
  rcases h1 with e | ⟨g, o, c2, e, hc⟩
  · rw [e] at h4
    simp at h4
  · cases e
    have hb : ∀ i, i < b.length → b[i]? = some (b.getD i 0) := fun i hi => by simp [List.getD, List.getElem?_eq_getElem hi]
    exact fromFour_calls h4 (by simpa using hc 0 _ (hb 0 (by omega))) (hc 1 _ (hb 1 (by omega))) (hc 2 _ (hb 2 (by omega))) (hc 3 _ (hb 3 (by omega)))

theorem fourAt_lt (b : Bs) : fourAt b < 4294967296 := by
  have h0 := (b.getD 0 0).toNat_lt
  have h1 := (b.getD 1 0).toNat_lt
  have h2 := (b.getD 2 0).toNat_lt
  have h3 := (b.getD 3 0).toNat_lt
  unfold fourAt ofFour
  omega

theorem HasB.from {w : World} {g o n c : Nat} {l : Bs} (h : HasB w (.slice (some ⟨g, o, none⟩) n c) l) {k : Nat} (_hk : k ≤ l.length) (c' : Nat) : HasB w (.slice (some ⟨g, o + k, none⟩) (n - k) c') (l.drop k) := by
  have h1 := h.at
  obtain ⟨p', c2, e⟩ := h.slice
  cases e
  refine HasB.of_kit ⟨some ⟨g, o + k, none⟩, c', by rw [List.length_drop], fun e => (by cases e), fun a ha i x hx => ?_⟩
  cases ha
  have e1 : (⟨g, o + k, none⟩ : Addr).add i = ⟨g, o + k + i, none⟩ := by unfold Addr.add; split <;> simp_all
  rw [e1]
  rw [List.getElem?_drop] at hx
  rcases h1 with e | ⟨g2, o2, c3, e, hc⟩
  · rw [e] at hx
    simp at hx
  · cases e
    have := hc _ _ hx
    rw [Nat.add_assoc]
    exact this

/-- 'x[k:]'. -/
theorem run_from {P : Program} (w : World) {t e : TypeId} {i : TypeInfo} (ht : P.underlying t = some (.slice e)) (hi : P.info? e = some i) (hsz : i.size = 1) (g o len cap k : Nat) (h : k ≤ len) (_h2 : len ≤ cap) (h3 : k < cap) :
    (Instr.slice t (.slice (some ⟨g, o, none⟩) len cap) (some (.int .i64 (k : Int))) none none).run P w = .ok (.slice (some ⟨g, o + k, none⟩) (len - k) (cap - k)) w := by
  have h1 : (Instr.sliceBound (.int .i64 (k : Int)) len .sliceB).run P w = .ok k w := by
    rw [run_sliceBound _ _ _ _ _ (by omega) (by omega)]
    simp
  have e1 : (⟨g, o, none⟩ : Addr).add k = ⟨g, o + k, none⟩ := by unfold Addr.add; split <;> simp_all
  simp [Instr.slice, run_underlying ht, Instr.sliceBounds, h1, sizeOf, typeInfo, hi, Result.andThen, hsz, e1]
  omega
end Go.Proofs.Ytdlbamhabenhgaa
