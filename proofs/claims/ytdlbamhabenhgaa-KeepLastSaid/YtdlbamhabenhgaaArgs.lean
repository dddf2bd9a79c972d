/- What a law's arguments are, as the form reads them. -/
import Derived.Test.YtdlbamhabenhgaaRows
import Derived.Test.YtdlbamhabenhgaaBytes
import Derived.ProofKit
import Derived.OpenShut
import Derived.ShutString
import Derived.ChangeOld
import Derived.SizedLaws
import Derived.Deep.Matrix
namespace Go.Proofs.Ytdlbamhabenhgaa
open Go.RowKit Go.Sat Go.ChangeShapes Go.WideShapes Go.ChangeAt Go.Deep

theorem bytes_at {W : World} {a : Addr} {zs : List Int} {cap len : Nat} (hl : len ≤ cap) (hz : zs.length = cap) (hcell : ∀ i, i < cap → W.cell? (a.add i) = some (.int .u8 (zs.getD i 0))) (hwf : ∀ n ∈ zs, (Lit.int .u8 n).wf = true) (c : Nat) :
    HasB W (.slice (some a) len c) (Lib.bytesOf (zs.take len)) ∧ (Lib.bytesOf (zs.take len)).length = len := by
  have hlen : (Lib.bytesOf (zs.take len)).length = len := by simp only [Lib.bytesOf, List.length_map, List.length_take]; omega
  refine ⟨?_, hlen⟩
  refine HasB.of_kit ⟨some a, c, by rw [hlen], fun e => (by cases e), fun a' ha i x hx => ?_⟩
  cases ha
  have hi : i < len := by rw [← hlen]; exact (List.getElem?_eq_some_iff.1 hx).1
  have hiz : i < zs.length := by omega
  rw [hcell i (by omega)]
  have h1 : zs.getD i 0 = zs[i] := by simp [List.getD, List.getElem?_eq_getElem hiz]
  have h2 : (Lib.bytesOf (zs.take len))[i]? = some (UInt8.ofNat zs[i].toNat) := by
    simp only [Lib.bytesOf, List.getElem?_map, List.getElem?_take, if_pos hi, List.getElem?_eq_getElem hiz, Option.map_some]
  rw [h2] at hx
  simp only [Option.some.injEq] at hx
  rw [h1, ← hx]
  have h3 := hwf zs[i] (List.getElem_mem hiz)
  have h4 := bounds_u8 h3
  simp
  omega

theorem weights_head {P : Program} {H : Type} {t e : TypeId} {elems spare : List (DataW H)} (ht : P.underlying t = some (.slice e)) {B : Nat} (h : ∀ n ∈ (DataW.slice elems spare).weights P t, n ≤ B) : (elems.length + spare.length) * P.bytesOf e ≤ B :=
  h _ (by simp [DataW.weights, ht])

theorem weights_in {P : Program} {H : Type} {e : TypeId} {d : DataW H} {n : Nat} (hn : n ∈ d.weights P e) : ∀ {elems : List (DataW H)}, d ∈ elems → n ∈ DataW.weightsAll P e elems
  | [], h => by simp at h
  | x :: r, h => by
    simp only [DataW.weightsAll, List.mem_append]
    rcases List.mem_cons.1 h with rfl | h
    · exact .inl hn
    · exact .inr (weights_in hn h)

theorem weights_elem {P : Program} {H : Type} {t e : TypeId} {elems spare : List (DataW H)} (ht : P.underlying t = some (.slice e)) {B : Nat} (h : ∀ n ∈ (DataW.slice elems spare).weights P t, n ≤ B) {d : DataW H} (hd : d ∈ elems) : ∀ n ∈ d.weights P e, n ≤ B :=
  fun n hn => h n (by simp [DataW.weights, ht, weights_in hn hd])

section
variable {H : Type} {enc : TypeId × Value → H} {W : World} {fuel : Nat} {d : DataW H} {ps : List MemPlace}

/-- A []byte. -/
theorem bytes_arg {a : Option Addr} {len cap : Nat} (hf : DataW.trod enc Try.prog W 0 (fun _ => true) true fuel 23 [.slice a len cap] = some (d, ps)) (hw : ∀ n ∈ d.weights Try.prog 23, n ≤ reachBytes) :
    ∃ l, HasB W (.slice a len cap) l ∧ l.length ≤ 140737488355328 := by
  rcases open_ints Try.underlying23 Try.underlying5 (by kernel_rfl) hf with ⟨hcs, _⟩ | ⟨x, l, c, zs, hcs, _, hl, hm, hz, hd, hcell, hwz⟩
  · simp at hcs
    obtain ⟨rfl, rfl, rfl⟩ := hcs
    exact ⟨[], ⟨by simp [bytesV], none, 0, rfl, fun _ => rfl, fun a ha => by cases ha⟩, by simp⟩
  · simp at hcs
    obtain ⟨rfl, rfl, rfl⟩ := hcs
    simp only [if_true] at hz
    obtain ⟨h1, h2⟩ := bytes_at hl hz (fun i hi => hcell i (by omega)) hwz cap
    refine ⟨_, h1, ?_⟩
    simp only [Prod.mk.injEq] at hd
    obtain ⟨rfl, _⟩ := hd
    have hb := weights_head Try.underlying23 hw
    rw [show Try.prog.bytesOf 5 = 1 by kernel_rfl] at hb
    simp only [lits, List.length_map, List.length_take, List.length_drop] at hb
    rw [h2]
    unfold reachBytes at hb
    omega

/-- A [][]byte. -/
theorem rows_arg {a : Option Addr} {len cap : Nat} (hf : DataW.trod enc Try.prog W 0 (fun _ => true) true fuel 22 [.slice a len cap] = some (d, ps)) (hw : ∀ n ∈ d.weights Try.prog 22, n ≤ reachBytes) :
    ∃ ls, RowsAt W (.slice a len cap) ls ∧ len ≤ 140737488355328 ∧ ∀ l ∈ ls, l.length ≤ 140737488355328 := by
  rcases open_int_rows Try.underlying22 Try.underlying23 Try.underlying5 (by kernel_rfl) (by kernel_rfl) hf with ⟨hcs, _⟩ | ⟨x, l, c, A, L, C, Z, hcs, _, hl, hm, hd, hrow⟩
  · simp at hcs
    obtain ⟨rfl, rfl, rfl⟩ := hcs
    exact ⟨[], ⟨none, 0, rfl, Nat.le_refl _, fun h => absurd rfl h⟩, by simp, by simp⟩
  · simp at hcs
    obtain ⟨rfl, rfl, rfl⟩ := hcs
    simp only [Prod.mk.injEq] at hd
    obtain ⟨rfl, _⟩ := hd
    have hb := weights_head Try.underlying22 hw
    rw [show Try.prog.bytesOf 23 = 24 by kernel_rfl] at hb
    simp only [List.length_map, List.length_range] at hb
    unfold reachBytes at hb
    have hlen : len ≤ 140737488355328 := by omega
    have hC : ∀ r, r < len → C r ≤ 140737488355328 := fun r hr => by
      obtain ⟨_, hLC, _, hZ, _, hnone, _⟩ := hrow r (by omega)
      cases hA : A r with
      | none => rw [hnone hA]; exact Nat.zero_le _
      | some a' =>
        have h1 := weights_elem Try.underlying22 hw (d := intRow .u8 (A r) (L r) (Z r)) (List.mem_map.2 ⟨r, List.mem_range.2 hr, rfl⟩)
        rw [hA] at h1
        have h2 := weights_head Try.underlying23 h1
        rw [show Try.prog.bytesOf 5 = 1 by kernel_rfl] at h2
        simp only [lits, List.length_map, List.length_take, List.length_drop] at h2
        unfold reachBytes at h2
        omega
    refine ⟨(List.range len).map fun r => Lib.bytesOf ((Z r).take (L r)), ⟨some x, cap, by simp, by simpa using hl, fun hne => ?_⟩, hlen, fun l hl => ?_⟩
    · have h0 : 0 < len := by
        cases len with
        | zero => simp at hne
        | succ n => omega
      have hc0 := (hrow 0 (by omega)).1
      obtain ⟨b, o, sp⟩ := x
      have hsp : sp = none := by
        have := World.cell?_spot hc0
        simpa [Addr.add] using this
      subst hsp
      refine ⟨b, o, (List.range len).map fun r => .slice (A r) (L r) (C r), rfl, by simp, fun i v hv => ?_, fun i v l hv hl => ?_⟩
      · simp only [List.getElem?_map, Option.map_eq_some_iff] at hv
        obtain ⟨r, hr, rfl⟩ := hv
        have hri : r = i := by
          have := List.getElem?_eq_some_iff.1 hr
          obtain ⟨_, e⟩ := this
          simpa using e.symm
        subst hri
        have hrl : r < len := by
          have := (List.getElem?_eq_some_iff.1 hr).1
          simpa using this
        exact (hrow r (by omega)).1
      · simp only [List.getElem?_map, Option.map_eq_some_iff] at hv hl
        obtain ⟨r, hr, rfl⟩ := hv
        obtain ⟨r', hr', rfl⟩ := hl
        have : r = r' := by rw [hr] at hr'; exact Option.some.inj hr'
        subst this
        have hrl : r < len := List.mem_range.1 (List.mem_of_getElem? hr)
        obtain ⟨_, hLC, _, hZ, hwz, hnone, hcell⟩ := hrow r (by omega)
        cases hA : A r with
        | none =>
          have hC0 := hnone hA
          have hL0 : L r = 0 := by omega
          rw [hL0]
          exact ⟨none, C r, rfl, fun _ => by simp [Lib.bytesOf], fun a ha => by cases ha⟩
        | some a' => exact (bytes_at hLC hZ (fun i hi => (hcell a' hA).2 i hi) hwz (C r)).1.kit
    · obtain ⟨r, hr, rfl⟩ := List.mem_map.1 hl
      have hrl : r < len := List.mem_range.1 hr
      have := hC r hrl
      obtain ⟨_, hLC, _, hZ, _⟩ := hrow r (by omega)
      simp only [Lib.bytesOf, List.length_map, List.length_take]
      omega
end
end Go.Proofs.Ytdlbamhabenhgaa
