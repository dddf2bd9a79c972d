/- The contracts of frame's small functions: four, fromFour, headOf. -/
import Derived.Test.YtdlbamhabenhgaaSum
import Derived.Laws.BitsAllLaws
namespace Go.Proofs.Ytdlbamhabenhgaa
open Go.RowKit Go.Sat Go.Maps

/-- A number in four bytes. -/
def fourN (n : Nat) : Bs := [UInt8.ofNat n, UInt8.ofNat (n / 256), UInt8.ofNat (n / 65536), UInt8.ofNat (n / 16777216)]

/-- What a function hands back that lays its bytes anew. -/
def NewB (w : World) (l : Bs) (e : Ending) (w' : World) : Prop := ∃ v, e = .returned v ∧ HasB w' v l ∧ Below w.heap.size w w'

set_option maxRecDepth 100000 in
set_option maxHeartbeats 4000000 in
theorem four_calls {w : World} (v : Nat) (h1 : v < 4294967296) :
    Calls Try.prog 79 #[.int .u32 (v : Int)] w (NewB w (fourN v)) := by
  have hfin : NewB w (fourN v) (.returned (.slice (some ⟨w.heap.size, 0, none⟩) 4 4)) (w.alloc (.cells #[.int .u8 ((v : Int) % 256), .int .u8 ((v : Int) / 256 % 256), .int .u8 ((v : Int) / 65536 % 256), .int .u8 ((v : Int) / 16777216)] 5)) :=
    ⟨_, rfl, has_lit _ (fourN v) _ _ 4 rfl rfl (by
      simp only [fourN, bytesV, List.map_cons, List.map_nil, UInt8.toNat_ofNat']
      have e1 : (v : Int) / 16777216 = ((v / 16777216 % 256 : Nat) : Int) := by omega
      have e2 : (v : Int) % 256 = ((v % 256 : Nat) : Int) := by omega
      have e3 : (v : Int) / 256 % 256 = ((v / 256 % 256 : Nat) : Int) := by omega
      have e4 : (v : Int) / 65536 % 256 = ((v / 65536 % 256 : Nat) : Int) := by omega
      rw [e1, e2, e3, e4]), (Below.refl _ _).alloc (Nat.le_refl _) _⟩
  have Hfin := Lib.hid hfin
  clear hfin
  go_enter Try.func79, Try.ntmps79
  go_wp2_with fail
  go_ret
  exact Hfin.out

theorem or_add (k a b : Nat) (h : a < 2 ^ k) : (a ||| b * 2 ^ k) = a + b * 2 ^ k := by
  have := Nat.two_pow_add_eq_or_of_lt h b
  rw [Nat.or_comm, Nat.mul_comm b, ← this, Nat.add_comm]

theorem or_four {x0 x1 x2 x3 : Nat} (l0 : x0 < 2 ^ 8) (l1 : x1 < 2 ^ 8) (l2 : x2 < 2 ^ 8) (l3 : x3 < 2 ^ 8) :
    bits .or .u32 (bits .or .u32 (bits .or .u32 (x0 : Int) ((x1 : Int) * 256)) ((x2 : Int) * 65536)) ((x3 : Int) * 16777216) = ((x0 + x1 * 256 + x2 * 65536 + x3 * 16777216 : Nat) : Int) := by
  have e1 : (x1 : Int) * 256 = ((x1 * 2 ^ 8 : Nat) : Int) := by omega
  have e2 : (x2 : Int) * 65536 = ((x2 * 2 ^ 16 : Nat) : Int) := by omega
  have e3 : (x3 : Int) * 16777216 = ((x3 * 2 ^ 24 : Nat) : Int) := by omega
  rw [e1, e2, e3, u32_or_nat _ _ (by omega) (by omega), or_add 8 x0 x1 (by omega), u32_or_nat _ _ (by omega) (by omega), or_add 16 _ x2 (by omega), u32_or_nat _ _ (by omega) (by omega), or_add 24 _ x3 (by omega)]

/-- The number of four bytes. -/
def ofFour (a0 a1 a2 a3 : UInt8) : Nat := a0.toNat + a1.toNat * 256 + a2.toNat * 65536 + a3.toNat * 16777216

theorem of_four (n : Nat) (h : n < 4294967296) : ofFour (UInt8.ofNat n) (UInt8.ofNat (n / 256)) (UInt8.ofNat (n / 65536)) (UInt8.ofNat (n / 16777216)) = n := by
  simp only [ofFour, UInt8.toNat_ofNat']
  omega

set_option maxRecDepth 100000 in
set_option maxHeartbeats 4000000 in
theorem fromFour_calls {w : World} {b o n c : Nat} {a0 a1 a2 a3 : UInt8} (hn : 4 ≤ n) (h0 : w.cell? ⟨b, o, none⟩ = some (.int .u8 (a0.toNat : Int))) (h1 : w.cell? ⟨b, o + 1, none⟩ = some (.int .u8 (a1.toNat : Int)))
    (h2 : w.cell? ⟨b, o + 2, none⟩ = some (.int .u8 (a2.toNat : Int))) (h3 : w.cell? ⟨b, o + 3, none⟩ = some (.int .u8 (a3.toNat : Int))) :
    Calls Try.prog 93 #[.slice (some ⟨b, o, none⟩) n c] w (fun e w' => e = .returned (.int .u32 (ofFour a0 a1 a2 a3 : Int)) ∧ ∃ q, w' = w.drewN q) := by
  have l0 := a0.toNat_lt
  have l1 := a1.toNat_lt
  have l2 := a2.toNat_lt
  have l3 := a3.toNat_lt
  have i0 : (0 : Int) < (n : Int) := by omega
  have i1 : (1 : Int) < (n : Int) := by omega
  have i2 : (2 : Int) < (n : Int) := by omega
  have i3 : (3 : Int) < (n : Int) := by omega
  have hF := or_four l0 l1 l2 l3
  have HF := Lib.hid (show bits .or .u32 (bits .or .u32 (bits .or .u32 (a0.toNat : Int) ((a1.toNat : Int) * 256)) ((a2.toNat : Int) * 65536)) ((a3.toNat : Int) * 16777216) = (ofFour a0 a1 a2 a3 : Int) from hF)
  clear hF
  generalize ofFour a0 a1 a2 a3 = r at *
  generalize a0.toNat = x0 at *
  generalize a1.toNat = x1 at *
  generalize a2.toNat = x2 at *
  generalize a3.toNat = x3 at *
  go_enter Try.func93, Try.ntmps93
  go_wp2_with fail
  go_quiet (fail)
  go_wp2
  go_ret
  exact ⟨by rw [← HF.out]; rfl, _, rfl⟩
end Go.Proofs.Ytdlbamhabenhgaa
