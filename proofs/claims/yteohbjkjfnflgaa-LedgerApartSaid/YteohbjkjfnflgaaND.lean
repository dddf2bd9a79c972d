/- The contract of octet.Sum. The contracts of frame's small functions: four, fromFour, headOf. The contracts of frame.headOf and frame.Encode. octet.Join: what it hands back lies in a block of its own. The contract of frame.Encode. The contracts of bytes.Equal, frame.Decode, frame.One. A region that draws its order, walked in an order that is named: what yields is taken first, one operation at a time; what is not wanted is passed by; what works on the world comes up alone. The contracts of octet's Reader. The contracts of octet's Reader: Num, Bytes, Whole, NewReader. The contracts of octet's Writer. -/
import Derived.Deep.DrawnRows
import Derived.Deep.RegionHeld3
import Derived.Laws.BitsAllLaws
import Derived.Test.YteohbjkjfnflgaaNA
import Derived.Test.YteohbjkjfnflgaaNC
namespace Go.Proofs.Yteohbjkjfnflgaa
open Go.RowKit Go.Sat Go.Maps

/-- One bit of the check sum; one byte; bytes. -/
def bitF (z : Int) : Int := bits .xor .u32 (z / 2) (bits .and .u32 3988292384 (-bits .and .u32 z 1 % 4294967296))
def iterF : Nat → Int → Int
  | 0, z => z
  | k + 1, z => bitF (iterF k z)
def byteF (v : Int) (c : UInt8) : Int := iterF 8 (bits .xor .u32 v (c.toNat : Int))
def rowF (v : Int) (l : Bs) : Int := l.foldl byteF v
def rowsF (ls : List Bs) : Int := ls.foldl rowF 4294967295

theorem rowF_take (v : Int) (l : Bs) {j : Nat} (hj : j < l.length) : rowF v (l.take (j + 1)) = byteF (rowF v (l.take j)) l[j] := by
  rw [List.take_succ_eq_append_getElem hj]
  simp only [rowF, List.foldl_append, List.foldl_cons, List.foldl_nil]

theorem rowsF_take (ls : List Bs) {k : Nat} (hk : k < ls.length) : rowsF (ls.take (k + 1)) = rowF (rowsF (ls.take k)) ls[k] := by
  rw [List.take_succ_eq_append_getElem hk]
  simp only [rowsF, List.foldl_append, List.foldl_cons, List.foldl_nil]

theorem rowsF_flat (ls : List Bs) : rowsF ls = rowF 4294967295 ls.flatten := by
  unfold rowsF rowF
  rw [List.foldl_flatten]

def sumF (l : Bs) : Int := bits .xor .u32 IntKind.u32.max (rowF 4294967295 l)

set_option maxRecDepth 100000 in
set_option maxHeartbeats 4000000 in
theorem sum_calls {w : World} {p : Option Addr} {n c : Nat} {ls : List Bs} (hx : RowsAt w (.slice p n c) ls) (hn : n ≤ 140737488355328) (hrow : ∀ l ∈ ls, l.length ≤ 140737488355328) :
    Calls Try.prog 52 #[.slice p n c] w (fun e w' => e = .returned (.int .u32 (sumF ls.flatten)) ∧ w' = w) := by
  have hnl := RowsAt.len hx
  have Hx := Lib.hid hx
  have Hrow := Lib.hid hrow
  have Hnl := Lib.hid hnl
  clear hx hrow hnl
  go_enter Try.func52, Try.ntmps52
  go_wp2_with fail
  go_loop [3, 10] (fun v i => ∃ k : Nat, k ≤ n ∧ i = .int .i64 k ∧ v = .int .u32 (rowsF (ls.take k))) (fun _ i => n - (intOf i).toNat)
  case atStart => exact ⟨0, Nat.zero_le _, rfl, rfl⟩
  case round =>
    obtain ⟨k, hk, rfl, rfl⟩ := hrel
    by_cases hlt : k < n
    · have hltl : k < ls.length := by rw [← Hnl.out]; exact hlt
      have Hrw := Lib.hid (rowsF_take ls hltl)
      obtain ⟨-, b, o, v, rfl, hcell, hv⟩ := RowsAt.row Hx.out hltl
      have hrl := Hrow.out _ (List.getElem_mem hltl)
      generalize hl : ls[k] = l at *
      have Hat := Lib.hid hv.at
      obtain ⟨pv, cv, rfl⟩ := hv.slice
      generalize hm : l.length = m at *
      generalize rowsF (ls.take k) = x at *
      have Hm := Lib.hid hm
      clear hv hm hl
      go_wp2_with fail
      go_loop [3, 16] (fun v i => ∃ j : Nat, j ≤ m ∧ i = .int .i64 j ∧ v = .int .u32 (rowF x (l.take j))) (fun _ i => m - (intOf i).toNat)
      case atStart => exact ⟨0, Nat.zero_le _, rfl, rfl⟩
      case round =>
        obtain ⟨j, hj, rfl, rfl⟩ := hrel
        by_cases hlj : j < m
        · have hljl : j < l.length := by rw [Hm.out]; exact hlj
          have Hbt := Lib.hid (rowF_take x l hljl)
          rcases Hat.out with h | ⟨b2, o2, c2, e1, hcx⟩
          · rw [h] at hljl
            simp at hljl
          cases e1
          have hcb := hcx j _ (List.getElem?_eq_getElem hljl)
          generalize l[j] = cc at *
          generalize rowF x (l.take j) = y at *
          have hcc : cc.toNat < 256 := cc.toNat_lt
          clear hcx
          go_wp2_with fail
          have HB := Lib.hid (show byteF y cc = iterF 8 (bits .xor .u32 y (cc.toNat : Int)) from rfl)
          generalize bits .xor .u32 y (cc.toNat : Int) = z0 at *
          go_loop [3, 24] (fun v i => ∃ q : Nat, q ≤ 8 ∧ i = .int .i64 q ∧ v = .int .u32 (iterF q z0)) (fun _ i => 8 - (intOf i).toNat)
          case atStart => exact ⟨0, Nat.zero_le _, rfl, rfl⟩
          case round =>
            obtain ⟨q, hq, rfl, rfl⟩ := hrel
            by_cases hlq : q < 8
            · have Hit := Lib.hid (show iterF (q + 1) z0 = bitF (iterF q z0) from rfl)
              generalize iterF q z0 = z at *
              go_wp2_with fail
              go_round
              case rel => exact ⟨q + 1, by omega, by go_num, by rw [Hit.out]; rfl⟩
              case measure => simp [intOf]; omega
            · have hq8 : q = 8 := by omega
              subst hq8
              go_wp2_with fail
              go_round
              case rel => exact ⟨j + 1, by omega, by go_num, by rw [Hbt.out, HB.out]⟩
              case measure => simp [intOf]; omega
        · have hjm : j = m := by omega
          have hlk : l.take j = l := List.take_of_length_le (by rw [Hm.out]; omega)
          rw [hlk]
          clear hlk
          go_wp2_with fail
          go_round
          case rel => exact ⟨k + 1, by omega, by go_num, by rw [Hrw.out]⟩
          case measure => simp [intOf]; omega
    · have hlk : ls.take k = ls := List.take_of_length_le (by have := Hnl.out; omega)
      rw [hlk]
      clear hlk
      have He := Lib.hid (show sumF ls.flatten = bits .xor .u32 IntKind.u32.max (rowsF ls) by rw [rowsF_flat]; rfl)
      generalize rowsF ls = x at *
      go_wp2_with fail
      go_ret
      exact ⟨by rw [He.out]; rfl, rfl⟩
end Go.Proofs.Yteohbjkjfnflgaa

namespace Go.Proofs.Yteohbjkjfnflgaa
open Go.RowKit Go.Sat Go.Maps

/-- A number in four bytes. -/
def fourN (n : Nat) : Bs := [UInt8.ofNat n, UInt8.ofNat (n / 256), UInt8.ofNat (n / 65536), UInt8.ofNat (n / 16777216)]

/-- What a function hands back that lays its bytes anew. -/
def NewB (w : World) (l : Bs) (e : Ending) (w' : World) : Prop := ∃ v, e = .returned v ∧ HasB w' v l ∧ Below w.heap.size w w'

set_option maxRecDepth 100000 in
set_option maxHeartbeats 4000000 in
theorem four_calls {w : World} (v : Nat) (h1 : v < 4294967296) :
    Calls Try.prog 51 #[.int .u32 (v : Int)] w (NewB w (fourN v)) := by
  have hfin : NewB w (fourN v) (.returned (.slice (some ⟨w.heap.size, 0, none⟩) 4 4)) (w.alloc (.cells #[.int .u8 ((v : Int) % 256), .int .u8 ((v : Int) / 256 % 256), .int .u8 ((v : Int) / 65536 % 256), .int .u8 ((v : Int) / 16777216)] 5)) :=
    ⟨_, rfl, has_lit _ (fourN v) _ _ 4 rfl rfl (by
      simp only [fourN, bytesV, List.map_cons, List.map_nil, UInt8.toNat_ofNat']
      have e1 : (v : Int) / 16777216 = ((v / 16777216 % 256 : Nat) : Int) := by omega
      have e2 : (v : Int) % 256 = ((v % 256 : Nat) : Int) := by omega
      have e3 : (v : Int) / 256 % 256 = ((v / 256 % 256 : Nat) : Int) := by omega
      have e4 : (v : Int) / 65536 % 256 = ((v / 65536 % 256 : Nat) : Int) := by omega
      rw [e1, e2, e3, e4]), (Below.refl _ _).alloc (Nat.le_refl _) _⟩
  have Hfin := Lib.hid hfin
  clear hfin
  go_enter Try.func51, Try.ntmps51
  go_wp2_with fail
  go_ret
  exact Hfin.out

theorem or_add (k a b : Nat) (h : a < 2 ^ k) : (a ||| b * 2 ^ k) = a + b * 2 ^ k := by
  have := Nat.two_pow_add_eq_or_of_lt h b
  rw [Nat.or_comm, Nat.mul_comm b, ← this, Nat.add_comm]

theorem or_four {x0 x1 x2 x3 : Nat} (l0 : x0 < 2 ^ 8) (l1 : x1 < 2 ^ 8) (l2 : x2 < 2 ^ 8) (l3 : x3 < 2 ^ 8) :
    bits .or .u32 (bits .or .u32 (bits .or .u32 (x0 : Int) ((x1 : Int) * 256)) ((x2 : Int) * 65536)) ((x3 : Int) * 16777216) = ((x0 + x1 * 256 + x2 * 65536 + x3 * 16777216 : Nat) : Int) := by
  have e1 : (x1 : Int) * 256 = ((x1 * 2 ^ 8 : Nat) : Int) := by omega
  have e2 : (x2 : Int) * 65536 = ((x2 * 2 ^ 16 : Nat) : Int) := by omega
  have e3 : (x3 : Int) * 16777216 = ((x3 * 2 ^ 24 : Nat) : Int) := by omega
  rw [e1, e2, e3, u32_or_nat _ _ (by omega) (by omega), or_add 8 x0 x1 (by omega), u32_or_nat _ _ (by omega) (by omega), or_add 16 _ x2 (by omega), u32_or_nat _ _ (by omega) (by omega), or_add 24 _ x3 (by omega)]

/-- The number of four bytes. -/
def ofFour (a0 a1 a2 a3 : UInt8) : Nat := a0.toNat + a1.toNat * 256 + a2.toNat * 65536 + a3.toNat * 16777216

theorem of_four (n : Nat) (h : n < 4294967296) : ofFour (UInt8.ofNat n) (UInt8.ofNat (n / 256)) (UInt8.ofNat (n / 65536)) (UInt8.ofNat (n / 16777216)) = n := by
  simp only [ofFour, UInt8.toNat_ofNat']
  omega

set_option maxRecDepth 100000 in
set_option maxHeartbeats 4000000 in
theorem fromFour_calls {w : World} {b o n c : Nat} {a0 a1 a2 a3 : UInt8} (hn : 4 ≤ n) (h0 : w.cell? ⟨b, o, none⟩ = some (.int .u8 (a0.toNat : Int))) (h1 : w.cell? ⟨b, o + 1, none⟩ = some (.int .u8 (a1.toNat : Int)))
    (h2 : w.cell? ⟨b, o + 2, none⟩ = some (.int .u8 (a2.toNat : Int))) (h3 : w.cell? ⟨b, o + 3, none⟩ = some (.int .u8 (a3.toNat : Int))) :
    Calls Try.prog 70 #[.slice (some ⟨b, o, none⟩) n c] w (fun e w' => e = .returned (.int .u32 (ofFour a0 a1 a2 a3 : Int)) ∧ ∃ q, w' = w.drewN q) := by
  have l0 := a0.toNat_lt
  have l1 := a1.toNat_lt
  have l2 := a2.toNat_lt
  have l3 := a3.toNat_lt
  have i0 : (0 : Int) < (n : Int) := by omega
  have i1 : (1 : Int) < (n : Int) := by omega
  have i2 : (2 : Int) < (n : Int) := by omega
  have i3 : (3 : Int) < (n : Int) := by omega
  have hF := or_four l0 l1 l2 l3
  have HF := Lib.hid (show bits .or .u32 (bits .or .u32 (bits .or .u32 (a0.toNat : Int) ((a1.toNat : Int) * 256)) ((a2.toNat : Int) * 65536)) ((a3.toNat : Int) * 16777216) = (ofFour a0 a1 a2 a3 : Int) from hF)
  clear hF
  generalize ofFour a0 a1 a2 a3 = r at *
  generalize a0.toNat = x0 at *
  generalize a1.toNat = x1 at *
  generalize a2.toNat = x2 at *
  generalize a3.toNat = x3 at *
  go_enter Try.func70, Try.ntmps70
  go_wp2_with fail
  go_quiet (fail)
  go_wp2
  go_ret
  exact ⟨by rw [← HF.out]; rfl, _, rfl⟩
end Go.Proofs.Yteohbjkjfnflgaa

namespace Go.Proofs.Yteohbjkjfnflgaa
open Go.RowKit Go.Sat Go.Maps

def sumN (l : Bs) : Nat := (sumF l).toNat

theorem sumF_range (l : Bs) : 0 ≤ sumF l ∧ sumF l < 4294967296 := by
  unfold sumF bits
  rw [IntKind.wrap_u32]
  omega

theorem sumF_nat (l : Bs) : sumF l = (sumN l : Int) := by
  have := (sumF_range l).1
  unfold sumN
  omega

theorem sumN_lt (l : Bs) : sumN l < 4294967296 := by
  have := sumF_range l
  unfold sumN
  omega

/-- A list of two rows, in a new block. -/
theorem rows_two {w : World} {v1 v2 : Value} {l1 l2 : Bs} (h1 : HasB w v1 l1) (h2 : HasB w v2 l2) (e : TypeId) (fr : Nat × Nat) (g c : Nat) (hg : g = w.heap.size) (hc : 2 ≤ c) : RowsAt (w.alloc (.cells #[v1, v2] e fr)) (.slice (some ⟨g, 0, none⟩) 2 c) [l1, l2] := by
  subst hg
  refine ⟨_, c, rfl, by simpa using hc, fun _ => ⟨_, _, [v1, v2], rfl, rfl, fun i u hu => ?_, fun i u m hu hm => ?_⟩⟩
  · have e1 : (⟨w.heap.size, 0, none⟩ : Addr).add i = ⟨w.heap.size, i, none⟩ := by unfold Addr.add; split <;> simp_all
    rw [e1]
    refine cell_of (new_block w _) ?_
    simpa using hu
  · have hi : i < 2 := by
      have := (List.getElem?_eq_some_iff.1 hu).1
      simpa using this
    have : i = 0 ∨ i = 1 := by omega
    rcases this with rfl | rfl
    · simp at hu hm
      subst hu
      subst hm
      exact (has_alloc h1 _).kit
    · simp at hu hm
      subst hu
      subst hm
      exact (has_alloc h2 _).kit

theorem below_al (w : World) (o : Obj) : Below w.heap.size w (w.alloc o) := (Below.refl _ _).alloc (Nat.le_refl _) o
theorem below_to {w w1 w2 : World} (h : Below w.heap.size w w1) (k : Below w1.heap.size w1 w2) : Below w.heap.size w w2 := h.trans (k.mono h.size)

def headN (n : Nat) : Bs := fourN n ++ fourN (sumN (fourN n))

set_option maxRecDepth 100000 in
set_option maxHeartbeats 4000000 in
theorem head_calls {w : World} (n : Nat) (h : n < 4294967296) :
    Calls Try.prog 50 #[.int .u32 (n : Int)] w (NewB w (headN n)) := by
  have Hf := Lib.hid (fun w => four_calls (w := w) n h)
  go_enter Try.func50, Try.ntmps50
  go_wp2_with fail
  refine (Hf.out _).mono ?_
  rintro e w1 ⟨v1, rfl, hv1, hb1⟩
  have V1 := Lib.hid hv1
  have B1 := Lib.hid hb1
  clear hv1 hb1
  go_wp2_with fail
  refine (Hf.out _).mono ?_
  rintro e w2 ⟨v2, rfl, hv2, hb2⟩
  have V2 := Lib.hid hv2
  have B2 := Lib.hid hb2
  obtain ⟨p2, c2, rfl⟩ := hv2.slice
  clear hv2 hb2
  go_wp2_with fail
  refine (sum_calls (rows_one V2.out 33 (0, 0) _ 1 rfl (Nat.le_refl _)) (by decide) (by simp [fourN])).mono ?_
  rintro e w3 ⟨rfl, rfl⟩
  rw [show [fourN n].flatten = fourN n by simp, sumF_nat]
  have Hg := Lib.hid (fun w => four_calls (w := w) (sumN (fourN n)) (sumN_lt _))
  have Hh := Lib.hid (show headN n = fourN n ++ fourN (sumN (fourN n)) from rfl)
  generalize sumN (fourN n) = q at *
  go_wp2_with fail
  refine (Hg.out _).mono ?_
  rintro e w4 ⟨v4, rfl, hv4, hb4⟩
  have B2' := below_to B1.out (below_to B2.out (below_to (below_al _ _) hb4))
  have V1' := V1.out.below (below_to B2.out (below_to (below_al _ _) hb4))
  obtain ⟨p1, c1, rfl⟩ := V1.out.slice
  obtain ⟨p4, c4, rfl⟩ := hv4.slice
  have hj := join_calls (rows_two V1' hv4 33 (0, 0) _ 2 rfl (Nat.le_refl _)) (by simp) (by simp [fourN])
  have Hj := Lib.hid hj
  have BB := Lib.hid B2'
  clear hj V1' B2' hv4 hb4
  go_wp2_with fail
  refine Hj.out.mono ?_
  rintro e w5 ⟨v5, rfl, hv5, hb5⟩
  have Hfin := Lib.hid (show NewB w (headN n) (.returned v5) w5 from ⟨v5, rfl, by rw [Hh.out]; simpa using hv5, below_to BB.out (below_to (below_al _ _) hb5)⟩)
  clear hv5 hb5
  go_wp2_with fail
  go_ret
  exact Hfin.out
end Go.Proofs.Yteohbjkjfnflgaa

namespace Go.Proofs.Yteohbjkjfnflgaa
open Go.RowKit Go.Sat

theorem fresh_ge {B : Nat} {w : World} {v : Value} {l : Bs} (h : Lib.FreshBytes B w v l) : ∀ k, v.ownBlock = some k → B ≤ k := by
  obtain ⟨g, cap, zs, rfl, h1, _⟩ := h
  intro k hk
  cases hk
  exact h1

/-- bytes.Join of rows, with nothing between them. -/
theorem bjoin_new {w : World} {x : Value} {ls : List Bs} (h : RowsAt w x ls) (hn : ls.length ≤ 140737488355328) (hl : ls.flatten.length ≤ 140737488355328) :
    Calls Try.prog 66 #[x, .slice none 0 0] w fun e w' => ∃ v, e = .returned v ∧ HasB w' v ls.flatten ∧ (∀ k, v.ownBlock = some k → w.heap.size ≤ k) ∧ Below w.heap.size w w' := by
  obtain ⟨p, c, rfl, hc, hQ⟩ := h
  cases ls with
  | nil =>
    refine (Try.bytes_Join_none p c (.slice none 0 0) w).mono ?_
    rintro e w' ⟨rfl, rfl⟩
    refine ⟨_, rfl, ?_, fun k hk => (by simp [Value.ownBlock] at hk; omega), (Below.refl _ _).alloc (Nat.le_refl _) _⟩
    exact HasB.of_kit ⟨_, _, rfl, fun e => (by cases e), fun a ha i x hx => by simp at hx⟩
  | cons l0 r =>
    obtain ⟨b, o, vs, rfl, hP⟩ := hQ (by simp)
    cases r with
    | nil =>
      obtain ⟨p0, c0, l0', e0, hcell, hp0, hcs⟩ := hP.get 0 (by simp)
      simp at e0
      subst e0
      have hcell' : w.cell? ⟨b, o, none⟩ = some (.slice p0 l0.length c0) := by simpa [Addr.add] using hcell
      by_cases h0 : l0.length = 0
      · have hl0 : l0 = [] := List.eq_nil_of_length_eq_zero h0
        subst hl0
        refine (Try.bytes_Join_one_empty b o c p0 c0 (.slice none 0 0) w hcell').mono ?_
        rintro e w' ⟨rfl, rfl⟩
        exact ⟨_, rfl, HasB.of_kit ⟨none, 0, rfl, fun _ => rfl, fun a ha => (by cases ha)⟩, fun k hk => (by cases hk), Below.refl _ _⟩
      · obtain ⟨a0, rfl⟩ : ∃ a, p0 = some a := by
          cases p0 with
          | none => exact absurd (by rw [hp0 rfl]; rfl) h0
          | some a => exact ⟨a, rfl⟩
        refine (Try.bytes_Join_one b o c a0 c0 l0 (.slice none 0 0) w hcell' (hcs a0 rfl) (by omega) (by simpa using hl)).mono ?_
        rintro e w' ⟨v, rfl, hf, hb⟩
        exact ⟨v, rfl, by simpa using fresh_has hf, fresh_ge hf, hb⟩
    | cons l1 r =>
      have hsep : Lib.HoldsBytes w (.slice none 0 0) [] := ⟨none, 0, rfl, fun _ => rfl, fun a ha => (by cases ha)⟩
      refine (Try.bytes_Join_many b o _ c vs (l0 :: l1 :: r) (.slice none 0 0) [] w rfl (by simp) hP hc hsep hn (by rw [← flat_len]; simpa using hl)).mono ?_
      rintro e w' ⟨v, rfl, hf, hb⟩
      rw [join_flat] at hf
      exact ⟨v, rfl, fresh_has hf, fresh_ge hf, hb⟩

set_option maxHeartbeats 400000 in
/-- octet.Join. -/
theorem join_new {w : World} {x : Value} {ls : List Bs} (h : RowsAt w x ls) (hn : ls.length ≤ 140737488355328) (hl : ls.flatten.length ≤ 140737488355328) :
    Calls Try.prog 49 #[x] w fun e w' => ∃ v, e = .returned v ∧ HasB w' v ls.flatten ∧ (∀ k, v.ownBlock = some k → w.heap.size ≤ k) ∧ Below w.heap.size w w' := by
  have hj := bjoin_new h hn hl
  obtain ⟨p, c, rfl, hc, hP⟩ := h
  have Hj := Lib.hid hj
  clear hj hP
  go_enter Try.func49, Try.ntmps49
  go_wp2_with fail
  refine Hj.out.mono ?_
  rintro e w' ⟨v, rfl, hv, hw, hb⟩
  go_wp2_with fail
  go_ret
  exact ⟨v, rfl, hv, hw, hb⟩

end Go.Proofs.Yteohbjkjfnflgaa

namespace Go.Proofs.Yteohbjkjfnflgaa
open Go.RowKit Go.Sat Go.Maps

/-- A record of bytes. -/
def frameN (l : Bs) : Bs := (headN l.length ++ l) ++ fourN (sumN (headN l.length ++ l))

theorem lens_take (ls : List Bs) {k : Nat} (hk : k < ls.length) : (ls.take (k + 1)).flatten.length = (ls.take k).flatten.length + ls[k].length := by
  rw [flat_take hk, List.length_append]

set_option maxRecDepth 100000 in
set_option maxHeartbeats 4000000 in
theorem enc_calls {w : World} {p : Option Addr} {n c : Nat} {ls : List Bs} (hx : RowsAt w (.slice p n c) ls) (hn : n ≤ 140737488355328) (hl : ls.flatten.length ≤ 1048576) :
    Calls Try.prog 27 #[.slice p n c] w (fun e w' => ∃ v, e = .returned (.tuple #[v, .int .i64 0]) ∧ HasB w' v (frameN ls.flatten) ∧ (∀ k, v.ownBlock = some k → w.heap.size ≤ k) ∧ Below w.heap.size w w') := by
  have hnl := RowsAt.len hx
  have Hx := Lib.hid hx
  have Hl := Lib.hid hl
  have Hnl := Lib.hid hnl
  clear hx hl hnl
  go_enter Try.func27, Try.ntmps27
  go_wp2_with fail
  go_loop [4, 10] (fun a i => ∃ k : Nat, k ≤ n ∧ i = .int .i64 k ∧ a = .int .i64 (((ls.take k).flatten.length : Nat) : Int) ∧ (ls.take k).flatten.length ≤ 1048576) (fun _ i => n - (intOf i).toNat)
  case atStart => exact ⟨0, Nat.zero_le _, rfl, by simp, by simp⟩
  case round =>
    obtain ⟨k, hk, rfl, rfl, hck⟩ := hrel
    by_cases hlt : k < n
    · have hltl : k < ls.length := by rw [← Hnl.out]; exact hlt
      have hct := lens_take ls hltl
      have hle := flat_take_le ls (k + 1)
      obtain ⟨-, b, o, v, rfl, hcell, hv⟩ := RowsAt.row Hx.out hltl
      obtain ⟨pv, cv, rfl⟩ := hv.slice
      have hc8 : (ls.take (k + 1)).flatten.length ≤ 1048576 := by have := Hl.out; omega
      have hsum : (ls.take k).flatten.length + ls[k].length ≤ 1048576 := by omega
      have Hct := Lib.hid hct
      have Hc8 := Lib.hid hc8
      clear hv hct hle hc8
      generalize ls[k].length = m at *
      generalize (ls.take k).flatten.length = C at *
      go_wp2_with fail
      go_round
      case rel => exact ⟨k + 1, by omega, by go_num, by rw [Hct.out]; go_num, Hc8.out⟩
      case measure => simp [intOf]; omega
    · have hls : ls.take k = ls := List.take_of_length_le (by have := Hnl.out; omega)
      rw [hls] at hck ⊢
      have hkn : k = n := by omega
      have Hhd := Lib.hid (fun w => head_calls (w := w) ls.flatten.length (by have := Hl.out; omega))
      have HFr := Lib.hid (show frameN ls.flatten = (headN ls.flatten.length ++ ls.flatten) ++ fourN (sumN (headN ls.flatten.length ++ ls.flatten)) from rfl)
      have Hjn := Lib.hid (fun (W : World) (hb : Below w.heap.size w W) => join_calls (rows_below Hx.out hb) (by rw [← Hnl.out]; omega) (by have := Hl.out; omega))
      generalize hX : ls.flatten = X at *
      have HX := Lib.hid hX
      clear hX
      generalize hC : X.length = C at *
      have hhl : (headN C).length = 8 := rfl
      generalize headN C = hd at *
      have HC := Lib.hid hC
      have Hhl := Lib.hid hhl
      clear hls hC hhl
      go_wp2_with fail
      refine (Hhd.out _).mono ?_
      rintro e w1 ⟨v1, rfl, hv1, hb1⟩
      have V1 := Lib.hid hv1
      have B1 := Lib.hid hb1
      have Hj := Lib.hid (Hjn.out _ hb1)
      clear hv1 hb1
      go_wp2_with fail
      refine Hj.out.mono ?_
      rintro e w2 ⟨v2, rfl, hv2, hb2⟩
      have hh1 := V1.out.below hb2
      obtain ⟨p1, c1, rfl⟩ := hh1.slice
      obtain ⟨p2, c2, rfl⟩ := hv2.slice
      have hj := join_calls (rows_two hh1 hv2 33 (0, 0) _ 2 rfl (Nat.le_refl _)) (by simp) (by simp [Hhl.out, HC.out]; omega)
      rw [show [hd, X].flatten = hd ++ X by simp] at hj
      have e1 := Hhl.out
      have e2 := HC.out
      rw [e1, e2] at hj
      rw [e1, e2]
      have Hj2 := Lib.hid hj
      have B2 := Lib.hid (below_to B1.out (below_to hb2 (below_al w2 (.cells #[.slice p1 8 c1, .slice p2 C c2] 33))))
      clear hj hh1 hv2 hb2 Hj e1 e2
      go_wp2_with fail
      refine Hj2.out.mono ?_
      rintro e w3 ⟨v3, rfl, hv3, hb3⟩
      have V3 := Lib.hid hv3
      have B3 := Lib.hid (below_to B2.out hb3)
      have hlb : (hd ++ X).length ≤ 1048584 := by rw [List.length_append, Hhl.out, HC.out]; omega
      have HLb := Lib.hid hlb
      generalize hY : hd ++ X = Y at *
      obtain ⟨p3, c3, rfl⟩ := hv3.slice
      clear hv3 hb3 hY hlb
      have hlY := HLb.out
      generalize hD : Y.length = yl at *
      have HD := Lib.hid hD
      clear hD
      go_wp2_with fail
      refine (sum_calls (rows_one V3.out 33 (0, 0) _ 1 rfl (Nat.le_refl _)) (by decide) (by simp [HD.out]; omega)).mono ?_
      rintro e w4 ⟨rfl, rfl⟩
      rw [show [Y].flatten = Y by simp, sumF_nat]
      have Hg := Lib.hid (fun w => four_calls (w := w) (sumN Y) (sumN_lt _))
      generalize sumN Y = q at *
      go_wp2_with fail
      refine (Hg.out _).mono ?_
      rintro e w5 ⟨v5, rfl, hv5, hb5⟩
      have V3' := V3.out.below (below_to (below_al _ _) hb5)
      obtain ⟨p5, c5, rfl⟩ := hv5.slice
      have hj := join_new (rows_two V3' hv5 33 (0, 0) _ 2 rfl (Nat.le_refl _)) (by simp) (by simp [fourN, HD.out]; omega)
      rw [show [Y, fourN q].flatten = Y ++ fourN q by simp, show (fourN q).length = 4 from rfl] at hj
      have B5 := Lib.hid (below_to B3.out (below_to (below_al _ _) hb5))
      rw [show (fourN q).length = 4 from rfl]
      have Hj3 := Lib.hid hj
      clear hj V3' hv5 hb5
      go_wp2_with fail
      refine Hj3.out.mono ?_
      rintro e w6 ⟨v6, rfl, hv6, hw6, hb6⟩
      have V6 := Lib.hid (And.intro hv6 (And.intro (fun k hk => Nat.le_trans B5.out.size (Nat.le_trans (below_al w5 _).size (hw6 k hk)) : ∀ k, v6.ownBlock = some k → w.heap.size ≤ k) (below_to B5.out (below_to (below_al _ _) hb6))))
      clear hv6 hw6 hb6
      go_wp2_with fail
      go_ret2
      exact ⟨v6, rfl, by rw [HX.out, HFr.out]; exact V6.out.1, V6.out.2.1, V6.out.2.2⟩
end Go.Proofs.Yteohbjkjfnflgaa

namespace Go.Proofs.Yteohbjkjfnflgaa
open Go.RowKit Go.Sat Go.Maps

theorem bytes_in {w : World} {p : Option Addr} {n c : Nat} {l : Bs} (h : HasB w (.slice p n c) l) : n = l.length ∧ Lib.BytesIn w p n (Lib.numsL l) := by
  have h1 := h.at
  obtain ⟨p', c', e⟩ := h.slice
  cases e
  refine ⟨rfl, fun hn => ?_⟩
  rcases h1 with e | ⟨b, o, c2, e, hc⟩
  · rw [e] at hn
    simp at hn
  · cases e
    refine ⟨b, o, rfl, fun i hi => ?_⟩
    rw [hc i l[i] (List.getElem?_eq_getElem hi)]
    simp [Lib.numsL, List.getD, List.getElem?_map, List.getElem?_eq_getElem hi]

theorem equal_calls {w : World} {x y : Value} {l m : Bs} (hx : HasB w x l) (hy : HasB w y m) :
    Calls Try.prog 71 #[x, y] w fun e w' => e = .returned (.bool (l == m)) ∧ w' = w := by
  obtain ⟨p1, c1, rfl⟩ := hx.slice
  obtain ⟨p2, c2, rfl⟩ := hy.slice
  have := Try.bytes_Equal_all p1 p2 l.length c1 m.length c2 (Lib.numsL l) (Lib.numsL m) w (Lib.numsL_length l) (Lib.numsL_length m) (bytes_in hx).2 (bytes_in hy).2
  rwa [Lib.bytesOf_numsL, Lib.bytesOf_numsL] at this

/-- The number that bytes begin with. -/
def fourAt (b : Bs) : Nat := ofFour (b.getD 0 0) (b.getD 1 0) (b.getD 2 0) (b.getD 3 0)

def decE (b : Bs) : Nat :=
  if b.length < 8 then 2 else if b.take 8 ≠ headN (fourAt b) then 4 else if 1048576 < fourAt b then 5 else if b.length < fourAt b + 12 then 2
  else if fourAt (b.drop (8 + fourAt b)) ≠ sumN (b.take (8 + fourAt b)) then 4 else 0
def decB (b : Bs) : Bs := if decE b = 0 then (b.drop 8).take (fourAt b) else []
def decL (b : Bs) : Nat := if decE b = 0 then fourAt b + 12 else 0

def Decoded (w : World) (b : Bs) (e : Ending) (w' : World) : Prop :=
  ∃ v, e = .returned (.tuple #[v, .int .i64 (decL b : Int), .int .i64 (decE b : Int)]) ∧ OwnB w' 5 v (decB b) ∧ (∀ k, v.ownBlock = some k → w.heap.size ≤ k) ∧ Below w.heap.size w w'

theorem four_at {w : World} {p : Option Addr} {n c : Nat} {b : Bs} (h : HasB w (.slice p n c) b) (h4 : 4 ≤ b.length) :
    Calls Try.prog 70 #[.slice p n c] w (fun e w' => e = .returned (.int .u32 (fourAt b : Int)) ∧ ∃ q, w' = w.drewN q) := by
  have h1 := h.at
  obtain ⟨p', c', e⟩ := h.slice
  cases e
  rcases h1 with e | ⟨g, o, c2, e, hc⟩
  · rw [e] at h4
    simp at h4
  · cases e
    have hb : ∀ i, i < b.length → b[i]? = some (b.getD i 0) := fun i hi => by simp [List.getD, List.getElem?_eq_getElem hi]
    exact fromFour_calls h4 (by simpa using hc 0 _ (hb 0 (by omega))) (hc 1 _ (hb 1 (by omega))) (hc 2 _ (hb 2 (by omega))) (hc 3 _ (hb 3 (by omega)))

theorem fourAt_lt (b : Bs) : fourAt b < 4294967296 := by
  have h0 := (b.getD 0 0).toNat_lt
  have h1 := (b.getD 1 0).toNat_lt
  have h2 := (b.getD 2 0).toNat_lt
  have h3 := (b.getD 3 0).toNat_lt
  unfold fourAt ofFour
  omega

theorem HasB.from {w : World} {g o n c : Nat} {l : Bs} (h : HasB w (.slice (some ⟨g, o, none⟩) n c) l) {k : Nat} (_hk : k ≤ l.length) (c' : Nat) : HasB w (.slice (some ⟨g, o + k, none⟩) (n - k) c') (l.drop k) := by
  have h1 := h.at
  obtain ⟨p', c2, e⟩ := h.slice
  cases e
  refine HasB.of_kit ⟨some ⟨g, o + k, none⟩, c', by rw [List.length_drop], fun e => (by cases e), fun a ha i x hx => ?_⟩
  cases ha
  have e1 : (⟨g, o + k, none⟩ : Addr).add i = ⟨g, o + k + i, none⟩ := by unfold Addr.add; split <;> simp_all
  rw [e1]
  rw [List.getElem?_drop] at hx
  rcases h1 with e | ⟨g2, o2, c3, e, hc⟩
  · rw [e] at hx
    simp at hx
  · cases e
    have := hc _ _ hx
    rw [Nat.add_assoc]
    exact this

/-- 'x[k:]'. -/
theorem run_from {P : Program} (w : World) {t e : TypeId} {i : TypeInfo} (ht : P.underlying t = some (.slice e)) (hi : P.info? e = some i) (hsz : i.size = 1) (g o len cap k : Nat) (h : k ≤ len) (_h2 : len ≤ cap) (h3 : k < cap) :
    (Instr.slice t (.slice (some ⟨g, o, none⟩) len cap) (some (.int .i64 (k : Int))) none none).run P w = .ok (.slice (some ⟨g, o + k, none⟩) (len - k) (cap - k)) w := by
  have h1 : (Instr.sliceBound (.int .i64 (k : Int)) len .sliceB).run P w = .ok k w := by
    rw [run_sliceBound _ _ _ _ _ (by omega) (by omega)]
    simp
  have e1 : (⟨g, o, none⟩ : Addr).add k = ⟨g, o + k, none⟩ := by unfold Addr.add; split <;> simp_all
  simp [Instr.slice, run_underlying ht, Instr.sliceBounds, h1, sizeOf, typeInfo, hi, Result.andThen, hsz, e1]
  omega
end Go.Proofs.Yteohbjkjfnflgaa

namespace Go.Sat
open Go

section
variable {P : Program} {l : List Oper} {Q : Exit → Act → World → Prop} {md : Region.Mode} {S : World → Prop} {fuel : Nat} {listed : Array Bool} {a : Act} {w : World}

theorem ord_get {i : Nat} {o : Oper} {r : List Oper} (h : l.drop i = o :: r) : l.toArray[i]? = some o := by
  have := List.getElem?_drop (xs := l) (i := i) (j := 0)
  rw [h] at this
  simpa using this.symm

/-- The beginning. -/
theorem ord_start (S : World → Prop) {id n : Nat} (hm : P.follows .mixedOrders = true) (hn : l.length = n) (hS : S w.drew) (h : S w.drew → wpAnyH P .any l.toArray Q S n (Array.replicate n false) a w.drew) : (Code.region id l.toArray true).wp P Q a w := by
  subst hn
  exact wp_region_held_drew hm hS (by simpa using h)

/-- Number i is not wanted. -/
theorem ord_skip (i : Nat) {o : Oper} {r : List Oper} (hd : l.drop i = o :: r) (hs : Region.noSelect l.toArray = true) (hf : Region.free md l.toArray listed i = true) (hr : (Region.ready md l.toArray listed).contains i = true)
    (hQ : ∀ c a w, Q (.panic c) (a.put o.dst undef) w → Q (.panic c) a w) (hw : Region.wanted o (yielded l.toArray a.tmps) = false) (hS : S w)
    (h : wpAnyH P md l.toArray Q S fuel (listed.setIfInBounds i true) (a.put o.dst undef) w) : wpAnyH P md l.toArray Q S (fuel + 1) listed a w :=
  wpAnyH_take (ord_get hd) hs hf hr hQ (.inr ⟨hw, rfl⟩) hS h

/-- Number i yields its value, in every world that meets S. -/
theorem ord_take (i : Nat) {o : Oper} {r : List Oper} {v : Value} (hd : l.drop i = o :: r) (hs : Region.noSelect l.toArray = true) (hf : Region.free md l.toArray listed i = true) (hr : (Region.ready md l.toArray listed).contains i = true)
    (hQ : ∀ c a w, Q (.panic c) (a.put o.dst v) w → Q (.panic c) a w) (hw : Region.wanted o (yielded l.toArray a.tmps) = true) (hS : S w) (hy : ∀ w, S w → (execOp a.eval o).run P w = .ok (.value v) w)
    (h : wpAnyH P md l.toArray Q S fuel (listed.setIfInBounds i true) (a.put o.dst v) w) : wpAnyH P md l.toArray Q S (fuel + 1) listed a w :=
  wpAnyH_take (ord_get hd) hs hf hr hQ (.inl ⟨hw, hy⟩) hS h

/-- Number i alone may come up. -/
theorem ord_one (i : Nat) {o : Oper} {r : List Oper} (hd : l.drop i = o :: r) (hr : Region.ready md l.toArray listed = [i]) (hw : Region.wanted o (yielded l.toArray a.tmps) = true)
    (h : ∀ K : Act → World → Prop, Shut (∀ a w, S w → (S w → wpAnyH P md l.toArray Q S fuel (listed.setIfInBounds i true) a w) → K a w) → Oper.wp P o a w K Q) : wpAnyH P md l.toArray Q S (fuel + 1) listed a w :=
  wpAnyH_ready hr (by simp) (AllReadyH.cons (ord_get hd) (fun K hK => by rw [if_pos hw]; exact h K hK) AllReadyH.nil)

/-- append, at an operation. -/
theorem wp_app {o : Oper} {K : Act → World → Prop} (s x : Operand) (t : TypeId)
    (ho : o.op = .call { callee := .builtin .append, args := #[s, x], argTypes := #[t, t] })
    (e : TypeId) (i : TypeInfo) (z : Value) (size bytes : Nat) (ht : P.underlying t = some (.slice e)) (hi : P.info? e = some i) (hz : i.zero = some z)
    (hsize : i.size = size) (hby : i.bytes = bytes) (hzs : z.cells.size = size) (hsz : 0 < size)
    (v : Value) (n : Nat) (xs : List Value) (hs : a.eval s = v) (hown : OwnR w e size v n xs)
    (xv : Value) (m : Nat) (news : List Value) (hxv : a.eval x = xv) (hx : Holds w size xv m news) (h1 : ∀ u ∈ news, u.oneCell' = true)
    (h63 : n + m ≤ maxLen) (hbytes : (n + m) * bytes ≤ 140737488355328)
    (h : ∀ v' w', OwnR w' e size v' (n + m) (xs ++ news) → w.grownBy w' v.ownBlock → (v'.ownBlock = v.ownBlock ∨ ∃ g, v'.ownBlock = some g ∧ w.heap.size ≤ g) → K (a.put o.dst v') w') : Oper.wp P o a w K Q := by
  obtain ⟨v', w', hr, h2, h3, h4⟩ := run_app (P := P) w t o.type e i z size bytes ht hi hz hsize hby hzs hsz v n xs hown xv m news hx h1 h63 hbytes
  unfold Oper.wp execOp
  simp only [ho, resolve, invoke, builtin, Sem.run_bind, Sem.run_pure, Result.andThen_ok, List.map_toArray, List.map_cons, List.map_nil, hs, hxv, hr]
  exact h v' w' h2 h3 h4
end
end Go.Sat

namespace Go.Proofs.Yteohbjkjfnflgaa
open Go.RowKit Go.Sat Go.Maps

/-- A Reader in memory. -/
structure RdIn (w : World) (r : Nat) (R : Rd) (p : Option Addr) (n c : Nat) : Prop where
  cells : w.heap[r]? = some (.cells #[.slice p n c, .bool R.bad] 97 (0, 0))
  has : HasB w (.slice p n c) R.rest
  cap : n ≤ c
  ne : (Value.slice p n c).ownBlock ≠ some r
  len : R.rest.length ≤ 140737488355328

def RdAt (w : World) (r : Nat) (R : Rd) : Prop := ∃ p n c, RdIn w r R p n c

/-- What a thing done with a Reader leaves. -/
def RStep1 (w : World) (r : Nat) (R' : Rd) (v : Value) (e : Ending) (w' : World) : Prop := e = .returned v ∧ RdAt w' r R' ∧ Chg (fun k => k = r) w w'

section
variable {w : World} {r : Nat} {R : Rd} {p : Option Addr} {n c : Nat}

theorem RdIn.c0 (h : RdIn w r R p n c) : w.cell? ⟨r, 0, none⟩ = some (.slice p n c) := cell_of h.cells rfl
theorem RdIn.c1 (h : RdIn w r R p n c) : w.cell? ⟨r, 1, none⟩ = some (.bool R.bad) := cell_of h.cells rfl
theorem RdIn.n_eq (h : RdIn w r R p n c) : R.rest.length = n := by obtain ⟨_, _, e⟩ := h.has.slice; simp only [Value.slice.injEq] at e; exact e.2.1.symm
theorem RdIn.rlt (h : RdIn w r R p n c) : r < w.heap.size := (Array.getElem?_eq_some_iff.1 h.cells).1

theorem rd_set (h : RdIn w r R p n c) (v0 v1 : Value) : ((w.setCell ⟨r, 0, none⟩ v0).setCell ⟨r, 1, none⟩ v1).heap[r]? = some (.cells #[v0, v1] 97 (0, 0)) := by
  have h1 := set_block h.cells 0 v0
  have h2 := set_block h1 1 v1
  simpa using h2

theorem rd_set0 (h : RdIn w r R p n c) (v0 : Value) : (w.setCell ⟨r, 0, none⟩ v0).heap[r]? = some (.cells #[v0, .bool R.bad] 97 (0, 0)) := by
  have h1 := set_block h.cells 0 v0
  simpa using h1

theorem rd_bad (h : RdIn w r R p n c) : RdAt ((w.setCell ⟨r, 0, none⟩ (.slice none 0 0)).setCell ⟨r, 1, none⟩ (.bool true)) r Rd.fail :=
  ⟨none, 0, 0, rd_set h _ _, OwnB.has (e := 0) (OwnR.nil _ _ _), Nat.le_refl _, fun h => (by cases h), Nat.zero_le _⟩

theorem bad_calls (h : RdIn w r R p n c) :
    Calls Try.prog 59 #[.pointer (some ⟨r, 0, none⟩)] w (RStep1 w r Rd.fail (.tuple #[])) := by
  have h0 := h.c0
  have h1 := h.c1
  have hf := fun i => frozen_of h.cells i
  have HE := Lib.hid (show RStep1 w r Rd.fail (.tuple #[]) (.returned (.tuple #[])) ((w.setCell ⟨r, 0, none⟩ (.slice none 0 0)).setCell ⟨r, 1, none⟩ (.bool true)) from ⟨rfl, rd_bad h, (Chg.setCell w ⟨r, 0, none⟩ _).trans (Chg.setCell _ ⟨r, 1, none⟩ _) fun _ _ e => e⟩)
  clear h
  go_enter Try.func59, Try.ntmps59
  go_wp2_with fail
  go_end0
  exact HE.out

theorem HasB.empty (w : World) (a : Option Addr) (c : Nat) : HasB w (.slice a 0 c) [] := ⟨rfl, a, c, rfl, fun _ => rfl, fun a' _ i u hu => (by simp [bytesV] at hu)⟩

theorem run_tail0 {P : Program} (w : World) {t e : TypeId} {i : TypeInfo} (ht : P.underlying t = some (.slice e)) (hi : P.info? e = some i) (hsz : i.size = 1) (p : Option Addr) (len cap k : Nat) (h : k ≤ len) (_h2 : len ≤ cap) :
    (Instr.slice t (.slice p len cap) (some (.int .i64 (k : Int))) none none).run P w = .ok (.slice (if cap = k then p else p.map fun x => x.add k) (len - k) (cap - k)) w := by
  have h1 : (Instr.sliceBound (.int .i64 (k : Int)) len .sliceB).run P w = .ok k w := by
    rw [run_sliceBound _ _ _ _ _ (by omega) (by omega)]
    simp
  simp [Instr.slice, run_underlying ht, Instr.sliceBounds, h1, sizeOf, typeInfo, hi, Result.andThen, hsz]

/-- 'x[k:]' at any k. -/
theorem run_tail {P : Program} {w : World} {t e : TypeId} {i : TypeInfo} (ht : P.underlying t = some (.slice e)) (hi : P.info? e = some i) (hsz : i.size = 1) {p : Option Addr} {n c : Nat} {l : Bs} (h : HasB w (.slice p n c) l) (hnc : n ≤ c) (r k : Nat) (hne : (Value.slice p n c).ownBlock ≠ some r) (hk : k ≤ n) :
    ∃ p' c', (∀ W, (Instr.slice t (.slice p n c) (some (.int .i64 (k : Int))) none none).run P W = .ok (.slice p' (n - k) c') W) ∧ HasB w (.slice p' (n - k) c') (l.drop k) ∧ n - k ≤ c' ∧ (Value.slice p' (n - k) c').ownBlock ≠ some r := by
  have hl : l.length = n := by obtain ⟨_, _, e⟩ := h.slice; simp only [Value.slice.injEq] at e; exact e.2.1.symm
  refine ⟨_, _, fun W => run_tail0 (P := P) W ht hi hsz p n c k hk hnc, ?_, by omega, ?_⟩
  · by_cases hkn : k = n
    · subst hkn
      rw [List.drop_of_length_le (by omega), Nat.sub_self]
      exact HasB.empty _ _ _
    · rw [if_neg (show ¬ c = k by omega)]
      rcases h.at with h0 | ⟨g, o, c2, e2, hc⟩
      · rw [h0] at hl
        simp at hl
        omega
      · simp only [Value.slice.injEq] at e2
        obtain ⟨rfl, -, -⟩ := e2
        have e3 : (some (⟨g, o, none⟩ : Addr)).map (fun x => x.add k) = some ⟨g, o + k, none⟩ := by simp [Addr.add]
        rw [e3]
        exact HasB.from h (by omega) _
  · split
    · cases p <;> exact hne
    · cases p with
      | none => intro e; cases e
      | some a =>
        intro e
        refine hne ?_
        rw [← e]
        simp [Value.ownBlock, add_block]

theorem HasB.set {w : World} {v : Value} {l : Bs} (h : HasB w v l) {a : Addr} (u : Value) (hne : v.ownBlock ≠ some a.block) : HasB (w.setCell a u) v l :=
  Holds.keep h fun k hk => set_other u fun e => hne (by rw [hk, e])

set_option maxRecDepth 100000 in
set_option maxHeartbeats 4000000 in
theorem raw_calls (h : RdIn w r R p n c) (k : Int) (hk : 0 ≤ k) (hk' : k ≤ 9223372036854775807) :
    Calls Try.prog 60 #[.pointer (some ⟨r, 0, none⟩), .int .i64 k] w fun e w' => ∃ v, e = .returned v ∧ OwnB w' 5 v (R.raw k.toNat).1 ∧ (∀ j, v.ownBlock = some j → w.heap.size ≤ j) ∧ RdAt w' r (R.raw k.toNat).2 ∧ Chg (fun j => j = r) w w' := by
  obtain ⟨i0, hi, -, hz1, -⟩ := info_parts (show (Try.prog.info? 5).map (fun i => (i.zero, i.size, i.bytes)) = some (some (.int .u8 0), 1, 1) by kernel_rfl)
  obtain ⟨m, rfl⟩ : ∃ m : Nat, k = (m : Int) := ⟨k.toNat, by omega⟩
  have hn := h.n_eq
  have hlen := h.len
  rw [Int.toNat_natCast]
  have c0 := h.c0
  have hfr := fun i => frozen_of h.cells i
  by_cases hm : m ≤ n
  · have hR : R.raw m = (R.rest.take m, ⟨R.rest.drop m, R.bad⟩) := by unfold Rd.raw; rw [if_pos (by omega)]
    rw [hR]
    obtain ⟨p', c', hsl, hh, hc, hne⟩ := run_tail (P := Try.prog) Try.underlying33 hi hz1 h.has h.cap r m h.ne hm
    have hup : ∀ W, (Instr.slice 33 (.slice p n c) none (some (.int .i64 (m : Int))) none).run Try.prog W = .ok (.slice p m c) W := fun W => run_upto W Try.underlying33 hi p n c m (by have := h.cap; omega)
    have Hcl := Lib.hid (clone_calls (HasB.cut h.has (k := m) (by omega) c) (by rw [List.length_take]; omega))
    have Hin := Lib.hid h
    have Hh := Lib.hid (And.intro hh (And.intro hc hne))
    clear hh hc hne h hR
    go_enter Try.func60, Try.ntmps60
    go_wp2_with fail
    refine Hcl.out.mono ?_
    rintro e w1 ⟨v, rfl, hv, hvn, hb⟩
    have hcell := hb.block r Hin.out.rlt
    have hin1 : RdIn w1 r R p n c := ⟨hcell.trans Hin.out.cells, HasB.below Hin.out.has hb, Hin.out.cap, Hin.out.ne, Hin.out.len⟩
    have hc1 := hin1.c0
    have hfr1 := fun i => frozen_of hin1.cells i
    have HV := Lib.hid (And.intro (show OwnB (w1.setCell ⟨r, 0, none⟩ (.slice p' (n - m) c')) 5 v (R.rest.take m) from hv.keep fun k hk => set_other _ fun e => by
      have := hvn k hk
      have h2 := Hin.out.rlt
      have h3 : k = r := e
      omega) (And.intro hvn (And.intro (show RdAt (w1.setCell ⟨r, 0, none⟩ (.slice p' (n - m) c')) r ⟨R.rest.drop m, R.bad⟩ from ⟨p', n - m, c', rd_set0 hin1 _, (HasB.set (HasB.below Hh.out.1 hb) _ Hh.out.2.2), Hh.out.2.1, Hh.out.2.2, by rw [List.length_drop]; omega⟩)
        (((Chg.of_below hb).mono fun _ _ h => h.elim).trans (Chg.setCell _ ⟨r, 0, none⟩ _) fun _ _ e => e : Chg (fun j => j = r) w (w1.setCell ⟨r, 0, none⟩ (.slice p' (n - m) c'))))))
    clear hv hvn hin1 Hin Hh Hcl hcell
    go_wp2_with fail
    go_ret
    exact ⟨v, rfl, HV.out⟩
  · have hR : R.raw m = ([], Rd.fail) := by unfold Rd.raw; rw [if_neg (by omega)]
    rw [hR]
    have Hbd := Lib.hid (bad_calls h)
    have hgt : ((m : Int) > (n : Int)) := by omega
    clear h hR
    go_enter Try.func60, Try.ntmps60
    go_wp2_with fail
    refine Hbd.out.mono ?_
    rintro e w1 ⟨rfl, hr, hc⟩
    have HE := Lib.hid (And.intro hr hc)
    clear hr hc
    go_wp2_with fail
    go_ret
    exact ⟨_, rfl, OwnR.nil _ _ _, fun j hj => (by cases hj), HE.out⟩
end
end Go.Proofs.Yteohbjkjfnflgaa

namespace Go.Proofs.Yteohbjkjfnflgaa
open Go.RowKit Go.Sat Go.Maps

theorem pow_seven (k : Nat) : 2 ^ (7 * k) = 128 ^ k := by rw [Nat.pow_mul]

theorem u64_seven {k a x : Nat} (ha : a < 128 ^ k) (hk : k ≤ 8) (hx : x < 256) :
    bits .or .u64 (a : Int) (IntKind.u64.wrap (IntKind.u64.wrap (bits .and .u8 (x : Int) 127) * 2 ^ (7 * k))) = ((a + x % 128 * 128 ^ k : Nat) : Int) ∧ a + x % 128 * 128 ^ k < 128 ^ (k + 1) ∧ a + x % 128 * 128 ^ k < 9223372036854775808 := by
  have h1 : bits .and .u8 (x : Int) 127 = ((x % 128 : Nat) : Int) := by
    have := u8_and_nat x 127 hx (by decide)
    rw [Nat.and_two_pow_sub_one_eq_mod x 7] at this
    exact this
  have hm : x % 128 < 128 := Nat.mod_lt _ (by decide)
  generalize x % 128 = y at *
  have hp : 128 ^ k ≤ 128 ^ 8 := Nat.pow_le_pow_right (by decide) hk
  have h8 : (128 : Nat) ^ 8 = 72057594037927936 := by decide
  have hy : y * 128 ^ k ≤ 127 * 128 ^ k := Nat.mul_le_mul_right _ (by omega)
  have hs : 128 ^ (k + 1) = 128 ^ k * 128 := Nat.pow_succ _ _
  have h2 : ((y : Nat) : Int) * 2 ^ (7 * k) = ((y * 128 ^ k : Nat) : Int) := by
    rw [← pow_seven, Int.natCast_mul, Int.natCast_pow]
    rfl
  rw [h1, IntWalk.u64_in ((y : Nat) : Int) (by omega), h2, IntWalk.u64_in ((y * 128 ^ k : Nat) : Int) (by omega), u64_or_nat _ _ (by omega) (by omega), ← pow_seven, or_add (7 * k) a y (by rw [pow_seven]; exact ha), pow_seven]
  refine ⟨rfl, by omega, by omega⟩

theorem own_cap0 {w : World} {e : TypeId} {v : Value} {l : Bs} (h : OwnB w e v l) : ∃ p c, v = .slice p l.length c ∧ l.length ≤ c := by
  rcases h.2 with ⟨rfl, hn⟩ | ⟨g, cap, cur, rfl, _, hnc, _⟩
  · exact ⟨none, 0, by rw [hn], by omega⟩
  · exact ⟨_, cap, rfl, hnc⟩

def NumDone (w : World) (r : Nat) (R : Rd) (e : Ending) (w' : World) : Prop := e = .returned (.int .i64 (R.num.1 : Int)) ∧ RdAt w' r R.num.2 ∧ Chg (fun k => k = r) w w'

set_option maxRecDepth 100000 in
set_option maxHeartbeats 4000000 in
theorem num_calls {w : World} {r : Nat} {R : Rd} {p : Option Addr} {n c : Nat} (h : RdIn w r R p n c) :
    Calls Try.prog 41 #[.pointer (some ⟨r, 0, none⟩)] w (NumDone w r R) := by
  obtain ⟨i0, hi, -, hz1, -⟩ := info_parts (show (Try.prog.info? 5).map (fun i => (i.zero, i.size, i.bytes)) = some (some (.int .u8 0), 1, 1) by kernel_rfl)
  have hn := h.n_eq
  have hlen := h.len
  rw [hn] at hlen
  have c0 := h.c0
  have hfr := frozen_of h.cells 0
  have Hbad := Lib.hid (bad_calls h)
  have Hno := Lib.hid (show numGo 0 0 R.rest = none → R.num = (0, Rd.fail) from fun e => by unfold Rd.num; rw [e])
  have Hyes := Lib.hid (show ∀ v t, numGo 0 0 R.rest = some (v, t) → R.num = (v, ⟨t, R.bad⟩) from fun v t e => by unfold Rd.num; rw [e])
  have Hin := Lib.hid h
  have Hn := Lib.hid hn
  clear h hn
  go_enter Try.func41, Try.ntmps41
  go_wp2_with fail
  go_loop [3, 13] (fun u i => ∃ k a : Nat, k ≤ n ∧ k ≤ 9 ∧ i = .int .i64 k ∧ u = .int .u64 a ∧ a < 128 ^ k ∧ numGo 0 0 R.rest = numGo k a (R.rest.drop k)) (fun _ i => n - (intOf i).toNat)
  case atStart => exact ⟨0, 0, Nat.zero_le _, by omega, rfl, rfl, by simp, rfl⟩
  case round =>
    obtain ⟨k, a, hk, hk9, rfl, rfl, ha, hgo⟩ := hrel
    by_cases hlt : k < n
    · have hkl : k < R.rest.length := by rw [Hn.out]; exact hlt
      rw [List.drop_eq_getElem_cons hkl] at hgo
      rcases Hin.out.has.at with h0 | ⟨g, o, c1, e1, hc⟩
      · rw [h0] at hkl
        simp at hkl
      simp only [Value.slice.injEq] at e1
      obtain ⟨rfl, -, rfl⟩ := e1
      have hck := hc k _ (List.getElem?_eq_getElem hkl)
      have Hgo := Lib.hid hgo
      clear hc hgo
      have hx := R.rest[k].toNat_lt
      have Hstop := Lib.hid (show 9 ≤ k ∨ (0 < k ∧ R.rest[k].toNat = 0) → numGo k a (R.rest[k] :: R.rest.drop (k + 1)) = none from fun e => by
        unfold numGo
        rw [if_pos (e.imp id fun e => ⟨e.1, UInt8.toNat.inj (by rw [e.2]; rfl)⟩)])
      have Hgo1 := Lib.hid (show ¬ (9 ≤ k ∨ (0 < k ∧ R.rest[k].toNat = 0)) → R.rest[k].toNat < 128 → numGo k a (R.rest[k] :: R.rest.drop (k + 1)) = if 4611686018427387904 < a + R.rest[k].toNat * 128 ^ k then none else some (a + R.rest[k].toNat * 128 ^ k, R.rest.drop (k + 1)) from fun e h => by
        rw [numGo, if_neg (fun h => e (h.imp id fun h => ⟨h.1, by rw [h.2]; rfl⟩)), if_pos h])
      have Hgo2 := Lib.hid (show ¬ (9 ≤ k ∨ (0 < k ∧ R.rest[k].toNat = 0)) → ¬ R.rest[k].toNat < 128 → numGo k a (R.rest[k] :: R.rest.drop (k + 1)) = numGo (k + 1) (a + R.rest[k].toNat % 128 * 128 ^ k) (R.rest.drop (k + 1)) from fun e h => by
        rw [numGo, if_neg (fun h => e (h.imp id fun h => ⟨h.1, by rw [h.2]; rfl⟩)), if_neg h])
      generalize R.rest[k].toNat = x at *
      by_cases h9 : 9 ≤ k
      · have HE := Lib.hid (Hno.out (Hgo.out.trans (Hstop.out (.inl h9))))
        go_wp2_with fail
        refine Hbad.out.mono ?_
        rintro e w1 ⟨rfl, hr, hc⟩
        have HF := Lib.hid (show NumDone w r R (.returned (.int .i64 0)) w1 from ⟨by rw [HE.out]; rfl, by rw [HE.out]; exact hr, hc⟩)
        clear hr hc
        go_wp2_with fail
        go_ret
        exact HF.out
      · by_cases hz : 0 < k ∧ x = 0
        · have HE := Lib.hid (Hno.out (Hgo.out.trans (Hstop.out (.inr hz))))
          obtain ⟨hk0, rfl⟩ := hz
          go_wp2_with fail
          refine Hbad.out.mono ?_
          rintro e w1 ⟨rfl, hr, hc⟩
          have HF := Lib.hid (show NumDone w r R (.returned (.int .i64 0)) w1 from ⟨by rw [HE.out]; rfl, by rw [HE.out]; exact hr, hc⟩)
          clear hr hc
          go_wp2_with fail
          go_ret
          exact HF.out
        · have hs : ¬ (9 ≤ k ∨ (0 < k ∧ x = 0)) := fun e => e.elim h9 hz
          have hd9 : decide ((9 : Int) ≤ (k : Int)) = false := by simp; omega
          by_cases h128 : x < 128
          · have HE := Lib.hid (Hgo.out.trans (Hgo1.out hs h128))
            have h7 := u64_seven ha (by omega) (show x < 256 by omega)
            rw [show x % 128 = x by omega] at h7
            obtain ⟨h7, -, h73⟩ := h7
            generalize a + x * 128 ^ k = A at *
            by_cases hA : 4611686018427387904 < A
            · have HE2 := Lib.hid (Hno.out (HE.out.trans (if_pos hA)))
              rcases Nat.lt_or_ge 0 k with hk0 | hk0
              rotate_left
              · go_wp2_with fail
                refine Hbad.out.mono ?_
                rintro e w1 ⟨rfl, hr, hc⟩
                have HF := Lib.hid (show NumDone w r R (.returned (.int .i64 0)) w1 from ⟨by rw [HE2.out]; rfl, by rw [HE2.out]; exact hr, hc⟩)
                clear hr hc
                go_wp2_with fail
                go_ret
                exact HF.out
              · have hx0 : 0 < x := by omega
                go_wp2_with fail
                refine Hbad.out.mono ?_
                rintro e w1 ⟨rfl, hr, hc⟩
                have HF := Lib.hid (show NumDone w r R (.returned (.int .i64 0)) w1 from ⟨by rw [HE2.out]; rfl, by rw [HE2.out]; exact hr, hc⟩)
                clear hr hc
                go_wp2_with fail
                go_ret
                exact HF.out
            · have HE2 := Lib.hid (Hyes.out _ _ (HE.out.trans (if_neg hA)))
              obtain ⟨p', c', hsl, hh, hcc, hne⟩ := run_tail (P := Try.prog) Try.underlying33 hi hz1 Hin.out.has Hin.out.cap r (k + 1) Hin.out.ne hlt
              have HF := Lib.hid (show NumDone w r R (.returned (.int .i64 (A : Int))) (w.setCell ⟨r, 0, none⟩ (.slice p' (n - (k + 1)) c')) from
                ⟨by rw [HE2.out], by rw [HE2.out]; exact ⟨p', n - (k + 1), c', rd_set0 Hin.out _, HasB.set hh _ hne, hcc, hne, by rw [List.length_drop, Hn.out]; omega⟩, Chg.setCell w ⟨r, 0, none⟩ _⟩)
              rw [Int.natCast_add, Int.natCast_one] at hsl
              clear hh hcc hne
              rcases Nat.lt_or_ge 0 k with hk0 | hk0
              rotate_left
              · go_wp2_with fail
                go_ret
                exact HF.out
              · have hx0 : 0 < x := by omega
                go_wp2_with fail
                go_ret
                exact HF.out
          · have hgo2 := Hgo.out.trans (Hgo2.out hs h128)
            obtain ⟨h7, h72, h73⟩ := u64_seven ha (by omega) (show x < 256 by omega)
            have Hgn := Lib.hid (And.intro hgo2 h72)
            clear hgo2 h72
            generalize a + x % 128 * 128 ^ k = A at *
            rcases Nat.lt_or_ge 0 k with hk0 | hk0
            rotate_left
            · go_wp2_with fail
              go_round
              case rel => exact ⟨k + 1, A, by omega, by omega, by go_num, rfl, Hgn.out.2, Hgn.out.1⟩
              case measure => simp [intOf]; omega
            · have hx0 : 0 < x := by omega
              go_wp2_with fail
              go_round
              case rel => exact ⟨k + 1, A, by omega, by omega, by go_num, rfl, Hgn.out.2, Hgn.out.1⟩
              case measure => simp [intOf]; omega
    · have hkn : R.rest.drop k = [] := List.drop_of_length_le (by rw [Hn.out]; omega)
      rw [hkn] at hgo
      have HE := Lib.hid (Hno.out hgo)
      clear hgo hkn
      go_wp2_with fail
      refine Hbad.out.mono ?_
      rintro e w1 ⟨rfl, hr, hc⟩
      have HF := Lib.hid (show NumDone w r R (.returned (.int .i64 0)) w1 from ⟨by rw [HE.out]; rfl, by rw [HE.out]; exact hr, hc⟩)
      clear hr hc
      go_wp2_with fail
      go_ret
      exact HF.out

/-- What a Reader's row is told with. -/
def RowDone (w : World) (r : Nat) (b : Bs) (R' : Rd) (e : Ending) (w' : World) : Prop :=
  ∃ v, e = .returned v ∧ OwnB w' 5 v b ∧ (∀ j, v.ownBlock = some j → w.heap.size ≤ j) ∧ RdAt w' r R' ∧ Chg (fun j => j = r) w w'

set_option maxRecDepth 100000 in
set_option maxHeartbeats 2000000 in
theorem rbytes_calls {w : World} {r : Nat} {R : Rd} (h : RdAt w r R) :
    Calls Try.prog 42 #[.pointer (some ⟨r, 0, none⟩)] w (RowDone w r R.bytes.1 R.bytes.2) := by
  obtain ⟨p, n, c, h⟩ := h
  have Hn := Lib.hid (num_calls h)
  have hle := Rd.num_le R
  have HB := Lib.hid (show R.bytes = R.num.2.raw R.num.1 from rfl)
  clear h
  go_enter Try.func42, Try.ntmps42
  go_wp2_with fail
  refine Hn.out.mono ?_
  rintro e w1 ⟨rfl, ⟨p1, n1, c1, hr⟩, hc⟩
  have Hr := Lib.hid (raw_calls hr (R.num.1 : Int) (by omega) (by omega))
  have Hc := Lib.hid hc
  rw [Int.toNat_natCast] at Hr
  clear hr hc Hn
  generalize R.num.1 = m at *
  generalize R.num.2 = R1 at *
  go_wp2_with fail
  refine Hr.out.mono ?_
  rintro e w2 ⟨v, rfl, hv, hvn, hr2, hc2⟩
  have HE := Lib.hid (show RowDone w r R.bytes.1 R.bytes.2 (.returned v) w2 from ⟨v, rfl, by rw [HB.out]; exact hv, fun j hj => Nat.le_trans Hc.out.size (hvn j hj), by rw [HB.out]; exact hr2, Hc.out.trans hc2 fun _ _ e => e⟩)
  clear hv hvn hr2 hc2 Hr
  go_wp2_with fail
  go_ret
  exact HE.out

/-- A Reader's own cells. -/
def RdHd (w : World) (r : Nat) (R : Rd) : Prop := ∃ p n c, w.heap[r]? = some (.cells #[.slice p n c, .bool R.bad] 97 (0, 0)) ∧ R.rest.length = n
theorem RdAt.hd {w : World} {r : Nat} {R : Rd} (h : RdAt w r R) : RdHd w r R := let ⟨p, n, c, h⟩ := h; ⟨p, n, c, h.cells, h.n_eq⟩
theorem RdHd.same {w w' : World} {r : Nat} {R : Rd} (h : RdHd w r R) (hs : w'.heap[r]? = w.heap[r]?) : RdHd w' r R := let ⟨p, n, c, h, e⟩ := h; ⟨p, n, c, hs.trans h, e⟩

theorem good_calls {w : World} {r : Nat} {R : Rd} (h : RdHd w r R) :
    Calls Try.prog 61 #[.pointer (some ⟨r, 0, none⟩)] w fun e w' => e = .returned (.bool (!R.bad)) ∧ w' = w := by
  obtain ⟨p, n, c, h, -⟩ := h
  have h1 : w.cell? ⟨r, 1, none⟩ = some (.bool R.bad) := cell_of h rfl
  clear h
  go_enter Try.func61, Try.ntmps61
  go_wp2_with fail
  go_ret
  exact ⟨rfl, rfl⟩

theorem whole_calls {w : World} {r : Nat} {R : Rd} (h : RdHd w r R) :
    Calls Try.prog 43 #[.pointer (some ⟨r, 0, none⟩)] w fun e w' => e = .returned (.bool R.whole) ∧ w' = w := by
  have Hg := Lib.hid (good_calls h)
  obtain ⟨p, n, c, h, hn⟩ := h
  have h0 : w.cell? ⟨r, 0, none⟩ = some (.slice p n c) := cell_of h rfl
  have HW := Lib.hid (show R.whole = (!R.bad && R.rest.isEmpty) from rfl)
  have HE := Lib.hid (show R.rest.isEmpty = ((n : Int) == 0) from by
    rw [Bool.eq_iff_iff, List.isEmpty_iff, ← List.length_eq_zero_iff, hn]
    simp)
  clear h hn
  cases hb : R.bad with
  | true =>
    rw [hb] at Hg HW
    go_enter Try.func43, Try.ntmps43
    go_wp2_with fail
    refine Hg.out.mono ?_
    rintro e w1 ⟨rfl, rfl⟩
    go_wp2_with fail
    go_ret
    exact ⟨by rw [HW.out]; rfl, rfl⟩
  | false =>
    rw [hb] at Hg HW
    go_enter Try.func43, Try.ntmps43
    go_wp2_with fail
    refine Hg.out.mono ?_
    rintro e w1 ⟨rfl, rfl⟩
    go_wp2_with fail
    go_ret
    exact ⟨by rw [HW.out, HE.out]; rfl, rfl⟩

theorem newrd_calls {w : World} {x : Value} {l : Bs} (h : HasB w x l) (hl : l.length ≤ 140737488355328) :
    Calls Try.prog 40 #[x] w fun e w' => ∃ r, e = .returned (.pointer (some ⟨r, 0, none⟩)) ∧ RdAt w' r ⟨l, false⟩ ∧ w.heap.size ≤ r ∧ Below w.heap.size w w' := by
  have Hc := Lib.hid (clone_calls h hl)
  clear h
  go_enter Try.func40, Try.ntmps40
  go_wp2_with fail
  refine Hc.out.mono ?_
  rintro e w1 ⟨v, rfl, hv, hvn, hb⟩
  obtain ⟨p, c, rfl, hcap⟩ := own_cap0 hv
  have HE := Lib.hid (show RdAt (w1.alloc (.cells #[.slice p l.length c, .bool false] 97)) w1.heap.size ⟨l, false⟩ from
    ⟨p, l.length, c, new_block w1 _, has_alloc hv.has _, hcap, fun e => by have := OwnR.lt hv e; omega, hl⟩)
  have HB := Lib.hid (And.intro hb.size (hb.alloc hb.size (.cells #[.slice p l.length c, .bool false] 97)))
  clear hv hvn hb Hc
  generalize l.length = n at *
  go_wp2_with fail
  go_ret
  exact ⟨_, rfl, HE.out, HB.out⟩
end Go.Proofs.Yteohbjkjfnflgaa

namespace Go.Proofs.Yteohbjkjfnflgaa
open Go.RowKit Go.Sat Go.Maps

/-- A Writer in memory. -/
structure WrIn (w : World) (k : Nat) (v : Value) (l : Bs) : Prop where
  cells : w.heap[k]? = some (.cells #[v] 59 (0, 0))
  row : OwnB w 5 v l
  ne : v.ownBlock ≠ some k

/-- What a Writer may write. -/
def WrS (k : Nat) (v : Value) (j : Nat) : Prop := j = k ∨ v.ownBlock = some j

/-- What a thing done with a Writer leaves. -/
def WrStep (w : World) (k : Nat) (v : Value) (l' : Bs) (w' : World) : Prop :=
  ∃ v', WrIn w' k v' l' ∧ Chg (WrS k v) w w' ∧ ∀ j, v'.ownBlock = some j → v.ownBlock = some j ∨ w.heap.size ≤ j

def WrTold (w : World) (k : Nat) (v : Value) (l' : Bs) (e : Ending) (w' : World) : Prop := e = .returned (.tuple #[]) ∧ WrStep w k v l' w'

section
variable {w w1 w2 : World} {k : Nat} {v : Value} {l l1 l2 : Bs}

theorem WrIn.c0 (h : WrIn w k v l) : w.cell? ⟨k, 0, none⟩ = some v := cell_of h.cells rfl
theorem WrIn.klt (h : WrIn w k v l) : k < w.heap.size := (Array.getElem?_eq_some_iff.1 h.cells).1

theorem WrStep.refl (h : WrIn w k v l) : WrStep w k v l w := ⟨v, h, Chg.refl _ _, fun _ h => .inl h⟩

theorem WrStep.trans (h : WrStep w k v l1 w1) (_hk : k < w.heap.size) (h2 : ∀ v1, WrIn w1 k v1 l1 → WrStep w1 k v1 l2 w2) : WrStep w k v l2 w2 := by
  obtain ⟨v1, h1, hc1, hn1⟩ := h
  obtain ⟨v2, h2, hc2, hn2⟩ := h2 v1 h1
  refine ⟨v2, h2, hc1.trans hc2 fun j hj hs => ?_, fun j hj => ?_⟩
  · rcases hs with rfl | hs
    · exact .inl rfl
    · rcases hn1 j hs with h | h
      · exact .inr h
      · omega
  · rcases hn2 j hj with h | h
    · exact hn1 j h
    · exact .inr (Nat.le_trans hc1.size h)

theorem WrStep.go {v1 : Value} (h1 : WrIn w1 k v1 l1) (hc : Chg (WrS k v) w w1) (hn : ∀ j, v1.ownBlock = some j → v.ownBlock = some j ∨ w.heap.size ≤ j) (hk : k < w.heap.size) (h : WrStep w1 k v1 l2 w2) : WrStep w k v l2 w2 := by
  obtain ⟨v2, h2, hc2, hn2⟩ := h
  refine ⟨v2, h2, hc.trans hc2 fun j hj hs => ?_, fun j hj => ?_⟩
  · rcases hs with rfl | hs
    · exact .inl rfl
    · rcases hn j hs with h | h
      · exact .inr h
      · omega
  · rcases hn2 j hj with h | h
    · exact hn j h
    · exact .inr (Nat.le_trans hc.size h)

/-- Something new was laid ahead. -/
theorem WrStep.ahead (hb : Below w.heap.size w w1) (_h : WrIn w k v l) (h2 : WrStep w1 k v l2 w2) : WrStep w k v l2 w2 := by
  obtain ⟨v2, h2, hc2, hn2⟩ := h2
  exact ⟨v2, h2, ((Chg.of_below hb).mono fun _ _ h => h.elim).trans hc2 fun _ _ hs => hs, fun j hj => (hn2 j hj).imp id (Nat.le_trans hb.size)⟩

theorem WrIn.keep (h : WrIn w k v l) (hb : Below w.heap.size w w1) : WrIn w1 k v l :=
  ⟨(hb.block k h.klt).trans h.cells, OwnR.keep h.row fun _ hk => hb.block _ (OwnR.lt h.row hk), h.ne⟩

/-- The row was appended to, and laid into the Writer. -/
theorem WrIn.grown {w0 : World} {v' : Value} {m : Bs} (h : WrIn w k v l) (hb : Below w.heap.size w w0) (hown : OwnR w1 5 1 v' (l.length + m.length) (bytesV l ++ bytesV m)) (hg : w0.grownBy w1 v.ownBlock) (hloc : v'.ownBlock = v.ownBlock ∨ ∃ g, v'.ownBlock = some g ∧ w0.heap.size ≤ g) :
    WrStep w k v (l ++ m) (w1.setCell ⟨k, 0, none⟩ v') := by
  have hk := h.klt
  have hs := hb.size
  have hk1 : w1.heap[k]? = some (.cells #[v] 59 (0, 0)) := (hg.block k (by omega) fun e => h.ne e.symm).trans ((hb.block k hk).trans h.cells)
  have hnew : ∀ j, v'.ownBlock = some j → v.ownBlock = some j ∨ w.heap.size ≤ j := fun j hj => by
    rcases hloc with e | ⟨g, e, hge⟩
    · exact .inl (e ▸ hj)
    · rw [hj] at e
      cases e
      exact .inr (Nat.le_trans hs hge)
  have hne : v'.ownBlock ≠ some k := fun e => by
    rcases hnew k e with h1 | h1
    · exact h.ne h1
    · omega
  refine ⟨v', ⟨?_, ?_, hne⟩, ?_, hnew⟩
  · have := set_block hk1 0 v'
    simpa using this
  · have : OwnB w1 5 v' (l ++ m) := by
      unfold OwnB
      rw [bytesV_app, List.length_append]
      exact hown
    exact OwnR.keep this fun j hj => set_other _ fun e => hne (by rw [hj]; exact congrArg some e)
  · refine (((Chg.of_below hb).mono fun _ _ h => h.elim).trans (Chg.of_grown hg) fun j _ e => .inr e.symm).trans (Chg.setCell _ ⟨k, 0, none⟩ _) fun j _ e => .inl e

set_option maxRecDepth 100000 in
set_option maxHeartbeats 2000000 in
theorem wraw_calls (h : WrIn w k v l) {p : Option Addr} {n c : Nat} {m : Bs} (hx : HasB w (.slice p n c) m) (hl : l.length + m.length ≤ 140737488355328) :
    Calls Try.prog 48 #[.pointer (some ⟨k, 0, none⟩), .slice p n c] w (WrTold w k v (l ++ m)) := by
  obtain ⟨i0, hi, hz0, hz1, hz2⟩ := info_parts (show (Try.prog.info? 5).map (fun i => (i.zero, i.size, i.bytes)) = some (some (.int .u8 0), 1, 1) by kernel_rfl)
  have hn : m.length = n := by obtain ⟨_, _, e⟩ := hx.slice; simp only [Value.slice.injEq] at e; exact e.2.1.symm
  subst hn
  have c0 := h.c0
  have hrow := h.row
  have Hx := Lib.hid hx
  have Hh := Lib.hid h
  clear h hx
  generalize hL : l.length = a at *
  have HL := Lib.hid hL
  generalize hM : m.length = b at *
  have HM := Lib.hid hM
  clear hL hM
  have Hrow := Lib.hid (show OwnR w 5 1 v a (bytesV l) by have := hrow; unfold OwnB at this; rwa [HL.out] at this)
  have Hxx := Lib.hid (show Holds w 1 (.slice p b c) b (bytesV m) by have := Hx.out; unfold HasB at this; rwa [HM.out] at this)
  clear hrow
  go_enter Try.func48, Try.ntmps48
  go_wp2_with (at_builtin; refine wpList_app _ rfl (.tmp 10) (.tmp 11) 33 rfl 5 i0 (.int .u8 0) 1 1 Try.underlying33 hi hz0 hz1 hz2 rfl (by decide) v a _ rfl Hrow.out (.slice p b c) b _ rfl Hxx.out (bytesV_one _) (by unfold maxLen; omega) (by omega) ?_; intro v1 w1 hown1 hgrow1 hloc1; go_loud (have hE := WrIn.grown (m := m) Hh.out (Below.refl _ _) (by rw [HL.out, HM.out]; exact hown1) hgrow1 hloc1; have hk1 := (hgrow1.block k Hh.out.klt fun e => Hh.out.ne e.symm).trans Hh.out.cells; have c1 := cell_of hk1 (i := 0) rfl; have f1 := frozen_of hk1 0; have HE := Lib.hid hE; clear hk1 hE hgrow1 hloc1; obtain ⟨p1, q1, rfl⟩ := OwnR.shape hown1; clear hown1))
  go_end0
  exact ⟨rfl, HE.out⟩
end
end Go.Proofs.Yteohbjkjfnflgaa
