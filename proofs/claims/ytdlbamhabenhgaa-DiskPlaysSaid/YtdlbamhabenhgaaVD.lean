/- DiskKeeps: the walk. The contract of octet.Sum. The contracts of frame's small functions: four, fromFour, headOf. The contracts of frame.headOf and frame.Encode. octet.Join: what it hands back lies in a block of its own. The contract of frame.Encode. The contracts of bytes.Equal, frame.Decode, frame.One. A region that draws its order, walked in an order that is named: what yields is taken first, one operation at a time; what is not wanted is passed by; what works on the world comes up alone. The contract of frame.Decode: the walk. The contract of frame.One; what a record that was laid reads as. -/
import Derived.Deep.DrawnRows
import Derived.Deep.RegionHeld3
import Derived.Laws.BitsAllLaws
import Derived.Test.YtdlbamhabenhgaaVA
import Derived.Test.YtdlbamhabenhgaaVC
namespace Go.Sat
open Go.RowKit
theorem Holds.cut {w : World} {p : Option Addr} {n c : Nat} {xs : List Value} (h : Holds w 1 (.slice p n c) n xs) {k : Nat} (hk : k ≤ n) (c' : Nat) : Holds w 1 (.slice p k c') k (xs.take k) := by
  obtain ⟨hl, p', cap, e, h0, hc⟩ := h
  cases e
  refine ⟨by rw [List.length_take]; omega, p, c', rfl, fun e => ?_, fun a ha i u hu => hc a ha i u ?_⟩
  · have := h0 e
    omega
  · rw [List.getElem?_take] at hu
    split at hu
    · exact hu
    · cases hu

theorem HasB.cut {w : World} {p : Option Addr} {n c : Nat} {l : Bs} (h : HasB w (.slice p n c) l) {k : Nat} (hk : k ≤ l.length) (c' : Nat) : HasB w (.slice p k c') (l.take k) := by
  obtain ⟨p', c2, e⟩ := h.slice
  cases e
  unfold HasB at h ⊢
  have e1 : (l.take k).length = k := by rw [List.length_take]; omega
  rw [e1, bytesV_take]
  exact Holds.cut h hk c'

/-- 'x[:k]'. -/
theorem run_upto {P : Program} (w : World) {t e : TypeId} {i : TypeInfo} (ht : P.underlying t = some (.slice e)) (hi : P.info? e = some i) (a : Option Addr) (len cap k : Nat) (h : k ≤ cap) :
    (Instr.slice t (.slice a len cap) none (some (.int .i64 (k : Int))) none).run P w = .ok (.slice a k cap) w := by
  have h1 : (Instr.sliceBound (.int .i64 (k : Int)) cap .sliceAcap).run P w = .ok k w := by
    rw [run_sliceBound _ _ _ _ _ (by omega) (by omega)]
    simp
  have h3 : (if cap = 0 then a else a.map fun x => x.add (0 * i.size)) = a := by
    split
    · rfl
    · cases a <;> simp [Addr.add]
  simp only [Nat.zero_mul] at h3
  simp [Instr.slice, run_underlying ht, Instr.sliceBounds, h1, sizeOf, typeInfo, hi, Result.andThen, h3]

theorem OwnB.shape {w : World} {e : TypeId} {v : Value} {l : Bs} (h : OwnB w e v l) : v = .slice none 0 0 ∨ ∃ g c, v = .slice (some ⟨g, 0, none⟩) l.length c := by
  rcases h.2 with ⟨rfl, _⟩ | ⟨g, cap, cur, rfl, _⟩
  · exact .inl rfl
  · exact .inr ⟨g, cap, rfl⟩
end Go.Sat

namespace Go.Proofs.Ytdlbamhabenhgaa
open Go.RowKit Go.Sat Go.Maps

/-- What a law looks at: of each row one more than its bytes. -/
def cost (ls : List Bs) : Nat := (ls.map fun l => 1 + l.length).sum

theorem cost_take (ls : List Bs) (k : Nat) (hk : k < ls.length) : cost (ls.take (k + 1)) = cost (ls.take k) + 1 + ls[k].length := by
  rw [List.take_succ_eq_append_getElem hk]
  simp only [cost, List.map_append, List.map_cons, List.map_nil, List.sum_append, List.sum_cons, List.sum_nil]
  omega

theorem cost_flat (ls : List Bs) : cost ls = ls.length + ls.flatten.length := by
  induction ls with
  | nil => rfl
  | cons a r ih =>
    simp only [cost, List.map_cons, List.sum_cons, List.flatten_cons, List.length_append, List.length_cons] at ih ⊢
    omega

/-- How a row of a list of rows is met. -/
theorem RowsAt.row {w : World} {p : Option Addr} {n c : Nat} {ls : List Bs} (h : RowsAt w (.slice p n c) ls) {k : Nat} (hk : k < ls.length) :
    n = ls.length ∧ ∃ b o v, p = some ⟨b, o, none⟩ ∧ w.cell? ⟨b, o + k, none⟩ = some v ∧ HasB w v ls[k] := by
  obtain ⟨p', c', e, hc, hP⟩ := h
  cases e
  have hne : ls ≠ [] := fun e => by rw [e] at hk; simp at hk
  obtain ⟨b, o, vs, rfl, h1, h2, h3⟩ := hP hne
  have hkv : k < vs.length := by rw [h1]; exact hk
  have e1 : (⟨b, o, none⟩ : Addr).add k = ⟨b, o + k, none⟩ := by unfold Addr.add; split <;> simp_all
  refine ⟨rfl, b, o, vs[k], rfl, ?_, HasB.of_kit (h3 k _ _ (List.getElem?_eq_getElem hkv) (List.getElem?_eq_getElem hk))⟩
  rw [← e1]
  exact h2 k _ (List.getElem?_eq_getElem hkv)

theorem RowsAt.len {w : World} {p : Option Addr} {n c : Nat} {ls : List Bs} (h : RowsAt w (.slice p n c) ls) : n = ls.length := by
  obtain ⟨p', c', e, _⟩ := h
  cases e
  rfl

/-! ### The disk behind k rounds -/
def fN : Bs := [102]
def keepsD (ls : List Bs) (sy k : Nat) : DiskM := ⟨1048576, if k = 0 then [] else [(fN, ⟨(ls.take k).flatten, (ls.take (min k sy)).flatten.length⟩)], none⟩
def keepsM (ls : List Bs) (sy k : Nat) : DiskM := ⟨1048576, [(fN, ⟨(ls.take (k + 1)).flatten, (ls.take (min k sy)).flatten.length⟩)], none⟩

theorem flat_take {ls : List Bs} {k : Nat} (hk : k < ls.length) : (ls.take (k + 1)).flatten = (ls.take k).flatten ++ ls[k] := by
  rw [List.take_succ_eq_append_getElem hk, List.flatten_append]
  simp

theorem flat_take_le (ls : List Bs) (k : Nat) : (ls.take k).flatten.length ≤ ls.flatten.length := by
  conv => rhs; rw [← List.take_append_drop k ls, List.flatten_append, List.length_append]
  omega

theorem keeps_append {ls : List Bs} (sy : Nat) {k : Nat} (hk : k < ls.length) (hl : ls.flatten.length ≤ 8000) : (keepsD ls sy k).append fN [ls[k]].flatten = (keepsM ls sy k, 0) := by
  have h1 := flat_take hk
  have h2 := flat_take_le ls (k + 1)
  rw [h1, List.length_append] at h2
  have h3 : (ls.take k).flatten.length + ls[k].length ≤ 8000 := by omega
  have h4 : [ls[k]].flatten = ls[k] := by simp
  rw [h4]
  have hm : (keepsD ls sy k).may [fN] = 0 := rfl
  unfold DiskM.append
  rw [if_neg (by rw [hm]; simp)]
  by_cases h0 : k = 0
  · subst h0
    have hf : (keepsD ls sy 0).full fN ls[0] = false := by
      have : ¬ (1048576 < 0 + ls[0].length) := by omega
      simp only [DiskM.full, keepsD, if_true, DiskM.used, sumBy, Sat.get, List.map_nil, List.sum_nil, decide_eq_false this]
      simp
    rw [if_neg (by rw [hf]; simp)]
    simp only [keepsD, keepsM, if_true, DiskM.done, DiskM.cur, Sat.get, put, del, h1]
    simp
    rfl
  · have hf : (keepsD ls sy k).full fN ls[k] = false := by
      have : ¬ (1048576 < (ls.take k).flatten.length + 0 + ls[k].length) := by omega
      simp only [DiskM.full, keepsD, if_neg h0, DiskM.used, sumBy, Sat.get, List.map_cons, List.map_nil, List.sum_cons, List.sum_nil, DiskM.size, decide_eq_false this]
      simp [fN]
    rw [if_neg (by rw [hf]; simp)]
    simp only [keepsD, keepsM, if_neg h0, DiskM.done, DiskM.cur, Sat.get, put, del, h1]
    simp [fN, ins]

theorem keeps_sync {ls : List Bs} {sy k : Nat} (hs : k < sy) : (keepsM ls sy k).sync [fN] = (keepsD ls sy (k + 1), 0) := by
  have e1 : min (k + 1) sy = k + 1 := by omega
  simp only [DiskM.sync, DiskM.each, DiskM.each1, keepsM, keepsD, e1]
  simp [DiskM.may, fN, okN, Sat.get, DiskM.done, DiskM.gSync, put, del, ins]

theorem keeps_stay {ls : List Bs} {sy k : Nat} (hs : sy ≤ k) : keepsM ls sy k = keepsD ls sy (k + 1) := by
  have e1 : min (k + 1) sy = min k sy := by omega
  simp only [keepsM, keepsD, e1]
  simp

theorem keeps_get0 (ls : List Bs) (sy : Nat) (dr : Int) : Sat.get fN ((keepsD ls sy 0).crash dr).files = none := rfl
theorem keeps_get {ls : List Bs} {sy k : Nat} (dr : Int) (h0 : k ≠ 0) : Sat.get fN ((keepsD ls sy k).crash dr).files = some (DiskM.crashF dr ⟨(ls.take k).flatten, (ls.take (min k sy)).flatten.length⟩) := by
  simp only [DiskM.crash, keepsD, if_neg h0, mp_get]
  rfl
end Go.Proofs.Ytdlbamhabenhgaa

namespace Go.Proofs.Ytdlbamhabenhgaa
open Go.RowKit Go.Sat Go.Maps

/-- One bit of the check sum; one byte; bytes. -/
def bitF (z : Int) : Int := bits .xor .u32 (z / 2) (bits .and .u32 3988292384 (-bits .and .u32 z 1 % 4294967296))
def iterF : Nat → Int → Int
  | 0, z => z
  | k + 1, z => bitF (iterF k z)
def byteF (v : Int) (c : UInt8) : Int := iterF 8 (bits .xor .u32 v (c.toNat : Int))
def rowF (v : Int) (l : Bs) : Int := l.foldl byteF v
def rowsF (ls : List Bs) : Int := ls.foldl rowF 4294967295

theorem rowF_take (v : Int) (l : Bs) {j : Nat} (hj : j < l.length) : rowF v (l.take (j + 1)) = byteF (rowF v (l.take j)) l[j] := by
  rw [List.take_succ_eq_append_getElem hj]
  simp only [rowF, List.foldl_append, List.foldl_cons, List.foldl_nil]

theorem rowsF_take (ls : List Bs) {k : Nat} (hk : k < ls.length) : rowsF (ls.take (k + 1)) = rowF (rowsF (ls.take k)) ls[k] := by
  rw [List.take_succ_eq_append_getElem hk]
  simp only [rowsF, List.foldl_append, List.foldl_cons, List.foldl_nil]

theorem rowsF_flat (ls : List Bs) : rowsF ls = rowF 4294967295 ls.flatten := by
  unfold rowsF rowF
  rw [List.foldl_flatten]

def sumF (l : Bs) : Int := bits .xor .u32 IntKind.u32.max (rowF 4294967295 l)

set_option maxRecDepth 100000 in
set_option maxHeartbeats 4000000 in
theorem sum_calls {w : World} {p : Option Addr} {n c : Nat} {ls : List Bs} (hx : RowsAt w (.slice p n c) ls) (hn : n ≤ 140737488355328) (hrow : ∀ l ∈ ls, l.length ≤ 140737488355328) :
    Calls Try.prog 80 #[.slice p n c] w (fun e w' => e = .returned (.int .u32 (sumF ls.flatten)) ∧ w' = w) := by
  have hnl := RowsAt.len hx
  have Hx := Lib.hid hx
  have Hrow := Lib.hid hrow
  have Hnl := Lib.hid hnl
  clear hx hrow hnl
  go_enter Try.func80, Try.ntmps80
  go_wp2_with fail
  go_loop [3, 10] (fun v i => ∃ k : Nat, k ≤ n ∧ i = .int .i64 k ∧ v = .int .u32 (rowsF (ls.take k))) (fun _ i => n - (intOf i).toNat)
  case atStart => exact ⟨0, Nat.zero_le _, rfl, rfl⟩
  case round =>
    obtain ⟨k, hk, rfl, rfl⟩ := hrel
    by_cases hlt : k < n
    · have hltl : k < ls.length := by rw [← Hnl.out]; exact hlt
      have Hrw := Lib.hid (rowsF_take ls hltl)
      obtain ⟨-, b, o, v, rfl, hcell, hv⟩ := RowsAt.row Hx.out hltl
      have hrl := Hrow.out _ (List.getElem_mem hltl)
      generalize hl : ls[k] = l at *
      have Hat := Lib.hid hv.at
      obtain ⟨pv, cv, rfl⟩ := hv.slice
      generalize hm : l.length = m at *
      generalize rowsF (ls.take k) = x at *
      have Hm := Lib.hid hm
      clear hv hm hl
      go_wp2_with fail
      go_loop [3, 16] (fun v i => ∃ j : Nat, j ≤ m ∧ i = .int .i64 j ∧ v = .int .u32 (rowF x (l.take j))) (fun _ i => m - (intOf i).toNat)
      case atStart => exact ⟨0, Nat.zero_le _, rfl, rfl⟩
      case round =>
        obtain ⟨j, hj, rfl, rfl⟩ := hrel
        by_cases hlj : j < m
        · have hljl : j < l.length := by rw [Hm.out]; exact hlj
          have Hbt := Lib.hid (rowF_take x l hljl)
          rcases Hat.out with h | ⟨b2, o2, c2, e1, hcx⟩
          · rw [h] at hljl
            simp at hljl
          cases e1
          have hcb := hcx j _ (List.getElem?_eq_getElem hljl)
          generalize l[j] = cc at *
          generalize rowF x (l.take j) = y at *
          have hcc : cc.toNat < 256 := cc.toNat_lt
          clear hcx
          go_wp2_with fail
          have HB := Lib.hid (show byteF y cc = iterF 8 (bits .xor .u32 y (cc.toNat : Int)) from rfl)
          generalize bits .xor .u32 y (cc.toNat : Int) = z0 at *
          go_loop [3, 24] (fun v i => ∃ q : Nat, q ≤ 8 ∧ i = .int .i64 q ∧ v = .int .u32 (iterF q z0)) (fun _ i => 8 - (intOf i).toNat)
          case atStart => exact ⟨0, Nat.zero_le _, rfl, rfl⟩
          case round =>
            obtain ⟨q, hq, rfl, rfl⟩ := hrel
            by_cases hlq : q < 8
            · have Hit := Lib.hid (show iterF (q + 1) z0 = bitF (iterF q z0) from rfl)
              generalize iterF q z0 = z at *
              go_wp2_with fail
              go_round
              case rel => exact ⟨q + 1, by omega, by go_num, by rw [Hit.out]; rfl⟩
              case measure => simp [intOf]; omega
            · have hq8 : q = 8 := by omega
              subst hq8
              go_wp2_with fail
              go_round
              case rel => exact ⟨j + 1, by omega, by go_num, by rw [Hbt.out, HB.out]⟩
              case measure => simp [intOf]; omega
        · have hjm : j = m := by omega
          have hlk : l.take j = l := List.take_of_length_le (by rw [Hm.out]; omega)
          rw [hlk]
          clear hlk
          go_wp2_with fail
          go_round
          case rel => exact ⟨k + 1, by omega, by go_num, by rw [Hrw.out]⟩
          case measure => simp [intOf]; omega
    · have hlk : ls.take k = ls := List.take_of_length_le (by have := Hnl.out; omega)
      rw [hlk]
      clear hlk
      have He := Lib.hid (show sumF ls.flatten = bits .xor .u32 IntKind.u32.max (rowsF ls) by rw [rowsF_flat]; rfl)
      generalize rowsF ls = x at *
      go_wp2_with fail
      go_ret
      exact ⟨by rw [He.out]; rfl, rfl⟩
end Go.Proofs.Ytdlbamhabenhgaa

namespace Go.Proofs.Ytdlbamhabenhgaa
open Go.RowKit Go.Sat Go.Maps

/-- A number in four bytes. -/
def fourN (n : Nat) : Bs := [UInt8.ofNat n, UInt8.ofNat (n / 256), UInt8.ofNat (n / 65536), UInt8.ofNat (n / 16777216)]

/-- What a function hands back that lays its bytes anew. -/
def NewB (w : World) (l : Bs) (e : Ending) (w' : World) : Prop := ∃ v, e = .returned v ∧ HasB w' v l ∧ Below w.heap.size w w'

set_option maxRecDepth 100000 in
set_option maxHeartbeats 4000000 in
theorem four_calls {w : World} (v : Nat) (h1 : v < 4294967296) :
    Calls Try.prog 79 #[.int .u32 (v : Int)] w (NewB w (fourN v)) := by
  have hfin : NewB w (fourN v) (.returned (.slice (some ⟨w.heap.size, 0, none⟩) 4 4)) (w.alloc (.cells #[.int .u8 ((v : Int) % 256), .int .u8 ((v : Int) / 256 % 256), .int .u8 ((v : Int) / 65536 % 256), .int .u8 ((v : Int) / 16777216)] 5)) :=
    ⟨_, rfl, has_lit _ (fourN v) _ _ 4 rfl rfl (by
      simp only [fourN, bytesV, List.map_cons, List.map_nil, UInt8.toNat_ofNat']
      have e1 : (v : Int) / 16777216 = ((v / 16777216 % 256 : Nat) : Int) := by omega
      have e2 : (v : Int) % 256 = ((v % 256 : Nat) : Int) := by omega
      have e3 : (v : Int) / 256 % 256 = ((v / 256 % 256 : Nat) : Int) := by omega
      have e4 : (v : Int) / 65536 % 256 = ((v / 65536 % 256 : Nat) : Int) := by omega
      rw [e1, e2, e3, e4]), (Below.refl _ _).alloc (Nat.le_refl _) _⟩
  have Hfin := Lib.hid hfin
  clear hfin
  go_enter Try.func79, Try.ntmps79
  go_wp2_with fail
  go_ret
  exact Hfin.out

theorem or_add (k a b : Nat) (h : a < 2 ^ k) : (a ||| b * 2 ^ k) = a + b * 2 ^ k := by
  have := Nat.two_pow_add_eq_or_of_lt h b
  rw [Nat.or_comm, Nat.mul_comm b, ← this, Nat.add_comm]

theorem or_four {x0 x1 x2 x3 : Nat} (l0 : x0 < 2 ^ 8) (l1 : x1 < 2 ^ 8) (l2 : x2 < 2 ^ 8) (l3 : x3 < 2 ^ 8) :
    bits .or .u32 (bits .or .u32 (bits .or .u32 (x0 : Int) ((x1 : Int) * 256)) ((x2 : Int) * 65536)) ((x3 : Int) * 16777216) = ((x0 + x1 * 256 + x2 * 65536 + x3 * 16777216 : Nat) : Int) := by
  have e1 : (x1 : Int) * 256 = ((x1 * 2 ^ 8 : Nat) : Int) := by omega
  have e2 : (x2 : Int) * 65536 = ((x2 * 2 ^ 16 : Nat) : Int) := by omega
  have e3 : (x3 : Int) * 16777216 = ((x3 * 2 ^ 24 : Nat) : Int) := by omega
  rw [e1, e2, e3, u32_or_nat _ _ (by omega) (by omega), or_add 8 x0 x1 (by omega), u32_or_nat _ _ (by omega) (by omega), or_add 16 _ x2 (by omega), u32_or_nat _ _ (by omega) (by omega), or_add 24 _ x3 (by omega)]

/-- The number of four bytes. -/
def ofFour (a0 a1 a2 a3 : UInt8) : Nat := a0.toNat + a1.toNat * 256 + a2.toNat * 65536 + a3.toNat * 16777216

theorem of_four (n : Nat) (h : n < 4294967296) : ofFour (UInt8.ofNat n) (UInt8.ofNat (n / 256)) (UInt8.ofNat (n / 65536)) (UInt8.ofNat (n / 16777216)) = n := by
  simp only [ofFour, UInt8.toNat_ofNat']
  omega

set_option maxRecDepth 100000 in
set_option maxHeartbeats 4000000 in
theorem fromFour_calls {w : World} {b o n c : Nat} {a0 a1 a2 a3 : UInt8} (hn : 4 ≤ n) (h0 : w.cell? ⟨b, o, none⟩ = some (.int .u8 (a0.toNat : Int))) (h1 : w.cell? ⟨b, o + 1, none⟩ = some (.int .u8 (a1.toNat : Int)))
    (h2 : w.cell? ⟨b, o + 2, none⟩ = some (.int .u8 (a2.toNat : Int))) (h3 : w.cell? ⟨b, o + 3, none⟩ = some (.int .u8 (a3.toNat : Int))) :
    Calls Try.prog 93 #[.slice (some ⟨b, o, none⟩) n c] w (fun e w' => e = .returned (.int .u32 (ofFour a0 a1 a2 a3 : Int)) ∧ ∃ q, w' = w.drewN q) := by
  have l0 := a0.toNat_lt
  have l1 := a1.toNat_lt
  have l2 := a2.toNat_lt
  have l3 := a3.toNat_lt
  have i0 : (0 : Int) < (n : Int) := by omega
  have i1 : (1 : Int) < (n : Int) := by omega
  have i2 : (2 : Int) < (n : Int) := by omega
  have i3 : (3 : Int) < (n : Int) := by omega
  have hF := or_four l0 l1 l2 l3
  have HF := Lib.hid (show bits .or .u32 (bits .or .u32 (bits .or .u32 (a0.toNat : Int) ((a1.toNat : Int) * 256)) ((a2.toNat : Int) * 65536)) ((a3.toNat : Int) * 16777216) = (ofFour a0 a1 a2 a3 : Int) from hF)
  clear hF
  generalize ofFour a0 a1 a2 a3 = r at *
  generalize a0.toNat = x0 at *
  generalize a1.toNat = x1 at *
  generalize a2.toNat = x2 at *
  generalize a3.toNat = x3 at *
  go_enter Try.func93, Try.ntmps93
  go_wp2_with fail
  go_quiet (fail)
  go_wp2
  go_ret
  exact ⟨by rw [← HF.out]; rfl, _, rfl⟩
end Go.Proofs.Ytdlbamhabenhgaa

namespace Go.Proofs.Ytdlbamhabenhgaa
open Go.RowKit Go.Sat Go.Maps

def sumN (l : Bs) : Nat := (sumF l).toNat

theorem sumF_range (l : Bs) : 0 ≤ sumF l ∧ sumF l < 4294967296 := by
  unfold sumF bits
  rw [IntKind.wrap_u32]
  omega

theorem sumF_nat (l : Bs) : sumF l = (sumN l : Int) := by
  have := (sumF_range l).1
  unfold sumN
  omega

theorem sumN_lt (l : Bs) : sumN l < 4294967296 := by
  have := sumF_range l
  unfold sumN
  omega

/-- A list of two rows, in a new block. -/
theorem rows_two {w : World} {v1 v2 : Value} {l1 l2 : Bs} (h1 : HasB w v1 l1) (h2 : HasB w v2 l2) (e : TypeId) (fr : Nat × Nat) (g c : Nat) (hg : g = w.heap.size) (hc : 2 ≤ c) : RowsAt (w.alloc (.cells #[v1, v2] e fr)) (.slice (some ⟨g, 0, none⟩) 2 c) [l1, l2] := by
  subst hg
  refine ⟨_, c, rfl, by simpa using hc, fun _ => ⟨_, _, [v1, v2], rfl, rfl, fun i u hu => ?_, fun i u m hu hm => ?_⟩⟩
  · have e1 : (⟨w.heap.size, 0, none⟩ : Addr).add i = ⟨w.heap.size, i, none⟩ := by unfold Addr.add; split <;> simp_all
    rw [e1]
    refine cell_of (new_block w _) ?_
    simpa using hu
  · have hi : i < 2 := by
      have := (List.getElem?_eq_some_iff.1 hu).1
      simpa using this
    have : i = 0 ∨ i = 1 := by omega
    rcases this with rfl | rfl
    · simp at hu hm
      subst hu
      subst hm
      exact (has_alloc h1 _).kit
    · simp at hu hm
      subst hu
      subst hm
      exact (has_alloc h2 _).kit

theorem below_al (w : World) (o : Obj) : Below w.heap.size w (w.alloc o) := (Below.refl _ _).alloc (Nat.le_refl _) o
theorem below_to {w w1 w2 : World} (h : Below w.heap.size w w1) (k : Below w1.heap.size w1 w2) : Below w.heap.size w w2 := h.trans (k.mono h.size)

def headN (n : Nat) : Bs := fourN n ++ fourN (sumN (fourN n))

set_option maxRecDepth 100000 in
set_option maxHeartbeats 4000000 in
theorem head_calls {w : World} (n : Nat) (h : n < 4294967296) :
    Calls Try.prog 78 #[.int .u32 (n : Int)] w (NewB w (headN n)) := by
  have Hf := Lib.hid (fun w => four_calls (w := w) n h)
  go_enter Try.func78, Try.ntmps78
  go_wp2_with fail
  refine (Hf.out _).mono ?_
  rintro e w1 ⟨v1, rfl, hv1, hb1⟩
  have V1 := Lib.hid hv1
  have B1 := Lib.hid hb1
  clear hv1 hb1
  go_wp2_with fail
  refine (Hf.out _).mono ?_
  rintro e w2 ⟨v2, rfl, hv2, hb2⟩
  have V2 := Lib.hid hv2
  have B2 := Lib.hid hb2
  obtain ⟨p2, c2, rfl⟩ := hv2.slice
  clear hv2 hb2
  go_wp2_with fail
  refine (sum_calls (rows_one V2.out 23 (0, 0) _ 1 rfl (Nat.le_refl _)) (by decide) (by simp [fourN])).mono ?_
  rintro e w3 ⟨rfl, rfl⟩
  rw [show [fourN n].flatten = fourN n by simp, sumF_nat]
  have Hg := Lib.hid (fun w => four_calls (w := w) (sumN (fourN n)) (sumN_lt _))
  have Hh := Lib.hid (show headN n = fourN n ++ fourN (sumN (fourN n)) from rfl)
  generalize sumN (fourN n) = q at *
  go_wp2_with fail
  refine (Hg.out _).mono ?_
  rintro e w4 ⟨v4, rfl, hv4, hb4⟩
  have B2' := below_to B1.out (below_to B2.out (below_to (below_al _ _) hb4))
  have V1' := V1.out.below (below_to B2.out (below_to (below_al _ _) hb4))
  obtain ⟨p1, c1, rfl⟩ := V1.out.slice
  obtain ⟨p4, c4, rfl⟩ := hv4.slice
  have hj := join_calls (rows_two V1' hv4 23 (0, 0) _ 2 rfl (Nat.le_refl _)) (by simp) (by simp [fourN])
  have Hj := Lib.hid hj
  have BB := Lib.hid B2'
  clear hj V1' B2' hv4 hb4
  go_wp2_with fail
  refine Hj.out.mono ?_
  rintro e w5 ⟨v5, rfl, hv5, hb5⟩
  have Hfin := Lib.hid (show NewB w (headN n) (.returned v5) w5 from ⟨v5, rfl, by rw [Hh.out]; simpa using hv5, below_to BB.out (below_to (below_al _ _) hb5)⟩)
  clear hv5 hb5
  go_wp2_with fail
  go_ret
  exact Hfin.out
end Go.Proofs.Ytdlbamhabenhgaa

namespace Go.Proofs.Ytdlbamhabenhgaa
open Go.RowKit Go.Sat

theorem fresh_ge {B : Nat} {w : World} {v : Value} {l : Bs} (h : Lib.FreshBytes B w v l) : ∀ k, v.ownBlock = some k → B ≤ k := by
  obtain ⟨g, cap, zs, rfl, h1, _⟩ := h
  intro k hk
  cases hk
  exact h1

/-- bytes.Join of rows, with nothing between them. -/
theorem bjoin_new {w : World} {x : Value} {ls : List Bs} (h : RowsAt w x ls) (hn : ls.length ≤ 140737488355328) (hl : ls.flatten.length ≤ 140737488355328) :
    Calls Try.prog 77 #[x, .slice none 0 0] w fun e w' => ∃ v, e = .returned v ∧ HasB w' v ls.flatten ∧ (∀ k, v.ownBlock = some k → w.heap.size ≤ k) ∧ Below w.heap.size w w' := by
  obtain ⟨p, c, rfl, hc, hQ⟩ := h
  cases ls with
  | nil =>
    refine (Try.bytes_Join_none p c (.slice none 0 0) w).mono ?_
    rintro e w' ⟨rfl, rfl⟩
    refine ⟨_, rfl, ?_, fun k hk => (by simp [Value.ownBlock] at hk; omega), (Below.refl _ _).alloc (Nat.le_refl _) _⟩
    exact HasB.of_kit ⟨_, _, rfl, fun e => (by cases e), fun a ha i x hx => by simp at hx⟩
  | cons l0 r =>
    obtain ⟨b, o, vs, rfl, hP⟩ := hQ (by simp)
    cases r with
    | nil =>
      obtain ⟨p0, c0, l0', e0, hcell, hp0, hcs⟩ := hP.get 0 (by simp)
      simp at e0
      subst e0
      have hcell' : w.cell? ⟨b, o, none⟩ = some (.slice p0 l0.length c0) := by simpa [Addr.add] using hcell
      by_cases h0 : l0.length = 0
      · have hl0 : l0 = [] := List.eq_nil_of_length_eq_zero h0
        subst hl0
        refine (Try.bytes_Join_one_empty b o c p0 c0 (.slice none 0 0) w hcell').mono ?_
        rintro e w' ⟨rfl, rfl⟩
        exact ⟨_, rfl, HasB.of_kit ⟨none, 0, rfl, fun _ => rfl, fun a ha => (by cases ha)⟩, fun k hk => (by cases hk), Below.refl _ _⟩
      · obtain ⟨a0, rfl⟩ : ∃ a, p0 = some a := by
          cases p0 with
          | none => exact absurd (by rw [hp0 rfl]; rfl) h0
          | some a => exact ⟨a, rfl⟩
        refine (Try.bytes_Join_one b o c a0 c0 l0 (.slice none 0 0) w hcell' (hcs a0 rfl) (by omega) (by simpa using hl)).mono ?_
        rintro e w' ⟨v, rfl, hf, hb⟩
        exact ⟨v, rfl, by simpa using fresh_has hf, fresh_ge hf, hb⟩
    | cons l1 r =>
      have hsep : Lib.HoldsBytes w (.slice none 0 0) [] := ⟨none, 0, rfl, fun _ => rfl, fun a ha => (by cases ha)⟩
      refine (Try.bytes_Join_many b o _ c vs (l0 :: l1 :: r) (.slice none 0 0) [] w rfl (by simp) hP hc hsep hn (by rw [← flat_len]; simpa using hl)).mono ?_
      rintro e w' ⟨v, rfl, hf, hb⟩
      rw [join_flat] at hf
      exact ⟨v, rfl, fresh_has hf, fresh_ge hf, hb⟩

set_option maxHeartbeats 400000 in
/-- octet.Join. -/
theorem join_new {w : World} {x : Value} {ls : List Bs} (h : RowsAt w x ls) (hn : ls.length ≤ 140737488355328) (hl : ls.flatten.length ≤ 140737488355328) :
    Calls Try.prog 50 #[x] w fun e w' => ∃ v, e = .returned v ∧ HasB w' v ls.flatten ∧ (∀ k, v.ownBlock = some k → w.heap.size ≤ k) ∧ Below w.heap.size w w' := by
  have hj := bjoin_new h hn hl
  obtain ⟨p, c, rfl, hc, hP⟩ := h
  have Hj := Lib.hid hj
  clear hj hP
  go_enter Try.func50, Try.ntmps50
  go_wp2_with fail
  refine Hj.out.mono ?_
  rintro e w' ⟨v, rfl, hv, hw, hb⟩
  go_wp2_with fail
  go_ret
  exact ⟨v, rfl, hv, hw, hb⟩

end Go.Proofs.Ytdlbamhabenhgaa

namespace Go.Proofs.Ytdlbamhabenhgaa
open Go.RowKit Go.Sat Go.Maps

/-- A record of bytes. -/
def frameN (l : Bs) : Bs := (headN l.length ++ l) ++ fourN (sumN (headN l.length ++ l))

theorem lens_take (ls : List Bs) {k : Nat} (hk : k < ls.length) : (ls.take (k + 1)).flatten.length = (ls.take k).flatten.length + ls[k].length := by
  rw [flat_take hk, List.length_append]

set_option maxRecDepth 100000 in
set_option maxHeartbeats 4000000 in
theorem enc_calls {w : World} {p : Option Addr} {n c : Nat} {ls : List Bs} (hx : RowsAt w (.slice p n c) ls) (hn : n ≤ 140737488355328) (hl : ls.flatten.length ≤ 1048576) :
    Calls Try.prog 56 #[.slice p n c] w (fun e w' => ∃ v, e = .returned (.tuple #[v, .int .i64 0]) ∧ HasB w' v (frameN ls.flatten) ∧ (∀ k, v.ownBlock = some k → w.heap.size ≤ k) ∧ Below w.heap.size w w') := by
  have hnl := RowsAt.len hx
  have Hx := Lib.hid hx
  have Hl := Lib.hid hl
  have Hnl := Lib.hid hnl
  clear hx hl hnl
  go_enter Try.func56, Try.ntmps56
  go_wp2_with fail
  go_loop [4, 10] (fun a i => ∃ k : Nat, k ≤ n ∧ i = .int .i64 k ∧ a = .int .i64 (((ls.take k).flatten.length : Nat) : Int) ∧ (ls.take k).flatten.length ≤ 1048576) (fun _ i => n - (intOf i).toNat)
  case atStart => exact ⟨0, Nat.zero_le _, rfl, by simp, by simp⟩
  case round =>
    obtain ⟨k, hk, rfl, rfl, hck⟩ := hrel
    by_cases hlt : k < n
    · have hltl : k < ls.length := by rw [← Hnl.out]; exact hlt
      have hct := lens_take ls hltl
      have hle := flat_take_le ls (k + 1)
      obtain ⟨-, b, o, v, rfl, hcell, hv⟩ := RowsAt.row Hx.out hltl
      obtain ⟨pv, cv, rfl⟩ := hv.slice
      have hc8 : (ls.take (k + 1)).flatten.length ≤ 1048576 := by have := Hl.out; omega
      have hsum : (ls.take k).flatten.length + ls[k].length ≤ 1048576 := by omega
      have Hct := Lib.hid hct
      have Hc8 := Lib.hid hc8
      clear hv hct hle hc8
      generalize ls[k].length = m at *
      generalize (ls.take k).flatten.length = C at *
      go_wp2_with fail
      go_round
      case rel => exact ⟨k + 1, by omega, by go_num, by rw [Hct.out]; go_num, Hc8.out⟩
      case measure => simp [intOf]; omega
    · have hls : ls.take k = ls := List.take_of_length_le (by have := Hnl.out; omega)
      rw [hls] at hck ⊢
      have hkn : k = n := by omega
      have Hhd := Lib.hid (fun w => head_calls (w := w) ls.flatten.length (by have := Hl.out; omega))
      have HFr := Lib.hid (show frameN ls.flatten = (headN ls.flatten.length ++ ls.flatten) ++ fourN (sumN (headN ls.flatten.length ++ ls.flatten)) from rfl)
      have Hjn := Lib.hid (fun (W : World) (hb : Below w.heap.size w W) => join_calls (rows_below Hx.out hb) (by rw [← Hnl.out]; omega) (by have := Hl.out; omega))
      generalize hX : ls.flatten = X at *
      have HX := Lib.hid hX
      clear hX
      generalize hC : X.length = C at *
      have hhl : (headN C).length = 8 := rfl
      generalize headN C = hd at *
      have HC := Lib.hid hC
      have Hhl := Lib.hid hhl
      clear hls hC hhl
      go_wp2_with fail
      refine (Hhd.out _).mono ?_
      rintro e w1 ⟨v1, rfl, hv1, hb1⟩
      have V1 := Lib.hid hv1
      have B1 := Lib.hid hb1
      have Hj := Lib.hid (Hjn.out _ hb1)
      clear hv1 hb1
      go_wp2_with fail
      refine Hj.out.mono ?_
      rintro e w2 ⟨v2, rfl, hv2, hb2⟩
      have hh1 := V1.out.below hb2
      obtain ⟨p1, c1, rfl⟩ := hh1.slice
      obtain ⟨p2, c2, rfl⟩ := hv2.slice
      have hj := join_calls (rows_two hh1 hv2 23 (0, 0) _ 2 rfl (Nat.le_refl _)) (by simp) (by simp [Hhl.out, HC.out]; omega)
      rw [show [hd, X].flatten = hd ++ X by simp] at hj
      have e1 := Hhl.out
      have e2 := HC.out
      rw [e1, e2] at hj
      rw [e1, e2]
      have Hj2 := Lib.hid hj
      have B2 := Lib.hid (below_to B1.out (below_to hb2 (below_al w2 (.cells #[.slice p1 8 c1, .slice p2 C c2] 23))))
      clear hj hh1 hv2 hb2 Hj e1 e2
      go_wp2_with fail
      refine Hj2.out.mono ?_
      rintro e w3 ⟨v3, rfl, hv3, hb3⟩
      have V3 := Lib.hid hv3
      have B3 := Lib.hid (below_to B2.out hb3)
      have hlb : (hd ++ X).length ≤ 1048584 := by rw [List.length_append, Hhl.out, HC.out]; omega
      have HLb := Lib.hid hlb
      generalize hY : hd ++ X = Y at *
      obtain ⟨p3, c3, rfl⟩ := hv3.slice
      clear hv3 hb3 hY hlb
      have hlY := HLb.out
      generalize hD : Y.length = yl at *
      have HD := Lib.hid hD
      clear hD
      go_wp2_with fail
      refine (sum_calls (rows_one V3.out 23 (0, 0) _ 1 rfl (Nat.le_refl _)) (by decide) (by simp [HD.out]; omega)).mono ?_
      rintro e w4 ⟨rfl, rfl⟩
      rw [show [Y].flatten = Y by simp, sumF_nat]
      have Hg := Lib.hid (fun w => four_calls (w := w) (sumN Y) (sumN_lt _))
      generalize sumN Y = q at *
      go_wp2_with fail
      refine (Hg.out _).mono ?_
      rintro e w5 ⟨v5, rfl, hv5, hb5⟩
      have V3' := V3.out.below (below_to (below_al _ _) hb5)
      obtain ⟨p5, c5, rfl⟩ := hv5.slice
      have hj := join_new (rows_two V3' hv5 23 (0, 0) _ 2 rfl (Nat.le_refl _)) (by simp) (by simp [fourN, HD.out]; omega)
      rw [show [Y, fourN q].flatten = Y ++ fourN q by simp, show (fourN q).length = 4 from rfl] at hj
      have B5 := Lib.hid (below_to B3.out (below_to (below_al _ _) hb5))
      rw [show (fourN q).length = 4 from rfl]
      have Hj3 := Lib.hid hj
      clear hj V3' hv5 hb5
      go_wp2_with fail
      refine Hj3.out.mono ?_
      rintro e w6 ⟨v6, rfl, hv6, hw6, hb6⟩
      have V6 := Lib.hid (And.intro hv6 (And.intro (fun k hk => Nat.le_trans B5.out.size (Nat.le_trans (below_al w5 _).size (hw6 k hk)) : ∀ k, v6.ownBlock = some k → w.heap.size ≤ k) (below_to B5.out (below_to (below_al _ _) hb6))))
      clear hv6 hw6 hb6
      go_wp2_with fail
      go_ret2
      exact ⟨v6, rfl, by rw [HX.out, HFr.out]; exact V6.out.1, V6.out.2.1, V6.out.2.2⟩
end Go.Proofs.Ytdlbamhabenhgaa

namespace Go.Proofs.Ytdlbamhabenhgaa
open Go.RowKit Go.Sat Go.Maps

theorem bytes_in {w : World} {p : Option Addr} {n c : Nat} {l : Bs} (h : HasB w (.slice p n c) l) : n = l.length ∧ Lib.BytesIn w p n (Lib.numsL l) := by
  have h1 := h.at
  obtain ⟨p', c', e⟩ := h.slice
  cases e
  refine ⟨rfl, fun hn => ?_⟩
  rcases h1 with e | ⟨b, o, c2, e, hc⟩
  · rw [e] at hn
    simp at hn
  · cases e
    refine ⟨b, o, rfl, fun i hi => ?_⟩
    rw [hc i l[i] (List.getElem?_eq_getElem hi)]
    simp [Lib.numsL, List.getD, List.getElem?_map, List.getElem?_eq_getElem hi]

theorem equal_calls {w : World} {x y : Value} {l m : Bs} (hx : HasB w x l) (hy : HasB w y m) :
    Calls Try.prog 94 #[x, y] w fun e w' => e = .returned (.bool (l == m)) ∧ w' = w := by
  obtain ⟨p1, c1, rfl⟩ := hx.slice
  obtain ⟨p2, c2, rfl⟩ := hy.slice
  have := Try.bytes_Equal_all p1 p2 l.length c1 m.length c2 (Lib.numsL l) (Lib.numsL m) w (Lib.numsL_length l) (Lib.numsL_length m) (bytes_in hx).2 (bytes_in hy).2
  rwa [Lib.bytesOf_numsL, Lib.bytesOf_numsL] at this

/-- The number that bytes begin with. -/
def fourAt (b : Bs) : Nat := ofFour (b.getD 0 0) (b.getD 1 0) (b.getD 2 0) (b.getD 3 0)

def decE (b : Bs) : Nat :=
  if b.length < 8 then 2 else if b.take 8 ≠ headN (fourAt b) then 4 else if 1048576 < fourAt b then 5 else if b.length < fourAt b + 12 then 2
  else if fourAt (b.drop (8 + fourAt b)) ≠ sumN (b.take (8 + fourAt b)) then 4 else 0
def decB (b : Bs) : Bs := if decE b = 0 then (b.drop 8).take (fourAt b) else []
def decL (b : Bs) : Nat := if decE b = 0 then fourAt b + 12 else 0

def Decoded (w : World) (b : Bs) (e : Ending) (w' : World) : Prop :=
  ∃ v, e = .returned (.tuple #[v, .int .i64 (decL b : Int), .int .i64 (decE b : Int)]) ∧ OwnB w' 5 v (decB b) ∧ (∀ k, v.ownBlock = some k → w.heap.size ≤ k) ∧ Below w.heap.size w w'

theorem four_at {w : World} {p : Option Addr} {n c : Nat} {b : Bs} (h : HasB w (.slice p n c) b) (h4 : 4 ≤ b.length) :
    Calls Try.prog 93 #[.slice p n c] w (fun e w' => e = .returned (.int .u32 (fourAt b : Int)) ∧ ∃ q, w' = w.drewN q) := by
  have h1 := h.at
  obtain ⟨p', c', e⟩ := h.slice
  cases e
  rcases h1 with e | ⟨g, o, c2, e, hc⟩
  · rw [e] at h4
    simp at h4
  · cases e
    have hb : ∀ i, i < b.length → b[i]? = some (b.getD i 0) := fun i hi => by simp [List.getD, List.getElem?_eq_getElem hi]
    exact fromFour_calls h4 (by simpa using hc 0 _ (hb 0 (by omega))) (hc 1 _ (hb 1 (by omega))) (hc 2 _ (hb 2 (by omega))) (hc 3 _ (hb 3 (by omega)))

theorem fourAt_lt (b : Bs) : fourAt b < 4294967296 := by
  have h0 := (b.getD 0 0).toNat_lt
  have h1 := (b.getD 1 0).toNat_lt
  have h2 := (b.getD 2 0).toNat_lt
  have h3 := (b.getD 3 0).toNat_lt
  unfold fourAt ofFour
  omega

theorem HasB.from {w : World} {g o n c : Nat} {l : Bs} (h : HasB w (.slice (some ⟨g, o, none⟩) n c) l) {k : Nat} (_hk : k ≤ l.length) (c' : Nat) : HasB w (.slice (some ⟨g, o + k, none⟩) (n - k) c') (l.drop k) := by
  have h1 := h.at
  obtain ⟨p', c2, e⟩ := h.slice
  cases e
  refine HasB.of_kit ⟨some ⟨g, o + k, none⟩, c', by rw [List.length_drop], fun e => (by cases e), fun a ha i x hx => ?_⟩
  cases ha
  have e1 : (⟨g, o + k, none⟩ : Addr).add i = ⟨g, o + k + i, none⟩ := by unfold Addr.add; split <;> simp_all
  rw [e1]
  rw [List.getElem?_drop] at hx
  rcases h1 with e | ⟨g2, o2, c3, e, hc⟩
  · rw [e] at hx
    simp at hx
  · cases e
    have := hc _ _ hx
    rw [Nat.add_assoc]
    exact this

/-- 'x[k:]'. -/
theorem run_from {P : Program} (w : World) {t e : TypeId} {i : TypeInfo} (ht : P.underlying t = some (.slice e)) (hi : P.info? e = some i) (hsz : i.size = 1) (g o len cap k : Nat) (h : k ≤ len) (_h2 : len ≤ cap) (h3 : k < cap) :
    (Instr.slice t (.slice (some ⟨g, o, none⟩) len cap) (some (.int .i64 (k : Int))) none none).run P w = .ok (.slice (some ⟨g, o + k, none⟩) (len - k) (cap - k)) w := by
  have h1 : (Instr.sliceBound (.int .i64 (k : Int)) len .sliceB).run P w = .ok k w := by
    rw [run_sliceBound _ _ _ _ _ (by omega) (by omega)]
    simp
  have e1 : (⟨g, o, none⟩ : Addr).add k = ⟨g, o + k, none⟩ := by unfold Addr.add; split <;> simp_all
  simp [Instr.slice, run_underlying ht, Instr.sliceBounds, h1, sizeOf, typeInfo, hi, Result.andThen, hsz, e1]
  omega
end Go.Proofs.Ytdlbamhabenhgaa

namespace Go.Sat
open Go

section
variable {P : Program} {l : List Oper} {Q : Exit → Act → World → Prop} {md : Region.Mode} {S : World → Prop} {fuel : Nat} {listed : Array Bool} {a : Act} {w : World}

theorem ord_get {i : Nat} {o : Oper} {r : List Oper} (h : l.drop i = o :: r) : l.toArray[i]? = some o := by
  have := List.getElem?_drop (xs := l) (i := i) (j := 0)
  rw [h] at this
  simpa using this.symm

/-- The beginning. -/
theorem ord_start (S : World → Prop) {id n : Nat} (hm : P.follows .mixedOrders = true) (hn : l.length = n) (hS : S w.drew) (h : S w.drew → wpAnyH P .any l.toArray Q S n (Array.replicate n false) a w.drew) : (Code.region id l.toArray true).wp P Q a w := by
  subst hn
  exact wp_region_held_drew hm hS (by simpa using h)

/-- Number i is not wanted. -/
theorem ord_skip (i : Nat) {o : Oper} {r : List Oper} (hd : l.drop i = o :: r) (hs : Region.noSelect l.toArray = true) (hf : Region.free md l.toArray listed i = true) (hr : (Region.ready md l.toArray listed).contains i = true)
    (hQ : ∀ c a w, Q (.panic c) (a.put o.dst undef) w → Q (.panic c) a w) (hw : Region.wanted o (yielded l.toArray a.tmps) = false) (hS : S w)
    (h : wpAnyH P md l.toArray Q S fuel (listed.setIfInBounds i true) (a.put o.dst undef) w) : wpAnyH P md l.toArray Q S (fuel + 1) listed a w :=
  wpAnyH_take (ord_get hd) hs hf hr hQ (.inr ⟨hw, rfl⟩) hS h

/-- Number i yields its value, in every world that meets S. -/
theorem ord_take (i : Nat) {o : Oper} {r : List Oper} {v : Value} (hd : l.drop i = o :: r) (hs : Region.noSelect l.toArray = true) (hf : Region.free md l.toArray listed i = true) (hr : (Region.ready md l.toArray listed).contains i = true)
    (hQ : ∀ c a w, Q (.panic c) (a.put o.dst v) w → Q (.panic c) a w) (hw : Region.wanted o (yielded l.toArray a.tmps) = true) (hS : S w) (hy : ∀ w, S w → (execOp a.eval o).run P w = .ok (.value v) w)
    (h : wpAnyH P md l.toArray Q S fuel (listed.setIfInBounds i true) (a.put o.dst v) w) : wpAnyH P md l.toArray Q S (fuel + 1) listed a w :=
  wpAnyH_take (ord_get hd) hs hf hr hQ (.inl ⟨hw, hy⟩) hS h

/-- Number i alone may come up. -/
theorem ord_one (i : Nat) {o : Oper} {r : List Oper} (hd : l.drop i = o :: r) (hr : Region.ready md l.toArray listed = [i]) (hw : Region.wanted o (yielded l.toArray a.tmps) = true)
    (h : ∀ K : Act → World → Prop, Shut (∀ a w, S w → (S w → wpAnyH P md l.toArray Q S fuel (listed.setIfInBounds i true) a w) → K a w) → Oper.wp P o a w K Q) : wpAnyH P md l.toArray Q S (fuel + 1) listed a w :=
  wpAnyH_ready hr (by simp) (AllReadyH.cons (ord_get hd) (fun K hK => by rw [if_pos hw]; exact h K hK) AllReadyH.nil)

/-- append, at an operation. -/
theorem wp_app {o : Oper} {K : Act → World → Prop} (s x : Operand) (t : TypeId)
    (ho : o.op = .call { callee := .builtin .append, args := #[s, x], argTypes := #[t, t] })
    (e : TypeId) (i : TypeInfo) (z : Value) (size bytes : Nat) (ht : P.underlying t = some (.slice e)) (hi : P.info? e = some i) (hz : i.zero = some z)
    (hsize : i.size = size) (hby : i.bytes = bytes) (hzs : z.cells.size = size) (hsz : 0 < size)
    (v : Value) (n : Nat) (xs : List Value) (hs : a.eval s = v) (hown : OwnR w e size v n xs)
    (xv : Value) (m : Nat) (news : List Value) (hxv : a.eval x = xv) (hx : Holds w size xv m news) (h1 : ∀ u ∈ news, u.oneCell' = true)
    (h63 : n + m ≤ maxLen) (hbytes : (n + m) * bytes ≤ 140737488355328)
    (h : ∀ v' w', OwnR w' e size v' (n + m) (xs ++ news) → w.grownBy w' v.ownBlock → (v'.ownBlock = v.ownBlock ∨ ∃ g, v'.ownBlock = some g ∧ w.heap.size ≤ g) → K (a.put o.dst v') w') : Oper.wp P o a w K Q := by
  obtain ⟨v', w', hr, h2, h3, h4⟩ := run_app (P := P) w t o.type e i z size bytes ht hi hz hsize hby hzs hsz v n xs hown xv m news hx h1 h63 hbytes
  unfold Oper.wp execOp
  simp only [ho, resolve, invoke, builtin, Sem.run_bind, Sem.run_pure, Result.andThen_ok, List.map_toArray, List.map_cons, List.map_nil, hs, hxv, hr]
  exact h v' w' h2 h3 h4
end
end Go.Sat

namespace Go.Proofs.Ytdlbamhabenhgaa
open Go.RowKit Go.Sat Go.Maps

theorem decoded_bad {w w' : World} {b : Bs} {k : Nat} (he : decE b = k) (hk : k ≠ 0) (hb : Below w.heap.size w w') : Decoded w b (.returned (.tuple #[.slice none 0 0, .int .i64 0, .int .i64 (k : Int)])) w' := by
  refine ⟨.slice none 0 0, ?_, ?_, fun j hj => (by cases hj), hb⟩
  · rw [he]
    unfold decL
    rw [he, if_neg hk]
    rfl
  · unfold decB
    rw [he, if_neg hk]
    exact OwnR.nil _ _ _

set_option maxRecDepth 100000 in
set_option maxHeartbeats 4000000 in
theorem dec_calls {w : World} {p : Option Addr} {n c : Nat} {b : Bs} (h : HasB w (.slice p n c) b) (hnc : n ≤ c) (hl : b.length ≤ 140737488355328) :
    Calls Try.prog 81 #[.slice p n c] w (Decoded w b) := by
  have hn : n = b.length := (bytes_in h).1
  subst hn
  have H := Lib.hid h
  obtain ⟨i0, hi, hz0, hz1, hz2⟩ := info_parts (show (Try.prog.info? 5).map (fun i => (i.zero, i.size, i.bytes)) = some (some (.int .u8 0), 1, 1) by kernel_rfl)
  by_cases h8 : b.length < 8
  · have Hfin := Lib.hid (decoded_bad (w := w) (w' := w) (b := b) (k := 2) (by unfold decE; rw [if_pos h8]) (by decide) (Below.refl _ _))
    generalize hN : b.length = N at *
    clear hN h
    go_enter Try.func81, Try.ntmps81
    go_wp2_with fail
    go_ret3
    exact Hfin.out
  · have H4 := Lib.hid (fun (W : World) (hb : Below w.heap.size w W) => four_at (h.below hb) (by omega))
    have H8 := Lib.hid (fun (W : World) (hb : Below w.heap.size w W) => HasB.cut (h.below hb) (k := 8) (by omega) c)
    have Hhd := Lib.hid (fun w => head_calls (w := w) (fourAt b) (fourAt_lt b))
    have hsl : ∀ W, (Instr.slice 23 (.slice p b.length c) none (some (.int .i64 8)) none).run Try.prog W = .ok (.slice p 8 c) W := fun W => run_upto W Try.underlying23 hi p _ c 8 (by omega)
    by_cases hh : b.take 8 = headN (fourAt b)
    · have Hh := Lib.hid (show (b.take 8 == headN (fourAt b)) = true by rw [hh, beq_self_eq_true])
      by_cases hm : 1048576 < fourAt b
      · have Hfin := Lib.hid (fun W => decoded_bad (w := w) (w' := W) (b := b) (k := 5) (by unfold decE; rw [if_neg h8, if_neg (by simpa using hh), if_pos hm]) (by decide))
        generalize hM : fourAt b = m at *
        generalize hN : b.length = N at *
        clear hN hM h hh
        go_enter Try.func81, Try.ntmps81
        go_wp2_with fail
        refine (H4.out _ (Below.refl _ _)).mono ?_
        rintro e w1 ⟨rfl, q, rfl⟩
        go_wp2_with fail
        refine ord_start (fun _ : World => True) (n := 7) (by kernel_rfl) rfl trivial (fun hHeld => ?_)
        refine ord_take 0 (v := ?v1x0) rfl (by kernel_rfl) (by kernel_rfl) (by kernel_rfl) (fun _ _ _ h => h) (by rfl) (by assumption) ?y1x0 ?_
        case y1x0 => (intro w hSw; (try dsimp only at hSw); go_simp; try with_reducible rfl)
        simp only [Act.put, List.setIfInBounds_toArray, List.set_cons_zero, List.set_cons_succ]
        refine ord_take 1 (v := ?v1x1) rfl (by kernel_rfl) (by kernel_rfl) (by kernel_rfl) (fun _ _ _ h => h) (by rfl) (by assumption) ?y1x1 ?_
        case y1x1 => (intro w hSw; (try dsimp only at hSw); go_simp; try with_reducible rfl)
        simp only [Act.put, List.setIfInBounds_toArray, List.set_cons_zero, List.set_cons_succ]
        refine ord_take 2 (v := ?v1x2) rfl (by kernel_rfl) (by kernel_rfl) (by kernel_rfl) (fun _ _ _ h => h) (by rfl) (by assumption) ?y1x2 ?_
        case y1x2 => (intro w hSw; (try dsimp only at hSw); go_simp; try with_reducible rfl)
        simp only [Act.put, List.setIfInBounds_toArray, List.set_cons_zero, List.set_cons_succ]
        refine ord_one 3 rfl (by kernel_rfl) (by rfl) (fun K hK => ?_)
        go_wp2_with fail
        refine (Hhd.out _).mono ?_
        rintro e w2 ⟨v2, rfl, hv2, hb2⟩
        have B2 := Lib.hid (below_to (show Below w.heap.size w (w.drewN q).drew from ⟨rfl, rfl, rfl, Nat.le_refl _, fun _ _ => rfl⟩) hb2)
        have heq := equal_calls (H8.out _ B2.out) hv2
        rw [Hh.out] at heq
        have Heq := Lib.hid heq
        clear hv2 hb2 heq
        go_wp2_with fail
        refine hK.out _ _ (trivial) (fun hHeld => ?_)
        clear hK
        try simp only [Act.put, List.setIfInBounds_toArray, List.set_cons_zero, List.set_cons_succ]
        refine ord_one 4 rfl (by kernel_rfl) (by rfl) (fun K hK => ?_)
        go_wp2_with fail
        refine Heq.out.mono ?_
        rintro e w3 ⟨rfl, rfl⟩
        go_wp2_with fail
        refine hK.out _ _ (trivial) (fun hHeld => ?_)
        clear hK
        try simp only [Act.put, List.setIfInBounds_toArray, List.set_cons_zero, List.set_cons_succ]
        refine ord_take 5 (v := ?v1x5) rfl (by kernel_rfl) (by kernel_rfl) (by kernel_rfl) (fun _ _ _ h => h) (by rfl) (by assumption) ?y1x5 ?_
        case y1x5 => (intro w hSw; (try dsimp only at hSw); go_simp; try with_reducible rfl)
        simp only [Act.put, List.setIfInBounds_toArray, List.set_cons_zero, List.set_cons_succ]
        refine ord_take 6 (v := ?v1x6) rfl (by kernel_rfl) (by kernel_rfl) (by kernel_rfl) (fun _ _ _ h => h) (by rfl) (by assumption) ?y1x6 ?_
        case y1x6 => (intro w hSw; (try dsimp only at hSw); go_simp; try with_reducible rfl)
        simp only [Act.put, List.setIfInBounds_toArray, List.set_cons_zero, List.set_cons_succ]
        refine wpAnyH_done (by kernel_rfl) ?_ _
        go_wp2_with fail
        go_ret3
        exact Hfin.out _ B2.out
      · by_cases hd : b.length < fourAt b + 12
        · have Hfin := Lib.hid (fun W => decoded_bad (w := w) (w' := W) (b := b) (k := 2) (by unfold decE; rw [if_neg h8, if_neg (by simpa using hh), if_neg hm, if_pos hd]) (by decide))
          generalize hM : fourAt b = m at *
          generalize hN : b.length = N at *
          clear hN hM h hh
          go_enter Try.func81, Try.ntmps81
          go_wp2_with fail
          refine (H4.out _ (Below.refl _ _)).mono ?_
          rintro e w1 ⟨rfl, q, rfl⟩
          go_wp2_with fail
          refine ord_start (fun _ : World => True) (n := 7) (by kernel_rfl) rfl trivial (fun hHeld => ?_)
          refine ord_take 0 (v := ?v2x0) rfl (by kernel_rfl) (by kernel_rfl) (by kernel_rfl) (fun _ _ _ h => h) (by rfl) (by assumption) ?y2x0 ?_
          case y2x0 => (intro w hSw; (try dsimp only at hSw); go_simp; try with_reducible rfl)
          simp only [Act.put, List.setIfInBounds_toArray, List.set_cons_zero, List.set_cons_succ]
          refine ord_take 1 (v := ?v2x1) rfl (by kernel_rfl) (by kernel_rfl) (by kernel_rfl) (fun _ _ _ h => h) (by rfl) (by assumption) ?y2x1 ?_
          case y2x1 => (intro w hSw; (try dsimp only at hSw); go_simp; try with_reducible rfl)
          simp only [Act.put, List.setIfInBounds_toArray, List.set_cons_zero, List.set_cons_succ]
          refine ord_take 2 (v := ?v2x2) rfl (by kernel_rfl) (by kernel_rfl) (by kernel_rfl) (fun _ _ _ h => h) (by rfl) (by assumption) ?y2x2 ?_
          case y2x2 => (intro w hSw; (try dsimp only at hSw); go_simp; try with_reducible rfl)
          simp only [Act.put, List.setIfInBounds_toArray, List.set_cons_zero, List.set_cons_succ]
          refine ord_one 3 rfl (by kernel_rfl) (by rfl) (fun K hK => ?_)
          go_wp2_with fail
          refine (Hhd.out _).mono ?_
          rintro e w2 ⟨v2, rfl, hv2, hb2⟩
          have B2 := Lib.hid (below_to (show Below w.heap.size w (w.drewN q).drew from ⟨rfl, rfl, rfl, Nat.le_refl _, fun _ _ => rfl⟩) hb2)
          have heq := equal_calls (H8.out _ B2.out) hv2
          rw [Hh.out] at heq
          have Heq := Lib.hid heq
          clear hv2 hb2 heq
          go_wp2_with fail
          refine hK.out _ _ (trivial) (fun hHeld => ?_)
          clear hK
          try simp only [Act.put, List.setIfInBounds_toArray, List.set_cons_zero, List.set_cons_succ]
          refine ord_one 4 rfl (by kernel_rfl) (by rfl) (fun K hK => ?_)
          go_wp2_with fail
          refine Heq.out.mono ?_
          rintro e w3 ⟨rfl, rfl⟩
          go_wp2_with fail
          refine hK.out _ _ (trivial) (fun hHeld => ?_)
          clear hK
          try simp only [Act.put, List.setIfInBounds_toArray, List.set_cons_zero, List.set_cons_succ]
          refine ord_take 5 (v := ?v2x5) rfl (by kernel_rfl) (by kernel_rfl) (by kernel_rfl) (fun _ _ _ h => h) (by rfl) (by assumption) ?y2x5 ?_
          case y2x5 => (intro w hSw; (try dsimp only at hSw); go_simp; try with_reducible rfl)
          simp only [Act.put, List.setIfInBounds_toArray, List.set_cons_zero, List.set_cons_succ]
          refine ord_take 6 (v := ?v2x6) rfl (by kernel_rfl) (by kernel_rfl) (by kernel_rfl) (fun _ _ _ h => h) (by rfl) (by assumption) ?y2x6 ?_
          case y2x6 => (intro w hSw; (try dsimp only at hSw); go_simp; try with_reducible rfl)
          simp only [Act.put, List.setIfInBounds_toArray, List.set_cons_zero, List.set_cons_succ]
          refine wpAnyH_done (by kernel_rfl) ?_ _
          go_wp2_with fail
          go_ret3
          exact Hfin.out _ B2.out
        · have hpos : 0 < b.length := by omega
          rcases h.at with e | ⟨g, o, c2, e, -⟩
          · rw [e] at hpos
            simp at hpos
          cases e
          have Hf := Lib.hid (fun (W : World) (hb : Below w.heap.size w W) => four_at (HasB.from (h.below hb) (k := 8 + fourAt b) (by omega) (c - (8 + fourAt b))) (by rw [List.length_drop]; omega))
          have Hs := Lib.hid (fun (W : World) (hb : Below w.heap.size w W) => HasB.cut (h.below hb) (k := 8 + fourAt b) (by omega) c)
          have HE : decE b = if fourAt (b.drop (8 + fourAt b)) ≠ sumN (b.take (8 + fourAt b)) then 4 else 0 := by unfold decE; rw [if_neg h8, if_neg (by simpa using hh), if_neg hm, if_neg hd]
          have HEl := Lib.hid (show decE b = 0 → decL b = fourAt b + 12 ∧ decB b = (b.take (8 + fourAt b)).drop 8 from fun e => ⟨by unfold decL; rw [if_pos e], by unfold decB; rw [if_pos e, List.take_drop]⟩)
          have hlen : (b.take (8 + fourAt b)).length = 8 + fourAt b := by rw [List.length_take]; omega
          generalize fourAt b = m at *
          generalize hN : b.length = N at *
          generalize b.take (8 + m) = Y at *
          generalize fourAt (b.drop (8 + m)) = q4 at *
          have HEE := Lib.hid HE
          have Hlen := Lib.hid hlen
          clear hN h hh hlen HE
          go_enter Try.func81, Try.ntmps81
          go_wp2_with fail
          refine (H4.out _ (Below.refl _ _)).mono ?_
          rintro e w1 ⟨rfl, q, rfl⟩
          go_wp2_with fail
          refine ord_start (fun _ : World => True) (n := 7) (by kernel_rfl) rfl trivial (fun hHeld => ?_)
          refine ord_take 0 (v := ?v5x0) rfl (by kernel_rfl) (by kernel_rfl) (by kernel_rfl) (fun _ _ _ h => h) (by rfl) (by assumption) ?y5x0 ?_
          case y5x0 => (intro w hSw; (try dsimp only at hSw); go_simp; try with_reducible rfl)
          simp only [Act.put, List.setIfInBounds_toArray, List.set_cons_zero, List.set_cons_succ]
          refine ord_take 1 (v := ?v5x1) rfl (by kernel_rfl) (by kernel_rfl) (by kernel_rfl) (fun _ _ _ h => h) (by rfl) (by assumption) ?y5x1 ?_
          case y5x1 => (intro w hSw; (try dsimp only at hSw); go_simp; try with_reducible rfl)
          simp only [Act.put, List.setIfInBounds_toArray, List.set_cons_zero, List.set_cons_succ]
          refine ord_take 2 (v := ?v5x2) rfl (by kernel_rfl) (by kernel_rfl) (by kernel_rfl) (fun _ _ _ h => h) (by rfl) (by assumption) ?y5x2 ?_
          case y5x2 => (intro w hSw; (try dsimp only at hSw); go_simp; try with_reducible rfl)
          simp only [Act.put, List.setIfInBounds_toArray, List.set_cons_zero, List.set_cons_succ]
          refine ord_one 3 rfl (by kernel_rfl) (by rfl) (fun K hK => ?_)
          go_wp2_with fail
          refine (Hhd.out _).mono ?_
          rintro e w2 ⟨v2, rfl, hv2, hb2⟩
          have B2 := Lib.hid (below_to (show Below w.heap.size w (w.drewN q).drew from ⟨rfl, rfl, rfl, Nat.le_refl _, fun _ _ => rfl⟩) hb2)
          have heq := equal_calls (H8.out _ B2.out) hv2
          rw [Hh.out] at heq
          have Heq := Lib.hid heq
          clear hv2 hb2 heq
          go_wp2_with fail
          refine hK.out _ _ (trivial) (fun hHeld => ?_)
          clear hK
          try simp only [Act.put, List.setIfInBounds_toArray, List.set_cons_zero, List.set_cons_succ]
          refine ord_one 4 rfl (by kernel_rfl) (by rfl) (fun K hK => ?_)
          go_wp2_with fail
          refine Heq.out.mono ?_
          rintro e w3 ⟨rfl, rfl⟩
          go_wp2_with fail
          refine hK.out _ _ (trivial) (fun hHeld => ?_)
          clear hK
          try simp only [Act.put, List.setIfInBounds_toArray, List.set_cons_zero, List.set_cons_succ]
          refine ord_take 5 (v := ?v5x5) rfl (by kernel_rfl) (by kernel_rfl) (by kernel_rfl) (fun _ _ _ h => h) (by rfl) (by assumption) ?y5x5 ?_
          case y5x5 => (intro w hSw; (try dsimp only at hSw); go_simp; try with_reducible rfl)
          simp only [Act.put, List.setIfInBounds_toArray, List.set_cons_zero, List.set_cons_succ]
          refine ord_take 6 (v := ?v5x6) rfl (by kernel_rfl) (by kernel_rfl) (by kernel_rfl) (fun _ _ _ h => h) (by rfl) (by assumption) ?y5x6 ?_
          case y5x6 => (intro w hSw; (try dsimp only at hSw); go_simp; try with_reducible rfl)
          simp only [Act.put, List.setIfInBounds_toArray, List.set_cons_zero, List.set_cons_succ]
          refine wpAnyH_done (by kernel_rfl) ?_ _
          go_wp2_with fail
          refine (Hf.out _ B2.out).mono ?_
          rintro e w4 ⟨rfl, q5, rfl⟩
          have B4 := Lib.hid (below_to B2.out (show Below w3.heap.size w3 (w3.drewN q5) from ⟨rfl, rfl, rfl, Nat.le_refl _, fun _ _ => rfl⟩))
          have hys := Hs.out _ B4.out
          obtain ⟨p6, c6, e6⟩ := hys.slice
          have hsm := sum_calls (rows_one hys 23 (0, 0) _ 1 rfl (Nat.le_refl _)) (by decide) (by simp [Hlen.out]; omega)
          rw [show [Y].flatten = Y by simp, sumF_nat] at hsm
          have Hsm := Lib.hid hsm
          have B5 := Lib.hid (below_to B4.out (below_al (w3.drewN q5) (.cells #[.slice (some ⟨g, o, none⟩) (8 + m) c] 23)))
          clear hys e6 hsm
          by_cases heq : q4 = sumN Y
          · have he0 : decE b = 0 := by rw [HEE.out, if_neg (by simpa using heq)]
            have hne : ((q4 : Int) != (sumN Y : Int)) = false := by simp [heq]
            obtain ⟨hL, hB⟩ := HEl.out he0
            have hcl := clone_calls (HasB.from (Hs.out _ B5.out) (k := 8) (by rw [Hlen.out]; omega) (c - 8)) (by rw [List.length_drop, Hlen.out]; omega)
            have Hcl := Lib.hid hcl
            have Hfin := Lib.hid (And.intro he0 (And.intro hL hB))
            generalize sumN Y = q7 at *
            clear hcl he0 hL hB heq
            go_wp2_with fail
            refine Hsm.out.mono ?_
            rintro e w6 ⟨rfl, rfl⟩
            rw [show 8 + m - 8 = m by omega] at Hcl
            go_wp2_with fail
            refine Hcl.out.mono ?_
            rintro e w7 ⟨v7, rfl, hv7, hn7, hb7⟩
            have Hd := Lib.hid (show Decoded w b (.returned (.tuple #[v7, .int .i64 (8 + (m : Int) + 4), .int .i64 0])) w7 from by
              obtain ⟨h0, hL, hB⟩ := Hfin.out
              refine ⟨v7, ?_, by rw [hB]; exact hv7, fun k hk => Nat.le_trans B5.out.size (hn7 k hk), below_to B5.out hb7⟩
              rw [hL, h0, show ((m + 12 : Nat) : Int) = 8 + (m : Int) + 4 by omega]
              rfl)
            clear hv7 hn7 hb7
            go_wp2_with fail
            go_ret3
            exact Hd.out
          · have hfin := fun W => decoded_bad (w := w) (w' := W) (b := b) (k := 4) (by rw [HEE.out, if_pos heq]) (by decide)
            have Hfin := Lib.hid hfin
            have hne : ((q4 : Int) != (sumN Y : Int)) = true := by
              simp only [bne_iff_ne, ne_eq, Int.natCast_inj]
              exact heq
            generalize sumN Y = q7 at *
            clear hfin heq
            go_wp2_with fail
            refine Hsm.out.mono ?_
            rintro e w6 ⟨rfl, rfl⟩
            go_wp2_with fail
            go_ret3
            exact Hfin.out _ B5.out
    · have Hh := Lib.hid (show (b.take 8 == headN (fourAt b)) = false by rw [beq_eq_false_iff_ne]; exact hh)
      have Hfin := Lib.hid (fun W => decoded_bad (w := w) (w' := W) (b := b) (k := 4) (by unfold decE; rw [if_neg h8, if_pos hh]) (by decide))
      generalize hM : fourAt b = m at *
      generalize hN : b.length = N at *
      clear hN hM h hh
      go_enter Try.func81, Try.ntmps81
      go_wp2_with fail
      refine (H4.out _ (Below.refl _ _)).mono ?_
      rintro e w1 ⟨rfl, q, rfl⟩
      go_wp2_with fail
      refine ord_start (fun _ : World => True) (n := 7) (by kernel_rfl) rfl trivial (fun hHeld => ?_)
      refine ord_take 0 (v := ?v4x0) rfl (by kernel_rfl) (by kernel_rfl) (by kernel_rfl) (fun _ _ _ h => h) (by rfl) (by assumption) ?y4x0 ?_
      case y4x0 => (intro w hSw; (try dsimp only at hSw); go_simp; try with_reducible rfl)
      simp only [Act.put, List.setIfInBounds_toArray, List.set_cons_zero, List.set_cons_succ]
      refine ord_take 1 (v := ?v4x1) rfl (by kernel_rfl) (by kernel_rfl) (by kernel_rfl) (fun _ _ _ h => h) (by rfl) (by assumption) ?y4x1 ?_
      case y4x1 => (intro w hSw; (try dsimp only at hSw); go_simp; try with_reducible rfl)
      simp only [Act.put, List.setIfInBounds_toArray, List.set_cons_zero, List.set_cons_succ]
      refine ord_take 2 (v := ?v4x2) rfl (by kernel_rfl) (by kernel_rfl) (by kernel_rfl) (fun _ _ _ h => h) (by rfl) (by assumption) ?y4x2 ?_
      case y4x2 => (intro w hSw; (try dsimp only at hSw); go_simp; try with_reducible rfl)
      simp only [Act.put, List.setIfInBounds_toArray, List.set_cons_zero, List.set_cons_succ]
      refine ord_one 3 rfl (by kernel_rfl) (by rfl) (fun K hK => ?_)
      go_wp2_with fail
      refine (Hhd.out _).mono ?_
      rintro e w2 ⟨v2, rfl, hv2, hb2⟩
      have B2 := Lib.hid (below_to (show Below w.heap.size w (w.drewN q).drew from ⟨rfl, rfl, rfl, Nat.le_refl _, fun _ _ => rfl⟩) hb2)
      have heq := equal_calls (H8.out _ B2.out) hv2
      rw [Hh.out] at heq
      have Heq := Lib.hid heq
      clear hv2 hb2 heq
      go_wp2_with fail
      refine hK.out _ _ (trivial) (fun hHeld => ?_)
      clear hK
      try simp only [Act.put, List.setIfInBounds_toArray, List.set_cons_zero, List.set_cons_succ]
      refine ord_one 4 rfl (by kernel_rfl) (by rfl) (fun K hK => ?_)
      go_wp2_with fail
      refine Heq.out.mono ?_
      rintro e w3 ⟨rfl, rfl⟩
      go_wp2_with fail
      refine hK.out _ _ (trivial) (fun hHeld => ?_)
      clear hK
      try simp only [Act.put, List.setIfInBounds_toArray, List.set_cons_zero, List.set_cons_succ]
      refine ord_take 5 (v := ?v4x5) rfl (by kernel_rfl) (by kernel_rfl) (by kernel_rfl) (fun _ _ _ h => h) (by rfl) (by assumption) ?y4x5 ?_
      case y4x5 => (intro w hSw; (try dsimp only at hSw); go_simp; try with_reducible rfl)
      simp only [Act.put, List.setIfInBounds_toArray, List.set_cons_zero, List.set_cons_succ]
      refine ord_take 6 (v := ?v4x6) rfl (by kernel_rfl) (by kernel_rfl) (by kernel_rfl) (fun _ _ _ h => h) (by rfl) (by assumption) ?y4x6 ?_
      case y4x6 => (intro w hSw; (try dsimp only at hSw); go_simp; try with_reducible rfl)
      simp only [Act.put, List.setIfInBounds_toArray, List.set_cons_zero, List.set_cons_succ]
      refine wpAnyH_done (by kernel_rfl) ?_ _
      go_wp2_with fail
      go_ret3
      exact Hfin.out _ B2.out
end Go.Proofs.Ytdlbamhabenhgaa

namespace Go.Proofs.Ytdlbamhabenhgaa
open Go.RowKit Go.Sat Go.Maps

theorem fourAt_four (n : Nat) (h : n < 4294967296) (r : Bs) : fourAt (fourN n ++ r) = n := by
  show ofFour (UInt8.ofNat n) (UInt8.ofNat (n / 256)) (UInt8.ofNat (n / 65536)) (UInt8.ofNat (n / 16777216)) = n
  exact of_four n h

theorem head_len (n : Nat) : (headN n).length = 8 := rfl

theorem frame_len (l : Bs) : (frameN l).length = l.length + 12 := by
  unfold frameN
  rw [List.length_append, List.length_append, head_len]
  simp only [fourN, List.length_cons, List.length_nil]
  omega

theorem frame_at (l : Bs) (h : l.length ≤ 1048576) : fourAt (frameN l) = l.length := by
  have : frameN l = fourN l.length ++ (fourN (sumN (fourN l.length)) ++ l ++ fourN (sumN (headN l.length ++ l))) := by
    simp [frameN, headN]
  rw [this]
  exact fourAt_four _ (by omega) _

theorem frame_dec (l : Bs) (h : l.length ≤ 1048576) : decE (frameN l) = 0 := by
  unfold decE
  have e1 := frame_at l h
  have e2 := frame_len l
  have e3 : (frameN l).take 8 = headN l.length := by
    unfold frameN
    rw [List.append_assoc, List.take_append_of_le_length (by rw [head_len]; omega), List.take_of_length_le (by rw [head_len]; omega)]
  have e4 : (frameN l).take (8 + l.length) = headN l.length ++ l := by
    unfold frameN
    rw [List.take_append_of_le_length (by rw [List.length_append, head_len]; omega), List.take_of_length_le (by rw [List.length_append, head_len]; omega)]
  have e5 : (frameN l).drop (8 + l.length) = fourN (sumN (headN l.length ++ l)) ++ [] := by
    unfold frameN
    rw [List.drop_append_of_le_length (by rw [List.length_append, head_len]; omega), List.drop_of_length_le (by rw [List.length_append, head_len]; omega)]
    simp
  rw [e1, e2, e3, e4, e5, fourAt_four _ (sumN_lt _)]
  rw [if_neg (by omega), if_neg (by simp), if_neg (by omega), if_neg (by omega), if_neg (by simp)]

theorem frame_decB (l : Bs) (h : l.length ≤ 1048576) : decB (frameN l) = l := by
  unfold decB
  rw [if_pos (frame_dec l h), frame_at l h]
  unfold frameN
  rw [List.append_assoc, List.drop_append_of_le_length (by rw [head_len]; omega), List.drop_of_length_le (by rw [head_len]; omega)]
  simp

theorem frame_decL (l : Bs) (h : l.length ≤ 1048576) : decL (frameN l) = (frameN l).length := by
  unfold decL
  rw [if_pos (frame_dec l h), frame_at l h, frame_len]

def oneE (b : Bs) : Nat := if decE b = 0 then (if decL b = b.length then 0 else 3) else decE b
def oneB (b : Bs) : Bs := if oneE b = 0 then decB b else []

theorem frame_oneE (l : Bs) (h : l.length ≤ 1048576) : oneE (frameN l) = 0 := by
  unfold oneE
  rw [if_pos (frame_dec l h), if_pos (frame_decL l h)]
theorem frame_oneB (l : Bs) (h : l.length ≤ 1048576) : oneB (frameN l) = l := by
  unfold oneB
  rw [if_pos (frame_oneE l h), frame_decB l h]

def OneOf (w : World) (b : Bs) (e : Ending) (w' : World) : Prop :=
  ∃ v, e = .returned (.tuple #[v, .int .i64 (oneE b : Int)]) ∧ OwnB w' 5 v (oneB b) ∧ (∀ k, v.ownBlock = some k → w.heap.size ≤ k) ∧ Below w.heap.size w w'

theorem one_nil {w w' : World} {b : Bs} {k : Nat} (he : oneE b = k) (hk : k ≠ 0) (hb : Below w.heap.size w w') : OneOf w b (.returned (.tuple #[.slice none 0 0, .int .i64 (k : Int)])) w' := by
  refine ⟨.slice none 0 0, by rw [he], ?_, fun j hj => (by cases hj), hb⟩
  unfold oneB
  rw [he, if_neg hk]
  exact OwnR.nil _ _ _

set_option maxHeartbeats 1000000 in
theorem one_calls {w : World} {p : Option Addr} {n c : Nat} {b : Bs} (h : HasB w (.slice p n c) b) (hnc : n ≤ c) (hl : b.length ≤ 140737488355328) :
    Calls Try.prog 58 #[.slice p n c] w (OneOf w b) := by
  have hn : n = b.length := (bytes_in h).1
  subst hn
  have Hd := Lib.hid (dec_calls h hnc hl)
  have hdl : decL b ≤ 4294967307 := by
    have := fourAt_lt b
    unfold decL
    split <;> omega
  clear h
  go_enter Try.func58, Try.ntmps58
  go_wp2_with fail
  refine Hd.out.mono ?_
  rintro e w1 ⟨v, rfl, hv, hn1, hb1⟩
  by_cases he : decE b = 0
  · by_cases hL : decL b = b.length
    · have hE : oneE b = 0 := by unfold oneE; rw [if_pos he, if_pos hL]
      have Hfin := Lib.hid (show OneOf w b (.returned (.tuple #[v, .int .i64 0])) w1 from ⟨v, by rw [hE]; rfl, by unfold oneB; rw [if_pos hE]; exact hv, hn1, hb1⟩)
      rw [he, hL]
      generalize b.length = N at *
      clear hv hn1 hb1 he hL hE hdl
      go_wp2_with fail
      go_ret2
      exact Hfin.out
    · have Hfin := Lib.hid (one_nil (w := w) (w' := w1) (b := b) (k := 3) (by unfold oneE; rw [if_pos he, if_neg hL]) (by decide) hb1)
      have hne : ((decL b : Int) != (b.length : Int)) = true := by
        simp only [bne_iff_ne, ne_eq, Int.natCast_inj]
        exact hL
      rw [he]
      generalize decL b = M at *
      generalize b.length = N at *
      clear hv hn1 hb1 he hL
      go_wp2_with fail
      go_ret2
      exact Hfin.out
  · have hE : oneE b = decE b := by unfold oneE; rw [if_neg he]
    have Hfin := Lib.hid (show OneOf w b (.returned (.tuple #[v, .int .i64 (decE b : Int)])) w1 from ⟨v, by rw [hE], by unfold oneB; rw [hE, if_neg he]; unfold decB at hv; rw [if_neg he] at hv; exact hv, hn1, hb1⟩)
    have hne : ((decE b : Int) == 0) = false := by simp; omega
    generalize decE b = E at *
    generalize decL b = M at *
    generalize b.length = N at *
    clear hv hn1 hb1 hE
    go_wp2_with fail
    go_ret2
    exact Hfin.out
end Go.Proofs.Ytdlbamhabenhgaa
