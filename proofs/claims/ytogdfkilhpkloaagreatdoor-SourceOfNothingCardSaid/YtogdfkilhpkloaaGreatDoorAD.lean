/- The contracts of octet's Reader. The contracts of octet's Reader: Num, Bytes, Whole, NewReader. The contracts of octet's Writer. The contracts of octet's Writer: Nums, Bytes, Out. octet's Writer: Bytes of several rows. A Writer of a function's own (out of JouH, with Bytes of several rows). An economy of nothing: Keys, Transits, Encode. econ.Encode of an economy of nothing. Printed by mkencz.py. econ.Decode of the bytes of an economy of nothing. econ.Decode of the bytes of an economy of nothing: the walk. Printed by mkdecz.py. zone: a head, isHead, prefix, fits at an economy of nothing. A string turned into bytes: a new row. The contract of frame.Decode: the walk. -/
import Derived.Lib.ConvBytes
import Derived.Test.YtogdfkilhpkloaaGreatDoorAA
import Derived.Test.YtogdfkilhpkloaaGreatDoorAB
import Derived.Test.YtogdfkilhpkloaaGreatDoorAC
import Derived.Test.YtogdfkilhpkloaaGreatDoorShelfI
namespace Go.Proofs.YtogdfkilhpkloaaGreatDoor
open Go.RowKit Go.Sat Go.Maps

/-- A Reader in memory. -/
structure RdIn (w : World) (r : Nat) (R : Rd) (p : Option Addr) (n c : Nat) : Prop where
  cells : w.heap[r]? = some (.cells #[.slice p n c, .bool R.bad] 238 (0, 0))
  has : HasB w (.slice p n c) R.rest
  cap : n ≤ c
  ne : (Value.slice p n c).ownBlock ≠ some r
  len : R.rest.length ≤ 140737488355328

def RdAt (w : World) (r : Nat) (R : Rd) : Prop := ∃ p n c, RdIn w r R p n c

/-- What a thing done with a Reader leaves. -/
def RStep1 (w : World) (r : Nat) (R' : Rd) (v : Value) (e : Ending) (w' : World) : Prop := e = .returned v ∧ RdAt w' r R' ∧ Chg (fun k => k = r) w w'

section
variable {w : World} {r : Nat} {R : Rd} {p : Option Addr} {n c : Nat}

theorem RdIn.c0 (h : RdIn w r R p n c) : w.cell? ⟨r, 0, none⟩ = some (.slice p n c) := cell_of h.cells rfl
theorem RdIn.c1 (h : RdIn w r R p n c) : w.cell? ⟨r, 1, none⟩ = some (.bool R.bad) := cell_of h.cells rfl
theorem RdIn.n_eq (h : RdIn w r R p n c) : R.rest.length = n := by obtain ⟨_, _, e⟩ := h.has.slice; simp only [Value.slice.injEq] at e; exact e.2.1.symm
theorem RdIn.rlt (h : RdIn w r R p n c) : r < w.heap.size := (Array.getElem?_eq_some_iff.1 h.cells).1

theorem rd_set (h : RdIn w r R p n c) (v0 v1 : Value) : ((w.setCell ⟨r, 0, none⟩ v0).setCell ⟨r, 1, none⟩ v1).heap[r]? = some (.cells #[v0, v1] 238 (0, 0)) := by
  have h1 := set_block h.cells 0 v0
  have h2 := set_block h1 1 v1
  simpa using h2

theorem rd_set0 (h : RdIn w r R p n c) (v0 : Value) : (w.setCell ⟨r, 0, none⟩ v0).heap[r]? = some (.cells #[v0, .bool R.bad] 238 (0, 0)) := by
  have h1 := set_block h.cells 0 v0
  simpa using h1

theorem rd_bad (h : RdIn w r R p n c) : RdAt ((w.setCell ⟨r, 0, none⟩ (.slice none 0 0)).setCell ⟨r, 1, none⟩ (.bool true)) r Rd.fail :=
  ⟨none, 0, 0, rd_set h _ _, OwnB.has (e := 0) (OwnR.nil _ _ _), Nat.le_refl _, fun h => (by cases h), Nat.zero_le _⟩

theorem bad_calls (h : RdIn w r R p n c) :
    Calls Tryz.prog 202 #[.pointer (some ⟨r, 0, none⟩)] w (RStep1 w r Rd.fail (.tuple #[])) := by
  have h0 := h.c0
  have h1 := h.c1
  have hf := fun i => frozen_of h.cells i
  have HE := Lib.hid (show RStep1 w r Rd.fail (.tuple #[]) (.returned (.tuple #[])) ((w.setCell ⟨r, 0, none⟩ (.slice none 0 0)).setCell ⟨r, 1, none⟩ (.bool true)) from ⟨rfl, rd_bad h, (Chg.setCell w ⟨r, 0, none⟩ _).trans (Chg.setCell _ ⟨r, 1, none⟩ _) fun _ _ e => e⟩)
  clear h
  go_enter Tryz.func202, Tryz.ntmps202
  go_wp2_with fail
  go_end0
  exact HE.out

theorem HasB.empty (w : World) (a : Option Addr) (c : Nat) : HasB w (.slice a 0 c) [] := ⟨rfl, a, c, rfl, fun _ => rfl, fun a' _ i u hu => (by simp [bytesV] at hu)⟩

theorem run_tail0 {P : Program} (w : World) {t e : TypeId} {i : TypeInfo} (ht : P.underlying t = some (.slice e)) (hi : P.info? e = some i) (hsz : i.size = 1) (p : Option Addr) (len cap k : Nat) (h : k ≤ len) (_h2 : len ≤ cap) :
    (Instr.slice t (.slice p len cap) (some (.int .i64 (k : Int))) none none).run P w = .ok (.slice (if cap = k then p else p.map fun x => x.add k) (len - k) (cap - k)) w := by
  have h1 : (Instr.sliceBound (.int .i64 (k : Int)) len .sliceB).run P w = .ok k w := by
    rw [run_sliceBound _ _ _ _ _ (by omega) (by omega)]
    simp
  simp [Instr.slice, run_underlying ht, Instr.sliceBounds, h1, sizeOf, typeInfo, hi, Result.andThen, hsz]

/-- 'x[k:]' at any k. -/
theorem run_tail {P : Program} {w : World} {t e : TypeId} {i : TypeInfo} (ht : P.underlying t = some (.slice e)) (hi : P.info? e = some i) (hsz : i.size = 1) {p : Option Addr} {n c : Nat} {l : Bs} (h : HasB w (.slice p n c) l) (hnc : n ≤ c) (r k : Nat) (hne : (Value.slice p n c).ownBlock ≠ some r) (hk : k ≤ n) :
    ∃ p' c', (∀ W, (Instr.slice t (.slice p n c) (some (.int .i64 (k : Int))) none none).run P W = .ok (.slice p' (n - k) c') W) ∧ HasB w (.slice p' (n - k) c') (l.drop k) ∧ n - k ≤ c' ∧ (Value.slice p' (n - k) c').ownBlock ≠ some r := by
  have hl : l.length = n := by obtain ⟨_, _, e⟩ := h.slice; simp only [Value.slice.injEq] at e; exact e.2.1.symm
  refine ⟨_, _, fun W => run_tail0 (P := P) W ht hi hsz p n c k hk hnc, ?_, by omega, ?_⟩
  · by_cases hkn : k = n
    · subst hkn
      rw [List.drop_of_length_le (by omega), Nat.sub_self]
      exact HasB.empty _ _ _
    · rw [if_neg (show ¬ c = k by omega)]
      rcases h.at with h0 | ⟨g, o, c2, e2, hc⟩
      · rw [h0] at hl
        simp at hl
        omega
      · simp only [Value.slice.injEq] at e2
        obtain ⟨rfl, -, -⟩ := e2
        have e3 : (some (⟨g, o, none⟩ : Addr)).map (fun x => x.add k) = some ⟨g, o + k, none⟩ := by simp [Addr.add]
        rw [e3]
        exact HasB.from h (by omega) _
  · split
    · cases p <;> exact hne
    · cases p with
      | none => intro e; cases e
      | some a =>
        intro e
        refine hne ?_
        rw [← e]
        simp [Value.ownBlock, add_block]

theorem HasB.set {w : World} {v : Value} {l : Bs} (h : HasB w v l) {a : Addr} (u : Value) (hne : v.ownBlock ≠ some a.block) : HasB (w.setCell a u) v l :=
  Holds.keep h fun k hk => set_other u fun e => hne (by rw [hk, e])

set_option maxRecDepth 100000 in
set_option maxHeartbeats 4000000 in
theorem raw_calls (h : RdIn w r R p n c) (k : Int) (hk : 0 ≤ k) (hk' : k ≤ 9223372036854775807) :
    Calls Tryz.prog 190 #[.pointer (some ⟨r, 0, none⟩), .int .i64 k] w fun e w' => ∃ v, e = .returned v ∧ OwnB w' 5 v (R.raw k.toNat).1 ∧ (∀ j, v.ownBlock = some j → w.heap.size ≤ j) ∧ RdAt w' r (R.raw k.toNat).2 ∧ Chg (fun j => j = r) w w' := by
  obtain ⟨i0, hi, -, hz1, -⟩ := info_parts (show (Tryz.prog.info? 5).map (fun i => (i.zero, i.size, i.bytes)) = some (some (.int .u8 0), 1, 1) by kernel_rfl)
  obtain ⟨m, rfl⟩ : ∃ m : Nat, k = (m : Int) := ⟨k.toNat, by omega⟩
  have hn := h.n_eq
  have hlen := h.len
  rw [Int.toNat_natCast]
  have c0 := h.c0
  have hfr := fun i => frozen_of h.cells i
  by_cases hm : m ≤ n
  · have hR : R.raw m = (R.rest.take m, ⟨R.rest.drop m, R.bad⟩) := by unfold Rd.raw; rw [if_pos (by omega)]
    rw [hR]
    obtain ⟨p', c', hsl, hh, hc, hne⟩ := run_tail (P := Tryz.prog) Tryz.underlying39 hi hz1 h.has h.cap r m h.ne hm
    have hup : ∀ W, (Instr.slice 39 (.slice p n c) none (some (.int .i64 (m : Int))) none).run Tryz.prog W = .ok (.slice p m c) W := fun W => run_upto W Tryz.underlying39 hi p n c m (by have := h.cap; omega)
    have Hcl := Lib.hid (clone_calls (HasB.cut h.has (k := m) (by omega) c) (by rw [List.length_take]; omega))
    have Hin := Lib.hid h
    have Hh := Lib.hid (And.intro hh (And.intro hc hne))
    clear hh hc hne h hR
    go_enter Tryz.func190, Tryz.ntmps190
    go_wp2_with fail
    refine Hcl.out.mono ?_
    rintro e w1 ⟨v, rfl, hv, hvn, hb⟩
    have hcell := hb.block r Hin.out.rlt
    have hin1 : RdIn w1 r R p n c := ⟨hcell.trans Hin.out.cells, HasB.below Hin.out.has hb, Hin.out.cap, Hin.out.ne, Hin.out.len⟩
    have hc1 := hin1.c0
    have hfr1 := fun i => frozen_of hin1.cells i
    have HV := Lib.hid (And.intro (show OwnB (w1.setCell ⟨r, 0, none⟩ (.slice p' (n - m) c')) 5 v (R.rest.take m) from hv.keep fun k hk => set_other _ fun e => by
      have := hvn k hk
      have h2 := Hin.out.rlt
      have h3 : k = r := e
      omega) (And.intro hvn (And.intro (show RdAt (w1.setCell ⟨r, 0, none⟩ (.slice p' (n - m) c')) r ⟨R.rest.drop m, R.bad⟩ from ⟨p', n - m, c', rd_set0 hin1 _, (HasB.set (HasB.below Hh.out.1 hb) _ Hh.out.2.2), Hh.out.2.1, Hh.out.2.2, by rw [List.length_drop]; omega⟩)
        (((Chg.of_below hb).mono fun _ _ h => h.elim).trans (Chg.setCell _ ⟨r, 0, none⟩ _) fun _ _ e => e : Chg (fun j => j = r) w (w1.setCell ⟨r, 0, none⟩ (.slice p' (n - m) c'))))))
    clear hv hvn hin1 Hin Hh Hcl hcell
    go_wp2_with fail
    go_ret
    exact ⟨v, rfl, HV.out⟩
  · have hR : R.raw m = ([], Rd.fail) := by unfold Rd.raw; rw [if_neg (by omega)]
    rw [hR]
    have Hbd := Lib.hid (bad_calls h)
    have hgt : ((m : Int) > (n : Int)) := by omega
    clear h hR
    go_enter Tryz.func190, Tryz.ntmps190
    go_wp2_with fail
    refine Hbd.out.mono ?_
    rintro e w1 ⟨rfl, hr, hc⟩
    have HE := Lib.hid (And.intro hr hc)
    clear hr hc
    go_wp2_with fail
    go_ret
    exact ⟨_, rfl, OwnR.nil _ _ _, fun j hj => (by cases hj), HE.out⟩
end
end Go.Proofs.YtogdfkilhpkloaaGreatDoor

namespace Go.Proofs.YtogdfkilhpkloaaGreatDoor
open Go.RowKit Go.Sat Go.Maps

theorem pow_seven (k : Nat) : 2 ^ (7 * k) = 128 ^ k := by rw [Nat.pow_mul]

theorem u64_seven {k a x : Nat} (ha : a < 128 ^ k) (hk : k ≤ 8) (hx : x < 256) :
    bits .or .u64 (a : Int) (IntKind.u64.wrap (IntKind.u64.wrap (bits .and .u8 (x : Int) 127) * 2 ^ (7 * k))) = ((a + x % 128 * 128 ^ k : Nat) : Int) ∧ a + x % 128 * 128 ^ k < 128 ^ (k + 1) ∧ a + x % 128 * 128 ^ k < 9223372036854775808 := by
  have h1 : bits .and .u8 (x : Int) 127 = ((x % 128 : Nat) : Int) := by
    have := u8_and_nat x 127 hx (by decide)
    rw [Nat.and_two_pow_sub_one_eq_mod x 7] at this
    exact this
  have hm : x % 128 < 128 := Nat.mod_lt _ (by decide)
  generalize x % 128 = y at *
  have hp : 128 ^ k ≤ 128 ^ 8 := Nat.pow_le_pow_right (by decide) hk
  have h8 : (128 : Nat) ^ 8 = 72057594037927936 := by decide
  have hy : y * 128 ^ k ≤ 127 * 128 ^ k := Nat.mul_le_mul_right _ (by omega)
  have hs : 128 ^ (k + 1) = 128 ^ k * 128 := Nat.pow_succ _ _
  have h2 : ((y : Nat) : Int) * 2 ^ (7 * k) = ((y * 128 ^ k : Nat) : Int) := by
    rw [← pow_seven, Int.natCast_mul, Int.natCast_pow]
    rfl
  rw [h1, IntWalk.u64_in ((y : Nat) : Int) (by omega), h2, IntWalk.u64_in ((y * 128 ^ k : Nat) : Int) (by omega), u64_or_nat _ _ (by omega) (by omega), ← pow_seven, or_add (7 * k) a y (by rw [pow_seven]; exact ha), pow_seven]
  refine ⟨rfl, by omega, by omega⟩

theorem own_cap0 {w : World} {e : TypeId} {v : Value} {l : Bs} (h : OwnB w e v l) : ∃ p c, v = .slice p l.length c ∧ l.length ≤ c := by
  rcases h.2 with ⟨rfl, hn⟩ | ⟨g, cap, cur, rfl, _, hnc, _⟩
  · exact ⟨none, 0, by rw [hn], by omega⟩
  · exact ⟨_, cap, rfl, hnc⟩

def NumDone (w : World) (r : Nat) (R : Rd) (e : Ending) (w' : World) : Prop := e = .returned (.int .i64 (R.num.1 : Int)) ∧ RdAt w' r R.num.2 ∧ Chg (fun k => k = r) w w'

set_option maxRecDepth 100000 in
set_option maxHeartbeats 4000000 in
theorem num_calls {w : World} {r : Nat} {R : Rd} {p : Option Addr} {n c : Nat} (h : RdIn w r R p n c) :
    Calls Tryz.prog 137 #[.pointer (some ⟨r, 0, none⟩)] w (NumDone w r R) := by
  obtain ⟨i0, hi, -, hz1, -⟩ := info_parts (show (Tryz.prog.info? 5).map (fun i => (i.zero, i.size, i.bytes)) = some (some (.int .u8 0), 1, 1) by kernel_rfl)
  have hn := h.n_eq
  have hlen := h.len
  rw [hn] at hlen
  have c0 := h.c0
  have hfr := frozen_of h.cells 0
  have Hbad := Lib.hid (bad_calls h)
  have Hno := Lib.hid (show numGo 0 0 R.rest = none → R.num = (0, Rd.fail) from fun e => by unfold Rd.num; rw [e])
  have Hyes := Lib.hid (show ∀ v t, numGo 0 0 R.rest = some (v, t) → R.num = (v, ⟨t, R.bad⟩) from fun v t e => by unfold Rd.num; rw [e])
  have Hin := Lib.hid h
  have Hn := Lib.hid hn
  clear h hn
  go_enter Tryz.func137, Tryz.ntmps137
  go_wp2_with fail
  go_loop [3, 13] (fun u i => ∃ k a : Nat, k ≤ n ∧ k ≤ 9 ∧ i = .int .i64 k ∧ u = .int .u64 a ∧ a < 128 ^ k ∧ numGo 0 0 R.rest = numGo k a (R.rest.drop k)) (fun _ i => n - (intOf i).toNat)
  case atStart => exact ⟨0, 0, Nat.zero_le _, by omega, rfl, rfl, by simp, rfl⟩
  case round =>
    obtain ⟨k, a, hk, hk9, rfl, rfl, ha, hgo⟩ := hrel
    by_cases hlt : k < n
    · have hkl : k < R.rest.length := by rw [Hn.out]; exact hlt
      rw [List.drop_eq_getElem_cons hkl] at hgo
      rcases Hin.out.has.at with h0 | ⟨g, o, c1, e1, hc⟩
      · rw [h0] at hkl
        simp at hkl
      simp only [Value.slice.injEq] at e1
      obtain ⟨rfl, -, rfl⟩ := e1
      have hck := hc k _ (List.getElem?_eq_getElem hkl)
      have Hgo := Lib.hid hgo
      clear hc hgo
      have hx := R.rest[k].toNat_lt
      have Hstop := Lib.hid (show 9 ≤ k ∨ (0 < k ∧ R.rest[k].toNat = 0) → numGo k a (R.rest[k] :: R.rest.drop (k + 1)) = none from fun e => by
        unfold numGo
        rw [if_pos (e.imp id fun e => ⟨e.1, UInt8.toNat.inj (by rw [e.2]; rfl)⟩)])
      have Hgo1 := Lib.hid (show ¬ (9 ≤ k ∨ (0 < k ∧ R.rest[k].toNat = 0)) → R.rest[k].toNat < 128 → numGo k a (R.rest[k] :: R.rest.drop (k + 1)) = if 4611686018427387904 < a + R.rest[k].toNat * 128 ^ k then none else some (a + R.rest[k].toNat * 128 ^ k, R.rest.drop (k + 1)) from fun e h => by
        rw [numGo, if_neg (fun h => e (h.imp id fun h => ⟨h.1, by rw [h.2]; rfl⟩)), if_pos h])
      have Hgo2 := Lib.hid (show ¬ (9 ≤ k ∨ (0 < k ∧ R.rest[k].toNat = 0)) → ¬ R.rest[k].toNat < 128 → numGo k a (R.rest[k] :: R.rest.drop (k + 1)) = numGo (k + 1) (a + R.rest[k].toNat % 128 * 128 ^ k) (R.rest.drop (k + 1)) from fun e h => by
        rw [numGo, if_neg (fun h => e (h.imp id fun h => ⟨h.1, by rw [h.2]; rfl⟩)), if_neg h])
      generalize R.rest[k].toNat = x at *
      by_cases h9 : 9 ≤ k
      · have HE := Lib.hid (Hno.out (Hgo.out.trans (Hstop.out (.inl h9))))
        go_wp2_with fail
        refine Hbad.out.mono ?_
        rintro e w1 ⟨rfl, hr, hc⟩
        have HF := Lib.hid (show NumDone w r R (.returned (.int .i64 0)) w1 from ⟨by rw [HE.out]; rfl, by rw [HE.out]; exact hr, hc⟩)
        clear hr hc
        go_wp2_with fail
        go_ret
        exact HF.out
      · by_cases hz : 0 < k ∧ x = 0
        · have HE := Lib.hid (Hno.out (Hgo.out.trans (Hstop.out (.inr hz))))
          obtain ⟨hk0, rfl⟩ := hz
          go_wp2_with fail
          refine Hbad.out.mono ?_
          rintro e w1 ⟨rfl, hr, hc⟩
          have HF := Lib.hid (show NumDone w r R (.returned (.int .i64 0)) w1 from ⟨by rw [HE.out]; rfl, by rw [HE.out]; exact hr, hc⟩)
          clear hr hc
          go_wp2_with fail
          go_ret
          exact HF.out
        · have hs : ¬ (9 ≤ k ∨ (0 < k ∧ x = 0)) := fun e => e.elim h9 hz
          have hd9 : decide ((9 : Int) ≤ (k : Int)) = false := by simp; omega
          by_cases h128 : x < 128
          · have HE := Lib.hid (Hgo.out.trans (Hgo1.out hs h128))
            have h7 := u64_seven ha (by omega) (show x < 256 by omega)
            rw [show x % 128 = x by omega] at h7
            obtain ⟨h7, -, h73⟩ := h7
            generalize a + x * 128 ^ k = A at *
            by_cases hA : 4611686018427387904 < A
            · have HE2 := Lib.hid (Hno.out (HE.out.trans (if_pos hA)))
              rcases Nat.lt_or_ge 0 k with hk0 | hk0
              rotate_left
              · go_wp2_with fail
                refine Hbad.out.mono ?_
                rintro e w1 ⟨rfl, hr, hc⟩
                have HF := Lib.hid (show NumDone w r R (.returned (.int .i64 0)) w1 from ⟨by rw [HE2.out]; rfl, by rw [HE2.out]; exact hr, hc⟩)
                clear hr hc
                go_wp2_with fail
                go_ret
                exact HF.out
              · have hx0 : 0 < x := by omega
                go_wp2_with fail
                refine Hbad.out.mono ?_
                rintro e w1 ⟨rfl, hr, hc⟩
                have HF := Lib.hid (show NumDone w r R (.returned (.int .i64 0)) w1 from ⟨by rw [HE2.out]; rfl, by rw [HE2.out]; exact hr, hc⟩)
                clear hr hc
                go_wp2_with fail
                go_ret
                exact HF.out
            · have HE2 := Lib.hid (Hyes.out _ _ (HE.out.trans (if_neg hA)))
              obtain ⟨p', c', hsl, hh, hcc, hne⟩ := run_tail (P := Tryz.prog) Tryz.underlying39 hi hz1 Hin.out.has Hin.out.cap r (k + 1) Hin.out.ne hlt
              have HF := Lib.hid (show NumDone w r R (.returned (.int .i64 (A : Int))) (w.setCell ⟨r, 0, none⟩ (.slice p' (n - (k + 1)) c')) from
                ⟨by rw [HE2.out], by rw [HE2.out]; exact ⟨p', n - (k + 1), c', rd_set0 Hin.out _, HasB.set hh _ hne, hcc, hne, by rw [List.length_drop, Hn.out]; omega⟩, Chg.setCell w ⟨r, 0, none⟩ _⟩)
              rw [Int.natCast_add, Int.natCast_one] at hsl
              clear hh hcc hne
              rcases Nat.lt_or_ge 0 k with hk0 | hk0
              rotate_left
              · go_wp2_with fail
                go_ret
                exact HF.out
              · have hx0 : 0 < x := by omega
                go_wp2_with fail
                go_ret
                exact HF.out
          · have hgo2 := Hgo.out.trans (Hgo2.out hs h128)
            obtain ⟨h7, h72, h73⟩ := u64_seven ha (by omega) (show x < 256 by omega)
            have Hgn := Lib.hid (And.intro hgo2 h72)
            clear hgo2 h72
            generalize a + x % 128 * 128 ^ k = A at *
            rcases Nat.lt_or_ge 0 k with hk0 | hk0
            rotate_left
            · go_wp2_with fail
              go_round
              case rel => exact ⟨k + 1, A, by omega, by omega, by go_num, rfl, Hgn.out.2, Hgn.out.1⟩
              case measure => simp [intOf]; omega
            · have hx0 : 0 < x := by omega
              go_wp2_with fail
              go_round
              case rel => exact ⟨k + 1, A, by omega, by omega, by go_num, rfl, Hgn.out.2, Hgn.out.1⟩
              case measure => simp [intOf]; omega
    · have hkn : R.rest.drop k = [] := List.drop_of_length_le (by rw [Hn.out]; omega)
      rw [hkn] at hgo
      have HE := Lib.hid (Hno.out hgo)
      clear hgo hkn
      go_wp2_with fail
      refine Hbad.out.mono ?_
      rintro e w1 ⟨rfl, hr, hc⟩
      have HF := Lib.hid (show NumDone w r R (.returned (.int .i64 0)) w1 from ⟨by rw [HE.out]; rfl, by rw [HE.out]; exact hr, hc⟩)
      clear hr hc
      go_wp2_with fail
      go_ret
      exact HF.out

/-- What a Reader's row is told with. -/
def RowDone (w : World) (r : Nat) (b : Bs) (R' : Rd) (e : Ending) (w' : World) : Prop :=
  ∃ v, e = .returned v ∧ OwnB w' 5 v b ∧ (∀ j, v.ownBlock = some j → w.heap.size ≤ j) ∧ RdAt w' r R' ∧ Chg (fun j => j = r) w w'

set_option maxRecDepth 100000 in
set_option maxHeartbeats 2000000 in
theorem rbytes_calls {w : World} {r : Nat} {R : Rd} (h : RdAt w r R) :
    Calls Tryz.prog 128 #[.pointer (some ⟨r, 0, none⟩)] w (RowDone w r R.bytes.1 R.bytes.2) := by
  obtain ⟨p, n, c, h⟩ := h
  have Hn := Lib.hid (num_calls h)
  have hle := Rd.num_le R
  have HB := Lib.hid (show R.bytes = R.num.2.raw R.num.1 from rfl)
  clear h
  go_enter Tryz.func128, Tryz.ntmps128
  go_wp2_with fail
  refine Hn.out.mono ?_
  rintro e w1 ⟨rfl, ⟨p1, n1, c1, hr⟩, hc⟩
  have Hr := Lib.hid (raw_calls hr (R.num.1 : Int) (by omega) (by omega))
  have Hc := Lib.hid hc
  rw [Int.toNat_natCast] at Hr
  clear hr hc Hn
  generalize R.num.1 = m at *
  generalize R.num.2 = R1 at *
  go_wp2_with fail
  refine Hr.out.mono ?_
  rintro e w2 ⟨v, rfl, hv, hvn, hr2, hc2⟩
  have HE := Lib.hid (show RowDone w r R.bytes.1 R.bytes.2 (.returned v) w2 from ⟨v, rfl, by rw [HB.out]; exact hv, fun j hj => Nat.le_trans Hc.out.size (hvn j hj), by rw [HB.out]; exact hr2, Hc.out.trans hc2 fun _ _ e => e⟩)
  clear hv hvn hr2 hc2 Hr
  go_wp2_with fail
  go_ret
  exact HE.out

/-- A Reader's own cells. -/
def RdHd (w : World) (r : Nat) (R : Rd) : Prop := ∃ p n c, w.heap[r]? = some (.cells #[.slice p n c, .bool R.bad] 238 (0, 0)) ∧ R.rest.length = n
theorem RdAt.hd {w : World} {r : Nat} {R : Rd} (h : RdAt w r R) : RdHd w r R := let ⟨p, n, c, h⟩ := h; ⟨p, n, c, h.cells, h.n_eq⟩
theorem RdHd.same {w w' : World} {r : Nat} {R : Rd} (h : RdHd w r R) (hs : w'.heap[r]? = w.heap[r]?) : RdHd w' r R := let ⟨p, n, c, h, e⟩ := h; ⟨p, n, c, hs.trans h, e⟩

theorem good_calls {w : World} {r : Nat} {R : Rd} (h : RdHd w r R) :
    Calls Tryz.prog 156 #[.pointer (some ⟨r, 0, none⟩)] w fun e w' => e = .returned (.bool (!R.bad)) ∧ w' = w := by
  obtain ⟨p, n, c, h, -⟩ := h
  have h1 : w.cell? ⟨r, 1, none⟩ = some (.bool R.bad) := cell_of h rfl
  clear h
  go_enter Tryz.func156, Tryz.ntmps156
  go_wp2_with fail
  go_ret
  exact ⟨rfl, rfl⟩

theorem whole_calls {w : World} {r : Nat} {R : Rd} (h : RdHd w r R) :
    Calls Tryz.prog 86 #[.pointer (some ⟨r, 0, none⟩)] w fun e w' => e = .returned (.bool R.whole) ∧ w' = w := by
  have Hg := Lib.hid (good_calls h)
  obtain ⟨p, n, c, h, hn⟩ := h
  have h0 : w.cell? ⟨r, 0, none⟩ = some (.slice p n c) := cell_of h rfl
  have HW := Lib.hid (show R.whole = (!R.bad && R.rest.isEmpty) from rfl)
  have HE := Lib.hid (show R.rest.isEmpty = ((n : Int) == 0) from by
    rw [Bool.eq_iff_iff, List.isEmpty_iff, ← List.length_eq_zero_iff, hn]
    simp)
  clear h hn
  cases hb : R.bad with
  | true =>
    rw [hb] at Hg HW
    go_enter Tryz.func86, Tryz.ntmps86
    go_wp2_with fail
    refine Hg.out.mono ?_
    rintro e w1 ⟨rfl, rfl⟩
    go_wp2_with fail
    go_ret
    exact ⟨by rw [HW.out]; rfl, rfl⟩
  | false =>
    rw [hb] at Hg HW
    go_enter Tryz.func86, Tryz.ntmps86
    go_wp2_with fail
    refine Hg.out.mono ?_
    rintro e w1 ⟨rfl, rfl⟩
    go_wp2_with fail
    go_ret
    exact ⟨by rw [HW.out, HE.out]; rfl, rfl⟩

theorem newrd_calls {w : World} {x : Value} {l : Bs} (h : HasB w x l) (hl : l.length ≤ 140737488355328) :
    Calls Tryz.prog 79 #[x] w fun e w' => ∃ r, e = .returned (.pointer (some ⟨r, 0, none⟩)) ∧ RdAt w' r ⟨l, false⟩ ∧ w.heap.size ≤ r ∧ Below w.heap.size w w' := by
  have Hc := Lib.hid (clone_calls h hl)
  clear h
  go_enter Tryz.func79, Tryz.ntmps79
  go_wp2_with fail
  refine Hc.out.mono ?_
  rintro e w1 ⟨v, rfl, hv, hvn, hb⟩
  obtain ⟨p, c, rfl, hcap⟩ := own_cap0 hv
  have HE := Lib.hid (show RdAt (w1.alloc (.cells #[.slice p l.length c, .bool false] 238)) w1.heap.size ⟨l, false⟩ from
    ⟨p, l.length, c, new_block w1 _, has_alloc hv.has _, hcap, fun e => by have := OwnR.lt hv e; omega, hl⟩)
  have HB := Lib.hid (And.intro hb.size (hb.alloc hb.size (.cells #[.slice p l.length c, .bool false] 238)))
  clear hv hvn hb Hc
  generalize l.length = n at *
  go_wp2_with fail
  go_ret
  exact ⟨_, rfl, HE.out, HB.out⟩
end Go.Proofs.YtogdfkilhpkloaaGreatDoor

namespace Go.Proofs.YtogdfkilhpkloaaGreatDoor
open Go.RowKit Go.Sat Go.Maps

/-- A Writer in memory. -/
structure WrIn (w : World) (k : Nat) (v : Value) (l : Bs) : Prop where
  cells : w.heap[k]? = some (.cells #[v] 160 (0, 0))
  row : OwnB w 5 v l
  ne : v.ownBlock ≠ some k

/-- What a Writer may write. -/
def WrS (k : Nat) (v : Value) (j : Nat) : Prop := j = k ∨ v.ownBlock = some j

/-- What a thing done with a Writer leaves. -/
def WrStep (w : World) (k : Nat) (v : Value) (l' : Bs) (w' : World) : Prop :=
  ∃ v', WrIn w' k v' l' ∧ Chg (WrS k v) w w' ∧ ∀ j, v'.ownBlock = some j → v.ownBlock = some j ∨ w.heap.size ≤ j

def WrTold (w : World) (k : Nat) (v : Value) (l' : Bs) (e : Ending) (w' : World) : Prop := e = .returned (.tuple #[]) ∧ WrStep w k v l' w'

section
variable {w w1 w2 : World} {k : Nat} {v : Value} {l l1 l2 : Bs}

theorem WrIn.c0 (h : WrIn w k v l) : w.cell? ⟨k, 0, none⟩ = some v := cell_of h.cells rfl
theorem WrIn.klt (h : WrIn w k v l) : k < w.heap.size := (Array.getElem?_eq_some_iff.1 h.cells).1

theorem WrStep.refl (h : WrIn w k v l) : WrStep w k v l w := ⟨v, h, Chg.refl _ _, fun _ h => .inl h⟩

theorem WrStep.trans (h : WrStep w k v l1 w1) (_hk : k < w.heap.size) (h2 : ∀ v1, WrIn w1 k v1 l1 → WrStep w1 k v1 l2 w2) : WrStep w k v l2 w2 := by
  obtain ⟨v1, h1, hc1, hn1⟩ := h
  obtain ⟨v2, h2, hc2, hn2⟩ := h2 v1 h1
  refine ⟨v2, h2, hc1.trans hc2 fun j hj hs => ?_, fun j hj => ?_⟩
  · rcases hs with rfl | hs
    · exact .inl rfl
    · rcases hn1 j hs with h | h
      · exact .inr h
      · omega
  · rcases hn2 j hj with h | h
    · exact hn1 j h
    · exact .inr (Nat.le_trans hc1.size h)

theorem WrStep.go {v1 : Value} (h1 : WrIn w1 k v1 l1) (hc : Chg (WrS k v) w w1) (hn : ∀ j, v1.ownBlock = some j → v.ownBlock = some j ∨ w.heap.size ≤ j) (hk : k < w.heap.size) (h : WrStep w1 k v1 l2 w2) : WrStep w k v l2 w2 := by
  obtain ⟨v2, h2, hc2, hn2⟩ := h
  refine ⟨v2, h2, hc.trans hc2 fun j hj hs => ?_, fun j hj => ?_⟩
  · rcases hs with rfl | hs
    · exact .inl rfl
    · rcases hn j hs with h | h
      · exact .inr h
      · omega
  · rcases hn2 j hj with h | h
    · exact hn j h
    · exact .inr (Nat.le_trans hc.size h)

/-- Something new was laid ahead. -/
theorem WrStep.ahead (hb : Below w.heap.size w w1) (_h : WrIn w k v l) (h2 : WrStep w1 k v l2 w2) : WrStep w k v l2 w2 := by
  obtain ⟨v2, h2, hc2, hn2⟩ := h2
  exact ⟨v2, h2, ((Chg.of_below hb).mono fun _ _ h => h.elim).trans hc2 fun _ _ hs => hs, fun j hj => (hn2 j hj).imp id (Nat.le_trans hb.size)⟩

theorem WrIn.keep (h : WrIn w k v l) (hb : Below w.heap.size w w1) : WrIn w1 k v l :=
  ⟨(hb.block k h.klt).trans h.cells, OwnR.keep h.row fun _ hk => hb.block _ (OwnR.lt h.row hk), h.ne⟩

/-- The row was appended to, and laid into the Writer. -/
theorem WrIn.grown {w0 : World} {v' : Value} {m : Bs} (h : WrIn w k v l) (hb : Below w.heap.size w w0) (hown : OwnR w1 5 1 v' (l.length + m.length) (bytesV l ++ bytesV m)) (hg : w0.grownBy w1 v.ownBlock) (hloc : v'.ownBlock = v.ownBlock ∨ ∃ g, v'.ownBlock = some g ∧ w0.heap.size ≤ g) :
    WrStep w k v (l ++ m) (w1.setCell ⟨k, 0, none⟩ v') := by
  have hk := h.klt
  have hs := hb.size
  have hk1 : w1.heap[k]? = some (.cells #[v] 160 (0, 0)) := (hg.block k (by omega) fun e => h.ne e.symm).trans ((hb.block k hk).trans h.cells)
  have hnew : ∀ j, v'.ownBlock = some j → v.ownBlock = some j ∨ w.heap.size ≤ j := fun j hj => by
    rcases hloc with e | ⟨g, e, hge⟩
    · exact .inl (e ▸ hj)
    · rw [hj] at e
      cases e
      exact .inr (Nat.le_trans hs hge)
  have hne : v'.ownBlock ≠ some k := fun e => by
    rcases hnew k e with h1 | h1
    · exact h.ne h1
    · omega
  refine ⟨v', ⟨?_, ?_, hne⟩, ?_, hnew⟩
  · have := set_block hk1 0 v'
    simpa using this
  · have : OwnB w1 5 v' (l ++ m) := by
      unfold OwnB
      rw [bytesV_app, List.length_append]
      exact hown
    exact OwnR.keep this fun j hj => set_other _ fun e => hne (by rw [hj]; exact congrArg some e)
  · refine (((Chg.of_below hb).mono fun _ _ h => h.elim).trans (Chg.of_grown hg) fun j _ e => .inr e.symm).trans (Chg.setCell _ ⟨k, 0, none⟩ _) fun j _ e => .inl e

set_option maxRecDepth 100000 in
set_option maxHeartbeats 2000000 in
theorem wraw_calls (h : WrIn w k v l) {p : Option Addr} {n c : Nat} {m : Bs} (hx : HasB w (.slice p n c) m) (hl : l.length + m.length ≤ 140737488355328) :
    Calls Tryz.prog 168 #[.pointer (some ⟨k, 0, none⟩), .slice p n c] w (WrTold w k v (l ++ m)) := by
  obtain ⟨i0, hi, hz0, hz1, hz2⟩ := info_parts (show (Tryz.prog.info? 5).map (fun i => (i.zero, i.size, i.bytes)) = some (some (.int .u8 0), 1, 1) by kernel_rfl)
  have hn : m.length = n := by obtain ⟨_, _, e⟩ := hx.slice; simp only [Value.slice.injEq] at e; exact e.2.1.symm
  subst hn
  have c0 := h.c0
  have hrow := h.row
  have Hx := Lib.hid hx
  have Hh := Lib.hid h
  clear h hx
  generalize hL : l.length = a at *
  have HL := Lib.hid hL
  generalize hM : m.length = b at *
  have HM := Lib.hid hM
  clear hL hM
  have Hrow := Lib.hid (show OwnR w 5 1 v a (bytesV l) by have := hrow; unfold OwnB at this; rwa [HL.out] at this)
  have Hxx := Lib.hid (show Holds w 1 (.slice p b c) b (bytesV m) by have := Hx.out; unfold HasB at this; rwa [HM.out] at this)
  clear hrow
  go_enter Tryz.func168, Tryz.ntmps168
  go_wp2_with (at_builtin; refine wpList_app _ rfl (.tmp 10) (.tmp 11) 39 rfl 5 i0 (.int .u8 0) 1 1 Tryz.underlying39 hi hz0 hz1 hz2 rfl (by decide) v a _ rfl Hrow.out (.slice p b c) b _ rfl Hxx.out (bytesV_one _) (by unfold maxLen; omega) (by omega) ?_; intro v1 w1 hown1 hgrow1 hloc1; go_loud (have hE := WrIn.grown (m := m) Hh.out (Below.refl _ _) (by rw [HL.out, HM.out]; exact hown1) hgrow1 hloc1; have hk1 := (hgrow1.block k Hh.out.klt fun e => Hh.out.ne e.symm).trans Hh.out.cells; have c1 := cell_of hk1 (i := 0) rfl; have f1 := frozen_of hk1 0; have HE := Lib.hid hE; clear hk1 hE hgrow1 hloc1; obtain ⟨p1, q1, rfl⟩ := OwnR.shape hown1; clear hown1))
  go_end0
  exact ⟨rfl, HE.out⟩
end
end Go.Proofs.YtogdfkilhpkloaaGreatDoor

namespace Go.Proofs.YtogdfkilhpkloaaGreatDoor
open Go.RowKit Go.Sat Go.Maps

/-- v is a slice of these numbers, wherever they lie. -/
def HasI (w : World) (v : Value) (zs : List Int) : Prop := Holds w 1 v zs.length (zs.map (Value.int .i64))

theorem HasI.at {w : World} {v : Value} {l : List Int} (h : HasI w v l) : l = [] ∨ ∃ b o c, v = .slice (some ⟨b, o, none⟩) l.length c ∧ ∀ i x, l[i]? = some x → w.cell? ⟨b, o + i, none⟩ = some (.int .i64 x) := by
  obtain ⟨hl, p, c, rfl, h0, hc⟩ := h
  cases p with
  | none => exact .inl (List.length_eq_zero_iff.1 (h0 rfl))
  | some a =>
    cases l with
    | nil => exact .inl rfl
    | cons x r =>
      obtain ⟨b, o, sp⟩ := a
      have h1 := hc _ rfl 0 (.int .i64 x) (by simp)
      have hsp : sp = none := by
        have := World.cell?_spot h1
        simpa [Addr.add] using this
      subst hsp
      refine .inr ⟨b, o, c, rfl, fun i y hy => ?_⟩
      have h2 := hc _ rfl i (.int .i64 y) (by rw [List.getElem?_map, hy]; rfl)
      have e : (⟨b, o, none⟩ : Addr).add i = ⟨b, o + i, none⟩ := by unfold Addr.add; split <;> simp_all
      rw [← e]
      exact h2

theorem HasI.slice {w : World} {v : Value} {l : List Int} (h : HasI w v l) : ∃ p c, v = .slice p l.length c := by
  obtain ⟨_, p, c, e, _⟩ := h
  exact ⟨p, c, e⟩

theorem numsI_take {zs : List Int} {j : Nat} (hj : j < zs.length) : numsI (zs.take (j + 1)) = numsI (zs.take j) ++ numI zs[j] := by
  rw [List.take_succ_eq_append_getElem hj]
  simp only [numsI, List.map_append, List.map_cons, List.map_nil, List.flatten_append, List.flatten_cons, List.flatten_nil, List.append_nil]

theorem numI_len (z : Int) : (numI z).length ≤ 9 := numB_nine (by omega)

theorem numsI_len (zs : List Int) : (numsI zs).length ≤ 9 * zs.length := by
  induction zs with
  | nil => simp [numsI]
  | cons z r ih =>
    have := numI_len z
    simp only [numsI, List.map_cons, List.flatten_cons, List.length_append, List.length_cons] at ih ⊢
    omega

theorem or_high (a : Nat) : bits .or .u8 ((a : Int) % 256) 128 = (((UInt8.ofNat (a % 128 + 128)).toNat : Nat) : Int) := by
  have h1 : (a : Int) % 256 = ((a % 256 : Nat) : Int) := by omega
  have h2 : ∀ y : Fin 256, (y.val ||| 128) = y.val % 128 + 128 := by decide +kernel
  have h3 : (a % 256 ||| 128) = a % 256 % 128 + 128 := h2 ⟨a % 256, by omega⟩
  rw [h1]
  have h4 := u8_or_nat (a % 256) 128 (by omega) (by decide)
  refine Eq.trans h4 ?_
  rw [h3, UInt8.toNat_ofNat']
  omega

theorem al_old (w : World) (o : Obj) {k : Nat} (h : k < w.heap.size) : (w.alloc o).heap[k]? = w.heap[k]? := ((Below.refl w.heap.size w).alloc (Nat.le_refl _) o).block k h

theorem mark_own0 {w : World} {e : TypeId} {v : Value} {n : Nat} {xs : List Value} (h : OwnR w e 1 v n xs) (o : Obj) : OwnR (w.alloc o) e 1 v n xs := h.keep fun _ hk => al_old w _ (OwnR.lt h hk)

theorem lit_one (w : World) (x : UInt8) : Holds (w.alloc (.cells #[.int .u8 (x.toNat : Int)] 5)) 1 (.slice (some ⟨w.heap.size, 0, none⟩) 1 1) 1 (bytesV [x]) := has_lit #[.int .u8 (x.toNat : Int)] [x] _ 1 1 rfl rfl rfl

set_option maxRecDepth 100000 in
set_option maxHeartbeats 4000000 in
theorem wnums_calls {w : World} {k : Nat} {v : Value} {l : Bs} (h : WrIn w k v l) {p : Option Addr} {n c : Nat} {zs : List Int} (hx : ∀ W, Chg (WrS k v) w W → HasI W (.slice p n c) zs)
    (hz : ∀ z ∈ zs, -9223372036854775808 ≤ z ∧ z ≤ 9223372036854775807) (hl : l.length + 9 * zs.length ≤ 140737488355000) :
    Calls Tryz.prog 95 #[.pointer (some ⟨k, 0, none⟩), .slice p n c] w (WrTold w k v (l ++ numsI zs)) := by
  obtain ⟨i0, hi, hz0, hz1, hz2⟩ := info_parts (show (Tryz.prog.info? 5).map (fun i => (i.zero, i.size, i.bytes)) = some (some (.int .u8 0), 1, 1) by kernel_rfl)
  have hn : zs.length = n := by obtain ⟨_, _, e⟩ := (hx w (Chg.refl _ _)).slice; simp only [Value.slice.injEq] at e; exact e.2.1.symm
  have Hn := Lib.hid hn
  have Hx := Lib.hid hx
  have Hz := Lib.hid hz
  have hn63 : n ≤ 140737488355000 := by omega
  have Hl := Lib.hid hl
  have H0 := Lib.hid (WrStep.refl h)
  have Hk := Lib.hid h.klt
  clear hx hz hl h hn
  go_enter Tryz.func95, Tryz.ntmps95
  go_wp2_with fail
  go_loopw [11] (fun i wr => ∃ j : Nat, j ≤ n ∧ i = .int .i64 j ∧ WrStep w k v (l ++ numsI (zs.take j)) wr) (fun i _ => n - (intOf i).toNat)
  case atStart => exact ⟨0, Nat.zero_le _, rfl, by simpa [numsI] using H0.out⟩
  case round =>
    clear H0
    obtain ⟨j, hj, rfl, hst⟩ := hrel
    by_cases hlt : j < n
    · have hjl : j < zs.length := by rw [Hn.out]; exact hlt
      obtain ⟨v1, hv1, hc1, hn1⟩ := hst
      rcases (Hx.out wr hc1).at with h0 | ⟨b, o, c2, e2, hcell⟩
      · rw [h0] at hjl
        simp at hjl
      rw [Hn.out] at e2
      simp only [Value.slice.injEq] at e2
      obtain ⟨rfl, -, rfl⟩ := e2
      have hcz := hcell j _ (List.getElem?_eq_getElem hjl)
      obtain ⟨hz1', hz2'⟩ := Hz.out _ (List.getElem_mem hjl)
      have Htk := Lib.hid (numsI_take hjl)
      generalize zs[j] = z at *
      have Hst := Lib.hid (show WrStep w k v (l ++ numsI (zs.take j)) wr from ⟨v1, hv1, hc1, hn1⟩)
      clear hcell hv1 hc1 hn1 hjl
      obtain ⟨N, hN, hN2⟩ : ∃ N : Nat, max 0 (min z 4611686018427387904) = (N : Int) ∧ N ≤ 4611686018427387904 := ⟨(max 0 (min z 4611686018427387904)).toNat, by omega, by omega⟩
      have HN := Lib.hid (show numI z = numB N by unfold numI; rw [hN]; rfl)
      have Hlt := Lib.hid (show (l ++ numsI (zs.take j) ++ numB N).length ≤ 140737488355200 from by
        have h1 := numsI_len (zs.take j)
        have h2 := numB_nine hN2
        have h3 := Hl.out
        have h4 : (zs.take j).length ≤ zs.length := by rw [List.length_take]; omega
        rw [List.length_append, List.length_append]
        omega)
      go_wp2_with fail
      go_loopw [6] (fun u wi => ∃ (a : Nat) (cur : Bs), u = .int .u64 a ∧ a ≤ 4611686018427387904 ∧ WrStep w k v cur wi ∧ cur ++ numB a = l ++ numsI (zs.take j) ++ numB N) (fun u _ => (intOf u).toNat)
      case atStart => exact ⟨N, _, rfl, hN2, Hst.out, rfl⟩
      case round =>
        clear Hst
        obtain ⟨a, cur, rfl, ha, hst, hcur⟩ := hrel
        have hlen := Hlt.out
        rw [← hcur, List.length_append] at hlen
        have hba := numB_len a
        obtain ⟨v2, hv2, hc2, hn2⟩ := hst
        have hklt := hv2.klt
        have c2 := hv2.c0
        have Hv2 := Lib.hid hv2
        have Hst2 := Lib.hid (And.intro hc2 hn2)
        have Hcur := Lib.hid hcur
        clear hc2 hn2 hv2 hcur
        generalize hL : cur.length = m at *
        have HL := Lib.hid hL
        clear hL
        have Hrow := Lib.hid (show OwnR wr 5 1 v2 m (bytesV cur) by have := Hv2.out.row; unfold OwnB at this; rwa [HL.out] at this)
        by_cases h128 : 128 ≤ a
        · have Hmore := Lib.hid (numB_more h128)
          have hor := or_high a
          generalize UInt8.ofNat (a % 128 + 128) = x at *
          go_wp2_with (at_builtin; have hal := mark_own0 Hrow.out (.cells #[.int .u8 (x.toNat : Int)] 5); have hxx := lit_one wr x; refine wpList_app _ rfl (.tmp 27) (.tmp 31) 39 rfl 5 i0 (.int .u8 0) 1 1 Tryz.underlying39 hi hz0 hz1 hz2 rfl (by decide) v2 m _ rfl hal (.slice (some ⟨wr.heap.size, 0, none⟩) 1 1) 1 _ rfl hxx (bytesV_one _) (by unfold maxLen; omega) (by omega) ?_; clear hal hxx; intro v3 w3 hown3 hgrow3 hloc3; go_loud (have hE := WrIn.grown (m := [x]) Hv2.out ((Below.refl _ _).alloc (Nat.le_refl _) _) (by rw [HL.out]; exact hown3) hgrow3 hloc3; have hk1 := (hgrow3.block k (by simp; omega) fun e => Hv2.out.ne e.symm).trans ((al_old wr (.cells #[.int .u8 (x.toNat : Int)] 5) hklt).trans Hv2.out.cells); have c3 := cell_of hk1 (i := 0) rfl; have f3 := frozen_of hk1 0; have HE := Lib.hid hE; clear hk1 hE hgrow3 hloc3; obtain ⟨p3, q3, rfl⟩ := OwnR.shape hown3; clear hown3))
          go_roundw
          case rel => exact ⟨a / 128, cur ++ [x], by first | rfl | go_num, by omega, WrStep.go Hv2.out Hst2.out.1 Hst2.out.2 Hk.out HE.out, by rw [← Hcur.out, Hmore.out]; simp⟩
          case measure => simp [intOf]; omega
        · have Hless := Lib.hid (numB_small (n := a) (by omega))
          obtain ⟨x, hx⟩ : ∃ x : UInt8, a = x.toNat := ⟨UInt8.ofNat a, by rw [UInt8.toNat_ofNat']; omega⟩
          rw [show UInt8.ofNat a = x by rw [hx]; simp] at Hless
          subst hx
          have hwr : (x.toNat : Int) % 256 = (x.toNat : Int) := by omega
          have hax := x.toNat_lt
          go_wp2_with (at_builtin; have hal := mark_own0 Hrow.out (.cells #[.int .u8 (x.toNat : Int)] 5); have hxx := lit_one wr x; refine wpList_app _ rfl (.tmp 39) (.tmp 42) 39 rfl 5 i0 (.int .u8 0) 1 1 Tryz.underlying39 hi hz0 hz1 hz2 rfl (by decide) v2 m _ rfl hal (.slice (some ⟨wr.heap.size, 0, none⟩) 1 1) 1 _ rfl hxx (bytesV_one _) (by unfold maxLen; omega) (by omega) ?_; clear hal hxx; intro v3 w3 hown3 hgrow3 hloc3; go_loud (have hE := WrIn.grown (m := [x]) Hv2.out ((Below.refl _ _).alloc (Nat.le_refl _) _) (by rw [HL.out]; exact hown3) hgrow3 hloc3; have hk1 := (hgrow3.block k (by simp; omega) fun e => Hv2.out.ne e.symm).trans ((al_old wr (.cells #[.int .u8 (x.toNat : Int)] 5) hklt).trans Hv2.out.cells); have c3 := cell_of hk1 (i := 0) rfl; have f3 := frozen_of hk1 0; have HE := Lib.hid hE; clear hk1 hE hgrow3 hloc3; obtain ⟨p3, q3, rfl⟩ := OwnR.shape hown3; clear hown3))
          go_roundw
          case rel => exact ⟨j + 1, by omega, by go_num, by
            rw [Htk.out, HN.out, ← List.append_assoc, ← Hcur.out, Hless.out]
            exact WrStep.go Hv2.out Hst2.out.1 Hst2.out.2 Hk.out HE.out⟩
          case measure => simp [intOf]; omega
    · have he : zs.take j = zs := List.take_of_length_le (by rw [Hn.out]; omega)
      rw [he] at hst
      have HE := Lib.hid hst
      clear hst he
      go_wp2_with fail
      go_end0
      exact ⟨rfl, HE.out⟩

theorem HasI.one {w : World} (z : Int) (e : TypeId) (fr : Nat × Nat) (g c : Nat) (hg : g = w.heap.size) : HasI (w.alloc (.cells #[.int .i64 z] e fr)) (.slice (some ⟨g, 0, none⟩) 1 c) [z] := by
  subst hg
  refine ⟨by simp, some ⟨w.heap.size, 0, none⟩, c, rfl, fun e => (by cases e), fun a ha i u hu => ?_⟩
  cases ha
  rw [add_zero]
  refine cell_of (new_block w _) ?_
  simpa using hu

theorem WrStep.told {w : World} {k : Nat} {v : Value} {l : Bs} {w' : World} (h : WrStep w k v l w') : WrTold w k v l (.returned (.tuple #[])) w' := ⟨rfl, h⟩

/-- One number. -/
theorem wnum_one {w : World} {k : Nat} {v : Value} {l : Bs} (h : WrIn w k v l) (z : Int) (hz : -9223372036854775808 ≤ z ∧ z ≤ 9223372036854775807) (hl : l.length + 9 ≤ 140737488355000) (g c : Nat) (hg : g = w.heap.size) (fr : Nat × Nat) :
    Calls Tryz.prog 95 #[.pointer (some ⟨k, 0, none⟩), .slice (some ⟨g, 0, none⟩) 1 c] (w.alloc (.cells #[.int .i64 z] 3 fr)) (WrTold (w.alloc (.cells #[.int .i64 z] 3 fr)) k v (l ++ numI z)) := by
  have h1 := h.keep ((Below.refl _ _).alloc (Nat.le_refl _) (.cells #[.int .i64 z] 3 fr))
  have hi := HasI.one (w := w) z 3 fr g c hg
  have H := wnums_calls h1 (zs := [z]) (fun W hc => Holds.chg hi hc fun j hj hs => by
    have hj' : j = g := by cases hj; rfl
    rcases hs with e | e
    · have := h.klt
      omega
    · have := OwnR.lt h.row e
      omega) (by simpa using hz) (by simpa using hl)
  rwa [show numsI [z] = numI z by simp [numsI]] at H

/-- Of one row. -/
def OneRel (W0 : World) (k : Nat) (v : Value) (l : Bs) (i : Value) (wr : World) : Prop := (i = .int .i64 0 ∧ wr = W0) ∨ (i = .int .i64 1 ∧ WrStep W0 k v l wr)

set_option maxRecDepth 100000 in
set_option maxHeartbeats 4000000 in
theorem wbytes_one {w : World} {k : Nat} {v : Value} {l : Bs} (h : WrIn w k v l) {pv : Option Addr} {m cv : Nat} {x : Bs} (hx : ∀ W, Chg (WrS k v) w W → HasB W (.slice pv m cv) x) (hl : l.length + x.length ≤ 140737488354000) (g c : Nat) (hg : g = w.heap.size) (fr : Nat × Nat) :
    Calls Tryz.prog 96 #[.pointer (some ⟨k, 0, none⟩), .slice (some ⟨g, 0, none⟩) 1 c] (w.alloc (.cells #[.slice pv m cv] 39 fr)) (WrTold (w.alloc (.cells #[.slice pv m cv] 39 fr)) k v (l ++ rowB x)) := by
  have hm : x.length = m := by obtain ⟨_, _, e⟩ := (hx w (Chg.refl _ _)).slice; simp only [Value.slice.injEq] at e; exact e.2.1.symm
  have hb0 : Below w.heap.size w (w.alloc (.cells #[.slice pv m cv] 39 fr)) := (Below.refl _ _).alloc (Nat.le_refl _) _
  have h1 := h.keep hb0
  have hx1 : ∀ W, Chg (WrS k v) (w.alloc (.cells #[.slice pv m cv] 39 fr)) W → HasB W (.slice pv m cv) x := fun W hc => hx W (((Chg.of_below hb0).mono fun _ _ h => h.elim).trans hc fun _ _ h => h)
  have hcell : (w.alloc (.cells #[.slice pv m cv] 39 fr)).cell? ⟨g, 0, none⟩ = some (.slice pv m cv) := by rw [hg]; exact cell_of (new_block w _) rfl
  have hgk : ∀ j, WrS k v j → j ≠ g := fun j hj e => by
    have h1 := h.klt
    rcases hj with hj | hj
    · omega
    · have := OwnR.lt h.row hj
      omega
  clear hg hx hb0
  generalize w.alloc (.cells #[.slice pv m cv] 39 fr) = W0 at *
  have hm62 : m ≤ 140737488354000 := by omega
  have Hm := Lib.hid hm
  have Hx := Lib.hid hx1
  have H0 := Lib.hid h1
  have Hl := Lib.hid hl
  clear hm h h1 hx1 hl
  go_enter Tryz.func96, Tryz.ntmps96
  go_wp2_with fail
  go_loopw [8] (OneRel W0 k v (l ++ rowB x)) (fun i _ => 1 - (intOf i).toNat)
  case atStart => exact .inl ⟨rfl, rfl⟩
  case round =>
    rcases hrel with ⟨rfl, rfl⟩ | ⟨rfl, hst⟩
    · have hn1 := wnum_one H0.out (m : Int) (by omega) (by have := Hl.out; omega) wr.heap.size 1 rfl (0, 0)
      rw [numI_nat (show m ≤ 4611686018427387904 by omega)] at hn1
      have Hn1 := Lib.hid hn1
      clear hn1
      go_wp2_with fail
      refine Hn1.out.mono ?_
      rintro e w2 ⟨rfl, hst2⟩
      have hst3 := WrStep.ahead ((Below.refl _ _).alloc (Nat.le_refl _) _) H0.out hst2
      obtain ⟨v2, hv2, hc2, hn2⟩ := hst3
      have Hr := Lib.hid (wraw_calls hv2 (Hx.out w2 hc2) (by
        rw [List.length_append]
        have := numB_nine (n := m) (by omega)
        have := Hl.out
        omega))
      have Hs2 := Lib.hid (And.intro hv2 (And.intro hc2 hn2))
      clear hst2 hv2 hc2 hn2 Hn1
      go_wp2_with fail
      refine Hr.out.mono ?_
      rintro e w3 ⟨rfl, hst4⟩
      have HE := Lib.hid (show WrStep wr k v (l ++ rowB x) w3 from by
        have := WrStep.go Hs2.out.1 Hs2.out.2.1 Hs2.out.2.2 H0.out.klt hst4
        rwa [List.append_assoc, ← Hm.out] at this)
      clear hst4 Hr
      go_wp2_with fail
      go_roundw
      case rel => exact .inr ⟨rfl, HE.out⟩
      case measure => simp [intOf]
    · have HE := Lib.hid hst
      clear hst
      go_wp2_with fail
      go_end0
      exact ⟨rfl, HE.out⟩

theorem wout_calls {w : World} {k : Nat} {v : Value} {l : Bs} (h : WrIn w k v l) (hl : l.length ≤ 140737488355328) :
    Calls Tryz.prog 99 #[.pointer (some ⟨k, 0, none⟩)] w fun e w' => ∃ v, e = .returned v ∧ OwnB w' 5 v l ∧ (∀ j, v.ownBlock = some j → w.heap.size ≤ j) ∧ Below w.heap.size w w' := by
  have c0 := h.c0
  have Hc := Lib.hid (clone_calls h.row.has hl)
  clear h
  go_enter Tryz.func99, Tryz.ntmps99
  go_wp2_with fail
  refine Hc.out.mono ?_
  rintro e w1 ⟨v1, rfl, hv, hvn, hb⟩
  have HE := Lib.hid (And.intro hv (And.intro hvn hb))
  clear hv hvn hb
  go_wp2_with fail
  go_ret
  exact ⟨v1, rfl, HE.out⟩
end Go.Proofs.YtogdfkilhpkloaaGreatDoor

namespace Go.Proofs.YtogdfkilhpkloaaGreatDoor
open Go.RowKit Go.Sat Go.Maps

def RowVs (W : World) (g : Nat) (rows : List (Value × Bs)) : Prop := ∀ j p, rows[j]? = some p → W.cell? ⟨g, j, none⟩ = some p.1 ∧ HasB W p.1 p.2
def rowsB (rows : List (Value × Bs)) : Bs := rows.flatMap fun p => rowB p.2
theorem rowsB_take {rows : List (Value × Bs)} {j : Nat} (hj : j < rows.length) : rowsB (rows.take (j + 1)) = rowsB (rows.take j) ++ rowB rows[j].2 := by
  unfold rowsB
  rw [List.take_succ_eq_append_getElem hj, List.flatMap_append]
  simp
theorem rowsB_le (rows : List (Value × Bs)) (j : Nat) : (rowsB (rows.take j)).length ≤ (rowsB rows).length := by
  have : rowsB rows = rowsB (rows.take j) ++ rowsB (rows.drop j) := by
    unfold rowsB
    rw [← List.flatMap_append, List.take_append_drop]
  rw [this, List.length_append]
  omega
set_option maxRecDepth 100000 in
set_option maxHeartbeats 4000000 in
theorem wbytes_calls {w : World} {k : Nat} {v : Value} {l : Bs} (h : WrIn w k v l) {g n c : Nat} {rows : List (Value × Bs)} (hn : rows.length = n) (hx : ∀ W, Chg (WrS k v) w W → RowVs W g rows)
    (hl : l.length + (rowsB rows).length ≤ 140737488354000) (hn63 : n ≤ 1099511627776) :
    Calls Tryz.prog 96 #[.pointer (some ⟨k, 0, none⟩), .slice (some ⟨g, 0, none⟩) n c] w (WrTold w k v (l ++ rowsB rows)) := by
  have Hn := Lib.hid hn
  have Hx := Lib.hid hx
  have Hl := Lib.hid hl
  have H0 := Lib.hid (WrStep.refl h)
  have Hk := Lib.hid h.klt
  clear hx hl h hn
  go_enter Tryz.func96, Tryz.ntmps96
  go_wp2_with fail
  go_loopw [8] (fun i wr => ∃ j : Nat, j ≤ n ∧ i = .int .i64 j ∧ WrStep w k v (l ++ rowsB (rows.take j)) wr) (fun i _ => n - (intOf i).toNat)
  case atStart => exact ⟨0, Nat.zero_le _, rfl, by simpa [rowsB] using H0.out⟩
  case round =>
    clear H0
    obtain ⟨j, hj, rfl, hst⟩ := hrel
    obtain ⟨wo, hwo⟩ : ∃ wo, wo = wr := ⟨_, rfl⟩
    subst hwo
    by_cases hlt : j < n
    · have hjl : j < rows.length := by rw [Hn.out]; exact hlt
      obtain ⟨v1, hv1, hc1, hn1⟩ := hst
      have hxj := Hx.out wo hc1 j _ (List.getElem?_eq_getElem hjl)
      obtain ⟨pv, cv, hsl⟩ := hxj.2.slice
      have hll : (l ++ rowsB (rows.take j)).length + (rowB rows[j].2).length ≤ 140737488354000 := by
        have h1 := rowsB_le rows (j + 1)
        rw [rowsB_take hjl, List.length_append] at h1
        rw [List.length_append]
        have := Hl.out
        omega
      have Htk := Lib.hid (rowsB_take hjl)
      have Hxs := Lib.hid (fun W (hc : Chg (WrS k v) w W) => (Hx.out W hc j _ (List.getElem?_eq_getElem hjl)).2)
      generalize rows[j] = p at *
      obtain ⟨pvv, x⟩ := p
      have hsl : pvv = .slice pv x.length cv := hsl
      subst hsl
      have hcz : wo.cell? ⟨g, j, none⟩ = some (.slice pv x.length cv) := hxj.1
      obtain ⟨m, hm⟩ : ∃ m, m = x.length := ⟨_, rfl⟩
      have hxl : x.length ≤ 140737488354000 := by
        have : (rowB x).length = (numB x.length).length + x.length := by simp [rowB]
        have hll' : (l ++ rowsB (rows.take j)).length + (rowB x).length ≤ 140737488354000 := hll
        omega
      clear hll
      have hll : (l ++ rowsB (rows.take j)).length + (rowB x).length ≤ 140737488354000 := by
        have h1 := rowsB_le rows (j + 1)
        rw [Htk.out, List.length_append] at h1
        have h1' : (rowsB (rows.take j)).length + (rowB x).length ≤ (rowsB rows).length := h1
        rw [List.length_append]
        have := Hl.out
        omega
      have hrow : (rowB x).length = (numB x.length).length + x.length := by simp [rowB]
      have hn1' := wnum_one hv1 (x.length : Int) (by omega) (by have := numB_nine (n := x.length) (by omega); omega) wo.heap.size 1 rfl (0, 0)
      rw [numI_nat (show x.length ≤ 4611686018427387904 by omega)] at hn1'
      have Hn1 := Lib.hid hn1'
      have Hs1 := Lib.hid (And.intro hv1 (And.intro hc1 hn1))
      have Hll := Lib.hid (And.intro hll hrow)
      clear hn1' hv1 hc1 hn1 hll hrow hxj hjl hm
      go_wp2_with fail
      refine Hn1.out.mono ?_
      rintro e w2 ⟨rfl, hst2⟩
      have hst3 := WrStep.ahead ((Below.refl _ _).alloc (Nat.le_refl _) _) Hs1.out.1 hst2
      obtain ⟨v2, hv2, hc2, hn2⟩ := hst3
      have hcc : Chg (WrS k v) w w2 := Hs1.out.2.1.trans hc2 fun i hi hs => by
        rcases hs with hs | hs
        · exact .inl hs
        · rcases Hs1.out.2.2 i hs with h | h
          · exact .inr h
          · omega
      have Hr := Lib.hid (wraw_calls hv2 (Hxs.out w2 hcc) (by
        rw [List.length_append]
        have h1 := Hll.out.1
        have h2 := Hll.out.2
        omega))
      have Hs2 := Lib.hid (And.intro hv2 (And.intro hc2 hn2))
      clear hst2 hv2 hc2 hn2 Hn1 hcc
      go_wp2_with fail
      refine Hr.out.mono ?_
      rintro e w3 ⟨rfl, hst4⟩
      have HE := Lib.hid (show WrStep w k v (l ++ rowsB (rows.take (j + 1))) w3 from by
        have h1 := WrStep.go Hs2.out.1 Hs2.out.2.1 Hs2.out.2.2 Hs1.out.1.klt hst4
        have h2 := WrStep.go Hs1.out.1 Hs1.out.2.1 Hs1.out.2.2 Hk.out h1
        rw [Htk.out]
        rwa [List.append_assoc, List.append_assoc] at h2)
      clear hst4 Hr
      go_wp2_with fail
      go_roundw
      case rel => exact ⟨j + 1, by omega, by go_num, HE.out⟩
      case measure => simp [intOf]; omega
    · obtain rfl : j = n := by omega
      rw [← Hn.out, List.take_length] at hst
      have HE := Lib.hid hst
      clear hst
      go_wp2_with fail
      go_end0
      exact ⟨rfl, HE.out⟩
end Go.Proofs.YtogdfkilhpkloaaGreatDoor

namespace Go.Proofs.YtogdfkilhpkloaaGreatDoor
open Go.RowKit Go.Sat Go.Maps

/-- A Writer that is new since B. -/
def WrB (B : Nat) (w : World) (k : Nat) (l : Bs) : Prop := ∃ v, WrIn w k v l ∧ B ≤ k ∧ (∀ j, v.ownBlock = some j → B ≤ j) ∧ B ≤ w.heap.size
/-- What a thing done with it leaves. -/
def WrNext (B : Nat) (w : World) (k : Nat) (l : Bs) (e : Ending) (w' : World) : Prop := e = .returned (.tuple #[]) ∧ WrB B w' k l ∧ Below B w w'

section
variable {B : Nat} {w w1 : World} {k : Nat} {l : Bs}

theorem WrB.keep (h : WrB B w k l) (hb : Below w.heap.size w w1) : WrB B w1 k l := let ⟨v, h1, h2, h3, h4⟩ := h; ⟨v, h1.keep hb, h2, h3, Nat.le_trans h4 hb.size⟩
theorem wrB_new (w : World) : WrB w.heap.size (w.alloc (.cells #[.slice none 0 0] 160)) w.heap.size [] :=
  ⟨.slice none 0 0, ⟨new_block w _, OwnR.nil _ _ _, fun h => (by cases h)⟩, Nat.le_refl _, fun j hj => (by cases hj), by simp⟩

theorem wrB_told {w0 : World} {v : Value} {e : Ending} {w' : World} {l' : Bs} (hb : Below w.heap.size w w0) (h2 : B ≤ k) (h3 : ∀ j, v.ownBlock = some j → B ≤ j) (h4 : B ≤ w.heap.size) (hT : WrTold w0 k v l' e w') : WrNext B w k l' e w' := by
  obtain ⟨rfl, v', hv', hc, hn⟩ := hT
  have hs := hb.size
  refine ⟨rfl, ⟨v', hv', h2, fun j hj => ?_, by have := hc.size; omega⟩, ?_⟩
  · rcases hn j hj with h | h
    · exact h3 j h
    · omega
  · refine (((Chg.of_below hb).mono fun _ _ h => h.elim).trans hc fun _ _ hs => hs : Chg (WrS k v) w w').below h4 fun i hi hs => ?_
    rcases hs with rfl | hs
    · omega
    · have := h3 i hs
      omega

theorem HasI.lit {w : World} (zs : List Int) (cs : Array Value) (h : cs.toList = zs.map (Value.int .i64)) (e : TypeId) (fr : Nat × Nat) (g n c : Nat) (hg : g = w.heap.size) (hn : n = zs.length) : HasI (w.alloc (.cells cs e fr)) (.slice (some ⟨g, 0, none⟩) n c) zs := by
  subst hg
  subst hn
  refine ⟨by simp, some ⟨w.heap.size, 0, none⟩, c, rfl, fun e => (by cases e), fun a ha i u hu => ?_⟩
  cases ha
  rw [add_zero]
  refine cell_of (new_block w _) ?_
  rw [← h] at hu
  simpa using hu

/-- Nums of numbers that were laid a moment ago. -/
theorem wrB_nums (h : WrB B w k l) (zs : List Int) (cs : Array Value) (hcs : cs.toList = zs.map (Value.int .i64)) (hz : ∀ z ∈ zs, -9223372036854775808 ≤ z ∧ z ≤ 9223372036854775807) (hl : l.length + 9 * zs.length ≤ 140737488355000) (g n c : Nat) (hg : g = w.heap.size) (hn : n = zs.length) (fr : Nat × Nat) :
    Calls Tryz.prog 95 #[.pointer (some ⟨k, 0, none⟩), .slice (some ⟨g, 0, none⟩) n c] (w.alloc (.cells cs 3 fr)) (WrNext B w k (l ++ numsI zs)) := by
  obtain ⟨v, h1, h2, h3, h4⟩ := h
  have hb := box_below w (.cells cs 3 fr)
  have hk := h1.klt
  refine (wnums_calls (h1.keep hb) (zs := zs) (fun W hc => Holds.chg (HasI.lit zs cs hcs _ _ g n c hg hn) hc fun x hx hs => ?_) hz hl).mono fun e w' hT => wrB_told hb h2 h3 h4 hT
  have hx' : x = g := by cases hx; rfl
  rcases hs with e | e
  · omega
  · have := OwnR.lt h1.row e
    omega

theorem wrB_out (h : WrB B w k l) (hl : l.length ≤ 140737488355328) :
    Calls Tryz.prog 99 #[.pointer (some ⟨k, 0, none⟩)] w fun e w' => ∃ v, e = .returned v ∧ OwnB w' 5 v l ∧ (∀ j, v.ownBlock = some j → B ≤ j) ∧ Below B w w' := by
  obtain ⟨v, h1, h2, h3, h4⟩ := h
  refine (wout_calls h1 hl).mono ?_
  rintro e w' ⟨u, rfl, hu, hn, hb⟩
  exact ⟨u, rfl, hu, fun x hx => Nat.le_trans h4 (hn x hx), hb.mono h4⟩


end
end Go.Proofs.YtogdfkilhpkloaaGreatDoor

namespace Go.Proofs.YtogdfkilhpkloaaGreatDoor
open Go.RowKit Go.Sat Go.Maps

/-- Nothing. -/
def E0 : EcoR := ⟨[], [], [], []⟩
theorem EconIn.bel {w w' : World} {eb vm sm tm am : Nat} {E : EcoR} {own : Nat → Option (Nat × Bs)} (h : EconIn w eb vm sm tm am E own) (hb : Below w.heap.size w w') : EconIn w' eb vm sm tm am E own := h.keep (fun k hk => hb.block k (h.oLt k hk)) hb.size
theorem vk_calls (w : World) (pm : Nat) :
    Calls Tryz.prog 159 #[.map (some pm)] w fun e w' => e = .returned (.func (.func 222) #[] #[.pointer (some ⟨w.heap.size, 0, none⟩)]) ∧ w' = w.alloc (.cells #[.map (some pm)] 179) :=
  (callsIn_wide (n := 5)).1 (Tryz.maps_Keys_159 (some pm) w)
theorem vs_none {w : World} {vm : Nat} (h : VsIs w vm []) :
    Calls Tryz.prog 158 #[.func (.func 222) #[] #[.pointer (some ⟨w.heap.size, 0, none⟩)]] (w.alloc (.cells #[.map (some vm)] 179)) (NilR w) := by
  obtain ⟨es, h1, h2, h3⟩ := mapIs_strKeys _ h
  refine ((callsIn_wide (n := 5)).1 (Tryz.slices_Sorted_keys_158_159 vm 0 (.map es) ptrE.R w h1 (by rw [h3]; exact Nat.zero_le _) (by rw [h3]; decide))).mono ?_
  rintro e w' ⟨v, ss, rfl, hp, hr, hn, hb⟩
  have hs : ss = [] := by
    have := (hp.trans h2).length_eq
    exact List.eq_nil_of_length_eq_zero this
  exact ⟨by rw [hn.2 hs], (box_below w _).trans (hb.mono (by simp))⟩
section
variable {w : World} {eb vm sm tm am : Nat} {own : Nat → Option (Nat × Bs)}
set_option maxRecDepth 100000 in
set_option maxHeartbeats 4000000 in
theorem keys0_calls (h : EconIn w eb vm sm tm am E0 own) : Calls Tryz.prog 89 #[.pointer (some ⟨eb, 0, none⟩)] w (NilR w) := by
  have c0 : w.cell? ⟨eb, 0, none⟩ = some (.map (some vm)) := cell_of h.cells rfl
  have HK := Lib.hid (vk_calls w vm)
  have HS := Lib.hid (vs_none (w := w) (vm := vm) h.vaults)
  clear h
  go_enter Tryz.func89, Tryz.ntmps89
  go_wp2_with fail
  refine HK.out.mono ?_
  rintro e w' ⟨rfl, rfl⟩
  go_wp2_with fail
  refine HS.out.mono ?_
  rintro e w2 ⟨rfl, hb⟩
  have HB := Lib.hid hb
  clear hb
  go_wp2_with fail
  go_ret
  exact ⟨rfl, HB.out⟩
set_option maxRecDepth 100000 in
set_option maxHeartbeats 4000000 in
theorem transits0_calls (h : EconIn w eb vm sm tm am E0 own) : Calls Tryz.prog 133 #[.pointer (some ⟨eb, 0, none⟩)] w (NilR w) := by
  have c2 : w.cell? ⟨eb, 2, none⟩ = some (.map (some tm)) := cell_of h.cells rfl
  have HK := Lib.hid (keysT_calls w (some tm))
  have HS := Lib.hid (sortedT_none (w := w) h.trans)
  clear h
  go_enter Tryz.func133, Tryz.ntmps133
  go_wp2_with fail
  refine HK.out.mono ?_
  rintro e w' ⟨rfl, rfl⟩
  go_wp2_with fail
  refine HS.out.mono ?_
  rintro e w2 ⟨rfl, hb⟩
  have HB := Lib.hid hb
  clear hb
  go_wp2_with fail
  refine wp_loop_rounds 1 ?_
  rw [rounds_succ]
  go_wp2_with fail
  go_ret
  exact ⟨rfl, HB.out⟩
/-- What Encode leaves: a new row of bytes. -/
def NewR (w : World) (l : Bs) (e : Ending) (w' : World) : Prop := ∃ v, e = .returned v ∧ OwnB w' 5 v l ∧ (∀ j, v.ownBlock = some j → w.heap.size ≤ j) ∧ Below w.heap.size w w'
end
end Go.Proofs.YtogdfkilhpkloaaGreatDoor

namespace Go.Proofs.YtogdfkilhpkloaaGreatDoor
open Go.RowKit Go.Sat Go.Maps
theorem nums0 : numsI [0] = [0] := by
  unfold numsI
  rw [List.map_cons, List.map_nil, List.flatten_cons, List.flatten_nil, show ((0 : Int)) = ((0 : Nat) : Int) from rfl, numI_nat (by decide), numB_small (by decide)]
  rfl
section
variable {w : World} {eb vm sm tm am : Nat} {own : Nat → Option (Nat × Bs)}
set_option maxRecDepth 100000 in
set_option maxHeartbeats 8000000 in
theorem encode0_calls (h : EconIn w eb vm sm tm am E0 own) : Calls Tryz.prog 64 #[.pointer (some ⟨eb, 0, none⟩)] w (NewR w [0, 0, 0, 0]) := by
  have HB0 := Lib.hid (box_below w (.cells #[.slice none 0 0] 160))
  have H0 := Lib.hid (h.bel HB0.out)
  have c0 : (w.alloc (.cells #[.slice none 0 0] 160)).cell? ⟨eb, 0, none⟩ = some (.map (some vm)) := cell_of H0.out.cells rfl
  have l0 : ∀ ty, (Builtin.len_ #[179] ty #[.map (some vm)]).run Tryz.prog (w.alloc (.cells #[.slice none 0 0] 160)) = .ok (.int .i64 0) (w.alloc (.cells #[.slice none 0 0] 160)) := fun ty => MapIs.len H0.out.vaults Tryz.underlying179 ty
  obtain ⟨W0, hW0⟩ : ∃ W0, W0 = w.alloc (.cells #[.slice none 0 0] 160) := ⟨_, rfl⟩
  have HW0 := Lib.hid (show WrB w.heap.size W0 w.heap.size [] from hW0 ▸ wrB_new w)
  have HX0 := Lib.hid (show EconIn W0 eb vm sm tm am E0 own ∧ Below w.heap.size w W0 from ⟨hW0 ▸ H0.out, hW0 ▸ HB0.out⟩)
  have Hs0 := Lib.hid (show w.heap.size + 1 = W0.heap.size by rw [hW0]; simp)
  have HE := Lib.hid hW0
  have H := Lib.hid h
  clear h hW0 H0 HB0
  go_enter Tryz.func64, Tryz.ntmps64
  go_wp2_with fail
  rw [← HE.out]
  clear HE c0 l0
  refine (wrB_nums HW0.out [0] #[.int .i64 0] rfl (by simp) (by decide) (w.heap.size + 1) 1 1 Hs0.out rfl (0, 0)).mono ?_
  rintro e W1 ⟨rfl, hw, hb⟩
  rw [nums0] at hw
  have HW1 := Lib.hid (show WrB w.heap.size W1 w.heap.size [0] from hw)
  have HX1 := Lib.hid (And.intro (H.out.bel (HX0.out.2.trans hb)) (HX0.out.2.trans hb))
  clear hw hb
  have HK := Lib.hid (keys0_calls HX1.out.1)
  go_wp2_with fail
  refine HK.out.mono ?_
  rintro e W2 ⟨rfl, hb⟩
  have HW2 := Lib.hid (HW1.out.keep hb)
  have HX2 := Lib.hid (And.intro (HX1.out.1.bel hb) (HX1.out.2.trans (hb.mono HX1.out.2.size)))
  clear hb HK HW0 HW1 HX0 HX1
  have c0 : W2.cell? ⟨eb, 1, none⟩ = some (.map (some sm)) := cell_of HX2.out.1.cells rfl
  have l0 : ∀ ty, (Builtin.len_ #[180] ty #[.map (some sm)]).run Tryz.prog W2 = .ok (.int .i64 0) W2 := fun ty => MapIs.len HX2.out.1.sess Tryz.underlying180 ty
  go_wp2_with fail
  refine wp_loop_rounds 1 ?_
  rw [rounds_succ]
  go_wp2_with fail
  clear c0 l0
  refine (wrB_nums HW2.out [0] #[.int .i64 0] rfl (by simp) (by decide) W2.heap.size 1 1 rfl rfl (0, 0)).mono ?_
  rintro e W3 ⟨rfl, hw, hb⟩
  rw [nums0] at hw
  have HW3 := Lib.hid (show WrB w.heap.size W3 w.heap.size [0, 0] from hw)
  have HX3 := Lib.hid (And.intro (H.out.bel (HX2.out.2.trans hb)) (HX2.out.2.trans hb))
  clear hw hb
  have HK := Lib.hid (keysS_calls W3 (some sm))
  have HS := Lib.hid (sortedS_none HX3.out.1.sess)
  have c0 : W3.cell? ⟨eb, 1, none⟩ = some (.map (some sm)) := cell_of HX3.out.1.cells rfl
  go_wp2_with fail
  refine HK.out.mono ?_
  rintro e w' ⟨rfl, rfl⟩
  go_wp2_with fail
  refine HS.out.mono ?_
  rintro e W4 ⟨rfl, hb⟩
  clear c0 HS
  have HW4 := Lib.hid (HW3.out.keep hb)
  have HX4 := Lib.hid (And.intro (HX3.out.1.bel hb) (HX3.out.2.trans (hb.mono HX3.out.2.size)))
  clear hb HK HW2 HW3 HX2 HX3
  have c0 : W4.cell? ⟨eb, 2, none⟩ = some (.map (some tm)) := cell_of HX4.out.1.cells rfl
  have l0 : ∀ ty, (Builtin.len_ #[181] ty #[.map (some tm)]).run Tryz.prog W4 = .ok (.int .i64 0) W4 := fun ty => MapIs.len HX4.out.1.trans Tryz.underlying181 ty
  go_wp2_with fail
  refine wp_loop_rounds 1 ?_
  rw [rounds_succ]
  go_wp2_with fail
  clear c0 l0
  refine (wrB_nums HW4.out [0] #[.int .i64 0] rfl (by simp) (by decide) W4.heap.size 1 1 rfl rfl (0, 0)).mono ?_
  rintro e W5 ⟨rfl, hw, hb⟩
  rw [nums0] at hw
  have HW5 := Lib.hid (show WrB w.heap.size W5 w.heap.size [0, 0, 0] from hw)
  have HX5 := Lib.hid (And.intro (H.out.bel (HX4.out.2.trans hb)) (HX4.out.2.trans hb))
  clear hw hb
  have HK := Lib.hid (transits0_calls HX5.out.1)
  go_wp2_with fail
  refine HK.out.mono ?_
  rintro e W6 ⟨rfl, hb⟩
  have HW6 := Lib.hid (HW5.out.keep hb)
  have HX6 := Lib.hid (And.intro (HX5.out.1.bel hb) (HX5.out.2.trans (hb.mono HX5.out.2.size)))
  clear hb HK HW4 HW5 HX4 HX5
  have c0 : W6.cell? ⟨eb, 3, none⟩ = some (.map (some am)) := cell_of HX6.out.1.cells rfl
  have l0 : ∀ ty, (Builtin.len_ #[182] ty #[.map (some am)]).run Tryz.prog W6 = .ok (.int .i64 0) W6 := fun ty => MapIs.len HX6.out.1.arr Tryz.underlying182 ty
  go_wp2_with fail
  refine wp_loop_rounds 1 ?_
  rw [rounds_succ]
  go_wp2_with fail
  clear c0 l0
  refine (wrB_nums HW6.out [0] #[.int .i64 0] rfl (by simp) (by decide) W6.heap.size 1 1 rfl rfl (0, 0)).mono ?_
  rintro e W7 ⟨rfl, hw, hb⟩
  rw [nums0] at hw
  have HW7 := Lib.hid (show WrB w.heap.size W7 w.heap.size [0, 0, 0, 0] from hw)
  have HX7 := Lib.hid (And.intro (H.out.bel (HX6.out.2.trans hb)) (HX6.out.2.trans hb))
  clear hw hb
  have HK := Lib.hid (keysA_calls W7 (some am))
  have HS := Lib.hid (sortedA_none HX7.out.1.arr)
  have c0 : W7.cell? ⟨eb, 3, none⟩ = some (.map (some am)) := cell_of HX7.out.1.cells rfl
  go_wp2_with fail
  refine HK.out.mono ?_
  rintro e w' ⟨rfl, rfl⟩
  go_wp2_with fail
  refine HS.out.mono ?_
  rintro e W8 ⟨rfl, hb⟩
  clear c0 HS
  have HW8 := Lib.hid (HW7.out.keep hb)
  have HX8 := Lib.hid (And.intro (HX7.out.1.bel hb) (HX7.out.2.trans (hb.mono HX7.out.2.size)))
  clear hb HK HW6 HW7 HX6 HX7
  go_wp2_with fail
  refine wp_loop_rounds 1 ?_
  rw [rounds_succ]
  go_wp2_with fail
  refine (wrB_out HW8.out (by decide)).mono ?_
  rintro e w9 ⟨v, rfl, hv, hn, hb⟩
  have HE := Lib.hid (And.intro hv (And.intro hn (HX8.out.2.trans hb)))
  clear hv hn hb
  go_wp2_with fail
  go_ret
  exact ⟨v, rfl, HE.out.1, HE.out.2.1, HE.out.2.2⟩
end
end Go.Proofs.YtogdfkilhpkloaaGreatDoor

namespace Go.Proofs.YtogdfkilhpkloaaGreatDoor
open Go.RowKit Go.Sat Go.Maps

/-- An economy of nothing that is new since B. -/
def NewE (B : Nat) (w : World) (eb : Nat) : Prop := ∃ vm sm tm am own, EconIn w eb vm sm tm am E0 own ∧ ∀ k, own k ≠ none → B ≤ k
theorem NewE.bel {B : Nat} {w w' : World} {eb : Nat} (h : NewE B w eb) (hb : Below w.heap.size w w') : NewE B w' eb := let ⟨vm, sm, tm, am, own, h1, h2⟩ := h; ⟨vm, sm, tm, am, own, h1.bel hb, h2⟩
theorem NewE.less {B C : Nat} {w : World} {eb : Nat} (h : NewE B w eb) (hb : C ≤ B) : NewE C w eb := let ⟨vm, sm, tm, am, own, h1, h2⟩ := h; ⟨vm, sm, tm, am, own, h1, fun k hk => Nat.le_trans hb (h2 k hk)⟩
def EconN (w : World) : World := ((((w.alloc (.map #[] 0)).alloc (.map #[] 0)).alloc (.map #[] 0)).alloc (.map #[] 0)).alloc (.cells #[.map (some w.heap.size), .map (some (w.heap.size + 1)), .map (some (w.heap.size + 2)), .map (some (w.heap.size + 3))] 184)
theorem econN_new (w : World) : NewE w.heap.size (EconN w) (w.heap.size + 4) ∧ Below w.heap.size w (EconN w) := by
  obtain ⟨w1, h1⟩ : ∃ w1, w1 = w.alloc (.map #[] 0) := ⟨_, rfl⟩
  obtain ⟨w2, h2⟩ : ∃ w2, w2 = w1.alloc (.map #[] 0) := ⟨_, rfl⟩
  obtain ⟨w3, h3⟩ : ∃ w3, w3 = w2.alloc (.map #[] 0) := ⟨_, rfl⟩
  obtain ⟨w4, h4⟩ : ∃ w4, w4 = w3.alloc (.map #[] 0) := ⟨_, rfl⟩
  have e : EconN w = w4.alloc (.cells #[.map (some w.heap.size), .map (some (w.heap.size + 1)), .map (some (w.heap.size + 2)), .map (some (w.heap.size + 3))] 184) := by rw [h4, h3, h2, h1]; rfl
  have s1 : w1.heap.size = w.heap.size + 1 := by rw [h1]; simp
  have s2 : w2.heap.size = w.heap.size + 2 := by rw [h2]; simp [s1]
  have s3 : w3.heap.size = w.heap.size + 3 := by rw [h3]; simp [s2]
  have s4 : w4.heap.size = w.heap.size + 4 := by rw [h4]; simp [s3]
  obtain ⟨w5, h5⟩ : ∃ w5, w5 = EconN w := ⟨_, rfl⟩
  have s5 : w5.heap.size = w.heap.size + 5 := by rw [h5, e]; simp [s4]
  have b1 : Below w.heap.size w w1 := h1 ▸ box_below w _
  have b2 : Below w1.heap.size w1 w2 := h2 ▸ box_below w1 _
  have b3 : Below w2.heap.size w2 w3 := h3 ▸ box_below w2 _
  have b4 : Below w3.heap.size w3 w4 := h4 ▸ box_below w3 _
  have b5 : Below w4.heap.size w4 w5 := by rw [h5, e]; exact box_below w4 _
  have b35 := b4.trans (b5.mono b4.size)
  have b25 := b3.trans (b35.mono b3.size)
  have b15 := b2.trans (b25.mono b2.size)
  have b05 := b1.trans (b15.mono b1.size)
  have hc : w5.heap[w.heap.size + 4]? = some (EconO w.heap.size (w.heap.size + 1) (w.heap.size + 2) (w.heap.size + 3)) := by
    rw [h5, e, ← s4]
    exact new_block w4 _
  rw [← h5]
  have m1 : MapIs w1 Tryz.prog 9 (strK Tryz.underlying9) ptrE w.heap.size ([] : List (Bs × Nat)) := h1 ▸ mapIs_made w
  have m2 : MapIs w2 Tryz.prog 3 (intK Tryz.underlying3) sessE w1.heap.size ([] : List (Int × Sess)) := h2 ▸ mapIs_made w1
  have m3 : MapIs w3 Tryz.prog 191 whichK transE w2.heap.size ([] : List ((Int × Int) × TransM)) := h3 ▸ mapIs_made w2
  have m4 : MapIs w4 Tryz.prog 191 whichK boolE w3.heap.size ([] : List ((Int × Int) × Bool)) := h4 ▸ mapIs_made w3
  have m1 := m1.keep (b15.block _ (by omega))
  have m2 := m2.keep (b25.block _ (by omega))
  have m3 := m3.keep (b35.block _ (by omega))
  have m4 := m4.keep (b5.block _ (by omega))
  rw [s1] at m2
  rw [s2] at m3
  rw [s3] at m4
  refine ⟨⟨w.heap.size, w.heap.size + 1, w.heap.size + 2, w.heap.size + 3, fun k => if k = w.heap.size + 4 then some (0, []) else if k = w.heap.size then some (1, []) else if k = w.heap.size + 1 then some (2, []) else if k = w.heap.size + 2 then some (3, []) else if k = w.heap.size + 3 then some (4, []) else none, ⟨hc, m1, fun p hp => (by cases hp), m2, m3, m4, if_pos rfl, ?_, ?_, ?_, ?_, fun p hp => (by cases hp), fun k hk => ?_⟩, fun k hk => ?_⟩, b05⟩
  · rw [if_neg (by omega), if_pos rfl]
  · rw [if_neg (by omega), if_neg (by omega), if_pos rfl]
  · rw [if_neg (by omega), if_neg (by omega), if_neg (by omega), if_pos rfl]
  · rw [if_neg (by omega), if_neg (by omega), if_neg (by omega), if_neg (by omega), if_pos rfl]
  · refine Classical.byContradiction fun hh => hk ?_
    rw [if_neg (by omega), if_neg (by omega), if_neg (by omega), if_neg (by omega), if_neg (by omega)]
  · refine Classical.byContradiction fun hh => hk ?_
    show (if _ then _ else _) = _
    rw [if_neg (by omega), if_neg (by omega), if_neg (by omega), if_neg (by omega), if_neg (by omega)]
def EReadO (r eb : Nat) : Obj := .cells #[.pointer (some ⟨r, 0, none⟩), .pointer (some ⟨eb, 0, none⟩), .bool true] 147 (0, 0)
set_option maxRecDepth 100000 in
set_option maxHeartbeats 4000000 in
theorem times0_calls {w : World} {xb r eb : Nat} {R : Rd} (hx : w.heap[xb]? = some (EReadO r eb)) (hr : RdAt w r R) (h0 : R.num.1 = 0) (fv : Value) :
    Calls Tryz.prog 85 #[.pointer (some ⟨xb, 0, none⟩), fv] w fun e w' => e = .returned (.tuple #[]) ∧ RdAt w' r R.num.2 ∧ Chg (fun k => k = r) w w' := by
  have c0 : w.cell? ⟨xb, 0, none⟩ = some (.pointer (some ⟨r, 0, none⟩)) := cell_of hx rfl
  obtain ⟨p, n, c, h⟩ := hr
  have HN := Lib.hid (num_calls h)
  unfold NumDone at HN
  rw [show ((R.num.1 : Nat) : Int) = 0 by rw [h0]; rfl] at HN
  clear h hx
  go_enter Tryz.func85, Tryz.ntmps85
  go_wp2_with fail
  refine HN.out.mono ?_
  rintro e w2 ⟨rfl, hr2, hc⟩
  have HR := Lib.hid (And.intro hr2 hc)
  clear hr2 hc
  go_wp2_with fail
  refine wp_loop_rounds 1 ?_
  rw [rounds_succ]
  go_wp2_with fail
  go_end0
  exact ⟨rfl, HR.out⟩
end Go.Proofs.YtogdfkilhpkloaaGreatDoor

namespace Go.Proofs.YtogdfkilhpkloaaGreatDoor
open Go.RowKit Go.Sat Go.Maps

def DecE (w : World) (e : Ending) (w' : World) : Prop := ∃ eb, e = .returned (.tuple #[.pointer (some ⟨eb, 0, none⟩), .int .i64 0]) ∧ NewE w.heap.size w' eb ∧ Below w.heap.size w w'
theorem num0 (l : Bs) (b : Bool) : Rd.num ⟨0 :: l, b⟩ = (0, ⟨l, b⟩) := by
  have h := Rd.num_of (n := 0) (by decide) l b
  rw [numB_small (by decide)] at h
  exact h
theorem NewE.chg {B : Nat} {w w' : World} {eb : Nat} {S : Nat → Prop} (h : NewE B w eb) (hc : Chg S w w') (hS : ∀ k, B ≤ k → ¬ S k) : NewE B w' eb := by
  obtain ⟨vm, sm, tm, am, own, hE, ho⟩ := h
  exact ⟨vm, sm, tm, am, own, hE.keep (fun k hk => hc.block k (hE.oLt k hk) (hS k (ho k hk))) hc.size, ho⟩
/-- The reader's two blocks, and the Reader. -/
structure Dec4 (w : World) (B xb g r eb : Nat) (fo : Obj) (l : Bs) (W : World) : Prop where
  x : W.heap[xb]? = some (EReadO r eb)
  fn : W.heap[g]? = some fo
  rd : RdAt W r ⟨l, false⟩
  eco : NewE B W eb
  bel : Below w.heap.size w W
  le1 : w.heap.size ≤ r
  le2 : r < B
  le3 : B ≤ xb
  le4 : B ≤ g
theorem Dec4.next {w : World} {B xb g r eb : Nat} {fo : Obj} {l l' : Bs} {W W' : World} (h : Dec4 w B xb g r eb fo l W) (hr : RdAt W' r ⟨l', false⟩) (hc : Chg (fun k => k = r) W W') : Dec4 w B xb g r eb fo l' W' := by
  have h1 := h.le1
  have h2 := h.le2
  have h3 := h.le3
  have h4 := h.le4
  exact ⟨(hc.block xb (lt_of_block h.x) (by omega)).trans h.x, (hc.block g (lt_of_block h.fn) (by omega)).trans h.fn, hr, h.eco.chg hc (fun k hk e => by omega), h.bel.trans (hc.below h.bel.size fun k _ e => by omega), h1, h2, h3, h4⟩
set_option maxRecDepth 100000 in
set_option maxHeartbeats 8000000 in
theorem decode0_calls {w : World} {x : Value} (hx : HasB w x [0, 0, 0, 0]) : Calls Tryz.prog 41 #[x] w (DecE w) := by
  have Hr := Lib.hid (newrd_calls hx (by decide))
  obtain ⟨p, c, rfl⟩ := hx.slice
  have Hx := Lib.hid hx
  clear hx
  rw [show ([0, 0, 0, 0] : Bs).length = 4 from rfl] at Hr Hx ⊢
  have Hn := Lib.hid (fun W => econew_calls W)
  go_enter Tryz.func41, Tryz.ntmps41
  go_wp2_with fail
  refine Hr.out.mono ?_
  rintro e w1 ⟨r, rfl, hr, hrn, hb1⟩
  have HR1 := Lib.hid (And.intro hr (And.intro hrn hb1))
  clear hr hrn hb1 Hr
  go_wp2_with fail
  refine (Hn.out _).mono ?_
  rintro e w2 ⟨rfl, hw2⟩
  have hE := econN_new w1
  rw [show EconN w1 = w2 from hw2.symm] at hE
  have HE2 := Lib.hid hE
  clear hw2 hE Hn
  obtain ⟨eb, heb⟩ : ∃ eb, eb = w1.heap.size + 4 := ⟨_, rfl⟩
  rw [← heb] at HE2 ⊢
  clear heb
  go_wp2_with fail
  obtain ⟨V0, hV0⟩ : ∃ V0, V0 = (w2.alloc (.cells #[.pointer (some ⟨r, 0, none⟩), .pointer (some ⟨eb, 0, none⟩), .bool true] 147)).alloc (.cells #[.func (.func 81) #[.pointer (some ⟨w2.heap.size, 0, none⟩)] #[], .func (.func 82) #[.pointer (some ⟨w2.heap.size, 0, none⟩)] #[], .func (.func 83) #[.pointer (some ⟨w2.heap.size, 0, none⟩)] #[], .func (.func 84) #[.pointer (some ⟨w2.heap.size, 0, none⟩)] #[]] 1) := ⟨_, rfl⟩
  have hb2 := (box_below w2 (.cells #[.pointer (some ⟨r, 0, none⟩), .pointer (some ⟨eb, 0, none⟩), .bool true] 147)).trans ((box_below (w2.alloc (.cells #[.pointer (some ⟨r, 0, none⟩), .pointer (some ⟨eb, 0, none⟩), .bool true] 147)) (.cells #[.func (.func 81) #[.pointer (some ⟨w2.heap.size, 0, none⟩)] #[], .func (.func 82) #[.pointer (some ⟨w2.heap.size, 0, none⟩)] #[], .func (.func 83) #[.pointer (some ⟨w2.heap.size, 0, none⟩)] #[], .func (.func 84) #[.pointer (some ⟨w2.heap.size, 0, none⟩)] #[]] 1)).mono (box_below w2 _).size)
  have HV0 := Lib.hid (show Dec4 w w1.heap.size w2.heap.size (w2.heap.size + 1) r eb (.cells #[.func (.func 81) #[.pointer (some ⟨w2.heap.size, 0, none⟩)] #[], .func (.func 82) #[.pointer (some ⟨w2.heap.size, 0, none⟩)] #[], .func (.func 83) #[.pointer (some ⟨w2.heap.size, 0, none⟩)] #[], .func (.func 84) #[.pointer (some ⟨w2.heap.size, 0, none⟩)] #[]] 1 (0, 0)) [0, 0, 0, 0] V0 from by
    rw [hV0]
    have hs := HE2.out.2.size
    have hs1 := HR1.out.2.2.size
    have hb12 := HE2.out.2.trans (hb2.mono hs)
    have hrl : r < w1.heap.size := by
      obtain ⟨p', n', c', hri⟩ := HR1.out.1
      exact hri.rlt
    exact ⟨old_block _ (new_block w2 _), new_block2 w2 _ _, by
      obtain ⟨p', n', c', hri⟩ := HR1.out.1
      exact ⟨p', n', c', (hb12.block r hrl).trans hri.cells, HasB.below hri.has hb12, hri.cap, hri.ne, hri.len⟩, HE2.out.1.bel hb2, HR1.out.2.2.trans (hb12.mono hs1), HR1.out.2.1, hrl, hs, by omega⟩)
  rw [← hV0]
  clear hV0 hb2 HR1 HE2
  refine wp_loop_rounds 5 ?_
  rw [rounds_succ]
  have g0 : V0.cell? ⟨w2.heap.size + 1, 0, none⟩ = some (.func (.func 81) #[.pointer (some ⟨w2.heap.size, 0, none⟩)] #[]) := cell_of HV0.out.fn rfl
  have HT := Lib.hid (fun fv => times0_calls HV0.out.x HV0.out.rd (by rw [num0]) fv)
  go_wp2_with fail
  refine (HT.out _).mono ?_
  rintro e V1 ⟨rfl, hr, hc⟩
  rw [num0] at hr
  have HV1 := Lib.hid (HV0.out.next hr hc)
  clear hr hc g0 HT HV0
  go_wp2_with fail
  rw [rounds_succ]
  have g0 : V1.cell? ⟨w2.heap.size + 1, 1, none⟩ = some (.func (.func 82) #[.pointer (some ⟨w2.heap.size, 0, none⟩)] #[]) := cell_of HV1.out.fn rfl
  have HT := Lib.hid (fun fv => times0_calls HV1.out.x HV1.out.rd (by rw [num0]) fv)
  go_wp2_with fail
  refine (HT.out _).mono ?_
  rintro e V2 ⟨rfl, hr, hc⟩
  rw [num0] at hr
  have HV2 := Lib.hid (HV1.out.next hr hc)
  clear hr hc g0 HT HV1
  go_wp2_with fail
  rw [rounds_succ]
  have g0 : V2.cell? ⟨w2.heap.size + 1, 2, none⟩ = some (.func (.func 83) #[.pointer (some ⟨w2.heap.size, 0, none⟩)] #[]) := cell_of HV2.out.fn rfl
  have HT := Lib.hid (fun fv => times0_calls HV2.out.x HV2.out.rd (by rw [num0]) fv)
  go_wp2_with fail
  refine (HT.out _).mono ?_
  rintro e V3 ⟨rfl, hr, hc⟩
  rw [num0] at hr
  have HV3 := Lib.hid (HV2.out.next hr hc)
  clear hr hc g0 HT HV2
  go_wp2_with fail
  rw [rounds_succ]
  have g0 : V3.cell? ⟨w2.heap.size + 1, 3, none⟩ = some (.func (.func 84) #[.pointer (some ⟨w2.heap.size, 0, none⟩)] #[]) := cell_of HV3.out.fn rfl
  have HT := Lib.hid (fun fv => times0_calls HV3.out.x HV3.out.rd (by rw [num0]) fv)
  go_wp2_with fail
  refine (HT.out _).mono ?_
  rintro e V4 ⟨rfl, hr, hc⟩
  rw [num0] at hr
  have HV4 := Lib.hid (HV3.out.next hr hc)
  clear hr hc g0 HT HV3
  go_wp2_with fail
  rw [rounds_succ]
  have x0 : V4.cell? ⟨w2.heap.size, 0, none⟩ = some (.pointer (some ⟨r, 0, none⟩)) := cell_of HV4.out.x rfl
  have x1 : V4.cell? ⟨w2.heap.size, 1, none⟩ = some (.pointer (some ⟨eb, 0, none⟩)) := cell_of HV4.out.x rfl
  have x2 : V4.cell? ⟨w2.heap.size, 2, none⟩ = some (.bool true) := cell_of HV4.out.x rfl
  have HWh := Lib.hid (whole_calls HV4.out.rd.hd)
  go_wp2_with fail
  refine HWh.out.mono ?_
  rintro e V5 ⟨he, rfl⟩
  rw [show (Rd.whole ⟨[], false⟩) = true from rfl] at he
  subst he
  have HEn := Lib.hid (show ∃ vm sm tm am own, EconIn V5 eb vm sm tm am E0 own ∧ ∀ k, own k ≠ none → w1.heap.size ≤ k from HV4.out.eco)
  obtain ⟨vm, sm, tm, am, own, hE, ho⟩ := HEn.out
  have HE := Lib.hid (encode0_calls hE)
  clear hE HWh HEn
  go_wp2_with fail
  refine HE.out.mono ?_
  rintro e V6 ⟨v, rfl, hv, hn, hb⟩
  have HQ := Lib.hid (equal_calls (OwnB.has hv) (HasB.below Hx.out (HV4.out.bel.trans (hb.mono HV4.out.bel.size))))
  have HV := Lib.hid hb
  have x1' : V6.cell? ⟨w2.heap.size, 1, none⟩ = some (.pointer (some ⟨eb, 0, none⟩)) := cell_of ((hb.block _ (lt_of_block HV4.out.x)).trans HV4.out.x) rfl
  clear hv hn hb HE
  go_wp2_with fail
  refine HQ.out.mono ?_
  rintro e V7 ⟨he, rfl⟩
  rw [show (([0, 0, 0, 0] : Bs) == [0, 0, 0, 0]) = true from rfl] at he
  subst he
  go_wp2_with fail
  go_ret2
  exact ⟨eb, rfl, (HV4.out.eco.bel HV.out).less (by have := HV4.out.le1; have := HV4.out.le2; omega), HV4.out.bel.trans (HV.out.mono HV4.out.bel.size)⟩
end Go.Proofs.YtogdfkilhpkloaaGreatDoor

namespace Go.Proofs.YtogdfkilhpkloaaGreatDoor
open Go.RowKit Go.Sat Go.Maps

structure HeadM where
  id : Int
  fr : ByteArray
  tu : ByteArray
  epoch : Int
  state : Int
def HeadM.v (h : HeadM) : Value := .agg #[.int .i64 h.id, .string h.fr, .string h.tu, .int .i64 h.epoch, .int .i64 h.state]
def HeadM.is (h : HeadM) : Bool := decide (1 ≤ h.id) && decide (h.id ≤ 1048576) && isSpan h.fr h.tu && decide (1 ≤ h.epoch) && decide (h.epoch ≤ 1099511627776) && decide (1 ≤ h.state) && decide (h.state ≤ 3)
def HeadM.wf (h : HeadM) : Prop := h.fr.size ≤ 9223372036854775807 ∧ h.tu.size ≤ 9223372036854775807
set_option maxRecDepth 100000 in
set_option maxHeartbeats 4000000 in
theorem ishead_calls (w : World) (h : HeadM) (hw : h.wf) : Calls Tryz.prog 40 #[.agg #[.int .i64 h.id, .string h.fr, .string h.tu, .int .i64 h.epoch, .int .i64 h.state]] w (RetB h.is w) := by
  obtain ⟨id, fr, tu, ep, st⟩ := h
  have HS := Lib.hid (fun W => spanis_calls W fr tu hw.1 hw.2)
  have HB := Lib.hid (box_below w (.cells #[.int .i64 id, .string fr, .string tu, .int .i64 ep, .int .i64 st] 35))
  have Hr : HeadM.is ⟨id, fr, tu, ep, st⟩ = (decide (1 ≤ id) && decide (id ≤ 1048576) && isSpan fr tu && decide (1 ≤ ep) && decide (ep ≤ 1099511627776) && decide (1 ≤ st) && decide (st ≤ 3)) := rfl
  rw [Hr]
  clear Hr hw
  dsimp only
  by_cases h1 : 1 ≤ id ∧ id ≤ 1048576
  · obtain ⟨h1, h2⟩ := h1
    go_enter Tryz.func40, Tryz.ntmps40
    go_wp2_with fail
    refine (HS.out _).mono ?_
    rintro e w2 ⟨rfl, hw2⟩
    have HB2 := Lib.hid (show Below w.heap.size w w2 from hw2 ▸ HB.out.trans ((box_below _ _).mono HB.out.size))
    have c2 : w2.cell? ⟨w.heap.size, 3, none⟩ = some (.int .i64 ep) := by rw [hw2]; exact cell_of (old_block _ (new_block w _)) rfl
    have c3 : w2.cell? ⟨w.heap.size, 4, none⟩ = some (.int .i64 st) := by rw [hw2]; exact cell_of (old_block _ (new_block w _)) rfl
    clear hw2
    cases hs : isSpan fr tu
    all_goals
      go_wp2_with fail
      all_goals
        go_ret
        refine ⟨?_, HB2.out⟩
        refine congrArg (fun b => Ending.returned (.bool b)) (?_ : _ = _)
        rw [Bool.eq_iff_iff]
        simp_all
        try omega
  · go_enter Tryz.func40, Tryz.ntmps40
    go_wp2_with fail
    all_goals
      go_ret
      refine ⟨?_, HB.out⟩
      congr 2
      simp_all
      try omega
/-- The prefix of a zone's files, of a small number. -/
theorem digits_len {n : Nat} (hn : n < 100) : (Lib.decDigits n).length ≤ 2 := by
  by_cases h : n < 10
  · rw [Lib.decDigits_one h]
    simp
  · rw [Lib.decDigits_two h hn]
    simp
theorem pre_cat (l : Bs) : (⟨#[122]⟩ : ByteArray) ++ ⟨l.toArray⟩ = ⟨(122 :: l).toArray⟩ := by
  apply ByteArray.ext
  simp
def zpre (n : Nat) : ByteArray := ⟨(122 :: Lib.decDigits n).toArray⟩
set_option maxHeartbeats 1000000 in
theorem prefix_calls2 (w : World) (n : Nat) (hn : n < 100) : Calls Tryz.prog 44 #[.int .i64 (n : Int)] w fun e w' => e = .returned (.string (zpre n)) ∧ w' = w := by
  have HI := Lib.hid (fun W => Tryz.strconv_Itoa_small n hn W)
  have HP := Lib.hid (pre_cat (Lib.decDigits n))
  have hl := digits_len hn
  go_enter Tryz.func44, Tryz.ntmps44
  go_wp2_with fail
  refine (HI.out _).mono ?_
  rintro e w2 ⟨rfl, rfl⟩
  go_wp2_with fail
  go_ret
  exact ⟨by rw [show zpre n = _ from HP.out.symm]; rfl, rfl⟩
set_option maxHeartbeats 1000000 in
theorem indexS_none (w : World) (fv : Value) : Calls Tryz.prog 157 #[.slice none 0 0, fv] w fun e w' => e = .returned (.int .i64 (-1)) ∧ w' = w := by
  go_enter Tryz.func157, Tryz.ntmps157
  go_wp2_with fail
  refine wp_loop_rounds 1 ?_
  rw [rounds_succ]
  go_wp2_with fail
  go_ret
  exact ⟨rfl, rfl⟩
set_option maxHeartbeats 1000000 in
theorem containsS_none (w : World) (fv : Value) : Calls Tryz.prog 88 #[.slice none 0 0, fv] w fun e w' => e = .returned (.bool false) ∧ w' = w := by
  have HI := Lib.hid (fun W => indexS_none W fv)
  go_enter Tryz.func88, Tryz.ntmps88
  go_wp2_with fail
  refine (HI.out _).mono ?_
  rintro e w2 ⟨rfl, rfl⟩
  go_wp2_with fail
  go_ret
  exact ⟨rfl, rfl⟩
set_option maxRecDepth 100000 in
set_option maxHeartbeats 2000000 in
theorem fits0_calls {w : World} {eb vm sm tm am : Nat} {own : Nat → Option (Nat × Bs)} (h : EconIn w eb vm sm tm am E0 own) (a b : ByteArray) : Calls Tryz.prog 42 #[.pointer (some ⟨eb, 0, none⟩), .agg #[.string a, .string b]] w (RetB true w) := by
  have HB := Lib.hid (box_below w (.cells #[.string a, .string b] 27))
  have HK := Lib.hid (keys0_calls (h.bel HB.out))
  have HC := Lib.hid (fun W fv => containsS_none W fv)
  clear h
  go_enter Tryz.func42, Tryz.ntmps42
  go_wp2_with fail
  refine HK.out.mono ?_
  rintro e w2 ⟨rfl, hb⟩
  have HB2 := Lib.hid (HB.out.trans (hb.mono HB.out.size))
  clear hb
  go_wp2_with fail
  refine (HC.out _ _).mono ?_
  rintro e w3 ⟨rfl, rfl⟩
  go_wp2_with fail
  go_ret
  exact ⟨rfl, HB2.out⟩
end Go.Proofs.YtogdfkilhpkloaaGreatDoor

namespace Go.Proofs.YtogdfkilhpkloaaGreatDoor
open Go.RowKit Go.Sat Go.Maps

theorem conv_row (w : World) (s : ByteArray) : ∃ c w', (convert 9 39 (.string s)).run Tryz.prog w = .ok (.slice (some ⟨w.heap.size, 0, none⟩) s.size c) w' ∧
    (∀ W, (∀ k, k = w.heap.size → W.heap[k]? = w'.heap[k]?) → HasB W (.slice (some ⟨w.heap.size, 0, none⟩) s.size c) s.data.toList) ∧ Below w.heap.size w w' ∧ w'.heap.size = w.heap.size + 1 := by
  refine ⟨_, _, Lib.run_convert_string_bytes w 9 39 5 s Tryz.underlying9 Tryz.underlying39 Tryz.underlying5, fun W hW => ?_, ?_, Lib.bytesWorld_size _ _ _⟩
  · have hl : s.data.toList.length = s.size := by simp
    have hlb : (bytesV s.data.toList).length = s.size := by simp [bytesV]
    refine ⟨by rw [hl, hlb]; simp, some ⟨w.heap.size, 0, none⟩, _, by rw [hl], fun e => (by cases e), fun a ha i u hu => ?_⟩
    cases ha
    rw [add_zero]
    have hi : i < s.size := by
      rw [← hlb]
      exact (List.getElem?_eq_some_iff.1 hu).1
    have h1 := Lib.bytesWorld_cell w 5 s i hi
    have h2 : W.cell? ⟨w.heap.size, i, none⟩ = (Lib.bytesWorld w 5 s).cell? ⟨w.heap.size, i, none⟩ := by
      unfold World.cell?
      simp only [hW _ rfl]
    rw [h2, h1]
    unfold bytesV at hu
    rw [List.getElem?_map, List.getElem?_eq_getElem (show i < s.data.toList.length by rw [hl]; exact hi)] at hu
    cases hu
    rw [show s.data.toList.getD i 0 = s.data.toList[i]'(by rw [hl]; exact hi) by rw [List.getD_eq_getElem?_getD, List.getElem?_eq_getElem (show i < s.data.toList.length by rw [hl]; exact hi)]; rfl]
  · have h1 := box_below w.drew (.cells (Lib.bytesCells w 5 s) 5)
    refine ⟨rfl, rfl, rfl, ?_, fun k hk => Lib.bytesWorld_at_old w _ s k hk⟩
    rw [Lib.bytesWorld_size]
    omega
/-- Bytes of rows that were laid since w0, when the Writer stood already. -/
theorem wrB_rows2 {B : Nat} {w0 w : World} {k : Nat} {l : Bs} (h : WrB B w0 k l) (hb0 : Below w0.heap.size w0 w) {rows : List (Value × Bs)} (cs : Array Value) (hcs : cs.toList = rows.map (·.1))
    (hx : ∀ W, (∀ i, w0.heap.size ≤ i → i < w.heap.size → W.heap[i]? = w.heap[i]?) → ∀ p ∈ rows, HasB W p.1 p.2)
    (hl : l.length + (rowsB rows).length ≤ 140737488354000) (g n c : Nat) (hg : g = w.heap.size) (hn : rows.length = n) (hn2 : n ≤ 1099511627776) (fr : Nat × Nat) :
    Calls Tryz.prog 96 #[.pointer (some ⟨k, 0, none⟩), .slice (some ⟨g, 0, none⟩) n c] (w.alloc (.cells cs 39 fr)) (WrNext B w k (l ++ rowsB rows)) := by
  have h' := h.keep hb0
  obtain ⟨v, h1, h2, h3, h4⟩ := h
  have hs0 := hb0.size
  have hb := box_below w (.cells cs 39 fr)
  have hk := h1.klt
  have hv : ∀ j, WrS k v j → j < w0.heap.size := fun j hj => by
    rcases hj with hj | hj
    · omega
    · exact OwnR.lt h1.row hj
  refine (wbytes_calls ((h1.keep hb0).keep hb) hn (fun W hc j p hp => ?_) hl hn2).mono fun e w' hT => wrB_told hb h2 h3 (Nat.le_trans h4 hs0) hT
  have hnb := new_block w (.cells cs 39 fr)
  rw [← hg] at hnb
  refine ⟨cell_of ((hc.block g (lt_of_block hnb) fun hs => by have := hv g hs; omega).trans hnb) ?_, hx W (fun i hi1 hi2 => ?_) p (List.mem_of_getElem? hp)⟩
  · have : cs.toList[j]? = some p.1 := by rw [hcs, List.getElem?_map, hp]; rfl
    simpa using this
  · exact (hc.block i (by simp; omega) fun hs => by have := hv i hs; omega).trans (hb.block i hi2)
end Go.Proofs.YtogdfkilhpkloaaGreatDoor

namespace Go.Proofs.YtogdfkilhpkloaaGreatDoor
open Go.RowKit Go.Sat Go.Maps

theorem decoded_bad {w w' : World} {b : Bs} {k : Nat} (he : decE b = k) (hk : k ≠ 0) (hb : Below w.heap.size w w') : Decoded w b (.returned (.tuple #[.slice none 0 0, .int .i64 0, .int .i64 (k : Int)])) w' := by
  refine ⟨.slice none 0 0, ?_, ?_, fun j hj => (by cases hj), hb⟩
  · rw [he]
    unfold decL
    rw [he, if_neg hk]
    rfl
  · unfold decB
    rw [he, if_neg hk]
    exact OwnR.nil _ _ _

set_option maxRecDepth 100000 in
set_option maxHeartbeats 4000000 in
theorem dec_calls {w : World} {p : Option Addr} {n c : Nat} {b : Bs} (h : HasB w (.slice p n c) b) (hnc : n ≤ c) (hl : b.length ≤ 140737488355328) :
    Calls Tryz.prog 226 #[.slice p n c] w (Decoded w b) := by
  have hn : n = b.length := (bytes_in h).1
  subst hn
  have H := Lib.hid h
  obtain ⟨i0, hi, hz0, hz1, hz2⟩ := info_parts (show (Tryz.prog.info? 5).map (fun i => (i.zero, i.size, i.bytes)) = some (some (.int .u8 0), 1, 1) by kernel_rfl)
  by_cases h8 : b.length < 8
  · have Hfin := Lib.hid (decoded_bad (w := w) (w' := w) (b := b) (k := 2) (by unfold decE; rw [if_pos h8]) (by decide) (Below.refl _ _))
    generalize hN : b.length = N at *
    clear hN h
    go_enter Tryz.func226, Tryz.ntmps226
    go_wp2_with fail
    go_ret3
    exact Hfin.out
  · have H4 := Lib.hid (fun (W : World) (hb : Below w.heap.size w W) => four_at (h.below hb) (by omega))
    have H8 := Lib.hid (fun (W : World) (hb : Below w.heap.size w W) => HasB.cut (h.below hb) (k := 8) (by omega) c)
    have Hhd := Lib.hid (fun w => head_calls (w := w) (fourAt b) (fourAt_lt b))
    have hsl : ∀ W, (Instr.slice 39 (.slice p b.length c) none (some (.int .i64 8)) none).run Tryz.prog W = .ok (.slice p 8 c) W := fun W => run_upto W Tryz.underlying39 hi p _ c 8 (by omega)
    by_cases hh : b.take 8 = headN (fourAt b)
    · have Hh := Lib.hid (show (b.take 8 == headN (fourAt b)) = true by rw [hh, beq_self_eq_true])
      by_cases hm : 1048576 < fourAt b
      · have Hfin := Lib.hid (fun W => decoded_bad (w := w) (w' := W) (b := b) (k := 5) (by unfold decE; rw [if_neg h8, if_neg (by simpa using hh), if_pos hm]) (by decide))
        generalize hM : fourAt b = m at *
        generalize hN : b.length = N at *
        clear hN hM h hh
        go_enter Tryz.func226, Tryz.ntmps226
        go_wp2_with fail
        refine (H4.out _ (Below.refl _ _)).mono ?_
        rintro e w1 ⟨rfl, q, rfl⟩
        go_wp2_with fail
        refine ord_start (fun _ : World => True) (n := 7) (by kernel_rfl) rfl trivial (fun hHeld => ?_)
        refine Pl [0,1,2] ?_
        iterate 3 (refine Pc rfl ?_;simp only [Act.put, uA, uB, uC])
        refine Pn ?_
        refine ord_one 3 rfl (by kernel_rfl) (by rfl) (fun K hK => ?_)
        go_wp2_with fail
        refine (Hhd.out _).mono ?_
        rintro e w2 ⟨v2, rfl, hv2, hb2⟩
        have B2 := Lib.hid (below_to (show Below w.heap.size w (w.drewN q).drew from ⟨rfl, rfl, rfl, Nat.le_refl _, fun _ _ => rfl⟩) hb2)
        have heq := equal_calls (H8.out _ B2.out) hv2
        rw [Hh.out] at heq
        have Heq := Lib.hid heq
        clear hv2 hb2 heq
        go_wp2_with fail
        refine hK.out _ _ (trivial) (fun hHeld => ?_)
        clear hK
        try simp only [Act.put, List.setIfInBounds_toArray, List.set_cons_zero, List.set_cons_succ]
        refine ord_one 4 rfl (by kernel_rfl) (by rfl) (fun K hK => ?_)
        go_wp2_with fail
        refine Heq.out.mono ?_
        rintro e w3 ⟨rfl, rfl⟩
        go_wp2_with fail
        refine hK.out _ _ (trivial) (fun hHeld => ?_)
        clear hK
        try simp only [Act.put, List.setIfInBounds_toArray, List.set_cons_zero, List.set_cons_succ]
        refine Pl [5,6] ?_
        iterate 2 (refine Pc rfl ?_;simp only [Act.put, uA, uB, uC])
        refine Pn ?_
        refine wpAnyH_done (by kernel_rfl) ?_ _
        go_wp2_with fail
        go_ret3
        exact Hfin.out _ B2.out
      · by_cases hd : b.length < fourAt b + 12
        · have Hfin := Lib.hid (fun W => decoded_bad (w := w) (w' := W) (b := b) (k := 2) (by unfold decE; rw [if_neg h8, if_neg (by simpa using hh), if_neg hm, if_pos hd]) (by decide))
          generalize hM : fourAt b = m at *
          generalize hN : b.length = N at *
          clear hN hM h hh
          go_enter Tryz.func226, Tryz.ntmps226
          go_wp2_with fail
          refine (H4.out _ (Below.refl _ _)).mono ?_
          rintro e w1 ⟨rfl, q, rfl⟩
          go_wp2_with fail
          refine ord_start (fun _ : World => True) (n := 7) (by kernel_rfl) rfl trivial (fun hHeld => ?_)
          refine Pl [0,1,2] ?_
          iterate 3 (refine Pc rfl ?_;simp only [Act.put, uA, uB, uC])
          refine Pn ?_
          refine ord_one 3 rfl (by kernel_rfl) (by rfl) (fun K hK => ?_)
          go_wp2_with fail
          refine (Hhd.out _).mono ?_
          rintro e w2 ⟨v2, rfl, hv2, hb2⟩
          have B2 := Lib.hid (below_to (show Below w.heap.size w (w.drewN q).drew from ⟨rfl, rfl, rfl, Nat.le_refl _, fun _ _ => rfl⟩) hb2)
          have heq := equal_calls (H8.out _ B2.out) hv2
          rw [Hh.out] at heq
          have Heq := Lib.hid heq
          clear hv2 hb2 heq
          go_wp2_with fail
          refine hK.out _ _ (trivial) (fun hHeld => ?_)
          clear hK
          try simp only [Act.put, List.setIfInBounds_toArray, List.set_cons_zero, List.set_cons_succ]
          refine ord_one 4 rfl (by kernel_rfl) (by rfl) (fun K hK => ?_)
          go_wp2_with fail
          refine Heq.out.mono ?_
          rintro e w3 ⟨rfl, rfl⟩
          go_wp2_with fail
          refine hK.out _ _ (trivial) (fun hHeld => ?_)
          clear hK
          try simp only [Act.put, List.setIfInBounds_toArray, List.set_cons_zero, List.set_cons_succ]
          refine Pl [5,6] ?_
          iterate 2 (refine Pc rfl ?_;simp only [Act.put, uA, uB, uC])
          refine Pn ?_
          refine wpAnyH_done (by kernel_rfl) ?_ _
          go_wp2_with fail
          go_ret3
          exact Hfin.out _ B2.out
        · have hpos : 0 < b.length := by omega
          rcases h.at with e | ⟨g, o, c2, e, -⟩
          · rw [e] at hpos
            simp at hpos
          cases e
          have Hf := Lib.hid (fun (W : World) (hb : Below w.heap.size w W) => four_at (HasB.from (h.below hb) (k := 8 + fourAt b) (by omega) (c - (8 + fourAt b))) (by rw [List.length_drop]; omega))
          have Hs := Lib.hid (fun (W : World) (hb : Below w.heap.size w W) => HasB.cut (h.below hb) (k := 8 + fourAt b) (by omega) c)
          have HE : decE b = if fourAt (b.drop (8 + fourAt b)) ≠ sumN (b.take (8 + fourAt b)) then 4 else 0 := by unfold decE; rw [if_neg h8, if_neg (by simpa using hh), if_neg hm, if_neg hd]
          have HEl := Lib.hid (show decE b = 0 → decL b = fourAt b + 12 ∧ decB b = (b.take (8 + fourAt b)).drop 8 from fun e => ⟨by unfold decL; rw [if_pos e], by unfold decB; rw [if_pos e, List.take_drop]⟩)
          have hlen : (b.take (8 + fourAt b)).length = 8 + fourAt b := by rw [List.length_take]; omega
          generalize fourAt b = m at *
          generalize hN : b.length = N at *
          generalize b.take (8 + m) = Y at *
          generalize fourAt (b.drop (8 + m)) = q4 at *
          have HEE := Lib.hid HE
          have Hlen := Lib.hid hlen
          clear hN h hh hlen HE
          go_enter Tryz.func226, Tryz.ntmps226
          go_wp2_with fail
          refine (H4.out _ (Below.refl _ _)).mono ?_
          rintro e w1 ⟨rfl, q, rfl⟩
          go_wp2_with fail
          refine ord_start (fun _ : World => True) (n := 7) (by kernel_rfl) rfl trivial (fun hHeld => ?_)
          refine Pl [0,1,2] ?_
          iterate 3 (refine Pc rfl ?_;simp only [Act.put, uA, uB, uC])
          refine Pn ?_
          refine ord_one 3 rfl (by kernel_rfl) (by rfl) (fun K hK => ?_)
          go_wp2_with fail
          refine (Hhd.out _).mono ?_
          rintro e w2 ⟨v2, rfl, hv2, hb2⟩
          have B2 := Lib.hid (below_to (show Below w.heap.size w (w.drewN q).drew from ⟨rfl, rfl, rfl, Nat.le_refl _, fun _ _ => rfl⟩) hb2)
          have heq := equal_calls (H8.out _ B2.out) hv2
          rw [Hh.out] at heq
          have Heq := Lib.hid heq
          clear hv2 hb2 heq
          go_wp2_with fail
          refine hK.out _ _ (trivial) (fun hHeld => ?_)
          clear hK
          try simp only [Act.put, List.setIfInBounds_toArray, List.set_cons_zero, List.set_cons_succ]
          refine ord_one 4 rfl (by kernel_rfl) (by rfl) (fun K hK => ?_)
          go_wp2_with fail
          refine Heq.out.mono ?_
          rintro e w3 ⟨rfl, rfl⟩
          go_wp2_with fail
          refine hK.out _ _ (trivial) (fun hHeld => ?_)
          clear hK
          try simp only [Act.put, List.setIfInBounds_toArray, List.set_cons_zero, List.set_cons_succ]
          refine Pl [5,6] ?_
          iterate 2 (refine Pc rfl ?_;simp only [Act.put, uA, uB, uC])
          refine Pn ?_
          refine wpAnyH_done (by kernel_rfl) ?_ _
          go_wp2_with fail
          refine (Hf.out _ B2.out).mono ?_
          rintro e w4 ⟨rfl, q5, rfl⟩
          have B4 := Lib.hid (below_to B2.out (show Below w3.heap.size w3 (w3.drewN q5) from ⟨rfl, rfl, rfl, Nat.le_refl _, fun _ _ => rfl⟩))
          have hys := Hs.out _ B4.out
          obtain ⟨p6, c6, e6⟩ := hys.slice
          have hsm := sum_calls (rows_one hys 39 (0, 0) _ 1 rfl (Nat.le_refl _)) (by decide) (by simp [Hlen.out]; omega)
          rw [show [Y].flatten = Y by simp, sumF_nat] at hsm
          have Hsm := Lib.hid hsm
          have B5 := Lib.hid (below_to B4.out (below_al (w3.drewN q5) (.cells #[.slice (some ⟨g, o, none⟩) (8 + m) c] 39)))
          clear hys e6 hsm
          by_cases heq : q4 = sumN Y
          · have he0 : decE b = 0 := by rw [HEE.out, if_neg (by simpa using heq)]
            have hne : ((q4 : Int) != (sumN Y : Int)) = false := by simp [heq]
            obtain ⟨hL, hB⟩ := HEl.out he0
            have hcl := clone_calls (HasB.from (Hs.out _ B5.out) (k := 8) (by rw [Hlen.out]; omega) (c - 8)) (by rw [List.length_drop, Hlen.out]; omega)
            have Hcl := Lib.hid hcl
            have Hfin := Lib.hid (And.intro he0 (And.intro hL hB))
            generalize sumN Y = q7 at *
            clear hcl he0 hL hB heq
            go_wp2_with fail
            refine Hsm.out.mono ?_
            rintro e w6 ⟨rfl, rfl⟩
            rw [show 8 + m - 8 = m by omega] at Hcl
            go_wp2_with fail
            refine Hcl.out.mono ?_
            rintro e w7 ⟨v7, rfl, hv7, hn7, hb7⟩
            have Hd := Lib.hid (show Decoded w b (.returned (.tuple #[v7, .int .i64 (8 + (m : Int) + 4), .int .i64 0])) w7 from by
              obtain ⟨h0, hL, hB⟩ := Hfin.out
              refine ⟨v7, ?_, by rw [hB]; exact hv7, fun k hk => Nat.le_trans B5.out.size (hn7 k hk), below_to B5.out hb7⟩
              rw [hL, h0, show ((m + 12 : Nat) : Int) = 8 + (m : Int) + 4 by omega]
              rfl)
            clear hv7 hn7 hb7
            go_wp2_with fail
            go_ret3
            exact Hd.out
          · have hfin := fun W => decoded_bad (w := w) (w' := W) (b := b) (k := 4) (by rw [HEE.out, if_pos heq]) (by decide)
            have Hfin := Lib.hid hfin
            have hne : ((q4 : Int) != (sumN Y : Int)) = true := by
              simp only [bne_iff_ne, ne_eq, Int.natCast_inj]
              exact heq
            generalize sumN Y = q7 at *
            clear hfin heq
            go_wp2_with fail
            refine Hsm.out.mono ?_
            rintro e w6 ⟨rfl, rfl⟩
            go_wp2_with fail
            go_ret3
            exact Hfin.out _ B5.out
    · have Hh := Lib.hid (show (b.take 8 == headN (fourAt b)) = false by rw [beq_eq_false_iff_ne]; exact hh)
      have Hfin := Lib.hid (fun W => decoded_bad (w := w) (w' := W) (b := b) (k := 4) (by unfold decE; rw [if_neg h8, if_pos hh]) (by decide))
      generalize hM : fourAt b = m at *
      generalize hN : b.length = N at *
      clear hN hM h hh
      go_enter Tryz.func226, Tryz.ntmps226
      go_wp2_with fail
      refine (H4.out _ (Below.refl _ _)).mono ?_
      rintro e w1 ⟨rfl, q, rfl⟩
      go_wp2_with fail
      refine ord_start (fun _ : World => True) (n := 7) (by kernel_rfl) rfl trivial (fun hHeld => ?_)
      refine Pl [0,1,2] ?_
      iterate 3 (refine Pc rfl ?_;simp only [Act.put, uA, uB, uC])
      refine Pn ?_
      refine ord_one 3 rfl (by kernel_rfl) (by rfl) (fun K hK => ?_)
      go_wp2_with fail
      refine (Hhd.out _).mono ?_
      rintro e w2 ⟨v2, rfl, hv2, hb2⟩
      have B2 := Lib.hid (below_to (show Below w.heap.size w (w.drewN q).drew from ⟨rfl, rfl, rfl, Nat.le_refl _, fun _ _ => rfl⟩) hb2)
      have heq := equal_calls (H8.out _ B2.out) hv2
      rw [Hh.out] at heq
      have Heq := Lib.hid heq
      clear hv2 hb2 heq
      go_wp2_with fail
      refine hK.out _ _ (trivial) (fun hHeld => ?_)
      clear hK
      try simp only [Act.put, List.setIfInBounds_toArray, List.set_cons_zero, List.set_cons_succ]
      refine ord_one 4 rfl (by kernel_rfl) (by rfl) (fun K hK => ?_)
      go_wp2_with fail
      refine Heq.out.mono ?_
      rintro e w3 ⟨rfl, rfl⟩
      go_wp2_with fail
      refine hK.out _ _ (trivial) (fun hHeld => ?_)
      clear hK
      try simp only [Act.put, List.setIfInBounds_toArray, List.set_cons_zero, List.set_cons_succ]
      refine Pl [5,6] ?_
      iterate 2 (refine Pc rfl ?_;simp only [Act.put, uA, uB, uC])
      refine Pn ?_
      refine wpAnyH_done (by kernel_rfl) ?_ _
      go_wp2_with fail
      go_ret3
      exact Hfin.out _ B2.out
end Go.Proofs.YtogdfkilhpkloaaGreatDoor
