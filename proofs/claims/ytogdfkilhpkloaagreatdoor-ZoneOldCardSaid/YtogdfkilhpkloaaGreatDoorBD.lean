/- The contracts of octet's Reader, with the set of blocks in which its bytes lie. (Printed by mkx.py out of the texts Rdr, RdrN.) octet: Reader.Nums (lines of the text JouY). Requests and items (plain): which may be, their bytes, what bytes are read as. Sorted association lists over any kind of key that has an order, and how a map in memory reads as one. (Printed by mklibk.py.) No program. The contracts of package span that a zone wants: Is, In. The contracts of package purse: Is, One, Add (of two), Sub, Less. purse.Add of two. Kinds of keys (the slow facts). The kinds of keys and of elements that an economy's maps have. -/
import Derived.BigQuiet
import Derived.Deep.LoopGhost
import Derived.Deep.QuietTactic
import Derived.DeepKeys4
import Derived.Test.YtogdfkilhpkloaaGreatDoorBA
import Derived.Test.YtogdfkilhpkloaaGreatDoorBC
import Derived.Test.YtogdfkilhpkloaaGreatDoorChecked
namespace Go.Proofs.YtogdfkilhpkloaaGreatDoor
open Go.RowKit Go.Sat Go.Maps

/-- A Reader whose bytes lie in the blocks of A. -/
def RdX (A : Nat → Prop) (w : World) (r : Nat) (R : Rd) : Prop := ∃ p n c, RdIn w r R p n c ∧ ∀ k, (Value.slice p n c).ownBlock = some k → A k
theorem RdX.at {A : Nat → Prop} {w : World} {r : Nat} {R : Rd} (h : RdX A w r R) : RdAt w r R := let ⟨p, n, c, h, _⟩ := h; ⟨p, n, c, h⟩
theorem RdX.lt {A : Nat → Prop} {w : World} {r : Nat} {R : Rd} (h : RdX A w r R) : r < w.heap.size := let ⟨_, _, _, h, _⟩ := h; h.rlt
theorem RdX.chg {A S : Nat → Prop} {w w' : World} {r : Nat} {R : Rd} (h : RdX A w r R) (hc : Chg S w w') (hr : ¬ S r) (hA : ∀ k, A k → ¬ S k) : RdX A w' r R := by
  obtain ⟨p, n, c, h, ha⟩ := h
  exact ⟨p, n, c, ⟨(hc.block r h.rlt hr).trans h.cells, HasB.chg h.has hc fun k hk => hA k (ha k hk), h.cap, h.ne, h.len⟩, ha⟩
def RStepX (A : Nat → Prop) (w : World) (r : Nat) (R' : Rd) (v : Value) (e : Ending) (w' : World) : Prop := e = .returned v ∧ RdX A w' r R' ∧ Chg (fun k => k = r) w w'
def NumX (A : Nat → Prop) (w : World) (r : Nat) (R : Rd) (e : Ending) (w' : World) : Prop := e = .returned (.int .i64 (R.num.1 : Int)) ∧ RdX A w' r R.num.2 ∧ Chg (fun k => k = r) w w'
def RowX (A : Nat → Prop) (w : World) (r : Nat) (b : Bs) (R' : Rd) (e : Ending) (w' : World) : Prop :=
  ∃ v, e = .returned v ∧ OwnB w' 5 v b ∧ (∀ j, v.ownBlock = some j → w.heap.size ≤ j) ∧ RdX A w' r R' ∧ Chg (fun j => j = r) w w'

theorem run_tailX {P : Program} {w : World} {t e : TypeId} {i : TypeInfo} (ht : P.underlying t = some (.slice e)) (hi : P.info? e = some i) (hsz : i.size = 1) {p : Option Addr} {n c : Nat} {l : Bs} (h : HasB w (.slice p n c) l) (hnc : n ≤ c) (r k : Nat) (hne : (Value.slice p n c).ownBlock ≠ some r) (hk : k ≤ n) :
    ∃ p' c', (∀ W, (Instr.slice t (.slice p n c) (some (.int .i64 (k : Int))) none none).run P W = .ok (.slice p' (n - k) c') W) ∧ HasB w (.slice p' (n - k) c') (l.drop k) ∧ n - k ≤ c' ∧ (Value.slice p' (n - k) c').ownBlock ≠ some r ∧ ∀ x, (Value.slice p' (n - k) c').ownBlock = some x → (Value.slice p n c).ownBlock = some x := by
  obtain ⟨p', c', h1, h2, h3, h4⟩ := run_tail (P := P) ht hi hsz h hnc r k hne hk
  refine ⟨p', c', h1, h2, h3, h4, fun x hx => ?_⟩
  have e1 := h1 w
  rw [run_tail0 (P := P) w ht hi hsz p n c k hk hnc] at e1
  have e2 : (if c = k then p else p.map fun x => x.add k) = p' := by
    have := congrArg (fun z : Result Value => match z with | .ok (.slice a _ _) _ => a | _ => none) e1
    exact this
  subst e2
  split at hx
  · cases p with
    | none => cases hx
    | some a => exact hx
  · cases p with
    | none => cases hx
    | some a =>
      have e3 : (Value.slice (some (a.add k)) (n - k) c').ownBlock = some (a.add k).block := rfl
      have hx' : (Value.slice (some (a.add k)) (n - k) c').ownBlock = some x := hx
      rw [e3, add_block] at hx'
      exact hx'

section
variable {w : World} {r : Nat} {R : Rd} {p : Option Addr} {n c : Nat}
theorem rdX_bad {A : Nat → Prop} (h : RdIn w r R p n c) : RdX A ((w.setCell ⟨r, 0, none⟩ (.slice none 0 0)).setCell ⟨r, 1, none⟩ (.bool true)) r Rd.fail :=
  ⟨none, 0, 0, ⟨rd_set h _ _, OwnB.has (e := 0) (OwnR.nil _ _ _), Nat.le_refl _, fun h => (by cases h), Nat.zero_le _⟩, fun k hk => (by cases hk)⟩

theorem badX_calls {A : Nat → Prop} (h : RdIn w r R p n c) :
    Calls Tryz.prog 202 #[.pointer (some ⟨r, 0, none⟩)] w (RStepX A w r Rd.fail (.tuple #[])) := by
  have h0 := h.c0
  have h1 := h.c1
  have hf := fun i => frozen_of h.cells i
  have HE := Lib.hid (show RStepX A w r Rd.fail (.tuple #[]) (.returned (.tuple #[])) ((w.setCell ⟨r, 0, none⟩ (.slice none 0 0)).setCell ⟨r, 1, none⟩ (.bool true)) from ⟨rfl, rdX_bad h, (Chg.setCell w ⟨r, 0, none⟩ _).trans (Chg.setCell _ ⟨r, 1, none⟩ _) fun _ _ e => e⟩)
  clear h
  go_enter Tryz.func202, Tryz.ntmps202
  go_wp2_with fail
  go_end0
  exact HE.out

set_option maxRecDepth 100000 in
set_option maxHeartbeats 4000000 in
theorem rawX_calls {A : Nat → Prop} (h : RdIn w r R p n c) (hA : ∀ k, (Value.slice p n c).ownBlock = some k → A k) (k : Int) (hk : 0 ≤ k) (hk' : k ≤ 9223372036854775807) :
    Calls Tryz.prog 190 #[.pointer (some ⟨r, 0, none⟩), .int .i64 k] w fun e w' => ∃ v, e = .returned v ∧ OwnB w' 5 v (R.raw k.toNat).1 ∧ (∀ j, v.ownBlock = some j → w.heap.size ≤ j) ∧ RdX A w' r (R.raw k.toNat).2 ∧ Chg (fun j => j = r) w w' := by
  obtain ⟨i0, hi, -, hz1, -⟩ := info_parts (show (Tryz.prog.info? 5).map (fun i => (i.zero, i.size, i.bytes)) = some (some (.int .u8 0), 1, 1) by kernel_rfl)
  obtain ⟨m, rfl⟩ : ∃ m : Nat, k = (m : Int) := ⟨k.toNat, by omega⟩
  have hn := h.n_eq
  have hlen := h.len
  rw [Int.toNat_natCast]
  have c0 := h.c0
  have hfr := fun i => frozen_of h.cells i
  by_cases hm : m ≤ n
  · have hR : R.raw m = (R.rest.take m, ⟨R.rest.drop m, R.bad⟩) := by unfold Rd.raw; rw [if_pos (by omega)]
    rw [hR]
    obtain ⟨p', c', hsl, hh, hc, hne, hnA⟩ := run_tailX (P := Tryz.prog) Tryz.underlying39 hi hz1 h.has h.cap r m h.ne hm
    have hup : ∀ W, (Instr.slice 39 (.slice p n c) none (some (.int .i64 (m : Int))) none).run Tryz.prog W = .ok (.slice p m c) W := fun W => run_upto W Tryz.underlying39 hi p n c m (by have := h.cap; omega)
    have Hcl := Lib.hid (clone_calls (HasB.cut h.has (k := m) (by omega) c) (by rw [List.length_take]; omega))
    have Hin := Lib.hid h
    have Hh := Lib.hid (And.intro hh (And.intro hc hne))
    have HA := Lib.hid (fun k hk => hA k (hnA k hk))
    clear hh hc hne h hR hnA hA
    go_enter Tryz.func190, Tryz.ntmps190
    go_wp2_with fail
    refine Hcl.out.mono ?_
    rintro e w1 ⟨v, rfl, hv, hvn, hb⟩
    have hcell := hb.block r Hin.out.rlt
    have hin1 : RdIn w1 r R p n c := ⟨hcell.trans Hin.out.cells, HasB.below Hin.out.has hb, Hin.out.cap, Hin.out.ne, Hin.out.len⟩
    have hc1 := hin1.c0
    have hfr1 := fun i => frozen_of hin1.cells i
    have HV := Lib.hid (And.intro (show OwnB (w1.setCell ⟨r, 0, none⟩ (.slice p' (n - m) c')) 5 v (R.rest.take m) from hv.keep fun k hk => set_other _ fun e => by
      have := hvn k hk
      have h2 := Hin.out.rlt
      have h3 : k = r := e
      omega) (And.intro hvn (And.intro (show RdX A (w1.setCell ⟨r, 0, none⟩ (.slice p' (n - m) c')) r ⟨R.rest.drop m, R.bad⟩ from ⟨p', n - m, c', ⟨rd_set0 hin1 _, (HasB.set (HasB.below Hh.out.1 hb) _ Hh.out.2.2), Hh.out.2.1, Hh.out.2.2, by rw [List.length_drop]; omega⟩, HA.out⟩)
        (((Chg.of_below hb).mono fun _ _ h => h.elim).trans (Chg.setCell _ ⟨r, 0, none⟩ _) fun _ _ e => e : Chg (fun j => j = r) w (w1.setCell ⟨r, 0, none⟩ (.slice p' (n - m) c'))))))
    clear hv hvn hin1 Hin Hh Hcl hcell
    go_wp2_with fail
    go_ret
    exact ⟨v, rfl, HV.out⟩
  · have hR : R.raw m = ([], Rd.fail) := by unfold Rd.raw; rw [if_neg (by omega)]
    rw [hR]
    have Hbd := Lib.hid (badX_calls (A := A) h)
    have hgt : ((m : Int) > (n : Int)) := by omega
    clear h hR
    go_enter Tryz.func190, Tryz.ntmps190
    go_wp2_with fail
    refine Hbd.out.mono ?_
    rintro e w1 ⟨rfl, hr, hc⟩
    have HE := Lib.hid (And.intro hr hc)
    clear hr hc
    go_wp2_with fail
    go_ret
    exact ⟨_, rfl, OwnR.nil _ _ _, fun j hj => (by cases hj), HE.out⟩
end

set_option maxRecDepth 100000 in
set_option maxHeartbeats 4000000 in
theorem numX_calls {AA : Nat → Prop} {w : World} {r : Nat} {R : Rd} {p : Option Addr} {n c : Nat} (h : RdIn w r R p n c) (hA : ∀ k, (Value.slice p n c).ownBlock = some k → AA k) :
    Calls Tryz.prog 137 #[.pointer (some ⟨r, 0, none⟩)] w (NumX AA w r R) := by
  obtain ⟨i0, hi, -, hz1, -⟩ := info_parts (show (Tryz.prog.info? 5).map (fun i => (i.zero, i.size, i.bytes)) = some (some (.int .u8 0), 1, 1) by kernel_rfl)
  have hn := h.n_eq
  have hlen := h.len
  rw [hn] at hlen
  have c0 := h.c0
  have hfr := frozen_of h.cells 0
  have Hbad := Lib.hid (badX_calls (A := AA) h)
  have Hno := Lib.hid (show numGo 0 0 R.rest = none → R.num = (0, Rd.fail) from fun e => by unfold Rd.num; rw [e])
  have Hyes := Lib.hid (show ∀ v t, numGo 0 0 R.rest = some (v, t) → R.num = (v, ⟨t, R.bad⟩) from fun v t e => by unfold Rd.num; rw [e])
  have Hin := Lib.hid h
  have HA := Lib.hid hA
  have Hn := Lib.hid hn
  clear h hn hA
  go_enter Tryz.func137, Tryz.ntmps137
  go_wp2_with fail
  go_loop [3, 13] (fun u i => ∃ k a : Nat, k ≤ n ∧ k ≤ 9 ∧ i = .int .i64 k ∧ u = .int .u64 a ∧ a < 128 ^ k ∧ numGo 0 0 R.rest = numGo k a (R.rest.drop k)) (fun _ i => n - (intOf i).toNat)
  case atStart => exact ⟨0, 0, Nat.zero_le _, by omega, rfl, rfl, by simp, rfl⟩
  case round =>
    obtain ⟨k, a, hk, hk9, rfl, rfl, ha, hgo⟩ := hrel
    by_cases hlt : k < n
    · have hkl : k < R.rest.length := by rw [Hn.out]; exact hlt
      rw [List.drop_eq_getElem_cons hkl] at hgo
      rcases Hin.out.has.at with h0 | ⟨g, o, c1, e1, hc⟩
      · rw [h0] at hkl
        simp at hkl
      simp only [Value.slice.injEq] at e1
      obtain ⟨rfl, -, rfl⟩ := e1
      have hck := hc k _ (List.getElem?_eq_getElem hkl)
      have Hgo := Lib.hid hgo
      clear hc hgo
      have hx := R.rest[k].toNat_lt
      have Hstop := Lib.hid (show 9 ≤ k ∨ (0 < k ∧ R.rest[k].toNat = 0) → numGo k a (R.rest[k] :: R.rest.drop (k + 1)) = none from fun e => by
        unfold numGo
        rw [if_pos (e.imp id fun e => ⟨e.1, UInt8.toNat.inj (by rw [e.2]; rfl)⟩)])
      have Hgo1 := Lib.hid (show ¬ (9 ≤ k ∨ (0 < k ∧ R.rest[k].toNat = 0)) → R.rest[k].toNat < 128 → numGo k a (R.rest[k] :: R.rest.drop (k + 1)) = if 4611686018427387904 < a + R.rest[k].toNat * 128 ^ k then none else some (a + R.rest[k].toNat * 128 ^ k, R.rest.drop (k + 1)) from fun e h => by
        rw [numGo, if_neg (fun h => e (h.imp id fun h => ⟨h.1, by rw [h.2]; rfl⟩)), if_pos h])
      have Hgo2 := Lib.hid (show ¬ (9 ≤ k ∨ (0 < k ∧ R.rest[k].toNat = 0)) → ¬ R.rest[k].toNat < 128 → numGo k a (R.rest[k] :: R.rest.drop (k + 1)) = numGo (k + 1) (a + R.rest[k].toNat % 128 * 128 ^ k) (R.rest.drop (k + 1)) from fun e h => by
        rw [numGo, if_neg (fun h => e (h.imp id fun h => ⟨h.1, by rw [h.2]; rfl⟩)), if_neg h])
      generalize R.rest[k].toNat = x at *
      by_cases h9 : 9 ≤ k
      · have HE := Lib.hid (Hno.out (Hgo.out.trans (Hstop.out (.inl h9))))
        go_wp2_with fail
        refine Hbad.out.mono ?_
        rintro e w1 ⟨rfl, hr, hc⟩
        have HF := Lib.hid (show NumX AA w r R (.returned (.int .i64 0)) w1 from ⟨by rw [HE.out]; rfl, by rw [HE.out]; exact hr, hc⟩)
        clear hr hc
        go_wp2_with fail
        go_ret
        exact HF.out
      · by_cases hz : 0 < k ∧ x = 0
        · have HE := Lib.hid (Hno.out (Hgo.out.trans (Hstop.out (.inr hz))))
          obtain ⟨hk0, rfl⟩ := hz
          go_wp2_with fail
          refine Hbad.out.mono ?_
          rintro e w1 ⟨rfl, hr, hc⟩
          have HF := Lib.hid (show NumX AA w r R (.returned (.int .i64 0)) w1 from ⟨by rw [HE.out]; rfl, by rw [HE.out]; exact hr, hc⟩)
          clear hr hc
          go_wp2_with fail
          go_ret
          exact HF.out
        · have hs : ¬ (9 ≤ k ∨ (0 < k ∧ x = 0)) := fun e => e.elim h9 hz
          have hd9 : decide ((9 : Int) ≤ (k : Int)) = false := by simp; omega
          by_cases h128 : x < 128
          · have HE := Lib.hid (Hgo.out.trans (Hgo1.out hs h128))
            have h7 := u64_seven ha (by omega) (show x < 256 by omega)
            rw [show x % 128 = x by omega] at h7
            obtain ⟨h7, -, h73⟩ := h7
            generalize a + x * 128 ^ k = A at *
            by_cases hA : 4611686018427387904 < A
            · have HE2 := Lib.hid (Hno.out (HE.out.trans (if_pos hA)))
              rcases Nat.lt_or_ge 0 k with hk0 | hk0
              rotate_left
              · go_wp2_with fail
                refine Hbad.out.mono ?_
                rintro e w1 ⟨rfl, hr, hc⟩
                have HF := Lib.hid (show NumX AA w r R (.returned (.int .i64 0)) w1 from ⟨by rw [HE2.out]; rfl, by rw [HE2.out]; exact hr, hc⟩)
                clear hr hc
                go_wp2_with fail
                go_ret
                exact HF.out
              · have hx0 : 0 < x := by omega
                go_wp2_with fail
                refine Hbad.out.mono ?_
                rintro e w1 ⟨rfl, hr, hc⟩
                have HF := Lib.hid (show NumX AA w r R (.returned (.int .i64 0)) w1 from ⟨by rw [HE2.out]; rfl, by rw [HE2.out]; exact hr, hc⟩)
                clear hr hc
                go_wp2_with fail
                go_ret
                exact HF.out
            · have HE2 := Lib.hid (Hyes.out _ _ (HE.out.trans (if_neg hA)))
              obtain ⟨p', c', hsl, hh, hcc, hne, hnA⟩ := run_tailX (P := Tryz.prog) Tryz.underlying39 hi hz1 Hin.out.has Hin.out.cap r (k + 1) Hin.out.ne hlt
              have HF := Lib.hid (show NumX AA w r R (.returned (.int .i64 (A : Int))) (w.setCell ⟨r, 0, none⟩ (.slice p' (n - (k + 1)) c')) from
                ⟨by rw [HE2.out], by rw [HE2.out]; exact ⟨p', n - (k + 1), c', ⟨rd_set0 Hin.out _, HasB.set hh _ hne, hcc, hne, by rw [List.length_drop, Hn.out]; omega⟩, fun k hk => HA.out k (hnA k hk)⟩, Chg.setCell w ⟨r, 0, none⟩ _⟩)
              rw [Int.natCast_add, Int.natCast_one] at hsl
              clear hh hcc hne hnA
              rcases Nat.lt_or_ge 0 k with hk0 | hk0
              rotate_left
              · go_wp2_with fail
                go_ret
                exact HF.out
              · have hx0 : 0 < x := by omega
                go_wp2_with fail
                go_ret
                exact HF.out
          · have hgo2 := Hgo.out.trans (Hgo2.out hs h128)
            obtain ⟨h7, h72, h73⟩ := u64_seven ha (by omega) (show x < 256 by omega)
            have Hgn := Lib.hid (And.intro hgo2 h72)
            clear hgo2 h72
            generalize a + x % 128 * 128 ^ k = A at *
            rcases Nat.lt_or_ge 0 k with hk0 | hk0
            rotate_left
            · go_wp2_with fail
              go_round
              case rel => exact ⟨k + 1, A, by omega, by omega, by go_num, rfl, Hgn.out.2, Hgn.out.1⟩
              case measure => simp [intOf]; omega
            · have hx0 : 0 < x := by omega
              go_wp2_with fail
              go_round
              case rel => exact ⟨k + 1, A, by omega, by omega, by go_num, rfl, Hgn.out.2, Hgn.out.1⟩
              case measure => simp [intOf]; omega
    · have hkn : R.rest.drop k = [] := List.drop_of_length_le (by rw [Hn.out]; omega)
      rw [hkn] at hgo
      have HE := Lib.hid (Hno.out hgo)
      clear hgo hkn
      go_wp2_with fail
      refine Hbad.out.mono ?_
      rintro e w1 ⟨rfl, hr, hc⟩
      have HF := Lib.hid (show NumX AA w r R (.returned (.int .i64 0)) w1 from ⟨by rw [HE.out]; rfl, by rw [HE.out]; exact hr, hc⟩)
      clear hr hc
      go_wp2_with fail
      go_ret
      exact HF.out

set_option maxRecDepth 100000 in
set_option maxHeartbeats 2000000 in
theorem rbytesX_calls {A : Nat → Prop} {w : World} {r : Nat} {R : Rd} (h : RdX A w r R) :
    Calls Tryz.prog 128 #[.pointer (some ⟨r, 0, none⟩)] w (RowX A w r R.bytes.1 R.bytes.2) := by
  obtain ⟨p, n, c, h, hA⟩ := h
  have Hn := Lib.hid (numX_calls h hA)
  have hle := Rd.num_le R
  have HB := Lib.hid (show R.bytes = R.num.2.raw R.num.1 from rfl)
  clear h hA
  go_enter Tryz.func128, Tryz.ntmps128
  go_wp2_with fail
  refine Hn.out.mono ?_
  rintro e w1 ⟨rfl, ⟨p1, n1, c1, hr, hA1⟩, hc⟩
  have Hr := Lib.hid (rawX_calls hr hA1 (R.num.1 : Int) (by omega) (by omega))
  have Hc := Lib.hid hc
  rw [Int.toNat_natCast] at Hr
  clear hr hc Hn hA1
  generalize R.num.1 = m at *
  generalize R.num.2 = R1 at *
  go_wp2_with fail
  refine Hr.out.mono ?_
  rintro e w2 ⟨v, rfl, hv, hvn, hr2, hc2⟩
  have HE := Lib.hid (show RowX A w r R.bytes.1 R.bytes.2 (.returned v) w2 from ⟨v, rfl, by rw [HB.out]; exact hv, fun j hj => Nat.le_trans Hc.out.size (hvn j hj), by rw [HB.out]; exact hr2, Hc.out.trans hc2 fun _ _ e => e⟩)
  clear hv hvn hr2 hc2 Hr
  go_wp2_with fail
  go_ret
  exact HE.out

theorem newrdX_calls {w : World} {x : Value} {l : Bs} (h : HasB w x l) (hl : l.length ≤ 140737488355328) :
    Calls Tryz.prog 79 #[x] w fun e w' => ∃ r, e = .returned (.pointer (some ⟨r, 0, none⟩)) ∧ RdX (fun k => w.heap.size ≤ k ∧ k < r) w' r ⟨l, false⟩ ∧ w.heap.size ≤ r ∧ r < w'.heap.size ∧ Below w.heap.size w w' := by
  have Hc := Lib.hid (clone_calls h hl)
  clear h
  go_enter Tryz.func79, Tryz.ntmps79
  go_wp2_with fail
  refine Hc.out.mono ?_
  rintro e w1 ⟨v, rfl, hv, hvn, hb⟩
  obtain ⟨p, c, rfl, hcap⟩ := own_cap0 hv
  have HE := Lib.hid (show RdX (fun k => w.heap.size ≤ k ∧ k < w1.heap.size) (w1.alloc (.cells #[.slice p l.length c, .bool false] 238)) w1.heap.size ⟨l, false⟩ from
    ⟨p, l.length, c, ⟨new_block w1 _, has_alloc hv.has _, hcap, fun e => by have := OwnR.lt hv e; omega, hl⟩, fun k hk => ⟨hvn k hk, OwnR.lt hv hk⟩⟩)
  have HB := Lib.hid (And.intro hb.size (And.intro (show w1.heap.size < (w1.alloc (.cells #[.slice p l.length c, .bool false] 238)).heap.size from by simp) (hb.alloc hb.size (.cells #[.slice p l.length c, .bool false] 238))))
  clear hv hvn hb Hc
  generalize l.length = n at *
  go_wp2_with fail
  go_ret
  exact ⟨_, rfl, HE.out, HB.out⟩
end Go.Proofs.YtogdfkilhpkloaaGreatDoor

namespace Go.Sat.Rd
def ints : Nat → Rd → List Int × Rd
  | 0, R => ([], R)
  | k + 1, R => ((R.num.1 : Int) :: (ints k R.num.2).1, (ints k R.num.2).2)
end Go.Sat.Rd
namespace Go.Proofs.YtogdfkilhpkloaaGreatDoor
open Go.RowKit Go.Sat Go.Maps

theorem setCell_heap {w u : World} (a : Addr) (v : Value) {b : Nat} (h : w.heap[b]? = u.heap[b]?) : (w.setCell a v).heap[b]? = (u.setCell a v).heap[b]? := by
  simp [World.setCell, Array.getElem?_modify, h]

/-- Numbers, laid into places. -/
def putN (w : World) : List Addr → List Int → World
  | a :: l, z :: zs => putN (w.setCell a (.int .i64 z)) l zs
  | _, _ => w
theorem putN_snoc : ∀ (l : List Addr) (zs : List Int) (w : World) (a : Addr) (z : Int), zs.length = l.length → putN w (l ++ [a]) (zs ++ [z]) = (putN w l zs).setCell a (.int .i64 z)
  | [], [], _, _, _, _ => rfl
  | _ :: l, _ :: zs, _, a, z, h => putN_snoc l zs _ a z (by simpa using h)
  | [], _ :: _, _, _, _, h => by simp at h
  | _ :: _, [], _, _, _, h => by simp at h

theorem ints_len : ∀ (k : Nat) (R : Rd), (Rd.ints k R).1.length = k
  | 0, _ => rfl
  | k + 1, R => by
    show ((R.num.1 : Int) :: (Rd.ints k R.num.2).1).length = _
    rw [List.length_cons, ints_len k]
theorem ints_snoc : ∀ (k : Nat) (R : Rd), Rd.ints (k + 1) R = ((Rd.ints k R).1 ++ [((Rd.ints k R).2.num.1 : Int)], (Rd.ints k R).2.num.2)
  | 0, R => rfl
  | k + 1, R => by
    show ((R.num.1 : Int) :: (Rd.ints (k + 1) R.num.2).1, (Rd.ints (k + 1) R.num.2).2) = _
    rw [ints_snoc k R.num.2]
    rfl
/-- Places that numbers may be laid into. -/
structure Places (w : World) (r : Nat) (ps : List Addr) : Prop where
  cell : ∀ a ∈ ps, ∃ z, w.cell? a = some (.int .i64 z)
  free : ∀ a ∈ ps, w.frozen? a = false
  ne : ∀ a ∈ ps, a.block ≠ r
  sp : ∀ a ∈ ps, a.spot = none

def NumsTold (A : Nat → Prop) (w : World) (r : Nat) (R : Rd) (ps : List Addr) (w' : World) : Prop :=
  RdX A w' r (Rd.ints ps.length R).2 ∧ Chg (fun b => b = r ∨ ∃ a ∈ ps, b = a.block) w w' ∧ ∀ b, b < w.heap.size → b ≠ r → w'.heap[b]? = (putN w ps (Rd.ints ps.length R).1).heap[b]?

theorem Places.chg {w w' : World} {r : Nat} {ps : List Addr} (h : Places w r ps) (hc : Chg (fun k => k = r) w w') : Places w' r ps := by
  have hb : ∀ a ∈ ps, w'.heap[a.block]? = w.heap[a.block]? := fun a ha => by
    obtain ⟨z, hz⟩ := h.cell a ha
    exact hc.block _ (World.block_lt_of_cell? _ _ hz) (h.ne a ha)
  exact ⟨fun a ha => by obtain ⟨z, hz⟩ := h.cell a ha; exact ⟨z, (World.cell?_of_block (hb a ha)).trans hz⟩, fun a ha => by have := h.free a ha; simpa [World.frozen?, hb a ha] using this, h.ne, h.sp⟩

theorem Places.set {w : World} {r : Nat} {ps : List Addr} (h : Places w r ps) {a : Addr} (ha : a ∈ ps) (z : Int) : Places (w.setCell a (.int .i64 z)) r ps := by
  have hcell : ∀ b, w.cell? b ≠ none → (∃ y, (w.setCell a (.int .i64 z)).cell? b = some y ∧ (y = .int .i64 z ∨ w.cell? b = some y)) := fun b hb => by
    by_cases e : a = b
    · subst e
      exact ⟨.int .i64 z, by obtain ⟨z', hz⟩ := h.cell a ha; exact World.cell?_setCell_same w a _ hz, .inl rfl⟩
    · rw [World.cell?_setCell_other (h := e)]
      cases hc : w.cell? b with
      | none => exact absurd hc hb
      | some y => exact ⟨y, rfl, .inr rfl⟩
  refine ⟨fun b hb => ?_, fun b hb => by rw [World.frozen?_setCell]; exact h.free b hb, h.ne, h.sp⟩
  · obtain ⟨z', hz⟩ := h.cell b hb
    obtain ⟨y, hy, he⟩ := hcell b (by rw [hz]; simp)
    rcases he with rfl | he
    · exact ⟨z, hy⟩
    · rw [hz] at he
      cases he
      exact ⟨z', hy⟩

set_option maxRecDepth 100000 in
set_option maxHeartbeats 4000000 in
theorem rnums_calls {A : Nat → Prop} {w : World} {r : Nat} {R : Rd} (h : RdX A w r R) {g c : Nat} {ps : List Addr} (hp : Places w r ps) (hl : ps.length ≤ 1000) (hg : ∀ i a, ps[i]? = some a → w.cell? ⟨g, i, none⟩ = some (.pointer (some a))) (hgr : g ≠ r) (hgn : ∀ a ∈ ps, a.block ≠ g) (hA : ∀ k, A k → k ≠ r ∧ ∀ a ∈ ps, k ≠ a.block) :
    Calls Tryz.prog 127 #[.pointer (some ⟨r, 0, none⟩), .slice (some ⟨g, 0, none⟩) ps.length c] w fun e w' => e = .returned (.tuple #[]) ∧ NumsTold A w r R ps w' := by
  have Hg := Lib.hid hg
  have H := Lib.hid h
  have Hp := Lib.hid hp
  have Hgr := Lib.hid hgr
  have Hgn := Lib.hid hgn
  have HA := Lib.hid hA
  clear h hp hg hgr hgn hA
  generalize hn : ps.length = n at *
  have Hn := Lib.hid hn
  clear hn
  go_enter Tryz.func127, Tryz.ntmps127
  go_wp2_with fail
  go_loopw [9] (fun i wr => ∃ k : Nat, k ≤ n ∧ i = .int .i64 k ∧ RdX A wr r (Rd.ints k R).2 ∧ Chg (fun b => b = r ∨ ∃ a ∈ ps, b = a.block) w wr ∧ Places wr r ps ∧ ∀ b, b < w.heap.size → b ≠ r → wr.heap[b]? = (putN w (ps.take k) (Rd.ints k R).1).heap[b]?) (fun i _ => n - (intOf i).toNat)
  case atStart => exact ⟨0, Nat.zero_le _, rfl, H.out, Chg.refl _ _, Hp.out, fun b _ _ => by rw [List.take_zero]; rfl⟩
  case round =>
    clear H Hp
    obtain ⟨k, hk, rfl, hrd, hch, hpl, hpu⟩ := hrel
    by_cases hlt : k < n
    · have hkl : k < ps.length := by rw [Hn.out]; exact hlt
      have ha := List.getElem?_eq_getElem hkl
      have ham := List.getElem_mem hkl
      have hcg := hch.cell (Hg.out k _ ha) (fun e => e.elim Hgr.out fun ⟨a, h1, h2⟩ => Hgn.out a h1 h2.symm)
      have Hsn := Lib.hid (ints_snoc k R)
      have HTk := Lib.hid (List.take_succ_eq_append_getElem hkl)
      generalize ps[k] = a at *
      have Hlen := Lib.hid (show ((Rd.ints k R).1).length = (ps.take k).length from by rw [ints_len, List.length_take, Nat.min_eq_left (by omega)])
      have Hnum := Lib.hid (show Calls Tryz.prog 137 #[.pointer (some ⟨r, 0, none⟩)] wr (NumX A wr r (Rd.ints k R).2) from by obtain ⟨_, _, _, h, ha⟩ := hrd; exact numX_calls h ha)
      have HX := Lib.hid (And.intro hch (And.intro hpl hpu))
      have Ham := Lib.hid ham
      have hle := Rd.num_le (Rd.ints k R).2
      clear hrd hch hpl hpu hkl ha ham
      generalize hRk : (Rd.ints k R).2 = Rk at *
      generalize hv : Rk.num.1 = v at *
      have HRk := Lib.hid hRk
      have Hv := Lib.hid hv
      clear hRk hv
      go_wp2_with fail
      refine Hnum.out.mono ?_
      rintro e w2 ⟨rfl, hr2, hc2⟩
      have hpl2 := HX.out.2.1.chg hc2
      have HP2 := Lib.hid hpl2
      obtain ⟨z, hz⟩ := hpl2.cell a Ham.out
      have hfz := hpl2.free a Ham.out
      have HR2 := Lib.hid hr2
      have HC2 := Lib.hid hc2
      rw [Hv.out]
      clear hr2 hc2 hpl2 Hnum
      go_wp2_with fail
      have HE := Lib.hid (show RdX A (w2.setCell a (.int .i64 (v : Int))) r (Rd.ints (k + 1) R).2 ∧ Chg (fun b => b = r ∨ ∃ a ∈ ps, b = a.block) w (w2.setCell a (.int .i64 (v : Int))) ∧ Places (w2.setCell a (.int .i64 (v : Int))) r ps ∧ ∀ b, b < w.heap.size → b ≠ r → (w2.setCell a (.int .i64 (v : Int))).heap[b]? = (putN w (ps.take (k + 1)) (Rd.ints (k + 1) R).1).heap[b]? from by
        rw [Hsn.out, HTk.out]
        refine ⟨HR2.out.chg (Chg.setCell w2 a _) (fun e => HP2.out.ne a Ham.out e.symm) (fun k hk e => (HA.out k hk).2 a Ham.out e), ?_, HP2.out.set Ham.out _, fun b hb hbr => ?_⟩
        · exact (HX.out.1.trans (HC2.out.mono (T := fun b => b = r ∨ ∃ a ∈ ps, b = a.block) fun _ _ e => .inl e) fun _ _ e => e).trans ((Chg.setCell w2 a (.int .i64 (v : Int))).mono (T := fun b => b = r ∨ ∃ a ∈ ps, b = a.block) fun _ _ e => .inr ⟨a, Ham.out, e⟩) fun _ _ e => e
        · rw [putN_snoc _ _ _ _ _ Hlen.out]
          exact setCell_heap _ _ ((HC2.out.block b (Nat.lt_of_lt_of_le hb HX.out.1.size) hbr).trans (HX.out.2.2 b hb hbr)))
      go_roundw
      case rel => exact ⟨k + 1, by omega, by go_num, HE.out⟩
      case measure => simp [intOf]; omega
    · have hkn : k = n := by omega
      have het : ps.take k = ps := List.take_of_length_le (by rw [Hn.out]; omega)
      rw [het, hkn] at hpu
      rw [hkn] at hrd
      have HE := Lib.hid (show NumsTold A w r R ps wr from ⟨by rw [Hn.out]; exact hrd, hch, by rw [Hn.out]; exact hpu⟩)
      clear hrd hch hpl hpu het hkn
      go_wp2_with fail
      go_end0
      exact ⟨rfl, HE.out⟩

end Go.Proofs.YtogdfkilhpkloaaGreatDoor

namespace Go.Proofs.YtogdfkilhpkloaaGreatDoor
open Go.Sat

/-- So many of each item. -/
structure It where
  a : Int
  b : Int
  c : Int
  d : Int
theorem It.ext' {x y : It} (h1 : x.a = y.a) (h2 : x.b = y.b) (h3 : x.c = y.c) (h4 : x.d = y.d) : x = y := by
  cases x
  cases y
  simp_all
instance : DecidableEq It := fun x y => decidable_of_iff (x.a = y.a ∧ x.b = y.b ∧ x.c = y.c ∧ x.d = y.d) ⟨fun h => It.ext' h.1 h.2.1 h.2.2.1 h.2.2.2, fun h => by subst h; exact ⟨rfl, rfl, rfl, rfl⟩⟩
namespace It
def zero : It := ⟨0, 0, 0, 0⟩
def most : Int := 1152921504606846976
def in1 (n : Int) : Bool := decide (0 ≤ n) && decide (n ≤ most)
def is (x : It) : Bool := in1 x.a && in1 x.b && in1 x.c && in1 x.d
def one (k n : Int) : It := if 0 ≤ k ∧ k < 4 ∧ 0 ≤ n ∧ n ≤ most then (if k = 0 then ⟨n, 0, 0, 0⟩ else if k = 1 then ⟨0, n, 0, 0⟩ else if k = 2 then ⟨0, 0, n, 0⟩ else ⟨0, 0, 0, n⟩) else zero
def plus (x y : It) : It := ⟨x.a + y.a, x.b + y.b, x.c + y.c, x.d + y.d⟩
def less (x y : It) : Bool := decide (x.a < y.a) || decide (x.b < y.b) || decide (x.c < y.c) || decide (x.d < y.d)
def l (x : It) : List Int := [x.a, x.b, x.c, x.d]
end It
theorem It.is_iff {x : It} : x.is = true ↔ (0 ≤ x.a ∧ x.a ≤ 1152921504606846976) ∧ (0 ≤ x.b ∧ x.b ≤ 1152921504606846976) ∧ (0 ≤ x.c ∧ x.c ≤ 1152921504606846976) ∧ (0 ≤ x.d ∧ x.d ≤ 1152921504606846976) := by
  unfold It.is It.in1 It.most
  simp [and_assoc]

/-- A request. -/
structure OpM where
  kind : Int
  client : Int
  seq : Int
  atK : ByteArray
  atW : ByteArray
  toK : ByteArray
  toW : ByteArray
  item : Int
  count : Int
  price : Int
  buy : Bool
  id : Int
def s0 : ByteArray := ⟨#[]⟩
def isPl (k w : ByteArray) : Bool := decide (1 ≤ k.size) && decide (k.size ≤ 16) && decide (1 ≤ w.size) && decide (w.size ≤ 16)
namespace OpM
def zero : OpM := ⟨0, 0, 0, s0, s0, s0, s0, 0, 0, 0, false, 0⟩
/-- Nothing else than what is named. -/
def noTo (o : OpM) : Bool := decide (o.toK = s0) && decide (o.toW = s0)
def cnt (o : OpM) : Bool := decide (0 ≤ o.item) && decide (o.item < 4) && decide (1 ≤ o.count) && decide (o.count ≤ 1048576)
def bare (o : OpM) : Bool := o.noTo && decide (o.item = 0) && decide (o.count = 0) && decide (o.price = 0) && !o.buy && decide (o.id = 0)
def names (o : OpM) : Bool :=
  if o.kind = 1 ∨ o.kind = 6 then o.cnt && o.noTo && decide (o.price = 0) && !o.buy && decide (o.id = 0)
  else if o.kind = 2 then isPl o.toK o.toW && o.cnt && decide (o.price = 0) && !o.buy && decide (o.id = 0)
  else if o.kind = 3 then decide (1 ≤ o.item) && decide (1 ≤ o.price) && decide (o.price ≤ 1024) && o.cnt && o.noTo && decide (o.id = 0)
  else if o.kind = 4 then decide (1 ≤ o.id) && decide (o.id ≤ 1099511627776) && o.noTo && decide (o.item = 0) && decide (o.count = 0) && decide (o.price = 0) && !o.buy
  else if o.kind = 5 ∨ o.kind = 7 then o.bare else false
def may (o : OpM) : Bool := decide (1 ≤ o.client) && decide (o.client ≤ 1048576) && decide (1 ≤ o.seq) && decide (o.seq ≤ 1099511627776) && isPl o.atK o.atW && o.names
def enc (o : OpM) : Bs := numsI [o.kind, o.client, o.seq] ++ (rowB o.atK.data.toList ++ rowB o.atW.data.toList ++ rowB o.toK.data.toList ++ rowB o.toW.data.toList) ++ numsI [o.item, o.count, o.price, if o.buy then 1 else 0, o.id]
end OpM
def bsA (b : Bs) : ByteArray := ⟨b.toArray⟩
/-- What bytes are read as, and what is left. -/
def opRd (b : Bs) : OpM × Rd :=
  let n1 := Rd.num ⟨b, false⟩
  let n2 := n1.2.num
  let n3 := n2.2.num
  let b1 := n3.2.bytes
  let b2 := b1.2.bytes
  let b3 := b2.2.bytes
  let b4 := b3.2.bytes
  let m1 := b4.2.num
  let m2 := m1.2.num
  let m3 := m2.2.num
  let m4 := m3.2.num
  let m5 := m4.2.num
  (⟨n1.1, n2.1, n3.1, bsA b1.1, bsA b2.1, bsA b3.1, bsA b4.1, m1.1, m2.1, m3.1, decide (m4.1 = 1), m5.1⟩, m5.2)
def opDec (b : Bs) : Option OpM := if (opRd b).2.whole = true ∧ (opRd b).1.may = true ∧ (opRd b).1.enc = b then some (opRd b).1 else none
theorem numI_of {z : Int} (h : 0 ≤ z ∧ z ≤ 4611686018427387904) (r : Bs) (b : Bool) : Rd.num ⟨numI z ++ r, b⟩ = (z.toNat, ⟨r, b⟩) := by
  obtain ⟨n, rfl⟩ : ∃ n : Nat, z = (n : Int) := ⟨z.toNat, by omega⟩
  rw [numI_nat (by omega), Rd.num_of (by omega), Int.toNat_natCast]
theorem OpM.may_iff {o : OpM} (h : o.may = true) : (1 ≤ o.client ∧ o.client ≤ 1048576) ∧ (1 ≤ o.seq ∧ o.seq ≤ 1099511627776) ∧ isPl o.atK o.atW = true ∧ o.names = true := by
  unfold OpM.may at h
  simp only [Bool.and_eq_true, decide_eq_true_eq] at h
  exact ⟨⟨h.1.1.1.1.1, h.1.1.1.1.2⟩, ⟨h.1.1.1.2, h.1.1.2⟩, h.1.2, h.2⟩
/-- What the numbers and rows of a request that may be are bounded by. -/
theorem OpM.names_le {o : OpM} (h : o.names = true) : (1 ≤ o.kind ∧ o.kind ≤ 7) ∧ (0 ≤ o.item ∧ o.item < 4) ∧ (0 ≤ o.count ∧ o.count ≤ 1048576) ∧ (0 ≤ o.price ∧ o.price ≤ 1024) ∧ (0 ≤ o.id ∧ o.id ≤ 1099511627776) ∧ o.toK.size ≤ 16 ∧ o.toW.size ≤ 16 := by
  have hs0 : s0.size = 0 := rfl
  unfold OpM.names OpM.bare OpM.cnt OpM.noTo isPl at h
  have hz : ∀ {x : ByteArray}, x = s0 → x.size ≤ 16 := fun e => by rw [e]; decide
  split at h
  · simp only [Bool.and_eq_true, decide_eq_true_eq, Bool.not_eq_true'] at h
    exact ⟨by omega, by omega, by omega, by omega, by omega, hz h.1.1.1.2.1, hz h.1.1.1.2.2⟩
  split at h
  · simp only [Bool.and_eq_true, decide_eq_true_eq, Bool.not_eq_true'] at h
    exact ⟨by omega, by omega, by omega, by omega, by omega, by omega, by omega⟩
  split at h
  · simp only [Bool.and_eq_true, decide_eq_true_eq, Bool.not_eq_true'] at h
    exact ⟨by omega, by omega, by omega, by omega, by omega, hz h.1.2.1, hz h.1.2.2⟩
  split at h
  · simp only [Bool.and_eq_true, decide_eq_true_eq, Bool.not_eq_true'] at h
    exact ⟨by omega, by omega, by omega, by omega, by omega, hz h.1.1.1.1.2.1, hz h.1.1.1.1.2.2⟩
  split at h
  · simp only [Bool.and_eq_true, decide_eq_true_eq, Bool.not_eq_true'] at h
    exact ⟨by omega, by omega, by omega, by omega, by omega, hz h.1.1.1.1.1.1, hz h.1.1.1.1.1.2⟩
  · cases h
theorem isPl_iff {k w : ByteArray} (h : isPl k w = true) : (1 ≤ k.size ∧ k.size ≤ 16) ∧ 1 ≤ w.size ∧ w.size ≤ 16 := by
  unfold isPl at h
  simp only [Bool.and_eq_true, decide_eq_true_eq] at h
  omega
theorem bsA_of (s : ByteArray) : bsA s.data.toList = s := by
  unfold bsA
  simp
set_option maxRecDepth 4000 in
theorem opRd_enc {o : OpM} (h : o.may = true) : opRd o.enc = (o, ⟨[], false⟩) := by
  obtain ⟨⟨c1, c2⟩, ⟨q1, q2⟩, hp, hn⟩ := OpM.may_iff h
  obtain ⟨⟨k1, k2⟩, ⟨i1, i2⟩, ⟨n1, n2⟩, ⟨p1, p2⟩, ⟨d1, d2⟩, t1, t2⟩ := OpM.names_le hn
  obtain ⟨⟨-, a2⟩, -, w2⟩ := isPl_iff hp
  have hl : ∀ s : ByteArray, s.size ≤ 16 → s.data.toList.length ≤ 4611686018427387904 := fun s hs => by
    have : s.data.toList.length = s.size := by rw [Array.length_toList]; rfl
    omega
  have hbuy : 0 ≤ (if o.buy then (1 : Int) else 0) ∧ (if o.buy then (1 : Int) else 0) ≤ 4611686018427387904 := by cases o.buy <;> decide
  have hdec : decide ((if o.buy then (1 : Int) else 0).toNat = 1) = o.buy := by cases o.buy <;> rfl
  unfold opRd OpM.enc
  simp only [numsI, List.map_cons, List.map_nil, List.flatten_cons, List.flatten_nil, List.append_nil, List.append_assoc, numI_of ⟨(by omega : 0 ≤ o.kind), (by omega : o.kind ≤ 4611686018427387904)⟩, numI_of ⟨(by omega : 0 ≤ o.client), (by omega : o.client ≤ 4611686018427387904)⟩, numI_of ⟨(by omega : 0 ≤ o.seq), (by omega : o.seq ≤ 4611686018427387904)⟩,
    Rd.bytes_of (hl _ a2), Rd.bytes_of (hl _ w2), Rd.bytes_of (hl _ t1), Rd.bytes_of (hl _ t2), numI_of ⟨i1, (by omega : o.item ≤ 4611686018427387904)⟩, numI_of ⟨n1, (by omega : o.count ≤ 4611686018427387904)⟩, numI_of ⟨p1, (by omega : o.price ≤ 4611686018427387904)⟩, numI_of hbuy]
  have hid := numI_of ⟨d1, (by omega : o.id ≤ 4611686018427387904)⟩ [] false
  rw [List.append_nil] at hid
  simp only [hid, bsA_of, hdec, Int.toNat_of_nonneg (show 0 ≤ o.kind by omega), Int.toNat_of_nonneg (show 0 ≤ o.client by omega), Int.toNat_of_nonneg (show 0 ≤ o.seq by omega), Int.toNat_of_nonneg i1, Int.toNat_of_nonneg n1, Int.toNat_of_nonneg p1, Int.toNat_of_nonneg d1]
theorem opDec_enc {o : OpM} (h : o.may = true) : opDec o.enc = some o := by
  unfold opDec
  rw [opRd_enc h, if_pos ⟨rfl, h, rfl⟩]
end Go.Proofs.YtogdfkilhpkloaaGreatDoor

namespace Go.Sat
open Go.RowKit
open Go.Maps (Keyed)

class OrdK (κ : Type) where
  dec : DecidableEq κ
  lt : κ → κ → Bool
  irr : ∀ a, lt a a = false
  tr : ∀ {a b c}, lt a b = true → lt b c = true → lt a c = true
  tot : ∀ {a b}, a ≠ b → lt a b = true ∨ lt b a = true
instance decK {κ : Type} [OrdK κ] : DecidableEq κ := OrdK.dec
instance ordBs : OrdK Bs := ⟨inferInstance, bytesBefore, bb_irrefl, bb_trans, fun h => bb_total _ _ h⟩
instance ordInt : OrdK Int := ⟨inferInstance, fun a b => decide (a < b), fun a => by simp, fun h k => by simp at h k ⊢; omega, fun h => by simp; omega⟩
instance ordII : OrdK (Int × Int) := ⟨inferInstance, fun a b => decide (a.1 < b.1 ∨ (a.1 = b.1 ∧ a.2 < b.2)), fun a => by simp, fun h k => by simp at h k ⊢; omega, fun {a b} h => by
  have : ¬ (a.1 = b.1 ∧ a.2 = b.2) := fun e => h (Prod.ext e.1 e.2)
  simp
  omega⟩

section
variable {κ α β : Type} [OrdK κ]

def kget (n : κ) (L : List (κ × α)) : Option α := (L.find? (fun p => p.1 == n)).map (·.2)
def kdel (n : κ) (L : List (κ × α)) : List (κ × α) := L.filter (fun p => !(p.1 == n))
def kins (x : κ × α) : List (κ × α) → List (κ × α)
  | [] => [x]
  | y :: r => if OrdK.lt x.1 y.1 then x :: y :: r else y :: kins x r
def kput (n : κ) (a : α) (L : List (κ × α)) : List (κ × α) := kins (n, a) (kdel n L)
def KSrt (L : List (κ × α)) : Prop := L.Pairwise (fun p q => OrdK.lt p.1 q.1 = true)
theorem k_bb_irrefl (a : κ) : OrdK.lt a a = false := OrdK.irr a
theorem k_bb_trans {a b c : κ} (h : OrdK.lt a b = true) (k : OrdK.lt b c = true) : OrdK.lt a c = true := OrdK.tr h k
theorem k_bb_total (a b : κ) (h : a ≠ b) : OrdK.lt a b = true ∨ OrdK.lt b a = true := OrdK.tot h
theorem k_bb_ne {a b : κ} (h : OrdK.lt a b = true) : a ≠ b := by
  rintro rfl
  rw [k_bb_irrefl] at h
  cases h

theorem k_srt_del {n : κ} {L : List (κ × α)} (h : KSrt L) : KSrt (kdel n L) := h.filter _

theorem k_mem_ins {x y : κ × α} : ∀ {L : List (κ × α)}, y ∈ kins x L ↔ y = x ∨ y ∈ L
  | [] => by simp [kins]
  | z :: r => by
    unfold kins
    split
    · simp
    · simp [k_mem_ins (L := r)]
      constructor
      · rintro (h | h | h) <;> simp [h]
      · rintro (h | h | h) <;> simp [h]

theorem k_ins_perm (x : κ × α) : ∀ (L : List (κ × α)), (kins x L).Perm (x :: L)
  | [] => List.Perm.refl _
  | z :: r => by
    unfold kins
    split
    · exact List.Perm.refl _
    · exact ((k_ins_perm x r).cons z).trans (List.Perm.swap x z r)

theorem k_srt_ins {x : κ × α} : ∀ {L : List (κ × α)}, KSrt L → (∀ p ∈ L, p.1 ≠ x.1) → KSrt (kins x L)
  | [], _, _ => by simp [kins, KSrt]
  | y :: r, h, hne => by
    obtain ⟨h1, h2⟩ := List.pairwise_cons.1 h
    unfold kins
    split
    · rename_i hb
      refine List.pairwise_cons.2 ⟨fun q hq => ?_, h⟩
      rcases List.mem_cons.1 hq with rfl | hq
      · exact hb
      · exact k_bb_trans hb (h1 q hq)
    · rename_i hb
      have hyx : OrdK.lt y.1 x.1 = true := by
        rcases k_bb_total x.1 y.1 (hne y (by simp)).symm with h' | h'
        · exact absurd h' hb
        · exact h'
      refine List.pairwise_cons.2 ⟨fun q hq => ?_, k_srt_ins h2 (fun p hp => hne p (by simp [hp]))⟩
      rcases k_mem_ins.1 hq with rfl | hq
      · exact hyx
      · exact h1 q hq

theorem k_mem_del {n : κ} {p : κ × α} {L : List (κ × α)} : p ∈ kdel n L ↔ p ∈ L ∧ p.1 ≠ n := by
  simp [kdel]

theorem k_srt_put {n : κ} {a : α} {L : List (κ × α)} (h : KSrt L) : KSrt (kput n a L) :=
  k_srt_ins (k_srt_del h) fun _ hp => (k_mem_del.1 hp).2

theorem k_mem_put {n : κ} {a : α} {p : κ × α} {L : List (κ × α)} : p ∈ kput n a L ↔ p = (n, a) ∨ (p ∈ L ∧ p.1 ≠ n) := by
  unfold kput
  rw [k_mem_ins, k_mem_del]

theorem k_put_perm (n : κ) (a : α) (L : List (κ × α)) : (kput n a L).Perm ((n, a) :: kdel n L) := k_ins_perm _ _

theorem k_get_none {n : κ} {L : List (κ × α)} : kget n L = none ↔ ∀ p ∈ L, p.1 ≠ n := by
  simp [kget, List.find?_eq_none]

theorem k_get_mem {n : κ} {a : α} {L : List (κ × α)} (h : kget n L = some a) : (n, a) ∈ L := by
  simp only [kget, Option.map_eq_some_iff] at h
  obtain ⟨p, hp, rfl⟩ := h
  have h1 := List.mem_of_find?_eq_some hp
  have h2 := List.find?_some hp
  simp at h2
  rw [← h2]
  exact h1

theorem k_key_uniq {L : List (κ × α)} (h : KSrt L) {p q : κ × α} (hp : p ∈ L) (hq : q ∈ L) (e : p.1 = q.1) : p = q := by
  induction L with
  | nil => simp at hp
  | cons y r ih =>
    obtain ⟨h1, h2⟩ := List.pairwise_cons.1 h
    rcases List.mem_cons.1 hp with e1 | hp1
    · rcases List.mem_cons.1 hq with e2 | hq1
      · rw [e1, e2]
      · exact absurd (e1 ▸ e) (k_bb_ne (h1 q hq1))
    · rcases List.mem_cons.1 hq with e2 | hq1
      · exact absurd (e2 ▸ e).symm (k_bb_ne (h1 p hp1))
      · exact ih h2 hp1 hq1

theorem k_get_of_mem {L : List (κ × α)} (h : KSrt L) {n : κ} {a : α} (hm : (n, a) ∈ L) : kget n L = some a := by
  cases hg : kget n L with
  | none => exact absurd rfl (k_get_none.1 hg _ hm)
  | some b =>
    have := k_key_uniq h hm (k_get_mem hg) rfl
    simp at this
    rw [this]

theorem k_get_iff {L : List (κ × α)} (h : KSrt L) {n : κ} {a : α} : kget n L = some a ↔ (n, a) ∈ L := ⟨k_get_mem, k_get_of_mem h⟩

theorem k_get_put_same {L : List (κ × α)} (h : KSrt L) (n : κ) (a : α) : kget n (kput n a L) = some a :=
  k_get_of_mem (k_srt_put h) (k_mem_put.2 (.inl rfl))

theorem k_get_put_other {L : List (κ × α)} (h : KSrt L) {n m : κ} (a : α) (hne : m ≠ n) : kget m (kput n a L) = kget m L := by
  cases hg : kget m L with
  | none =>
    rw [k_get_none] at hg ⊢
    intro p hp
    rcases k_mem_put.1 hp with rfl | ⟨hp, _⟩
    · exact hne.symm
    · exact hg p hp
  | some b => exact k_get_of_mem (k_srt_put h) (k_mem_put.2 (.inr ⟨k_get_mem hg, hne⟩))

/-- Another thing in each place, under the same names. -/
def kmp (g : α → β) (L : List (κ × α)) : List (κ × β) := L.map fun p => (p.1, g p.2)

theorem k_mp_ins (g : α → β) (x : κ × α) : ∀ L : List (κ × α), kmp g (kins x L) = kins (x.1, g x.2) (kmp g L)
  | [] => rfl
  | y :: r => by
    simp only [kins, kmp, List.map_cons]
    split
    · simp
    · simp only [List.map_cons]
      rw [show List.map (fun p : κ × α => (p.1, g p.2)) (kins x r) = kmp g (kins x r) from rfl, k_mp_ins g x r]
      rfl

theorem k_mp_del (g : α → β) (n : κ) (L : List (κ × α)) : kmp g (kdel n L) = kdel n (kmp g L) := by
  simp only [kmp, kdel, List.filter_map]
  rfl

theorem k_mp_put (g : α → β) (n : κ) (a : α) (L : List (κ × α)) : kmp g (kput n a L) = kput n (g a) (kmp g L) := by
  simp only [kput, k_mp_ins, k_mp_del]

theorem k_mp_get (g : α → β) (n : κ) (L : List (κ × α)) : kget n (kmp g L) = (kget n L).map g := by
  simp only [kget, kmp, List.find?_map, Option.map_map]
  rfl

theorem k_mp_srt {g : α → β} {L : List (κ × α)} (h : KSrt L) : KSrt (kmp g L) := by
  unfold KSrt kmp
  rw [List.pairwise_map]
  exact h

/-- Two sorted lists that give the same at every name are one. -/
theorem k_srt_ext {L M : List (κ × α)} (hL : KSrt L) (hM : KSrt M) (h : ∀ n, kget n L = kget n M) : L = M := by
  have hmem : ∀ p, p ∈ L ↔ p ∈ M := fun p => by rw [← k_get_iff hL (n := p.1) (a := p.2), h, k_get_iff hM]
  induction L generalizing M with
  | nil =>
    cases M with
    | nil => rfl
    | cons y s => exact absurd ((hmem y).2 (by simp)) (by simp)
  | cons x r ih =>
    cases M with
    | nil => exact absurd ((hmem x).1 (by simp)) (by simp)
    | cons y s =>
      obtain ⟨x1, x2⟩ := List.pairwise_cons.1 hL
      obtain ⟨y1, y2⟩ := List.pairwise_cons.1 hM
      have hxy : x = y := by
        rcases List.mem_cons.1 ((hmem x).1 (by simp)) with e | hx
        · exact e
        · rcases List.mem_cons.1 ((hmem y).2 (by simp)) with e | hy
          · exact e.symm
          · have a1 := y1 x hx
            have a2 := x1 y hy
            have := k_bb_trans a1 a2
            rw [k_bb_irrefl] at this
            cases this
      subst hxy
      have hr : r = s := by
        refine ih x2 y2 (fun n => ?_) (fun p => ?_)
        · by_cases hn : x.1 = n
          · have e1 : kget n r = none := k_get_none.2 fun p hp e => k_bb_ne (x1 p hp) (hn.trans e.symm)
            have e2 : kget n s = none := k_get_none.2 fun p hp e => k_bb_ne (y1 p hp) (hn.trans e.symm)
            rw [e1, e2]
          · have := h n
            simp only [kget, List.find?_cons] at this
            rw [show (x.1 == n) = false by simpa using hn] at this
            exact this
        · have := hmem p
          simp only [List.mem_cons] at this
          constructor
          · intro hp
            rcases this.1 (.inr hp) with e | e
            · subst e
              exact absurd rfl (k_bb_ne (x1 p hp))
            · exact e
          · intro hp
            rcases this.2 (.inr hp) with e | e
            · subst e
              exact absurd rfl (k_bb_ne (y1 p hp))
            · exact e
      rw [hr]

end

/-! ### The reading of a map in memory. -/
section
variable {κ α : Type} [OrdK κ]

/-- Keys as the model of maps reads them. -/
structure KeyR (P : Program) (k : TypeId) (κ : Type) where
  v : κ → Value
  lit : κ → Lit
  ok : κ → Prop
  key : ∀ a, ok a → keyOf P k (v a) = some (lit a)
  inj : ∀ a b, ok a → ok b → lit a = lit b → a = b
  back : ∀ x l, keyOf P k x = some l → ∀ a, ok a → l = lit a → x = v a
/-- Elements as the model of maps reads them. -/
structure ElemR (α : Type) where
  R : Value → Option (DataW Nat × List MemPlace)
  val : α → Value
  g : α → DataW Nat
  z : Value
  zd : DataW Nat
  ok : α → Prop
  rd : ∀ x, ok x → R (val x) = some (g x, [])
  inv : ∀ v y x, R v = some y → y.1 = g x → v = val x
  zmk : R z = some (zd, [])
  zinv : ∀ v y, R v = some y → y.1 = zd → v = z
/-- The map at block b reads as L: each key in it may be one. -/
def MapIs (w : World) (P : Program) (k : TypeId) (K : KeyR P k κ) (E : ElemR α) (b : Nat) (L : List (κ × α)) : Prop :=
  ∃ es, w.ownsMap P k E.R b L.length (.map es) ∧ es.Perm (L.map fun p => (K.lit p.1, E.g p.2)) ∧ KSrt L ∧ ∀ p ∈ L, K.ok p.1

section
variable {P : Program} {k : TypeId} {K : KeyR P k κ} {E : ElemR α} {w w' : World} {b : Nat} {L : List (κ × α)}
theorem MapIs.keep (h : MapIs w P k K E b L) (hb : w'.heap[b]? = w.heap[b]?) : MapIs w' P k K E b L := by
  obtain ⟨es, ⟨xs, clock, hm, r⟩, h2⟩ := h
  exact ⟨es, ⟨xs, clock, hb.trans hm, r⟩, h2⟩
theorem MapIs.lt (h : MapIs w P k K E b L) : b < w.heap.size := let ⟨_, h, _⟩ := h; h.lt
theorem MapIs.srt (h : MapIs w P k K E b L) : KSrt L := let ⟨_, _, _, h, _⟩ := h; h
theorem mapIs_made (w : World) : MapIs (w.alloc (.map #[] 0)) P k K E w.heap.size ([] : List (κ × α)) :=
  ⟨[], w.ownsMap_made P k E.R, List.Perm.refl _, List.Pairwise.nil, fun p hp => by cases hp⟩
theorem atKey_map (es : List (Lit × DataW Nat)) (l : Lit) (zd : DataW Nat) : (DataW.map es).atKey l zd = ((es.find? fun p => p.1.sameKey l).map (·.2)).getD zd := by
  simp only [DataW.atKey]
  cases es.find? (fun p => p.1.sameKey l) <;> rfl
theorem uniq_find {l : List (Lit × DataW Nat)} {f : Lit × DataW Nat → Bool} {x : Lit × DataW Nat} (hm : x ∈ l) (hf : f x = true) (hu : ∀ y ∈ l, f y = true → y = x) : l.find? f = some x := by
  cases h : l.find? f with
  | none => exact absurd hf (by have := List.find?_eq_none.1 h x hm; simpa using this)
  | some y => rw [hu y (List.mem_of_find?_eq_some h) (List.find?_some h)]
/-- What is read at a key. -/
theorem MapIs.at (h : MapIs w P k K E b L) (Ky : Keyed P k) {a : κ} (ha : K.ok a) : ∃ es, w.ownsMap P k E.R b L.length (.map es) ∧ (∀ zd, (DataW.map es).atKey (K.lit a) zd = ((kget a L).map E.g).getD zd) ∧ Maps.has (DataW.map es) (K.lit a) = (kget a L).isSome := by
  obtain ⟨es, hm, hp, hs, hk⟩ := h
  have hkl : ∀ p ∈ es, WideAt.IsKeyLit p.1 := by
    obtain ⟨es', e, -, h3⟩ := hm.entries Ky
    cases e
    exact h3
  have hka := Ky.key (K.key a ha)
  have hmem : ∀ p, p ∈ es ↔ ∃ q ∈ L, (K.lit q.1, E.g q.2) = p := fun p => by rw [hp.mem_iff, List.mem_map]
  have hsame : ∀ {q : κ × α}, q ∈ L → (K.lit q.1).sameKey (K.lit a) = true → q.1 = a := fun {q} hq e => K.inj _ _ (hk q hq) ha (WideAt.sameKey_eq e)
  refine ⟨es, hm, fun zd => ?_, ?_⟩
  · rw [atKey_map]
    cases hg : kget a L with
    | none =>
      rw [List.find?_eq_none.2 fun p hpp e => ?_]
      · rfl
      · obtain ⟨q, hq, rfl⟩ := (hmem p).1 hpp
        exact k_get_none.1 hg q hq (hsame hq e)
    | some x =>
      have hx := k_get_mem hg
      rw [uniq_find ((hmem (K.lit a, E.g x)).2 ⟨(a, x), hx, rfl⟩) (WideAt.sameKey_self hka) fun y hy e => ?_]
      · rfl
      · obtain ⟨q, hq, rfl⟩ := (hmem y).1 hy
        have := k_key_uniq hs hq hx (hsame hq e)
        rw [this]
  · show es.any (fun p => p.1.sameKey (K.lit a)) = _
    cases hg : kget a L with
    | none =>
      rw [Option.isSome_none, List.any_eq_false]
      intro p hpp e
      obtain ⟨q, hq, rfl⟩ := (hmem p).1 hpp
      exact k_get_none.1 hg q hq (hsame hq e)
    | some x =>
      rw [Option.isSome_some, List.any_eq_true]
      exact ⟨_, (hmem _).2 ⟨(a, x), k_get_mem hg, rfl⟩, WideAt.sameKey_self hka⟩
def valOr (E : ElemR α) (o : Option α) : Value := match o with | some x => E.val x | none => E.z
theorem MapIs.look (h : MapIs w P k K E b L) (Ky : Keyed P k) {t e : TypeId} (ht : P.underlying t = some (.map k e)) (hz : (zeroValue e).run P w = .ok E.z w) {a : κ} (ha : K.ok a) :
    (Instr.lookup t (.map (some b)) (K.v a) false).run P w = .ok (valOr E (kget a L)) w := by
  obtain ⟨es, hm, hat, -⟩ := h.at Ky ha
  obtain ⟨v, ps, hrun, hv⟩ := hm.lookup Ky ht hz E.zmk (K.key a ha)
  rw [hrun]
  rw [hat] at hv
  cases hg : kget a L with
  | none =>
    rw [hg] at hv
    rw [E.zinv v _ hv rfl]
    rfl
  | some x =>
    rw [hg] at hv
    rw [E.inv v _ x hv rfl]
    rfl
theorem MapIs.look_ok (h : MapIs w P k K E b L) (Ky : Keyed P k) {t e : TypeId} (ht : P.underlying t = some (.map k e)) (hz : (zeroValue e).run P w = .ok E.z w) {a : κ} (ha : K.ok a) :
    (Instr.lookup t (.map (some b)) (K.v a) true).run P w = .ok (.tuple #[valOr E (kget a L), .bool (kget a L).isSome]) w := by
  obtain ⟨es, hm, hat, hh⟩ := h.at Ky ha
  obtain ⟨v, ps, hrun, hv⟩ := hm.look_ok Ky ht hz E.zmk (K.key a ha)
  rw [hrun, hh]
  rw [hat] at hv
  cases hg : kget a L with
  | none =>
    rw [hg] at hv
    rw [E.zinv v _ hv rfl]
    rfl
  | some x =>
    rw [hg] at hv
    rw [E.inv v _ x hv rfl]
    rfl
theorem MapIs.len (h : MapIs w P k K E b L) {t e : TypeId} (ht : P.underlying t = some (.map k e)) (ty : TypeId) : (Builtin.len_ #[t] ty #[.map (some b)]).run P w = .ok (.int .i64 (L.length : Int)) w := by
  obtain ⟨es, hm, hp, -⟩ := h
  have h1 := hm.len ht ty
  rw [show Maps.size (DataW.map es) = L.length from by show es.length = _; rw [hp.length_eq, List.length_map]] at h1
  exact h1
theorem filter_key {a : κ} (ha : K.ok a) (hka : WideAt.IsKeyLit (K.lit a)) {es : List (Lit × DataW Nat)} (hp : es.Perm (L.map fun p => (K.lit p.1, E.g p.2))) (hk : ∀ p ∈ L, K.ok p.1) :
    (es.filter (ChangeMaps.notKey (K.lit a))).Perm ((kdel a L).map fun p => (K.lit p.1, E.g p.2)) := by
  refine (hp.filter _).trans ?_
  rw [List.filter_map]
  unfold kdel
  refine List.Perm.of_eq (congrArg _ (List.filter_congr fun p hpl => ?_))
  show (!(K.lit p.1).sameKey (K.lit a)) = !(p.1 == a)
  congr 1
  by_cases e : p.1 = a
  · rw [e, WideAt.sameKey_self hka]
    simp
  · rw [show (p.1 == a) = false by simpa using e]
    cases h : (K.lit p.1).sameKey (K.lit a) with
    | false => rfl
    | true => exact absurd (K.inj _ _ (hk p hpl) ha (WideAt.sameKey_eq h)) e
theorem MapIs.store (h : MapIs w P k K E b L) (Ky : Keyed P k) {t e : TypeId} (ht : P.underlying t = some (.map k e)) (hn : L.length < maxLen) {a : κ} (ha : K.ok a) {x : α} (hx : E.ok x) :
    ∃ w', (Instr.mapUpdate t (.map (some b)) (K.v a) (E.val x)).run P w = .ok () w' ∧ MapIs w' P k K E b (kput a x L) ∧ w.mapTurned w' b := by
  obtain ⟨es, hm, hp, hs, hk⟩ := h
  obtain ⟨w', hrun, hm', ht'⟩ := hm.store Ky ht hn (K.key a ha) (E.rd x hx)
  have hka := Ky.key (K.key a ha)
  have hp2 := ((WideShapes.insert_perm (K.lit a, E.g x) _).trans ((filter_key ha hka hp hk).cons (K.lit a, E.g x))).trans ((k_put_perm a x L).symm.map fun p : κ × α => (K.lit p.1, E.g p.2))
  have hsz : Maps.size (DataW.map (ChangeMaps.putKey (K.lit a) (E.g x) es)) = (kput a x L).length := by
    rw [show Maps.size (DataW.map (ChangeMaps.putKey (K.lit a) (E.g x) es)) = (DataW.insert (K.lit a, E.g x) (es.filter (ChangeMaps.notKey (K.lit a)))).length from rfl, hp2.length_eq, List.length_map]
  refine ⟨w', hrun, ⟨ChangeMaps.putKey (K.lit a) (E.g x) es, ?_, hp2, k_srt_put hs, fun p hpp => ?_⟩, ht'⟩
  · rw [← hsz]
    exact exactly hm'
  · rcases k_mem_put.1 hpp with rfl | ⟨h1, -⟩
    · exact ha
    · exact hk p h1
theorem MapIs.drop (h : MapIs w P k K E b L) (Ky : Keyed P k) {t e : TypeId} (ht : P.underlying t = some (.map k e)) {a : κ} (ha : K.ok a) (ty : TypeId) :
    ∃ w', (Builtin.delete_ #[t, k] ty #[.map (some b), K.v a]).run P w = .ok (.tuple #[]) w' ∧ MapIs w' P k K E b (kdel a L) ∧ w.mapTurned w' b := by
  obtain ⟨es, hm, hp, hs, hk⟩ := h
  have hka := Ky.key (K.key a ha)
  obtain ⟨w', hrun, hm', ht'⟩ := hm.drop Ky ht (K.key a ha) ty
  have hp2 := filter_key ha hka hp hk
  have hsz : Maps.size (DataW.map (ChangeMaps.delKey (K.lit a) es)) = (kdel a L).length := by
    show (ChangeMaps.delKey (K.lit a) es).length = _
    rw [show ChangeMaps.delKey (K.lit a) es = es.filter (ChangeMaps.notKey (K.lit a)) from rfl, hp2.length_eq, List.length_map]
  refine ⟨w', hrun, ⟨ChangeMaps.delKey (K.lit a) es, ?_, hp2, k_srt_del hs, fun p hpp => hk p (k_mem_del.1 hpp).1⟩, ht'⟩
  rw [← hsz]
  exact exactly hm'
/-- A range over the map under way: rest is still to come. -/
def RangeIs (w : World) (P : Program) (k : TypeId) (K : KeyR P k κ) (E : ElemR α) (b r : Nat) (L rest : List (κ × α)) (cnt : Nat) : Prop :=
  ∃ es left, w.ranges P k E.R b r L.length (.map es) left cnt ∧ es.Perm (L.map fun p => (K.lit p.1, E.g p.2)) ∧ KSrt L ∧ (∀ p ∈ L, K.ok p.1) ∧ rest = L.filter (fun p => left (K.lit p.1)) ∧ ∀ kl, left kl = true → ∃ p ∈ L, K.lit p.1 = kl
theorem MapIs.range (h : MapIs w P k K E b L) (Ky : Keyed P k) {t e : TypeId} (ht : P.underlying t = some (.map k e)) :
    ∃ w', (Instr.range t (.map (some b))).run P w = .ok (.pointer (some ⟨w.heap.size, 0, none⟩)) w' ∧ RangeIs w' P k K E b w.heap.size L L L.length ∧ w.grownBy w' none ∧ w'.heap.size = w.heap.size + 1 := by
  obtain ⟨es, hm, hp, hs, hk⟩ := h
  obtain ⟨w', h1, h2, h3, h4⟩ := hm.range Ky ht
  have hmem : ∀ p, p ∈ es ↔ ∃ q ∈ L, (K.lit q.1, E.g q.2) = p := fun p => by rw [hp.mem_iff, List.mem_map]
  have hsz : Maps.size (DataW.map es) = L.length := by
    rw [show Maps.size (DataW.map es) = es.length from rfl, hp.length_eq, List.length_map]
  rw [hsz] at h2
  refine ⟨w', h1, ⟨es, _, h2, hp, hs, hk, (List.filter_eq_self.2 fun p hpp => ?_).symm, fun kl hkl => ?_⟩, h3, h4⟩
  · show es.any (fun q => q.1.sameKey (K.lit p.1)) = true
    exact List.any_eq_true.2 ⟨_, (hmem _).2 ⟨p, hpp, rfl⟩, WideAt.sameKey_self (Ky.key (K.key _ (hk p hpp)))⟩
  · obtain ⟨q, hq, e⟩ := List.any_eq_true.1 (show es.any (fun q => q.1.sameKey kl) = true from hkl)
    obtain ⟨p, hpp, rfl⟩ := (hmem q).1 hq
    exact ⟨p, hpp, WideAt.sameKey_eq e⟩
theorem RangeIs.map {b r cnt : Nat} {rest : List (κ × α)} (h : RangeIs w P k K E b r L rest cnt) : MapIs w P k K E b L := let ⟨es, _, h1, h2, h3, h4, _⟩ := h; ⟨es, h1.owns, h2, h3, h4⟩
theorem RangeIs.next {r cnt : Nat} {rest : List (κ × α)} (h : RangeIs w P k K E b r L rest cnt) (Ky : Keyed P k) (ty : TypeId) :
    (rest = [] ∧ (Instr.next (.pointer (some ⟨r, 0, none⟩)) false ty).run P w = .ok (.tuple #[.bool false]) w) ∨
    ∃ p w' cnt', p ∈ rest ∧ p ∈ L ∧ (Instr.next (.pointer (some ⟨r, 0, none⟩)) false ty).run P w = .ok (.tuple #[.bool true, K.v p.1, E.val p.2]) w' ∧ RangeIs w' P k K E b r L (kdel p.1 rest) cnt' ∧ cnt' < cnt ∧ w.grownBy w' (some r) ∧ w'.heap.size = w.heap.size ∧ (Instr.entry (.pointer (some ⟨r, 0, none⟩))).run P w' = .ok (.tuple #[K.v p.1, E.val p.2]) w' := by
  obtain ⟨es, left, hr, hp, hs, hk, rfl, hl⟩ := h
  rcases hr.next Ky ty with ⟨-, h0, hrun⟩ | ⟨key, v, kl, y, w', cnt', hkey, hlk, hv, hat, hrun, hrg, hlt, hgr, hsz, hen⟩
  · exact .inl ⟨List.filter_eq_nil_iff.2 fun p _ => by rw [h0]; simp, hrun⟩
  · obtain ⟨p, hpL, rfl⟩ := hl kl hlk
    have hmem : ∀ p, p ∈ es ↔ ∃ q ∈ L, (K.lit q.1, E.g q.2) = p := fun p => by rw [hp.mem_iff, List.mem_map]
    have hka := Ky.key (K.key p.1 (hk p hpL))
    have hke := K.back key _ hkey p.1 (hk p hpL) rfl
    have hy : y.1 = E.g p.2 := by
      have h1 := hat .nil
      rw [atKey_map, uniq_find ((hmem (K.lit p.1, E.g p.2)).2 ⟨p, hpL, rfl⟩) (WideAt.sameKey_self hka) fun z hz e => ?_] at h1
      · exact h1.symm
      · obtain ⟨q, hq, rfl⟩ := (hmem z).1 hz
        rw [k_key_uniq hs hq hpL (K.inj _ _ (hk q hq) (hk p hpL) (WideAt.sameKey_eq e))]
    have hve := E.inv v y p.2 hv hy
    subst hke
    subst hve
    refine .inr ⟨p, w', cnt', List.mem_filter.2 ⟨hpL, hlk⟩, hpL, hrun, ⟨es, _, hrg, hp, hs, hk, ?_, fun kl hkl => hl kl (by simp at hkl; exact hkl.1)⟩, hlt, hgr, hsz, hen⟩
    unfold kdel
    rw [List.filter_filter]
    refine List.filter_congr fun q hq => ?_
    rw [Bool.and_comm]
    congr 1
    by_cases e : q.1 = p.1
    · rw [e, WideAt.sameKey_self hka]
      simp
    · rw [show (q.1 == p.1) = false by simpa using e]
      cases h : (K.lit q.1).sameKey (K.lit p.1) with
      | false => rfl
      | true => exact absurd (K.inj _ _ (hk q hq) (hk p hpL) (WideAt.sameKey_eq h)) e
end
end

/-! ### Kinds of keys -/
def bsV (b : Bs) : ByteArray := ⟨b.toArray⟩
theorem bsV_of (s : ByteArray) : bsV s.data.toList = s := by
  unfold bsV
  simp
theorem keyOf_string_inv' {P : Program} {k : TypeId} (hk : P.underlying k = some .string) {key : Value} {kl : Lit} (h : keyOf P k key = some kl) : ∃ s : ByteArray, key = .string s ∧ kl = .string s.data.toList ∧ s.size ≤ maxLen := by
  cases key <;> simp [keyOf, hk, mapKey] at h
  obtain ⟨h1, rfl⟩ := h
  exact ⟨_, rfl, rfl, h1⟩
def strK {P : Program} {k : TypeId} (hk : P.underlying k = some .string) : KeyR P k Bs where
  v b := .string (bsV b)
  lit b := .string b
  ok b := b.length ≤ maxLen
  key b h := by
    have := WideMaps.keyOf_string_mk (P := P) hk (s := bsV b) (by show b.toArray.size ≤ maxLen; simpa using h)
    simpa [bsV] using this
  inj a b _ _ e := by
    cases e
    rfl
  back x l h a _ e := by
    subst e
    obtain ⟨s, rfl, e, -⟩ := keyOf_string_inv' hk h
    cases e
    rw [bsV_of]
theorem strK_v {P : Program} {k : TypeId} (hk : P.underlying k = some .string) (s : ByteArray) : (strK hk).v s.data.toList = .string s := by
  show Value.string (bsV s.data.toList) = _
  rw [bsV_of]
def intK {P : Program} {k : TypeId} (hk : P.underlying k = some (.int .i64)) : KeyR P k Int where
  v n := .int .i64 n
  lit n := .int .i64 n
  ok n := (Lit.int .i64 n).wf = true
  key n h := Maps.keyOf_int_mk hk h
  inj a b _ _ e := by
    cases e
    rfl
  back x l h a _ e := by
    subst e
    obtain ⟨y, rfl, e, -⟩ := Maps.keyOf_int_inv hk h
    cases e
    rfl
/-- Elements that a value and a datum tell apart. -/
noncomputable def elemK {α : Type} (val : α → Value) (g : α → DataW Nat) (hv : ∀ x y, val x = val y → x = y) (hg : ∀ x y, g x = g y → x = y) (z : α) : ElemR α where
  R v := open Classical in if h : ∃ x, v = val x then some (g h.choose, []) else none
  val := val
  g := g
  z := val z
  zd := g z
  ok _ := True
  rd x _ := by
    have h : ∃ y, val x = val y := ⟨x, rfl⟩
    rw [dif_pos h]
    rw [show h.choose = x from (hv _ _ h.choose_spec).symm]
  inv v y x h e := by
    by_cases hh : ∃ x, v = val x
    · rw [dif_pos hh] at h
      cases h
      rw [hh.choose_spec, hg _ _ e]
    · rw [dif_neg hh] at h
      cases h
  zmk := by
    have h : ∃ y, val z = val y := ⟨z, rfl⟩
    rw [dif_pos h]
    rw [show h.choose = z from (hv _ _ h.choose_spec).symm]
  zinv v y h e := by
    by_cases hh : ∃ x, v = val x
    · rw [dif_pos hh] at h
      cases h
      rw [hh.choose_spec, hg _ _ e]
    · rw [dif_neg hh] at h
      cases h
end Go.Sat

namespace Go.Proofs.YtogdfkilhpkloaaGreatDoor
open Go.RowKit Go.Sat Go.Maps

def strLt (a b : ByteArray) : Bool := Op.bytesLess a.toList b.toList
def strEq (a b : ByteArray) : Bool := a.toList == b.toList
def isSpan (a b : ByteArray) : Bool := decide (a.size ≤ 16) && decide (b.size ≤ 16) && (b.toList.isEmpty || (!strLt b a && !strEq b a))
/-- A key is one of a span's. -/
def inSpan (a b k : ByteArray) : Bool := isSpan a b && decide (1 ≤ k.size) && decide (k.size ≤ 16) && !strLt k a && (b.toList.isEmpty || strLt k b)
theorem box_below (w : World) (o : Obj) : Below w.heap.size w (w.alloc o) := (Below.refl _ _).alloc (Nat.le_refl _) o
set_option maxRecDepth 100000 in
set_option maxHeartbeats 4000000 in
theorem spanis_calls (w : World) (a b : ByteArray) (ha : a.size ≤ 9223372036854775807) (hb : b.size ≤ 9223372036854775807) :
    Calls Tryz.prog 78 #[.agg #[.string a, .string b]] w fun e w' => e = .returned (.bool (isSpan a b)) ∧ w' = w.alloc (.cells #[.string a, .string b] 27) := by
  have Hb := Lib.hid (box_below w (.cells #[.string a, .string b] 27))
  go_enter Tryz.func78, Tryz.ntmps78
  go_wp2_with fail
  all_goals
    go_ret
    refine ⟨?_, rfl⟩
    congr 2
    simp_all [isSpan, strLt, strEq]
    try omega
set_option maxRecDepth 100000 in
set_option maxHeartbeats 4000000 in
theorem spanin_calls (w : World) (a b k : ByteArray) (ha : a.size ≤ 9223372036854775807) (hb : b.size ≤ 9223372036854775807) (hk : k.size ≤ 9223372036854775807) :
    Calls Tryz.prog 52 #[.agg #[.string a, .string b], .string k] w fun e w' => e = .returned (.bool (inSpan a b k)) ∧ Below w.heap.size w w' := by
  have Hb := Lib.hid (box_below w (.cells #[.string a, .string b] 27))
  have Hi := Lib.hid (spanis_calls (w.alloc (.cells #[.string a, .string b] 27)) a b ha hb)
  go_enter Tryz.func52, Tryz.ntmps52
  go_wp2_with fail
  refine Hi.out.mono ?_
  rintro e w2 ⟨rfl, rfl⟩
  go_wp2_with fail
  all_goals
    go_ret
    refine ⟨?_, Hb.out.trans ((box_below _ _).mono Hb.out.size)⟩
    congr 2
    simp_all [inSpan, strLt, strEq]
    try omega
end Go.Proofs.YtogdfkilhpkloaaGreatDoor

namespace Go.Proofs.YtogdfkilhpkloaaGreatDoor
open Go.RowKit Go.Sat Go.Maps

theorem results_rw2 {P : Program} {fn : Func} {p u : Tmp} {ty : TypeId} (h : fn.results = #[.cell p ty, .tmp u]) (tmps : Array Value) (w : World) (g : Nat) (t : TypeId) (cs : Array Value) (fr : Nat × Nat) (d : TypeDesc)
    (hp : tmps.getD p undef = .pointer (some ⟨g, 0, none⟩)) (hg : w.heap[g]? = some (.cells cs t fr))
    (hu : P.underlying ty = some d) (hd : (match d with | .struct _ | .array _ _ => true | _ => false) = true) (hi : (P.info? ty).map (·.size) = some cs.size) :
    (results fn tmps).run P w = .ok (.tuple #[.agg cs, tmps.getD u undef]) w := by
  rw [results_cell_tmp h, hp]
  simp [asAddr, run_loadVar_row w g t ty cs fr d hg hu hd hi]
def It.v (x : It) : Value := .agg #[.int .i64 x.a, .int .i64 x.b, .int .i64 x.c, .int .i64 x.d]
def It.o (x : It) : Obj := .cells #[.int .i64 x.a, .int .i64 x.b, .int .i64 x.c, .int .i64 x.d] 46
def RetIt (x : It) (b : Bool) (w : World) (e : Ending) (w' : World) : Prop := e = .returned (.tuple #[x.v, .bool b]) ∧ Below w.heap.size w w'
def RetB (b : Bool) (w : World) (e : Ending) (w' : World) : Prop := e = .returned (.bool b) ∧ Below w.heap.size w w'
theorem It.in1_no {n : Int} (h : n < 0 ∨ 1152921504606846976 < n) : It.in1 n = false := by
  unfold It.in1 It.most
  rcases h with h | h
  · rw [decide_eq_false (by omega : ¬ 0 ≤ n)]
    rfl
  · rw [decide_eq_false (by omega : ¬ n ≤ 1152921504606846976), Bool.and_false]
theorem It.in1_yes {n : Int} (h : 0 ≤ n) (h2 : n ≤ 1152921504606846976) : It.in1 n = true := by
  unfold It.in1 It.most
  rw [decide_eq_true h, decide_eq_true h2]
  rfl
def Is4 (x : It) (k : Nat) : Prop := (0 < k → It.in1 x.a = true) ∧ (1 < k → It.in1 x.b = true) ∧ (2 < k → It.in1 x.c = true) ∧ (3 < k → It.in1 x.d = true)
def isAll (x : It) : Bool := x.is
theorem isAll_no {x : It} (h : It.in1 x.a = false ∨ It.in1 x.b = false ∨ It.in1 x.c = false ∨ It.in1 x.d = false) : isAll x = false := by
  unfold isAll It.is
  rcases h with h | h | h | h <;> simp [h]
theorem isAll_yes {x : It} (h : Is4 x 4) : isAll x = true := by
  unfold isAll It.is
  rw [h.1 (by decide), h.2.1 (by decide), h.2.2.1 (by decide), h.2.2.2 (by decide)]
  rfl
theorem idx0 (a b c d : Int) (W : World) : (Instr.index 46 (.agg #[.int .i64 a, .int .i64 b, .int .i64 c, .int .i64 d]) (.int .i64 0)).run Tryz.prog W = .ok (.int .i64 a) W := by kernel_rfl
theorem idx1 (a b c d : Int) (W : World) : (Instr.index 46 (.agg #[.int .i64 a, .int .i64 b, .int .i64 c, .int .i64 d]) (.int .i64 1)).run Tryz.prog W = .ok (.int .i64 b) W := by kernel_rfl
theorem idx2 (a b c d : Int) (W : World) : (Instr.index 46 (.agg #[.int .i64 a, .int .i64 b, .int .i64 c, .int .i64 d]) (.int .i64 2)).run Tryz.prog W = .ok (.int .i64 c) W := by kernel_rfl
theorem idx3 (a b c d : Int) (W : World) : (Instr.index 46 (.agg #[.int .i64 a, .int .i64 b, .int .i64 c, .int .i64 d]) (.int .i64 3)).run Tryz.prog W = .ok (.int .i64 d) W := by kernel_rfl
theorem is4_1 {x : It} (h : It.in1 x.a = true) : Is4 x 1 := ⟨fun _ => h, fun h => by omega, fun h => by omega, fun h => by omega⟩
theorem is4_2 {x : It} (g : Is4 x 1) (h : It.in1 x.b = true) : Is4 x 2 := ⟨fun _ => g.1 (by decide), fun _ => h, fun h => by omega, fun h => by omega⟩
theorem is4_3 {x : It} (g : Is4 x 2) (h : It.in1 x.c = true) : Is4 x 3 := ⟨fun _ => g.1 (by decide), fun _ => g.2.1 (by decide), fun _ => h, fun h => by omega⟩
theorem is4_4 {x : It} (g : Is4 x 3) (h : It.in1 x.d = true) : Is4 x 4 := ⟨fun _ => g.1 (by decide), fun _ => g.2.1 (by decide), fun _ => g.2.2.1 (by decide), fun _ => h⟩
set_option maxRecDepth 100000 in
set_option maxHeartbeats 4000000 in
theorem purseis_calls (w : World) (a b c d : Int) :
    Calls Tryz.prog 217 #[.agg #[.int .i64 a, .int .i64 b, .int .i64 c, .int .i64 d]] w (RetB (isAll ⟨a, b, c, d⟩) w) := by
  have Hb := Lib.hid (box_below w (.cells #[.int .i64 a, .int .i64 b, .int .i64 c, .int .i64 d] 46))
  have Hno := Lib.hid (fun h => isAll_no (x := ⟨a, b, c, d⟩) h)
  have Hyes := Lib.hid (fun h => isAll_yes (x := ⟨a, b, c, d⟩) h)
  generalize isAll ⟨a, b, c, d⟩ = R at *
  go_enter Tryz.func217, Tryz.ntmps217
  go_wp2_with fail
  go_loop [6] (fun i => ∃ k : Nat, k ≤ 4 ∧ i = .int .i64 k ∧ Is4 ⟨a, b, c, d⟩ k) (fun i => 4 - (intOf i).toNat)
  case atStart => exact ⟨0, by omega, rfl, fun h => by omega, fun h => by omega, fun h => by omega, fun h => by omega⟩
  case round =>
    obtain ⟨k, hk, rfl, hR⟩ := hrel
    have HR := Lib.hid hR
    clear hR
    have hx0 := idx0 a b c d
    have hx1 := idx1 a b c d
    have hx2 := idx2 a b c d
    have hx3 := idx3 a b c d
    rcases (by omega : k = 0 ∨ k = 1 ∨ k = 2 ∨ k = 3 ∨ k = 4) with rfl | rfl | rfl | rfl | rfl
    all_goals
      go_wp2_with fail
    all_goals first
      | (have hR := Hno.out (by first | exact .inl (It.in1_no (by omega)) | exact .inr (.inl (It.in1_no (by omega))) | exact .inr (.inr (.inl (It.in1_no (by omega)))) | exact .inr (.inr (.inr (It.in1_no (by omega))))); subst hR; go_ret; exact ⟨rfl, Hb.out⟩)
      | (have hR := Hyes.out HR.out; subst hR; go_ret; exact ⟨rfl, Hb.out⟩)
      | exact ⟨⟨1, by decide, rfl, is4_1 (show It.in1 a = true from It.in1_yes (by omega) (by omega))⟩, by simp [intOf]⟩
      | exact ⟨⟨2, by decide, rfl, is4_2 HR.out (show It.in1 b = true from It.in1_yes (by omega) (by omega))⟩, by simp [intOf]⟩
      | exact ⟨⟨3, by decide, rfl, is4_3 HR.out (show It.in1 c = true from It.in1_yes (by omega) (by omega))⟩, by simp [intOf]⟩
      | exact ⟨⟨4, by decide, rfl, is4_4 HR.out (show It.in1 d = true from It.in1_yes (by omega) (by omega))⟩, by simp [intOf]⟩
def oneK (k n : Int) : It := if k = 0 then ⟨n, 0, 0, 0⟩ else if k = 1 then ⟨0, n, 0, 0⟩ else if k = 2 then ⟨0, 0, n, 0⟩ else ⟨0, 0, 0, n⟩
def oneP (k n : Int) : Bool := decide (0 ≤ k ∧ k < 4 ∧ 0 ≤ n ∧ n ≤ It.most)
theorem one_yes {k n : Int} (h : 0 ≤ k ∧ k < 4) (h1 : 0 ≤ n) (h2 : n ≤ 1152921504606846976) : It.one k n = oneK k n ∧ oneP k n = true := ⟨if_pos ⟨h.1, h.2, h1, h2⟩, decide_eq_true ⟨h.1, h.2, h1, h2⟩⟩
theorem one_no {k n : Int} (h : ¬ (0 ≤ k ∧ k < 4) ∨ n < 0 ∨ 1152921504606846976 < n) : It.one k n = It.zero ∧ oneP k n = false := by
  have : ¬ (0 ≤ k ∧ k < 4 ∧ 0 ≤ n ∧ n ≤ It.most) := fun g => by
    have h1 := g.2.2.1
    have h2 : n ≤ 1152921504606846976 := g.2.2.2
    have h3 := g.1
    have h4 := g.2.1
    omega
  exact ⟨if_neg this, decide_eq_false this⟩
set_option maxRecDepth 100000 in
set_option maxHeartbeats 4000000 in
theorem purseone_calls (w : World) (k n : Int) (hk : -9223372036854775808 ≤ k ∧ k ≤ 9223372036854775807) (hn : -9223372036854775808 ≤ n ∧ n ≤ 9223372036854775807) :
    Calls Tryz.prog 232 #[.int .i64 k, .int .i64 n] w (RetIt (It.one k n) (oneP k n) w) := by
  have HB := Lib.hid (fun o o' : Obj => (box_below w o).trans ((box_below (w.alloc o) o').mono (box_below w o).size))
  have Hno := Lib.hid (fun h => one_no (k := k) (n := n) h)
  have Hyes := Lib.hid (fun h h1 h2 => one_yes (k := k) (n := n) h h1 h2)
  generalize It.one k n = X at *
  generalize oneP k n = R at *
  by_cases hin : 0 ≤ k ∧ k < 4
  · rcases (by omega : k = 0 ∨ k = 1 ∨ k = 2 ∨ k = 3) with rfl | rfl | rfl | rfl
    all_goals
      go_enter Tryz.func232, Tryz.ntmps232
      go_wp2_with fail
    all_goals first
      | (obtain ⟨e1, e2⟩ := Hno.out (.inr (by omega)); subst e1; subst e2; refine bodyPost_ret (results_rw2 rfl _ _ w.heap.size _ _ (0, 0) _ rfl (old_block _ (new_block w _)) Tryz.underlying46 rfl (by kernel_rfl)) rfl ?_; exact ⟨rfl, HB.out _ _⟩)
      | (obtain ⟨e1, e2⟩ := Hyes.out (by decide) (by omega) (by omega); subst e1; subst e2; refine bodyPost_ret (results_rw2 rfl _ _ w.heap.size _ _ (0, 0) _ rfl (old_block _ (new_block w _)) Tryz.underlying46 rfl (by kernel_rfl)) rfl ?_; exact ⟨rfl, HB.out _ _⟩)
  · obtain ⟨e1, e2⟩ := Hno.out (.inl hin)
    subst e1
    subst e2
    go_enter Tryz.func232, Tryz.ntmps232
    go_wp2_with fail
    all_goals (refine bodyPost_ret (results_rw2 rfl _ _ w.heap.size _ _ (0, 0) _ rfl (old_block _ (new_block w _)) Tryz.underlying46 rfl (by kernel_rfl)) rfl ?_; exact ⟨rfl, HB.out _ _⟩)
end Go.Proofs.YtogdfkilhpkloaaGreatDoor

namespace Go.Proofs.YtogdfkilhpkloaaGreatDoor
open Go.RowKit Go.Sat Go.Maps

def It.add2 (x y : It) : It := if x.is = true ∧ y.is = true ∧ (x.plus y).is = true then x.plus y else It.zero
def It.add2ok (x y : It) : Bool := x.is && y.is && (x.plus y).is
theorem add2_no {x y : It} (h : x.is = false ∨ y.is = false ∨ (x.plus y).is = false) : x.add2 y = It.zero ∧ x.add2ok y = false := by
  unfold It.add2 It.add2ok
  rcases h with h | h | h <;> simp [h]
theorem add2_yes {x y : It} (h : x.is = true) (h2 : y.is = true) (h3 : (x.plus y).is = true) : x.add2 y = x.plus y ∧ x.add2ok y = true := by
  unfold It.add2 It.add2ok
  simp [h, h2, h3]
/-- The first components of y are added to x. -/
def It.upto (x y : It) (k : Nat) : It := ⟨if 0 < k then x.a + y.a else x.a, if 1 < k then x.b + y.b else x.b, if 2 < k then x.c + y.c else x.c, if 3 < k then x.d + y.d else x.d⟩
theorem plus_zero (x : It) : It.zero.plus x = x := by
  cases x
  simp [It.plus, It.zero]
theorem put4 {w : World} {b : Nat} {a0 a1 a2 a3 : Value} {t : TypeId} (h : w.heap[b]? = some (.cells #[a0, a1, a2, a3] t (0, 0))) (v0 v1 v2 v3 : Value) :
    ((((w.setCell ⟨b, 0, none⟩ v0).setCell ⟨b, 1, none⟩ v1).setCell ⟨b, 2, none⟩ v2).setCell ⟨b, 3, none⟩ v3).heap[b]? = some (.cells #[v0, v1, v2, v3] t (0, 0)) := by
  have h1 := set_block h 0 v0
  have h2 := set_block h1 1 v1
  have h3 := set_block h2 2 v2
  have h4 := set_block h3 3 v3
  simpa using h4
theorem chg4 (w : World) (b : Nat) (v0 v1 v2 v3 : Value) : Chg (fun k => k = b) w ((((w.setCell ⟨b, 0, none⟩ v0).setCell ⟨b, 1, none⟩ v1).setCell ⟨b, 2, none⟩ v2).setCell ⟨b, 3, none⟩ v3) :=
  (((Chg.setCell w ⟨b, 0, none⟩ v0).trans (Chg.setCell _ ⟨b, 1, none⟩ v1) fun _ _ e => e).trans (Chg.setCell _ ⟨b, 2, none⟩ v2) fun _ _ e => e).trans (Chg.setCell _ ⟨b, 3, none⟩ v3) fun _ _ e => e
set_option maxRecDepth 100000 in
set_option maxHeartbeats 16000000 in
theorem purseadd2_calls (W : World) (x y : It) (g : Nat) (fr : Nat × Nat) (hg : W.heap[g]? = some (.cells #[.int .i64 x.a, .int .i64 x.b, .int .i64 x.c, .int .i64 x.d, .int .i64 y.a, .int .i64 y.b, .int .i64 y.c, .int .i64 y.d] 46 fr)) (c : Nat) :
    Calls Tryz.prog 231 #[.slice (some ⟨g, 0, none⟩) 2 c] W (RetIt (x.add2 y) (x.add2ok y) W) := by
  have Hno := Lib.hid (fun h => add2_no (x := x) (y := y) h)
  have Hyes := Lib.hid (fun h h2 h3 => add2_yes (x := x) (y := y) h h2 h3)
  generalize x.add2 y = X at *
  generalize x.add2ok y = R at *
  have Hg := Lib.hid hg
  have hgl := lt_of_block hg
  have hgs := new_block W (It.o It.zero)
  have hgs2 := new_block (W.alloc (It.o It.zero)) (It.o It.zero)
  have HB0 := Lib.hid ((box_below W (It.o It.zero)).trans ((box_below (W.alloc (It.o It.zero)) (It.o It.zero)).mono (box_below W (It.o It.zero)).size))
  clear hg
  go_enter Tryz.func231, Tryz.ntmps231
  go_wp2_with fail
  go_loopw [11] (fun i wr => ∃ k : Nat, k ≤ 2 ∧ i = .int .i64 k ∧ Below W.heap.size W wr ∧ W.heap.size + 1 < wr.heap.size ∧ wr.heap[W.heap.size]? = some (It.o It.zero) ∧ wr.heap[W.heap.size + 1]? = some (It.o (if k = 0 then It.zero else if k = 1 then x else x.plus y)) ∧ (1 ≤ k → isAll x = true) ∧ (2 ≤ k → isAll y = true ∧ isAll (x.plus y) = true)) (fun i _ => 2 - (intOf i).toNat)
  case atStart => exact ⟨0, by omega, rfl, HB0.out, by simp, old_block _ hgs, (by have := hgs2; rwa [show (W.alloc (It.o It.zero)).heap.size = W.heap.size + 1 by simp] at this), fun h => by omega, fun h => by omega⟩
  case round =>
    obtain ⟨k, hk, rfl, hb, hss, hz, hs, h1, h2⟩ := hrel
    obtain ⟨wo, hwo⟩ : ∃ wo, wo = wr := ⟨_, rfl⟩
    subst hwo
    have hgr := (hb.block g hgl).trans Hg.out
    clear hgs hgs2
    rcases (by omega : k = 0 ∨ k = 1 ∨ k = 2) with rfl | rfl | rfl
    · have e0 := cell_of hgr (i := 0) rfl
      have e1 := cell_of hgr (i := 1) rfl
      have e2 := cell_of hgr (i := 2) rfl
      have e3 := cell_of hgr (i := 3) rfl
      have His := Lib.hid (fun W' => purseis_calls W' x.a x.b x.c x.d)
      have Hw2 := Lib.hid (And.intro hgr (And.intro hz hs))
      have HBr := Lib.hid hb
      have hne := hss
      clear hgr hz hs hb
      go_wp2_with fail
      refine (His.out _).mono ?_
      rintro e w2 ⟨rfl, hb2⟩
      have HB2 := Lib.hid (HBr.out.trans (((box_below wo (It.o x)).trans (hb2.mono (box_below wo (It.o x)).size)).mono HBr.out.size))
      have HL2 := Lib.hid ((box_below wo (It.o x)).trans (hb2.mono (box_below wo (It.o x)).size))
      have ht6 := (hb2.block wo.heap.size (by simp)).trans (new_block wo (It.o x))
      have hzz := (HL2.out.block _ (by omega)).trans Hw2.out.2.1
      have hss2 := (HL2.out.block _ (by omega)).trans Hw2.out.2.2
      cases hv : isAll x with
      | false =>
        have hv1 : isAll ⟨x.a, x.b, x.c, x.d⟩ = false := hv
        obtain ⟨e1', e2'⟩ := Hno.out (.inl hv)
        subst e1'
        subst e2'
        have z0 := cell_of hzz (i := 0) rfl
        have z1 := cell_of hzz (i := 1) rfl
        have z2 := cell_of hzz (i := 2) rfl
        have z3 := cell_of hzz (i := 3) rfl
        have f0 := frozen_of hzz 0
        have f1 := frozen_of hzz 1
        have f2 := frozen_of hzz 2
        have f3 := frozen_of hzz 3
        go_wp2_with fail
        refine bodyPost_ret (results_rw2 rfl _ _ W.heap.size _ _ (0, 0) _ rfl (put4 hzz _ _ _ _) Tryz.underlying46 rfl (by kernel_rfl)) rfl ?_
        exact ⟨rfl, (((Chg.of_below HB2.out).mono fun _ _ e => e.elim : Chg (fun k => k = W.heap.size) W _).trans (chg4 _ _ _ _ _ _) fun k _ e => e).below (Nat.le_refl _) fun k hk e => by omega⟩
      | true =>
        have hv1 : isAll ⟨x.a, x.b, x.c, x.d⟩ = true := hv
        have hA := It.is_iff.1 ((by rfl : It.zero.is = true))
        have hV := It.is_iff.1 hv
        have Hv := Lib.hid hv
        have H1 := Lib.hid h1
        have Hs2 := Lib.hid hss2
        have Hz2 := Lib.hid hzz
        have hne2 : W.heap.size + 1 < w2.heap.size := Nat.lt_of_lt_of_le hne HL2.out.size
        have Hx := Lib.hid (And.intro (idx0 x.a x.b x.c x.d) (And.intro (idx1 x.a x.b x.c x.d) (And.intro (idx2 x.a x.b x.c x.d) (idx3 x.a x.b x.c x.d))))
        clear hv e0 e1 e2 e3 h1 h2 hss2 hzz
        have t0 := cell_of ht6 (i := 0) rfl
        have t1 := cell_of ht6 (i := 1) rfl
        have t2 := cell_of ht6 (i := 2) rfl
        have t3 := cell_of ht6 (i := 3) rfl
        go_wp2_with fail
        clear t0 t1 t2 t3
        go_loopw [20] (fun i wr => ∃ j : Nat, j ≤ 4 ∧ i = .int .i64 j ∧ Chg (fun q => q = W.heap.size + 1) w2 wr ∧ wr.heap[W.heap.size + 1]? = some (It.o (It.zero.upto x j))) (fun i _ => 4 - (intOf i).toNat)
        case atStart => exact ⟨0, by omega, rfl, Chg.refl _ _, Hs2.out⟩
        case round =>
          obtain ⟨j, hj, rfl, hcg, hsj⟩ := hrel
          have Hcg := Lib.hid hcg
          have Hsj := Lib.hid hsj
          clear hcg
          obtain ⟨x0, x1, x2, x3⟩ := Hx.out
          obtain ⟨a0, a1, a2, a3⟩ := hA
          obtain ⟨v0, v1, v2, v3⟩ := hV
          rcases (by omega : j = 0 ∨ j = 1 ∨ j = 2 ∨ j = 3 ∨ j = 4) with rfl | rfl | rfl | rfl | rfl
          · have cc : wr.cell? ⟨W.heap.size + 1, 0, none⟩ = some (.int .i64 It.zero.a) := cell_of hsj rfl
            have fc := frozen_of hsj 0
            have hw : IntKind.i64.wrap (It.zero.a + x.a) = It.zero.a + x.a := IntWalk.i64_in _ (by omega)
            go_wp2_with fail
            go_roundw
            case rel => exact ⟨1, by decide, rfl, Hcg.out.trans (Chg.setCell _ ⟨_, 0, none⟩ _) fun _ _ e => e, by have hh := set_block Hsj.out 0 (.int .i64 (It.zero.a + x.a)); exact hh⟩
            case measure => simp [intOf]
          · have cc : wr.cell? ⟨W.heap.size + 1, 1, none⟩ = some (.int .i64 It.zero.b) := cell_of hsj rfl
            have fc := frozen_of hsj 1
            have hw : IntKind.i64.wrap (It.zero.b + x.b) = It.zero.b + x.b := IntWalk.i64_in _ (by omega)
            go_wp2_with fail
            go_roundw
            case rel => exact ⟨2, by decide, rfl, Hcg.out.trans (Chg.setCell _ ⟨_, 1, none⟩ _) fun _ _ e => e, by have hh := set_block Hsj.out 1 (.int .i64 (It.zero.b + x.b)); exact hh⟩
            case measure => simp [intOf]
          · have cc : wr.cell? ⟨W.heap.size + 1, 2, none⟩ = some (.int .i64 It.zero.c) := cell_of hsj rfl
            have fc := frozen_of hsj 2
            have hw : IntKind.i64.wrap (It.zero.c + x.c) = It.zero.c + x.c := IntWalk.i64_in _ (by omega)
            go_wp2_with fail
            go_roundw
            case rel => exact ⟨3, by decide, rfl, Hcg.out.trans (Chg.setCell _ ⟨_, 2, none⟩ _) fun _ _ e => e, by have hh := set_block Hsj.out 2 (.int .i64 (It.zero.c + x.c)); exact hh⟩
            case measure => simp [intOf]
          · have cc : wr.cell? ⟨W.heap.size + 1, 3, none⟩ = some (.int .i64 It.zero.d) := cell_of hsj rfl
            have fc := frozen_of hsj 3
            have hw : IntKind.i64.wrap (It.zero.d + x.d) = It.zero.d + x.d := IntWalk.i64_in _ (by omega)
            go_wp2_with fail
            go_roundw
            case rel => exact ⟨4, by decide, rfl, Hcg.out.trans (Chg.setCell _ ⟨_, 3, none⟩ _) fun _ _ e => e, by have hh := set_block Hsj.out 3 (.int .i64 (It.zero.d + x.d)); exact hh⟩
            case measure => simp [intOf]
          · have hs4 : wr.heap[W.heap.size + 1]? = some (It.o (It.zero.plus x)) := hsj
            have u0 : wr.cell? ⟨W.heap.size + 1, 0, none⟩ = some (.int .i64 (It.zero.a + x.a)) := cell_of hsj rfl
            have u1 : wr.cell? ⟨W.heap.size + 1, 1, none⟩ = some (.int .i64 (It.zero.b + x.b)) := cell_of hsj rfl
            have u2 : wr.cell? ⟨W.heap.size + 1, 2, none⟩ = some (.int .i64 (It.zero.c + x.c)) := cell_of hsj rfl
            have u3 : wr.cell? ⟨W.heap.size + 1, 3, none⟩ = some (.int .i64 (It.zero.d + x.d)) := cell_of hsj rfl
            have Hs4 := Lib.hid hs4
            have His2 := Lib.hid (purseis_calls wr (It.zero.a + x.a) (It.zero.b + x.b) (It.zero.c + x.c) (It.zero.d + x.d))
            have HC := Lib.hid (((Chg.of_below HB2.out).mono fun _ _ e => e.elim : Chg (fun q => q = W.heap.size + 1) W w2).trans Hcg.out fun k _ e => e)
            have HBw := Lib.hid (HC.out.below (Nat.le_refl _) fun k hk e => by omega)
            have hz4 := (Hcg.out.block _ (by omega) (by omega)).trans Hz2.out
            have hle := Hcg.out.size
            clear hs4 hsj Hsj
            go_wp2_with fail
            refine His2.out.mono ?_
            rintro e w5 ⟨rfl, hb5⟩
            have hz5 := (hb5.block _ (by omega)).trans hz4
            have hs5 := (hb5.block _ (by omega)).trans Hs4.out
            have HB5 := Lib.hid (HBw.out.trans (hb5.mono HBw.out.size))
            have hle5 := hb5.size
            cases hp : isAll (It.zero.plus x) with
            | false =>
              have hp1 : isAll ⟨It.zero.a + x.a, It.zero.b + x.b, It.zero.c + x.c, It.zero.d + x.d⟩ = false := hp
              rw [plus_zero, Hv.out] at hp
              cases hp
            | true =>
              have hp1 : isAll ⟨It.zero.a + x.a, It.zero.b + x.b, It.zero.c + x.c, It.zero.d + x.d⟩ = true := hp
              rw [hp1]
              have Hp := Lib.hid hp
              have Hz5 := Lib.hid hz5
              have Hs5 := Lib.hid hs5
              clear hp hp1 hz5 hs5 u0 u1 u2 u3 hz4
              go_wp2_with fail
              go_roundw
              case rel => exact ⟨1, by decide, rfl, HB5.out, by omega, Hz5.out, (by have h := Hs5.out; rw [plus_zero] at h; exact h), fun _ => Hv.out, fun h => by omega⟩
              case measure => simp [intOf]
    · have e0 := cell_of hgr (i := 4) rfl
      have e1 := cell_of hgr (i := 5) rfl
      have e2 := cell_of hgr (i := 6) rfl
      have e3 := cell_of hgr (i := 7) rfl
      have His := Lib.hid (fun W' => purseis_calls W' y.a y.b y.c y.d)
      have Hw2 := Lib.hid (And.intro hgr (And.intro hz hs))
      have HBr := Lib.hid hb
      have hne := hss
      clear hgr hz hs hb
      go_wp2_with fail
      refine (His.out _).mono ?_
      rintro e w2 ⟨rfl, hb2⟩
      have HB2 := Lib.hid (HBr.out.trans (((box_below wo (It.o y)).trans (hb2.mono (box_below wo (It.o y)).size)).mono HBr.out.size))
      have HL2 := Lib.hid ((box_below wo (It.o y)).trans (hb2.mono (box_below wo (It.o y)).size))
      have ht6 := (hb2.block wo.heap.size (by simp)).trans (new_block wo (It.o y))
      have hzz := (HL2.out.block _ (by omega)).trans Hw2.out.2.1
      have hss2 := (HL2.out.block _ (by omega)).trans Hw2.out.2.2
      cases hv : isAll y with
      | false =>
        have hv1 : isAll ⟨y.a, y.b, y.c, y.d⟩ = false := hv
        obtain ⟨e1', e2'⟩ := Hno.out (.inr (.inl hv))
        subst e1'
        subst e2'
        have z0 := cell_of hzz (i := 0) rfl
        have z1 := cell_of hzz (i := 1) rfl
        have z2 := cell_of hzz (i := 2) rfl
        have z3 := cell_of hzz (i := 3) rfl
        have f0 := frozen_of hzz 0
        have f1 := frozen_of hzz 1
        have f2 := frozen_of hzz 2
        have f3 := frozen_of hzz 3
        go_wp2_with fail
        refine bodyPost_ret (results_rw2 rfl _ _ W.heap.size _ _ (0, 0) _ rfl (put4 hzz _ _ _ _) Tryz.underlying46 rfl (by kernel_rfl)) rfl ?_
        exact ⟨rfl, (((Chg.of_below HB2.out).mono fun _ _ e => e.elim : Chg (fun k => k = W.heap.size) W _).trans (chg4 _ _ _ _ _ _) fun k _ e => e).below (Nat.le_refl _) fun k hk e => by omega⟩
      | true =>
        have hv1 : isAll ⟨y.a, y.b, y.c, y.d⟩ = true := hv
        have hA := It.is_iff.1 (h1 (by decide))
        have hV := It.is_iff.1 hv
        have Hv := Lib.hid hv
        have H1 := Lib.hid h1
        have Hs2 := Lib.hid hss2
        have Hz2 := Lib.hid hzz
        have hne2 : W.heap.size + 1 < w2.heap.size := Nat.lt_of_lt_of_le hne HL2.out.size
        have Hx := Lib.hid (And.intro (idx0 y.a y.b y.c y.d) (And.intro (idx1 y.a y.b y.c y.d) (And.intro (idx2 y.a y.b y.c y.d) (idx3 y.a y.b y.c y.d))))
        clear hv e0 e1 e2 e3 h1 h2 hss2 hzz
        have t0 := cell_of ht6 (i := 0) rfl
        have t1 := cell_of ht6 (i := 1) rfl
        have t2 := cell_of ht6 (i := 2) rfl
        have t3 := cell_of ht6 (i := 3) rfl
        go_wp2_with fail
        clear t0 t1 t2 t3
        go_loopw [20] (fun i wr => ∃ j : Nat, j ≤ 4 ∧ i = .int .i64 j ∧ Chg (fun q => q = W.heap.size + 1) w2 wr ∧ wr.heap[W.heap.size + 1]? = some (It.o (x.upto y j))) (fun i _ => 4 - (intOf i).toNat)
        case atStart => exact ⟨0, by omega, rfl, Chg.refl _ _, Hs2.out⟩
        case round =>
          obtain ⟨j, hj, rfl, hcg, hsj⟩ := hrel
          have Hcg := Lib.hid hcg
          have Hsj := Lib.hid hsj
          clear hcg
          obtain ⟨x0, x1, x2, x3⟩ := Hx.out
          obtain ⟨a0, a1, a2, a3⟩ := hA
          obtain ⟨v0, v1, v2, v3⟩ := hV
          rcases (by omega : j = 0 ∨ j = 1 ∨ j = 2 ∨ j = 3 ∨ j = 4) with rfl | rfl | rfl | rfl | rfl
          · have cc : wr.cell? ⟨W.heap.size + 1, 0, none⟩ = some (.int .i64 x.a) := cell_of hsj rfl
            have fc := frozen_of hsj 0
            have hw : IntKind.i64.wrap (x.a + y.a) = x.a + y.a := IntWalk.i64_in _ (by omega)
            go_wp2_with fail
            go_roundw
            case rel => exact ⟨1, by decide, rfl, Hcg.out.trans (Chg.setCell _ ⟨_, 0, none⟩ _) fun _ _ e => e, by have hh := set_block Hsj.out 0 (.int .i64 (x.a + y.a)); exact hh⟩
            case measure => simp [intOf]
          · have cc : wr.cell? ⟨W.heap.size + 1, 1, none⟩ = some (.int .i64 x.b) := cell_of hsj rfl
            have fc := frozen_of hsj 1
            have hw : IntKind.i64.wrap (x.b + y.b) = x.b + y.b := IntWalk.i64_in _ (by omega)
            go_wp2_with fail
            go_roundw
            case rel => exact ⟨2, by decide, rfl, Hcg.out.trans (Chg.setCell _ ⟨_, 1, none⟩ _) fun _ _ e => e, by have hh := set_block Hsj.out 1 (.int .i64 (x.b + y.b)); exact hh⟩
            case measure => simp [intOf]
          · have cc : wr.cell? ⟨W.heap.size + 1, 2, none⟩ = some (.int .i64 x.c) := cell_of hsj rfl
            have fc := frozen_of hsj 2
            have hw : IntKind.i64.wrap (x.c + y.c) = x.c + y.c := IntWalk.i64_in _ (by omega)
            go_wp2_with fail
            go_roundw
            case rel => exact ⟨3, by decide, rfl, Hcg.out.trans (Chg.setCell _ ⟨_, 2, none⟩ _) fun _ _ e => e, by have hh := set_block Hsj.out 2 (.int .i64 (x.c + y.c)); exact hh⟩
            case measure => simp [intOf]
          · have cc : wr.cell? ⟨W.heap.size + 1, 3, none⟩ = some (.int .i64 x.d) := cell_of hsj rfl
            have fc := frozen_of hsj 3
            have hw : IntKind.i64.wrap (x.d + y.d) = x.d + y.d := IntWalk.i64_in _ (by omega)
            go_wp2_with fail
            go_roundw
            case rel => exact ⟨4, by decide, rfl, Hcg.out.trans (Chg.setCell _ ⟨_, 3, none⟩ _) fun _ _ e => e, by have hh := set_block Hsj.out 3 (.int .i64 (x.d + y.d)); exact hh⟩
            case measure => simp [intOf]
          · have hs4 : wr.heap[W.heap.size + 1]? = some (It.o (x.plus y)) := hsj
            have u0 : wr.cell? ⟨W.heap.size + 1, 0, none⟩ = some (.int .i64 (x.a + y.a)) := cell_of hsj rfl
            have u1 : wr.cell? ⟨W.heap.size + 1, 1, none⟩ = some (.int .i64 (x.b + y.b)) := cell_of hsj rfl
            have u2 : wr.cell? ⟨W.heap.size + 1, 2, none⟩ = some (.int .i64 (x.c + y.c)) := cell_of hsj rfl
            have u3 : wr.cell? ⟨W.heap.size + 1, 3, none⟩ = some (.int .i64 (x.d + y.d)) := cell_of hsj rfl
            have Hs4 := Lib.hid hs4
            have His2 := Lib.hid (purseis_calls wr (x.a + y.a) (x.b + y.b) (x.c + y.c) (x.d + y.d))
            have HC := Lib.hid (((Chg.of_below HB2.out).mono fun _ _ e => e.elim : Chg (fun q => q = W.heap.size + 1) W w2).trans Hcg.out fun k _ e => e)
            have HBw := Lib.hid (HC.out.below (Nat.le_refl _) fun k hk e => by omega)
            have hz4 := (Hcg.out.block _ (by omega) (by omega)).trans Hz2.out
            have hle := Hcg.out.size
            clear hs4 hsj Hsj
            go_wp2_with fail
            refine His2.out.mono ?_
            rintro e w5 ⟨rfl, hb5⟩
            have hz5 := (hb5.block _ (by omega)).trans hz4
            have hs5 := (hb5.block _ (by omega)).trans Hs4.out
            have HB5 := Lib.hid (HBw.out.trans (hb5.mono HBw.out.size))
            have hle5 := hb5.size
            cases hp : isAll (x.plus y) with
            | false =>
              have hp1 : isAll ⟨x.a + y.a, x.b + y.b, x.c + y.c, x.d + y.d⟩ = false := hp
              rw [hp1]
              obtain ⟨e1', e2'⟩ := Hno.out (.inr (.inr hp))
              subst e1'
              subst e2'
              have z0 := cell_of hz5 (i := 0) rfl
              have z1 := cell_of hz5 (i := 1) rfl
              have z2 := cell_of hz5 (i := 2) rfl
              have z3 := cell_of hz5 (i := 3) rfl
              have f0 := frozen_of hz5 0
              have f1 := frozen_of hz5 1
              have f2 := frozen_of hz5 2
              have f3 := frozen_of hz5 3
              go_wp2_with fail
              refine bodyPost_ret (results_rw2 rfl _ _ W.heap.size _ _ (0, 0) _ rfl (put4 hz5 _ _ _ _) Tryz.underlying46 rfl (by kernel_rfl)) rfl ?_
              exact ⟨rfl, (((Chg.of_below HB5.out).mono fun _ _ e => e.elim : Chg (fun k => k = W.heap.size) W _).trans (chg4 _ _ _ _ _ _) fun k _ e => e).below (Nat.le_refl _) fun k hk e => by omega⟩
            | true =>
              have hp1 : isAll ⟨x.a + y.a, x.b + y.b, x.c + y.c, x.d + y.d⟩ = true := hp
              rw [hp1]
              have Hp := Lib.hid hp
              have Hz5 := Lib.hid hz5
              have Hs5 := Lib.hid hs5
              clear hp hp1 hz5 hs5 u0 u1 u2 u3 hz4
              go_wp2_with fail
              go_roundw
              case rel => exact ⟨2, by decide, rfl, HB5.out, by omega, Hz5.out, Hs5.out, fun _ => H1.out (by decide), fun _ => ⟨Hv.out, Hp.out⟩⟩
              case measure => simp [intOf]
    · obtain ⟨hy, hxy⟩ := h2 (by decide)
      obtain ⟨e1', e2'⟩ := Hyes.out (h1 (by decide)) hy hxy
      subst e1'
      subst e2'
      have hs' : wo.heap[W.heap.size + 1]? = some (It.o (x.plus y)) := hs
      have u0 : wo.cell? ⟨W.heap.size + 1, 0, none⟩ = some (.int .i64 (x.a + y.a)) := cell_of hs' rfl
      have u1 : wo.cell? ⟨W.heap.size + 1, 1, none⟩ = some (.int .i64 (x.b + y.b)) := cell_of hs' rfl
      have u2 : wo.cell? ⟨W.heap.size + 1, 2, none⟩ = some (.int .i64 (x.c + y.c)) := cell_of hs' rfl
      have u3 : wo.cell? ⟨W.heap.size + 1, 3, none⟩ = some (.int .i64 (x.d + y.d)) := cell_of hs' rfl
      have z0 := cell_of hz (i := 0) rfl
      have z1 := cell_of hz (i := 1) rfl
      have z2 := cell_of hz (i := 2) rfl
      have z3 := cell_of hz (i := 3) rfl
      have f0 := frozen_of hz 0
      have f1 := frozen_of hz 1
      have f2 := frozen_of hz 2
      have f3 := frozen_of hz 3
      have Hz := Lib.hid hz
      have HB := Lib.hid hb
      clear hs hs' hz hb h1 h2 hgr hy hxy
      go_wp2_with fail
      refine bodyPost_ret (results_rw2 rfl _ _ W.heap.size _ _ (0, 0) _ rfl (put4 Hz.out _ _ _ _) Tryz.underlying46 rfl (by kernel_rfl)) rfl ?_
      exact ⟨rfl, (((Chg.of_below HB.out).mono fun _ _ e => e.elim : Chg (fun k => k = W.heap.size) W _).trans (chg4 _ _ _ _ _ _) fun k _ e => e).below (Nat.le_refl _) fun k hk e => by omega⟩
end Go.Proofs.YtogdfkilhpkloaaGreatDoor

namespace Go.Proofs.YtogdfkilhpkloaaGreatDoor
open Go.RowKit Go.Sat Go.Maps

theorem laidK : laidOutB Tryz.prog = true := by kernel_rfl
theorem strKeyed : Keyed Tryz.prog 9 := string_keyed Tryz.underlying9
theorem intKeyed : Keyed Tryz.prog 3 := int_keyed Tryz.underlying3
theorem whichLaw : WideMaps.KeyLaw Tryz.prog 191 := deep_law_laid laidK (m := 2) (by omega) (of_decide_eq_true (by kernel_rfl)) (by kernel_rfl) (by rw [Tryz.underlying191])
theorem whichKeyed : Keyed Tryz.prog 191 := Keyed.of_law whichLaw
end Go.Proofs.YtogdfkilhpkloaaGreatDoor

namespace Go.Proofs.YtogdfkilhpkloaaGreatDoor
open Go.RowKit Go.Sat Go.Maps

def whichV (a : Int × Int) : Value := .agg #[.int .i64 a.1, .int .i64 a.2]
def whichOk (a : Int × Int) : Prop := (Lit.int .i64 a.1).wf = true ∧ (Lit.int .i64 a.2).wf = true
def whichL (a : Int × Int) : Lit := .string (keyBytes [.int .i64 a.1, .int .i64 a.2])
theorem which_key (a : Int × Int) (h : whichOk a) : keyOf Tryz.prog 191 (whichV a) = some (whichL a) := by
  have h1 : Tryz.prog.keyType 191 = true := by kernel_rfl
  have hc : Tryz.prog.cellsOf 191 = 2 := by kernel_rfl
  have hc3 : Tryz.prog.cellsOf 3 = 1 := by kernel_rfl
  obtain ⟨c, s⟩ := a
  obtain ⟨g1, g2⟩ := h
  have hf : (whichV (c, s)).formed Tryz.prog 191 = true := by simp [whichV, Value.formed, Tryz.underlying191, hc]
  have hn : ∃ n, Tryz.prog.types.size = n + 1 := ⟨Tryz.prog.types.size - 1, by kernel_rfl⟩
  have hl : ∀ m, (∃ n, m = n + 1) → Tryz.prog.keyLits (m + 1) 191 [.int .i64 c, .int .i64 s] = some [.int .i64 c, .int .i64 s] := by
    rintro m ⟨n, rfl⟩
    simp [Program.keyLits, Tryz.underlying191, Tryz.underlying3, hc, hc3, g1, g2]
  unfold keyOf
  rw [Tryz.underlying191]
  show (if (Tryz.prog.keyType 191 && (whichV (c, s)).formed Tryz.prog 191) = true then Option.map _ (Tryz.prog.keyLits (Tryz.prog.types.size + 1) 191 [.int .i64 c, .int .i64 s]) else none) = _
  rw [h1, hf, hl _ hn]
  rfl
def whichK : KeyR Tryz.prog 191 (Int × Int) where
  v := whichV
  lit := whichL
  ok := whichOk
  key a h := which_key a h
  inj a b ha hb e := by
    have h1 := which_key a ha
    have h2 := which_key b hb
    rw [← e] at h2
    have h3 := whichLaw.inj h1 h2
    unfold whichV at h3
    simp only [Value.agg.injEq, Array.mk.injEq, List.cons.injEq, Value.int.injEq, true_and, and_true] at h3
    exact Prod.ext h3.1 h3.2
  back x l h a ha e := by
    subst e
    exact whichLaw.inj h (which_key a ha)
/-- A purse. -/
noncomputable def itE : ElemR It := elemK It.v (fun x => .agg [.lit (.int .i64 x.a), .lit (.int .i64 x.b), .lit (.int .i64 x.c), .lit (.int .i64 x.d)])
  (fun x y h => by
    unfold It.v at h
    simp only [Value.agg.injEq, Array.mk.injEq, List.cons.injEq, Value.int.injEq, true_and, and_true] at h
    exact It.ext' h.1 h.2.1 h.2.2.1 h.2.2.2)
  (fun x y h => by
    simp only [DataW.agg.injEq, List.cons.injEq, DataW.lit.injEq, Lit.int.injEq, true_and, and_true] at h
    exact It.ext' h.1 h.2.1 h.2.2.1 h.2.2.2) It.zero
/-- A pointer to a block's head. -/
def ptrE : ElemR Nat where
  R := ptrR
  val b := .pointer (some ⟨b, 0, none⟩)
  g b := .held b
  z := .pointer none
  zd := .nil
  ok _ := True
  rd _ _ := rfl
  inv v y b h e := ptrR_inv h e
  zmk := rfl
  zinv v y h e := by
    unfold ptrR at h
    split at h
    · cases h
      cases e
    · rfl
    · cases h
def wf64 (a : Int) : Prop := (Lit.int .i64 a).wf = true
theorem wf64_of {a : Int} (h : -9223372036854775808 ≤ a ∧ a ≤ 9223372036854775807) : wf64 a := by
  unfold wf64 Lit.wf
  simp [IntKind.min, IntKind.max, IntKind.signed, IntKind.bits]
  omega
def It.wf (x : It) : Prop := wf64 x.a ∧ wf64 x.b ∧ wf64 x.c ∧ wf64 x.d
theorem It.wf_of {x : It} (h : x.is = true) : x.wf := by
  obtain ⟨h1, h2, h3, h4⟩ := It.is_iff.1 h
  exact ⟨wf64_of (by omega), wf64_of (by omega), wf64_of (by omega), wf64_of (by omega)⟩
theorem it_lits (x : It) (h : x.wf) : ∀ m, (∃ n, m = n + 1) → Tryz.prog.keyLits (m + 1) 46 [.int .i64 x.a, .int .i64 x.b, .int .i64 x.c, .int .i64 x.d] = some [.int .i64 x.a, .int .i64 x.b, .int .i64 x.c, .int .i64 x.d] := by
  have hc : Tryz.prog.cellsOf 46 = 4 := by kernel_rfl
  have hc3 : Tryz.prog.cellsOf 3 = 1 := by kernel_rfl
  obtain ⟨g1, g2, g3, g4⟩ := h
  unfold wf64 at g1 g2 g3 g4
  rintro m ⟨n, rfl⟩
  simp [Program.keyLits, Tryz.underlying46, Tryz.underlying3, hc, hc3, g1, g2, g3, g4, List.range_succ]
set_option maxRecDepth 100000 in
theorem it_eq (w : World) (x y : It) (hx : x.wf) (hy : y.wf) : (Op.equalIn 10000 46 x.v y.v).run Tryz.prog w = .ok (decide (x = y)) w := by
  have hc : Tryz.prog.cellsOf 46 = 4 := by kernel_rfl
  have hn : ∃ n, Tryz.prog.types.size = n + 1 := ⟨Tryz.prog.types.size - 1, by kernel_rfl⟩
  have hf : ∀ z : It, z.v.formed Tryz.prog 46 = true := fun z => by simp [It.v, Value.formed, Tryz.underlying46, hc]
  obtain ⟨r, hr, hiff⟩ := run_equalIn_deep (10000 - 2) 2 46 (by kernel_rfl) w _ _ x.v y.v _ _ (hf x) (hf y) (it_lits x hx _ hn) (it_lits y hy _ hn)
  have hr' : (Op.equalIn 10000 46 x.v y.v).run Tryz.prog w = .ok r w := hr
  rw [hr']
  congr 1
  rw [Bool.eq_iff_iff, hiff]
  simp only [List.cons.injEq, Lit.int.injEq, true_and, and_true, decide_eq_true_eq]
  exact ⟨fun h => It.ext' h.1 h.2.1 h.2.2.1 h.2.2.2, fun h => by subst h; exact ⟨rfl, rfl, rfl, rfl⟩⟩
end Go.Proofs.YtogdfkilhpkloaaGreatDoor
