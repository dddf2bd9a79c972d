/- ledger: Open. -/
import Derived.Test.YteohbjkjfnflgaaNI
namespace Go.Proofs.Yteohbjkjfnflgaa
open Go.RowKit Go.Sat Go.Maps

/-- What an opening leaves. -/
def OpenTold (w w1 : World) (d : Nat) (pre : ByteArray) (F : Nat → Prop) (r : DiskM × Nat × LedM) (e : Ending) (w' : World) : Prop :=
  St w w' d r.1 F ∧ Same F w1 w' ∧ ((r.2.1 = 0 ∧ ∃ l, e = .returned (.tuple #[.pointer (some ⟨l, 0, none⟩), .int .i64 0]) ∧ LedF w w' l d pre r.1 r.2.2 F) ∨ (r.2.1 ≠ 0 ∧ e = .returned (.tuple #[.pointer none, .int .i64 (r.2.1 : Int)])))

/-- The steps of an opening. -/
structure Opens (D : DiskM) (pre : Bs) where
  D1 : DiskM
  e1 : Nat
  h1 : D.rid [shadowN (imgN pre)] = (D1, e1)
  i : Nat × Nat × Bs
  hi : imageOf (Sat.get (imgN pre) D1.files) = i
  g : DiskM × Nat × List Bs
  hg : logOf D1 pre i.2.1 = g

theorem opens_of (D : DiskM) (pre : Bs) : Nonempty (Opens D pre) := ⟨⟨_, _, rfl, _, rfl, _, rfl⟩⟩

section
variable {D : DiskM} {pre : Bs} (O : Opens D pre)

theorem open_e1 (h : ¬ (pre.length < 1 ∨ 20 < pre.length)) (h1 : O.e1 ≠ 0) : ledOpen D pre = (O.D1, O.e1, LedM.none0) := by
  unfold ledOpen
  rw [if_neg h, O.h1]
  exact if_pos h1
theorem open_e2 (h : ¬ (pre.length < 1 ∨ 20 < pre.length)) (h1 : O.e1 = 0) (h2 : O.i.1 ≠ 0) : ledOpen D pre = (O.D1, O.i.1, LedM.none0) := by
  unfold ledOpen
  rw [if_neg h, O.h1]
  rw [if_neg (by simpa using h1)]
  dsimp only
  rw [O.hi, if_pos h2]
theorem open_e3 (h : ¬ (pre.length < 1 ∨ 20 < pre.length)) (h1 : O.e1 = 0) (h2 : O.i.1 = 0) : ledOpen D pre = (O.g.1, O.g.2.1, ⟨O.i.2.1, O.i.2.2, O.g.2.2, false⟩) := by
  unfold ledOpen
  rw [if_neg h, O.h1]
  rw [if_neg (by simpa using h1)]
  dsimp only
  rw [O.hi, if_neg (by simpa using h2), O.hg]
end

/-- The loop over the three steps. -/
def OpenRel (w w0 : World) (l d : Nat) (pre : ByteArray) (G : Nat → Prop) (D D1 D3 : DiskM) (M2 M3 : LedM) (e1 e2 e3 : Nat) (x : Value) (wr : World) : Prop :=
  Same G w0 wr ∧ ((x = .int .i64 0 ∧ LedF w wr l d pre D LedM.none0 G) ∨ (x = .int .i64 1 ∧ e1 = 0 ∧ LedF w wr l d pre D1 LedM.none0 G) ∨ (x = .int .i64 2 ∧ e1 = 0 ∧ e2 = 0 ∧ LedF w wr l d pre D1 M2 G) ∨ (x = .int .i64 3 ∧ e1 = 0 ∧ e2 = 0 ∧ e3 = 0 ∧ LedF w wr l d pre D3 M3 G))

theorem led_clears {w w1 : World} {l d : Nat} {pre : ByteArray} {D : DiskM} {M : LedM} {F : Nat → Prop} (h : LedF w w1 l d pre D M F) :
    Calls Try.prog 22 #[.pointer (some ⟨l, 0, none⟩)] w1 fun e w' => e = .returned (.int .i64 ((D.rid [shadowN (imgN (nm pre))]).2 : Int)) ∧ LedF w w' l d pre (D.rid [shadowN (imgN (nm pre))]).1 M F ∧ Same F w1 w' := by
  obtain ⟨own, dv, ev, vs, hL, hS, hn, hl⟩ := h
  refine (clears_calls hS hL.lc (.inl hL.ol)).mono ?_
  rintro e w' ⟨rfl, hS', hs⟩
  exact ⟨rfl, ⟨own, dv, ev, vs, hL.keep (fun k hk => hs k (.inl hk)) fun k hk => hS'.flt (.inl hk), hS', hn, fun k hk => hS'.flt (.inr hk)⟩, fun k hk => hs k (.inr hk)⟩

/-- A ledger that was made a moment ago. -/
theorem led_fresh {w w1 : World} {d : Nat} {D : DiskM} {F : Nat → Prop} (h : St w w1 d D F) (pre : ByteArray) (hp : 1 ≤ pre.size ∧ pre.size ≤ 20) :
    LedF w (w1.alloc (.cells #[.pointer (some ⟨d, 0, none⟩), .string pre, .int .i64 0, .slice none 0 0, .slice none 0 0, .bool false] 56)) w1.heap.size d pre D LedM.none0 F := by
  have hb := below_one w1 (.cells #[.pointer (some ⟨d, 0, none⟩), .string pre, .int .i64 0, .slice none 0 0, .slice none 0 0, .bool false] 56)
  refine ⟨fun k => k = w1.heap.size, .slice none 0 0, .slice none 0 0, [], ⟨new_block w1 _, OwnR.nil _ _ _, OwnR.nil _ _ _, fun i u b hu => (by simp at hu), rfl, fun k hk => (by cases hk), fun k hk => (by cases hk), fun u hu => (by simp at hu), fun k hk => (by rw [hk]; simp), Nat.zero_le _, hp, ⟨Nat.zero_le _, fun b hb => (by cases hb)⟩⟩, h.move (Chg.of_below hb) (fun _ _ h => h.elim) (fun k hk => ?_), fun k hk => ⟨by rw [hk]; exact h.below.size, fun hf => by have := h.flt hf; omega⟩, fun k hk => Nat.lt_of_lt_of_le (h.flt hk) hb.size⟩
  rcases hk with hk | hk
  · exact ⟨.inr (by omega), by rw [hk]; simp⟩
  · exact ⟨.inl hk, Nat.lt_of_lt_of_le (h.flt hk) hb.size⟩

set_option maxRecDepth 100000 in
set_option maxHeartbeats 16000000 in
theorem open_calls {w w1 : World} {d : Nat} {D : DiskM} {F : Nat → Prop} (h : St w w1 d D F) (pre : ByteArray) :
    Calls Try.prog 11 #[.pointer (some ⟨d, 0, none⟩), .string pre] w1 (OpenTold w w1 d pre F (ledOpen D (nm pre))) := by
  have hsz : (nm pre).length = pre.size := nm_len pre
  by_cases hp : (nm pre).length < 1 ∨ 20 < (nm pre).length
  · have HE := Lib.hid (show OpenTold w w1 d pre F (ledOpen D (nm pre)) (.returned (.tuple #[.pointer none, .int .i64 1])) w1 from by
      unfold ledOpen
      rw [if_pos hp]
      exact ⟨h, fun _ _ => rfl, .inr ⟨(show (1 : Nat) ≠ 0 by decide), rfl⟩⟩)
    rw [hsz] at hp
    clear h hsz
    generalize hzz : pre.size = z at *
    by_cases hz : z < 1
    · have hz0 : z = 0 := by omega
      subst hz0
      go_enter Try.func11, Try.ntmps11
      go_wp2_with fail
      go_ret2
      exact HE.out
    · have hz6 : 20 < z := by omega
      go_enter Try.func11, Try.ntmps11
      go_wp2_with fail
      go_ret2
      exact HE.out
  · obtain ⟨O⟩ := opens_of D (nm pre)
    have hp2 : 1 ≤ pre.size ∧ pre.size ≤ 20 := by rw [hsz] at hp; omega
    have H0 := Lib.hid (led_fresh h pre hp2)
    have Hs0 := Lib.hid (same_below h (below_one w1 (.cells #[.pointer (some ⟨d, 0, none⟩), .string pre, .int .i64 0, .slice none 0 0, .slice none 0 0, .bool false] 56)))
    have Hp := Lib.hid hp
    obtain ⟨hpa, hpb⟩ := hp2
    have hmf : ∀ (fn : Fn) (first cap : Array Value) (w : World), (Instr.makeFunc fn first cap).run Try.prog w = .ok (.func fn first cap) w := fun _ _ _ _ => rfl
    clear h hsz hp
    generalize hzz : pre.size = z at *
    go_enter Try.func11, Try.ntmps11
    go_wp2_with fail
    have hz1 : (w1.alloc (.cells #[.pointer (some ⟨d, 0, none⟩), .string pre, .int .i64 0, .slice none 0 0, .slice none 0 0, .bool false] 56)).heap.size = w1.heap.size + 1 := by simp
    have hL1 := H0.out.box (.cells #[.func (.func 22) #[.pointer (some ⟨w1.heap.size, 0, none⟩)] #[], .func (.func 23) #[.pointer (some ⟨w1.heap.size, 0, none⟩)] #[], .func (.func 24) #[.pointer (some ⟨w1.heap.size, 0, none⟩)] #[]] 35)
    have hfs := new_block (w1.alloc (.cells #[.pointer (some ⟨d, 0, none⟩), .string pre, .int .i64 0, .slice none 0 0, .slice none 0 0, .bool false] 56)) (.cells #[.func (.func 22) #[.pointer (some ⟨w1.heap.size, 0, none⟩)] #[], .func (.func 23) #[.pointer (some ⟨w1.heap.size, 0, none⟩)] #[], .func (.func 24) #[.pointer (some ⟨w1.heap.size, 0, none⟩)] #[]] 35)
    rw [hz1] at hL1 hfs
    have HL1 := Lib.hid hL1
    have Hs1 := Lib.hid (show Same F w1 ((w1.alloc (.cells #[.pointer (some ⟨d, 0, none⟩), .string pre, .int .i64 0, .slice none 0 0, .slice none 0 0, .bool false] 56)).alloc (.cells #[.func (.func 22) #[.pointer (some ⟨w1.heap.size, 0, none⟩)] #[], .func (.func 23) #[.pointer (some ⟨w1.heap.size, 0, none⟩)] #[], .func (.func 24) #[.pointer (some ⟨w1.heap.size, 0, none⟩)] #[]] 35)) from fun k hk => (H0.out.same (below_one _ _) k hk).trans (Hs0.out k hk))
    have Hfs := Lib.hid hfs
    clear hz1 hL1 hfs H0 Hs0
    generalize (w1.alloc (.cells #[.pointer (some ⟨d, 0, none⟩), .string pre, .int .i64 0, .slice none 0 0, .slice none 0 0, .bool false] 56)).alloc (.cells #[.func (.func 22) #[.pointer (some ⟨w1.heap.size, 0, none⟩)] #[], .func (.func 23) #[.pointer (some ⟨w1.heap.size, 0, none⟩)] #[], .func (.func 24) #[.pointer (some ⟨w1.heap.size, 0, none⟩)] #[]] 35) = W0 at *
    generalize w1.heap.size = l at *
    go_loopw [34] (OpenRel w W0 l d pre (fun k => F k ∨ k = l + 1) D O.D1 O.g.1 ⟨O.i.2.1, O.i.2.2, [], false⟩ ⟨O.i.2.1, O.i.2.2, O.g.2.2, false⟩ O.e1 O.i.1 O.g.2.1) (fun i _ => 3 - (intOf i).toNat)
    case atStart => exact ⟨fun _ _ => rfl, .inl ⟨rfl, HL1.out⟩⟩
    case round =>
      clear HL1
      obtain ⟨hsm, hx⟩ := hrel
      have hfb := (hsm (l + 1) (.inr rfl)).trans Hfs.out
      have k0 := cell_of hfb (i := 0) rfl
      have k1 := cell_of hfb (i := 1) rfl
      have k2 := cell_of hfb (i := 2) rfl
      have HsF := Lib.hid (show Same F w1 wr from fun k hk => (hsm k (.inl hk)).trans (Hs1.out k hk))
      have Hsm := Lib.hid hsm
      clear hsm hfb
      rcases hx with ⟨rfl, hL⟩ | ⟨rfl, he1, hL⟩ | ⟨rfl, he1, he2, hL⟩ | ⟨rfl, he1, he2, he3, hL⟩
      · have hcl := led_clears hL
        rw [O.h1] at hcl
        have Hcl := Lib.hid hcl
        clear hcl hL
        by_cases he : O.e1 = 0
        · have He := Lib.hid he
          rw [he] at Hcl
          clear he
          go_wp2_with fail
          refine Hcl.out.mono ?_
          rintro e w3 ⟨rfl, hL3, hs3⟩
          have HE := Lib.hid (show OpenRel w W0 l d pre (fun k => F k ∨ k = l + 1) D O.D1 O.g.1 ⟨O.i.2.1, O.i.2.2, [], false⟩ ⟨O.i.2.1, O.i.2.2, O.g.2.2, false⟩ O.e1 O.i.1 O.g.2.1 (.int .i64 1) w3 from ⟨Hsm.out.trans hs3, .inr (.inl ⟨rfl, He.out, hL3⟩)⟩)
          clear hL3 hs3
          go_wp2_with fail
          go_roundw
          case rel => first | exact HE.out | ((repeat apply Exists.intro); exact ⟨HE.out, rfl⟩)
          case measure => simp [intOf]
        · have hne : ((O.e1 : Int) != 0) = true := by simp; omega
          have HR := Lib.hid (open_e1 O Hp.out he)
          have He := Lib.hid he
          clear he
          generalize hek : O.e1 = k at *
          go_wp2_with fail
          refine Hcl.out.mono ?_
          rintro e w3 ⟨rfl, hL3, hs3⟩
          have HE := Lib.hid (show OpenTold w w1 d pre F (ledOpen D (nm pre)) (.returned (.tuple #[.pointer none, .int .i64 (k : Int)])) w3 from by
            rw [HR.out]
            exact ⟨hL3.stF.less fun _ h => .inl h, fun j hj => (hs3 j (.inl hj)).trans (HsF.out j hj), .inr ⟨He.out, rfl⟩⟩)
          clear hL3 hs3
          go_wp2_with fail
          go_ret2
          exact HE.out
      · have him := image_calls hL
        rw [O.hi] at him
        have Him := Lib.hid him
        have He1 := Lib.hid he1
        clear him hL he1
        by_cases he : O.i.1 = 0
        · have He := Lib.hid he
          clear he
          go_wp2_with fail
          refine Him.out.mono ?_
          intro e w3 hT
          have HE := Lib.hid (show OpenRel w W0 l d pre (fun k => F k ∨ k = l + 1) D O.D1 O.g.1 ⟨O.i.2.1, O.i.2.2, [], false⟩ ⟨O.i.2.1, O.i.2.2, O.g.2.2, false⟩ O.e1 O.i.1 O.g.2.1 (.int .i64 2) w3 from ⟨Hsm.out.trans hT.2.2.2, .inr (.inr (.inl ⟨rfl, He1.out, He.out, hT.2.1 He.out⟩))⟩)
          obtain ⟨he3, -⟩ := hT
          rw [He.out] at he3
          subst he3
          go_wp2_with fail
          go_roundw
          case rel => first | exact HE.out | ((repeat apply Exists.intro); exact ⟨HE.out, rfl⟩)
          case measure => simp [intOf]
        · have hne : ((O.i.1 : Int) != 0) = true := by simp; omega
          have HR := Lib.hid (open_e2 O Hp.out He1.out he)
          have He := Lib.hid he
          clear he
          go_wp2_with fail
          refine Him.out.mono ?_
          intro e w3 hT
          have HE := Lib.hid (show OpenTold w w1 d pre F (ledOpen D (nm pre)) (.returned (.tuple #[.pointer none, .int .i64 (O.i.1 : Int)])) w3 from by
            rw [HR.out]
            exact ⟨hT.2.2.1.less fun _ h => .inl h, fun j hj => (hT.2.2.2 j (.inl hj)).trans (HsF.out j hj), .inr ⟨He.out, rfl⟩⟩)
          obtain ⟨he3, -⟩ := hT
          subst he3
          generalize O.i.1 = k at *
          go_wp2_with fail
          go_ret2
          exact HE.out
      · have hlo := log_calls hL rfl
        rw [show logOf O.D1 (nm pre) (LedM.mk O.i.2.1 O.i.2.2 [] false).base = O.g from O.hg] at hlo
        have Hlo := Lib.hid hlo
        have He1 := Lib.hid he1
        have He2 := Lib.hid he2
        clear hlo hL he1 he2
        by_cases he : O.g.2.1 = 0
        · have He := Lib.hid he
          clear he
          go_wp2_with fail
          refine Hlo.out.mono ?_
          intro e w3 hT
          have HE := Lib.hid (show OpenRel w W0 l d pre (fun k => F k ∨ k = l + 1) D O.D1 O.g.1 ⟨O.i.2.1, O.i.2.2, [], false⟩ ⟨O.i.2.1, O.i.2.2, O.g.2.2, false⟩ O.e1 O.i.1 O.g.2.1 (.int .i64 3) w3 from ⟨Hsm.out.trans hT.2.2.1, .inr (.inr (.inr ⟨rfl, He1.out, He2.out, He.out, hT.2.2.2 He.out⟩))⟩)
          obtain ⟨he3, -⟩ := hT
          rw [He.out] at he3
          subst he3
          go_wp2_with fail
          go_roundw
          case rel => first | exact HE.out | ((repeat apply Exists.intro); exact ⟨HE.out, rfl⟩)
          case measure => simp [intOf]
        · have hne : ((O.g.2.1 : Int) != 0) = true := by simp; omega
          have HR := Lib.hid (open_e3 O Hp.out He1.out He2.out)
          have He := Lib.hid he
          clear he
          go_wp2_with fail
          refine Hlo.out.mono ?_
          intro e w3 hT
          have HE := Lib.hid (show OpenTold w w1 d pre F (ledOpen D (nm pre)) (.returned (.tuple #[.pointer none, .int .i64 (O.g.2.1 : Int)])) w3 from by
            rw [HR.out]
            exact ⟨hT.2.1.less fun _ h => .inl h, fun j hj => (hT.2.2.1 j (.inl hj)).trans (HsF.out j hj), .inr ⟨He.out, rfl⟩⟩)
          obtain ⟨he3, -⟩ := hT
          subst he3
          generalize O.g.2.1 = k at *
          go_wp2_with fail
          go_ret2
          exact HE.out
      · have HE := Lib.hid (show OpenTold w w1 d pre F (ledOpen D (nm pre)) (.returned (.tuple #[.pointer (some ⟨l, 0, none⟩), .int .i64 0])) wr from by
          rw [open_e3 O Hp.out he1 he2]
          exact ⟨hL.stF.less fun _ h => .inl h, HsF.out, .inl ⟨he3, l, rfl, hL.less fun _ h => .inl h⟩⟩)
        clear hL he1 he2 he3
        go_wp2_with fail
        go_ret2
        exact HE.out
end Go.Proofs.Yteohbjkjfnflgaa
