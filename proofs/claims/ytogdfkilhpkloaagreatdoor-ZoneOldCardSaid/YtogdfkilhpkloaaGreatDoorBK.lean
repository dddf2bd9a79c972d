/- ledger: Open. ledger: Append. (Printed by mkled6.py.) -/
import Derived.Test.YtogdfkilhpkloaaGreatDoorBA
import Derived.Test.YtogdfkilhpkloaaGreatDoorBJ
namespace Go.Proofs.YtogdfkilhpkloaaGreatDoor
open Go.RowKit Go.Sat Go.Maps

/-- What an opening leaves. -/
def OpenTold (w w1 : World) (d : Nat) (pre : ByteArray) (F : Nat → Prop) (r : DiskM × Nat × LedM) (e : Ending) (w' : World) : Prop :=
  St w w' d r.1 F ∧ Same F w1 w' ∧ ((r.2.1 = 0 ∧ ∃ l, e = .returned (.tuple #[.pointer (some ⟨l, 0, none⟩), .int .i64 0]) ∧ LedF w w' l d pre r.1 r.2.2 F) ∨ (r.2.1 ≠ 0 ∧ e = .returned (.tuple #[.pointer none, .int .i64 (r.2.1 : Int)])))

/-- The steps of an opening. -/
structure Opens (D : DiskM) (pre : Bs) where
  D1 : DiskM
  e1 : Nat
  h1 : D.rid [shadowN (imgN pre)] = (D1, e1)
  i : Nat × Nat × Bs
  hi : imageOf (Sat.get (imgN pre) D1.files) = i
  g : DiskM × Nat × List Bs
  hg : logOf D1 pre i.2.1 = g

theorem opens_of (D : DiskM) (pre : Bs) : Nonempty (Opens D pre) := ⟨⟨_, _, rfl, _, rfl, _, rfl⟩⟩

section
variable {D : DiskM} {pre : Bs} (O : Opens D pre)

theorem open_e1 (h : ¬ (pre.length < 1 ∨ 20 < pre.length)) (h1 : O.e1 ≠ 0) : ledOpen D pre = (O.D1, O.e1, LedM.none0) := by
  unfold ledOpen
  rw [if_neg h, O.h1]
  exact if_pos h1
theorem open_e2 (h : ¬ (pre.length < 1 ∨ 20 < pre.length)) (h1 : O.e1 = 0) (h2 : O.i.1 ≠ 0) : ledOpen D pre = (O.D1, O.i.1, LedM.none0) := by
  unfold ledOpen
  rw [if_neg h, O.h1]
  rw [if_neg (by simpa using h1)]
  dsimp only
  rw [O.hi, if_pos h2]
theorem open_e3 (h : ¬ (pre.length < 1 ∨ 20 < pre.length)) (h1 : O.e1 = 0) (h2 : O.i.1 = 0) : ledOpen D pre = (O.g.1, O.g.2.1, ⟨O.i.2.1, O.i.2.2, O.g.2.2, false⟩) := by
  unfold ledOpen
  rw [if_neg h, O.h1]
  rw [if_neg (by simpa using h1)]
  dsimp only
  rw [O.hi, if_neg (by simpa using h2), O.hg]
end

/-- The loop over the three steps. -/
def OpenRel (w w0 : World) (l d : Nat) (pre : ByteArray) (G : Nat → Prop) (D D1 D3 : DiskM) (M2 M3 : LedM) (e1 e2 e3 : Nat) (x : Value) (wr : World) : Prop :=
  Same G w0 wr ∧ ((x = .int .i64 0 ∧ LedF w wr l d pre D LedM.none0 G) ∨ (x = .int .i64 1 ∧ e1 = 0 ∧ LedF w wr l d pre D1 LedM.none0 G) ∨ (x = .int .i64 2 ∧ e1 = 0 ∧ e2 = 0 ∧ LedF w wr l d pre D1 M2 G) ∨ (x = .int .i64 3 ∧ e1 = 0 ∧ e2 = 0 ∧ e3 = 0 ∧ LedF w wr l d pre D3 M3 G))

theorem led_clears {w w1 : World} {l d : Nat} {pre : ByteArray} {D : DiskM} {M : LedM} {F : Nat → Prop} (h : LedF w w1 l d pre D M F) :
    Calls Tryz.prog 91 #[.pointer (some ⟨l, 0, none⟩)] w1 fun e w' => e = .returned (.int .i64 ((D.rid [shadowN (imgN (nm pre))]).2 : Int)) ∧ LedF w w' l d pre (D.rid [shadowN (imgN (nm pre))]).1 M F ∧ Same F w1 w' := by
  obtain ⟨own, dv, ev, vs, hL, hS, hn, hl⟩ := h
  refine (clears_calls hS hL.lc (.inl hL.ol)).mono ?_
  rintro e w' ⟨rfl, hS', hs⟩
  exact ⟨rfl, ⟨own, dv, ev, vs, hL.keep (fun k hk => hs k (.inl hk)) fun k hk => hS'.flt (.inl hk), hS', hn, fun k hk => hS'.flt (.inr hk)⟩, fun k hk => hs k (.inr hk)⟩

/-- A ledger that was made a moment ago. -/
theorem led_fresh {w w1 : World} {d : Nat} {D : DiskM} {F : Nat → Prop} (h : St w w1 d D F) (pre : ByteArray) (hp : 1 ≤ pre.size ∧ pre.size ≤ 20) :
    LedF w (w1.alloc (.cells #[.pointer (some ⟨d, 0, none⟩), .string pre, .int .i64 0, .slice none 0 0, .slice none 0 0, .bool false] 157)) w1.heap.size d pre D LedM.none0 F := by
  have hb := below_one w1 (.cells #[.pointer (some ⟨d, 0, none⟩), .string pre, .int .i64 0, .slice none 0 0, .slice none 0 0, .bool false] 157)
  refine ⟨fun k => k = w1.heap.size, .slice none 0 0, .slice none 0 0, [], ⟨new_block w1 _, OwnR.nil _ _ _, OwnR.nil _ _ _, fun i u b hu => (by simp at hu), rfl, fun k hk => (by cases hk), fun k hk => (by cases hk), fun u hu => (by simp at hu), fun k hk => (by rw [hk]; simp), Nat.zero_le _, hp, ⟨Nat.zero_le _, fun b hb => (by cases hb)⟩⟩, h.move (Chg.of_below hb) (fun _ _ h => h.elim) (fun k hk => ?_), fun k hk => ⟨by rw [hk]; exact h.below.size, fun hf => by have := h.flt hf; omega⟩, fun k hk => Nat.lt_of_lt_of_le (h.flt hk) hb.size⟩
  rcases hk with hk | hk
  · exact ⟨.inr (by omega), by rw [hk]; simp⟩
  · exact ⟨.inl hk, Nat.lt_of_lt_of_le (h.flt hk) hb.size⟩

set_option maxRecDepth 100000 in
set_option maxHeartbeats 16000000 in
theorem open_calls {w w1 : World} {d : Nat} {D : DiskM} {F : Nat → Prop} (h : St w w1 d D F) (pre : ByteArray) :
    Calls Tryz.prog 43 #[.pointer (some ⟨d, 0, none⟩), .string pre] w1 (OpenTold w w1 d pre F (ledOpen D (nm pre))) := by
  have hsz : (nm pre).length = pre.size := nm_len pre
  by_cases hp : (nm pre).length < 1 ∨ 20 < (nm pre).length
  · have HE := Lib.hid (show OpenTold w w1 d pre F (ledOpen D (nm pre)) (.returned (.tuple #[.pointer none, .int .i64 1])) w1 from by
      unfold ledOpen
      rw [if_pos hp]
      exact ⟨h, fun _ _ => rfl, .inr ⟨(show (1 : Nat) ≠ 0 by decide), rfl⟩⟩)
    rw [hsz] at hp
    clear h hsz
    generalize hzz : pre.size = z at *
    by_cases hz : z < 1
    · have hz0 : z = 0 := by omega
      subst hz0
      go_enter Tryz.func43, Tryz.ntmps43
      go_wp2_with fail
      go_ret2
      exact HE.out
    · have hz6 : 20 < z := by omega
      go_enter Tryz.func43, Tryz.ntmps43
      go_wp2_with fail
      go_ret2
      exact HE.out
  · obtain ⟨O⟩ := opens_of D (nm pre)
    have hp2 : 1 ≤ pre.size ∧ pre.size ≤ 20 := by rw [hsz] at hp; omega
    have H0 := Lib.hid (led_fresh h pre hp2)
    have Hs0 := Lib.hid (same_below h (below_one w1 (.cells #[.pointer (some ⟨d, 0, none⟩), .string pre, .int .i64 0, .slice none 0 0, .slice none 0 0, .bool false] 157)))
    have Hp := Lib.hid hp
    obtain ⟨hpa, hpb⟩ := hp2
    have hmf : ∀ (fn : Fn) (first cap : Array Value) (w : World), (Instr.makeFunc fn first cap).run Tryz.prog w = .ok (.func fn first cap) w := fun _ _ _ _ => rfl
    clear h hsz hp
    generalize hzz : pre.size = z at *
    go_enter Tryz.func43, Tryz.ntmps43
    go_wp2_with fail
    have hz1 : (w1.alloc (.cells #[.pointer (some ⟨d, 0, none⟩), .string pre, .int .i64 0, .slice none 0 0, .slice none 0 0, .bool false] 157)).heap.size = w1.heap.size + 1 := by simp
    have hL1 := H0.out.box (.cells #[.func (.func 91) #[.pointer (some ⟨w1.heap.size, 0, none⟩)] #[], .func (.func 92) #[.pointer (some ⟨w1.heap.size, 0, none⟩)] #[], .func (.func 93) #[.pointer (some ⟨w1.heap.size, 0, none⟩)] #[]] 57)
    have hfs := new_block (w1.alloc (.cells #[.pointer (some ⟨d, 0, none⟩), .string pre, .int .i64 0, .slice none 0 0, .slice none 0 0, .bool false] 157)) (.cells #[.func (.func 91) #[.pointer (some ⟨w1.heap.size, 0, none⟩)] #[], .func (.func 92) #[.pointer (some ⟨w1.heap.size, 0, none⟩)] #[], .func (.func 93) #[.pointer (some ⟨w1.heap.size, 0, none⟩)] #[]] 57)
    rw [hz1] at hL1 hfs
    have HL1 := Lib.hid hL1
    have Hs1 := Lib.hid (show Same F w1 ((w1.alloc (.cells #[.pointer (some ⟨d, 0, none⟩), .string pre, .int .i64 0, .slice none 0 0, .slice none 0 0, .bool false] 157)).alloc (.cells #[.func (.func 91) #[.pointer (some ⟨w1.heap.size, 0, none⟩)] #[], .func (.func 92) #[.pointer (some ⟨w1.heap.size, 0, none⟩)] #[], .func (.func 93) #[.pointer (some ⟨w1.heap.size, 0, none⟩)] #[]] 57)) from fun k hk => (H0.out.same (below_one _ _) k hk).trans (Hs0.out k hk))
    have Hfs := Lib.hid hfs
    clear hz1 hL1 hfs H0 Hs0
    generalize (w1.alloc (.cells #[.pointer (some ⟨d, 0, none⟩), .string pre, .int .i64 0, .slice none 0 0, .slice none 0 0, .bool false] 157)).alloc (.cells #[.func (.func 91) #[.pointer (some ⟨w1.heap.size, 0, none⟩)] #[], .func (.func 92) #[.pointer (some ⟨w1.heap.size, 0, none⟩)] #[], .func (.func 93) #[.pointer (some ⟨w1.heap.size, 0, none⟩)] #[]] 57) = W0 at *
    generalize w1.heap.size = l at *
    go_loopw [34] (OpenRel w W0 l d pre (fun k => F k ∨ k = l + 1) D O.D1 O.g.1 ⟨O.i.2.1, O.i.2.2, [], false⟩ ⟨O.i.2.1, O.i.2.2, O.g.2.2, false⟩ O.e1 O.i.1 O.g.2.1) (fun i _ => 3 - (intOf i).toNat)
    case atStart => exact ⟨fun _ _ => rfl, .inl ⟨rfl, HL1.out⟩⟩
    case round =>
      clear HL1
      obtain ⟨hsm, hx⟩ := hrel
      have hfb := (hsm (l + 1) (.inr rfl)).trans Hfs.out
      have k0 := cell_of hfb (i := 0) rfl
      have k1 := cell_of hfb (i := 1) rfl
      have k2 := cell_of hfb (i := 2) rfl
      have HsF := Lib.hid (show Same F w1 wr from fun k hk => (hsm k (.inl hk)).trans (Hs1.out k hk))
      have Hsm := Lib.hid hsm
      clear hsm hfb
      rcases hx with ⟨rfl, hL⟩ | ⟨rfl, he1, hL⟩ | ⟨rfl, he1, he2, hL⟩ | ⟨rfl, he1, he2, he3, hL⟩
      · have hcl := led_clears hL
        rw [O.h1] at hcl
        have Hcl := Lib.hid hcl
        clear hcl hL
        by_cases he : O.e1 = 0
        · have He := Lib.hid he
          rw [he] at Hcl
          clear he
          go_wp2_with fail
          refine Hcl.out.mono ?_
          rintro e w3 ⟨rfl, hL3, hs3⟩
          have HE := Lib.hid (show OpenRel w W0 l d pre (fun k => F k ∨ k = l + 1) D O.D1 O.g.1 ⟨O.i.2.1, O.i.2.2, [], false⟩ ⟨O.i.2.1, O.i.2.2, O.g.2.2, false⟩ O.e1 O.i.1 O.g.2.1 (.int .i64 1) w3 from ⟨Hsm.out.trans hs3, .inr (.inl ⟨rfl, He.out, hL3⟩)⟩)
          clear hL3 hs3
          go_wp2_with fail
          go_roundw
          case rel => first | exact HE.out | ((repeat apply Exists.intro); exact ⟨HE.out, rfl⟩)
          case measure => simp [intOf]
        · have hne : ((O.e1 : Int) != 0) = true := by simp; omega
          have HR := Lib.hid (open_e1 O Hp.out he)
          have He := Lib.hid he
          clear he
          generalize hek : O.e1 = k at *
          go_wp2_with fail
          refine Hcl.out.mono ?_
          rintro e w3 ⟨rfl, hL3, hs3⟩
          have HE := Lib.hid (show OpenTold w w1 d pre F (ledOpen D (nm pre)) (.returned (.tuple #[.pointer none, .int .i64 (k : Int)])) w3 from by
            rw [HR.out]
            exact ⟨hL3.stF.less fun _ h => .inl h, fun j hj => (hs3 j (.inl hj)).trans (HsF.out j hj), .inr ⟨He.out, rfl⟩⟩)
          clear hL3 hs3
          go_wp2_with fail
          go_ret2
          exact HE.out
      · have him := image_calls hL
        rw [O.hi] at him
        have Him := Lib.hid him
        have He1 := Lib.hid he1
        clear him hL he1
        by_cases he : O.i.1 = 0
        · have He := Lib.hid he
          clear he
          go_wp2_with fail
          refine Him.out.mono ?_
          intro e w3 hT
          have HE := Lib.hid (show OpenRel w W0 l d pre (fun k => F k ∨ k = l + 1) D O.D1 O.g.1 ⟨O.i.2.1, O.i.2.2, [], false⟩ ⟨O.i.2.1, O.i.2.2, O.g.2.2, false⟩ O.e1 O.i.1 O.g.2.1 (.int .i64 2) w3 from ⟨Hsm.out.trans hT.2.2.2, .inr (.inr (.inl ⟨rfl, He1.out, He.out, hT.2.1 He.out⟩))⟩)
          obtain ⟨he3, -⟩ := hT
          rw [He.out] at he3
          subst he3
          go_wp2_with fail
          go_roundw
          case rel => first | exact HE.out | ((repeat apply Exists.intro); exact ⟨HE.out, rfl⟩)
          case measure => simp [intOf]
        · have hne : ((O.i.1 : Int) != 0) = true := by simp; omega
          have HR := Lib.hid (open_e2 O Hp.out He1.out he)
          have He := Lib.hid he
          clear he
          go_wp2_with fail
          refine Him.out.mono ?_
          intro e w3 hT
          have HE := Lib.hid (show OpenTold w w1 d pre F (ledOpen D (nm pre)) (.returned (.tuple #[.pointer none, .int .i64 (O.i.1 : Int)])) w3 from by
            rw [HR.out]
            exact ⟨hT.2.2.1.less fun _ h => .inl h, fun j hj => (hT.2.2.2 j (.inl hj)).trans (HsF.out j hj), .inr ⟨He.out, rfl⟩⟩)
          obtain ⟨he3, -⟩ := hT
          subst he3
          generalize O.i.1 = k at *
          go_wp2_with fail
          go_ret2
          exact HE.out
      · have hlo := log_calls hL rfl
        rw [show logOf O.D1 (nm pre) (LedM.mk O.i.2.1 O.i.2.2 [] false).base = O.g from O.hg] at hlo
        have Hlo := Lib.hid hlo
        have He1 := Lib.hid he1
        have He2 := Lib.hid he2
        clear hlo hL he1 he2
        by_cases he : O.g.2.1 = 0
        · have He := Lib.hid he
          clear he
          go_wp2_with fail
          refine Hlo.out.mono ?_
          intro e w3 hT
          have HE := Lib.hid (show OpenRel w W0 l d pre (fun k => F k ∨ k = l + 1) D O.D1 O.g.1 ⟨O.i.2.1, O.i.2.2, [], false⟩ ⟨O.i.2.1, O.i.2.2, O.g.2.2, false⟩ O.e1 O.i.1 O.g.2.1 (.int .i64 3) w3 from ⟨Hsm.out.trans hT.2.2.1, .inr (.inr (.inr ⟨rfl, He1.out, He2.out, He.out, hT.2.2.2 He.out⟩))⟩)
          obtain ⟨he3, -⟩ := hT
          rw [He.out] at he3
          subst he3
          go_wp2_with fail
          go_roundw
          case rel => first | exact HE.out | ((repeat apply Exists.intro); exact ⟨HE.out, rfl⟩)
          case measure => simp [intOf]
        · have hne : ((O.g.2.1 : Int) != 0) = true := by simp; omega
          have HR := Lib.hid (open_e3 O Hp.out He1.out He2.out)
          have He := Lib.hid he
          clear he
          go_wp2_with fail
          refine Hlo.out.mono ?_
          intro e w3 hT
          have HE := Lib.hid (show OpenTold w w1 d pre F (ledOpen D (nm pre)) (.returned (.tuple #[.pointer none, .int .i64 (O.g.2.1 : Int)])) w3 from by
            rw [HR.out]
            exact ⟨hT.2.1.less fun _ h => .inl h, fun j hj => (hT.2.2.1 j (.inl hj)).trans (HsF.out j hj), .inr ⟨He.out, rfl⟩⟩)
          obtain ⟨he3, -⟩ := hT
          subst he3
          generalize O.g.2.1 = k at *
          go_wp2_with fail
          go_ret2
          exact HE.out
      · have HE := Lib.hid (show OpenTold w w1 d pre F (ledOpen D (nm pre)) (.returned (.tuple #[.pointer (some ⟨l, 0, none⟩), .int .i64 0])) wr from by
          rw [open_e3 O Hp.out he1 he2]
          exact ⟨hL.stF.less fun _ h => .inl h, HsF.out, .inl ⟨he3, l, rfl, hL.less fun _ h => .inl h⟩⟩)
        clear hL he1 he2 he3
        go_wp2_with fail
        go_ret2
        exact HE.out
end Go.Proofs.YtogdfkilhpkloaaGreatDoor

namespace Go.Proofs.YtogdfkilhpkloaaGreatDoor
open Go.RowKit Go.Sat Go.Maps

def AppTold (w w1 : World) (l d : Nat) (pre : ByteArray) (F : Nat → Prop) (r : Wrote) (e : Ending) (w' : World) : Prop :=
  e = .returned (.tuple #[.int .i64 (r.num : Int), .int .i64 (r.err : Int)]) ∧ LedF w w' l d pre r.disk r.led F ∧ Same F w1 w'

section
variable {w w1 w2 wc : World} {l d : Nat} {pre : ByteArray} {D : DiskM} {M : LedM} {F : Nat → Prop}

theorem led_append (h : LedF w w1 l d pre D M F) (hb : Below w1.heap.size w1 wc) (s : ByteArray) (x : Value) (ls : List Bs) (hx : RowsAt wc x ls) (hn : ls.length ≤ 140737488355328) (hl : ls.flatten.length ≤ 140737488355328) (hsz : s.size ≤ 9223372036854775807) :
    Calls Tryz.prog 116 #[.pointer (some ⟨d, 0, none⟩), .string s, x] wc fun e w' => e = .returned (.int .i64 ((D.append (nm s) ls.flatten).2 : Int)) ∧ LedF w w' l d pre (D.append (nm s) ls.flatten).1 M F ∧ Same F w1 w' ∧ w'.heap[l]? = w1.heap[l]? :=
  led_disk h hb fun _ hS => st_append (hS.next hb) s x ls hx hn hl hsz

theorem app_dead (hd : M.dead = true) (b : Bs) : ledAppend (nm pre) D M b = ⟨D, M, 0, 9⟩ := by unfold ledAppend; rw [if_pos hd]
theorem app_long (hd : M.dead = false) (b : Bs) (h : 65536 < b.length ∨ 1099511627776 ≤ M.last) : ledAppend (nm pre) D M b = ⟨D, M, 0, 5⟩ := by unfold ledAppend; rw [if_neg (by simp [hd]), if_pos h]
theorem app_err (hd : M.dead = false) (b : Bs) (h : ¬ (65536 < b.length ∨ 1099511627776 ≤ M.last)) {r : DiskM × Nat} (hr : layOn D (logN (nm pre)) (frameN (imgB (M.last + 1) b)) = r) (h1 : r.2 ≠ 0) : ledAppend (nm pre) D M b = ⟨r.1, M.die, 0, r.2⟩ := by
  unfold ledAppend
  rw [if_neg (by simp [hd]), if_neg h, hr, if_pos h1]
theorem app_ok (hd : M.dead = false) (b : Bs) (h : ¬ (65536 < b.length ∨ 1099511627776 ≤ M.last)) {r : DiskM × Nat} (hr : layOn D (logN (nm pre)) (frameN (imgB (M.last + 1) b)) = r) (h1 : r.2 = 0) : ledAppend (nm pre) D M b = ⟨r.1, { M with entries := M.entries ++ [b] }, M.last + 1, 0⟩ := by
  unfold ledAppend
  rw [if_neg (by simp [hd]), if_neg h, hr, if_neg (by simpa using h1)]

theorem wr_fresh (w : World) (fr : Nat × Nat) : fr = (0, 0) → WrIn (w.alloc (.cells #[.slice none 0 0] 160 fr)) w.heap.size (.slice none 0 0) [] := fun h => by
  subst h
  exact ⟨new_block w _, OwnR.nil _ _ _, fun e => by cases e⟩

/-- What a Writer has done lies in what is new. -/
theorem wr_below {W0 W1 W2 : World} {k : Nat} {v v2 : Value} (hb : Below W0.heap.size W0 W1) (hk : W0.heap.size ≤ k) (hv : ∀ j, v.ownBlock = some j → W0.heap.size ≤ j) (hc : Chg (WrS k v) W1 W2) (hn : ∀ j, v2.ownBlock = some j → v.ownBlock = some j ∨ W1.heap.size ≤ j) : Below W0.heap.size W0 W2 ∧ ∀ j, v2.ownBlock = some j → W0.heap.size ≤ j :=
  ⟨hb.trans (hc.below hb.size fun j hj hs => by
    rcases hs with rfl | hs
    · omega
    · have := hv j hs
      omega), fun j hj => (hn j hj).elim (hv j) (Nat.le_trans hb.size)⟩

set_option maxRecDepth 100000 in
set_option maxHeartbeats 16000000 in
theorem lappend_calls (h : LedF w w1 l d pre D M F) {pp : Option Addr} {n c : Nat} {b : Bs} (hx : ∀ W, Below w.heap.size w W → Same F w1 W → HasB W (.slice pp n c) b) (hb47 : b.length ≤ 140737488355328) :
    Calls Tryz.prog 55 #[.pointer (some ⟨l, 0, none⟩), .slice pp n c] w1 (AppTold w w1 l d pre F (ledAppend (nm pre) D M b)) := by
  obtain ⟨i0, hi, hz0, hz1, hz2⟩ := info_parts (show (Tryz.prog.info? 39).map (fun i => (i.zero, i.size, i.bytes)) = some (some (.slice none 0 0), 1, 24) by kernel_rfl)
  have hn : b.length = n := by obtain ⟨_, _, e⟩ := (hx w1 h.bel fun _ _ => rfl).slice; simp only [Value.slice.injEq] at e; exact e.2.1.symm
  have hps := h.psz.2
  have hlast40 := h.last
  obtain ⟨dv, ev, hcl, -⟩ := h.cells
  have k5 := cell_of hcl (i := 5) rfl
  have H := Lib.hid h
  have Hx := Lib.hid hx
  have Hla := Lib.hid (last_calls h)
  clear h hx hcl
  cases hd : M.dead with
  | true =>
    have HE := Lib.hid (show AppTold w w1 l d pre F (ledAppend (nm pre) D M b) (.returned (.tuple #[.int .i64 0, .int .i64 9])) w1 from by rw [app_dead hd]; exact ⟨rfl, H.out, fun _ _ => rfl⟩)
    have k5' : w1.cell? ⟨l, 5, none⟩ = some (.bool true) := by rw [← hd]; exact k5
    clear k5 hd
    go_enter Tryz.func55, Tryz.ntmps55
    go_wp2_with fail
    go_ret2
    exact HE.out
  | false =>
    have k5' : w1.cell? ⟨l, 5, none⟩ = some (.bool false) := by rw [← hd]; exact k5
    have Hd := Lib.hid hd
    clear k5 hd
    by_cases hbig : 65536 < n
    · have HE := Lib.hid (show AppTold w w1 l d pre F (ledAppend (nm pre) D M b) (.returned (.tuple #[.int .i64 0, .int .i64 5])) w1 from by rw [app_long Hd.out _ (.inl (by omega))]; exact ⟨rfl, H.out, fun _ _ => rfl⟩)
      go_enter Tryz.func55, Tryz.ntmps55
      go_wp2_with fail
      go_ret2
      exact HE.out
    · by_cases hla40 : 1099511627776 ≤ M.last
      · have HE := Lib.hid (fun q => show AppTold w w1 l d pre F (ledAppend (nm pre) D M b) (.returned (.tuple #[.int .i64 0, .int .i64 5])) (w1.drewN q) from by rw [app_long Hd.out _ (.inr hla40)]; exact ⟨rfl, H.out.next ⟨rfl, rfl, rfl, Nat.le_refl _, fun _ _ => rfl⟩, fun _ _ => rfl⟩)
        generalize M.last = la at *
        go_enter Tryz.func55, Tryz.ntmps55
        go_wp2_with fail
        refine Hla.out.mono ?_
        rintro e w2 ⟨rfl, q, rfl⟩
        go_wp2_with fail
        go_ret2
        exact HE.out q
      · have Hno := Lib.hid (show ¬ (65536 < b.length ∨ 1099511627776 ≤ M.last) from fun e => e.elim (by omega) hla40)
        have Hla1 := Lib.hid (show M.last + 1 ≤ 1099511627776 by omega)
        have Hm40 := Lib.hid (show M.entries.length ≤ 1099511627776 by unfold LedM.last at hlast40; omega)
        have Hb30 := Lib.hid (show b.length ≤ 1073741824 by omega)
        have HLV := Lib.hid (show M.last = M.last from rfl)
        go_enter Tryz.func55, Tryz.ntmps55
        generalize hlaE : M.last = la at *
        have HlaE := Lib.hid hlaE
        clear hlaE
        go_wp2_with fail
        refine Hla.out.mono ?_
        rintro e w2 ⟨rfl, q, rfl⟩
        go_wp2_with fail
        have HL2 := Lib.hid (H.out.next (show Below w1.heap.size w1 ((w1.drewN q).alloc (.cells #[.slice none 0 0] 160)) from (show Below w1.heap.size w1 (w1.drewN q) from ⟨rfl, rfl, rfl, Nat.le_refl _, fun _ _ => rfl⟩).alloc (Nat.le_refl _) _))
        have Hs2 := Lib.hid (show Same F w1 ((w1.drewN q).alloc (.cells #[.slice none 0 0] 160)) from fun k hk => (below_one0 (w1.drewN q) _).block k (H.out.flt hk))
        have Hw2 := Lib.hid (show WrIn ((w1.drewN q).alloc (.cells #[.slice none 0 0] 160)) w1.heap.size (.slice none 0 0) [] from wr_fresh (w1.drewN q) (0, 0) rfl)
        have HB2 := Lib.hid (show Below w1.heap.size w1 ((w1.drewN q).alloc (.cells #[.slice none 0 0] 160)) from (show Below w1.heap.size w1 (w1.drewN q) from ⟨rfl, rfl, rfl, Nat.le_refl _, fun _ _ => rfl⟩).alloc (Nat.le_refl _) _)
        have Hla2 := Lib.hid (last_calls HL2.out)
        rw [HlaE.out] at Hla2
        generalize (w1.drewN q).alloc (.cells #[.slice none 0 0] 160) = W2 at *
        refine Hla2.out.mono ?_
        rintro e w3 ⟨rfl, q2, rfl⟩
        have hdq : Below W2.heap.size W2 (W2.drewN q2) := ⟨rfl, rfl, rfl, Nat.le_refl _, fun _ _ => rfl⟩
        have Hn1 := Lib.hid (wnum_one (Hw2.out.keep hdq) ((la : Int) + 1) ⟨by omega, by have := Hla1.out; omega⟩ (by simp) W2.heap.size 1 rfl (0, 0))
        have Hba := Lib.hid (show Below w1.heap.size w1 ((W2.drewN q2).alloc (.cells #[.int .i64 ((la : Int) + 1)] 3)) from (HB2.out.trans (hdq.mono HB2.out.size)).alloc HB2.out.size _)
        have hl1 : (la : Int) ≤ 1099511627776 := by have := Hla1.out; omega
        clear hdq Hla2 HL2 Hs2
        go_wp2_with fail
        refine Hn1.out.mono ?_
        rintro e w3 ⟨rfl, v3, hv3, hc3, hn3⟩
        have HB3 := Lib.hid (wr_below Hba.out (Nat.le_refl _) (fun j hj => by cases hj) hc3 hn3)
        have Hv3 := Lib.hid hv3
        have Hby := Lib.hid (wbytes_one hv3 (pv := pp) (m := n) (cv := c) (x := b) (fun W hc => by
          have hbW : Below w1.heap.size w1 W := HB3.out.1.trans (hc.below HB3.out.1.size fun j hj hs => by
            rcases hs with rfl | hs
            · omega
            · have := HB3.out.2 j hs
              omega)
          exact Hx.out W (H.out.bel.trans (hbW.mono H.out.bel.size)) fun k hk => hbW.block k (H.out.flt hk)) (by
          have h1 := numI_len ((la : Int) + 1)
          rw [List.nil_append]
          have := Hb30.out
          omega) w3.heap.size 1 rfl (0, 0))
        have Hbb := Lib.hid (show Below w1.heap.size w1 (w3.alloc (.cells #[.slice pp n c] 39)) from HB3.out.1.alloc HB3.out.1.size _)
        clear hv3 hc3 hn3 Hn1
        go_wp2_with fail
        refine Hby.out.mono ?_
        rintro e w4 ⟨rfl, v4, hv4, hc4, hn4⟩
        have HB4 := Lib.hid (wr_below Hbb.out (Nat.le_refl _) HB3.out.2 hc4 hn4).1
        have hi4 : [] ++ numI ((la : Int) + 1) ++ rowB b = imgB (la + 1) b := by
          rw [List.nil_append]
          unfold imgB
          rw [show ((la : Int) + 1) = ((la + 1 : Nat) : Int) by omega, numI_nat (by have := Hla1.out; omega)]
        rw [hi4] at hv4
        have hil : (imgB (la + 1) b).length ≤ 70000 := by
          unfold imgB rowB
          have h1 := numB_nine (n := la + 1) (by have := Hla1.out; omega)
          have h2 := numB_nine (n := b.length) (by have := Hb30.out; omega)
          rw [List.length_append, List.length_append]
          omega
        have Hou := Lib.hid (wout_calls hv4 (by omega))
        have Hil := Lib.hid hil
        clear hv4 hc4 hn4 hi4 Hby hil
        generalize hIM : imgB (la + 1) b = im at *
        have HIM := Lib.hid hIM
        clear hIM
        go_wp2_with fail
        refine Hou.out.mono ?_
        rintro e w5 ⟨v5, rfl, hv5, hn5, hb5⟩
        have HB5 := Lib.hid (show Below w1.heap.size w1 w5 from HB4.out.trans (hb5.mono HB4.out.size))
        obtain ⟨p5, c5, rfl, -⟩ := own_cap0 hv5
        have hr5 := rows_one hv5.has 39 (0, 0) w5.heap.size 1 rfl (Nat.le_refl _)
        have hen := enc_calls hr5 (by decide) (by rw [List.flatten_cons, List.flatten_nil, List.append_nil]; have := Hil.out; omega)
        rw [show [im].flatten = im from by rw [List.flatten_cons, List.flatten_nil, List.append_nil]] at hen
        have Hen := Lib.hid hen
        clear hv5 hn5 hb5 hr5 hen Hou
        generalize hml : im.length = ml at *
        have Hml := Lib.hid hml
        clear hml
        go_wp2_with fail
        refine Hen.out.mono ?_
        rintro e w6 ⟨v6, rfl, hv6, hn6, hb6⟩
        have HB6 := Lib.hid (show Below w1.heap.size w1 w6 from (HB5.out.alloc HB5.out.size _).trans (hb6.mono (HB5.out.alloc HB5.out.size _).size))
        have HL6 := Lib.hid (H.out.next HB6.out)
        have Hs6 := Lib.hid (H.out.same HB6.out)
        obtain ⟨pf, cf, rfl⟩ := HasB.slice hv6
        have hfl : (frameN im).length ≤ 70100 := by rw [frame_len, Hml.out]; have := Hil.out; omega
        have Hfl := Lib.hid hfl
        generalize hfr : frameN im = fr at *
        have Hfr := Lib.hid (show frameN (imgB (M.last + 1) b) = fr from by rw [HlaE.out, HIM.out, hfr])
        have Hf6 := Lib.hid hv6
        clear hv6 hn6 hb6 Hen hfr hfl
        generalize hnf : fr.length = nf at *
        have Hnf := Lib.hid hnf
        clear hnf
        cases hap : D.append (logN (nm pre)) fr with
        | mk D1 e1 =>
          have Happ := Lib.hid (show ∀ W, LedF w W l d pre D M F → HasB W (.slice pf nf cf) fr → Calls Tryz.prog 116 #[.pointer (some ⟨d, 0, none⟩), .string (sLog pre), .slice (some ⟨W.heap.size, 0, none⟩) 1 1] (W.alloc (.cells #[.slice pf nf cf] 39)) fun e w' => e = .returned (.int .i64 (e1 : Int)) ∧ LedF w w' l d pre D1 M F ∧ Same F W w' ∧ w'.heap[l]? = W.heap[l]? from fun W h hf => by
            have hr := rows_one hf 39 (0, 0) W.heap.size 1 rfl (Nat.le_refl _)
            have := led_append h (below_one W (.cells #[.slice pf nf cf] 39)) (sLog pre) _ [fr] hr (by simp) (by rw [List.flatten_cons, List.flatten_nil, List.append_nil, Hnf.out]; have := Hfl.out; omega) (by rw [size_log]; omega)
            rwa [nm_log, show [fr].flatten = fr from by rw [List.flatten_cons, List.flatten_nil, List.append_nil], hap] at this)
          by_cases he1 : e1 = 0
          · subst he1
            cases hsy : D1.sync [logN (nm pre)] with
            | mk D2 e2 =>
              have Hly := Lib.hid (show layOn D (logN (nm pre)) (frameN (imgB (M.last + 1) b)) = (D2, e2) from by unfold layOn; rw [Hfr.out, hap]; rw [if_neg (by simp)]; exact hsy)
              have Hsy := Lib.hid (show ∀ W, LedF w W l d pre D1 M F → Calls Tryz.prog 117 #[.pointer (some ⟨d, 0, none⟩), .slice (some ⟨W.heap.size, 0, none⟩) 1 1] (W.alloc (.cells #[.string (sLog pre)] 9)) fun e w' => e = .returned (.int .i64 (e2 : Int)) ∧ LedF w w' l d pre D2 M F ∧ Same F W w' ∧ w'.heap[l]? = W.heap[l]? from fun W h => by
                have := led_sync h (sLog pre) (by rw [size_log]; omega)
                rwa [nm_log, hsy] at this)
              clear hap hsy
              by_cases he2 : e2 = 0
              · subst he2
                have HR := Lib.hid (app_ok Hd.out b (by rw [HlaE.out]; exact Hno.out) Hly.out rfl)
                go_wp2_with fail
                have HLd := Lib.hid (HL6.out.next (below_drew w6))
                have Hsd := Lib.hid (show Same F w1 w6.drew from Hs6.out)
                have Hfd := Lib.hid (show HasB w6.drew (.slice pf nf cf) fr from HasB.below Hf6.out (below_drew w6))
                obtain ⟨hc0, hc1, -⟩ := HL6.out.lc
                refine ord_start (fun w' : World => w'.cell? ⟨l, 0, none⟩ = some (.pointer (some ⟨d, 0, none⟩)) ∧ w'.cell? ⟨l, 1, none⟩ = some (.string pre)) (n := 10) (by kernel_rfl) rfl (⟨hc0, hc1⟩) (fun hHeld => ?_)
                generalize w6.drew = W1 at *
                refine Pl [0,1,2,3,4,6] ?_
                iterate 6 (refine Pc rfl ?_;simp only [Act.put, uA, uB, uC])
                refine Pn ?_
                refine ord_both 5 7 rfl rfl (by kernel_rfl) (by rfl) (by rfl) (fun K hK => ?_) (fun K hK => ?_)
                · go_wp2_with fail
                  refine (logName_calls ⟨hHeld.1, hHeld.2, hps⟩).mono ?_
                  rintro e w9 ⟨rfl, rfl⟩
                  go_wp2_with fail
                  refine hK.out _ _ (hHeld) (fun hHeld => ?_)
                  clear hK
                  try simp only [Act.put, List.setIfInBounds_toArray, List.set_cons_zero, List.set_cons_succ]
                  refine ord_one 7 rfl (by kernel_rfl) (by rfl) (fun K hK => ?_)
                  have Hh2 := Lib.hid (show (W1.alloc (.cells #[.slice pf nf cf] 39)).cell? ⟨l, 0, none⟩ = some (.pointer (some ⟨d, 0, none⟩)) ∧ (W1.alloc (.cells #[.slice pf nf cf] 39)).cell? ⟨l, 1, none⟩ = some (.string pre) from ⟨al_cell hHeld.1 _, al_cell hHeld.2 _⟩)
                  go_wp2_with fail
                  refine hK.out _ _ (Hh2.out) (fun hHeld => ?_)
                  clear hK
                  try simp only [Act.put, List.setIfInBounds_toArray, List.set_cons_zero, List.set_cons_succ]
                  refine ord_one 8 rfl (by kernel_rfl) (by rfl) (fun K hK => ?_)
                  have Hap := Lib.hid (Happ.out W1 HLd.out Hfd.out)
                  go_wp2_with fail
                  refine Hap.out.mono ?_
                  rintro e w7 ⟨rfl, hl7, hs7, hk7⟩
                  have Hh3 := Lib.hid (HLd.out.lc.same hk7)
                  have HL7 := Lib.hid hl7
                  have Hs7 := Lib.hid (show Same F w1 w7 from fun k hk => (hs7 k hk).trans (Hsd.out k hk))
                  clear hl7 hs7 hk7 Hap
                  go_wp2_with fail
                  refine hK.out _ _ (⟨Hh3.out.1, Hh3.out.2.1⟩) (fun hHeld => ?_)
                  clear hK
                  try simp only [Act.put, List.setIfInBounds_toArray, List.set_cons_zero, List.set_cons_succ]
                  refine ord_take 9 (v := ?v11x9) rfl (by kernel_rfl) (by kernel_rfl) (by kernel_rfl) (fun _ _ _ h => h) (by rfl) (by assumption) ?y11x9 ?_
                  case y11x9 => (intro w hSw; (try dsimp only at hSw); go_simp; try with_reducible rfl)
                  simp only [Act.put, List.setIfInBounds_toArray, List.set_cons_zero, List.set_cons_succ]
                  refine wpAnyH_done (by kernel_rfl) ?_ _
                  clear HLd Hsd Hfd Hh3
                  go_wp2_with fail
                  have HLd := Lib.hid (HL7.out.next (below_drew w7))
                  have Hsd := Lib.hid (show Same F w1 w7.drew from Hs7.out)
                  obtain ⟨hc0, hc1, -⟩ := HL7.out.lc
                  refine ord_start (fun w' : World => w'.cell? ⟨l, 0, none⟩ = some (.pointer (some ⟨d, 0, none⟩)) ∧ w'.cell? ⟨l, 1, none⟩ = some (.string pre)) (n := 9) (by kernel_rfl) rfl (⟨hc0, hc1⟩) (fun hHeld => ?_)
                  generalize w7.drew = W1 at *
                  refine Pl [0,1,2,3,4] ?_
                  iterate 5 (refine Pc rfl ?_;simp only [Act.put, uA, uB, uC])
                  refine Pn ?_
                  refine ord_one 5 rfl (by kernel_rfl) (by rfl) (fun K hK => ?_)
                  go_wp2_with fail
                  refine (logName_calls ⟨hHeld.1, hHeld.2, hps⟩).mono ?_
                  rintro e w9 ⟨rfl, rfl⟩
                  go_wp2_with fail
                  refine hK.out _ _ (hHeld) (fun hHeld => ?_)
                  clear hK
                  try simp only [Act.put, List.setIfInBounds_toArray, List.set_cons_zero, List.set_cons_succ]
                  refine ord_one 6 rfl (by kernel_rfl) (by rfl) (fun K hK => ?_)
                  have Hh2 := Lib.hid (show (W1.alloc (.cells #[.string (sLog pre)] 9)).cell? ⟨l, 0, none⟩ = some (.pointer (some ⟨d, 0, none⟩)) ∧ (W1.alloc (.cells #[.string (sLog pre)] 9)).cell? ⟨l, 1, none⟩ = some (.string pre) from ⟨al_cell hHeld.1 _, al_cell hHeld.2 _⟩)
                  go_wp2_with fail
                  refine hK.out _ _ (Hh2.out) (fun hHeld => ?_)
                  clear hK
                  try simp only [Act.put, List.setIfInBounds_toArray, List.set_cons_zero, List.set_cons_succ]
                  refine ord_one 7 rfl (by kernel_rfl) (by rfl) (fun K hK => ?_)
                  go_wp2_with fail
                  refine (Hsy.out W1 HLd.out).mono ?_
                  rintro e w8 ⟨rfl, hl8, hs8, hk8⟩
                  have Hh3 := Lib.hid (HLd.out.lc.same hk8)
                  have HL8 := Lib.hid hl8
                  have Hs8 := Lib.hid (show Same F w1 w8 from fun k hk => (hs8 k hk).trans (Hsd.out k hk))
                  clear hl8 hs8 hk8
                  go_wp2_with fail
                  refine hK.out _ _ (⟨Hh3.out.1, Hh3.out.2.1⟩) (fun hHeld => ?_)
                  clear hK
                  try simp only [Act.put, List.setIfInBounds_toArray, List.set_cons_zero, List.set_cons_succ]
                  refine ord_take 8 (v := ?v20x8) rfl (by kernel_rfl) (by kernel_rfl) (by kernel_rfl) (fun _ _ _ h => h) (by rfl) (by assumption) ?y20x8 ?_
                  case y20x8 => (intro w hSw; (try dsimp only at hSw); go_simp; try with_reducible rfl)
                  simp only [Act.put, List.setIfInBounds_toArray, List.set_cons_zero, List.set_cons_succ]
                  refine wpAnyH_done (by kernel_rfl) ?_ _
                  clear HLd Hsd Hh3
                  have Hdi := Lib.hid (dies_calls HL8.out 0)
                  go_wp2_with fail
                  refine Hdi.out.mono ?_
                  rintro e w10 ⟨rfl, hl10, hs10⟩
                  have HL10 := Lib.hid hl10
                  have Hs10 := Lib.hid (show Same F w1 w10 from fun k hk => (hs10 k hk).trans (Hs8.out k hk))
                  clear hl10 hs10 Hdi
                  have HLm := Lib.hid (show LedF w w10 l d pre D2 M F from by
                    have h := HL10.out
                    have e : ({ M with dead := M.dead || decide ((0 : Nat) ≠ 0) } : LedM) = M := by
                      rw [Hd.out]
                      show (⟨M.base, M.data, M.entries, false⟩ : LedM) = M
                      rw [← Hd.out]
                    rwa [e] at h)
                  go_wp2_with fail
                  refine ord_start (fun _ : World => True) (n := 12) (by kernel_rfl) rfl (trivial) (fun hHeld => ?_)
                  have HLd := Lib.hid (HLm.out.next (below_drew w10))
                  have Hsd := Lib.hid (show Same F w1 w10.drew from Hs10.out)
                  generalize w10.drew = W1 at *
                  obtain ⟨own, dv, ev, vs, hL, hS, hn, hl⟩ := HLd.out
                  have k4 := hL.c4
                  have hxW := Hx.out W1 HLd.out.bel Hsd.out
                  have HLx := Lib.hid (And.intro hL (And.intro hS (And.intro hn hl)))
                  have Hcl := Lib.hid (clone_calls hxW (by omega))
                  obtain ⟨pe, ce, rfl⟩ := OwnR.shape hL.row
                  clear hL hS hn hl hxW
                  refine Pl [0,1,2,3,5] ?_
                  iterate 5 (refine Pc rfl ?_;simp only [Act.put, uA, uB, uC])
                  refine Pn ?_
                  refine ord_both 4 6 rfl rfl (by kernel_rfl) (by rfl) (by rfl) (fun K hK => ?_) (fun K hK => ?_)
                  · go_wp2_with fail
                    refine hK.out _ _ trivial (fun hHeld => ?_)
                    clear hK
                    try simp only [Act.put, List.setIfInBounds_toArray, List.set_cons_zero, List.set_cons_succ]
                    refine ord_one 6 rfl (by kernel_rfl) (by rfl) (fun K hK => ?_)
                    go_wp2_with fail
                    refine Hcl.out.mono ?_
                    rintro e w9 ⟨u, rfl, hu, hun, hb9⟩
                    have k49 := (hb9.cell (World.block_lt_of_cell? _ _ k4)).trans k4
                    have Hu := Lib.hid (And.intro hu (And.intro hun hb9))
                    obtain ⟨pu, cu, rfl, -⟩ := own_cap0 hu
                    rw [hn] at Hu ⊢
                    clear hu hun hb9 Hcl
                    go_wp2_with fail
                    refine hK.out _ _ trivial (fun hHeld => ?_)
                    clear hK
                    try simp only [Act.put, List.setIfInBounds_toArray, List.set_cons_zero, List.set_cons_succ]
                    refine ord_one 7 rfl (by kernel_rfl) (by rfl) (fun K hK => ?_)
                    have k49a := al_cell k49 (.cells #[.slice pu n cu] 39)
                    go_wp2_with fail
                    refine hK.out _ _ trivial (fun hHeld => ?_)
                    clear hK
                    try simp only [Act.put, List.setIfInBounds_toArray, List.set_cons_zero, List.set_cons_succ]
                    refine ord_one 8 rfl (by kernel_rfl) (by rfl) (fun K hK => ?_)
                    obtain ⟨hL, hS, hn, hl⟩ := HLx.out
                    have hal := (hL.below Hu.out.2.2).row.keep (w' := w9.alloc (.cells #[.slice pu n cu] 39)) fun j hj => (below_one0 w9 _).block j (Nat.lt_of_lt_of_le (hL.olt j (hL.oe j hj).1) Hu.out.2.2.size)
                    have hxx := slit_one w9 (.slice pu n cu) 39 (0, 0)
                    refine wp_app (.tmp 70) (.tmp 73) 155 rfl 39 i0 (.slice none 0 0) 1 24 Tryz.underlying155 hi hz0 hz1 hz2 rfl (by decide) _ _ _ rfl hal (.slice (some ⟨w9.heap.size, 0, none⟩) 1 1) 1 _ rfl hxx (by simp [Value.oneCell']) (by unfold maxLen; have := Hm40.out; omega) (by have := Hm40.out; omega) ?_
                    intro v3 w3 hown3 hgrow3 hloc3
                    obtain ⟨hP1, hP2, hP3, hP4⟩ := led_push (hL.below Hu.out.2.2) Hu.out.1 (fun j hj ho => by have h1 := Hu.out.2.1 j hj; have h2 := hL.olt j ho; omega) Hb30.out (by rw [HlaE.out]; exact Hla1.out) (below_one0 w9 _) hown3 hgrow3 hloc3
                    obtain ⟨hQ1, hQ2⟩ := LedF.turned hS hn hl hP1 (((Chg.of_below Hu.out.2.2).mono fun _ _ h => h.elim).trans hP2 fun _ _ h => h) fun j hj => by
                      rcases hj with hj | hj | hj
                      · exact .inl hj
                      · exact .inr (Hu.out.2.1 j hj)
                      · exact (hP3 j hj).imp id fun h => Nat.le_trans Hu.out.2.2.size h
                    have HQ := Lib.hid (And.intro hQ1 (show Same F w1 (w3.setCell ⟨l, 4, none⟩ v3) from fun j hj => (hQ2 j hj).trans (Hsd.out j hj)))
                    have kk4 := cell_of (hP4.trans (hL.below Hu.out.2.2).cells) (i := 4) rfl
                    have ff4 := frozen_of (hP4.trans (hL.below Hu.out.2.2).cells) 4
                    obtain ⟨p3, q3, rfl⟩ := OwnR.shape hown3
                    clear hL hS hn hl hal hxx hown3 hgrow3 hloc3 hP1 hP2 hP3 hP4 hQ1 hQ2
                    refine hK.out _ _ trivial (fun hHeld => ?_)
                    clear hK
                    try simp only [Act.put, List.setIfInBounds_toArray, List.set_cons_zero, List.set_cons_succ]
                    refine Pl [9,10] ?_
                    iterate 2 (refine Pc rfl ?_;simp only [Act.put, uA, uB, uC])
                    refine Pn ?_
                    refine ord_one 11 rfl (by kernel_rfl) (by rfl) (fun K hK => ?_)
                    go_wp2_with fail
                    refine hK.out _ _ (trivial) (fun hHeld => ?_)
                    clear hK
                    try simp only [Act.put, List.setIfInBounds_toArray, List.set_cons_zero, List.set_cons_succ]
                    refine wpAnyH_done (by kernel_rfl) ?_ _
                    have Hla9 := Lib.hid (last_calls HQ.out.1)
                    have HQs := Lib.hid HQ.out.2
                    have HQl := Lib.hid HQ.out.1
                    clear HQ kk4 ff4
                    generalize w3.setCell ⟨l, 4, none⟩ (.slice p3 (M.entries.length + 1) q3) = wz at *
                    go_wp2_with fail
                    refine Hla9.out.mono ?_
                    rintro e w12 ⟨rfl, q12, rfl⟩
                    have HE := Lib.hid (show AppTold w w1 l d pre F (ledAppend (nm pre) D M b) (.returned (.tuple #[.int .i64 (({ M with entries := M.entries ++ [b] } : LedM).last : Int), .int .i64 0])) (wz.drewN q12) from by
                      rw [HR.out]
                      refine ⟨by rw [show ({ M with entries := M.entries ++ [b] } : LedM).last = M.last + 1 from by unfold LedM.last; simp; omega]; rfl, HQl.out.next ⟨rfl, rfl, rfl, Nat.le_refl _, fun _ _ => rfl⟩, HQs.out⟩)
                    generalize ({ M with entries := M.entries ++ [b] } : LedM).last = la9 at *
                    go_wp2_with fail
                    go_ret2
                    exact HE.out
                  · go_wp2_with fail
                    refine Hcl.out.mono ?_
                    rintro e w9 ⟨u, rfl, hu, hun, hb9⟩
                    have k49 := (hb9.cell (World.block_lt_of_cell? _ _ k4)).trans k4
                    have Hu := Lib.hid (And.intro hu (And.intro hun hb9))
                    obtain ⟨pu, cu, rfl, -⟩ := own_cap0 hu
                    rw [hn] at Hu ⊢
                    clear hu hun hb9 Hcl
                    go_wp2_with fail
                    refine hK.out _ _ trivial (fun hHeld => ?_)
                    clear hK
                    try simp only [Act.put, List.setIfInBounds_toArray, List.set_cons_zero, List.set_cons_succ]
                    refine ord_both 4 7 rfl rfl (by kernel_rfl) (by rfl) (by rfl) (fun K hK => ?_) (fun K hK => ?_)
                    · go_wp2_with fail
                      refine hK.out _ _ trivial (fun hHeld => ?_)
                      clear hK
                      try simp only [Act.put, List.setIfInBounds_toArray, List.set_cons_zero, List.set_cons_succ]
                      refine ord_one 7 rfl (by kernel_rfl) (by rfl) (fun K hK => ?_)
                      have k49a := al_cell k49 (.cells #[.slice pu n cu] 39)
                      go_wp2_with fail
                      refine hK.out _ _ trivial (fun hHeld => ?_)
                      clear hK
                      try simp only [Act.put, List.setIfInBounds_toArray, List.set_cons_zero, List.set_cons_succ]
                      refine ord_one 8 rfl (by kernel_rfl) (by rfl) (fun K hK => ?_)
                      obtain ⟨hL, hS, hn, hl⟩ := HLx.out
                      have hal := (hL.below Hu.out.2.2).row.keep (w' := w9.alloc (.cells #[.slice pu n cu] 39)) fun j hj => (below_one0 w9 _).block j (Nat.lt_of_lt_of_le (hL.olt j (hL.oe j hj).1) Hu.out.2.2.size)
                      have hxx := slit_one w9 (.slice pu n cu) 39 (0, 0)
                      refine wp_app (.tmp 70) (.tmp 73) 155 rfl 39 i0 (.slice none 0 0) 1 24 Tryz.underlying155 hi hz0 hz1 hz2 rfl (by decide) _ _ _ rfl hal (.slice (some ⟨w9.heap.size, 0, none⟩) 1 1) 1 _ rfl hxx (by simp [Value.oneCell']) (by unfold maxLen; have := Hm40.out; omega) (by have := Hm40.out; omega) ?_
                      intro v3 w3 hown3 hgrow3 hloc3
                      obtain ⟨hP1, hP2, hP3, hP4⟩ := led_push (hL.below Hu.out.2.2) Hu.out.1 (fun j hj ho => by have h1 := Hu.out.2.1 j hj; have h2 := hL.olt j ho; omega) Hb30.out (by rw [HlaE.out]; exact Hla1.out) (below_one0 w9 _) hown3 hgrow3 hloc3
                      obtain ⟨hQ1, hQ2⟩ := LedF.turned hS hn hl hP1 (((Chg.of_below Hu.out.2.2).mono fun _ _ h => h.elim).trans hP2 fun _ _ h => h) fun j hj => by
                        rcases hj with hj | hj | hj
                        · exact .inl hj
                        · exact .inr (Hu.out.2.1 j hj)
                        · exact (hP3 j hj).imp id fun h => Nat.le_trans Hu.out.2.2.size h
                      have HQ := Lib.hid (And.intro hQ1 (show Same F w1 (w3.setCell ⟨l, 4, none⟩ v3) from fun j hj => (hQ2 j hj).trans (Hsd.out j hj)))
                      have kk4 := cell_of (hP4.trans (hL.below Hu.out.2.2).cells) (i := 4) rfl
                      have ff4 := frozen_of (hP4.trans (hL.below Hu.out.2.2).cells) 4
                      obtain ⟨p3, q3, rfl⟩ := OwnR.shape hown3
                      clear hL hS hn hl hal hxx hown3 hgrow3 hloc3 hP1 hP2 hP3 hP4 hQ1 hQ2
                      refine hK.out _ _ trivial (fun hHeld => ?_)
                      clear hK
                      try simp only [Act.put, List.setIfInBounds_toArray, List.set_cons_zero, List.set_cons_succ]
                      refine Pl [9,10] ?_
                      iterate 2 (refine Pc rfl ?_;simp only [Act.put, uA, uB, uC])
                      refine Pn ?_
                      refine ord_one 11 rfl (by kernel_rfl) (by rfl) (fun K hK => ?_)
                      go_wp2_with fail
                      refine hK.out _ _ (trivial) (fun hHeld => ?_)
                      clear hK
                      try simp only [Act.put, List.setIfInBounds_toArray, List.set_cons_zero, List.set_cons_succ]
                      refine wpAnyH_done (by kernel_rfl) ?_ _
                      have Hla9 := Lib.hid (last_calls HQ.out.1)
                      have HQs := Lib.hid HQ.out.2
                      have HQl := Lib.hid HQ.out.1
                      clear HQ kk4 ff4
                      generalize w3.setCell ⟨l, 4, none⟩ (.slice p3 (M.entries.length + 1) q3) = wz at *
                      go_wp2_with fail
                      refine Hla9.out.mono ?_
                      rintro e w12 ⟨rfl, q12, rfl⟩
                      have HE := Lib.hid (show AppTold w w1 l d pre F (ledAppend (nm pre) D M b) (.returned (.tuple #[.int .i64 (({ M with entries := M.entries ++ [b] } : LedM).last : Int), .int .i64 0])) (wz.drewN q12) from by
                        rw [HR.out]
                        refine ⟨by rw [show ({ M with entries := M.entries ++ [b] } : LedM).last = M.last + 1 from by unfold LedM.last; simp; omega]; rfl, HQl.out.next ⟨rfl, rfl, rfl, Nat.le_refl _, fun _ _ => rfl⟩, HQs.out⟩)
                      generalize ({ M with entries := M.entries ++ [b] } : LedM).last = la9 at *
                      go_wp2_with fail
                      go_ret2
                      exact HE.out
                    · have k49a := al_cell k49 (.cells #[.slice pu n cu] 39)
                      go_wp2_with fail
                      refine hK.out _ _ trivial (fun hHeld => ?_)
                      clear hK
                      try simp only [Act.put, List.setIfInBounds_toArray, List.set_cons_zero, List.set_cons_succ]
                      refine ord_one 4 rfl (by kernel_rfl) (by rfl) (fun K hK => ?_)
                      go_wp2_with fail
                      refine hK.out _ _ trivial (fun hHeld => ?_)
                      clear hK
                      try simp only [Act.put, List.setIfInBounds_toArray, List.set_cons_zero, List.set_cons_succ]
                      refine ord_one 8 rfl (by kernel_rfl) (by rfl) (fun K hK => ?_)
                      obtain ⟨hL, hS, hn, hl⟩ := HLx.out
                      have hal := (hL.below Hu.out.2.2).row.keep (w' := w9.alloc (.cells #[.slice pu n cu] 39)) fun j hj => (below_one0 w9 _).block j (Nat.lt_of_lt_of_le (hL.olt j (hL.oe j hj).1) Hu.out.2.2.size)
                      have hxx := slit_one w9 (.slice pu n cu) 39 (0, 0)
                      refine wp_app (.tmp 70) (.tmp 73) 155 rfl 39 i0 (.slice none 0 0) 1 24 Tryz.underlying155 hi hz0 hz1 hz2 rfl (by decide) _ _ _ rfl hal (.slice (some ⟨w9.heap.size, 0, none⟩) 1 1) 1 _ rfl hxx (by simp [Value.oneCell']) (by unfold maxLen; have := Hm40.out; omega) (by have := Hm40.out; omega) ?_
                      intro v3 w3 hown3 hgrow3 hloc3
                      obtain ⟨hP1, hP2, hP3, hP4⟩ := led_push (hL.below Hu.out.2.2) Hu.out.1 (fun j hj ho => by have h1 := Hu.out.2.1 j hj; have h2 := hL.olt j ho; omega) Hb30.out (by rw [HlaE.out]; exact Hla1.out) (below_one0 w9 _) hown3 hgrow3 hloc3
                      obtain ⟨hQ1, hQ2⟩ := LedF.turned hS hn hl hP1 (((Chg.of_below Hu.out.2.2).mono fun _ _ h => h.elim).trans hP2 fun _ _ h => h) fun j hj => by
                        rcases hj with hj | hj | hj
                        · exact .inl hj
                        · exact .inr (Hu.out.2.1 j hj)
                        · exact (hP3 j hj).imp id fun h => Nat.le_trans Hu.out.2.2.size h
                      have HQ := Lib.hid (And.intro hQ1 (show Same F w1 (w3.setCell ⟨l, 4, none⟩ v3) from fun j hj => (hQ2 j hj).trans (Hsd.out j hj)))
                      have kk4 := cell_of (hP4.trans (hL.below Hu.out.2.2).cells) (i := 4) rfl
                      have ff4 := frozen_of (hP4.trans (hL.below Hu.out.2.2).cells) 4
                      obtain ⟨p3, q3, rfl⟩ := OwnR.shape hown3
                      clear hL hS hn hl hal hxx hown3 hgrow3 hloc3 hP1 hP2 hP3 hP4 hQ1 hQ2
                      refine hK.out _ _ trivial (fun hHeld => ?_)
                      clear hK
                      try simp only [Act.put, List.setIfInBounds_toArray, List.set_cons_zero, List.set_cons_succ]
                      refine Pl [9,10] ?_
                      iterate 2 (refine Pc rfl ?_;simp only [Act.put, uA, uB, uC])
                      refine Pn ?_
                      refine ord_one 11 rfl (by kernel_rfl) (by rfl) (fun K hK => ?_)
                      go_wp2_with fail
                      refine hK.out _ _ (trivial) (fun hHeld => ?_)
                      clear hK
                      try simp only [Act.put, List.setIfInBounds_toArray, List.set_cons_zero, List.set_cons_succ]
                      refine wpAnyH_done (by kernel_rfl) ?_ _
                      have Hla9 := Lib.hid (last_calls HQ.out.1)
                      have HQs := Lib.hid HQ.out.2
                      have HQl := Lib.hid HQ.out.1
                      clear HQ kk4 ff4
                      generalize w3.setCell ⟨l, 4, none⟩ (.slice p3 (M.entries.length + 1) q3) = wz at *
                      go_wp2_with fail
                      refine Hla9.out.mono ?_
                      rintro e w12 ⟨rfl, q12, rfl⟩
                      have HE := Lib.hid (show AppTold w w1 l d pre F (ledAppend (nm pre) D M b) (.returned (.tuple #[.int .i64 (({ M with entries := M.entries ++ [b] } : LedM).last : Int), .int .i64 0])) (wz.drewN q12) from by
                        rw [HR.out]
                        refine ⟨by rw [show ({ M with entries := M.entries ++ [b] } : LedM).last = M.last + 1 from by unfold LedM.last; simp; omega]; rfl, HQl.out.next ⟨rfl, rfl, rfl, Nat.le_refl _, fun _ _ => rfl⟩, HQs.out⟩)
                      generalize ({ M with entries := M.entries ++ [b] } : LedM).last = la9 at *
                      go_wp2_with fail
                      go_ret2
                      exact HE.out
                · have Hh2 := Lib.hid (show (W1.alloc (.cells #[.slice pf nf cf] 39)).cell? ⟨l, 0, none⟩ = some (.pointer (some ⟨d, 0, none⟩)) ∧ (W1.alloc (.cells #[.slice pf nf cf] 39)).cell? ⟨l, 1, none⟩ = some (.string pre) from ⟨al_cell hHeld.1 _, al_cell hHeld.2 _⟩)
                  go_wp2_with fail
                  refine hK.out _ _ (Hh2.out) (fun hHeld => ?_)
                  clear hK
                  try simp only [Act.put, List.setIfInBounds_toArray, List.set_cons_zero, List.set_cons_succ]
                  refine ord_one 5 rfl (by kernel_rfl) (by rfl) (fun K hK => ?_)
                  go_wp2_with fail
                  refine (logName_calls ⟨hHeld.1, hHeld.2, hps⟩).mono ?_
                  rintro e w9 ⟨rfl, rfl⟩
                  go_wp2_with fail
                  refine hK.out _ _ (hHeld) (fun hHeld => ?_)
                  clear hK
                  try simp only [Act.put, List.setIfInBounds_toArray, List.set_cons_zero, List.set_cons_succ]
                  refine ord_one 8 rfl (by kernel_rfl) (by rfl) (fun K hK => ?_)
                  have Hap := Lib.hid (Happ.out W1 HLd.out Hfd.out)
                  go_wp2_with fail
                  refine Hap.out.mono ?_
                  rintro e w7 ⟨rfl, hl7, hs7, hk7⟩
                  have Hh3 := Lib.hid (HLd.out.lc.same hk7)
                  have HL7 := Lib.hid hl7
                  have Hs7 := Lib.hid (show Same F w1 w7 from fun k hk => (hs7 k hk).trans (Hsd.out k hk))
                  clear hl7 hs7 hk7 Hap
                  go_wp2_with fail
                  refine hK.out _ _ (⟨Hh3.out.1, Hh3.out.2.1⟩) (fun hHeld => ?_)
                  clear hK
                  try simp only [Act.put, List.setIfInBounds_toArray, List.set_cons_zero, List.set_cons_succ]
                  refine ord_take 9 (v := ?v12x9) rfl (by kernel_rfl) (by kernel_rfl) (by kernel_rfl) (fun _ _ _ h => h) (by rfl) (by assumption) ?y12x9 ?_
                  case y12x9 => (intro w hSw; (try dsimp only at hSw); go_simp; try with_reducible rfl)
                  simp only [Act.put, List.setIfInBounds_toArray, List.set_cons_zero, List.set_cons_succ]
                  refine wpAnyH_done (by kernel_rfl) ?_ _
                  clear HLd Hsd Hfd Hh3
                  go_wp2_with fail
                  have HLd := Lib.hid (HL7.out.next (below_drew w7))
                  have Hsd := Lib.hid (show Same F w1 w7.drew from Hs7.out)
                  obtain ⟨hc0, hc1, -⟩ := HL7.out.lc
                  refine ord_start (fun w' : World => w'.cell? ⟨l, 0, none⟩ = some (.pointer (some ⟨d, 0, none⟩)) ∧ w'.cell? ⟨l, 1, none⟩ = some (.string pre)) (n := 9) (by kernel_rfl) rfl (⟨hc0, hc1⟩) (fun hHeld => ?_)
                  generalize w7.drew = W1 at *
                  refine Pl [0,1,2,3,4] ?_
                  iterate 5 (refine Pc rfl ?_;simp only [Act.put, uA, uB, uC])
                  refine Pn ?_
                  refine ord_one 5 rfl (by kernel_rfl) (by rfl) (fun K hK => ?_)
                  go_wp2_with fail
                  refine (logName_calls ⟨hHeld.1, hHeld.2, hps⟩).mono ?_
                  rintro e w9 ⟨rfl, rfl⟩
                  go_wp2_with fail
                  refine hK.out _ _ (hHeld) (fun hHeld => ?_)
                  clear hK
                  try simp only [Act.put, List.setIfInBounds_toArray, List.set_cons_zero, List.set_cons_succ]
                  refine ord_one 6 rfl (by kernel_rfl) (by rfl) (fun K hK => ?_)
                  have Hh2 := Lib.hid (show (W1.alloc (.cells #[.string (sLog pre)] 9)).cell? ⟨l, 0, none⟩ = some (.pointer (some ⟨d, 0, none⟩)) ∧ (W1.alloc (.cells #[.string (sLog pre)] 9)).cell? ⟨l, 1, none⟩ = some (.string pre) from ⟨al_cell hHeld.1 _, al_cell hHeld.2 _⟩)
                  go_wp2_with fail
                  refine hK.out _ _ (Hh2.out) (fun hHeld => ?_)
                  clear hK
                  try simp only [Act.put, List.setIfInBounds_toArray, List.set_cons_zero, List.set_cons_succ]
                  refine ord_one 7 rfl (by kernel_rfl) (by rfl) (fun K hK => ?_)
                  go_wp2_with fail
                  refine (Hsy.out W1 HLd.out).mono ?_
                  rintro e w8 ⟨rfl, hl8, hs8, hk8⟩
                  have Hh3 := Lib.hid (HLd.out.lc.same hk8)
                  have HL8 := Lib.hid hl8
                  have Hs8 := Lib.hid (show Same F w1 w8 from fun k hk => (hs8 k hk).trans (Hsd.out k hk))
                  clear hl8 hs8 hk8
                  go_wp2_with fail
                  refine hK.out _ _ (⟨Hh3.out.1, Hh3.out.2.1⟩) (fun hHeld => ?_)
                  clear hK
                  try simp only [Act.put, List.setIfInBounds_toArray, List.set_cons_zero, List.set_cons_succ]
                  refine ord_take 8 (v := ?v40x8) rfl (by kernel_rfl) (by kernel_rfl) (by kernel_rfl) (fun _ _ _ h => h) (by rfl) (by assumption) ?y40x8 ?_
                  case y40x8 => (intro w hSw; (try dsimp only at hSw); go_simp; try with_reducible rfl)
                  simp only [Act.put, List.setIfInBounds_toArray, List.set_cons_zero, List.set_cons_succ]
                  refine wpAnyH_done (by kernel_rfl) ?_ _
                  clear HLd Hsd Hh3
                  have Hdi := Lib.hid (dies_calls HL8.out 0)
                  go_wp2_with fail
                  refine Hdi.out.mono ?_
                  rintro e w10 ⟨rfl, hl10, hs10⟩
                  have HL10 := Lib.hid hl10
                  have Hs10 := Lib.hid (show Same F w1 w10 from fun k hk => (hs10 k hk).trans (Hs8.out k hk))
                  clear hl10 hs10 Hdi
                  have HLm := Lib.hid (show LedF w w10 l d pre D2 M F from by
                    have h := HL10.out
                    have e : ({ M with dead := M.dead || decide ((0 : Nat) ≠ 0) } : LedM) = M := by
                      rw [Hd.out]
                      show (⟨M.base, M.data, M.entries, false⟩ : LedM) = M
                      rw [← Hd.out]
                    rwa [e] at h)
                  go_wp2_with fail
                  refine ord_start (fun _ : World => True) (n := 12) (by kernel_rfl) rfl (trivial) (fun hHeld => ?_)
                  have HLd := Lib.hid (HLm.out.next (below_drew w10))
                  have Hsd := Lib.hid (show Same F w1 w10.drew from Hs10.out)
                  generalize w10.drew = W1 at *
                  obtain ⟨own, dv, ev, vs, hL, hS, hn, hl⟩ := HLd.out
                  have k4 := hL.c4
                  have hxW := Hx.out W1 HLd.out.bel Hsd.out
                  have HLx := Lib.hid (And.intro hL (And.intro hS (And.intro hn hl)))
                  have Hcl := Lib.hid (clone_calls hxW (by omega))
                  obtain ⟨pe, ce, rfl⟩ := OwnR.shape hL.row
                  clear hL hS hn hl hxW
                  refine Pl [0,1,2,3,5] ?_
                  iterate 5 (refine Pc rfl ?_;simp only [Act.put, uA, uB, uC])
                  refine Pn ?_
                  refine ord_both 4 6 rfl rfl (by kernel_rfl) (by rfl) (by rfl) (fun K hK => ?_) (fun K hK => ?_)
                  · go_wp2_with fail
                    refine hK.out _ _ trivial (fun hHeld => ?_)
                    clear hK
                    try simp only [Act.put, List.setIfInBounds_toArray, List.set_cons_zero, List.set_cons_succ]
                    refine ord_one 6 rfl (by kernel_rfl) (by rfl) (fun K hK => ?_)
                    go_wp2_with fail
                    refine Hcl.out.mono ?_
                    rintro e w9 ⟨u, rfl, hu, hun, hb9⟩
                    have k49 := (hb9.cell (World.block_lt_of_cell? _ _ k4)).trans k4
                    have Hu := Lib.hid (And.intro hu (And.intro hun hb9))
                    obtain ⟨pu, cu, rfl, -⟩ := own_cap0 hu
                    rw [hn] at Hu ⊢
                    clear hu hun hb9 Hcl
                    go_wp2_with fail
                    refine hK.out _ _ trivial (fun hHeld => ?_)
                    clear hK
                    try simp only [Act.put, List.setIfInBounds_toArray, List.set_cons_zero, List.set_cons_succ]
                    refine ord_one 7 rfl (by kernel_rfl) (by rfl) (fun K hK => ?_)
                    have k49a := al_cell k49 (.cells #[.slice pu n cu] 39)
                    go_wp2_with fail
                    refine hK.out _ _ trivial (fun hHeld => ?_)
                    clear hK
                    try simp only [Act.put, List.setIfInBounds_toArray, List.set_cons_zero, List.set_cons_succ]
                    refine ord_one 8 rfl (by kernel_rfl) (by rfl) (fun K hK => ?_)
                    obtain ⟨hL, hS, hn, hl⟩ := HLx.out
                    have hal := (hL.below Hu.out.2.2).row.keep (w' := w9.alloc (.cells #[.slice pu n cu] 39)) fun j hj => (below_one0 w9 _).block j (Nat.lt_of_lt_of_le (hL.olt j (hL.oe j hj).1) Hu.out.2.2.size)
                    have hxx := slit_one w9 (.slice pu n cu) 39 (0, 0)
                    refine wp_app (.tmp 70) (.tmp 73) 155 rfl 39 i0 (.slice none 0 0) 1 24 Tryz.underlying155 hi hz0 hz1 hz2 rfl (by decide) _ _ _ rfl hal (.slice (some ⟨w9.heap.size, 0, none⟩) 1 1) 1 _ rfl hxx (by simp [Value.oneCell']) (by unfold maxLen; have := Hm40.out; omega) (by have := Hm40.out; omega) ?_
                    intro v3 w3 hown3 hgrow3 hloc3
                    obtain ⟨hP1, hP2, hP3, hP4⟩ := led_push (hL.below Hu.out.2.2) Hu.out.1 (fun j hj ho => by have h1 := Hu.out.2.1 j hj; have h2 := hL.olt j ho; omega) Hb30.out (by rw [HlaE.out]; exact Hla1.out) (below_one0 w9 _) hown3 hgrow3 hloc3
                    obtain ⟨hQ1, hQ2⟩ := LedF.turned hS hn hl hP1 (((Chg.of_below Hu.out.2.2).mono fun _ _ h => h.elim).trans hP2 fun _ _ h => h) fun j hj => by
                      rcases hj with hj | hj | hj
                      · exact .inl hj
                      · exact .inr (Hu.out.2.1 j hj)
                      · exact (hP3 j hj).imp id fun h => Nat.le_trans Hu.out.2.2.size h
                    have HQ := Lib.hid (And.intro hQ1 (show Same F w1 (w3.setCell ⟨l, 4, none⟩ v3) from fun j hj => (hQ2 j hj).trans (Hsd.out j hj)))
                    have kk4 := cell_of (hP4.trans (hL.below Hu.out.2.2).cells) (i := 4) rfl
                    have ff4 := frozen_of (hP4.trans (hL.below Hu.out.2.2).cells) 4
                    obtain ⟨p3, q3, rfl⟩ := OwnR.shape hown3
                    clear hL hS hn hl hal hxx hown3 hgrow3 hloc3 hP1 hP2 hP3 hP4 hQ1 hQ2
                    refine hK.out _ _ trivial (fun hHeld => ?_)
                    clear hK
                    try simp only [Act.put, List.setIfInBounds_toArray, List.set_cons_zero, List.set_cons_succ]
                    refine Pl [9,10] ?_
                    iterate 2 (refine Pc rfl ?_;simp only [Act.put, uA, uB, uC])
                    refine Pn ?_
                    refine ord_one 11 rfl (by kernel_rfl) (by rfl) (fun K hK => ?_)
                    go_wp2_with fail
                    refine hK.out _ _ (trivial) (fun hHeld => ?_)
                    clear hK
                    try simp only [Act.put, List.setIfInBounds_toArray, List.set_cons_zero, List.set_cons_succ]
                    refine wpAnyH_done (by kernel_rfl) ?_ _
                    have Hla9 := Lib.hid (last_calls HQ.out.1)
                    have HQs := Lib.hid HQ.out.2
                    have HQl := Lib.hid HQ.out.1
                    clear HQ kk4 ff4
                    generalize w3.setCell ⟨l, 4, none⟩ (.slice p3 (M.entries.length + 1) q3) = wz at *
                    go_wp2_with fail
                    refine Hla9.out.mono ?_
                    rintro e w12 ⟨rfl, q12, rfl⟩
                    have HE := Lib.hid (show AppTold w w1 l d pre F (ledAppend (nm pre) D M b) (.returned (.tuple #[.int .i64 (({ M with entries := M.entries ++ [b] } : LedM).last : Int), .int .i64 0])) (wz.drewN q12) from by
                      rw [HR.out]
                      refine ⟨by rw [show ({ M with entries := M.entries ++ [b] } : LedM).last = M.last + 1 from by unfold LedM.last; simp; omega]; rfl, HQl.out.next ⟨rfl, rfl, rfl, Nat.le_refl _, fun _ _ => rfl⟩, HQs.out⟩)
                    generalize ({ M with entries := M.entries ++ [b] } : LedM).last = la9 at *
                    go_wp2_with fail
                    go_ret2
                    exact HE.out
                  · go_wp2_with fail
                    refine Hcl.out.mono ?_
                    rintro e w9 ⟨u, rfl, hu, hun, hb9⟩
                    have k49 := (hb9.cell (World.block_lt_of_cell? _ _ k4)).trans k4
                    have Hu := Lib.hid (And.intro hu (And.intro hun hb9))
                    obtain ⟨pu, cu, rfl, -⟩ := own_cap0 hu
                    rw [hn] at Hu ⊢
                    clear hu hun hb9 Hcl
                    go_wp2_with fail
                    refine hK.out _ _ trivial (fun hHeld => ?_)
                    clear hK
                    try simp only [Act.put, List.setIfInBounds_toArray, List.set_cons_zero, List.set_cons_succ]
                    refine ord_both 4 7 rfl rfl (by kernel_rfl) (by rfl) (by rfl) (fun K hK => ?_) (fun K hK => ?_)
                    · go_wp2_with fail
                      refine hK.out _ _ trivial (fun hHeld => ?_)
                      clear hK
                      try simp only [Act.put, List.setIfInBounds_toArray, List.set_cons_zero, List.set_cons_succ]
                      refine ord_one 7 rfl (by kernel_rfl) (by rfl) (fun K hK => ?_)
                      have k49a := al_cell k49 (.cells #[.slice pu n cu] 39)
                      go_wp2_with fail
                      refine hK.out _ _ trivial (fun hHeld => ?_)
                      clear hK
                      try simp only [Act.put, List.setIfInBounds_toArray, List.set_cons_zero, List.set_cons_succ]
                      refine ord_one 8 rfl (by kernel_rfl) (by rfl) (fun K hK => ?_)
                      obtain ⟨hL, hS, hn, hl⟩ := HLx.out
                      have hal := (hL.below Hu.out.2.2).row.keep (w' := w9.alloc (.cells #[.slice pu n cu] 39)) fun j hj => (below_one0 w9 _).block j (Nat.lt_of_lt_of_le (hL.olt j (hL.oe j hj).1) Hu.out.2.2.size)
                      have hxx := slit_one w9 (.slice pu n cu) 39 (0, 0)
                      refine wp_app (.tmp 70) (.tmp 73) 155 rfl 39 i0 (.slice none 0 0) 1 24 Tryz.underlying155 hi hz0 hz1 hz2 rfl (by decide) _ _ _ rfl hal (.slice (some ⟨w9.heap.size, 0, none⟩) 1 1) 1 _ rfl hxx (by simp [Value.oneCell']) (by unfold maxLen; have := Hm40.out; omega) (by have := Hm40.out; omega) ?_
                      intro v3 w3 hown3 hgrow3 hloc3
                      obtain ⟨hP1, hP2, hP3, hP4⟩ := led_push (hL.below Hu.out.2.2) Hu.out.1 (fun j hj ho => by have h1 := Hu.out.2.1 j hj; have h2 := hL.olt j ho; omega) Hb30.out (by rw [HlaE.out]; exact Hla1.out) (below_one0 w9 _) hown3 hgrow3 hloc3
                      obtain ⟨hQ1, hQ2⟩ := LedF.turned hS hn hl hP1 (((Chg.of_below Hu.out.2.2).mono fun _ _ h => h.elim).trans hP2 fun _ _ h => h) fun j hj => by
                        rcases hj with hj | hj | hj
                        · exact .inl hj
                        · exact .inr (Hu.out.2.1 j hj)
                        · exact (hP3 j hj).imp id fun h => Nat.le_trans Hu.out.2.2.size h
                      have HQ := Lib.hid (And.intro hQ1 (show Same F w1 (w3.setCell ⟨l, 4, none⟩ v3) from fun j hj => (hQ2 j hj).trans (Hsd.out j hj)))
                      have kk4 := cell_of (hP4.trans (hL.below Hu.out.2.2).cells) (i := 4) rfl
                      have ff4 := frozen_of (hP4.trans (hL.below Hu.out.2.2).cells) 4
                      obtain ⟨p3, q3, rfl⟩ := OwnR.shape hown3
                      clear hL hS hn hl hal hxx hown3 hgrow3 hloc3 hP1 hP2 hP3 hP4 hQ1 hQ2
                      refine hK.out _ _ trivial (fun hHeld => ?_)
                      clear hK
                      try simp only [Act.put, List.setIfInBounds_toArray, List.set_cons_zero, List.set_cons_succ]
                      refine Pl [9,10] ?_
                      iterate 2 (refine Pc rfl ?_;simp only [Act.put, uA, uB, uC])
                      refine Pn ?_
                      refine ord_one 11 rfl (by kernel_rfl) (by rfl) (fun K hK => ?_)
                      go_wp2_with fail
                      refine hK.out _ _ (trivial) (fun hHeld => ?_)
                      clear hK
                      try simp only [Act.put, List.setIfInBounds_toArray, List.set_cons_zero, List.set_cons_succ]
                      refine wpAnyH_done (by kernel_rfl) ?_ _
                      have Hla9 := Lib.hid (last_calls HQ.out.1)
                      have HQs := Lib.hid HQ.out.2
                      have HQl := Lib.hid HQ.out.1
                      clear HQ kk4 ff4
                      generalize w3.setCell ⟨l, 4, none⟩ (.slice p3 (M.entries.length + 1) q3) = wz at *
                      go_wp2_with fail
                      refine Hla9.out.mono ?_
                      rintro e w12 ⟨rfl, q12, rfl⟩
                      have HE := Lib.hid (show AppTold w w1 l d pre F (ledAppend (nm pre) D M b) (.returned (.tuple #[.int .i64 (({ M with entries := M.entries ++ [b] } : LedM).last : Int), .int .i64 0])) (wz.drewN q12) from by
                        rw [HR.out]
                        refine ⟨by rw [show ({ M with entries := M.entries ++ [b] } : LedM).last = M.last + 1 from by unfold LedM.last; simp; omega]; rfl, HQl.out.next ⟨rfl, rfl, rfl, Nat.le_refl _, fun _ _ => rfl⟩, HQs.out⟩)
                      generalize ({ M with entries := M.entries ++ [b] } : LedM).last = la9 at *
                      go_wp2_with fail
                      go_ret2
                      exact HE.out
                    · have k49a := al_cell k49 (.cells #[.slice pu n cu] 39)
                      go_wp2_with fail
                      refine hK.out _ _ trivial (fun hHeld => ?_)
                      clear hK
                      try simp only [Act.put, List.setIfInBounds_toArray, List.set_cons_zero, List.set_cons_succ]
                      refine ord_one 4 rfl (by kernel_rfl) (by rfl) (fun K hK => ?_)
                      go_wp2_with fail
                      refine hK.out _ _ trivial (fun hHeld => ?_)
                      clear hK
                      try simp only [Act.put, List.setIfInBounds_toArray, List.set_cons_zero, List.set_cons_succ]
                      refine ord_one 8 rfl (by kernel_rfl) (by rfl) (fun K hK => ?_)
                      obtain ⟨hL, hS, hn, hl⟩ := HLx.out
                      have hal := (hL.below Hu.out.2.2).row.keep (w' := w9.alloc (.cells #[.slice pu n cu] 39)) fun j hj => (below_one0 w9 _).block j (Nat.lt_of_lt_of_le (hL.olt j (hL.oe j hj).1) Hu.out.2.2.size)
                      have hxx := slit_one w9 (.slice pu n cu) 39 (0, 0)
                      refine wp_app (.tmp 70) (.tmp 73) 155 rfl 39 i0 (.slice none 0 0) 1 24 Tryz.underlying155 hi hz0 hz1 hz2 rfl (by decide) _ _ _ rfl hal (.slice (some ⟨w9.heap.size, 0, none⟩) 1 1) 1 _ rfl hxx (by simp [Value.oneCell']) (by unfold maxLen; have := Hm40.out; omega) (by have := Hm40.out; omega) ?_
                      intro v3 w3 hown3 hgrow3 hloc3
                      obtain ⟨hP1, hP2, hP3, hP4⟩ := led_push (hL.below Hu.out.2.2) Hu.out.1 (fun j hj ho => by have h1 := Hu.out.2.1 j hj; have h2 := hL.olt j ho; omega) Hb30.out (by rw [HlaE.out]; exact Hla1.out) (below_one0 w9 _) hown3 hgrow3 hloc3
                      obtain ⟨hQ1, hQ2⟩ := LedF.turned hS hn hl hP1 (((Chg.of_below Hu.out.2.2).mono fun _ _ h => h.elim).trans hP2 fun _ _ h => h) fun j hj => by
                        rcases hj with hj | hj | hj
                        · exact .inl hj
                        · exact .inr (Hu.out.2.1 j hj)
                        · exact (hP3 j hj).imp id fun h => Nat.le_trans Hu.out.2.2.size h
                      have HQ := Lib.hid (And.intro hQ1 (show Same F w1 (w3.setCell ⟨l, 4, none⟩ v3) from fun j hj => (hQ2 j hj).trans (Hsd.out j hj)))
                      have kk4 := cell_of (hP4.trans (hL.below Hu.out.2.2).cells) (i := 4) rfl
                      have ff4 := frozen_of (hP4.trans (hL.below Hu.out.2.2).cells) 4
                      obtain ⟨p3, q3, rfl⟩ := OwnR.shape hown3
                      clear hL hS hn hl hal hxx hown3 hgrow3 hloc3 hP1 hP2 hP3 hP4 hQ1 hQ2
                      refine hK.out _ _ trivial (fun hHeld => ?_)
                      clear hK
                      try simp only [Act.put, List.setIfInBounds_toArray, List.set_cons_zero, List.set_cons_succ]
                      refine Pl [9,10] ?_
                      iterate 2 (refine Pc rfl ?_;simp only [Act.put, uA, uB, uC])
                      refine Pn ?_
                      refine ord_one 11 rfl (by kernel_rfl) (by rfl) (fun K hK => ?_)
                      go_wp2_with fail
                      refine hK.out _ _ (trivial) (fun hHeld => ?_)
                      clear hK
                      try simp only [Act.put, List.setIfInBounds_toArray, List.set_cons_zero, List.set_cons_succ]
                      refine wpAnyH_done (by kernel_rfl) ?_ _
                      have Hla9 := Lib.hid (last_calls HQ.out.1)
                      have HQs := Lib.hid HQ.out.2
                      have HQl := Lib.hid HQ.out.1
                      clear HQ kk4 ff4
                      generalize w3.setCell ⟨l, 4, none⟩ (.slice p3 (M.entries.length + 1) q3) = wz at *
                      go_wp2_with fail
                      refine Hla9.out.mono ?_
                      rintro e w12 ⟨rfl, q12, rfl⟩
                      have HE := Lib.hid (show AppTold w w1 l d pre F (ledAppend (nm pre) D M b) (.returned (.tuple #[.int .i64 (({ M with entries := M.entries ++ [b] } : LedM).last : Int), .int .i64 0])) (wz.drewN q12) from by
                        rw [HR.out]
                        refine ⟨by rw [show ({ M with entries := M.entries ++ [b] } : LedM).last = M.last + 1 from by unfold LedM.last; simp; omega]; rfl, HQl.out.next ⟨rfl, rfl, rfl, Nat.le_refl _, fun _ _ => rfl⟩, HQs.out⟩)
                      generalize ({ M with entries := M.entries ++ [b] } : LedM).last = la9 at *
                      go_wp2_with fail
                      go_ret2
                      exact HE.out
              · have hne : ((e2 : Int) != 0) = true := by simp; omega
                have HR := Lib.hid (app_err Hd.out b (by rw [HlaE.out]; exact Hno.out) Hly.out he2)
                have He2 := Lib.hid he2
                clear he2
                go_wp2_with fail
                have HLd := Lib.hid (HL6.out.next (below_drew w6))
                have Hsd := Lib.hid (show Same F w1 w6.drew from Hs6.out)
                have Hfd := Lib.hid (show HasB w6.drew (.slice pf nf cf) fr from HasB.below Hf6.out (below_drew w6))
                obtain ⟨hc0, hc1, -⟩ := HL6.out.lc
                refine ord_start (fun w' : World => w'.cell? ⟨l, 0, none⟩ = some (.pointer (some ⟨d, 0, none⟩)) ∧ w'.cell? ⟨l, 1, none⟩ = some (.string pre)) (n := 10) (by kernel_rfl) rfl (⟨hc0, hc1⟩) (fun hHeld => ?_)
                generalize w6.drew = W1 at *
                refine Pl [0,1,2,3,4,6] ?_
                iterate 6 (refine Pc rfl ?_;simp only [Act.put, uA, uB, uC])
                refine Pn ?_
                refine ord_both 5 7 rfl rfl (by kernel_rfl) (by rfl) (by rfl) (fun K hK => ?_) (fun K hK => ?_)
                · go_wp2_with fail
                  refine (logName_calls ⟨hHeld.1, hHeld.2, hps⟩).mono ?_
                  rintro e w9 ⟨rfl, rfl⟩
                  go_wp2_with fail
                  refine hK.out _ _ (hHeld) (fun hHeld => ?_)
                  clear hK
                  try simp only [Act.put, List.setIfInBounds_toArray, List.set_cons_zero, List.set_cons_succ]
                  refine ord_one 7 rfl (by kernel_rfl) (by rfl) (fun K hK => ?_)
                  have Hh2 := Lib.hid (show (W1.alloc (.cells #[.slice pf nf cf] 39)).cell? ⟨l, 0, none⟩ = some (.pointer (some ⟨d, 0, none⟩)) ∧ (W1.alloc (.cells #[.slice pf nf cf] 39)).cell? ⟨l, 1, none⟩ = some (.string pre) from ⟨al_cell hHeld.1 _, al_cell hHeld.2 _⟩)
                  go_wp2_with fail
                  refine hK.out _ _ (Hh2.out) (fun hHeld => ?_)
                  clear hK
                  try simp only [Act.put, List.setIfInBounds_toArray, List.set_cons_zero, List.set_cons_succ]
                  refine ord_one 8 rfl (by kernel_rfl) (by rfl) (fun K hK => ?_)
                  have Hap := Lib.hid (Happ.out W1 HLd.out Hfd.out)
                  go_wp2_with fail
                  refine Hap.out.mono ?_
                  rintro e w7 ⟨rfl, hl7, hs7, hk7⟩
                  have Hh3 := Lib.hid (HLd.out.lc.same hk7)
                  have HL7 := Lib.hid hl7
                  have Hs7 := Lib.hid (show Same F w1 w7 from fun k hk => (hs7 k hk).trans (Hsd.out k hk))
                  clear hl7 hs7 hk7 Hap
                  go_wp2_with fail
                  refine hK.out _ _ (⟨Hh3.out.1, Hh3.out.2.1⟩) (fun hHeld => ?_)
                  clear hK
                  try simp only [Act.put, List.setIfInBounds_toArray, List.set_cons_zero, List.set_cons_succ]
                  refine ord_take 9 (v := ?v61x9) rfl (by kernel_rfl) (by kernel_rfl) (by kernel_rfl) (fun _ _ _ h => h) (by rfl) (by assumption) ?y61x9 ?_
                  case y61x9 => (intro w hSw; (try dsimp only at hSw); go_simp; try with_reducible rfl)
                  simp only [Act.put, List.setIfInBounds_toArray, List.set_cons_zero, List.set_cons_succ]
                  refine wpAnyH_done (by kernel_rfl) ?_ _
                  clear HLd Hsd Hfd Hh3
                  go_wp2_with fail
                  have HLd := Lib.hid (HL7.out.next (below_drew w7))
                  have Hsd := Lib.hid (show Same F w1 w7.drew from Hs7.out)
                  obtain ⟨hc0, hc1, -⟩ := HL7.out.lc
                  refine ord_start (fun w' : World => w'.cell? ⟨l, 0, none⟩ = some (.pointer (some ⟨d, 0, none⟩)) ∧ w'.cell? ⟨l, 1, none⟩ = some (.string pre)) (n := 9) (by kernel_rfl) rfl (⟨hc0, hc1⟩) (fun hHeld => ?_)
                  generalize w7.drew = W1 at *
                  refine Pl [0,1,2,3,4] ?_
                  iterate 5 (refine Pc rfl ?_;simp only [Act.put, uA, uB, uC])
                  refine Pn ?_
                  refine ord_one 5 rfl (by kernel_rfl) (by rfl) (fun K hK => ?_)
                  go_wp2_with fail
                  refine (logName_calls ⟨hHeld.1, hHeld.2, hps⟩).mono ?_
                  rintro e w9 ⟨rfl, rfl⟩
                  go_wp2_with fail
                  refine hK.out _ _ (hHeld) (fun hHeld => ?_)
                  clear hK
                  try simp only [Act.put, List.setIfInBounds_toArray, List.set_cons_zero, List.set_cons_succ]
                  refine ord_one 6 rfl (by kernel_rfl) (by rfl) (fun K hK => ?_)
                  have Hh2 := Lib.hid (show (W1.alloc (.cells #[.string (sLog pre)] 9)).cell? ⟨l, 0, none⟩ = some (.pointer (some ⟨d, 0, none⟩)) ∧ (W1.alloc (.cells #[.string (sLog pre)] 9)).cell? ⟨l, 1, none⟩ = some (.string pre) from ⟨al_cell hHeld.1 _, al_cell hHeld.2 _⟩)
                  go_wp2_with fail
                  refine hK.out _ _ (Hh2.out) (fun hHeld => ?_)
                  clear hK
                  try simp only [Act.put, List.setIfInBounds_toArray, List.set_cons_zero, List.set_cons_succ]
                  refine ord_one 7 rfl (by kernel_rfl) (by rfl) (fun K hK => ?_)
                  go_wp2_with fail
                  refine (Hsy.out W1 HLd.out).mono ?_
                  rintro e w8 ⟨rfl, hl8, hs8, hk8⟩
                  have Hh3 := Lib.hid (HLd.out.lc.same hk8)
                  have HL8 := Lib.hid hl8
                  have Hs8 := Lib.hid (show Same F w1 w8 from fun k hk => (hs8 k hk).trans (Hsd.out k hk))
                  clear hl8 hs8 hk8
                  go_wp2_with fail
                  refine hK.out _ _ (⟨Hh3.out.1, Hh3.out.2.1⟩) (fun hHeld => ?_)
                  clear hK
                  try simp only [Act.put, List.setIfInBounds_toArray, List.set_cons_zero, List.set_cons_succ]
                  refine ord_take 8 (v := ?v70x8) rfl (by kernel_rfl) (by kernel_rfl) (by kernel_rfl) (fun _ _ _ h => h) (by rfl) (by assumption) ?y70x8 ?_
                  case y70x8 => (intro w hSw; (try dsimp only at hSw); go_simp; try with_reducible rfl)
                  simp only [Act.put, List.setIfInBounds_toArray, List.set_cons_zero, List.set_cons_succ]
                  refine wpAnyH_done (by kernel_rfl) ?_ _
                  clear HLd Hsd Hh3
                  have Hdi := Lib.hid (dies_calls HL8.out e2)
                  go_wp2_with fail
                  refine Hdi.out.mono ?_
                  rintro e w10 ⟨rfl, hl10, hs10⟩
                  have HL10 := Lib.hid hl10
                  have Hs10 := Lib.hid (show Same F w1 w10 from fun k hk => (hs10 k hk).trans (Hs8.out k hk))
                  clear hl10 hs10 Hdi
                  have HE := Lib.hid (show AppTold w w1 l d pre F (ledAppend (nm pre) D M b) (.returned (.tuple #[.int .i64 0, .int .i64 (e2 : Int)])) w10 from by
                    rw [HR.out]
                    refine ⟨rfl, ?_, Hs10.out⟩
                    have h := HL10.out
                    rwa [show ({ M with dead := M.dead || decide (e2 ≠ 0) } : LedM) = M.die from by rw [Hd.out]; unfold LedM.die; simp [He2.out]] at h)
                  go_wp2_with fail
                  go_ret2
                  exact HE.out
                · have Hh2 := Lib.hid (show (W1.alloc (.cells #[.slice pf nf cf] 39)).cell? ⟨l, 0, none⟩ = some (.pointer (some ⟨d, 0, none⟩)) ∧ (W1.alloc (.cells #[.slice pf nf cf] 39)).cell? ⟨l, 1, none⟩ = some (.string pre) from ⟨al_cell hHeld.1 _, al_cell hHeld.2 _⟩)
                  go_wp2_with fail
                  refine hK.out _ _ (Hh2.out) (fun hHeld => ?_)
                  clear hK
                  try simp only [Act.put, List.setIfInBounds_toArray, List.set_cons_zero, List.set_cons_succ]
                  refine ord_one 5 rfl (by kernel_rfl) (by rfl) (fun K hK => ?_)
                  go_wp2_with fail
                  refine (logName_calls ⟨hHeld.1, hHeld.2, hps⟩).mono ?_
                  rintro e w9 ⟨rfl, rfl⟩
                  go_wp2_with fail
                  refine hK.out _ _ (hHeld) (fun hHeld => ?_)
                  clear hK
                  try simp only [Act.put, List.setIfInBounds_toArray, List.set_cons_zero, List.set_cons_succ]
                  refine ord_one 8 rfl (by kernel_rfl) (by rfl) (fun K hK => ?_)
                  have Hap := Lib.hid (Happ.out W1 HLd.out Hfd.out)
                  go_wp2_with fail
                  refine Hap.out.mono ?_
                  rintro e w7 ⟨rfl, hl7, hs7, hk7⟩
                  have Hh3 := Lib.hid (HLd.out.lc.same hk7)
                  have HL7 := Lib.hid hl7
                  have Hs7 := Lib.hid (show Same F w1 w7 from fun k hk => (hs7 k hk).trans (Hsd.out k hk))
                  clear hl7 hs7 hk7 Hap
                  go_wp2_with fail
                  refine hK.out _ _ (⟨Hh3.out.1, Hh3.out.2.1⟩) (fun hHeld => ?_)
                  clear hK
                  try simp only [Act.put, List.setIfInBounds_toArray, List.set_cons_zero, List.set_cons_succ]
                  refine ord_take 9 (v := ?v62x9) rfl (by kernel_rfl) (by kernel_rfl) (by kernel_rfl) (fun _ _ _ h => h) (by rfl) (by assumption) ?y62x9 ?_
                  case y62x9 => (intro w hSw; (try dsimp only at hSw); go_simp; try with_reducible rfl)
                  simp only [Act.put, List.setIfInBounds_toArray, List.set_cons_zero, List.set_cons_succ]
                  refine wpAnyH_done (by kernel_rfl) ?_ _
                  clear HLd Hsd Hfd Hh3
                  go_wp2_with fail
                  have HLd := Lib.hid (HL7.out.next (below_drew w7))
                  have Hsd := Lib.hid (show Same F w1 w7.drew from Hs7.out)
                  obtain ⟨hc0, hc1, -⟩ := HL7.out.lc
                  refine ord_start (fun w' : World => w'.cell? ⟨l, 0, none⟩ = some (.pointer (some ⟨d, 0, none⟩)) ∧ w'.cell? ⟨l, 1, none⟩ = some (.string pre)) (n := 9) (by kernel_rfl) rfl (⟨hc0, hc1⟩) (fun hHeld => ?_)
                  generalize w7.drew = W1 at *
                  refine Pl [0,1,2,3,4] ?_
                  iterate 5 (refine Pc rfl ?_;simp only [Act.put, uA, uB, uC])
                  refine Pn ?_
                  refine ord_one 5 rfl (by kernel_rfl) (by rfl) (fun K hK => ?_)
                  go_wp2_with fail
                  refine (logName_calls ⟨hHeld.1, hHeld.2, hps⟩).mono ?_
                  rintro e w9 ⟨rfl, rfl⟩
                  go_wp2_with fail
                  refine hK.out _ _ (hHeld) (fun hHeld => ?_)
                  clear hK
                  try simp only [Act.put, List.setIfInBounds_toArray, List.set_cons_zero, List.set_cons_succ]
                  refine ord_one 6 rfl (by kernel_rfl) (by rfl) (fun K hK => ?_)
                  have Hh2 := Lib.hid (show (W1.alloc (.cells #[.string (sLog pre)] 9)).cell? ⟨l, 0, none⟩ = some (.pointer (some ⟨d, 0, none⟩)) ∧ (W1.alloc (.cells #[.string (sLog pre)] 9)).cell? ⟨l, 1, none⟩ = some (.string pre) from ⟨al_cell hHeld.1 _, al_cell hHeld.2 _⟩)
                  go_wp2_with fail
                  refine hK.out _ _ (Hh2.out) (fun hHeld => ?_)
                  clear hK
                  try simp only [Act.put, List.setIfInBounds_toArray, List.set_cons_zero, List.set_cons_succ]
                  refine ord_one 7 rfl (by kernel_rfl) (by rfl) (fun K hK => ?_)
                  go_wp2_with fail
                  refine (Hsy.out W1 HLd.out).mono ?_
                  rintro e w8 ⟨rfl, hl8, hs8, hk8⟩
                  have Hh3 := Lib.hid (HLd.out.lc.same hk8)
                  have HL8 := Lib.hid hl8
                  have Hs8 := Lib.hid (show Same F w1 w8 from fun k hk => (hs8 k hk).trans (Hsd.out k hk))
                  clear hl8 hs8 hk8
                  go_wp2_with fail
                  refine hK.out _ _ (⟨Hh3.out.1, Hh3.out.2.1⟩) (fun hHeld => ?_)
                  clear hK
                  try simp only [Act.put, List.setIfInBounds_toArray, List.set_cons_zero, List.set_cons_succ]
                  refine ord_take 8 (v := ?v80x8) rfl (by kernel_rfl) (by kernel_rfl) (by kernel_rfl) (fun _ _ _ h => h) (by rfl) (by assumption) ?y80x8 ?_
                  case y80x8 => (intro w hSw; (try dsimp only at hSw); go_simp; try with_reducible rfl)
                  simp only [Act.put, List.setIfInBounds_toArray, List.set_cons_zero, List.set_cons_succ]
                  refine wpAnyH_done (by kernel_rfl) ?_ _
                  clear HLd Hsd Hh3
                  have Hdi := Lib.hid (dies_calls HL8.out e2)
                  go_wp2_with fail
                  refine Hdi.out.mono ?_
                  rintro e w10 ⟨rfl, hl10, hs10⟩
                  have HL10 := Lib.hid hl10
                  have Hs10 := Lib.hid (show Same F w1 w10 from fun k hk => (hs10 k hk).trans (Hs8.out k hk))
                  clear hl10 hs10 Hdi
                  have HE := Lib.hid (show AppTold w w1 l d pre F (ledAppend (nm pre) D M b) (.returned (.tuple #[.int .i64 0, .int .i64 (e2 : Int)])) w10 from by
                    rw [HR.out]
                    refine ⟨rfl, ?_, Hs10.out⟩
                    have h := HL10.out
                    rwa [show ({ M with dead := M.dead || decide (e2 ≠ 0) } : LedM) = M.die from by rw [Hd.out]; unfold LedM.die; simp [He2.out]] at h)
                  go_wp2_with fail
                  go_ret2
                  exact HE.out
          · have hne : ((e1 : Int) != 0) = true := by simp; omega
            have hne' : ((e1 : Int) == 0) = false := by simp; omega
            have Hly := Lib.hid (show layOn D (logN (nm pre)) (frameN (imgB (M.last + 1) b)) = (D1, e1) from by unfold layOn; rw [Hfr.out, hap]; exact if_pos he1)
            have HR := Lib.hid (app_err Hd.out b (by rw [HlaE.out]; exact Hno.out) Hly.out he1)
            have He1 := Lib.hid he1
            clear hap he1
            go_wp2_with fail
            have HLd := Lib.hid (HL6.out.next (below_drew w6))
            have Hsd := Lib.hid (show Same F w1 w6.drew from Hs6.out)
            have Hfd := Lib.hid (show HasB w6.drew (.slice pf nf cf) fr from HasB.below Hf6.out (below_drew w6))
            obtain ⟨hc0, hc1, -⟩ := HL6.out.lc
            refine ord_start (fun w' : World => w'.cell? ⟨l, 0, none⟩ = some (.pointer (some ⟨d, 0, none⟩)) ∧ w'.cell? ⟨l, 1, none⟩ = some (.string pre)) (n := 10) (by kernel_rfl) rfl (⟨hc0, hc1⟩) (fun hHeld => ?_)
            generalize w6.drew = W1 at *
            refine Pl [0,1,2,3,4,6] ?_
            iterate 6 (refine Pc rfl ?_;simp only [Act.put, uA, uB, uC])
            refine Pn ?_
            refine ord_both 5 7 rfl rfl (by kernel_rfl) (by rfl) (by rfl) (fun K hK => ?_) (fun K hK => ?_)
            · go_wp2_with fail
              refine (logName_calls ⟨hHeld.1, hHeld.2, hps⟩).mono ?_
              rintro e w9 ⟨rfl, rfl⟩
              go_wp2_with fail
              refine hK.out _ _ (hHeld) (fun hHeld => ?_)
              clear hK
              try simp only [Act.put, List.setIfInBounds_toArray, List.set_cons_zero, List.set_cons_succ]
              refine ord_one 7 rfl (by kernel_rfl) (by rfl) (fun K hK => ?_)
              have Hh2 := Lib.hid (show (W1.alloc (.cells #[.slice pf nf cf] 39)).cell? ⟨l, 0, none⟩ = some (.pointer (some ⟨d, 0, none⟩)) ∧ (W1.alloc (.cells #[.slice pf nf cf] 39)).cell? ⟨l, 1, none⟩ = some (.string pre) from ⟨al_cell hHeld.1 _, al_cell hHeld.2 _⟩)
              go_wp2_with fail
              refine hK.out _ _ (Hh2.out) (fun hHeld => ?_)
              clear hK
              try simp only [Act.put, List.setIfInBounds_toArray, List.set_cons_zero, List.set_cons_succ]
              refine ord_one 8 rfl (by kernel_rfl) (by rfl) (fun K hK => ?_)
              have Hap := Lib.hid (Happ.out W1 HLd.out Hfd.out)
              go_wp2_with fail
              refine Hap.out.mono ?_
              rintro e w7 ⟨rfl, hl7, hs7, hk7⟩
              have Hh3 := Lib.hid (HLd.out.lc.same hk7)
              have HL7 := Lib.hid hl7
              have Hs7 := Lib.hid (show Same F w1 w7 from fun k hk => (hs7 k hk).trans (Hsd.out k hk))
              clear hl7 hs7 hk7 Hap
              go_wp2_with fail
              refine hK.out _ _ (⟨Hh3.out.1, Hh3.out.2.1⟩) (fun hHeld => ?_)
              clear hK
              try simp only [Act.put, List.setIfInBounds_toArray, List.set_cons_zero, List.set_cons_succ]
              refine ord_take 9 (v := ?v91x9) rfl (by kernel_rfl) (by kernel_rfl) (by kernel_rfl) (fun _ _ _ h => h) (by rfl) (by assumption) ?y91x9 ?_
              case y91x9 => (intro w hSw; (try dsimp only at hSw); go_simp; try with_reducible rfl)
              simp only [Act.put, List.setIfInBounds_toArray, List.set_cons_zero, List.set_cons_succ]
              refine wpAnyH_done (by kernel_rfl) ?_ _
              clear HLd Hsd Hfd Hh3
              have Hdi := Lib.hid (dies_calls HL7.out e1)
              go_wp2_with fail
              refine Hdi.out.mono ?_
              rintro e w10 ⟨rfl, hl10, hs10⟩
              have HL10 := Lib.hid hl10
              have Hs10 := Lib.hid (show Same F w1 w10 from fun k hk => (hs10 k hk).trans (Hs7.out k hk))
              clear hl10 hs10 Hdi
              have HE := Lib.hid (show AppTold w w1 l d pre F (ledAppend (nm pre) D M b) (.returned (.tuple #[.int .i64 0, .int .i64 (e1 : Int)])) w10 from by
                rw [HR.out]
                refine ⟨rfl, ?_, Hs10.out⟩
                have h := HL10.out
                rwa [show ({ M with dead := M.dead || decide (e1 ≠ 0) } : LedM) = M.die from by rw [Hd.out]; unfold LedM.die; simp [He1.out]] at h)
              go_wp2_with fail
              go_ret2
              exact HE.out
            · have Hh2 := Lib.hid (show (W1.alloc (.cells #[.slice pf nf cf] 39)).cell? ⟨l, 0, none⟩ = some (.pointer (some ⟨d, 0, none⟩)) ∧ (W1.alloc (.cells #[.slice pf nf cf] 39)).cell? ⟨l, 1, none⟩ = some (.string pre) from ⟨al_cell hHeld.1 _, al_cell hHeld.2 _⟩)
              go_wp2_with fail
              refine hK.out _ _ (Hh2.out) (fun hHeld => ?_)
              clear hK
              try simp only [Act.put, List.setIfInBounds_toArray, List.set_cons_zero, List.set_cons_succ]
              refine ord_one 5 rfl (by kernel_rfl) (by rfl) (fun K hK => ?_)
              go_wp2_with fail
              refine (logName_calls ⟨hHeld.1, hHeld.2, hps⟩).mono ?_
              rintro e w9 ⟨rfl, rfl⟩
              go_wp2_with fail
              refine hK.out _ _ (hHeld) (fun hHeld => ?_)
              clear hK
              try simp only [Act.put, List.setIfInBounds_toArray, List.set_cons_zero, List.set_cons_succ]
              refine ord_one 8 rfl (by kernel_rfl) (by rfl) (fun K hK => ?_)
              have Hap := Lib.hid (Happ.out W1 HLd.out Hfd.out)
              go_wp2_with fail
              refine Hap.out.mono ?_
              rintro e w7 ⟨rfl, hl7, hs7, hk7⟩
              have Hh3 := Lib.hid (HLd.out.lc.same hk7)
              have HL7 := Lib.hid hl7
              have Hs7 := Lib.hid (show Same F w1 w7 from fun k hk => (hs7 k hk).trans (Hsd.out k hk))
              clear hl7 hs7 hk7 Hap
              go_wp2_with fail
              refine hK.out _ _ (⟨Hh3.out.1, Hh3.out.2.1⟩) (fun hHeld => ?_)
              clear hK
              try simp only [Act.put, List.setIfInBounds_toArray, List.set_cons_zero, List.set_cons_succ]
              refine ord_take 9 (v := ?v92x9) rfl (by kernel_rfl) (by kernel_rfl) (by kernel_rfl) (fun _ _ _ h => h) (by rfl) (by assumption) ?y92x9 ?_
              case y92x9 => (intro w hSw; (try dsimp only at hSw); go_simp; try with_reducible rfl)
              simp only [Act.put, List.setIfInBounds_toArray, List.set_cons_zero, List.set_cons_succ]
              refine wpAnyH_done (by kernel_rfl) ?_ _
              clear HLd Hsd Hfd Hh3
              have Hdi := Lib.hid (dies_calls HL7.out e1)
              go_wp2_with fail
              refine Hdi.out.mono ?_
              rintro e w10 ⟨rfl, hl10, hs10⟩
              have HL10 := Lib.hid hl10
              have Hs10 := Lib.hid (show Same F w1 w10 from fun k hk => (hs10 k hk).trans (Hs7.out k hk))
              clear hl10 hs10 Hdi
              have HE := Lib.hid (show AppTold w w1 l d pre F (ledAppend (nm pre) D M b) (.returned (.tuple #[.int .i64 0, .int .i64 (e1 : Int)])) w10 from by
                rw [HR.out]
                refine ⟨rfl, ?_, Hs10.out⟩
                have h := HL10.out
                rwa [show ({ M with dead := M.dead || decide (e1 ≠ 0) } : LedM) = M.die from by rw [Hd.out]; unfold LedM.die; simp [He1.out]] at h)
              go_wp2_with fail
              go_ret2
              exact HE.out
end
end Go.Proofs.YtogdfkilhpkloaaGreatDoor
