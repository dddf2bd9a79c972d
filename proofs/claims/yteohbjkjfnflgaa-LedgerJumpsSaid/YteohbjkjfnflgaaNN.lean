/- The walk of satrapylaw14.LedgerJumps: it is true. -/
import Derived.Test.YteohbjkjfnflgaaNM
namespace Go.Proofs.Yteohbjkjfnflgaa
open Go.RowKit Go.Sat Go.Maps

/-- So many x. -/
def xs (k : Nat) : List Bs := List.replicate k bx
theorem xs_len (k : Nat) : (xs k).length = k := List.length_replicate
theorem xs_succ (k : Nat) : xs k ++ [bx] = xs (k + 1) := (List.replicate_succ' (n := k) (a := bx)).symm
theorem xs_flat (k : Nat) : (xs k).flatten.length = k := by
  unfold xs
  rw [List.length_flatten, List.map_replicate, List.sum_replicate_nat]
  exact Nat.mul_one k
theorem xs_fits {n k : Nat} (h : n + k ≤ 1099511627776) : Fits n (xs k) := ⟨by rw [xs_len]; exact h, fun e he => by rw [List.eq_of_mem_replicate he]; decide⟩

theorem app_xs {k : Nat} (hk : k ≤ 1000) : ledAppend (nm sA) (sD none (xs k) none) (MM none (xs k)) bx = ⟨sD none (xs (k + 1)) none, MM none (xs (k + 1)), k + 1, 0⟩ := by
  have hf : Fits 0 (xs k ++ [bx]) := by rw [xs_succ]; exact xs_fits (by omega)
  have h1 := recs_len hf
  have h := app_step (im := none) (es := xs k) (p := bx) (f := none) trivial (fun j e => by cases e) hf (by
    rw [xs_succ, xs_flat, xs_len] at h1
    show 0 + (recsB (recF 0 (xs k ++ [bx]))).length ≤ _
    rw [xs_succ]
    omega)
  rw [xs_succ, xs_len, show baseOf none + k + 1 = k + 1 by show 0 + k + 1 = _; omega] at h
  exact h

/-- What is opened behind the image that was to be, and the next entry. -/
structure Jumped (D : DiskM) (n : Nat) where
  im : Option (Nat × Bs)
  es : List Bs
  opens : ∀ k, ledOpen (D.crash k) pA = (sD im es none, 0, MM im es)
  adds : ledAppend (nm sA) (sD im es none) (MM im es) bz = ⟨sD im (es ++ [bz]) none, MM im (es ++ [bz]), n + 1, 0⟩
  again : ∀ k, ledOpen ((sD im (es ++ [bz]) none).crash k) pA = (sD im (es ++ [bz]) none, 0, MM im (es ++ [bz]))
  last : (MM im es).last = n
  last1 : (MM im (es ++ [bz])).last = n + 1

theorem jumped_img {D : DiskM} {n : Nat} (hn : n ≤ 2000) (h : ∀ k, ledOpen (D.crash k) pA = (sD (some (n, by1)) [] none, 0, MM (some (n, by1)) [])) : Nonempty (Jumped D n) := by
  have hi : OkI (some (n, by1)) := ⟨by omega, by decide⟩
  have hf : Fits n [bz] := fits_one (by omega) (by decide)
  refine ⟨⟨some (n, by1), [], h, ?_, fun k => ?_, rfl, rfl⟩⟩
  · refine app_step (im := some (n, by1)) (es := []) (p := bz) (f := none) hi (fun j e => by cases e) hf ?_
    have h1 := recs_len hf
    have h2 : [bz].flatten.length + 30 * [bz].length = 31 := rfl
    have h3 : by1.length = 1 := rfl
    have h4 := szI_some (n := n) (p := by1) (by omega) (by decide)
    show szI (some (n, by1)) + (recsB (recF n [bz])).length ≤ _
    omega
  · rw [crash_s]
    exact open_s (im := some (n, by1)) (es := [bz]) hi hf

theorem jumped_old {D : DiskM} {n : Nat} (hn : n ≤ 100) (h : ∀ k, ledOpen (D.crash k) pA = (sD none (xs n) none, 0, MM none (xs n))) : Nonempty (Jumped D n) := by
  have hf : Fits 0 (xs n ++ [bz]) := ⟨by rw [List.length_append, xs_len]; show 0 + (n + 1) ≤ _; omega, fun e he => by
    rcases List.mem_append.mp he with he | he
    · rw [List.eq_of_mem_replicate he]; decide
    · simp at he; subst he; decide⟩
  refine ⟨⟨none, xs n, h, ?_, fun k => ?_, ?_, ?_⟩⟩
  · have h1 := recs_len hf
    have h := app_step (im := none) (es := xs n) (p := bz) (f := none) trivial (fun j e => by cases e) hf (by
      rw [List.flatten_append, List.length_append, List.length_append, xs_flat, xs_len] at h1
      have h2 : [bz].flatten.length = 1 := rfl
      have h3 : [bz].length = 1 := rfl
      show 0 + (recsB (recF 0 (xs n ++ [bz]))).length ≤ _
      omega)
    rw [xs_len, show baseOf none + n + 1 = n + 1 by show 0 + n + 1 = _; omega] at h
    exact h
  · rw [crash_s]
    exact open_s (im := none) (es := xs n ++ [bz]) trivial hf
  · show 0 + (xs n).length = n
    rw [xs_len]
    omega
  · show 0 + (xs n ++ [bz]).length = n + 1
    rw [List.length_append, xs_len]
    show 0 + (n + 1) = n + 1
    omega

theorem jump_plain {few far : Nat} (h1 : few ≤ 20) (h2 : far ≤ 1000) {f : Option Nat} (hf : ∀ j, f = some j → j ≤ 9223372036854775807) :
    ∃ D' M' e n, ledWrite (nm sA) (sD none (xs few) f) (MM none (xs few)) ((few + far : Nat) : Int) by1 = ⟨D', M', 0, e⟩ ∧ Nonempty (Jumped D' n) ∧ ((e = 0 ∧ n = few + far) ∨ (e = 9 ∧ n = few) ∨ (e = 9 ∧ n = few + far)) := by
  have hF : Fits 0 (xs few) := xs_fits (by omega)
  have h5 := recs_len hF
  rw [xs_flat, xs_len] at h5
  have h6 := imgB_len (few + far) by1 (by omega) (by decide)
  have h7 : by1.length = 1 := rfl
  obtain ⟨D', M', e, hw, hr⟩ := wri_any (im := none) (es := xs few) (n := few + far) (p := by1) (f := f) ⟨by omega, by decide⟩ rfl hF (by rw [xs_len]; omega) (by omega) (by decide) (by
    show 0 + (recsB (recF 0 (xs few))).length + (imgB (few + far) by1).length + 12 ≤ _
    omega) hf
  rcases hr with ⟨rfl, hr⟩ | ⟨rfl, hr | hr⟩
  · exact ⟨D', M', 0, few + far, hw, jumped_img (by omega) hr, .inl ⟨rfl, rfl⟩⟩
  · exact ⟨D', M', 9, few, hw, jumped_old (by omega) hr, .inr (.inl ⟨rfl, rfl⟩)⟩
  · exact ⟨D', M', 9, few + far, hw, jumped_img (by omega) hr, .inr (.inr ⟨rfl, rfl⟩)⟩

theorem set_s (im : Option (Nat × Bs)) (es : List Bs) (k : Nat) : (sD im es none).setFuse (k : Int) = sD im es (some k) := by
  unfold DiskM.setFuse
  rw [if_neg (by omega), Int.toNat_natCast]
  rfl

set_option maxRecDepth 100000 in
set_option maxHeartbeats 16000000 in
theorem ljumps_walk {w : World} (a0 : Int) (_ha0 : -9223372036854775808 ≤ a0) (_ha0' : a0 ≤ 9223372036854775807) (a1 : Int) (_ha1 : -9223372036854775808 ≤ a1) (_ha1' : a1 ≤ 9223372036854775807)
    (a2 : Int) (_ha2 : -9223372036854775808 ≤ a2) (_ha2' : a2 ≤ 9223372036854775807) (a3 : Int) (ha3 : -9223372036854775808 ≤ a3) (ha3' : a3 ≤ 9223372036854775807) :
    Calls Try.prog 4 #[.int .i64 a0, .int .i64 a1, .int .i64 a2, .int .i64 a3] w (True3 w) := by
  have Hkn := Lib.hid fun w => knownL_calls w
  by_cases hin : a0 < 0 ∨ 20 < a0 ∨ a1 < 0 ∨ 1000 < a1 ∨ a2 < 0 ∨ 20 < a2
  · by_cases h1 : a0 < 0
    · go_enter Try.func4, Try.ntmps4
      go_wp2_with fail
      refine (Hkn.out w).mono ?_
      rintro e w2 ⟨rfl, hb⟩
      have Hb := Lib.hid hb
      go_wp2_with fail
      go_ret
      exact ⟨rfl, Hb.out⟩
    · by_cases h2 : 20 < a0
      · go_enter Try.func4, Try.ntmps4
        go_wp2_with fail
        refine (Hkn.out w).mono ?_
        rintro e w2 ⟨rfl, hb⟩
        have Hb := Lib.hid hb
        go_wp2_with fail
        go_ret
        exact ⟨rfl, Hb.out⟩
      · by_cases h3 : a1 < 0
        · go_enter Try.func4, Try.ntmps4
          go_wp2_with fail
          refine (Hkn.out w).mono ?_
          rintro e w2 ⟨rfl, hb⟩
          have Hb := Lib.hid hb
          go_wp2_with fail
          go_ret
          exact ⟨rfl, Hb.out⟩
        · by_cases h4 : 1000 < a1
          · go_enter Try.func4, Try.ntmps4
            go_wp2_with fail
            refine (Hkn.out w).mono ?_
            rintro e w2 ⟨rfl, hb⟩
            have Hb := Lib.hid hb
            go_wp2_with fail
            go_ret
            exact ⟨rfl, Hb.out⟩
          · by_cases h5 : a2 < 0
            · go_enter Try.func4, Try.ntmps4
              go_wp2_with fail
              refine (Hkn.out w).mono ?_
              rintro e w2 ⟨rfl, hb⟩
              have Hb := Lib.hid hb
              go_wp2_with fail
              go_ret
              exact ⟨rfl, Hb.out⟩
            · have h6 : 20 < a2 := by omega
              go_enter Try.func4, Try.ntmps4
              go_wp2_with fail
              refine (Hkn.out w).mono ?_
              rintro e w2 ⟨rfl, hb⟩
              have Hb := Lib.hid hb
              go_wp2_with fail
              go_ret
              exact ⟨rfl, Hb.out⟩
  · obtain ⟨few, rfl⟩ : ∃ k : Nat, a0 = (k : Int) := ⟨a0.toNat, by omega⟩
    obtain ⟨far, rfl⟩ : ∃ k : Nat, a1 = (k : Int) := ⟨a1.toNat, by omega⟩
    obtain ⟨fu, rfl⟩ : ∃ k : Nat, a2 = (k : Int) := ⟨a2.toNat, by omega⟩
    have hfew : few ≤ 20 := by omega
    have hfar : far ≤ 1000 := by omega
    have hfu : fu ≤ 20 := by omega
    obtain ⟨D', M', e0, m, hw, ⟨hJ⟩, hem⟩ := jump_plain hfew hfar (f := some fu) (fun j e => by cases e; omega)
    have Hw := Lib.hid hw
    have Hem := Lib.hid hem
    have Hnew := Lib.hid (st_new (w := w) (w1 := w) 65536 (by decide) (by decide) (Below.refl _ _))
    have kc := fun (w : World) (C : Array Value) (n c : Nat) => Lib.run_convert_bytes_const (P := Try.prog) w 33 5 C n c Try.underlying33 Try.underlying5
    clear hw hem hin
    go_enter Try.func4, Try.ntmps4
    go_wp2_with fail
    refine Hnew.out.mono ?_
    rintro e w1 ⟨d, rfl, hd⟩
    have Hop := Lib.hid (open_is (D := DiskM.fresh 65536) hd open_fresh)
    clear hd Hnew
    go_wp2_with fail
    refine Hop.out.mono ?_
    rintro e w2 ⟨l, rfl, hl, -⟩
    have Hl := Lib.hid hl
    clear hl Hop
    go_wp2_with fail
    go_loopw [13] (fun i wr => ∃ k : Nat, k ≤ few ∧ i = .int .i64 k ∧ LedF w wr l d sA (sD none (xs k) none) (MM none (xs k)) NoF) (fun i _ => few - (intOf i).toNat)
    case atStart => exact ⟨0, Nat.zero_le _, rfl, Hl.out⟩
    case round =>
      clear Hl
      obtain ⟨k, hk, rfl, hr⟩ := hrel
      by_cases hlt : k < few
      · have Happ := Lib.hid (app_lit hr #[.int .u8 120] bx rfl (n := 1) (c := 1) rfl (by decide) (1, 2))
        rw [app_xs (by omega)] at Happ
        clear hr
        go_wp2_with fail
        refine Happ.out.mono ?_
        rintro e w3 ⟨rfl, hl, -⟩
        have Hl := Lib.hid hl
        clear hl Happ
        go_wp2_with fail
        go_round
        case rel => exact ⟨k + 1, by omega, by go_num, Hl.out⟩
        case measure => simp [intOf]; omega
      · obtain rfl : k = few := by omega
        have Hfu := Lib.hid (led_fuse hr (fu : Int) (by omega) (by omega))
        rw [set_s] at Hfu
        clear hr
        go_wp2_with fail
        refine Hfu.out.mono ?_
        rintro e w3 ⟨rfl, hl, -⟩
        have Hwri := Lib.hid (wri_lit hl ((k + far : Nat) : Int) (by omega) #[.int .u8 121] by1 rfl (n := 1) (c := 1) rfl (by decide) (1, 2))
        rw [Hw.out] at Hwri
        clear hl Hfu
        have hsum : IntKind.i64.wrap ((k : Int) + (far : Int)) = ((k + far : Nat) : Int) := by rw [IntWalk.i64_in _ (by omega)]; omega
        go_wp2_with fail
        refine Hwri.out.mono ?_
        rintro e w4 ⟨rfl, hl, -⟩
        have Hcr := Lib.hid (st_crash hl.st a3 ha3 ha3')
        clear hl Hwri
        go_wp2_with fail
        refine Hcr.out.mono ?_
        rintro e w5 ⟨rfl, hd, -⟩
        have Hop := Lib.hid (open_is hd (hJ.opens a3))
        clear hd Hcr
        go_wp2_with fail
        refine Hop.out.mono ?_
        rintro e w6 ⟨l2, rfl, hl, -⟩
        have Hl := Lib.hid hl
        clear hl Hop
        rcases Hem.out with ⟨rfl, rfl⟩ | ⟨rfl, rfl⟩ | ⟨rfl, rfl⟩
        · by_cases hfar0 : far = 0
          · subst hfar0
            go_wp2_with fail
            refine (last_is Hl.out hJ.last).mono ?_
            rintro e w7 ⟨rfl, hl⟩
            have Hl := Lib.hid hl
            clear hl
            go_wp2_with fail
            refine (last_is Hl.out hJ.last).mono ?_
            rintro e w8 ⟨rfl, hl⟩
            have Hl := Lib.hid hl
            clear hl
            go_wp2_with fail
            refine (last_is Hl.out hJ.last).mono ?_
            rintro e wa ⟨rfl, hl⟩
            have Happ := Lib.hid (app_lit hl #[.int .u8 122] bz rfl (n := 1) (c := 1) rfl (by decide) (1, 2))
            rw [hJ.adds] at Happ
            clear hl Hl
            go_wp2_with fail
            refine Happ.out.mono ?_
            rintro e wb ⟨rfl, hl, -⟩
            have Hcr := Lib.hid (st_crash hl.st 0 (by decide) (by decide))
            clear hl Happ
            go_wp2_with fail
            refine Hcr.out.mono ?_
            rintro e wc ⟨rfl, hd, -⟩
            have Hop := Lib.hid (open_is hd (hJ.again 0))
            clear hd Hcr
            have hplus : IntKind.i64.wrap (((k + 0 : Nat) : Int) + 1) = ((k + 0 + 1 : Nat) : Int) := by rw [IntWalk.i64_in _ (by omega)]; omega
            go_wp2_with fail
            refine Hop.out.mono ?_
            rintro e wd ⟨l3, rfl, hl, -⟩
            have Hl := Lib.hid hl
            clear hl Hop
            go_wp2_with fail
            refine (last_is Hl.out hJ.last1).mono ?_
            rintro e we ⟨rfl, hl⟩
            have Hl := Lib.hid hl
            clear hl
            go_wp2_with fail
            refine (Hkn.out we).mono ?_
            rintro e wf ⟨rfl, hb⟩
            have Hb := Lib.hid (below_on Hl.out.bel hb)
            clear hb
            go_wp2_with fail
            go_ret
            exact ⟨rfl, Hb.out⟩
          · have hne : (((k + far : Nat) : Int) != (k : Int)) = true := by simp; omega
            go_wp2_with fail
            refine (last_is Hl.out hJ.last).mono ?_
            rintro e w7 ⟨rfl, hl⟩
            have Hl := Lib.hid hl
            clear hl
            go_wp2_with fail
            refine (last_is Hl.out hJ.last).mono ?_
            rintro e w8 ⟨rfl, hl⟩
            have Hl := Lib.hid hl
            clear hl
            go_wp2_with fail
            refine (last_is Hl.out hJ.last).mono ?_
            rintro e w9 ⟨rfl, hl⟩
            have Hl := Lib.hid hl
            clear hl
            go_wp2_with fail
            refine (last_is Hl.out hJ.last).mono ?_
            rintro e wa ⟨rfl, hl⟩
            have Happ := Lib.hid (app_lit hl #[.int .u8 122] bz rfl (n := 1) (c := 1) rfl (by decide) (1, 2))
            rw [hJ.adds] at Happ
            clear hl Hl
            go_wp2_with fail
            refine Happ.out.mono ?_
            rintro e wb ⟨rfl, hl, -⟩
            have Hcr := Lib.hid (st_crash hl.st 0 (by decide) (by decide))
            clear hl Happ
            go_wp2_with fail
            refine Hcr.out.mono ?_
            rintro e wc ⟨rfl, hd, -⟩
            have Hop := Lib.hid (open_is hd (hJ.again 0))
            clear hd Hcr
            have hplus : IntKind.i64.wrap (((k + far : Nat) : Int) + 1) = ((k + far + 1 : Nat) : Int) := by rw [IntWalk.i64_in _ (by omega)]; omega
            go_wp2_with fail
            refine Hop.out.mono ?_
            rintro e wd ⟨l3, rfl, hl, -⟩
            have Hl := Lib.hid hl
            clear hl Hop
            go_wp2_with fail
            refine (last_is Hl.out hJ.last1).mono ?_
            rintro e we ⟨rfl, hl⟩
            have Hl := Lib.hid hl
            clear hl
            go_wp2_with fail
            refine (Hkn.out we).mono ?_
            rintro e wf ⟨rfl, hb⟩
            have Hb := Lib.hid (below_on Hl.out.bel hb)
            clear hb
            go_wp2_with fail
            go_ret
            exact ⟨rfl, Hb.out⟩
        · go_wp2_with fail
          refine (last_is Hl.out hJ.last).mono ?_
          rintro e w7 ⟨rfl, hl⟩
          have Hl := Lib.hid hl
          clear hl
          go_wp2_with fail
          refine (last_is Hl.out hJ.last).mono ?_
          rintro e wa ⟨rfl, hl⟩
          have Happ := Lib.hid (app_lit hl #[.int .u8 122] bz rfl (n := 1) (c := 1) rfl (by decide) (1, 2))
          rw [hJ.adds] at Happ
          clear hl Hl
          go_wp2_with fail
          refine Happ.out.mono ?_
          rintro e wb ⟨rfl, hl, -⟩
          have Hcr := Lib.hid (st_crash hl.st 0 (by decide) (by decide))
          clear hl Happ
          go_wp2_with fail
          refine Hcr.out.mono ?_
          rintro e wc ⟨rfl, hd, -⟩
          have Hop := Lib.hid (open_is hd (hJ.again 0))
          clear hd Hcr
          have hplus : IntKind.i64.wrap (((m : Nat) : Int) + 1) = ((m + 1 : Nat) : Int) := by rw [IntWalk.i64_in _ (by omega)]; omega
          go_wp2_with fail
          refine Hop.out.mono ?_
          rintro e wd ⟨l3, rfl, hl, -⟩
          have Hl := Lib.hid hl
          clear hl Hop
          go_wp2_with fail
          refine (last_is Hl.out hJ.last1).mono ?_
          rintro e we ⟨rfl, hl⟩
          have Hl := Lib.hid hl
          clear hl
          go_wp2_with fail
          refine (Hkn.out we).mono ?_
          rintro e wf ⟨rfl, hb⟩
          have Hb := Lib.hid (below_on Hl.out.bel hb)
          clear hb
          go_wp2_with fail
          go_ret
          exact ⟨rfl, Hb.out⟩
        · by_cases hfar0 : far = 0
          · subst hfar0
            go_wp2_with fail
            refine (last_is Hl.out hJ.last).mono ?_
            rintro e w8 ⟨rfl, hl⟩
            have Hl := Lib.hid hl
            clear hl
            go_wp2_with fail
            refine (last_is Hl.out hJ.last).mono ?_
            rintro e wa ⟨rfl, hl⟩
            have Happ := Lib.hid (app_lit hl #[.int .u8 122] bz rfl (n := 1) (c := 1) rfl (by decide) (1, 2))
            rw [hJ.adds] at Happ
            clear hl Hl
            go_wp2_with fail
            refine Happ.out.mono ?_
            rintro e wb ⟨rfl, hl, -⟩
            have Hcr := Lib.hid (st_crash hl.st 0 (by decide) (by decide))
            clear hl Happ
            go_wp2_with fail
            refine Hcr.out.mono ?_
            rintro e wc ⟨rfl, hd, -⟩
            have Hop := Lib.hid (open_is hd (hJ.again 0))
            clear hd Hcr
            have hplus : IntKind.i64.wrap (((k + 0 : Nat) : Int) + 1) = ((k + 0 + 1 : Nat) : Int) := by rw [IntWalk.i64_in _ (by omega)]; omega
            go_wp2_with fail
            refine Hop.out.mono ?_
            rintro e wd ⟨l3, rfl, hl, -⟩
            have Hl := Lib.hid hl
            clear hl Hop
            go_wp2_with fail
            refine (last_is Hl.out hJ.last1).mono ?_
            rintro e we ⟨rfl, hl⟩
            have Hl := Lib.hid hl
            clear hl
            go_wp2_with fail
            refine (Hkn.out we).mono ?_
            rintro e wf ⟨rfl, hb⟩
            have Hb := Lib.hid (below_on Hl.out.bel hb)
            clear hb
            go_wp2_with fail
            go_ret
            exact ⟨rfl, Hb.out⟩
          · have hne : (((k + far : Nat) : Int) != (k : Int)) = true := by simp; omega
            go_wp2_with fail
            refine (last_is Hl.out hJ.last).mono ?_
            rintro e w8 ⟨rfl, hl⟩
            have Hl := Lib.hid hl
            clear hl
            go_wp2_with fail
            refine (last_is Hl.out hJ.last).mono ?_
            rintro e w9 ⟨rfl, hl⟩
            have Hl := Lib.hid hl
            clear hl
            go_wp2_with fail
            refine (last_is Hl.out hJ.last).mono ?_
            rintro e wa ⟨rfl, hl⟩
            have Happ := Lib.hid (app_lit hl #[.int .u8 122] bz rfl (n := 1) (c := 1) rfl (by decide) (1, 2))
            rw [hJ.adds] at Happ
            clear hl Hl
            go_wp2_with fail
            refine Happ.out.mono ?_
            rintro e wb ⟨rfl, hl, -⟩
            have Hcr := Lib.hid (st_crash hl.st 0 (by decide) (by decide))
            clear hl Happ
            go_wp2_with fail
            refine Hcr.out.mono ?_
            rintro e wc ⟨rfl, hd, -⟩
            have Hop := Lib.hid (open_is hd (hJ.again 0))
            clear hd Hcr
            have hplus : IntKind.i64.wrap (((k + far : Nat) : Int) + 1) = ((k + far + 1 : Nat) : Int) := by rw [IntWalk.i64_in _ (by omega)]; omega
            go_wp2_with fail
            refine Hop.out.mono ?_
            rintro e wd ⟨l3, rfl, hl, -⟩
            have Hl := Lib.hid hl
            clear hl Hop
            go_wp2_with fail
            refine (last_is Hl.out hJ.last1).mono ?_
            rintro e we ⟨rfl, hl⟩
            have Hl := Lib.hid hl
            clear hl
            go_wp2_with fail
            refine (Hkn.out we).mono ?_
            rintro e wf ⟨rfl, hb⟩
            have Hb := Lib.hid (below_on Hl.out.bel hb)
            clear hb
            go_wp2_with fail
            go_ret
            exact ⟨rfl, Hb.out⟩
end Go.Proofs.Yteohbjkjfnflgaa
