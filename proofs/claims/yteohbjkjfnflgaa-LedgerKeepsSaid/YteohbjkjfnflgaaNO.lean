/- The walk of satrapylaw14.LedgerKeeps: it is true. (Printed by mkkeepl.py.) -/
import Derived.Test.YteohbjkjfnflgaaNM
import Derived.Test.YteohbjkjfnflgaaNN
namespace Go.Proofs.Yteohbjkjfnflgaa
open Go.RowKit Go.Sat Go.Maps

theorem at_q {w w1 : World} {l d : Nat} {pre : ByteArray} {D : DiskM} {im : Option (Nat × Bs)} {es : List Bs} {F : Nat → Prop} (h : LedF w w1 l d pre D (MM im es) F) {q : Nat} {b : Bs} (h1 : baseOf im ≤ q) (h2 : es[q - baseOf im]? = some b) :
    Calls Try.prog 18 #[.pointer (some ⟨l, 0, none⟩), .int .i64 ((q : Int) + 1)] w1 fun e w' => ∃ v, e = .returned (.tuple #[v, .int .i64 0]) ∧ HasB w'.drew v b ∧ LedF w w' l d pre D (MM im es) F := by
  have hj := (List.getElem?_eq_some_iff.1 h2)
  obtain ⟨hj, rfl⟩ := hj
  have h1' := at_yes h (q - baseOf im) hj
  rw [show (((MM im es).base + 1 + (q - baseOf im) : Nat) : Int) = (q : Int) + 1 by show ((baseOf im + 1 + (q - baseOf im) : Nat) : Int) = _; omega] at h1'
  refine h1'.mono ?_
  rintro e w' ⟨v, rfl, hv, -, hb⟩
  exact ⟨v, rfl, HasB.same (OwnB.has hv) fun _ _ => rfl, h.next hb⟩

theorem base_is {w w1 : World} {l d : Nat} {pre : ByteArray} {D : DiskM} {im : Option (Nat × Bs)} {es : List Bs} {F : Nat → Prop} (h : LedF w w1 l d pre D (MM im es) F) :
    Calls Try.prog 19 #[.pointer (some ⟨l, 0, none⟩)] w1 fun e w' => ∃ v, e = .returned (.tuple #[.int .i64 (baseOf im : Int), v]) ∧ HasB w' v (dataI im) ∧ LedF w w' l d pre D (MM im es) F := by
  refine (base_calls h).mono ?_
  rintro e w' ⟨v, rfl, hv, -, hb⟩
  exact ⟨v, rfl, OwnB.has hv, h.next hb⟩

set_option maxRecDepth 100000 in
set_option maxHeartbeats 32000000 in
theorem lkeeps_walk {w : World} {p : Option Addr} {n c : Nat} {ls : List Bs} (hx : RowsAt w (.slice p n c) ls) (hn : n ≤ 140737488355328) (hrow : ∀ l ∈ ls, l.length ≤ 140737488355328) (fu dr : Int) (im : Bool)
    (hf : -9223372036854775808 ≤ fu) (hf' : fu ≤ 9223372036854775807) (hd : -9223372036854775808 ≤ dr) (hd' : dr ≤ 9223372036854775807) :
    Calls Try.prog 7 #[.slice p n c, .int .i64 fu, .int .i64 dr, .bool im] w (True3 w) := by
  have hnl := RowsAt.len hx
  have Hf := Lib.hid (show True3 w (.returned (.bool true)) w from ⟨rfl, Below.refl _ _⟩)
  have Hx := Lib.hid hx
  have Hrow := Lib.hid hrow
  have Hnl := Lib.hid hnl
  clear hx hrow hnl
  by_cases h30 : 30 < n
  · go_enter Try.func7, Try.ntmps7
    go_wp2_with fail
    go_ret
    exact Hf.out
  by_cases hf0 : fu < 0
  · go_enter Try.func7, Try.ntmps7
    go_wp2_with fail
    go_ret
    exact Hf.out
  by_cases hf100 : 100 < fu
  · go_enter Try.func7, Try.ntmps7
    go_wp2_with fail
    go_ret
    exact Hf.out
  obtain ⟨f, rfl⟩ : ∃ k : Nat, fu = (k : Int) := ⟨fu.toNat, by omega⟩
  have hf101 : f ≤ 100 := by omega
  clear hf hf' hf0
  go_enter Try.func7, Try.ntmps7
  go_wp2_with fail
  go_loop [9, 10] (fun a i => ∃ k : Nat, k ≤ n ∧ i = .int .i64 k ∧ a = .int .i64 (((ls.take k).flatten.length : Nat) : Int) ∧ (ls.take k).flatten.length ≤ 2000 * k) (fun _ i => n - (intOf i).toNat)
  case atStart => exact ⟨0, Nat.zero_le _, rfl, rfl, by simp⟩
  case round =>
    obtain ⟨k, hk, rfl, rfl, hck⟩ := hrel
    by_cases hlt : k < n
    · have hltl : k < ls.length := by rw [← Hnl.out]; exact hlt
      obtain ⟨-, b, o, v, rfl, hcell, hv⟩ := RowsAt.row Hx.out hltl
      have hct := flat_take hltl
      have hrl := Hrow.out _ (List.getElem_mem hltl)
      obtain ⟨pv, cv, rfl⟩ := hv.slice
      have Hct := Lib.hid (show (ls.take (k + 1)).flatten.length = (ls.take k).flatten.length + ls[k].length by rw [hct, List.length_append])
      clear hv hct
      generalize hm : ls[k].length = m at *
      generalize hC : (ls.take k).flatten.length = C at *
      have HC := Lib.hid hC
      have Hm := Lib.hid hm
      clear hC hm
      by_cases hm2 : 2000 < m
      · go_wp2_with fail
        go_ret
        exact Hf.out
      · go_wp2_with fail
        go_round
        case rel => exact ⟨k + 1, by omega, by go_num, by rw [Hct.out]; go_num, by rw [Hct.out]; omega⟩
        case measure => simp [intOf]; omega
    · have hls : ls.take k = ls := List.take_of_length_le (by have := Hnl.out; omega)
      rw [hls] at hck ⊢
      have hkn : k = n := by omega
      have H14 := Lib.hid (fun h : ls.flatten.length ≤ 2000 => (⟨by have := Hnl.out; omega, h⟩ : Rows14 ls))
      generalize hC : ls.flatten.length = C at *
      by_cases h2000 : 2000 < C
      · go_wp2_with fail
        go_ret
        exact Hf.out
      · have h14 := H14.out (by omega)
        have Hnew := Lib.hid (st_new (w := w) (w1 := w) 65536 (by decide) (by decide) (Below.refl _ _))
        have kc := fun (w : World) (C : Array Value) (n c : Nat) => Lib.run_convert_bytes_const (P := Try.prog) w 33 5 C n c Try.underlying33 Try.underlying5
        clear H14 hls hck hkn hC
        go_wp2_with fail
        refine Hnew.out.mono ?_
        rintro e w1 ⟨d, rfl, hd1⟩
        have Hop := Lib.hid (open_is (D := DiskM.fresh 65536) hd1 open_fresh)
        clear hd1 Hnew
        go_wp2_with fail
        refine Hop.out.mono ?_
        rintro e w2 ⟨l, rfl, hl, -⟩
        have Hfu := Lib.hid (led_fuse hl (f : Int) (by omega) (by omega))
        rw [set_s] at Hfu
        clear hl Hop
        go_wp2_with fail
        refine Hfu.out.mono ?_
        rintro e w3 ⟨rfl, hl, -⟩
        have Hl := Lib.hid hl
        clear hl Hfu
        go_wp2_with fail
        go_loopw [15, 16] (fun s i wr => ∃ k : Nat, k ≤ n ∧ i = .int .i64 k ∧ s = .int .i64 k ∧ 2 * k ≤ f ∧ LedF w wr l d sA (sD none (ls.take k) (some (f - 2 * k))) (MM none (ls.take k)) NoF) (fun _ i _ => n - (intOf i).toNat)
        case atStart => exact ⟨0, Nat.zero_le _, rfl, rfl, Nat.zero_le _, Hl.out⟩
        case round =>
          clear Hl hlt
          obtain ⟨k, hk, rfl, rfl, hkf, hled⟩ := hrel
          by_cases hlt : k < n
          · have hltl : k < ls.length := by rw [← Hnl.out]; exact hlt
            obtain ⟨-, b, o, v, rfl, hcell, hv⟩ := RowsAt.row Hx.out hltl
            have hcell2 := (hled.bel.cell (World.block_lt_of_cell? w _ hcell)).trans hcell
            obtain ⟨pv, cv, rfl⟩ := hv.slice
            have happ := app_arg hled hv (Hrow.out _ (List.getElem_mem hltl))
            by_cases hfz : f - 2 * k < 2
            · obtain ⟨D', hap, hJ0⟩ := app_burnt h14 hltl hfz dr
              rw [hap] at happ
              generalize hml : ls[k].length = ml at *
              have Happ := Lib.hid happ
              have HKk := Lib.hid (show k ≤ ls.length by omega)
              have HJ := Lib.hid (hJ0 im)
              clear happ hv hled hml hcell hJ0 hap hfz
              go_wp2_with fail
              refine Happ.out.mono ?_
              rintro e w4 ⟨rfl, hl4, -⟩
              have Hl4 := Lib.hid hl4
              clear hl4 Happ
              have hmk : max (k : Int) (k : Int) = (k : Int) := Int.max_self _
              cases im with
              | false =>
                have hst := Hl4.out.st
                obtain ⟨hJ⟩ := HJ.out
                have Hcr := Lib.hid (st_crash hst dr hd hd')
                clear hst
                go_wp2_with fail
                refine Hcr.out.mono ?_
                rintro e wc ⟨rfl, hdc, -⟩
                have Hop := Lib.hid (open_is hdc hJ.opens)
                clear hdc Hcr
                go_wp2_with fail
                refine Hop.out.mono ?_
                rintro e wd ⟨l2, rfl, hlx, -⟩
                have Hl := Lib.hid hlx
                clear hlx Hop
                have hlo := hJ.lo
                have hhi := hJ.hi
                have hlen := hJ.len
                have himg := hJ.img
                have hwr := hJ.wr
                have hbase := hJ.base
                have hent := hJ.ent
                obtain ⟨L, hL⟩ : ∃ L, (MM hJ.im hJ.es).last = L := ⟨_, rfl⟩
                obtain ⟨A, hA⟩ : ∃ A, baseOf hJ.im = A := ⟨_, rfl⟩
                rw [hL] at hlo hhi hlen hbase hent
                rw [hA] at himg hwr hbase
                have HL := Lib.hid hL
                have HA := Lib.hid hA
                have Himg := Lib.hid himg
                have Hwr := Lib.hid hwr
                have Hent := Lib.hid hent
                have Hlen := Lib.hid hlen
                have hk30 : k ≤ 30 := by omega
                clear hL hA himg hwr hent hlen
                go_wp2_with fail
                refine (last_is Hl.out HL.out).mono ?_
                rintro e we ⟨rfl, hlx⟩
                have Hl := Lib.hid hlx
                clear hlx
                go_wp2_with fail
                refine (last_is Hl.out HL.out).mono ?_
                rintro e wf ⟨rfl, hlx⟩
                have hba := base_is hlx
                rw [HA.out] at hba
                have Hba := Lib.hid hba
                clear hlx hba
                go_wp2_with fail
                refine Hba.out.mono ?_
                rintro e wg ⟨vb, rfl, hvb, hlx⟩
                have Hl := Lib.hid hlx
                have Hvb := Lib.hid hvb
                clear hlx hvb Hba
                by_cases hA0 : A = 0
                · subst hA0
                  have hk0 := True.intro
                  go_wp2_with fail
                  go_loopw [23] (fun x wr => ∃ q : Nat, 0 ≤ q ∧ q ≤ L ∧ x = .int .i64 ((q : Int) + 1) ∧ LedF w wr l2 d sA (sD hJ.im hJ.es none) (MM hJ.im hJ.es) NoF) (fun x _ => L + 1 - (intOf x).toNat)
                  case atStart => exact ⟨0, Nat.le_refl _, hbase, by first | rfl | go_num, Hl.out⟩
                  case round =>
                    clear Hl
                    obtain ⟨q, hq, hqL, rfl, hr⟩ := hrel
                    have Hr := Lib.hid hr
                    clear hr
                    go_wp2_with fail
                    refine (last_is Hr.out HL.out).mono ?_
                    rintro e wh ⟨rfl, hlx⟩
                    have Hr := Lib.hid hlx
                    clear hlx
                    by_cases hqn : q < L
                    · have hqls : q < ls.length := by have := Hlen.out; omega
                      have hqk : q < n := by have := Hnl.out; omega
                      obtain ⟨-, b, o, v, hpe, hcell, hv⟩ := RowsAt.row Hx.out hqls
                      cases hpe
                      obtain ⟨pv, cv, rfl⟩ := hv.slice
                      have hat := at_q Hr.out (q := q) (b := ls[q]) (by rw [HA.out]; exact hq) (Hent.out q hqls (by rw [HA.out]; exact hq) hqn)
                      have Hat := Lib.hid hat
                      have Hcell := Lib.hid hcell
                      have Hv := Lib.hid hv
                      generalize ls[q].length = ml at *
                      clear hat hcell hv Hr
                      go_wp2_with fail
                      refine Hat.out.mono ?_
                      rintro e w6 ⟨v6, rfl, hv6, hl6⟩
                      have hb6 : Below w.heap.size w w6.drew := (hl6.next (below_drew w6)).bel
                      have hcell6 := (hb6.cell (World.block_lt_of_cell? w _ Hcell.out)).trans Hcell.out
                      have hcv1 := conv_str (P := Try.prog) (W := w6.drew) (dst := 9) Try.underlying33 Try.underlying5 Try.underlying9 hv6
                      have hcv2 := conv_str (P := Try.prog) (W := w6.drew) (dst := 9) Try.underlying33 Try.underlying5 Try.underlying9 (HasB.old Hv.out hb6)
                      have Hl6 := Lib.hid (hl6.next (below_drew w6))
                      have hq30 : q ≤ 40 := by omega
                      have hwj : IntKind.i64.wrap (q : Int) = (q : Int) := IntWalk.i64_in _ (by omega)
                      clear hv6 hl6 hb6 Hat
                      generalize ls[q].toArray = sj at *
                      go_wp2_with fail
                      refine ord_start (fun W' : World => W' = w6.drew) (n := 13) (by kernel_rfl) rfl rfl (fun hHeld => ?_)
                      refine ord_take 0 (v := ?v701x0) rfl (by kernel_rfl) (by kernel_rfl) (by kernel_rfl) (fun _ _ _ h => h) (by rfl) (by assumption) ?y701x0 ?_
                      case y701x0 => (intro W hSw; (try dsimp only at hSw); subst hSw; go_simp; try with_reducible rfl)
                      simp only [Act.put, List.setIfInBounds_toArray, List.set_cons_zero, List.set_cons_succ]
                      refine ord_take 1 (v := ?v701x1) rfl (by kernel_rfl) (by kernel_rfl) (by kernel_rfl) (fun _ _ _ h => h) (by rfl) (by assumption) ?y701x1 ?_
                      case y701x1 => (intro W hSw; (try dsimp only at hSw); subst hSw; go_simp; try with_reducible rfl)
                      simp only [Act.put, List.setIfInBounds_toArray, List.set_cons_zero, List.set_cons_succ]
                      refine ord_take 2 (v := ?v701x2) rfl (by kernel_rfl) (by kernel_rfl) (by kernel_rfl) (fun _ _ _ h => h) (by rfl) (by assumption) ?y701x2 ?_
                      case y701x2 => (intro W hSw; (try dsimp only at hSw); subst hSw; go_simp; try with_reducible rfl)
                      simp only [Act.put, List.setIfInBounds_toArray, List.set_cons_zero, List.set_cons_succ]
                      refine ord_take 3 (v := ?v701x3) rfl (by kernel_rfl) (by kernel_rfl) (by kernel_rfl) (fun _ _ _ h => h) (by rfl) (by assumption) ?y701x3 ?_
                      case y701x3 => (intro W hSw; (try dsimp only at hSw); subst hSw; go_simp; try with_reducible rfl)
                      simp only [Act.put, List.setIfInBounds_toArray, List.set_cons_zero, List.set_cons_succ]
                      refine ord_take 4 (v := ?v701x4) rfl (by kernel_rfl) (by kernel_rfl) (by kernel_rfl) (fun _ _ _ h => h) (by rfl) (by assumption) ?y701x4 ?_
                      case y701x4 => (intro W hSw; (try dsimp only at hSw); subst hSw; go_simp; try with_reducible rfl)
                      simp only [Act.put, List.setIfInBounds_toArray, List.set_cons_zero, List.set_cons_succ]
                      refine ord_take 5 (v := ?v701x5) rfl (by kernel_rfl) (by kernel_rfl) (by kernel_rfl) (fun _ _ _ h => h) (by rfl) (by assumption) ?y701x5 ?_
                      case y701x5 => (intro W hSw; (try dsimp only at hSw); subst hSw; go_simp; try with_reducible rfl)
                      simp only [Act.put, List.setIfInBounds_toArray, List.set_cons_zero, List.set_cons_succ]
                      refine ord_take 6 (v := ?v701x6) rfl (by kernel_rfl) (by kernel_rfl) (by kernel_rfl) (fun _ _ _ h => h) (by rfl) (by assumption) ?y701x6 ?_
                      case y701x6 => (intro W hSw; (try dsimp only at hSw); subst hSw; go_simp; try with_reducible rfl)
                      simp only [Act.put, List.setIfInBounds_toArray, List.set_cons_zero, List.set_cons_succ]
                      refine ord_take 7 (v := ?v701x7) rfl (by kernel_rfl) (by kernel_rfl) (by kernel_rfl) (fun _ _ _ h => h) (by rfl) (by assumption) ?y701x7 ?_
                      case y701x7 => (intro W hSw; (try dsimp only at hSw); subst hSw; go_simp; try with_reducible rfl)
                      simp only [Act.put, List.setIfInBounds_toArray, List.set_cons_zero, List.set_cons_succ]
                      refine ord_take 8 (v := ?v701x8) rfl (by kernel_rfl) (by kernel_rfl) (by kernel_rfl) (fun _ _ _ h => h) (by rfl) (by assumption) ?y701x8 ?_
                      case y701x8 => (intro W hSw; (try dsimp only at hSw); subst hSw; go_simp; try with_reducible rfl)
                      simp only [Act.put, List.setIfInBounds_toArray, List.set_cons_zero, List.set_cons_succ]
                      refine ord_take 9 (v := ?v701x9) rfl (by kernel_rfl) (by kernel_rfl) (by kernel_rfl) (fun _ _ _ h => h) (by rfl) (by assumption) ?y701x9 ?_
                      case y701x9 => (intro W hSw; (try dsimp only at hSw); subst hSw; go_simp; try with_reducible rfl)
                      simp only [Act.put, List.setIfInBounds_toArray, List.set_cons_zero, List.set_cons_succ]
                      refine ord_take 10 (v := ?v701x10) rfl (by kernel_rfl) (by kernel_rfl) (by kernel_rfl) (fun _ _ _ h => h) (by rfl) (by assumption) ?y701x10 ?_
                      case y701x10 => (intro W hSw; (try dsimp only at hSw); subst hSw; go_simp; try with_reducible rfl)
                      simp only [Act.put, List.setIfInBounds_toArray, List.set_cons_zero, List.set_cons_succ]
                      refine ord_take 11 (v := ?v701x11) rfl (by kernel_rfl) (by kernel_rfl) (by kernel_rfl) (fun _ _ _ h => h) (by rfl) (by assumption) ?y701x11 ?_
                      case y701x11 => (intro W hSw; (try dsimp only at hSw); subst hSw; go_simp; try with_reducible rfl)
                      simp only [Act.put, List.setIfInBounds_toArray, List.set_cons_zero, List.set_cons_succ]
                      refine ord_take 12 (v := ?v701x12) rfl (by kernel_rfl) (by kernel_rfl) (by kernel_rfl) (fun _ _ _ h => h) (by rfl) (by assumption) ?y701x12 ?_
                      case y701x12 => (intro W hSw; (try dsimp only at hSw); subst hSw; go_simp; try with_reducible rfl)
                      simp only [Act.put, List.setIfInBounds_toArray, List.set_cons_zero, List.set_cons_succ]
                      refine wpAnyH_done (by kernel_rfl) ?_ _
                      go_wp2_with fail
                      go_roundw
                      case rel => exact ⟨q + 1, by omega, by omega, by go_num, Hl6.out⟩
                      case measure => simp [intOf]; omega
                    · go_wp2_with fail
                      refine (knownL_calls wh).mono ?_
                      rintro e wi ⟨rfl, hb⟩
                      have Hb := Lib.hid (below_on Hr.out.bel hb)
                      clear hb
                      go_wp2_with fail
                      go_ret
                      exact ⟨rfl, Hb.out⟩
                · have h5 := Himg.out (by omega)
                  exact absurd h5.1 (by decide)
              | true =>
                go_wp2_with fail
                refine (last_is Hl4.out (last_die HKk.out)).mono ?_
                rintro e w5 ⟨rfl, hl5⟩
                have hw := wri_lit hl5 (k : Int) (by omega) #[.int .u8 105, .int .u8 109, .int .u8 97, .int .u8 103, .int .u8 101] bimg rfl (n := 5) (c := 5) rfl (by decide) (5, 6)
                rw [wri_die] at hw
                have Hw := Lib.hid hw
                clear hl5 hw
                go_wp2_with fail
                refine Hw.out.mono ?_
                rintro e w6 ⟨rfl, hl6, -⟩
                have hst := hl6.st
                obtain ⟨hJ⟩ := HJ.out
                clear Hw hl6
                have Hcr := Lib.hid (st_crash hst dr hd hd')
                clear hst
                go_wp2_with fail
                refine Hcr.out.mono ?_
                rintro e wc ⟨rfl, hdc, -⟩
                have Hop := Lib.hid (open_is hdc hJ.opens)
                clear hdc Hcr
                go_wp2_with fail
                refine Hop.out.mono ?_
                rintro e wd ⟨l2, rfl, hlx, -⟩
                have Hl := Lib.hid hlx
                clear hlx Hop
                have hlo := hJ.lo
                have hhi := hJ.hi
                have hlen := hJ.len
                have himg := hJ.img
                have hwr := hJ.wr
                have hbase := hJ.base
                have hent := hJ.ent
                obtain ⟨L, hL⟩ : ∃ L, (MM hJ.im hJ.es).last = L := ⟨_, rfl⟩
                obtain ⟨A, hA⟩ : ∃ A, baseOf hJ.im = A := ⟨_, rfl⟩
                rw [hL] at hlo hhi hlen hbase hent
                rw [hA] at himg hwr hbase
                have HL := Lib.hid hL
                have HA := Lib.hid hA
                have Himg := Lib.hid himg
                have Hwr := Lib.hid hwr
                have Hent := Lib.hid hent
                have Hlen := Lib.hid hlen
                have hk30 : k ≤ 30 := by omega
                clear hL hA himg hwr hent hlen
                go_wp2_with fail
                refine (last_is Hl.out HL.out).mono ?_
                rintro e we ⟨rfl, hlx⟩
                have Hl := Lib.hid hlx
                clear hlx
                go_wp2_with fail
                refine (last_is Hl.out HL.out).mono ?_
                rintro e wf ⟨rfl, hlx⟩
                have hba := base_is hlx
                rw [HA.out] at hba
                have Hba := Lib.hid hba
                clear hlx hba
                go_wp2_with fail
                refine Hba.out.mono ?_
                rintro e wg ⟨vb, rfl, hvb, hlx⟩
                have Hl := Lib.hid hlx
                have Hvb := Lib.hid hvb
                clear hlx hvb Hba
                by_cases hA0 : A = 0
                · subst hA0
                  have hk0 := True.intro
                  go_wp2_with fail
                  go_loopw [23] (fun x wr => ∃ q : Nat, 0 ≤ q ∧ q ≤ L ∧ x = .int .i64 ((q : Int) + 1) ∧ LedF w wr l2 d sA (sD hJ.im hJ.es none) (MM hJ.im hJ.es) NoF) (fun x _ => L + 1 - (intOf x).toNat)
                  case atStart => exact ⟨0, Nat.le_refl _, hbase, by first | rfl | go_num, Hl.out⟩
                  case round =>
                    clear Hl
                    obtain ⟨q, hq, hqL, rfl, hr⟩ := hrel
                    have Hr := Lib.hid hr
                    clear hr
                    go_wp2_with fail
                    refine (last_is Hr.out HL.out).mono ?_
                    rintro e wh ⟨rfl, hlx⟩
                    have Hr := Lib.hid hlx
                    clear hlx
                    by_cases hqn : q < L
                    · have hqls : q < ls.length := by have := Hlen.out; omega
                      have hqk : q < n := by have := Hnl.out; omega
                      obtain ⟨-, b, o, v, hpe, hcell, hv⟩ := RowsAt.row Hx.out hqls
                      cases hpe
                      obtain ⟨pv, cv, rfl⟩ := hv.slice
                      have hat := at_q Hr.out (q := q) (b := ls[q]) (by rw [HA.out]; exact hq) (Hent.out q hqls (by rw [HA.out]; exact hq) hqn)
                      have Hat := Lib.hid hat
                      have Hcell := Lib.hid hcell
                      have Hv := Lib.hid hv
                      generalize ls[q].length = ml at *
                      clear hat hcell hv Hr
                      go_wp2_with fail
                      refine Hat.out.mono ?_
                      rintro e w6 ⟨v6, rfl, hv6, hl6⟩
                      have hb6 : Below w.heap.size w w6.drew := (hl6.next (below_drew w6)).bel
                      have hcell6 := (hb6.cell (World.block_lt_of_cell? w _ Hcell.out)).trans Hcell.out
                      have hcv1 := conv_str (P := Try.prog) (W := w6.drew) (dst := 9) Try.underlying33 Try.underlying5 Try.underlying9 hv6
                      have hcv2 := conv_str (P := Try.prog) (W := w6.drew) (dst := 9) Try.underlying33 Try.underlying5 Try.underlying9 (HasB.old Hv.out hb6)
                      have Hl6 := Lib.hid (hl6.next (below_drew w6))
                      have hq30 : q ≤ 40 := by omega
                      have hwj : IntKind.i64.wrap (q : Int) = (q : Int) := IntWalk.i64_in _ (by omega)
                      clear hv6 hl6 hb6 Hat
                      generalize ls[q].toArray = sj at *
                      go_wp2_with fail
                      refine ord_start (fun W' : World => W' = w6.drew) (n := 13) (by kernel_rfl) rfl rfl (fun hHeld => ?_)
                      refine ord_take 0 (v := ?v702x0) rfl (by kernel_rfl) (by kernel_rfl) (by kernel_rfl) (fun _ _ _ h => h) (by rfl) (by assumption) ?y702x0 ?_
                      case y702x0 => (intro W hSw; (try dsimp only at hSw); subst hSw; go_simp; try with_reducible rfl)
                      simp only [Act.put, List.setIfInBounds_toArray, List.set_cons_zero, List.set_cons_succ]
                      refine ord_take 1 (v := ?v702x1) rfl (by kernel_rfl) (by kernel_rfl) (by kernel_rfl) (fun _ _ _ h => h) (by rfl) (by assumption) ?y702x1 ?_
                      case y702x1 => (intro W hSw; (try dsimp only at hSw); subst hSw; go_simp; try with_reducible rfl)
                      simp only [Act.put, List.setIfInBounds_toArray, List.set_cons_zero, List.set_cons_succ]
                      refine ord_take 2 (v := ?v702x2) rfl (by kernel_rfl) (by kernel_rfl) (by kernel_rfl) (fun _ _ _ h => h) (by rfl) (by assumption) ?y702x2 ?_
                      case y702x2 => (intro W hSw; (try dsimp only at hSw); subst hSw; go_simp; try with_reducible rfl)
                      simp only [Act.put, List.setIfInBounds_toArray, List.set_cons_zero, List.set_cons_succ]
                      refine ord_take 3 (v := ?v702x3) rfl (by kernel_rfl) (by kernel_rfl) (by kernel_rfl) (fun _ _ _ h => h) (by rfl) (by assumption) ?y702x3 ?_
                      case y702x3 => (intro W hSw; (try dsimp only at hSw); subst hSw; go_simp; try with_reducible rfl)
                      simp only [Act.put, List.setIfInBounds_toArray, List.set_cons_zero, List.set_cons_succ]
                      refine ord_take 4 (v := ?v702x4) rfl (by kernel_rfl) (by kernel_rfl) (by kernel_rfl) (fun _ _ _ h => h) (by rfl) (by assumption) ?y702x4 ?_
                      case y702x4 => (intro W hSw; (try dsimp only at hSw); subst hSw; go_simp; try with_reducible rfl)
                      simp only [Act.put, List.setIfInBounds_toArray, List.set_cons_zero, List.set_cons_succ]
                      refine ord_take 5 (v := ?v702x5) rfl (by kernel_rfl) (by kernel_rfl) (by kernel_rfl) (fun _ _ _ h => h) (by rfl) (by assumption) ?y702x5 ?_
                      case y702x5 => (intro W hSw; (try dsimp only at hSw); subst hSw; go_simp; try with_reducible rfl)
                      simp only [Act.put, List.setIfInBounds_toArray, List.set_cons_zero, List.set_cons_succ]
                      refine ord_take 6 (v := ?v702x6) rfl (by kernel_rfl) (by kernel_rfl) (by kernel_rfl) (fun _ _ _ h => h) (by rfl) (by assumption) ?y702x6 ?_
                      case y702x6 => (intro W hSw; (try dsimp only at hSw); subst hSw; go_simp; try with_reducible rfl)
                      simp only [Act.put, List.setIfInBounds_toArray, List.set_cons_zero, List.set_cons_succ]
                      refine ord_take 7 (v := ?v702x7) rfl (by kernel_rfl) (by kernel_rfl) (by kernel_rfl) (fun _ _ _ h => h) (by rfl) (by assumption) ?y702x7 ?_
                      case y702x7 => (intro W hSw; (try dsimp only at hSw); subst hSw; go_simp; try with_reducible rfl)
                      simp only [Act.put, List.setIfInBounds_toArray, List.set_cons_zero, List.set_cons_succ]
                      refine ord_take 8 (v := ?v702x8) rfl (by kernel_rfl) (by kernel_rfl) (by kernel_rfl) (fun _ _ _ h => h) (by rfl) (by assumption) ?y702x8 ?_
                      case y702x8 => (intro W hSw; (try dsimp only at hSw); subst hSw; go_simp; try with_reducible rfl)
                      simp only [Act.put, List.setIfInBounds_toArray, List.set_cons_zero, List.set_cons_succ]
                      refine ord_take 9 (v := ?v702x9) rfl (by kernel_rfl) (by kernel_rfl) (by kernel_rfl) (fun _ _ _ h => h) (by rfl) (by assumption) ?y702x9 ?_
                      case y702x9 => (intro W hSw; (try dsimp only at hSw); subst hSw; go_simp; try with_reducible rfl)
                      simp only [Act.put, List.setIfInBounds_toArray, List.set_cons_zero, List.set_cons_succ]
                      refine ord_take 10 (v := ?v702x10) rfl (by kernel_rfl) (by kernel_rfl) (by kernel_rfl) (fun _ _ _ h => h) (by rfl) (by assumption) ?y702x10 ?_
                      case y702x10 => (intro W hSw; (try dsimp only at hSw); subst hSw; go_simp; try with_reducible rfl)
                      simp only [Act.put, List.setIfInBounds_toArray, List.set_cons_zero, List.set_cons_succ]
                      refine ord_take 11 (v := ?v702x11) rfl (by kernel_rfl) (by kernel_rfl) (by kernel_rfl) (fun _ _ _ h => h) (by rfl) (by assumption) ?y702x11 ?_
                      case y702x11 => (intro W hSw; (try dsimp only at hSw); subst hSw; go_simp; try with_reducible rfl)
                      simp only [Act.put, List.setIfInBounds_toArray, List.set_cons_zero, List.set_cons_succ]
                      refine ord_take 12 (v := ?v702x12) rfl (by kernel_rfl) (by kernel_rfl) (by kernel_rfl) (fun _ _ _ h => h) (by rfl) (by assumption) ?y702x12 ?_
                      case y702x12 => (intro W hSw; (try dsimp only at hSw); subst hSw; go_simp; try with_reducible rfl)
                      simp only [Act.put, List.setIfInBounds_toArray, List.set_cons_zero, List.set_cons_succ]
                      refine wpAnyH_done (by kernel_rfl) ?_ _
                      go_wp2_with fail
                      go_roundw
                      case rel => exact ⟨q + 1, by omega, by omega, by go_num, Hl6.out⟩
                      case measure => simp [intOf]; omega
                    · go_wp2_with fail
                      refine (knownL_calls wh).mono ?_
                      rintro e wi ⟨rfl, hb⟩
                      have Hb := Lib.hid (below_on Hr.out.bel hb)
                      clear hb
                      go_wp2_with fail
                      go_ret
                      exact ⟨rfl, Hb.out⟩
                · have h5 := Himg.out (by omega)
                  have hd5 : dataI hJ.im = bimg := h5.2.1
                  have hkA : k ≤ A := h5.2.2
                  have hvb := Hvb.out
                  rw [hd5] at hvb
                  have hcv0 : (convert 33 9 vb).run Try.prog wg = .ok (.string ⟨#[105, 109, 97, 103, 101]⟩) wg := conv_str (P := Try.prog) (W := wg) (dst := 9) Try.underlying33 Try.underlying5 Try.underlying9 hvb
                  clear h5 hd5 hvb
                  have hA30 : A ≤ 40 := by omega
                  have hAp : 0 < A := by omega
                  go_wp2_with fail
                  go_loopw [23] (fun x wr => ∃ q : Nat, A ≤ q ∧ q ≤ L ∧ x = .int .i64 ((q : Int) + 1) ∧ LedF w wr l2 d sA (sD hJ.im hJ.es none) (MM hJ.im hJ.es) NoF) (fun x _ => L + 1 - (intOf x).toNat)
                  case atStart => exact ⟨A, Nat.le_refl _, hbase, by first | rfl | go_num, Hl.out⟩
                  case round =>
                    clear Hl
                    obtain ⟨q, hq, hqL, rfl, hr⟩ := hrel
                    have Hr := Lib.hid hr
                    clear hr
                    go_wp2_with fail
                    refine (last_is Hr.out HL.out).mono ?_
                    rintro e wh ⟨rfl, hlx⟩
                    have Hr := Lib.hid hlx
                    clear hlx
                    by_cases hqn : q < L
                    · have hqls : q < ls.length := by have := Hlen.out; omega
                      have hqk : q < n := by have := Hnl.out; omega
                      obtain ⟨-, b, o, v, hpe, hcell, hv⟩ := RowsAt.row Hx.out hqls
                      cases hpe
                      obtain ⟨pv, cv, rfl⟩ := hv.slice
                      have hat := at_q Hr.out (q := q) (b := ls[q]) (by rw [HA.out]; exact hq) (Hent.out q hqls (by rw [HA.out]; exact hq) hqn)
                      have Hat := Lib.hid hat
                      have Hcell := Lib.hid hcell
                      have Hv := Lib.hid hv
                      generalize ls[q].length = ml at *
                      clear hat hcell hv Hr
                      go_wp2_with fail
                      refine Hat.out.mono ?_
                      rintro e w6 ⟨v6, rfl, hv6, hl6⟩
                      have hb6 : Below w.heap.size w w6.drew := (hl6.next (below_drew w6)).bel
                      have hcell6 := (hb6.cell (World.block_lt_of_cell? w _ Hcell.out)).trans Hcell.out
                      have hcv1 := conv_str (P := Try.prog) (W := w6.drew) (dst := 9) Try.underlying33 Try.underlying5 Try.underlying9 hv6
                      have hcv2 := conv_str (P := Try.prog) (W := w6.drew) (dst := 9) Try.underlying33 Try.underlying5 Try.underlying9 (HasB.old Hv.out hb6)
                      have Hl6 := Lib.hid (hl6.next (below_drew w6))
                      have hq30 : q ≤ 40 := by omega
                      have hwj : IntKind.i64.wrap (q : Int) = (q : Int) := IntWalk.i64_in _ (by omega)
                      clear hv6 hl6 hb6 Hat
                      generalize ls[q].toArray = sj at *
                      go_wp2_with fail
                      refine ord_start (fun W' : World => W' = w6.drew) (n := 13) (by kernel_rfl) rfl rfl (fun hHeld => ?_)
                      refine ord_take 0 (v := ?v703x0) rfl (by kernel_rfl) (by kernel_rfl) (by kernel_rfl) (fun _ _ _ h => h) (by rfl) (by assumption) ?y703x0 ?_
                      case y703x0 => (intro W hSw; (try dsimp only at hSw); subst hSw; go_simp; try with_reducible rfl)
                      simp only [Act.put, List.setIfInBounds_toArray, List.set_cons_zero, List.set_cons_succ]
                      refine ord_take 1 (v := ?v703x1) rfl (by kernel_rfl) (by kernel_rfl) (by kernel_rfl) (fun _ _ _ h => h) (by rfl) (by assumption) ?y703x1 ?_
                      case y703x1 => (intro W hSw; (try dsimp only at hSw); subst hSw; go_simp; try with_reducible rfl)
                      simp only [Act.put, List.setIfInBounds_toArray, List.set_cons_zero, List.set_cons_succ]
                      refine ord_take 2 (v := ?v703x2) rfl (by kernel_rfl) (by kernel_rfl) (by kernel_rfl) (fun _ _ _ h => h) (by rfl) (by assumption) ?y703x2 ?_
                      case y703x2 => (intro W hSw; (try dsimp only at hSw); subst hSw; go_simp; try with_reducible rfl)
                      simp only [Act.put, List.setIfInBounds_toArray, List.set_cons_zero, List.set_cons_succ]
                      refine ord_take 3 (v := ?v703x3) rfl (by kernel_rfl) (by kernel_rfl) (by kernel_rfl) (fun _ _ _ h => h) (by rfl) (by assumption) ?y703x3 ?_
                      case y703x3 => (intro W hSw; (try dsimp only at hSw); subst hSw; go_simp; try with_reducible rfl)
                      simp only [Act.put, List.setIfInBounds_toArray, List.set_cons_zero, List.set_cons_succ]
                      refine ord_take 4 (v := ?v703x4) rfl (by kernel_rfl) (by kernel_rfl) (by kernel_rfl) (fun _ _ _ h => h) (by rfl) (by assumption) ?y703x4 ?_
                      case y703x4 => (intro W hSw; (try dsimp only at hSw); subst hSw; go_simp; try with_reducible rfl)
                      simp only [Act.put, List.setIfInBounds_toArray, List.set_cons_zero, List.set_cons_succ]
                      refine ord_take 5 (v := ?v703x5) rfl (by kernel_rfl) (by kernel_rfl) (by kernel_rfl) (fun _ _ _ h => h) (by rfl) (by assumption) ?y703x5 ?_
                      case y703x5 => (intro W hSw; (try dsimp only at hSw); subst hSw; go_simp; try with_reducible rfl)
                      simp only [Act.put, List.setIfInBounds_toArray, List.set_cons_zero, List.set_cons_succ]
                      refine ord_take 6 (v := ?v703x6) rfl (by kernel_rfl) (by kernel_rfl) (by kernel_rfl) (fun _ _ _ h => h) (by rfl) (by assumption) ?y703x6 ?_
                      case y703x6 => (intro W hSw; (try dsimp only at hSw); subst hSw; go_simp; try with_reducible rfl)
                      simp only [Act.put, List.setIfInBounds_toArray, List.set_cons_zero, List.set_cons_succ]
                      refine ord_take 7 (v := ?v703x7) rfl (by kernel_rfl) (by kernel_rfl) (by kernel_rfl) (fun _ _ _ h => h) (by rfl) (by assumption) ?y703x7 ?_
                      case y703x7 => (intro W hSw; (try dsimp only at hSw); subst hSw; go_simp; try with_reducible rfl)
                      simp only [Act.put, List.setIfInBounds_toArray, List.set_cons_zero, List.set_cons_succ]
                      refine ord_take 8 (v := ?v703x8) rfl (by kernel_rfl) (by kernel_rfl) (by kernel_rfl) (fun _ _ _ h => h) (by rfl) (by assumption) ?y703x8 ?_
                      case y703x8 => (intro W hSw; (try dsimp only at hSw); subst hSw; go_simp; try with_reducible rfl)
                      simp only [Act.put, List.setIfInBounds_toArray, List.set_cons_zero, List.set_cons_succ]
                      refine ord_take 9 (v := ?v703x9) rfl (by kernel_rfl) (by kernel_rfl) (by kernel_rfl) (fun _ _ _ h => h) (by rfl) (by assumption) ?y703x9 ?_
                      case y703x9 => (intro W hSw; (try dsimp only at hSw); subst hSw; go_simp; try with_reducible rfl)
                      simp only [Act.put, List.setIfInBounds_toArray, List.set_cons_zero, List.set_cons_succ]
                      refine ord_take 10 (v := ?v703x10) rfl (by kernel_rfl) (by kernel_rfl) (by kernel_rfl) (fun _ _ _ h => h) (by rfl) (by assumption) ?y703x10 ?_
                      case y703x10 => (intro W hSw; (try dsimp only at hSw); subst hSw; go_simp; try with_reducible rfl)
                      simp only [Act.put, List.setIfInBounds_toArray, List.set_cons_zero, List.set_cons_succ]
                      refine ord_take 11 (v := ?v703x11) rfl (by kernel_rfl) (by kernel_rfl) (by kernel_rfl) (fun _ _ _ h => h) (by rfl) (by assumption) ?y703x11 ?_
                      case y703x11 => (intro W hSw; (try dsimp only at hSw); subst hSw; go_simp; try with_reducible rfl)
                      simp only [Act.put, List.setIfInBounds_toArray, List.set_cons_zero, List.set_cons_succ]
                      refine ord_take 12 (v := ?v703x12) rfl (by kernel_rfl) (by kernel_rfl) (by kernel_rfl) (fun _ _ _ h => h) (by rfl) (by assumption) ?y703x12 ?_
                      case y703x12 => (intro W hSw; (try dsimp only at hSw); subst hSw; go_simp; try with_reducible rfl)
                      simp only [Act.put, List.setIfInBounds_toArray, List.set_cons_zero, List.set_cons_succ]
                      refine wpAnyH_done (by kernel_rfl) ?_ _
                      go_wp2_with fail
                      go_roundw
                      case rel => exact ⟨q + 1, by omega, by omega, by go_num, Hl6.out⟩
                      case measure => simp [intOf]; omega
                    · go_wp2_with fail
                      refine (knownL_calls wh).mono ?_
                      rintro e wi ⟨rfl, hb⟩
                      have Hb := Lib.hid (below_on Hr.out.bel hb)
                      clear hb
                      go_wp2_with fail
                      go_ret
                      exact ⟨rfl, Hb.out⟩
            · rw [app_row h14 hltl (f := some (f - 2 * k)) (fun j e => by cases e; omega)] at happ
              rw [show offF (some (f - 2 * k)) 2 = some (f - 2 * (k + 1)) from (congrArg some (show f - 2 * k - 2 = f - 2 * (k + 1) by omega))] at happ
              generalize hml : ls[k].length = ml at *
              have Happ := Lib.hid happ
              clear happ hv hled hml hcell
              go_wp2_with fail
              refine Happ.out.mono ?_
              rintro e w4 ⟨rfl, hl4, -⟩
              have Hl4 := Lib.hid hl4
              clear hl4 Happ
              go_wp2_with fail
              go_roundw
              case rel => exact ⟨k + 1, by omega, by go_num, by go_num, by omega, Hl4.out⟩
              case measure => simp [intOf]; omega
          · have hls : ls.take k = ls := List.take_of_length_le (by have := Hnl.out; omega)
            have hkl : ls.length = k := by have := Hnl.out; omega
            rw [hls] at hled
            have Hled := Lib.hid hled
            have Hlst := Lib.hid (show (MM none ls).last = k by show 0 + ls.length = k; omega)
            have hmk : max (k : Int) (k : Int) = (k : Int) := Int.max_self _
            cases im with
            | false =>
              have hst := hled.st
              obtain ⟨hJ⟩ := kept_all h14 (some (f - 2 * k)) dr
              rw [hkl] at hJ
              clear hled hls hkl Hled
              have Hcr := Lib.hid (st_crash hst dr hd hd')
              clear hst
              go_wp2_with fail
              refine Hcr.out.mono ?_
              rintro e wc ⟨rfl, hdc, -⟩
              have Hop := Lib.hid (open_is hdc hJ.opens)
              clear hdc Hcr
              go_wp2_with fail
              refine Hop.out.mono ?_
              rintro e wd ⟨l2, rfl, hlx, -⟩
              have Hl := Lib.hid hlx
              clear hlx Hop
              have hlo := hJ.lo
              have hhi := hJ.hi
              have hlen := hJ.len
              have himg := hJ.img
              have hwr := hJ.wr
              have hbase := hJ.base
              have hent := hJ.ent
              obtain ⟨L, hL⟩ : ∃ L, (MM hJ.im hJ.es).last = L := ⟨_, rfl⟩
              obtain ⟨A, hA⟩ : ∃ A, baseOf hJ.im = A := ⟨_, rfl⟩
              rw [hL] at hlo hhi hlen hbase hent
              rw [hA] at himg hwr hbase
              have HL := Lib.hid hL
              have HA := Lib.hid hA
              have Himg := Lib.hid himg
              have Hwr := Lib.hid hwr
              have Hent := Lib.hid hent
              have Hlen := Lib.hid hlen
              have hk30 : k ≤ 30 := by omega
              clear hL hA himg hwr hent hlen
              go_wp2_with fail
              refine (last_is Hl.out HL.out).mono ?_
              rintro e we ⟨rfl, hlx⟩
              have Hl := Lib.hid hlx
              clear hlx
              go_wp2_with fail
              refine (last_is Hl.out HL.out).mono ?_
              rintro e wf ⟨rfl, hlx⟩
              have hba := base_is hlx
              rw [HA.out] at hba
              have Hba := Lib.hid hba
              clear hlx hba
              go_wp2_with fail
              refine Hba.out.mono ?_
              rintro e wg ⟨vb, rfl, hvb, hlx⟩
              have Hl := Lib.hid hlx
              have Hvb := Lib.hid hvb
              clear hlx hvb Hba
              by_cases hA0 : A = 0
              · subst hA0
                have hk0 := True.intro
                go_wp2_with fail
                go_loopw [23] (fun x wr => ∃ q : Nat, 0 ≤ q ∧ q ≤ L ∧ x = .int .i64 ((q : Int) + 1) ∧ LedF w wr l2 d sA (sD hJ.im hJ.es none) (MM hJ.im hJ.es) NoF) (fun x _ => L + 1 - (intOf x).toNat)
                case atStart => exact ⟨0, Nat.le_refl _, hbase, by first | rfl | go_num, Hl.out⟩
                case round =>
                  clear Hl
                  obtain ⟨q, hq, hqL, rfl, hr⟩ := hrel
                  have Hr := Lib.hid hr
                  clear hr
                  go_wp2_with fail
                  refine (last_is Hr.out HL.out).mono ?_
                  rintro e wh ⟨rfl, hlx⟩
                  have Hr := Lib.hid hlx
                  clear hlx
                  by_cases hqn : q < L
                  · have hqls : q < ls.length := by have := Hlen.out; omega
                    have hqk : q < n := by have := Hnl.out; omega
                    obtain ⟨-, b, o, v, hpe, hcell, hv⟩ := RowsAt.row Hx.out hqls
                    cases hpe
                    obtain ⟨pv, cv, rfl⟩ := hv.slice
                    have hat := at_q Hr.out (q := q) (b := ls[q]) (by rw [HA.out]; exact hq) (Hent.out q hqls (by rw [HA.out]; exact hq) hqn)
                    have Hat := Lib.hid hat
                    have Hcell := Lib.hid hcell
                    have Hv := Lib.hid hv
                    generalize ls[q].length = ml at *
                    clear hat hcell hv Hr
                    go_wp2_with fail
                    refine Hat.out.mono ?_
                    rintro e w6 ⟨v6, rfl, hv6, hl6⟩
                    have hb6 : Below w.heap.size w w6.drew := (hl6.next (below_drew w6)).bel
                    have hcell6 := (hb6.cell (World.block_lt_of_cell? w _ Hcell.out)).trans Hcell.out
                    have hcv1 := conv_str (P := Try.prog) (W := w6.drew) (dst := 9) Try.underlying33 Try.underlying5 Try.underlying9 hv6
                    have hcv2 := conv_str (P := Try.prog) (W := w6.drew) (dst := 9) Try.underlying33 Try.underlying5 Try.underlying9 (HasB.old Hv.out hb6)
                    have Hl6 := Lib.hid (hl6.next (below_drew w6))
                    have hq30 : q ≤ 40 := by omega
                    have hwj : IntKind.i64.wrap (q : Int) = (q : Int) := IntWalk.i64_in _ (by omega)
                    clear hv6 hl6 hb6 Hat
                    generalize ls[q].toArray = sj at *
                    go_wp2_with fail
                    refine ord_start (fun W' : World => W' = w6.drew) (n := 13) (by kernel_rfl) rfl rfl (fun hHeld => ?_)
                    refine ord_take 0 (v := ?v704x0) rfl (by kernel_rfl) (by kernel_rfl) (by kernel_rfl) (fun _ _ _ h => h) (by rfl) (by assumption) ?y704x0 ?_
                    case y704x0 => (intro W hSw; (try dsimp only at hSw); subst hSw; go_simp; try with_reducible rfl)
                    simp only [Act.put, List.setIfInBounds_toArray, List.set_cons_zero, List.set_cons_succ]
                    refine ord_take 1 (v := ?v704x1) rfl (by kernel_rfl) (by kernel_rfl) (by kernel_rfl) (fun _ _ _ h => h) (by rfl) (by assumption) ?y704x1 ?_
                    case y704x1 => (intro W hSw; (try dsimp only at hSw); subst hSw; go_simp; try with_reducible rfl)
                    simp only [Act.put, List.setIfInBounds_toArray, List.set_cons_zero, List.set_cons_succ]
                    refine ord_take 2 (v := ?v704x2) rfl (by kernel_rfl) (by kernel_rfl) (by kernel_rfl) (fun _ _ _ h => h) (by rfl) (by assumption) ?y704x2 ?_
                    case y704x2 => (intro W hSw; (try dsimp only at hSw); subst hSw; go_simp; try with_reducible rfl)
                    simp only [Act.put, List.setIfInBounds_toArray, List.set_cons_zero, List.set_cons_succ]
                    refine ord_take 3 (v := ?v704x3) rfl (by kernel_rfl) (by kernel_rfl) (by kernel_rfl) (fun _ _ _ h => h) (by rfl) (by assumption) ?y704x3 ?_
                    case y704x3 => (intro W hSw; (try dsimp only at hSw); subst hSw; go_simp; try with_reducible rfl)
                    simp only [Act.put, List.setIfInBounds_toArray, List.set_cons_zero, List.set_cons_succ]
                    refine ord_take 4 (v := ?v704x4) rfl (by kernel_rfl) (by kernel_rfl) (by kernel_rfl) (fun _ _ _ h => h) (by rfl) (by assumption) ?y704x4 ?_
                    case y704x4 => (intro W hSw; (try dsimp only at hSw); subst hSw; go_simp; try with_reducible rfl)
                    simp only [Act.put, List.setIfInBounds_toArray, List.set_cons_zero, List.set_cons_succ]
                    refine ord_take 5 (v := ?v704x5) rfl (by kernel_rfl) (by kernel_rfl) (by kernel_rfl) (fun _ _ _ h => h) (by rfl) (by assumption) ?y704x5 ?_
                    case y704x5 => (intro W hSw; (try dsimp only at hSw); subst hSw; go_simp; try with_reducible rfl)
                    simp only [Act.put, List.setIfInBounds_toArray, List.set_cons_zero, List.set_cons_succ]
                    refine ord_take 6 (v := ?v704x6) rfl (by kernel_rfl) (by kernel_rfl) (by kernel_rfl) (fun _ _ _ h => h) (by rfl) (by assumption) ?y704x6 ?_
                    case y704x6 => (intro W hSw; (try dsimp only at hSw); subst hSw; go_simp; try with_reducible rfl)
                    simp only [Act.put, List.setIfInBounds_toArray, List.set_cons_zero, List.set_cons_succ]
                    refine ord_take 7 (v := ?v704x7) rfl (by kernel_rfl) (by kernel_rfl) (by kernel_rfl) (fun _ _ _ h => h) (by rfl) (by assumption) ?y704x7 ?_
                    case y704x7 => (intro W hSw; (try dsimp only at hSw); subst hSw; go_simp; try with_reducible rfl)
                    simp only [Act.put, List.setIfInBounds_toArray, List.set_cons_zero, List.set_cons_succ]
                    refine ord_take 8 (v := ?v704x8) rfl (by kernel_rfl) (by kernel_rfl) (by kernel_rfl) (fun _ _ _ h => h) (by rfl) (by assumption) ?y704x8 ?_
                    case y704x8 => (intro W hSw; (try dsimp only at hSw); subst hSw; go_simp; try with_reducible rfl)
                    simp only [Act.put, List.setIfInBounds_toArray, List.set_cons_zero, List.set_cons_succ]
                    refine ord_take 9 (v := ?v704x9) rfl (by kernel_rfl) (by kernel_rfl) (by kernel_rfl) (fun _ _ _ h => h) (by rfl) (by assumption) ?y704x9 ?_
                    case y704x9 => (intro W hSw; (try dsimp only at hSw); subst hSw; go_simp; try with_reducible rfl)
                    simp only [Act.put, List.setIfInBounds_toArray, List.set_cons_zero, List.set_cons_succ]
                    refine ord_take 10 (v := ?v704x10) rfl (by kernel_rfl) (by kernel_rfl) (by kernel_rfl) (fun _ _ _ h => h) (by rfl) (by assumption) ?y704x10 ?_
                    case y704x10 => (intro W hSw; (try dsimp only at hSw); subst hSw; go_simp; try with_reducible rfl)
                    simp only [Act.put, List.setIfInBounds_toArray, List.set_cons_zero, List.set_cons_succ]
                    refine ord_take 11 (v := ?v704x11) rfl (by kernel_rfl) (by kernel_rfl) (by kernel_rfl) (fun _ _ _ h => h) (by rfl) (by assumption) ?y704x11 ?_
                    case y704x11 => (intro W hSw; (try dsimp only at hSw); subst hSw; go_simp; try with_reducible rfl)
                    simp only [Act.put, List.setIfInBounds_toArray, List.set_cons_zero, List.set_cons_succ]
                    refine ord_take 12 (v := ?v704x12) rfl (by kernel_rfl) (by kernel_rfl) (by kernel_rfl) (fun _ _ _ h => h) (by rfl) (by assumption) ?y704x12 ?_
                    case y704x12 => (intro W hSw; (try dsimp only at hSw); subst hSw; go_simp; try with_reducible rfl)
                    simp only [Act.put, List.setIfInBounds_toArray, List.set_cons_zero, List.set_cons_succ]
                    refine wpAnyH_done (by kernel_rfl) ?_ _
                    go_wp2_with fail
                    go_roundw
                    case rel => exact ⟨q + 1, by omega, by omega, by go_num, Hl6.out⟩
                    case measure => simp [intOf]; omega
                  · go_wp2_with fail
                    refine (knownL_calls wh).mono ?_
                    rintro e wi ⟨rfl, hb⟩
                    have Hb := Lib.hid (below_on Hr.out.bel hb)
                    clear hb
                    go_wp2_with fail
                    go_ret
                    exact ⟨rfl, Hb.out⟩
              · have h5 := Himg.out (by omega)
                exact absurd h5.1 (by decide)
            | true =>
              obtain ⟨D', M', e0, hw0, hr0⟩ := wri_burnt h14 (f := some (f - 2 * k)) (fun j e => by cases e; omega) dr
              rw [hkl] at hw0 hr0
              have Hr0 := Lib.hid hr0
              have Hw0 := Lib.hid hw0
              clear hled hls hkl hw0 hr0
              go_wp2_with fail
              refine (last_is Hled.out Hlst.out).mono ?_
              rintro e w5 ⟨rfl, hl5⟩
              have hw := wri_lit hl5 (k : Int) (by omega) #[.int .u8 105, .int .u8 109, .int .u8 97, .int .u8 103, .int .u8 101] bimg rfl (n := 5) (c := 5) rfl (by decide) (5, 6)
              rw [Hw0.out] at hw
              have Hw := Lib.hid hw
              clear hl5 hw
              go_wp2_with fail
              refine Hw.out.mono ?_
              rintro e w6 ⟨rfl, hl6, -⟩
              have hst := hl6.st
              rcases Hr0.out with ⟨rfl, ⟨hJ⟩⟩ | ⟨rfl, ⟨hJ⟩⟩
              · clear Hw hl6
                have Hcr := Lib.hid (st_crash hst dr hd hd')
                clear hst
                go_wp2_with fail
                refine Hcr.out.mono ?_
                rintro e wc ⟨rfl, hdc, -⟩
                have Hop := Lib.hid (open_is hdc hJ.opens)
                clear hdc Hcr
                go_wp2_with fail
                refine Hop.out.mono ?_
                rintro e wd ⟨l2, rfl, hlx, -⟩
                have Hl := Lib.hid hlx
                clear hlx Hop
                have hlo := hJ.lo
                have hhi := hJ.hi
                have hlen := hJ.len
                have himg := hJ.img
                have hwr := hJ.wr
                have hbase := hJ.base
                have hent := hJ.ent
                obtain ⟨L, hL⟩ : ∃ L, (MM hJ.im hJ.es).last = L := ⟨_, rfl⟩
                obtain ⟨A, hA⟩ : ∃ A, baseOf hJ.im = A := ⟨_, rfl⟩
                rw [hL] at hlo hhi hlen hbase hent
                rw [hA] at himg hwr hbase
                have HL := Lib.hid hL
                have HA := Lib.hid hA
                have Himg := Lib.hid himg
                have Hwr := Lib.hid hwr
                have Hent := Lib.hid hent
                have Hlen := Lib.hid hlen
                have hk30 : k ≤ 30 := by omega
                clear hL hA himg hwr hent hlen
                go_wp2_with fail
                refine (last_is Hl.out HL.out).mono ?_
                rintro e we ⟨rfl, hlx⟩
                have Hl := Lib.hid hlx
                clear hlx
                go_wp2_with fail
                refine (last_is Hl.out HL.out).mono ?_
                rintro e wf ⟨rfl, hlx⟩
                have hba := base_is hlx
                rw [HA.out] at hba
                have Hba := Lib.hid hba
                clear hlx hba
                go_wp2_with fail
                refine Hba.out.mono ?_
                rintro e wg ⟨vb, rfl, hvb, hlx⟩
                have Hl := Lib.hid hlx
                have Hvb := Lib.hid hvb
                clear hlx hvb Hba
                by_cases hA0 : A = 0
                · subst hA0
                  have hk0 := (show k = 0 by simpa using Hwr.out)
                  go_wp2_with fail
                  go_loopw [23] (fun x wr => ∃ q : Nat, 0 ≤ q ∧ q ≤ L ∧ x = .int .i64 ((q : Int) + 1) ∧ LedF w wr l2 d sA (sD hJ.im hJ.es none) (MM hJ.im hJ.es) NoF) (fun x _ => L + 1 - (intOf x).toNat)
                  case atStart => exact ⟨0, Nat.le_refl _, hbase, by first | rfl | go_num, Hl.out⟩
                  case round =>
                    clear Hl
                    obtain ⟨q, hq, hqL, rfl, hr⟩ := hrel
                    have Hr := Lib.hid hr
                    clear hr
                    go_wp2_with fail
                    refine (last_is Hr.out HL.out).mono ?_
                    rintro e wh ⟨rfl, hlx⟩
                    have Hr := Lib.hid hlx
                    clear hlx
                    by_cases hqn : q < L
                    · have hqls : q < ls.length := by have := Hlen.out; omega
                      have hqk : q < n := by have := Hnl.out; omega
                      exfalso
                      omega
                    · go_wp2_with fail
                      refine (knownL_calls wh).mono ?_
                      rintro e wi ⟨rfl, hb⟩
                      have Hb := Lib.hid (below_on Hr.out.bel hb)
                      clear hb
                      go_wp2_with fail
                      go_ret
                      exact ⟨rfl, Hb.out⟩
                · have h5 := Himg.out (by omega)
                  have hd5 : dataI hJ.im = bimg := h5.2.1
                  have hkA : k ≤ A := h5.2.2
                  have hvb := Hvb.out
                  rw [hd5] at hvb
                  have hcv0 : (convert 33 9 vb).run Try.prog wg = .ok (.string ⟨#[105, 109, 97, 103, 101]⟩) wg := conv_str (P := Try.prog) (W := wg) (dst := 9) Try.underlying33 Try.underlying5 Try.underlying9 hvb
                  clear h5 hd5 hvb
                  have hA30 : A ≤ 40 := by omega
                  have hAp : 0 < A := by omega
                  go_wp2_with fail
                  go_loopw [23] (fun x wr => ∃ q : Nat, A ≤ q ∧ q ≤ L ∧ x = .int .i64 ((q : Int) + 1) ∧ LedF w wr l2 d sA (sD hJ.im hJ.es none) (MM hJ.im hJ.es) NoF) (fun x _ => L + 1 - (intOf x).toNat)
                  case atStart => exact ⟨A, Nat.le_refl _, hbase, by first | rfl | go_num, Hl.out⟩
                  case round =>
                    clear Hl
                    obtain ⟨q, hq, hqL, rfl, hr⟩ := hrel
                    have Hr := Lib.hid hr
                    clear hr
                    go_wp2_with fail
                    refine (last_is Hr.out HL.out).mono ?_
                    rintro e wh ⟨rfl, hlx⟩
                    have Hr := Lib.hid hlx
                    clear hlx
                    by_cases hqn : q < L
                    · have hqls : q < ls.length := by have := Hlen.out; omega
                      have hqk : q < n := by have := Hnl.out; omega
                      exfalso
                      omega
                    · go_wp2_with fail
                      refine (knownL_calls wh).mono ?_
                      rintro e wi ⟨rfl, hb⟩
                      have Hb := Lib.hid (below_on Hr.out.bel hb)
                      clear hb
                      go_wp2_with fail
                      go_ret
                      exact ⟨rfl, Hb.out⟩
              · clear Hw hl6
                have Hcr := Lib.hid (st_crash hst dr hd hd')
                clear hst
                go_wp2_with fail
                refine Hcr.out.mono ?_
                rintro e wc ⟨rfl, hdc, -⟩
                have Hop := Lib.hid (open_is hdc hJ.opens)
                clear hdc Hcr
                go_wp2_with fail
                refine Hop.out.mono ?_
                rintro e wd ⟨l2, rfl, hlx, -⟩
                have Hl := Lib.hid hlx
                clear hlx Hop
                have hlo := hJ.lo
                have hhi := hJ.hi
                have hlen := hJ.len
                have himg := hJ.img
                have hwr := hJ.wr
                have hbase := hJ.base
                have hent := hJ.ent
                obtain ⟨L, hL⟩ : ∃ L, (MM hJ.im hJ.es).last = L := ⟨_, rfl⟩
                obtain ⟨A, hA⟩ : ∃ A, baseOf hJ.im = A := ⟨_, rfl⟩
                rw [hL] at hlo hhi hlen hbase hent
                rw [hA] at himg hwr hbase
                have HL := Lib.hid hL
                have HA := Lib.hid hA
                have Himg := Lib.hid himg
                have Hwr := Lib.hid hwr
                have Hent := Lib.hid hent
                have Hlen := Lib.hid hlen
                have hk30 : k ≤ 30 := by omega
                clear hL hA himg hwr hent hlen
                go_wp2_with fail
                refine (last_is Hl.out HL.out).mono ?_
                rintro e we ⟨rfl, hlx⟩
                have Hl := Lib.hid hlx
                clear hlx
                go_wp2_with fail
                refine (last_is Hl.out HL.out).mono ?_
                rintro e wf ⟨rfl, hlx⟩
                have hba := base_is hlx
                rw [HA.out] at hba
                have Hba := Lib.hid hba
                clear hlx hba
                go_wp2_with fail
                refine Hba.out.mono ?_
                rintro e wg ⟨vb, rfl, hvb, hlx⟩
                have Hl := Lib.hid hlx
                have Hvb := Lib.hid hvb
                clear hlx hvb Hba
                by_cases hA0 : A = 0
                · subst hA0
                  have hk0 := True.intro
                  go_wp2_with fail
                  go_loopw [23] (fun x wr => ∃ q : Nat, 0 ≤ q ∧ q ≤ L ∧ x = .int .i64 ((q : Int) + 1) ∧ LedF w wr l2 d sA (sD hJ.im hJ.es none) (MM hJ.im hJ.es) NoF) (fun x _ => L + 1 - (intOf x).toNat)
                  case atStart => exact ⟨0, Nat.le_refl _, hbase, by first | rfl | go_num, Hl.out⟩
                  case round =>
                    clear Hl
                    obtain ⟨q, hq, hqL, rfl, hr⟩ := hrel
                    have Hr := Lib.hid hr
                    clear hr
                    go_wp2_with fail
                    refine (last_is Hr.out HL.out).mono ?_
                    rintro e wh ⟨rfl, hlx⟩
                    have Hr := Lib.hid hlx
                    clear hlx
                    by_cases hqn : q < L
                    · have hqls : q < ls.length := by have := Hlen.out; omega
                      have hqk : q < n := by have := Hnl.out; omega
                      obtain ⟨-, b, o, v, hpe, hcell, hv⟩ := RowsAt.row Hx.out hqls
                      cases hpe
                      obtain ⟨pv, cv, rfl⟩ := hv.slice
                      have hat := at_q Hr.out (q := q) (b := ls[q]) (by rw [HA.out]; exact hq) (Hent.out q hqls (by rw [HA.out]; exact hq) hqn)
                      have Hat := Lib.hid hat
                      have Hcell := Lib.hid hcell
                      have Hv := Lib.hid hv
                      generalize ls[q].length = ml at *
                      clear hat hcell hv Hr
                      go_wp2_with fail
                      refine Hat.out.mono ?_
                      rintro e w6 ⟨v6, rfl, hv6, hl6⟩
                      have hb6 : Below w.heap.size w w6.drew := (hl6.next (below_drew w6)).bel
                      have hcell6 := (hb6.cell (World.block_lt_of_cell? w _ Hcell.out)).trans Hcell.out
                      have hcv1 := conv_str (P := Try.prog) (W := w6.drew) (dst := 9) Try.underlying33 Try.underlying5 Try.underlying9 hv6
                      have hcv2 := conv_str (P := Try.prog) (W := w6.drew) (dst := 9) Try.underlying33 Try.underlying5 Try.underlying9 (HasB.old Hv.out hb6)
                      have Hl6 := Lib.hid (hl6.next (below_drew w6))
                      have hq30 : q ≤ 40 := by omega
                      have hwj : IntKind.i64.wrap (q : Int) = (q : Int) := IntWalk.i64_in _ (by omega)
                      clear hv6 hl6 hb6 Hat
                      generalize ls[q].toArray = sj at *
                      go_wp2_with fail
                      refine ord_start (fun W' : World => W' = w6.drew) (n := 13) (by kernel_rfl) rfl rfl (fun hHeld => ?_)
                      refine ord_take 0 (v := ?v707x0) rfl (by kernel_rfl) (by kernel_rfl) (by kernel_rfl) (fun _ _ _ h => h) (by rfl) (by assumption) ?y707x0 ?_
                      case y707x0 => (intro W hSw; (try dsimp only at hSw); subst hSw; go_simp; try with_reducible rfl)
                      simp only [Act.put, List.setIfInBounds_toArray, List.set_cons_zero, List.set_cons_succ]
                      refine ord_take 1 (v := ?v707x1) rfl (by kernel_rfl) (by kernel_rfl) (by kernel_rfl) (fun _ _ _ h => h) (by rfl) (by assumption) ?y707x1 ?_
                      case y707x1 => (intro W hSw; (try dsimp only at hSw); subst hSw; go_simp; try with_reducible rfl)
                      simp only [Act.put, List.setIfInBounds_toArray, List.set_cons_zero, List.set_cons_succ]
                      refine ord_take 2 (v := ?v707x2) rfl (by kernel_rfl) (by kernel_rfl) (by kernel_rfl) (fun _ _ _ h => h) (by rfl) (by assumption) ?y707x2 ?_
                      case y707x2 => (intro W hSw; (try dsimp only at hSw); subst hSw; go_simp; try with_reducible rfl)
                      simp only [Act.put, List.setIfInBounds_toArray, List.set_cons_zero, List.set_cons_succ]
                      refine ord_take 3 (v := ?v707x3) rfl (by kernel_rfl) (by kernel_rfl) (by kernel_rfl) (fun _ _ _ h => h) (by rfl) (by assumption) ?y707x3 ?_
                      case y707x3 => (intro W hSw; (try dsimp only at hSw); subst hSw; go_simp; try with_reducible rfl)
                      simp only [Act.put, List.setIfInBounds_toArray, List.set_cons_zero, List.set_cons_succ]
                      refine ord_take 4 (v := ?v707x4) rfl (by kernel_rfl) (by kernel_rfl) (by kernel_rfl) (fun _ _ _ h => h) (by rfl) (by assumption) ?y707x4 ?_
                      case y707x4 => (intro W hSw; (try dsimp only at hSw); subst hSw; go_simp; try with_reducible rfl)
                      simp only [Act.put, List.setIfInBounds_toArray, List.set_cons_zero, List.set_cons_succ]
                      refine ord_take 5 (v := ?v707x5) rfl (by kernel_rfl) (by kernel_rfl) (by kernel_rfl) (fun _ _ _ h => h) (by rfl) (by assumption) ?y707x5 ?_
                      case y707x5 => (intro W hSw; (try dsimp only at hSw); subst hSw; go_simp; try with_reducible rfl)
                      simp only [Act.put, List.setIfInBounds_toArray, List.set_cons_zero, List.set_cons_succ]
                      refine ord_take 6 (v := ?v707x6) rfl (by kernel_rfl) (by kernel_rfl) (by kernel_rfl) (fun _ _ _ h => h) (by rfl) (by assumption) ?y707x6 ?_
                      case y707x6 => (intro W hSw; (try dsimp only at hSw); subst hSw; go_simp; try with_reducible rfl)
                      simp only [Act.put, List.setIfInBounds_toArray, List.set_cons_zero, List.set_cons_succ]
                      refine ord_take 7 (v := ?v707x7) rfl (by kernel_rfl) (by kernel_rfl) (by kernel_rfl) (fun _ _ _ h => h) (by rfl) (by assumption) ?y707x7 ?_
                      case y707x7 => (intro W hSw; (try dsimp only at hSw); subst hSw; go_simp; try with_reducible rfl)
                      simp only [Act.put, List.setIfInBounds_toArray, List.set_cons_zero, List.set_cons_succ]
                      refine ord_take 8 (v := ?v707x8) rfl (by kernel_rfl) (by kernel_rfl) (by kernel_rfl) (fun _ _ _ h => h) (by rfl) (by assumption) ?y707x8 ?_
                      case y707x8 => (intro W hSw; (try dsimp only at hSw); subst hSw; go_simp; try with_reducible rfl)
                      simp only [Act.put, List.setIfInBounds_toArray, List.set_cons_zero, List.set_cons_succ]
                      refine ord_take 9 (v := ?v707x9) rfl (by kernel_rfl) (by kernel_rfl) (by kernel_rfl) (fun _ _ _ h => h) (by rfl) (by assumption) ?y707x9 ?_
                      case y707x9 => (intro W hSw; (try dsimp only at hSw); subst hSw; go_simp; try with_reducible rfl)
                      simp only [Act.put, List.setIfInBounds_toArray, List.set_cons_zero, List.set_cons_succ]
                      refine ord_take 10 (v := ?v707x10) rfl (by kernel_rfl) (by kernel_rfl) (by kernel_rfl) (fun _ _ _ h => h) (by rfl) (by assumption) ?y707x10 ?_
                      case y707x10 => (intro W hSw; (try dsimp only at hSw); subst hSw; go_simp; try with_reducible rfl)
                      simp only [Act.put, List.setIfInBounds_toArray, List.set_cons_zero, List.set_cons_succ]
                      refine ord_take 11 (v := ?v707x11) rfl (by kernel_rfl) (by kernel_rfl) (by kernel_rfl) (fun _ _ _ h => h) (by rfl) (by assumption) ?y707x11 ?_
                      case y707x11 => (intro W hSw; (try dsimp only at hSw); subst hSw; go_simp; try with_reducible rfl)
                      simp only [Act.put, List.setIfInBounds_toArray, List.set_cons_zero, List.set_cons_succ]
                      refine ord_take 12 (v := ?v707x12) rfl (by kernel_rfl) (by kernel_rfl) (by kernel_rfl) (fun _ _ _ h => h) (by rfl) (by assumption) ?y707x12 ?_
                      case y707x12 => (intro W hSw; (try dsimp only at hSw); subst hSw; go_simp; try with_reducible rfl)
                      simp only [Act.put, List.setIfInBounds_toArray, List.set_cons_zero, List.set_cons_succ]
                      refine wpAnyH_done (by kernel_rfl) ?_ _
                      go_wp2_with fail
                      go_roundw
                      case rel => exact ⟨q + 1, by omega, by omega, by go_num, Hl6.out⟩
                      case measure => simp [intOf]; omega
                    · go_wp2_with fail
                      refine (knownL_calls wh).mono ?_
                      rintro e wi ⟨rfl, hb⟩
                      have Hb := Lib.hid (below_on Hr.out.bel hb)
                      clear hb
                      go_wp2_with fail
                      go_ret
                      exact ⟨rfl, Hb.out⟩
                · have h5 := Himg.out (by omega)
                  have hd5 : dataI hJ.im = bimg := h5.2.1
                  have hkA : k ≤ A := h5.2.2
                  have hvb := Hvb.out
                  rw [hd5] at hvb
                  have hcv0 : (convert 33 9 vb).run Try.prog wg = .ok (.string ⟨#[105, 109, 97, 103, 101]⟩) wg := conv_str (P := Try.prog) (W := wg) (dst := 9) Try.underlying33 Try.underlying5 Try.underlying9 hvb
                  clear h5 hd5 hvb
                  have hA30 : A ≤ 40 := by omega
                  have hAp : 0 < A := by omega
                  go_wp2_with fail
                  go_loopw [23] (fun x wr => ∃ q : Nat, A ≤ q ∧ q ≤ L ∧ x = .int .i64 ((q : Int) + 1) ∧ LedF w wr l2 d sA (sD hJ.im hJ.es none) (MM hJ.im hJ.es) NoF) (fun x _ => L + 1 - (intOf x).toNat)
                  case atStart => exact ⟨A, Nat.le_refl _, hbase, by first | rfl | go_num, Hl.out⟩
                  case round =>
                    clear Hl
                    obtain ⟨q, hq, hqL, rfl, hr⟩ := hrel
                    have Hr := Lib.hid hr
                    clear hr
                    go_wp2_with fail
                    refine (last_is Hr.out HL.out).mono ?_
                    rintro e wh ⟨rfl, hlx⟩
                    have Hr := Lib.hid hlx
                    clear hlx
                    by_cases hqn : q < L
                    · have hqls : q < ls.length := by have := Hlen.out; omega
                      have hqk : q < n := by have := Hnl.out; omega
                      exfalso
                      omega
                    · go_wp2_with fail
                      refine (knownL_calls wh).mono ?_
                      rintro e wi ⟨rfl, hb⟩
                      have Hb := Lib.hid (below_on Hr.out.bel hb)
                      clear hb
                      go_wp2_with fail
                      go_ret
                      exact ⟨rfl, Hb.out⟩
end Go.Proofs.Yteohbjkjfnflgaa
