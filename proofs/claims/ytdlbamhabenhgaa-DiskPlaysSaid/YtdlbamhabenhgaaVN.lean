/- The contract of satrapylaw3.does. (Its walk is printed by mkp.py.) The contract of satrapylaw3.stood. The contract of satrapylaw3.heavy. DiskPlays: the walk. -/
import Derived.Deep.CutBlock
import Derived.Deep.CutRange
import Derived.Test.YtdlbamhabenhgaaVC
import Derived.Test.YtdlbamhabenhgaaVE
import Derived.Test.YtdlbamhabenhgaaVM
namespace Go.Proofs.Ytdlbamhabenhgaa
open Go.RowKit Go.Sat Go.Maps

set_option maxRecDepth 100000 in
set_option maxHeartbeats 16000000 in
theorem does3_calls {w w1 : World} {d r : Nat} {D : DiskM} (h : Pair w w1 d D r D) (kd m : Int) (sa st : ByteArray) (pb : Option Addr) (nb cb : Nat) (b : Bs) (hk : -9223372036854775808 ≤ kd ∧ kd ≤ 9223372036854775807) (hm : -9223372036854775808 ≤ m ∧ m ≤ 9223372036854775807)
    (hsa : sa.size ≤ 8000) (hst : st.size ≤ 8000) (hb : HasB w (.slice pb nb cb) b) (hbl : b.length ≤ 8000) :
    Calls Try.prog 35 #[.pointer (some ⟨d, 0, none⟩), .pointer (some ⟨r, 0, none⟩), .agg #[.int .i64 kd, .int .i64 m, .string sa, .string st, .slice pb nb cb]] w1 (fun e w' => e = .returned (.bool true) ∧ ∃ D' : DiskM, Pair w w' d D' r D') := by
  obtain ⟨hm1, hm2⟩ := hm
  obtain ⟨i0, hi, hzz0, hzz1, hzz2⟩ := info_parts (show (Try.prog.info? 5).map (fun i => (i.zero, i.size, i.bytes)) = some (some (.int .u8 0), 1, 1) by kernel_rfl)
  have hlb : b.length = nb := by obtain ⟨_, _, e⟩ := hb.slice; simp only [Value.slice.injEq] at e; exact e.2.1.symm
  have HB := Lib.hid (show ∀ W, Below w.heap.size w W → HasB W (.slice pb nb cb) b from fun W hB => HasB.below hb hB)
  have Hst := Lib.hid hb
  have HLb := Lib.hid hlb
  rw [hlb] at hbl
  have Hp := Lib.hid h
  clear h hb hlb
  go_enter Try.func35, Try.ntmps35
  go_upto_block 0 with fail
  have HP0 := Lib.hid (show PairF w (w1.alloc (.cells #[.int .i64 kd, .int .i64 m, .string sa, .string st, .slice pb nb cb] 52)) d D r D (fun k => k = w1.heap.size) from (Hp.out.apart.box _).less fun k hk => .inr hk)
  have Hb0 := Lib.hid (new_block w1 (.cells #[.int .i64 kd, .int .i64 m, .string sa, .string st, .slice pb nb cb] 52))
  have cb0 := cell_of Hb0.out (i := 0) rfl
  clear Hp
  generalize hW0 : w1.alloc (.cells #[.int .i64 kd, .int .i64 m, .string sa, .string st, .slice pb nb cb] 52) = W0 at *
  generalize hbx : w1.heap.size = bx at *
  have HP1 := Lib.hid (HP0.out.next (Below.refl _ W0).drew)
  have Hbd := Lib.hid (show W0.drew.heap[bx]? = _ from Hb0.out)
  have HS := Lib.hid (show ∀ W : World, W.heap[bx]? = some (.cells #[.int .i64 kd, .int .i64 m, .string sa, .string st, .slice pb nb cb] 52 (0, 0)) → W.cell? ⟨bx, 1, none⟩ = some (.int .i64 m) ∧ W.cell? ⟨bx, 2, none⟩ = some (.string sa) ∧ W.cell? ⟨bx, 3, none⟩ = some (.string st) ∧ W.cell? ⟨bx, 4, none⟩ = some (.slice pb nb cb) from fun W h => ⟨cell_of h rfl, cell_of h rfl, cell_of h rfl, cell_of h rfl⟩)
  by_cases k1 : kd = 1
  · have k1' : (kd == 1) = true := by simpa using k1
    clear k1
    have hm4 := cell_of (i := 4) Hb0.out rfl
    have Hro := Lib.hid (roomy3_calls (HB.out _ HP0.out.bel) (by rw [HLb.out]; omega))
    go_wp2_with fail
    refine Hro.out.mono ?_
    rintro e W3 ⟨p3, c3, rfl, ho3, hn3, hb3, hc3⟩
    have HP3 := Lib.hid (show PairF w W3 d D r D (BxV bx (.slice p3 (nb + 1) c3)) from HP0.out.more hb3 fun k hk => hk.elim .inl fun h => .inr ⟨hn3 k h, OwnR.lt ho3 h⟩)
    have HV := Lib.hid (show ∀ k, (Value.slice p3 (nb + 1) c3).ownBlock = some k → w.heap.size ≤ k ∧ k ≠ bx from fun k hk => ⟨Nat.le_trans HP0.out.bel.size (hn3 k hk), fun e => by have := HP0.out.flt (k := bx) rfl; have := hn3 k hk; omega⟩)
    have Hb3 := Lib.hid ((hb3.block bx (HP0.out.flt rfl)).trans Hb0.out)
    have Ho3 := Lib.hid ho3
    have hc3 : nb + 1 ≤ c3 := by omega
    have hsl : ∀ W, (Instr.slice 23 (.slice p3 (nb + 1) c3) none (some (.int .i64 (nb : Int))) none).run Try.prog W = .ok (.slice p3 nb c3) W := fun W => run_upto W Try.underlying23 hi p3 _ c3 nb (by omega)
    clear ho3 hn3 hb3 Hro
    have HP4 := Lib.hid (HP3.out.next (Below.refl _ W3).drew)
    have Hbd := Lib.hid (show W3.drew.heap[bx]? = _ from Hb3.out)
    have Ho4 := Lib.hid (show OwnB W3.drew 5 (.slice p3 (nb + 1) c3) (b ++ [171]) from Ho3.out.keep fun _ _ => rfl)
    go_wp2_with fail
    refine ord_start (fun w' : World => w'.cell? ⟨bx, 1, none⟩ = some (.int .i64 m) ∧ w'.cell? ⟨bx, 2, none⟩ = some (.string sa) ∧ w'.cell? ⟨bx, 3, none⟩ = some (.string st) ∧ w'.cell? ⟨bx, 4, none⟩ = some (.slice pb nb cb)) (n := 24) (by kernel_rfl) rfl (HS.out _ Hbd.out) (fun hHeld => ?_)
    generalize W3.drew = W1 at *
    refine ord_take 0 (v := ?v9x0) rfl (by kernel_rfl) (by kernel_rfl) (by kernel_rfl) (fun _ _ _ h => h) (by rfl) (by assumption) ?y9x0 ?_
    case y9x0 => (intro w hSw; (try dsimp only at hSw); go_simp; try with_reducible rfl)
    simp only [Act.put, List.setIfInBounds_toArray, List.set_cons_zero, List.set_cons_succ]
    refine ord_take 1 (v := ?v9x1) rfl (by kernel_rfl) (by kernel_rfl) (by kernel_rfl) (fun _ _ _ h => h) (by rfl) (by assumption) ?y9x1 ?_
    case y9x1 => (intro w hSw; (try dsimp only at hSw); go_simp; try with_reducible rfl)
    simp only [Act.put, List.setIfInBounds_toArray, List.set_cons_zero, List.set_cons_succ]
    refine ord_take 2 (v := ?v9x2) rfl (by kernel_rfl) (by kernel_rfl) (by kernel_rfl) (fun _ _ _ h => h) (by rfl) (by assumption) ?y9x2 ?_
    case y9x2 => (intro w hSw; (try dsimp only at hSw); go_simp; try with_reducible rfl)
    simp only [Act.put, List.setIfInBounds_toArray, List.set_cons_zero, List.set_cons_succ]
    refine ord_take 3 (v := ?v9x3) rfl (by kernel_rfl) (by kernel_rfl) (by kernel_rfl) (fun _ _ _ h => h) (by rfl) (by assumption) ?y9x3 ?_
    case y9x3 => (intro w hSw; (try dsimp only at hSw); go_simp; try with_reducible rfl)
    simp only [Act.put, List.setIfInBounds_toArray, List.set_cons_zero, List.set_cons_succ]
    refine ord_take 4 (v := ?v9x4) rfl (by kernel_rfl) (by kernel_rfl) (by kernel_rfl) (fun _ _ _ h => h) (by rfl) (by assumption) ?y9x4 ?_
    case y9x4 => (intro w hSw; (try dsimp only at hSw); go_simp; try with_reducible rfl)
    simp only [Act.put, List.setIfInBounds_toArray, List.set_cons_zero, List.set_cons_succ]
    refine ord_take 5 (v := ?v9x5) rfl (by kernel_rfl) (by kernel_rfl) (by kernel_rfl) (fun _ _ _ h => h) (by rfl) (by assumption) ?y9x5 ?_
    case y9x5 => (intro w hSw; (try dsimp only at hSw); go_simp; try with_reducible rfl)
    simp only [Act.put, List.setIfInBounds_toArray, List.set_cons_zero, List.set_cons_succ]
    refine ord_take 6 (v := ?v9x6) rfl (by kernel_rfl) (by kernel_rfl) (by kernel_rfl) (fun _ _ _ h => h) (by rfl) (by assumption) ?y9x6 ?_
    case y9x6 => (intro w hSw; (try dsimp only at hSw); go_simp; try with_reducible rfl)
    simp only [Act.put, List.setIfInBounds_toArray, List.set_cons_zero, List.set_cons_succ]
    refine ord_take 7 (v := ?v9x7) rfl (by kernel_rfl) (by kernel_rfl) (by kernel_rfl) (fun _ _ _ h => h) (by rfl) (by assumption) ?y9x7 ?_
    case y9x7 => (intro w hSw; (try dsimp only at hSw); go_simp; try with_reducible rfl)
    simp only [Act.put, List.setIfInBounds_toArray, List.set_cons_zero, List.set_cons_succ]
    refine ord_take 10 (v := ?v9x10) rfl (by kernel_rfl) (by kernel_rfl) (by kernel_rfl) (fun _ _ _ h => h) (by rfl) (by assumption) ?y9x10 ?_
    case y9x10 => (intro w hSw; (try dsimp only at hSw); go_simp; try with_reducible rfl)
    simp only [Act.put, List.setIfInBounds_toArray, List.set_cons_zero, List.set_cons_succ]
    refine ord_take 11 (v := ?v9x11) rfl (by kernel_rfl) (by kernel_rfl) (by kernel_rfl) (fun _ _ _ h => h) (by rfl) (by assumption) ?y9x11 ?_
    case y9x11 => (intro w hSw; (try dsimp only at hSw); go_simp; try with_reducible rfl)
    simp only [Act.put, List.setIfInBounds_toArray, List.set_cons_zero, List.set_cons_succ]
    refine ord_take 12 (v := ?v9x12) rfl (by kernel_rfl) (by kernel_rfl) (by kernel_rfl) (fun _ _ _ h => h) (by rfl) (by assumption) ?y9x12 ?_
    case y9x12 => (intro w hSw; (try dsimp only at hSw); go_simp; try with_reducible rfl)
    simp only [Act.put, List.setIfInBounds_toArray, List.set_cons_zero, List.set_cons_succ]
    refine ord_take 13 (v := ?v9x13) rfl (by kernel_rfl) (by kernel_rfl) (by kernel_rfl) (fun _ _ _ h => h) (by rfl) (by assumption) ?y9x13 ?_
    case y9x13 => (intro w hSw; (try dsimp only at hSw); go_simp; try with_reducible rfl)
    simp only [Act.put, List.setIfInBounds_toArray, List.set_cons_zero, List.set_cons_succ]
    refine ord_take 14 (v := ?v9x14) rfl (by kernel_rfl) (by kernel_rfl) (by kernel_rfl) (fun _ _ _ h => h) (by rfl) (by assumption) ?y9x14 ?_
    case y9x14 => (intro w hSw; (try dsimp only at hSw); go_simp; try with_reducible rfl)
    simp only [Act.put, List.setIfInBounds_toArray, List.set_cons_zero, List.set_cons_succ]
    refine ord_one 8 rfl (by kernel_rfl) (by rfl) (fun K hK => ?_)
    go_wp2_with fail
    have hle := has_less Ho4.out.has
    rw [HLb.out] at hle
    have hrows := rows_one (w := W1) hle 23 (0, 0) W1.heap.size 1 rfl (Nat.le_refl _)
    have HP5 := Lib.hid (HP4.out.next ((Below.refl _ _).alloc (Nat.le_refl _) (.cells #[.slice p3 nb c3] 23)))
    have Hb5 := Lib.hid (old_block (.cells #[.slice p3 nb c3] 23) Hbd.out)
    have Ho5 := Lib.hid (mark_own Ho4.out (.cells #[.slice p3 nb c3] 23))
    have Hrows := Lib.hid hrows
    clear hrows hle
    refine hK.out _ _ (HS.out _ Hb5.out) (fun hHeld => ?_)
    clear hK
    try simp only [Act.put, List.setIfInBounds_toArray, List.set_cons_zero, List.set_cons_succ]
    generalize W1.alloc (.cells #[.slice p3 nb c3] 23) = W5 at *
    generalize W1.heap.size = g5 at *
    refine ord_one 9 rfl (by kernel_rfl) (by rfl) (fun K hK => ?_)
    have Hap := Lib.hid (pairf_append HP5.out sa _ _ Hrows.out (by simp) (by rw [List.flatten_cons, List.flatten_nil, List.append_nil, HLb.out]; omega) (by omega))
    rw [show [b].flatten = b from by rw [List.flatten_cons, List.flatten_nil, List.append_nil]] at Hap
    go_wp2_with fail
    refine Hap.out.mono ?_
    rintro e W6 ⟨rfl, hp6, hs6⟩
    have Hb6 := Lib.hid ((hs6 bx (.inl rfl)).trans Hb5.out)
    have Ho6 := Lib.hid (OwnR.keep Ho5.out fun k hk => hs6 k (.inr hk) : OwnB W6 5 (.slice p3 (nb + 1) c3) (b ++ [171]))
    have Hra := Lib.hid (pairf_rappend hp6 sa (by omega) Hst.out (by rw [HLb.out]; omega))
    clear hp6 hs6 Hap
    go_wp2_with fail
    refine hK.out _ _ (HS.out _ Hb6.out) (fun hHeld => ?_)
    clear hK
    try simp only [Act.put, List.setIfInBounds_toArray, List.set_cons_zero, List.set_cons_succ]
    refine ord_one 15 rfl (by kernel_rfl) (by rfl) (fun K hK => ?_)
    go_wp2_with fail
    refine Hra.out.mono ?_
    rintro e W7 ⟨rfl, hp7, hs7⟩
    have Hb7 := Lib.hid ((hs7 bx (.inl rfl)).trans Hb6.out)
    have Ho7 := Lib.hid (OwnR.keep Ho6.out fun k hk => hs7 k (.inr hk) : OwnB W7 5 (.slice p3 (nb + 1) c3) (b ++ [171]))
    have HP7 := Lib.hid hp7
    clear hp7 hs7 Hra
    go_wp2_with fail
    refine hK.out _ _ (HS.out _ Hb7.out) (fun hHeld => ?_)
    clear hK
    try simp only [Act.put, List.setIfInBounds_toArray, List.set_cons_zero, List.set_cons_succ]
    refine ord_take 16 (v := ?v9x16) rfl (by kernel_rfl) (by kernel_rfl) (by kernel_rfl) (fun _ _ _ h => h) (by rfl) (by assumption) ?y9x16 ?_
    case y9x16 => (intro w hSw; (try dsimp only at hSw); go_simp; try with_reducible rfl)
    simp only [Act.put, List.setIfInBounds_toArray, List.set_cons_zero, List.set_cons_succ]
    refine ord_take 17 (v := ?v9x17) rfl (by kernel_rfl) (by kernel_rfl) (by kernel_rfl) (fun _ _ _ h => h) (by rfl) (by assumption) ?y9x17 ?_
    case y9x17 => (intro w hSw; (try dsimp only at hSw); go_simp; try with_reducible rfl)
    simp only [Act.put, List.setIfInBounds_toArray, List.set_cons_zero, List.set_cons_succ]
    refine ord_take 18 (v := ?v9x18) rfl (by kernel_rfl) (by kernel_rfl) (by kernel_rfl) (fun _ _ _ h => h) (by rfl) (by assumption) ?y9x18 ?_
    case y9x18 => (intro w hSw; (try dsimp only at hSw); go_simp; try with_reducible rfl)
    simp only [Act.put, List.setIfInBounds_toArray, List.set_cons_zero, List.set_cons_succ]
    refine ord_take 19 (v := ?v9x19) rfl (by kernel_rfl) (by kernel_rfl) (by kernel_rfl) (fun _ _ _ h => h) (by rfl) (by assumption) ?y9x19 ?_
    case y9x19 => (intro w hSw; (try dsimp only at hSw); go_simp; try with_reducible rfl)
    simp only [Act.put, List.setIfInBounds_toArray, List.set_cons_zero, List.set_cons_succ]
    refine ord_take 20 (v := ?v9x20) rfl (by kernel_rfl) (by kernel_rfl) (by kernel_rfl) (fun _ _ _ h => h) (by rfl) (by assumption) ?y9x20 ?_
    case y9x20 => (intro w hSw; (try dsimp only at hSw); go_simp; try with_reducible rfl)
    simp only [Act.put, List.setIfInBounds_toArray, List.set_cons_zero, List.set_cons_succ]
    refine ord_one 21 rfl (by kernel_rfl) (by rfl) (fun K hK => ?_)
    have Hsd := Lib.hid (stands3_calls (OwnB.has Ho7.out) hc3 (HB.out _ HP7.out.bel) (by rw [HLb.out]; omega))
    go_wp2_with fail
    refine Hsd.out.mono ?_
    rintro e W8 ⟨rfl, q8, rfl⟩
    have Hb8 := Lib.hid (show (W7.drewN q8).heap[bx]? = _ from Hb7.out)
    have HP8 := Lib.hid (HP7.out.next (⟨rfl, rfl, rfl, Nat.le_refl _, fun _ _ => rfl⟩ : Below W7.heap.size W7 (W7.drewN q8)))
    have Ho8 := Lib.hid (OwnR.keep Ho7.out fun k hk => rfl : OwnB (W7.drewN q8) 5 (.slice p3 (nb + 1) c3) (b ++ [171]))
    clear Hsd
    go_wp2_with fail
    refine hK.out _ _ (HS.out _ Hb8.out) (fun hHeld => ?_)
    clear hK
    try simp only [Act.put, List.setIfInBounds_toArray, List.set_cons_zero, List.set_cons_succ]
    refine ord_take 22 (v := ?v9x22) rfl (by kernel_rfl) (by kernel_rfl) (by kernel_rfl) (fun _ _ _ h => h) (by rfl) (by assumption) ?y9x22 ?_
    case y9x22 => (intro w hSw; (try dsimp only at hSw); go_simp; try with_reducible rfl)
    simp only [Act.put, List.setIfInBounds_toArray, List.set_cons_zero, List.set_cons_succ]
    refine ord_take 23 (v := ?v9x23) rfl (by kernel_rfl) (by kernel_rfl) (by kernel_rfl) (fun _ _ _ h => h) (by rfl) (by assumption) ?y9x23 ?_
    case y9x23 => (intro w hSw; (try dsimp only at hSw); go_simp; try with_reducible rfl)
    simp only [Act.put, List.setIfInBounds_toArray, List.set_cons_zero, List.set_cons_succ]
    refine wpAnyH_done (by kernel_rfl) ?_ _
    have Hsp := Lib.hid (spoil3_calls Ho8.out (by rw [List.length_append, HLb.out]; simp; omega))
    go_wp2_with fail
    refine Hsp.out.mono ?_
    rintro e W9 ⟨rfl, hc9⟩
    have HE := Lib.hid (show ∃ D' : DiskM, Pair w W9 d D' r D' from ⟨_, (HP8.out.wrote hc9 fun k hk => ⟨.inr hk, (HV.out k hk).1⟩).pair⟩)
    clear hc9
    go_wp2_with fail
    go_ret
    exact ⟨rfl, HE.out⟩
  · have k1' : (kd == 1) = false := by simpa using k1
    by_cases k2 : kd = 2
    · have k2' : (kd == 2) = true := by simpa using k2
      clear k2
      go_wp2_with fail
      refine ord_start (fun w' : World => w'.cell? ⟨bx, 1, none⟩ = some (.int .i64 m) ∧ w'.cell? ⟨bx, 2, none⟩ = some (.string sa) ∧ w'.cell? ⟨bx, 3, none⟩ = some (.string st) ∧ w'.cell? ⟨bx, 4, none⟩ = some (.slice pb nb cb)) (n := 11) (by kernel_rfl) rfl (HS.out _ Hbd.out) (fun hHeld => ?_)
      generalize W0.drew = W1 at *
      refine ord_take 0 (v := ?v13x0) rfl (by kernel_rfl) (by kernel_rfl) (by kernel_rfl) (fun _ _ _ h => h) (by rfl) (by assumption) ?y13x0 ?_
      case y13x0 => (intro w hSw; (try dsimp only at hSw); go_simp; try with_reducible rfl)
      simp only [Act.put, List.setIfInBounds_toArray, List.set_cons_zero, List.set_cons_succ]
      refine ord_take 1 (v := ?v13x1) rfl (by kernel_rfl) (by kernel_rfl) (by kernel_rfl) (fun _ _ _ h => h) (by rfl) (by assumption) ?y13x1 ?_
      case y13x1 => (intro w hSw; (try dsimp only at hSw); go_simp; try with_reducible rfl)
      simp only [Act.put, List.setIfInBounds_toArray, List.set_cons_zero, List.set_cons_succ]
      refine ord_take 2 (v := ?v13x2) rfl (by kernel_rfl) (by kernel_rfl) (by kernel_rfl) (fun _ _ _ h => h) (by rfl) (by assumption) ?y13x2 ?_
      case y13x2 => (intro w hSw; (try dsimp only at hSw); go_simp; try with_reducible rfl)
      simp only [Act.put, List.setIfInBounds_toArray, List.set_cons_zero, List.set_cons_succ]
      refine ord_take 5 (v := ?v13x5) rfl (by kernel_rfl) (by kernel_rfl) (by kernel_rfl) (fun _ _ _ h => h) (by rfl) (by assumption) ?y13x5 ?_
      case y13x5 => (intro w hSw; (try dsimp only at hSw); go_simp; try with_reducible rfl)
      simp only [Act.put, List.setIfInBounds_toArray, List.set_cons_zero, List.set_cons_succ]
      refine ord_take 6 (v := ?v13x6) rfl (by kernel_rfl) (by kernel_rfl) (by kernel_rfl) (fun _ _ _ h => h) (by rfl) (by assumption) ?y13x6 ?_
      case y13x6 => (intro w hSw; (try dsimp only at hSw); go_simp; try with_reducible rfl)
      simp only [Act.put, List.setIfInBounds_toArray, List.set_cons_zero, List.set_cons_succ]
      refine ord_take 7 (v := ?v13x7) rfl (by kernel_rfl) (by kernel_rfl) (by kernel_rfl) (fun _ _ _ h => h) (by rfl) (by assumption) ?y13x7 ?_
      case y13x7 => (intro w hSw; (try dsimp only at hSw); go_simp; try with_reducible rfl)
      simp only [Act.put, List.setIfInBounds_toArray, List.set_cons_zero, List.set_cons_succ]
      refine ord_one 3 rfl (by kernel_rfl) (by rfl) (fun K hK => ?_)
      have Hx := Lib.hid (pairf_sync HP1.out sa (by omega))
      have Hb2 := Lib.hid (old_block (.cells #[.string sa] 9) Hbd.out)
      go_wp2_with fail
      refine hK.out _ _ (HS.out _ Hb2.out) (fun hHeld => ?_)
      clear hK
      try simp only [Act.put, List.setIfInBounds_toArray, List.set_cons_zero, List.set_cons_succ]
      refine ord_one 4 rfl (by kernel_rfl) (by rfl) (fun K hK => ?_)
      go_wp2_with fail
      refine Hx.out.mono ?_
      rintro e W3 ⟨rfl, hp3, hs3⟩
      have Hb3 := Lib.hid ((hs3 bx rfl).trans Hbd.out)
      have Hy := Lib.hid (pairf_rsync hp3 sa (by omega))
      clear hp3 hs3 Hx
      go_wp2_with fail
      refine hK.out _ _ (HS.out _ Hb3.out) (fun hHeld => ?_)
      clear hK
      try simp only [Act.put, List.setIfInBounds_toArray, List.set_cons_zero, List.set_cons_succ]
      refine ord_one 8 rfl (by kernel_rfl) (by rfl) (fun K hK => ?_)
      go_wp2_with fail
      refine Hy.out.mono ?_
      rintro e W4 ⟨rfl, hp4, hs4⟩
      have Hb4 := Lib.hid ((hs4 bx rfl).trans Hb3.out)
      have HE := Lib.hid (show ∃ D' : DiskM, Pair w W4 d D' r D' from ⟨_, hp4.pair⟩)
      clear hp4 hs4 Hy
      go_wp2_with fail
      refine hK.out _ _ (HS.out _ Hb4.out) (fun hHeld => ?_)
      clear hK
      try simp only [Act.put, List.setIfInBounds_toArray, List.set_cons_zero, List.set_cons_succ]
      refine ord_take 9 (v := ?v13x9) rfl (by kernel_rfl) (by kernel_rfl) (by kernel_rfl) (fun _ _ _ h => h) (by rfl) (by assumption) ?y13x9 ?_
      case y13x9 => (intro w hSw; (try dsimp only at hSw); go_simp; try with_reducible rfl)
      simp only [Act.put, List.setIfInBounds_toArray, List.set_cons_zero, List.set_cons_succ]
      refine ord_take 10 (v := ?v13x10) rfl (by kernel_rfl) (by kernel_rfl) (by kernel_rfl) (fun _ _ _ h => h) (by rfl) (by assumption) ?y13x10 ?_
      case y13x10 => (intro w hSw; (try dsimp only at hSw); go_simp; try with_reducible rfl)
      simp only [Act.put, List.setIfInBounds_toArray, List.set_cons_zero, List.set_cons_succ]
      refine wpAnyH_done (by kernel_rfl) ?_ _
      go_wp2_with fail
      go_ret
      exact ⟨rfl, HE.out⟩
    · have k2' : (kd == 2) = false := by simpa using k2
      by_cases k3 : kd = 3
      · have k3' : (kd == 3) = true := by simpa using k3
        clear k3
        go_wp2_with fail
        refine ord_start (fun w' : World => w'.cell? ⟨bx, 1, none⟩ = some (.int .i64 m) ∧ w'.cell? ⟨bx, 2, none⟩ = some (.string sa) ∧ w'.cell? ⟨bx, 3, none⟩ = some (.string st) ∧ w'.cell? ⟨bx, 4, none⟩ = some (.slice pb nb cb)) (n := 14) (by kernel_rfl) rfl (HS.out _ Hbd.out) (fun hHeld => ?_)
        generalize W0.drew = W1 at *
        refine ord_take 0 (v := ?v15x0) rfl (by kernel_rfl) (by kernel_rfl) (by kernel_rfl) (fun _ _ _ h => h) (by rfl) (by assumption) ?y15x0 ?_
        case y15x0 => (intro w hSw; (try dsimp only at hSw); go_simp; try with_reducible rfl)
        simp only [Act.put, List.setIfInBounds_toArray, List.set_cons_zero, List.set_cons_succ]
        refine ord_take 1 (v := ?v15x1) rfl (by kernel_rfl) (by kernel_rfl) (by kernel_rfl) (fun _ _ _ h => h) (by rfl) (by assumption) ?y15x1 ?_
        case y15x1 => (intro w hSw; (try dsimp only at hSw); go_simp; try with_reducible rfl)
        simp only [Act.put, List.setIfInBounds_toArray, List.set_cons_zero, List.set_cons_succ]
        refine ord_take 2 (v := ?v15x2) rfl (by kernel_rfl) (by kernel_rfl) (by kernel_rfl) (fun _ _ _ h => h) (by rfl) (by assumption) ?y15x2 ?_
        case y15x2 => (intro w hSw; (try dsimp only at hSw); go_simp; try with_reducible rfl)
        simp only [Act.put, List.setIfInBounds_toArray, List.set_cons_zero, List.set_cons_succ]
        refine ord_take 3 (v := ?v15x3) rfl (by kernel_rfl) (by kernel_rfl) (by kernel_rfl) (fun _ _ _ h => h) (by rfl) (by assumption) ?y15x3 ?_
        case y15x3 => (intro w hSw; (try dsimp only at hSw); go_simp; try with_reducible rfl)
        simp only [Act.put, List.setIfInBounds_toArray, List.set_cons_zero, List.set_cons_succ]
        refine ord_take 4 (v := ?v15x4) rfl (by kernel_rfl) (by kernel_rfl) (by kernel_rfl) (fun _ _ _ h => h) (by rfl) (by assumption) ?y15x4 ?_
        case y15x4 => (intro w hSw; (try dsimp only at hSw); go_simp; try with_reducible rfl)
        simp only [Act.put, List.setIfInBounds_toArray, List.set_cons_zero, List.set_cons_succ]
        refine ord_take 6 (v := ?v15x6) rfl (by kernel_rfl) (by kernel_rfl) (by kernel_rfl) (fun _ _ _ h => h) (by rfl) (by assumption) ?y15x6 ?_
        case y15x6 => (intro w hSw; (try dsimp only at hSw); go_simp; try with_reducible rfl)
        simp only [Act.put, List.setIfInBounds_toArray, List.set_cons_zero, List.set_cons_succ]
        refine ord_take 7 (v := ?v15x7) rfl (by kernel_rfl) (by kernel_rfl) (by kernel_rfl) (fun _ _ _ h => h) (by rfl) (by assumption) ?y15x7 ?_
        case y15x7 => (intro w hSw; (try dsimp only at hSw); go_simp; try with_reducible rfl)
        simp only [Act.put, List.setIfInBounds_toArray, List.set_cons_zero, List.set_cons_succ]
        refine ord_take 8 (v := ?v15x8) rfl (by kernel_rfl) (by kernel_rfl) (by kernel_rfl) (fun _ _ _ h => h) (by rfl) (by assumption) ?y15x8 ?_
        case y15x8 => (intro w hSw; (try dsimp only at hSw); go_simp; try with_reducible rfl)
        simp only [Act.put, List.setIfInBounds_toArray, List.set_cons_zero, List.set_cons_succ]
        refine ord_take 9 (v := ?v15x9) rfl (by kernel_rfl) (by kernel_rfl) (by kernel_rfl) (fun _ _ _ h => h) (by rfl) (by assumption) ?y15x9 ?_
        case y15x9 => (intro w hSw; (try dsimp only at hSw); go_simp; try with_reducible rfl)
        simp only [Act.put, List.setIfInBounds_toArray, List.set_cons_zero, List.set_cons_succ]
        refine ord_take 10 (v := ?v15x10) rfl (by kernel_rfl) (by kernel_rfl) (by kernel_rfl) (fun _ _ _ h => h) (by rfl) (by assumption) ?y15x10 ?_
        case y15x10 => (intro w hSw; (try dsimp only at hSw); go_simp; try with_reducible rfl)
        simp only [Act.put, List.setIfInBounds_toArray, List.set_cons_zero, List.set_cons_succ]
        refine ord_one 5 rfl (by kernel_rfl) (by rfl) (fun K hK => ?_)
        have Hx := Lib.hid (pairf_trunc HP1.out sa (by omega) m (by omega) (by omega))
        go_wp2_with fail
        refine Hx.out.mono ?_
        rintro e W3 ⟨rfl, hp3, hs3⟩
        have Hb3 := Lib.hid ((hs3 bx rfl).trans Hbd.out)
        have Hy := Lib.hid (pairf_rtrunc hp3 sa (by omega) m (by omega) (by omega))
        clear hp3 hs3 Hx
        go_wp2_with fail
        refine hK.out _ _ (HS.out _ Hb3.out) (fun hHeld => ?_)
        clear hK
        try simp only [Act.put, List.setIfInBounds_toArray, List.set_cons_zero, List.set_cons_succ]
        refine ord_one 11 rfl (by kernel_rfl) (by rfl) (fun K hK => ?_)
        go_wp2_with fail
        refine Hy.out.mono ?_
        rintro e W4 ⟨rfl, hp4, hs4⟩
        have Hb4 := Lib.hid ((hs4 bx rfl).trans Hb3.out)
        have HE := Lib.hid (show ∃ D' : DiskM, Pair w W4 d D' r D' from ⟨_, hp4.pair⟩)
        clear hp4 hs4 Hy
        go_wp2_with fail
        refine hK.out _ _ (HS.out _ Hb4.out) (fun hHeld => ?_)
        clear hK
        try simp only [Act.put, List.setIfInBounds_toArray, List.set_cons_zero, List.set_cons_succ]
        refine ord_take 12 (v := ?v15x12) rfl (by kernel_rfl) (by kernel_rfl) (by kernel_rfl) (fun _ _ _ h => h) (by rfl) (by assumption) ?y15x12 ?_
        case y15x12 => (intro w hSw; (try dsimp only at hSw); go_simp; try with_reducible rfl)
        simp only [Act.put, List.setIfInBounds_toArray, List.set_cons_zero, List.set_cons_succ]
        refine ord_take 13 (v := ?v15x13) rfl (by kernel_rfl) (by kernel_rfl) (by kernel_rfl) (fun _ _ _ h => h) (by rfl) (by assumption) ?y15x13 ?_
        case y15x13 => (intro w hSw; (try dsimp only at hSw); go_simp; try with_reducible rfl)
        simp only [Act.put, List.setIfInBounds_toArray, List.set_cons_zero, List.set_cons_succ]
        refine wpAnyH_done (by kernel_rfl) ?_ _
        go_wp2_with fail
        go_ret
        exact ⟨rfl, HE.out⟩
      · have k3' : (kd == 3) = false := by simpa using k3
        by_cases k4 : kd = 4
        · have k4' : (kd == 4) = true := by simpa using k4
          clear k4
          go_wp2_with fail
          refine ord_start (fun w' : World => w'.cell? ⟨bx, 1, none⟩ = some (.int .i64 m) ∧ w'.cell? ⟨bx, 2, none⟩ = some (.string sa) ∧ w'.cell? ⟨bx, 3, none⟩ = some (.string st) ∧ w'.cell? ⟨bx, 4, none⟩ = some (.slice pb nb cb)) (n := 14) (by kernel_rfl) rfl (HS.out _ Hbd.out) (fun hHeld => ?_)
          generalize W0.drew = W1 at *
          refine ord_take 0 (v := ?v17x0) rfl (by kernel_rfl) (by kernel_rfl) (by kernel_rfl) (fun _ _ _ h => h) (by rfl) (by assumption) ?y17x0 ?_
          case y17x0 => (intro w hSw; (try dsimp only at hSw); go_simp; try with_reducible rfl)
          simp only [Act.put, List.setIfInBounds_toArray, List.set_cons_zero, List.set_cons_succ]
          refine ord_take 1 (v := ?v17x1) rfl (by kernel_rfl) (by kernel_rfl) (by kernel_rfl) (fun _ _ _ h => h) (by rfl) (by assumption) ?y17x1 ?_
          case y17x1 => (intro w hSw; (try dsimp only at hSw); go_simp; try with_reducible rfl)
          simp only [Act.put, List.setIfInBounds_toArray, List.set_cons_zero, List.set_cons_succ]
          refine ord_take 2 (v := ?v17x2) rfl (by kernel_rfl) (by kernel_rfl) (by kernel_rfl) (fun _ _ _ h => h) (by rfl) (by assumption) ?y17x2 ?_
          case y17x2 => (intro w hSw; (try dsimp only at hSw); go_simp; try with_reducible rfl)
          simp only [Act.put, List.setIfInBounds_toArray, List.set_cons_zero, List.set_cons_succ]
          refine ord_take 3 (v := ?v17x3) rfl (by kernel_rfl) (by kernel_rfl) (by kernel_rfl) (fun _ _ _ h => h) (by rfl) (by assumption) ?y17x3 ?_
          case y17x3 => (intro w hSw; (try dsimp only at hSw); go_simp; try with_reducible rfl)
          simp only [Act.put, List.setIfInBounds_toArray, List.set_cons_zero, List.set_cons_succ]
          refine ord_take 4 (v := ?v17x4) rfl (by kernel_rfl) (by kernel_rfl) (by kernel_rfl) (fun _ _ _ h => h) (by rfl) (by assumption) ?y17x4 ?_
          case y17x4 => (intro w hSw; (try dsimp only at hSw); go_simp; try with_reducible rfl)
          simp only [Act.put, List.setIfInBounds_toArray, List.set_cons_zero, List.set_cons_succ]
          refine ord_take 6 (v := ?v17x6) rfl (by kernel_rfl) (by kernel_rfl) (by kernel_rfl) (fun _ _ _ h => h) (by rfl) (by assumption) ?y17x6 ?_
          case y17x6 => (intro w hSw; (try dsimp only at hSw); go_simp; try with_reducible rfl)
          simp only [Act.put, List.setIfInBounds_toArray, List.set_cons_zero, List.set_cons_succ]
          refine ord_take 7 (v := ?v17x7) rfl (by kernel_rfl) (by kernel_rfl) (by kernel_rfl) (fun _ _ _ h => h) (by rfl) (by assumption) ?y17x7 ?_
          case y17x7 => (intro w hSw; (try dsimp only at hSw); go_simp; try with_reducible rfl)
          simp only [Act.put, List.setIfInBounds_toArray, List.set_cons_zero, List.set_cons_succ]
          refine ord_take 8 (v := ?v17x8) rfl (by kernel_rfl) (by kernel_rfl) (by kernel_rfl) (fun _ _ _ h => h) (by rfl) (by assumption) ?y17x8 ?_
          case y17x8 => (intro w hSw; (try dsimp only at hSw); go_simp; try with_reducible rfl)
          simp only [Act.put, List.setIfInBounds_toArray, List.set_cons_zero, List.set_cons_succ]
          refine ord_take 9 (v := ?v17x9) rfl (by kernel_rfl) (by kernel_rfl) (by kernel_rfl) (fun _ _ _ h => h) (by rfl) (by assumption) ?y17x9 ?_
          case y17x9 => (intro w hSw; (try dsimp only at hSw); go_simp; try with_reducible rfl)
          simp only [Act.put, List.setIfInBounds_toArray, List.set_cons_zero, List.set_cons_succ]
          refine ord_take 10 (v := ?v17x10) rfl (by kernel_rfl) (by kernel_rfl) (by kernel_rfl) (fun _ _ _ h => h) (by rfl) (by assumption) ?y17x10 ?_
          case y17x10 => (intro w hSw; (try dsimp only at hSw); go_simp; try with_reducible rfl)
          simp only [Act.put, List.setIfInBounds_toArray, List.set_cons_zero, List.set_cons_succ]
          refine ord_one 5 rfl (by kernel_rfl) (by rfl) (fun K hK => ?_)
          have Hx := Lib.hid (pairf_rename HP1.out sa st (by omega) (by omega))
          go_wp2_with fail
          refine Hx.out.mono ?_
          rintro e W3 ⟨rfl, hp3, hs3⟩
          have Hb3 := Lib.hid ((hs3 bx rfl).trans Hbd.out)
          have Hy := Lib.hid (pairf_rrename hp3 sa st (by omega) (by omega))
          clear hp3 hs3 Hx
          go_wp2_with fail
          refine hK.out _ _ (HS.out _ Hb3.out) (fun hHeld => ?_)
          clear hK
          try simp only [Act.put, List.setIfInBounds_toArray, List.set_cons_zero, List.set_cons_succ]
          refine ord_one 11 rfl (by kernel_rfl) (by rfl) (fun K hK => ?_)
          go_wp2_with fail
          refine Hy.out.mono ?_
          rintro e W4 ⟨rfl, hp4, hs4⟩
          have Hb4 := Lib.hid ((hs4 bx rfl).trans Hb3.out)
          have HE := Lib.hid (show ∃ D' : DiskM, Pair w W4 d D' r D' from ⟨_, hp4.pair⟩)
          clear hp4 hs4 Hy
          go_wp2_with fail
          refine hK.out _ _ (HS.out _ Hb4.out) (fun hHeld => ?_)
          clear hK
          try simp only [Act.put, List.setIfInBounds_toArray, List.set_cons_zero, List.set_cons_succ]
          refine ord_take 12 (v := ?v17x12) rfl (by kernel_rfl) (by kernel_rfl) (by kernel_rfl) (fun _ _ _ h => h) (by rfl) (by assumption) ?y17x12 ?_
          case y17x12 => (intro w hSw; (try dsimp only at hSw); go_simp; try with_reducible rfl)
          simp only [Act.put, List.setIfInBounds_toArray, List.set_cons_zero, List.set_cons_succ]
          refine ord_take 13 (v := ?v17x13) rfl (by kernel_rfl) (by kernel_rfl) (by kernel_rfl) (fun _ _ _ h => h) (by rfl) (by assumption) ?y17x13 ?_
          case y17x13 => (intro w hSw; (try dsimp only at hSw); go_simp; try with_reducible rfl)
          simp only [Act.put, List.setIfInBounds_toArray, List.set_cons_zero, List.set_cons_succ]
          refine wpAnyH_done (by kernel_rfl) ?_ _
          go_wp2_with fail
          go_ret
          exact ⟨rfl, HE.out⟩
        · have k4' : (kd == 4) = false := by simpa using k4
          by_cases k5 : kd = 5
          · have k5' : (kd == 5) = true := by simpa using k5
            clear k5
            go_wp2_with fail
            refine ord_start (fun w' : World => w'.cell? ⟨bx, 1, none⟩ = some (.int .i64 m) ∧ w'.cell? ⟨bx, 2, none⟩ = some (.string sa) ∧ w'.cell? ⟨bx, 3, none⟩ = some (.string st) ∧ w'.cell? ⟨bx, 4, none⟩ = some (.slice pb nb cb)) (n := 11) (by kernel_rfl) rfl (HS.out _ Hbd.out) (fun hHeld => ?_)
            generalize W0.drew = W1 at *
            refine ord_take 0 (v := ?v19x0) rfl (by kernel_rfl) (by kernel_rfl) (by kernel_rfl) (fun _ _ _ h => h) (by rfl) (by assumption) ?y19x0 ?_
            case y19x0 => (intro w hSw; (try dsimp only at hSw); go_simp; try with_reducible rfl)
            simp only [Act.put, List.setIfInBounds_toArray, List.set_cons_zero, List.set_cons_succ]
            refine ord_take 1 (v := ?v19x1) rfl (by kernel_rfl) (by kernel_rfl) (by kernel_rfl) (fun _ _ _ h => h) (by rfl) (by assumption) ?y19x1 ?_
            case y19x1 => (intro w hSw; (try dsimp only at hSw); go_simp; try with_reducible rfl)
            simp only [Act.put, List.setIfInBounds_toArray, List.set_cons_zero, List.set_cons_succ]
            refine ord_take 2 (v := ?v19x2) rfl (by kernel_rfl) (by kernel_rfl) (by kernel_rfl) (fun _ _ _ h => h) (by rfl) (by assumption) ?y19x2 ?_
            case y19x2 => (intro w hSw; (try dsimp only at hSw); go_simp; try with_reducible rfl)
            simp only [Act.put, List.setIfInBounds_toArray, List.set_cons_zero, List.set_cons_succ]
            refine ord_take 5 (v := ?v19x5) rfl (by kernel_rfl) (by kernel_rfl) (by kernel_rfl) (fun _ _ _ h => h) (by rfl) (by assumption) ?y19x5 ?_
            case y19x5 => (intro w hSw; (try dsimp only at hSw); go_simp; try with_reducible rfl)
            simp only [Act.put, List.setIfInBounds_toArray, List.set_cons_zero, List.set_cons_succ]
            refine ord_take 6 (v := ?v19x6) rfl (by kernel_rfl) (by kernel_rfl) (by kernel_rfl) (fun _ _ _ h => h) (by rfl) (by assumption) ?y19x6 ?_
            case y19x6 => (intro w hSw; (try dsimp only at hSw); go_simp; try with_reducible rfl)
            simp only [Act.put, List.setIfInBounds_toArray, List.set_cons_zero, List.set_cons_succ]
            refine ord_take 7 (v := ?v19x7) rfl (by kernel_rfl) (by kernel_rfl) (by kernel_rfl) (fun _ _ _ h => h) (by rfl) (by assumption) ?y19x7 ?_
            case y19x7 => (intro w hSw; (try dsimp only at hSw); go_simp; try with_reducible rfl)
            simp only [Act.put, List.setIfInBounds_toArray, List.set_cons_zero, List.set_cons_succ]
            refine ord_one 3 rfl (by kernel_rfl) (by rfl) (fun K hK => ?_)
            have Hx := Lib.hid (pairf_remove HP1.out sa (by omega))
            have Hb2 := Lib.hid (old_block (.cells #[.string sa] 9) Hbd.out)
            go_wp2_with fail
            refine hK.out _ _ (HS.out _ Hb2.out) (fun hHeld => ?_)
            clear hK
            try simp only [Act.put, List.setIfInBounds_toArray, List.set_cons_zero, List.set_cons_succ]
            refine ord_one 4 rfl (by kernel_rfl) (by rfl) (fun K hK => ?_)
            go_wp2_with fail
            refine Hx.out.mono ?_
            rintro e W3 ⟨rfl, hp3, hs3⟩
            have Hb3 := Lib.hid ((hs3 bx rfl).trans Hbd.out)
            have Hy := Lib.hid (pairf_rremove hp3 sa (by omega))
            clear hp3 hs3 Hx
            go_wp2_with fail
            refine hK.out _ _ (HS.out _ Hb3.out) (fun hHeld => ?_)
            clear hK
            try simp only [Act.put, List.setIfInBounds_toArray, List.set_cons_zero, List.set_cons_succ]
            refine ord_one 8 rfl (by kernel_rfl) (by rfl) (fun K hK => ?_)
            go_wp2_with fail
            refine Hy.out.mono ?_
            rintro e W4 ⟨rfl, hp4, hs4⟩
            have Hb4 := Lib.hid ((hs4 bx rfl).trans Hb3.out)
            have HE := Lib.hid (show ∃ D' : DiskM, Pair w W4 d D' r D' from ⟨_, hp4.pair⟩)
            clear hp4 hs4 Hy
            go_wp2_with fail
            refine hK.out _ _ (HS.out _ Hb4.out) (fun hHeld => ?_)
            clear hK
            try simp only [Act.put, List.setIfInBounds_toArray, List.set_cons_zero, List.set_cons_succ]
            refine ord_take 9 (v := ?v19x9) rfl (by kernel_rfl) (by kernel_rfl) (by kernel_rfl) (fun _ _ _ h => h) (by rfl) (by assumption) ?y19x9 ?_
            case y19x9 => (intro w hSw; (try dsimp only at hSw); go_simp; try with_reducible rfl)
            simp only [Act.put, List.setIfInBounds_toArray, List.set_cons_zero, List.set_cons_succ]
            refine ord_take 10 (v := ?v19x10) rfl (by kernel_rfl) (by kernel_rfl) (by kernel_rfl) (fun _ _ _ h => h) (by rfl) (by assumption) ?y19x10 ?_
            case y19x10 => (intro w hSw; (try dsimp only at hSw); go_simp; try with_reducible rfl)
            simp only [Act.put, List.setIfInBounds_toArray, List.set_cons_zero, List.set_cons_succ]
            refine wpAnyH_done (by kernel_rfl) ?_ _
            go_wp2_with fail
            go_ret
            exact ⟨rfl, HE.out⟩
          · have k5' : (kd == 5) = false := by simpa using k5
            by_cases k6 : kd = 6
            · have k6' : (kd == 6) = true := by simpa using k6
              clear k6
              have Hx := Lib.hid (pairf_fuse HP0.out m (by omega) (by omega))
              have hm0 := cell_of (i := 1) Hb0.out rfl
              go_wp2_with fail
              refine Hx.out.mono ?_
              rintro e W3 ⟨rfl, hp3, hs3⟩
              have hm3 := cell_of (i := 1) ((hs3 bx rfl).trans Hb0.out) rfl
              have Hy := Lib.hid (pairf_rfuse hp3 m (by omega) (by omega))
              clear hp3 hs3 Hx
              go_wp2_with fail
              refine Hy.out.mono ?_
              rintro e W4 ⟨rfl, hp4, hs4⟩
              have HE := Lib.hid (show ∃ D' : DiskM, Pair w W4 d D' r D' from ⟨_, hp4.pair⟩)
              clear hp4 hs4 Hy
              go_wp2_with fail
              go_ret
              exact ⟨rfl, HE.out⟩
            · have k6' : (kd == 6) = false := by simpa using k6
              by_cases k7 : kd = 7
              · have k7' : (kd == 7) = true := by simpa using k7
                clear k7
                have Hx := Lib.hid (pairf_crash HP0.out m (by omega) (by omega))
                have hm0 := cell_of (i := 1) Hb0.out rfl
                go_wp2_with fail
                refine Hx.out.mono ?_
                rintro e W3 ⟨rfl, hp3, hs3⟩
                have hm3 := cell_of (i := 1) ((hs3 bx rfl).trans Hb0.out) rfl
                have Hy := Lib.hid (pairf_rcrash hp3 m (by omega) (by omega))
                clear hp3 hs3 Hx
                go_wp2_with fail
                refine Hy.out.mono ?_
                rintro e W4 ⟨rfl, hp4, hs4⟩
                have HE := Lib.hid (show ∃ D' : DiskM, Pair w W4 d D' r D' from ⟨_, hp4.pair⟩)
                clear hp4 hs4 Hy
                go_wp2_with fail
                go_ret
                exact ⟨rfl, HE.out⟩
              · have k7' : (kd == 7) = false := by simpa using k7
                have Hx := Lib.hid (pairf_read HP0.out sa (by omega))
                have Hdl := Lib.hid (data_len HP0.out.okD (nm sa))
                have hm0 := cell_of (i := 2) Hb0.out rfl
                go_wp2_with fail
                refine Hx.out.mono ?_
                rintro e W3 ⟨v3, rfl, hv3, hn3, hb3, hp3⟩
                have hm3 := cell_of (i := 2) ((hb3.block bx (HP0.out.flt rfl)).trans Hb0.out) rfl
                have HP3 := Lib.hid (show PairF w W3 d D r D (BxV bx v3) from HP0.out.more hb3 fun k hk => hk.elim .inl fun h => .inr ⟨hn3 k h, OwnR.lt hv3 h⟩)
                have HV := Lib.hid (show ∀ k, v3.ownBlock = some k → w.heap.size ≤ k from fun k hk => Nat.le_trans HP0.out.bel.size (hn3 k hk))
                have Hv3 := Lib.hid hv3
                have Hy := Lib.hid (pairf_rread HP3.out sa)
                clear hv3 hn3 hb3 hp3 Hx
                go_wp2_with fail
                refine Hy.out.mono ?_
                rintro e W4 ⟨v4, rfl, hv4, hn4, hb4, hp4⟩
                have hv34 := OwnR.keep Hv3.out fun k hk => hb4.block k (HP3.out.flt (.inr hk))
                have hsm := same_calls (OwnR.holds hv34 : HasB W4 v3 _) hv4.has (Nat.le_trans Hdl.out (by decide)) (Nat.le_trans Hdl.out (by decide))
                rw [beq_self_eq_true] at hsm
                have Hsm := Lib.hid hsm
                have HP4 := Lib.hid hp4
                have Hv4 := Lib.hid (show OwnB W4 5 v3 (dataOf (Sat.get (nm sa) D.files)) from hv34)
                clear hv34 hsm hv4 hn4 hb4 hp4 Hy
                go_wp2_with fail
                refine Hsm.out.mono ?_
                rintro e W5 ⟨rfl, q5, rfl⟩
                have HP5 := Lib.hid (HP4.out.next (⟨rfl, rfl, rfl, Nat.le_refl _, fun _ _ => rfl⟩ : Below W4.heap.size W4 (W4.drewN q5)))
                have Hsp := Lib.hid (spoil3_calls (OwnR.keep Hv4.out fun k hk => rfl : OwnB (W4.drewN q5) 5 v3 (dataOf (Sat.get (nm sa) D.files))) (Nat.le_trans Hdl.out (by decide)))
                clear Hsm
                go_wp2_with fail
                refine Hsp.out.mono ?_
                rintro e W6 ⟨rfl, hc6⟩
                have HE := Lib.hid (show ∃ D' : DiskM, Pair w W6 d D' r D' from ⟨_, (HP5.out.wrote hc6 fun k hk => ⟨.inr hk, HV.out k hk⟩).pair⟩)
                clear hc6
                go_wp2_with fail
                go_ret
                exact ⟨rfl, HE.out⟩
end Go.Proofs.Ytdlbamhabenhgaa

namespace Go.Proofs.Ytdlbamhabenhgaa
open Go.RowKit Go.Sat Go.Maps

theorem names_there {D : DiskM} (h : D.OK) {y : Bs} (hy : y ∈ namesOf D) : readE (Sat.get y D.files) = 0 := by
  obtain ⟨p, hp, rfl⟩ := List.mem_map.1 hy
  rw [get_of_mem h.srt (n := p.1) (a := p.2) hp]
  rfl

set_option maxRecDepth 100000 in
set_option maxHeartbeats 8000000 in
theorem stood3_calls {w w1 : World} {d r : Nat} {D : DiskM} (hp : Pair w w1 d D r D) :
    Calls Try.prog 36 #[.pointer (some ⟨d, 0, none⟩), .pointer (some ⟨r, 0, none⟩)] w1 (fun e w' => e = .returned (.bool true) ∧ Pair w w' d D r D) := by
  have Hr1 := Lib.hid (pair_rlist hp)
  have hcount : (namesOf D).length ≤ 4096 := by unfold namesOf; rw [List.length_map]; exact hp.okD.count
  have hno : ∀ x ∈ namesOf D, x.length ≤ 64 ∧ readE (Sat.get x D.files) = 0 := by
    intro x hx
    refine ⟨?_, names_there hp.okD hx⟩
    obtain ⟨q, hq, rfl⟩ := List.mem_map.1 hx
    exact (okN_string (hp.okD.names q hq)).2
  have Hno := Lib.hid hno
  clear hno hp
  go_enter Try.func36, Try.ntmps36
  go_wp2_with fail
  refine Hr1.out.mono ?_
  rintro e w4 ⟨v4, rfl, hv4, hn4, hb4, hp4⟩
  have Hl1 := Lib.hid (pair_list hp4)
  have hv4' : HasN w4 v4 (namesOf D) := OwnR.holds hv4
  have Hv4 := Lib.hid hv4'
  clear hv4 hv4' hn4 hb4 hp4 Hr1
  go_wp2_with fail
  refine Hl1.out.mono ?_
  rintro e w5 ⟨v5, rfl, hv5, hn5, hb5, hp5⟩
  have hv5' : HasN w5 v5 (namesOf D) := OwnR.holds hv5
  have hv45 := Hv4.out.far hb5
  have htx := texts_calls hv5' hv45 (by omega) (by omega)
  rw [beq_self_eq_true] at htx
  have Htx := Lib.hid htx
  have Hp5 := Lib.hid hp5
  have Hn5 := Lib.hid hv45
  clear hv5 hn5 hb5 hp5 hv5' hv45 htx Hv4 Hl1
  go_wp2_with fail
  refine Htx.out.mono ?_
  rintro e w6 ⟨rfl, q6, rfl⟩
  obtain ⟨pn, cn, rfl⟩ := Hn5.out.slice
  have Hus := Lib.hid (pair_used (Hp5.out.drewN q6))
  have Hn6 := Lib.hid (Hn5.out.far ⟨rfl, rfl, rfl, Nat.le_refl _, fun _ _ => rfl⟩ : HasN (w5.drewN q6) (.slice pn (namesOf D).length cn) (namesOf D))
  clear Htx Hp5 Hn5
  generalize w5.drewN q6 = w7 at *
  generalize hns : namesOf D = nl at *
  generalize hN : nl.length = N at *
  have HN := Lib.hid hN
  clear hns hN
  go_wp2_with fail
  refine Hus.out.mono ?_
  rintro e w8 ⟨rfl, hb8, hp8⟩
  have Hru := Lib.hid (pair_rused hp8)
  have Hp8 := Lib.hid hp8
  have Hn8 := Lib.hid (Hn6.out.far hb8 : HasN w8 (.slice pn N cn) nl)
  clear Hus hb8 hp8 Hn6
  generalize D.used = U at *
  go_wp2_with fail
  refine Hru.out.mono ?_
  rintro e w9 ⟨rfl, rfl⟩
  clear Hru
  go_wp2_with fail
  go_loopw [6] (fun i wi => ∃ j : Nat, j ≤ N ∧ i = .int .i64 j ∧ Pair w wi d D r D ∧ Below w9.heap.size w9 wi) (fun i _ => N - (intOf i).toNat)
  case atStart => exact ⟨0, Nat.zero_le _, rfl, Hp8.out, Below.refl _ _⟩
  case round =>
    clear Hp8
    rename_i wi _
    obtain ⟨j, hj, rfl, hp, hb⟩ := hrel
    by_cases hjn : j < N
    · have hjl : j < nl.length := by rw [HN.out]; exact hjn
      have hy := List.getElem?_eq_getElem hjl
      obtain ⟨hyl, hye⟩ := Hno.out _ (List.getElem_mem hjl)
      rcases Hn8.out.at with h0 | ⟨b2, o2, c2, e2, hc2⟩
      · rw [h0] at hjl
        simp at hjl
      rw [HN.out] at e2
      cases e2
      have hcy0 := hc2 j _ hy
      have hcy := (hb.cell (World.block_lt_of_cell? w9 _ hcy0)).trans hcy0
      rw [enc_str] at hcy
      generalize nl[j] = y at *
      have hys : (⟨y.toArray⟩ : ByteArray).size ≤ 9223372036854775807 := by
        have : (⟨y.toArray⟩ : ByteArray).size = y.length := by rw [← nm_len, nm_str]
        omega
      have hrd := pair_read hp ⟨y.toArray⟩ hys
      rw [show readE (Sat.get (nm ⟨y.toArray⟩) D.files) = 0 by rw [nm_str]; exact hye] at hrd
      have Hrd := Lib.hid hrd
      have Hdl := Lib.hid (data_len hp.okD (nm ⟨y.toArray⟩))
      have Hbb := Lib.hid hb
      clear hp hb hcy0 hc2 hjl hy hyl hrd hye
      go_wp2_with fail
      refine Hrd.out.mono ?_
      rintro e w10 ⟨v8, rfl, hv8, hn8, hb8, hp8⟩
      have hcy8 := (hb8.cell (World.block_lt_of_cell? _ _ hcy)).trans hcy
      have Hrd2 := Lib.hid (pair_rread hp8 ⟨y.toArray⟩)
      have Hv8 := Lib.hid hv8
      have Hb8 := Lib.hid (Hbb.out.trans (hb8.mono Hbb.out.size))
      clear hv8 hn8 hb8 hp8 Hrd
      go_wp2_with fail
      refine Hrd2.out.mono ?_
      rintro e w11 ⟨v9, rfl, hv9, hn9, hb9, hp9⟩
      have hsm := same_calls (ownB_keep Hv8.out hb9).has hv9.has (Nat.le_trans Hdl.out (by decide)) (Nat.le_trans Hdl.out (by decide))
      rw [beq_self_eq_true] at hsm
      have Hsm := Lib.hid hsm
      have Hp9 := Lib.hid hp9
      have Hb9 := Lib.hid (Hb8.out.trans (hb9.mono Hb8.out.size))
      clear hv9 hn9 hb9 hp9 hsm Hrd2 Hb8 Hv8 Hbb hcy hcy8
      go_wp2_with fail
      refine Hsm.out.mono ?_
      rintro e w12 ⟨rfl, q10, rfl⟩
      have HE := Lib.hid (And.intro (Hp9.out.drewN q10) (Hb9.out.trans ⟨rfl, rfl, rfl, Nat.le_refl _, fun _ _ => rfl⟩ : Below w9.heap.size w9 (w11.drewN q10)))
      clear Hp9 Hb9 Hsm
      go_wp2_with fail
      go_roundw
      case rel => exact ⟨j + 1, by omega, by go_num, HE.out.1, HE.out.2⟩
      case measure => simp [intOf]; omega
    · have HE := Lib.hid hp
      clear hp hb
      go_wp2_with fail
      go_ret
      exact ⟨rfl, HE.out⟩
end Go.Proofs.Ytdlbamhabenhgaa

namespace Go.Proofs.Ytdlbamhabenhgaa
open Go.RowKit Go.Sat Go.Maps

def Light3 (l : List Step3) (hv : Bool) : Prop := hv = false → ∀ i s, i < 120 → l[i]? = some s → s.a.size + s.to.size + s.b.length ≤ 8000

def HeavyTold3 (w : World) (l : List Step3) (e : Ending) (w' : World) : Prop := ∃ hv, e = .returned (.bool hv) ∧ Light3 l hv ∧ ∃ q, w' = w.drewN q

set_option maxRecDepth 100000 in
set_option maxHeartbeats 2000000 in
theorem heavy3_calls {w : World} {p : Option Addr} {n c : Nat} {l : List Step3} (hx : Steps3 w p n l) (hn : n ≤ 140737488355328) :
    Calls Try.prog 31 #[.slice p n c] w (HeavyTold3 w l) := by
  have Hx := Lib.hid hx
  clear hx
  go_enter Try.func31, Try.ntmps31
  go_wp2_with fail
  go_loopw [3, 4] (fun a i wr => ∃ k x q : Nat, k ≤ n ∧ k ≤ 120 ∧ i = .int .i64 k ∧ a = .int .i64 x ∧ x ≤ 8000 ∧ (∀ i s, i < k → l[i]? = some s → s.a.size + s.to.size + s.b.length ≤ x) ∧ wr = w.drewN q) (fun _ i _ => n - (intOf i).toNat)
  case atStart => exact ⟨0, 0, 0, Nat.zero_le _, by omega, rfl, rfl, by omega, fun i s h => by omega, rfl⟩
  case round =>
    obtain ⟨k, x, q, hk, hk8, rfl, rfl, hx5, hall, rfl⟩ := hrel
    have Hall := Lib.hid hall
    clear hall
    by_cases hlt : k < n
    · by_cases h80 : k < 120
      · have hlen := Hx.out.1
        have hkl : k < l.length := by omega
        obtain ⟨s, hs⟩ : ∃ s, l[k]? = some s := ⟨_, List.getElem?_eq_getElem hkl⟩
        rcases Hx.out.2 with h0 | ⟨g, o, rfl, hat⟩
        · rw [h0] at hkl
          simp at hkl
        have hst := hat k s hs
        obtain ⟨-, -, ok1, ok2, ok3⟩ := hst.ok
        have c2 := hst.ca
        have c3 := hst.ct
        have c4 := hst.c4
        have hnb : s.nb = s.b.length := by obtain ⟨_, _, e⟩ := hst.hb.slice; simp only [Value.slice.injEq] at e; exact e.2.1
        have Hs := Lib.hid hs
        have Hnb := Lib.hid hnb
        rw [← hnb] at ok3
        clear hst hat hs hkl hnb hlen
        generalize hNb : s.nb = nb at *
        generalize hNa : s.a.size = na at *
        generalize hNt : s.to.size = nt at *
        have HNb := Lib.hid hNb
        clear hNb
        by_cases hy5 : x + na + nt + nb ≤ 8000
        · have Hnext := Lib.hid (show ∀ i t, i < k + 1 → l[i]? = some t → t.a.size + t.to.size + t.b.length ≤ x + na + nt + nb from fun i t hi ht => by
            by_cases hik : i < k
            · have := Hall.out i t hik ht
              omega
            · obtain rfl : i = k := by omega
              rw [Hs.out] at ht
              cases ht
              rw [← Hnb.out]
              omega)
          go_wp2_with fail
          go_quiet (fail)
          go_wp2_with fail
          go_roundw
          case rel =>
            exact ⟨k + 1, x + na + nt + nb, _, by omega, by omega, by go_num, by go_num, hy5, Hnext.out, rfl⟩
          case measure => simp [intOf]; omega
        · go_wp2_with fail
          go_quiet (fail)
          go_wp2_with fail
          go_ret
          exact ⟨true, rfl, (fun h => by cases h), _, rfl⟩
      · obtain rfl : k = 120 := by omega
        have Hf := Lib.hid (show Light3 l false from fun _ i s hi hs => Nat.le_trans (Hall.out i s hi hs) hx5)
        go_wp2_with fail
        go_ret
        exact ⟨false, rfl, Hf.out, q, rfl⟩
    · have Hf := Lib.hid (show Light3 l false from fun _ i s hi hs => by
        have h1 := (List.getElem?_eq_some_iff.1 hs).1
        have h2 := Hx.out.1
        exact Nat.le_trans (Hall.out i s (by omega) hs) hx5)
      go_wp2_with fail
      go_ret
      exact ⟨false, rfl, Hf.out, q, rfl⟩
end Go.Proofs.Ytdlbamhabenhgaa

namespace Go.Proofs.Ytdlbamhabenhgaa
open Go.RowKit Go.Sat Go.Maps

set_option maxRecDepth 100000 in
set_option maxHeartbeats 16000000 in
theorem dplays_walk {w : World} {p : Option Addr} {n c : Nat} {l : List Step3} (hx : Steps3 w p n l) (hn : n ≤ 140737488355328) (z : Int) (hz : -9223372036854775808 ≤ z) (hz' : z ≤ 9223372036854775807) :
    Calls Try.prog 9 #[.int .i64 z, .slice p n c] w (True3 w) := by
  have Hx := Lib.hid hx
  have Hhv := Lib.hid (heavy3_calls (c := c) hx hn)
  clear hx
  go_enter Try.func9, Try.ntmps9
  go_wp2_with fail
  refine Hhv.out.mono ?_
  rintro e w1 ⟨hv, rfl, hlight, q, rfl⟩
  have Hlight := Lib.hid hlight
  have hb1 : Below w.heap.size w (w.drewN q) := ⟨rfl, rfl, rfl, Nat.le_refl _, fun _ _ => rfl⟩
  have Hkn := Lib.hid (show Calls Try.prog 14 #[] (w.drewN q) (True3 w) from (known_calls (w.drewN q)).mono fun e w' ⟨he, hb⟩ => ⟨he, hb1.trans hb⟩)
  clear hlight Hhv
  cases hv with
  | true =>
    go_wp2_with fail
    refine Hkn.out.mono ?_
    rintro e w' ⟨rfl, hb⟩
    go_wp2_with fail
    go_ret
    exact ⟨rfl, hb⟩
  | false =>
    by_cases hz0 : 0 ≤ z ∧ z ≤ 1073741824
    · obtain ⟨h0, h1⟩ := hz0
      have Hnew := Lib.hid (st_new (w := w) (w1 := w.drewN q) z h0 h1 hb1)
      clear hb1 Hkn
      go_wp2_with fail
      refine Hnew.out.mono ?_
      rintro e w2 ⟨d, rfl, hd⟩
      have Hnew2 := Lib.hid (pair_new hd z h0 h1)
      clear hd Hnew
      go_wp2_with fail
      refine Hnew2.out.mono ?_
      rintro e w3 ⟨r, rfl, hp⟩
      have Hp := Lib.hid hp
      clear hp Hnew2
      generalize DiskM.fresh z.toNat = D0 at *
      go_wp2_with fail
      go_loopw [5, 7, 9] (fun pd pr i wr => ∃ (k : Nat) (d r : Nat) (D : DiskM), k ≤ n ∧ k ≤ 120 ∧ pd = .pointer (some ⟨d, 0, none⟩) ∧ pr = .pointer (some ⟨r, 0, none⟩) ∧ i = .int .i64 k ∧ Pair w wr d D r D) (fun _ _ i _ => n - (intOf i).toNat)
      case atStart => exact ⟨0, d, r, D0, Nat.zero_le _, by omega, rfl, rfl, rfl, Hp.out⟩
      case round =>
        clear Hp
        obtain ⟨k, d, r, D, hk, hk8, rfl, rfl, rfl, hp⟩ := hrel
        by_cases hlt : k < n
        · by_cases h80 : k < 120
          · have hkl : k < l.length := by have := Hx.out.1; omega
            obtain ⟨s, hs⟩ : ∃ s, l[k]? = some s := ⟨_, List.getElem?_eq_getElem hkl⟩
            rcases Hx.out.2 with hl0 | ⟨g, o, rfl, hat⟩
            · rw [hl0] at hkl
              simp at hkl
            have hst := hat k s hs
            have hsum := Hlight.out rfl k s h80 hs
            have hbel := hp.bel
            obtain ⟨kd, m, sa, st, pb, nb, cb, b⟩ := s
            dsimp only at hsum
            have c0 : wr.cell? ⟨g, o + k * 5, none⟩ = some (.int .i64 kd) := (hbel.cell (World.block_lt_of_cell? w _ hst.ck)).trans hst.ck
            have c1 : wr.cell? ⟨g, o + k * 5 + 1, none⟩ = some (.int .i64 m) := (hbel.cell (World.block_lt_of_cell? w _ hst.cn)).trans hst.cn
            have c2 : wr.cell? ⟨g, o + k * 5 + 2, none⟩ = some (.string sa) := (hbel.cell (World.block_lt_of_cell? w _ hst.ca)).trans hst.ca
            have c3 : wr.cell? ⟨g, o + k * 5 + 3, none⟩ = some (.string st) := (hbel.cell (World.block_lt_of_cell? w _ hst.ct)).trans hst.ct
            have c4 : wr.cell? ⟨g, o + k * 5 + 4, none⟩ = some (.slice pb nb cb) := (hbel.cell (World.block_lt_of_cell? w _ hst.c4)).trans hst.c4
            obtain ⟨okk, okm, -, -, -⟩ := hst.ok
            dsimp only at okk okm
            have Hdo := Lib.hid (does3_calls hp kd m sa st pb nb cb b okk okm (by omega) (by omega) hst.hb (by omega))
            have Hp := Lib.hid hp
            clear hst hat hs hkl hbel hp hsum
            by_cases k8 : kd = 8
            · subst k8
              have Hcp := Lib.hid (pair_copy Hp.out)
              clear Hdo
              go_wp2_with fail
              refine Hcp.out.mono ?_
              rintro e w4 ⟨d2, rfl, h3⟩
              have Hrc := Lib.hid (three_rcopy h3)
              clear h3 Hcp
              go_wp2_with fail
              refine Hrc.out.mono ?_
              rintro e w5 ⟨r2, rfl, h4⟩
              have hlit : HasB (w5.alloc (.cells #[.int .u8 120] 5 (1, 2))) (.slice (some ⟨w5.heap.size, 0, none⟩) 1 1) [120] := has_lit #[.int .u8 120] [120] _ 1 1 rfl rfl rfl
              have hrows := rows_one hlit 23 (0, 0) (w5.heap.size + 1) 1 (by simp) (Nat.le_refl _)
              have hap := four_told h4 (wc := (w5.alloc (.cells #[.int .u8 120] 5 (1, 2))).alloc (.cells #[.slice (some ⟨w5.heap.size, 0, none⟩) 1 1] 23)) (((Below.refl _ _).alloc (Nat.le_refl _) _).alloc (by simp) _) (fun G hS => st_append ((hS.alloc (.cells #[.int .u8 120] 5 (1, 2))).alloc (.cells #[.slice (some ⟨w5.heap.size, 0, none⟩) 1 1] 23)) ⟨#[115, 112, 111, 105, 108, 116]⟩ _ [[120]] hrows (by decide) (by decide) (by decide))
              have Hap := Lib.hid hap
              have kc := fun (w : World) (C : Array Value) (n c : Nat) => Lib.run_convert_bytes_const (P := Try.prog) w 23 5 C n c Try.underlying23 Try.underlying5
              clear hlit hrows hap h4 Hrc
              go_wp2_with fail
              refine Hap.out.mono ?_
              rintro e w6 ⟨rfl, h5⟩
              have Hcr := Lib.hid (four_told0 h5 fun G hS => st_crash hS 0 (by decide) (by decide))
              clear h5 Hap
              go_wp2_with fail
              refine Hcr.out.mono ?_
              rintro e w7 ⟨rfl, h6⟩
              have HE := Lib.hid (show Pair w w7 d2 D.copy r2 D.copy from h6.pair)
              clear h6 Hcr
              go_wp2_with fail
              go_roundw
              case rel => exact ⟨k + 1, d2, r2, _, by omega, by omega, rfl, rfl, by go_num, HE.out⟩
              case measure => simp [intOf]; omega
            · have k8' : (kd == 8) = false := by simpa using k8
              clear k8
              go_wp2_with fail
              refine Hdo.out.mono ?_
              rintro e w4 ⟨rfl, D', hp4⟩
              have Hso := Lib.hid (stood3_calls hp4)
              clear hp4 Hdo
              go_wp2_with fail
              refine Hso.out.mono ?_
              rintro e w5 ⟨rfl, hp5⟩
              have HE := Lib.hid hp5
              clear hp5 Hso
              go_wp2_with fail
              go_roundw
              case rel => exact ⟨k + 1, d, r, D', by omega, by omega, rfl, rfl, by go_num, HE.out⟩
              case measure => simp [intOf]; omega
          · have hk1 : k = 120 := by omega
            have Hbe := Lib.hid hp.bel
            have Hkn := Lib.hid (known_calls wr)
            clear hp
            go_wp2_with fail
            refine Hkn.out.mono ?_
            rintro e w' ⟨rfl, hb⟩
            have Hbf := Lib.hid (Hbe.out.trans (hb.mono Hbe.out.size))
            clear hb
            go_wp2_with fail
            go_ret
            exact ⟨rfl, Hbf.out⟩
        · have Hbe := Lib.hid hp.bel
          have Hkn := Lib.hid (known_calls wr)
          clear hp
          go_wp2_with fail
          refine Hkn.out.mono ?_
          rintro e w' ⟨rfl, hb⟩
          have Hbf := Lib.hid (Hbe.out.trans (hb.mono Hbe.out.size))
          clear hb
          go_wp2_with fail
          go_ret
          exact ⟨rfl, Hbf.out⟩
    · have hzz : z < 0 ∨ 1073741824 < z := by omega
      have Hnew := Lib.hid (new_bad z (w.drewN q) hzz)
      have Hnew2 := Lib.hid (rnew_bad (w.drewN q) z hzz)
      clear hz0 hzz
      go_wp2_with fail
      refine Hnew.out.mono ?_
      rintro e w2 ⟨rfl, rfl⟩
      go_wp2_with fail
      refine Hnew2.out.mono ?_
      rintro e w3 ⟨rfl, rfl⟩
      go_wp2_with fail
      refine Hkn.out.mono ?_
      rintro e w' ⟨rfl, hb⟩
      go_wp2_with fail
      go_ret
      exact ⟨rfl, hb⟩
end Go.Proofs.Ytdlbamhabenhgaa
