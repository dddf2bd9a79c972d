/- The contract of frame.Decode: the walk. -/
import Derived.Test.YtdlbamhabenhgaaDec
import Derived.Test.YtdlbamhabenhgaaOrd
namespace Go.Proofs.Ytdlbamhabenhgaa
open Go.RowKit Go.Sat Go.Maps

theorem decoded_bad {w w' : World} {b : Bs} {k : Nat} (he : decE b = k) (hk : k ≠ 0) (hb : Below w.heap.size w w') : Decoded w b (.returned (.tuple #[.slice none 0 0, .int .i64 0, .int .i64 (k : Int)])) w' := by
  refine ⟨.slice none 0 0, ?_, ?_, fun j hj => (by cases hj), hb⟩
  · rw [he]
    unfold decL
    rw [he, if_neg hk]
    rfl
  · unfold decB
    rw [he, if_neg hk]
    exact OwnR.nil _ _ _

set_option maxRecDepth 100000 in
set_option maxHeartbeats 4000000 in
theorem dec_calls {w : World} {p : Option Addr} {n c : Nat} {b : Bs} (h : HasB w (.slice p n c) b) (hnc : n ≤ c) (hl : b.length ≤ 140737488355328) :
    Calls Try.prog 81 #[.slice p n c] w (Decoded w b) := by
  have hn : n = b.length := (bytes_in h).1
  subst hn
  have H := Lib.hid h
  obtain ⟨i0, hi, hz0, hz1, hz2⟩ := info_parts (show (Try.prog.info? 5).map (fun i => (i.zero, i.size, i.bytes)) = some (some (.int .u8 0), 1, 1) by kernel_rfl)
  by_cases h8 : b.length < 8
  · have Hfin := Lib.hid (decoded_bad (w := w) (w' := w) (b := b) (k := 2) (by unfold decE; rw [if_pos h8]) (by decide) (Below.refl _ _))
    generalize hN : b.length = N at *
    clear hN h
    go_enter Try.func81, Try.ntmps81
    go_wp2_with fail
    go_ret3
    exact Hfin.out
  · have H4 := Lib.hid (fun (W : World) (hb : Below w.heap.size w W) => four_at (h.below hb) (by omega))
    have H8 := Lib.hid (fun (W : World) (hb : Below w.heap.size w W) => HasB.cut (h.below hb) (k := 8) (by omega) c)
    have Hhd := Lib.hid (fun w => head_calls (w := w) (fourAt b) (fourAt_lt b))
    have hsl : ∀ W, (Instr.slice 23 (.slice p b.length c) none (some (.int .i64 8)) none).run Try.prog W = .ok (.slice p 8 c) W := fun W => run_upto W Try.underlying23 hi p _ c 8 (by omega)
    by_cases hh : b.take 8 = headN (fourAt b)
    · have Hh := Lib.hid (show (b.take 8 == headN (fourAt b)) = true by rw [hh, beq_self_eq_true])
      by_cases hm : 1048576 < fourAt b
      · have Hfin := Lib.hid (fun W => decoded_bad (w := w) (w' := W) (b := b) (k := 5) (by unfold decE; rw [if_neg h8, if_neg (by simpa using hh), if_pos hm]) (by decide))
        generalize hM : fourAt b = m at *
        generalize hN : b.length = N at *
        clear hN hM h hh
        go_enter Try.func81, Try.ntmps81
        go_wp2_with fail
        refine (H4.out _ (Below.refl _ _)).mono ?_
        rintro e w1 ⟨rfl, q, rfl⟩
        go_wp2_with fail
        refine ord_start (fun _ : World => True) (n := 7) (by kernel_rfl) rfl trivial (fun hHeld => ?_)
        refine ord_take 0 (v := ?v1x0) rfl (by kernel_rfl) (by kernel_rfl) (by kernel_rfl) (fun _ _ _ h => h) (by rfl) (by assumption) ?y1x0 ?_
        case y1x0 => (intro w hSw; (try dsimp only at hSw); go_simp; try with_reducible rfl)
        simp only [Act.put, List.setIfInBounds_toArray, List.set_cons_zero, List.set_cons_succ]
        refine ord_take 1 (v := ?v1x1) rfl (by kernel_rfl) (by kernel_rfl) (by kernel_rfl) (fun _ _ _ h => h) (by rfl) (by assumption) ?y1x1 ?_
        case y1x1 => (intro w hSw; (try dsimp only at hSw); go_simp; try with_reducible rfl)
        simp only [Act.put, List.setIfInBounds_toArray, List.set_cons_zero, List.set_cons_succ]
        refine ord_take 2 (v := ?v1x2) rfl (by kernel_rfl) (by kernel_rfl) (by kernel_rfl) (fun _ _ _ h => h) (by rfl) (by assumption) ?y1x2 ?_
        case y1x2 => (intro w hSw; (try dsimp only at hSw); go_simp; try with_reducible rfl)
        simp only [Act.put, List.setIfInBounds_toArray, List.set_cons_zero, List.set_cons_succ]
        refine ord_one 3 rfl (by kernel_rfl) (by rfl) (fun K hK => ?_)
        go_wp2_with fail
        refine (Hhd.out _).mono ?_
        rintro e w2 ⟨v2, rfl, hv2, hb2⟩
        have B2 := Lib.hid (below_to (show Below w.heap.size w (w.drewN q).drew from ⟨rfl, rfl, rfl, Nat.le_refl _, fun _ _ => rfl⟩) hb2)
        have heq := equal_calls (H8.out _ B2.out) hv2
        rw [Hh.out] at heq
        have Heq := Lib.hid heq
        clear hv2 hb2 heq
        go_wp2_with fail
        refine hK.out _ _ (trivial) (fun hHeld => ?_)
        clear hK
        try simp only [Act.put, List.setIfInBounds_toArray, List.set_cons_zero, List.set_cons_succ]
        refine ord_one 4 rfl (by kernel_rfl) (by rfl) (fun K hK => ?_)
        go_wp2_with fail
        refine Heq.out.mono ?_
        rintro e w3 ⟨rfl, rfl⟩
        go_wp2_with fail
        refine hK.out _ _ (trivial) (fun hHeld => ?_)
        clear hK
        try simp only [Act.put, List.setIfInBounds_toArray, List.set_cons_zero, List.set_cons_succ]
        refine ord_take 5 (v := ?v1x5) rfl (by kernel_rfl) (by kernel_rfl) (by kernel_rfl) (fun _ _ _ h => h) (by rfl) (by assumption) ?y1x5 ?_
        case y1x5 => (intro w hSw; (try dsimp only at hSw); go_simp; try with_reducible rfl)
        simp only [Act.put, List.setIfInBounds_toArray, List.set_cons_zero, List.set_cons_succ]
        refine ord_take 6 (v := ?v1x6) rfl (by kernel_rfl) (by kernel_rfl) (by kernel_rfl) (fun _ _ _ h => h) (by rfl) (by assumption) ?y1x6 ?_
        case y1x6 => (intro w hSw; (try dsimp only at hSw); go_simp; try with_reducible rfl)
        simp only [Act.put, List.setIfInBounds_toArray, List.set_cons_zero, List.set_cons_succ]
        refine wpAnyH_done (by kernel_rfl) ?_ _
        go_wp2_with fail
        go_ret3
        exact Hfin.out _ B2.out
      · by_cases hd : b.length < fourAt b + 12
        · have Hfin := Lib.hid (fun W => decoded_bad (w := w) (w' := W) (b := b) (k := 2) (by unfold decE; rw [if_neg h8, if_neg (by simpa using hh), if_neg hm, if_pos hd]) (by decide))
          generalize hM : fourAt b = m at *
          generalize hN : b.length = N at *
          clear hN hM h hh
          go_enter Try.func81, Try.ntmps81
          go_wp2_with fail
          refine (H4.out _ (Below.refl _ _)).mono ?_
          rintro e w1 ⟨rfl, q, rfl⟩
          go_wp2_with fail
          refine ord_start (fun _ : World => True) (n := 7) (by kernel_rfl) rfl trivial (fun hHeld => ?_)
          refine ord_take 0 (v := ?v2x0) rfl (by kernel_rfl) (by kernel_rfl) (by kernel_rfl) (fun _ _ _ h => h) (by rfl) (by assumption) ?y2x0 ?_
          case y2x0 => (intro w hSw; (try dsimp only at hSw); go_simp; try with_reducible rfl)
          simp only [Act.put, List.setIfInBounds_toArray, List.set_cons_zero, List.set_cons_succ]
          refine ord_take 1 (v := ?v2x1) rfl (by kernel_rfl) (by kernel_rfl) (by kernel_rfl) (fun _ _ _ h => h) (by rfl) (by assumption) ?y2x1 ?_
          case y2x1 => (intro w hSw; (try dsimp only at hSw); go_simp; try with_reducible rfl)
          simp only [Act.put, List.setIfInBounds_toArray, List.set_cons_zero, List.set_cons_succ]
          refine ord_take 2 (v := ?v2x2) rfl (by kernel_rfl) (by kernel_rfl) (by kernel_rfl) (fun _ _ _ h => h) (by rfl) (by assumption) ?y2x2 ?_
          case y2x2 => (intro w hSw; (try dsimp only at hSw); go_simp; try with_reducible rfl)
          simp only [Act.put, List.setIfInBounds_toArray, List.set_cons_zero, List.set_cons_succ]
          refine ord_one 3 rfl (by kernel_rfl) (by rfl) (fun K hK => ?_)
          go_wp2_with fail
          refine (Hhd.out _).mono ?_
          rintro e w2 ⟨v2, rfl, hv2, hb2⟩
          have B2 := Lib.hid (below_to (show Below w.heap.size w (w.drewN q).drew from ⟨rfl, rfl, rfl, Nat.le_refl _, fun _ _ => rfl⟩) hb2)
          have heq := equal_calls (H8.out _ B2.out) hv2
          rw [Hh.out] at heq
          have Heq := Lib.hid heq
          clear hv2 hb2 heq
          go_wp2_with fail
          refine hK.out _ _ (trivial) (fun hHeld => ?_)
          clear hK
          try simp only [Act.put, List.setIfInBounds_toArray, List.set_cons_zero, List.set_cons_succ]
          refine ord_one 4 rfl (by kernel_rfl) (by rfl) (fun K hK => ?_)
          go_wp2_with fail
          refine Heq.out.mono ?_
          rintro e w3 ⟨rfl, rfl⟩
          go_wp2_with fail
          refine hK.out _ _ (trivial) (fun hHeld => ?_)
          clear hK
          try simp only [Act.put, List.setIfInBounds_toArray, List.set_cons_zero, List.set_cons_succ]
          refine ord_take 5 (v := ?v2x5) rfl (by kernel_rfl) (by kernel_rfl) (by kernel_rfl) (fun _ _ _ h => h) (by rfl) (by assumption) ?y2x5 ?_
          case y2x5 => (intro w hSw; (try dsimp only at hSw); go_simp; try with_reducible rfl)
          simp only [Act.put, List.setIfInBounds_toArray, List.set_cons_zero, List.set_cons_succ]
          refine ord_take 6 (v := ?v2x6) rfl (by kernel_rfl) (by kernel_rfl) (by kernel_rfl) (fun _ _ _ h => h) (by rfl) (by assumption) ?y2x6 ?_
          case y2x6 => (intro w hSw; (try dsimp only at hSw); go_simp; try with_reducible rfl)
          simp only [Act.put, List.setIfInBounds_toArray, List.set_cons_zero, List.set_cons_succ]
          refine wpAnyH_done (by kernel_rfl) ?_ _
          go_wp2_with fail
          go_ret3
          exact Hfin.out _ B2.out
        · have hpos : 0 < b.length := by omega
          rcases h.at with e | ⟨g, o, c2, e, -⟩
          · rw [e] at hpos
            simp at hpos
          cases e
          have Hf := Lib.hid (fun (W : World) (hb : Below w.heap.size w W) => four_at (HasB.from (h.below hb) (k := 8 + fourAt b) (by omega) (c - (8 + fourAt b))) (by rw [List.length_drop]; omega))
          have Hs := Lib.hid (fun (W : World) (hb : Below w.heap.size w W) => HasB.cut (h.below hb) (k := 8 + fourAt b) (by omega) c)
          have HE : decE b = if fourAt (b.drop (8 + fourAt b)) ≠ sumN (b.take (8 + fourAt b)) then 4 else 0 := by unfold decE; rw [if_neg h8, if_neg (by simpa using hh), if_neg hm, if_neg hd]
          have HEl := Lib.hid (show decE b = 0 → decL b = fourAt b + 12 ∧ decB b = (b.take (8 + fourAt b)).drop 8 from fun e => ⟨by unfold decL; rw [if_pos e], by unfold decB; rw [if_pos e, List.take_drop]⟩)
          have hlen : (b.take (8 + fourAt b)).length = 8 + fourAt b := by rw [List.length_take]; omega
          generalize fourAt b = m at *
          generalize hN : b.length = N at *
          generalize b.take (8 + m) = Y at *
          generalize fourAt (b.drop (8 + m)) = q4 at *
          have HEE := Lib.hid HE
          have Hlen := Lib.hid hlen
          clear hN h hh hlen HE
          go_enter Try.func81, Try.ntmps81
          go_wp2_with fail
          refine (H4.out _ (Below.refl _ _)).mono ?_
          rintro e w1 ⟨rfl, q, rfl⟩
          go_wp2_with fail
          refine ord_start (fun _ : World => True) (n := 7) (by kernel_rfl) rfl trivial (fun hHeld => ?_)
          refine ord_take 0 (v := ?v5x0) rfl (by kernel_rfl) (by kernel_rfl) (by kernel_rfl) (fun _ _ _ h => h) (by rfl) (by assumption) ?y5x0 ?_
          case y5x0 => (intro w hSw; (try dsimp only at hSw); go_simp; try with_reducible rfl)
          simp only [Act.put, List.setIfInBounds_toArray, List.set_cons_zero, List.set_cons_succ]
          refine ord_take 1 (v := ?v5x1) rfl (by kernel_rfl) (by kernel_rfl) (by kernel_rfl) (fun _ _ _ h => h) (by rfl) (by assumption) ?y5x1 ?_
          case y5x1 => (intro w hSw; (try dsimp only at hSw); go_simp; try with_reducible rfl)
          simp only [Act.put, List.setIfInBounds_toArray, List.set_cons_zero, List.set_cons_succ]
          refine ord_take 2 (v := ?v5x2) rfl (by kernel_rfl) (by kernel_rfl) (by kernel_rfl) (fun _ _ _ h => h) (by rfl) (by assumption) ?y5x2 ?_
          case y5x2 => (intro w hSw; (try dsimp only at hSw); go_simp; try with_reducible rfl)
          simp only [Act.put, List.setIfInBounds_toArray, List.set_cons_zero, List.set_cons_succ]
          refine ord_one 3 rfl (by kernel_rfl) (by rfl) (fun K hK => ?_)
          go_wp2_with fail
          refine (Hhd.out _).mono ?_
          rintro e w2 ⟨v2, rfl, hv2, hb2⟩
          have B2 := Lib.hid (below_to (show Below w.heap.size w (w.drewN q).drew from ⟨rfl, rfl, rfl, Nat.le_refl _, fun _ _ => rfl⟩) hb2)
          have heq := equal_calls (H8.out _ B2.out) hv2
          rw [Hh.out] at heq
          have Heq := Lib.hid heq
          clear hv2 hb2 heq
          go_wp2_with fail
          refine hK.out _ _ (trivial) (fun hHeld => ?_)
          clear hK
          try simp only [Act.put, List.setIfInBounds_toArray, List.set_cons_zero, List.set_cons_succ]
          refine ord_one 4 rfl (by kernel_rfl) (by rfl) (fun K hK => ?_)
          go_wp2_with fail
          refine Heq.out.mono ?_
          rintro e w3 ⟨rfl, rfl⟩
          go_wp2_with fail
          refine hK.out _ _ (trivial) (fun hHeld => ?_)
          clear hK
          try simp only [Act.put, List.setIfInBounds_toArray, List.set_cons_zero, List.set_cons_succ]
          refine ord_take 5 (v := ?v5x5) rfl (by kernel_rfl) (by kernel_rfl) (by kernel_rfl) (fun _ _ _ h => h) (by rfl) (by assumption) ?y5x5 ?_
          case y5x5 => (intro w hSw; (try dsimp only at hSw); go_simp; try with_reducible rfl)
          simp only [Act.put, List.setIfInBounds_toArray, List.set_cons_zero, List.set_cons_succ]
          refine ord_take 6 (v := ?v5x6) rfl (by kernel_rfl) (by kernel_rfl) (by kernel_rfl) (fun _ _ _ h => h) (by rfl) (by assumption) ?y5x6 ?_
          case y5x6 => (intro w hSw; (try dsimp only at hSw); go_simp; try with_reducible rfl)
          simp only [Act.put, List.setIfInBounds_toArray, List.set_cons_zero, List.set_cons_succ]
          refine wpAnyH_done (by kernel_rfl) ?_ _
          go_wp2_with fail
          refine (Hf.out _ B2.out).mono ?_
          rintro e w4 ⟨rfl, q5, rfl⟩
          have B4 := Lib.hid (below_to B2.out (show Below w3.heap.size w3 (w3.drewN q5) from ⟨rfl, rfl, rfl, Nat.le_refl _, fun _ _ => rfl⟩))
          have hys := Hs.out _ B4.out
          obtain ⟨p6, c6, e6⟩ := hys.slice
          have hsm := sum_calls (rows_one hys 23 (0, 0) _ 1 rfl (Nat.le_refl _)) (by decide) (by simp [Hlen.out]; omega)
          rw [show [Y].flatten = Y by simp, sumF_nat] at hsm
          have Hsm := Lib.hid hsm
          have B5 := Lib.hid (below_to B4.out (below_al (w3.drewN q5) (.cells #[.slice (some ⟨g, o, none⟩) (8 + m) c] 23)))
          clear hys e6 hsm
          by_cases heq : q4 = sumN Y
          · have he0 : decE b = 0 := by rw [HEE.out, if_neg (by simpa using heq)]
            have hne : ((q4 : Int) != (sumN Y : Int)) = false := by simp [heq]
            obtain ⟨hL, hB⟩ := HEl.out he0
            have hcl := clone_calls (HasB.from (Hs.out _ B5.out) (k := 8) (by rw [Hlen.out]; omega) (c - 8)) (by rw [List.length_drop, Hlen.out]; omega)
            have Hcl := Lib.hid hcl
            have Hfin := Lib.hid (And.intro he0 (And.intro hL hB))
            generalize sumN Y = q7 at *
            clear hcl he0 hL hB heq
            go_wp2_with fail
            refine Hsm.out.mono ?_
            rintro e w6 ⟨rfl, rfl⟩
            rw [show 8 + m - 8 = m by omega] at Hcl
            go_wp2_with fail
            refine Hcl.out.mono ?_
            rintro e w7 ⟨v7, rfl, hv7, hn7, hb7⟩
            have Hd := Lib.hid (show Decoded w b (.returned (.tuple #[v7, .int .i64 (8 + (m : Int) + 4), .int .i64 0])) w7 from by
              obtain ⟨h0, hL, hB⟩ := Hfin.out
              refine ⟨v7, ?_, by rw [hB]; exact hv7, fun k hk => Nat.le_trans B5.out.size (hn7 k hk), below_to B5.out hb7⟩
              rw [hL, h0, show ((m + 12 : Nat) : Int) = 8 + (m : Int) + 4 by omega]
              rfl)
            clear hv7 hn7 hb7
            go_wp2_with fail
            go_ret3
            exact Hd.out
          · have hfin := fun W => decoded_bad (w := w) (w' := W) (b := b) (k := 4) (by rw [HEE.out, if_pos heq]) (by decide)
            have Hfin := Lib.hid hfin
            have hne : ((q4 : Int) != (sumN Y : Int)) = true := by
              simp only [bne_iff_ne, ne_eq, Int.natCast_inj]
              exact heq
            generalize sumN Y = q7 at *
            clear hfin heq
            go_wp2_with fail
            refine Hsm.out.mono ?_
            rintro e w6 ⟨rfl, rfl⟩
            go_wp2_with fail
            go_ret3
            exact Hfin.out _ B5.out
    · have Hh := Lib.hid (show (b.take 8 == headN (fourAt b)) = false by rw [beq_eq_false_iff_ne]; exact hh)
      have Hfin := Lib.hid (fun W => decoded_bad (w := w) (w' := W) (b := b) (k := 4) (by unfold decE; rw [if_neg h8, if_pos hh]) (by decide))
      generalize hM : fourAt b = m at *
      generalize hN : b.length = N at *
      clear hN hM h hh
      go_enter Try.func81, Try.ntmps81
      go_wp2_with fail
      refine (H4.out _ (Below.refl _ _)).mono ?_
      rintro e w1 ⟨rfl, q, rfl⟩
      go_wp2_with fail
      refine ord_start (fun _ : World => True) (n := 7) (by kernel_rfl) rfl trivial (fun hHeld => ?_)
      refine ord_take 0 (v := ?v4x0) rfl (by kernel_rfl) (by kernel_rfl) (by kernel_rfl) (fun _ _ _ h => h) (by rfl) (by assumption) ?y4x0 ?_
      case y4x0 => (intro w hSw; (try dsimp only at hSw); go_simp; try with_reducible rfl)
      simp only [Act.put, List.setIfInBounds_toArray, List.set_cons_zero, List.set_cons_succ]
      refine ord_take 1 (v := ?v4x1) rfl (by kernel_rfl) (by kernel_rfl) (by kernel_rfl) (fun _ _ _ h => h) (by rfl) (by assumption) ?y4x1 ?_
      case y4x1 => (intro w hSw; (try dsimp only at hSw); go_simp; try with_reducible rfl)
      simp only [Act.put, List.setIfInBounds_toArray, List.set_cons_zero, List.set_cons_succ]
      refine ord_take 2 (v := ?v4x2) rfl (by kernel_rfl) (by kernel_rfl) (by kernel_rfl) (fun _ _ _ h => h) (by rfl) (by assumption) ?y4x2 ?_
      case y4x2 => (intro w hSw; (try dsimp only at hSw); go_simp; try with_reducible rfl)
      simp only [Act.put, List.setIfInBounds_toArray, List.set_cons_zero, List.set_cons_succ]
      refine ord_one 3 rfl (by kernel_rfl) (by rfl) (fun K hK => ?_)
      go_wp2_with fail
      refine (Hhd.out _).mono ?_
      rintro e w2 ⟨v2, rfl, hv2, hb2⟩
      have B2 := Lib.hid (below_to (show Below w.heap.size w (w.drewN q).drew from ⟨rfl, rfl, rfl, Nat.le_refl _, fun _ _ => rfl⟩) hb2)
      have heq := equal_calls (H8.out _ B2.out) hv2
      rw [Hh.out] at heq
      have Heq := Lib.hid heq
      clear hv2 hb2 heq
      go_wp2_with fail
      refine hK.out _ _ (trivial) (fun hHeld => ?_)
      clear hK
      try simp only [Act.put, List.setIfInBounds_toArray, List.set_cons_zero, List.set_cons_succ]
      refine ord_one 4 rfl (by kernel_rfl) (by rfl) (fun K hK => ?_)
      go_wp2_with fail
      refine Heq.out.mono ?_
      rintro e w3 ⟨rfl, rfl⟩
      go_wp2_with fail
      refine hK.out _ _ (trivial) (fun hHeld => ?_)
      clear hK
      try simp only [Act.put, List.setIfInBounds_toArray, List.set_cons_zero, List.set_cons_succ]
      refine ord_take 5 (v := ?v4x5) rfl (by kernel_rfl) (by kernel_rfl) (by kernel_rfl) (fun _ _ _ h => h) (by rfl) (by assumption) ?y4x5 ?_
      case y4x5 => (intro w hSw; (try dsimp only at hSw); go_simp; try with_reducible rfl)
      simp only [Act.put, List.setIfInBounds_toArray, List.set_cons_zero, List.set_cons_succ]
      refine ord_take 6 (v := ?v4x6) rfl (by kernel_rfl) (by kernel_rfl) (by kernel_rfl) (fun _ _ _ h => h) (by rfl) (by assumption) ?y4x6 ?_
      case y4x6 => (intro w hSw; (try dsimp only at hSw); go_simp; try with_reducible rfl)
      simp only [Act.put, List.setIfInBounds_toArray, List.set_cons_zero, List.set_cons_succ]
      refine wpAnyH_done (by kernel_rfl) ?_ _
      go_wp2_with fail
      go_ret3
      exact Hfin.out _ B2.out
end Go.Proofs.Ytdlbamhabenhgaa
