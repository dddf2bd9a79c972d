/- KeepPlays: the walk. (The switch's drawn regions are printed by mkk.py.) -/
import Derived.Deep.CutBlock
import Derived.Deep.CutRange
import Derived.Test.YtdlbamhabenhgaaUM
namespace Go.Proofs.Ytdlbamhabenhgaa
open Go.RowKit Go.Sat Go.Maps

set_option maxRecDepth 100000 in
set_option maxHeartbeats 16000000 in
theorem kplays_walk {w : World} {K : Nat} {p : Option Addr} {n c : Nat} {l : List Step4} (hx : Steps4 K w p n l) (hK : K ≤ 1048576) (hn : n ≤ 1048576) (z : Int) (hz : -9223372036854775808 ≤ z) (hz' : z ≤ 9223372036854775807) :
    Calls Try.prog 13 #[.int .i64 z, .slice p n c] w (True3 w) := by
  have Hx := Lib.hid hx
  have Hhv := Lib.hid (heavy4_calls (c := c) hx hK hn)
  obtain ⟨i0, hi, hzz0, hzz1, hzz2⟩ := info_parts (show (Try.prog.info? 5).map (fun i => (i.zero, i.size, i.bytes)) = some (some (.int .u8 0), 1, 1) by kernel_rfl)
  clear hx
  go_enter Try.func13, Try.ntmps13
  go_wp2_with fail
  refine Hhv.out.mono ?_
  rintro e w1 ⟨hv, rfl, hlight, q, rfl⟩
  have Hlight := Lib.hid hlight
  have hb1 : Below w.heap.size w (w.drewN q) := ⟨rfl, rfl, rfl, Nat.le_refl _, fun _ _ => rfl⟩
  have Hkn := Lib.hid (show Calls Try.prog 24 #[] (w.drewN q) (True3 w) from (known4_calls (w.drewN q)).mono fun e w' ⟨he, hb⟩ => ⟨he, hb1.trans hb⟩)
  clear hlight Hhv
  cases hv with
  | true =>
    go_wp2_with fail
    refine Hkn.out.mono ?_
    rintro e w' ⟨rfl, hb⟩
    go_wp2_with fail
    go_ret
    exact ⟨rfl, hb⟩
  | false =>
    by_cases hz0 : 0 ≤ z ∧ z ≤ 1048576
    · obtain ⟨h0, h1⟩ := hz0
      have Hnew := Lib.hid (st_new (w := w) (w1 := w.drewN q) z h0 (by omega) hb1)
      clear hb1 Hkn
      go_wp2_with fail
      refine Hnew.out.mono ?_
      rintro e w2 ⟨d, rfl, hd⟩
      have Hnew2 := Lib.hid (pair_new hd z h0 (by omega))
      clear hd Hnew
      go_wp2_with fail
      refine Hnew2.out.mono ?_
      rintro e w3 ⟨r, rfl, hp⟩
      have Hp := Lib.hid hp
      clear hp Hnew2
      generalize DiskM.fresh z.toNat = D0 at *
      go_wp2_with fail
      go_loopw [9] (fun i wr => ∃ (k : Nat) (D : DiskM), k ≤ n ∧ k ≤ 80 ∧ i = .int .i64 k ∧ Pair w wr d D r D) (fun i _ => n - (intOf i).toNat)
      case atStart => exact ⟨0, D0, Nat.zero_le _, by omega, rfl, Hp.out⟩
      case round =>
        clear Hp
        obtain ⟨k, D, hk, hk8, rfl, hp⟩ := hrel
        by_cases hlt : k < n
        · by_cases h80 : k < 80
          · have hkl : k < l.length := by have := Hx.out.1; omega
            obtain ⟨s, hs⟩ : ∃ s, l[k]? = some s := ⟨_, List.getElem?_eq_getElem hkl⟩
            rcases Hx.out.2 with hl0 | ⟨g, o, rfl, hat⟩
            · rw [hl0] at hkl
              simp at hkl
            have hst := hat k s hs
            have hsum := Hlight.out rfl k s h80 hs
            have hbel := hp.bel
            obtain ⟨kd, m, sn, pa, na, ca, pb, nb, cb, ps, ns, cs, a, b, stay⟩ := s
            dsimp only at hsum
            have c0 : wr.cell? ⟨g, o + k * 6, none⟩ = some (.int .i64 kd) := (hbel.cell (World.block_lt_of_cell? w _ hst.ck)).trans hst.ck
            have c1 : wr.cell? ⟨g, o + k * 6 + 1, none⟩ = some (.int .i64 m) := (hbel.cell (World.block_lt_of_cell? w _ hst.cn)).trans hst.cn
            have c2 : wr.cell? ⟨g, o + k * 6 + 2, none⟩ = some (.string sn) := (hbel.cell (World.block_lt_of_cell? w _ hst.cm)).trans hst.cm
            have c3 : wr.cell? ⟨g, o + k * 6 + 3, none⟩ = some (.slice pa na ca) := (hbel.cell (World.block_lt_of_cell? w _ hst.c3)).trans hst.c3
            have c4 : wr.cell? ⟨g, o + k * 6 + 4, none⟩ = some (.slice pb nb cb) := (hbel.cell (World.block_lt_of_cell? w _ hst.c4)).trans hst.c4
            have c5 : wr.cell? ⟨g, o + k * 6 + 5, none⟩ = some (.slice ps ns cs) := (hbel.cell (World.block_lt_of_cell? w _ hst.c5)).trans hst.c5
            obtain ⟨okk, ⟨okm1, okm2⟩, oksn, -, -, okst, -⟩ := hst.ok
            dsimp only at okk okm1 okm2 oksn okst
            have hla : a.length = na := by obtain ⟨_, _, e⟩ := hst.ha.slice; simp only [Value.slice.injEq] at e; exact e.2.1.symm
            have hlb : b.length = nb := by obtain ⟨_, _, e⟩ := hst.hb.slice; simp only [Value.slice.injEq] at e; exact e.2.1.symm
            have hls : stay.length = ns := by obtain ⟨_, _, e⟩ := hst.hs.slice; simp only [Value.slice.injEq] at e; exact e.2.1.symm
            have HaB := Lib.hid (show ∀ W, Below w.heap.size w W → HasB W (.slice pa na ca) a from fun W hb => HasB.below hst.ha hb)
            have HbB := Lib.hid (show ∀ W, Below w.heap.size w W → HasB W (.slice pb nb cb) b from fun W hb => HasB.below hst.hb hb)
            have HsN := Lib.hid (show HasN w (.slice ps ns cs) stay from hst.hs)
            have Ha := Lib.hid (show ∀ W, Below w.heap.size w W → Holds W 1 (.slice pa na ca) na (bytesV a) from fun W hb => by
              have h : HasB W (.slice pa na ca) a := HasB.below hst.ha hb
              unfold HasB at h
              rwa [hla] at h)
            have Hb := Lib.hid (show ∀ W, Below w.heap.size w W → Holds W 1 (.slice pb nb cb) nb (bytesV b) from fun W hb => by
              have h : HasB W (.slice pb nb cb) b := HasB.below hst.hb hb
              unfold HasB at h
              rwa [hlb] at h)
            have Hfl := Lib.hid (show [a, b].flatten = a ++ b by simp)
            rw [hla, hlb] at hsum
            rw [hls] at okst
            have Hst := Lib.hid hst
            have Hla := Lib.hid hla
            have Hlb := Lib.hid hlb
            have Hls := Lib.hid hls
            have Hp := Lib.hid hp
            clear hst hp hat hs hkl hbel hla hlb hls
            go_upto_block 2 with fail
            go_cut [11, 12, 13, 14, 15] from 49 to 201 (fun ok _ _ _ _ wx => ok = .bool true ∧ ∃ D' : DiskM, Pair w wx d D' r D')
            case first =>
              have HP0 := Lib.hid (show PairF w (wr.alloc (.cells #[.int .i64 kd, .int .i64 m, .string sn, .slice pa na ca, .slice pb nb cb, .slice ps ns cs] 66)) d D r D (fun k => k = wr.heap.size) from (Hp.out.apart.box _).less fun k hk => .inr hk)
              have Hb0 := Lib.hid (new_block wr (.cells #[.int .i64 kd, .int .i64 m, .string sn, .slice pa na ca, .slice pb nb cb, .slice ps ns cs] 66))
              have cb0 := cell_of Hb0.out (i := 0) rfl
              have cb1 := cell_of Hb0.out (i := 1) rfl
              have cb2 := cell_of Hb0.out (i := 2) rfl
              generalize wr.alloc (.cells #[.int .i64 kd, .int .i64 m, .string sn, .slice pa na ca, .slice pb nb cb, .slice ps ns cs] 66) = W0 at *
              generalize wr.heap.size = bx at *
              clear Hp c0 c1 c2 c3 c4 c5
              have HP1 := Lib.hid (HP0.out.next (Below.refl _ W0).drew)
              have Hbd := Lib.hid (show W0.drew.heap[bx]? = _ from Hb0.out)
              have HS := Lib.hid (show ∀ W : World, W.heap[bx]? = some (.cells #[.int .i64 kd, .int .i64 m, .string sn, .slice pa na ca, .slice pb nb cb, .slice ps ns cs] 66 (0, 0)) → W.cell? ⟨bx, 2, none⟩ = some (.string sn) ∧ W.cell? ⟨bx, 3, none⟩ = some (.slice pa na ca) ∧ W.cell? ⟨bx, 4, none⟩ = some (.slice pb nb cb) ∧ W.cell? ⟨bx, 5, none⟩ = some (.slice ps ns cs) from fun W h => ⟨cell_of h rfl, cell_of h rfl, cell_of h rfl, cell_of h rfl⟩)
              by_cases k1 : kd = 1
              · subst k1
                go_wp2_with fail
                refine ord_start (fun w' : World => w'.cell? ⟨bx, 2, none⟩ = some (.string sn) ∧ w'.cell? ⟨bx, 3, none⟩ = some (.slice pa na ca) ∧ w'.cell? ⟨bx, 4, none⟩ = some (.slice pb nb cb) ∧ w'.cell? ⟨bx, 5, none⟩ = some (.slice ps ns cs)) (n := 22) (by kernel_rfl) rfl (HS.out _ Hbd.out) (fun hHeld => ?_)
                generalize W0.drew = W1 at *
                refine ord_take 0 (v := ?v14x0) rfl (by kernel_rfl) (by kernel_rfl) (by kernel_rfl) (fun _ _ _ h => h) (by rfl) (by assumption) ?y14x0 ?_
                case y14x0 => (intro w hSw; (try dsimp only at hSw); go_simp; try with_reducible rfl)
                simp only [Act.put, List.setIfInBounds_toArray, List.set_cons_zero, List.set_cons_succ]
                refine ord_take 1 (v := ?v14x1) rfl (by kernel_rfl) (by kernel_rfl) (by kernel_rfl) (fun _ _ _ h => h) (by rfl) (by assumption) ?y14x1 ?_
                case y14x1 => (intro w hSw; (try dsimp only at hSw); go_simp; try with_reducible rfl)
                simp only [Act.put, List.setIfInBounds_toArray, List.set_cons_zero, List.set_cons_succ]
                refine ord_take 2 (v := ?v14x2) rfl (by kernel_rfl) (by kernel_rfl) (by kernel_rfl) (fun _ _ _ h => h) (by rfl) (by assumption) ?y14x2 ?_
                case y14x2 => (intro w hSw; (try dsimp only at hSw); go_simp; try with_reducible rfl)
                simp only [Act.put, List.setIfInBounds_toArray, List.set_cons_zero, List.set_cons_succ]
                refine ord_take 3 (v := ?v14x3) rfl (by kernel_rfl) (by kernel_rfl) (by kernel_rfl) (fun _ _ _ h => h) (by rfl) (by assumption) ?y14x3 ?_
                case y14x3 => (intro w hSw; (try dsimp only at hSw); go_simp; try with_reducible rfl)
                simp only [Act.put, List.setIfInBounds_toArray, List.set_cons_zero, List.set_cons_succ]
                refine ord_take 4 (v := ?v14x4) rfl (by kernel_rfl) (by kernel_rfl) (by kernel_rfl) (fun _ _ _ h => h) (by rfl) (by assumption) ?y14x4 ?_
                case y14x4 => (intro w hSw; (try dsimp only at hSw); go_simp; try with_reducible rfl)
                simp only [Act.put, List.setIfInBounds_toArray, List.set_cons_zero, List.set_cons_succ]
                refine ord_take 5 (v := ?v14x5) rfl (by kernel_rfl) (by kernel_rfl) (by kernel_rfl) (fun _ _ _ h => h) (by rfl) (by assumption) ?y14x5 ?_
                case y14x5 => (intro w hSw; (try dsimp only at hSw); go_simp; try with_reducible rfl)
                simp only [Act.put, List.setIfInBounds_toArray, List.set_cons_zero, List.set_cons_succ]
                refine ord_take 6 (v := ?v14x6) rfl (by kernel_rfl) (by kernel_rfl) (by kernel_rfl) (fun _ _ _ h => h) (by rfl) (by assumption) ?y14x6 ?_
                case y14x6 => (intro w hSw; (try dsimp only at hSw); go_simp; try with_reducible rfl)
                simp only [Act.put, List.setIfInBounds_toArray, List.set_cons_zero, List.set_cons_succ]
                refine ord_take 9 (v := ?v14x9) rfl (by kernel_rfl) (by kernel_rfl) (by kernel_rfl) (fun _ _ _ h => h) (by rfl) (by assumption) ?y14x9 ?_
                case y14x9 => (intro w hSw; (try dsimp only at hSw); go_simp; try with_reducible rfl)
                simp only [Act.put, List.setIfInBounds_toArray, List.set_cons_zero, List.set_cons_succ]
                refine ord_take 10 (v := ?v14x10) rfl (by kernel_rfl) (by kernel_rfl) (by kernel_rfl) (fun _ _ _ h => h) (by rfl) (by assumption) ?y14x10 ?_
                case y14x10 => (intro w hSw; (try dsimp only at hSw); go_simp; try with_reducible rfl)
                simp only [Act.put, List.setIfInBounds_toArray, List.set_cons_zero, List.set_cons_succ]
                refine ord_take 11 (v := ?v14x11) rfl (by kernel_rfl) (by kernel_rfl) (by kernel_rfl) (fun _ _ _ h => h) (by rfl) (by assumption) ?y14x11 ?_
                case y14x11 => (intro w hSw; (try dsimp only at hSw); go_simp; try with_reducible rfl)
                simp only [Act.put, List.setIfInBounds_toArray, List.set_cons_zero, List.set_cons_succ]
                refine ord_take 13 (v := ?v14x13) rfl (by kernel_rfl) (by kernel_rfl) (by kernel_rfl) (fun _ _ _ h => h) (by rfl) (by assumption) ?y14x13 ?_
                case y14x13 => (intro w hSw; (try dsimp only at hSw); go_simp; try with_reducible rfl)
                simp only [Act.put, List.setIfInBounds_toArray, List.set_cons_zero, List.set_cons_succ]
                refine ord_take 14 (v := ?v14x14) rfl (by kernel_rfl) (by kernel_rfl) (by kernel_rfl) (fun _ _ _ h => h) (by rfl) (by assumption) ?y14x14 ?_
                case y14x14 => (intro w hSw; (try dsimp only at hSw); go_simp; try with_reducible rfl)
                simp only [Act.put, List.setIfInBounds_toArray, List.set_cons_zero, List.set_cons_succ]
                refine ord_take 16 (v := ?v14x16) rfl (by kernel_rfl) (by kernel_rfl) (by kernel_rfl) (fun _ _ _ h => h) (by rfl) (by assumption) ?y14x16 ?_
                case y14x16 => (intro w hSw; (try dsimp only at hSw); go_simp; try with_reducible rfl)
                simp only [Act.put, List.setIfInBounds_toArray, List.set_cons_zero, List.set_cons_succ]
                refine ord_take 17 (v := ?v14x17) rfl (by kernel_rfl) (by kernel_rfl) (by kernel_rfl) (fun _ _ _ h => h) (by rfl) (by assumption) ?y14x17 ?_
                case y14x17 => (intro w hSw; (try dsimp only at hSw); go_simp; try with_reducible rfl)
                simp only [Act.put, List.setIfInBounds_toArray, List.set_cons_zero, List.set_cons_succ]
                refine ord_two 7 12 rfl rfl (by kernel_rfl) (by rfl) (by rfl) (fun K hK => ?_) (fun K hK => ?_)
                · go_wp2_with fail
                  have hrows := rows_two (w := W1) (v1 := .slice pa na ca) (v2 := .slice pb nb cb) (l1 := a) (l2 := b) (HaB.out _ HP1.out.bel) (HbB.out _ HP1.out.bel) 23 (0, 0) W1.heap.size 2 rfl (Nat.le_refl _)
                  have HP2 := Lib.hid (HP1.out.next ((Below.refl _ _).alloc (Nat.le_refl _) (.cells #[.slice pa na ca, .slice pb nb cb] 23)))
                  have Hb2 := Lib.hid (old_block (.cells #[.slice pa na ca, .slice pb nb cb] 23) Hbd.out)
                  have Hrows := Lib.hid hrows
                  clear hrows
                  refine hK.out _ _ (HS.out _ Hb2.out) (fun hHeld => ?_)
                  clear hK
                  try simp only [Act.put, List.setIfInBounds_toArray, List.set_cons_zero, List.set_cons_succ]
                  generalize W1.alloc (.cells #[.slice pa na ca, .slice pb nb cb] 23) = W2 at *
                  generalize W1.heap.size = g1 at *
                  refine ord_two 8 12 rfl rfl (by kernel_rfl) (by rfl) (by rfl) (fun K hK => ?_) (fun K hK => ?_)
                  · have Hsv := Lib.hid (pairf_save HP2.out sn (by omega) Hrows.out (by omega) (by rw [Hfl.out, List.length_append, Hla.out, Hlb.out]; omega))
                    rw [Hfl.out] at Hsv
                    go_wp2_with fail
                    refine Hsv.out.mono ?_
                    rintro e w3 ⟨rfl, hp3, hs3⟩
                    have Hb3 := Lib.hid ((hs3 bx rfl).trans Hb2.out)
                    have HP3 := Lib.hid hp3
                    clear hp3 hs3 Hsv
                    go_wp2_with fail
                    refine hK.out _ _ (HS.out _ Hb3.out) (fun hHeld => ?_)
                    clear hK
                    try simp only [Act.put, List.setIfInBounds_toArray, List.set_cons_zero, List.set_cons_succ]
                    refine ord_one 12 rfl (by kernel_rfl) (by rfl) (fun K hK => ?_)
                    go_wp2_with fail
                    have HP4 := Lib.hid (show PairF w (w3.alloc (.cells #[] 5)) d (D.save (nm sn) (a ++ b)).1 r D (BxV bx (.slice (some ⟨w3.heap.size, 0, none⟩) 0 0)) from (HP3.out.box (.cells #[] 5)).less fun k hk => hk.imp id fun e => by cases e; rfl)
                    have Hb4 := Lib.hid (old_block (.cells #[] 5) Hb3.out)
                    have HO4 := Lib.hid (own_empty w3 5)
                    have Hg2 := Lib.hid (show ∀ k, (Value.slice (some ⟨w3.heap.size, 0, none⟩) 0 0).ownBlock = some k → w.heap.size ≤ k ∧ k ≠ bx from fun k hk => by
                      cases hk
                      exact ⟨HP3.out.bel.size, fun e => by have h1 := lt_of_block Hb3.out; have e1 : w3.heap.size = bx := e; omega⟩)
                    refine hK.out _ _ (HS.out _ Hb4.out) (fun hHeld => ?_)
                    clear hK
                    try simp only [Act.put, List.setIfInBounds_toArray, List.set_cons_zero, List.set_cons_succ]
                    generalize w3.alloc (.cells #[] 5) = W4 at *
                    generalize w3.heap.size = g2 at *
                    refine ord_one 15 rfl (by kernel_rfl) (by rfl) (fun K hK => ?_)
                    refine wp_app (.tmp 79) (.tmp 81) 23 (by rfl) 5 i0 (.int .u8 0) 1 1 Try.underlying23 hi hzz0 hzz1 hzz2 rfl (by decide) (.slice (some ⟨g2, 0, none⟩) 0 0) 0 [] (by rfl) HO4.out (.slice pa na ca) na (bytesV a) (by rfl) (Ha.out _ HP4.out.bel) (bytesV_one _) (by unfold maxLen; omega) (by omega) ?_
                    intro v5 w5 hown5 hgrow5 hloc5
                    rw [Nat.zero_add, List.nil_append] at hown5
                    obtain ⟨hp5, hv5, hb5⟩ := HP4.out.app Hg2.out hgrow5 hloc5 hown5
                    have Hb5 := Lib.hid (hb5.trans Hb4.out)
                    have HP5 := Lib.hid hp5
                    have Hown5 := Lib.hid hown5
                    have Hv5 := Lib.hid hv5
                    clear hgrow5 hloc5 hown5 hp5 hv5 hb5
                    refine hK.out _ _ (HS.out _ Hb5.out) (fun hHeld => ?_)
                    clear hK
                    try simp only [Act.put, List.setIfInBounds_toArray, List.set_cons_zero, List.set_cons_succ]
                    refine ord_one 18 rfl (by kernel_rfl) (by rfl) (fun K hK => ?_)
                    refine wp_app (.tmp 82) (.tmp 84) 23 (by rfl) 5 i0 (.int .u8 0) 1 1 Try.underlying23 hi hzz0 hzz1 hzz2 rfl (by decide) v5 na (bytesV a) (by rfl) Hown5.out (.slice pb nb cb) nb (bytesV b) (by rfl) (Hb.out _ HP5.out.bel) (bytesV_one _) (by unfold maxLen; omega) (by omega) ?_
                    intro v6 w6 hown6 hgrow6 hloc6
                    obtain ⟨hp6, hv6, hb6⟩ := HP5.out.app Hv5.out hgrow6 hloc6 hown6
                    have Hb6 := Lib.hid (hb6.trans Hb5.out)
                    have h6 : OwnB w6 5 v6 (a ++ b) := by
                      unfold OwnB
                      rw [bytesV_app, List.length_append, Hla.out, Hlb.out]
                      exact hown6
                    obtain ⟨p6, c6, e6⟩ := h6.slice
                    rw [List.length_append, Hla.out, Hlb.out] at e6
                    subst e6
                    have hrs := pairf_rsave hp6 sn (by omega) h6.has (by rw [List.length_append, Hla.out, Hlb.out]; omega)
                    have Hrs := Lib.hid hrs
                    clear hgrow6 hloc6 hown6 hp6 hv6 hb6 h6 hrs
                    refine hK.out _ _ (HS.out _ Hb6.out) (fun hHeld => ?_)
                    clear hK
                    try simp only [Act.put, List.setIfInBounds_toArray, List.set_cons_zero, List.set_cons_succ]
                    refine ord_one 19 rfl (by kernel_rfl) (by rfl) (fun K hK => ?_)
                    go_wp2_with fail
                    refine Hrs.out.mono ?_
                    rintro e w7 ⟨rfl, hp7, hs7⟩
                    have HE := Lib.hid (show ∃ D' : DiskM, Pair w w7 d D' r D' from ⟨_, hp7.pair⟩)
                    have Hb7 := Lib.hid ((hs7 bx (.inl rfl)).trans Hb6.out)
                    clear hp7 hs7
                    go_wp2_with fail
                    refine hK.out _ _ (HS.out _ Hb7.out) (fun hHeld => ?_)
                    clear hK
                    try simp only [Act.put, List.setIfInBounds_toArray, List.set_cons_zero, List.set_cons_succ]
                    refine ord_take 20 (v := ?v15x20) rfl (by kernel_rfl) (by kernel_rfl) (by kernel_rfl) (fun _ _ _ h => h) (by rfl) (by assumption) ?y15x20 ?_
                    case y15x20 => (intro w hSw; (try dsimp only at hSw); go_simp; try with_reducible rfl)
                    simp only [Act.put, List.setIfInBounds_toArray, List.set_cons_zero, List.set_cons_succ]
                    refine ord_take 21 (v := ?v15x21) rfl (by kernel_rfl) (by kernel_rfl) (by kernel_rfl) (fun _ _ _ h => h) (by rfl) (by assumption) ?y15x21 ?_
                    case y15x21 => (intro w hSw; (try dsimp only at hSw); go_simp; try with_reducible rfl)
                    simp only [Act.put, List.setIfInBounds_toArray, List.set_cons_zero, List.set_cons_succ]
                    refine wpAnyH_done (by kernel_rfl) ?_ _
                    go_wp2_with fail
                    go_meet
                    exact ⟨rfl, HE.out⟩
                  · go_wp2_with fail
                    have HP3 := Lib.hid (show PairF w (W2.alloc (.cells #[] 5)) d D r D (BxV bx (.slice (some ⟨W2.heap.size, 0, none⟩) 0 0)) from (HP2.out.box (.cells #[] 5)).less fun k hk => hk.imp id fun e => by cases e; rfl)
                    have Hb3 := Lib.hid (old_block (.cells #[] 5) Hb2.out)
                    have HO3 := Lib.hid (own_empty W2 5)
                    have Hrows3 := Lib.hid (rows_below Hrows.out ((Below.refl _ _).alloc (Nat.le_refl _) (.cells #[] 5)))
                    have Hg2 := Lib.hid (show ∀ k, (Value.slice (some ⟨W2.heap.size, 0, none⟩) 0 0).ownBlock = some k → w.heap.size ≤ k ∧ k ≠ bx from fun k hk => by
                      cases hk
                      exact ⟨HP2.out.bel.size, fun e => by have h1 := lt_of_block Hb2.out; have e1 : W2.heap.size = bx := e; omega⟩)
                    refine hK.out _ _ (HS.out _ Hb3.out) (fun hHeld => ?_)
                    clear hK
                    try simp only [Act.put, List.setIfInBounds_toArray, List.set_cons_zero, List.set_cons_succ]
                    generalize W2.alloc (.cells #[] 5) = W3 at *
                    generalize W2.heap.size = g2 at *
                    refine ord_one 8 rfl (by kernel_rfl) (by rfl) (fun K hK => ?_)
                    have Hsv := Lib.hid (pairf_save HP3.out sn (by omega) Hrows3.out (by omega) (by rw [Hfl.out, List.length_append, Hla.out, Hlb.out]; omega))
                    rw [Hfl.out] at Hsv
                    go_wp2_with fail
                    refine Hsv.out.mono ?_
                    rintro e W4 ⟨rfl, hp4, hs4⟩
                    have Hb4 := Lib.hid ((hs4 bx (.inl rfl)).trans Hb3.out)
                    have HO4 := Lib.hid (HO3.out.keep fun k hk => hs4 k (.inr hk))
                    have HP4 := Lib.hid hp4
                    clear hp4 hs4 Hsv
                    go_wp2_with fail
                    refine hK.out _ _ (HS.out _ Hb4.out) (fun hHeld => ?_)
                    clear hK
                    try simp only [Act.put, List.setIfInBounds_toArray, List.set_cons_zero, List.set_cons_succ]
                    refine ord_one 15 rfl (by kernel_rfl) (by rfl) (fun K hK => ?_)
                    refine wp_app (.tmp 79) (.tmp 81) 23 (by rfl) 5 i0 (.int .u8 0) 1 1 Try.underlying23 hi hzz0 hzz1 hzz2 rfl (by decide) (.slice (some ⟨g2, 0, none⟩) 0 0) 0 [] (by rfl) HO4.out (.slice pa na ca) na (bytesV a) (by rfl) (Ha.out _ HP4.out.bel) (bytesV_one _) (by unfold maxLen; omega) (by omega) ?_
                    intro v5 w5 hown5 hgrow5 hloc5
                    rw [Nat.zero_add, List.nil_append] at hown5
                    obtain ⟨hp5, hv5, hb5⟩ := HP4.out.app Hg2.out hgrow5 hloc5 hown5
                    have Hb5 := Lib.hid (hb5.trans Hb4.out)
                    have HP5 := Lib.hid hp5
                    have Hown5 := Lib.hid hown5
                    have Hv5 := Lib.hid hv5
                    clear hgrow5 hloc5 hown5 hp5 hv5 hb5
                    refine hK.out _ _ (HS.out _ Hb5.out) (fun hHeld => ?_)
                    clear hK
                    try simp only [Act.put, List.setIfInBounds_toArray, List.set_cons_zero, List.set_cons_succ]
                    refine ord_one 18 rfl (by kernel_rfl) (by rfl) (fun K hK => ?_)
                    refine wp_app (.tmp 82) (.tmp 84) 23 (by rfl) 5 i0 (.int .u8 0) 1 1 Try.underlying23 hi hzz0 hzz1 hzz2 rfl (by decide) v5 na (bytesV a) (by rfl) Hown5.out (.slice pb nb cb) nb (bytesV b) (by rfl) (Hb.out _ HP5.out.bel) (bytesV_one _) (by unfold maxLen; omega) (by omega) ?_
                    intro v6 w6 hown6 hgrow6 hloc6
                    obtain ⟨hp6, hv6, hb6⟩ := HP5.out.app Hv5.out hgrow6 hloc6 hown6
                    have Hb6 := Lib.hid (hb6.trans Hb5.out)
                    have h6 : OwnB w6 5 v6 (a ++ b) := by
                      unfold OwnB
                      rw [bytesV_app, List.length_append, Hla.out, Hlb.out]
                      exact hown6
                    obtain ⟨p6, c6, e6⟩ := h6.slice
                    rw [List.length_append, Hla.out, Hlb.out] at e6
                    subst e6
                    have hrs := pairf_rsave hp6 sn (by omega) h6.has (by rw [List.length_append, Hla.out, Hlb.out]; omega)
                    have Hrs := Lib.hid hrs
                    clear hgrow6 hloc6 hown6 hp6 hv6 hb6 h6 hrs
                    refine hK.out _ _ (HS.out _ Hb6.out) (fun hHeld => ?_)
                    clear hK
                    try simp only [Act.put, List.setIfInBounds_toArray, List.set_cons_zero, List.set_cons_succ]
                    refine ord_one 19 rfl (by kernel_rfl) (by rfl) (fun K hK => ?_)
                    go_wp2_with fail
                    refine Hrs.out.mono ?_
                    rintro e w7 ⟨rfl, hp7, hs7⟩
                    have HE := Lib.hid (show ∃ D' : DiskM, Pair w w7 d D' r D' from ⟨_, hp7.pair⟩)
                    have Hb7 := Lib.hid ((hs7 bx (.inl rfl)).trans Hb6.out)
                    clear hp7 hs7
                    go_wp2_with fail
                    refine hK.out _ _ (HS.out _ Hb7.out) (fun hHeld => ?_)
                    clear hK
                    try simp only [Act.put, List.setIfInBounds_toArray, List.set_cons_zero, List.set_cons_succ]
                    refine ord_take 20 (v := ?v16x20) rfl (by kernel_rfl) (by kernel_rfl) (by kernel_rfl) (fun _ _ _ h => h) (by rfl) (by assumption) ?y16x20 ?_
                    case y16x20 => (intro w hSw; (try dsimp only at hSw); go_simp; try with_reducible rfl)
                    simp only [Act.put, List.setIfInBounds_toArray, List.set_cons_zero, List.set_cons_succ]
                    refine ord_take 21 (v := ?v16x21) rfl (by kernel_rfl) (by kernel_rfl) (by kernel_rfl) (fun _ _ _ h => h) (by rfl) (by assumption) ?y16x21 ?_
                    case y16x21 => (intro w hSw; (try dsimp only at hSw); go_simp; try with_reducible rfl)
                    simp only [Act.put, List.setIfInBounds_toArray, List.set_cons_zero, List.set_cons_succ]
                    refine wpAnyH_done (by kernel_rfl) ?_ _
                    go_wp2_with fail
                    go_meet
                    exact ⟨rfl, HE.out⟩
                · go_wp2_with fail
                  have HP2 := Lib.hid (show PairF w (W1.alloc (.cells #[] 5)) d D r D (BxV bx (.slice (some ⟨W1.heap.size, 0, none⟩) 0 0)) from (HP1.out.box (.cells #[] 5)).less fun k hk => hk.imp id fun e => by cases e; rfl)
                  have Hb2 := Lib.hid (old_block (.cells #[] 5) Hbd.out)
                  have HO2 := Lib.hid (own_empty W1 5)
                  have Hg2 := Lib.hid (show ∀ k, (Value.slice (some ⟨W1.heap.size, 0, none⟩) 0 0).ownBlock = some k → w.heap.size ≤ k ∧ k ≠ bx from fun k hk => by
                    cases hk
                    exact ⟨HP1.out.bel.size, fun e => by have h1 := lt_of_block Hbd.out; have e1 : W1.heap.size = bx := e; omega⟩)
                  refine hK.out _ _ (HS.out _ Hb2.out) (fun hHeld => ?_)
                  clear hK
                  try simp only [Act.put, List.setIfInBounds_toArray, List.set_cons_zero, List.set_cons_succ]
                  generalize W1.alloc (.cells #[] 5) = W2 at *
                  generalize W1.heap.size = g2 at *
                  refine ord_one 7 rfl (by kernel_rfl) (by rfl) (fun K hK => ?_)
                  go_wp2_with fail
                  have hrows := rows_two (w := W2) (v1 := .slice pa na ca) (v2 := .slice pb nb cb) (l1 := a) (l2 := b) (HaB.out _ HP2.out.bel) (HbB.out _ HP2.out.bel) 23 (0, 0) W2.heap.size 2 rfl (Nat.le_refl _)
                  have HP3 := Lib.hid (HP2.out.next ((Below.refl _ _).alloc (Nat.le_refl _) (.cells #[.slice pa na ca, .slice pb nb cb] 23)))
                  have Hb3 := Lib.hid (old_block (.cells #[.slice pa na ca, .slice pb nb cb] 23) Hb2.out)
                  have HO3 := Lib.hid (HO2.out.keep fun k hk => Below.block ((Below.refl W2.heap.size W2).alloc (Nat.le_refl _) (.cells #[.slice pa na ca, .slice pb nb cb] 23)) _ (HO2.out.lt hk))
                  have Hrows3 := Lib.hid hrows
                  clear hrows
                  refine hK.out _ _ (HS.out _ Hb3.out) (fun hHeld => ?_)
                  clear hK
                  try simp only [Act.put, List.setIfInBounds_toArray, List.set_cons_zero, List.set_cons_succ]
                  generalize W2.alloc (.cells #[.slice pa na ca, .slice pb nb cb] 23) = W3 at *
                  generalize W2.heap.size = g1 at *
                  refine ord_one 8 rfl (by kernel_rfl) (by rfl) (fun K hK => ?_)
                  have Hsv := Lib.hid (pairf_save HP3.out sn (by omega) Hrows3.out (by omega) (by rw [Hfl.out, List.length_append, Hla.out, Hlb.out]; omega))
                  rw [Hfl.out] at Hsv
                  go_wp2_with fail
                  refine Hsv.out.mono ?_
                  rintro e W4 ⟨rfl, hp4, hs4⟩
                  have Hb4 := Lib.hid ((hs4 bx (.inl rfl)).trans Hb3.out)
                  have HO4 := Lib.hid (HO3.out.keep fun k hk => hs4 k (.inr hk))
                  have HP4 := Lib.hid hp4
                  clear hp4 hs4 Hsv
                  go_wp2_with fail
                  refine hK.out _ _ (HS.out _ Hb4.out) (fun hHeld => ?_)
                  clear hK
                  try simp only [Act.put, List.setIfInBounds_toArray, List.set_cons_zero, List.set_cons_succ]
                  refine ord_one 15 rfl (by kernel_rfl) (by rfl) (fun K hK => ?_)
                  refine wp_app (.tmp 79) (.tmp 81) 23 (by rfl) 5 i0 (.int .u8 0) 1 1 Try.underlying23 hi hzz0 hzz1 hzz2 rfl (by decide) (.slice (some ⟨g2, 0, none⟩) 0 0) 0 [] (by rfl) HO4.out (.slice pa na ca) na (bytesV a) (by rfl) (Ha.out _ HP4.out.bel) (bytesV_one _) (by unfold maxLen; omega) (by omega) ?_
                  intro v5 w5 hown5 hgrow5 hloc5
                  rw [Nat.zero_add, List.nil_append] at hown5
                  obtain ⟨hp5, hv5, hb5⟩ := HP4.out.app Hg2.out hgrow5 hloc5 hown5
                  have Hb5 := Lib.hid (hb5.trans Hb4.out)
                  have HP5 := Lib.hid hp5
                  have Hown5 := Lib.hid hown5
                  have Hv5 := Lib.hid hv5
                  clear hgrow5 hloc5 hown5 hp5 hv5 hb5
                  refine hK.out _ _ (HS.out _ Hb5.out) (fun hHeld => ?_)
                  clear hK
                  try simp only [Act.put, List.setIfInBounds_toArray, List.set_cons_zero, List.set_cons_succ]
                  refine ord_one 18 rfl (by kernel_rfl) (by rfl) (fun K hK => ?_)
                  refine wp_app (.tmp 82) (.tmp 84) 23 (by rfl) 5 i0 (.int .u8 0) 1 1 Try.underlying23 hi hzz0 hzz1 hzz2 rfl (by decide) v5 na (bytesV a) (by rfl) Hown5.out (.slice pb nb cb) nb (bytesV b) (by rfl) (Hb.out _ HP5.out.bel) (bytesV_one _) (by unfold maxLen; omega) (by omega) ?_
                  intro v6 w6 hown6 hgrow6 hloc6
                  obtain ⟨hp6, hv6, hb6⟩ := HP5.out.app Hv5.out hgrow6 hloc6 hown6
                  have Hb6 := Lib.hid (hb6.trans Hb5.out)
                  have h6 : OwnB w6 5 v6 (a ++ b) := by
                    unfold OwnB
                    rw [bytesV_app, List.length_append, Hla.out, Hlb.out]
                    exact hown6
                  obtain ⟨p6, c6, e6⟩ := h6.slice
                  rw [List.length_append, Hla.out, Hlb.out] at e6
                  subst e6
                  have hrs := pairf_rsave hp6 sn (by omega) h6.has (by rw [List.length_append, Hla.out, Hlb.out]; omega)
                  have Hrs := Lib.hid hrs
                  clear hgrow6 hloc6 hown6 hp6 hv6 hb6 h6 hrs
                  refine hK.out _ _ (HS.out _ Hb6.out) (fun hHeld => ?_)
                  clear hK
                  try simp only [Act.put, List.setIfInBounds_toArray, List.set_cons_zero, List.set_cons_succ]
                  refine ord_one 19 rfl (by kernel_rfl) (by rfl) (fun K hK => ?_)
                  go_wp2_with fail
                  refine Hrs.out.mono ?_
                  rintro e w7 ⟨rfl, hp7, hs7⟩
                  have HE := Lib.hid (show ∃ D' : DiskM, Pair w w7 d D' r D' from ⟨_, hp7.pair⟩)
                  have Hb7 := Lib.hid ((hs7 bx (.inl rfl)).trans Hb6.out)
                  clear hp7 hs7
                  go_wp2_with fail
                  refine hK.out _ _ (HS.out _ Hb7.out) (fun hHeld => ?_)
                  clear hK
                  try simp only [Act.put, List.setIfInBounds_toArray, List.set_cons_zero, List.set_cons_succ]
                  refine ord_take 20 (v := ?v17x20) rfl (by kernel_rfl) (by kernel_rfl) (by kernel_rfl) (fun _ _ _ h => h) (by rfl) (by assumption) ?y17x20 ?_
                  case y17x20 => (intro w hSw; (try dsimp only at hSw); go_simp; try with_reducible rfl)
                  simp only [Act.put, List.setIfInBounds_toArray, List.set_cons_zero, List.set_cons_succ]
                  refine ord_take 21 (v := ?v17x21) rfl (by kernel_rfl) (by kernel_rfl) (by kernel_rfl) (fun _ _ _ h => h) (by rfl) (by assumption) ?y17x21 ?_
                  case y17x21 => (intro w hSw; (try dsimp only at hSw); go_simp; try with_reducible rfl)
                  simp only [Act.put, List.setIfInBounds_toArray, List.set_cons_zero, List.set_cons_succ]
                  refine wpAnyH_done (by kernel_rfl) ?_ _
                  go_wp2_with fail
                  go_meet
                  exact ⟨rfl, HE.out⟩
              · have k1' : (kd == 1) = false := by simpa using k1
                by_cases k2 : kd = 2
                · subst k2
                  have Hlo := Lib.hid (pairf_load HP0.out sn (by omega))
                  have Hld := Lib.hid (loadB_len HP0.out.okD (nm sn))
                  clear HP1 Hbd HS
                  go_wp2_with fail
                  refine Hlo.out.mono ?_
                  rintro e w4 ⟨v4, rfl, hv4, hn4, hb4⟩
                  have HP4 := Lib.hid (HP0.out.next hb4)
                  have cb2' : w4.cell? ⟨bx, 2, none⟩ = some (.string sn) := (hb4.cell (World.block_lt_of_cell? W0 ⟨bx, 2, none⟩ cb2)).trans cb2
                  have Hrl := Lib.hid (pairf_rload HP4.out sn)
                  have Hv4 := Lib.hid hv4
                  clear hv4 hn4 hb4 Hlo
                  go_wp2_with fail
                  refine Hrl.out.mono ?_
                  rintro e w5 ⟨v5, rfl, hv5, hn5, hb5⟩
                  have HP5 := Lib.hid (HP4.out.next hb5)
                  have hsm := same4_calls (ownB_keep Hv4.out hb5).has hv5.has Hld.out Hld.out
                  rw [beq_self_eq_true] at hsm
                  have Hsm := Lib.hid hsm
                  clear hv5 hn5 hb5 Hrl hsm
                  go_wp2_with fail
                  refine Hsm.out.mono ?_
                  rintro e w6 ⟨rfl, q6, rfl⟩
                  have HE := Lib.hid (show ∃ D' : DiskM, Pair w (w5.drewN q6) d D' r D' from ⟨_, HP5.out.pair.drewN q6⟩)
                  generalize loadE (Sat.get (nm sn) D.files) = le at *
                  go_wp2_with fail
                  go_meet
                  exact ⟨rfl, HE.out⟩
                · have k2' : (kd == 2) = false := by simpa using k2
                  by_cases k3 : kd = 3
                  · subst k3
                    go_wp2_with fail
                    refine ord_start (fun w' : World => w'.cell? ⟨bx, 2, none⟩ = some (.string sn) ∧ w'.cell? ⟨bx, 3, none⟩ = some (.slice pa na ca) ∧ w'.cell? ⟨bx, 4, none⟩ = some (.slice pb nb cb) ∧ w'.cell? ⟨bx, 5, none⟩ = some (.slice ps ns cs)) (n := 14) (by kernel_rfl) rfl (HS.out _ Hbd.out) (fun hHeld => ?_)
                    generalize W0.drew = W1 at *
                    refine ord_take 0 (v := ?v20x0) rfl (by kernel_rfl) (by kernel_rfl) (by kernel_rfl) (fun _ _ _ h => h) (by rfl) (by assumption) ?y20x0 ?_
                    case y20x0 => (intro w hSw; (try dsimp only at hSw); go_simp; try with_reducible rfl)
                    simp only [Act.put, List.setIfInBounds_toArray, List.set_cons_zero, List.set_cons_succ]
                    refine ord_take 1 (v := ?v20x1) rfl (by kernel_rfl) (by kernel_rfl) (by kernel_rfl) (fun _ _ _ h => h) (by rfl) (by assumption) ?y20x1 ?_
                    case y20x1 => (intro w hSw; (try dsimp only at hSw); go_simp; try with_reducible rfl)
                    simp only [Act.put, List.setIfInBounds_toArray, List.set_cons_zero, List.set_cons_succ]
                    refine ord_take 2 (v := ?v20x2) rfl (by kernel_rfl) (by kernel_rfl) (by kernel_rfl) (fun _ _ _ h => h) (by rfl) (by assumption) ?y20x2 ?_
                    case y20x2 => (intro w hSw; (try dsimp only at hSw); go_simp; try with_reducible rfl)
                    simp only [Act.put, List.setIfInBounds_toArray, List.set_cons_zero, List.set_cons_succ]
                    refine ord_take 3 (v := ?v20x3) rfl (by kernel_rfl) (by kernel_rfl) (by kernel_rfl) (fun _ _ _ h => h) (by rfl) (by assumption) ?y20x3 ?_
                    case y20x3 => (intro w hSw; (try dsimp only at hSw); go_simp; try with_reducible rfl)
                    simp only [Act.put, List.setIfInBounds_toArray, List.set_cons_zero, List.set_cons_succ]
                    refine ord_take 4 (v := ?v20x4) rfl (by kernel_rfl) (by kernel_rfl) (by kernel_rfl) (fun _ _ _ h => h) (by rfl) (by assumption) ?y20x4 ?_
                    case y20x4 => (intro w hSw; (try dsimp only at hSw); go_simp; try with_reducible rfl)
                    simp only [Act.put, List.setIfInBounds_toArray, List.set_cons_zero, List.set_cons_succ]
                    refine ord_take 6 (v := ?v20x6) rfl (by kernel_rfl) (by kernel_rfl) (by kernel_rfl) (fun _ _ _ h => h) (by rfl) (by assumption) ?y20x6 ?_
                    case y20x6 => (intro w hSw; (try dsimp only at hSw); go_simp; try with_reducible rfl)
                    simp only [Act.put, List.setIfInBounds_toArray, List.set_cons_zero, List.set_cons_succ]
                    refine ord_take 7 (v := ?v20x7) rfl (by kernel_rfl) (by kernel_rfl) (by kernel_rfl) (fun _ _ _ h => h) (by rfl) (by assumption) ?y20x7 ?_
                    case y20x7 => (intro w hSw; (try dsimp only at hSw); go_simp; try with_reducible rfl)
                    simp only [Act.put, List.setIfInBounds_toArray, List.set_cons_zero, List.set_cons_succ]
                    refine ord_take 8 (v := ?v20x8) rfl (by kernel_rfl) (by kernel_rfl) (by kernel_rfl) (fun _ _ _ h => h) (by rfl) (by assumption) ?y20x8 ?_
                    case y20x8 => (intro w hSw; (try dsimp only at hSw); go_simp; try with_reducible rfl)
                    simp only [Act.put, List.setIfInBounds_toArray, List.set_cons_zero, List.set_cons_succ]
                    refine ord_take 9 (v := ?v20x9) rfl (by kernel_rfl) (by kernel_rfl) (by kernel_rfl) (fun _ _ _ h => h) (by rfl) (by assumption) ?y20x9 ?_
                    case y20x9 => (intro w hSw; (try dsimp only at hSw); go_simp; try with_reducible rfl)
                    simp only [Act.put, List.setIfInBounds_toArray, List.set_cons_zero, List.set_cons_succ]
                    refine ord_take 10 (v := ?v20x10) rfl (by kernel_rfl) (by kernel_rfl) (by kernel_rfl) (fun _ _ _ h => h) (by rfl) (by assumption) ?y20x10 ?_
                    case y20x10 => (intro w hSw; (try dsimp only at hSw); go_simp; try with_reducible rfl)
                    simp only [Act.put, List.setIfInBounds_toArray, List.set_cons_zero, List.set_cons_succ]
                    refine ord_one 5 rfl (by kernel_rfl) (by rfl) (fun K hK => ?_)
                    have Hcl := Lib.hid (pairf_clear HP1.out sn HsN.out (by rw [Hls.out]; omega))
                    go_wp2_with fail
                    refine Hcl.out.mono ?_
                    rintro e w3 ⟨rfl, hp3, hs3⟩
                    have Hb3 := Lib.hid ((hs3 bx rfl).trans Hbd.out)
                    have Hrc := Lib.hid (pairf_rclear hp3 sn (by omega) HsN.out (by rw [Hls.out]; omega))
                    clear hp3 hs3 Hcl
                    go_wp2_with fail
                    refine hK.out _ _ (HS.out _ Hb3.out) (fun hHeld => ?_)
                    clear hK
                    try simp only [Act.put, List.setIfInBounds_toArray, List.set_cons_zero, List.set_cons_succ]
                    refine ord_one 11 rfl (by kernel_rfl) (by rfl) (fun K hK => ?_)
                    go_wp2_with fail
                    refine Hrc.out.mono ?_
                    rintro e w4 ⟨rfl, hp4, hs4⟩
                    have HE := Lib.hid (show ∃ D' : DiskM, Pair w w4 d D' r D' from ⟨_, hp4.pair⟩)
                    have Hb4 := Lib.hid ((hs4 bx rfl).trans Hb3.out)
                    clear hp4 hs4 Hrc
                    go_wp2_with fail
                    refine hK.out _ _ (HS.out _ Hb4.out) (fun hHeld => ?_)
                    clear hK
                    try simp only [Act.put, List.setIfInBounds_toArray, List.set_cons_zero, List.set_cons_succ]
                    refine ord_take 12 (v := ?v20x12) rfl (by kernel_rfl) (by kernel_rfl) (by kernel_rfl) (fun _ _ _ h => h) (by rfl) (by assumption) ?y20x12 ?_
                    case y20x12 => (intro w hSw; (try dsimp only at hSw); go_simp; try with_reducible rfl)
                    simp only [Act.put, List.setIfInBounds_toArray, List.set_cons_zero, List.set_cons_succ]
                    refine ord_take 13 (v := ?v20x13) rfl (by kernel_rfl) (by kernel_rfl) (by kernel_rfl) (fun _ _ _ h => h) (by rfl) (by assumption) ?y20x13 ?_
                    case y20x13 => (intro w hSw; (try dsimp only at hSw); go_simp; try with_reducible rfl)
                    simp only [Act.put, List.setIfInBounds_toArray, List.set_cons_zero, List.set_cons_succ]
                    refine wpAnyH_done (by kernel_rfl) ?_ _
                    go_wp2_with fail
                    go_meet
                    exact ⟨rfl, HE.out⟩
                  · have k3' : (kd == 3) = false := by simpa using k3
                    by_cases k4 : kd = 4
                    · subst k4
                      have Hcr := Lib.hid (pairf_disk0 (D' := D.crash m) (f := 18) (args := #[.pointer (some ⟨d, 0, none⟩), .int .i64 m]) HP0.out (Below.refl _ _) fun _ hS => st_crash hS m okm1 okm2)
                      clear HP1 Hbd HS
                      go_wp2_with fail
                      refine Hcr.out.mono ?_
                      rintro e w4 ⟨rfl, hp4, hs4⟩
                      have cb1' : w4.cell? ⟨bx, 1, none⟩ = some (.int .i64 m) := cell_of ((hs4 bx rfl).trans Hb0.out) rfl
                      have Hrc := Lib.hid (pairf_rcrash hp4 m okm1 okm2)
                      clear hp4 hs4 Hcr
                      go_wp2_with fail
                      refine Hrc.out.mono ?_
                      rintro e w5 ⟨rfl, hp5, -⟩
                      have HE := Lib.hid (show ∃ D' : DiskM, Pair w w5 d D' r D' from ⟨_, hp5.pair⟩)
                      clear hp5 Hrc
                      go_wp2_with fail
                      go_meet
                      exact ⟨rfl, HE.out⟩
                    · have k4' : (kd == 4) = false := by simpa using k4
                      by_cases k5 : kd = 5
                      · subst k5
                        have Hcr := Lib.hid (pairf_disk0 (D' := D.setFuse m) (f := 22) (args := #[.pointer (some ⟨d, 0, none⟩), .int .i64 m]) HP0.out (Below.refl _ _) fun _ hS => st_fuse hS m okm1 okm2)
                        clear HP1 Hbd HS
                        go_wp2_with fail
                        refine Hcr.out.mono ?_
                        rintro e w4 ⟨rfl, hp4, hs4⟩
                        have cb1' : w4.cell? ⟨bx, 1, none⟩ = some (.int .i64 m) := cell_of ((hs4 bx rfl).trans Hb0.out) rfl
                        have Hrc := Lib.hid (pairf_rfuse hp4 m okm1 okm2)
                        clear hp4 hs4 Hcr
                        go_wp2_with fail
                        refine Hrc.out.mono ?_
                        rintro e w5 ⟨rfl, hp5, -⟩
                        have HE := Lib.hid (show ∃ D' : DiskM, Pair w w5 d D' r D' from ⟨_, hp5.pair⟩)
                        clear hp5 Hrc
                        go_wp2_with fail
                        go_meet
                        exact ⟨rfl, HE.out⟩
                      · have k5' : (kd == 5) = false := by simpa using k5
                        by_cases k6 : kd = 6
                        · subst k6
                          go_wp2_with fail
                          refine ord_start (fun w' : World => w'.cell? ⟨bx, 2, none⟩ = some (.string sn) ∧ w'.cell? ⟨bx, 3, none⟩ = some (.slice pa na ca) ∧ w'.cell? ⟨bx, 4, none⟩ = some (.slice pb nb cb) ∧ w'.cell? ⟨bx, 5, none⟩ = some (.slice ps ns cs)) (n := 15) (by kernel_rfl) rfl (HS.out _ Hbd.out) (fun hHeld => ?_)
                          generalize W0.drew = W1 at *
                          refine ord_take 0 (v := ?v28x0) rfl (by kernel_rfl) (by kernel_rfl) (by kernel_rfl) (fun _ _ _ h => h) (by rfl) (by assumption) ?y28x0 ?_
                          case y28x0 => (intro w hSw; (try dsimp only at hSw); go_simp; try with_reducible rfl)
                          simp only [Act.put, List.setIfInBounds_toArray, List.set_cons_zero, List.set_cons_succ]
                          refine ord_take 1 (v := ?v28x1) rfl (by kernel_rfl) (by kernel_rfl) (by kernel_rfl) (fun _ _ _ h => h) (by rfl) (by assumption) ?y28x1 ?_
                          case y28x1 => (intro w hSw; (try dsimp only at hSw); go_simp; try with_reducible rfl)
                          simp only [Act.put, List.setIfInBounds_toArray, List.set_cons_zero, List.set_cons_succ]
                          refine ord_take 2 (v := ?v28x2) rfl (by kernel_rfl) (by kernel_rfl) (by kernel_rfl) (fun _ _ _ h => h) (by rfl) (by assumption) ?y28x2 ?_
                          case y28x2 => (intro w hSw; (try dsimp only at hSw); go_simp; try with_reducible rfl)
                          simp only [Act.put, List.setIfInBounds_toArray, List.set_cons_zero, List.set_cons_succ]
                          refine ord_take 3 (v := ?v28x3) rfl (by kernel_rfl) (by kernel_rfl) (by kernel_rfl) (fun _ _ _ h => h) (by rfl) (by assumption) ?y28x3 ?_
                          case y28x3 => (intro w hSw; (try dsimp only at hSw); go_simp; try with_reducible rfl)
                          simp only [Act.put, List.setIfInBounds_toArray, List.set_cons_zero, List.set_cons_succ]
                          refine ord_take 4 (v := ?v28x4) rfl (by kernel_rfl) (by kernel_rfl) (by kernel_rfl) (fun _ _ _ h => h) (by rfl) (by assumption) ?y28x4 ?_
                          case y28x4 => (intro w hSw; (try dsimp only at hSw); go_simp; try with_reducible rfl)
                          simp only [Act.put, List.setIfInBounds_toArray, List.set_cons_zero, List.set_cons_succ]
                          refine ord_take 7 (v := ?v28x7) rfl (by kernel_rfl) (by kernel_rfl) (by kernel_rfl) (fun _ _ _ h => h) (by rfl) (by assumption) ?y28x7 ?_
                          case y28x7 => (intro w hSw; (try dsimp only at hSw); go_simp; try with_reducible rfl)
                          simp only [Act.put, List.setIfInBounds_toArray, List.set_cons_zero, List.set_cons_succ]
                          refine ord_take 8 (v := ?v28x8) rfl (by kernel_rfl) (by kernel_rfl) (by kernel_rfl) (fun _ _ _ h => h) (by rfl) (by assumption) ?y28x8 ?_
                          case y28x8 => (intro w hSw; (try dsimp only at hSw); go_simp; try with_reducible rfl)
                          simp only [Act.put, List.setIfInBounds_toArray, List.set_cons_zero, List.set_cons_succ]
                          refine ord_take 9 (v := ?v28x9) rfl (by kernel_rfl) (by kernel_rfl) (by kernel_rfl) (fun _ _ _ h => h) (by rfl) (by assumption) ?y28x9 ?_
                          case y28x9 => (intro w hSw; (try dsimp only at hSw); go_simp; try with_reducible rfl)
                          simp only [Act.put, List.setIfInBounds_toArray, List.set_cons_zero, List.set_cons_succ]
                          refine ord_take 10 (v := ?v28x10) rfl (by kernel_rfl) (by kernel_rfl) (by kernel_rfl) (fun _ _ _ h => h) (by rfl) (by assumption) ?y28x10 ?_
                          case y28x10 => (intro w hSw; (try dsimp only at hSw); go_simp; try with_reducible rfl)
                          simp only [Act.put, List.setIfInBounds_toArray, List.set_cons_zero, List.set_cons_succ]
                          refine ord_take 11 (v := ?v28x11) rfl (by kernel_rfl) (by kernel_rfl) (by kernel_rfl) (fun _ _ _ h => h) (by rfl) (by assumption) ?y28x11 ?_
                          case y28x11 => (intro w hSw; (try dsimp only at hSw); go_simp; try with_reducible rfl)
                          simp only [Act.put, List.setIfInBounds_toArray, List.set_cons_zero, List.set_cons_succ]
                          refine ord_one 5 rfl (by kernel_rfl) (by rfl) (fun K hK => ?_)
                          go_wp2_with fail
                          have hrows := rows_one (w := W1) (v := .slice pa na ca) (l := a) (HaB.out _ HP1.out.bel) 23 (0, 0) W1.heap.size 1 rfl (Nat.le_refl _)
                          have HP2 := Lib.hid (HP1.out.next ((Below.refl _ _).alloc (Nat.le_refl _) (.cells #[.slice pa na ca] 23)))
                          have Hb2 := Lib.hid (old_block (.cells #[.slice pa na ca] 23) Hbd.out)
                          have Hrows := Lib.hid hrows
                          clear hrows
                          refine hK.out _ _ (HS.out _ Hb2.out) (fun hHeld => ?_)
                          clear hK
                          try simp only [Act.put, List.setIfInBounds_toArray, List.set_cons_zero, List.set_cons_succ]
                          generalize W1.alloc (.cells #[.slice pa na ca] 23) = W2 at *
                          generalize W1.heap.size = g1 at *
                          refine ord_one 6 rfl (by kernel_rfl) (by rfl) (fun K hK => ?_)
                          have Hap := Lib.hid (pairf_append HP2.out sn _ _ Hrows.out (by simp) (by rw [List.flatten_cons, List.flatten_nil, List.append_nil, Hla.out]; omega) (by omega))
                          rw [show [a].flatten = a from by rw [List.flatten_cons, List.flatten_nil, List.append_nil]] at Hap
                          go_wp2_with fail
                          refine Hap.out.mono ?_
                          rintro e w3 ⟨rfl, hp3, hs3⟩
                          have Hb3 := Lib.hid ((hs3 bx rfl).trans Hb2.out)
                          have Hra := Lib.hid (pairf_rappend hp3 sn (by omega) Hst.out.ha (by rw [Hla.out]; omega))
                          clear hp3 hs3 Hap
                          go_wp2_with fail
                          refine hK.out _ _ (HS.out _ Hb3.out) (fun hHeld => ?_)
                          clear hK
                          try simp only [Act.put, List.setIfInBounds_toArray, List.set_cons_zero, List.set_cons_succ]
                          refine ord_one 12 rfl (by kernel_rfl) (by rfl) (fun K hK => ?_)
                          go_wp2_with fail
                          refine Hra.out.mono ?_
                          rintro e w4 ⟨rfl, hp4, hs4⟩
                          have HE := Lib.hid (show ∃ D' : DiskM, Pair w w4 d D' r D' from ⟨_, hp4.pair⟩)
                          have Hb4 := Lib.hid ((hs4 bx rfl).trans Hb3.out)
                          clear hp4 hs4 Hra
                          go_wp2_with fail
                          refine hK.out _ _ (HS.out _ Hb4.out) (fun hHeld => ?_)
                          clear hK
                          try simp only [Act.put, List.setIfInBounds_toArray, List.set_cons_zero, List.set_cons_succ]
                          refine ord_take 13 (v := ?v28x13) rfl (by kernel_rfl) (by kernel_rfl) (by kernel_rfl) (fun _ _ _ h => h) (by rfl) (by assumption) ?y28x13 ?_
                          case y28x13 => (intro w hSw; (try dsimp only at hSw); go_simp; try with_reducible rfl)
                          simp only [Act.put, List.setIfInBounds_toArray, List.set_cons_zero, List.set_cons_succ]
                          refine ord_take 14 (v := ?v28x14) rfl (by kernel_rfl) (by kernel_rfl) (by kernel_rfl) (fun _ _ _ h => h) (by rfl) (by assumption) ?y28x14 ?_
                          case y28x14 => (intro w hSw; (try dsimp only at hSw); go_simp; try with_reducible rfl)
                          simp only [Act.put, List.setIfInBounds_toArray, List.set_cons_zero, List.set_cons_succ]
                          refine wpAnyH_done (by kernel_rfl) ?_ _
                          go_wp2_with fail
                          go_meet
                          exact ⟨rfl, HE.out⟩
                        · have k6' : (kd == 6) = false := by simpa using k6
                          have HE := Lib.hid (show ∃ D' : DiskM, Pair w W0 d D' r D' from ⟨_, HP0.out.pair⟩)
                          go_wp2_with fail
                          go_meet
                          exact ⟨rfl, HE.out⟩
            case rest =>
              obtain ⟨rfl, D', hp⟩ := hcut
              clear Hp c0 c1 c2 c3 c4 c5 Hst HaB HbB HsN Ha Hb Hfl Hla Hlb Hls Hx Hlight
              have Hr1 := Lib.hid (pair_rlist hp)
              have hcount : (namesOf D').length ≤ 4096 := by unfold namesOf; rw [List.length_map]; exact hp.okD.count
              have hno : ∀ x ∈ namesOf D', x.length ≤ 64 := by
                intro x hx
                obtain ⟨q, hq, rfl⟩ := List.mem_map.1 hx
                exact (okN_string (hp.okD.names q hq)).2
              have Hno := Lib.hid hno
              clear hno hp
              go_wp2_with fail
              refine Hr1.out.mono ?_
              rintro e w4 ⟨v4, rfl, hv4, hn4, hb4, hp4⟩
              have Hl1 := Lib.hid (pair_list hp4)
              have hv4' : HasN w4 v4 (namesOf D') := OwnR.holds hv4
              have Hv4 := Lib.hid hv4'
              clear hv4 hv4' hn4 hb4 hp4 Hr1
              go_wp2_with fail
              refine Hl1.out.mono ?_
              rintro e w5 ⟨v5, rfl, hv5, hn5, hb5, hp5⟩
              have hv5' : HasN w5 v5 (namesOf D') := OwnR.holds hv5
              have hv45 := Hv4.out.far hb5
              have htx := texts4_calls hv5' hv45 (by omega) (by omega)
              rw [beq_self_eq_true] at htx
              have Htx := Lib.hid htx
              have Hp5 := Lib.hid hp5
              have Hn5 := Lib.hid hv45
              clear hv5 hn5 hb5 hp5 hv5' hv45 htx Hv4 Hl1
              go_wp2_with fail
              refine Htx.out.mono ?_
              rintro e w6 ⟨rfl, q6, rfl⟩
              obtain ⟨pn, cn, rfl⟩ := Hn5.out.slice
              have Hp6 := Lib.hid (Hp5.out.drewN q6)
              have Hn6 := Lib.hid (Hn5.out.far ⟨rfl, rfl, rfl, Nat.le_refl _, fun _ _ => rfl⟩ : HasN (w5.drewN q6) (.slice pn (namesOf D').length cn) (namesOf D'))
              clear Htx Hp5 Hn5
              generalize w5.drewN q6 = w7 at *
              generalize hns : namesOf D' = nl at *
              generalize hN : nl.length = N at *
              have HN := Lib.hid hN
              clear hns hN
              go_wp2_with fail
              go_loopw [17] (fun i wi => ∃ j : Nat, j ≤ N ∧ i = .int .i64 j ∧ Pair w wi d D' r D' ∧ Below w7.heap.size w7 wi) (fun i _ => N - (intOf i).toNat)
              case atStart => exact ⟨0, Nat.zero_le _, rfl, Hp6.out, Below.refl _ _⟩
              case round =>
                clear Hp6
                rename_i wi _
                obtain ⟨j, hj, rfl, hp, hb⟩ := hrel
                by_cases hjn : j < N
                · have hjl : j < nl.length := by rw [HN.out]; exact hjn
                  have hy := List.getElem?_eq_getElem hjl
                  have hyl := Hno.out _ (List.getElem_mem hjl)
                  rcases Hn6.out.at with h0 | ⟨b2, o2, c2, e2, hc2⟩
                  · rw [h0] at hjl
                    simp at hjl
                  rw [HN.out] at e2
                  cases e2
                  have hcy0 := hc2 j _ hy
                  have hcy := (hb.cell (World.block_lt_of_cell? w7 _ hcy0)).trans hcy0
                  rw [enc_str] at hcy
                  generalize nl[j] = y at *
                  have hys : (⟨y.toArray⟩ : ByteArray).size ≤ 9223372036854775807 := by
                    have : (⟨y.toArray⟩ : ByteArray).size = y.length := by rw [← nm_len, nm_str]
                    omega
                  have Hrd := Lib.hid (pair_read hp ⟨y.toArray⟩ hys)
                  have Hdl := Lib.hid (data_len hp.okD (nm ⟨y.toArray⟩))
                  have Hbb := Lib.hid hb
                  clear hp hb hcy0 hc2 hjl hy hyl
                  go_wp2_with fail
                  refine Hrd.out.mono ?_
                  rintro e w8 ⟨v8, rfl, hv8, hn8, hb8, hp8⟩
                  have hcy8 := (hb8.cell (World.block_lt_of_cell? _ _ hcy)).trans hcy
                  have Hrd2 := Lib.hid (pair_rread hp8 ⟨y.toArray⟩)
                  have Hv8 := Lib.hid hv8
                  have Hb8 := Lib.hid (Hbb.out.trans (hb8.mono Hbb.out.size))
                  clear hv8 hn8 hb8 hp8 Hrd
                  go_wp2_with fail
                  refine Hrd2.out.mono ?_
                  rintro e w9 ⟨v9, rfl, hv9, hn9, hb9, hp9⟩
                  have hsm := same4_calls (ownB_keep Hv8.out hb9).has hv9.has (Nat.le_trans Hdl.out (by decide)) (Nat.le_trans Hdl.out (by decide))
                  rw [beq_self_eq_true] at hsm
                  have Hsm := Lib.hid hsm
                  have Hp9 := Lib.hid hp9
                  have Hb9 := Lib.hid (Hb8.out.trans (hb9.mono Hb8.out.size))
                  clear hv9 hn9 hb9 hp9 hsm Hrd2 Hb8 Hv8 Hbb hcy hcy8
                  go_wp2_with fail
                  refine Hsm.out.mono ?_
                  rintro e w10 ⟨rfl, q10, rfl⟩
                  have HE := Lib.hid (And.intro (Hp9.out.drewN q10) (Hb9.out.trans ⟨rfl, rfl, rfl, Nat.le_refl _, fun _ _ => rfl⟩ : Below w7.heap.size w7 (w9.drewN q10)))
                  clear Hp9 Hb9 Hsm
                  go_wp2_with fail
                  go_roundw
                  case rel => exact ⟨j + 1, by omega, by go_num, HE.out.1, HE.out.2⟩
                  case measure => simp [intOf]; omega
                · have HE := Lib.hid hp
                  clear hp hb
                  go_wp2_with fail
                  go_roundw
                  case rel => exact ⟨k + 1, D', by omega, by omega, by go_num, HE.out⟩
                  case measure => simp [intOf]; omega
          · have hk1 : k = 80 := by omega
            have Hbe := Lib.hid hp.bel
            have Hkn := Lib.hid (known4_calls wr)
            clear hp
            go_wp2_with fail
            refine Hkn.out.mono ?_
            rintro e w' ⟨rfl, hb⟩
            have Hbf := Lib.hid (Hbe.out.trans (hb.mono Hbe.out.size))
            clear hb
            go_wp2_with fail
            go_ret
            exact ⟨rfl, Hbf.out⟩
        · have Hbe := Lib.hid hp.bel
          have Hkn := Lib.hid (known4_calls wr)
          clear hp
          go_wp2_with fail
          refine Hkn.out.mono ?_
          rintro e w' ⟨rfl, hb⟩
          have Hbf := Lib.hid (Hbe.out.trans (hb.mono Hbe.out.size))
          clear hb
          go_wp2_with fail
          go_ret
          exact ⟨rfl, Hbf.out⟩
    · by_cases hz1 : 0 ≤ z
      · have hz2 : 1048576 < z := by omega
        go_wp2_with fail
        refine Hkn.out.mono ?_
        rintro e w' ⟨rfl, hb⟩
        go_wp2_with fail
        go_ret
        exact ⟨rfl, hb⟩
      · have hz2 : z < 0 := by omega
        go_wp2_with fail
        refine Hkn.out.mono ?_
        rintro e w' ⟨rfl, hb⟩
        go_wp2_with fail
        go_ret
        exact ⟨rfl, hb⟩
end Go.Proofs.Ytdlbamhabenhgaa
