/- KeepLast: the walk. -/
import Derived.Test.YtdlbamhabenhgaaLast
import Derived.Test.YtdlbamhabenhgaaFusesW
namespace Go.Proofs.Ytdlbamhabenhgaa
open Go.RowKit Go.Sat Go.Maps

set_option maxRecDepth 100000 in
set_option maxHeartbeats 8000000 in
theorem last_walk {w : World} {p : Option Addr} {n c : Nat} {ls : List Bs} (hx : RowsAt w (.slice p n c) ls) (hn : n ≤ 140737488355328) (hrow : ∀ l ∈ ls, l.length ≤ 140737488355328) (z dr : Int)
    (hz : -9223372036854775808 ≤ z) (hz' : z ≤ 9223372036854775807) (hdr : -9223372036854775808 ≤ dr) (hdr' : dr ≤ 9223372036854775807) :
    Calls Try.prog 6 #[.slice p n c, .int .i64 z, .int .i64 dr] w (True3 w) := by
  have hnl := RowsAt.len hx
  have Hx := Lib.hid hx
  have Hrow := Lib.hid hrow
  have Hnl := Lib.hid hnl
  clear hx hrow hnl
  go_enter Try.func6, Try.ntmps6
  go_wp2_with fail
  go_loop [7, 8] (fun a i => ∃ k : Nat, k ≤ n ∧ i = .int .i64 k ∧ a = .int .i64 ((cost5 (ls.take k) : Nat) : Int) ∧ cost5 (ls.take k) ≤ 150000000000000) (fun _ i => n - (intOf i).toNat)
  case atStart => exact ⟨0, Nat.zero_le _, rfl, rfl, by simp [cost5]⟩
  case round =>
    obtain ⟨k, hk, rfl, rfl, hck⟩ := hrel
    by_cases h5 : cost5 (ls.take k) ≤ 5000
    · by_cases hlt : k < n
      · have hltl : k < ls.length := by rw [← Hnl.out]; exact hlt
        obtain ⟨-, b, o, v, rfl, hcell, hv⟩ := RowsAt.row Hx.out hltl
        have hct := cost5_take ls k hltl
        have hrl := Hrow.out _ (List.getElem_mem hltl)
        obtain ⟨pv, cv, rfl⟩ := hv.slice
        have Hct := Lib.hid hct
        clear hv hct
        generalize hm : ls[k].length = m at *
        have Hc8 := Lib.hid (show cost5 (ls.take (k + 1)) ≤ 150000000000000 by rw [Hct.out]; omega)
        generalize hC : cost5 (ls.take k) = C at *
        have HC := Lib.hid hC
        have Hm := Lib.hid hm
        clear hC hm
        go_wp2_with fail
        go_round
        case rel => exact ⟨k + 1, by omega, by go_num, by rw [Hct.out]; go_num, Hc8.out⟩
        case measure => simp [intOf]; omega
      · have hls : ls.take k = ls := List.take_of_length_le (by have := Hnl.out; omega)
        rw [hls] at h5 hck ⊢
        have hkn : k = n := by omega
        have Hls5 := Lib.hid h5
        have hn5 : n ≤ 5000 := by have := cost5_len ls; have := Hnl.out; omega
        generalize hC : cost5 ls = C at *
        by_cases hzz : 0 ≤ z ∧ z ≤ 1000
        · obtain ⟨hz0, hz1⟩ := hzz
          obtain ⟨y, rfl⟩ : ∃ y : Nat, z = (y : Int) := ⟨z.toNat, by omega⟩
          have Hnew := Lib.hid (st_new (w := w) (w1 := w) 1048576 (by decide) (by decide) (Below.refl _ _))
          have Hls := Lib.hid (show cost5 ls ≤ 5000 by rw [hC]; exact Hls5.out)
          clear hC hkn hls Hls5
          go_wp2_with fail
          refine Hnew.out.mono ?_
          rintro e w1 ⟨d, rfl, hd⟩
          have hfu := st_fuse hd (y : Int) hz hz'
          rw [show (DiskM.fresh (1048576 : Int).toNat).setFuse (y : Int) = lastD ls y 0 from fresh_fuse ls y] at hfu
          have Hfu := Lib.hid hfu
          clear hd Hnew hk h5 hck hfu
          go_wp2_with fail
          refine Hfu.out.mono ?_
          rintro e w2 ⟨rfl, hst2, -⟩
          have Hst2 := Lib.hid hst2
          clear hst2 Hfu
          go_wp2_with fail
          go_loopw [11, 12] (fun l i wr => ∃ k : Nat, k ≤ n ∧ i = .int .i64 k ∧ l = .int .i64 ((k : Int) - 1) ∧ 3 * k ≤ y ∧ St w wr d (lastD ls y k) NoF) (fun _ i _ => n - (intOf i).toNat)
          case atStart => exact ⟨0, Nat.zero_le _, rfl, rfl, Nat.zero_le _, Hst2.out⟩
          case round =>
            clear Hst2
            obtain ⟨k, hk, rfl, rfl, hky, hr⟩ := hrel
            by_cases hlt : k < n
            · have hltl : k < ls.length := by rw [← Hnl.out]; exact hlt
              obtain ⟨-, b, o, v, rfl, hcell, hv⟩ := RowsAt.row Hx.out hltl
              have hcell2 := (hr.below.cell (World.block_lt_of_cell? w _ hcell)).trans hcell
              have hrl := cost5_row ls k hltl
              by_cases hy3 : 3 * k + 3 ≤ y
              · have hsv := save_one hr sF (by decide) (HasB.below hv hr.below) (by have := Hls.out; omega) (last_save ls y k Hls.out hltl hy3 hr.ok) (0, 0) wr.heap.size rfl
                obtain ⟨pv, cv, rfl⟩ := HasB.slice hv
                generalize ls[k].length = ml at *
                have Hsv := Lib.hid hsv
                clear hsv hr hv hcell hrl
                go_wp2_with fail
                refine Hsv.out.mono ?_
                rintro e w3 ⟨rfl, hst3⟩
                have Hst3 := Lib.hid hst3
                clear hst3 Hsv
                go_wp2_with fail
                go_roundw
                case rel => exact ⟨k + 1, by omega, by go_num, by rw [show (((k + 1 : Nat) : Int) - 1) = (k : Int) by omega], by omega, Hst3.out⟩
                case measure => simp [intOf]; omega
              · obtain ⟨D', hE, hget⟩ := last_cut ls y k Hls.out hltl hky (by omega) hr.ok
                have hsv := save_one hr sF (by decide) (HasB.below hv hr.below) (by have := Hls.out; omega) hE (0, 0) wr.heap.size rfl
                obtain ⟨pv, cv, rfl⟩ := HasB.slice hv
                generalize ls[k].length = ml at *
                have Hsv := Lib.hid hsv
                have HhcE := Lib.hid (show k ≤ ls.length by omega)
                clear hsv hr hv hcell hrl
                go_wp2_with fail
                refine Hsv.out.mono ?_
                rintro e w3 ⟨rfl, hst3⟩
                have HstZ := Lib.hid (show St w w3 d D' NoF from hst3)
                clear hst3 Hsv hcell2
                rcases Nat.eq_zero_or_pos k with hk0 | hk0
                · subst hk0
                  have Hcr := Lib.hid (st_crash HstZ.out dr hdr hdr')
                  go_wp2_with fail
                  refine Hcr.out.mono ?_
                  rintro e w4 ⟨rfl, hst4, -⟩
                  have Hld := Lib.hid (load_none hst4 sF (by decide) (last_none hget dr))
                  clear hst4 Hcr
                  go_wp2_with fail
                  refine Hld.out.mono ?_
                  rintro e w5 ⟨v5, rfl, -, -, hst5⟩
                  have Hkn := Lib.hid (known4_calls w5)
                  have Hb5 := Lib.hid hst5.below
                  clear hst5 Hld
                  go_wp2_with fail
                  refine Hkn.out.mono ?_
                  rintro e w6 ⟨rfl, hb6⟩
                  have Hb6 := Lib.hid (Hb5.out.trans (hb6.mono Hb5.out.size))
                  clear hb6
                  go_wp2_with fail
                  go_ret
                  exact ⟨rfl, Hb6.out⟩
                · obtain ⟨j, rfl⟩ : ∃ j, k = j + 1 := ⟨k - 1, by omega⟩
                  have hjl : j < ls.length := by omega
                  have hjn : j < n := by have := Hnl.out; omega
                  obtain ⟨-, bj, oj, vj, ej, hcellj, hvj⟩ := RowsAt.row Hx.out hjl
                  have ej1 : (((j + 1 : Nat) : Int) - 1) = (j : Int) := by omega
                  have hmj := cost5_row ls j hjl
                  have Hcr := Lib.hid (st_crash HstZ.out dr hdr hdr')
                  have Hget := Lib.hid (last_there hget hjl dr)
                  have Hvj := Lib.hid hvj
                  have Hcj := Lib.hid hcellj
                  have Hmj := Lib.hid hmj
                  clear hvj hcellj hmj hget
                  rw [ej1]
                  go_wp2_with fail
                  refine Hcr.out.mono ?_
                  rintro e w4 ⟨rfl, hst4, -⟩
                  have Hld := Lib.hid (load_whole hst4 sF (by decide) (l := ls[j]) (by have := Hmj.out; have := Hls.out; omega) Hget.out)
                  clear hst4 Hcr
                  go_wp2_with fail
                  refine Hld.out.mono ?_
                  rintro e w5 ⟨v5, rfl, hv5, -, -, hst5⟩
                  have hc5 := (hst5.below.cell (World.block_lt_of_cell? w _ Hcj.out)).trans Hcj.out
                  have hsm := same4_calls hv5.has (HasB.below Hvj.out hst5.below) (by have := Hmj.out; have := Hls.out; omega) (by have := Hmj.out; have := Hls.out; omega)
                  rw [beq_self_eq_true] at hsm
                  have Hsm := Lib.hid hsm
                  have Hst5 := Lib.hid hst5
                  cases ej
                  clear hst5 hsm hv5 Hld
                  go_wp2_with fail
                  refine Hsm.out.mono ?_
                  rintro e w6 ⟨rfl, q6, rfl⟩
                  have Hkn := Lib.hid (known4_calls (w5.drewN q6))
                  have Hb5 := Lib.hid (Hst5.out.drewN q6).below
                  clear Hsm
                  go_wp2_with fail
                  refine Hkn.out.mono ?_
                  rintro e w7 ⟨rfl, hb6⟩
                  have Hb6 := Lib.hid (Hb5.out.trans (hb6.mono Hb5.out.size))
                  clear hb6
                  go_wp2_with fail
                  go_ret
                  exact ⟨rfl, Hb6.out⟩
            · have HstZ := Lib.hid hr
              have hget : Sat.get fN (lastD ls y k).files = Sat.get fN (lastF ls k) := rfl
              have hkl : k ≤ ls.length := by have := Hnl.out; omega
              clear hr
              rcases Nat.eq_zero_or_pos k with hk0 | hk0
              · subst hk0
                have Hcr := Lib.hid (st_crash HstZ.out dr hdr hdr')
                go_wp2_with fail
                refine Hcr.out.mono ?_
                rintro e w4 ⟨rfl, hst4, -⟩
                have Hld := Lib.hid (load_none hst4 sF (by decide) (last_none hget dr))
                clear hst4 Hcr
                go_wp2_with fail
                refine Hld.out.mono ?_
                rintro e w5 ⟨v5, rfl, -, -, hst5⟩
                have Hkn := Lib.hid (known4_calls w5)
                have Hb5 := Lib.hid hst5.below
                clear hst5 Hld
                go_wp2_with fail
                refine Hkn.out.mono ?_
                rintro e w6 ⟨rfl, hb6⟩
                have Hb6 := Lib.hid (Hb5.out.trans (hb6.mono Hb5.out.size))
                clear hb6
                go_wp2_with fail
                go_ret
                exact ⟨rfl, Hb6.out⟩
              · obtain ⟨j, rfl⟩ : ∃ j, k = j + 1 := ⟨k - 1, by omega⟩
                have hjl : j < ls.length := by omega
                have hjn : j < n := by have := Hnl.out; omega
                obtain ⟨-, bj, oj, vj, ej, hcellj, hvj⟩ := RowsAt.row Hx.out hjl
                have ej1 : (((j + 1 : Nat) : Int) - 1) = (j : Int) := by omega
                have hmj := cost5_row ls j hjl
                have Hcr := Lib.hid (st_crash HstZ.out dr hdr hdr')
                have Hget := Lib.hid (last_there hget hjl dr)
                have Hvj := Lib.hid hvj
                have Hcj := Lib.hid hcellj
                have Hmj := Lib.hid hmj
                clear hvj hcellj hmj hget
                rw [ej1]
                go_wp2_with fail
                refine Hcr.out.mono ?_
                rintro e w4 ⟨rfl, hst4, -⟩
                have Hld := Lib.hid (load_whole hst4 sF (by decide) (l := ls[j]) (by have := Hmj.out; have := Hls.out; omega) Hget.out)
                clear hst4 Hcr
                go_wp2_with fail
                refine Hld.out.mono ?_
                rintro e w5 ⟨v5, rfl, hv5, -, -, hst5⟩
                have hc5 := (hst5.below.cell (World.block_lt_of_cell? w _ Hcj.out)).trans Hcj.out
                have hsm := same4_calls hv5.has (HasB.below Hvj.out hst5.below) (by have := Hmj.out; have := Hls.out; omega) (by have := Hmj.out; have := Hls.out; omega)
                rw [beq_self_eq_true] at hsm
                have Hsm := Lib.hid hsm
                have Hst5 := Lib.hid hst5
                cases ej
                clear hst5 hsm hv5 Hld
                go_wp2_with fail
                refine Hsm.out.mono ?_
                rintro e w6 ⟨rfl, q6, rfl⟩
                have Hkn := Lib.hid (known4_calls (w5.drewN q6))
                have Hb5 := Lib.hid (Hst5.out.drewN q6).below
                clear Hsm
                go_wp2_with fail
                refine Hkn.out.mono ?_
                rintro e w7 ⟨rfl, hb6⟩
                have Hb6 := Lib.hid (Hb5.out.trans (hb6.mono Hb5.out.size))
                clear hb6
                go_wp2_with fail
                go_ret
                exact ⟨rfl, Hb6.out⟩
        · have Hkn := Lib.hid (known4_calls w)
          by_cases hz0 : 0 ≤ z
          all_goals
            go_wp2_with fail
            refine Hkn.out.mono ?_
            rintro e w' ⟨rfl, hb⟩
            go_wp2_with fail
            go_ret
            exact ⟨rfl, hb⟩
    · have Hkn := Lib.hid (known4_calls w)
      by_cases hlt : k < n
      all_goals
        generalize cost5 (ls.take k) = C at *
        go_wp2_with fail
        refine Hkn.out.mono ?_
        rintro e w' ⟨rfl, hb⟩
        go_wp2_with fail
        go_ret
        exact ⟨rfl, hb⟩
end Go.Proofs.Ytdlbamhabenhgaa
