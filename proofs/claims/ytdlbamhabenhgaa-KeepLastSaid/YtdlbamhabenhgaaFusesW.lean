/- DiskFuses: the walk. -/
import Derived.Test.YtdlbamhabenhgaaFuses
namespace Go.Proofs.Ytdlbamhabenhgaa
open Go.RowKit Go.Sat Go.Maps

def sNone : ByteArray := ⟨#[110, 111, 110, 101]⟩
def sZ : ByteArray := ⟨#[122]⟩

theorem rows_lit {w1 : World} : RowsAt (w1.alloc (.cells #[.slice none 0 0] 23)) (.slice (some ⟨w1.heap.size, 0, none⟩) 1 1) [[]] :=
  rows_one (v := .slice none 0 0) (l := []) ⟨by simp [bytesV], none, 0, rfl, fun _ => rfl, fun a ha => by cases ha⟩ _ (0, 0) _ 1 rfl (Nat.le_refl _)

set_option maxRecDepth 100000 in
set_option maxHeartbeats 4000000 in
theorem fuses_walk {w : World} {p : Option Addr} {n c : Nat} {ls : List Bs} (hx : RowsAt w (.slice p n c) ls) (hn : n ≤ 140737488355328) (hrow : ∀ l ∈ ls, l.length ≤ 140737488355328) (z : Int)
    (hz : -9223372036854775808 ≤ z) (hz' : z ≤ 9223372036854775807) :
    Calls Try.prog 5 #[.int .i64 z, .slice p n c] w (True3 w) := by
  have hnl := RowsAt.len hx
  have Hx := Lib.hid hx
  have Hrow := Lib.hid hrow
  have Hnl := Lib.hid hnl
  clear hx hrow hnl
  go_enter Try.func5, Try.ntmps5
  go_wp2_with fail
  go_loop [5, 6] (fun a i => ∃ k : Nat, k ≤ n ∧ i = .int .i64 k ∧ a = .int .i64 ((cost (ls.take k) : Nat) : Int) ∧ cost (ls.take k) ≤ 150000000000000) (fun _ i => n - (intOf i).toNat)
  case atStart => exact ⟨0, Nat.zero_le _, rfl, rfl, by simp [cost]⟩
  case round =>
    obtain ⟨k, hk, rfl, rfl, hck⟩ := hrel
    by_cases h8 : cost (ls.take k) ≤ 8000
    · by_cases hlt : k < n
      · have hltl : k < ls.length := by rw [← Hnl.out]; exact hlt
        obtain ⟨-, b, o, v, rfl, hcell, hv⟩ := RowsAt.row Hx.out hltl
        have hct := cost_take ls k hltl
        have hrl := Hrow.out _ (List.getElem_mem hltl)
        obtain ⟨pv, cv, rfl⟩ := hv.slice
        have Hct := Lib.hid hct
        clear hv hct
        generalize hm : ls[k].length = m at *
        have Hc8 := Lib.hid (show cost (ls.take (k + 1)) ≤ 150000000000000 by rw [Hct.out]; omega)
        generalize hC : cost (ls.take k) = C at *
        have HC := Lib.hid hC
        have Hm := Lib.hid hm
        clear hC hm
        go_wp2_with fail
        go_round
        case rel => exact ⟨k + 1, by omega, by go_num, by rw [Hct.out]; go_num, Hc8.out⟩
        case measure => simp [intOf]; omega
      · have hls : ls.take k = ls := List.take_of_length_le (by have := Hnl.out; omega)
        rw [hls] at h8 hck ⊢
        have hkn : k = n := by omega
        have hfl : ls.flatten.length ≤ 8000 := by
          have := cost_flat ls
          omega
        have Hfl := Lib.hid hfl
        generalize hC : cost ls = C at *
        by_cases hzz : 0 ≤ z ∧ z ≤ 1000
        · obtain ⟨hz0, hz1⟩ := hzz
          obtain ⟨y, rfl⟩ : ∃ y : Nat, z = (y : Int) := ⟨z.toNat, by omega⟩
          have Hnew := Lib.hid (st_new (w := w) (w1 := w) 1048576 (by decide) (by decide) (Below.refl _ _))
          clear hC hfl hkn hls
          go_wp2_with fail
          refine Hnew.out.mono ?_
          rintro e w1 ⟨d, rfl, hd⟩
          have hfu := st_fuse hd (y : Int) hz hz'
          rw [show DiskM.fresh (1048576 : Int).toNat = DiskM.fresh 1048576 from rfl, fuses_zero y (by omega), fuses_ls ls y] at hfu
          have Hfu := Lib.hid hfu
          clear hd Hnew hk h8 hck hfu
          go_wp2_with fail
          refine Hfu.out.mono ?_
          rintro e w2 ⟨rfl, hst2, -⟩
          have Hst2 := Lib.hid hst2
          clear hst2 Hfu
          go_wp2_with fail
          go_loopw [9] (fun i wr => ∃ k : Nat, k ≤ n ∧ i = .int .i64 k ∧ St w wr d (fusesD ls y k) NoF) (fun i _ => n - (intOf i).toNat)
          case atStart => exact ⟨0, Nat.zero_le _, rfl, Hst2.out⟩
          case round =>
            clear Hst2
            obtain ⟨k, hk, rfl, hr⟩ := hrel
            by_cases hlt : k < n
            · have hltl : k < ls.length := by rw [← Hnl.out]; exact hlt
              obtain ⟨-, b, o, v, rfl, hcell, hv⟩ := RowsAt.row Hx.out hltl
              have hcell2 := (hr.below.cell (World.block_lt_of_cell? w _ hcell)).trans hcell
              obtain ⟨pv, cv, rfl⟩ := hv.slice
              generalize hml : ls[k].length = ml at *
              have hap := fuses_append y hltl Hfl.out
              have happ := st_append (hr.alloc (.cells #[.slice pv ml cv] 23)) sF (.slice (some ⟨wr.heap.size, 0, none⟩) 1 1) [ls[k]] (rows_one (v := .slice pv ml cv) (hv.below hr.below) 23 (0, 0) _ 1 rfl (Nat.le_refl _)) (by simp) (by have := flat_take hltl; have h2 := flat_take_le ls (k + 1); rw [this, List.length_append] at h2; have := Hfl.out; rw [List.flatten_cons, List.flatten_nil, List.append_nil]; omega) (by decide)
              rw [show nm sF = fN from rfl, hap] at happ
              have Hr := Lib.hid hr
              clear hr hv hcell hap hml
              by_cases hky : k < y
              all_goals
                simp only [hky, if_true, if_false] at happ
                have Happ := Lib.hid happ
                clear happ
                have hd1 : decide ((k : Int) < (y : Int)) = decide (k < y) := by simp
                simp only [hky, decide_true, decide_false] at hd1
                go_wp2_with fail
                refine Happ.out.mono ?_
                rintro e w2 ⟨rfl, hst2, -⟩
                have Hst2 := Lib.hid hst2
                clear hst2
                go_wp2_with fail
                go_roundw
                case rel => exact ⟨k + 1, by omega, by go_num, Hst2.out⟩
                case measure => simp [intOf]; omega
            · have hkn : k = n := by omega
              have hrm := st_remove hr [sNone] wr.heap.size 1 rfl (0, 0) (by decide) (by decide)
              rw [show [sNone].map nm = [noneN] from rfl, fuses_remove] at hrm
              have Hr := Lib.hid hr
              subst hkn
              clear hr
              by_cases hky : k < y
              all_goals
                simp only [hky, if_true, if_false] at hrm
                have Hrm := Lib.hid hrm
                clear hrm
                have hd1 : decide ((k : Int) < (y : Int)) = decide (k < y) := by simp
                simp only [hky, decide_true, decide_false] at hd1
                go_wp2_with fail
                refine Hrm.out.mono ?_
                rintro e w2 ⟨rfl, hst2, -⟩
                have Hcr := Lib.hid (st_crash hst2 0 (by decide) (by decide))
                clear hst2 Hrm
                go_wp2_with fail
                refine Hcr.out.mono ?_
                rintro e w3 ⟨rfl, hst3, -⟩
                have hap := st_append (hst3.alloc (.cells #[.slice none 0 0] 23)) sZ (.slice (some ⟨w3.heap.size, 0, none⟩) 1 1) [[]] rows_lit (by decide) (by decide) (by decide)
                have hla := fuses_last ls y k 0 hst3.ok
                unfold Told at hap
                rw [show nm sZ = zN from rfl, hla] at hap
                have Hap := Lib.hid hap
                clear hst3 hap hla Hcr
                go_wp2_with fail
                refine Hap.out.mono ?_
                rintro e w4 ⟨rfl, hst4, -⟩
                have Hkn := Lib.hid (known_calls w4)
                have Hb3 := Lib.hid hst4.below
                clear hst4 Hap
                go_wp2_with fail
                refine Hkn.out.mono ?_
                rintro e w5 ⟨rfl, hb4⟩
                have Hb4 := Lib.hid (Hb3.out.trans (hb4.mono Hb3.out.size))
                clear hb4
                go_wp2_with fail
                go_ret
                exact ⟨rfl, Hb4.out⟩
        · have Hkn := Lib.hid (known_calls w)
          by_cases hz0 : 0 ≤ z
          all_goals
            go_wp2_with fail
            refine Hkn.out.mono ?_
            rintro e w' ⟨rfl, hb⟩
            go_wp2_with fail
            go_ret
            exact ⟨rfl, hb⟩
    · have Hkn := Lib.hid (known_calls w)
      by_cases hlt : k < n
      all_goals
        generalize cost (ls.take k) = C at *
        go_wp2_with fail
        refine Hkn.out.mono ?_
        rintro e w' ⟨rfl, hb⟩
        go_wp2_with fail
        go_ret
        exact ⟨rfl, hb⟩
end Go.Proofs.Ytdlbamhabenhgaa
