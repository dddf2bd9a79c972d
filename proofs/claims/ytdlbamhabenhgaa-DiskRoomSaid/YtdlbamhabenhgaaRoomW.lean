/- DiskRoom: the walk. -/
import Derived.Test.YtdlbamhabenhgaaRoom
import Derived.Test.YtdlbamhabenhgaaOrd
namespace Go.Proofs.Ytdlbamhabenhgaa
open Go.RowKit Go.Sat Go.Maps

def s3 (k : Nat) : ByteArray := strOfNums [102, (k : Int) % 3]

theorem s3_conv (k : Nat) (w : World) : (convert 23 9 (.slice (some ⟨w.heap.size, 0, none⟩) 2 2)).run Try.prog (w.alloc (.cells #[.int .u8 102, .int .u8 ((k : Int) % 3)] 5)) = .ok (.string (s3 k)) (w.alloc (.cells #[.int .u8 102, .int .u8 ((k : Int) % 3)] 5)) :=
  run_convert_bytes_arg _ 23 5 Try.underlying23 Try.underlying5 w.heap.size 0 2 2 [102, (k : Int) % 3] rfl (fun i hi => by
    refine cell_of (new_block w _) ?_
    have : i = 0 ∨ i = 1 := by omega
    rcases this with rfl | rfl <;> simp) 9 Try.underlying9

theorem s3_size (k : Nat) : (s3 k).size ≤ 9223372036854775807 := by
  have : (s3 k).size = 2 := by simp [s3, strOfNums, ByteArray.size]
  omega

theorem s3_ok (k : Nat) : okN (nm (s3 k)) = true := by
  have : (nm (s3 k)).length = 2 := by simp [nm, s3, strOfNums]
  simp [okN, this]

/-- A row of somebody's own (new) that the disk does not touch. -/
theorem st_own {w w1 w2 : World} {d : Nat} {D : DiskM} {v : Value} {e : TypeId} {l : Bs} (h : St w w1 d D NoF) (hb : Below w1.heap.size w1 w2) (hv : OwnB w2 e v l) (hn : ∀ k, v.ownBlock = some k → w1.heap.size ≤ k) :
    St w w2 d D (fun j => v.ownBlock = some j) :=
  h.move (S := fun _ => False) (Chg.of_below hb) (fun _ _ h => h.elim) fun k hk => ⟨.inr (hn k hk), OwnR.lt hv hk⟩

theorem below_on {w W W' : World} (h : Below w.heap.size w W) (k : Below W.heap.size W W') : Below w.heap.size w W' := h.trans (k.mono h.size)

set_option maxRecDepth 100000 in
set_option maxHeartbeats 4000000 in
theorem room_walk {w : World} {p : Option Addr} {n c : Nat} {ls : List Bs} (hx : RowsAt w (.slice p n c) ls) (hn : n ≤ 140737488355328) (hrow : ∀ l ∈ ls, l.length ≤ 140737488355328) (z : Int)
    (hz : -9223372036854775808 ≤ z) (hz' : z ≤ 9223372036854775807) :
    Calls Try.prog 4 #[.int .i64 z, .slice p n c] w (True3 w) := by
  have hnl := RowsAt.len hx
  have Hx := Lib.hid hx
  have Hrow := Lib.hid hrow
  have Hnl := Lib.hid hnl
  clear hx hrow hnl
  go_enter Try.func4, Try.ntmps4
  go_wp2_with fail
  go_loop [5, 6] (fun a i => ∃ k : Nat, k ≤ n ∧ i = .int .i64 k ∧ a = .int .i64 ((cost (ls.take k) : Nat) : Int) ∧ cost (ls.take k) ≤ 150000000000000) (fun _ i => n - (intOf i).toNat)
  case atStart => exact ⟨0, Nat.zero_le _, rfl, rfl, by simp [cost]⟩
  case round =>
    obtain ⟨k, hk, rfl, rfl, hck⟩ := hrel
    by_cases h8 : cost (ls.take k) ≤ 8000
    · by_cases hlt : k < n
      · have hltl : k < ls.length := by rw [← Hnl.out]; exact hlt
        obtain ⟨-, b, o, v, rfl, hcell, hv⟩ := RowsAt.row Hx.out hltl
        have hct := cost_take ls k hltl
        have hrl := Hrow.out _ (List.getElem_mem hltl)
        obtain ⟨pv, cv, rfl⟩ := hv.slice
        have Hct := Lib.hid hct
        clear hv hct
        generalize hm : ls[k].length = m at *
        have Hc8 := Lib.hid (show cost (ls.take (k + 1)) ≤ 150000000000000 by rw [Hct.out]; omega)
        generalize hC : cost (ls.take k) = C at *
        have HC := Lib.hid hC
        have Hm := Lib.hid hm
        clear hC hm
        go_wp2_with fail
        go_round
        case rel => exact ⟨k + 1, by omega, by go_num, by rw [Hct.out]; go_num, Hc8.out⟩
        case measure => simp [intOf]; omega
      · have hls : ls.take k = ls := List.take_of_length_le (by have := Hnl.out; omega)
        rw [hls] at h8 hck ⊢
        have hkn : k = n := by omega
        have hfl : ls.flatten.length ≤ 8000 := by
          have := cost_flat ls
          omega
        have Hfl := Lib.hid hfl
        generalize hC : cost ls = C at *
        by_cases hzz : 0 ≤ z ∧ z ≤ 5000 ∧ n ≤ 60
        · obtain ⟨hz0, hz1, hn60⟩ := hzz
          obtain ⟨y, rfl⟩ : ∃ y : Nat, z = (y : Int) := ⟨z.toNat, by omega⟩
          have Hnew := Lib.hid (st_new (w := w) (w1 := w) (y : Int) hz0 (by omega) (Below.refl _ _))
          clear hC hfl hkn hls
          go_wp2_with fail
          refine Hnew.out.mono ?_
          rintro e w1 ⟨d, rfl, hd⟩
          have Hd := Lib.hid hd
          clear hd Hnew hk h8 hck
          obtain ⟨i0, hi, hzz0, hzz1, hzz2⟩ := info_parts (show (Try.prog.info? 5).map (fun i => (i.zero, i.size, i.bytes)) = some (some (.int .u8 0), 1, 1) by kernel_rfl)
          go_wp2_with fail
          go_loopw [9] (fun i wr => ∃ k : Nat, k ≤ n ∧ i = .int .i64 k ∧ ∃ D, St w wr d D NoF ∧ Easy D y k) (fun i _ => n - (intOf i).toNat)
          case atStart => exact ⟨0, Nat.zero_le _, rfl, _, Hd.out, easy_fresh y (by omega)⟩
          case round =>
            clear Hd
            obtain ⟨k, hk, rfl, D, hr, he⟩ := hrel
            by_cases hlt : k < n
            · have hltl : k < ls.length := by rw [← Hnl.out]; exact hlt
              obtain ⟨-, b, o, v, rfl, hcell, hv⟩ := RowsAt.row Hx.out hltl
              have Hcell0 := Lib.hid hcell
              obtain ⟨pv, cv, rfl⟩ := hv.slice
              generalize hml : ls[k].length = ml at *
              have hrow := Hrow.out _ (List.getElem_mem hltl)
              have hrd := st_read (hr.alloc (.cells #[.int .u8 102, .int .u8 ((k : Int) % 3)] 5)) (s3 k) (s3_size k)
              have hml8 : ml ≤ 8000 := by have := flat_take hltl; have h2 := flat_take_le ls (k + 1); rw [this, List.length_append] at h2; have := Hfl.out; omega
              have Hv0 := Lib.hid (show HasB w (.slice pv ml cv) ls[k] from hv)
              have Hml := Lib.hid hml
              have Hr := Lib.hid hr
              have He := Lib.hid he
              have Hrd := Lib.hid hrd
              have hcv := s3_conv k
              clear hr he hv hcell hml hrow hrd
              go_wp2_with fail
              clear hcv
              refine Hrd.out.mono ?_
              rintro e w1 ⟨va, rfl, hva, hnew, hb1, -⟩
              have hst1 := st_own (Hr.out.alloc (.cells #[.int .u8 102, .int .u8 ((k : Int) % 3)] 5)) hb1 hva hnew
              have Hus := Lib.hid (st_used hst1)
              have Hva := Lib.hid hva
              clear hva hnew hst1 hb1 Hrd
              go_wp2_with fail
              refine Hus.out.mono ?_
              rintro e w2 ⟨rfl, hb2, hst2⟩
              have hcell3 := (hst2.below.cell (World.block_lt_of_cell? w _ Hcell0.out)).trans Hcell0.out
              have hva2 : OwnB w2 5 va (dataOf (Sat.get (nm (s3 k)) D.files)) := Hva.out.keep fun j hj => hb2.block j (OwnR.lt Hva.out hj)
              have hv2 := Hv0.out.below hst2.below
              have happ := st_append (hst2.alloc (.cells #[.slice pv ml cv] 23)) (s3 k) (.slice (some ⟨w2.heap.size, 0, none⟩) 1 1) [ls[k]] (rows_one (v := .slice pv ml cv) hv2 23 (0, 0) _ 1 rfl (Nat.le_refl _)) (by simp) (by rw [List.flatten_cons, List.flatten_nil, List.append_nil, Hml.out]; omega) (s3_size k)
              rw [show [ls[k]].flatten = ls[k] by simp] at happ
              have Hva2 := Lib.hid hva2
              have Hb2 := Lib.hid hb2
              clear hst2 hva2 hv2 Hus hb2
              have hused := He.out.ok.used
              rw [He.out.room] at hused
              generalize hU : D.used = U at *
              have HU := Lib.hid hU
              clear hU
              by_cases hfit : U + ml ≤ y
              · obtain ⟨D', e1, hE, e2⟩ := He.out.some (n := nm (s3 k)) (b := ls[k]) (by omega) (s3_ok k) (by rw [HU.out, Hml.out]; exact hfit)
                rw [e1] at happ
                have Happ := Lib.hid happ
                have HE := Lib.hid hE
                have He2 := Lib.hid e2
                clear happ e1 hE e2
                go_wp2_with fail
                refine Happ.out.mono ?_
                rintro e w3 ⟨rfl, hst3, hsame3⟩
                have hva3 := own_same (own_alloc Hva2.out _) hsame3 fun j hj => hj
                have Hrd3 := Lib.hid (st_read hst3 (s3 k) (s3_size k))
                have Hva3 := Lib.hid hva3
                clear hst3 hsame3 hva3 Happ
                go_wp2_with fail
                refine Hrd3.out.mono ?_
                rintro e w4 ⟨vb, rfl, hvb, hnewb, hb4, hst4⟩
                have hcell4 := (hst4.below.cell (World.block_lt_of_cell? w _ Hcell0.out)).trans Hcell0.out
                have hva4 : OwnB w4 5 va (dataOf (Sat.get (nm (s3 k)) D.files)) := Hva3.out.keep fun j hj => hb4.block j (OwnR.lt Hva3.out hj)
                rw [He2.out] at hvb
                have hdl := got_le He.out.ok (nm (s3 k))
                rw [HU.out] at hdl
                generalize dataOf (Sat.get (nm (s3 k)) D.files) = dl at *
                have Hva4 := Lib.hid hva4
                have Hvb4 := Lib.hid hvb
                have Hus4 := Lib.hid (st_used (show St w w4.drew d D' _ from hst4.drewN 1))
                have hu' := HE.out.ok.used
                rw [HE.out.room] at hu'
                have Hce := Lib.hid (show ∀ W, Below w4.heap.size w4 W → W.cell? ⟨b, o + k, none⟩ = some (.slice pv ml cv) from fun W hW => (hW.cell (World.block_lt_of_cell? w4 _ hcell4)).trans hcell4)
                have Hrw := Lib.hid (show ∀ W, Below w4.heap.size w4 W → Holds W 1 (.slice pv ml cv) ml (bytesV ls[k]) from fun W hW => by
                  have h := (Hv0.out.below hst4.below).below hW
                  unfold HasB at h
                  rw [Hml.out] at h
                  exact h)
                have hfd : decide ((U : Int) + (ml : Int) ≤ (y : Int)) = true := by simp; omega
                have Hst4 := Lib.hid hst4
                generalize hU' : D'.used = U' at *
                have hgd : decide ((y : Int) < (U' : Int)) = false := by simp; omega
                have hgd' : decide (y < U') = false := by simp; omega
                clear hva4 hvb hst4 hb4 hnewb Hrd3 Hva3
                go_wp2_with fail
                refine ord_start (fun w' : World => w'.cell? ⟨b, o + k, none⟩ = some (.slice pv ml cv)) (n := 42) (by kernel_rfl) rfl hcell4 (fun hHeld => ?_)
                refine ord_take 0 (v := ?v0) rfl (by kernel_rfl) (by kernel_rfl) (by kernel_rfl) (fun _ _ _ h => h) (by rfl) (by assumption) ?y0 ?_
                case y0 => (intro w hSw; (try dsimp only at hSw); go_simp; try with_reducible rfl)
                simp only [Act.put, List.setIfInBounds_toArray, List.set_cons_zero, List.set_cons_succ]
                refine ord_take 2 (v := ?v2) rfl (by kernel_rfl) (by kernel_rfl) (by kernel_rfl) (fun _ _ _ h => h) (by rfl) (by assumption) ?y2 ?_
                case y2 => (intro w hSw; (try dsimp only at hSw); go_simp; try with_reducible rfl)
                simp only [Act.put, List.setIfInBounds_toArray, List.set_cons_zero, List.set_cons_succ]
                refine ord_take 1 (v := ?v1) rfl (by kernel_rfl) (by kernel_rfl) (by kernel_rfl) (fun _ _ _ h => h) (by rfl) (by assumption) ?y1 ?_
                case y1 => (intro w hSw; (try dsimp only at hSw); go_simp; try with_reducible rfl)
                simp only [Act.put, List.setIfInBounds_toArray, List.set_cons_zero, List.set_cons_succ]
                refine ord_take 3 (v := ?v3) rfl (by kernel_rfl) (by kernel_rfl) (by kernel_rfl) (fun _ _ _ h => h) (by rfl) (by assumption) ?y3 ?_
                case y3 => (intro w hSw; (try dsimp only at hSw); go_simp; try with_reducible rfl)
                simp only [Act.put, List.setIfInBounds_toArray, List.set_cons_zero, List.set_cons_succ]
                refine ord_take 4 (v := ?v4) rfl (by kernel_rfl) (by kernel_rfl) (by kernel_rfl) (fun _ _ _ h => h) (by rfl) (by assumption) ?y4 ?_
                case y4 => (intro w hSw; (try dsimp only at hSw); go_simp; try with_reducible rfl)
                simp only [Act.put, List.setIfInBounds_toArray, List.set_cons_zero, List.set_cons_succ]
                refine ord_take 5 (v := ?v5) rfl (by kernel_rfl) (by kernel_rfl) (by kernel_rfl) (fun _ _ _ h => h) (by rfl) (by assumption) ?y5 ?_
                case y5 => (intro w hSw; (try dsimp only at hSw); go_simp; try with_reducible rfl)
                simp only [Act.put, List.setIfInBounds_toArray, List.set_cons_zero, List.set_cons_succ]
                refine ord_take 7 (v := ?v7) rfl (by kernel_rfl) (by kernel_rfl) (by kernel_rfl) (fun _ _ _ h => h) (by rfl) (by assumption) ?y7 ?_
                case y7 => (intro w hSw; (try dsimp only at hSw); go_simp; try with_reducible rfl)
                simp only [Act.put, List.setIfInBounds_toArray, List.set_cons_zero, List.set_cons_succ]
                refine ord_one 6 rfl (by kernel_rfl) (by rfl) (fun K hK => ?_)
                go_wp2_with fail
                refine Hus4.out.mono ?_
                rintro e w5 ⟨rfl, hb5, -⟩
                have X5 := Lib.hid (below_on (Below.refl _ w4).drew hb5)
                clear hb5
                go_wp2_with fail
                refine hK.out _ _ (Hce.out _ X5.out) (fun hHeld => ?_)
                clear hK
                try simp only [Act.put, List.setIfInBounds_toArray, List.set_cons_zero, List.set_cons_succ]
                refine ord_take 8 (v := ?v8) rfl (by kernel_rfl) (by kernel_rfl) (by kernel_rfl) (fun _ _ _ h => h) (by rfl) (by assumption) ?y8 ?_
                case y8 => (intro w hSw; (try dsimp only at hSw); go_simp; try with_reducible rfl)
                simp only [Act.put, List.setIfInBounds_toArray, List.set_cons_zero, List.set_cons_succ]
                refine ord_take 9 (v := ?v9) rfl (by kernel_rfl) (by kernel_rfl) (by kernel_rfl) (fun _ _ _ h => h) (by rfl) (by assumption) ?y9 ?_
                case y9 => (intro w hSw; (try dsimp only at hSw); go_simp; try with_reducible rfl)
                simp only [Act.put, List.setIfInBounds_toArray, List.set_cons_zero, List.set_cons_succ]
                refine ord_take 10 (v := ?v10) rfl (by kernel_rfl) (by kernel_rfl) (by kernel_rfl) (fun _ _ _ h => h) (by rfl) (by assumption) ?y10 ?_
                case y10 => (intro w hSw; (try dsimp only at hSw); go_simp; try with_reducible rfl)
                simp only [Act.put, List.setIfInBounds_toArray, List.set_cons_zero, List.set_cons_succ]
                refine ord_take 11 (v := ?v11) rfl (by kernel_rfl) (by kernel_rfl) (by kernel_rfl) (fun _ _ _ h => h) (by rfl) (by assumption) ?y11 ?_
                case y11 => (intro w hSw; (try dsimp only at hSw); go_simp; try with_reducible rfl)
                simp only [Act.put, List.setIfInBounds_toArray, List.set_cons_zero, List.set_cons_succ]
                refine ord_take 12 (v := ?v12) rfl (by kernel_rfl) (by kernel_rfl) (by kernel_rfl) (fun _ _ _ h => h) (by rfl) (by assumption) ?y12 ?_
                case y12 => (intro w hSw; (try dsimp only at hSw); go_simp; try with_reducible rfl)
                simp only [Act.put, List.setIfInBounds_toArray, List.set_cons_zero, List.set_cons_succ]
                refine ord_take 13 (v := ?v13) rfl (by kernel_rfl) (by kernel_rfl) (by kernel_rfl) (fun _ _ _ h => h) (by rfl) (by assumption) ?y13 ?_
                case y13 => (intro w hSw; (try dsimp only at hSw); go_simp; try with_reducible rfl)
                simp only [Act.put, List.setIfInBounds_toArray, List.set_cons_zero, List.set_cons_succ]
                refine ord_skip 14 rfl (by kernel_rfl) (by kernel_rfl) (by kernel_rfl) (fun _ _ _ h => h) (by rfl) (by assumption) ?_
                simp only [Act.put, List.setIfInBounds_toArray, List.set_cons_zero, List.set_cons_succ]
                refine ord_skip 15 rfl (by kernel_rfl) (by kernel_rfl) (by kernel_rfl) (fun _ _ _ h => h) (by rfl) (by assumption) ?_
                simp only [Act.put, List.setIfInBounds_toArray, List.set_cons_zero, List.set_cons_succ]
                refine ord_skip 16 rfl (by kernel_rfl) (by kernel_rfl) (by kernel_rfl) (fun _ _ _ h => h) (by rfl) (by assumption) ?_
                simp only [Act.put, List.setIfInBounds_toArray, List.set_cons_zero, List.set_cons_succ]
                refine ord_skip 17 rfl (by kernel_rfl) (by kernel_rfl) (by kernel_rfl) (fun _ _ _ h => h) (by rfl) (by assumption) ?_
                simp only [Act.put, List.setIfInBounds_toArray, List.set_cons_zero, List.set_cons_succ]
                refine ord_skip 18 rfl (by kernel_rfl) (by kernel_rfl) (by kernel_rfl) (fun _ _ _ h => h) (by rfl) (by assumption) ?_
                simp only [Act.put, List.setIfInBounds_toArray, List.set_cons_zero, List.set_cons_succ]
                refine ord_skip 19 rfl (by kernel_rfl) (by kernel_rfl) (by kernel_rfl) (fun _ _ _ h => h) (by rfl) (by assumption) ?_
                simp only [Act.put, List.setIfInBounds_toArray, List.set_cons_zero, List.set_cons_succ]
                refine ord_skip 20 rfl (by kernel_rfl) (by kernel_rfl) (by kernel_rfl) (fun _ _ _ h => h) (by rfl) (by assumption) ?_
                simp only [Act.put, List.setIfInBounds_toArray, List.set_cons_zero, List.set_cons_succ]
                refine ord_skip 21 rfl (by kernel_rfl) (by kernel_rfl) (by kernel_rfl) (fun _ _ _ h => h) (by rfl) (by assumption) ?_
                simp only [Act.put, List.setIfInBounds_toArray, List.set_cons_zero, List.set_cons_succ]
                refine ord_skip 22 rfl (by kernel_rfl) (by kernel_rfl) (by kernel_rfl) (fun _ _ _ h => h) (by rfl) (by assumption) ?_
                simp only [Act.put, List.setIfInBounds_toArray, List.set_cons_zero, List.set_cons_succ]
                refine ord_skip 23 rfl (by kernel_rfl) (by kernel_rfl) (by kernel_rfl) (fun _ _ _ h => h) (by rfl) (by assumption) ?_
                simp only [Act.put, List.setIfInBounds_toArray, List.set_cons_zero, List.set_cons_succ]
                refine ord_take 24 (v := ?v24) rfl (by kernel_rfl) (by kernel_rfl) (by kernel_rfl) (fun _ _ _ h => h) (by rfl) (by assumption) ?y24 ?_
                case y24 => (intro w hSw; (try dsimp only at hSw); go_simp; try with_reducible rfl)
                simp only [Act.put, List.setIfInBounds_toArray, List.set_cons_zero, List.set_cons_succ]
                refine ord_take 25 (v := ?v25) rfl (by kernel_rfl) (by kernel_rfl) (by kernel_rfl) (fun _ _ _ h => h) (by rfl) (by assumption) ?y25 ?_
                case y25 => (intro w hSw; (try dsimp only at hSw); go_simp; try with_reducible rfl)
                simp only [Act.put, List.setIfInBounds_toArray, List.set_cons_zero, List.set_cons_succ]
                refine ord_take 26 (v := ?v26) rfl (by kernel_rfl) (by kernel_rfl) (by kernel_rfl) (fun _ _ _ h => h) (by rfl) (by assumption) ?y26 ?_
                case y26 => (intro w hSw; (try dsimp only at hSw); go_simp; try with_reducible rfl)
                simp only [Act.put, List.setIfInBounds_toArray, List.set_cons_zero, List.set_cons_succ]
                refine ord_take 27 (v := ?v27) rfl (by kernel_rfl) (by kernel_rfl) (by kernel_rfl) (fun _ _ _ h => h) (by rfl) (by assumption) ?y27 ?_
                case y27 => (intro w hSw; (try dsimp only at hSw); go_simp; try with_reducible rfl)
                simp only [Act.put, List.setIfInBounds_toArray, List.set_cons_zero, List.set_cons_succ]
                refine ord_take 28 (v := ?v28) rfl (by kernel_rfl) (by kernel_rfl) (by kernel_rfl) (fun _ _ _ h => h) (by rfl) (by assumption) ?y28 ?_
                case y28 => (intro w hSw; (try dsimp only at hSw); go_simp; try with_reducible rfl)
                simp only [Act.put, List.setIfInBounds_toArray, List.set_cons_zero, List.set_cons_succ]
                refine ord_take 29 (v := ?v29) rfl (by kernel_rfl) (by kernel_rfl) (by kernel_rfl) (fun _ _ _ h => h) (by rfl) (by assumption) ?y29 ?_
                case y29 => (intro w hSw; (try dsimp only at hSw); go_simp; try with_reducible rfl)
                simp only [Act.put, List.setIfInBounds_toArray, List.set_cons_zero, List.set_cons_succ]
                refine ord_take 31 (v := ?v31) rfl (by kernel_rfl) (by kernel_rfl) (by kernel_rfl) (fun _ _ _ h => h) (by rfl) (by assumption) ?y31 ?_
                case y31 => (intro w hSw; (try dsimp only at hSw); go_simp; try with_reducible rfl)
                simp only [Act.put, List.setIfInBounds_toArray, List.set_cons_zero, List.set_cons_succ]
                refine ord_take 33 (v := ?v33) rfl (by kernel_rfl) (by kernel_rfl) (by kernel_rfl) (fun _ _ _ h => h) (by rfl) (by assumption) ?y33 ?_
                case y33 => (intro w hSw; (try dsimp only at hSw); go_simp; try with_reducible rfl)
                simp only [Act.put, List.setIfInBounds_toArray, List.set_cons_zero, List.set_cons_succ]
                refine ord_take 34 (v := ?v34) rfl (by kernel_rfl) (by kernel_rfl) (by kernel_rfl) (fun _ _ _ h => h) (by rfl) (by assumption) ?y34 ?_
                case y34 => (intro w hSw; (try dsimp only at hSw); go_simp; try with_reducible rfl)
                simp only [Act.put, List.setIfInBounds_toArray, List.set_cons_zero, List.set_cons_succ]
                refine ord_take 35 (v := ?v35) rfl (by kernel_rfl) (by kernel_rfl) (by kernel_rfl) (fun _ _ _ h => h) (by rfl) (by assumption) ?y35 ?_
                case y35 => (intro w hSw; (try dsimp only at hSw); go_simp; try with_reducible rfl)
                simp only [Act.put, List.setIfInBounds_toArray, List.set_cons_zero, List.set_cons_succ]
                refine ord_take 36 (v := ?v36) rfl (by kernel_rfl) (by kernel_rfl) (by kernel_rfl) (fun _ _ _ h => h) (by rfl) (by assumption) ?y36 ?_
                case y36 => (intro w hSw; (try dsimp only at hSw); go_simp; try with_reducible rfl)
                simp only [Act.put, List.setIfInBounds_toArray, List.set_cons_zero, List.set_cons_succ]
                refine ord_one 30 rfl (by kernel_rfl) (by rfl) (fun K hK => ?_)
                go_wp2_with fail
                have X5a := Lib.hid (below_on X5.out ((Below.refl w5.heap.size w5).alloc (Nat.le_refl _) (.cells #[] 5)))
                refine hK.out _ _ (Hce.out _ X5a.out) (fun hHeld => ?_)
                clear hK
                try simp only [Act.put, List.setIfInBounds_toArray, List.set_cons_zero, List.set_cons_succ]
                refine ord_one 32 rfl (by kernel_rfl) (by rfl) (fun K hK => ?_)
                refine wp_app (.tmp 135) (.tmp 136) 23 (by rfl) 5 i0 (.int .u8 0) 1 1 Try.underlying23 hi hzz0 hzz1 hzz2 rfl (by decide) (.slice (some ⟨w5.heap.size, 0, none⟩) 0 0) 0 [] (by rfl) (own_empty w5 _) va dl.length (bytesV dl) (by rfl) (Hva4.out.has.below X5a.out) (bytesV_one _) (by unfold maxLen; omega) (by omega) ?_
                intro v6 w6 hown6 hgrow6 hloc6
                have X6 := Lib.hid (X5a.out.grown hgrow6 X5a.out.size (fun j e => by have := X5.out.size; simp [Value.ownBlock] at e; omega))
                have hnew6 : ∀ j, v6.ownBlock = some j → w4.heap.size ≤ j := fun j hj => by
                  have h5 := X5.out.size
                  rcases hloc6 with e | ⟨g, e, hge⟩
                  · rw [hj] at e
                    simp [Value.ownBlock] at e
                    omega
                  · rw [hj] at e
                    have h6 := X5a.out.size
                    cases e
                    omega
                rw [Nat.zero_add, List.nil_append] at hown6
                have Hown6 := Lib.hid hown6
                have Hnew6 := Lib.hid hnew6
                clear hgrow6 hloc6 hown6 hnew6
                refine hK.out _ _ (Hce.out _ X6.out) (fun hHeld => ?_)
                clear hK
                try simp only [Act.put, List.setIfInBounds_toArray, List.set_cons_zero, List.set_cons_succ]
                refine ord_one 37 rfl (by kernel_rfl) (by rfl) (fun K hK => ?_)
                refine wp_app (.tmp 137) (.tmp 141) 23 (by rfl) 5 i0 (.int .u8 0) 1 1 Try.underlying23 hi hzz0 hzz1 hzz2 rfl (by decide) v6 dl.length (bytesV dl) (by rfl) Hown6.out (.slice pv ml cv) ml (bytesV ls[k]) (by rfl) (Hrw.out _ X6.out) (bytesV_one _) (by unfold maxLen; omega) (by omega) ?_
                intro v7 w7 hown7 hgrow7 hloc7
                have X7 := Lib.hid (X6.out.grown hgrow7 X6.out.size Hnew6.out)
                have hv7 : OwnB w7 5 v7 (dl ++ ls[k]) := by
                  unfold OwnB
                  rw [List.length_append, Hml.out, bytesV_app]
                  exact hown7
                have hsm := same_calls (Hvb4.out.has.below X7.out) hv7.has (by rw [List.length_append, Hml.out]; omega) (by rw [List.length_append, Hml.out]; omega)
                rw [beq_self_eq_true] at hsm
                have Hsm := Lib.hid hsm
                clear hgrow7 hloc7 hown7 hv7 hsm
                refine hK.out _ _ (Hce.out _ X7.out) (fun hHeld => ?_)
                clear hK
                try simp only [Act.put, List.setIfInBounds_toArray, List.set_cons_zero, List.set_cons_succ]
                refine ord_one 38 rfl (by kernel_rfl) (by rfl) (fun K hK => ?_)
                go_wp2_with fail
                refine Hsm.out.mono ?_
                rintro e w8 ⟨rfl, q, rfl⟩
                go_wp2_with fail
                refine hK.out _ _ (Hce.out _ (below_on X7.out ⟨rfl, rfl, rfl, Nat.le_refl _, fun _ _ => rfl⟩)) (fun hHeld => ?_)
                clear hK
                try simp only [Act.put, List.setIfInBounds_toArray, List.set_cons_zero, List.set_cons_succ]
                refine ord_take 39 (v := ?v39) rfl (by kernel_rfl) (by kernel_rfl) (by kernel_rfl) (fun _ _ _ h => h) (by rfl) (by assumption) ?y39 ?_
                case y39 => (intro w hSw; (try dsimp only at hSw); go_simp; try with_reducible rfl)
                simp only [Act.put, List.setIfInBounds_toArray, List.set_cons_zero, List.set_cons_succ]
                refine ord_take 40 (v := ?v40) rfl (by kernel_rfl) (by kernel_rfl) (by kernel_rfl) (fun _ _ _ h => h) (by rfl) (by assumption) ?y40 ?_
                case y40 => (intro w hSw; (try dsimp only at hSw); go_simp; try with_reducible rfl)
                simp only [Act.put, List.setIfInBounds_toArray, List.set_cons_zero, List.set_cons_succ]
                refine ord_take 41 (v := ?v41) rfl (by kernel_rfl) (by kernel_rfl) (by kernel_rfl) (fun _ _ _ h => h) (by rfl) (by assumption) ?y41 ?_
                case y41 => (intro w hSw; (try dsimp only at hSw); go_simp; try with_reducible rfl)
                simp only [Act.put, List.setIfInBounds_toArray, List.set_cons_zero, List.set_cons_succ]
                refine wpAnyH_done (by kernel_rfl) ?_ _
                go_wp2
                go_roundw
                case rel => exact ⟨k + 1, by omega, by go_num, D', ((Hst4.out.next X7.out).drewN q).noF, HE.out⟩
                case measure => simp [intOf]; omega
              · have e1 := He.out.none (n := nm (s3 k)) (b := ls[k]) (by omega) (s3_ok k) (by rw [HU.out, Hml.out]; omega)
                rw [e1] at happ
                have Happ := Lib.hid happ
                clear happ e1
                go_wp2_with fail
                refine Happ.out.mono ?_
                rintro e w3 ⟨rfl, hst3, hsame3⟩
                have hva3 := own_same (own_alloc Hva2.out _) hsame3 fun j hj => hj
                have Hrd3 := Lib.hid (st_read hst3 (s3 k) (s3_size k))
                have Hva3 := Lib.hid hva3
                clear hst3 hsame3 hva3 Happ
                go_wp2_with fail
                refine Hrd3.out.mono ?_
                rintro e w4 ⟨vb, rfl, hvb, hnewb, hb4, hst4⟩
                have hcell4 := (hst4.below.cell (World.block_lt_of_cell? w _ Hcell0.out)).trans Hcell0.out
                have hva4 : OwnB w4 5 va (dataOf (Sat.get (nm (s3 k)) D.files)) := Hva3.out.keep fun j hj => hb4.block j (OwnR.lt Hva3.out hj)
                have Hva4 := Lib.hid hva4
                have Hvb4 := Lib.hid hvb
                have hfd : decide ((U : Int) + (ml : Int) ≤ (y : Int)) = false := by simp; omega
                have hgd : decide ((y : Int) < (U : Int)) = false := by simp; omega
                have hgd' : decide (y < U) = false := by simp; omega
                have HUs : ∀ W, Below w4.heap.size w4 W → Calls Try.prog 21 #[.pointer (some ⟨d, 0, none⟩)] W (fun e w' => e = .returned (.int .i64 (U : Int)) ∧ Below w4.heap.size w4 w') := fun W hW =>
                  (st_used (hst4.next hW)).mono fun e w' h => ⟨by rw [h.1, HU.out], below_on hW h.2.1⟩
                have hdl := got_le He.out.ok (nm (s3 k))
                rw [HU.out] at hdl
                have HSm : ∀ W, Below w4.heap.size w4 W → Calls Try.prog 20 #[vb, va] W (fun e w' => e = .returned (.bool true) ∧ Below w4.heap.size w4 w') := fun W hW =>
                  (same_calls (Hvb4.out.has.below hW) (Hva4.out.has.below hW) (by omega) (by omega)).mono fun e w' h => by
                    obtain ⟨h1, q, rfl⟩ := h
                    exact ⟨by rw [h1, beq_self_eq_true], below_on hW ⟨rfl, rfl, rfl, Nat.le_refl _, fun _ _ => rfl⟩⟩
                have HUs := Lib.hid HUs
                have HSm := Lib.hid HSm
                have Hst4 := Lib.hid hst4
                clear hva4 hvb hst4 hb4 hnewb Hrd3 Hva3 hdl
                go_wp2_with fail
                obtain ⟨ι, F, hne, hF0, hFS, hFall⟩ := classOf (fun W => Below w4.heap.size w4 W) (w := w4.drew) (Below.refl _ _).drew
                have HFS := Lib.hid hFS
                have HFall := Lib.hid hFall
                clear hFS hFall
                refine wp_region_class F (by kernel_rfl) (by kernel_rfl) hF0 ?_
                repeat (go_big_quiet_step (first | (go_at_call 21; refine (HUs.out _ (HFS.out _)).mono ?_; rintro e w2 ⟨rfl, hb2⟩; exact ⟨rfl, HFall.out _ hb2⟩) | (go_at_call 20; refine (HSm.out _ (HFS.out _)).mono ?_; rintro e w2 ⟨rfl, hb2⟩; exact ⟨rfl, HFall.out _ hb2⟩)))
                refine wpQuiet_nil ?_
                rintro _ ⟨q, rfl⟩
                have HS2 := Lib.hid (HFS.out q)
                clear HFS HFall hF0
                generalize F q = w5 at HS2 ⊢
                go_wp2
                go_roundw
                case rel => exact ⟨k + 1, by omega, by go_num, D, (Hst4.out.next HS2.out).noF, ⟨He.out.ok, He.out.room, He.out.fuse, Nat.le_succ_of_le He.out.len⟩⟩
                case measure => simp [intOf]; omega
            · have Hkn := Lib.hid (known_calls wr)
              have Hb := Lib.hid hr.below
              clear hr he
              go_wp2_with fail
              refine Hkn.out.mono ?_
              rintro e w5 ⟨rfl, hb4⟩
              have Hb4 := Lib.hid (Hb.out.trans (hb4.mono Hb.out.size))
              clear hb4
              go_wp2_with fail
              go_ret
              exact ⟨rfl, Hb4.out⟩
        · have Hkn := Lib.hid (known_calls w)
          by_cases hz0 : 0 ≤ z
          · by_cases hz1 : z ≤ 5000
            all_goals
              go_wp2_with fail
              refine Hkn.out.mono ?_
              rintro e w' ⟨rfl, hb⟩
              go_wp2_with fail
              go_ret
              exact ⟨rfl, hb⟩
          · go_wp2_with fail
            refine Hkn.out.mono ?_
            rintro e w' ⟨rfl, hb⟩
            go_wp2_with fail
            go_ret
            exact ⟨rfl, hb⟩
    · have Hkn := Lib.hid (known_calls w)
      by_cases hlt : k < n
      all_goals
        generalize cost (ls.take k) = C at *
        go_wp2_with fail
        refine Hkn.out.mono ?_
        rintro e w' ⟨rfl, hb⟩
        go_wp2_with fail
        go_ret
        exact ⟨rfl, hb⟩
end Go.Proofs.Ytdlbamhabenhgaa
