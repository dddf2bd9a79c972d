/- journal: record, kind 2. (Printed by mkj21.py.) journal: record, kind 3. (Printed by mkj22.py.) journal: record. (Printed by mkj23.py.) journal: readSnap. (Printed by mkj24.py.) journal: readLog. (Printed by mkj25.py.) journal: Open (plain laws). What an empty disk opens as (plain laws). -/
import Derived.Test.YtapfnehdgailmaaGreatQC
import Derived.Test.YtapfnehdgailmaaGreatQG
namespace Go.Proofs.YtapfnehdgailmaaGreat
open Go.RowKit Go.Sat Go.Maps

section
variable {w w1 w2 : World} {j d : Nat} {pre : ByteArray} {D : DiskM} {M : JouM} {F : Nat → Prop}

theorem rec_trm_ok (h : JouF w w2 j d pre D M F) (hs : Same F w1 w2) {t v : Int} (hm : M.mayVote t v = true) (h0 : 0 ≤ t) {o : Option JouM} (ho : o = some { M with now := t, vote := v }) :
    RecTold w w1 j d pre D F o (.returned (.bool true)) ((w2.setCell ⟨j, 5, none⟩ (.int .i64 t)).setCell ⟨j, 6, none⟩ (.int .i64 v)) := by
  obtain ⟨-, h1, h2⟩ := mayVote_facts hm
  obtain ⟨ha, hb⟩ := jou_set56 h t v (isTm_iff.2 ⟨h0, h1⟩) h2
  exact rec_yes ha (hs.trans hb) ho

set_option maxRecDepth 100000 in
set_option maxHeartbeats 4000000 in
theorem rec_k2 (h : JouF w w1 j d pre D M F) {p : Option Addr} {n c : Nat} {l : Bs} (hx : HasB w1 (.slice p n c) (2 :: l)) (hl : n ≤ 1073741824) :
    Calls Tryz.prog 155 #[.pointer (some ⟨j, 0, none⟩), .bool false, .slice p n c] w1 (RecTold w w1 j d pre D F (rec1 false M (2 :: l))) := by
  obtain ⟨i0, hii, hz0, hz1, hz2⟩ := info_parts (show (Tryz.prog.info? 3).map (fun i => (i.zero, i.size, i.bytes)) = some (some (.int .i64 0), 1, 8) by kernel_rfl)
  have Hrd0 := Lib.hid (newrdX_calls hx (by obtain ⟨_, _, e⟩ := hx.slice; simp only [Value.slice.injEq] at e; omega))
  have H := Lib.hid h
  have HM := Lib.hid (show rec1 false M (2 :: l) = (if (Rd.num ⟨l, false⟩).2.num.2.whole && M.mayVote ((Rd.num ⟨l, false⟩).1 : Int) (((Rd.num ⟨l, false⟩).2.num.1 : Int) - 1) then
        some { M with now := ((Rd.num ⟨l, false⟩).1 : Int), vote := (((Rd.num ⟨l, false⟩).2.num.1 : Int) - 1) } else none) from rfl)
  have hm1 := Rd.num_le ⟨l, false⟩
  have hm2 := Rd.num_le (Rd.num ⟨l, false⟩).2
  have HI := Lib.hid (show Rd.ints 2 ⟨l, false⟩ = ([((Rd.num ⟨l, false⟩).1 : Int), ((Rd.num ⟨l, false⟩).2.num.1 : Int)], (Rd.num ⟨l, false⟩).2.num.2) from rfl)
  generalize rec1 false M (2 :: l) = O at *
  generalize (Rd.num ⟨l, false⟩).1 = m1 at *
  generalize (Rd.num ⟨l, false⟩).2.num.1 = m2 at *
  generalize (Rd.num ⟨l, false⟩).2.num.2 = R3 at *
  clear h hx
  go_enter Tryz.func155, Tryz.ntmps155
  go_wp2_with fail
  refine Hrd0.out.mono ?_
  rintro e w2 ⟨r, rfl, hr, hrn, hrl, hb2⟩
  have HR2 := Lib.hid (rd_first hr)
  have HB2 := Lib.hid hb2
  have HRn := Lib.hid (And.intro hrn hrl)
  clear hr hrn hrl hb2 Hrd0
  go_wp2_with fail
  refine HR2.out.mono ?_
  rintro e w3 ⟨g, q, rfl, hg, hr3, hc3⟩
  have HB3 := Lib.hid (show Below w1.heap.size w1 w3 from HB2.out.trans (hc3.below HB2.out.size fun i hi e => by have := HRn.out.1; omega))
  have HR3 := Lib.hid hr3
  have HRl := Lib.hid hr3.lt
  have hkc : w3.cell? ⟨g, 0, none⟩ = some (.int .u8 2) := hg
  clear hr3 hc3 HR2 hg
  go_wp2_with fail
  have hrl := HRl.out
  have hk0 : (((w3.alloc (.cells #[.int .i64 0] 3)).alloc (.cells #[.int .i64 0] 3)).alloc (.cells #[.pointer (some ⟨w3.heap.size, 0, none⟩), .pointer (some ⟨w3.heap.size + 1, 0, none⟩)] 204)).heap[w3.heap.size]? = some (.cells #[.int .i64 0] 3) := old_block _ (old_block _ (new_block w3 _))
  have hk1 : (((w3.alloc (.cells #[.int .i64 0] 3)).alloc (.cells #[.int .i64 0] 3)).alloc (.cells #[.pointer (some ⟨w3.heap.size, 0, none⟩), .pointer (some ⟨w3.heap.size + 1, 0, none⟩)] 204)).heap[w3.heap.size + 1]? = some (.cells #[.int .i64 0] 3) := old_block _ (by have := new_block (w3.alloc (.cells #[.int .i64 0] 3)) (.cells #[.int .i64 0] 3); simpa using this)
  have hk2 : (((w3.alloc (.cells #[.int .i64 0] 3)).alloc (.cells #[.int .i64 0] 3)).alloc (.cells #[.pointer (some ⟨w3.heap.size, 0, none⟩), .pointer (some ⟨w3.heap.size + 1, 0, none⟩)] 204)).heap[w3.heap.size + 2]? = some (.cells #[.pointer (some ⟨w3.heap.size, 0, none⟩), .pointer (some ⟨w3.heap.size + 1, 0, none⟩)] 204) := by have := new_block ((w3.alloc (.cells #[.int .i64 0] 3)).alloc (.cells #[.int .i64 0] 3)) (.cells #[.pointer (some ⟨w3.heap.size, 0, none⟩), .pointer (some ⟨w3.heap.size + 1, 0, none⟩)] 204); simpa using this
  have HP := Lib.hid (show Places (((w3.alloc (.cells #[.int .i64 0] 3)).alloc (.cells #[.int .i64 0] 3)).alloc (.cells #[.pointer (some ⟨w3.heap.size, 0, none⟩), .pointer (some ⟨w3.heap.size + 1, 0, none⟩)] 204)) r [⟨w3.heap.size, 0, none⟩, ⟨w3.heap.size + 1, 0, none⟩] from by
    refine ⟨fun a ha => ?_, fun a ha => ?_, fun a ha => ?_, fun a ha => ?_⟩
    all_goals
      simp only [List.mem_cons, List.not_mem_nil, or_false] at ha
      rcases ha with rfl | rfl
    · exact ⟨_, cell_of hk0 rfl⟩
    · exact ⟨_, cell_of hk1 rfl⟩
    · exact frozen_of hk0 0
    · exact frozen_of hk1 0
    · intro e; have e2 : w3.heap.size = r := e; omega
    · intro e; have e2 : w3.heap.size + 1 = r := e; omega
    · rfl
    · rfl)
  have HN := Lib.hid (rnums_calls (R := ⟨l, false⟩) (((HR3.out.chg (Chg.alloc w3 (.cells #[.int .i64 0] 3)) (fun e => e) fun _ _ e => e).chg (Chg.alloc _ (.cells #[.int .i64 0] 3)) (fun e => e) fun _ _ e => e).chg (Chg.alloc _ (.cells #[.pointer (some ⟨w3.heap.size, 0, none⟩), .pointer (some ⟨w3.heap.size + 1, 0, none⟩)] 204)) (fun e => e) fun _ _ e => e) (g := w3.heap.size + 2) (c := 2) HP.out (by simp) (fun i a hi => by
    refine cell_of hk2 ?_
    match i, hi with
    | 0, hi => cases hi; rfl
    | 1, hi => cases hi; rfl) (fun e => by omega) (fun a ha e => by
      simp only [List.mem_cons, List.not_mem_nil, or_false] at ha
      rcases ha with rfl | rfl
      · have e3 : w3.heap.size = w3.heap.size + 2 := e
        omega
      · have e3 : w3.heap.size + 1 = w3.heap.size + 2 := e
        omega) (fun k hk => ⟨by omega, fun a ha e => by
      simp only [List.mem_cons, List.not_mem_nil, or_false] at ha
      rcases ha with rfl | rfl
      · have e3 : k = w3.heap.size := e
        omega
      · have e3 : k = w3.heap.size + 1 := e
        omega⟩))
  have HBW := Lib.hid (show Below w1.heap.size w1 (((w3.alloc (.cells #[.int .i64 0] 3)).alloc (.cells #[.int .i64 0] 3)).alloc (.cells #[.pointer (some ⟨w3.heap.size, 0, none⟩), .pointer (some ⟨w3.heap.size + 1, 0, none⟩)] 204)) from ((HB3.out.alloc HB3.out.size (.cells #[.int .i64 0] 3)).alloc (by have := HB3.out.size; simp; omega) (.cells #[.int .i64 0] 3)).alloc (by have := HB3.out.size; simp; omega) (.cells #[.pointer (some ⟨w3.heap.size, 0, none⟩), .pointer (some ⟨w3.heap.size + 1, 0, none⟩)] 204))
  have HCE := Lib.hid (And.intro hk0 (And.intro hk1 (show (((w3.alloc (.cells #[.int .i64 0] 3)).alloc (.cells #[.int .i64 0] 3)).alloc (.cells #[.pointer (some ⟨w3.heap.size, 0, none⟩), .pointer (some ⟨w3.heap.size + 1, 0, none⟩)] 204)).heap.size = w3.heap.size + 3 from by simp)))
  clear hk0 hk1 hk2 hrl HP
  go_wp2_with fail
  refine HN.out.mono ?_
  rintro e w4 ⟨rfl, hr4, hc4, hp4⟩
  have hB4 : Below w1.heap.size w1 w4 := by
    have hs := HB3.out.size
    have hr := HRn.out.1
    refine (((Chg.of_below HBW.out).mono fun _ _ e => e.elim : Chg (fun k => w1.heap.size ≤ k) w1 _).trans hc4 fun k _ e => ?_).below (Nat.le_refl _) fun k hk e => by omega
    rcases e with rfl | ⟨a, ha, rfl⟩
    · exact hr
    · simp only [List.mem_cons, List.not_mem_nil, or_false] at ha
      rcases ha with rfl | rfl
      · exact hs
      · show w1.heap.size ≤ w3.heap.size + 1
        omega
  rw [show [(⟨w3.heap.size, 0, none⟩ : Addr), ⟨w3.heap.size + 1, 0, none⟩].length = 2 from rfl, HI.out] at hr4 hp4
  obtain ⟨hk0, hk1, hsz⟩ := HCE.out
  have hrl := HRl.out
  have hq0 : w4.heap[w3.heap.size]? = some (.cells #[.int .i64 (m1 : Int)] 3 (0, 0)) := by
    rw [hp4 _ (by omega) (by omega)]
    refine (set_other (w := World.setCell _ ⟨w3.heap.size, 0, none⟩ (.int .i64 (m1 : Int))) (.int .i64 (m2 : Int)) (by show w3.heap.size ≠ w3.heap.size + 1; omega)).trans ?_
    have := set_block hk0 0 (.int .i64 (m1 : Int))
    simpa using this
  have hq1 : w4.heap[w3.heap.size + 1]? = some (.cells #[.int .i64 (m2 : Int)] 3 (0, 0)) := by
    rw [hp4 _ (by omega) (by omega)]
    have h0 := (set_other (w := (((w3.alloc (.cells #[.int .i64 0] 3)).alloc (.cells #[.int .i64 0] 3)).alloc (.cells #[.pointer (some ⟨w3.heap.size, 0, none⟩), .pointer (some ⟨w3.heap.size + 1, 0, none⟩)] 204))) (a := ⟨w3.heap.size, 0, none⟩) (.int .i64 (m1 : Int)) (show w3.heap.size + 1 ≠ w3.heap.size by omega)).trans hk1
    have := set_block h0 0 (.int .i64 (m2 : Int))
    rw [show (#[Value.int IntKind.i64 0] : Array Value).setIfInBounds 0 (.int .i64 (m2 : Int)) = #[.int .i64 (m2 : Int)] from rfl] at this
    exact this
  have HB4 := Lib.hid hB4
  have HR4 := Lib.hid hr4
  have hls : w3.heap.size ≠ r := by omega
  have hls1 : w3.heap.size + 1 ≠ r := by omega
  have HQ := Lib.hid (And.intro hq0 (And.intro hq1 (And.intro (And.intro hls hls1) (show w1.heap.size ≤ w3.heap.size from HB3.out.size))))
  clear hr4 hc4 hp4 hB4 HN hk0 hk1 hsz hrl hq0 hq1 hls hls1 HCE HBW HR3 HRl HB3 hkc HI
  generalize w3.heap.size = a at *
  obtain ⟨hq0, hq1, -, hge⟩ := HQ.out
  have c1 := cell_of hq1 (i := 0) rfl
  have f1 := frozen_of hq1 0
  have hwr : IntKind.i64.wrap ((m2 : Int) - 1) = (m2 : Int) - 1 := IntWalk.i64_in _ (by omega)
  have h0s : (w4.setCell ⟨a + 1, 0, none⟩ (.int .i64 ((m2 : Int) - 1))).heap[a]? = some (.cells #[.int .i64 (m1 : Int)] 3 (0, 0)) := (set_other _ (by show a ≠ a + 1; omega)).trans hq0
  have h1s : (w4.setCell ⟨a + 1, 0, none⟩ (.int .i64 ((m2 : Int) - 1))).heap[a + 1]? = some (.cells #[.int .i64 ((m2 : Int) - 1)] 3 (0, 0)) := by
    have := set_block hq1 0 (.int .i64 ((m2 : Int) - 1))
    simpa using this
  have HW := Lib.hid (whole_calls ((HR4.out.at.hd).same (w' := w4.setCell ⟨a + 1, 0, none⟩ (.int .i64 ((m2 : Int) - 1))) (set_other _ (fun e => HQ.out.2.2.1.2 e.symm))))
  have hB5 : Below w1.heap.size w1 (w4.setCell ⟨a + 1, 0, none⟩ (.int .i64 ((m2 : Int) - 1))) := (((Chg.of_below HB4.out).mono fun _ _ e => e.elim : Chg (fun k => k = a + 1) w1 w4).trans (Chg.setCell w4 ⟨a + 1, 0, none⟩ _) fun k _ e => e).below (Nat.le_refl _) fun k hk e => by omega
  have Hmv := Lib.hid (jmv_calls (H.out.next hB5) (m1 : Int) ((m2 : Int) - 1))
  have Hno := Lib.hid (fun (ho : O = none) => rec_no (o := O) H.out hB5 ho)
  have Hyes := Lib.hid (fun hm ho => rec_trm_ok (o := O) (H.out.next hB5) (H.out.same hB5) (t := (m1 : Int)) (v := (m2 : Int) - 1) hm (by omega) ho)
  have Hcell := Lib.hid (And.intro h0s h1s)
  obtain ⟨own, gv, dv, ev, vs, hJ, -⟩ := H.out.next hB5
  have Hjc := Lib.hid (And.intro hJ.cells (And.intro (hJ.c 5 rfl) (hJ.c 6 rfl)))
  clear hB5 h0s h1s hq0 hq1 hge HQ hJ
  go_wp2_with fail
  clear c1 f1
  generalize w4.setCell ⟨a + 1, 0, none⟩ (.int .i64 ((m2 : Int) - 1)) = w5 at *
  cases hw : R3.whole with
  | false =>
    rw [hw] at HW
    have HE := Lib.hid (Hno.out (by rw [HM.out, hw]; rfl))
    clear hw
    refine HW.out.mono ?_
    rintro e w7 ⟨rfl, rfl⟩
    go_wp2_with fail
    go_ret
    exact HE.out
  | true =>
    rw [hw] at HW
    refine HW.out.mono ?_
    rintro e w7 ⟨rfl, rfl⟩
    obtain ⟨h0s, h1s⟩ := Hcell.out
    have d0 := cell_of h0s (i := 0) rfl
    have d1 := cell_of h1s (i := 0) rfl
    cases hm : M.mayVote (m1 : Int) ((m2 : Int) - 1) with
    | false =>
      rw [hm] at Hmv
      have HE := Lib.hid (Hno.out (by rw [HM.out, hw, hm]; rfl))
      clear hw hm h0s h1s
      go_wp2_with fail
      refine Hmv.out.mono ?_
      rintro e w8 ⟨rfl, rfl⟩
      go_wp2_with fail
      go_ret
      exact HE.out
    | true =>
      rw [hm] at Hmv
      have HE := Lib.hid (Hyes.out hm (by rw [HM.out, hw, hm]; rfl))
      clear hw hm h0s h1s
      go_wp2_with fail
      refine Hmv.out.mono ?_
      rintro e w8 ⟨rfl, rfl⟩
      obtain ⟨hjc, c5, c6⟩ := Hjc.out
      have g5 := frozen_of hjc 5
      have g6 := frozen_of hjc 6
      clear hjc
      go_wp2_with fail
      go_ret
      exact HE.out
end
end Go.Proofs.YtapfnehdgailmaaGreat

namespace Go.Proofs.YtapfnehdgailmaaGreat
open Go.RowKit Go.Sat Go.Maps

theorem rdbytes_len (R : Rd) : R.bytes.1.length ≤ R.rest.length := by
  have h := ints_rest 1 R
  rw [show (Rd.ints 1 R).2 = R.num.2 from rfl] at h
  rw [show R.bytes = R.num.2.raw R.num.1 from rfl]
  unfold Rd.raw
  split
  · simp only [List.length_take]
    omega
  · exact Nat.zero_le _
theorem grpany_len (R : Rd) : (R.grp anyG).1.length ≤ 7 := by
  by_cases h : 7 < R.num.1
  · rw [grp_big h]
    simp
  · rw [grp_small h]
    show (Rd.ints R.num.1 R.num.2).1.length ≤ 7
    rw [ints_len]
    omega

section
variable {w w1 w2 : World} {j d : Nat} {pre : ByteArray} {D : DiskM} {M : JouM} {F : Nat → Prop}

theorem rec_ent_ok {own own' : Nat → Prop} {gv dv ev ev' : Value} {vs vs' : List EV} {e : Ent} (hJ : JouIn w1 j d pre own M gv dv ev vs) (hS : St w w1 d D (fun k => own k ∨ F k)) (hn : ∀ k, own k → w.heap.size ≤ k ∧ ¬ F k) (hl : ∀ k, F k → k < w1.heap.size)
    (hJ' : JouIn w2 j d pre own' { M with entries := M.entries ++ [e] } gv dv ev' vs') (hc : Chg own w1 w2) (hx : ∀ k, own' k → own k ∨ w1.heap.size ≤ k) {o : Option JouM} (ho : o = some { M with entries := M.entries ++ [e] }) : RecTold w w1 j d pre D F o (.returned (.bool true)) w2 := by
  obtain ⟨h1, h2⟩ := JouF.turned (D := D) (F := F) hS hn hl hJ' hc hx
  exact rec_yes h1 h2 ho

set_option maxRecDepth 100000 in
set_option maxHeartbeats 8000000 in
theorem rec_k3 (h : JouF w w1 j d pre D M F) {p : Option Addr} {n c : Nat} {l : Bs} (hx : HasB w1 (.slice p n c) (3 :: l)) (hl : n ≤ 1073741824) :
    Calls Tryz.prog 155 #[.pointer (some ⟨j, 0, none⟩), .bool false, .slice p n c] w1 (RecTold w w1 j d pre D F (rec1 false M (3 :: l))) := by
  obtain ⟨i0, hii, hz0, hz1, hz2⟩ := info_parts (show (Tryz.prog.info? 3).map (fun i => (i.zero, i.size, i.bytes)) = some (some (.int .i64 0), 1, 8) by kernel_rfl)
  obtain ⟨i4, hi4, hz40, hz41, hz42⟩ := info_parts (show (Tryz.prog.info? 50).map (fun i => (i.zero, i.size, i.bytes)) = some (some (.agg #[.int .i64 0, .int .i64 0, .slice none 0 0, .slice none 0 0]), 4, 64) by kernel_rfl)
  have hll : l.length ≤ 1073741824 := by
    obtain ⟨_, _, e⟩ := hx.slice
    simp only [Value.slice.injEq, List.length_cons] at e
    omega
  have Hrd0 := Lib.hid (newrdX_calls hx (by rw [List.length_cons]; omega))
  have H := Lib.hid h
  have HM := Lib.hid (show rec1 false M (3 :: l) = (if ((Rd.ints 3 ⟨l, false⟩).2.bytes.2.grp anyG).2.whole ∧ (Rd.num ⟨l, false⟩).1 = M.last + 1 ∧ (Rd.num ⟨l, false⟩).1 ≤ 1099511627776 ∧ isEnt ⟨((Rd.num ⟨l, false⟩).2.num.1 : Int), ((Rd.num ⟨l, false⟩).2.num.2.num.1 : Int), (Rd.ints 3 ⟨l, false⟩).2.bytes.1, ((Rd.ints 3 ⟨l, false⟩).2.bytes.2.grp anyG).1⟩ then
        some { M with entries := M.entries ++ [⟨((Rd.num ⟨l, false⟩).2.num.1 : Int), ((Rd.num ⟨l, false⟩).2.num.2.num.1 : Int), (Rd.ints 3 ⟨l, false⟩).2.bytes.1, ((Rd.ints 3 ⟨l, false⟩).2.bytes.2.grp anyG).1⟩] } else none) from rfl)
  have hm1 := Rd.num_le ⟨l, false⟩
  have hm2 := Rd.num_le (Rd.num ⟨l, false⟩).2
  have hm3 := Rd.num_le (Rd.num ⟨l, false⟩).2.num.2
  have HI := Lib.hid (show Rd.ints 3 ⟨l, false⟩ = ([((Rd.num ⟨l, false⟩).1 : Int), ((Rd.num ⟨l, false⟩).2.num.1 : Int), ((Rd.num ⟨l, false⟩).2.num.2.num.1 : Int)], (Rd.ints 3 ⟨l, false⟩).2) from rfl)
  have hbl : (Rd.ints 3 ⟨l, false⟩).2.bytes.1.length ≤ 1073741824 := Nat.le_trans (rdbytes_len _) (Nat.le_trans (ints_rest 3 ⟨l, false⟩) hll)
  have hgl := grpany_len (Rd.ints 3 ⟨l, false⟩).2.bytes.2
  generalize rec1 false M (3 :: l) = O at *
  generalize (Rd.num ⟨l, false⟩).1 = m1 at *
  generalize (Rd.num ⟨l, false⟩).2.num.1 = m2 at *
  generalize (Rd.num ⟨l, false⟩).2.num.2.num.1 = m3 at *
  generalize (Rd.ints 3 ⟨l, false⟩).2 = R3 at *
  clear h hx
  go_enter Tryz.func155, Tryz.ntmps155
  go_wp2_with fail
  refine Hrd0.out.mono ?_
  rintro e w2 ⟨r, rfl, hr, hrn, hrl, hb2⟩
  have HR2 := Lib.hid (rd_first hr)
  have HB2 := Lib.hid hb2
  have HRn := Lib.hid (And.intro hrn hrl)
  clear hr hrn hrl hb2 Hrd0
  go_wp2_with fail
  refine HR2.out.mono ?_
  rintro e w3 ⟨g, q, rfl, hg, hr3, hc3⟩
  have HB3 := Lib.hid (show Below w1.heap.size w1 w3 from HB2.out.trans (hc3.below HB2.out.size fun i hi e => by have := HRn.out.1; omega))
  have HR3 := Lib.hid hr3
  have HRl := Lib.hid hr3.lt
  have hkc : w3.cell? ⟨g, 0, none⟩ = some (.int .u8 3) := hg
  clear hr3 hc3 HR2 hg
  go_wp2_with fail
  have hrl := HRl.out
  have hk0 : (((w3.alloc (.cells #[.int .i64 0] 3)).alloc (.cells #[.int .i64 0, .int .i64 0, .slice none 0 0, .slice none 0 0] 50)).alloc (.cells #[.pointer (some ⟨w3.heap.size, 0, none⟩), .pointer (some ⟨w3.heap.size + 1, 0, none⟩), .pointer (some ⟨w3.heap.size + 1, 1, none⟩)] 204)).heap[w3.heap.size]? = some (.cells #[.int .i64 0] 3) := old_block _ (old_block _ (new_block w3 _))
  have hk1 : (((w3.alloc (.cells #[.int .i64 0] 3)).alloc (.cells #[.int .i64 0, .int .i64 0, .slice none 0 0, .slice none 0 0] 50)).alloc (.cells #[.pointer (some ⟨w3.heap.size, 0, none⟩), .pointer (some ⟨w3.heap.size + 1, 0, none⟩), .pointer (some ⟨w3.heap.size + 1, 1, none⟩)] 204)).heap[w3.heap.size + 1]? = some (.cells #[.int .i64 0, .int .i64 0, .slice none 0 0, .slice none 0 0] 50) := old_block _ (by have := new_block (w3.alloc (.cells #[.int .i64 0] 3)) (.cells #[.int .i64 0, .int .i64 0, .slice none 0 0, .slice none 0 0] 50); simpa using this)
  have hk2 : (((w3.alloc (.cells #[.int .i64 0] 3)).alloc (.cells #[.int .i64 0, .int .i64 0, .slice none 0 0, .slice none 0 0] 50)).alloc (.cells #[.pointer (some ⟨w3.heap.size, 0, none⟩), .pointer (some ⟨w3.heap.size + 1, 0, none⟩), .pointer (some ⟨w3.heap.size + 1, 1, none⟩)] 204)).heap[w3.heap.size + 2]? = some (.cells #[.pointer (some ⟨w3.heap.size, 0, none⟩), .pointer (some ⟨w3.heap.size + 1, 0, none⟩), .pointer (some ⟨w3.heap.size + 1, 1, none⟩)] 204) := by have := new_block ((w3.alloc (.cells #[.int .i64 0] 3)).alloc (.cells #[.int .i64 0, .int .i64 0, .slice none 0 0, .slice none 0 0] 50)) (.cells #[.pointer (some ⟨w3.heap.size, 0, none⟩), .pointer (some ⟨w3.heap.size + 1, 0, none⟩), .pointer (some ⟨w3.heap.size + 1, 1, none⟩)] 204); simpa using this
  have HP := Lib.hid (show Places (((w3.alloc (.cells #[.int .i64 0] 3)).alloc (.cells #[.int .i64 0, .int .i64 0, .slice none 0 0, .slice none 0 0] 50)).alloc (.cells #[.pointer (some ⟨w3.heap.size, 0, none⟩), .pointer (some ⟨w3.heap.size + 1, 0, none⟩), .pointer (some ⟨w3.heap.size + 1, 1, none⟩)] 204)) r [⟨w3.heap.size, 0, none⟩, ⟨w3.heap.size + 1, 0, none⟩, ⟨w3.heap.size + 1, 1, none⟩] from by
    refine ⟨fun a ha => ?_, fun a ha => ?_, fun a ha => ?_, fun a ha => ?_⟩
    all_goals
      simp only [List.mem_cons, List.not_mem_nil, or_false] at ha
      rcases ha with rfl | rfl | rfl
    · exact ⟨_, cell_of hk0 rfl⟩
    · exact ⟨_, cell_of hk1 rfl⟩
    · exact ⟨_, cell_of hk1 rfl⟩
    · exact frozen_of hk0 0
    · exact frozen_of hk1 0
    · exact frozen_of hk1 1
    · intro e; have e2 : w3.heap.size = r := e; omega
    · intro e; have e2 : w3.heap.size + 1 = r := e; omega
    · intro e; have e2 : w3.heap.size + 1 = r := e; omega
    · rfl
    · rfl
    · rfl)
  have HN := Lib.hid (rnums_calls (R := ⟨l, false⟩) (((HR3.out.chg (Chg.alloc w3 (.cells #[.int .i64 0] 3)) (fun e => e) fun _ _ e => e).chg (Chg.alloc _ (.cells #[.int .i64 0, .int .i64 0, .slice none 0 0, .slice none 0 0] 50)) (fun e => e) fun _ _ e => e).chg (Chg.alloc _ (.cells #[.pointer (some ⟨w3.heap.size, 0, none⟩), .pointer (some ⟨w3.heap.size + 1, 0, none⟩), .pointer (some ⟨w3.heap.size + 1, 1, none⟩)] 204)) (fun e => e) fun _ _ e => e) (g := w3.heap.size + 2) (c := 3) HP.out (by simp) (fun i a hi => by
    refine cell_of hk2 ?_
    match i, hi with
    | 0, hi => cases hi; rfl
    | 1, hi => cases hi; rfl
    | 2, hi => cases hi; rfl) (fun e => by omega) (fun a ha e => by
      simp only [List.mem_cons, List.not_mem_nil, or_false] at ha
      rcases ha with rfl | rfl | rfl
      · have e3 : w3.heap.size = w3.heap.size + 2 := e
        omega
      · have e3 : w3.heap.size + 1 = w3.heap.size + 2 := e
        omega
      · have e3 : w3.heap.size + 1 = w3.heap.size + 2 := e
        omega) (fun k hk => ⟨by omega, fun a ha e => by
      simp only [List.mem_cons, List.not_mem_nil, or_false] at ha
      rcases ha with rfl | rfl | rfl
      · have e3 : k = w3.heap.size := e
        omega
      · have e3 : k = w3.heap.size + 1 := e
        omega
      · have e3 : k = w3.heap.size + 1 := e
        omega⟩))
  have HBW := Lib.hid (show Below w1.heap.size w1 (((w3.alloc (.cells #[.int .i64 0] 3)).alloc (.cells #[.int .i64 0, .int .i64 0, .slice none 0 0, .slice none 0 0] 50)).alloc (.cells #[.pointer (some ⟨w3.heap.size, 0, none⟩), .pointer (some ⟨w3.heap.size + 1, 0, none⟩), .pointer (some ⟨w3.heap.size + 1, 1, none⟩)] 204)) from ((HB3.out.alloc HB3.out.size (.cells #[.int .i64 0] 3)).alloc (by have := HB3.out.size; simp; omega) (.cells #[.int .i64 0, .int .i64 0, .slice none 0 0, .slice none 0 0] 50)).alloc (by have := HB3.out.size; simp; omega) (.cells #[.pointer (some ⟨w3.heap.size, 0, none⟩), .pointer (some ⟨w3.heap.size + 1, 0, none⟩), .pointer (some ⟨w3.heap.size + 1, 1, none⟩)] 204))
  have HCE := Lib.hid (And.intro hk0 (And.intro hk1 (show (((w3.alloc (.cells #[.int .i64 0] 3)).alloc (.cells #[.int .i64 0, .int .i64 0, .slice none 0 0, .slice none 0 0] 50)).alloc (.cells #[.pointer (some ⟨w3.heap.size, 0, none⟩), .pointer (some ⟨w3.heap.size + 1, 0, none⟩), .pointer (some ⟨w3.heap.size + 1, 1, none⟩)] 204)).heap.size = w3.heap.size + 3 from by simp)))
  clear hk0 hk1 hk2 hrl HP
  go_wp2_with fail
  refine HN.out.mono ?_
  rintro e w4 ⟨rfl, hr4, hc4, hp4⟩
  have hB4 : Below w1.heap.size w1 w4 := by
    have hs := HB3.out.size
    have hr := HRn.out.1
    refine (((Chg.of_below HBW.out).mono fun _ _ e => e.elim : Chg (fun k => w1.heap.size ≤ k) w1 _).trans hc4 fun k _ e => ?_).below (Nat.le_refl _) fun k hk e => by omega
    rcases e with rfl | ⟨a, ha, rfl⟩
    · exact hr
    · simp only [List.mem_cons, List.not_mem_nil, or_false] at ha
      rcases ha with rfl | rfl | rfl
      · exact hs
      · show w1.heap.size ≤ w3.heap.size + 1
        omega
      · show w1.heap.size ≤ w3.heap.size + 1
        omega
  rw [show ([⟨w3.heap.size, 0, none⟩, ⟨w3.heap.size + 1, 0, none⟩, ⟨w3.heap.size + 1, 1, none⟩] : List Addr).length = 3 from rfl, HI.out] at hr4 hp4
  obtain ⟨hk0, hk1, hsz⟩ := HCE.out
  have hrl := HRl.out
  have hq0 : w4.heap[w3.heap.size]? = some (.cells #[.int .i64 (m1 : Int)] 3 (0, 0)) := by
    rw [hp4 _ (by omega) (by omega)]
    refine (set_other (w := World.setCell _ ⟨w3.heap.size + 1, 0, none⟩ (.int .i64 (m2 : Int))) (.int .i64 (m3 : Int)) (by show w3.heap.size ≠ w3.heap.size + 1; omega)).trans ?_
    refine (set_other (w := World.setCell _ ⟨w3.heap.size, 0, none⟩ (.int .i64 (m1 : Int))) (.int .i64 (m2 : Int)) (by show w3.heap.size ≠ w3.heap.size + 1; omega)).trans ?_
    have := set_block hk0 0 (.int .i64 (m1 : Int))
    simpa using this
  have hq1 : w4.heap[w3.heap.size + 1]? = some (.cells #[.int .i64 (m2 : Int), .int .i64 (m3 : Int), (.slice none 0 0), (.slice none 0 0)] 50 (0, 0)) := by
    rw [hp4 _ (by omega) (by omega)]
    have h0 := (set_other (w := (((w3.alloc (.cells #[.int .i64 0] 3)).alloc (.cells #[.int .i64 0, .int .i64 0, .slice none 0 0, .slice none 0 0] 50)).alloc (.cells #[.pointer (some ⟨w3.heap.size, 0, none⟩), .pointer (some ⟨w3.heap.size + 1, 0, none⟩), .pointer (some ⟨w3.heap.size + 1, 1, none⟩)] 204))) (a := ⟨w3.heap.size, 0, none⟩) (.int .i64 (m1 : Int)) (show w3.heap.size + 1 ≠ w3.heap.size by omega)).trans hk1
    have h1 := set_block h0 0 (.int .i64 (m2 : Int))
    have h2 := set_block h1 1 (.int .i64 (m3 : Int))
    rw [show ((#[Value.int IntKind.i64 0, .int .i64 0, .slice none 0 0, .slice none 0 0] : Array Value).setIfInBounds 0 (.int .i64 (m2 : Int))).setIfInBounds 1 (.int .i64 (m3 : Int)) = #[.int .i64 (m2 : Int), .int .i64 (m3 : Int), .slice none 0 0, .slice none 0 0] from rfl] at h2
    exact h2
  have HB4 := Lib.hid hB4
  have hls : w3.heap.size ≠ r := by omega
  have hls1 : w3.heap.size + 1 ≠ r := by omega
  have hrw4 : r < w3.heap.size := hrl
  have hge : w1.heap.size ≤ w3.heap.size := HB3.out.size
  have HBy := Lib.hid (rbytesX_calls hr4)
  clear hr4 hc4 hp4 hB4 HN hk0 hk1 hsz hrl HCE HBW HR3 HRl HB3 hkc HI
  generalize w3.heap.size = a at *
  have HS := Lib.hid (And.intro hls1 (And.intro hrw4 hge))
  clear hls hls1 hrw4 hge
  have HQ4 := Lib.hid (And.intro hq0 hq1)
  clear hq0 hq1
  go_wp2_with fail
  refine HBy.out.mono ?_
  rintro e w5 ⟨v5, rfl, hv5, hn5, hr5, hc5⟩
  have hB5 : Below w1.heap.size w1 w5 := HB4.out.trans (hc5.below HB4.out.size fun k hk e => by have := HRn.out.1; omega)
  have hq0 := (hc5.block a (lt_of_block HQ4.out.1) (by have := HS.out.2.1; omega)).trans HQ4.out.1
  have hq1 := (hc5.block (a + 1) (lt_of_block HQ4.out.2) (fun e => HS.out.1 e)).trans HQ4.out.2
  have HB5 := Lib.hid hB5
  have HR5 := Lib.hid (show ∀ k, v5.ownBlock = some k → k ≠ r from fun k hk e => by
    have h1 := hn5 k hk
    have h3 := lt_of_block HQ4.out.1
    have h4 := HS.out.2.1
    omega)
  have HV5 := Lib.hid (And.intro hv5 (show ∀ k, v5.ownBlock = some k → w1.heap.size ≤ k ∧ k ≠ a ∧ k ≠ a + 1 from fun k hk => by
    have h1 := hn5 k hk
    have h2 := HB4.out.size
    have h3 := lt_of_block HQ4.out.1
    have h4 := lt_of_block HQ4.out.2
    exact ⟨by omega, by omega, by omega⟩))
  generalize hbb : R3.bytes.1 = bb at *
  generalize R3.bytes.2 = R4 at *
  obtain ⟨p5, c5, e5, -⟩ := own_cap0 hv5
  subst e5
  have c2 := cell_of hq1 (i := 2) rfl
  have f2 := frozen_of hq1 2
  have h6 := set_block hq1 2 (.slice p5 bb.length c5)
  rw [show (#[Value.int IntKind.i64 (m2 : Int), .int .i64 (m3 : Int), .slice none 0 0, .slice none 0 0] : Array Value).setIfInBounds 2 (.slice p5 bb.length c5) = #[.int .i64 (m2 : Int), .int .i64 (m3 : Int), (.slice p5 bb.length c5), .slice none 0 0] from rfl] at h6
  have h60 : (w5.setCell ⟨a + 1, 2, none⟩ (.slice p5 bb.length c5)).heap[a]? = some (.cells #[.int .i64 (m1 : Int)] 3 (0, 0)) := (set_other _ (by show a ≠ a + 1; omega)).trans hq0
  have HQ5 := Lib.hid (And.intro h60 h6)
  have HG := Lib.hid (readGrp_any (A := fun k => w1.heap.size ≤ k ∧ k < r) (w := w5.setCell ⟨a + 1, 2, none⟩ (.slice p5 bb.length c5)) (hr5.chg (Chg.setCell w5 ⟨a + 1, 2, none⟩ (.slice p5 bb.length c5)) (fun e => HS.out.1 (show r = a + 1 from e).symm) fun k hk e => by have := HS.out.2.1; have e2 : k = a + 1 := e; omega) (fun k hk => ⟨Nat.lt_of_lt_of_le (show k < w5.heap.size from by have := hr5.lt; omega) (Chg.setCell w5 ⟨a + 1, 2, none⟩ (.slice p5 bb.length c5)).size, by omega⟩))
  have HB5' := Lib.hid (show Below w1.heap.size w1 (w5.setCell ⟨a + 1, 2, none⟩ (.slice p5 bb.length c5)) from (((Chg.of_below HB5.out).mono fun _ _ e => e.elim : Chg (fun k => k = a + 1) w1 w5).trans (Chg.setCell w5 ⟨a + 1, 2, none⟩ _) fun k _ e => e).below (Nat.le_refl _) fun k hk e => by have := HS.out.2.2; omega)
  have HV5' := Lib.hid (show OwnB (w5.setCell ⟨a + 1, 2, none⟩ (.slice p5 bb.length c5)) 5 (.slice p5 bb.length c5) bb from OwnR.keep hv5 fun k hk => set_other _ fun e => (HV5.out.2 k hk).2.2 e)
  clear hv5 hn5 hr5 hc5 hB5 hq0 hq1 h6 h60 HBy HQ4 HB5
  go_wp2_with fail
  clear c2 f2
  generalize w5.setCell ⟨a + 1, 2, none⟩ (.slice p5 bb.length c5) = w5' at *
  refine HG.out.mono ?_
  rintro e w6 ⟨v6, rfl, hv6, hn6, hr6, hc6⟩
  have hB6 : Below w1.heap.size w1 w6 := HB5'.out.trans (hc6.below HB5'.out.size fun k hk e => by have := HRn.out.1; omega)
  have hq0 := (hc6.block a (lt_of_block HQ5.out.1) (by have := HS.out.2.1; omega)).trans HQ5.out.1
  have hq1 := (hc6.block (a + 1) (lt_of_block HQ5.out.2) (fun e => HS.out.1 e)).trans HQ5.out.2
  have hv56 : OwnB w6 5 (.slice p5 bb.length c5) bb := OwnR.keep HV5'.out fun k hk => hc6.block k (OwnR.lt HV5'.out hk) fun e => by
    have h1 := hn6
    have h2 := HV5.out.2 k hk
    have h3 := HS.out.2.1
    have h4 := HV5.out.2 k hk
    have h5 := HR5.out k hk
    exact h5 e
  have HV6 := Lib.hid (show ∀ k, v6.ownBlock = some k → w1.heap.size ≤ k ∧ k ≠ a ∧ k ≠ a + 1 from fun k hk => by
    have h1 := hn6 k hk
    have h2 := HB5'.out.size
    have h3 := lt_of_block HQ5.out.1
    have h4 := lt_of_block HQ5.out.2
    exact ⟨by omega, by omega, by omega⟩)
  generalize (R4.grp anyG).1 = gg at *
  generalize (R4.grp anyG).2 = R5 at *
  obtain ⟨p6, c6, e6, -⟩ := own_capI hv6
  subst e6
  have c3 := cell_of hq1 (i := 3) rfl
  have f3 := frozen_of hq1 3
  have h7 := set_block hq1 3 (.slice p6 gg.length c6)
  rw [show (#[Value.int IntKind.i64 (m2 : Int), .int .i64 (m3 : Int), (.slice p5 bb.length c5), .slice none 0 0] : Array Value).setIfInBounds 3 (.slice p6 gg.length c6) = #[.int .i64 (m2 : Int), .int .i64 (m3 : Int), (.slice p5 bb.length c5), (.slice p6 gg.length c6)] from rfl] at h7
  have h70 : (w6.setCell ⟨a + 1, 3, none⟩ (.slice p6 gg.length c6)).heap[a]? = some (.cells #[.int .i64 (m1 : Int)] 3 (0, 0)) := (set_other _ (by show a ≠ a + 1; omega)).trans hq0
  have hB7 : Below w1.heap.size w1 (w6.setCell ⟨a + 1, 3, none⟩ (.slice p6 gg.length c6)) := (((Chg.of_below hB6).mono fun _ _ e => e.elim : Chg (fun k => k = a + 1) w1 w6).trans (Chg.setCell w6 ⟨a + 1, 3, none⟩ _) fun k _ e => e).below (Nat.le_refl _) fun k hk e => by have := HS.out.2.2; omega
  have HQ6 := Lib.hid (And.intro h70 h7)
  have HB7 := Lib.hid hB7
  have HW0 := Lib.hid ((hr6.at.hd).same (w' := w6.setCell ⟨a + 1, 3, none⟩ (.slice p6 gg.length c6)) (set_other _ fun e => HS.out.1 (show r = a + 1 from e).symm))
  have HU0 := Lib.hid (show EntAt (w6.setCell ⟨a + 1, 3, none⟩ (.slice p6 gg.length c6)) (⟨(m2 : Int), (m3 : Int), bb, gg⟩ : Ent) ((.slice p5 bb.length c5), (.slice p6 gg.length c6)) from ⟨OwnR.keep hv56 fun k hk => set_other _ fun e => (HV5.out.2 k hk).2.2 e, OwnR.keep hv6 fun k hk => set_other _ fun e => (HV6.out k hk).2.2 e⟩)
  clear hv6 hv56 hn6 hr6 hc6 hB6 hq0 hq1 h7 h70 hB7 HG HQ5 HV5' HB5'
  go_wp2_with fail
  clear c3 f3
  generalize w6.setCell ⟨a + 1, 3, none⟩ (.slice p6 gg.length c6) = w6' at *
  have Hla := Lib.hid (jlast_calls (H.out.next HB7.out))
  refine Hla.out.mono ?_
  rintro e w7 ⟨rfl, q, rfl⟩
  have HB8 := Lib.hid (show Below w1.heap.size w1 (w6'.drewN q) from HB7.out.trans ⟨rfl, rfl, rfl, Nat.le_refl _, fun _ _ => rfl⟩)
  have HW := Lib.hid (whole_calls (HW0.out.same (w' := w6'.drewN q) rfl))
  have hQ7 : (w6'.drewN q).heap[a]? = some (.cells #[.int .i64 (m1 : Int)] 3 (0, 0)) ∧ (w6'.drewN q).heap[a + 1]? = some (.cells #[.int .i64 (m2 : Int), .int .i64 (m3 : Int), (.slice p5 bb.length c5), (.slice p6 gg.length c6)] 50 (0, 0)) := HQ6.out
  have HU := Lib.hid (show EntAt (w6'.drewN q) (⟨(m2 : Int), (m3 : Int), bb, gg⟩ : Ent) ((.slice p5 bb.length c5), (.slice p6 gg.length c6)) from HU0.out.keep fun _ _ => rfl)
  clear Hla HW0 HQ6 HU0 HB7
  generalize w6'.drewN q = w7 at *
  have HQ7 := Lib.hid hQ7
  have Hno := Lib.hid (fun w8 (hb : Below w1.heap.size w1 w8) (ho : O = none) => rec_no (o := O) H.out hb ho)
  have hlast := H.out.okM.last
  cases hw : R5.whole with
  | false =>
    rw [hw] at HW
    have HE := Lib.hid (Hno.out w7 HB8.out (by rw [HM.out, hw, if_neg (by simp)]))
    clear hw hQ7
    go_wp2_with fail
    refine HW.out.mono ?_
    rintro e w8 ⟨rfl, rfl⟩
    go_wp2_with fail
    go_ret
    exact HE.out
  | true =>
    rw [hw] at HW
    have Hw := Lib.hid hw
    have q0 := cell_of hQ7.1 (i := 0) rfl
    have hwa : IntKind.i64.wrap ((M.last : Int) + 1) = (M.last : Int) + 1 := IntWalk.i64_in _ (by omega)
    clear hw hQ7
    by_cases h1 : m1 = M.last + 1
    · by_cases h2 : m1 ≤ 1099511627776
      · have d1 : ((m1 : Int) != (M.last : Int) + 1) = false := by simp; omega
        have d2 : decide ((1099511627776 : Int) < (m1 : Int)) = false := by simp; omega
        have d2n : decide (1099511627776 < m1) = false := by simp; omega
        have e0 := cell_of HQ7.out.2 (i := 0) rfl
        have e1 := cell_of HQ7.out.2 (i := 1) rfl
        have e2 := cell_of HQ7.out.2 (i := 2) rfl
        have e3 := cell_of HQ7.out.2 (i := 3) rfl
        have Hone := Lib.hid (isone_calls (HU.out.has (show bb.length ≤ 1099511627776 by omega) (show gg.length ≤ 1099511627776 by omega)))
        unfold entV at Hone
        have H12 := Lib.hid (And.intro h1 h2)
        clear h1 h2
        go_wp2_with fail
        refine HW.out.mono ?_
        rintro e w8 ⟨rfl, rfl⟩
        go_wp2_with fail
        refine Hone.out.mono ?_
        rintro e w9 ⟨rfl, hb9⟩
        have HB9 := Lib.hid hb9
        cases hie : isEnt (⟨(m2 : Int), (m3 : Int), bb, gg⟩ : Ent) with
        | false =>
          have HE := Lib.hid (Hno.out w9 (HB8.out.trans (hb9.mono HB8.out.size)) (by rw [HM.out, hie, if_neg (by simp)]))
          clear hie hb9
          go_wp2_with fail
          go_ret
          exact HE.out
        | true =>
          have Hie := Lib.hid hie
          have h9 := hb9
          obtain ⟨own, gv, dv, ev, us, hJ, hS, hno, hlF⟩ := H.out
          have hB19 := HB8.out.trans (h9.mono HB8.out.size)
          have hJ9 := hJ.below hB19
          obtain ⟨pe, ce, rfl⟩ := hJ.row.shape
          have c8 := hJ9.c 8 rfl
          have hb1 := (h9.block (a + 1) (lt_of_block HQ7.out.2)).trans HQ7.out.2
          have HJ := Lib.hid (And.intro hJ (And.intro hS (And.intro hno hlF)))
          have HB19 := Lib.hid hB19
          have hml : M.entries.length ≤ M.last := by unfold JouM.last; omega
          have HB1 := Lib.hid hb1
          have HU9 := Lib.hid (HU.out.keep fun k hk => h9.block k (HU.out.lt hk))
          have hm40 : M.last + 1 ≤ 1099511627776 := by have := H12.out.1; have := H12.out.2; omega
          have Hml := Lib.hid (And.intro hml hm40)
          have Hm := Lib.hid (show M.entries.length = M.entries.length from rfl)
          clear hie hb9 hJ hS hno hlF hB19 hJ9 h9 e0 e1 e2 e3 q0 hml hm40 hwa hlast
          generalize hmm : M.entries.length = m at *
          clear Hm
          have Hm := Lib.hid hmm
          clear hmm
          go_wp2_with fail
          refine g_start [10] (fun w' : World => w'.cell? ⟨j, 8, none⟩ = some (.slice pe m ce) ∧ w'.heap[a + 1]? = some (.cells #[.int .i64 (m2 : Int), .int .i64 (m3 : Int), (.slice p5 bb.length c5), (.slice p6 gg.length c6)] 50 (0, 0))) (n := 11) (by kernel_rfl) rfl (⟨c8, hb1⟩) (fun hHeld => ?_)
          have HBd := Lib.hid (show Below w9.heap.size w9 w9.drew from ⟨rfl, rfl, rfl, by simp, fun _ _ => rfl⟩)
          clear c8 hb1
          generalize hWd : w9.drew = Wd at *
          refine g_pure0 0 (v := ?v23x0) rfl (by kernel_rfl) (by kernel_rfl) (by kernel_rfl) (by kernel_rfl) (fun _ _ _ h => h) (by rfl) (by assumption) ?y23x0 ?_
          case y23x0 => (intro w; go_simp; try with_reducible rfl)
          simp only [Act.put, List.setIfInBounds_toArray, List.set_cons_zero, List.set_cons_succ]
          refine g_pure0 1 (v := ?v23x1) rfl (by kernel_rfl) (by kernel_rfl) (by kernel_rfl) (by kernel_rfl) (fun _ _ _ h => h) (by rfl) (by assumption) ?y23x1 ?_
          case y23x1 => (intro w; go_simp; try with_reducible rfl)
          simp only [Act.put, List.setIfInBounds_toArray, List.set_cons_zero, List.set_cons_succ]
          refine g_pure0 2 (v := ?v23x2) rfl (by kernel_rfl) (by kernel_rfl) (by kernel_rfl) (by kernel_rfl) (fun _ _ _ h => h) (by rfl) (by assumption) ?y23x2 ?_
          case y23x2 => (intro w; go_simp; try with_reducible rfl)
          simp only [Act.put, List.setIfInBounds_toArray, List.set_cons_zero, List.set_cons_succ]
          refine g_pure0 3 (v := ?v23x3) rfl (by kernel_rfl) (by kernel_rfl) (by kernel_rfl) (by kernel_rfl) (fun _ _ _ h => h) (by rfl) (by assumption) ?y23x3 ?_
          case y23x3 => (intro w; go_simp; try with_reducible rfl)
          simp only [Act.put, List.setIfInBounds_toArray, List.set_cons_zero, List.set_cons_succ]
          refine g_take 4 (v := ?v23x4) rfl (by kernel_rfl) (by kernel_rfl) (by kernel_rfl) (by kernel_rfl) (fun _ _ _ h => h) (by rfl) (by assumption) ?y23x4 ?_
          case y23x4 => (intro w hSw; (try dsimp only at hSw); go_simp; try with_reducible rfl)
          simp only [Act.put, List.setIfInBounds_toArray, List.set_cons_zero, List.set_cons_succ]
          refine g_take 5 (v := .agg #[.int .i64 (m2 : Int), .int .i64 (m3 : Int), (.slice p5 bb.length c5), (.slice p6 gg.length c6)]) rfl (by kernel_rfl) (by kernel_rfl) (by kernel_rfl) (by kernel_rfl) (fun _ _ _ h => h) (by rfl) (by assumption) (fun W hSw => by have q0 := cell_of hSw.2 (i := 0) rfl; have q1 := cell_of hSw.2 (i := 1) rfl; have q2 := cell_of hSw.2 (i := 2) rfl; have q3 := cell_of hSw.2 (i := 3) rfl; go_simp; try with_reducible rfl) ?_
          simp only [Act.put, List.setIfInBounds_toArray, List.set_cons_zero, List.set_cons_succ]
          refine g_one 6 rfl (by kernel_rfl) (by rfl) (fun K hK => ?_)
          have Hh10 := Lib.hid (And.intro (al_cell hHeld.1 (.cells #[.int .i64 (m2 : Int), .int .i64 (m3 : Int), (.slice p5 bb.length c5), (.slice p6 gg.length c6)] 50 (0, 0))) ((al_old _ (.cells #[.int .i64 (m2 : Int), .int .i64 (m3 : Int), (.slice p5 bb.length c5), (.slice p6 gg.length c6)] 50 (0, 0)) (lt_of_block hHeld.2)).trans hHeld.2))
          go_wp2_with fail
          refine hK.out _ _ (Hh10.out) (fun hHeld => ?_)
          clear hK
          try simp only [Act.put, List.setIfInBounds_toArray, List.set_cons_zero, List.set_cons_succ]
          refine g_one 7 rfl (by kernel_rfl) (by rfl) (fun K hK => ?_)
          obtain ⟨hJ, hS, hno, hlF⟩ := HJ.out
          have hb9 := HB19.out.trans (HBd.out.mono HB19.out.size)
          have hJ9 := hJ.below hb9
          have hU9 := HU9.out.keep fun k hk => HBd.out.block k (HU9.out.lt hk)
          have hba := below_one Wd (.cells #[.int .i64 (m2 : Int), .int .i64 (m3 : Int), (.slice p5 bb.length c5), (.slice p6 gg.length c6)] 50 (0, 0))
          have hal := (hJ9.below hba).row
          rw [Hm.out] at hal
          have hxx : Holds (Wd.alloc (.cells #[.int .i64 (m2 : Int), .int .i64 (m3 : Int), (.slice p5 bb.length c5), (.slice p6 gg.length c6)] 50 (0, 0))) 4 (.slice (some ⟨Wd.heap.size, 0, none⟩) 1 1) 1 (entC (⟨(m2 : Int), (m3 : Int), bb, gg⟩ : Ent) ((.slice p5 bb.length c5), (.slice p6 gg.length c6))) := ⟨rfl, some ⟨Wd.heap.size, 0, none⟩, 1, rfl, fun e => (by cases e), fun a ha i u hu => by
            cases ha
            rw [add_zero]
            refine cell_of (new_block Wd _) ?_
            simpa [entC] using hu⟩
          refine wp_app (.tmp 137) (.tmp 139) 78 rfl 50 i4 (.agg #[.int .i64 0, .int .i64 0, .slice none 0 0, .slice none 0 0]) 4 64 Tryz.underlying78 hi4 hz40 hz41 hz42 rfl (by decide) _ m _ rfl hal (.slice (some ⟨Wd.heap.size, 0, none⟩) 1 1) 1 _ rfl hxx (by simp [entC, Value.oneCell']) (by unfold maxLen; have := Hml.out; omega) (by have := Hml.out; omega) ?_
          intro v3 w3 hown3 hgrow3 hloc3
          obtain ⟨hP1, hP2, hP3, hP4⟩ := jouIn_push hJ9 hU9 (fun x hx ho => by
            have h2 := hJ.olt x ho
            rcases hx with hx | hx
            · have := (HV5.out.2 x hx).1
              omega
            · have := (HV6.out x hx).1
              omega) Hie.out Hml.out.2 hba (by rw [Hm.out]; exact hown3) hgrow3 hloc3
          have HE := Lib.hid (rec_ent_ok (o := O) hJ hS hno hlF hP1 (((Chg.of_below hb9).mono fun _ _ h => h.elim).trans hP2 fun _ _ h => h) (fun x hx => by
            rcases hx with hx | hx | hx
            · exact .inl hx
            · rcases hx with hx | hx
              · exact .inr (HV5.out.2 x hx).1
              · exact .inr (HV6.out x hx).1
            · exact (hP3 x hx).imp id fun h => Nat.le_trans hb9.size h) (by rw [HM.out, if_pos ⟨Hw.out, H12.out.1, H12.out.2, Hie.out⟩]))
          have hbne : ∀ x, (Value.slice pe m ce).ownBlock = some x → x ≠ a + 1 := fun x hx e => by have := hJ.olt x (hJ.oe x hx).1; have := HS.out.2.2; omega
          have hc8 : w3.cell? ⟨j, 8, none⟩ = some (.slice pe m ce) := cell_of (hP4.trans hJ9.cells) (i := 8) rfl
          have hf8 : w3.frozen? ⟨j, 8, none⟩ = false := frozen_of (hP4.trans hJ9.cells) 8
          have hbx : w3.heap[a + 1]? = some (.cells #[.int .i64 (m2 : Int), .int .i64 (m3 : Int), (.slice p5 bb.length c5), (.slice p6 gg.length c6)] 50 (0, 0)) := (hgrow3.block _ (lt_of_block hHeld.2) fun e => hbne _ e.symm rfl).trans hHeld.2
          obtain ⟨p3, q3, rfl⟩ := OwnR.shape hown3
          clear hJ hS hno hlF hJ9 hba hal hxx hown3 hgrow3 hloc3 hP1 hP2 hP3 hP4 hbne hb9 hU9
          refine hK.out _ _ ⟨hc8, hbx⟩ (fun hHeld => ?_)
          clear hK
          try simp only [Act.put, List.setIfInBounds_toArray, List.set_cons_zero, List.set_cons_succ]
          refine g_pure0 8 (v := ?v23x8) rfl (by kernel_rfl) (by kernel_rfl) (by kernel_rfl) (by kernel_rfl) (fun _ _ _ h => h) (by rfl) (by assumption) ?y23x8 ?_
          case y23x8 => (intro w; go_simp; try with_reducible rfl)
          simp only [Act.put, List.setIfInBounds_toArray, List.set_cons_zero, List.set_cons_succ]
          refine g_pure0 9 (v := ?v23x9) rfl (by kernel_rfl) (by kernel_rfl) (by kernel_rfl) (by kernel_rfl) (fun _ _ _ h => h) (by rfl) (by assumption) ?y23x9 ?_
          case y23x9 => (intro w; go_simp; try with_reducible rfl)
          simp only [Act.put, List.setIfInBounds_toArray, List.set_cons_zero, List.set_cons_succ]
          refine g_end 10 rfl (by kernel_rfl) (by rfl) (by kernel_rfl) (fun K hK => ?_)
          go_wp2_with fail
          refine hK.out _ _ ?_
          clear hK
          try simp only [Act.put, List.setIfInBounds_toArray, List.set_cons_zero, List.set_cons_succ]
          refine g_done (by kernel_rfl) ?_ _
          go_wp2_with fail
          go_ret
          exact HE.out
      · have d2 : decide ((1099511627776 : Int) < (m1 : Int)) = true := by simp; omega
        have d2n : decide (1099511627776 < m1) = true := by simp; omega
        have d1 : ((m1 : Int) != (M.last : Int) + 1) = false := by simp; omega
        have HE := Lib.hid (Hno.out w7 HB8.out (by rw [HM.out, if_neg (fun e => h2 e.2.2.1)]))
        clear h1 h2
        go_wp2_with fail
        refine HW.out.mono ?_
        rintro e w8 ⟨rfl, rfl⟩
        go_wp2_with fail
        go_ret
        exact HE.out
    · have d1 : ((m1 : Int) != (M.last : Int) + 1) = true := by simp; omega
      have HE := Lib.hid (Hno.out w7 HB8.out (by rw [HM.out, if_neg (fun e => h1 e.2.1)]))
      clear h1
      go_wp2_with fail
      refine HW.out.mono ?_
      rintro e w8 ⟨rfl, rfl⟩
      go_wp2_with fail
      go_ret
      exact HE.out
end
end Go.Proofs.YtapfnehdgailmaaGreat

namespace Go.Proofs.YtapfnehdgailmaaGreat
open Go.RowKit Go.Sat Go.Maps

section
variable {w w1 w2 : World} {j d : Nat} {pre : ByteArray} {D : DiskM} {M : JouM} {F : Nat → Prop}

theorem record_calls (h : JouF w w1 j d pre D M F) (f : Bool) (he : f = true → M.entries = []) {p : Option Addr} {n c : Nat} {b : Bs} (hx : HasB w1 (.slice p n c) b) (hl : b.length ≤ 1073741824) :
    Calls Tryz.prog 155 #[.pointer (some ⟨j, 0, none⟩), .bool f, .slice p n c] w1 (RecTold w w1 j d pre D F (rec1 f M b)) := by
  have hn : n = b.length := by
    obtain ⟨_, _, e⟩ := hx.slice
    simp only [Value.slice.injEq] at e
    exact e.2.1
  subst hn
  cases b with
  | nil => exact rec_nil h f hx
  | cons k l =>
    by_cases h1 : f ≠ decide (k = 1)
    · exact rec_else h hx hl (.inl h1)
    · have h1 : f = decide (k = 1) := by simpa using h1
      by_cases hk1 : k = 1
      · subst hk1
        rw [h1]
        exact rec_k1 h hx hl (he (by rw [h1]; rfl))
      · rw [decide_eq_false hk1] at h1
        subst h1
        by_cases hk2 : k = 2
        · subst hk2
          exact rec_k2 h hx hl
        · by_cases hk3 : k = 3
          · subst hk3
            exact rec_k3 h hx hl
          · by_cases hk4 : k = 4
            · subst hk4
              exact rec_k4 h hx hl
            · exact rec_else h hx hl (.inr ⟨hk1, hk2, hk3, hk4⟩)
end
end Go.Proofs.YtapfnehdgailmaaGreat

namespace Go.Proofs.YtapfnehdgailmaaGreat
open Go.RowKit Go.Sat Go.Maps

theorem results_row4 {P : Program} {fn : Func} {p u v z : Tmp} {ty : TypeId} (h : fn.results = #[.cell p ty, .tmp u, .tmp v, .tmp z]) (tmps : Array Value) (w : World) (g : Nat) (t : TypeId) (cs : Array Value) (fr : Nat × Nat) (d : TypeDesc)
    (hp : tmps.getD p undef = .pointer (some ⟨g, 0, none⟩)) (hg : w.heap[g]? = some (.cells cs t fr))
    (hu : P.underlying ty = some d) (hd : (match d with | .struct _ | .array _ _ => true | _ => false) = true) (hi : (P.info? ty).map (·.size) = some cs.size) :
    (results fn tmps).run P w = .ok (.tuple #[.agg cs, tmps.getD u undef, tmps.getD v undef, tmps.getD z undef]) w := by
  have h1 : (results fn tmps).run P w = ((asAddr (tmps.getD p undef)).run P w).andThen fun a w₁ => ((loadVar ty a).run P w₁).andThen fun x w₂ => .ok (.tuple #[x, tmps.getD u undef, tmps.getD v undef, tmps.getD z undef]) w₂ := by
    simp only [results, h]
    simp [Sem.run_bind, Result.andThen]
  rw [h1, hp]
  simp [asAddr, run_loadVar_row w g t ty cs fr d hg hu hd hi]

/-- The row of a base, laid anew as it is. -/
def baseAgain (W : World) (b : Nat) (x y z : Value) : World := ((W.setCell ⟨b, 0, none⟩ x).setCell ⟨b, 1, none⟩ y).setCell ⟨b, 2, none⟩ z
theorem base_keep {W : World} {b : Nat} {x y z : Value} (h : W.heap[b]? = some (.cells #[x, y, z] 130 (0, 0))) : (baseAgain W b x y z).heap[b]? = some (.cells #[x, y, z] 130 (0, 0)) ∧ Chg (fun _ => False) W (baseAgain W b x y z) := by
  have h1 := set_block h 0 x
  have h2 := set_block h1 1 y
  have h3 := set_block h2 2 z
  have h3 : (baseAgain W b x y z).heap[b]? = some (.cells #[x, y, z] 130 (0, 0)) := by simpa [baseAgain] using h3
  have hC : Chg (fun k => k = b) W (baseAgain W b x y z) := ((Chg.setCell W ⟨b, 0, none⟩ x).trans (Chg.setCell _ ⟨b, 1, none⟩ y) fun _ _ e => e).trans (Chg.setCell _ ⟨b, 2, none⟩ z) fun _ _ e => e
  refine ⟨h3, hC.os, hC.tape, hC.output, hC.size, fun k hk _ => ?_⟩
  by_cases e : k = b
  · rw [e, h3, h]
  · exact hC.block k hk e

/-- What reading the snapshot leaves. -/
def RsnTold (w1 : World) (r : Nat × Option Snap) (e : Ending) (w' : World) : Prop :=
  Below w1.heap.size w1 w' ∧ ∃ (n t : Int) (gp : Option Addr) (gn gc : Nat) (dv : Value), e = .returned (.tuple #[.agg #[.int .i64 n, .int .i64 t, .slice gp gn gc], dv, .bool r.2.isSome, .int .i64 (r.1 : Int)]) ∧
    ∀ s, r.2 = some s → n = s.number ∧ t = s.term ∧ OwnI w' (.slice gp gn gc) s.group ∧ OwnB w' 5 dv s.data ∧ ∀ k, ((Value.slice gp gn gc).ownBlock = some k ∨ dv.ownBlock = some k) → w1.heap.size ≤ k

theorem loadE_cases (o : Option FileM) : loadE o = 0 ∨ loadE o = 3 ∨ loadE o = 7 := by
  unfold loadE
  split
  · split
    · exact .inl rfl
    · exact .inr (.inl rfl)
  · exact .inr (.inr rfl)
theorem loadB_le {D : DiskM} (h : D.OK) (n : Bs) : (loadB (Sat.get n D.files)).length ≤ 1073741824 := by
  have hln := data_len h n
  cases ho : Sat.get n D.files with
  | none => rw [loadB_none]; exact Nat.zero_le _
  | some f =>
    rw [ho] at hln
    rw [loadB_some]
    unfold oneB decB
    split
    · split
      · rw [List.length_take, List.length_drop]
        omega
      · exact Nat.zero_le _
    · exact Nat.zero_le _
theorem snapOf_7 {o : Option FileM} (h : loadE o = 7) : snapOf o = (0, none) := by unfold snapOf; rw [if_pos h]
theorem snapOf_3 {o : Option FileM} (h : loadE o = 3) : snapOf o = (3, none) := by unfold snapOf; rw [if_neg (by omega), if_pos (by omega), h]
theorem snapOf_0 {o : Option FileM} (h : loadE o = 0) : snapOf o = match snapIs (loadB o) with | none => (3, none) | some s => (0, some s) := by unfold snapOf; rw [if_neg (by omega), if_neg (by omega)]; rfl

theorem snap_no {w1 w2 : World} {r : Nat × Option Snap} {k : Nat} (hr : r = (k, none)) (hb : Below w1.heap.size w1 w2) (n t : Int) (gp : Option Addr) (gn gc : Nat) (dv : Value) : RsnTold w1 r (.returned (.tuple #[.agg #[.int .i64 n, .int .i64 t, .slice gp gn gc], dv, .bool false, .int .i64 (k : Int)])) w2 := by
  subst hr
  exact ⟨hb, n, t, gp, gn, gc, dv, rfl, fun s h => by cases h⟩

section
variable {w w1 w2 : World} {j d : Nat} {pre : ByteArray} {D : DiskM} {M : JouM} {F : Nat → Prop}

set_option maxRecDepth 100000 in
set_option maxHeartbeats 8000000 in
theorem rsnap_calls (h : JouF w w1 j d pre D M F) :
    Calls Tryz.prog 77 #[.pointer (some ⟨j, 0, none⟩)] w1 (RsnTold w1 (snapOf (Sat.get (snpN (nm pre)) D.files))) := by
  have hps := h.psz
  have hssn : (sSnp pre).size = pre.size + 5 := size_snp pre
  obtain ⟨c3, c4, -⟩ := h.jc
  have hnn := loadB_le h.okD (snpN (nm pre))
  have H := Lib.hid h
  have HB1 := Lib.hid (below_one w1 (.cells #[.int .i64 0, .int .i64 0, .slice none 0 0] 130))
  have HX1 := Lib.hid (new_block w1 (.cells #[.int .i64 0, .int .i64 0, .slice none 0 0] 130))
  have Ho := Lib.hid (show Sat.get (snpN (nm pre)) D.files = Sat.get (snpN (nm pre)) D.files from rfl)
  generalize hog : Sat.get (snpN (nm pre)) D.files = o at *
  clear Ho
  have Ho := Lib.hid hog
  clear h hog
  rcases loadE_cases o with h0 | h3 | h7
  · have HI := Lib.hid (snapOf_0 h0)
    have He := Lib.hid h0
    clear h0
    generalize snapOf o = SO at *
    generalize hbl : loadB o = bl at *
    have Hbl := Lib.hid hbl
    clear hbl
    go_enter Tryz.func77, Tryz.ntmps77
    go_wp2_with fail
    refine ord_start (fun w' : World => w'.cell? ⟨j, 3, none⟩ = some (.pointer (some ⟨d, 0, none⟩)) ∧ w'.cell? ⟨j, 4, none⟩ = some (.string pre)) (n := 15) (by kernel_rfl) rfl (⟨al_cell c3 _, al_cell c4 _⟩) (fun hHeld => ?_)
    have HBd := Lib.hid (HB1.out.trans ((below_drew (w1.alloc (.cells #[.int .i64 0, .int .i64 0, .slice none 0 0] 130))).mono HB1.out.size))
    have HXd := Lib.hid (show (w1.alloc (.cells #[.int .i64 0, .int .i64 0, .slice none 0 0] 130)).drew.heap[w1.heap.size]? = _ from HX1.out)
    generalize (w1.alloc (.cells #[.int .i64 0, .int .i64 0, .slice none 0 0] 130)).drew = W1 at *
    refine ord_take 0 (v := ?v1x0) rfl (by kernel_rfl) (by kernel_rfl) (by kernel_rfl) (fun _ _ _ h => h) (by rfl) (by assumption) ?y1x0 ?_
    case y1x0 => (intro w hSw; (try dsimp only at hSw); go_simp; try with_reducible rfl)
    simp only [Act.put, List.setIfInBounds_toArray, List.set_cons_zero, List.set_cons_succ]
    refine ord_take 1 (v := ?v1x1) rfl (by kernel_rfl) (by kernel_rfl) (by kernel_rfl) (fun _ _ _ h => h) (by rfl) (by assumption) ?y1x1 ?_
    case y1x1 => (intro w hSw; (try dsimp only at hSw); go_simp; try with_reducible rfl)
    simp only [Act.put, List.setIfInBounds_toArray, List.set_cons_zero, List.set_cons_succ]
    refine ord_take 2 (v := ?v1x2) rfl (by kernel_rfl) (by kernel_rfl) (by kernel_rfl) (fun _ _ _ h => h) (by rfl) (by assumption) ?y1x2 ?_
    case y1x2 => (intro w hSw; (try dsimp only at hSw); go_simp; try with_reducible rfl)
    simp only [Act.put, List.setIfInBounds_toArray, List.set_cons_zero, List.set_cons_succ]
    refine ord_take 3 (v := ?v1x3) rfl (by kernel_rfl) (by kernel_rfl) (by kernel_rfl) (fun _ _ _ h => h) (by rfl) (by assumption) ?y1x3 ?_
    case y1x3 => (intro w hSw; (try dsimp only at hSw); go_simp; try with_reducible rfl)
    simp only [Act.put, List.setIfInBounds_toArray, List.set_cons_zero, List.set_cons_succ]
    refine ord_take 4 (v := ?v1x4) rfl (by kernel_rfl) (by kernel_rfl) (by kernel_rfl) (fun _ _ _ h => h) (by rfl) (by assumption) ?y1x4 ?_
    case y1x4 => (intro w hSw; (try dsimp only at hSw); go_simp; try with_reducible rfl)
    simp only [Act.put, List.setIfInBounds_toArray, List.set_cons_zero, List.set_cons_succ]
    refine ord_take 5 (v := ?v1x5) rfl (by kernel_rfl) (by kernel_rfl) (by kernel_rfl) (fun _ _ _ h => h) (by rfl) (by assumption) ?y1x5 ?_
    case y1x5 => (intro w hSw; (try dsimp only at hSw); go_simp; try with_reducible rfl)
    simp only [Act.put, List.setIfInBounds_toArray, List.set_cons_zero, List.set_cons_succ]
    refine ord_take 6 (v := ?v1x6) rfl (by kernel_rfl) (by kernel_rfl) (by kernel_rfl) (fun _ _ _ h => h) (by rfl) (by assumption) ?y1x6 ?_
    case y1x6 => (intro w hSw; (try dsimp only at hSw); go_simp; try with_reducible rfl)
    simp only [Act.put, List.setIfInBounds_toArray, List.set_cons_zero, List.set_cons_succ]
    refine ord_take 7 (v := ?v1x7) rfl (by kernel_rfl) (by kernel_rfl) (by kernel_rfl) (fun _ _ _ h => h) (by rfl) (by assumption) ?y1x7 ?_
    case y1x7 => (intro w hSw; (try dsimp only at hSw); go_simp; try with_reducible rfl)
    simp only [Act.put, List.setIfInBounds_toArray, List.set_cons_zero, List.set_cons_succ]
    refine ord_take 8 (v := ?v1x8) rfl (by kernel_rfl) (by kernel_rfl) (by kernel_rfl) (fun _ _ _ h => h) (by rfl) (by assumption) ?y1x8 ?_
    case y1x8 => (intro w hSw; (try dsimp only at hSw); go_simp; rw [if_neg (by omega)]; try with_reducible rfl)
    simp only [Act.put, List.setIfInBounds_toArray, List.set_cons_zero, List.set_cons_succ]
    refine ord_one 9 rfl (by kernel_rfl) (by rfl) (fun K hK => ?_)
    have Hld := Lib.hid (load_calls (H.out.next HBd.out).st (sSnp pre) (by rw [hssn]; omega))
    rw [nm_snp] at Hld
    go_wp2_with fail
    refine Hld.out.mono ?_
    rintro e w2 ⟨v, rfl, hv, hvn, hb, -⟩
    rw [Ho.out] at hv ⊢
    have Hh3 := Lib.hid (And.intro (cell_far hHeld.1 hb) (cell_far hHeld.2 hb))
    have HB2 := Lib.hid (HBd.out.trans (hb.mono HBd.out.size))
    have HX2 := Lib.hid ((hb.block _ (lt_of_block HXd.out)).trans HXd.out)
    have HV2 := Lib.hid hv
    obtain ⟨pv, cv, rfl, -⟩ := own_cap0 hv
    clear hv hvn hb Hld
    rw [He.out]
    rw [Hbl.out] at HV2 ⊢
    go_wp2_with fail
    refine hK.out _ _ (Hh3.out) (fun hHeld => ?_)
    clear hK
    try simp only [Act.put, List.setIfInBounds_toArray, List.set_cons_zero, List.set_cons_succ]
    refine ord_take 10 (v := ?v1x10) rfl (by kernel_rfl) (by kernel_rfl) (by kernel_rfl) (fun _ _ _ h => h) (by rfl) (by assumption) ?y1x10 ?_
    case y1x10 => (intro w hSw; (try dsimp only at hSw); go_simp; try with_reducible rfl)
    simp only [Act.put, List.setIfInBounds_toArray, List.set_cons_zero, List.set_cons_succ]
    refine ord_take 11 (v := ?v1x11) rfl (by kernel_rfl) (by kernel_rfl) (by kernel_rfl) (fun _ _ _ h => h) (by rfl) (by assumption) ?y1x11 ?_
    case y1x11 => (intro w hSw; (try dsimp only at hSw); go_simp; try with_reducible rfl)
    simp only [Act.put, List.setIfInBounds_toArray, List.set_cons_zero, List.set_cons_succ]
    refine ord_take 12 (v := ?v1x12) rfl (by kernel_rfl) (by kernel_rfl) (by kernel_rfl) (fun _ _ _ h => h) (by rfl) (by assumption) ?y1x12 ?_
    case y1x12 => (intro w hSw; (try dsimp only at hSw); go_simp; try with_reducible rfl)
    simp only [Act.put, List.setIfInBounds_toArray, List.set_cons_zero, List.set_cons_succ]
    refine ord_take 13 (v := ?v1x13) rfl (by kernel_rfl) (by kernel_rfl) (by kernel_rfl) (fun _ _ _ h => h) (by rfl) (by assumption) ?y1x13 ?_
    case y1x13 => (intro w hSw; (try dsimp only at hSw); go_simp; try with_reducible rfl)
    simp only [Act.put, List.setIfInBounds_toArray, List.set_cons_zero, List.set_cons_succ]
    refine ord_take 14 (v := ?v1x14) rfl (by kernel_rfl) (by kernel_rfl) (by kernel_rfl) (fun _ _ _ h => h) (by rfl) (by assumption) ?y1x14 ?_
    case y1x14 => (intro w hSw; (try dsimp only at hSw); go_simp; try with_reducible rfl)
    simp only [Act.put, List.setIfInBounds_toArray, List.set_cons_zero, List.set_cons_succ]
    refine wpAnyH_done (by kernel_rfl) ?_ _
    clear Hh3 HX1 HB1 HBd HXd
    have Hrd0 := Lib.hid (newrdX_calls (show HasB w2 (.slice pv bl.length cv) bl from HV2.out.has) (by omega))
    go_wp2_with fail
    refine Hrd0.out.mono ?_
    rintro e w3 ⟨r, rfl, hr, hrn, hrl, hb3⟩
    have HB3 := Lib.hid (show Below w1.heap.size w1 w3 from HB2.out.trans (hb3.mono HB2.out.size))
    have hx3 := (hb3.block _ (lt_of_block HX2.out)).trans HX2.out
    have hbr : w1.heap.size < r := Nat.lt_of_lt_of_le (lt_of_block HX2.out) hrn
    have HP := Lib.hid (show Places (w3.alloc (.cells #[.pointer (some ⟨w1.heap.size, 0, none⟩), .pointer (some ⟨w1.heap.size, 1, none⟩)] 204)) r [⟨w1.heap.size, 0, none⟩, ⟨w1.heap.size, 1, none⟩] from by
      have hk := old_block (.cells #[.pointer (some ⟨w1.heap.size, 0, none⟩), .pointer (some ⟨w1.heap.size, 1, none⟩)] 204) hx3
      refine ⟨fun a ha => ?_, fun a ha => ?_, fun a ha => ?_, fun a ha => ?_⟩
      all_goals
        simp only [List.mem_cons, List.not_mem_nil, or_false] at ha
        rcases ha with rfl | rfl
      · exact ⟨_, cell_of hk rfl⟩
      · exact ⟨_, cell_of hk rfl⟩
      · exact frozen_of hk 0
      · exact frozen_of hk 1
      · intro e; have e2 : w1.heap.size = r := e; omega
      · intro e; have e2 : w1.heap.size = r := e; omega
      · rfl
      · rfl)
    have hxl := lt_of_block hx3
    have HN := Lib.hid (rnums_calls (hr.chg (Chg.alloc w3 (.cells #[.pointer (some ⟨w1.heap.size, 0, none⟩), .pointer (some ⟨w1.heap.size, 1, none⟩)] 204)) (fun e => e) fun _ _ e => e) (g := w3.heap.size) (c := 2) HP.out (by simp) (fun i a hi => by
      refine cell_of (new_block w3 _) ?_
      match i, hi with
      | 0, hi => cases hi; rfl
      | 1, hi => cases hi; rfl) (fun e => by omega) (fun a ha e => by
        simp only [List.mem_cons, List.not_mem_nil, or_false] at ha
        rcases ha with rfl | rfl
        · have e3 : w1.heap.size = w3.heap.size := e
          omega
        · have e3 : w1.heap.size = w3.heap.size := e
          omega) (fun k hk => ⟨by omega, fun a ha e => by
        have := lt_of_block HX2.out
        simp only [List.mem_cons, List.not_mem_nil, or_false] at ha
        rcases ha with rfl | rfl
        · have e3 : k = w1.heap.size := e
          omega
        · have e3 : k = w1.heap.size := e
          omega⟩))
    have HS := Lib.hid (And.intro hbr (And.intro hrl (And.intro hrn (lt_of_block HX2.out))))
    have HX3 := Lib.hid (old_block (.cells #[.pointer (some ⟨w1.heap.size, 0, none⟩), .pointer (some ⟨w1.heap.size, 1, none⟩)] 204) hx3)
    have HBW := Lib.hid (HB3.out.trans ((below_one w3 (.cells #[.pointer (some ⟨w1.heap.size, 0, none⟩), .pointer (some ⟨w1.heap.size, 1, none⟩)] 204)).mono HB3.out.size))
    clear hr hrn hrl hb3 Hrd0 hx3 hbr hxl HP
    have hm1 := Rd.num_le ⟨bl, false⟩
    have hm2 := Rd.num_le (Rd.num ⟨bl, false⟩).2
    have HI2 := Lib.hid (show Rd.ints 2 ⟨bl, false⟩ = ([((Rd.num ⟨bl, false⟩).1 : Int), ((Rd.num ⟨bl, false⟩).2.num.1 : Int)], (Rd.num ⟨bl, false⟩).2.num.2) from rfl)
    have HSN := Lib.hid (show snapIs bl = (if ((Rd.num ⟨bl, false⟩).2.num.2.grp isGrp).2.bytes.2.whole ∧ 1 ≤ (Rd.num ⟨bl, false⟩).1 ∧ (Rd.num ⟨bl, false⟩).1 ≤ 1099511627776 ∧ (Rd.num ⟨bl, false⟩).2.num.1 ≤ 1099511627776 ∧ ((Rd.num ⟨bl, false⟩).2.num.2.grp isGrp).2.bytes.1.length ≤ 524288 then some ⟨(Rd.num ⟨bl, false⟩).1, ((Rd.num ⟨bl, false⟩).2.num.1 : Int), ((Rd.num ⟨bl, false⟩).2.num.2.grp isGrp).1, ((Rd.num ⟨bl, false⟩).2.num.2.grp isGrp).2.bytes.1⟩ else none) from rfl)
    generalize (Rd.num ⟨bl, false⟩).1 = m1 at *
    generalize (Rd.num ⟨bl, false⟩).2.num.1 = m2 at *
    generalize (Rd.num ⟨bl, false⟩).2.num.2 = R3 at *
    go_wp2_with fail
    refine HN.out.mono ?_
    rintro e w4 ⟨rfl, hr4, hc4, hp4⟩
    rw [show ([⟨w1.heap.size, 0, none⟩, ⟨w1.heap.size, 1, none⟩] : List Addr).length = 2 from rfl, HI2.out] at hr4 hp4
    have hq := hp4 w1.heap.size (lt_of_block HX3.out) (by have := HS.out.1; omega)
    have hs1 := set_block HX3.out 0 (.int .i64 (m1 : Int))
    have hs2 := set_block hs1 1 (.int .i64 (m2 : Int))
    rw [show ((#[Value.int IntKind.i64 0, .int .i64 0, .slice none 0 0] : Array Value).setIfInBounds 0 (.int .i64 (m1 : Int))).setIfInBounds 1 (.int .i64 (m2 : Int)) = #[.int .i64 (m1 : Int), .int .i64 (m2 : Int), .slice none 0 0] from rfl] at hs2
    have HX4 := Lib.hid (show w4.heap[w1.heap.size]? = some (.cells #[.int .i64 (m1 : Int), .int .i64 (m2 : Int), .slice none 0 0] 130 (0, 0)) from hq.trans hs2)
    have HB4 := Lib.hid (show Below w1.heap.size w1 w4 from by
      refine (((Chg.of_below HBW.out).mono fun _ _ e => e.elim : Chg (fun k => w1.heap.size ≤ k) w1 _).trans hc4 fun k _ e => ?_).below (Nat.le_refl _) fun k hk e => by omega
      rcases e with rfl | ⟨a, ha, rfl⟩
      · have := HS.out.1
        omega
      · simp only [List.mem_cons, List.not_mem_nil, or_false] at ha
        rcases ha with rfl | rfl <;> exact Nat.le_refl _)
    have HR4 := Lib.hid hr4.lt
    have HG := Lib.hid (readGrp_grp hr4 (fun k hk => ⟨by have := hr4.lt; omega, by omega⟩))
    clear hr4 hc4 hp4 hq hs1 hs2 HN HX3 HBW HI2 HX2
    go_wp2_with fail
    refine HG.out.mono ?_
    rintro e w5 ⟨v5, rfl, hv5, hn5, hr5, hc5⟩
    have HB5 := Lib.hid (show Below w1.heap.size w1 w5 from HB4.out.trans (hc5.below HB4.out.size fun k hk e => by have := HS.out.1; omega))
    have hx5 := (hc5.block _ (lt_of_block HX4.out) (by have := HS.out.1; omega)).trans HX4.out
    obtain ⟨p5, c5, e5, -⟩ := own_capI hv5
    subst e5
    have HV5 := Lib.hid (show ∀ k, (Value.slice p5 (R3.grp isGrp).1.length c5).ownBlock = some k → w1.heap.size ≤ k ∧ k ≠ w1.heap.size ∧ k ≠ r from fun k hk => by
      have h1 := hn5 k hk
      have h2 := lt_of_block HX4.out
      have h3 := HB4.out.size
      have h6 := HR4.out
      exact ⟨by omega, by omega, by omega⟩)
    have q2 := cell_of hx5 (i := 2) rfl
    have fr := frozen_of hx5 2
    have h6 := set_block hx5 2 (.slice p5 (R3.grp isGrp).1.length c5)
    rw [show (#[Value.int IntKind.i64 (m1 : Int), .int .i64 (m2 : Int), .slice none 0 0] : Array Value).setIfInBounds 2 (.slice p5 (R3.grp isGrp).1.length c5) = #[.int .i64 (m1 : Int), .int .i64 (m2 : Int), .slice p5 (R3.grp isGrp).1.length c5] from rfl] at h6
    have HX6 := Lib.hid h6
    have HO6 := Lib.hid (show OwnI (w5.setCell ⟨w1.heap.size, 2, none⟩ (.slice p5 (R3.grp isGrp).1.length c5)) (.slice p5 (R3.grp isGrp).1.length c5) (R3.grp isGrp).1 from OwnR.keep hv5 fun k hk => set_other _ fun e => (HV5.out k hk).2.1 e)
    have HBy := Lib.hid (rbytesX_calls (hr5.chg (Chg.setCell w5 ⟨w1.heap.size, 2, none⟩ (.slice p5 (R3.grp isGrp).1.length c5)) (fun e => by have := HS.out.1; have e2 : r = w1.heap.size := e; omega) (fun k hk e => by have h7 := HS.out.2.2.2; have e2 : k = w1.heap.size := e; omega)))
    have HB6 := Lib.hid (show Below w1.heap.size w1 (w5.setCell ⟨w1.heap.size, 2, none⟩ (.slice p5 (R3.grp isGrp).1.length c5)) from (((Chg.of_below HB5.out).mono fun _ _ e => e.elim : Chg (fun k => k = w1.heap.size) w1 w5).trans (Chg.setCell w5 ⟨w1.heap.size, 2, none⟩ _) fun k _ e => e).below (Nat.le_refl _) fun k hk e => by omega)
    clear hv5 hn5 hr5 hc5 hx5 h6 HG HX4 HB4 HB5
    generalize (R3.grp isGrp).2 = R4 at *
    generalize (R3.grp isGrp).1 = gg at *
    go_wp2_with fail
    clear q2 fr
    generalize w5.setCell ⟨w1.heap.size, 2, none⟩ (.slice p5 gg.length c5) = w6 at *
    refine HBy.out.mono ?_
    rintro e w7 ⟨v7, rfl, hv7, hn7, hr7, hc7⟩
    have HB7 := Lib.hid (show Below w1.heap.size w1 w7 from HB6.out.trans (hc7.below HB6.out.size fun k hk e => by have := HS.out.1; omega))
    have HX7 := Lib.hid ((hc7.block _ (lt_of_block HX6.out) (by have := HS.out.1; omega)).trans HX6.out)
    have HO7 := Lib.hid (show OwnI w7 (.slice p5 gg.length c5) gg from OwnR.keep HO6.out fun k hk => hc7.block k (OwnR.lt HO6.out hk) fun e => (HV5.out k hk).2.2 e)
    have HW := Lib.hid (whole_calls hr7.at.hd)
    have HV7 := Lib.hid (show ∀ k, v7.ownBlock = some k → w1.heap.size ≤ k ∧ k ≠ w1.heap.size from fun k hk => by
      have h1 := hn7 k hk
      have h2 := lt_of_block HX6.out
      exact ⟨by omega, by omega⟩)
    have HD7 := Lib.hid hv7
    generalize R4.bytes.2 = R5 at *
    generalize R4.bytes.1 = bb at *
    obtain ⟨p7, c7, e7, -⟩ := own_cap0 hv7
    subst e7
    clear hv7 hn7 hr7 hc7 HBy HX6 HO6 HB6
    have HK := Lib.hid (base_keep HX7.out)
    have HZ := Lib.hid HK.out.1
    have HBz := Lib.hid (show Below w1.heap.size w1 (baseAgain w7 w1.heap.size (.int .i64 (m1 : Int)) (.int .i64 (m2 : Int)) (.slice p5 gg.length c5)) from HB7.out.trans (HK.out.2.below HB7.out.size fun _ _ e => e))
    have Hno := Lib.hid (fun (hn : snapIs bl = none) => snap_no (r := SO) (k := 3) (by rw [HI.out, hn]) HBz.out (m1 : Int) (m2 : Int) p5 gg.length c5 (.slice none 0 0))
    have Hyes := Lib.hid (fun (hn : snapIs bl = some ⟨m1, (m2 : Int), gg, bb⟩) => show RsnTold w1 SO (.returned (.tuple #[.agg #[.int .i64 (m1 : Int), .int .i64 (m2 : Int), .slice p5 gg.length c5], .slice p7 bb.length c7, .bool true, .int .i64 0])) (baseAgain w7 w1.heap.size (.int .i64 (m1 : Int)) (.int .i64 (m2 : Int)) (.slice p5 gg.length c5)) from by
      rw [HI.out, hn]
      refine ⟨HBz.out, _, _, _, _, _, _, rfl, fun s hs => ?_⟩
      cases hs
      exact ⟨rfl, rfl, OwnR.keep HO7.out fun k hk => HK.out.2.block k (OwnR.lt HO7.out hk) fun e => e, OwnR.keep HD7.out fun k hk => HK.out.2.block k (OwnR.lt HD7.out hk) fun e => e, fun k hk => hk.elim (fun h => (HV5.out k h).1) fun h => (HV7.out k h).1⟩)
    have Ht := Lib.hid (istm_calls w7 (m2 : Int))
    have q0 := cell_of HX7.out (i := 0) rfl
    have q1 := cell_of HX7.out (i := 1) rfl
    have q2 := cell_of HX7.out (i := 2) rfl
    have fr0 := frozen_of HX7.out 0
    have fr1 := frozen_of HX7.out 1
    have fr2 := frozen_of HX7.out 2
    clear HK HI HO7 HD7 HV5 HV7 HB7 HX7 HBz hnn
    unfold baseAgain at *
    have Hfin := Lib.hid (fun tm hp => results_row4 (P := Tryz.prog) (fn := Tryz.f77) (p := 2) (u := 3) (v := 4) (z := 5) (ty := 130) rfl tm (((w7.setCell ⟨w1.heap.size, 0, none⟩ (.int .i64 (m1 : Int))).setCell ⟨w1.heap.size, 1, none⟩ (.int .i64 (m2 : Int))).setCell ⟨w1.heap.size, 2, none⟩ (.slice p5 gg.length c5)) w1.heap.size _ _ (0, 0) _ hp HZ.out Tryz.underlying130 rfl (by kernel_rfl))
    cases hw : R5.whole with
    | false =>
      rw [hw] at HW
      have HE := Lib.hid (Hno.out (by rw [HSN.out, hw, if_neg (by simp)]))
      clear hw Hno Hyes HSN
      go_wp2_with fail
      refine HW.out.mono ?_
      rintro e w8 ⟨rfl, rfl⟩
      go_wp2_with fail
      (try simp only [Exit.inBlock, Exit.then])
      refine bodyPost_ret (Hfin.out _ rfl) rfl ?_
      exact HE.out
    | true =>
      rw [hw] at HW
      by_cases h1 : 1 ≤ m1
      · have d1 : decide ((m1 : Int) < 1) = false := by simp; omega
        have d1n : decide (m1 < 1) = false := by simp; omega
        by_cases h2 : m1 ≤ 1099511627776
        · have d2 : decide ((1099511627776 : Int) < (m1 : Int)) = false := by simp; omega
          have d2n : decide (1099511627776 < m1) = false := by simp; omega
          by_cases h3 : m2 ≤ 1099511627776
          · rw [show isTm (m2 : Int) = true from isTm_iff.2 ⟨by omega, by omega⟩] at Ht
            by_cases h4 : bb.length ≤ 524288
            · have d4 : decide ((524288 : Int) < (bb.length : Int)) = false := by simp; omega
              have d4n : decide (524288 < bb.length) = false := by simp; omega
              have HE := Lib.hid (Hyes.out (by rw [HSN.out, hw, if_pos ⟨rfl, h1, h2, h3, h4⟩]))
              clear hw Hno Hyes HSN h1 h2 h3 h4
              go_wp2_with fail
              refine HW.out.mono ?_
              rintro e w8 ⟨rfl, rfl⟩
              go_wp2_with fail
              refine Ht.out.mono ?_
              rintro e w8 ⟨rfl, rfl⟩
              go_wp2_with fail
              (try simp only [Exit.inBlock, Exit.then])
              refine bodyPost_ret (Hfin.out _ rfl) rfl ?_
              exact HE.out
            · have d4 : decide ((524288 : Int) < (bb.length : Int)) = true := by simp; omega
              have d4n : decide (524288 < bb.length) = true := by simp; omega
              have HE := Lib.hid (Hno.out (by rw [HSN.out, if_neg (fun e => h4 e.2.2.2.2)]))
              clear hw Hno Hyes HSN h1 h2 h3 h4
              go_wp2_with fail
              refine HW.out.mono ?_
              rintro e w8 ⟨rfl, rfl⟩
              go_wp2_with fail
              refine Ht.out.mono ?_
              rintro e w8 ⟨rfl, rfl⟩
              go_wp2_with fail
              (try simp only [Exit.inBlock, Exit.then])
              refine bodyPost_ret (Hfin.out _ rfl) rfl ?_
              exact HE.out
          · rw [show isTm (m2 : Int) = false from by rw [Bool.eq_false_iff]; intro e; have := isTm_iff.1 e; omega] at Ht
            have HE := Lib.hid (Hno.out (by rw [HSN.out, if_neg (fun e => h3 e.2.2.2.1)]))
            clear hw Hno Hyes HSN h1 h2 h3
            go_wp2_with fail
            refine HW.out.mono ?_
            rintro e w8 ⟨rfl, rfl⟩
            go_wp2_with fail
            refine Ht.out.mono ?_
            rintro e w8 ⟨rfl, rfl⟩
            go_wp2_with fail
            (try simp only [Exit.inBlock, Exit.then])
            refine bodyPost_ret (Hfin.out _ rfl) rfl ?_
            exact HE.out
        · have d2 : decide ((1099511627776 : Int) < (m1 : Int)) = true := by simp; omega
          have d2n : decide (1099511627776 < m1) = true := by simp; omega
          have HE := Lib.hid (Hno.out (by rw [HSN.out, if_neg (fun e => h2 e.2.2.1)]))
          clear hw Hno Hyes HSN h1 h2
          go_wp2_with fail
          refine HW.out.mono ?_
          rintro e w8 ⟨rfl, rfl⟩
          go_wp2_with fail
          (try simp only [Exit.inBlock, Exit.then])
          refine bodyPost_ret (Hfin.out _ rfl) rfl ?_
          exact HE.out
      · have d1 : decide ((m1 : Int) < 1) = true := by simp; omega
        have d1n : decide (m1 < 1) = true := by simp; omega
        have HE := Lib.hid (Hno.out (by rw [HSN.out, if_neg (fun e => h1 e.2.1)]))
        clear hw Hno Hyes HSN h1
        go_wp2_with fail
        refine HW.out.mono ?_
        rintro e w8 ⟨rfl, rfl⟩
        go_wp2_with fail
        (try simp only [Exit.inBlock, Exit.then])
        refine bodyPost_ret (Hfin.out _ rfl) rfl ?_
        exact HE.out
  · have HI := Lib.hid (snapOf_3 h3)
    have He := Lib.hid h3
    clear h3
    generalize snapOf o = SO at *
    go_enter Tryz.func77, Tryz.ntmps77
    go_wp2_with fail
    refine ord_start (fun w' : World => w'.cell? ⟨j, 3, none⟩ = some (.pointer (some ⟨d, 0, none⟩)) ∧ w'.cell? ⟨j, 4, none⟩ = some (.string pre)) (n := 15) (by kernel_rfl) rfl (⟨al_cell c3 _, al_cell c4 _⟩) (fun hHeld => ?_)
    have HBd := Lib.hid (HB1.out.trans ((below_drew (w1.alloc (.cells #[.int .i64 0, .int .i64 0, .slice none 0 0] 130))).mono HB1.out.size))
    have HXd := Lib.hid (show (w1.alloc (.cells #[.int .i64 0, .int .i64 0, .slice none 0 0] 130)).drew.heap[w1.heap.size]? = _ from HX1.out)
    generalize (w1.alloc (.cells #[.int .i64 0, .int .i64 0, .slice none 0 0] 130)).drew = W1 at *
    refine ord_take 0 (v := ?v2x0) rfl (by kernel_rfl) (by kernel_rfl) (by kernel_rfl) (fun _ _ _ h => h) (by rfl) (by assumption) ?y2x0 ?_
    case y2x0 => (intro w hSw; (try dsimp only at hSw); go_simp; try with_reducible rfl)
    simp only [Act.put, List.setIfInBounds_toArray, List.set_cons_zero, List.set_cons_succ]
    refine ord_take 1 (v := ?v2x1) rfl (by kernel_rfl) (by kernel_rfl) (by kernel_rfl) (fun _ _ _ h => h) (by rfl) (by assumption) ?y2x1 ?_
    case y2x1 => (intro w hSw; (try dsimp only at hSw); go_simp; try with_reducible rfl)
    simp only [Act.put, List.setIfInBounds_toArray, List.set_cons_zero, List.set_cons_succ]
    refine ord_take 2 (v := ?v2x2) rfl (by kernel_rfl) (by kernel_rfl) (by kernel_rfl) (fun _ _ _ h => h) (by rfl) (by assumption) ?y2x2 ?_
    case y2x2 => (intro w hSw; (try dsimp only at hSw); go_simp; try with_reducible rfl)
    simp only [Act.put, List.setIfInBounds_toArray, List.set_cons_zero, List.set_cons_succ]
    refine ord_take 3 (v := ?v2x3) rfl (by kernel_rfl) (by kernel_rfl) (by kernel_rfl) (fun _ _ _ h => h) (by rfl) (by assumption) ?y2x3 ?_
    case y2x3 => (intro w hSw; (try dsimp only at hSw); go_simp; try with_reducible rfl)
    simp only [Act.put, List.setIfInBounds_toArray, List.set_cons_zero, List.set_cons_succ]
    refine ord_take 4 (v := ?v2x4) rfl (by kernel_rfl) (by kernel_rfl) (by kernel_rfl) (fun _ _ _ h => h) (by rfl) (by assumption) ?y2x4 ?_
    case y2x4 => (intro w hSw; (try dsimp only at hSw); go_simp; try with_reducible rfl)
    simp only [Act.put, List.setIfInBounds_toArray, List.set_cons_zero, List.set_cons_succ]
    refine ord_take 5 (v := ?v2x5) rfl (by kernel_rfl) (by kernel_rfl) (by kernel_rfl) (fun _ _ _ h => h) (by rfl) (by assumption) ?y2x5 ?_
    case y2x5 => (intro w hSw; (try dsimp only at hSw); go_simp; try with_reducible rfl)
    simp only [Act.put, List.setIfInBounds_toArray, List.set_cons_zero, List.set_cons_succ]
    refine ord_take 6 (v := ?v2x6) rfl (by kernel_rfl) (by kernel_rfl) (by kernel_rfl) (fun _ _ _ h => h) (by rfl) (by assumption) ?y2x6 ?_
    case y2x6 => (intro w hSw; (try dsimp only at hSw); go_simp; try with_reducible rfl)
    simp only [Act.put, List.setIfInBounds_toArray, List.set_cons_zero, List.set_cons_succ]
    refine ord_take 7 (v := ?v2x7) rfl (by kernel_rfl) (by kernel_rfl) (by kernel_rfl) (fun _ _ _ h => h) (by rfl) (by assumption) ?y2x7 ?_
    case y2x7 => (intro w hSw; (try dsimp only at hSw); go_simp; try with_reducible rfl)
    simp only [Act.put, List.setIfInBounds_toArray, List.set_cons_zero, List.set_cons_succ]
    refine ord_take 8 (v := ?v2x8) rfl (by kernel_rfl) (by kernel_rfl) (by kernel_rfl) (fun _ _ _ h => h) (by rfl) (by assumption) ?y2x8 ?_
    case y2x8 => (intro w hSw; (try dsimp only at hSw); go_simp; rw [if_neg (by omega)]; try with_reducible rfl)
    simp only [Act.put, List.setIfInBounds_toArray, List.set_cons_zero, List.set_cons_succ]
    refine ord_one 9 rfl (by kernel_rfl) (by rfl) (fun K hK => ?_)
    have Hld := Lib.hid (load_calls (H.out.next HBd.out).st (sSnp pre) (by rw [hssn]; omega))
    rw [nm_snp] at Hld
    go_wp2_with fail
    refine Hld.out.mono ?_
    rintro e w2 ⟨v, rfl, hv, hvn, hb, -⟩
    rw [Ho.out] at hv ⊢
    have Hh3 := Lib.hid (And.intro (cell_far hHeld.1 hb) (cell_far hHeld.2 hb))
    have HB2 := Lib.hid (HBd.out.trans (hb.mono HBd.out.size))
    have HX2 := Lib.hid ((hb.block _ (lt_of_block HXd.out)).trans HXd.out)
    have HV2 := Lib.hid hv
    obtain ⟨pv, cv, rfl, -⟩ := own_cap0 hv
    clear hv hvn hb Hld
    rw [He.out]
    go_wp2_with fail
    refine hK.out _ _ (Hh3.out) (fun hHeld => ?_)
    clear hK
    try simp only [Act.put, List.setIfInBounds_toArray, List.set_cons_zero, List.set_cons_succ]
    refine ord_take 10 (v := ?v2x10) rfl (by kernel_rfl) (by kernel_rfl) (by kernel_rfl) (fun _ _ _ h => h) (by rfl) (by assumption) ?y2x10 ?_
    case y2x10 => (intro w hSw; (try dsimp only at hSw); go_simp; try with_reducible rfl)
    simp only [Act.put, List.setIfInBounds_toArray, List.set_cons_zero, List.set_cons_succ]
    refine ord_take 11 (v := ?v2x11) rfl (by kernel_rfl) (by kernel_rfl) (by kernel_rfl) (fun _ _ _ h => h) (by rfl) (by assumption) ?y2x11 ?_
    case y2x11 => (intro w hSw; (try dsimp only at hSw); go_simp; try with_reducible rfl)
    simp only [Act.put, List.setIfInBounds_toArray, List.set_cons_zero, List.set_cons_succ]
    refine ord_take 12 (v := ?v2x12) rfl (by kernel_rfl) (by kernel_rfl) (by kernel_rfl) (fun _ _ _ h => h) (by rfl) (by assumption) ?y2x12 ?_
    case y2x12 => (intro w hSw; (try dsimp only at hSw); go_simp; try with_reducible rfl)
    simp only [Act.put, List.setIfInBounds_toArray, List.set_cons_zero, List.set_cons_succ]
    refine ord_take 13 (v := ?v2x13) rfl (by kernel_rfl) (by kernel_rfl) (by kernel_rfl) (fun _ _ _ h => h) (by rfl) (by assumption) ?y2x13 ?_
    case y2x13 => (intro w hSw; (try dsimp only at hSw); go_simp; try with_reducible rfl)
    simp only [Act.put, List.setIfInBounds_toArray, List.set_cons_zero, List.set_cons_succ]
    refine ord_take 14 (v := ?v2x14) rfl (by kernel_rfl) (by kernel_rfl) (by kernel_rfl) (fun _ _ _ h => h) (by rfl) (by assumption) ?y2x14 ?_
    case y2x14 => (intro w hSw; (try dsimp only at hSw); go_simp; try with_reducible rfl)
    simp only [Act.put, List.setIfInBounds_toArray, List.set_cons_zero, List.set_cons_succ]
    refine wpAnyH_done (by kernel_rfl) ?_ _
    clear Hh3 HX1 HB1 HBd HXd
    have HK := Lib.hid (base_keep HX2.out)
    have HZ := Lib.hid HK.out.1
    have HE := Lib.hid (snap_no (r := SO) (k := 3) HI.out (HB2.out.trans (HK.out.2.below HB2.out.size fun _ _ e => e)) 0 0 none 0 0 (.slice none 0 0))
    have q0 := cell_of HX2.out (i := 0) rfl
    have q1 := cell_of HX2.out (i := 1) rfl
    have q2 := cell_of HX2.out (i := 2) rfl
    have fr0 := frozen_of HX2.out 0
    have fr1 := frozen_of HX2.out 1
    have fr2 := frozen_of HX2.out 2
    clear HK HX2 HB2 HV2
    unfold baseAgain at *
    have Hfin := Lib.hid (fun tm hp => results_row4 (P := Tryz.prog) (fn := Tryz.f77) (p := 2) (u := 3) (v := 4) (z := 5) (ty := 130) rfl tm (((w2.setCell ⟨w1.heap.size, 0, none⟩ (.int .i64 0)).setCell ⟨w1.heap.size, 1, none⟩ (.int .i64 0)).setCell ⟨w1.heap.size, 2, none⟩ (.slice none 0 0)) w1.heap.size _ _ (0, 0) _ hp HZ.out Tryz.underlying130 rfl (by kernel_rfl))
    go_wp2_with fail
    (try simp only [Exit.inBlock, Exit.then])
    refine bodyPost_ret (Hfin.out _ rfl) rfl ?_
    exact HE.out
  · have HI := Lib.hid (snapOf_7 h7)
    have He := Lib.hid h7
    clear h7
    generalize snapOf o = SO at *
    go_enter Tryz.func77, Tryz.ntmps77
    go_wp2_with fail
    refine ord_start (fun w' : World => w'.cell? ⟨j, 3, none⟩ = some (.pointer (some ⟨d, 0, none⟩)) ∧ w'.cell? ⟨j, 4, none⟩ = some (.string pre)) (n := 15) (by kernel_rfl) rfl (⟨al_cell c3 _, al_cell c4 _⟩) (fun hHeld => ?_)
    have HBd := Lib.hid (HB1.out.trans ((below_drew (w1.alloc (.cells #[.int .i64 0, .int .i64 0, .slice none 0 0] 130))).mono HB1.out.size))
    have HXd := Lib.hid (show (w1.alloc (.cells #[.int .i64 0, .int .i64 0, .slice none 0 0] 130)).drew.heap[w1.heap.size]? = _ from HX1.out)
    generalize (w1.alloc (.cells #[.int .i64 0, .int .i64 0, .slice none 0 0] 130)).drew = W1 at *
    refine ord_take 0 (v := ?v3x0) rfl (by kernel_rfl) (by kernel_rfl) (by kernel_rfl) (fun _ _ _ h => h) (by rfl) (by assumption) ?y3x0 ?_
    case y3x0 => (intro w hSw; (try dsimp only at hSw); go_simp; try with_reducible rfl)
    simp only [Act.put, List.setIfInBounds_toArray, List.set_cons_zero, List.set_cons_succ]
    refine ord_take 1 (v := ?v3x1) rfl (by kernel_rfl) (by kernel_rfl) (by kernel_rfl) (fun _ _ _ h => h) (by rfl) (by assumption) ?y3x1 ?_
    case y3x1 => (intro w hSw; (try dsimp only at hSw); go_simp; try with_reducible rfl)
    simp only [Act.put, List.setIfInBounds_toArray, List.set_cons_zero, List.set_cons_succ]
    refine ord_take 2 (v := ?v3x2) rfl (by kernel_rfl) (by kernel_rfl) (by kernel_rfl) (fun _ _ _ h => h) (by rfl) (by assumption) ?y3x2 ?_
    case y3x2 => (intro w hSw; (try dsimp only at hSw); go_simp; try with_reducible rfl)
    simp only [Act.put, List.setIfInBounds_toArray, List.set_cons_zero, List.set_cons_succ]
    refine ord_take 3 (v := ?v3x3) rfl (by kernel_rfl) (by kernel_rfl) (by kernel_rfl) (fun _ _ _ h => h) (by rfl) (by assumption) ?y3x3 ?_
    case y3x3 => (intro w hSw; (try dsimp only at hSw); go_simp; try with_reducible rfl)
    simp only [Act.put, List.setIfInBounds_toArray, List.set_cons_zero, List.set_cons_succ]
    refine ord_take 4 (v := ?v3x4) rfl (by kernel_rfl) (by kernel_rfl) (by kernel_rfl) (fun _ _ _ h => h) (by rfl) (by assumption) ?y3x4 ?_
    case y3x4 => (intro w hSw; (try dsimp only at hSw); go_simp; try with_reducible rfl)
    simp only [Act.put, List.setIfInBounds_toArray, List.set_cons_zero, List.set_cons_succ]
    refine ord_take 5 (v := ?v3x5) rfl (by kernel_rfl) (by kernel_rfl) (by kernel_rfl) (fun _ _ _ h => h) (by rfl) (by assumption) ?y3x5 ?_
    case y3x5 => (intro w hSw; (try dsimp only at hSw); go_simp; try with_reducible rfl)
    simp only [Act.put, List.setIfInBounds_toArray, List.set_cons_zero, List.set_cons_succ]
    refine ord_take 6 (v := ?v3x6) rfl (by kernel_rfl) (by kernel_rfl) (by kernel_rfl) (fun _ _ _ h => h) (by rfl) (by assumption) ?y3x6 ?_
    case y3x6 => (intro w hSw; (try dsimp only at hSw); go_simp; try with_reducible rfl)
    simp only [Act.put, List.setIfInBounds_toArray, List.set_cons_zero, List.set_cons_succ]
    refine ord_take 7 (v := ?v3x7) rfl (by kernel_rfl) (by kernel_rfl) (by kernel_rfl) (fun _ _ _ h => h) (by rfl) (by assumption) ?y3x7 ?_
    case y3x7 => (intro w hSw; (try dsimp only at hSw); go_simp; try with_reducible rfl)
    simp only [Act.put, List.setIfInBounds_toArray, List.set_cons_zero, List.set_cons_succ]
    refine ord_take 8 (v := ?v3x8) rfl (by kernel_rfl) (by kernel_rfl) (by kernel_rfl) (fun _ _ _ h => h) (by rfl) (by assumption) ?y3x8 ?_
    case y3x8 => (intro w hSw; (try dsimp only at hSw); go_simp; rw [if_neg (by omega)]; try with_reducible rfl)
    simp only [Act.put, List.setIfInBounds_toArray, List.set_cons_zero, List.set_cons_succ]
    refine ord_one 9 rfl (by kernel_rfl) (by rfl) (fun K hK => ?_)
    have Hld := Lib.hid (load_calls (H.out.next HBd.out).st (sSnp pre) (by rw [hssn]; omega))
    rw [nm_snp] at Hld
    go_wp2_with fail
    refine Hld.out.mono ?_
    rintro e w2 ⟨v, rfl, hv, hvn, hb, -⟩
    rw [Ho.out] at hv ⊢
    have Hh3 := Lib.hid (And.intro (cell_far hHeld.1 hb) (cell_far hHeld.2 hb))
    have HB2 := Lib.hid (HBd.out.trans (hb.mono HBd.out.size))
    have HX2 := Lib.hid ((hb.block _ (lt_of_block HXd.out)).trans HXd.out)
    have HV2 := Lib.hid hv
    obtain ⟨pv, cv, rfl, -⟩ := own_cap0 hv
    clear hv hvn hb Hld
    rw [He.out]
    go_wp2_with fail
    refine hK.out _ _ (Hh3.out) (fun hHeld => ?_)
    clear hK
    try simp only [Act.put, List.setIfInBounds_toArray, List.set_cons_zero, List.set_cons_succ]
    refine ord_take 10 (v := ?v3x10) rfl (by kernel_rfl) (by kernel_rfl) (by kernel_rfl) (fun _ _ _ h => h) (by rfl) (by assumption) ?y3x10 ?_
    case y3x10 => (intro w hSw; (try dsimp only at hSw); go_simp; try with_reducible rfl)
    simp only [Act.put, List.setIfInBounds_toArray, List.set_cons_zero, List.set_cons_succ]
    refine ord_take 11 (v := ?v3x11) rfl (by kernel_rfl) (by kernel_rfl) (by kernel_rfl) (fun _ _ _ h => h) (by rfl) (by assumption) ?y3x11 ?_
    case y3x11 => (intro w hSw; (try dsimp only at hSw); go_simp; try with_reducible rfl)
    simp only [Act.put, List.setIfInBounds_toArray, List.set_cons_zero, List.set_cons_succ]
    refine ord_take 12 (v := ?v3x12) rfl (by kernel_rfl) (by kernel_rfl) (by kernel_rfl) (fun _ _ _ h => h) (by rfl) (by assumption) ?y3x12 ?_
    case y3x12 => (intro w hSw; (try dsimp only at hSw); go_simp; try with_reducible rfl)
    simp only [Act.put, List.setIfInBounds_toArray, List.set_cons_zero, List.set_cons_succ]
    refine ord_take 13 (v := ?v3x13) rfl (by kernel_rfl) (by kernel_rfl) (by kernel_rfl) (fun _ _ _ h => h) (by rfl) (by assumption) ?y3x13 ?_
    case y3x13 => (intro w hSw; (try dsimp only at hSw); go_simp; try with_reducible rfl)
    simp only [Act.put, List.setIfInBounds_toArray, List.set_cons_zero, List.set_cons_succ]
    refine ord_take 14 (v := ?v3x14) rfl (by kernel_rfl) (by kernel_rfl) (by kernel_rfl) (fun _ _ _ h => h) (by rfl) (by assumption) ?y3x14 ?_
    case y3x14 => (intro w hSw; (try dsimp only at hSw); go_simp; try with_reducible rfl)
    simp only [Act.put, List.setIfInBounds_toArray, List.set_cons_zero, List.set_cons_succ]
    refine wpAnyH_done (by kernel_rfl) ?_ _
    clear Hh3 HX1 HB1 HBd HXd
    have HK := Lib.hid (base_keep HX2.out)
    have HZ := Lib.hid HK.out.1
    have HE := Lib.hid (snap_no (r := SO) (k := 0) HI.out (HB2.out.trans (HK.out.2.below HB2.out.size fun _ _ e => e)) 0 0 none 0 0 (.slice none 0 0))
    have q0 := cell_of HX2.out (i := 0) rfl
    have q1 := cell_of HX2.out (i := 1) rfl
    have q2 := cell_of HX2.out (i := 2) rfl
    have fr0 := frozen_of HX2.out 0
    have fr1 := frozen_of HX2.out 1
    have fr2 := frozen_of HX2.out 2
    clear HK HX2 HB2 HV2
    unfold baseAgain at *
    have Hfin := Lib.hid (fun tm hp => results_row4 (P := Tryz.prog) (fn := Tryz.f77) (p := 2) (u := 3) (v := 4) (z := 5) (ty := 130) rfl tm (((w2.setCell ⟨w1.heap.size, 0, none⟩ (.int .i64 0)).setCell ⟨w1.heap.size, 1, none⟩ (.int .i64 0)).setCell ⟨w1.heap.size, 2, none⟩ (.slice none 0 0)) w1.heap.size _ _ (0, 0) _ hp HZ.out Tryz.underlying130 rfl (by kernel_rfl))
    go_wp2_with fail
    (try simp only [Exit.inBlock, Exit.then])
    refine bodyPost_ret (Hfin.out _ rfl) rfl ?_
    exact HE.out
end
end Go.Proofs.YtapfnehdgailmaaGreat

namespace Go.Proofs.YtapfnehdgailmaaGreat
open Go.RowKit Go.Sat Go.Maps

theorem scanJ_rows (k : Nat) : ∀ b : Bs, b.length ≤ k → (∀ x ∈ (scan b).1, x.length ≤ b.length) ∧ (scan b).1.length ≤ b.length := by
  induction k with
  | zero =>
    intro b h
    rw [scan_stop (.inl (List.eq_nil_of_length_eq_zero (by omega)))]
    exact ⟨fun x hx => by simp at hx, Nat.zero_le _⟩
  | succ k ih =>
    intro b h
    by_cases he : decE b = 0
    · have hd := decL_pos he
      have hi := ih (b.drop (decL b)) (by rw [List.length_drop]; omega)
      rw [scan_go he]
      rw [List.length_drop] at hi
      refine ⟨fun x hx => ?_, ?_⟩
      · rcases List.mem_cons.1 hx with rfl | hx
        · unfold decB
          rw [if_pos he, List.length_take, List.length_drop]
          omega
        · exact Nat.le_trans (hi.1 x hx) (by omega)
      · show _ + 1 ≤ _
        omega
    · rw [scan_stop (.inr he)]
      exact ⟨fun x hx => by simp at hx, Nat.zero_le _⟩

theorem scanJ_row {b x : Bs} {n : Nat} (h : n ≤ 1073741824) (hn : b.length = n) (hx : x ∈ (scan b).1) : x.length ≤ 1073741824 := Nat.le_trans ((scanJ_rows _ b (Nat.le_refl _)).1 x hx) (by omega)
theorem scanJ_count {b : Bs} {n : Nat} {rows : List Bs} (h : n ≤ 1073741824) (hn : b.length = n) (hr : (scan b).1 = rows) : rows.length ≤ 1073741824 := by
  rw [← hr]
  exact Nat.le_trans (scanJ_rows _ b (Nat.le_refl _)).2 (by omega)

theorem RowsIn.keepJ {w w' : World} {v : Value} {vs : List Value} {ls : List Bs} (h : RowsIn w v vs ls) (hs : ∀ j, (v.ownBlock = some j ∨ ∃ u ∈ vs, u.ownBlock = some j) → w'.heap[j]? = w.heap[j]?) : RowsIn w' v vs ls :=
  ⟨h.row.keep fun k hk => hs k (.inl hk), fun i u b hu hl => OwnR.keep (h.has i u b hu hl) fun k hk => hs k (.inr ⟨u, List.mem_of_getElem? hu, hk⟩), h.sep⟩

/-- What is to be read of a log's records. -/
def restJ : Nat → JouM → List Bs → Option JouM
  | 0, M, l => recAll M l
  | _ + 1, M, l => recGo M l
theorem restJ_cons (k : Nat) (M : JouM) (x : Bs) (r : List Bs) : restJ k M (x :: r) = (rec1 (decide (k = 0)) M x).bind fun M' => restJ (k + 1) M' r := by
  cases k <;> rfl

/-- What reading the log leaves. -/
def RlTold (w w1 : World) (j d : Nat) (pre : ByteArray) (F : Nat → Prop) (r : DiskM × Nat × Bool × JouM) (e : Ending) (w' : World) : Prop :=
  e = .returned (.tuple #[.bool r.2.2.1, .int .i64 (r.2.1 : Int)]) ∧ St w w' d r.1 F ∧ Same F w1 w' ∧ (r.2.1 = 0 → JouF w w' j d pre r.1 r.2.2.2 F)

section
variable {w w1 w2 : World} {j d : Nat} {pre : ByteArray} {D : DiskM} {M : JouM} {F : Nat → Prop}

theorem rl_end {r : DiskM × Nat × Bool × JouM} {k : Nat} {b : Bool} {M' : JouM} (h : JouF w w2 j d pre D M' F) (hs : Same F w1 w2) (hr : r = (D, k, b, M')) : RlTold w w1 j d pre F r (.returned (.tuple #[.bool b, .int .i64 (k : Int)])) w2 := by
  subst hr
  exact ⟨rfl, h.stF, hs, fun _ => h⟩
theorem rl_bad {r : DiskM × Nat × Bool × JouM} {k : Nat} {b : Bool} {M' : JouM} (h : St w w2 d D F) (hs : Same F w1 w2) (hr : r = (D, k, b, M')) (hk : k ≠ 0) : RlTold w w1 j d pre F r (.returned (.tuple #[.bool b, .int .i64 (k : Int)])) w2 := by
  subst hr
  exact ⟨rfl, h, hs, fun e => (hk e).elim⟩

theorem rec_told_no {o : Option JouM} {e : Ending} (h : RecTold w w1 j d pre D F o e w2) (ho : o = none) : St w w2 d D F ∧ Same F w1 w2 ∧ e = .returned (.bool false) := by
  subst ho
  exact h
theorem rec_told_yes {o : Option JouM} {M' : JouM} {e : Ending} (h : RecTold w w1 j d pre D F o e w2) (ho : o = some M') : Same F w1 w2 ∧ e = .returned (.bool true) ∧ JouF w w2 j d pre D M' F := by
  subst ho
  exact h.2

theorem readLog_none (h : Sat.get (logN (nm pre)) D.files = none) : readLogJ D (nm pre) M = (D, 0, true, M) := by unfold readLogJ; rw [h]
theorem readLog_bad {f : FileM} (h : Sat.get (logN (nm pre)) D.files = some f) (hr : recAll M (scan f.data).1 = none) : readLogJ D (nm pre) M = (D, 3, false, M) := by unfold readLogJ; rw [h]; dsimp only; rw [hr]
theorem readLog_ok {f : FileM} {M' : JouM} (h : Sat.get (logN (nm pre)) D.files = some f) (hr : recAll M (scan f.data).1 = some M') : readLogJ D (nm pre) M = ((tornOff D (logN (nm pre)) (scan f.data).2 f.data.length).1, (tornOff D (logN (nm pre)) (scan f.data).2 f.data.length).2, false, M') := by unfold readLogJ; rw [h]; dsimp only; rw [hr]

set_option maxRecDepth 100000 in
set_option maxHeartbeats 16000000 in
theorem rlog_calls (h : JouF w w1 j d pre D M F) (hM : M.entries = []) :
    Calls Tryz.prog 78 #[.pointer (some ⟨j, 0, none⟩)] w1 (RlTold w w1 j d pre F (readLogJ D (nm pre) M)) := by
  have hps := h.psz
  have hsl : (sLog pre).size = pre.size + 4 := size_log pre
  obtain ⟨c3, c4, -⟩ := h.jc
  have H := Lib.hid h
  have HM := Lib.hid hM
  have Hrd := Lib.hid (jou_read h (sLog pre) (by rw [hsl]; omega))
  rw [nm_log] at Hrd
  have hdl0 := data_len h.okD (logN (nm pre))
  cases hg : Sat.get (logN (nm pre)) D.files with
  | none =>
    have HR := Lib.hid (readLog_none (M := M) hg)
    have hr7 : readE (none : Option FileM) = 7 := rfl
    rw [hg, hr7] at Hrd
    clear h hM hg hr7 hdl0
    go_enter Tryz.func78, Tryz.ntmps78
    go_wp2_with fail
    refine Hrd.out.mono ?_
    rintro e w2 ⟨v2, rfl, -, -, hb2⟩
    have HE := Lib.hid (rl_end (w1 := w1) (k := 0) (H.out.next hb2) (H.out.same hb2) HR.out)
    clear hb2 Hrd
    go_wp2_with fail
    go_ret2
    exact HE.out
  | some f =>
    have hr0 : readE (some f) = 0 := rfl
    have hdl : f.data.length ≤ 1073741824 := by rw [hg] at hdl0; exact hdl0
    have HRb := Lib.hid (readLog_bad (M := M) hg)
    have HRo := Lib.hid (fun M' => readLog_ok (M := M) (M' := M') hg)
    rw [hg, hr0] at Hrd
    clear h hM hg hr0 hdl0
    go_enter Tryz.func78, Tryz.ntmps78
    go_wp2_with fail
    refine Hrd.out.mono ?_
    rintro e w3 ⟨v3, rfl, hv3, hn3, hb3⟩
    have HJ3 := Lib.hid (H.out.next hb3)
    have HS3 := Lib.hid (H.out.same hb3)
    have hv3 : OwnB w3 5 v3 f.data := hv3
    obtain ⟨pb, cb, rfl, hcap⟩ := own_cap0 hv3
    have Hsc := Lib.hid (scan_calls hv3.has hcap hdl)
    clear hb3 hv3 hn3 hcap Hrd c3 c4
    have hq30 := scan_le f.data
    generalize hlen : f.data.length = len at *
    go_wp2_with fail
    refine Hsc.out.mono ?_
    rintro e w4 ⟨v4, vs, rfl, hr4, hn4, hb4⟩
    have HJ4 := Lib.hid (FR_more HJ3.out (⟨hr4, hn4, hb4⟩ : RowsN w3 w4 v4 vs _))
    have HS4 := Lib.hid (HS3.out.trans (HJ3.out.same hb4))
    have HR4 := Lib.hid hr4
    have Hrl := Lib.hid (show ∀ x ∈ (scan f.data).1, x.length ≤ 1073741824 from fun x hx => scanJ_row hdl hlen hx)
    clear hr4 hn4 hb4 Hsc HJ3 HS3
    obtain ⟨pr, cr, rfl⟩ := OwnR.shape HR4.out.row
    generalize hq : (scan f.data).2 = q at *
    generalize hrows : (scan f.data).1 = rows at *
    have hnr : rows.length ≤ 1073741824 := scanJ_count hdl hlen hrows
    generalize hnn : rows.length = n at *
    have Hnn := Lib.hid hnn
    clear hq hrows hnn hlen
    by_cases hn0 : n = 0
    · have hrn : rows = [] := List.eq_nil_of_length_eq_zero (by rw [Hnn.out, hn0])
      have HE := Lib.hid (rl_bad (w1 := w1) (j := j) (pre := pre) (k := 3) (HJ4.out.stF.less fun _ h => .inl h) HS4.out (HRb.out (by rw [hrn]; rfl)) (by decide))
      have e0 : ((n : Int) == 0) = true := by simp; omega
      clear hrn hn0
      go_wp2_with fail
      go_ret2
      exact HE.out
    · have e0 : ((n : Int) == 0) = false := by simp; omega
      have Hn0 := Lib.hid hn0
      clear hn0
      go_wp2_with fail
      go_loopw [38] (fun i wr => ∃ (k : Nat) (Mk : JouM), k ≤ n ∧ i = .int .i64 k ∧ (k = 0 → Mk = M) ∧ JouF w wr j d pre D Mk (FR F (.slice pr n cr) vs) ∧ Same (FR F (.slice pr n cr) vs) w4 wr ∧ recAll M rows = restJ k Mk (rows.drop k)) (fun i _ => n - (intOf i).toNat)
      case atStart => exact ⟨0, M, Nat.zero_le _, rfl, fun _ => rfl, HJ4.out, fun _ _ => rfl, rfl⟩
      case round =>
        clear HJ4 e0
        obtain ⟨k, Mk, hk, rfl, hk1, hJ, hs, hre⟩ := hrel
        by_cases hlt : k < n
        · have hkl : k < rows.length := by rw [Hnn.out]; exact hlt
          rw [List.drop_eq_getElem_cons hkl, restJ_cons] at hre
          have hRW := HR4.out.keepJ (w' := wr) fun x hx => hs x (.inr hx)
          have hkv : k < vs.length := by rw [hRW.len]; exact hkl
          have hxr := hRW.has k _ _ (List.getElem?_eq_getElem hkv) (List.getElem?_eq_getElem hkl)
          have hcell : ∃ g, pr = some ⟨g, 0, none⟩ ∧ wr.cell? ⟨g, k, none⟩ = some vs[k] := by
            rcases hRW.row.2 with ⟨-, h0⟩ | ⟨g, cap, cur, e, -⟩
            · omega
            · refine ⟨g, ?_, ?_⟩
              · simp only [Value.slice.injEq] at e
                exact e.1
              · have hc := hRW.row.cells (g := g) (by rw [e]; rfl) k _ (List.getElem?_eq_getElem hkv)
                rwa [add_zero] at hc
          obtain ⟨g, rfl, hcell⟩ := hcell
          have hx30 := Hrl.out _ (List.getElem_mem hkl)
          obtain ⟨px, cx, hpx, -⟩ := own_cap0 hxr
          rw [hpx] at hxr hcell
          have Hrec := Lib.hid (record_calls hJ (decide (k = 0)) (fun hf => by rw [hk1 (by simpa using hf)]; exact HM.out) hxr.has hx30)
          have Hs := Lib.hid hs
          have hkb : ((k : Int) == 0) = decide (k = 0) := by
            by_cases h0 : k = 0
            · subst h0; rfl
            · rw [decide_eq_false h0]; simp; omega
          cases hc : rec1 (decide (k = 0)) Mk rows[k] with
          | none =>
            rw [hc] at hre
            have Hc := Lib.hid hc
            have HRn := Lib.hid (HRb.out hre)
            clear hJ hs hre hRW hxr hx30 hc hpx hkv hk1
            generalize rows[k] = x at *
            generalize x.length = m at *
            generalize decide (k = 0) = fk at *
            clear hkl
            go_wp2_with fail
            refine Hrec.out.mono ?_
            intro e w6 hT
            obtain ⟨hS6, hF6, rfl⟩ := rec_told_no hT Hc.out
            have HE := Lib.hid (rl_bad (w1 := w1) (j := j) (pre := pre) (k := 3) (hS6.less fun _ h => .inl h) (HS4.out.trans fun x hx => (hF6 x (.inl hx)).trans (Hs.out x (.inl hx))) HRn.out (by decide))
            clear hS6 hF6 hT
            go_wp2_with fail
            go_ret2
            exact HE.out
          | some Mn =>
            rw [hc] at hre
            have Hc := Lib.hid hc
            have Hre := Lib.hid (show recAll M rows = restJ (k + 1) Mn (rows.drop (k + 1)) from hre)
            clear hJ hs hre hRW hxr hx30 hc hpx hkv hk1
            generalize rows[k] = x at *
            generalize x.length = m at *
            generalize decide (k = 0) = fk at *
            clear hkl
            go_wp2_with fail
            refine Hrec.out.mono ?_
            intro e w6 hT
            obtain ⟨hF6, rfl, hJ6⟩ := rec_told_yes hT Hc.out
            have HE := Lib.hid (And.intro hJ6 (Hs.out.trans hF6))
            clear hF6 hJ6 hT
            go_wp2_with fail
            go_roundw
            case rel => exact ⟨k + 1, Mn, by omega, by go_num, fun h => by omega, HE.out.1, HE.out.2, Hre.out⟩
            case measure => simp [intOf]; omega
        · have hkn : k = n := by omega
          subst hkn
          have hre2 : recAll M rows = some Mk := by
            rw [hre, List.drop_of_length_le (by rw [Hnn.out]; exact Nat.le_refl _)]
            cases k with
            | zero => exact absurd rfl Hn0.out
            | succ k => rfl
          have HRm := Lib.hid (HRo.out Mk hre2)
          have HJw := Lib.hid (show JouF w wr j d pre D Mk F from hJ.less fun _ h => .inl h)
          have HSw := Lib.hid (show Same F w1 wr from HS4.out.trans fun x hx => hs x (.inl hx))
          obtain ⟨c3, c4, -⟩ := HJw.out.jc
          clear hJ hs hre hre2 HR4 HS4 Hrl HRb HRo Hn0 Hnn hk1
          generalize hMz : Mk = Mz at *
          clear hMz
          by_cases hqq : q < len
          · have dq : decide ((q : Int) < (len : Int)) = true := by simp; omega
            have dqn : decide (q < len) = true := by simp; omega
            cases htr : D.truncate (logN (nm pre)) (q : Int) with
            | mk D1 e1 =>
              have Htr := Lib.hid (show Calls Tryz.prog 156 #[.pointer (some ⟨d, 0, none⟩), .string (sLog pre), .int .i64 (q : Int)] wr fun e w' => e = .returned (.int .i64 (e1 : Int)) ∧ JouF w w' j d pre D1 Mz F ∧ Same F wr w' ∧ w'.heap[j]? = wr.heap[j]? from by
                have := jou_trunc HJw.out (sLog pre) (by rw [hsl]; omega) (q : Int) (by omega) (by omega)
                rwa [nm_log, htr] at this)
              by_cases he1 : e1 = 0
              · subst he1
                cases hsy : D1.sync [logN (nm pre)] with
                | mk D2 e2 =>
                  have hT : tornOff D (logN (nm pre)) q len = (D2, e2) := by unfold tornOff; rw [if_pos hqq, htr, if_neg (by simp)]; exact hsy
                  have hR := HRm.out
                  rw [hT] at hR
                  have HR := Lib.hid hR
                  have Hsy := Lib.hid (fun W (h : JouF w W j d pre D1 Mz F) => show Calls Tryz.prog 130 #[.pointer (some ⟨d, 0, none⟩), .slice (some ⟨W.heap.size, 0, none⟩) 1 1] (W.alloc (.cells #[.string (sLog pre)] 9)) fun e w' => e = .returned (.int .i64 (e2 : Int)) ∧ JouF w w' j d pre D2 Mz F ∧ Same F W w' ∧ w'.heap[j]? = W.heap[j]? from by
                    have := jou_sync h (sLog pre) (by rw [hsl]; omega)
                    rwa [nm_log, hsy] at this)
                  clear htr hsy hT hR HRm
                  go_wp2_with fail
                  refine Htr.out.mono ?_
                  rintro e w6 ⟨rfl, hj6, hs6, -⟩
                  have HJ6 := Lib.hid hj6
                  have HS6 := Lib.hid (HSw.out.trans hs6)
                  obtain ⟨c3, c4, -⟩ := hj6.jc
                  clear hj6 hs6
                  go_wp2_with fail
                  refine (Hsy.out w6 HJ6.out).mono ?_
                  rintro e w7 ⟨rfl, hj7, hs7, -⟩
                  have HE := Lib.hid (rl_end (w1 := w1) hj7 (HS6.out.trans hs7) HR.out)
                  clear hj7 hs7
                  go_wp2_with fail
                  go_ret2
                  exact HE.out
              · have hT : tornOff D (logN (nm pre)) q len = (D1, e1) := by unfold tornOff; rw [if_pos hqq, htr, if_pos he1]
                have hR := HRm.out
                rw [hT] at hR
                have HR := Lib.hid hR
                have hne : ((e1 : Int) != 0) = true := by simp; omega
                clear htr hT hR HRm he1
                go_wp2_with fail
                refine Htr.out.mono ?_
                rintro e w6 ⟨rfl, hj6, hs6, -⟩
                have HE := Lib.hid (rl_end (w1 := w1) hj6 (HSw.out.trans hs6) HR.out)
                clear hj6 hs6
                go_wp2_with fail
                go_ret2
                exact HE.out
          · have dq : decide ((q : Int) < (len : Int)) = false := by simp; omega
            have dqn : decide (q < len) = false := by simp; omega
            have hT : tornOff D (logN (nm pre)) q len = (D, 0) := by unfold tornOff; rw [if_neg hqq]
            have hR := HRm.out
            rw [hT] at hR
            have HE := Lib.hid (rl_end (w1 := w1) HJw.out HSw.out hR)
            clear hT hR HRm
            go_wp2_with fail
            go_ret2
            exact HE.out
end
end Go.Proofs.YtapfnehdgailmaaGreat

namespace Go.Proofs.YtapfnehdgailmaaGreat
open Go.RowKit Go.Sat Go.Maps

theorem bytes_bad {R : Rd} (h : R.bytes.2.whole = true) : R.bad = false := by
  cases hb : R.bad with
  | false => rfl
  | true =>
    exfalso
    have h1 : R.num.2.bad = true := by
      unfold Rd.num
      split
      · exact hb
      · rfl
    rw [show R.bytes = R.num.2.raw R.num.1 from rfl] at h
    unfold Rd.raw at h
    split at h
    · unfold Rd.whole at h
      dsimp only at h
      rw [h1] at h
      simp at h
    · cases h

theorem grp_bad {R : Rd} (h : (R.grp isGrp).2.bad = false) : isGrp (R.grp isGrp).1 = true := by
  unfold Rd.grp at h ⊢
  split at h
  · cases h
  · rename_i h7
    rw [if_neg h7]
    dsimp only at h ⊢
    split at h
    · assumption
    · cases h

theorem snapIs_ok {b : Bs} {s : Snap} (h : snapIs b = some s) : s.OK ∧ s.data.length ≤ 524288 ∧ 1 ≤ s.number := by
  unfold snapIs at h
  dsimp only at h
  split at h
  · rename_i hc
    cases h
    obtain ⟨hw, h1, h2, h3, h4⟩ := hc
    exact ⟨⟨h2, isTm_iff.2 ⟨Int.natCast_nonneg _, Int.ofNat_le.2 h3⟩, grp_bad (bytes_bad hw), Nat.le_trans h4 (by decide)⟩, h4, h1⟩
  · cases h
theorem snapOf_ok {o : Option FileM} {s : Snap} (h : (snapOf o).2 = some s) : s.OK ∧ s.data.length ≤ 524288 ∧ 1 ≤ s.number := by
  unfold snapOf at h
  split at h
  · cases h
  · split at h
    · cases h
    · split at h
      · cases h
      · rename_i hs
        cases h
        exact snapIs_ok hs

theorem each1_room (g : Bs → FileM → List (Bs × FileM) → List (Bs × FileM)) (D : DiskM) (n : Bs) : (DiskM.each1 g D n).1.room = D.room := by
  unfold DiskM.each1
  split
  · rfl
  · split <;> rfl
theorem rid1_room (D : DiskM) (n : Bs) : (D.rid1 n).1.room = D.room := by
  unfold DiskM.rid1
  split
  · show (DiskM.each _ D [n]).1.room = _
    simp only [DiskM.each]
    split
    · exact each1_room _ _ _
    · exact each1_room _ _ _
  · rfl

theorem data_room {D : DiskM} (h : D.OK) {n : Bs} {f : FileM} (hg : Sat.get n D.files = some f) : f.data.length ≤ D.room := by
  have h1 : DiskM.size f ≤ D.used := le_sum h.srt hg
  have h2 := h.used
  unfold DiskM.size at h1
  omega

theorem scanJ_twelve (k : Nat) : ∀ b : Bs, b.length ≤ k → 12 * (scan b).1.length ≤ b.length := by
  induction k with
  | zero =>
    intro b h
    rw [scan_stop (.inl (List.eq_nil_of_length_eq_zero (by omega)))]
    exact Nat.zero_le _
  | succ k ih =>
    intro b h
    by_cases he : decE b = 0
    · have hd := decL_pos he
      have hi := ih (b.drop (decL b)) (by rw [List.length_drop]; omega)
      rw [scan_go he]
      rw [List.length_drop] at hi
      show 12 * (_ + 1) ≤ _
      omega
    · rw [scan_stop (.inr he)]
      exact Nat.zero_le _

theorem rec1_len {f : Bool} {M M' : JouM} {p : Bs} (h : rec1 f M p = some M') : M'.entries.length ≤ M.entries.length + 1 := by
  unfold rec1 at h
  split at h
  · cases h
  · dsimp only at h
    repeat' split at h
    all_goals first
      | (cases h; done)
      | (cases h; simp; done)
      | (cases h; simp; omega)
theorem recGo_len : ∀ (l : List Bs) {M M' : JouM}, recGo M l = some M' → M'.entries.length ≤ M.entries.length + l.length
  | [], M, M', h => by cases h; exact Nat.le_refl _
  | p :: r, M, M', h => by
    have h : (rec1 false M p).bind (fun M' => recGo M' r) = some M' := h
    cases h1 : rec1 false M p with
    | none => rw [h1] at h; cases h
    | some M1 =>
      rw [h1] at h
      have h2 := recGo_len r (M := M1) (M' := M') h
      have h3 := rec1_len h1
      rw [List.length_cons]
      omega
theorem recAll_len {l : List Bs} {M M' : JouM} (h : recAll M l = some M') : M'.entries.length ≤ M.entries.length + l.length := by
  cases l with
  | nil => cases h
  | cons p r =>
    have h : (rec1 true M p).bind (fun M' => recGo M' r) = some M' := h
    cases h1 : rec1 true M p with
    | none => rw [h1] at h; cases h
    | some M1 =>
      rw [h1] at h
      have h2 := recGo_len r (M := M1) (M' := M') h
      have h3 := rec1_len h1
      rw [List.length_cons]
      omega

theorem readLog_len {D D' : DiskM} {pre : Bs} {M M' : JouM} {e : Nat} {a : Bool} (hok : D.OK) (hr : D.room ≤ 1048576) (hM : M.entries = []) (h : readLogJ D pre M = (D', e, a, M')) : M'.entries.length ≤ 1000000 := by
  unfold readLogJ at h
  split at h
  · have e2 : M = M' := congrArg (fun x => x.2.2.2) h
    rw [← e2, hM]
    exact Nat.zero_le _
  · rename_i f hf
    have h1 := data_room hok hf
    have h2 := scanJ_twelve _ f.data (Nat.le_refl _)
    split at h
    · have e2 : M = M' := congrArg (fun x => x.2.2.2) h
      rw [← e2, hM]
      exact Nat.zero_le _
    · rename_i M1 hM1
      have h3 := recAll_len hM1
      have e2 : M1 = M' := congrArg (fun x => x.2.2.2) h
      rw [← e2]
      rw [hM] at h3
      simp only [List.length_nil] at h3
      omega

/-- The steps of an opening. -/
structure OpensJ (D : DiskM) (pre : Bs) (nodes : List Int) where
  D1 : DiskM
  e1 : Nat
  h1 : D.rid1 (shadowN (logN pre)) = (D1, e1)
  D2 : DiskM
  e2 : Nat
  h2 : D1.rid1 (shadowN (snpN pre)) = (D2, e2)
  s : Nat × Option Snap
  hs : snapOf (Sat.get (snpN pre) D2.files) = s
  l : DiskM × Nat × Bool × JouM
  hl : readLogJ D2 pre (JouM.none0 nodes) = l
theorem opensJ_of (D : DiskM) (pre : Bs) (nodes : List Int) : Nonempty (OpensJ D pre nodes) := ⟨⟨_, _, rfl, _, _, rfl, _, rfl, _, rfl⟩⟩

section
variable {D : DiskM} {pre : Bs} {nodes : List Int} (O : OpensJ D pre nodes)

theorem oj_arg (h : pre.length < 1 ∨ 20 < pre.length ∨ isGrp nodes = false) : jouOpen D pre nodes = (D, 1, JouM.none0 nodes) := by
  unfold jouOpen
  rw [if_pos h]
theorem oj_rid1 (h1 : O.e1 ≠ 0) : D.rid [shadowN (logN pre), shadowN (snpN pre)] = (O.D1, O.e1) := by
  unfold DiskM.rid
  rw [O.h1]
  exact if_neg h1
theorem oj_rid2 (h1 : O.e1 = 0) : D.rid [shadowN (logN pre), shadowN (snpN pre)] = (O.D2, O.e2) := by
  unfold DiskM.rid
  rw [O.h1]
  refine (if_pos h1).trans ?_
  show DiskM.rid O.D1 [shadowN (snpN pre)] = _
  unfold DiskM.rid
  rw [O.h2]
  dsimp only
  by_cases h2 : O.e2 = 0
  · rw [if_pos h2]
    show (O.D2, 0) = _
    rw [h2]
  · exact if_neg h2
theorem oj_e1 (h : ¬ (pre.length < 1 ∨ 20 < pre.length ∨ isGrp nodes = false)) (h1 : O.e1 ≠ 0) : jouOpen D pre nodes = (O.D1, O.e1, JouM.none0 nodes) := by
  unfold jouOpen
  rw [if_neg h, oj_rid1 O h1]
  exact if_pos h1
theorem oj_e2 (h : ¬ (pre.length < 1 ∨ 20 < pre.length ∨ isGrp nodes = false)) (h1 : O.e1 = 0) (h2 : O.e2 ≠ 0) : jouOpen D pre nodes = (O.D2, O.e2, JouM.none0 nodes) := by
  unfold jouOpen
  rw [if_neg h, oj_rid2 O h1]
  exact if_pos h2
theorem oj_e3 (h : ¬ (pre.length < 1 ∨ 20 < pre.length ∨ isGrp nodes = false)) (h1 : O.e1 = 0) (h2 : O.e2 = 0) (h3 : O.s.1 ≠ 0) : jouOpen D pre nodes = (O.D2, O.s.1, JouM.none0 nodes) := by
  unfold jouOpen
  rw [if_neg h, oj_rid2 O h1]
  dsimp only
  rw [if_neg (by simpa using h2), O.hs]
  exact if_pos h3
theorem oj_go (h : ¬ (pre.length < 1 ∨ 20 < pre.length ∨ isGrp nodes = false)) (h1 : O.e1 = 0) (h2 : O.e2 = 0) (h3 : O.s.1 = 0) : jouOpen D pre nodes = (if O.l.2.1 ≠ 0 then (O.l.1, O.l.2.1, JouM.none0 nodes) else
  match joins O.s.2 O.l.2.2.2 O.l.2.2.1 with
  | none => (O.l.1, 3, JouM.none0 nodes)
  | some (anew, M) => if anew then ((writesJ O.l.1 pre M).1, (writesJ O.l.1 pre M).2, M) else (O.l.1, 0, M)) := by
  unfold jouOpen
  rw [if_neg h, oj_rid2 O h1]
  dsimp only
  rw [if_neg (by simpa using h2), O.hs, if_neg (by simpa using h3), O.hl]
  rfl
theorem oj_e4 (h : ¬ (pre.length < 1 ∨ 20 < pre.length ∨ isGrp nodes = false)) (h1 : O.e1 = 0) (h2 : O.e2 = 0) (h3 : O.s.1 = 0) (h4 : O.l.2.1 ≠ 0) : jouOpen D pre nodes = (O.l.1, O.l.2.1, JouM.none0 nodes) := (oj_go O h h1 h2 h3).trans (if_pos h4)
theorem oj_no (h : ¬ (pre.length < 1 ∨ 20 < pre.length ∨ isGrp nodes = false)) (h1 : O.e1 = 0) (h2 : O.e2 = 0) (h3 : O.s.1 = 0) (h4 : O.l.2.1 = 0) (h5 : joins O.s.2 O.l.2.2.2 O.l.2.2.1 = none) : jouOpen D pre nodes = (O.l.1, 3, JouM.none0 nodes) := by
  rw [oj_go O h h1 h2 h3, if_neg (by simpa using h4), h5]
theorem oj_keep (h : ¬ (pre.length < 1 ∨ 20 < pre.length ∨ isGrp nodes = false)) (h1 : O.e1 = 0) (h2 : O.e2 = 0) (h3 : O.s.1 = 0) (h4 : O.l.2.1 = 0) {M : JouM} (h5 : joins O.s.2 O.l.2.2.2 O.l.2.2.1 = some (false, M)) : jouOpen D pre nodes = (O.l.1, 0, M) := by
  rw [oj_go O h h1 h2 h3, if_neg (by simpa using h4), h5]
  rfl
theorem oj_anew (h : ¬ (pre.length < 1 ∨ 20 < pre.length ∨ isGrp nodes = false)) (h1 : O.e1 = 0) (h2 : O.e2 = 0) (h3 : O.s.1 = 0) (h4 : O.l.2.1 = 0) {M : JouM} (h5 : joins O.s.2 O.l.2.2.2 O.l.2.2.1 = some (true, M)) : jouOpen D pre nodes = ((writesJ O.l.1 pre M).1, (writesJ O.l.1 pre M).2, M) := by
  rw [oj_go O h h1 h2 h3, if_neg (by simpa using h4), h5]
  rfl
end

/-- What an opening leaves. -/
def OpenJTold (w w1 : World) (d : Nat) (pre : ByteArray) (F : Nat → Prop) (r : DiskM × Nat × JouM) (e : Ending) (w' : World) : Prop :=
  St w w' d r.1 F ∧ Same F w1 w' ∧ ((r.2.1 = 0 ∧ ∃ j, e = .returned (.tuple #[.pointer (some ⟨j, 0, none⟩), .int .i64 0]) ∧ JouF w w' j d pre r.1 r.2.2 F) ∨ (r.2.1 ≠ 0 ∧ e = .returned (.tuple #[.pointer none, .int .i64 (r.2.1 : Int)])))

/-- A journal that was made a moment ago. -/
theorem jou_fresh {w w1 : World} {d : Nat} {D : DiskM} {F : Nat → Prop} {nodes : List Int} {gv : Value} (h : St w w1 d D (fun k => F k ∨ gv.ownBlock = some k)) (pre : ByteArray) (hp : 1 ≤ pre.size ∧ pre.size ≤ 20) (hg : isGrp nodes = true) (hgv : OwnI w1 gv nodes) (hgn : ∀ k, gv.ownBlock = some k → w.heap.size ≤ k ∧ ¬ F k) :
    JouF w (w1.alloc (.cells #[.int .i64 0, .int .i64 0, gv, .pointer (some ⟨d, 0, none⟩), .string pre, .int .i64 0, .int .i64 (-1), .slice none 0 0, .slice none 0 0, .bool false] 132)) w1.heap.size d pre D (JouM.none0 nodes) F := by
  have hb := below_one w1 (.cells #[.int .i64 0, .int .i64 0, gv, .pointer (some ⟨d, 0, none⟩), .string pre, .int .i64 0, .int .i64 (-1), .slice none 0 0, .slice none 0 0, .bool false] 132)
  refine ⟨fun k => k = w1.heap.size ∨ gv.ownBlock = some k, gv, .slice none 0 0, .slice none 0 0, [], ⟨new_block w1 _, ownI_far hgv hb, OwnR.nil _ _ _, OwnR.nil _ _ _, ⟨rfl, fun i e v he hv => (by simp at hv)⟩, .inl rfl, fun k hk => ⟨.inr hk, fun e => by have := OwnR.lt hgv hk; omega, fun e => (by cases e)⟩, fun k hk => (by cases hk), fun k hk => (by cases hk), fun u hu => (by simp at hu), fun k hk => ?_, hp, ⟨Nat.zero_le _, rfl, hg, rfl, ⟨show (-1 : Int) ≤ -1 by decide, show (-1 : Int) < 7 by decide⟩, Nat.zero_le _, fun e he => (by cases he)⟩⟩, h.move (Chg.of_below hb) (fun _ _ h => h.elim) (fun k hk => ?_), fun k hk => ?_, fun k hk => Nat.lt_of_lt_of_le (h.flt (.inl hk)) hb.size⟩
  · rcases hk with hk | hk
    · rw [hk]; simp
    · exact Nat.lt_of_lt_of_le (OwnR.lt hgv hk) hb.size
  · rcases hk with (hk | hk) | hk
    · exact ⟨.inr (by omega), by rw [hk]; simp⟩
    · exact ⟨.inl (.inr hk), Nat.lt_of_lt_of_le (OwnR.lt hgv hk) hb.size⟩
    · exact ⟨.inl (.inl hk), Nat.lt_of_lt_of_le (h.flt (.inl hk)) hb.size⟩
  · rcases hk with hk | hk
    · exact ⟨by rw [hk]; exact h.below.size, fun hf => by have := h.flt (.inl hf); omega⟩
    · exact hgn k hk
end Go.Proofs.YtapfnehdgailmaaGreat

namespace Go.Proofs.YtapfnehdgailmaaGreat
open Go.RowKit Go.Sat Go.Maps

section
variable {D : DiskM} {n b : Bs}

theorem put1_app (hf : D.fuse ≠ some 0) (hn1 : 1 ≤ n.length) (hn : n.length ≤ 60) (hsh : Sat.get (shadowN n) D.files = none) (hroom : D.used + b.length ≤ D.room) (hc : D.files.length < 4096) :
    D.append (shadowN n) b = (⟨D.room, put (shadowN n) ⟨b, 0⟩ D.files, offF D.fuse 1⟩, 0) := by
  have hm : D.may [shadowN n] = 0 := by
    unfold DiskM.may
    rw [if_neg hf, if_pos]
    simp only [List.all_cons, List.all_nil, Bool.and_true, okN, shadow_len]
    simp; omega
  have hfu : D.full (shadowN n) b = false := by
    unfold DiskM.full
    rw [hsh]
    simp; omega
  unfold DiskM.append
  rw [if_neg (by rw [hm]; simp), if_neg (by rw [hfu]; simp)]
  have hcur : D.cur (shadowN n) = ⟨[], 0⟩ := by unfold DiskM.cur; rw [hsh]; rfl
  rw [hcur]
  rfl

theorem put1_syn {room : Nat} {L : List (Bs × FileM)} {f : Option Nat} (h : Srt L) (hf : f ≠ some 0) (hn1 : 1 ≤ n.length) (hn : n.length ≤ 60) :
    DiskM.sync ⟨room, put (shadowN n) ⟨b, 0⟩ L, f⟩ [shadowN n] = (⟨room, put (shadowN n) ⟨b, b.length⟩ L, offF f 1⟩, 0) := by
  have hm : DiskM.may ⟨room, put (shadowN n) ⟨b, 0⟩ L, f⟩ [shadowN n] = 0 := by
    unfold DiskM.may
    rw [if_neg hf, if_pos]
    simp only [List.all_cons, List.all_nil, Bool.and_true, okN, shadow_len]
    simp; omega
  have h1 : DiskM.each1 DiskM.gSync ⟨room, put (shadowN n) ⟨b, 0⟩ L, f⟩ (shadowN n) = (⟨room, put (shadowN n) ⟨b, b.length⟩ L, offF f 1⟩, 0) := by
    unfold DiskM.each1
    rw [if_neg (by rw [hm]; simp)]
    have hg : Sat.get (shadowN n) (DiskM.files ⟨room, put (shadowN n) ⟨b, 0⟩ L, f⟩) = some ⟨b, 0⟩ := get_put_same h _ _
    rw [hg]
    show ((⟨room, put _ _ (put _ _ L), _⟩ : DiskM), 0) = _
    rw [put_put h]
    rfl
  show (if (DiskM.each1 _ _ _).2 = 0 then _ else _) = _
  rw [h1, if_pos rfl]
  rfl

/-- A file that is made to hold just these bytes: three steps of the fuse. -/
theorem put1_all (h : D.OK) (hf : ∀ j, D.fuse = some j → 3 ≤ j) (hn1 : 1 ≤ n.length) (hn : n.length ≤ 60) (hsh : Sat.get (shadowN n) D.files = none) (hroom : D.used + b.length ≤ D.room) (hc : D.files.length < 4096) :
    D.save1 n b = (⟨D.room, put n ⟨b, b.length⟩ D.files, offF D.fuse 3⟩, 0) := by
  have h0 : D.save0 n = (D, 0) := by unfold DiskM.save0; rw [hsh]; rfl
  have hz : D.fuse ≠ some 0 := fun e => by have := hf 0 e; omega
  rw [save1_ren h0 (put1_app hz hn1 hn hsh hroom hc) (put1_syn h.srt (off_ne fun j e => by have := hf j e; omega) hn1 hn), off_off,
    save_ren h.srt (off_ne fun j e => by have := hf j e; omega) hn1 hn hsh, off_off]
end

/-- The first two records. -/
def firstB (g : List Int) : Bs := frameN (fstB 0 0 g) ++ frameN (trmB 0 (-1))
theorem rows_none0 (g : List Int) : recsB (JouM.none0 g).rows = firstB g := by
  show recsB [fstB 0 0 g, trmB 0 (-1)] = _
  unfold firstB
  rw [← recsB_one (fstB 0 0 g), ← recsB_one (trmB 0 (-1)), ← recsB_app]
  rfl
theorem firstB_len {g : List Int} (h : isGrp g = true) : (firstB g).length ≤ 150 := by
  have h1 := (grp_bound h).1
  unfold firstB
  rw [List.length_append, frame_len, frame_len]
  have h2 : (trmB 0 (-1)).length ≤ 19 := by
    unfold trmB
    have a := numI_len 0
    have b := numI_len ((-1) + 1)
    simp only [List.length_cons, List.length_append]
    omega
  have h3 : (fstB 0 0 g).length ≤ 100 := by
    unfold fstB grpB
    have a : (numB 0).length ≤ 9 := numB_nine (by omega)
    have b := numI_len 0
    have c := numB_nine (n := g.length) (by omega)
    have d := numsI_len g
    simp only [List.length_cons, List.length_append]
    omega
  omega

/-- The disk behind the first opening. -/
def diskJ0 (room : Nat) (pre : Bs) (g : List Int) : DiskM := ⟨room, [(logN pre, ⟨firstB g, (firstB g).length⟩)], none⟩

theorem save_fresh {room : Nat} (hr : 200 ≤ room) (hr2 : room ≤ 1073741824) {pre : Bs} (hp : 1 ≤ pre.length ∧ pre.length ≤ 20) {g : List Int} (hg : isGrp g = true) :
    (DiskM.fresh room).save1 (logN pre) (firstB g) = (diskJ0 room pre g, 0) := by
  have hl : (logN pre).length = pre.length + 4 := by unfold logN logX; simp
  have h1 := firstB_len hg
  have hu : (DiskM.fresh room).used = 0 := rfl
  rw [put1_all (ok_fresh room hr2) (fun j e => by cases e) (by rw [hl]; omega) (by rw [hl]; omega) rfl (by rw [hu]; show 0 + _ ≤ room; omega) (show 0 < 4096 by decide)]
  rfl

/-- What an empty disk opens as. -/
theorem jopen_fresh {room : Nat} (hr : 200 ≤ room) (hr2 : room ≤ 1073741824) {pre : Bs} (hp : 1 ≤ pre.length ∧ pre.length ≤ 20) {g : List Int} (hg : isGrp g = true) :
    jouOpen (DiskM.fresh room) pre g = (diskJ0 room pre g, 0, JouM.none0 g) := by
  obtain ⟨O⟩ := opensJ_of (DiskM.fresh room) pre g
  have a1 := O.h1
  have a2 := O.h2
  have a3 := O.hs
  have a4 := O.hl
  have b1 : (DiskM.fresh room).rid1 (shadowN (logN pre)) = (DiskM.fresh room, 0) := rfl
  rw [b1] at a1
  have d1 : DiskM.fresh room = O.D1 := congrArg Prod.fst a1
  have e1 : 0 = O.e1 := congrArg Prod.snd a1
  rw [← d1] at a2
  have b2 : (DiskM.fresh room).rid1 (shadowN (snpN pre)) = (DiskM.fresh room, 0) := rfl
  rw [b2] at a2
  have d2 : DiskM.fresh room = O.D2 := congrArg Prod.fst a2
  have e2 : 0 = O.e2 := congrArg Prod.snd a2
  rw [← d2] at a3 a4
  have b3 : snapOf (Sat.get (snpN pre) (DiskM.fresh room).files) = (0, none) := snapOf_7 loadE_none
  rw [b3] at a3
  have b4 : readLogJ (DiskM.fresh room) pre (JouM.none0 g) = (DiskM.fresh room, 0, true, JouM.none0 g) := rfl
  rw [b4] at a4
  have hw : writesJ (DiskM.fresh room) pre (JouM.none0 g) = (diskJ0 room pre g, 0) := by
    unfold writesJ
    rw [rows_none0, save_fresh hr hr2 hp hg]
  have hok : ¬ (pre.length < 1 ∨ 20 < pre.length ∨ isGrp g = false) := by
    rintro (h | h | h)
    · omega
    · omega
    · rw [hg] at h
      cases h
  rw [oj_anew O hok e1.symm e2.symm (by rw [← a3]) (by rw [← a4]) (M := JouM.none0 g) (by rw [← a3, ← a4]; rfl), ← a4, hw]
end Go.Proofs.YtapfnehdgailmaaGreat
