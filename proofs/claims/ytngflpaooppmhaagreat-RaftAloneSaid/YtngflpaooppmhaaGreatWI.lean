/- journal: readSnap. (Printed by mkj24.py.) journal: readLog. (Printed by mkj25.py.) journal: Open (plain laws). What an empty disk opens as (plain laws). The disk of a journal "a": a log, and a snapshot or none (plain laws). What the disk of a journal "a" opens as (plain laws). A journal of a law's own on its disk: what each thing done leaves (plain laws). A journal of a law's own on its disk: start, SetTerm, Append, Cut (plain laws). A journal of a law's own on its disk: Compact, Install (plain laws). A node of a group of its own alone: where it lies in memory; the small functions. The small functions of a node. (Printed by mkra1.py.) The other nodes of a group of one: none. -/
import Derived.Deep.CutRange
import Derived.Lib.SliceRun
import Derived.Test.YtngflpaooppmhaaGreatShelf
import Derived.Test.YtngflpaooppmhaaGreatWC
import Derived.Test.YtngflpaooppmhaaGreatWD
import Derived.Test.YtngflpaooppmhaaGreatWE
import Derived.Test.YtngflpaooppmhaaGreatWG
import Derived.Test.YtngflpaooppmhaaGreatWH
namespace Go.Proofs.YtngflpaooppmhaaGreat
open Go.RowKit Go.Sat Go.Maps

theorem results_row4 {P : Program} {fn : Func} {p u v z : Tmp} {ty : TypeId} (h : fn.results = #[.cell p ty, .tmp u, .tmp v, .tmp z]) (tmps : Array Value) (w : World) (g : Nat) (t : TypeId) (cs : Array Value) (fr : Nat × Nat) (d : TypeDesc)
    (hp : tmps.getD p undef = .pointer (some ⟨g, 0, none⟩)) (hg : w.heap[g]? = some (.cells cs t fr))
    (hu : P.underlying ty = some d) (hd : (match d with | .struct _ | .array _ _ => true | _ => false) = true) (hi : (P.info? ty).map (·.size) = some cs.size) :
    (results fn tmps).run P w = .ok (.tuple #[.agg cs, tmps.getD u undef, tmps.getD v undef, tmps.getD z undef]) w := by
  have h1 : (results fn tmps).run P w = ((asAddr (tmps.getD p undef)).run P w).andThen fun a w₁ => ((loadVar ty a).run P w₁).andThen fun x w₂ => .ok (.tuple #[x, tmps.getD u undef, tmps.getD v undef, tmps.getD z undef]) w₂ := by
    simp only [results, h]
    simp [Sem.run_bind, Result.andThen]
  rw [h1, hp]
  simp [asAddr, run_loadVar_row w g t ty cs fr d hg hu hd hi]

/-- The row of a base, laid anew as it is. -/
def baseAgain (W : World) (b : Nat) (x y z : Value) : World := ((W.setCell ⟨b, 0, none⟩ x).setCell ⟨b, 1, none⟩ y).setCell ⟨b, 2, none⟩ z
theorem base_keep {W : World} {b : Nat} {x y z : Value} (h : W.heap[b]? = some (.cells #[x, y, z] 105 (0, 0))) : (baseAgain W b x y z).heap[b]? = some (.cells #[x, y, z] 105 (0, 0)) ∧ Chg (fun _ => False) W (baseAgain W b x y z) := by
  have h1 := set_block h 0 x
  have h2 := set_block h1 1 y
  have h3 := set_block h2 2 z
  have h3 : (baseAgain W b x y z).heap[b]? = some (.cells #[x, y, z] 105 (0, 0)) := by simpa [baseAgain] using h3
  have hC : Chg (fun k => k = b) W (baseAgain W b x y z) := ((Chg.setCell W ⟨b, 0, none⟩ x).trans (Chg.setCell _ ⟨b, 1, none⟩ y) fun _ _ e => e).trans (Chg.setCell _ ⟨b, 2, none⟩ z) fun _ _ e => e
  refine ⟨h3, hC.os, hC.tape, hC.output, hC.size, fun k hk _ => ?_⟩
  by_cases e : k = b
  · rw [e, h3, h]
  · exact hC.block k hk e

/-- What reading the snapshot leaves. -/
def RsnTold (w1 : World) (r : Nat × Option Snap) (e : Ending) (w' : World) : Prop :=
  Below w1.heap.size w1 w' ∧ ∃ (n t : Int) (gp : Option Addr) (gn gc : Nat) (dv : Value), e = .returned (.tuple #[.agg #[.int .i64 n, .int .i64 t, .slice gp gn gc], dv, .bool r.2.isSome, .int .i64 (r.1 : Int)]) ∧
    ∀ s, r.2 = some s → n = s.number ∧ t = s.term ∧ OwnI w' (.slice gp gn gc) s.group ∧ OwnB w' 5 dv s.data ∧ ∀ k, ((Value.slice gp gn gc).ownBlock = some k ∨ dv.ownBlock = some k) → w1.heap.size ≤ k

theorem loadE_cases (o : Option FileM) : loadE o = 0 ∨ loadE o = 3 ∨ loadE o = 7 := by
  unfold loadE
  split
  · split
    · exact .inl rfl
    · exact .inr (.inl rfl)
  · exact .inr (.inr rfl)
theorem loadB_le {D : DiskM} (h : D.OK) (n : Bs) : (loadB (Sat.get n D.files)).length ≤ 1073741824 := by
  have hln := data_len h n
  cases ho : Sat.get n D.files with
  | none => rw [loadB_none]; exact Nat.zero_le _
  | some f =>
    rw [ho] at hln
    rw [loadB_some]
    unfold oneB decB
    split
    · split
      · rw [List.length_take, List.length_drop]
        omega
      · exact Nat.zero_le _
    · exact Nat.zero_le _
theorem snapOf_7 {o : Option FileM} (h : loadE o = 7) : snapOf o = (0, none) := by unfold snapOf; rw [if_pos h]
theorem snapOf_3 {o : Option FileM} (h : loadE o = 3) : snapOf o = (3, none) := by unfold snapOf; rw [if_neg (by omega), if_pos (by omega), h]
theorem snapOf_0 {o : Option FileM} (h : loadE o = 0) : snapOf o = match snapIs (loadB o) with | none => (3, none) | some s => (0, some s) := by unfold snapOf; rw [if_neg (by omega), if_neg (by omega)]; rfl

theorem snap_no {w1 w2 : World} {r : Nat × Option Snap} {k : Nat} (hr : r = (k, none)) (hb : Below w1.heap.size w1 w2) (n t : Int) (gp : Option Addr) (gn gc : Nat) (dv : Value) : RsnTold w1 r (.returned (.tuple #[.agg #[.int .i64 n, .int .i64 t, .slice gp gn gc], dv, .bool false, .int .i64 (k : Int)])) w2 := by
  subst hr
  exact ⟨hb, n, t, gp, gn, gc, dv, rfl, fun s h => by cases h⟩

section
variable {w w1 w2 : World} {j d : Nat} {pre : ByteArray} {D : DiskM} {M : JouM} {F : Nat → Prop}

set_option maxRecDepth 100000 in
set_option maxHeartbeats 8000000 in
theorem rsnap_calls (h : JouF w w1 j d pre D M F) :
    Calls Tryz.prog 56 #[.pointer (some ⟨j, 0, none⟩)] w1 (RsnTold w1 (snapOf (Sat.get (snpN (nm pre)) D.files))) := by
  have hps := h.psz
  have hssn : (sSnp pre).size = pre.size + 5 := size_snp pre
  obtain ⟨c3, c4, -⟩ := h.jc
  have hnn := loadB_le h.okD (snpN (nm pre))
  have H := Lib.hid h
  have HB1 := Lib.hid (below_one w1 (.cells #[.int .i64 0, .int .i64 0, .slice none 0 0] 105))
  have HX1 := Lib.hid (new_block w1 (.cells #[.int .i64 0, .int .i64 0, .slice none 0 0] 105))
  have Ho := Lib.hid (show Sat.get (snpN (nm pre)) D.files = Sat.get (snpN (nm pre)) D.files from rfl)
  generalize hog : Sat.get (snpN (nm pre)) D.files = o at *
  clear Ho
  have Ho := Lib.hid hog
  clear h hog
  rcases loadE_cases o with h0 | h3 | h7
  · have HI := Lib.hid (snapOf_0 h0)
    have He := Lib.hid h0
    clear h0
    generalize snapOf o = SO at *
    generalize hbl : loadB o = bl at *
    have Hbl := Lib.hid hbl
    clear hbl
    go_enter Tryz.func56, Tryz.ntmps56
    go_wp2_with fail
    refine ord_start (fun w' : World => w'.cell? ⟨j, 3, none⟩ = some (.pointer (some ⟨d, 0, none⟩)) ∧ w'.cell? ⟨j, 4, none⟩ = some (.string pre)) (n := 15) (by kernel_rfl) rfl (⟨al_cell c3 _, al_cell c4 _⟩) (fun hHeld => ?_)
    have HBd := Lib.hid (HB1.out.trans ((below_drew (w1.alloc (.cells #[.int .i64 0, .int .i64 0, .slice none 0 0] 105))).mono HB1.out.size))
    have HXd := Lib.hid (show (w1.alloc (.cells #[.int .i64 0, .int .i64 0, .slice none 0 0] 105)).drew.heap[w1.heap.size]? = _ from HX1.out)
    generalize (w1.alloc (.cells #[.int .i64 0, .int .i64 0, .slice none 0 0] 105)).drew = W1 at *
    refine Pl [0,1,2,3,4,5,6,7,8] ?_
    iterate 9 (refine Pc rfl ?_;simp only [Act.put, uA, uB, uC])
    refine Pn ?_
    refine ord_one 9 rfl (by kernel_rfl) (by rfl) (fun K hK => ?_)
    have Hld := Lib.hid (load_calls (H.out.next HBd.out).st (sSnp pre) (by rw [hssn]; omega))
    rw [nm_snp] at Hld
    go_wp2_with fail
    refine Hld.out.mono ?_
    rintro e w2 ⟨v, rfl, hv, hvn, hb, -⟩
    rw [Ho.out] at hv ⊢
    have Hh3 := Lib.hid (And.intro (cell_far hHeld.1 hb) (cell_far hHeld.2 hb))
    have HB2 := Lib.hid (HBd.out.trans (hb.mono HBd.out.size))
    have HX2 := Lib.hid ((hb.block _ (lt_of_block HXd.out)).trans HXd.out)
    have HV2 := Lib.hid hv
    obtain ⟨pv, cv, rfl, -⟩ := own_cap0 hv
    clear hv hvn hb Hld
    rw [He.out]
    rw [Hbl.out] at HV2 ⊢
    go_wp2_with fail
    refine hK.out _ _ (Hh3.out) (fun hHeld => ?_)
    clear hK
    try simp only [Act.put, List.setIfInBounds_toArray, List.set_cons_zero, List.set_cons_succ]
    refine Pl [10,11,12,13,14] ?_
    iterate 5 (refine Pc rfl ?_;simp only [Act.put, uA, uB, uC])
    refine Pn ?_
    refine wpAnyH_done (by kernel_rfl) ?_ _
    clear Hh3 HX1 HB1 HBd HXd
    have Hrd0 := Lib.hid (newrdX_calls (show HasB w2 (.slice pv bl.length cv) bl from HV2.out.has) (by omega))
    go_wp2_with fail
    refine Hrd0.out.mono ?_
    rintro e w3 ⟨r, rfl, hr, hrn, hrl, hb3⟩
    have HB3 := Lib.hid (show Below w1.heap.size w1 w3 from HB2.out.trans (hb3.mono HB2.out.size))
    have hx3 := (hb3.block _ (lt_of_block HX2.out)).trans HX2.out
    have hbr : w1.heap.size < r := Nat.lt_of_lt_of_le (lt_of_block HX2.out) hrn
    have HP := Lib.hid (show Places (w3.alloc (.cells #[.pointer (some ⟨w1.heap.size, 0, none⟩), .pointer (some ⟨w1.heap.size, 1, none⟩)] 131)) r [⟨w1.heap.size, 0, none⟩, ⟨w1.heap.size, 1, none⟩] from by
      have hk := old_block (.cells #[.pointer (some ⟨w1.heap.size, 0, none⟩), .pointer (some ⟨w1.heap.size, 1, none⟩)] 131) hx3
      refine ⟨fun a ha => ?_, fun a ha => ?_, fun a ha => ?_, fun a ha => ?_⟩
      all_goals
        simp only [List.mem_cons, List.not_mem_nil, or_false] at ha
        rcases ha with rfl | rfl
      · exact ⟨_, cell_of hk rfl⟩
      · exact ⟨_, cell_of hk rfl⟩
      · exact frozen_of hk 0
      · exact frozen_of hk 1
      · intro e; have e2 : w1.heap.size = r := e; omega
      · intro e; have e2 : w1.heap.size = r := e; omega
      · rfl
      · rfl)
    have hxl := lt_of_block hx3
    have HN := Lib.hid (rnums_calls (hr.chg (Chg.alloc w3 (.cells #[.pointer (some ⟨w1.heap.size, 0, none⟩), .pointer (some ⟨w1.heap.size, 1, none⟩)] 131)) (fun e => e) fun _ _ e => e) (g := w3.heap.size) (c := 2) HP.out (by simp) (fun i a hi => by
      refine cell_of (new_block w3 _) ?_
      match i, hi with
      | 0, hi => cases hi; rfl
      | 1, hi => cases hi; rfl) (fun e => by omega) (fun a ha e => by
        simp only [List.mem_cons, List.not_mem_nil, or_false] at ha
        rcases ha with rfl | rfl
        · have e3 : w1.heap.size = w3.heap.size := e
          omega
        · have e3 : w1.heap.size = w3.heap.size := e
          omega) (fun k hk => ⟨by omega, fun a ha e => by
        have := lt_of_block HX2.out
        simp only [List.mem_cons, List.not_mem_nil, or_false] at ha
        rcases ha with rfl | rfl
        · have e3 : k = w1.heap.size := e
          omega
        · have e3 : k = w1.heap.size := e
          omega⟩))
    have HS := Lib.hid (And.intro hbr (And.intro hrl (And.intro hrn (lt_of_block HX2.out))))
    have HX3 := Lib.hid (old_block (.cells #[.pointer (some ⟨w1.heap.size, 0, none⟩), .pointer (some ⟨w1.heap.size, 1, none⟩)] 131) hx3)
    have HBW := Lib.hid (HB3.out.trans ((below_one w3 (.cells #[.pointer (some ⟨w1.heap.size, 0, none⟩), .pointer (some ⟨w1.heap.size, 1, none⟩)] 131)).mono HB3.out.size))
    clear hr hrn hrl hb3 Hrd0 hx3 hbr hxl HP
    have hm1 := Rd.num_le ⟨bl, false⟩
    have hm2 := Rd.num_le (Rd.num ⟨bl, false⟩).2
    have HI2 := Lib.hid (show Rd.ints 2 ⟨bl, false⟩ = ([((Rd.num ⟨bl, false⟩).1 : Int), ((Rd.num ⟨bl, false⟩).2.num.1 : Int)], (Rd.num ⟨bl, false⟩).2.num.2) from rfl)
    have HSN := Lib.hid (show snapIs bl = (if ((Rd.num ⟨bl, false⟩).2.num.2.grp isGrp).2.bytes.2.whole ∧ 1 ≤ (Rd.num ⟨bl, false⟩).1 ∧ (Rd.num ⟨bl, false⟩).1 ≤ 1099511627776 ∧ (Rd.num ⟨bl, false⟩).2.num.1 ≤ 1099511627776 ∧ ((Rd.num ⟨bl, false⟩).2.num.2.grp isGrp).2.bytes.1.length ≤ 524288 then some ⟨(Rd.num ⟨bl, false⟩).1, ((Rd.num ⟨bl, false⟩).2.num.1 : Int), ((Rd.num ⟨bl, false⟩).2.num.2.grp isGrp).1, ((Rd.num ⟨bl, false⟩).2.num.2.grp isGrp).2.bytes.1⟩ else none) from rfl)
    generalize (Rd.num ⟨bl, false⟩).1 = m1 at *
    generalize (Rd.num ⟨bl, false⟩).2.num.1 = m2 at *
    generalize (Rd.num ⟨bl, false⟩).2.num.2 = R3 at *
    go_wp2_with fail
    refine HN.out.mono ?_
    rintro e w4 ⟨rfl, hr4, hc4, hp4⟩
    rw [show ([⟨w1.heap.size, 0, none⟩, ⟨w1.heap.size, 1, none⟩] : List Addr).length = 2 from rfl, HI2.out] at hr4 hp4
    have hq := hp4 w1.heap.size (lt_of_block HX3.out) (by have := HS.out.1; omega)
    have hs1 := set_block HX3.out 0 (.int .i64 (m1 : Int))
    have hs2 := set_block hs1 1 (.int .i64 (m2 : Int))
    rw [show ((#[Value.int IntKind.i64 0, .int .i64 0, .slice none 0 0] : Array Value).setIfInBounds 0 (.int .i64 (m1 : Int))).setIfInBounds 1 (.int .i64 (m2 : Int)) = #[.int .i64 (m1 : Int), .int .i64 (m2 : Int), .slice none 0 0] from rfl] at hs2
    have HX4 := Lib.hid (show w4.heap[w1.heap.size]? = some (.cells #[.int .i64 (m1 : Int), .int .i64 (m2 : Int), .slice none 0 0] 105 (0, 0)) from hq.trans hs2)
    have HB4 := Lib.hid (show Below w1.heap.size w1 w4 from by
      refine (((Chg.of_below HBW.out).mono fun _ _ e => e.elim : Chg (fun k => w1.heap.size ≤ k) w1 _).trans hc4 fun k _ e => ?_).below (Nat.le_refl _) fun k hk e => by omega
      rcases e with rfl | ⟨a, ha, rfl⟩
      · have := HS.out.1
        omega
      · simp only [List.mem_cons, List.not_mem_nil, or_false] at ha
        rcases ha with rfl | rfl <;> exact Nat.le_refl _)
    have HR4 := Lib.hid hr4.lt
    have HG := Lib.hid (readGrp_grp hr4 (fun k hk => ⟨by have := hr4.lt; omega, by omega⟩))
    clear hr4 hc4 hp4 hq hs1 hs2 HN HX3 HBW HI2 HX2
    go_wp2_with fail
    refine HG.out.mono ?_
    rintro e w5 ⟨v5, rfl, hv5, hn5, hr5, hc5⟩
    have HB5 := Lib.hid (show Below w1.heap.size w1 w5 from HB4.out.trans (hc5.below HB4.out.size fun k hk e => by have := HS.out.1; omega))
    have hx5 := (hc5.block _ (lt_of_block HX4.out) (by have := HS.out.1; omega)).trans HX4.out
    obtain ⟨p5, c5, e5, -⟩ := own_capI hv5
    subst e5
    have HV5 := Lib.hid (show ∀ k, (Value.slice p5 (R3.grp isGrp).1.length c5).ownBlock = some k → w1.heap.size ≤ k ∧ k ≠ w1.heap.size ∧ k ≠ r from fun k hk => by
      have h1 := hn5 k hk
      have h2 := lt_of_block HX4.out
      have h3 := HB4.out.size
      have h6 := HR4.out
      exact ⟨by omega, by omega, by omega⟩)
    have q2 := cell_of hx5 (i := 2) rfl
    have fr := frozen_of hx5 2
    have h6 := set_block hx5 2 (.slice p5 (R3.grp isGrp).1.length c5)
    rw [show (#[Value.int IntKind.i64 (m1 : Int), .int .i64 (m2 : Int), .slice none 0 0] : Array Value).setIfInBounds 2 (.slice p5 (R3.grp isGrp).1.length c5) = #[.int .i64 (m1 : Int), .int .i64 (m2 : Int), .slice p5 (R3.grp isGrp).1.length c5] from rfl] at h6
    have HX6 := Lib.hid h6
    have HO6 := Lib.hid (show OwnI (w5.setCell ⟨w1.heap.size, 2, none⟩ (.slice p5 (R3.grp isGrp).1.length c5)) (.slice p5 (R3.grp isGrp).1.length c5) (R3.grp isGrp).1 from OwnR.keep hv5 fun k hk => set_other _ fun e => (HV5.out k hk).2.1 e)
    have HBy := Lib.hid (rbytesX_calls (hr5.chg (Chg.setCell w5 ⟨w1.heap.size, 2, none⟩ (.slice p5 (R3.grp isGrp).1.length c5)) (fun e => by have := HS.out.1; have e2 : r = w1.heap.size := e; omega) (fun k hk e => by have h7 := HS.out.2.2.2; have e2 : k = w1.heap.size := e; omega)))
    have HB6 := Lib.hid (show Below w1.heap.size w1 (w5.setCell ⟨w1.heap.size, 2, none⟩ (.slice p5 (R3.grp isGrp).1.length c5)) from (((Chg.of_below HB5.out).mono fun _ _ e => e.elim : Chg (fun k => k = w1.heap.size) w1 w5).trans (Chg.setCell w5 ⟨w1.heap.size, 2, none⟩ _) fun k _ e => e).below (Nat.le_refl _) fun k hk e => by omega)
    clear hv5 hn5 hr5 hc5 hx5 h6 HG HX4 HB4 HB5
    generalize (R3.grp isGrp).2 = R4 at *
    generalize (R3.grp isGrp).1 = gg at *
    go_wp2_with fail
    clear q2 fr
    generalize w5.setCell ⟨w1.heap.size, 2, none⟩ (.slice p5 gg.length c5) = w6 at *
    refine HBy.out.mono ?_
    rintro e w7 ⟨v7, rfl, hv7, hn7, hr7, hc7⟩
    have HB7 := Lib.hid (show Below w1.heap.size w1 w7 from HB6.out.trans (hc7.below HB6.out.size fun k hk e => by have := HS.out.1; omega))
    have HX7 := Lib.hid ((hc7.block _ (lt_of_block HX6.out) (by have := HS.out.1; omega)).trans HX6.out)
    have HO7 := Lib.hid (show OwnI w7 (.slice p5 gg.length c5) gg from OwnR.keep HO6.out fun k hk => hc7.block k (OwnR.lt HO6.out hk) fun e => (HV5.out k hk).2.2 e)
    have HW := Lib.hid (whole_calls hr7.at.hd)
    have HV7 := Lib.hid (show ∀ k, v7.ownBlock = some k → w1.heap.size ≤ k ∧ k ≠ w1.heap.size from fun k hk => by
      have h1 := hn7 k hk
      have h2 := lt_of_block HX6.out
      exact ⟨by omega, by omega⟩)
    have HD7 := Lib.hid hv7
    generalize R4.bytes.2 = R5 at *
    generalize R4.bytes.1 = bb at *
    obtain ⟨p7, c7, e7, -⟩ := own_cap0 hv7
    subst e7
    clear hv7 hn7 hr7 hc7 HBy HX6 HO6 HB6
    have HK := Lib.hid (base_keep HX7.out)
    have HZ := Lib.hid HK.out.1
    have HBz := Lib.hid (show Below w1.heap.size w1 (baseAgain w7 w1.heap.size (.int .i64 (m1 : Int)) (.int .i64 (m2 : Int)) (.slice p5 gg.length c5)) from HB7.out.trans (HK.out.2.below HB7.out.size fun _ _ e => e))
    have Hno := Lib.hid (fun (hn : snapIs bl = none) => snap_no (r := SO) (k := 3) (by rw [HI.out, hn]) HBz.out (m1 : Int) (m2 : Int) p5 gg.length c5 (.slice none 0 0))
    have Hyes := Lib.hid (fun (hn : snapIs bl = some ⟨m1, (m2 : Int), gg, bb⟩) => show RsnTold w1 SO (.returned (.tuple #[.agg #[.int .i64 (m1 : Int), .int .i64 (m2 : Int), .slice p5 gg.length c5], .slice p7 bb.length c7, .bool true, .int .i64 0])) (baseAgain w7 w1.heap.size (.int .i64 (m1 : Int)) (.int .i64 (m2 : Int)) (.slice p5 gg.length c5)) from by
      rw [HI.out, hn]
      refine ⟨HBz.out, _, _, _, _, _, _, rfl, fun s hs => ?_⟩
      cases hs
      exact ⟨rfl, rfl, OwnR.keep HO7.out fun k hk => HK.out.2.block k (OwnR.lt HO7.out hk) fun e => e, OwnR.keep HD7.out fun k hk => HK.out.2.block k (OwnR.lt HD7.out hk) fun e => e, fun k hk => hk.elim (fun h => (HV5.out k h).1) fun h => (HV7.out k h).1⟩)
    have Ht := Lib.hid (istm_calls w7 (m2 : Int))
    have q0 := cell_of HX7.out (i := 0) rfl
    have q1 := cell_of HX7.out (i := 1) rfl
    have q2 := cell_of HX7.out (i := 2) rfl
    have fr0 := frozen_of HX7.out 0
    have fr1 := frozen_of HX7.out 1
    have fr2 := frozen_of HX7.out 2
    clear HK HI HO7 HD7 HV5 HV7 HB7 HX7 HBz hnn
    unfold baseAgain at *
    have Hfin := Lib.hid (fun tm hp => results_row4 (P := Tryz.prog) (fn := Tryz.f56) (p := 2) (u := 3) (v := 4) (z := 5) (ty := 105) rfl tm (((w7.setCell ⟨w1.heap.size, 0, none⟩ (.int .i64 (m1 : Int))).setCell ⟨w1.heap.size, 1, none⟩ (.int .i64 (m2 : Int))).setCell ⟨w1.heap.size, 2, none⟩ (.slice p5 gg.length c5)) w1.heap.size _ _ (0, 0) _ hp HZ.out Tryz.underlying105 rfl (by kernel_rfl))
    cases hw : R5.whole with
    | false =>
      rw [hw] at HW
      have HE := Lib.hid (Hno.out (by rw [HSN.out, hw, if_neg (by simp)]))
      clear hw Hno Hyes HSN
      go_wp2_with fail
      refine HW.out.mono ?_
      rintro e w8 ⟨rfl, rfl⟩
      go_wp2_with fail
      (try simp only [Exit.inBlock, Exit.then])
      refine bodyPost_ret (Hfin.out _ rfl) rfl ?_
      exact HE.out
    | true =>
      rw [hw] at HW
      by_cases h1 : 1 ≤ m1
      · have d1 : decide ((m1 : Int) < 1) = false := by simp; omega
        have d1n : decide (m1 < 1) = false := by simp; omega
        by_cases h2 : m1 ≤ 1099511627776
        · have d2 : decide ((1099511627776 : Int) < (m1 : Int)) = false := by simp; omega
          have d2n : decide (1099511627776 < m1) = false := by simp; omega
          by_cases h3 : m2 ≤ 1099511627776
          · rw [show isTm (m2 : Int) = true from isTm_iff.2 ⟨by omega, by omega⟩] at Ht
            by_cases h4 : bb.length ≤ 524288
            · have d4 : decide ((524288 : Int) < (bb.length : Int)) = false := by simp; omega
              have d4n : decide (524288 < bb.length) = false := by simp; omega
              have HE := Lib.hid (Hyes.out (by rw [HSN.out, hw, if_pos ⟨rfl, h1, h2, h3, h4⟩]))
              clear hw Hno Hyes HSN h1 h2 h3 h4
              go_wp2_with fail
              refine HW.out.mono ?_
              rintro e w8 ⟨rfl, rfl⟩
              go_wp2_with fail
              refine Ht.out.mono ?_
              rintro e w8 ⟨rfl, rfl⟩
              go_wp2_with fail
              (try simp only [Exit.inBlock, Exit.then])
              refine bodyPost_ret (Hfin.out _ rfl) rfl ?_
              exact HE.out
            · have d4 : decide ((524288 : Int) < (bb.length : Int)) = true := by simp; omega
              have d4n : decide (524288 < bb.length) = true := by simp; omega
              have HE := Lib.hid (Hno.out (by rw [HSN.out, if_neg (fun e => h4 e.2.2.2.2)]))
              clear hw Hno Hyes HSN h1 h2 h3 h4
              go_wp2_with fail
              refine HW.out.mono ?_
              rintro e w8 ⟨rfl, rfl⟩
              go_wp2_with fail
              refine Ht.out.mono ?_
              rintro e w8 ⟨rfl, rfl⟩
              go_wp2_with fail
              (try simp only [Exit.inBlock, Exit.then])
              refine bodyPost_ret (Hfin.out _ rfl) rfl ?_
              exact HE.out
          · rw [show isTm (m2 : Int) = false from by rw [Bool.eq_false_iff]; intro e; have := isTm_iff.1 e; omega] at Ht
            have HE := Lib.hid (Hno.out (by rw [HSN.out, if_neg (fun e => h3 e.2.2.2.1)]))
            clear hw Hno Hyes HSN h1 h2 h3
            go_wp2_with fail
            refine HW.out.mono ?_
            rintro e w8 ⟨rfl, rfl⟩
            go_wp2_with fail
            refine Ht.out.mono ?_
            rintro e w8 ⟨rfl, rfl⟩
            go_wp2_with fail
            (try simp only [Exit.inBlock, Exit.then])
            refine bodyPost_ret (Hfin.out _ rfl) rfl ?_
            exact HE.out
        · have d2 : decide ((1099511627776 : Int) < (m1 : Int)) = true := by simp; omega
          have d2n : decide (1099511627776 < m1) = true := by simp; omega
          have HE := Lib.hid (Hno.out (by rw [HSN.out, if_neg (fun e => h2 e.2.2.1)]))
          clear hw Hno Hyes HSN h1 h2
          go_wp2_with fail
          refine HW.out.mono ?_
          rintro e w8 ⟨rfl, rfl⟩
          go_wp2_with fail
          (try simp only [Exit.inBlock, Exit.then])
          refine bodyPost_ret (Hfin.out _ rfl) rfl ?_
          exact HE.out
      · have d1 : decide ((m1 : Int) < 1) = true := by simp; omega
        have d1n : decide (m1 < 1) = true := by simp; omega
        have HE := Lib.hid (Hno.out (by rw [HSN.out, if_neg (fun e => h1 e.2.1)]))
        clear hw Hno Hyes HSN h1
        go_wp2_with fail
        refine HW.out.mono ?_
        rintro e w8 ⟨rfl, rfl⟩
        go_wp2_with fail
        (try simp only [Exit.inBlock, Exit.then])
        refine bodyPost_ret (Hfin.out _ rfl) rfl ?_
        exact HE.out
  · have HI := Lib.hid (snapOf_3 h3)
    have He := Lib.hid h3
    clear h3
    generalize snapOf o = SO at *
    go_enter Tryz.func56, Tryz.ntmps56
    go_wp2_with fail
    refine ord_start (fun w' : World => w'.cell? ⟨j, 3, none⟩ = some (.pointer (some ⟨d, 0, none⟩)) ∧ w'.cell? ⟨j, 4, none⟩ = some (.string pre)) (n := 15) (by kernel_rfl) rfl (⟨al_cell c3 _, al_cell c4 _⟩) (fun hHeld => ?_)
    have HBd := Lib.hid (HB1.out.trans ((below_drew (w1.alloc (.cells #[.int .i64 0, .int .i64 0, .slice none 0 0] 105))).mono HB1.out.size))
    have HXd := Lib.hid (show (w1.alloc (.cells #[.int .i64 0, .int .i64 0, .slice none 0 0] 105)).drew.heap[w1.heap.size]? = _ from HX1.out)
    generalize (w1.alloc (.cells #[.int .i64 0, .int .i64 0, .slice none 0 0] 105)).drew = W1 at *
    refine Pl [0,1,2,3,4,5,6,7,8] ?_
    iterate 9 (refine Pc rfl ?_;simp only [Act.put, uA, uB, uC])
    refine Pn ?_
    refine ord_one 9 rfl (by kernel_rfl) (by rfl) (fun K hK => ?_)
    have Hld := Lib.hid (load_calls (H.out.next HBd.out).st (sSnp pre) (by rw [hssn]; omega))
    rw [nm_snp] at Hld
    go_wp2_with fail
    refine Hld.out.mono ?_
    rintro e w2 ⟨v, rfl, hv, hvn, hb, -⟩
    rw [Ho.out] at hv ⊢
    have Hh3 := Lib.hid (And.intro (cell_far hHeld.1 hb) (cell_far hHeld.2 hb))
    have HB2 := Lib.hid (HBd.out.trans (hb.mono HBd.out.size))
    have HX2 := Lib.hid ((hb.block _ (lt_of_block HXd.out)).trans HXd.out)
    have HV2 := Lib.hid hv
    obtain ⟨pv, cv, rfl, -⟩ := own_cap0 hv
    clear hv hvn hb Hld
    rw [He.out]
    go_wp2_with fail
    refine hK.out _ _ (Hh3.out) (fun hHeld => ?_)
    clear hK
    try simp only [Act.put, List.setIfInBounds_toArray, List.set_cons_zero, List.set_cons_succ]
    refine Pl [10,11,12,13,14] ?_
    iterate 5 (refine Pc rfl ?_;simp only [Act.put, uA, uB, uC])
    refine Pn ?_
    refine wpAnyH_done (by kernel_rfl) ?_ _
    clear Hh3 HX1 HB1 HBd HXd
    have HK := Lib.hid (base_keep HX2.out)
    have HZ := Lib.hid HK.out.1
    have HE := Lib.hid (snap_no (r := SO) (k := 3) HI.out (HB2.out.trans (HK.out.2.below HB2.out.size fun _ _ e => e)) 0 0 none 0 0 (.slice none 0 0))
    have q0 := cell_of HX2.out (i := 0) rfl
    have q1 := cell_of HX2.out (i := 1) rfl
    have q2 := cell_of HX2.out (i := 2) rfl
    have fr0 := frozen_of HX2.out 0
    have fr1 := frozen_of HX2.out 1
    have fr2 := frozen_of HX2.out 2
    clear HK HX2 HB2 HV2
    unfold baseAgain at *
    have Hfin := Lib.hid (fun tm hp => results_row4 (P := Tryz.prog) (fn := Tryz.f56) (p := 2) (u := 3) (v := 4) (z := 5) (ty := 105) rfl tm (((w2.setCell ⟨w1.heap.size, 0, none⟩ (.int .i64 0)).setCell ⟨w1.heap.size, 1, none⟩ (.int .i64 0)).setCell ⟨w1.heap.size, 2, none⟩ (.slice none 0 0)) w1.heap.size _ _ (0, 0) _ hp HZ.out Tryz.underlying105 rfl (by kernel_rfl))
    go_wp2_with fail
    (try simp only [Exit.inBlock, Exit.then])
    refine bodyPost_ret (Hfin.out _ rfl) rfl ?_
    exact HE.out
  · have HI := Lib.hid (snapOf_7 h7)
    have He := Lib.hid h7
    clear h7
    generalize snapOf o = SO at *
    go_enter Tryz.func56, Tryz.ntmps56
    go_wp2_with fail
    refine ord_start (fun w' : World => w'.cell? ⟨j, 3, none⟩ = some (.pointer (some ⟨d, 0, none⟩)) ∧ w'.cell? ⟨j, 4, none⟩ = some (.string pre)) (n := 15) (by kernel_rfl) rfl (⟨al_cell c3 _, al_cell c4 _⟩) (fun hHeld => ?_)
    have HBd := Lib.hid (HB1.out.trans ((below_drew (w1.alloc (.cells #[.int .i64 0, .int .i64 0, .slice none 0 0] 105))).mono HB1.out.size))
    have HXd := Lib.hid (show (w1.alloc (.cells #[.int .i64 0, .int .i64 0, .slice none 0 0] 105)).drew.heap[w1.heap.size]? = _ from HX1.out)
    generalize (w1.alloc (.cells #[.int .i64 0, .int .i64 0, .slice none 0 0] 105)).drew = W1 at *
    refine Pl [0,1,2,3,4,5,6,7,8] ?_
    iterate 9 (refine Pc rfl ?_;simp only [Act.put, uA, uB, uC])
    refine Pn ?_
    refine ord_one 9 rfl (by kernel_rfl) (by rfl) (fun K hK => ?_)
    have Hld := Lib.hid (load_calls (H.out.next HBd.out).st (sSnp pre) (by rw [hssn]; omega))
    rw [nm_snp] at Hld
    go_wp2_with fail
    refine Hld.out.mono ?_
    rintro e w2 ⟨v, rfl, hv, hvn, hb, -⟩
    rw [Ho.out] at hv ⊢
    have Hh3 := Lib.hid (And.intro (cell_far hHeld.1 hb) (cell_far hHeld.2 hb))
    have HB2 := Lib.hid (HBd.out.trans (hb.mono HBd.out.size))
    have HX2 := Lib.hid ((hb.block _ (lt_of_block HXd.out)).trans HXd.out)
    have HV2 := Lib.hid hv
    obtain ⟨pv, cv, rfl, -⟩ := own_cap0 hv
    clear hv hvn hb Hld
    rw [He.out]
    go_wp2_with fail
    refine hK.out _ _ (Hh3.out) (fun hHeld => ?_)
    clear hK
    try simp only [Act.put, List.setIfInBounds_toArray, List.set_cons_zero, List.set_cons_succ]
    refine Pl [10,11,12,13,14] ?_
    iterate 5 (refine Pc rfl ?_;simp only [Act.put, uA, uB, uC])
    refine Pn ?_
    refine wpAnyH_done (by kernel_rfl) ?_ _
    clear Hh3 HX1 HB1 HBd HXd
    have HK := Lib.hid (base_keep HX2.out)
    have HZ := Lib.hid HK.out.1
    have HE := Lib.hid (snap_no (r := SO) (k := 0) HI.out (HB2.out.trans (HK.out.2.below HB2.out.size fun _ _ e => e)) 0 0 none 0 0 (.slice none 0 0))
    have q0 := cell_of HX2.out (i := 0) rfl
    have q1 := cell_of HX2.out (i := 1) rfl
    have q2 := cell_of HX2.out (i := 2) rfl
    have fr0 := frozen_of HX2.out 0
    have fr1 := frozen_of HX2.out 1
    have fr2 := frozen_of HX2.out 2
    clear HK HX2 HB2 HV2
    unfold baseAgain at *
    have Hfin := Lib.hid (fun tm hp => results_row4 (P := Tryz.prog) (fn := Tryz.f56) (p := 2) (u := 3) (v := 4) (z := 5) (ty := 105) rfl tm (((w2.setCell ⟨w1.heap.size, 0, none⟩ (.int .i64 0)).setCell ⟨w1.heap.size, 1, none⟩ (.int .i64 0)).setCell ⟨w1.heap.size, 2, none⟩ (.slice none 0 0)) w1.heap.size _ _ (0, 0) _ hp HZ.out Tryz.underlying105 rfl (by kernel_rfl))
    go_wp2_with fail
    (try simp only [Exit.inBlock, Exit.then])
    refine bodyPost_ret (Hfin.out _ rfl) rfl ?_
    exact HE.out
end
end Go.Proofs.YtngflpaooppmhaaGreat

namespace Go.Proofs.YtngflpaooppmhaaGreat
open Go.RowKit Go.Sat Go.Maps

theorem scanJ_rows (k : Nat) : ∀ b : Bs, b.length ≤ k → (∀ x ∈ (scan b).1, x.length ≤ b.length) ∧ (scan b).1.length ≤ b.length := by
  induction k with
  | zero =>
    intro b h
    rw [scan_stop (.inl (List.eq_nil_of_length_eq_zero (by omega)))]
    exact ⟨fun x hx => by simp at hx, Nat.zero_le _⟩
  | succ k ih =>
    intro b h
    by_cases he : decE b = 0
    · have hd := decL_pos he
      have hi := ih (b.drop (decL b)) (by rw [List.length_drop]; omega)
      rw [scan_go he]
      rw [List.length_drop] at hi
      refine ⟨fun x hx => ?_, ?_⟩
      · rcases List.mem_cons.1 hx with rfl | hx
        · unfold decB
          rw [if_pos he, List.length_take, List.length_drop]
          omega
        · exact Nat.le_trans (hi.1 x hx) (by omega)
      · show _ + 1 ≤ _
        omega
    · rw [scan_stop (.inr he)]
      exact ⟨fun x hx => by simp at hx, Nat.zero_le _⟩

theorem scanJ_row {b x : Bs} {n : Nat} (h : n ≤ 1073741824) (hn : b.length = n) (hx : x ∈ (scan b).1) : x.length ≤ 1073741824 := Nat.le_trans ((scanJ_rows _ b (Nat.le_refl _)).1 x hx) (by omega)
theorem scanJ_count {b : Bs} {n : Nat} {rows : List Bs} (h : n ≤ 1073741824) (hn : b.length = n) (hr : (scan b).1 = rows) : rows.length ≤ 1073741824 := by
  rw [← hr]
  exact Nat.le_trans (scanJ_rows _ b (Nat.le_refl _)).2 (by omega)

theorem RowsIn.keepJ {w w' : World} {v : Value} {vs : List Value} {ls : List Bs} (h : RowsIn w v vs ls) (hs : ∀ j, (v.ownBlock = some j ∨ ∃ u ∈ vs, u.ownBlock = some j) → w'.heap[j]? = w.heap[j]?) : RowsIn w' v vs ls :=
  ⟨h.row.keep fun k hk => hs k (.inl hk), fun i u b hu hl => OwnR.keep (h.has i u b hu hl) fun k hk => hs k (.inr ⟨u, List.mem_of_getElem? hu, hk⟩), h.sep⟩

/-- What is to be read of a log's records. -/
def restJ : Nat → JouM → List Bs → Option JouM
  | 0, M, l => recAll M l
  | _ + 1, M, l => recGo M l
theorem restJ_cons (k : Nat) (M : JouM) (x : Bs) (r : List Bs) : restJ k M (x :: r) = (rec1 (decide (k = 0)) M x).bind fun M' => restJ (k + 1) M' r := by
  cases k <;> rfl

/-- What reading the log leaves. -/
def RlTold (w w1 : World) (j d : Nat) (pre : ByteArray) (F : Nat → Prop) (r : DiskM × Nat × Bool × JouM) (e : Ending) (w' : World) : Prop :=
  e = .returned (.tuple #[.bool r.2.2.1, .int .i64 (r.2.1 : Int)]) ∧ St w w' d r.1 F ∧ Same F w1 w' ∧ (r.2.1 = 0 → JouF w w' j d pre r.1 r.2.2.2 F)

section
variable {w w1 w2 : World} {j d : Nat} {pre : ByteArray} {D : DiskM} {M : JouM} {F : Nat → Prop}

theorem rl_end {r : DiskM × Nat × Bool × JouM} {k : Nat} {b : Bool} {M' : JouM} (h : JouF w w2 j d pre D M' F) (hs : Same F w1 w2) (hr : r = (D, k, b, M')) : RlTold w w1 j d pre F r (.returned (.tuple #[.bool b, .int .i64 (k : Int)])) w2 := by
  subst hr
  exact ⟨rfl, h.stF, hs, fun _ => h⟩
theorem rl_bad {r : DiskM × Nat × Bool × JouM} {k : Nat} {b : Bool} {M' : JouM} (h : St w w2 d D F) (hs : Same F w1 w2) (hr : r = (D, k, b, M')) (hk : k ≠ 0) : RlTold w w1 j d pre F r (.returned (.tuple #[.bool b, .int .i64 (k : Int)])) w2 := by
  subst hr
  exact ⟨rfl, h, hs, fun e => (hk e).elim⟩

theorem rec_told_no {o : Option JouM} {e : Ending} (h : RecTold w w1 j d pre D F o e w2) (ho : o = none) : St w w2 d D F ∧ Same F w1 w2 ∧ e = .returned (.bool false) := by
  subst ho
  exact h
theorem rec_told_yes {o : Option JouM} {M' : JouM} {e : Ending} (h : RecTold w w1 j d pre D F o e w2) (ho : o = some M') : Same F w1 w2 ∧ e = .returned (.bool true) ∧ JouF w w2 j d pre D M' F := by
  subst ho
  exact h.2

theorem readLog_none (h : Sat.get (logN (nm pre)) D.files = none) : readLogJ D (nm pre) M = (D, 0, true, M) := by unfold readLogJ; rw [h]
theorem readLog_bad {f : FileM} (h : Sat.get (logN (nm pre)) D.files = some f) (hr : recAll M (scan f.data).1 = none) : readLogJ D (nm pre) M = (D, 3, false, M) := by unfold readLogJ; rw [h]; dsimp only; rw [hr]
theorem readLog_ok {f : FileM} {M' : JouM} (h : Sat.get (logN (nm pre)) D.files = some f) (hr : recAll M (scan f.data).1 = some M') : readLogJ D (nm pre) M = ((tornOff D (logN (nm pre)) (scan f.data).2 f.data.length).1, (tornOff D (logN (nm pre)) (scan f.data).2 f.data.length).2, false, M') := by unfold readLogJ; rw [h]; dsimp only; rw [hr]

set_option maxRecDepth 100000 in
set_option maxHeartbeats 16000000 in
theorem rlog_calls (h : JouF w w1 j d pre D M F) (hM : M.entries = []) :
    Calls Tryz.prog 57 #[.pointer (some ⟨j, 0, none⟩)] w1 (RlTold w w1 j d pre F (readLogJ D (nm pre) M)) := by
  have hps := h.psz
  have hsl : (sLog pre).size = pre.size + 4 := size_log pre
  obtain ⟨c3, c4, -⟩ := h.jc
  have H := Lib.hid h
  have HM := Lib.hid hM
  have Hrd := Lib.hid (jou_read h (sLog pre) (by rw [hsl]; omega))
  rw [nm_log] at Hrd
  have hdl0 := data_len h.okD (logN (nm pre))
  cases hg : Sat.get (logN (nm pre)) D.files with
  | none =>
    have HR := Lib.hid (readLog_none (M := M) hg)
    have hr7 : readE (none : Option FileM) = 7 := rfl
    rw [hg, hr7] at Hrd
    clear h hM hg hr7 hdl0
    go_enter Tryz.func57, Tryz.ntmps57
    go_wp2_with fail
    refine Hrd.out.mono ?_
    rintro e w2 ⟨v2, rfl, -, -, hb2⟩
    have HE := Lib.hid (rl_end (w1 := w1) (k := 0) (H.out.next hb2) (H.out.same hb2) HR.out)
    clear hb2 Hrd
    go_wp2_with fail
    go_ret2
    exact HE.out
  | some f =>
    have hr0 : readE (some f) = 0 := rfl
    have hdl : f.data.length ≤ 1073741824 := by rw [hg] at hdl0; exact hdl0
    have HRb := Lib.hid (readLog_bad (M := M) hg)
    have HRo := Lib.hid (fun M' => readLog_ok (M := M) (M' := M') hg)
    rw [hg, hr0] at Hrd
    clear h hM hg hr0 hdl0
    go_enter Tryz.func57, Tryz.ntmps57
    go_wp2_with fail
    refine Hrd.out.mono ?_
    rintro e w3 ⟨v3, rfl, hv3, hn3, hb3⟩
    have HJ3 := Lib.hid (H.out.next hb3)
    have HS3 := Lib.hid (H.out.same hb3)
    have hv3 : OwnB w3 5 v3 f.data := hv3
    obtain ⟨pb, cb, rfl, hcap⟩ := own_cap0 hv3
    have Hsc := Lib.hid (scan_calls hv3.has hcap hdl)
    clear hb3 hv3 hn3 hcap Hrd c3 c4
    have hq30 := scan_le f.data
    generalize hlen : f.data.length = len at *
    go_wp2_with fail
    refine Hsc.out.mono ?_
    rintro e w4 ⟨v4, vs, rfl, hr4, hn4, hb4⟩
    have HJ4 := Lib.hid (FR_more HJ3.out (⟨hr4, hn4, hb4⟩ : RowsN w3 w4 v4 vs _))
    have HS4 := Lib.hid (HS3.out.trans (HJ3.out.same hb4))
    have HR4 := Lib.hid hr4
    have Hrl := Lib.hid (show ∀ x ∈ (scan f.data).1, x.length ≤ 1073741824 from fun x hx => scanJ_row hdl hlen hx)
    clear hr4 hn4 hb4 Hsc HJ3 HS3
    obtain ⟨pr, cr, rfl⟩ := OwnR.shape HR4.out.row
    generalize hq : (scan f.data).2 = q at *
    generalize hrows : (scan f.data).1 = rows at *
    have hnr : rows.length ≤ 1073741824 := scanJ_count hdl hlen hrows
    generalize hnn : rows.length = n at *
    have Hnn := Lib.hid hnn
    clear hq hrows hnn hlen
    by_cases hn0 : n = 0
    · have hrn : rows = [] := List.eq_nil_of_length_eq_zero (by rw [Hnn.out, hn0])
      have HE := Lib.hid (rl_bad (w1 := w1) (j := j) (pre := pre) (k := 3) (HJ4.out.stF.less fun _ h => .inl h) HS4.out (HRb.out (by rw [hrn]; rfl)) (by decide))
      have e0 : ((n : Int) == 0) = true := by simp; omega
      clear hrn hn0
      go_wp2_with fail
      go_ret2
      exact HE.out
    · have e0 : ((n : Int) == 0) = false := by simp; omega
      have Hn0 := Lib.hid hn0
      clear hn0
      go_wp2_with fail
      go_loopw [38] (fun i wr => ∃ (k : Nat) (Mk : JouM), k ≤ n ∧ i = .int .i64 k ∧ (k = 0 → Mk = M) ∧ JouF w wr j d pre D Mk (FR F (.slice pr n cr) vs) ∧ Same (FR F (.slice pr n cr) vs) w4 wr ∧ recAll M rows = restJ k Mk (rows.drop k)) (fun i _ => n - (intOf i).toNat)
      case atStart => exact ⟨0, M, Nat.zero_le _, rfl, fun _ => rfl, HJ4.out, fun _ _ => rfl, rfl⟩
      case round =>
        clear HJ4 e0
        obtain ⟨k, Mk, hk, rfl, hk1, hJ, hs, hre⟩ := hrel
        by_cases hlt : k < n
        · have hkl : k < rows.length := by rw [Hnn.out]; exact hlt
          rw [List.drop_eq_getElem_cons hkl, restJ_cons] at hre
          have hRW := HR4.out.keepJ (w' := wr) fun x hx => hs x (.inr hx)
          have hkv : k < vs.length := by rw [hRW.len]; exact hkl
          have hxr := hRW.has k _ _ (List.getElem?_eq_getElem hkv) (List.getElem?_eq_getElem hkl)
          have hcell : ∃ g, pr = some ⟨g, 0, none⟩ ∧ wr.cell? ⟨g, k, none⟩ = some vs[k] := by
            rcases hRW.row.2 with ⟨-, h0⟩ | ⟨g, cap, cur, e, -⟩
            · omega
            · refine ⟨g, ?_, ?_⟩
              · simp only [Value.slice.injEq] at e
                exact e.1
              · have hc := hRW.row.cells (g := g) (by rw [e]; rfl) k _ (List.getElem?_eq_getElem hkv)
                rwa [add_zero] at hc
          obtain ⟨g, rfl, hcell⟩ := hcell
          have hx30 := Hrl.out _ (List.getElem_mem hkl)
          obtain ⟨px, cx, hpx, -⟩ := own_cap0 hxr
          rw [hpx] at hxr hcell
          have Hrec := Lib.hid (record_calls hJ (decide (k = 0)) (fun hf => by rw [hk1 (by simpa using hf)]; exact HM.out) hxr.has hx30)
          have Hs := Lib.hid hs
          have hkb : ((k : Int) == 0) = decide (k = 0) := by
            by_cases h0 : k = 0
            · subst h0; rfl
            · rw [decide_eq_false h0]; simp; omega
          cases hc : rec1 (decide (k = 0)) Mk rows[k] with
          | none =>
            rw [hc] at hre
            have Hc := Lib.hid hc
            have HRn := Lib.hid (HRb.out hre)
            clear hJ hs hre hRW hxr hx30 hc hpx hkv hk1
            generalize rows[k] = x at *
            generalize x.length = m at *
            generalize decide (k = 0) = fk at *
            clear hkl
            go_wp2_with fail
            refine Hrec.out.mono ?_
            intro e w6 hT
            obtain ⟨hS6, hF6, rfl⟩ := rec_told_no hT Hc.out
            have HE := Lib.hid (rl_bad (w1 := w1) (j := j) (pre := pre) (k := 3) (hS6.less fun _ h => .inl h) (HS4.out.trans fun x hx => (hF6 x (.inl hx)).trans (Hs.out x (.inl hx))) HRn.out (by decide))
            clear hS6 hF6 hT
            go_wp2_with fail
            go_ret2
            exact HE.out
          | some Mn =>
            rw [hc] at hre
            have Hc := Lib.hid hc
            have Hre := Lib.hid (show recAll M rows = restJ (k + 1) Mn (rows.drop (k + 1)) from hre)
            clear hJ hs hre hRW hxr hx30 hc hpx hkv hk1
            generalize rows[k] = x at *
            generalize x.length = m at *
            generalize decide (k = 0) = fk at *
            clear hkl
            go_wp2_with fail
            refine Hrec.out.mono ?_
            intro e w6 hT
            obtain ⟨hF6, rfl, hJ6⟩ := rec_told_yes hT Hc.out
            have HE := Lib.hid (And.intro hJ6 (Hs.out.trans hF6))
            clear hF6 hJ6 hT
            go_wp2_with fail
            go_roundw
            case rel => exact ⟨k + 1, Mn, by omega, by go_num, fun h => by omega, HE.out.1, HE.out.2, Hre.out⟩
            case measure => simp [intOf]; omega
        · have hkn : k = n := by omega
          subst hkn
          have hre2 : recAll M rows = some Mk := by
            rw [hre, List.drop_of_length_le (by rw [Hnn.out]; exact Nat.le_refl _)]
            cases k with
            | zero => exact absurd rfl Hn0.out
            | succ k => rfl
          have HRm := Lib.hid (HRo.out Mk hre2)
          have HJw := Lib.hid (show JouF w wr j d pre D Mk F from hJ.less fun _ h => .inl h)
          have HSw := Lib.hid (show Same F w1 wr from HS4.out.trans fun x hx => hs x (.inl hx))
          obtain ⟨c3, c4, -⟩ := HJw.out.jc
          clear hJ hs hre hre2 HR4 HS4 Hrl HRb HRo Hn0 Hnn hk1
          generalize hMz : Mk = Mz at *
          clear hMz
          by_cases hqq : q < len
          · have dq : decide ((q : Int) < (len : Int)) = true := by simp; omega
            have dqn : decide (q < len) = true := by simp; omega
            cases htr : D.truncate (logN (nm pre)) (q : Int) with
            | mk D1 e1 =>
              have Htr := Lib.hid (show Calls Tryz.prog 103 #[.pointer (some ⟨d, 0, none⟩), .string (sLog pre), .int .i64 (q : Int)] wr fun e w' => e = .returned (.int .i64 (e1 : Int)) ∧ JouF w w' j d pre D1 Mz F ∧ Same F wr w' ∧ w'.heap[j]? = wr.heap[j]? from by
                have := jou_trunc HJw.out (sLog pre) (by rw [hsl]; omega) (q : Int) (by omega) (by omega)
                rwa [nm_log, htr] at this)
              by_cases he1 : e1 = 0
              · subst he1
                cases hsy : D1.sync [logN (nm pre)] with
                | mk D2 e2 =>
                  have hT : tornOff D (logN (nm pre)) q len = (D2, e2) := by unfold tornOff; rw [if_pos hqq, htr, if_neg (by simp)]; exact hsy
                  have hR := HRm.out
                  rw [hT] at hR
                  have HR := Lib.hid hR
                  have Hsy := Lib.hid (fun W (h : JouF w W j d pre D1 Mz F) => show Calls Tryz.prog 104 #[.pointer (some ⟨d, 0, none⟩), .slice (some ⟨W.heap.size, 0, none⟩) 1 1] (W.alloc (.cells #[.string (sLog pre)] 9)) fun e w' => e = .returned (.int .i64 (e2 : Int)) ∧ JouF w w' j d pre D2 Mz F ∧ Same F W w' ∧ w'.heap[j]? = W.heap[j]? from by
                    have := jou_sync h (sLog pre) (by rw [hsl]; omega)
                    rwa [nm_log, hsy] at this)
                  clear htr hsy hT hR HRm
                  go_wp2_with fail
                  refine Htr.out.mono ?_
                  rintro e w6 ⟨rfl, hj6, hs6, -⟩
                  have HJ6 := Lib.hid hj6
                  have HS6 := Lib.hid (HSw.out.trans hs6)
                  obtain ⟨c3, c4, -⟩ := hj6.jc
                  clear hj6 hs6
                  go_wp2_with fail
                  refine (Hsy.out w6 HJ6.out).mono ?_
                  rintro e w7 ⟨rfl, hj7, hs7, -⟩
                  have HE := Lib.hid (rl_end (w1 := w1) hj7 (HS6.out.trans hs7) HR.out)
                  clear hj7 hs7
                  go_wp2_with fail
                  go_ret2
                  exact HE.out
              · have hT : tornOff D (logN (nm pre)) q len = (D1, e1) := by unfold tornOff; rw [if_pos hqq, htr, if_pos he1]
                have hR := HRm.out
                rw [hT] at hR
                have HR := Lib.hid hR
                have hne : ((e1 : Int) != 0) = true := by simp; omega
                clear htr hT hR HRm he1
                go_wp2_with fail
                refine Htr.out.mono ?_
                rintro e w6 ⟨rfl, hj6, hs6, -⟩
                have HE := Lib.hid (rl_end (w1 := w1) hj6 (HSw.out.trans hs6) HR.out)
                clear hj6 hs6
                go_wp2_with fail
                go_ret2
                exact HE.out
          · have dq : decide ((q : Int) < (len : Int)) = false := by simp; omega
            have dqn : decide (q < len) = false := by simp; omega
            have hT : tornOff D (logN (nm pre)) q len = (D, 0) := by unfold tornOff; rw [if_neg hqq]
            have hR := HRm.out
            rw [hT] at hR
            have HE := Lib.hid (rl_end (w1 := w1) HJw.out HSw.out hR)
            clear hT hR HRm
            go_wp2_with fail
            go_ret2
            exact HE.out
end
end Go.Proofs.YtngflpaooppmhaaGreat

namespace Go.Proofs.YtngflpaooppmhaaGreat
open Go.RowKit Go.Sat Go.Maps

theorem bytes_bad {R : Rd} (h : R.bytes.2.whole = true) : R.bad = false := by
  cases hb : R.bad with
  | false => rfl
  | true =>
    exfalso
    have h1 : R.num.2.bad = true := by
      unfold Rd.num
      split
      · exact hb
      · rfl
    rw [show R.bytes = R.num.2.raw R.num.1 from rfl] at h
    unfold Rd.raw at h
    split at h
    · unfold Rd.whole at h
      dsimp only at h
      rw [h1] at h
      simp at h
    · cases h

theorem grp_bad {R : Rd} (h : (R.grp isGrp).2.bad = false) : isGrp (R.grp isGrp).1 = true := by
  unfold Rd.grp at h ⊢
  split at h
  · cases h
  · rename_i h7
    rw [if_neg h7]
    dsimp only at h ⊢
    split at h
    · assumption
    · cases h

theorem snapIs_ok {b : Bs} {s : Snap} (h : snapIs b = some s) : s.OK ∧ s.data.length ≤ 524288 ∧ 1 ≤ s.number := by
  unfold snapIs at h
  dsimp only at h
  split at h
  · rename_i hc
    cases h
    obtain ⟨hw, h1, h2, h3, h4⟩ := hc
    exact ⟨⟨h2, isTm_iff.2 ⟨Int.natCast_nonneg _, Int.ofNat_le.2 h3⟩, grp_bad (bytes_bad hw), Nat.le_trans h4 (by decide)⟩, h4, h1⟩
  · cases h
theorem snapOf_ok {o : Option FileM} {s : Snap} (h : (snapOf o).2 = some s) : s.OK ∧ s.data.length ≤ 524288 ∧ 1 ≤ s.number := by
  unfold snapOf at h
  split at h
  · cases h
  · split at h
    · cases h
    · split at h
      · cases h
      · rename_i hs
        cases h
        exact snapIs_ok hs

theorem each1_room (g : Bs → FileM → List (Bs × FileM) → List (Bs × FileM)) (D : DiskM) (n : Bs) : (DiskM.each1 g D n).1.room = D.room := by
  unfold DiskM.each1
  split
  · rfl
  · split <;> rfl
theorem rid1_room (D : DiskM) (n : Bs) : (D.rid1 n).1.room = D.room := by
  unfold DiskM.rid1
  split
  · show (DiskM.each _ D [n]).1.room = _
    simp only [DiskM.each]
    split
    · exact each1_room _ _ _
    · exact each1_room _ _ _
  · rfl

theorem data_room {D : DiskM} (h : D.OK) {n : Bs} {f : FileM} (hg : Sat.get n D.files = some f) : f.data.length ≤ D.room := by
  have h1 : DiskM.size f ≤ D.used := le_sum h.srt hg
  have h2 := h.used
  unfold DiskM.size at h1
  omega

theorem scanJ_twelve (k : Nat) : ∀ b : Bs, b.length ≤ k → 12 * (scan b).1.length ≤ b.length := by
  induction k with
  | zero =>
    intro b h
    rw [scan_stop (.inl (List.eq_nil_of_length_eq_zero (by omega)))]
    exact Nat.zero_le _
  | succ k ih =>
    intro b h
    by_cases he : decE b = 0
    · have hd := decL_pos he
      have hi := ih (b.drop (decL b)) (by rw [List.length_drop]; omega)
      rw [scan_go he]
      rw [List.length_drop] at hi
      show 12 * (_ + 1) ≤ _
      omega
    · rw [scan_stop (.inr he)]
      exact Nat.zero_le _

theorem rec1_len {f : Bool} {M M' : JouM} {p : Bs} (h : rec1 f M p = some M') : M'.entries.length ≤ M.entries.length + 1 := by
  unfold rec1 at h
  split at h
  · cases h
  · dsimp only at h
    repeat' split at h
    all_goals first
      | (cases h; done)
      | (cases h; simp; done)
      | (cases h; simp; omega)
theorem recGo_len : ∀ (l : List Bs) {M M' : JouM}, recGo M l = some M' → M'.entries.length ≤ M.entries.length + l.length
  | [], M, M', h => by cases h; exact Nat.le_refl _
  | p :: r, M, M', h => by
    have h : (rec1 false M p).bind (fun M' => recGo M' r) = some M' := h
    cases h1 : rec1 false M p with
    | none => rw [h1] at h; cases h
    | some M1 =>
      rw [h1] at h
      have h2 := recGo_len r (M := M1) (M' := M') h
      have h3 := rec1_len h1
      rw [List.length_cons]
      omega
theorem recAll_len {l : List Bs} {M M' : JouM} (h : recAll M l = some M') : M'.entries.length ≤ M.entries.length + l.length := by
  cases l with
  | nil => cases h
  | cons p r =>
    have h : (rec1 true M p).bind (fun M' => recGo M' r) = some M' := h
    cases h1 : rec1 true M p with
    | none => rw [h1] at h; cases h
    | some M1 =>
      rw [h1] at h
      have h2 := recGo_len r (M := M1) (M' := M') h
      have h3 := rec1_len h1
      rw [List.length_cons]
      omega

theorem readLog_len {D D' : DiskM} {pre : Bs} {M M' : JouM} {e : Nat} {a : Bool} (hok : D.OK) (hr : D.room ≤ 1048576) (hM : M.entries = []) (h : readLogJ D pre M = (D', e, a, M')) : M'.entries.length ≤ 1000000 := by
  unfold readLogJ at h
  split at h
  · have e2 : M = M' := congrArg (fun x => x.2.2.2) h
    rw [← e2, hM]
    exact Nat.zero_le _
  · rename_i f hf
    have h1 := data_room hok hf
    have h2 := scanJ_twelve _ f.data (Nat.le_refl _)
    split at h
    · have e2 : M = M' := congrArg (fun x => x.2.2.2) h
      rw [← e2, hM]
      exact Nat.zero_le _
    · rename_i M1 hM1
      have h3 := recAll_len hM1
      have e2 : M1 = M' := congrArg (fun x => x.2.2.2) h
      rw [← e2]
      rw [hM] at h3
      simp only [List.length_nil] at h3
      omega

/-- The steps of an opening. -/
structure OpensJ (D : DiskM) (pre : Bs) (nodes : List Int) where
  D1 : DiskM
  e1 : Nat
  h1 : D.rid1 (shadowN (logN pre)) = (D1, e1)
  D2 : DiskM
  e2 : Nat
  h2 : D1.rid1 (shadowN (snpN pre)) = (D2, e2)
  s : Nat × Option Snap
  hs : snapOf (Sat.get (snpN pre) D2.files) = s
  l : DiskM × Nat × Bool × JouM
  hl : readLogJ D2 pre (JouM.none0 nodes) = l
theorem opensJ_of (D : DiskM) (pre : Bs) (nodes : List Int) : Nonempty (OpensJ D pre nodes) := ⟨⟨_, _, rfl, _, _, rfl, _, rfl, _, rfl⟩⟩

section
variable {D : DiskM} {pre : Bs} {nodes : List Int} (O : OpensJ D pre nodes)

theorem oj_arg (h : pre.length < 1 ∨ 20 < pre.length ∨ isGrp nodes = false) : jouOpen D pre nodes = (D, 1, JouM.none0 nodes) := by
  unfold jouOpen
  rw [if_pos h]
theorem oj_rid1 (h1 : O.e1 ≠ 0) : D.rid [shadowN (logN pre), shadowN (snpN pre)] = (O.D1, O.e1) := by
  unfold DiskM.rid
  rw [O.h1]
  exact if_neg h1
theorem oj_rid2 (h1 : O.e1 = 0) : D.rid [shadowN (logN pre), shadowN (snpN pre)] = (O.D2, O.e2) := by
  unfold DiskM.rid
  rw [O.h1]
  refine (if_pos h1).trans ?_
  show DiskM.rid O.D1 [shadowN (snpN pre)] = _
  unfold DiskM.rid
  rw [O.h2]
  dsimp only
  by_cases h2 : O.e2 = 0
  · rw [if_pos h2]
    show (O.D2, 0) = _
    rw [h2]
  · exact if_neg h2
theorem oj_e1 (h : ¬ (pre.length < 1 ∨ 20 < pre.length ∨ isGrp nodes = false)) (h1 : O.e1 ≠ 0) : jouOpen D pre nodes = (O.D1, O.e1, JouM.none0 nodes) := by
  unfold jouOpen
  rw [if_neg h, oj_rid1 O h1]
  exact if_pos h1
theorem oj_e2 (h : ¬ (pre.length < 1 ∨ 20 < pre.length ∨ isGrp nodes = false)) (h1 : O.e1 = 0) (h2 : O.e2 ≠ 0) : jouOpen D pre nodes = (O.D2, O.e2, JouM.none0 nodes) := by
  unfold jouOpen
  rw [if_neg h, oj_rid2 O h1]
  exact if_pos h2
theorem oj_e3 (h : ¬ (pre.length < 1 ∨ 20 < pre.length ∨ isGrp nodes = false)) (h1 : O.e1 = 0) (h2 : O.e2 = 0) (h3 : O.s.1 ≠ 0) : jouOpen D pre nodes = (O.D2, O.s.1, JouM.none0 nodes) := by
  unfold jouOpen
  rw [if_neg h, oj_rid2 O h1]
  dsimp only
  rw [if_neg (by simpa using h2), O.hs]
  exact if_pos h3
theorem oj_go (h : ¬ (pre.length < 1 ∨ 20 < pre.length ∨ isGrp nodes = false)) (h1 : O.e1 = 0) (h2 : O.e2 = 0) (h3 : O.s.1 = 0) : jouOpen D pre nodes = (if O.l.2.1 ≠ 0 then (O.l.1, O.l.2.1, JouM.none0 nodes) else
  match joins O.s.2 O.l.2.2.2 O.l.2.2.1 with
  | none => (O.l.1, 3, JouM.none0 nodes)
  | some (anew, M) => if anew then ((writesJ O.l.1 pre M).1, (writesJ O.l.1 pre M).2, M) else (O.l.1, 0, M)) := by
  unfold jouOpen
  rw [if_neg h, oj_rid2 O h1]
  dsimp only
  rw [if_neg (by simpa using h2), O.hs, if_neg (by simpa using h3), O.hl]
  rfl
theorem oj_e4 (h : ¬ (pre.length < 1 ∨ 20 < pre.length ∨ isGrp nodes = false)) (h1 : O.e1 = 0) (h2 : O.e2 = 0) (h3 : O.s.1 = 0) (h4 : O.l.2.1 ≠ 0) : jouOpen D pre nodes = (O.l.1, O.l.2.1, JouM.none0 nodes) := (oj_go O h h1 h2 h3).trans (if_pos h4)
theorem oj_no (h : ¬ (pre.length < 1 ∨ 20 < pre.length ∨ isGrp nodes = false)) (h1 : O.e1 = 0) (h2 : O.e2 = 0) (h3 : O.s.1 = 0) (h4 : O.l.2.1 = 0) (h5 : joins O.s.2 O.l.2.2.2 O.l.2.2.1 = none) : jouOpen D pre nodes = (O.l.1, 3, JouM.none0 nodes) := by
  rw [oj_go O h h1 h2 h3, if_neg (by simpa using h4), h5]
theorem oj_keep (h : ¬ (pre.length < 1 ∨ 20 < pre.length ∨ isGrp nodes = false)) (h1 : O.e1 = 0) (h2 : O.e2 = 0) (h3 : O.s.1 = 0) (h4 : O.l.2.1 = 0) {M : JouM} (h5 : joins O.s.2 O.l.2.2.2 O.l.2.2.1 = some (false, M)) : jouOpen D pre nodes = (O.l.1, 0, M) := by
  rw [oj_go O h h1 h2 h3, if_neg (by simpa using h4), h5]
  rfl
theorem oj_anew (h : ¬ (pre.length < 1 ∨ 20 < pre.length ∨ isGrp nodes = false)) (h1 : O.e1 = 0) (h2 : O.e2 = 0) (h3 : O.s.1 = 0) (h4 : O.l.2.1 = 0) {M : JouM} (h5 : joins O.s.2 O.l.2.2.2 O.l.2.2.1 = some (true, M)) : jouOpen D pre nodes = ((writesJ O.l.1 pre M).1, (writesJ O.l.1 pre M).2, M) := by
  rw [oj_go O h h1 h2 h3, if_neg (by simpa using h4), h5]
  rfl
end

/-- What an opening leaves. -/
def OpenJTold (w w1 : World) (d : Nat) (pre : ByteArray) (F : Nat → Prop) (r : DiskM × Nat × JouM) (e : Ending) (w' : World) : Prop :=
  St w w' d r.1 F ∧ Same F w1 w' ∧ ((r.2.1 = 0 ∧ ∃ j, e = .returned (.tuple #[.pointer (some ⟨j, 0, none⟩), .int .i64 0]) ∧ JouF w w' j d pre r.1 r.2.2 F) ∨ (r.2.1 ≠ 0 ∧ e = .returned (.tuple #[.pointer none, .int .i64 (r.2.1 : Int)])))

/-- A journal that was made a moment ago. -/
theorem jou_fresh {w w1 : World} {d : Nat} {D : DiskM} {F : Nat → Prop} {nodes : List Int} {gv : Value} (h : St w w1 d D (fun k => F k ∨ gv.ownBlock = some k)) (pre : ByteArray) (hp : 1 ≤ pre.size ∧ pre.size ≤ 20) (hg : isGrp nodes = true) (hgv : OwnI w1 gv nodes) (hgn : ∀ k, gv.ownBlock = some k → w.heap.size ≤ k ∧ ¬ F k) :
    JouF w (w1.alloc (.cells #[.int .i64 0, .int .i64 0, gv, .pointer (some ⟨d, 0, none⟩), .string pre, .int .i64 0, .int .i64 (-1), .slice none 0 0, .slice none 0 0, .bool false] 107)) w1.heap.size d pre D (JouM.none0 nodes) F := by
  have hb := below_one w1 (.cells #[.int .i64 0, .int .i64 0, gv, .pointer (some ⟨d, 0, none⟩), .string pre, .int .i64 0, .int .i64 (-1), .slice none 0 0, .slice none 0 0, .bool false] 107)
  refine ⟨fun k => k = w1.heap.size ∨ gv.ownBlock = some k, gv, .slice none 0 0, .slice none 0 0, [], ⟨new_block w1 _, ownI_far hgv hb, OwnR.nil _ _ _, OwnR.nil _ _ _, ⟨rfl, fun i e v he hv => (by simp at hv)⟩, .inl rfl, fun k hk => ⟨.inr hk, fun e => by have := OwnR.lt hgv hk; omega, fun e => (by cases e)⟩, fun k hk => (by cases hk), fun k hk => (by cases hk), fun u hu => (by simp at hu), fun k hk => ?_, hp, ⟨Nat.zero_le _, rfl, hg, rfl, ⟨show (-1 : Int) ≤ -1 by decide, show (-1 : Int) < 7 by decide⟩, Nat.zero_le _, fun e he => (by cases he)⟩⟩, h.move (Chg.of_below hb) (fun _ _ h => h.elim) (fun k hk => ?_), fun k hk => ?_, fun k hk => Nat.lt_of_lt_of_le (h.flt (.inl hk)) hb.size⟩
  · rcases hk with hk | hk
    · rw [hk]; simp
    · exact Nat.lt_of_lt_of_le (OwnR.lt hgv hk) hb.size
  · rcases hk with (hk | hk) | hk
    · exact ⟨.inr (by omega), by rw [hk]; simp⟩
    · exact ⟨.inl (.inr hk), Nat.lt_of_lt_of_le (OwnR.lt hgv hk) hb.size⟩
    · exact ⟨.inl (.inl hk), Nat.lt_of_lt_of_le (h.flt (.inl hk)) hb.size⟩
  · rcases hk with hk | hk
    · exact ⟨by rw [hk]; exact h.below.size, fun hf => by have := h.flt (.inl hf); omega⟩
    · exact hgn k hk
end Go.Proofs.YtngflpaooppmhaaGreat

namespace Go.Proofs.YtngflpaooppmhaaGreat
open Go.RowKit Go.Sat Go.Maps

section
variable {D : DiskM} {n b : Bs}

theorem put1_app (hf : D.fuse ≠ some 0) (hn1 : 1 ≤ n.length) (hn : n.length ≤ 60) (hsh : Sat.get (shadowN n) D.files = none) (hroom : D.used + b.length ≤ D.room) (hc : D.files.length < 4096) :
    D.append (shadowN n) b = (⟨D.room, put (shadowN n) ⟨b, 0⟩ D.files, offF D.fuse 1⟩, 0) := by
  have hm : D.may [shadowN n] = 0 := by
    unfold DiskM.may
    rw [if_neg hf, if_pos]
    simp only [List.all_cons, List.all_nil, Bool.and_true, okN, shadow_len]
    simp; omega
  have hfu : D.full (shadowN n) b = false := by
    unfold DiskM.full
    rw [hsh]
    simp; omega
  unfold DiskM.append
  rw [if_neg (by rw [hm]; simp), if_neg (by rw [hfu]; simp)]
  have hcur : D.cur (shadowN n) = ⟨[], 0⟩ := by unfold DiskM.cur; rw [hsh]; rfl
  rw [hcur]
  rfl

theorem put1_syn {room : Nat} {L : List (Bs × FileM)} {f : Option Nat} (h : Srt L) (hf : f ≠ some 0) (hn1 : 1 ≤ n.length) (hn : n.length ≤ 60) :
    DiskM.sync ⟨room, put (shadowN n) ⟨b, 0⟩ L, f⟩ [shadowN n] = (⟨room, put (shadowN n) ⟨b, b.length⟩ L, offF f 1⟩, 0) := by
  have hm : DiskM.may ⟨room, put (shadowN n) ⟨b, 0⟩ L, f⟩ [shadowN n] = 0 := by
    unfold DiskM.may
    rw [if_neg hf, if_pos]
    simp only [List.all_cons, List.all_nil, Bool.and_true, okN, shadow_len]
    simp; omega
  have h1 : DiskM.each1 DiskM.gSync ⟨room, put (shadowN n) ⟨b, 0⟩ L, f⟩ (shadowN n) = (⟨room, put (shadowN n) ⟨b, b.length⟩ L, offF f 1⟩, 0) := by
    unfold DiskM.each1
    rw [if_neg (by rw [hm]; simp)]
    have hg : Sat.get (shadowN n) (DiskM.files ⟨room, put (shadowN n) ⟨b, 0⟩ L, f⟩) = some ⟨b, 0⟩ := get_put_same h _ _
    rw [hg]
    show ((⟨room, put _ _ (put _ _ L), _⟩ : DiskM), 0) = _
    rw [put_put h]
    rfl
  show (if (DiskM.each1 _ _ _).2 = 0 then _ else _) = _
  rw [h1, if_pos rfl]
  rfl

/-- A file that is made to hold just these bytes: three steps of the fuse. -/
theorem put1_all (h : D.OK) (hf : ∀ j, D.fuse = some j → 3 ≤ j) (hn1 : 1 ≤ n.length) (hn : n.length ≤ 60) (hsh : Sat.get (shadowN n) D.files = none) (hroom : D.used + b.length ≤ D.room) (hc : D.files.length < 4096) :
    D.save1 n b = (⟨D.room, put n ⟨b, b.length⟩ D.files, offF D.fuse 3⟩, 0) := by
  have h0 : D.save0 n = (D, 0) := by unfold DiskM.save0; rw [hsh]; rfl
  have hz : D.fuse ≠ some 0 := fun e => by have := hf 0 e; omega
  rw [save1_ren h0 (put1_app hz hn1 hn hsh hroom hc) (put1_syn h.srt (off_ne fun j e => by have := hf j e; omega) hn1 hn), off_off,
    save_ren h.srt (off_ne fun j e => by have := hf j e; omega) hn1 hn hsh, off_off]
end

/-- The first two records. -/
def firstB (g : List Int) : Bs := frameN (fstB 0 0 g) ++ frameN (trmB 0 (-1))
theorem rows_none0 (g : List Int) : recsB (JouM.none0 g).rows = firstB g := by
  show recsB [fstB 0 0 g, trmB 0 (-1)] = _
  unfold firstB
  rw [← recsB_one (fstB 0 0 g), ← recsB_one (trmB 0 (-1)), ← recsB_app]
  rfl
theorem firstB_len {g : List Int} (h : isGrp g = true) : (firstB g).length ≤ 150 := by
  have h1 := (grp_bound h).1
  unfold firstB
  rw [List.length_append, frame_len, frame_len]
  have h2 : (trmB 0 (-1)).length ≤ 19 := by
    unfold trmB
    have a := numI_len 0
    have b := numI_len ((-1) + 1)
    simp only [List.length_cons, List.length_append]
    omega
  have h3 : (fstB 0 0 g).length ≤ 100 := by
    unfold fstB grpB
    have a : (numB 0).length ≤ 9 := numB_nine (by omega)
    have b := numI_len 0
    have c := numB_nine (n := g.length) (by omega)
    have d := numsI_len g
    simp only [List.length_cons, List.length_append]
    omega
  omega

/-- The disk behind the first opening. -/
def diskJ0 (room : Nat) (pre : Bs) (g : List Int) : DiskM := ⟨room, [(logN pre, ⟨firstB g, (firstB g).length⟩)], none⟩

theorem save_fresh {room : Nat} (hr : 200 ≤ room) (hr2 : room ≤ 1073741824) {pre : Bs} (hp : 1 ≤ pre.length ∧ pre.length ≤ 20) {g : List Int} (hg : isGrp g = true) :
    (DiskM.fresh room).save1 (logN pre) (firstB g) = (diskJ0 room pre g, 0) := by
  have hl : (logN pre).length = pre.length + 4 := by unfold logN logX; simp
  have h1 := firstB_len hg
  have hu : (DiskM.fresh room).used = 0 := rfl
  rw [put1_all (ok_fresh room hr2) (fun j e => by cases e) (by rw [hl]; omega) (by rw [hl]; omega) rfl (by rw [hu]; show 0 + _ ≤ room; omega) (show 0 < 4096 by decide)]
  rfl

/-- What an empty disk opens as. -/
theorem jopen_fresh {room : Nat} (hr : 200 ≤ room) (hr2 : room ≤ 1073741824) {pre : Bs} (hp : 1 ≤ pre.length ∧ pre.length ≤ 20) {g : List Int} (hg : isGrp g = true) :
    jouOpen (DiskM.fresh room) pre g = (diskJ0 room pre g, 0, JouM.none0 g) := by
  obtain ⟨O⟩ := opensJ_of (DiskM.fresh room) pre g
  have a1 := O.h1
  have a2 := O.h2
  have a3 := O.hs
  have a4 := O.hl
  have b1 : (DiskM.fresh room).rid1 (shadowN (logN pre)) = (DiskM.fresh room, 0) := rfl
  rw [b1] at a1
  have d1 : DiskM.fresh room = O.D1 := congrArg Prod.fst a1
  have e1 : 0 = O.e1 := congrArg Prod.snd a1
  rw [← d1] at a2
  have b2 : (DiskM.fresh room).rid1 (shadowN (snpN pre)) = (DiskM.fresh room, 0) := rfl
  rw [b2] at a2
  have d2 : DiskM.fresh room = O.D2 := congrArg Prod.fst a2
  have e2 : 0 = O.e2 := congrArg Prod.snd a2
  rw [← d2] at a3 a4
  have b3 : snapOf (Sat.get (snpN pre) (DiskM.fresh room).files) = (0, none) := snapOf_7 loadE_none
  rw [b3] at a3
  have b4 : readLogJ (DiskM.fresh room) pre (JouM.none0 g) = (DiskM.fresh room, 0, true, JouM.none0 g) := rfl
  rw [b4] at a4
  have hw : writesJ (DiskM.fresh room) pre (JouM.none0 g) = (diskJ0 room pre g, 0) := by
    unfold writesJ
    rw [rows_none0, save_fresh hr hr2 hp hg]
  have hok : ¬ (pre.length < 1 ∨ 20 < pre.length ∨ isGrp g = false) := by
    rintro (h | h | h)
    · omega
    · omega
    · rw [hg] at h
      cases h
  rw [oj_anew O hok e1.symm e2.symm (by rw [← a3]) (by rw [← a4]) (M := JouM.none0 g) (by rw [← a3, ← a4]; rfl), ← a4, hw]
end Go.Proofs.YtngflpaooppmhaaGreat

namespace Go.Proofs.YtngflpaooppmhaaGreat
open Go.RowKit Go.Sat Go.Maps

def wh (c : Bs) : FileM := ⟨c, c.length⟩
def snpL (s : Option Bs) : List (Bs × FileM) := match s with
  | none => []
  | some b => [(snpN [97], wh b)]
/-- The disk of a journal "a". -/
def dJ (room : Nat) (c : Bs) (s : Option Bs) : DiskM := ⟨room, (logN [97], wh c) :: snpL s, none⟩

section
variable {room : Nat} {c b : Bs} {s : Option Bs}

theorem dj_log : Sat.get (logN [97]) (dJ room c s).files = some (wh c) := by cases s <;> rfl
theorem dj_shl : Sat.get (shadowN (logN [97])) (dJ room c s).files = none := by cases s <;> rfl
theorem dj_shs : Sat.get (shadowN (snpN [97])) (dJ room c s).files = none := by cases s <;> rfl
theorem dj_snp : Sat.get (snpN [97]) (dJ room c s).files = s.map wh := by cases s <;> rfl
theorem dj_used : (dJ room c s).used = c.length + (match s with | none => 0 | some b => b.length) := by
  cases s with
  | none => rfl
  | some b =>
    show c.length + (b.length + 0) = _
    rw [Nat.add_zero]
/-- Records are laid behind the log's. -/
theorem lay_dj (hroom : (dJ room c s).used + b.length ≤ room) : layOn (dJ room c s) (logN [97]) b = (dJ room (c ++ b) s, 0) := by
  have hm : (dJ room c s).may [logN [97]] = 0 := rfl
  have hfu : (dJ room c s).full (logN [97]) b = false := by
    unfold DiskM.full
    rw [dj_log]
    simp only [Option.isNone_some, Bool.false_and, Bool.or_false, decide_eq_false_iff_not]
    show ¬ room < _
    omega
  have h1 : (dJ room c s).append (logN [97]) b = (⟨room, (logN [97], ⟨c ++ b, c.length⟩) :: snpL s, none⟩, 0) := by
    unfold DiskM.append
    rw [if_neg (by rw [hm]; simp), if_neg (by rw [hfu]; simp)]
    have hcur : (dJ room c s).cur (logN [97]) = wh c := by unfold DiskM.cur; rw [dj_log]; rfl
    rw [hcur]
    cases s <;> rfl
  unfold layOn
  rw [h1, if_neg (by simp)]
  cases s <;> rfl

theorem crash_dj (k : Int) : (dJ room c s).crash k = dJ room c s := by
  have h1 : ∀ x : Bs, DiskM.crashF k (wh x) = wh x := fun x => crash_whole x k
  unfold dJ DiskM.crash
  cases s with
  | none =>
    show (⟨room, [(logN [97], DiskM.crashF k (wh c))], none⟩ : DiskM) = _
    rw [h1]
    rfl
  | some b =>
    show (⟨room, [(logN [97], DiskM.crashF k (wh c)), (snpN [97], DiskM.crashF k (wh b))], none⟩ : DiskM) = _
    rw [h1, h1]
    rfl
end
end Go.Proofs.YtngflpaooppmhaaGreat

namespace Go.Proofs.YtngflpaooppmhaaGreat
open Go.RowKit Go.Sat Go.Maps

/-- The bytes of a snapshot. -/
def Snap.bytes (s : Snap) : Bs := snpB s.number s.term s.group s.data
theorem snapIs_bytes {s : Snap} (h : s.OK) (h1 : 1 ≤ s.number) (hd : s.data.length ≤ 524288) : snapIs s.bytes = some s := by
  have ht := isTm_iff.1 h.term
  have hg := grp_bound h.group
  have hn := h.number
  have hb : s.bytes = numB s.number ++ (numI s.term ++ (grpB s.group ++ (rowB s.data ++ []))) := by simp [Snap.bytes, snpB]
  rw [hb]
  unfold snapIs
  dsimp only
  rw [Rd.num_of (by omega)]
  dsimp only
  rw [rd_int ht.1 (by omega)]
  dsimp only
  rw [grp_of hg.1 hg.2 h.group]
  dsimp only
  rw [Rd.bytes_of (by omega)]
  dsimp only
  rw [if_pos ⟨whole_of false, h1, hn, by omega, hd⟩, Int.toNat_of_nonneg ht.1]

theorem snapOf_bytes {s : Snap} (h : s.OK) (h1 : 1 ≤ s.number) (hd : s.data.length ≤ 524288) (hl : s.bytes.length ≤ 1048576) : snapOf (some (wh (frameN s.bytes))) = (0, some s) := by
  obtain ⟨a, b⟩ := load_frame s.bytes hl (frameN s.bytes).length
  rw [show (wh (frameN s.bytes)) = ⟨frameN s.bytes, (frameN s.bytes).length⟩ from rfl, snapOf_0 a, b, snapIs_bytes h h1 hd]

/-- What a snapshot's file is. -/
def snapF (s : Option Snap) : Option Bs := s.map fun s => frameN s.bytes
def SnapOK (s : Option Snap) : Prop := ∀ x, s = some x → x.OK ∧ 1 ≤ x.number ∧ x.data.length ≤ 524288 ∧ x.bytes.length ≤ 1048576

theorem open_dj {room : Nat} {ls : List Bs} {s : Option Snap} {g : List Int} {M0 M : JouM} (hg : isGrp g = true) (hls : ∀ l ∈ ls, l.length ≤ 1048576) (hs : SnapOK s) (h0 : recAll (JouM.none0 g) ls = some M0) (hj : joins s M0 false = some (false, M)) :
    jouOpen (dJ room (recsB ls) (snapF s)) [97] g = (dJ room (recsB ls) (snapF s), 0, M) := by
  obtain ⟨O⟩ := opensJ_of (dJ room (recsB ls) (snapF s)) [97] g
  have a1 := O.h1
  have a2 := O.h2
  have a3 := O.hs
  have a4 := O.hl
  have b1 : (dJ room (recsB ls) (snapF s)).rid1 (shadowN (logN [97])) = (dJ room (recsB ls) (snapF s), 0) := by unfold DiskM.rid1; rw [dj_shl]; rfl
  rw [b1] at a1
  have d1 : dJ room (recsB ls) (snapF s) = O.D1 := congrArg Prod.fst a1
  have e1 : 0 = O.e1 := congrArg Prod.snd a1
  rw [← d1] at a2
  have b2 : (dJ room (recsB ls) (snapF s)).rid1 (shadowN (snpN [97])) = (dJ room (recsB ls) (snapF s), 0) := by unfold DiskM.rid1; rw [dj_shs]; rfl
  rw [b2] at a2
  have d2 : dJ room (recsB ls) (snapF s) = O.D2 := congrArg Prod.fst a2
  have e2 : 0 = O.e2 := congrArg Prod.snd a2
  rw [← d2] at a3 a4
  have b3 : snapOf (Sat.get (snpN [97]) (dJ room (recsB ls) (snapF s)).files) = (0, s) := by
    rw [dj_snp]
    cases s with
    | none => exact snapOf_7 loadE_none
    | some x =>
      obtain ⟨q1, q2, q3, q4⟩ := hs x rfl
      exact snapOf_bytes q1 q2 q3 q4
  rw [b3] at a3
  have hsc := scan_recs ls [] hls (.inl rfl)
  rw [List.append_nil] at hsc
  have b4 : readLogJ (dJ room (recsB ls) (snapF s)) [97] (JouM.none0 g) = (dJ room (recsB ls) (snapF s), 0, false, M0) := by
    unfold readLogJ
    rw [dj_log]
    dsimp only
    rw [show (wh (recsB ls)).data = recsB ls from rfl, hsc]
    dsimp only
    rw [h0]
    dsimp only
    have ht : tornOff (dJ room (recsB ls) (snapF s)) (logN [97]) (recsB ls).length (recsB ls).length = (dJ room (recsB ls) (snapF s), 0) := by unfold tornOff; rw [if_neg (by omega)]
    rw [ht]
  rw [b4] at a4
  have hok : ¬ ((([97] : Bs).length) < 1 ∨ 20 < ([97] : Bs).length ∨ isGrp g = false) := by
    rintro (h | h | h)
    · exact absurd h (by decide)
    · exact absurd h (by decide)
    · rw [hg] at h
      cases h
  rw [oj_keep O hok e1.symm e2.symm (by rw [← a3]) (by rw [← a4]) (M := M) (by rw [← a3, ← a4]; exact hj), ← a4]
end Go.Proofs.YtngflpaooppmhaaGreat

namespace Go.Proofs.YtngflpaooppmhaaGreat
open Go.RowKit Go.Sat Go.Maps

/-- Data is no part of what records say. -/
def JouM.dat (M : JouM) (d : Bs) : JouM := { M with data := d }
theorem rec1_dat (f : Bool) (M : JouM) (d : Bs) (p : Bs) : rec1 f (M.dat d) p = (rec1 f M p).map (·.dat d) := by
  cases p with
  | nil => rfl
  | cons k r =>
    unfold rec1
    dsimp only
    have hm : ∀ t v, (M.dat d).mayVote t v = M.mayVote t v := fun _ _ => rfl
    have hl : (M.dat d).last = M.last := rfl
    have hn : (M.dat d).number = M.number := rfl
    have he : (M.dat d).entries = M.entries := rfl
    rw [hm, hl, hn, he]
    repeat' split
    all_goals first
      | rfl
      | (exfalso; simp_all; done)
theorem recGo_dat : ∀ (l : List Bs) (M : JouM) (d : Bs), recGo (M.dat d) l = (recGo M l).map (·.dat d)
  | [], _, _ => rfl
  | p :: r, M, d => by
    show (rec1 false (M.dat d) p).bind (fun M' => recGo M' r) = ((rec1 false M p).bind fun M' => recGo M' r).map (·.dat d)
    rw [rec1_dat]
    cases rec1 false M p with
    | none => rfl
    | some M1 => exact recGo_dat r M1 d

/-- A journal of a law's own: its disk says what it is. -/
structure Kept5 (room : Nat) (g : List Int) (M : JouM) (D : DiskM) (u : Nat) : Prop where
  ex : ∃ ls s M0, D = dJ room (recsB ls) (snapF s) ∧ (∀ l ∈ ls, l.length ≤ 1048576) ∧ SnapOK s ∧ recAll (JouM.none0 g) ls = some M0 ∧ joins s M0 false = some (false, M)
  used : D.used ≤ u
  grp : isGrp g = true
  alive : M.dead = false

theorem Kept5.open {room : Nat} {g : List Int} {M : JouM} {D : DiskM} {u : Nat} (h : Kept5 room g M D u) : jouOpen D [97] g = (D, 0, M) := by
  obtain ⟨⟨ls, s, M0, rfl, h1, h2, h3, h4⟩, -, hg, -⟩ := h
  exact open_dj hg h1 h2 h3 h4
theorem Kept5.crash {room : Nat} {g : List Int} {M : JouM} {D : DiskM} {u : Nat} (h : Kept5 room g M D u) (k : Int) : D.crash k = D := by
  obtain ⟨⟨ls, s, M0, rfl, -⟩, -⟩ := h
  exact crash_dj k

theorem joins_is {s : Option Snap} {M0 M : JouM} (h : joins s M0 false = some (false, M)) : M = M0.dat M.data ∧ (∀ M', M'.number = M0.number → joins s M' false = some (false, match s with | none => M' | some x => M'.dat x.data)) ∧ (∀ x, s = some x → M.data = x.data) ∧ (s = none → M = M0) := by
  unfold joins at h
  cases s with
  | none =>
    dsimp only at h
    split at h
    · cases h
    · rename_i hn
      have e : M0 = M := congrArg Prod.snd (Option.some.inj h)
      subst e
      refine ⟨rfl, fun M' hM => ?_, fun x hx => (by cases hx), fun _ => rfl⟩
      unfold joins
      dsimp only
      rw [hM, if_neg hn]
  | some x =>
    dsimp only at h
    split at h
    · have e : true = false := congrArg Prod.fst (Option.some.inj h)
      cases e
    · rename_i h1
      split at h
      · cases h
      · rename_i h2
        have e : ({ M0 with data := x.data } : JouM) = M := congrArg Prod.snd (Option.some.inj h)
        subst e
        refine ⟨rfl, fun M' hM => ?_, fun y hy => (by cases hy; rfl), fun hx => (by cases hx)⟩
        unfold joins
        dsimp only
        rw [if_neg (by rw [hM]; exact h1), if_neg (by rw [hM]; exact h2)]
        rfl

/-- Records are laid behind the log's. -/
theorem keep_lay {room : Nat} {g : List Int} {M M' : JouM} {D : DiskM} {u : Nat} {rs : List Bs} (h : Kept5 room g M D u) (hrs : ∀ l ∈ rs, l.length ≤ 1048576) (hrec : recGo M rs = some M') (hnum : M'.number = M.number) (_hdat : M'.data = M.data) (hal : M'.dead = false) (hu : u + (recsB rs).length ≤ room) :
    ∃ D', laysJ [97] D M rs M' = ⟨D', M', 0⟩ ∧ Kept5 room g M' D' (u + (recsB rs).length) := by
  obtain ⟨⟨ls, s, M0, rfl, h1, h2, h3, h4⟩, hus, hg, ha⟩ := h
  obtain ⟨hM, hJ, hJd, hJn⟩ := joins_is h4
  have hlay := lay_dj (room := room) (c := recsB ls) (b := recsB rs) (s := snapF s) (by omega)
  refine ⟨dJ room (recsB ls ++ recsB rs) (snapF s), ?_, ⟨?_, ?_, hg, hal⟩⟩
  · unfold laysJ
    rw [hlay]
    exact if_neg (by simp)
  · have hr0 : (recGo M0 rs).map (·.dat M.data) = some M' := by rw [← recGo_dat, ← hM, hrec]
    cases hq : recGo M0 rs with
    | none => rw [hq] at hr0; cases hr0
    | some M1 =>
      rw [hq] at hr0
      have e1 : M1.dat M.data = M' := Option.some.inj hr0
      have n1 : M1.number = M0.number := by
        have a : M'.number = M1.number := by rw [← e1]; rfl
        have b : M.number = M0.number := by rw [hM]; rfl
        omega
      refine ⟨ls ++ rs, s, M1, by rw [recsB_app], fun l hl => ?_, h2, ?_, ?_⟩
      · exact (List.mem_append.1 hl).elim (h1 l) (hrs l)
      · rw [recAll_app h3, hq]
      · rw [hJ M1 n1]
        cases s with
        | none =>
          have e0 := hJn rfl
          rw [e0, hq] at hrec
          rw [Option.some.inj hrec]
        | some x =>
          show some (false, M1.dat x.data) = _
          rw [← hJd x rfl, e1]
  · rw [dj_used] at hus ⊢
    rw [List.length_append]
    cases s with
    | none => simp only [snapF, Option.map_none] at hus ⊢; omega
    | some x => simp only [snapF, Option.map_some] at hus ⊢; omega
end Go.Proofs.YtngflpaooppmhaaGreat

namespace Go.Proofs.YtngflpaooppmhaaGreat
open Go.RowKit Go.Sat Go.Maps

theorem keep_start {room : Nat} {g : List Int} (hg : isGrp g = true) : Kept5 room g (JouM.none0 g) (diskJ0 room [97] g) 150 := by
  refine ⟨⟨(JouM.none0 g).rows, none, JouM.none0 g, by rw [rows_none0]; rfl, fun l hl => ?_, fun x hx => (by cases hx), ?_, rfl⟩, ?_, hg, rfl⟩
  · have h1 := firstB_len hg
    unfold firstB at h1
    rw [List.length_append, frame_len, frame_len] at h1
    rcases (show l = fstB 0 0 g ∨ l = trmB 0 (-1) from by simpa [JouM.rows, JouM.none0, entsB] using hl) with rfl | rfl <;> omega
  · have := rec_rows (M := JouM.none0 g) (N := JouM.none0 g) (Nat.zero_le _) rfl hg rfl ⟨Int.le_refl _, show (-1 : Int) < 7 by decide⟩ (fun e he => by cases he) rfl rfl rfl
    exact this
  · have h1 := firstB_len hg
    show (dJ room (firstB g) none).used ≤ 150
    rw [dj_used]
    exact h1

section
variable {room : Nat} {g : List Int} {M : JouM} {D : DiskM} {u : Nat}

theorem term_go (h : Kept5 room g M D u) {t v : Int} (hm : M.mayVote t v = true) (hs : ¬ (t = M.now ∧ v = M.vote)) (h0 : 0 ≤ M.now) (hu : u + 31 ≤ room) :
    ∃ D', jouTerm [97] D M t v = ⟨D', { M with now := t, vote := v }, 0⟩ ∧ Kept5 room g { M with now := t, vote := v } D' (u + 31) := by
  have hl := trmB_len t v
  have hrl : (recsB [trmB t v]).length = (trmB t v).length + 12 := recs_one_len _
  obtain ⟨D', h1, h2⟩ := keep_lay (M' := { M with now := t, vote := v }) (rs := [trmB t v]) h (fun l hl2 => by rw [List.mem_singleton.1 hl2]; omega) (by
    show (rec1 false M (trmB t v)).bind (fun M' => recGo M' []) = _
    rw [rec_trm hm h0]
    rfl) rfl rfl h.alive (by omega)
  refine ⟨D', ?_, ⟨h2.ex, by have := h2.used; omega, h2.grp, h2.alive⟩⟩
  unfold jouTerm
  rw [if_neg (show ¬ M.dead = true by rw [h.alive]; simp), hm, if_neg (by simp), if_neg hs]
  exact h1

theorem app_go (h : Kept5 room g M D u) {es : List Ent} (he : es ≠ []) (hall : ∀ e ∈ es, isEnt e = true) (hla : M.last + es.length ≤ 1099511627776) (hu : u + 65812 * es.length ≤ room ∨ u + (recsB (entsB M.last es)).length ≤ room) :
    ∃ D', jouAppend [97] D M es = ⟨D', { M with entries := M.entries ++ es }, 0⟩ ∧ Kept5 room g { M with entries := M.entries ++ es } D' (u + (recsB (entsB M.last es)).length) := by
  have hrl := entsB_rows M.last es hall (by omega)
  have hle := recsB_le (c := 65800) (entsB M.last es) hrl
  rw [entsB_len] at hle
  obtain ⟨D', h1, h2⟩ := keep_lay (M' := { M with entries := M.entries ++ es }) (rs := entsB M.last es) h (fun l hl => Nat.le_trans (hrl l hl) (by decide)) (recGo_ents es M hall hla) rfl rfl h.alive (by rcases hu with hu | hu <;> omega)
  refine ⟨D', ?_, h2⟩
  unfold jouAppend
  rw [if_neg (show ¬ M.dead = true by rw [h.alive]; simp), if_neg (fun h3 => h3.elim (fun h4 => by omega) fun h4 => by rw [List.all_eq_true.2 hall] at h4; cases h4), if_neg he]
  exact h1

end
end Go.Proofs.YtngflpaooppmhaaGreat

namespace Go.Proofs.YtngflpaooppmhaaGreat
open Go.RowKit Go.Sat Go.Maps

/-- What a node says beside its journal; what was settled: the question and the number. -/
structure RaS where
  role : Int
  leader : Int
  commit : Nat
  taken : Nat
  wait : Int
  round : Nat
  votes : Value
  qs : List (Int × Nat)
  wq : List (Int × Nat × Nat)
def readsV : List (Int × Nat) → List Value
  | [] => []
  | q :: r => .int .i64 q.1 :: .int .i64 (q.2 : Int) :: .bool true :: readsV r
theorem readsV_app : ∀ l m : List (Int × Nat), readsV (l ++ m) = readsV l ++ readsV m
  | [], _ => rfl
  | q :: r, m => by
    show _ :: _ :: _ :: readsV (r ++ m) = _ :: _ :: _ :: (readsV r ++ readsV m)
    rw [readsV_app r m]
def RaO (j : Nat) (id : Int) (s : RaS) (pv wv sv : Value) : Obj :=
  .cells #[.pointer (some ⟨j, 0, none⟩), .int .i64 id, .int .i64 s.role, .int .i64 s.leader, .int .i64 (s.commit : Int), .int .i64 (s.taken : Int), .int .i64 s.wait, s.votes, pv, .int .i64 (s.round : Int), wv, sv, .bool false, .int .i64 0, .int .i64 0, .int .i64 0, .slice none 0 0, .slice none 0 0, .slice none 0 0, .bool false] 73 (0, 0)
def waitV : List (Int × Nat × Nat) → List Value
  | [] => []
  | q :: r => .int .i64 q.1 :: .int .i64 (q.2.1 : Int) :: .int .i64 (q.2.2 : Int) :: waitV r
/-- A row of questions, somewhere in a block, with room behind it. -/
def RowQ (w : World) (v : Value) (l : List (Int × Nat × Nat)) : Prop := (v = .slice none 0 0 ∧ l = []) ∨ ∃ g o cap cur, v = .slice (some ⟨g, o, none⟩) l.length cap ∧ w.heap[g]? = some (.cells cur 82 (0, 0)) ∧ cap ≤ maxLen ∧ l.length ≤ cap ∧ o + cap * 3 ≤ cur.size ∧ ∀ (i : Nat) u, (waitV l)[i]? = some u → cur[o + i]? = some u
theorem RowQ.keep {w w' : World} {v : Value} {l : List (Int × Nat × Nat)} (h : RowQ w v l) (hs : ∀ k, v.ownBlock = some k → w'.heap[k]? = w.heap[k]?) : RowQ w' v l := by
  rcases h with h | ⟨g, o, cap, cur, rfl, h1, h2⟩
  · exact .inl h
  · exact .inr ⟨g, o, cap, cur, rfl, (hs g rfl).trans h1, h2⟩
theorem RowQ.lt {w : World} {v : Value} {l : List (Int × Nat × Nat)} (h : RowQ w v l) {k : Nat} (hk : v.ownBlock = some k) : k < w.heap.size := by
  rcases h with ⟨rfl, -⟩ | ⟨g, o, cap, cur, rfl, h1, h2⟩
  · cases hk
  · cases hk
    exact lt_of_block h1

theorem below_dqa {B : Nat} (w : World) (q : Nat) : Below B w (w.drewN q) := ⟨rfl, rfl, rfl, Nat.le_refl _, fun _ _ => rfl⟩
/-- A node at block r over a journal of a law's own at block j. -/
structure RaIn (w w1 : World) (r j : Nat) (id : Int) (s : RaS) (pv wv sv : Value) (F : Nat → Prop) : Prop where
  cells : w1.heap[r]? = some (RaO j id s pv wv sv)
  rge : w.heap.size ≤ r
  nF : ¬ F r
  ow : RowQ w1 wv s.wq
  os : OwnR w1 49 3 sv s.qs.length (readsV s.qs)
  nw : ∀ k, wv.ownBlock = some k → w.heap.size ≤ k ∧ k ≠ r ∧ ¬ F k
  ns : ∀ k, sv.ownBlock = some k → w.heap.size ≤ k ∧ k ≠ r ∧ ¬ F k ∧ wv.ownBlock ≠ some k
def RaB (r : Nat) (wv sv : Value) (F : Nat → Prop) (k : Nat) : Prop := F k ∨ k = r ∨ wv.ownBlock = some k ∨ sv.ownBlock = some k
def RaF (w w1 : World) (r j d : Nat) (id : Int) (D : DiskM) (M : JouM) (s : RaS) (F : Nat → Prop) : Prop :=
  ∃ pv wv sv, JouF w w1 j d sA D M (RaB r wv sv F) ∧ RaIn w w1 r j id s pv wv sv F

section
variable {w w1 w2 : World} {r j d : Nat} {id : Int} {D D' : DiskM} {M M' : JouM} {s s' : RaS} {F F' : Nat → Prop} {pv wv sv : Value}
theorem RaIn.same (h : RaIn w w1 r j id s pv wv sv F) (hs : ∀ k, RaB r wv sv F k → w2.heap[k]? = w1.heap[k]?) : RaIn w w2 r j id s pv wv sv F where
  cells := (hs r (.inr (.inl rfl))).trans h.cells
  rge := h.rge
  nF := h.nF
  ow := h.ow.keep fun k hk => hs k (.inr (.inr (.inl hk)))
  os := h.os.keep fun k hk => hs k (.inr (.inr (.inr hk)))
  nw := h.nw
  ns := h.ns
theorem RaIn.lt (h : RaIn w w1 r j id s pv wv sv F) {k : Nat} (hk : k = r ∨ wv.ownBlock = some k ∨ sv.ownBlock = some k) : k < w1.heap.size := by
  rcases hk with rfl | hk | hk
  · exact lt_of_block h.cells
  · exact h.ow.lt hk
  · exact OwnR.lt h.os hk
theorem RaF.bel (h : RaF w w1 r j d id D M s F) : Below w.heap.size w w1 := let ⟨_, _, _, h, _⟩ := h; h.bel
theorem RaF.okM (h : RaF w w1 r j d id D M s F) : M.OK := let ⟨_, _, _, h, _⟩ := h; h.okM
theorem RaF.flt (h : RaF w w1 r j d id D M s F) {k : Nat} (hk : F k) : k < w1.heap.size := let ⟨_, _, _, h, _⟩ := h; h.flt (.inl hk)
theorem RaF.next (h : RaF w w1 r j d id D M s F) (hb : Below w1.heap.size w1 w2) : RaF w w2 r j d id D M s F := by
  obtain ⟨pv, wv, sv, hJ, hI⟩ := h
  exact ⟨pv, wv, sv, hJ.next hb, hI.same fun k hk => hb.block k (hJ.flt hk)⟩
theorem RaF.less (h : RaF w w1 r j d id D M s F) (hF : ∀ k, F' k → F k) : RaF w w1 r j d id D M s F' := by
  obtain ⟨pv, wv, sv, hJ, hI⟩ := h
  exact ⟨pv, wv, sv, hJ.less fun k hk => hk.imp (hF k) fun e => e, ⟨hI.cells, hI.rge, fun e => hI.nF (hF _ e), hI.ow, hI.os, fun k hk => ⟨(hI.nw k hk).1, (hI.nw k hk).2.1, fun e => (hI.nw k hk).2.2 (hF _ e)⟩, fun k hk => ⟨(hI.ns k hk).1, (hI.ns k hk).2.1, fun e => (hI.ns k hk).2.2.1 (hF _ e), (hI.ns k hk).2.2.2⟩⟩⟩
/-- What is new is set apart too. -/
theorem RaF.box (h : RaF w w1 r j d id D M s F) (o : Obj) : RaF w (w1.alloc o) r j d id D M s (fun k => F k ∨ k = w1.heap.size) := by
  obtain ⟨pv, wv, sv, hJ, hI⟩ := h
  have hb := below_one w1 o
  have hI2 := hI.same (w2 := w1.alloc o) fun k hk => hb.block k (hJ.flt hk)
  have hne : ∀ k, (k = r ∨ wv.ownBlock = some k ∨ sv.ownBlock = some k) → k ≠ w1.heap.size := fun k hk => by have := hI.lt hk; omega
  refine ⟨pv, wv, sv, (hJ.box o).less fun k hk => ?_, ⟨hI2.cells, hI2.rge, fun e => e.elim hI.nF fun e => hne r (.inl rfl) e, hI2.ow, hI2.os, fun k hk => ⟨(hI.nw k hk).1, (hI.nw k hk).2.1, fun e => e.elim (hI.nw k hk).2.2 fun e => hne k (.inr (.inl hk)) e⟩, fun k hk => ⟨(hI.ns k hk).1, (hI.ns k hk).2.1, fun e => e.elim (hI.ns k hk).2.2.1 fun e => hne k (.inr (.inr hk)) e, (hI.ns k hk).2.2.2⟩⟩⟩
  rcases hk with (hk | hk) | hk
  · exact .inl (.inl hk)
  · exact .inr hk
  · exact .inl (.inr hk)
/-- A thing done with the journal. -/
theorem ra_jou {P : Program} {f : FuncId} {args : Array Value} {Q : Ending → Prop} (h : RaF w w1 r j d id D M s F) (hx : ∀ G, (∀ k, F k → G k) → JouF w w1 j d sA D M G → Calls P f args w1 fun e w' => Q e ∧ JouF w w' j d sA D' M' G ∧ Same G w1 w') :
    Calls P f args w1 fun e w' => Q e ∧ RaF w w' r j d id D' M' s F ∧ Same F w1 w' := by
  obtain ⟨pv, wv, sv, hJ, hI⟩ := h
  refine (hx _ (fun k hk => .inl hk) hJ).mono ?_
  rintro e w' ⟨hq, hJ', hs⟩
  exact ⟨hq, ⟨pv, wv, sv, hJ', hI.same fun k hk => hs k hk⟩, fun k hk => hs k (.inl hk)⟩
theorem ra_q {P : Program} {f : FuncId} {args : Array Value} {Q : Ending → World → Prop} (h : RaF w w1 r j d id D M s F) (hx : ∀ G, JouF w w1 j d sA D M G → Calls P f args w1 Q) : Calls P f args w1 Q :=
  let ⟨_, _, _, hJ, _⟩ := h
  hx _ hJ
theorem RaF.cells (h : RaF w w1 r j d id D M s F) : ∃ pv wv sv, w1.heap[r]? = some (RaO j id s pv wv sv) := let ⟨pv, wv, sv, _, hI⟩ := h; ⟨pv, wv, sv, hI.cells⟩
/-- One of the node's own cells is written. -/
theorem RaF.set (h : RaF w w1 r j d id D M s F) (i : Nat) (v : Value) (hv : ∀ pv wv sv, ∃ pv', (match RaO j id s pv wv sv with | .cells c t fr => Obj.cells (c.setIfInBounds i v) t fr | o => o) = RaO j id s' pv' wv sv) (hq : (s'.qs, s'.wq) = (s.qs, s.wq)) : RaF w (w1.setCell ⟨r, i, none⟩ v) r j d id D M s' F := by
  obtain ⟨pv, wv, sv, hJ, hI⟩ := h
  obtain ⟨pv', he⟩ := hv pv wv sv
  obtain ⟨hq1, hq2⟩ := Prod.mk.inj hq
  have hc := Chg.setCell w1 ⟨r, i, none⟩ v
  have hnew : (w1.setCell ⟨r, i, none⟩ v).heap[r]? = some (RaO j id s' pv' wv sv) := by
    rw [← he]
    exact set_block hI.cells i v
  refine ⟨pv', wv, sv, hJ.move hc (fun k _ e => ?_) fun k hk => ⟨.inl hk, Nat.lt_of_lt_of_le (hJ.flt hk) hc.size⟩, ⟨hnew, hI.rge, hI.nF, by rw [hq2]; exact hI.ow.keep fun k hk => set_other _ (hI.nw k hk).2.1, by rw [hq1]; exact hI.os.keep fun k hk => set_other _ (hI.ns k hk).2.1, hI.nw, hI.ns⟩⟩
  have e : k = r := e
  rw [e]
  exact ⟨.inr (.inl rfl), hI.rge⟩
theorem RaF.same_set (h : RaF w w1 r j d id D M s F) (i : Nat) (v : Value) : Same F w1 (w1.setCell ⟨r, i, none⟩ v) := fun k hk => set_other _ fun e => by
  obtain ⟨pv, wv, sv, hJ, hI⟩ := h
  have e : k = r := e
  exact hI.nF (e ▸ hk)
end
end Go.Proofs.YtngflpaooppmhaaGreat

namespace Go.Proofs.YtngflpaooppmhaaGreat
open Go.RowKit Go.Sat Go.Maps

section
variable {w w1 w2 : World} {r j d : Nat} {id : Int} {D D' : DiskM} {M M' : JouM} {s s' : RaS} {F F' : Nat → Prop}
theorem isnode_calls (w : World) (n : Int) : Calls Tryz.prog 20 #[.int .i64 n] w fun e w' => e = .returned (.bool (decide (0 ≤ n ∧ n < 7))) ∧ w' = w := by
  by_cases h0 : 0 ≤ n
  · by_cases h1 : n < 7
    · have hd : decide (0 ≤ n ∧ n < 7) = true := decide_eq_true ⟨h0, h1⟩
      have d1 : decide (n < 7) = true := decide_eq_true h1
      have d0 : decide (0 ≤ n) = true := decide_eq_true h0
      rw [hd]
      go_enter Tryz.func20, Tryz.ntmps20
      go_wp2_with fail
      go_ret
      exact ⟨by simp [d0, d1], rfl⟩
    · have hd : decide (0 ≤ n ∧ n < 7) = false := decide_eq_false fun h => h1 h.2
      have d1 : decide (n < 7) = false := decide_eq_false h1
      have d0 : decide (0 ≤ n) = true := decide_eq_true h0
      rw [hd]
      go_enter Tryz.func20, Tryz.ntmps20
      go_wp2_with fail
      go_ret
      exact ⟨by simp [d0, d1], rfl⟩
  · have hd : decide (0 ≤ n ∧ n < 7) = false := decide_eq_false fun h => h0 h.1
    have d0 : decide (0 ≤ n) = false := decide_eq_false h0
    rw [hd]
    go_enter Tryz.func20, Tryz.ntmps20
    go_wp2_with fail
    go_ret
    exact ⟨by simp [d0], rfl⟩

set_option maxRecDepth 100000 in
set_option maxHeartbeats 4000000 in
theorem ranow_calls (h : RaF w w1 r j d id D M s F) : Calls Tryz.prog 76 #[.pointer (some ⟨r, 0, none⟩)] w1 fun e w' => e = .returned (.tuple #[.int .i64 M.vote, .int .i64 M.now]) ∧ ∃ q, w' = w1.drewN q := by
  have Hte := Lib.hid (ra_q h fun G hJ => jterm_calls hJ)
  obtain ⟨pv, wv, sv, hc⟩ := h.cells
  have c0 := cell_of hc (i := 0) rfl
  clear h hc
  go_enter Tryz.func76, Tryz.ntmps76
  go_wp2_with fail
  refine Hte.out.mono ?_
  rintro e w2 ⟨rfl, q, rfl⟩
  go_wp2_with fail
  go_ret2
  exact ⟨rfl, q, rfl⟩
set_option maxRecDepth 100000 in
set_option maxHeartbeats 4000000 in
theorem raterm_calls (h : RaF w w1 r j d id D M s F) : Calls Tryz.prog 39 #[.pointer (some ⟨r, 0, none⟩)] w1 fun e w' => e = .returned (.int .i64 M.now) ∧ ∃ q, w' = w1.drewN q := by
  have Hte := Lib.hid (ranow_calls h)
  clear h
  go_enter Tryz.func39, Tryz.ntmps39
  go_wp2_with fail
  refine Hte.out.mono ?_
  rintro e w2 ⟨rfl, q, rfl⟩
  go_wp2_with fail
  go_ret
  exact ⟨rfl, q, rfl⟩
set_option maxRecDepth 100000 in
set_option maxHeartbeats 4000000 in
theorem ragroup_calls (h : RaF w w1 r j d id D M s F) : Calls Tryz.prog 29 #[.pointer (some ⟨r, 0, none⟩)] w1 fun e w' => ∃ v, e = .returned v ∧ OwnI w' v (M.grpIn M.entries.length).1 ∧ (∀ k, v.ownBlock = some k → w1.heap.size ≤ k) ∧ Below w1.heap.size w1 w' := by
  have Hno := Lib.hid (ra_q h fun G hJ => jnodes_calls hJ)
  obtain ⟨pv, wv, sv, hc⟩ := h.cells
  have c0 := cell_of hc (i := 0) rfl
  clear h hc
  go_enter Tryz.func29, Tryz.ntmps29
  go_wp2_with fail
  refine Hno.out.mono ?_
  rintro e w2 ⟨v, rfl, hv, hn, hb⟩
  have HE := Lib.hid (And.intro hv (And.intro hn hb))
  clear hv hn hb Hno
  go_wp2_with fail
  go_ret
  exact ⟨v, rfl, HE.out⟩
set_option maxRecDepth 100000 in
set_option maxHeartbeats 4000000 in
theorem rawaits_calls (h : RaF w w1 r j d id D M s F) (draw : Int) (hd : -9223372036854775808 ≤ draw ∧ draw ≤ 9223372036854775807) : Calls Tryz.prog 23 #[.pointer (some ⟨r, 0, none⟩), .int .i64 draw] w1 fun e w' => e = .returned (.tuple #[]) ∧ RaF w w' r j d id D M { s with wait := 10 + (max 0 draw) % 10 } F ∧ Same F w1 w' := by
  have H := Lib.hid (And.intro (h.set 6 (.int .i64 (10 + (max 0 draw) % 10)) (s' := { s with wait := 10 + (max 0 draw) % 10 }) (fun pv wv sv => ⟨pv, rfl⟩) rfl) (h.same_set 6 (.int .i64 (10 + (max 0 draw) % 10))))
  obtain ⟨pv, wv, sv, hc⟩ := h.cells
  have c6 := cell_of hc (i := 6) rfl
  have f6 := frozen_of hc 6
  have hm : 0 ≤ max 0 draw ∧ max 0 draw ≤ 9223372036854775807 := by omega
  have h1 : (max 0 draw).tmod 10 = max 0 draw % 10 := by rw [Int.tmod_eq_emod_of_nonneg hm.1]
  have h2 : IntKind.i64.wrap (10 + max 0 draw % 10) = 10 + max 0 draw % 10 := IntWalk.i64_in _ (by omega)
  have h3 : IntKind.i64.wrap (max 0 draw % 10) = max 0 draw % 10 := IntWalk.i64_in _ (by omega)
  clear h hc
  go_enter Tryz.func23, Tryz.ntmps23
  go_wp2_with fail
  go_end0
  exact ⟨rfl, H.out⟩
set_option maxRecDepth 100000 in
set_option maxHeartbeats 4000000 in
theorem rawritten_calls (w1 : World) (r : Nat) : Calls Tryz.prog 42 #[.pointer (some ⟨r, 0, none⟩), .int .i64 0] w1 fun e w' => e = .returned (.bool true) ∧ w' = w1 := by
  go_enter Tryz.func42, Tryz.ntmps42
  go_wp2_with fail
  go_ret
  exact ⟨rfl, rfl⟩
set_option maxRecDepth 100000 in
set_option maxHeartbeats 4000000 in
theorem rasent_calls (h : RaF w w1 r j d id D M s F) : Calls Tryz.prog 31 #[.pointer (some ⟨r, 0, none⟩)] w1 fun e w' => e = .returned (.slice none 0 0) ∧ RaF w w' r j d id D M s F ∧ Same F w1 w' := by
  have H := Lib.hid (And.intro (h.set 18 (.slice none 0 0) (s' := s) (fun pv wv sv => ⟨pv, rfl⟩) rfl) (h.same_set 18 (.slice none 0 0)))
  obtain ⟨pv, wv, sv, hc⟩ := h.cells
  have c18 := cell_of hc (i := 18) rfl
  have f18 := frozen_of hc 18
  clear h hc
  go_enter Tryz.func31, Tryz.ntmps31
  go_wp2_with fail
  go_ret
  exact ⟨rfl, H.out⟩
theorem ramay_calls (h : RaF w w1 r j d id D M s F) (hs : s.role = 0 ∨ s.role = 2) : Calls Tryz.prog 24 #[.pointer (some ⟨r, 0, none⟩)] w1 fun e w' => e = .returned (.int .i64 (if s.role = 2 then 0 else 11)) ∧ w' = w1 := by
  obtain ⟨pv, wv, sv, hc⟩ := h.cells
  have c2 := cell_of hc (i := 2) rfl
  have c19 := cell_of hc (i := 19) rfl
  clear h hc
  generalize s.role = ro at *
  rcases hs with rfl | rfl
  · go_enter Tryz.func24, Tryz.ntmps24
    go_wp2_with fail
    go_ret
    exact ⟨rfl, rfl⟩
  · go_enter Tryz.func24, Tryz.ntmps24
    go_wp2_with fail
    go_ret
    exact ⟨rfl, rfl⟩
end
end Go.Proofs.YtngflpaooppmhaaGreat

namespace Go.Proofs.YtngflpaooppmhaaGreat
open Go.RowKit Go.Sat Go.Maps
section
variable {w w1 w2 : World} {r j d : Nat} {id : Int} {D D' : DiskM} {M M' : JouM} {s s' : RaS} {F F' : Nat → Prop}
theorem other1_calls {W : World} {b r : Nat} {n id : Int} (hb : W.cell? ⟨b, 0, none⟩ = some (.pointer (some ⟨r, 0, none⟩))) (hr : W.cell? ⟨r, 1, none⟩ = some (.int .i64 id)) :
    Calls Tryz.prog 114 #[.int .i64 n, .pointer (some ⟨b, 0, none⟩)] W fun e w' => e = .returned (.bool (n == id)) ∧ w' = W := by
  go_enter Tryz.func114, Tryz.ntmps114
  go_wp2_with fail
  go_ret
  exact ⟨rfl, rfl⟩
set_option maxRecDepth 100000 in
set_option maxHeartbeats 4000000 in
theorem idx1_calls {W : World} {b r g c : Nat} {id : Int} (hb : W.cell? ⟨b, 0, none⟩ = some (.pointer (some ⟨r, 0, none⟩))) (hr : W.cell? ⟨r, 1, none⟩ = some (.int .i64 id)) (hg : W.cell? ⟨g, 0, none⟩ = some (.int .i64 id)) :
    Calls Tryz.prog 135 #[.slice (some ⟨g, 0, none⟩) 1 c, .func (.func 114) #[] #[.pointer (some ⟨b, 0, none⟩)]] W fun e w' => e = .returned (.int .i64 0) ∧ w' = W := by
  have Ho := Lib.hid (other1_calls (n := id) hb hr)
  have hid : (id == id) = true := by simp
  rw [hid] at Ho
  clear hid
  go_enter Tryz.func135, Tryz.ntmps135
  go_wp2_with fail
  go_loopw [8] (fun i wr => i = .int .i64 0 ∧ wr = W) (fun _ _ => 0)
  case atStart => exact ⟨rfl, rfl⟩
  case round =>
    obtain ⟨rfl, rfl⟩ := hrel
    go_wp2_with fail
    refine Ho.out.mono ?_
    rintro e w2 ⟨rfl, rfl⟩
    go_wp2_with fail
    go_ret
    exact ⟨rfl, rfl⟩
set_option maxRecDepth 100000 in
set_option maxHeartbeats 4000000 in
theorem del1_calls {W : World} {b r : Nat} {id : Int} {v : Value} (hb : W.cell? ⟨b, 0, none⟩ = some (.pointer (some ⟨r, 0, none⟩))) (hr : W.cell? ⟨r, 1, none⟩ = some (.int .i64 id)) (hv : OwnI W v [id]) :
    Calls Tryz.prog 113 #[v, .func (.func 114) #[] #[.pointer (some ⟨b, 0, none⟩)]] W fun e w' => ∃ p c, e = .returned (.slice p 0 c) ∧ Chg (fun k => v.ownBlock = some k) W w' := by
  rcases hv.2 with ⟨rfl, h0⟩ | ⟨g, cap, cur, rfl, hg, hnc, hcm, hcs, htk⟩
  · simp at h0
  have hc0 : W.cell? ⟨g, 0, none⟩ = some (.int .i64 id) := by
    have := OwnR.cells hv (g := g) rfl 0 (.int .i64 id) rfl
    rwa [add_zero] at this
  have f0 := frozen_of hg 0
  have Hi := Lib.hid (idx1_calls (c := cap) hb hr hc0)
  have hnc1 : 1 ≤ cap := hnc
  have hcl : ∀ ty, (Builtin.clear_ #[45] ty #[.slice (some ⟨g, 0, none⟩) 1 cap]).run Tryz.prog W = .ok (.tuple #[]) (W.setCell ⟨g, 0, none⟩ (.int .i64 0)) := fun ty => Lib.run_clear_slice W 45 3 ty (.int .i64 0) Tryz.underlying45 (fun w => by kernel_rfl) rfl rfl g 0 1 cap (by omega) (fun j hj => by
    obtain rfl : j = 0 := by omega
    rw [hc0]
    rfl) (fun j hj => by
    obtain rfl : j = 0 := by omega
    exact f0)
  have Hcl := Lib.hid hcl
  have Hc := Lib.hid (fun u => (Chg.setCell W ⟨g, 0, none⟩ u).mono (T := fun k => (Value.slice (some ⟨g, 0, none⟩) 1 cap).ownBlock = some k) fun k _ e => by rw [e]; rfl)
  clear hv hb hr hg hnc hcs htk hcl
  simp only [List.length_cons, List.length_nil, Nat.zero_add] at *
  go_enter Tryz.func113, Tryz.ntmps113
  go_wp2_with fail
  refine Hi.out.mono ?_
  rintro e w2 ⟨rfl, rfl⟩
  go_wp2_with fail
  go_loopw [5, 6] (fun i k wr => i = .int .i64 0 ∧ k = .int .i64 1 ∧ wr = w2) (fun _ _ _ => 0)
  case atStart => exact ⟨rfl, rfl, rfl⟩
  case round =>
    obtain ⟨rfl, rfl, rfl⟩ := hrel
    have hcl := Hcl.out
    go_wp2_with fail
    go_ret
    exact ⟨_, _, rfl, Hc.out _⟩
set_option maxRecDepth 100000 in
set_option maxHeartbeats 4000000 in
theorem raothers_calls (h : RaF w w1 r j d id D M s F) (hal : (M.grpIn M.entries.length).1 = [id]) : Calls Tryz.prog 62 #[.pointer (some ⟨r, 0, none⟩)] w1 fun e w' => ∃ p c, e = .returned (.slice p 0 c) ∧ Below w1.heap.size w1 w' := by
  have Hgr := Lib.hid (ragroup_calls (h.box (.cells #[.pointer (some ⟨r, 0, none⟩)] 29)))
  rw [hal] at Hgr
  obtain ⟨pv, wv, sv, hc⟩ := h.cells
  have Hlt := Lib.hid (lt_of_block hc)
  have Hr := Lib.hid (cell_of hc (i := 1) rfl)
  have Hb1 := Lib.hid (below_one w1 (.cells #[.pointer (some ⟨r, 0, none⟩)] 29))
  have Hnb := Lib.hid (cell_of (new_block w1 (.cells #[.pointer (some ⟨r, 0, none⟩)] 29)) (i := 0) rfl)
  clear h hc
  go_enter Tryz.func62, Tryz.ntmps62
  go_wp2_with fail
  refine Hgr.out.mono ?_
  rintro e w2 ⟨v, rfl, hv, hn, hb⟩
  have hb2 := Hb1.out.trans (hb.mono Hb1.out.size)
  have hbx : w2.cell? ⟨w1.heap.size, 0, none⟩ = some (.pointer (some ⟨r, 0, none⟩)) := (hb.cell (World.block_lt_of_cell? _ _ Hnb.out)).trans Hnb.out
  have hrx : w2.cell? ⟨r, 1, none⟩ = some (.int .i64 id) := (hb2.cell (World.block_lt_of_cell? _ _ Hr.out)).trans Hr.out
  have Hd := Lib.hid (del1_calls hbx hrx hv)
  have HN := Lib.hid (fun w' (hc : Chg (fun k => v.ownBlock = some k) w2 w') => hb2.trans (hc.below hb2.size fun k hk e => by have := hn k e; have := Hb1.out.size; omega))
  clear hv hn hb Hgr hb2 hbx hrx
  go_wp2_with fail
  refine Hd.out.mono ?_
  rintro e w3 ⟨p, c, rfl, hch⟩
  have HE := Lib.hid (HN.out _ hch)
  clear hch Hd
  go_wp2_with fail
  go_ret
  exact ⟨p, c, rfl, HE.out⟩
set_option maxRecDepth 100000 in
set_option maxHeartbeats 4000000 in
theorem rasendsAll_calls (h : RaF w w1 r j d id D M s F) (hal : (M.grpIn M.entries.length).1 = [id]) (hs : s.role = 2) : Calls Tryz.prog 27 #[.pointer (some ⟨r, 0, none⟩)] w1 fun e w' => e = .returned (.tuple #[]) ∧ Below w1.heap.size w1 w' := by
  have Ho := Lib.hid (raothers_calls h hal)
  obtain ⟨pv, wv, sv, hc⟩ := h.cells
  have c2 := cell_of hc (i := 2) rfl
  rw [hs] at c2
  clear h hc
  go_enter Tryz.func27, Tryz.ntmps27
  go_wp2_with fail
  refine Ho.out.mono ?_
  rintro e w2 ⟨p, c, rfl, hb⟩
  have Hb := Lib.hid hb
  clear hb Ho
  go_wp2_with fail
  go_loopw [12] (fun i wr => i = .int .i64 0 ∧ wr = w2) (fun _ _ => 0)
  case atStart => exact ⟨rfl, rfl⟩
  case round =>
    obtain ⟨rfl, rfl⟩ := hrel
    go_wp2_with fail
    go_end0
    exact ⟨rfl, Hb.out⟩
end
end Go.Proofs.YtngflpaooppmhaaGreat
