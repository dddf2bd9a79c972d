/- journal: may, Term, Base, Last, has, mayVote, ended. (Printed by mkj4.py.) journal: At, TermAt, groupAt, Nodes, Snapshot. (Printed by mkj5.py.) journal: At (no), TermAt, groupAt, Nodes, Snapshot. (Printed by mkj6.py.) journal: a Writer of a function's own; group, first, termRecord, entryRecord, framed. (Printed by mkj7.py.) journal: lays, SetTerm. (Printed by mkj8.py.) journal: SetTerm. (Printed by mkj9.py.) journal: Cut. (Printed by mkj10.py.) journal: rows that are gathered, entries handed in. (Printed by mkj11.py.) -/
import Derived.Test.YtngflpaooppmhaaGreatWC
import Derived.Test.YtngflpaooppmhaaGreatWD
namespace Go.Proofs.YtngflpaooppmhaaGreat
open Go.RowKit Go.Sat Go.Maps

section
variable {w w1 : World} {j d : Nat} {pre : ByteArray} {D : DiskM} {M : JouM} {F : Nat → Prop}

theorem jmay_calls (h : JouF w w1 j d pre D M F) : Calls Tryz.prog 87 #[.pointer (some ⟨j, 0, none⟩)] w1 fun e w' => e = .returned (.int .i64 (if M.dead then 9 else 0)) ∧ w' = w1 := by
  obtain ⟨own, gv, dv, ev, vs, hJ, hS, hn, hl⟩ := h
  have c9 := hJ.c 9 rfl
  clear hJ hS hn hl
  cases hd : M.dead with
  | true =>
    rw [hd] at c9
    go_enter Tryz.func87, Tryz.ntmps87
    go_wp2_with fail
    go_ret
    exact ⟨rfl, rfl⟩
  | false =>
    rw [hd] at c9
    go_enter Tryz.func87, Tryz.ntmps87
    go_wp2_with fail
    go_ret
    exact ⟨rfl, rfl⟩

theorem jterm_calls (h : JouF w w1 j d pre D M F) : Calls Tryz.prog 116 #[.pointer (some ⟨j, 0, none⟩)] w1 fun e w' => e = .returned (.tuple #[.int .i64 M.now, .int .i64 M.vote]) ∧ ∃ q, w' = w1.drewN q := by
  obtain ⟨own, gv, dv, ev, vs, hJ, hS, hn, hl⟩ := h
  have c5 := hJ.c 5 rfl
  have c6 := hJ.c 6 rfl
  clear hJ hS hn hl
  go_enter Tryz.func116, Tryz.ntmps116
  go_wp2_with fail
  go_quiet (fail)
  go_wp2_with fail
  go_ret2
  exact ⟨rfl, _, rfl⟩

theorem jbase_calls (h : JouF w w1 j d pre D M F) : Calls Tryz.prog 22 #[.pointer (some ⟨j, 0, none⟩)] w1 fun e w' => e = .returned (.tuple #[.int .i64 (M.number : Int), .int .i64 M.term]) ∧ ∃ q, w' = w1.drewN q := by
  obtain ⟨own, gv, dv, ev, vs, hJ, hS, hn, hl⟩ := h
  have c0 := hJ.c 0 rfl
  have c1 := hJ.c 1 rfl
  clear hJ hS hn hl
  go_enter Tryz.func22, Tryz.ntmps22
  go_wp2_with fail
  go_quiet (fail)
  go_wp2_with fail
  go_ret2
  exact ⟨rfl, _, rfl⟩

set_option maxRecDepth 100000 in
set_option maxHeartbeats 2000000 in
theorem jlast_calls (h : JouF w w1 j d pre D M F) : Calls Tryz.prog 40 #[.pointer (some ⟨j, 0, none⟩)] w1 fun e w' => e = .returned (.tuple #[.int .i64 (M.last : Int), .int .i64 M.lastT]) ∧ ∃ q, w' = w1.drewN q := by
  have Hb := Lib.hid (jbase_calls h)
  have hlast := h.okM.last
  obtain ⟨own, gv, dv, ev, vs, hJ, hS, hn, hl⟩ := h
  have c0 := hJ.c 0 rfl
  have c8 := hJ.c 8 rfl
  obtain ⟨p, c, hev⟩ := hJ.row.shape
  have HL := Lib.hid (show M.last = M.number + M.entries.length from rfl)
  by_cases h0 : M.entries.length = 0
  · have he : M.entries = [] := List.eq_nil_of_length_eq_zero h0
    have HE := Lib.hid (show (M.last : Int) = (M.number : Int) ∧ M.lastT = M.term from ⟨by rw [HL.out, h0]; rfl, by unfold JouM.lastT; rw [he]; rfl⟩)
    rw [hev, h0] at c8
    clear hJ hS hn hl hev he h0 hlast
    go_enter Tryz.func40, Tryz.ntmps40
    go_wp2_with fail
    refine Hb.out.mono ?_
    rintro e w' ⟨rfl, q, rfl⟩
    go_wp2_with fail
    go_ret2
    exact ⟨by rw [HE.out.1, HE.out.2]; rfl, q, rfl⟩
  · have hpos : M.entries.length - 1 < M.entries.length := by omega
    obtain ⟨g, c', v, hev', hv, -, k0, -, -, -⟩ := hJ.ent (List.getElem?_eq_getElem hpos)
    have hT : M.lastT = M.entries[M.entries.length - 1].term := by
      unfold JouM.lastT
      rw [List.getLast?_eq_getElem?, List.getElem?_eq_getElem hpos]
    rw [← hT] at k0
    rw [hev'] at c8
    unfold JouM.last at hlast
    clear hJ hS hn hl hev hev' hv hpos hT Hb
    generalize M.entries.length = n at *
    generalize M.number = b at *
    generalize M.last = la at *
    generalize M.lastT = lt at *
    have hnp : (0 : Int) < (n : Int) := by omega
    have hw1 : IntKind.i64.wrap ((b : Int) + (n : Int)) = (la : Int) := by rw [IntWalk.i64_in _ (by omega), HL.out]; omega
    have hw2 : IntKind.i64.wrap ((n : Int) - 1) = ((n - 1 : Nat) : Int) := by rw [IntWalk.i64_in _ (by omega)]; omega
    have hlt : n - 1 < n := by omega
    go_enter Tryz.func40, Tryz.ntmps40
    go_wp2_with fail
    go_quiet (fail)
    go_wp2_with fail
    go_ret2
    exact ⟨rfl, _, rfl⟩

set_option maxRecDepth 100000 in
set_option maxHeartbeats 2000000 in
theorem jhas_calls (h : JouF w w1 j d pre D M F) (i : Int) (hi : -9223372036854775808 ≤ i ∧ i ≤ 9223372036854775807) :
    Calls Tryz.prog 73 #[.pointer (some ⟨j, 0, none⟩), .int .i64 i] w1 fun e w' => e = .returned (.bool (decide ((M.number : Int) < i ∧ i ≤ (M.last : Int)))) ∧ ∃ q, w' = w1.drewN q := by
  have hlast := h.okM.last
  obtain ⟨own, gv, dv, ev, vs, hJ, hS, hn, hl⟩ := h
  have c0 := hJ.c 0 rfl
  have c8 := hJ.c 8 rfl
  obtain ⟨p, c, rfl⟩ := hJ.row.shape
  have HL : M.last = M.number + M.entries.length := rfl
  clear hJ hS hn hl
  generalize M.entries.length = n at *
  generalize M.number = b at *
  generalize M.last = la at *
  by_cases h1 : (b : Int) < i
  · have hw : IntKind.i64.wrap (i - (b : Int)) = i - (b : Int) := IntWalk.i64_in _ (by omega)
    have HE := Lib.hid (show decide ((b : Int) < i ∧ i ≤ (la : Int)) = decide (i - (b : Int) ≤ (n : Int)) from by rw [Bool.eq_iff_iff]; simp only [decide_eq_true_eq]; omega)
    have hd : decide ((b : Int) < i) = true := by simpa using h1
    clear HL hlast
    go_enter Tryz.func73, Tryz.ntmps73
    go_wp2_with fail
    go_quiet (fail)
    go_wp2_with fail
    go_ret
    exact ⟨by rw [HE.out]; rfl, _, rfl⟩
  · have hd : decide ((b : Int) < i) = false := by simpa using h1
    have HE := Lib.hid (show decide ((b : Int) < i ∧ i ≤ (la : Int)) = false from by rw [decide_eq_false_iff_not]; omega)
    clear HL hlast
    go_enter Tryz.func73, Tryz.ntmps73
    go_wp2_with fail
    go_quiet (fail)
    go_wp2_with fail
    go_ret
    exact ⟨by rw [HE.out]; rfl, _, rfl⟩

set_option maxRecDepth 100000 in
set_option maxHeartbeats 4000000 in
theorem jmv_calls (h : JouF w w1 j d pre D M F) (t v : Int) : Calls Tryz.prog 88 #[.pointer (some ⟨j, 0, none⟩), .int .i64 t, .int .i64 v] w1 fun e w' => e = .returned (.bool (M.mayVote t v)) ∧ w' = w1 := by
  obtain ⟨own, gv, dv, ev, vs, hJ, hS, hn, hl⟩ := h
  have c5 := hJ.c 5 rfl
  have c6 := hJ.c 6 rfl
  have HM := Lib.hid (show M.mayVote t v = (decide (M.now ≤ t ∧ t ≤ 1099511627776 ∧ -1 ≤ v ∧ v < 7) && !decide (t = M.now ∧ M.vote ≠ -1 ∧ v ≠ M.vote)) from rfl)
  clear hJ hS hn hl
  generalize M.mayVote t v = r at *
  generalize M.now = a at *
  generalize M.vote = b at *
  by_cases h1 : t < a
  · have HE := Lib.hid (show r = false from by rw [HM.out]; simp; omega)
    go_enter Tryz.func88, Tryz.ntmps88
    go_wp2_with fail
    go_ret
    exact ⟨by rw [HE.out]; rfl, rfl⟩
  · have d1 : decide (t < a) = false := by simpa using h1
    by_cases h2 : 1099511627776 < t
    · have HE := Lib.hid (show r = false from by rw [HM.out]; simp; omega)
      go_enter Tryz.func88, Tryz.ntmps88
      go_wp2_with fail
      go_ret
      exact ⟨by rw [HE.out]; rfl, rfl⟩
    · have d2 : decide (1099511627776 < t) = false := by simpa using h2
      by_cases h3 : v < -1
      · have HE := Lib.hid (show r = false from by rw [HM.out]; simp; omega)
        go_enter Tryz.func88, Tryz.ntmps88
        go_wp2_with fail
        go_ret
        exact ⟨by rw [HE.out]; rfl, rfl⟩
      · have d3 : decide (v < -1) = false := by simpa using h3
        by_cases h4 : 7 ≤ v
        · have HE := Lib.hid (show r = false from by rw [HM.out]; simp; omega)
          go_enter Tryz.func88, Tryz.ntmps88
          go_wp2_with fail
          go_ret
          exact ⟨by rw [HE.out]; rfl, rfl⟩
        · have d4 : decide (7 ≤ v) = false := by simpa using h4
          by_cases h5 : t = a
          · by_cases h6 : b = -1
            · have HE := Lib.hid (show r = true from by rw [HM.out]; simp [h6]; omega)
              have e5 : (t == a) = true := by simpa using h5
              have e6 : (b != -1) = false := by simpa using h6
              clear h5 h6
              go_enter Tryz.func88, Tryz.ntmps88
              go_wp2_with fail
              go_ret
              exact ⟨by rw [HE.out]; rfl, rfl⟩
            · have e5 : (t == a) = true := by simpa using h5
              have e6 : (b != -1) = true := by simpa using h6
              by_cases h7 : v = b
              · have HE := Lib.hid (show r = true from by rw [HM.out]; simp [h7]; omega)
                have e7 : (v != b) = false := by simpa using h7
                clear h5 h6 h7
                go_enter Tryz.func88, Tryz.ntmps88
                go_wp2_with fail
                go_ret
                exact ⟨by rw [HE.out]; rfl, rfl⟩
              · have HE := Lib.hid (show r = false from by rw [HM.out]; simp [h5, h6, h7])
                have e7 : (v != b) = true := by simpa using h7
                clear h5 h6 h7
                go_enter Tryz.func88, Tryz.ntmps88
                go_wp2_with fail
                go_ret
                exact ⟨by rw [HE.out]; rfl, rfl⟩
          · have HE := Lib.hid (show r = true from by rw [HM.out]; simp [h5]; omega)
            have e5 : (t == a) = false := by simpa using h5
            clear h5
            go_enter Tryz.func88, Tryz.ntmps88
            go_wp2_with fail
            go_ret
            exact ⟨by rw [HE.out]; rfl, rfl⟩

theorem dead_set {own : Nat → Prop} {gv dv ev : Value} {vs : List EV} (hJ : JouIn w1 j d pre own M gv dv ev vs) (x : Bool) : JouIn (w1.setCell ⟨j, 9, none⟩ (.bool x)) j d pre own { M with dead := x } gv dv ev vs :=
  hJ.set (M' := { M with dead := x }) (by have := set_block hJ.cells 9 (.bool x); simpa using this) (fun k hk => set_other _ hk) (by simp [World.setCell]) rfl rfl rfl ⟨hJ.ok.last, hJ.ok.term, hJ.ok.group, hJ.ok.now, hJ.ok.vote, hJ.ok.data, hJ.ok.ents⟩

/-- An error of the disk ends it. -/
theorem jended_calls (h : JouF w w1 j d pre D M F) (k : Nat) :
    Calls Tryz.prog 121 #[.pointer (some ⟨j, 0, none⟩), .int .i64 (k : Int)] w1 fun e w' => e = .returned (.int .i64 (k : Int)) ∧ JouF w w' j d pre D { M with dead := M.dead || decide (k ≠ 0) } F ∧ Same F w1 w' := by
  obtain ⟨own, gv, dv, ev, vs, hJ, hS, hn, hl⟩ := h
  have c9 := hJ.c 9 rfl
  have hf := hJ.fr 9
  have HE := Lib.hid (fun x => JouF.turned (D := D) (F := F) hS hn hl (dead_set hJ x) ((Chg.setCell w1 ⟨j, 9, none⟩ (.bool x)).mono fun k _ e => by rw [e]; exact hJ.ol) fun _ h => .inl h)
  clear hJ hS hn hl
  cases hd : M.dead with
  | true =>
    rw [hd] at c9
    go_enter Tryz.func121, Tryz.ntmps121
    go_wp2_with fail
    go_ret
    exact ⟨rfl, by simpa using HE.out true⟩
  | false =>
    rw [hd] at c9
    by_cases hk : k = 0
    · subst hk
      go_enter Tryz.func121, Tryz.ntmps121
      go_wp2_with fail
      go_ret
      exact ⟨rfl, by simpa using HE.out false⟩
    · have hne : ((k : Int) != 0) = true := by simp; omega
      have Hk := Lib.hid hk
      clear hk
      go_enter Tryz.func121, Tryz.ntmps121
      go_wp2_with fail
      go_ret
      exact ⟨rfl, by simpa [Hk.out] using HE.out true⟩
end
end Go.Proofs.YtngflpaooppmhaaGreat

namespace Go.Proofs.YtngflpaooppmhaaGreat
open Go.RowKit Go.Sat Go.Maps

theorem results_row2 {P : Program} {fn : Func} {p u : Tmp} {ty : TypeId} (h : fn.results = #[.cell p ty, .tmp u]) (tmps : Array Value) (w : World) (g : Nat) (t : TypeId) (cs : Array Value) (fr : Nat × Nat) (d : TypeDesc)
    (hp : tmps.getD p undef = .pointer (some ⟨g, 0, none⟩)) (hg : w.heap[g]? = some (.cells cs t fr))
    (hu : P.underlying ty = some d) (hd : (match d with | .struct _ | .array _ _ => true | _ => false) = true) (hi : (P.info? ty).map (·.size) = some cs.size) :
    (results fn tmps).run P w = .ok (.tuple #[.agg cs, tmps.getD u undef]) w := by
  rw [results_cell_tmp h, hp]
  simp [asAddr, run_loadVar_row w g t ty cs fr d hg hu hd hi]

theorem cell_far {w w' : World} {a : Addr} {v : Value} (h : w.cell? a = some v) (hb : Below w.heap.size w w') : w'.cell? a = some v := (hb.cell (World.block_lt_of_cell? w a h)).trans h

/-- Where an entry lies. -/
structure EntIn (w : World) (j g n c b k : Nat) (e : Ent) (v : EV) : Prop where
  all : w.cell? ⟨j, 8, none⟩ = some (.slice (some ⟨g, 0, none⟩) n c) ∧ w.cell? ⟨j, 0, none⟩ = some (.int .i64 (b : Int)) ∧ w.cell? ⟨g, k * 4, none⟩ = some (.int .i64 e.term) ∧ w.cell? ⟨g, k * 4 + 1, none⟩ = some (.int .i64 e.kind) ∧ w.cell? ⟨g, k * 4 + 2, none⟩ = some v.1 ∧ w.cell? ⟨g, k * 4 + 3, none⟩ = some v.2
theorem ent_far {w w' : World} {j g n c b k : Nat} {e : Ent} {v : EV} (h : EntIn w j g n c b k e v) (hb : Below w.heap.size w w') : EntIn w' j g n c b k e v :=
  ⟨cell_far h.all.1 hb, cell_far h.all.2.1 hb, cell_far h.all.2.2.1 hb, cell_far h.all.2.2.2.1 hb, cell_far h.all.2.2.2.2.1 hb, cell_far h.all.2.2.2.2.2 hb⟩

section
variable {w w1 : World} {j d : Nat} {pre : ByteArray} {D : DiskM} {M : JouM} {F : Nat → Prop}

set_option maxRecDepth 100000 in
set_option maxHeartbeats 4000000 in
theorem jat_yes (h : JouF w w1 j d pre D M F) (i : Int) (hi : -9223372036854775808 ≤ i ∧ i ≤ 9223372036854775807) (hin : (M.number : Int) < i) {e : Ent} (he : M.entries[(i - (M.number : Int) - 1).toNat]? = some e) :
    Calls Tryz.prog 35 #[.pointer (some ⟨j, 0, none⟩), .int .i64 i] w1 fun r w' => ∃ v : EV, r = .returned (.tuple #[entV e v, .int .i64 0]) ∧ EntAt w' e v ∧ (∀ k, (v.1.ownBlock = some k ∨ v.2.ownBlock = some k) → w1.heap.size ≤ k) ∧ Below w1.heap.size w1 w' := by
  have hkl := (List.getElem?_eq_some_iff.1 he).1
  have hil : i ≤ (M.last : Int) := by unfold JouM.last; omega
  have hb0 := below_one w1 (.cells #[.int .i64 0, .int .i64 0, .slice none 0 0, .slice none 0 0] 47)
  have Hha := Lib.hid (jhas_calls (h.next hb0) i hi)
  rw [decide_eq_true (And.intro hin hil)] at Hha
  have hlast := h.okM.last
  have hent := h.okM.ents e (List.mem_of_getElem? he)
  obtain ⟨own, gv, dv, ev, vs, hJ, hS, hn, hl⟩ := h
  obtain ⟨g, c, v, rfl, hv, hat, k0, k1, k2, k3⟩ := hJ.ent he
  have c0 := hJ.c 0 rfl
  have c8 := hJ.c 8 rfl
  have hf := ent_bound hent
  generalize hk : (i - (M.number : Int) - 1).toNat = k at *
  have HX := Lib.hid (show EntIn w1 j g M.entries.length c M.number k e v from ⟨c8, c0, k0, k1, k2, k3⟩)
  have HA := Lib.hid (hat.has (by omega) (by omega))
  unfold JouM.last at hlast
  have hiu : i = (M.number : Int) + 1 + (k : Int) := by omega
  clear hJ hS hn hl hv hat c0 c8 k0 k1 k2 k3 hent hf he hil hin hk
  generalize M.entries.length = n at *
  generalize M.number = b at *
  have hw1 : IntKind.i64.wrap (i - (b : Int)) = (k : Int) + 1 := by rw [IntWalk.i64_in _ (by omega)]; omega
  have hw2 : IntKind.i64.wrap (k : Int) = (k : Int) := IntWalk.i64_in _ (by omega)
  clear hiu
  go_enter Tryz.func35, Tryz.ntmps35
  go_wp2_with fail
  refine Hha.out.mono ?_
  rintro r w2 ⟨rfl, q, rfl⟩
  have HB2 := Lib.hid (show Below w1.heap.size w1 ((w1.alloc (.cells #[.int .i64 0, .int .i64 0, .slice none 0 0, .slice none 0 0] 47)).drewN q) from hb0.trans ⟨rfl, rfl, rfl, by simp, fun _ _ => rfl⟩)
  have HR := Lib.hid (show ((w1.alloc (.cells #[.int .i64 0, .int .i64 0, .slice none 0 0, .slice none 0 0] 47)).drewN q).heap[w1.heap.size]? = _ from new_block w1 _)
  generalize (w1.alloc (.cells #[.int .i64 0, .int .i64 0, .slice none 0 0, .slice none 0 0] 47)).drewN q = W at *
  clear hb0 Hha
  go_wp2_with fail
  refine ord_start (fun w' : World => w'.cell? ⟨j, 8, none⟩ = some (.slice (some ⟨g, 0, none⟩) n c) ∧ w'.cell? ⟨j, 0, none⟩ = some (.int .i64 (b : Int)) ∧ w'.cell? ⟨g, k * 4, none⟩ = some (.int .i64 e.term) ∧ w'.cell? ⟨g, k * 4 + 1, none⟩ = some (.int .i64 e.kind) ∧ w'.cell? ⟨g, k * 4 + 2, none⟩ = some v.1 ∧ w'.cell? ⟨g, k * 4 + 3, none⟩ = some v.2) (n := 17) (by kernel_rfl) rfl ((ent_far HX.out (HB2.out.trans ⟨rfl, rfl, rfl, Nat.le_refl _, fun _ _ => rfl⟩)).all) (fun hHeld => ?_)
  generalize hWd : W.drew = W1 at *
  have HB1 := Lib.hid (show Below w1.heap.size w1 W1 from by rw [← hWd]; exact HB2.out.trans ⟨rfl, rfl, rfl, Nat.le_refl _, fun _ _ => rfl⟩)
  have HR1 := Lib.hid (Eq.trans (show W1.heap[w1.heap.size]? = W.heap[w1.heap.size]? from by rw [← hWd]; rfl) HR.out)
  clear hWd
  refine Pl [0,1,2,3,4,5,6,7,8,9,10,11,12,13] ?_
  iterate 14 (refine Pc rfl ?_;simp only [Act.put, uA, uB, uC])
  refine Pn ?_
  refine ord_one 14 rfl (by kernel_rfl) (by rfl) (fun K hK => ?_)
  have Hown := Lib.hid (own_calls (HA.out.below HB1.out))
  go_wp2_with fail
  refine Hown.out.mono ?_
  rintro r w5 ⟨⟨u1, u2⟩, rfl, hu, hun, hb5⟩
  obtain ⟨pu, cu, eu, -⟩ := own_cap0 hu.data
  obtain ⟨pn, cn, en, -⟩ := own_capI hu.nodes
  have eu' : u1 = .slice pu e.data.length cu := eu
  have en' : u2 = .slice pn e.nodes.length cn := en
  subst eu'
  subst en'
  clear eu en
  have HB5 := Lib.hid (HB1.out.trans (hb5.mono HB1.out.size))
  have Hh5 := Lib.hid (ent_far (⟨hHeld⟩ : EntIn W1 j g n c b k e v) hb5)
  have HR5 := Lib.hid ((hb5.block _ (lt_of_block HR1.out)).trans HR1.out)
  have HU := Lib.hid (And.intro hu hun)
  have HW1 := Lib.hid (lt_of_block HR1.out)
  clear hu hun hb5 Hown
  go_wp2_with fail
  refine hK.out _ _ (Hh5.out.all) (fun hHeld => ?_)
  clear hK
  try simp only [Act.put, List.setIfInBounds_toArray, List.set_cons_zero, List.set_cons_succ]
  refine ord_one 15 rfl (by kernel_rfl) (by rfl) (fun K hK => ?_)
  have r0 := cell_of HR5.out (i := 0) rfl
  have r1 := cell_of HR5.out (i := 1) rfl
  have r2 := cell_of HR5.out (i := 2) rfl
  have r3 := cell_of HR5.out (i := 3) rfl
  have fr := frozen_of HR5.out
  unfold entV
  go_wp2_with fail
  have hz : ((((w5.setCell ⟨w1.heap.size, 0, none⟩ (.int .i64 e.term)).setCell ⟨w1.heap.size, 1, none⟩ (.int .i64 e.kind)).setCell ⟨w1.heap.size, 2, none⟩ (.slice pu e.data.length cu)).setCell ⟨w1.heap.size, 3, none⟩ (.slice pn e.nodes.length cn)).heap[w1.heap.size]? = some (.cells #[.int .i64 e.term, .int .i64 e.kind, (.slice pu e.data.length cu), (.slice pn e.nodes.length cn)] 47 (0, 0)) := by
    have h1 := set_block HR5.out 0 (.int .i64 e.term)
    have h2 := set_block h1 1 (.int .i64 e.kind)
    have h3 := set_block h2 2 (.slice pu e.data.length cu)
    have h4 := set_block h3 3 (.slice pn e.nodes.length cn)
    simpa using h4
  have hC : Chg (fun x => x = w1.heap.size) w5 ((((w5.setCell ⟨w1.heap.size, 0, none⟩ (.int .i64 e.term)).setCell ⟨w1.heap.size, 1, none⟩ (.int .i64 e.kind)).setCell ⟨w1.heap.size, 2, none⟩ (.slice pu e.data.length cu)).setCell ⟨w1.heap.size, 3, none⟩ (.slice pn e.nodes.length cn)) := (((Chg.setCell w5 ⟨w1.heap.size, 0, none⟩ _).trans (Chg.setCell _ ⟨w1.heap.size, 1, none⟩ _) fun _ _ e => e).trans (Chg.setCell _ ⟨w1.heap.size, 2, none⟩ _) fun _ _ e => e).trans (Chg.setCell _ ⟨w1.heap.size, 3, none⟩ _) fun _ _ e => e
  have hB : Below w1.heap.size w1 ((((w5.setCell ⟨w1.heap.size, 0, none⟩ (.int .i64 e.term)).setCell ⟨w1.heap.size, 1, none⟩ (.int .i64 e.kind)).setCell ⟨w1.heap.size, 2, none⟩ (.slice pu e.data.length cu)).setCell ⟨w1.heap.size, 3, none⟩ (.slice pn e.nodes.length cn)) := HB5.out.trans (hC.below HB5.out.size fun k hk e => by omega)
  have Hh6 := Lib.hid (ent_far HX.out hB)
  have HE := Lib.hid (show ∃ v : EV, Ending.returned (.tuple #[.agg #[.int .i64 e.term, .int .i64 e.kind, (.slice pu e.data.length cu), (.slice pn e.nodes.length cn)], .int .i64 0]) = .returned (.tuple #[entV e v, .int .i64 0]) ∧ EntAt ((((w5.setCell ⟨w1.heap.size, 0, none⟩ (.int .i64 e.term)).setCell ⟨w1.heap.size, 1, none⟩ (.int .i64 e.kind)).setCell ⟨w1.heap.size, 2, none⟩ (.slice pu e.data.length cu)).setCell ⟨w1.heap.size, 3, none⟩ (.slice pn e.nodes.length cn)) e v ∧ (∀ k, (v.1.ownBlock = some k ∨ v.2.ownBlock = some k) → w1.heap.size ≤ k) ∧ Below w1.heap.size w1 ((((w5.setCell ⟨w1.heap.size, 0, none⟩ (.int .i64 e.term)).setCell ⟨w1.heap.size, 1, none⟩ (.int .i64 e.kind)).setCell ⟨w1.heap.size, 2, none⟩ (.slice pu e.data.length cu)).setCell ⟨w1.heap.size, 3, none⟩ (.slice pn e.nodes.length cn)) from
    ⟨(.slice pu e.data.length cu, .slice pn e.nodes.length cn), rfl, HU.out.1.keep fun x hx => hC.block x (HU.out.1.lt hx) fun e => by have h1 := HU.out.2 x hx; have h2 := HW1.out; omega, fun x hx => by have h1 := HU.out.2 x hx; have h2 := HW1.out; omega, hB⟩)
  have HZ := Lib.hid hz
  clear r0 r1 r2 r3 fr hC hB hz
  generalize (((w5.setCell ⟨w1.heap.size, 0, none⟩ (.int .i64 e.term)).setCell ⟨w1.heap.size, 1, none⟩ (.int .i64 e.kind)).setCell ⟨w1.heap.size, 2, none⟩ (.slice pu e.data.length cu)).setCell ⟨w1.heap.size, 3, none⟩ (.slice pn e.nodes.length cn) = W6 at *
  refine hK.out _ _ (Hh6.out.all) (fun hHeld => ?_)
  clear hK
  try simp only [Act.put, List.setIfInBounds_toArray, List.set_cons_zero, List.set_cons_succ]
  refine ord_take 16 (v := ?v1x16) rfl (by kernel_rfl) (by kernel_rfl) (by kernel_rfl) (fun _ _ _ h => h) (by rfl) (by assumption) ?y1x16 ?_
  case y1x16 => (intro w hSw; (try dsimp only at hSw); go_simp; try with_reducible rfl)
  simp only [Act.put, List.setIfInBounds_toArray, List.set_cons_zero, List.set_cons_succ]
  refine wpAnyH_done (by kernel_rfl) ?_ _
  go_wp2_with fail
  (try simp only [Exit.inBlock, Exit.then])
  refine bodyPost_ret (results_row2 rfl _ W6 w1.heap.size _ _ (0, 0) _ rfl HZ.out Tryz.underlying47 rfl (by kernel_rfl)) rfl ?_
  exact HE.out
end
end Go.Proofs.YtngflpaooppmhaaGreat

namespace Go.Proofs.YtngflpaooppmhaaGreat
open Go.RowKit Go.Sat Go.Maps

theorem drewN_two (w : World) (a b : Nat) : (w.drewN a).drewN b = w.drewN (a + b) := by
  unfold World.drewN
  simp [Nat.add_assoc]

section
variable {w w1 : World} {j d : Nat} {pre : ByteArray} {D : DiskM} {M : JouM} {F : Nat → Prop}

theorem termAt_no {i : Int} (h : ¬ ((M.number : Int) < i ∧ i ≤ (M.last : Int))) (h2 : i ≠ (M.number : Int)) : M.termAt i = none := by
  unfold JouM.last at h
  unfold JouM.termAt
  rw [if_neg h2]
  by_cases h3 : i < (M.number : Int)
  · rw [if_pos h3]
  · rw [if_neg h3, List.getElem?_eq_none (by omega)]
    rfl
theorem termAt_yes {i : Int} (h : (M.number : Int) < i) {e : Ent} (he : M.entries[(i - (M.number : Int) - 1).toNat]? = some e) : M.termAt i = some e.term := by
  unfold JouM.termAt
  rw [if_neg (by omega), if_neg (by omega), he]
  rfl
theorem termAt_base : M.termAt (M.number : Int) = some M.term := if_pos rfl

set_option maxRecDepth 100000 in
set_option maxHeartbeats 4000000 in
theorem jtermAt_calls (h : JouF w w1 j d pre D M F) (i : Int) (hi : -9223372036854775808 ≤ i ∧ i ≤ 9223372036854775807) :
    Calls Tryz.prog 69 #[.pointer (some ⟨j, 0, none⟩), .int .i64 i] w1 fun r w' => r = .returned (.tuple #[.int .i64 ((M.termAt i).getD 0), .bool (M.termAt i).isSome]) ∧ ∃ q, w' = w1.drewN q := by
  have Hha := Lib.hid (jhas_calls h i hi)
  have hlast := h.okM.last
  obtain ⟨own, gv, dv, ev, vs, hJ, hS, hn, hl⟩ := h
  have c0 := hJ.c 0 rfl
  have c1 := hJ.c 1 rfl
  have c8 := hJ.c 8 rfl
  by_cases hin : (M.number : Int) < i ∧ i ≤ (M.last : Int)
  · rw [decide_eq_true hin] at Hha
    have hil := hin.2
    unfold JouM.last at hil hlast
    have hkl : (i - (M.number : Int) - 1).toNat < M.entries.length := by omega
    obtain ⟨g, c, v, rfl, -, -, k0, -⟩ := hJ.ent (List.getElem?_eq_getElem hkl)
    have HT := Lib.hid (termAt_yes hin.1 (List.getElem?_eq_getElem hkl))
    have hi1 := hin.1
    clear hJ hS hn hl hin c1
    generalize hk : (i - (M.number : Int) - 1).toNat = k at *
    generalize M.entries[k] = e at *
    generalize M.entries.length = n at *
    generalize M.termAt i = ta at *
    generalize M.number = b at *
    have hw1 : IntKind.i64.wrap (i - (b : Int)) = (k : Int) + 1 := by rw [IntWalk.i64_in _ (by omega)]; omega
    have hw2 : IntKind.i64.wrap (k : Int) = (k : Int) := IntWalk.i64_in _ (by omega)
    clear hk hil hi1
    go_enter Tryz.func69, Tryz.ntmps69
    go_wp2_with fail
    refine Hha.out.mono ?_
    rintro r w2 ⟨rfl, q, rfl⟩
    have c0 : (w1.drewN q).cell? ⟨j, 0, none⟩ = some (.int .i64 (b : Int)) := c0
    have c8 : (w1.drewN q).cell? ⟨j, 8, none⟩ = some (.slice (some ⟨g, 0, none⟩) n c) := c8
    have k0 : (w1.drewN q).cell? ⟨g, k * 4, none⟩ = some (.int .i64 e.term) := k0
    go_wp2_with fail
    go_quiet (fail)
    go_wp2_with fail
    go_ret2
    exact ⟨by rw [HT.out]; rfl, _, drewN_two _ _ _⟩
  · rw [decide_eq_false hin] at Hha
    by_cases hib : i = (M.number : Int)
    · subst hib
      have HT := Lib.hid (termAt_base (M := M))
      clear hJ hS hn hl hin c8
      generalize M.termAt (M.number : Int) = ta at *
      generalize M.number = b at *
      go_enter Tryz.func69, Tryz.ntmps69
      go_wp2_with fail
      refine Hha.out.mono ?_
      rintro r w2 ⟨rfl, q, rfl⟩
      have c0 : (w1.drewN q).cell? ⟨j, 0, none⟩ = some (.int .i64 (b : Int)) := c0
      have c1 : (w1.drewN q).cell? ⟨j, 1, none⟩ = some (.int .i64 M.term) := c1
      go_wp2_with fail
      go_ret2
      exact ⟨by rw [HT.out]; rfl, _, rfl⟩
    · have HT := Lib.hid (termAt_no hin hib)
      have he : (i == (M.number : Int)) = false := by simpa using hib
      clear hJ hS hn hl hin hib c8 c1
      generalize M.termAt i = ta at *
      generalize M.number = b at *
      go_enter Tryz.func69, Tryz.ntmps69
      go_wp2_with fail
      refine Hha.out.mono ?_
      rintro r w2 ⟨rfl, q, rfl⟩
      have c0 : (w1.drewN q).cell? ⟨j, 0, none⟩ = some (.int .i64 (b : Int)) := c0
      go_wp2_with fail
      go_ret2
      exact ⟨by rw [HT.out]; rfl, _, rfl⟩

/-- Nodes that are handed back, and a number. -/
def NodesTold (w1 : World) (r : List Int × Nat) (e : Ending) (w' : World) : Prop := ∃ v, e = .returned (.tuple #[v, .int .i64 (r.2 : Int)]) ∧ OwnI w' v r.1 ∧ (∀ k, v.ownBlock = some k → w1.heap.size ≤ k) ∧ Below w1.heap.size w1 w'

theorem grpIn_yes {k : Nat} {e : Ent} (he : M.entries[k]? = some e) (hk : e.kind = 2) : M.grpIn (k + 1) = (e.nodes, M.number + k + 1) := by
  show (match M.entries[k]? with | some e => _ | none => _) = _
  rw [he]
  exact if_pos hk
theorem grpIn_no {k : Nat} {e : Ent} (he : M.entries[k]? = some e) (hk : e.kind ≠ 2) : M.grpIn (k + 1) = M.grpIn k := by
  show (match M.entries[k]? with | some e => _ | none => _) = _
  rw [he]
  exact if_neg hk

set_option maxRecDepth 100000 in
set_option maxHeartbeats 8000000 in
theorem jgrpAt_calls (h : JouF w w1 j d pre D M F) (N : Nat) (hN : N ≤ M.entries.length) :
    Calls Tryz.prog 75 #[.pointer (some ⟨j, 0, none⟩), .int .i64 ((M.number + N : Nat) : Int)] w1 (NodesTold w1 (M.grpIn N)) := by
  have hlast := h.okM.last
  have hog := h.okM.group
  have Hents := Lib.hid h.okM.ents
  obtain ⟨own, gv, dv, ev, vs, hJ, hS, hn, hl⟩ := h
  have HJ := Lib.hid hJ
  have c0 := hJ.c 0 rfl
  have c2 := hJ.c 2 rfl
  obtain ⟨pg, cg, hgv, -⟩ := own_capI hJ.group
  rw [hgv] at c2
  have Hgv := Lib.hid (hgv ▸ hJ.group)
  have hgl := (grp_len hog).2
  unfold JouM.last at hlast
  clear hJ hS hn hl hog hgv
  generalize hb : M.number = b at *
  go_enter Tryz.func75, Tryz.ntmps75
  go_wp2_with fail
  go_loopw [6] (fun x wr => ∃ k : Nat, k ≤ N ∧ x = .int .i64 ((b + k : Nat) : Int) ∧ M.grpIn N = M.grpIn k ∧ Below w1.heap.size w1 wr) (fun x _ => (intOf x).toNat)
  case atStart => exact ⟨N, Nat.le_refl _, rfl, rfl, Below.refl _ _⟩
  case round =>
    obtain ⟨k, hk, rfl, hgr, hbl⟩ := hrel
    have c0r := cell_far c0 hbl
    have c2r := cell_far c2 hbl
    cases k with
    | zero =>
      have Hgr := Lib.hid hgr
      have HB := Lib.hid hbl
      have Hcl := Lib.hid (fun W (hb : Below w1.heap.size w1 W) => icl_calls (OwnI.has (ownI_far Hgv.out hb)) (by omega))
      clear hgr hbl
      go_wp2_with fail
      refine ord_start (fun w' : World => w'.cell? ⟨j, 0, none⟩ = some (.int .i64 (b : Int)) ∧ w'.cell? ⟨j, 2, none⟩ = some (.slice pg M.group.length cg)) (n := 13) (by kernel_rfl) rfl (⟨c0r, c2r⟩) (fun hHeld => ?_)
      refine Pl [0,1,2,3,4,6,7,8,9,10] ?_
      iterate 10 (refine Pc rfl ?_;simp only [Act.put, uA, uB, uC])
      refine Pn ?_
      refine ord_one 5 rfl (by kernel_rfl) (by rfl) (fun K hK => ?_)
      go_wp2_with fail
      refine (Hcl.out wr.drew (HB.out.trans ⟨rfl, rfl, rfl, Nat.le_refl _, fun _ _ => rfl⟩)).mono ?_
      rintro r w5 ⟨v, rfl, hv, hvn, hb5⟩
      have hBd : Below w1.heap.size w1 wr.drew := HB.out.trans ⟨rfl, rfl, rfl, Nat.le_refl _, fun _ _ => rfl⟩
      have HE := Lib.hid (show NodesTold w1 (M.grpIn N) (.returned (.tuple #[v, .int .i64 (b : Int)])) w5 from by
        rw [Hgr.out]
        exact ⟨v, by show _ = Ending.returned (.tuple #[v, .int .i64 (M.number : Int)]); rw [hb], hv, fun x hx => Nat.le_trans hBd.size (hvn x hx), hBd.trans (hb5.mono hBd.size)⟩)
      have Hh5 := Lib.hid (And.intro (cell_far hHeld.1 hb5) (cell_far hHeld.2 hb5))
      clear hv hvn hb5 hBd
      go_wp2_with fail
      refine hK.out _ _ (Hh5.out) (fun hHeld => ?_)
      clear hK
      try simp only [Act.put, List.setIfInBounds_toArray, List.set_cons_zero, List.set_cons_succ]
      refine Pl [11,12] ?_
      iterate 2 (refine Pc rfl ?_;simp only [Act.put, uA, uB, uC])
      refine Pn ?_
      refine wpAnyH_done (by kernel_rfl) ?_ _
      go_wp2_with fail
      go_ret2
      exact HE.out
    | succ k =>
      have hkl : k < M.entries.length := by omega
      have he := List.getElem?_eq_getElem hkl
      obtain ⟨g, c, v, hev, -, hat, k0, k1, k2, k3⟩ := HJ.out.ent he
      have hf := ent_bound (Hents.out _ (List.getElem_mem hkl))
      have hgy := grpIn_yes he
      have hgn := grpIn_no he
      generalize M.entries[k] = e at *
      have c8 := HJ.out.c 8 rfl
      rw [hev] at c8
      obtain ⟨pu, cu, eu, -⟩ := own_cap0 hat.data
      obtain ⟨pn, cn, en, -⟩ := own_capI hat.nodes
      rw [eu] at k2
      rw [en] at k3
      have hno : OwnI w1 (.slice pn e.nodes.length cn) e.nodes := by rw [← en]; exact hat.nodes
      have Hcl := Lib.hid (fun W (hb : Below w1.heap.size w1 W) => icl_calls (OwnI.has (ownI_far hno hb)) (by omega))
      have HX := Lib.hid (show EntIn w1 j g M.entries.length c b k e (.slice pu e.data.length cu, .slice pn e.nodes.length cn) from ⟨c8, by rw [← hb] at c0; rw [← hb]; exact c0, k0, k1, k2, k3⟩)
      have Hgr := Lib.hid hgr
      have HB := Lib.hid hbl
      have Hgy := Lib.hid hgy
      have Hgn := Lib.hid hgn
      have hw1 : IntKind.i64.wrap (((b + (k + 1) : Nat) : Int) - (b : Int)) = (k : Int) + 1 := by rw [IntWalk.i64_in _ (by omega)]; omega
      have hw1' : IntKind.i64.wrap ((b : Int) + ((k : Int) + 1) - (b : Int)) = (k : Int) + 1 := by rw [IntWalk.i64_in _ (by omega)]; omega
      have hw2 : IntKind.i64.wrap (k : Int) = (k : Int) := IntWalk.i64_in _ (by omega)
      have hw3 : IntKind.i64.wrap (((b + (k + 1) : Nat) : Int) - 1) = ((b + k : Nat) : Int) := by rw [IntWalk.i64_in _ (by omega)]; omega
      have hlt : (b : Int) < ((b + (k + 1) : Nat) : Int) := by omega
      generalize hx : ((b + (k + 1) : Nat) : Int) = x at *
      have HEx := Lib.hid (show x = ((M.number + k + 1 : Nat) : Int) from by rw [← hx, hb]; rfl)
      clear hgr hbl hgy hgn c8 k0 k1 k2 k3 hev hat hno eu en he c2r
      generalize M.entries.length = n at *
      clear hx
      go_wp2_with fail
      refine ord_start (fun w' : World => w'.cell? ⟨j, 8, none⟩ = some (.slice (some ⟨g, 0, none⟩) n c) ∧ w'.cell? ⟨j, 0, none⟩ = some (.int .i64 (b : Int)) ∧ w'.cell? ⟨g, k * 4, none⟩ = some (.int .i64 e.term) ∧ w'.cell? ⟨g, k * 4 + 1, none⟩ = some (.int .i64 e.kind) ∧ w'.cell? ⟨g, k * 4 + 2, none⟩ = some (.slice pu e.data.length cu) ∧ w'.cell? ⟨g, k * 4 + 3, none⟩ = some (.slice pn e.nodes.length cn)) (n := 16) (by kernel_rfl) rfl ((ent_far HX.out (HB.out.trans ⟨rfl, rfl, rfl, Nat.le_refl _, fun _ _ => rfl⟩)).all) (fun hHeld => ?_)
      generalize hWd : wr.drew = W1 at *
      have HB1 := Lib.hid (show Below w1.heap.size w1 W1 from by rw [← hWd]; exact HB.out.trans ⟨rfl, rfl, rfl, Nat.le_refl _, fun _ _ => rfl⟩)
      clear hWd
      refine Pl [0,1,2,3,4,5,6,7,8,9,10,11,12,13] ?_
      iterate 14 (refine Pc rfl ?_;simp only [Act.put, uA, uB, uC])
      refine Pn ?_
      refine ord_one 14 rfl (by kernel_rfl) (by rfl) (fun K hK => ?_)
      have Hh6 := Lib.hid (ent_far (⟨hHeld⟩ : EntIn W1 j g n c b k e (.slice pu e.data.length cu, .slice pn e.nodes.length cn)) (below_one W1 (.cells #[.int .i64 0, .int .i64 0, .slice none 0 0, .slice none 0 0] 47)))
      go_wp2_with fail
      refine hK.out _ _ (Hh6.out.all) (fun hHeld => ?_)
      clear hK
      try simp only [Act.put, List.setIfInBounds_toArray, List.set_cons_zero, List.set_cons_succ]
      refine ord_one 15 rfl (by kernel_rfl) (by rfl) (fun K hK => ?_)
      have hR : (W1.alloc (.cells #[.int .i64 0, .int .i64 0, .slice none 0 0, .slice none 0 0] 47)).heap[W1.heap.size]? = some (.cells #[.int .i64 0, .int .i64 0, .slice none 0 0, .slice none 0 0] 47) := new_block W1 _
      have r0 := cell_of hR (i := 0) rfl
      have r1 := cell_of hR (i := 1) rfl
      have r2 := cell_of hR (i := 2) rfl
      have r3 := cell_of hR (i := 3) rfl
      have fr := frozen_of hR
      have HR := Lib.hid hR
      clear hR
      have HBa := Lib.hid (HB1.out.trans ((below_one W1 (.cells #[.int .i64 0, .int .i64 0, .slice none 0 0, .slice none 0 0] 47)).mono HB1.out.size))
      have HW1 := Lib.hid HB1.out.size
      generalize W1.heap.size = B at *
      generalize W1.alloc (.cells #[.int .i64 0, .int .i64 0, .slice none 0 0, .slice none 0 0] 47) = W2 at *
      go_wp2_with fail
      have hz : ((((W2.setCell ⟨B, 0, none⟩ (.int .i64 e.term)).setCell ⟨B, 1, none⟩ (.int .i64 e.kind)).setCell ⟨B, 2, none⟩ (.slice pu e.data.length cu)).setCell ⟨B, 3, none⟩ (.slice pn e.nodes.length cn)).heap[B]? = some (.cells #[.int .i64 e.term, .int .i64 e.kind, .slice pu e.data.length cu, .slice pn e.nodes.length cn] 47 (0, 0)) := by
        have h1 := set_block HR.out 0 (.int .i64 e.term)
        have h2 := set_block h1 1 (.int .i64 e.kind)
        have h3 := set_block h2 2 (.slice pu e.data.length cu)
        have h4 := set_block h3 3 (.slice pn e.nodes.length cn)
        simpa using h4
      have hC : Chg (fun x => x = B) W2 ((((W2.setCell ⟨B, 0, none⟩ (.int .i64 e.term)).setCell ⟨B, 1, none⟩ (.int .i64 e.kind)).setCell ⟨B, 2, none⟩ (.slice pu e.data.length cu)).setCell ⟨B, 3, none⟩ (.slice pn e.nodes.length cn)) := (((Chg.setCell W2 ⟨B, 0, none⟩ _).trans (Chg.setCell _ ⟨B, 1, none⟩ _) fun _ _ e => e).trans (Chg.setCell _ ⟨B, 2, none⟩ _) fun _ _ e => e).trans (Chg.setCell _ ⟨B, 3, none⟩ _) fun _ _ e => e
      have HBz := Lib.hid (show Below w1.heap.size w1 ((((W2.setCell ⟨B, 0, none⟩ (.int .i64 e.term)).setCell ⟨B, 1, none⟩ (.int .i64 e.kind)).setCell ⟨B, 2, none⟩ (.slice pu e.data.length cu)).setCell ⟨B, 3, none⟩ (.slice pn e.nodes.length cn)) from HBa.out.trans (hC.below HBa.out.size fun k hk e => by have := HW1.out; omega))
      have Hh7 := Lib.hid (ent_far HX.out HBz.out)
      have z1 := cell_of hz (i := 1) rfl
      have z3 := cell_of hz (i := 3) rfl
      clear r0 r1 r2 r3 fr hC hz
      generalize (((W2.setCell ⟨B, 0, none⟩ (.int .i64 e.term)).setCell ⟨B, 1, none⟩ (.int .i64 e.kind)).setCell ⟨B, 2, none⟩ (.slice pu e.data.length cu)).setCell ⟨B, 3, none⟩ (.slice pn e.nodes.length cn) = W3 at *
      refine hK.out _ _ (Hh7.out.all) (fun hHeld => ?_)
      clear hK
      try simp only [Act.put, List.setIfInBounds_toArray, List.set_cons_zero, List.set_cons_succ]
      refine wpAnyH_done (by kernel_rfl) ?_ _
      have z1 : W3.cell? ⟨B, 1, none⟩ = some (.int .i64 e.kind) := z1
      have z3 : W3.cell? ⟨B, 3, none⟩ = some (.slice pn e.nodes.length cn) := z3
      by_cases hk2 : e.kind = 2
      · have hke : (e.kind == 2) = true := by simpa using hk2
        have HE := Lib.hid (Hgr.out.trans (Hgy.out hk2))
        clear hk2
        go_wp2_with fail
        refine (Hcl.out W3 HBz.out).mono ?_
        rintro r w5 ⟨v, rfl, hv, hvn, hb5⟩
        have HF := Lib.hid (show NodesTold w1 (M.grpIn N) (.returned (.tuple #[v, .int .i64 x])) w5 from by
          rw [HE.out, HEx.out]
          exact ⟨v, rfl, hv, fun x hx => Nat.le_trans HBz.out.size (hvn x hx), HBz.out.trans (hb5.mono HBz.out.size)⟩)
        clear hv hvn hb5
        go_wp2_with fail
        go_ret2
        exact HF.out
      · have hke : (e.kind == 2) = false := by simpa using hk2
        have HE := Lib.hid (Hgr.out.trans (Hgn.out hk2))
        clear hk2
        go_wp2_with fail
        go_roundw
        case rel => exact ⟨k, by omega, rfl, HE.out, HBz.out⟩
        case measure => simp [intOf]; have := HEx.out; omega

set_option maxRecDepth 100000 in
theorem jnodes_calls (h : JouF w w1 j d pre D M F) : Calls Tryz.prog 36 #[.pointer (some ⟨j, 0, none⟩)] w1 (NodesTold w1 (M.grpIn M.entries.length)) := by
  have Hla := Lib.hid (jlast_calls h)
  have Hg := Lib.hid (fun q => jgrpAt_calls (h.drewN q) M.entries.length (Nat.le_refl _))
  have HL := Lib.hid (show (M.number + M.entries.length : Nat) = M.last from rfl)
  rw [HL.out] at Hg
  clear h
  go_enter Tryz.func36, Tryz.ntmps36
  go_wp2_with fail
  refine Hla.out.mono ?_
  rintro r w2 ⟨rfl, q, rfl⟩
  go_wp2_with fail
  refine (Hg.out q).mono ?_
  rintro r w5 ⟨v, rfl, hv, hvn, hb5⟩
  have HF := Lib.hid (show NodesTold w1 (M.grpIn M.entries.length) (.returned (.tuple #[v, .int .i64 ((M.grpIn M.entries.length).2 : Int)])) w5 from ⟨v, rfl, hv, hvn, (show Below w1.heap.size w1 (w1.drewN q) from ⟨rfl, rfl, rfl, Nat.le_refl _, fun _ _ => rfl⟩).trans hb5⟩)
  clear hv hvn hb5
  go_wp2_with fail
  go_ret2
  exact HF.out

end
end Go.Proofs.YtngflpaooppmhaaGreat

namespace Go.Proofs.YtngflpaooppmhaaGreat
open Go.RowKit Go.Sat Go.Maps

/-- A Writer that is new since B. -/
def WrB (B : Nat) (w : World) (k : Nat) (l : Bs) : Prop := ∃ v, WrIn w k v l ∧ B ≤ k ∧ (∀ j, v.ownBlock = some j → B ≤ j) ∧ B ≤ w.heap.size
/-- What a thing done with it leaves. -/
def WrNext (B : Nat) (w : World) (k : Nat) (l : Bs) (e : Ending) (w' : World) : Prop := e = .returned (.tuple #[]) ∧ WrB B w' k l ∧ Below B w w'

section
variable {B : Nat} {w w1 : World} {k : Nat} {l : Bs}

theorem WrB.keep (h : WrB B w k l) (hb : Below w.heap.size w w1) : WrB B w1 k l := let ⟨v, h1, h2, h3, h4⟩ := h; ⟨v, h1.keep hb, h2, h3, Nat.le_trans h4 hb.size⟩
theorem wrB_new (w : World) : WrB w.heap.size (w.alloc (.cells #[.slice none 0 0] 172)) w.heap.size [] :=
  ⟨.slice none 0 0, ⟨new_block w _, OwnR.nil _ _ _, fun h => (by cases h)⟩, Nat.le_refl _, fun j hj => (by cases hj), by simp⟩

theorem wrB_told {w0 : World} {v : Value} {e : Ending} {w' : World} {l' : Bs} (hb : Below w.heap.size w w0) (h2 : B ≤ k) (h3 : ∀ j, v.ownBlock = some j → B ≤ j) (h4 : B ≤ w.heap.size) (hT : WrTold w0 k v l' e w') : WrNext B w k l' e w' := by
  obtain ⟨rfl, v', hv', hc, hn⟩ := hT
  have hs := hb.size
  refine ⟨rfl, ⟨v', hv', h2, fun j hj => ?_, by have := hc.size; omega⟩, ?_⟩
  · rcases hn j hj with h | h
    · exact h3 j h
    · omega
  · refine (((Chg.of_below hb).mono fun _ _ h => h.elim).trans hc fun _ _ hs => hs : Chg (WrS k v) w w').below h4 fun i hi hs => ?_
    rcases hs with rfl | hs
    · omega
    · have := h3 i hs
      omega

theorem HasI.lit {w : World} (zs : List Int) (cs : Array Value) (h : cs.toList = zs.map (Value.int .i64)) (e : TypeId) (fr : Nat × Nat) (g n c : Nat) (hg : g = w.heap.size) (hn : n = zs.length) : HasI (w.alloc (.cells cs e fr)) (.slice (some ⟨g, 0, none⟩) n c) zs := by
  subst hg
  subst hn
  refine ⟨by simp, some ⟨w.heap.size, 0, none⟩, c, rfl, fun e => (by cases e), fun a ha i u hu => ?_⟩
  cases ha
  rw [add_zero]
  refine cell_of (new_block w _) ?_
  rw [← h] at hu
  simpa using hu

/-- Nums of numbers that were laid a moment ago. -/
theorem wrB_nums (h : WrB B w k l) (zs : List Int) (cs : Array Value) (hcs : cs.toList = zs.map (Value.int .i64)) (hz : ∀ z ∈ zs, -9223372036854775808 ≤ z ∧ z ≤ 9223372036854775807) (hl : l.length + 9 * zs.length ≤ 140737488355000) (g n c : Nat) (hg : g = w.heap.size) (hn : n = zs.length) (fr : Nat × Nat) :
    Calls Tryz.prog 123 #[.pointer (some ⟨k, 0, none⟩), .slice (some ⟨g, 0, none⟩) n c] (w.alloc (.cells cs 3 fr)) (WrNext B w k (l ++ numsI zs)) := by
  obtain ⟨v, h1, h2, h3, h4⟩ := h
  have hb := below_one w (.cells cs 3 fr)
  have hk := h1.klt
  refine (wnums_calls (h1.keep hb) (zs := zs) (fun W hc => Holds.chg (HasI.lit zs cs hcs _ _ g n c hg hn) hc fun x hx hs => ?_) hz hl).mono fun e w' hT => wrB_told hb h2 h3 h4 hT
  have hx' : x = g := by cases hx; rfl
  rcases hs with e | e
  · omega
  · have := OwnR.lt h1.row e
    omega

/-- Nums of numbers that lie elsewhere. -/
theorem wrB_numsx (h : WrB B w k l) {p : Option Addr} {n c : Nat} {zs : List Int} (hx : ∀ W, Below B w W → HasI W (.slice p n c) zs) (hz : ∀ z ∈ zs, -9223372036854775808 ≤ z ∧ z ≤ 9223372036854775807) (hl : l.length + 9 * zs.length ≤ 140737488355000) :
    Calls Tryz.prog 123 #[.pointer (some ⟨k, 0, none⟩), .slice p n c] w (WrNext B w k (l ++ numsI zs)) := by
  obtain ⟨v, h1, h2, h3, h4⟩ := h
  refine (wnums_calls h1 (zs := zs) (fun W hc => hx W (hc.below h4 fun i hi hs => ?_)) hz hl).mono fun e w' hT => wrB_told (Below.refl _ _) h2 h3 h4 hT
  rcases hs with rfl | hs
  · omega
  · have := h3 i hs
    omega

/-- Raw of bytes that stand in the code. -/
theorem wrB_raw (h : WrB B w k l) (m : Bs) (cs : Array Value) (hcs : cs.toList = bytesV m) (hl : l.length + m.length ≤ 140737488355328) (g n c : Nat) (hg : g = w.heap.size) (hn : n = m.length) (fr : Nat × Nat) :
    Calls Tryz.prog 122 #[.pointer (some ⟨k, 0, none⟩), .slice (some ⟨g, 0, none⟩) n c] (w.alloc (.cells cs 5 fr)) (WrNext B w k (l ++ m)) := by
  obtain ⟨v, h1, h2, h3, h4⟩ := h
  have hb := below_one w (.cells cs 5 fr)
  exact (wraw_calls (h1.keep hb) (has_lit cs m g n c hg hn hcs) hl).mono fun e w' hT => wrB_told hb h2 h3 h4 hT

/-- Bytes of one row. -/
theorem wrB_bytes (h : WrB B w k l) {pv : Option Addr} {m cv : Nat} {x : Bs} (hx : ∀ W, Below B w W → HasB W (.slice pv m cv) x) (hl : l.length + x.length ≤ 140737488354000) (g c : Nat) (hg : g = w.heap.size) (fr : Nat × Nat) :
    Calls Tryz.prog 126 #[.pointer (some ⟨k, 0, none⟩), .slice (some ⟨g, 0, none⟩) 1 c] (w.alloc (.cells #[.slice pv m cv] 23 fr)) (WrNext B w k (l ++ rowB x)) := by
  obtain ⟨v, h1, h2, h3, h4⟩ := h
  refine (wbytes_one h1 (fun W hc => hx W (hc.below h4 fun i hi hs => ?_)) hl g c hg fr).mono fun e w' hT => wrB_told (below_one w _) h2 h3 h4 hT
  rcases hs with rfl | hs
  · omega
  · have := h3 i hs
    omega

theorem wrB_out (h : WrB B w k l) (hl : l.length ≤ 140737488355328) :
    Calls Tryz.prog 124 #[.pointer (some ⟨k, 0, none⟩)] w fun e w' => ∃ v, e = .returned v ∧ OwnB w' 5 v l ∧ (∀ j, v.ownBlock = some j → B ≤ j) ∧ Below B w w' := by
  obtain ⟨v, h1, h2, h3, h4⟩ := h
  refine (wout_calls h1 hl).mono ?_
  rintro e w' ⟨u, rfl, hu, hn, hb⟩
  exact ⟨u, rfl, hu, fun x hx => Nat.le_trans h4 (hn x hx), hb.mono h4⟩

theorem grpB_len (zs : List Int) (h : zs.length ≤ 4611686018427387904) : (grpB zs).length ≤ 9 + 9 * zs.length := by
  unfold grpB
  rw [List.length_append]
  have h1 := numB_nine h
  have h2 := numsI_len zs
  omega

set_option maxRecDepth 100000 in
theorem wgroup_calls (h : WrB B w k l) {p : Option Addr} {n c : Nat} {zs : List Int} (hx : ∀ W, Below B w W → HasI W (.slice p n c) zs) (hz : ∀ z ∈ zs, -9223372036854775808 ≤ z ∧ z ≤ 9223372036854775807) (hl : l.length + 9 + 9 * zs.length ≤ 140737488354000) :
    Calls Tryz.prog 125 #[.pointer (some ⟨k, 0, none⟩), .slice p n c] w (WrNext B w k (l ++ grpB zs)) := by
  have hn : zs.length = n := by obtain ⟨_, _, e⟩ := (hx w (Below.refl _ _)).slice; simp only [Value.slice.injEq] at e; exact e.2.1.symm
  have h9 := numB_nine (n := zs.length) (by omega)
  have Hg := Lib.hid (show grpB zs = numB zs.length ++ numsI zs from rfl)
  have h1 := wrB_nums h [(n : Int)] #[.int .i64 (n : Int)] rfl (by simp; omega) (by simp; omega) w.heap.size 1 1 rfl rfl (0, 0)
  rw [show numsI [(n : Int)] = numB zs.length by rw [hn]; simp [numsI, numI_nat (show n ≤ 4611686018427387904 by omega)]] at h1
  have H1 := Lib.hid h1
  have H2 := Lib.hid (fun (W : World) (h : WrB B W k (l ++ numB zs.length)) (hb : Below B w W) => wrB_numsx h (fun W' hb' => hx W' (hb.trans hb')) hz (by rw [List.length_append]; omega))
  clear h1 h hx hz hn h9 hl
  go_enter Tryz.func125, Tryz.ntmps125
  go_wp2_with fail
  refine H1.out.mono ?_
  rintro e w2 ⟨rfl, hw2, hb2⟩
  have HB2 := Lib.hid hb2
  have H3 := Lib.hid (H2.out w2 hw2 hb2)
  clear hw2 hb2 H1
  go_wp2_with fail
  refine H3.out.mono ?_
  rintro e w3 ⟨rfl, hw3, hb3⟩
  have HE := Lib.hid (show WrNext B w k (l ++ grpB zs) (.returned (.tuple #[])) w3 from ⟨rfl, by rw [Hg.out, ← List.append_assoc]; exact hw3, HB2.out.trans hb3⟩)
  clear hw3 hb3
  go_wp2_with fail
  go_end0
  exact HE.out
end

/-- A row of one's own, new since. -/
def RowNew (w : World) (b : Bs) (e : Ending) (w' : World) : Prop := ∃ v, e = .returned v ∧ OwnB w' 5 v b ∧ (∀ k, v.ownBlock = some k → w.heap.size ≤ k) ∧ Below w.heap.size w w'

set_option maxRecDepth 100000 in
theorem termRec_calls (w : World) (t v : Int) (ht : -9223372036854775808 ≤ t ∧ t ≤ 9223372036854775807) (hv : -9223372036854775808 ≤ v ∧ v ≤ 1099511627776) : Calls Tryz.prog 90 #[.int .i64 t, .int .i64 v] w (RowNew w (trmB t v)) := by
  have H0 := Lib.hid (wrB_new w)
  have hbw : Below w.heap.size w (w.alloc (.cells #[.slice none 0 0] 172)) := below_one w _
  have h1 := wrB_raw (wrB_new w) [2] #[.int .u8 2] rfl (by decide) (w.heap.size + 1) 1 1 (by simp) rfl (0, 0)
  have H1 := Lib.hid h1
  have hw1 : IntKind.i64.wrap (v + 1) = v + 1 := IntWalk.i64_in _ (by omega)
  have HT := Lib.hid (show trmB t v = [2] ++ numsI [t, v + 1] from by simp [trmB, numsI])
  have H2 := Lib.hid (fun (W : World) (h : WrB w.heap.size W w.heap.size ([] ++ [2])) => wrB_nums h [t, v + 1] #[.int .i64 t, .int .i64 (v + 1)] rfl (by simp; omega) (by simp) W.heap.size 2 2 rfl rfl (0, 0))
  clear h1 H0
  go_enter Tryz.func90, Tryz.ntmps90
  go_wp2_with fail
  refine H1.out.mono ?_
  rintro e w2 ⟨rfl, hw2, hb2⟩
  have HB2 := Lib.hid (hbw.trans (hb2.mono (Nat.le_refl _)))
  have H3 := Lib.hid (H2.out w2 hw2)
  clear hw2 hb2 H1
  go_wp2_with fail
  refine H3.out.mono ?_
  rintro e w3 ⟨rfl, hw3, hb3⟩
  have HB3 := Lib.hid (HB2.out.trans hb3)
  have H4 := Lib.hid (wrB_out hw3 (by have := numsI_len [t, v + 1]; simp at this ⊢; omega))
  clear hw3 hb3 H3
  go_wp2_with fail
  refine H4.out.mono ?_
  rintro e w4 ⟨u, rfl, hu, hun, hb4⟩
  have HE := Lib.hid (show RowNew w (trmB t v) (.returned u) w4 from ⟨u, rfl, by rw [HT.out]; exact hu, hun, HB3.out.trans hb4⟩)
  clear hu hun hb4
  go_wp2_with fail
  go_ret
  exact HE.out

set_option maxRecDepth 100000 in
theorem entRec_calls {w : World} (n : Nat) (hn : n ≤ 4611686018427387904) {e : Ent} {v : EV} (h : EntHas w e v) (he : isEnt e = true) : Calls Tryz.prog 107 #[.int .i64 (n : Int), entV e v] w (RowNew w (entB n e)) := by
  obtain ⟨t, k, da, no⟩ := e
  obtain ⟨v1, v2⟩ := v
  have hf := ent_bound he
  dsimp only at hf
  have hb1 := below_one w (.cells #[.int .i64 t, .int .i64 k, v1, v2] 47)
  have hbox := new_block w (.cells #[.int .i64 t, .int .i64 k, v1, v2] 47)
  obtain ⟨p1, c1, e1⟩ := h.data.slice
  obtain ⟨p2, c2, e2⟩ := h.nodes.slice
  have e1' : v1 = .slice p1 da.length c1 := e1
  have e2' : v2 = .slice p2 no.length c2 := e2
  subst e1'
  subst e2'
  have H := Lib.hid h
  have HT := Lib.hid (show entB n ⟨t, k, da, no⟩ = ([] ++ [3]) ++ numsI [(n : Int), t, k] ++ rowB da ++ grpB no from by simp [entB, numsI, numI_nat hn])
  have hd6 := hf.2.2.1
  have hn7 := hf.2.2.2.1
  have Hf := Lib.hid hf
  clear e1 e2 h he hf
  unfold entV
  dsimp only
  go_enter Tryz.func107, Tryz.ntmps107
  go_wp2_with fail
  have hb2 : Below w.heap.size w ((w.alloc (.cells #[.int .i64 t, .int .i64 k, .slice p1 da.length c1, .slice p2 no.length c2] 47)).alloc (.cells #[.slice none 0 0] 172)) := hb1.alloc hb1.size _
  have hwr := wrB_new (w.alloc (.cells #[.int .i64 t, .int .i64 k, .slice p1 da.length c1, .slice p2 no.length c2] 47))
  have hbx := (al_old _ (.cells #[.slice none 0 0] 172) (lt_of_block hbox)).trans hbox
  have hsz : (w.alloc (.cells #[.int .i64 t, .int .i64 k, .slice p1 da.length c1, .slice p2 no.length c2] 47)).heap.size = w.heap.size + 1 := by simp
  rw [hsz] at hwr
  have H1 := Lib.hid (wrB_raw hwr [3] #[.int .u8 3] rfl (by decide) (w.heap.size + 2) 1 1 (by simp) rfl (0, 0))
  have hS : Below (w.heap.size + 1) (w.alloc (.cells #[.int .i64 t, .int .i64 k, .slice p1 da.length c1, .slice p2 no.length c2] 47)) ((w.alloc (.cells #[.int .i64 t, .int .i64 k, .slice p1 da.length c1, .slice p2 no.length c2] 47)).alloc (.cells #[.slice none 0 0] 172)) := by rw [← hsz]; exact below_one _ _
  have HBX := Lib.hid hbx
  have HB2 := Lib.hid hb2
  generalize (w.alloc (.cells #[.int .i64 t, .int .i64 k, .slice p1 da.length c1, .slice p2 no.length c2] 47)).alloc (.cells #[.slice none 0 0] 172) = W0 at *
  clear hb1 hbox hwr hbx hb2 hsz hS
  generalize hB : w.heap.size = B at *
  refine H1.out.mono ?_
  rintro e w2 ⟨rfl, hw2, hb2⟩
  have HBx2 := Lib.hid ((hb2.block B (by omega)).trans HBX.out)
  have HB3 := Lib.hid (show Below B w w2 from HB2.out.trans (hb2.mono (Nat.le_succ _)))
  have H2 := Lib.hid (wrB_nums hw2 [(n : Int), t, k] #[.int .i64 (n : Int), .int .i64 t, .int .i64 k] rfl (by have := Hf.out; simp; omega) (by simp) w2.heap.size 3 3 rfl rfl (0, 0))
  have l0 := cell_of HBx2.out (i := 0) rfl
  have l1 := cell_of HBx2.out (i := 1) rfl
  have l0 : w2.cell? ⟨B, 0, none⟩ = some (.int .i64 t) := l0
  have l1 : w2.cell? ⟨B, 1, none⟩ = some (.int .i64 k) := l1
  clear hw2 hb2 H1
  go_wp2_with fail
  refine H2.out.mono ?_
  rintro e w3 ⟨rfl, hw3, hb3⟩
  have HBx3 := Lib.hid ((hb3.block B (by omega)).trans HBx2.out)
  have HB4 := Lib.hid (show Below B w w3 from HB3.out.trans (hb3.mono (Nat.le_succ _)))
  have h9 := numsI_len [(n : Int), t, k]
  have H3 := Lib.hid (wrB_bytes hw3 (pv := p1) (m := da.length) (cv := c1) (x := da) (fun W hb => HasB.below H.out.data (by rw [hB]; exact HB4.out.trans (hb.mono (Nat.le_succ _)))) (by simp at h9 ⊢; omega) w3.heap.size 1 rfl (0, 0))
  have l2 : w3.cell? ⟨B, 2, none⟩ = some (.slice p1 da.length c1) := cell_of HBx3.out (i := 2) rfl
  clear hw3 hb3 H2 l0 l1
  go_wp2_with fail
  refine H3.out.mono ?_
  rintro e w4 ⟨rfl, hw4, hb4⟩
  have HBx4 := Lib.hid ((hb4.block B (by omega)).trans HBx3.out)
  have HB5 := Lib.hid (show Below B w w4 from HB4.out.trans (hb4.mono (Nat.le_succ _)))
  have h8 : (rowB da).length ≤ 65536 + 9 := by unfold rowB; have := numB_nine (n := da.length) (by omega); rw [List.length_append]; omega
  have H4 := Lib.hid (wgroup_calls hw4 (p := p2) (n := no.length) (c := c2) (zs := no) (fun W hb => Holds.chg H.out.nodes (Chg.of_below (by rw [hB]; exact HB5.out.trans (hb.mono (Nat.le_succ _)))) fun _ _ => id) (fun z hz => by have := Hf.out.2.2.2.2 z hz; omega) (by simp at h9 ⊢; omega))
  have l3 : w4.cell? ⟨B, 3, none⟩ = some (.slice p2 no.length c2) := cell_of HBx4.out (i := 3) rfl
  clear hw4 hb4 H3 l2
  go_wp2_with fail
  refine H4.out.mono ?_
  rintro e w5 ⟨rfl, hw5, hb5⟩
  have HB6 := Lib.hid (show Below B w w5 from HB5.out.trans (hb5.mono (Nat.le_succ _)))
  have h7 := grpB_len no (by omega)
  have H5 := Lib.hid (wrB_out hw5 (by simp at h9 ⊢; omega))
  clear hw5 hb5 H4 l3
  go_wp2_with fail
  refine H5.out.mono ?_
  rintro e w6 ⟨u, rfl, hu, hun, hb6⟩
  have HE := Lib.hid (show RowNew w (entB n ⟨t, k, da, no⟩) (.returned u) w6 from ⟨u, rfl, by rw [HT.out]; exact hu, fun x hx => by have := hun x hx; omega, by rw [hB]; exact HB6.out.trans (hb6.mono (Nat.le_succ _))⟩)
  clear hu hun hb6
  go_wp2_with fail
  go_ret
  exact HE.out

section
variable {w w1 : World} {j d : Nat} {pre : ByteArray} {D : DiskM} {M : JouM} {F : Nat → Prop}
set_option maxRecDepth 100000 in
set_option maxHeartbeats 4000000 in
theorem jfirst_calls (h : JouF w w1 j d pre D M F) : Calls Tryz.prog 106 #[.pointer (some ⟨j, 0, none⟩)] w1 (RowNew w1 (fstB M.number M.term M.group)) := by
  have hok := h.okM
  have hlast := hok.last
  have ht := isTm_iff.1 hok.term
  have hg := grp_bound hok.group
  obtain ⟨own, gv, dv, ev, vs, hJ, hS, hn, hl⟩ := h
  have c0 := hJ.c 0 rfl
  have c1 := hJ.c 1 rfl
  have c2 := hJ.c 2 rfl
  obtain ⟨pg, cg, hgv, -⟩ := own_capI hJ.group
  rw [hgv] at c2
  have HG := Lib.hid (hgv ▸ hJ.group)
  unfold JouM.last at hlast
  have HT := Lib.hid (show fstB M.number M.term M.group = [] ++ [1] ++ numsI [(M.number : Int), M.term] ++ grpB M.group from by simp [fstB, numsI, numI_nat (show M.number ≤ 4611686018427387904 by omega)])
  have Hg := Lib.hid hg
  have hg7 := hg.1
  have hb1 := below_one w1 (.cells #[.slice none 0 0] 172)
  have H1 := Lib.hid (wrB_raw (wrB_new w1) [1] #[.int .u8 1] rfl (by decide) (w1.heap.size + 1) 1 1 (by simp) rfl (0, 0))
  have HB1 := Lib.hid hb1
  have c0b := Lib.hid (And.intro c0 c1)
  have hnb : M.number ≤ 1099511627776 := by omega
  clear hJ hS hn hl hgv hok hg hlast hb1
  generalize M.number = b at *
  generalize M.term = t at *
  go_enter Tryz.func106, Tryz.ntmps106
  go_wp2_with fail
  refine H1.out.mono ?_
  rintro e w2 ⟨rfl, hw2, hb2⟩
  have HB2 := Lib.hid (HB1.out.trans hb2)
  have c0 := cell_far c0 HB2.out
  have c1 := cell_far c1 HB2.out
  have HW2 := Lib.hid hw2
  clear hw2 hb2 H1
  go_wp2_with fail
  refine ord_start (fun w' : World => w'.cell? ⟨j, 0, none⟩ = some (.int .i64 (b : Int)) ∧ w'.cell? ⟨j, 1, none⟩ = some (.int .i64 t)) (n := 12) (by kernel_rfl) rfl (⟨c0, c1⟩) (fun hHeld => ?_)
  have HW2d := Lib.hid (HW2.out.keep (below_drew w2))
  have HB2d := Lib.hid (HB2.out.trans ⟨rfl, rfl, rfl, Nat.le_refl _, fun _ _ => rfl⟩ : Below w1.heap.size w1 w2.drew)
  generalize w2.drew = W2 at *
  refine Pl [0,1,2,3,4,5,6,7,8,9] ?_
  iterate 10 (refine Pc rfl ?_;simp only [Act.put, uA, uB, uC])
  refine Pn ?_
  refine ord_one 10 rfl (by kernel_rfl) (by rfl) (fun K hK => ?_)
  have Hh6 := Lib.hid (And.intro (al_cell hHeld.1 (.cells #[.int .i64 (b : Int), .int .i64 t] 3)) (al_cell hHeld.2 (.cells #[.int .i64 (b : Int), .int .i64 t] 3)))
  have H2 := Lib.hid (wrB_nums HW2d.out [(b : Int), t] #[.int .i64 (b : Int), .int .i64 t] rfl (by simp; omega) (by simp) W2.heap.size 2 2 rfl rfl (0, 0))
  go_wp2_with fail
  refine hK.out _ _ (Hh6.out) (fun hHeld => ?_)
  clear hK
  try simp only [Act.put, List.setIfInBounds_toArray, List.set_cons_zero, List.set_cons_succ]
  refine ord_one 11 rfl (by kernel_rfl) (by rfl) (fun K hK => ?_)
  go_wp2_with fail
  refine H2.out.mono ?_
  rintro e w3 ⟨rfl, hw3, hb3⟩
  have HB3 := Lib.hid (HB2d.out.trans hb3)
  have c2 := cell_far c2 HB3.out
  have Hh3 := Lib.hid (And.intro (cell_far c0b.out.1 HB3.out) (cell_far c0b.out.2 HB3.out))
  have h9 := numsI_len [(b : Int), t]
  have H5 := Lib.hid (wgroup_calls hw3 (p := pg) (n := M.group.length) (c := cg) (zs := M.group) (fun W hb => Holds.chg (OwnI.has HG.out) (Chg.of_below (HB3.out.trans hb)) fun _ _ => id) (fun z hz => by have := Hg.out.2 z hz; omega) (by simp at h9 ⊢; omega))
  clear hw3 hb3 H2 h9
  go_wp2_with fail
  refine hK.out _ _ (Hh3.out) (fun hHeld => ?_)
  clear hK
  try simp only [Act.put, List.setIfInBounds_toArray, List.set_cons_zero, List.set_cons_succ]
  refine wpAnyH_done (by kernel_rfl) ?_ _
  go_wp2_with fail
  refine H5.out.mono ?_
  rintro e w4 ⟨rfl, hw4, hb4⟩
  have HB6 := Lib.hid (show Below w1.heap.size w1 w4 from HB3.out.trans hb4)
  have h7 := grpB_len M.group (by omega)
  have H6 := Lib.hid (wrB_out hw4 (by have h9 := numsI_len [(b : Int), t]; simp at h9 ⊢; omega))
  clear hw4 hb4 H5
  go_wp2_with fail
  refine H6.out.mono ?_
  rintro e w6 ⟨u, rfl, hu, hun, hb6⟩
  have HE := Lib.hid (show RowNew w1 (fstB b t M.group) (.returned u) w6 from ⟨u, rfl, by rw [HT.out]; exact hu, hun, HB6.out.trans hb6⟩)
  clear hu hun hb6
  go_wp2_with fail
  go_ret
  exact HE.out
end

theorem recsB_take {ls : List Bs} {k : Nat} (hk : k < ls.length) : recsB (ls.take (k + 1)) = recsB (ls.take k) ++ frameN ls[k] := by
  rw [List.take_succ_eq_append_getElem hk, recsB_app, recsB_one]
theorem recsB_take_le (ls : List Bs) (k : Nat) : (recsB (ls.take k)).length ≤ (recsB ls).length := by
  have h : recsB ls = recsB (ls.take k) ++ recsB (ls.drop k) := by rw [← recsB_app, List.take_append_drop]
  rw [h, List.length_append]
  omega

set_option maxRecDepth 100000 in
set_option maxHeartbeats 4000000 in
theorem framed_calls {w : World} {p : Option Addr} {n c : Nat} {ls : List Bs} (hx : RowsAt w (.slice p n c) ls) (hn : n ≤ 1099511627776) (h1 : ∀ l ∈ ls, l.length ≤ 1048576) (hl : (recsB ls).length ≤ 1099511627776) :
    Calls Tryz.prog 109 #[.slice p n c] w (RowNew w (recsB ls)) := by
  obtain ⟨i0, hi, hz0, hz1, hz2⟩ := info_parts (show (Tryz.prog.info? 5).map (fun i => (i.zero, i.size, i.bytes)) = some (some (.int .u8 0), 1, 1) by kernel_rfl)
  have Hn := Lib.hid (RowsAt.len hx)
  have Hx := Lib.hid hx
  have H1 := Lib.hid h1
  have Hl := Lib.hid hl
  clear hx h1 hl
  go_enter Tryz.func109, Tryz.ntmps109
  go_wp2_with fail
  go_loopw [3, 10] (fun x i wr => ∃ k : Nat, k ≤ n ∧ i = .int .i64 k ∧ OwnB wr 5 x (recsB (ls.take k)) ∧ (∀ y, x.ownBlock = some y → w.heap.size ≤ y) ∧ Below w.heap.size w wr) (fun _ i _ => n - (intOf i).toNat)
  case atStart => exact ⟨0, Nat.zero_le _, rfl, OwnR.nil _ _ _, fun y hy => (by cases hy), Below.refl _ _⟩
  case round =>
    obtain ⟨k, hk, rfl, hown, hnew, hb⟩ := hrel
    by_cases hlt : k < n
    · have hkl : k < ls.length := by rw [← Hn.out]; exact hlt
      have hb' := rows_below Hx.out hb
      obtain ⟨-, b, o, v, rfl, hcell, hv⟩ := RowsAt.row hb' hkl
      have hlk := H1.out _ (List.getElem_mem hkl)
      have HTk := Lib.hid (recsB_take hkl)
      have hle := recsB_take_le ls (k + 1)
      generalize ls[k] = y at *
      obtain ⟨pv, cv, rfl⟩ := hv.slice
      have He := Lib.hid (enc_calls (rows_one hv 23 (0, 0) _ 1 rfl (Nat.le_refl _)) (by decide) (by simpa using hlk))
      rw [show [y].flatten = y by simp] at He
      have Hlen := Lib.hid (show (recsB (ls.take k)).length + (frameN y).length ≤ 1099511627776 from by
        have := Hl.out
        rw [HTk.out, List.length_append] at hle
        omega)
      have HX := Lib.hid (And.intro hown (And.intro hnew hb))
      clear hv hb' hown hnew hb hle
      go_wp2_with fail
      refine He.out.mono ?_
      rintro e w2 ⟨u, rfl, hu, -, hb2⟩
      have hba : Below wr.heap.size wr w2 := (below_one wr (.cells #[.slice pv y.length cv] 23)).trans (hb2.mono (by simp))
      have hown2 := ownB_far HX.out.1 hba
      have Hown2 := Lib.hid hown2
      have HB2 := Lib.hid (HX.out.2.2.trans (hba.mono HX.out.2.2.size))
      obtain ⟨pu, cu, rfl⟩ := hu.slice
      have Hu := Lib.hid hu
      have hL47 := Hlen.out
      generalize hA : (recsB (ls.take k)).length = A at *
      generalize hN : (frameN y).length = N at *
      have Hrow := Lib.hid (show OwnR w2 5 1 u3 A (bytesV (recsB (ls.take k))) from by have := Hown2.out; unfold OwnB at this; rwa [hA] at this)
      have Hxx := Lib.hid (show Holds w2 1 (.slice pu N cu) N (bytesV (frameN y)) from by have := Hu.out; unfold HasB at this; rwa [hN] at this)
      clear hb2 hba hown2 hu He
      have HA := Lib.hid hA
      have HN := Lib.hid hN
      clear hA hN
      go_wp2_with (at_builtin; refine wpList_app _ rfl (.tmp 20) (.tmp 21) 23 rfl 5 i0 (.int .u8 0) 1 1 Tryz.underlying23 hi hz0 hz1 hz2 rfl (by decide) _ A _ rfl Hrow.out (.slice pu N cu) N _ rfl Hxx.out (bytesV_one _) (by unfold maxLen; omega) (by omega) ?_; intro v3 w3 hown3 hgrow3 hloc3; go_loud (have HE := Lib.hid (show OwnB w3 5 v3 (recsB (ls.take (k + 1))) ∧ (∀ y, v3.ownBlock = some y → w.heap.size ≤ y) ∧ Below w.heap.size w w3 from ⟨by unfold OwnB; rw [HTk.out, List.length_append, HA.out, HN.out, bytesV_app]; exact hown3, fun z hz => (by { rcases hloc3 with e | ⟨g, e, hge⟩; exact HX.out.2.1 z (e ▸ hz); rw [hz] at e; cases e; exact Nat.le_trans HB2.out.size hge }), HB2.out.trans ((Chg.of_grown hgrow3).below HB2.out.size fun z hz e => (by have := HX.out.2.1 z e.symm; omega))⟩); clear hgrow3 hloc3; obtain ⟨p3, q3, rfl⟩ := OwnR.shape hown3; clear hown3))
      go_roundw
      case rel => exact ⟨k + 1, by omega, by go_num, HE.out⟩
      case measure => simp [intOf]; omega
    · have he : ls.take k = ls := List.take_of_length_le (by rw [← Hn.out]; omega)
      rw [he] at hown
      have HE := Lib.hid (show RowNew w (recsB ls) (.returned u3) wr from ⟨u3, rfl, hown, hnew, hb⟩)
      clear hown hnew hb he
      go_wp2_with fail
      go_ret
      exact HE.out
end Go.Proofs.YtngflpaooppmhaaGreat

namespace Go.Proofs.YtngflpaooppmhaaGreat
open Go.RowKit Go.Sat Go.Maps

section
variable {w w1 wc : World} {j d : Nat} {pre : ByteArray} {D : DiskM} {M : JouM} {F : Nat → Prop}

theorem jou_append (h : JouF w w1 j d pre D M F) (hb : Below w1.heap.size w1 wc) (s : ByteArray) (x : Value) (ls : List Bs) (hx : RowsAt wc x ls) (hn : ls.length ≤ 140737488355328) (hl : ls.flatten.length ≤ 140737488355328) (hsz : s.size ≤ 9223372036854775807) :
    Calls Tryz.prog 108 #[.pointer (some ⟨d, 0, none⟩), .string s, x] wc fun e w' => e = .returned (.int .i64 ((D.append (nm s) ls.flatten).2 : Int)) ∧ JouF w w' j d pre (D.append (nm s) ls.flatten).1 M F ∧ Same F w1 w' ∧ w'.heap[j]? = w1.heap[j]? :=
  jou_disk h hb fun _ hS => st_append (hS.next hb) s x ls hx hn hl hsz
theorem jou_sync (h : JouF w w1 j d pre D M F) (s : ByteArray) (hs : s.size ≤ 9223372036854775807) :
    Calls Tryz.prog 104 #[.pointer (some ⟨d, 0, none⟩), .slice (some ⟨w1.heap.size, 0, none⟩) 1 1] (w1.alloc (.cells #[.string s] 9)) fun e w' => e = .returned (.int .i64 ((D.sync [nm s]).2 : Int)) ∧ JouF w w' j d pre (D.sync [nm s]).1 M F ∧ Same F w1 w' ∧ w'.heap[j]? = w1.heap[j]? :=
  jou_disk h (below_one _ _) fun _ hS => st_sync hS [s] w1.heap.size 1 rfl (0, 0) (by simp) (by simpa using hs)
theorem jou_remove (h : JouF w w1 j d pre D M F) (s : ByteArray) (hs : s.size ≤ 9223372036854775807) :
    Calls Tryz.prog 55 #[.pointer (some ⟨d, 0, none⟩), .slice (some ⟨w1.heap.size, 0, none⟩) 1 1] (w1.alloc (.cells #[.string s] 9)) fun e w' => e = .returned (.int .i64 ((D.remove [nm s]).2 : Int)) ∧ JouF w w' j d pre (D.remove [nm s]).1 M F ∧ Same F w1 w' ∧ w'.heap[j]? = w1.heap[j]? :=
  jou_disk h (below_one _ _) fun _ hS => st_remove hS [s] w1.heap.size 1 rfl (0, 0) (by simp) (by simpa using hs)
theorem jou_trunc (h : JouF w w1 j d pre D M F) (s : ByteArray) (hs : s.size ≤ 9223372036854775807) (z : Int) (hz : -9223372036854775808 ≤ z) (hz' : z ≤ 9223372036854775807) :
    Calls Tryz.prog 103 #[.pointer (some ⟨d, 0, none⟩), .string s, .int .i64 z] w1 fun e w' => e = .returned (.int .i64 ((D.truncate (nm s) z).2 : Int)) ∧ JouF w w' j d pre (D.truncate (nm s) z).1 M F ∧ Same F w1 w' ∧ w'.heap[j]? = w1.heap[j]? :=
  jou_disk h (Below.refl _ _) fun _ hS => st_trunc hS s hs z hz hz'

/-- What a change of the disk and the journal leaves. -/
def JouTold (w w1 : World) (j d : Nat) (pre : ByteArray) (F : Nat → Prop) (r : WroteJ) (e : Ending) (w' : World) : Prop :=
  e = .returned (.int .i64 (r.err : Int)) ∧ JouF w w' j d pre r.disk r.jou F ∧ Same F w1 w'

def deadIf (M : JouM) (k : Nat) : JouM := { M with dead := M.dead || decide (k ≠ 0) }
theorem deadIf_zero (M : JouM) : deadIf M 0 = M := by unfold deadIf; simp
theorem deadIf_ne (M : JouM) {k : Nat} (h : k ≠ 0) : deadIf M k = M.die := by unfold deadIf JouM.die; simp [h]

set_option maxRecDepth 100000 in
set_option maxHeartbeats 4000000 in
theorem jlays_calls (h : JouF w w1 j d pre D M F) {p : Option Addr} {n c : Nat} {ls : List Bs} (hx : RowsAt w1 (.slice p n c) ls) (hn : n ≤ 1099511627776) (h1 : ∀ l ∈ ls, l.length ≤ 1048576) (hl : (recsB ls).length ≤ 1099511627776) :
    Calls Tryz.prog 89 #[.pointer (some ⟨j, 0, none⟩), .slice p n c] w1 fun e w' => e = .returned (.int .i64 ((layOn D (logN (nm pre)) (recsB ls)).2 : Int)) ∧ JouF w w' j d pre (layOn D (logN (nm pre)) (recsB ls)).1 (deadIf M (layOn D (logN (nm pre)) (recsB ls)).2) F ∧ Same F w1 w' := by
  have hps := h.psz
  obtain ⟨c3, c4, -⟩ := h.jc
  have hsl : (sLog pre).size = pre.size + 4 := size_log pre
  have Hfr := Lib.hid (fun W (hb : Below w1.heap.size w1 W) => framed_calls (rows_below hx hb) hn h1 hl)
  have HL := Lib.hid (show layOn D (logN (nm pre)) (recsB ls) = if (D.append (logN (nm pre)) (recsB ls)).2 ≠ 0 then D.append (logN (nm pre)) (recsB ls) else (D.append (logN (nm pre)) (recsB ls)).1.sync [logN (nm pre)] from rfl)
  have H := Lib.hid h
  have hll := hl
  clear hx h1 hl h
  cases hap : D.append (logN (nm pre)) (recsB ls) with
  | mk D1 e1 =>
    have Hap := Lib.hid (fun W (hb : Below w1.heap.size w1 W) x (hx : RowsAt W x [recsB ls]) => show Calls Tryz.prog 108 #[.pointer (some ⟨d, 0, none⟩), .string (sLog pre), x] W fun e w' => e = .returned (.int .i64 (e1 : Int)) ∧ JouF w w' j d pre D1 M F ∧ Same F w1 w' ∧ w'.heap[j]? = w1.heap[j]? from by
      have := jou_append H.out hb (sLog pre) x [recsB ls] hx (by simp) (by simp; omega) (by rw [hsl]; omega)
      rw [show [recsB ls].flatten = recsB ls by simp, nm_log, hap] at this
      exact this)
    rw [hap] at HL
    dsimp only at HL
    clear hap
    generalize layOn D (logN (nm pre)) (recsB ls) = Z at *
    generalize (recsB ls).length = L at *
    go_enter Tryz.func89, Tryz.ntmps89
    go_wp2_with fail
    refine ord_start (fun w' : World => w'.cell? ⟨j, 3, none⟩ = some (.pointer (some ⟨d, 0, none⟩))) (n := 10) (by kernel_rfl) rfl (c3) (fun hHeld => ?_)
    refine Pl [0,1,2,3,4,5] ?_
    iterate 6 (refine Pc rfl ?_;simp only [Act.put, uA, uB, uC])
    refine Pn ?_
    refine ord_one 6 rfl (by kernel_rfl) (by rfl) (fun K hK => ?_)
    have HB0 := Lib.hid (below_drew w1)
    go_wp2_with fail
    refine (Hfr.out w1.drew HB0.out).mono ?_
    rintro e w3 ⟨v, rfl, hv, -, hb3⟩
    have HB3 := Lib.hid (HB0.out.trans hb3)
    have Hh3 := Lib.hid (cell_far hHeld hb3)
    have HV := Lib.hid (OwnB.has hv)
    obtain ⟨pv, cv, rfl, -⟩ := own_cap0 hv
    clear hv hb3 Hfr
    go_wp2_with fail
    refine hK.out _ _ (Hh3.out) (fun hHeld => ?_)
    clear hK
    try simp only [Act.put, List.setIfInBounds_toArray, List.set_cons_zero, List.set_cons_succ]
    refine ord_one 7 rfl (by kernel_rfl) (by rfl) (fun K hK => ?_)
    have Hh4 := Lib.hid (al_cell hHeld (.cells #[.slice pv (recsB ls).length cv] 23))
    go_wp2_with fail
    refine hK.out _ _ (Hh4.out) (fun hHeld => ?_)
    clear hK
    try simp only [Act.put, List.setIfInBounds_toArray, List.set_cons_zero, List.set_cons_succ]
    refine ord_one 8 rfl (by kernel_rfl) (by rfl) (fun K hK => ?_)
    have Hcl := Lib.hid (Hap.out _ (HB3.out.trans ((below_one w3 (.cells #[.slice pv (recsB ls).length cv] 23)).mono HB3.out.size)) _ (rows_one HV.out 23 (0, 0) w3.heap.size 1 rfl (Nat.le_refl _)))
    go_wp2_with fail
    refine Hcl.out.mono ?_
    rintro e w5 ⟨rfl, hj5, hs5, hh5⟩
    have HJ5 := Lib.hid hj5
    have HS5 := Lib.hid hs5
    have Hh5 := Lib.hid ((World.cell?_of_block (a := ⟨j, 3, none⟩) hh5).trans c3)
    clear hj5 hs5 hh5 Hcl
    go_wp2_with fail
    refine hK.out _ _ (Hh5.out) (fun hHeld => ?_)
    clear hK
    try simp only [Act.put, List.setIfInBounds_toArray, List.set_cons_zero, List.set_cons_succ]
    refine ord_take 9 (v := ?v1x9) rfl (by kernel_rfl) (by kernel_rfl) (by kernel_rfl) (fun _ _ _ h => h) (by rfl) (by assumption) ?y1x9 ?_
    case y1x9 => (intro w hSw; (try dsimp only at hSw); go_simp; try with_reducible rfl)
    simp only [Act.put, List.setIfInBounds_toArray, List.set_cons_zero, List.set_cons_succ]
    refine wpAnyH_done (by kernel_rfl) ?_ _
    clear HV HB3
    by_cases he1 : e1 = 0
    · subst he1
      cases hsy : D1.sync [logN (nm pre)] with
      | mk D2 e2 =>
        have HZ := Lib.hid (show Z = (D2, e2) from by rw [HL.out, if_neg (by simp), hsy])
        have hsyc := jou_sync HJ5.out (sLog pre) (by rw [hsl]; omega)
        rw [nm_log, hsy] at hsyc
        have Hsy := Lib.hid hsyc
        have c3 : w5.cell? ⟨j, 3, none⟩ = some (.pointer (some ⟨d, 0, none⟩)) := Hh5.out
        clear hsyc hsy
        go_wp2_with fail
        refine Hsy.out.mono ?_
        rintro e w6 ⟨rfl, hj6, hs6, -⟩
        have Hen := Lib.hid (jended_calls hj6 e2)
        have HS6 := Lib.hid (HS5.out.trans hs6)
        clear hj6 hs6 Hsy
        go_wp2_with fail
        refine Hen.out.mono ?_
        rintro e w7 ⟨rfl, hj7, hs7⟩
        have HE := Lib.hid (show JouF w w7 j d pre Z.1 (deadIf M Z.2) F ∧ Same F w1 w7 from ⟨by rw [HZ.out]; exact hj7, HS6.out.trans hs7⟩)
        clear hj7 hs7
        go_wp2_with fail
        go_ret
        exact ⟨by rw [HZ.out]; rfl, HE.out⟩
    · have HZ := Lib.hid (show Z = (D1, e1) from by rw [HL.out, if_pos he1])
      have hne : ((e1 : Int) == 0) = false := by simp; omega
      have Hen := Lib.hid (jended_calls HJ5.out e1)
      clear he1
      go_wp2_with fail
      refine Hen.out.mono ?_
      rintro e w7 ⟨rfl, hj7, hs7⟩
      have HE := Lib.hid (show JouF w w7 j d pre Z.1 (deadIf M Z.2) F ∧ Same F w1 w7 from ⟨by rw [HZ.out]; exact hj7, HS5.out.trans hs7⟩)
      clear hj7 hs7
      go_wp2_with fail
      go_ret
      exact ⟨by rw [HZ.out]; rfl, HE.out⟩
end
end Go.Proofs.YtngflpaooppmhaaGreat

namespace Go.Proofs.YtngflpaooppmhaaGreat
open Go.RowKit Go.Sat Go.Maps

section
variable {pre : Bs} {D : DiskM} {M M' : JouM} {rows : List Bs}
theorem laysJ_ok {D' : DiskM} (h : layOn D (logN pre) (recsB rows) = (D', 0)) : laysJ pre D M rows M' = ⟨D', M', 0⟩ := by
  unfold laysJ
  rw [h, if_neg (by simp)]
theorem laysJ_err {D' : DiskM} {e : Nat} (h : layOn D (logN pre) (recsB rows) = (D', e)) (he : e ≠ 0) : laysJ pre D M rows M' = ⟨D', M.die, e⟩ := by
  unfold laysJ
  rw [h, if_pos he]
end

theorem trmB_len (t v : Int) : (trmB t v).length ≤ 19 := by
  unfold trmB
  rw [List.length_cons, List.length_append]
  have h1 := numI_len t
  have h2 := numI_len (v + 1)
  omega
theorem recs_one_len (l : Bs) : (recsB [l]).length = l.length + 12 := by rw [recsB_one, frame_len]

section
variable {w w1 : World} {j d : Nat} {pre : ByteArray} {D : DiskM} {M : JouM} {F : Nat → Prop}

theorem jouTold_id (h : JouF w w1 j d pre D M F) {w2 : World} (hb : Below w1.heap.size w1 w2) {r : WroteJ} {k : Nat} (hr : r = ⟨D, M, k⟩) : JouTold w w1 j d pre F r (.returned (.int .i64 (k : Int))) w2 := by
  subst hr
  exact ⟨rfl, h.next hb, h.same hb⟩

theorem jou_set56 (h : JouF w w1 j d pre D M F) (t v : Int) (ht : isTm t = true) (hv : -1 ≤ v ∧ v < 7) : JouF w ((w1.setCell ⟨j, 5, none⟩ (.int .i64 t)).setCell ⟨j, 6, none⟩ (.int .i64 v)) j d pre D { M with now := t, vote := v } F ∧ Same F w1 ((w1.setCell ⟨j, 5, none⟩ (.int .i64 t)).setCell ⟨j, 6, none⟩ (.int .i64 v)) := by
  obtain ⟨own, gv, dv, ev, vs, hJ, hS, hn, hl⟩ := h
  refine JouF.turned (M' := { M with now := t, vote := v }) hS hn hl (hJ.set ?_ (fun k hk => (set_other _ hk).trans (set_other _ hk)) (by simp [World.setCell]) rfl rfl rfl ⟨hJ.ok.last, hJ.ok.term, hJ.ok.group, ht, hv, hJ.ok.data, hJ.ok.ents⟩) (((Chg.setCell w1 ⟨j, 5, none⟩ _).trans (Chg.setCell _ ⟨j, 6, none⟩ _) fun _ _ e => e).mono fun k _ e => by rw [e]; exact hJ.ol) fun _ h => .inl h
  have h1 := set_block hJ.cells 5 (.int .i64 t)
  have h2 := set_block h1 6 (.int .i64 v)
  simpa using h2

theorem mayVote_facts {t v : Int} (h : M.mayVote t v = true) : M.now ≤ t ∧ t ≤ 1099511627776 ∧ -1 ≤ v ∧ v < 7 := by
  unfold JouM.mayVote at h
  simp only [Bool.and_eq_true, decide_eq_true_eq] at h
  exact h.1

set_option maxRecDepth 100000 in
set_option maxHeartbeats 4000000 in
theorem jsetTerm_calls (h : JouF w w1 j d pre D M F) (t v : Int) (ht : -9223372036854775808 ≤ t ∧ t ≤ 9223372036854775807) (hv : -9223372036854775808 ≤ v ∧ v ≤ 9223372036854775807) :
    Calls Tryz.prog 43 #[.pointer (some ⟨j, 0, none⟩), .int .i64 t, .int .i64 v] w1 (JouTold w w1 j d pre F (jouTerm (nm pre) D M t v)) := by
  have Hmay := Lib.hid (jmay_calls h)
  have Hid := Lib.hid (fun k (hr : jouTerm (nm pre) D M t v = ⟨D, M, k⟩) => jouTold_id h (Below.refl _ _) hr)
  have HR := Lib.hid (show jouTerm (nm pre) D M t v = if M.dead then ⟨D, M, 9⟩ else if M.mayVote t v = false then ⟨D, M, 1⟩ else if t = M.now ∧ v = M.vote then ⟨D, M, 0⟩ else laysJ (nm pre) D M [trmB t v] { M with now := t, vote := v } from rfl)
  cases hd : M.dead with
  | true =>
    rw [hd] at Hmay
    have HE := Lib.hid (Hid.out 9 (by rw [HR.out, hd]; rfl))
    clear h
    go_enter Tryz.func43, Tryz.ntmps43
    go_wp2_with fail
    refine Hmay.out.mono ?_
    rintro e w2 ⟨rfl, rfl⟩
    go_wp2_with fail
    go_ret
    exact HE.out
  | false =>
    rw [hd] at Hmay
    have Hmv := Lib.hid (jmv_calls h t v)
    cases hmv : M.mayVote t v with
    | false =>
      rw [hmv] at Hmv
      have HE := Lib.hid (Hid.out 1 (by rw [HR.out, hd, hmv]; rfl))
      clear h
      go_enter Tryz.func43, Tryz.ntmps43
      go_wp2_with fail
      refine Hmay.out.mono ?_
      rintro e w2 ⟨rfl, rfl⟩
      go_wp2_with fail
      refine Hmv.out.mono ?_
      rintro e w2 ⟨rfl, rfl⟩
      go_wp2_with fail
      go_ret
      exact HE.out
    | true =>
      rw [hmv] at Hmv
      have hfc := mayVote_facts hmv
      have hnow := isTm_iff.1 h.okM.now
      have htm : isTm t = true := isTm_iff.2 (by omega)
      have hvr : -1 ≤ v ∧ v < 7 := ⟨hfc.2.2.1, hfc.2.2.2⟩
      obtain ⟨own, gv, dv, ev, vs, hJ, hS, hn, hl⟩ := id h
      have c5 := hJ.c 5 rfl
      have c6 := hJ.c 6 rfl
      clear hJ hS hn hl
      by_cases hsame : t = M.now ∧ v = M.vote
      · have HE := Lib.hid (Hid.out 0 (by rw [HR.out, hd, hmv]; simp [hsame]))
        have e1 : (t == M.now) = true := by simpa using hsame.1
        have e2 : (v == M.vote) = true := by simpa using hsame.2
        clear h hsame
        go_enter Tryz.func43, Tryz.ntmps43
        go_wp2_with fail
        refine Hmay.out.mono ?_
        rintro e w2 ⟨rfl, rfl⟩
        go_wp2_with fail
        refine Hmv.out.mono ?_
        rintro e w2 ⟨rfl, rfl⟩
        go_wp2_with fail
        go_ret
        exact HE.out
      · have HR2 := Lib.hid (show jouTerm (nm pre) D M t v = laysJ (nm pre) D M [trmB t v] { M with now := t, vote := v } from by rw [HR.out, hd, hmv]; simp [hsame])
        have Htr := Lib.hid (termRec_calls w1 t v ht (by omega))
        have Hla := Lib.hid (fun W (hb : Below w1.heap.size w1 W) (x : Value) pv m cv (_ : x = .slice pv m cv) (hx : OwnB W 5 x (trmB t v)) => jlays_calls ((h.next hb).next (below_one W (.cells #[x] 23))) (rows_one (OwnB.has hx) 23 (0, 0) W.heap.size 1 rfl (Nat.le_refl _)) (by decide) (by simpa using Nat.le_trans (trmB_len t v) (by decide)) (by rw [recs_one_len]; have := trmB_len t v; omega))
        cases hly : layOn D (logN (nm pre)) (recsB [trmB t v]) with
        | mk D1 e1 =>
          rw [hly] at Hla
          have HS := Lib.hid (fun W (hb : Below w1.heap.size w1 W) (o : Obj) => (h.same (hb.trans ((below_one W o).mono hb.size))))
          by_cases he1 : e1 = 0
          · subst he1
            have HZ := Lib.hid (HR2.out.trans (laysJ_ok hly))
            rw [deadIf_zero] at Hla
            have Htv := Lib.hid (And.intro htm hvr)
            clear h hly hfc hnow htm hvr
            have hor : (t == M.now) = false ∨ (t == M.now) = true ∧ (v == M.vote) = false := by
              by_cases h1 : t = M.now
              · exact .inr ⟨by simpa using h1, by simpa using fun h2 => hsame ⟨h1, h2⟩⟩
              · exact .inl (by simpa using h1)
            clear hsame
            rcases hor with e1 | ⟨e1, e2⟩
            all_goals
              go_enter Tryz.func43, Tryz.ntmps43
              go_wp2_with fail
              refine Hmay.out.mono ?_
              rintro e w2 ⟨rfl, rfl⟩
              go_wp2_with fail
              refine Hmv.out.mono ?_
              rintro e w2 ⟨rfl, rfl⟩
              go_wp2_with fail
              refine Htr.out.mono ?_
              rintro e w3 ⟨x, rfl, hx, -, hb3⟩
              obtain ⟨pv, cv, hxs, -⟩ := own_cap0 hx
              have Hl2 := Lib.hid (Hla.out w3 hb3 x pv _ cv hxs hx)
              have HS2 := Lib.hid (HS.out w3 hb3 (.cells #[x] 23))
              subst hxs
              clear hx hb3
              go_wp2_with fail
              refine Hl2.out.mono ?_
              rintro e w4 ⟨rfl, hj4, hs4⟩
              have HF := Lib.hid (jou_set56 hj4 t v Htv.out.1 Htv.out.2)
              obtain ⟨own, gv, dv, ev, vs, hJ4, -⟩ := id hj4
              have d5 := hJ4.c 5 rfl
              have d6 := hJ4.c 6 rfl
              have f5 := hJ4.fr 5
              have f6 := hJ4.fr 6
              have HS4 := Lib.hid (HS2.out.trans hs4)
              clear hj4 hs4 hJ4 Hl2
              go_wp2_with fail
              go_ret
              rw [HZ.out]
              exact ⟨rfl, HF.out.1, HS4.out.trans HF.out.2⟩
          · have HZ := Lib.hid (HR2.out.trans (laysJ_err hly he1))
            rw [deadIf_ne M he1] at Hla
            have hne : ((e1 : Int) != 0) = true := by simp; omega
            clear h hly hfc hnow htm hvr he1
            have hor : (t == M.now) = false ∨ (t == M.now) = true ∧ (v == M.vote) = false := by
              by_cases h1 : t = M.now
              · exact .inr ⟨by simpa using h1, by simpa using fun h2 => hsame ⟨h1, h2⟩⟩
              · exact .inl (by simpa using h1)
            clear hsame
            rcases hor with e3 | ⟨e3, e4⟩
            all_goals
              go_enter Tryz.func43, Tryz.ntmps43
              go_wp2_with fail
              refine Hmay.out.mono ?_
              rintro e w2 ⟨rfl, rfl⟩
              go_wp2_with fail
              refine Hmv.out.mono ?_
              rintro e w2 ⟨rfl, rfl⟩
              go_wp2_with fail
              refine Htr.out.mono ?_
              rintro e w3 ⟨x, rfl, hx, -, hb3⟩
              obtain ⟨pv, cv, hxs, -⟩ := own_cap0 hx
              have Hl2 := Lib.hid (Hla.out w3 hb3 x pv _ cv hxs hx)
              have HS2 := Lib.hid (HS.out w3 hb3 (.cells #[x] 23))
              subst hxs
              clear hx hb3
              go_wp2_with fail
              refine Hl2.out.mono ?_
              rintro e w4 ⟨rfl, hj4, hs4⟩
              have HF := Lib.hid (And.intro hj4 (HS2.out.trans hs4))
              clear hj4 hs4 Hl2
              go_wp2_with fail
              go_ret
              rw [HZ.out]
              exact ⟨rfl, HF.out.1, HF.out.2⟩
end
end Go.Proofs.YtngflpaooppmhaaGreat

namespace Go.Proofs.YtngflpaooppmhaaGreat
open Go.RowKit Go.Sat Go.Maps

theorem ownR_cut {w : World} {e : TypeId} {s n y c' : Nat} {p : Option Addr} {c : Nat} {xs : List Value} (h : OwnR w e s (.slice p n c) n xs) (hy : y ≤ n) (hc : c' = y ∨ c' = c) : OwnR w e s (.slice p y c') y (xs.take (y * s)) := by
  have hm : y * s ≤ n * s := Nat.mul_le_mul_right _ hy
  refine ⟨by rw [List.length_take, h.1]; omega, ?_⟩
  rcases h.2 with ⟨e1, hn⟩ | ⟨g, cap, cur, e1, hg, hnc, hcm, hcs, ht⟩
  · cases e1
    have hy0 : y = 0 := by omega
    subst hy0
    have hc0 : c' = 0 := by omega
    subst hc0
    exact .inl ⟨rfl, rfl⟩
  · cases e1
    refine .inr ⟨g, c', cur, rfl, hg, by omega, by omega, ?_, ?_⟩
    · have : c' * s ≤ c * s := Nat.mul_le_mul_right _ (by omega)
      omega
    · rw [← ht, List.take_take, Nat.min_eq_left hm]

section
variable {w w1 : World} {j d : Nat} {pre : ByteArray} {D : DiskM} {M : JouM} {F : Nat → Prop}

theorem jouIn_cut {own : Nat → Prop} {gv dv : Value} {p : Option Addr} {n c c' k : Nat} {vs : List EV} (hJ : JouIn w1 j d pre own M gv dv (.slice p n c) vs) (hn : M.entries.length = n) (hk : k ≤ n) (hc : c' = k ∨ c' = c) :
    JouIn (w1.setCell ⟨j, 8, none⟩ (.slice p k c')) j d pre own { M with entries := M.entries.take k } gv dv (.slice p k c') (vs.take k) := by
  have hs : ∀ x, x ≠ j → (w1.setCell ⟨j, 8, none⟩ (.slice p k c')).heap[x]? = w1.heap[x]? := fun x hx => set_other _ hx
  have hb : (Value.slice p k c').ownBlock = (Value.slice p n c).ownBlock := ownBlock_slice _ _ _ _ _
  have hlen : (M.entries.take k).length = k := by rw [List.length_take]; omega
  refine ⟨?_, OwnR.keep hJ.group fun x hx => hs x (hJ.og x hx).2.1, OwnR.keep hJ.data fun x hx => hs x (hJ.od x hx).2.1, ?_, ⟨by rw [List.length_take, hJ.rows.1, hlen]; omega, fun i e v he hv => ?_⟩, hJ.ol, fun x hx => by rw [hb]; exact hJ.og x hx, fun x hx => by rw [hb]; exact hJ.od x hx, fun x hx => hJ.oe x (by rw [← hb]; exact hx), fun u hu x hx => by rw [hb]; exact hJ.ov u (List.mem_of_mem_take hu) x hx, fun x hx => by have := hJ.olt x hx; simpa [World.setCell] using this, hJ.psz, ⟨?_, hJ.ok.term, hJ.ok.group, hJ.ok.now, hJ.ok.vote, hJ.ok.data, fun e he => hJ.ok.ents e (List.mem_of_mem_take he)⟩⟩
  · have := set_block hJ.cells 8 (.slice p k c')
    simpa using this
  · show OwnR _ _ 4 _ (M.entries.take k).length (entsC (M.entries.take k) (vs.take k))
    rw [hlen, entsC_take k _ _ hJ.rows.1]
    have h0 := hJ.row
    rw [hn] at h0
    refine (ownR_cut h0 hk hc).keep fun x hx => hs x (hJ.oe x (by rw [← hb]; exact hx)).2
  · have h1 : M.entries[i]? = some e := by
      have he : (M.entries.take k)[i]? = some e := he
      rw [List.getElem?_take] at he
      split at he
      · exact he
      · cases he
    have h2 : vs[i]? = some v := by
      rw [List.getElem?_take] at hv
      split at hv
      · exact hv
      · cases hv
    exact (hJ.rows.2 i e v h1 h2).keep fun x hx => hs x (hJ.ov v (List.mem_of_getElem? h2) x hx).2.1
  · have h0 := hJ.ok.last
    unfold JouM.last at h0 ⊢
    show M.number + (M.entries.take k).length ≤ _
    rw [hlen]
    omega

end
end Go.Proofs.YtngflpaooppmhaaGreat

namespace Go.Proofs.YtngflpaooppmhaaGreat
open Go.RowKit Go.Sat Go.Maps

/-- Rows that are gathered since w. -/
structure RowsN (w W : World) (v : Value) (vs : List Value) (ls : List Bs) : Prop where
  rows : RowsIn W v vs ls
  new : NewRows w.heap.size v vs
  bel : Below w.heap.size w W

theorem RowsN.nil (w : World) : RowsN w w (.slice none 0 0) [] [] := ⟨RowsIn.nil _, ⟨fun k hk => (by cases hk), fun u hu => (by simp at hu)⟩, Below.refl _ _⟩
theorem RowsN.next {w W W2 : World} {v : Value} {vs : List Value} {ls : List Bs} (h : RowsN w W v vs ls) (hb : Below W.heap.size W W2) : RowsN w W2 v vs ls := ⟨h.rows.below hb, h.new, h.bel.trans (hb.mono h.bel.size)⟩

theorem RowsN.push {w W W2 w3 : World} {v v3 u : Value} {vs : List Value} {ls : List Bs} {x : Bs} {o : Obj} (h : RowsN w W v vs ls) (hb : Below W.heap.size W W2) (hu : OwnB W2 5 u x) (hun : ∀ k, u.ownBlock = some k → W.heap.size ≤ k)
    (hown : OwnR w3 23 1 v3 (ls.length + 1) (vs ++ [u])) (hg : (W2.alloc o).grownBy w3 v.ownBlock) (hloc : v3.ownBlock = v.ownBlock ∨ ∃ g, v3.ownBlock = some g ∧ (W2.alloc o).heap.size ≤ g) : RowsN w w3 v3 (vs ++ [u]) (ls ++ [x]) := by
  have h1 := h.next hb
  have h2 := below_one0 W2 o
  have hs := hb.size
  have hs2 := h2.size
  have hs3 := h.bel.size
  refine ⟨RowsIn.push (h1.rows.below h2) (ownB_far hu h2) (fun k hk e => by have a := hun k hk; have b := OwnR.lt h.rows.row e; omega) hown hg hloc, NewRows.push h.new (fun k hk => Nat.le_trans hs3 (hun k hk)) hloc (by omega), ?_⟩
  exact ((Chg.of_below (h1.bel.trans (h2.mono h1.bel.size))).trans (Chg.of_grown hg) fun k hk e => by have := h.new.1 k e.symm; omega : Chg (fun _ => False) w w3).below (Nat.le_refl _) fun _ _ => id

theorem RowsIn.at {w : World} {p : Option Addr} {n c : Nat} {vs : List Value} {ls : List Bs} (h : RowsIn w (.slice p n c) vs ls) : RowsAt w (.slice p n c) ls := by
  have hlen := h.len
  rcases h.row.2 with ⟨e, h0⟩ | ⟨g, cap, cur, e, hg, hnc, -⟩
  · simp only [Value.slice.injEq] at e
    obtain ⟨rfl, rfl, rfl⟩ := e
    have hl : ls = [] := List.eq_nil_of_length_eq_zero h0
    subst hl
    exact ⟨none, 0, rfl, Nat.le_refl _, fun h => absurd rfl h⟩
  · simp only [Value.slice.injEq] at e
    obtain ⟨rfl, rfl, rfl⟩ := e
    refine ⟨_, c, rfl, hnc, fun _ => ⟨g, 0, vs, rfl, hlen, fun i u hu => ?_, fun i u m hu hm => (h.has i u m hu hm).has.kit⟩⟩
    exact h.row.cells (g := g) rfl i u hu

theorem holds_at4 {w : World} {p : Option Addr} {n c s : Nat} {xs : List Value} (h : Holds w s (.slice p n c) n xs) (hne : xs ≠ []) : ∃ b o, p = some ⟨b, o, none⟩ ∧ ∀ i u, xs[i]? = some u → w.cell? ⟨b, o + i, none⟩ = some u := by
  obtain ⟨hlen, p', c', e, h0, hc⟩ := h
  simp only [Value.slice.injEq] at e
  obtain ⟨rfl, -, rfl⟩ := e
  cases p with
  | none =>
    have := h0 rfl
    subst this
    exact absurd (List.eq_nil_of_length_eq_zero (by simpa using hlen)) hne
  | some a =>
    obtain ⟨b, o, sp⟩ := a
    cases xs with
    | nil => exact absurd rfl hne
    | cons x r =>
      have h1 := hc _ rfl 0 x rfl
      have hsp : sp = none := by
        have := World.cell?_spot h1
        simpa [Addr.add] using this
      subst hsp
      refine ⟨b, o, rfl, fun i u hu => ?_⟩
      have h2 := hc _ rfl i u hu
      have e : (⟨b, o, none⟩ : Addr).add i = ⟨b, o + i, none⟩ := by unfold Addr.add; split <;> simp_all
      rw [← e]
      exact h2

/-- Entries that were handed in. -/
def EntsHas (w : World) (x : Value) (es : List Ent) (vs : List EV) : Prop := vs.length = es.length ∧ Holds w 4 x es.length (entsC es vs) ∧ ∀ (i : Nat) e v, es[i]? = some e → vs[i]? = some v → EntHas w e v

theorem EntsHas.len {w : World} {p : Option Addr} {n c : Nat} {es : List Ent} {vs : List EV} (h : EntsHas w (.slice p n c) es vs) : es.length = n := by
  obtain ⟨-, ⟨-, _, _, e, -⟩, -⟩ := h
  simp only [Value.slice.injEq] at e
  exact e.2.1.symm

theorem EntsHas.ent {w : World} {p : Option Addr} {n c : Nat} {es : List Ent} {vs : List EV} (h : EntsHas w (.slice p n c) es vs) {i : Nat} (hi : i < es.length) : ∃ b o v, p = some ⟨b, o, none⟩ ∧ EntHas w es[i] v ∧
    w.cell? ⟨b, o + i * 4, none⟩ = some (.int .i64 es[i].term) ∧ w.cell? ⟨b, o + i * 4 + 1, none⟩ = some (.int .i64 es[i].kind) ∧ w.cell? ⟨b, o + i * 4 + 2, none⟩ = some v.1 ∧ w.cell? ⟨b, o + i * 4 + 3, none⟩ = some v.2 := by
  have hn := h.len
  obtain ⟨hlen, hh, hE⟩ := h
  rw [hn] at hh
  have hv : vs[i]? = some (vs[i]'(by omega)) := List.getElem?_eq_getElem _
  generalize vs[i]'(by omega) = v at hv
  have he := List.getElem?_eq_getElem hi
  have hne : entsC es vs ≠ [] := fun e => by
    have := entsC_len es vs hlen
    rw [e] at this
    simp at this
    omega
  obtain ⟨b, o, rfl, hc⟩ := holds_at4 hh hne
  have hc' : ∀ (k : Nat) u, (entC es[i] v)[k]? = some u → w.cell? ⟨b, o + (i * 4 + k), none⟩ = some u := fun k u hu => hc _ _ (entsC_at _ _ i _ v he hv k u hu)
  exact ⟨b, o, v, rfl, hE i _ v he hv, hc' 0 _ rfl, hc' 1 _ rfl, hc' 2 _ rfl, hc' 3 _ rfl⟩

theorem entB_len {n : Nat} {e : Ent} (hn : n ≤ 4611686018427387904) (h : isEnt e = true) : (entB n e).length ≤ 65800 := by
  have hf := ent_bound h
  unfold entB rowB
  simp only [List.length_cons, List.length_append]
  have h1 := numB_nine hn
  have h2 := numI_len e.term
  have h3 := numI_len e.kind
  have h4 := numB_nine (n := e.data.length) (by omega)
  have h5 := grpB_len e.nodes (by omega)
  omega

theorem entsB_len : ∀ (n : Nat) (es : List Ent), (entsB n es).length = es.length
  | _, [] => rfl
  | n, e :: r => by
    show (entsB (n + 1) r).length + 1 = _
    rw [entsB_len (n + 1) r]
    rfl
theorem entsB_app : ∀ (n : Nat) (es fs : List Ent), entsB n (es ++ fs) = entsB n es ++ entsB (n + es.length) fs
  | _, [], _ => rfl
  | n, e :: r, fs => by
    show entB (n + 1) e :: entsB (n + 1) (r ++ fs) = _
    rw [entsB_app (n + 1) r fs]
    show _ = entB (n + 1) e :: (entsB (n + 1) r ++ entsB (n + (r.length + 1)) fs)
    rw [show n + 1 + r.length = n + (r.length + 1) by omega]
theorem entsB_take {n k : Nat} {es : List Ent} (hk : k < es.length) : entsB n (es.take (k + 1)) = entsB n (es.take k) ++ [entB (n + k + 1) es[k]] := by
  rw [List.take_succ_eq_append_getElem hk, entsB_app, List.length_take, Nat.min_eq_left (by omega)]
  rfl
theorem entsB_rows : ∀ (n : Nat) (es : List Ent), (∀ e ∈ es, isEnt e = true) → n + es.length ≤ 4611686018427387904 → ∀ l ∈ entsB n es, l.length ≤ 65800
  | _, [], _, _, l, hl => by cases hl
  | n, e :: r, h, hn, l, hl => by
    simp only [List.length_cons] at hn
    cases hl with
    | head => exact entB_len (by omega) (h e (by simp))
    | tail _ hl => exact entsB_rows (n + 1) r (fun x hx => h x (by simp [hx])) (by omega) l hl
theorem recsB_le {c : Nat} : ∀ (ls : List Bs), (∀ l ∈ ls, l.length ≤ c) → (recsB ls).length ≤ (c + 12) * ls.length
  | [], _ => by simp [recsB]
  | l :: ls, h => by
    have h1 := recsB_le ls fun x hx => h x (by simp [hx])
    have h2 := h l (by simp)
    rw [recsB_cons, List.length_append, frame_len, List.length_cons, Nat.mul_add]
    omega

/-- An entry is laid behind the journal's. -/
theorem jouIn_push {w1 w0 w2 : World} {j d : Nat} {pre : ByteArray} {M : JouM} {own : Nat → Prop} {gv dv ev v' : Value} {vs : List EV} {u : EV} {e : Ent} (hJ : JouIn w1 j d pre own M gv dv ev vs) (hu : EntAt w1 e u) (hun : ∀ k, (u.1.ownBlock = some k ∨ u.2.ownBlock = some k) → ¬ own k) (he : isEnt e = true) (hla : M.last + 1 ≤ 1099511627776)
    (hb0 : Below w1.heap.size w1 w0) (hown : OwnR w2 47 4 v' (M.entries.length + 1) (entsC M.entries vs ++ entC e u)) (hg : w0.grownBy w2 ev.ownBlock) (hloc : v'.ownBlock = ev.ownBlock ∨ ∃ g, v'.ownBlock = some g ∧ w0.heap.size ≤ g) :
    JouIn (w2.setCell ⟨j, 8, none⟩ v') j d pre (fun k => own k ∨ (u.1.ownBlock = some k ∨ u.2.ownBlock = some k) ∨ v'.ownBlock = some k) { M with entries := M.entries ++ [e] } gv dv v' (vs ++ [u]) ∧ Chg own w1 (w2.setCell ⟨j, 8, none⟩ v') ∧ (∀ k, v'.ownBlock = some k → own k ∨ w1.heap.size ≤ k) ∧
    w2.heap[j]? = w1.heap[j]? := by
  have hs := hb0.size
  have hg2 := hg.size
  have hjj : w2.heap[j]? = w1.heap[j]? := (hg.block j (by have := hJ.olt j hJ.ol; omega) fun e => (hJ.oe j e.symm).2 rfl).trans (hb0.block j (hJ.olt j hJ.ol))
  have hnew : ∀ k, v'.ownBlock = some k → ev.ownBlock = some k ∨ w1.heap.size ≤ k := fun k hk => by
    rcases hloc with e | ⟨g, e, hge⟩
    · exact .inl (e ▸ hk)
    · rw [hk] at e
      cases e
      exact .inr (by omega)
  have hv'j : ∀ k, v'.ownBlock = some k → k ≠ j := fun k hk e => by
    rcases hnew k hk with h | h
    · exact (hJ.oe k h).2 e
    · have := hJ.olt j hJ.ol
      omega
  have huj : ∀ k, (u.1.ownBlock = some k ∨ u.2.ownBlock = some k) → k ≠ j := fun k hk e => hun k hk (e ▸ hJ.ol)
  have hkeep : ∀ k, k < w1.heap.size → ev.ownBlock ≠ some k → k ≠ j → (w2.setCell ⟨j, 8, none⟩ v').heap[k]? = w1.heap[k]? := fun k hk he hkl =>
    (set_other v' hkl).trans ((hg.block k (by omega) fun e => he e.symm).trans (hb0.block k hk))
  have hv'n : ∀ k, k < w1.heap.size → ev.ownBlock ≠ some k → v'.ownBlock ≠ some k := fun k hk he e => by
    rcases hnew k e with h | h
    · exact he h
    · omega
  have hune : ∀ k, (u.1.ownBlock = some k ∨ u.2.ownBlock = some k) → ev.ownBlock ≠ some k := fun k hk e => hun k hk (hJ.oe k e).1
  have hvl := hJ.rows.1
  have hlen : (M.entries ++ [e]).length = M.entries.length + 1 := by simp
  refine ⟨⟨?_, ?_, ?_, ?_, ⟨by simp [hvl], ?_⟩, .inl hJ.ol, ?_, ?_, fun k hk => ⟨.inr (.inr hk), hv'j k hk⟩, ?_, ?_, hJ.psz, ⟨?_, hJ.ok.term, hJ.ok.group, hJ.ok.now, hJ.ok.vote, hJ.ok.data, ?_⟩⟩, ?_, fun k hk => (hnew k hk).imp (fun h => (hJ.oe k h).1) id, hjj⟩
  · have h1 := set_block (hjj.trans hJ.cells) 8 v'
    simpa using h1
  · exact OwnR.keep hJ.group fun k hk => hkeep k (OwnR.lt hJ.group hk) (hJ.og k hk).2.2 (hJ.og k hk).2.1
  · exact OwnR.keep hJ.data fun k hk => hkeep k (OwnR.lt hJ.data hk) (hJ.od k hk).2.2 (hJ.od k hk).2.1
  · show OwnR _ _ _ _ (M.entries ++ [e]).length (entsC (M.entries ++ [e]) (vs ++ [u]))
    rw [hlen, entsC_app _ _ _ _ hvl]
    exact hown.keep fun k hk => set_other v' (hv'j k hk)
  · intro i x c hx hc
    have hx' : (M.entries ++ [e])[i]? = some x := hx
    by_cases hi : i < vs.length
    · rw [List.getElem?_append_left hi] at hc
      rw [List.getElem?_append_left (by omega)] at hx'
      have hcm := List.mem_of_getElem? hc
      exact (hJ.rows.2 i x c hx' hc).keep fun k hk => hkeep k (hJ.olt k (hJ.ov c hcm k hk).1) (hJ.ov c hcm k hk).2.2 (hJ.ov c hcm k hk).2.1
    · rw [List.getElem?_append_right (by omega)] at hc
      rw [List.getElem?_append_right (by omega)] at hx'
      have hi0 : i - vs.length = 0 := by
        have := (List.getElem?_eq_some_iff.1 hc).1
        simp at this
        omega
      rw [hi0] at hc
      rw [← hvl, hi0] at hx'
      simp only [List.getElem?_cons_zero, Option.some.injEq] at hc hx'
      subst hc
      subst hx'
      exact hu.keep fun k hk => hkeep k (hu.lt hk) (hune k hk) (huj k hk)
  · exact fun k hk => ⟨.inl (hJ.og k hk).1, (hJ.og k hk).2.1, hv'n k (OwnR.lt hJ.group hk) (hJ.og k hk).2.2⟩
  · exact fun k hk => ⟨.inl (hJ.od k hk).1, (hJ.od k hk).2.1, hv'n k (OwnR.lt hJ.data hk) (hJ.od k hk).2.2⟩
  · intro x hx k hk
    rcases List.mem_append.1 hx with hx | hx
    · exact ⟨.inl (hJ.ov x hx k hk).1, (hJ.ov x hx k hk).2.1, hv'n k (hJ.olt k (hJ.ov x hx k hk).1) (hJ.ov x hx k hk).2.2⟩
    · obtain rfl : x = u := by simpa using hx
      exact ⟨.inr (.inl hk), huj k hk, hv'n k (hu.lt hk) (hune k hk)⟩
  · intro k hk
    have hz : (w2.setCell ⟨j, 8, none⟩ v').heap.size = w2.heap.size := by simp [World.setCell]
    rw [hz]
    rcases hk with hk | hk | hk
    · have := hJ.olt k hk
      omega
    · have := hu.lt hk
      omega
    · exact hown.lt hk
  · show M.number + (M.entries ++ [e]).length ≤ _
    rw [hlen]
    unfold JouM.last at hla
    omega
  · intro x hx
    rcases List.mem_append.1 hx with hx | hx
    · exact hJ.ok.ents x hx
    · obtain rfl : x = e := by simpa using hx
      exact he
  · exact ((((Chg.of_below hb0).mono fun _ _ h => h.elim).trans (Chg.of_grown hg) fun k _ e => (hJ.oe k e.symm).1).trans (Chg.setCell w2 ⟨j, 8, none⟩ v') fun k _ e => e ▸ hJ.ol : Chg own w1 _)
end Go.Proofs.YtngflpaooppmhaaGreat
