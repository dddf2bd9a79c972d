/- What most of a group of one say. (Printed by mkra2.py.) counts: a node alone has its last entry agreed upon. (Printed by mkra3.py.) A node alone: it leads. (Printed by mkra4.py.) A node alone stands, and leads at once. (Printed by mkra5.py.) Tick of a node alone. (Printed by mkra6.py.) Propose of a node alone. (Printed by mkra7.py.) -/
import Derived.Deep.CutBlock
import Derived.Deep.DeepCutAuto
import Derived.Test.YtngflpaooppmhaaGreatWI
namespace Go.Proofs.YtngflpaooppmhaaGreat
open Go.RowKit Go.Sat Go.Maps

section
variable {P : Program} (w : World)
theorem run_put_int (mty kt et : TypeId) (r clock : Nat) (k : IntKind) (n : Int) (val : Value) (hm : P.underlying mty = some (.map kt et)) (hk : P.underlying kt = some (.int k)) (hb : w.heap[r]? = some (.map #[] clock)) :
    (Instr.mapUpdate mty (.map (some r)) (.int k n) val).run P w = .ok () { w with heap := w.heap.setIfInBounds r (.map #[{ key := .int k n, val := val, born := clock }] (clock + 1)) } := by
  have hf : Instr.findNow (.int k) (.int k n) ([] : List MapEntry) 0 = some none := rfl
  have hc : (Instr.checkKey false 10000 kt (.int k n)).run P w = .ok () w := MapKept.run_checkKey (k := .int k n) hk (by simp [MapKept.IsKey]) false 9999
  simp [Instr.mapUpdate, run_underlying hm, MapKept.run_getObj_map hb, hc, MapKept.run_findKey hk hf, MapKept.run_setObj_map _ hb, Result.andThen]
theorem run_look_int (mty kt et : TypeId) (r clock c : Nat) (k : IntKind) (n : Int) (val : Value) (hm : P.underlying mty = some (.map kt et)) (hk : P.underlying kt = some (.int k)) (hb : w.heap[r]? = some (.map #[{ key := .int k n, val := val, born := c }] clock)) :
    (Instr.lookup mty (.map (some r)) (.int k n) false).run P w = .ok val w := by
  have hf : Instr.findNow (.int k) (.int k n) [({ key := .int k n, val := val, born := c } : MapEntry)] 0 = some (some (0, val)) := by simp [Instr.findNow, Instr.sameNow]
  have hc : ∀ b, (Instr.checkKey b 10000 kt (.int k n)).run P w = .ok () w := fun b => MapKept.run_checkKey (k := .int k n) hk (by simp [MapKept.IsKey]) b 9999
  simp [Instr.lookup, run_underlying hm, MapKept.run_getObj_map hb, hc, MapKept.run_findKey hk hf, Result.andThen]
end

section
variable {w w1 w2 : World} {r j d : Nat} {id : Int} {D D' : DiskM} {M M' : JouM} {s s' : RaS} {F F' : Nat → Prop}
set_option maxRecDepth 100000 in
set_option maxHeartbeats 4000000 in
theorem counts1_calls {W : World} {b c r : Nat} {id : Int} (hb : W.cell? ⟨b, 0, none⟩ = some (.pointer (some ⟨r, 0, none⟩))) (hr : W.cell? ⟨r, 1, none⟩ = some (.int .i64 id)) :
    Calls Tryz.prog 112 #[.int .i64 id, .pointer (some ⟨b, 0, none⟩), .pointer (some ⟨c, 0, none⟩)] W fun e w' => e = .returned (.bool true) ∧ Below W.heap.size W w' := by
  have hid : (id == id) = true := by simp
  go_enter Tryz.func112, Tryz.ntmps112
  go_wp2_with fail
  refine ord_start (fun w' : World => w'.cell? ⟨b, 0, none⟩ = some (.pointer (some ⟨r, 0, none⟩)) ∧ w'.cell? ⟨r, 1, none⟩ = some (.int .i64 id)) (n := 17) (by kernel_rfl) rfl ⟨hb, hr⟩ (fun hHeld => ?_)
  refine Pl [0,1,2,3,4,5,6,7,8,9,10,11,12,13,14,15,16] ?_
  iterate 7 (refine Pd rfl (by intro w hSw; have e0 := hSw.1; have e1 := hSw.2; go_simp; try with_reducible rfl) ?_; simp only [Act.put, uA, uB, uC])
  iterate 8 (refine Ps rfl ?_; simp only [Act.put, uA, uB, uC])
  iterate 2 (refine Pc rfl ?_; simp only [Act.put, uA, uB, uC])
  refine Pn ?_
  refine wpAnyH_done (by kernel_rfl) ?_ _
  go_wp2_with fail
  go_ret
  exact ⟨rfl, below_drew W⟩
set_option maxRecDepth 100000 in
set_option maxHeartbeats 4000000 in
theorem settles1_calls {W : World} {b c r : Nat} {id : Int} (hb : W.cell? ⟨b, 0, none⟩ = some (.pointer (some ⟨r, 0, none⟩))) (hr : W.cell? ⟨r, 1, none⟩ = some (.int .i64 id)) :
    Calls Tryz.prog 70 #[.int .i64 id, .pointer (some ⟨b, 0, none⟩), .pointer (some ⟨c, 0, none⟩)] W fun e w' => e = .returned (.bool true) ∧ Below W.heap.size W w' := by
  have hid : (id == id) = true := by simp
  go_enter Tryz.func70, Tryz.ntmps70
  go_wp2_with fail
  refine ord_start (fun w' : World => w'.cell? ⟨b, 0, none⟩ = some (.pointer (some ⟨r, 0, none⟩)) ∧ w'.cell? ⟨r, 1, none⟩ = some (.int .i64 id)) (n := 18) (by kernel_rfl) rfl ⟨hb, hr⟩ (fun hHeld => ?_)
  refine Pl [0,1,2,3,4,5,6,7,8,9,10,11,12,13,14,15,16,17] ?_
  iterate 7 (refine Pd rfl (by intro w hSw; have e0 := hSw.1; have e1 := hSw.2; go_simp; try with_reducible rfl) ?_; simp only [Act.put, uA, uB, uC])
  iterate 9 (refine Ps rfl ?_; simp only [Act.put, uA, uB, uC])
  iterate 2 (refine Pc rfl ?_; simp only [Act.put, uA, uB, uC])
  refine Pn ?_
  refine wpAnyH_done (by kernel_rfl) ?_ _
  go_wp2_with fail
  go_ret
  exact ⟨rfl, below_drew W⟩
set_option maxRecDepth 100000 in
set_option maxHeartbeats 4000000 in
theorem stands1_calls {W : World} {b m r c cl : Nat} {id : Int} (hb : W.cell? ⟨b, 0, none⟩ = some (.pointer (some ⟨r, 0, none⟩))) (hr : W.cell? ⟨r, 7, none⟩ = some (.map (some m))) (hm : W.heap[m]? = some (.map #[{ key := .int .i64 id, val := .bool true, born := c }] cl)) :
    Calls Tryz.prog 66 #[.int .i64 id, .pointer (some ⟨b, 0, none⟩)] W fun e w' => e = .returned (.bool true) ∧ Below W.heap.size W w' := by
  have hl := run_look_int W 67 3 4 m cl c .i64 id (.bool true) Tryz.underlying67 Tryz.underlying3 hm
  go_enter Tryz.func66, Tryz.ntmps66
  go_wp2_with fail
  go_ret
  exact ⟨rfl, Below.refl _ _⟩
set_option maxRecDepth 100000 in
set_option maxHeartbeats 4000000 in
theorem ramostS_calls {b : Nat} (h : RaF w w1 r j d id D M s F) (hal : (M.grpIn M.entries.length).1 = [id]) (hf : ∀ W, Below w1.heap.size w1 W → Calls Tryz.prog 66 #[.int .i64 id, .pointer (some ⟨b, 0, none⟩)] W fun e w' => e = .returned (.bool true) ∧ Below W.heap.size W w') :
    Calls Tryz.prog 65 #[.pointer (some ⟨r, 0, none⟩), .func (.func 66) #[] #[.pointer (some ⟨b, 0, none⟩)]] w1 fun e w' => e = .returned (.bool true) ∧ Below w1.heap.size w1 w' := by
  have Hgr := Lib.hid (ragroup_calls h)
  rw [hal] at Hgr
  have Hf := Lib.hid hf
  clear h hf
  go_enter Tryz.func65, Tryz.ntmps65
  go_wp2_with fail
  refine Hgr.out.mono ?_
  rintro e w2 ⟨v, rfl, hv, hn, hb⟩
  rcases hv.2 with ⟨rfl, h0⟩ | ⟨g, cap, cur, rfl, hg, hnc, hcm, hcs, htk⟩
  · simp at h0
  have hc0 : w2.cell? ⟨g, 0, none⟩ = some (.int .i64 id) := by
    have := OwnR.cells hv (g := g) rfl 0 (.int .i64 id) rfl
    rwa [add_zero] at this
  have Hb := Lib.hid hb
  clear hv hn hb Hgr hg hnc hcm hcs htk
  simp only [List.length_cons, List.length_nil, Nat.zero_add] at *
  go_wp2_with fail
  go_loopw [6, 13] (fun m i wr => ∃ k : Nat, k ≤ 1 ∧ i = .int .i64 k ∧ m = .int .i64 k ∧ Below w2.heap.size w2 wr) (fun _ i _ => 1 - (intOf i).toNat)
  case atStart => exact ⟨0, by omega, rfl, rfl, Below.refl _ _⟩
  case round =>
    obtain ⟨k, hk, rfl, rfl, hbr⟩ := hrel
    have Hbr := Lib.hid hbr
    have hc1 := (hbr.cell (World.block_lt_of_cell? _ _ hc0)).trans hc0
    have Hfk := Lib.hid (Hf.out wr (Hb.out.trans (hbr.mono Hb.out.size)))
    clear hbr
    by_cases hlt : k < 1
    · obtain rfl : k = 0 := by omega
      go_wp2_with fail
      refine Hfk.out.mono ?_
      rintro e w3 ⟨rfl, hb3⟩
      have Hb3 := Lib.hid (Hbr.out.trans (hb3.mono Hbr.out.size))
      clear hb3 Hfk hc1
      go_wp2_with fail
      go_roundw
      case rel => exact ⟨1, by omega, rfl, rfl, Hb3.out⟩
      case measure => simp [intOf]
    · obtain rfl : k = 1 := by omega
      go_wp2_with fail
      go_ret
      exact ⟨rfl, Hb.out.trans (Hbr.out.mono Hb.out.size)⟩
set_option maxRecDepth 100000 in
set_option maxHeartbeats 4000000 in
theorem ramostC_calls {b c : Nat} (h : RaF w w1 r j d id D M s F) (hal : (M.grpIn M.entries.length).1 = [id]) (hf : ∀ W, Below w1.heap.size w1 W → Calls Tryz.prog 112 #[.int .i64 id, .pointer (some ⟨b, 0, none⟩), .pointer (some ⟨c, 0, none⟩)] W fun e w' => e = .returned (.bool true) ∧ Below W.heap.size W w') :
    Calls Tryz.prog 65 #[.pointer (some ⟨r, 0, none⟩), .func (.func 112) #[] #[.pointer (some ⟨b, 0, none⟩), .pointer (some ⟨c, 0, none⟩)]] w1 fun e w' => e = .returned (.bool true) ∧ Below w1.heap.size w1 w' := by
  have Hgr := Lib.hid (ragroup_calls h)
  rw [hal] at Hgr
  have Hf := Lib.hid hf
  clear h hf
  go_enter Tryz.func65, Tryz.ntmps65
  go_wp2_with fail
  refine Hgr.out.mono ?_
  rintro e w2 ⟨v, rfl, hv, hn, hb⟩
  rcases hv.2 with ⟨rfl, h0⟩ | ⟨g, cap, cur, rfl, hg, hnc, hcm, hcs, htk⟩
  · simp at h0
  have hc0 : w2.cell? ⟨g, 0, none⟩ = some (.int .i64 id) := by
    have := OwnR.cells hv (g := g) rfl 0 (.int .i64 id) rfl
    rwa [add_zero] at this
  have Hb := Lib.hid hb
  clear hv hn hb Hgr hg hnc hcm hcs htk
  simp only [List.length_cons, List.length_nil, Nat.zero_add] at *
  go_wp2_with fail
  go_loopw [6, 13] (fun m i wr => ∃ k : Nat, k ≤ 1 ∧ i = .int .i64 k ∧ m = .int .i64 k ∧ Below w2.heap.size w2 wr) (fun _ i _ => 1 - (intOf i).toNat)
  case atStart => exact ⟨0, by omega, rfl, rfl, Below.refl _ _⟩
  case round =>
    obtain ⟨k, hk, rfl, rfl, hbr⟩ := hrel
    have Hbr := Lib.hid hbr
    have hc1 := (hbr.cell (World.block_lt_of_cell? _ _ hc0)).trans hc0
    have Hfk := Lib.hid (Hf.out wr (Hb.out.trans (hbr.mono Hb.out.size)))
    clear hbr
    by_cases hlt : k < 1
    · obtain rfl : k = 0 := by omega
      go_wp2_with fail
      refine Hfk.out.mono ?_
      rintro e w3 ⟨rfl, hb3⟩
      have Hb3 := Lib.hid (Hbr.out.trans (hb3.mono Hbr.out.size))
      clear hb3 Hfk hc1
      go_wp2_with fail
      go_roundw
      case rel => exact ⟨1, by omega, rfl, rfl, Hb3.out⟩
      case measure => simp [intOf]
    · obtain rfl : k = 1 := by omega
      go_wp2_with fail
      go_ret
      exact ⟨rfl, Hb.out.trans (Hbr.out.mono Hb.out.size)⟩
set_option maxRecDepth 100000 in
set_option maxHeartbeats 4000000 in
theorem ramostQ_calls {b c : Nat} (h : RaF w w1 r j d id D M s F) (hal : (M.grpIn M.entries.length).1 = [id]) (hf : ∀ W, Below w1.heap.size w1 W → Calls Tryz.prog 70 #[.int .i64 id, .pointer (some ⟨b, 0, none⟩), .pointer (some ⟨c, 0, none⟩)] W fun e w' => e = .returned (.bool true) ∧ Below W.heap.size W w') :
    Calls Tryz.prog 65 #[.pointer (some ⟨r, 0, none⟩), .func (.func 70) #[] #[.pointer (some ⟨b, 0, none⟩), .pointer (some ⟨c, 0, none⟩)]] w1 fun e w' => e = .returned (.bool true) ∧ Below w1.heap.size w1 w' := by
  have Hgr := Lib.hid (ragroup_calls h)
  rw [hal] at Hgr
  have Hf := Lib.hid hf
  clear h hf
  go_enter Tryz.func65, Tryz.ntmps65
  go_wp2_with fail
  refine Hgr.out.mono ?_
  rintro e w2 ⟨v, rfl, hv, hn, hb⟩
  rcases hv.2 with ⟨rfl, h0⟩ | ⟨g, cap, cur, rfl, hg, hnc, hcm, hcs, htk⟩
  · simp at h0
  have hc0 : w2.cell? ⟨g, 0, none⟩ = some (.int .i64 id) := by
    have := OwnR.cells hv (g := g) rfl 0 (.int .i64 id) rfl
    rwa [add_zero] at this
  have Hb := Lib.hid hb
  clear hv hn hb Hgr hg hnc hcm hcs htk
  simp only [List.length_cons, List.length_nil, Nat.zero_add] at *
  go_wp2_with fail
  go_loopw [6, 13] (fun m i wr => ∃ k : Nat, k ≤ 1 ∧ i = .int .i64 k ∧ m = .int .i64 k ∧ Below w2.heap.size w2 wr) (fun _ i _ => 1 - (intOf i).toNat)
  case atStart => exact ⟨0, by omega, rfl, rfl, Below.refl _ _⟩
  case round =>
    obtain ⟨k, hk, rfl, rfl, hbr⟩ := hrel
    have Hbr := Lib.hid hbr
    have hc1 := (hbr.cell (World.block_lt_of_cell? _ _ hc0)).trans hc0
    have Hfk := Lib.hid (Hf.out wr (Hb.out.trans (hbr.mono Hb.out.size)))
    clear hbr
    by_cases hlt : k < 1
    · obtain rfl : k = 0 := by omega
      go_wp2_with fail
      refine Hfk.out.mono ?_
      rintro e w3 ⟨rfl, hb3⟩
      have Hb3 := Lib.hid (Hbr.out.trans (hb3.mono Hbr.out.size))
      clear hb3 Hfk hc1
      go_wp2_with fail
      go_roundw
      case rel => exact ⟨1, by omega, rfl, rfl, Hb3.out⟩
      case measure => simp [intOf]
    · obtain rfl : k = 1 := by omega
      go_wp2_with fail
      go_ret
      exact ⟨rfl, Hb.out.trans (Hbr.out.mono Hb.out.size)⟩
end
end Go.Proofs.YtngflpaooppmhaaGreat

namespace Go.Proofs.YtngflpaooppmhaaGreat
open Go.RowKit Go.Sat Go.Maps

/-- What counts reads. -/
structure CT (W : World) (r b i j : Nat) (id : Int) (cm la : Nat) : Prop where
  b : W.cell? ⟨b, 0, none⟩ = some (.pointer (some ⟨r, 0, none⟩))
  j : W.cell? ⟨r, 0, none⟩ = some (.pointer (some ⟨j, 0, none⟩))
  id : W.cell? ⟨r, 1, none⟩ = some (.int .i64 id)
  cm : W.cell? ⟨r, 4, none⟩ = some (.int .i64 (cm : Int))
  i : W.cell? ⟨i, 0, none⟩ = some (.int .i64 (la : Int))
theorem cell_next {W W' : World} {a : Addr} {v : Value} (hb : Below W.heap.size W W') (h : W.cell? a = some v) : W'.cell? a = some v := (hb.cell (World.block_lt_of_cell? _ _ h)).trans h
theorem CT.next {W W' : World} {r b i j : Nat} {id : Int} {cm la : Nat} (h : CT W r b i j id cm la) (hb : Below W.heap.size W W') : CT W' r b i j id cm la :=
  ⟨cell_next hb h.b, cell_next hb h.j, cell_next hb h.id, cell_next hb h.cm, cell_next hb h.i⟩

theorem ctn1_calls {W : World} {v : Value} {id : Int} (hv : OwnI W v [id]) : Calls Tryz.prog 28 #[v, .int .i64 id] W fun e w' => e = .returned (.bool true) ∧ w' = W := by
  rcases hv.2 with ⟨rfl, h0⟩ | ⟨g, cap, cur, rfl, hg, hnc, hcm, hcs, htk⟩
  · simp at h0
  have hc0 : W.cell? ⟨g, 0, none⟩ = some (.int .i64 id) := by
    have := OwnR.cells hv (g := g) rfl 0 (.int .i64 id) rfl
    rwa [add_zero] at this
  have h := Tryz.slices_Contains_int g 0 1 cap [id] id W (by simp) (by decide) (fun j hj => by
    obtain rfl : j = 0 := by simpa using hj
    exact hc0)
  simpa using h
section
variable {w w1 w2 : World} {r j d : Nat} {id : Int} {D D' : DiskM} {M M' : JouM} {s s' : RaS} {F F' : Nat → Prop}
theorem RaF.cell (h : RaF w w1 r j d id D M s F) (i : Nat) {v : Value} (hv : ∀ pv wv sv, (match RaO j id s pv wv sv with | .cells c _ _ => c[i]? | _ => none) = some v) : w1.cell? ⟨r, i, none⟩ = some v := by
  obtain ⟨pv, wv, sv, hc⟩ := h.cells
  exact cell_of hc (hv pv wv sv)
theorem RaF.frozen (h : RaF w w1 r j d id D M s F) (i : Nat) : w1.frozen? ⟨r, i, none⟩ = false := by
  obtain ⟨pv, wv, sv, hc⟩ := h.cells
  exact frozen_of hc i
theorem RaF.same (h : RaF w w1 r j d id D M s F) (hb : Below w1.heap.size w1 w2) : Same F w1 w2 := fun _ hk => hb.block _ (h.flt hk)
set_option maxRecDepth 100000 in
set_option maxHeartbeats 4000000 in
theorem racounts_calls (h : RaF w w1 r j d id D M s F) (hal : (M.grpIn M.entries.length).1 = [id]) (hat : (M.grpIn M.entries.length).2 ≤ M.last) (hc : s.commit < M.last) (ht : M.termAt (M.last : Int) = some M.now) :
    Calls Tryz.prog 61 #[.pointer (some ⟨r, 0, none⟩)] w1 fun e w' => e = .returned (.bool true) ∧ RaF w w' r j d id D M { s with commit := M.last } F ∧ Same F w1 w' := by
  have h1 := h.box (.cells #[.pointer (some ⟨r, 0, none⟩)] 29)
  have Hla := Lib.hid (ra_q h1 fun G hJ => jlast_calls hJ)
  have Hs := Lib.hid (h.same (below_one w1 (.cells #[.pointer (some ⟨r, 0, none⟩)] 29)))
  have hlast := h.okM.last
  have hbx : (w1.alloc (.cells #[.pointer (some ⟨r, 0, none⟩)] 29)).cell? ⟨w1.heap.size, 0, none⟩ = some (.pointer (some ⟨r, 0, none⟩)) := cell_of (new_block w1 _) rfl
  have c0 := h1.cell (i := 0) (v := .pointer (some ⟨j, 0, none⟩)) fun _ _ _ => rfl
  have Hbx := Lib.hid hbx
  have H1 := Lib.hid h1
  clear h h1
  generalize hla : M.last = la at *
  have Hlx := Lib.hid hla
  clear hla
  go_enter Tryz.func61, Tryz.ntmps61
  go_wp2_with fail
  refine Hla.out.mono ?_
  rintro e w2 ⟨rfl, q, rfl⟩
  have H2 := Lib.hid (H1.out.next (below_dqa _ q))
  have Hb2 := Lib.hid (cell_next (below_dqa (w1.alloc (.cells #[.pointer (some ⟨r, 0, none⟩)] 29)) q) Hbx.out)
  have Hs2 := Lib.hid (fun k (hk : F k) => show ((w1.alloc (.cells #[.pointer (some ⟨r, 0, none⟩)] 29)).drewN q).heap[k]? = w1.heap[k]? from Hs.out k hk)
  clear H1 hbx Hbx c0 Hla Hs
  generalize (w1.alloc (.cells #[.pointer (some ⟨r, 0, none⟩)] 29)).drewN q = W2 at *
  generalize w1.heap.size = b0 at *
  have hbx := Hb2.out
  have c4 := H2.out.cell (i := 4) (v := .int .i64 (s.commit : Int)) fun _ _ _ => rfl
  generalize hcm : s.commit = cm at *
  have H3 := Lib.hid (H2.out.box (.cells #[.int .i64 (la : Int)] 3))
  have hb3 := below_one W2 (.cells #[.int .i64 (la : Int)] 3)
  have HC := Lib.hid (⟨cell_next hb3 Hb2.out, H3.out.cell (i := 0) fun _ _ _ => rfl, H3.out.cell (i := 1) fun _ _ _ => rfl, cell_next hb3 c4, cell_of (new_block W2 _) rfl⟩ : CT (W2.alloc (.cells #[.int .i64 (la : Int)] 3)) r b0 W2.heap.size j id cm la)
  have Hs3 := Lib.hid (fun k (hk : F k) => show (W2.alloc (.cells #[.int .i64 (la : Int)] 3)).heap[k]? = w1.heap[k]? from (hb3.block k (H2.out.flt (.inl hk))).trans (Hs2.out k hk))
  have hcd : decide ((cm : Int) < (la : Int)) = true := decide_eq_true (by omega)
  have hcn : decide (cm < la) = true := decide_eq_true hc
  clear hb3 H2 Hb2 Hs2
  go_wp2_with fail
  clear hbx c4
  generalize W2.alloc (.cells #[.int .i64 (la : Int)] 3) = W3 at *
  generalize W2.heap.size = i0 at *
  go_loopw [6] (fun i wr => i = .pointer (some ⟨i0, 0, none⟩) ∧ wr = W3) (fun _ _ => 0)
  case atStart => exact ⟨rfl, rfl⟩
  case round =>
    obtain ⟨rfl, rfl⟩ := hrel
    have e0 := HC.out.b
    have e1 := HC.out.j
    have e4 := HC.out.i
    have Hta := Lib.hid (ra_q (H3.out.next (below_drew wr)) fun G hJ => jtermAt_calls hJ (la : Int) (by omega))
    have ht0 := ht
    rw [ht0] at Hta
    go_upto_region 6 with (fail)
    refine ord_start (fun w' : World => w'.cell? ⟨b0, 0, none⟩ = some (.pointer (some ⟨r, 0, none⟩)) ∧ w'.cell? ⟨r, 0, none⟩ = some (.pointer (some ⟨j, 0, none⟩)) ∧ w'.cell? ⟨i0, 0, none⟩ = some (.int .i64 (la : Int))) (n := 11) (by kernel_rfl) rfl ⟨e0, e1, e4⟩ (fun hHeld => ?_)
    refine Pl [0,1,2,3,4] ?_
    iterate 5 (refine Pd rfl (by intro w hSw; have e0 := hSw.1; have e1 := hSw.2.1; have e4 := hSw.2.2; go_simp; try with_reducible rfl) ?_; simp only [Act.put, uA, uB, uC])
    refine Pn ?_
    refine ord_one 5 rfl (by kernel_rfl) (by rfl) (fun K hK => ?_)
    go_wp2_with fail
    refine Hta.out.mono ?_
    rintro e w4 ⟨rfl, q4, rfl⟩
    have hb4 : Below wr.heap.size wr (wr.drew.drewN q4) := (below_drew wr).trans (below_dqa wr.drew q4)
    have HC4 := Lib.hid (HC.out.next hb4)
    have H4 := Lib.hid (H3.out.next hb4)
    have Hs4 := Lib.hid (fun k (hk : F k) => show (wr.drew.drewN q4).heap[k]? = w1.heap[k]? from Hs3.out k hk)
    clear hb4 HC H3 Hs3 Hta e0 e1 e4 hHeld
    generalize wr.drew.drewN q4 = W4 at *
    go_wp2_with fail
    refine hK.out _ _ ⟨HC4.out.b, HC4.out.j, HC4.out.i⟩ (fun hHeld => ?_)
    clear hK
    try simp only [Act.put, uA, uB, uC]
    refine Pl [6,7,8,9,10] ?_
    iterate 5 (refine Pc rfl ?_; simp only [Act.put, uA, uB, uC])
    refine Pn ?_
    refine wpAnyH_done (by kernel_rfl) ?_ _
    clear hHeld
    have e0 := HC4.out.b
    have Hte := Lib.hid (raterm_calls H4.out)
    go_wp2_with fail
    refine Hte.out.mono ?_
    rintro e w5 ⟨rfl, q5, rfl⟩
    have hnn : (M.now != M.now) = false := by simp
    have HC5 := Lib.hid (HC4.out.next (below_dqa W4 q5))
    have H5 := Lib.hid (H4.out.next (below_dqa W4 q5))
    have Hs5 := Lib.hid (fun k (hk : F k) => show (W4.drewN q5).heap[k]? = w1.heap[k]? from Hs4.out k hk)
    clear HC4 H4 Hs4 Hte e0
    generalize W4.drewN q5 = W5 at *
    have e0 := HC5.out.b
    have Hmo := Lib.hid (ramostC_calls (b := b0) (c := i0) H5.out hal (fun W hb => counts1_calls (cell_next hb HC5.out.b) (cell_next hb HC5.out.id)))
    go_wp2_with fail
    refine Hmo.out.mono ?_
    rintro e w6 ⟨rfl, hb6⟩
    have HC6 := Lib.hid (HC5.out.next hb6)
    have H6 := Lib.hid (H5.out.next hb6)
    have Hs6 := Lib.hid (fun k (hk : F k) => (hb6.block k (H5.out.flt (.inl (.inl hk)))).trans (Hs5.out k hk))
    clear HC5 H5 Hs5 Hmo e0 hb6
    have f4 := H6.out.frozen 4
    have H7 := Lib.hid (H6.out.set 4 (.int .i64 (la : Int)) (s' := { s with commit := la }) (fun pv wv sv => ⟨pv, rfl⟩) rfl)
    have Hs7 := Lib.hid (fun k (hk : F k) => (H6.out.same_set 4 (.int .i64 (la : Int)) k (.inl (.inl hk))).trans (Hs6.out k hk))
    have e0 := HC6.out.b
    have e4 := HC6.out.i
    have e5 := HC6.out.cm
    have b7 : b0 ≠ r := fun e => by
      have h1 := HC6.out.b
      have h2 := HC6.out.cm
      have h3 := HC6.out.j
      rw [e, h3] at h1
      cases h1
      have h4 := H6.out
      obtain ⟨_, _, _, hJ, hI⟩ := h4
      exact hJ.jnF (.inr (.inl rfl))
    have e7 : (w6.setCell ⟨r, 4, none⟩ (.int .i64 (la : Int))).cell? ⟨b0, 0, none⟩ = some (.pointer (some ⟨r, 0, none⟩)) := (World.cell?_of_block (set_other _ b7)).trans e0
    have k0 := H7.out.cell (i := 0) (v := .pointer (some ⟨j, 0, none⟩)) fun _ _ _ => rfl
    have k1 := H7.out.cell (i := 1) (v := .int .i64 id) fun _ _ _ => rfl
    have k4 := H7.out.cell (i := 4) (v := .int .i64 (la : Int)) fun _ _ _ => rfl
    have Hno := Lib.hid (ra_q H7.out fun G hJ => jnodes_calls hJ)
    clear HC6 H6 Hs6 b7
    go_wp2_with fail
    refine Hno.out.mono ?_
    rintro e w8 ⟨v, rfl, hv, hn, hb⟩
    rw [hal] at hv
    have Hct := Lib.hid (ctn1_calls hv)
    have H8 := Lib.hid (H7.out.next hb)
    have Hs8 := Lib.hid (fun k (hk : F k) => (hb.block k (H7.out.flt (.inl (.inl hk)))).trans (Hs7.out k hk))
    have e8 := cell_next hb e7
    have g1 := cell_next hb k1
    have g4 := cell_next hb k4
    clear hb hv hn e7 k0 k1 k4 e0 e4 e5 f4 H7 Hs7 Hno
    generalize hau : (M.grpIn M.entries.length).2 = au at *
    have had : decide ((au : Int) ≤ (la : Int)) = true := decide_eq_true (by omega)
    have han : decide (au ≤ la) = true := decide_eq_true hat
    clear hau
    go_wp2_with fail
    refine Hct.out.mono ?_
    rintro e w9 ⟨rfl, rfl⟩
    go_wp2_with fail
    go_ret
    exact ⟨rfl, H8.out.less fun k hk => .inl (.inl hk), Hs8.out⟩
end
end Go.Proofs.YtngflpaooppmhaaGreat

namespace Go.Proofs.YtngflpaooppmhaaGreat
open Go.RowKit Go.Sat Go.Maps

theorem holds_blk1 {W : World} {b : Nat} {cs : Array Value} {e : TypeId} {fr : Nat × Nat} (h : W.heap[b]? = some (.cells cs e fr)) (xs : List Value) (size n c : Nat) (hl : cs.toList = xs) (hx : xs.length = n * size) : Holds W size (.slice (some ⟨b, 0, none⟩) n c) n xs := by
  refine ⟨hx, some ⟨b, 0, none⟩, c, rfl, fun e => (by cases e), fun a ha i u hu => ?_⟩
  cases ha
  rw [add_zero]
  refine cell_of h ?_
  rw [← hl] at hu
  simpa using hu
theorem ent_nil (w : World) (t k : Int) : EntHas w ⟨t, k, [], []⟩ (.slice none 0 0, .slice none 0 0) :=
  ⟨⟨rfl, none, 0, rfl, fun _ => rfl, fun a ha => (by cases ha)⟩, ⟨rfl, none, 0, rfl, fun _ => rfl, fun a ha => (by cases ha)⟩, by simp, by simp⟩

section
variable {w w1 w2 : World} {r j d : Nat} {id : Int} {D D' : DiskM} {M M' : JouM} {s s' : RaS} {F F' : Nat → Prop}
theorem ra_append1 (h : RaF w w1 r j d id D M s F) {e : Ent} {u : EV} (he : EntHas w e u) :
    Calls Tryz.prog 60 #[.pointer (some ⟨j, 0, none⟩), .slice (some ⟨w1.heap.size, 0, none⟩) 1 1] (w1.alloc (.cells #[.int .i64 e.term, .int .i64 e.kind, u.1, u.2] 47)) fun r' w' => r' = .returned (.int .i64 ((jouAppend [97] D M [e]).err : Int)) ∧ RaF w w' r j d id (jouAppend [97] D M [e]).disk (jouAppend [97] D M [e]).jou s F ∧ Same F w1 w' := by
  have hb := below_one w1 (.cells #[.int .i64 e.term, .int .i64 e.kind, u.1, u.2] 47)
  have hn := new_block w1 (.cells #[.int .i64 e.term, .int .i64 e.kind, u.1, u.2] 47)
  refine (ra_jou (Q := fun r' => r' = .returned (.int .i64 ((jouAppend [97] D M [e]).err : Int))) (h.box (.cells #[.int .i64 e.term, .int .i64 e.kind, u.1, u.2] 47)) fun G hG hJ => jappend_calls hJ (es := [e]) (vs := [u]) (fun W' hW hs => ⟨rfl, holds_blk1 ((hs _ (hG _ (.inr rfl))).trans hn) _ 4 1 1 (by simp [entsC, entC]) (by simp [entsC, entC]), fun i e' u' he' hu' => by
    cases i with
    | zero =>
      cases he'
      cases hu'
      exact he.below hW
    | succ i => simp at he'⟩) (by decide)).mono ?_
  rintro r' w' ⟨hr, hR, hs⟩
  exact ⟨hr, hR.less fun k hk => .inl hk, fun k hk => (hs k (.inl hk)).trans (hb.block k (h.flt hk))⟩

set_option maxRecDepth 100000 in
set_option maxHeartbeats 4000000 in
theorem raleads_calls (h : RaF w w1 r j d id D M s F) (hal : (M.grpIn M.entries.length).1 = [id]) (hap : jouAppend [97] D M [⟨M.now, 0, [], []⟩] = ⟨D', M', 0⟩) (hal' : (M'.grpIn M'.entries.length).1 = [id]) (hat' : (M'.grpIn M'.entries.length).2 ≤ M'.last) (hc : s.commit < M'.last) (ht : M'.termAt (M'.last : Int) = some M'.now) :
    Calls Tryz.prog 67 #[.pointer (some ⟨r, 0, none⟩)] w1 fun e w' => e = .returned (.tuple #[]) ∧ RaF w w' r j d id D' M' { s with role := 2, leader := id, round := 0, wait := 3, commit := M'.last } F ∧ Same F w1 w' := by
  have hmm := @run_makeMap Tryz.prog
  have h1 := h.box (.map #[] 0)
  have f2 := h1.frozen 2
  have f3 := h1.frozen 3
  have f8 := h1.frozen 8
  have f9 := h1.frozen 9
  have d1 := h.cell (i := 1) (v := .int .i64 id) fun _ _ _ => rfl
  have c2 := h1.cell (i := 2) (v := .int .i64 s.role) fun _ _ _ => rfl
  have c3 := h1.cell (i := 3) (v := .int .i64 s.leader) fun _ _ _ => rfl
  have c9 := h1.cell (i := 9) (v := .int .i64 (s.round : Int)) fun _ _ _ => rfl
  obtain ⟨pv, wv, sv, hcc⟩ := h1.cells
  have c8 := cell_of hcc (i := 8) rfl
  have Hs1 := Lib.hid (fun k (hk : F k) => (below_one w1 (.map #[] 0)).block k (h.flt hk))
  have h2 := h1.set 2 (.int .i64 2) (s' := { s with role := 2 }) (fun pv wv sv => ⟨pv, rfl⟩) rfl
  have h3 := h2.set 3 (.int .i64 id) (s' := { s with role := 2, leader := id }) (fun pv wv sv => ⟨pv, rfl⟩) rfl
  have h4 := h3.set 9 (.int .i64 0) (s' := { s with role := 2, leader := id, round := 0 }) (fun pv wv sv => ⟨pv, rfl⟩) rfl
  have h5 := h4.set 8 (.map (some w1.heap.size)) (s' := { s with role := 2, leader := id, round := 0 }) (fun pv wv sv => ⟨.map (some w1.heap.size), rfl⟩) rfl
  have H5 := Lib.hid h5
  have Hs5 := Lib.hid (fun k (hk : F k) => (h4.same_set 8 (.map (some w1.heap.size)) k (.inl hk)).trans ((h3.same_set 9 (.int .i64 0) k (.inl hk)).trans ((h2.same_set 3 (.int .i64 id) k (.inl hk)).trans ((h1.same_set 2 (.int .i64 2) k (.inl hk)).trans (Hs1.out k hk)))))
  clear h h1 h2 h3 h4 h5 Hs1 hcc
  go_enter Tryz.func67, Tryz.ntmps67
  go_upto_region 1 with (fail)
  clear f2 f3 f8 f9 c2 c3 c8 c9 d1 hmm
  generalize (((((w1.alloc (.map #[] 0)).setCell ⟨r, 2, none⟩ (.int .i64 2)).setCell ⟨r, 3, none⟩ (.int .i64 id)).setCell ⟨r, 9, none⟩ (.int .i64 0)).setCell ⟨r, 8, none⟩ (.map (some w1.heap.size))) = W5 at *
  have Ho := Lib.hid (raothers_calls H5.out hal)
  go_wp2_with fail
  refine Ho.out.mono ?_
  rintro e w6 ⟨p, c, rfl, hb6⟩
  have H6 := Lib.hid (H5.out.next hb6)
  have Hs6 := Lib.hid (fun k (hk : F k) => (hb6.block k (H5.out.flt (.inl hk))).trans (Hs5.out k hk))
  clear hb6 Ho H5 Hs5
  go_wp2_with fail
  go_loopw [24] (fun i wr => i = .int .i64 0 ∧ wr = w6) (fun _ _ => 0)
  case atStart => exact ⟨rfl, rfl⟩
  case round =>
    obtain ⟨rfl, rfl⟩ := hrel
    go_upto_region 6 with (fail)
    have k0 := H6.out.cell (i := 0) (v := .pointer (some ⟨j, 0, none⟩)) fun _ _ _ => rfl
    have H7 := Lib.hid (H6.out.next (below_drew wr))
    have Hs7 := Lib.hid (fun k (hk : F k) => show wr.drew.heap[k]? = w1.heap[k]? from Hs6.out k hk)
    refine ord_start (fun w' : World => w'.cell? ⟨r, 0, none⟩ = some (.pointer (some ⟨j, 0, none⟩))) (n := 12) (by kernel_rfl) rfl k0 (fun hHeld => ?_)
    clear k0 H6 Hs6
    have Hte := Lib.hid (raterm_calls H7.out)
    generalize wr.drew = W7 at *
    refine Pl [0,1,2,3,4,5] ?_
    iterate 6 (refine Pd rfl (by intro w hSw; go_simp; try with_reducible rfl) ?_; simp only [Act.put, uA, uB, uC])
    refine Pn ?_
    refine ord_one 6 rfl (by kernel_rfl) (by rfl) (fun K hK => ?_)
    go_wp2_with fail
    refine Hte.out.mono ?_
    rintro e w8 ⟨rfl, q, rfl⟩
    have H8 := Lib.hid (H7.out.next (below_dqa W7 q))
    have Hs8 := Lib.hid (fun k (hk : F k) => show (W7.drewN q).heap[k]? = w1.heap[k]? from Hs7.out k hk)
    clear Hte H7 Hs7 hHeld
    generalize W7.drewN q = W8 at *
    go_wp2_with fail
    refine hK.out _ _ (H8.out.cell (i := 0) fun _ _ _ => rfl) (fun hHeld => ?_)
    clear hK
    try simp only [Act.put, uA, uB, uC]
    refine Pl [7] ?_
    iterate 1 (refine Pc rfl ?_; simp only [Act.put, uA, uB, uC])
    refine Pn ?_
    have hra := ra_append1 H8.out (ent_nil w M.now 0)
    rw [hap] at hra
    dsimp only at hra
    have Hra := Lib.hid hra
    have H9 := Lib.hid (H8.out.next (below_one W8 (.cells #[.int .i64 M.now, .int .i64 0, .slice none 0 0, .slice none 0 0] 47)))
    clear hra hHeld
    refine ord_one 8 rfl (by kernel_rfl) (by rfl) (fun K hK => ?_)
    go_wp2_with fail
    refine hK.out _ _ (H9.out.cell (i := 0) fun _ _ _ => rfl) (fun hHeld => ?_)
    clear hK H9
    try simp only [Act.put, uA, uB, uC]
    refine ord_one 9 rfl (by kernel_rfl) (by rfl) (fun K hK => ?_)
    go_wp2_with fail
    refine Hra.out.mono ?_
    rintro e wA ⟨rfl, hA, hsA⟩
    have HA := Lib.hid hA
    have HsA := Lib.hid (fun k (hk : F k) => (hsA k (.inl hk)).trans (Hs8.out k hk))
    clear hA hsA Hra H8 Hs8 hHeld
    go_wp2_with fail
    refine hK.out _ _ (HA.out.cell (i := 0) fun _ _ _ => rfl) (fun hHeld => ?_)
    clear hK
    try simp only [Act.put, uA, uB, uC]
    have Hw := Lib.hid (rawritten_calls wA r)
    refine ord_one 10 rfl (by kernel_rfl) (by rfl) (fun K hK => ?_)
    go_wp2_with fail
    refine Hw.out.mono ?_
    rintro e wB ⟨rfl, rfl⟩
    go_wp2_with fail
    refine hK.out _ _ (HA.out.cell (i := 0) fun _ _ _ => rfl) (fun hHeld => ?_)
    clear hK Hw
    try simp only [Act.put, uA, uB, uC]
    refine Pl [11] ?_
    iterate 1 (refine Pc rfl ?_; simp only [Act.put, uA, uB, uC])
    refine Pn ?_
    refine wpAnyH_done (by kernel_rfl) ?_ _
    clear hHeld
    have f6 := HA.out.frozen 6
    have k6 := HA.out.cell (i := 6) (v := .int .i64 s.wait) fun _ _ _ => rfl
    have HB := Lib.hid (HA.out.set 6 (.int .i64 3) (s' := { s with role := 2, leader := id, round := 0, wait := 3 }) (fun pv wv sv => ⟨pv, rfl⟩) rfl)
    have HsB := Lib.hid (fun k (hk : F k) => (HA.out.same_set 6 (.int .i64 3) k (.inl hk)).trans (HsA.out k hk))
    have Hcn := Lib.hid (racounts_calls HB.out hal' hat' hc ht)
    clear HA HsA
    go_wp2_with fail
    refine Hcn.out.mono ?_
    rintro e wC ⟨rfl, hC, hsC⟩
    have HC := Lib.hid hC
    have HsC := Lib.hid (fun k (hk : F k) => (hsC k (.inl hk)).trans (HsB.out k hk))
    have Hsd := Lib.hid (rasendsAll_calls hC hal' rfl)
    clear hC hsC HB HsB Hcn f6 k6
    go_wp2_with fail
    refine Hsd.out.mono ?_
    rintro e wD ⟨rfl, hbD⟩
    have HE := Lib.hid (And.intro ((HC.out.next hbD).less fun k hk => .inl hk) (fun k (hk : F k) => (hbD.block k (HC.out.flt (.inl hk))).trans (HsC.out k hk)))
    clear hbD Hsd HC HsC
    go_wp2_with fail
    go_end0
    exact ⟨rfl, HE.out⟩
end
end Go.Proofs.YtngflpaooppmhaaGreat

namespace Go.Sat
open Go Go.RowKit
/-- Two may come up. -/
theorem ord_pair {P : Program} {l : List Oper} {Q : Exit → Act → World → Prop} {md : Region.Mode} {S : World → Prop} {fuel : Nat} {listed : Array Bool} {a : Act} {w : World} (i j : Nat) {oi oj : Oper} {ri rj : List Oper} (hdi : l.drop i = oi :: ri) (hdj : l.drop j = oj :: rj) (hr : Region.ready md l.toArray listed = [i, j])
    (hwi : Region.wanted oi (yielded l.toArray a.tmps) = true) (hwj : Region.wanted oj (yielded l.toArray a.tmps) = true)
    (hi : ∀ K : Act → World → Prop, Shut (∀ a w, S w → (S w → wpAnyH P md l.toArray Q S fuel (listed.setIfInBounds i true) a w) → K a w) → Oper.wp P oi a w K Q)
    (hj : ∀ K : Act → World → Prop, Shut (∀ a w, S w → (S w → wpAnyH P md l.toArray Q S fuel (listed.setIfInBounds j true) a w) → K a w) → Oper.wp P oj a w K Q) : wpAnyH P md l.toArray Q S (fuel + 1) listed a w :=
  wpAnyH_ready hr (by simp) (AllReadyH.cons (ord_get hdi) (fun K hK => by rw [if_pos hwi]; exact hi K hK) (AllReadyH.cons (ord_get hdj) (fun K hK => by rw [if_pos hwj]; exact hj K hK) AllReadyH.nil))
end Go.Sat

namespace Go.Proofs.YtngflpaooppmhaaGreat
open Go.RowKit Go.Sat Go.Maps

section
variable {w w1 w2 : World} {r j d : Nat} {id : Int} {D D1 D' : DiskM} {M M1 M' : JouM} {s s' : RaS} {F F' : Nat → Prop}
theorem Chg.of_set {W : World} {m : Nat} {o : Obj} : Chg (fun k => k = m) W { W with heap := W.heap.setIfInBounds m o } := ⟨rfl, rfl, rfl, by simp, fun k _ hn => by
  show (W.heap.setIfInBounds m o)[k]? = _
  rw [Array.getElem?_setIfInBounds_ne fun e => hn e.symm]⟩
/-- A block set apart is written. -/
theorem RaF.chg {T : Nat → Prop} (h : RaF w w1 r j d id D M s F) (hc : Chg T w1 w2) (hT : ∀ k, T k → F k ∧ w.heap.size ≤ k) : RaF w w2 r j d id D M s F := by
  obtain ⟨pv, wv, sv, hJ, hI⟩ := h
  have hne : ∀ k, k = r ∨ wv.ownBlock = some k ∨ sv.ownBlock = some k → ¬ T k := fun k hk e => by
    rcases hk with rfl | hk | hk
    · exact hI.nF (hT _ e).1
    · exact (hI.nw k hk).2.2 (hT k e).1
    · exact (hI.ns k hk).2.2.1 (hT k e).1
  refine ⟨pv, wv, sv, hJ.move hc (fun k _ e => ⟨.inl (hT k e).1, (hT k e).2⟩) fun k hk => ⟨.inl hk, Nat.lt_of_lt_of_le (hJ.flt hk) hc.size⟩, ⟨(hc.block r (hI.lt (.inl rfl)) (hne r (.inl rfl))).trans hI.cells, hI.rge, hI.nF, hI.ow.keep fun k hk => hc.block k (hI.ow.lt hk) (hne k (.inr (.inl hk))), hI.os.keep fun k hk => hc.block k (OwnR.lt hI.os hk) (hne k (.inr (.inr hk))), hI.nw, hI.ns⟩⟩

theorem RaF.neF (h : RaF w w1 r j d id D M s F) {k : Nat} (hk : F k) : k ≠ r := fun e => by
  obtain ⟨pv, wv, sv, hJ, hI⟩ := h
  exact hI.nF (e ▸ hk)

set_option maxRecDepth 100000 in
set_option maxHeartbeats 4000000 in
theorem rastands_calls (h : RaF w w1 r j d id D M s F) (hid : 0 ≤ id ∧ id < 7) (hst : jouTerm [97] D M (M.now + 1) id = ⟨D1, M1, 0⟩) (hal1 : (M1.grpIn M1.entries.length).1 = [id]) (hap : jouAppend [97] D1 M1 [⟨M1.now, 0, [], []⟩] = ⟨D', M', 0⟩) (hal' : (M'.grpIn M'.entries.length).1 = [id]) (hat' : (M'.grpIn M'.entries.length).2 ≤ M'.last) (hc : s.commit < M'.last) (ht : M'.termAt (M'.last : Int) = some M'.now) (draw : Int) (hd : -9223372036854775808 ≤ draw ∧ draw ≤ 9223372036854775807) :
    Calls Tryz.prog 30 #[.pointer (some ⟨r, 0, none⟩), .int .i64 draw] w1 fun e w' => e = .returned (.tuple #[]) ∧ ∃ vt, RaF w w' r j d id D' M' { s with role := 2, leader := id, round := 0, wait := 3, commit := M'.last, votes := vt } F ∧ Same F w1 w' := by
  have hmm := @run_makeMap Tryz.prog
  have hnow := isTm_iff.1 h.okM.now
  have h1 := h.box (.cells #[.pointer (some ⟨r, 0, none⟩)] 29)
  have hwr : w.heap.size ≤ w1.heap.size := h.bel.size
  have Hwr := Lib.hid hwr
  have Hs1 := Lib.hid (fun k (hk : F k) => (below_one w1 (.cells #[.pointer (some ⟨r, 0, none⟩)] 29)).block k (h.flt hk))
  have hbx : (w1.alloc (.cells #[.pointer (some ⟨r, 0, none⟩)] 29)).cell? ⟨w1.heap.size, 0, none⟩ = some (.pointer (some ⟨r, 0, none⟩)) := cell_of (new_block w1 _) rfl
  have H1 := Lib.hid h1
  clear h h1 hwr
  go_enter Tryz.func30, Tryz.ntmps30
  go_upto_region 1 with (fail)
  generalize w1.alloc (.cells #[.pointer (some ⟨r, 0, none⟩)] 29) = W1 at *
  generalize w1.heap.size = b0 at *
  refine ord_start (fun w' : World => w'.cell? ⟨b0, 0, none⟩ = some (.pointer (some ⟨r, 0, none⟩)) ∧ w'.cell? ⟨r, 0, none⟩ = some (.pointer (some ⟨j, 0, none⟩)) ∧ w'.cell? ⟨r, 1, none⟩ = some (.int .i64 id)) (n := 15) (by kernel_rfl) rfl ⟨hbx, H1.out.cell (i := 0) fun _ _ _ => rfl, H1.out.cell (i := 1) fun _ _ _ => rfl⟩ (fun hHeld => ?_)
  have H2 := Lib.hid (H1.out.next (below_drew W1))
  have Hb2 := Lib.hid (show W1.drew.cell? ⟨b0, 0, none⟩ = some (.pointer (some ⟨r, 0, none⟩)) from hbx)
  have Hs2 := Lib.hid (fun k (hk : F k) => show W1.drew.heap[k]? = w1.heap[k]? from Hs1.out k hk)
  clear H1 hbx Hs1
  have Hte := Lib.hid (raterm_calls H2.out)
  generalize W1.drew = W2 at *
  refine Pl [0,1,2,3,4,5,8,9,10,11] ?_
  iterate 10 (refine Pd rfl (by intro w hSw; have e0 := hSw.1; have e1 := hSw.2.1; have e2 := hSw.2.2; go_simp; try with_reducible rfl) ?_; simp only [Act.put, uA, uB, uC])
  refine Pn ?_
  refine ord_one 6 rfl (by kernel_rfl) (by rfl) (fun K hK => ?_)
  go_wp2_with fail
  refine Hte.out.mono ?_
  rintro e w3 ⟨rfl, q, rfl⟩
  have H3 := Lib.hid (H2.out.next (below_dqa W2 q))
  have Hb3 := Lib.hid (show (W2.drewN q).cell? ⟨b0, 0, none⟩ = some (.pointer (some ⟨r, 0, none⟩)) from Hb2.out)
  have Hs3 := Lib.hid (fun k (hk : F k) => show (W2.drewN q).heap[k]? = w1.heap[k]? from Hs2.out k hk)
  clear Hte H2 Hb2 Hs2 hHeld
  generalize W2.drewN q = W3 at *
  go_wp2_with fail
  refine hK.out _ _ ⟨Hb3.out, H3.out.cell (i := 0) fun _ _ _ => rfl, H3.out.cell (i := 1) fun _ _ _ => rfl⟩ (fun hHeld => ?_)
  clear hK
  try simp only [Act.put, uA, uB, uC]
  have hwt : IntKind.i64.wrap (M.now + 1) = M.now + 1 := IntWalk.i64_in _ (by omega)
  refine Pl [7] ?_
  iterate 1 (refine Pc rfl ?_; simp only [Act.put, uA, uB, uC])
  refine Pn ?_
  have hse := ra_jou (Q := fun e => e = .returned (.int .i64 ((jouTerm [97] D M (M.now + 1) id).err : Int))) (D' := (jouTerm [97] D M (M.now + 1) id).disk) (M' := (jouTerm [97] D M (M.now + 1) id).jou) H3.out fun G _ hJ => jsetTerm_calls hJ (M.now + 1) id (by omega) (by omega)
  rw [hst] at hse
  dsimp only at hse
  have Hse := Lib.hid hse
  clear hse
  refine ord_one 12 rfl (by kernel_rfl) (by rfl) (fun K hK => ?_)
  go_wp2_with fail
  refine Hse.out.mono ?_
  rintro e w4 ⟨rfl, h4, hs4⟩
  have H4 := Lib.hid h4
  have Hb4 := Lib.hid ((World.cell?_of_block (hs4 b0 (.inr rfl))).trans Hb3.out)
  have Hs4 := Lib.hid (fun k (hk : F k) => (hs4 k (.inl hk)).trans (Hs3.out k hk))
  clear h4 hs4 Hse H3 Hb3 Hs3 hHeld hwt hnow
  go_wp2_with fail
  refine hK.out _ _ ⟨Hb4.out, H4.out.cell (i := 0) fun _ _ _ => rfl, H4.out.cell (i := 1) fun _ _ _ => rfl⟩ (fun hHeld => ?_)
  clear hK
  try simp only [Act.put, uA, uB, uC]
  have Hw := Lib.hid (rawritten_calls w4 r)
  refine ord_one 13 rfl (by kernel_rfl) (by rfl) (fun K hK => ?_)
  go_wp2_with fail
  refine Hw.out.mono ?_
  rintro e w5 ⟨rfl, rfl⟩
  go_wp2_with fail
  refine hK.out _ _ ⟨Hb4.out, H4.out.cell (i := 0) fun _ _ _ => rfl, H4.out.cell (i := 1) fun _ _ _ => rfl⟩ (fun hHeld => ?_)
  clear hK Hw
  try simp only [Act.put, uA, uB, uC]
  refine Pl [14] ?_
  iterate 1 (refine Pc rfl ?_; simp only [Act.put, uA, uB, uC])
  refine Pn ?_
  refine wpAnyH_done (by kernel_rfl) ?_ _
  clear hHeld
  go_upto_region 2 with (fail)
  go_cut [31] (fun v31 wx => ∃ m, v31 = .map (some m) ∧ RaF w wx r j d id D1 M1 { s with role := 1, leader := -1, votes := .map (some m) } (fun k => (F k ∨ k = b0) ∨ k = m) ∧ wx.heap[m]? = some (.map #[{ key := .int .i64 id, val := .bool true, born := 0 }] 1) ∧ wx.cell? ⟨b0, 0, none⟩ = some (.pointer (some ⟨r, 0, none⟩)) ∧ ∀ k, F k → wx.heap[k]? = w1.heap[k]?)
  case first =>
    have k0 := Hb4.out
    refine ord_start (fun w' : World => w'.cell? ⟨b0, 0, none⟩ = some (.pointer (some ⟨r, 0, none⟩)) ∧ w'.cell? ⟨r, 0, none⟩ = some (.pointer (some ⟨j, 0, none⟩)) ∧ w'.cell? ⟨r, 1, none⟩ = some (.int .i64 id)) (n := 19) (by kernel_rfl) rfl ⟨Hb4.out, H4.out.cell (i := 0) fun _ _ _ => rfl, H4.out.cell (i := 1) fun _ _ _ => rfl⟩ (fun hHeld => ?_)
    have H := Lib.hid (H4.out.next (below_drew w5))
    have Hb := Lib.hid (show w5.drew.cell? ⟨b0, 0, none⟩ = some (.pointer (some ⟨r, 0, none⟩)) from Hb4.out)
    have Hs := Lib.hid (fun k (hk : F k) => show w5.drew.heap[k]? = w1.heap[k]? from Hs4.out k hk)
    have Hw6 := Lib.hid (show w.heap.size ≤ w5.drew.heap.size from (H4.out.next (below_drew w5)).bel.size)
    clear H4 Hb4 Hs4 k0
    generalize w5.drew = W00 at *
    refine Pl [0,1,2,4,5,6,7,10,11] ?_
    iterate 9 (refine Pd rfl (by intro w hSw; have e0 := hSw.1; have e1 := hSw.2.1; have e2 := hSw.2.2; go_simp; try with_reducible rfl) ?_; simp only [Act.put, uA, uB, uC])
    refine Pn ?_
    refine ord_pair 3 12 rfl rfl (by kernel_rfl) (by rfl) (by rfl) (fun K hK => ?_) (fun K hK => ?_)
    · have hb := below_one W00 (.map #[] 0)
      have Hm0 := Lib.hid (new_block W00 (.map #[] 0))
      have H0 := Lib.hid (H.out.box (.map #[] 0))
      have Hb0 := Lib.hid (cell_next hb Hb.out)
      have Hs0 := Lib.hid (fun k (hk : F k) => (hb.block k (H.out.flt (.inl hk))).trans (Hs.out k hk))
      have Hw0 := Lib.hid (show w.heap.size ≤ W00.heap.size from H.out.bel.size)
      have HFm := Lib.hid (fun k (hk : F k) => (Nat.ne_of_lt (H.out.flt (.inl hk)) : k ≠ W00.heap.size))
      clear H Hb Hs hb Hw6
      go_wp2_with fail
      refine hK.out _ _ ⟨Hb0.out, H0.out.cell (i := 0) fun _ _ _ => rfl, H0.out.cell (i := 1) fun _ _ _ => rfl⟩ (fun hHeld => ?_)
      clear hK
      try simp only [Act.put, uA, uB, uC]
      generalize W00.alloc (.map #[] 0) = Wa1 at *
      generalize W00.heap.size = m at *
      have H := H0
      have Hb := Hb0
      have Hs := Hs0
      have Hm := Hm0
      have Hw6 := Hw0
      clear H0 Hb0 Hs0 Hm0 Hw0
      refine ord_pair 8 12 rfl rfl (by kernel_rfl) (by rfl) (by rfl) (fun K hK => ?_) (fun K hK => ?_)
      · have hpu := run_put_int Wa1 67 3 4 m 0 .i64 id (.bool true) Tryz.underlying67 Tryz.underlying3 Hm.out
        obtain ⟨Wa2, hWn⟩ : ∃ W' : World, W' = { Wa1 with heap := Wa1.heap.setIfInBounds m (.map #[{ key := .int .i64 id, val := .bool true, born := 0 }] 1) } := ⟨_, rfl⟩
        rw [← hWn] at hpu
        have hc : Chg (fun k => k = m) Wa1 Wa2 := by rw [hWn]; exact Chg.of_set
        have H0 := Lib.hid (H.out.chg hc fun k e => ⟨.inr e, by rw [e]; exact Hw6.out⟩)
        have Hm0 := Lib.hid (show Wa2.heap[m]? = some (.map #[{ key := .int .i64 id, val := .bool true, born := 0 }] 1) from by rw [hWn]; exact (MapKept.heap_set Hm.out).1)
        have Hb0 := Lib.hid ((World.cell?_of_block (hc.block b0 (H.out.flt (.inl (.inr rfl))) (no_cell_map Hm.out Hb.out))).trans Hb.out)
        have Hs0 := Lib.hid (fun k (hk : F k) => (hc.block k (H.out.flt (.inl (.inl hk))) (fun e => HFm.out k hk e)).trans (Hs.out k hk))
        clear H Hb Hs hc Hm hWn
        go_wp2_with fail
        refine hK.out _ _ ⟨Hb0.out, H0.out.cell (i := 0) fun _ _ _ => rfl, H0.out.cell (i := 1) fun _ _ _ => rfl⟩ (fun hHeld => ?_)
        clear hK hpu
        try simp only [Act.put, uA, uB, uC]
        have H := H0
        have Hb := Hb0
        have Hs := Hs0
        have Hm := Hm0
        clear H0 Hb0 Hs0 Hm0
        refine Pl [9] ?_
        refine Pc rfl ?_
        simp only [Act.put, uA, uB, uC]
        refine Pn ?_
        refine ord_one 12 rfl (by kernel_rfl) (by rfl) (fun K hK => ?_)
        have fx := H.out.frozen 2
        have kx := H.out.cell (i := 2) (v := .int .i64 s.role) fun _ _ _ => rfl
        have H0 := Lib.hid (H.out.set 2 (.int .i64 1) (s' := { s with role := 1 }) (fun pv wv sv => ⟨pv, rfl⟩) rfl)
        have Hb0 := Lib.hid ((World.cell?_of_block (set_other (.int .i64 1) (H.out.neF (.inl (.inr rfl))))).trans Hb.out : (Wa2.setCell ⟨r, 2, none⟩ (.int .i64 1)).cell? ⟨b0, 0, none⟩ = _)
        have Hs0 := Lib.hid (fun k (hk : F k) => (H.out.same_set 2 (.int .i64 1) k (.inl (.inl hk))).trans (Hs.out k hk))
        have Hm0 := Lib.hid ((set_other (.int .i64 1) (H.out.neF (.inr rfl)) : (Wa2.setCell ⟨r, 2, none⟩ (.int .i64 1)).heap[m]? = _).trans Hm.out)
        clear H Hb Hs Hm
        go_wp2_with fail
        refine hK.out _ _ ⟨Hb0.out, H0.out.cell (i := 0) fun _ _ _ => rfl, H0.out.cell (i := 1) fun _ _ _ => rfl⟩ (fun hHeld => ?_)
        clear hK fx kx
        try simp only [Act.put, uA, uB, uC]
        generalize Wa2.setCell ⟨r, 2, none⟩ (.int .i64 1) = Wb3 at *
        have H := H0
        have Hb := Hb0
        have Hs := Hs0
        have Hm := Hm0
        clear H0 Hb0 Hs0 Hm0

        refine Pl [13,14] ?_
        iterate 2 (refine Pc rfl ?_; simp only [Act.put, uA, uB, uC])
        refine Pn ?_
        refine ord_one 15 rfl (by kernel_rfl) (by rfl) (fun K hK => ?_)
        have fx := H.out.frozen 3
        have kx := H.out.cell (i := 3) (v := .int .i64 s.leader) fun _ _ _ => rfl
        have H0 := Lib.hid (H.out.set 3 (.int .i64 (-1)) (s' := { s with role := 1, leader := -1 }) (fun pv wv sv => ⟨pv, rfl⟩) rfl)
        have Hb0 := Lib.hid ((World.cell?_of_block (set_other (.int .i64 (-1)) (H.out.neF (.inl (.inr rfl))))).trans Hb.out : (Wb3.setCell ⟨r, 3, none⟩ (.int .i64 (-1))).cell? ⟨b0, 0, none⟩ = _)
        have Hs0 := Lib.hid (fun k (hk : F k) => (H.out.same_set 3 (.int .i64 (-1)) k (.inl (.inl hk))).trans (Hs.out k hk))
        have Hm0 := Lib.hid ((set_other (.int .i64 (-1)) (H.out.neF (.inr rfl)) : (Wb3.setCell ⟨r, 3, none⟩ (.int .i64 (-1))).heap[m]? = _).trans Hm.out)
        clear H Hb Hs Hm
        go_wp2_with fail
        refine hK.out _ _ ⟨Hb0.out, H0.out.cell (i := 0) fun _ _ _ => rfl, H0.out.cell (i := 1) fun _ _ _ => rfl⟩ (fun hHeld => ?_)
        clear hK fx kx
        try simp only [Act.put, uA, uB, uC]
        generalize Wb3.setCell ⟨r, 3, none⟩ (.int .i64 (-1)) = Wb4 at *
        have H := H0
        have Hb := Hb0
        have Hs := Hs0
        have Hm := Hm0
        clear H0 Hb0 Hs0 Hm0

        have f7 := H.out.frozen 7
        have k7 := H.out.cell (i := 7) (v := s.votes) fun _ _ _ => rfl
        have H9 := Lib.hid (H.out.set 7 (.map (some m)) (s' := { s with role := 1, leader := -1, votes := .map (some m) }) (fun pv wv sv => ⟨pv, rfl⟩) rfl)
        have Hm9 := Lib.hid ((set_other (.map (some m)) (H.out.neF (.inr rfl)) : (Wb4.setCell ⟨r, 7, none⟩ (.map (some m))).heap[m]? = _).trans Hm.out)
        have Hb9 := Lib.hid ((World.cell?_of_block (set_other (.map (some m)) (H.out.neF (.inl (.inr rfl))))).trans Hb.out : (Wb4.setCell ⟨r, 7, none⟩ (.map (some m))).cell? ⟨b0, 0, none⟩ = _)
        have Hs9 := Lib.hid (fun k (hk : F k) => (H.out.same_set 7 (.map (some m)) k (.inl (.inl hk))).trans (Hs.out k hk))
        clear H Hm Hb Hs
        refine Pl [16,17] ?_
        iterate 2 (refine Pc rfl ?_; simp only [Act.put, uA, uB, uC])
        refine Pn ?_
        refine ord_one 18 rfl (by kernel_rfl) (by rfl) (fun K hK => ?_)
        go_wp2_with fail
        refine hK.out _ _ ⟨Hb9.out, H9.out.cell (i := 0) fun _ _ _ => rfl, H9.out.cell (i := 1) fun _ _ _ => rfl⟩ (fun hHeld => ?_)
        clear hK
        refine wpAnyH_done (by kernel_rfl) ?_ _
        go_wp2_with fail
        go_meet
        exact ⟨m, rfl, H9.out, Hm9.out, Hb9.out, Hs9.out⟩
      · have fx := H.out.frozen 2
        have kx := H.out.cell (i := 2) (v := .int .i64 s.role) fun _ _ _ => rfl
        have H0 := Lib.hid (H.out.set 2 (.int .i64 1) (s' := { s with role := 1 }) (fun pv wv sv => ⟨pv, rfl⟩) rfl)
        have Hb0 := Lib.hid ((World.cell?_of_block (set_other (.int .i64 1) (H.out.neF (.inl (.inr rfl))))).trans Hb.out : (Wa1.setCell ⟨r, 2, none⟩ (.int .i64 1)).cell? ⟨b0, 0, none⟩ = _)
        have Hs0 := Lib.hid (fun k (hk : F k) => (H.out.same_set 2 (.int .i64 1) k (.inl (.inl hk))).trans (Hs.out k hk))
        have Hm0 := Lib.hid ((set_other (.int .i64 1) (H.out.neF (.inr rfl)) : (Wa1.setCell ⟨r, 2, none⟩ (.int .i64 1)).heap[m]? = _).trans Hm.out)
        clear H Hb Hs Hm
        go_wp2_with fail
        refine hK.out _ _ ⟨Hb0.out, H0.out.cell (i := 0) fun _ _ _ => rfl, H0.out.cell (i := 1) fun _ _ _ => rfl⟩ (fun hHeld => ?_)
        clear hK fx kx
        try simp only [Act.put, uA, uB, uC]
        generalize Wa1.setCell ⟨r, 2, none⟩ (.int .i64 1) = Wb2 at *
        have H := H0
        have Hb := Hb0
        have Hs := Hs0
        have Hm := Hm0
        clear H0 Hb0 Hs0 Hm0

        refine Pl [13,14] ?_
        iterate 2 (refine Pc rfl ?_; simp only [Act.put, uA, uB, uC])
        refine Pn ?_
        refine ord_pair 8 15 rfl rfl (by kernel_rfl) (by rfl) (by rfl) (fun K hK => ?_) (fun K hK => ?_)
        · have hpu := run_put_int Wb2 67 3 4 m 0 .i64 id (.bool true) Tryz.underlying67 Tryz.underlying3 Hm.out
          obtain ⟨Wa5, hWn⟩ : ∃ W' : World, W' = { Wb2 with heap := Wb2.heap.setIfInBounds m (.map #[{ key := .int .i64 id, val := .bool true, born := 0 }] 1) } := ⟨_, rfl⟩
          rw [← hWn] at hpu
          have hc : Chg (fun k => k = m) Wb2 Wa5 := by rw [hWn]; exact Chg.of_set
          have H0 := Lib.hid (H.out.chg hc fun k e => ⟨.inr e, by rw [e]; exact Hw6.out⟩)
          have Hm0 := Lib.hid (show Wa5.heap[m]? = some (.map #[{ key := .int .i64 id, val := .bool true, born := 0 }] 1) from by rw [hWn]; exact (MapKept.heap_set Hm.out).1)
          have Hb0 := Lib.hid ((World.cell?_of_block (hc.block b0 (H.out.flt (.inl (.inr rfl))) (no_cell_map Hm.out Hb.out))).trans Hb.out)
          have Hs0 := Lib.hid (fun k (hk : F k) => (hc.block k (H.out.flt (.inl (.inl hk))) (fun e => HFm.out k hk e)).trans (Hs.out k hk))
          clear H Hb Hs hc Hm hWn
          go_wp2_with fail
          refine hK.out _ _ ⟨Hb0.out, H0.out.cell (i := 0) fun _ _ _ => rfl, H0.out.cell (i := 1) fun _ _ _ => rfl⟩ (fun hHeld => ?_)
          clear hK hpu
          try simp only [Act.put, uA, uB, uC]
          have H := H0
          have Hb := Hb0
          have Hs := Hs0
          have Hm := Hm0
          clear H0 Hb0 Hs0 Hm0
          refine Pl [9] ?_
          refine Pc rfl ?_
          simp only [Act.put, uA, uB, uC]
          refine Pn ?_
          refine ord_one 15 rfl (by kernel_rfl) (by rfl) (fun K hK => ?_)
          have fx := H.out.frozen 3
          have kx := H.out.cell (i := 3) (v := .int .i64 s.leader) fun _ _ _ => rfl
          have H0 := Lib.hid (H.out.set 3 (.int .i64 (-1)) (s' := { s with role := 1, leader := -1 }) (fun pv wv sv => ⟨pv, rfl⟩) rfl)
          have Hb0 := Lib.hid ((World.cell?_of_block (set_other (.int .i64 (-1)) (H.out.neF (.inl (.inr rfl))))).trans Hb.out : (Wa5.setCell ⟨r, 3, none⟩ (.int .i64 (-1))).cell? ⟨b0, 0, none⟩ = _)
          have Hs0 := Lib.hid (fun k (hk : F k) => (H.out.same_set 3 (.int .i64 (-1)) k (.inl (.inl hk))).trans (Hs.out k hk))
          have Hm0 := Lib.hid ((set_other (.int .i64 (-1)) (H.out.neF (.inr rfl)) : (Wa5.setCell ⟨r, 3, none⟩ (.int .i64 (-1))).heap[m]? = _).trans Hm.out)
          clear H Hb Hs Hm
          go_wp2_with fail
          refine hK.out _ _ ⟨Hb0.out, H0.out.cell (i := 0) fun _ _ _ => rfl, H0.out.cell (i := 1) fun _ _ _ => rfl⟩ (fun hHeld => ?_)
          clear hK fx kx
          try simp only [Act.put, uA, uB, uC]
          generalize Wa5.setCell ⟨r, 3, none⟩ (.int .i64 (-1)) = Wb6 at *
          have H := H0
          have Hb := Hb0
          have Hs := Hs0
          have Hm := Hm0
          clear H0 Hb0 Hs0 Hm0

          have f7 := H.out.frozen 7
          have k7 := H.out.cell (i := 7) (v := s.votes) fun _ _ _ => rfl
          have H9 := Lib.hid (H.out.set 7 (.map (some m)) (s' := { s with role := 1, leader := -1, votes := .map (some m) }) (fun pv wv sv => ⟨pv, rfl⟩) rfl)
          have Hm9 := Lib.hid ((set_other (.map (some m)) (H.out.neF (.inr rfl)) : (Wb6.setCell ⟨r, 7, none⟩ (.map (some m))).heap[m]? = _).trans Hm.out)
          have Hb9 := Lib.hid ((World.cell?_of_block (set_other (.map (some m)) (H.out.neF (.inl (.inr rfl))))).trans Hb.out : (Wb6.setCell ⟨r, 7, none⟩ (.map (some m))).cell? ⟨b0, 0, none⟩ = _)
          have Hs9 := Lib.hid (fun k (hk : F k) => (H.out.same_set 7 (.map (some m)) k (.inl (.inl hk))).trans (Hs.out k hk))
          clear H Hm Hb Hs
          refine Pl [16,17] ?_
          iterate 2 (refine Pc rfl ?_; simp only [Act.put, uA, uB, uC])
          refine Pn ?_
          refine ord_one 18 rfl (by kernel_rfl) (by rfl) (fun K hK => ?_)
          go_wp2_with fail
          refine hK.out _ _ ⟨Hb9.out, H9.out.cell (i := 0) fun _ _ _ => rfl, H9.out.cell (i := 1) fun _ _ _ => rfl⟩ (fun hHeld => ?_)
          clear hK
          refine wpAnyH_done (by kernel_rfl) ?_ _
          go_wp2_with fail
          go_meet
          exact ⟨m, rfl, H9.out, Hm9.out, Hb9.out, Hs9.out⟩
        · have fx := H.out.frozen 3
          have kx := H.out.cell (i := 3) (v := .int .i64 s.leader) fun _ _ _ => rfl
          have H0 := Lib.hid (H.out.set 3 (.int .i64 (-1)) (s' := { s with role := 1, leader := -1 }) (fun pv wv sv => ⟨pv, rfl⟩) rfl)
          have Hb0 := Lib.hid ((World.cell?_of_block (set_other (.int .i64 (-1)) (H.out.neF (.inl (.inr rfl))))).trans Hb.out : (Wb2.setCell ⟨r, 3, none⟩ (.int .i64 (-1))).cell? ⟨b0, 0, none⟩ = _)
          have Hs0 := Lib.hid (fun k (hk : F k) => (H.out.same_set 3 (.int .i64 (-1)) k (.inl (.inl hk))).trans (Hs.out k hk))
          have Hm0 := Lib.hid ((set_other (.int .i64 (-1)) (H.out.neF (.inr rfl)) : (Wb2.setCell ⟨r, 3, none⟩ (.int .i64 (-1))).heap[m]? = _).trans Hm.out)
          clear H Hb Hs Hm
          go_wp2_with fail
          refine hK.out _ _ ⟨Hb0.out, H0.out.cell (i := 0) fun _ _ _ => rfl, H0.out.cell (i := 1) fun _ _ _ => rfl⟩ (fun hHeld => ?_)
          clear hK fx kx
          try simp only [Act.put, uA, uB, uC]
          generalize Wb2.setCell ⟨r, 3, none⟩ (.int .i64 (-1)) = Wb5 at *
          have H := H0
          have Hb := Hb0
          have Hs := Hs0
          have Hm := Hm0
          clear H0 Hb0 Hs0 Hm0

          refine ord_one 8 rfl (by kernel_rfl) (by rfl) (fun K hK => ?_)
          have hpu := run_put_int Wb5 67 3 4 m 0 .i64 id (.bool true) Tryz.underlying67 Tryz.underlying3 Hm.out
          obtain ⟨Wa7, hWn⟩ : ∃ W' : World, W' = { Wb5 with heap := Wb5.heap.setIfInBounds m (.map #[{ key := .int .i64 id, val := .bool true, born := 0 }] 1) } := ⟨_, rfl⟩
          rw [← hWn] at hpu
          have hc : Chg (fun k => k = m) Wb5 Wa7 := by rw [hWn]; exact Chg.of_set
          have H0 := Lib.hid (H.out.chg hc fun k e => ⟨.inr e, by rw [e]; exact Hw6.out⟩)
          have Hm0 := Lib.hid (show Wa7.heap[m]? = some (.map #[{ key := .int .i64 id, val := .bool true, born := 0 }] 1) from by rw [hWn]; exact (MapKept.heap_set Hm.out).1)
          have Hb0 := Lib.hid ((World.cell?_of_block (hc.block b0 (H.out.flt (.inl (.inr rfl))) (no_cell_map Hm.out Hb.out))).trans Hb.out)
          have Hs0 := Lib.hid (fun k (hk : F k) => (hc.block k (H.out.flt (.inl (.inl hk))) (fun e => HFm.out k hk e)).trans (Hs.out k hk))
          clear H Hb Hs hc Hm hWn
          go_wp2_with fail
          refine hK.out _ _ ⟨Hb0.out, H0.out.cell (i := 0) fun _ _ _ => rfl, H0.out.cell (i := 1) fun _ _ _ => rfl⟩ (fun hHeld => ?_)
          clear hK hpu
          try simp only [Act.put, uA, uB, uC]
          have H := H0
          have Hb := Hb0
          have Hs := Hs0
          have Hm := Hm0
          clear H0 Hb0 Hs0 Hm0
          refine Pl [9] ?_
          refine Pc rfl ?_
          simp only [Act.put, uA, uB, uC]
          refine Pn ?_
          have f7 := H.out.frozen 7
          have k7 := H.out.cell (i := 7) (v := s.votes) fun _ _ _ => rfl
          have H9 := Lib.hid (H.out.set 7 (.map (some m)) (s' := { s with role := 1, leader := -1, votes := .map (some m) }) (fun pv wv sv => ⟨pv, rfl⟩) rfl)
          have Hm9 := Lib.hid ((set_other (.map (some m)) (H.out.neF (.inr rfl)) : (Wa7.setCell ⟨r, 7, none⟩ (.map (some m))).heap[m]? = _).trans Hm.out)
          have Hb9 := Lib.hid ((World.cell?_of_block (set_other (.map (some m)) (H.out.neF (.inl (.inr rfl))))).trans Hb.out : (Wa7.setCell ⟨r, 7, none⟩ (.map (some m))).cell? ⟨b0, 0, none⟩ = _)
          have Hs9 := Lib.hid (fun k (hk : F k) => (H.out.same_set 7 (.map (some m)) k (.inl (.inl hk))).trans (Hs.out k hk))
          clear H Hm Hb Hs
          refine Pl [16,17] ?_
          iterate 2 (refine Pc rfl ?_; simp only [Act.put, uA, uB, uC])
          refine Pn ?_
          refine ord_one 18 rfl (by kernel_rfl) (by rfl) (fun K hK => ?_)
          go_wp2_with fail
          refine hK.out _ _ ⟨Hb9.out, H9.out.cell (i := 0) fun _ _ _ => rfl, H9.out.cell (i := 1) fun _ _ _ => rfl⟩ (fun hHeld => ?_)
          clear hK
          refine wpAnyH_done (by kernel_rfl) ?_ _
          go_wp2_with fail
          go_meet
          exact ⟨m, rfl, H9.out, Hm9.out, Hb9.out, Hs9.out⟩
    · have fx := H.out.frozen 2
      have kx := H.out.cell (i := 2) (v := .int .i64 s.role) fun _ _ _ => rfl
      have H0 := Lib.hid (H.out.set 2 (.int .i64 1) (s' := { s with role := 1 }) (fun pv wv sv => ⟨pv, rfl⟩) rfl)
      have Hb0 := Lib.hid ((World.cell?_of_block (set_other (.int .i64 1) (H.out.neF (.inr rfl)))).trans Hb.out : (W00.setCell ⟨r, 2, none⟩ (.int .i64 1)).cell? ⟨b0, 0, none⟩ = _)
      have Hs0 := Lib.hid (fun k (hk : F k) => (H.out.same_set 2 (.int .i64 1) k (.inl hk)).trans (Hs.out k hk))
      clear H Hb Hs
      go_wp2_with fail
      refine hK.out _ _ ⟨Hb0.out, H0.out.cell (i := 0) fun _ _ _ => rfl, H0.out.cell (i := 1) fun _ _ _ => rfl⟩ (fun hHeld => ?_)
      clear hK fx kx
      try simp only [Act.put, uA, uB, uC]
      generalize W00.setCell ⟨r, 2, none⟩ (.int .i64 1) = Wb1 at *
      have H := H0
      have Hb := Hb0
      have Hs := Hs0

      clear H0 Hb0 Hs0

      refine Pl [13,14] ?_
      iterate 2 (refine Pc rfl ?_; simp only [Act.put, uA, uB, uC])
      refine Pn ?_
      refine ord_pair 3 15 rfl rfl (by kernel_rfl) (by rfl) (by rfl) (fun K hK => ?_) (fun K hK => ?_)
      · have hb := below_one Wb1 (.map #[] 0)
        have Hm0 := Lib.hid (new_block Wb1 (.map #[] 0))
        have H0 := Lib.hid (H.out.box (.map #[] 0))
        have Hb0 := Lib.hid (cell_next hb Hb.out)
        have Hs0 := Lib.hid (fun k (hk : F k) => (hb.block k (H.out.flt (.inl hk))).trans (Hs.out k hk))
        have Hw0 := Lib.hid (show w.heap.size ≤ Wb1.heap.size from H.out.bel.size)
        have HFm := Lib.hid (fun k (hk : F k) => (Nat.ne_of_lt (H.out.flt (.inl hk)) : k ≠ Wb1.heap.size))
        clear H Hb Hs hb Hw6
        go_wp2_with fail
        refine hK.out _ _ ⟨Hb0.out, H0.out.cell (i := 0) fun _ _ _ => rfl, H0.out.cell (i := 1) fun _ _ _ => rfl⟩ (fun hHeld => ?_)
        clear hK
        try simp only [Act.put, uA, uB, uC]
        generalize Wb1.alloc (.map #[] 0) = Wa8 at *
        generalize Wb1.heap.size = m at *
        have H := H0
        have Hb := Hb0
        have Hs := Hs0
        have Hm := Hm0
        have Hw6 := Hw0
        clear H0 Hb0 Hs0 Hm0 Hw0
        refine ord_pair 8 15 rfl rfl (by kernel_rfl) (by rfl) (by rfl) (fun K hK => ?_) (fun K hK => ?_)
        · have hpu := run_put_int Wa8 67 3 4 m 0 .i64 id (.bool true) Tryz.underlying67 Tryz.underlying3 Hm.out
          obtain ⟨Wa9, hWn⟩ : ∃ W' : World, W' = { Wa8 with heap := Wa8.heap.setIfInBounds m (.map #[{ key := .int .i64 id, val := .bool true, born := 0 }] 1) } := ⟨_, rfl⟩
          rw [← hWn] at hpu
          have hc : Chg (fun k => k = m) Wa8 Wa9 := by rw [hWn]; exact Chg.of_set
          have H0 := Lib.hid (H.out.chg hc fun k e => ⟨.inr e, by rw [e]; exact Hw6.out⟩)
          have Hm0 := Lib.hid (show Wa9.heap[m]? = some (.map #[{ key := .int .i64 id, val := .bool true, born := 0 }] 1) from by rw [hWn]; exact (MapKept.heap_set Hm.out).1)
          have Hb0 := Lib.hid ((World.cell?_of_block (hc.block b0 (H.out.flt (.inl (.inr rfl))) (no_cell_map Hm.out Hb.out))).trans Hb.out)
          have Hs0 := Lib.hid (fun k (hk : F k) => (hc.block k (H.out.flt (.inl (.inl hk))) (fun e => HFm.out k hk e)).trans (Hs.out k hk))
          clear H Hb Hs hc Hm hWn
          go_wp2_with fail
          refine hK.out _ _ ⟨Hb0.out, H0.out.cell (i := 0) fun _ _ _ => rfl, H0.out.cell (i := 1) fun _ _ _ => rfl⟩ (fun hHeld => ?_)
          clear hK hpu
          try simp only [Act.put, uA, uB, uC]
          have H := H0
          have Hb := Hb0
          have Hs := Hs0
          have Hm := Hm0
          clear H0 Hb0 Hs0 Hm0
          refine Pl [9] ?_
          refine Pc rfl ?_
          simp only [Act.put, uA, uB, uC]
          refine Pn ?_
          refine ord_one 15 rfl (by kernel_rfl) (by rfl) (fun K hK => ?_)
          have fx := H.out.frozen 3
          have kx := H.out.cell (i := 3) (v := .int .i64 s.leader) fun _ _ _ => rfl
          have H0 := Lib.hid (H.out.set 3 (.int .i64 (-1)) (s' := { s with role := 1, leader := -1 }) (fun pv wv sv => ⟨pv, rfl⟩) rfl)
          have Hb0 := Lib.hid ((World.cell?_of_block (set_other (.int .i64 (-1)) (H.out.neF (.inl (.inr rfl))))).trans Hb.out : (Wa9.setCell ⟨r, 3, none⟩ (.int .i64 (-1))).cell? ⟨b0, 0, none⟩ = _)
          have Hs0 := Lib.hid (fun k (hk : F k) => (H.out.same_set 3 (.int .i64 (-1)) k (.inl (.inl hk))).trans (Hs.out k hk))
          have Hm0 := Lib.hid ((set_other (.int .i64 (-1)) (H.out.neF (.inr rfl)) : (Wa9.setCell ⟨r, 3, none⟩ (.int .i64 (-1))).heap[m]? = _).trans Hm.out)
          clear H Hb Hs Hm
          go_wp2_with fail
          refine hK.out _ _ ⟨Hb0.out, H0.out.cell (i := 0) fun _ _ _ => rfl, H0.out.cell (i := 1) fun _ _ _ => rfl⟩ (fun hHeld => ?_)
          clear hK fx kx
          try simp only [Act.put, uA, uB, uC]
          generalize Wa9.setCell ⟨r, 3, none⟩ (.int .i64 (-1)) = Wb10 at *
          have H := H0
          have Hb := Hb0
          have Hs := Hs0
          have Hm := Hm0
          clear H0 Hb0 Hs0 Hm0

          have f7 := H.out.frozen 7
          have k7 := H.out.cell (i := 7) (v := s.votes) fun _ _ _ => rfl
          have H9 := Lib.hid (H.out.set 7 (.map (some m)) (s' := { s with role := 1, leader := -1, votes := .map (some m) }) (fun pv wv sv => ⟨pv, rfl⟩) rfl)
          have Hm9 := Lib.hid ((set_other (.map (some m)) (H.out.neF (.inr rfl)) : (Wb10.setCell ⟨r, 7, none⟩ (.map (some m))).heap[m]? = _).trans Hm.out)
          have Hb9 := Lib.hid ((World.cell?_of_block (set_other (.map (some m)) (H.out.neF (.inl (.inr rfl))))).trans Hb.out : (Wb10.setCell ⟨r, 7, none⟩ (.map (some m))).cell? ⟨b0, 0, none⟩ = _)
          have Hs9 := Lib.hid (fun k (hk : F k) => (H.out.same_set 7 (.map (some m)) k (.inl (.inl hk))).trans (Hs.out k hk))
          clear H Hm Hb Hs
          refine Pl [16,17] ?_
          iterate 2 (refine Pc rfl ?_; simp only [Act.put, uA, uB, uC])
          refine Pn ?_
          refine ord_one 18 rfl (by kernel_rfl) (by rfl) (fun K hK => ?_)
          go_wp2_with fail
          refine hK.out _ _ ⟨Hb9.out, H9.out.cell (i := 0) fun _ _ _ => rfl, H9.out.cell (i := 1) fun _ _ _ => rfl⟩ (fun hHeld => ?_)
          clear hK
          refine wpAnyH_done (by kernel_rfl) ?_ _
          go_wp2_with fail
          go_meet
          exact ⟨m, rfl, H9.out, Hm9.out, Hb9.out, Hs9.out⟩
        · have fx := H.out.frozen 3
          have kx := H.out.cell (i := 3) (v := .int .i64 s.leader) fun _ _ _ => rfl
          have H0 := Lib.hid (H.out.set 3 (.int .i64 (-1)) (s' := { s with role := 1, leader := -1 }) (fun pv wv sv => ⟨pv, rfl⟩) rfl)
          have Hb0 := Lib.hid ((World.cell?_of_block (set_other (.int .i64 (-1)) (H.out.neF (.inl (.inr rfl))))).trans Hb.out : (Wa8.setCell ⟨r, 3, none⟩ (.int .i64 (-1))).cell? ⟨b0, 0, none⟩ = _)
          have Hs0 := Lib.hid (fun k (hk : F k) => (H.out.same_set 3 (.int .i64 (-1)) k (.inl (.inl hk))).trans (Hs.out k hk))
          have Hm0 := Lib.hid ((set_other (.int .i64 (-1)) (H.out.neF (.inr rfl)) : (Wa8.setCell ⟨r, 3, none⟩ (.int .i64 (-1))).heap[m]? = _).trans Hm.out)
          clear H Hb Hs Hm
          go_wp2_with fail
          refine hK.out _ _ ⟨Hb0.out, H0.out.cell (i := 0) fun _ _ _ => rfl, H0.out.cell (i := 1) fun _ _ _ => rfl⟩ (fun hHeld => ?_)
          clear hK fx kx
          try simp only [Act.put, uA, uB, uC]
          generalize Wa8.setCell ⟨r, 3, none⟩ (.int .i64 (-1)) = Wb9 at *
          have H := H0
          have Hb := Hb0
          have Hs := Hs0
          have Hm := Hm0
          clear H0 Hb0 Hs0 Hm0

          refine ord_one 8 rfl (by kernel_rfl) (by rfl) (fun K hK => ?_)
          have hpu := run_put_int Wb9 67 3 4 m 0 .i64 id (.bool true) Tryz.underlying67 Tryz.underlying3 Hm.out
          obtain ⟨Wa11, hWn⟩ : ∃ W' : World, W' = { Wb9 with heap := Wb9.heap.setIfInBounds m (.map #[{ key := .int .i64 id, val := .bool true, born := 0 }] 1) } := ⟨_, rfl⟩
          rw [← hWn] at hpu
          have hc : Chg (fun k => k = m) Wb9 Wa11 := by rw [hWn]; exact Chg.of_set
          have H0 := Lib.hid (H.out.chg hc fun k e => ⟨.inr e, by rw [e]; exact Hw6.out⟩)
          have Hm0 := Lib.hid (show Wa11.heap[m]? = some (.map #[{ key := .int .i64 id, val := .bool true, born := 0 }] 1) from by rw [hWn]; exact (MapKept.heap_set Hm.out).1)
          have Hb0 := Lib.hid ((World.cell?_of_block (hc.block b0 (H.out.flt (.inl (.inr rfl))) (no_cell_map Hm.out Hb.out))).trans Hb.out)
          have Hs0 := Lib.hid (fun k (hk : F k) => (hc.block k (H.out.flt (.inl (.inl hk))) (fun e => HFm.out k hk e)).trans (Hs.out k hk))
          clear H Hb Hs hc Hm hWn
          go_wp2_with fail
          refine hK.out _ _ ⟨Hb0.out, H0.out.cell (i := 0) fun _ _ _ => rfl, H0.out.cell (i := 1) fun _ _ _ => rfl⟩ (fun hHeld => ?_)
          clear hK hpu
          try simp only [Act.put, uA, uB, uC]
          have H := H0
          have Hb := Hb0
          have Hs := Hs0
          have Hm := Hm0
          clear H0 Hb0 Hs0 Hm0
          refine Pl [9] ?_
          refine Pc rfl ?_
          simp only [Act.put, uA, uB, uC]
          refine Pn ?_
          have f7 := H.out.frozen 7
          have k7 := H.out.cell (i := 7) (v := s.votes) fun _ _ _ => rfl
          have H9 := Lib.hid (H.out.set 7 (.map (some m)) (s' := { s with role := 1, leader := -1, votes := .map (some m) }) (fun pv wv sv => ⟨pv, rfl⟩) rfl)
          have Hm9 := Lib.hid ((set_other (.map (some m)) (H.out.neF (.inr rfl)) : (Wa11.setCell ⟨r, 7, none⟩ (.map (some m))).heap[m]? = _).trans Hm.out)
          have Hb9 := Lib.hid ((World.cell?_of_block (set_other (.map (some m)) (H.out.neF (.inl (.inr rfl))))).trans Hb.out : (Wa11.setCell ⟨r, 7, none⟩ (.map (some m))).cell? ⟨b0, 0, none⟩ = _)
          have Hs9 := Lib.hid (fun k (hk : F k) => (H.out.same_set 7 (.map (some m)) k (.inl (.inl hk))).trans (Hs.out k hk))
          clear H Hm Hb Hs
          refine Pl [16,17] ?_
          iterate 2 (refine Pc rfl ?_; simp only [Act.put, uA, uB, uC])
          refine Pn ?_
          refine ord_one 18 rfl (by kernel_rfl) (by rfl) (fun K hK => ?_)
          go_wp2_with fail
          refine hK.out _ _ ⟨Hb9.out, H9.out.cell (i := 0) fun _ _ _ => rfl, H9.out.cell (i := 1) fun _ _ _ => rfl⟩ (fun hHeld => ?_)
          clear hK
          refine wpAnyH_done (by kernel_rfl) ?_ _
          go_wp2_with fail
          go_meet
          exact ⟨m, rfl, H9.out, Hm9.out, Hb9.out, Hs9.out⟩
      · have fx := H.out.frozen 3
        have kx := H.out.cell (i := 3) (v := .int .i64 s.leader) fun _ _ _ => rfl
        have H0 := Lib.hid (H.out.set 3 (.int .i64 (-1)) (s' := { s with role := 1, leader := -1 }) (fun pv wv sv => ⟨pv, rfl⟩) rfl)
        have Hb0 := Lib.hid ((World.cell?_of_block (set_other (.int .i64 (-1)) (H.out.neF (.inr rfl)))).trans Hb.out : (Wb1.setCell ⟨r, 3, none⟩ (.int .i64 (-1))).cell? ⟨b0, 0, none⟩ = _)
        have Hs0 := Lib.hid (fun k (hk : F k) => (H.out.same_set 3 (.int .i64 (-1)) k (.inl hk)).trans (Hs.out k hk))
        clear H Hb Hs
        go_wp2_with fail
        refine hK.out _ _ ⟨Hb0.out, H0.out.cell (i := 0) fun _ _ _ => rfl, H0.out.cell (i := 1) fun _ _ _ => rfl⟩ (fun hHeld => ?_)
        clear hK fx kx
        try simp only [Act.put, uA, uB, uC]
        generalize Wb1.setCell ⟨r, 3, none⟩ (.int .i64 (-1)) = Wb8 at *
        have H := H0
        have Hb := Hb0
        have Hs := Hs0

        clear H0 Hb0 Hs0

        refine ord_one 3 rfl (by kernel_rfl) (by rfl) (fun K hK => ?_)
        have hb := below_one Wb8 (.map #[] 0)
        have Hm0 := Lib.hid (new_block Wb8 (.map #[] 0))
        have H0 := Lib.hid (H.out.box (.map #[] 0))
        have Hb0 := Lib.hid (cell_next hb Hb.out)
        have Hs0 := Lib.hid (fun k (hk : F k) => (hb.block k (H.out.flt (.inl hk))).trans (Hs.out k hk))
        have Hw0 := Lib.hid (show w.heap.size ≤ Wb8.heap.size from H.out.bel.size)
        have HFm := Lib.hid (fun k (hk : F k) => (Nat.ne_of_lt (H.out.flt (.inl hk)) : k ≠ Wb8.heap.size))
        clear H Hb Hs hb Hw6
        go_wp2_with fail
        refine hK.out _ _ ⟨Hb0.out, H0.out.cell (i := 0) fun _ _ _ => rfl, H0.out.cell (i := 1) fun _ _ _ => rfl⟩ (fun hHeld => ?_)
        clear hK
        try simp only [Act.put, uA, uB, uC]
        generalize Wb8.alloc (.map #[] 0) = Wa12 at *
        generalize Wb8.heap.size = m at *
        have H := H0
        have Hb := Hb0
        have Hs := Hs0
        have Hm := Hm0
        have Hw6 := Hw0
        clear H0 Hb0 Hs0 Hm0 Hw0
        refine ord_one 8 rfl (by kernel_rfl) (by rfl) (fun K hK => ?_)
        have hpu := run_put_int Wa12 67 3 4 m 0 .i64 id (.bool true) Tryz.underlying67 Tryz.underlying3 Hm.out
        obtain ⟨Wa13, hWn⟩ : ∃ W' : World, W' = { Wa12 with heap := Wa12.heap.setIfInBounds m (.map #[{ key := .int .i64 id, val := .bool true, born := 0 }] 1) } := ⟨_, rfl⟩
        rw [← hWn] at hpu
        have hc : Chg (fun k => k = m) Wa12 Wa13 := by rw [hWn]; exact Chg.of_set
        have H0 := Lib.hid (H.out.chg hc fun k e => ⟨.inr e, by rw [e]; exact Hw6.out⟩)
        have Hm0 := Lib.hid (show Wa13.heap[m]? = some (.map #[{ key := .int .i64 id, val := .bool true, born := 0 }] 1) from by rw [hWn]; exact (MapKept.heap_set Hm.out).1)
        have Hb0 := Lib.hid ((World.cell?_of_block (hc.block b0 (H.out.flt (.inl (.inr rfl))) (no_cell_map Hm.out Hb.out))).trans Hb.out)
        have Hs0 := Lib.hid (fun k (hk : F k) => (hc.block k (H.out.flt (.inl (.inl hk))) (fun e => HFm.out k hk e)).trans (Hs.out k hk))
        clear H Hb Hs hc Hm hWn
        go_wp2_with fail
        refine hK.out _ _ ⟨Hb0.out, H0.out.cell (i := 0) fun _ _ _ => rfl, H0.out.cell (i := 1) fun _ _ _ => rfl⟩ (fun hHeld => ?_)
        clear hK hpu
        try simp only [Act.put, uA, uB, uC]
        have H := H0
        have Hb := Hb0
        have Hs := Hs0
        have Hm := Hm0
        clear H0 Hb0 Hs0 Hm0
        refine Pl [9] ?_
        refine Pc rfl ?_
        simp only [Act.put, uA, uB, uC]
        refine Pn ?_
        have f7 := H.out.frozen 7
        have k7 := H.out.cell (i := 7) (v := s.votes) fun _ _ _ => rfl
        have H9 := Lib.hid (H.out.set 7 (.map (some m)) (s' := { s with role := 1, leader := -1, votes := .map (some m) }) (fun pv wv sv => ⟨pv, rfl⟩) rfl)
        have Hm9 := Lib.hid ((set_other (.map (some m)) (H.out.neF (.inr rfl)) : (Wa13.setCell ⟨r, 7, none⟩ (.map (some m))).heap[m]? = _).trans Hm.out)
        have Hb9 := Lib.hid ((World.cell?_of_block (set_other (.map (some m)) (H.out.neF (.inl (.inr rfl))))).trans Hb.out : (Wa13.setCell ⟨r, 7, none⟩ (.map (some m))).cell? ⟨b0, 0, none⟩ = _)
        have Hs9 := Lib.hid (fun k (hk : F k) => (H.out.same_set 7 (.map (some m)) k (.inl (.inl hk))).trans (Hs.out k hk))
        clear H Hm Hb Hs
        refine Pl [16,17] ?_
        iterate 2 (refine Pc rfl ?_; simp only [Act.put, uA, uB, uC])
        refine Pn ?_
        refine ord_one 18 rfl (by kernel_rfl) (by rfl) (fun K hK => ?_)
        go_wp2_with fail
        refine hK.out _ _ ⟨Hb9.out, H9.out.cell (i := 0) fun _ _ _ => rfl, H9.out.cell (i := 1) fun _ _ _ => rfl⟩ (fun hHeld => ?_)
        clear hK
        refine wpAnyH_done (by kernel_rfl) ?_ _
        go_wp2_with fail
        go_meet
        exact ⟨m, rfl, H9.out, Hm9.out, Hb9.out, Hs9.out⟩
  case rest =>
    clear H4 Hb4 Hs4 hmm
    obtain ⟨m, rfl, hA, hm9, hb9, hs9⟩ := hcut
    have H := Lib.hid hA
    have Hm := Lib.hid hm9
    have Hb := Lib.hid hb9
    have Hs := Lib.hid hs9
    clear hA hm9 hb9 hs9
    have k0 := Hb.out
    have Hwa := Lib.hid (rawaits_calls H.out draw hd)
    go_wp2_with fail
    refine Hwa.out.mono ?_
    rintro e w8 ⟨rfl, h8, hs8⟩
    have H8 := Lib.hid h8
    have Hm8 := Lib.hid ((hs8 m (.inr rfl)).trans Hm.out)
    have Hb8 := Lib.hid ((World.cell?_of_block (hs8 b0 (.inl (.inr rfl)))).trans Hb.out)
    have Hs8 := Lib.hid (fun k (hk : F k) => (hs8 k (.inl (.inl hk))).trans (Hs.out k hk))
    clear h8 hs8 Hwa H Hm Hb Hs k0
    have k0 := Hb8.out
    have Hmo := Lib.hid (ramostS_calls (b := b0) H8.out hal1 fun W hb => stands1_calls (c := 0) (cl := 1) (cell_next hb Hb8.out) (cell_next hb (H8.out.cell (i := 7) fun _ _ _ => rfl)) ((hb.block m (H8.out.flt (.inr rfl))).trans Hm8.out))
    go_wp2_with fail
    refine Hmo.out.mono ?_
    rintro e w9 ⟨rfl, hb9⟩
    have H9 := Lib.hid (H8.out.next hb9)
    have Hb9 := Lib.hid (cell_next hb9 Hb8.out)
    have Hs9 := Lib.hid (fun k (hk : F k) => (hb9.block k (H8.out.flt (.inl (.inl hk)))).trans (Hs8.out k hk))
    clear hb9 Hmo H8 Hb8 Hm8 Hs8 k0
    have k0 := Hb9.out
    have Hle := Lib.hid (raleads_calls H9.out hal1 hap hal' hat' hc ht)
    go_wp2_with fail
    refine Hle.out.mono ?_
    rintro e wA ⟨rfl, hA, hsA⟩
    have HE := Lib.hid (And.intro (hA.less (F' := F) fun k hk => .inl (.inl hk)) fun k (hk : F k) => (hsA k (.inl (.inl hk))).trans (Hs9.out k hk))
    clear hA hsA Hle H9 Hb9 Hs9 k0
    go_wp2_with fail
    refine bodyPost_ret (results_none rfl _ _ _) rfl ?_
    exact ⟨rfl, .map (some m), HE.out⟩
end
end Go.Proofs.YtngflpaooppmhaaGreat

namespace Go.Proofs.YtngflpaooppmhaaGreat
open Go.RowKit Go.Sat Go.Maps

section
variable {w w1 w2 : World} {r j d : Nat} {id : Int} {D D1 D' : DiskM} {M M1 M' : JouM} {s s' : RaS} {F F' : Nat → Prop}
set_option maxRecDepth 100000 in
set_option maxHeartbeats 4000000 in
theorem ratick_wait (h : RaF w w1 r j d id D M s F) (hw : 2 ≤ s.wait ∧ s.wait ≤ 1000) (draw : Int) :
    Calls Tryz.prog 9 #[.pointer (some ⟨r, 0, none⟩), .int .i64 draw] w1 fun e w' => e = .returned (.slice none 0 0) ∧ RaF w w' r j d id D M { s with wait := s.wait - 1 } F ∧ Same F w1 w' := by
  obtain ⟨y, hy⟩ : ∃ y, s.wait = y := ⟨_, rfl⟩
  obtain ⟨z, hz⟩ : ∃ z, s.wait - 1 = z := ⟨_, rfl⟩
  have f6 := h.frozen 6
  have k19 := h.cell (i := 19) (v := .bool false) fun _ _ _ => rfl
  have k6 := h.cell (i := 6) (v := .int .i64 s.wait) fun _ _ _ => rfl
  rw [hy] at k6
  have H2 := Lib.hid (h.set 6 (.int .i64 z) (s' := { s with wait := z }) (fun pv wv sv => ⟨pv, rfl⟩) rfl)
  have Hs2 := Lib.hid (fun k (hk : F k) => h.same_set 6 (.int .i64 z) k hk)
  have hwr : IntKind.i64.wrap (y - 1) = z := by rw [← hz, ← hy]; exact IntWalk.i64_in _ (by omega)
  have q6 := H2.out.cell (i := 6) (v := .int .i64 z) fun _ _ _ => rfl
  have hz0 : 0 < z := by omega
  rw [hz]
  clear h hz hy hw
  have HE := Lib.hid (And.intro H2.out Hs2.out)
  clear H2 Hs2
  go_enter Tryz.func9, Tryz.ntmps9
  go_wp2_with fail
  go_ret
  exact ⟨rfl, HE.out⟩
set_option maxRecDepth 100000 in
set_option maxHeartbeats 4000000 in
theorem ratick_lead (h : RaF w w1 r j d id D M s F) (hal : (M.grpIn M.entries.length).1 = [id]) (hw : s.wait = 1) (hr : s.role = 2) (draw : Int) :
    Calls Tryz.prog 9 #[.pointer (some ⟨r, 0, none⟩), .int .i64 draw] w1 fun e w' => e = .returned (.slice none 0 0) ∧ RaF w w' r j d id D M { s with wait := 3 } F ∧ Same F w1 w' := by
  obtain ⟨y, hy⟩ : ∃ y, s.wait = y := ⟨_, rfl⟩
  obtain ⟨z, hz⟩ : ∃ z, s.wait - 1 = z := ⟨_, rfl⟩
  have f6 := h.frozen 6
  have k19 := h.cell (i := 19) (v := .bool false) fun _ _ _ => rfl
  have k6 := h.cell (i := 6) (v := .int .i64 s.wait) fun _ _ _ => rfl
  rw [hy] at k6
  have H2 := Lib.hid (h.set 6 (.int .i64 z) (s' := { s with wait := z }) (fun pv wv sv => ⟨pv, rfl⟩) rfl)
  have Hs2 := Lib.hid (fun k (hk : F k) => h.same_set 6 (.int .i64 z) k hk)
  have hwr : IntKind.i64.wrap (y - 1) = z := by rw [← hz, ← hy]; exact IntWalk.i64_in _ (by omega)
  have q6 := H2.out.cell (i := 6) (v := .int .i64 z) fun _ _ _ => rfl
  have k2 := H2.out.cell (i := 2) (v := .int .i64 s.role) fun _ _ _ => rfl
  rw [hr] at k2
  have f6b := H2.out.frozen 6
  have H3 := Lib.hid (H2.out.set 6 (.int .i64 3) (s' := { s with wait := 3 }) (fun pv wv sv => ⟨pv, rfl⟩) rfl)
  have Hs3 := Lib.hid (fun k (hk : F k) => (H2.out.same_set 6 (.int .i64 3) k hk).trans (Hs2.out k hk))
  have Hsd := Lib.hid (rasendsAll_calls H3.out hal hr)
  obtain rfl : z = 0 := by omega
  obtain rfl : y = 1 := by omega
  clear h hr hz hy hw H2 Hs2
  go_enter Tryz.func9, Tryz.ntmps9
  go_wp2_with fail
  refine Hsd.out.mono ?_
  rintro e w4 ⟨rfl, hb⟩
  have H4 := Lib.hid (H3.out.next hb)
  have Hs4 := Lib.hid (fun k (hk : F k) => (hb.block k (H3.out.flt hk)).trans (Hs3.out k hk))
  have Hst := Lib.hid (rasent_calls H4.out)
  clear hb Hsd H3 Hs3 f6 f6b k6 k19 q6 k2
  go_wp2_with fail
  refine Hst.out.mono ?_
  rintro e w5 ⟨rfl, h5, hs5⟩
  have HE := Lib.hid (And.intro h5 fun k (hk : F k) => (hs5 k hk).trans (Hs4.out k hk))
  clear h5 hs5 Hst H4 Hs4
  go_wp2_with fail
  go_ret
  exact ⟨rfl, HE.out⟩
set_option maxRecDepth 100000 in
set_option maxHeartbeats 4000000 in
theorem ratick_stand (h : RaF w w1 r j d id D M s F) (hal : (M.grpIn M.entries.length).1 = [id]) (hw : s.wait = 1) (hr : s.role = 0) (hid : 0 ≤ id ∧ id < 7) (hst : jouTerm [97] D M (M.now + 1) id = ⟨D1, M1, 0⟩) (hal1 : (M1.grpIn M1.entries.length).1 = [id]) (hap : jouAppend [97] D1 M1 [⟨M1.now, 0, [], []⟩] = ⟨D', M', 0⟩) (hal' : (M'.grpIn M'.entries.length).1 = [id]) (hat' : (M'.grpIn M'.entries.length).2 ≤ M'.last) (hc : s.commit < M'.last) (ht : M'.termAt (M'.last : Int) = some M'.now) (draw : Int) (hd : -9223372036854775808 ≤ draw ∧ draw ≤ 9223372036854775807) :
    Calls Tryz.prog 9 #[.pointer (some ⟨r, 0, none⟩), .int .i64 draw] w1 fun e w' => e = .returned (.slice none 0 0) ∧ ∃ vt, RaF w w' r j d id D' M' { s with role := 2, leader := id, round := 0, wait := 3, commit := M'.last, votes := vt } F ∧ Same F w1 w' := by
  obtain ⟨y, hy⟩ : ∃ y, s.wait = y := ⟨_, rfl⟩
  obtain ⟨z, hz⟩ : ∃ z, s.wait - 1 = z := ⟨_, rfl⟩
  have f6 := h.frozen 6
  have k19 := h.cell (i := 19) (v := .bool false) fun _ _ _ => rfl
  have k6 := h.cell (i := 6) (v := .int .i64 s.wait) fun _ _ _ => rfl
  rw [hy] at k6
  have H2 := Lib.hid (h.set 6 (.int .i64 z) (s' := { s with wait := z }) (fun pv wv sv => ⟨pv, rfl⟩) rfl)
  have Hs2 := Lib.hid (fun k (hk : F k) => h.same_set 6 (.int .i64 z) k hk)
  have hwr : IntKind.i64.wrap (y - 1) = z := by rw [← hz, ← hy]; exact IntWalk.i64_in _ (by omega)
  have q6 := H2.out.cell (i := 6) (v := .int .i64 z) fun _ _ _ => rfl
  have k2 := H2.out.cell (i := 2) (v := .int .i64 s.role) fun _ _ _ => rfl
  rw [hr] at k2
  obtain rfl : z = 0 := by omega
  obtain rfl : y = 1 := by omega
  clear h hz hy hw
  generalize hs1 : ({ s with wait := 0 } : RaS) = s1 at *
  have H := Lib.hid H2.out
  have Hs := Lib.hid Hs2.out
  clear H2 Hs2
  go_enter Tryz.func9, Tryz.ntmps9
  go_upto_region 10 with (fail)
  clear f6 k6 k19 q6 k2 hwr
  generalize w1.setCell ⟨r, 6, none⟩ (.int .i64 0) = W2 at *
  refine ord_start (fun w' : World => w'.cell? ⟨r, 1, none⟩ = some (.int .i64 id)) (n := 9) (by kernel_rfl) rfl (H.out.cell (i := 1) fun _ _ _ => rfl) (fun hHeld => ?_)
  have H3 := Lib.hid (H.out.next (below_drew W2))
  have Hs3 := Lib.hid (fun k (hk : F k) => show W2.drew.heap[k]? = w1.heap[k]? from Hs.out k hk)
  clear H Hs
  have hgr := ragroup_calls H3.out
  rw [hal] at hgr
  have Hgr := Lib.hid hgr
  clear hgr
  generalize W2.drew = W3 at *
  refine Pl [0,2,3,4,5] ?_
  iterate 5 (refine Pd rfl (by intro w hSw; go_simp; try with_reducible rfl) ?_; simp only [Act.put, uA, uB, uC])
  refine Pn ?_
  refine ord_one 1 rfl (by kernel_rfl) (by rfl) (fun K hK => ?_)
  go_wp2_with fail
  refine Hgr.out.mono ?_
  rintro e w4 ⟨v, rfl, hv, -, hb⟩
  have H4 := Lib.hid (H3.out.next hb)
  have Hs4 := Lib.hid (fun k (hk : F k) => (hb.block k (H3.out.flt hk)).trans (Hs3.out k hk))
  have Hct := Lib.hid (ctn1_calls hv)
  clear hv hb Hgr H3 Hs3 hHeld
  go_wp2_with fail
  refine hK.out _ _ (H4.out.cell (i := 1) fun _ _ _ => rfl) (fun hHeld => ?_)
  clear hK
  try simp only [Act.put, uA, uB, uC]
  refine ord_one 6 rfl (by kernel_rfl) (by rfl) (fun K hK => ?_)
  go_wp2_with fail
  refine Hct.out.mono ?_
  rintro e w5 ⟨rfl, rfl⟩
  go_wp2_with fail
  refine hK.out _ _ (H4.out.cell (i := 1) fun _ _ _ => rfl) (fun hHeld => ?_)
  clear hK Hct
  try simp only [Act.put, uA, uB, uC]
  refine Pl [7,8] ?_
  iterate 2 (refine Pc rfl ?_; simp only [Act.put, uA, uB, uC])
  refine Pn ?_
  refine wpAnyH_done (by kernel_rfl) ?_ _
  clear hHeld
  have Hsn := Lib.hid (rastands_calls H4.out hid hst hal1 hap hal' hat' (by rw [← hs1]; exact hc) ht draw hd)
  go_wp2_with fail
  refine Hsn.out.mono ?_
  rintro e w6 ⟨rfl, vt, h6, hs6⟩
  have H6 := Lib.hid h6
  have Hs6 := Lib.hid (fun k (hk : F k) => (hs6 k hk).trans (Hs4.out k hk))
  have Hst := Lib.hid (rasent_calls h6)
  clear h6 hs6 Hsn H4 Hs4
  go_wp2_with fail
  refine Hst.out.mono ?_
  rintro e w7 ⟨rfl, h7, hs7⟩
  have HE := Lib.hid (show RaF w w7 r j d id D' M' { s with role := 2, leader := id, round := 0, wait := 3, commit := M'.last, votes := vt } F ∧ Same F w1 w7 from ⟨by rw [← hs1] at h7; exact h7, fun k (hk : F k) => (hs7 k hk).trans (Hs6.out k hk)⟩)
  clear h7 hs7 Hst H6 Hs6
  go_wp2_with fail
  go_ret
  exact ⟨rfl, vt, HE.out⟩
end
end Go.Proofs.YtngflpaooppmhaaGreat

namespace Go.Proofs.YtngflpaooppmhaaGreat
open Go.RowKit Go.Sat Go.Maps

theorem prop1_calls (w : World) (n : Int) : Calls Tryz.prog 26 #[.int .i64 n] w fun e w' => e = .returned (.tuple #[]) ∧ w' = w := by
  go_enter Tryz.func26, Tryz.ntmps26
  go_wp2_with fail
  go_end0
  exact ⟨rfl, rfl⟩
section
variable {w w1 w2 : World} {r j d : Nat} {id : Int} {D D1 D' : DiskM} {M M1 M' : JouM} {s s' : RaS} {F F' : Nat → Prop}
set_option maxRecDepth 100000 in
set_option maxHeartbeats 4000000 in
theorem ralays_calls (h : RaF w w1 r j d id D M s F) (hal : (M.grpIn M.entries.length).1 = [id]) (hr : s.role = 2) {p : Option Addr} {n c : Nat} {data : Bs} (hv : HasB w (.slice p n c) data) (hn : data.length = n) (hn1 : 1 ≤ n ∧ n ≤ 65536) (hap : jouAppend [97] D M [⟨M.now, 1, data, []⟩] = ⟨D', M', 0⟩) (hal' : (M'.grpIn M'.entries.length).1 = [id]) (hat' : (M'.grpIn M'.entries.length).2 ≤ M'.last) (hc : s.commit < M'.last) (ht : M'.termAt (M'.last : Int) = some M'.now) :
    Calls Tryz.prog 25 #[.pointer (some ⟨r, 0, none⟩), .agg #[.int .i64 0, .int .i64 1, .slice p n c, .slice none 0 0], .func (.func 26) #[] #[]] w1 fun e w' => e = .returned (.tuple #[.int .i64 (M'.last : Int), .slice none 0 0, .int .i64 0]) ∧ RaF w w' r j d id D' M' { s with commit := M'.last } F ∧ Same F w1 w' := by
  have h1 := h.box (.cells #[.int .i64 0, .int .i64 1, .slice p n c, .slice none 0 0] 47)
  have Hs1 := Lib.hid (fun k (hk : F k) => (below_one w1 (.cells #[.int .i64 0, .int .i64 1, .slice p n c, .slice none 0 0] 47)).block k (h.flt hk))
  have hb1 := new_block w1 (.cells #[.int .i64 0, .int .i64 1, .slice p n c, .slice none 0 0] 47)
  have Hfb := Lib.hid (fun k (hk : F k) => (Nat.ne_of_lt (h.flt hk) : k ≠ w1.heap.size))
  have H1 := Lib.hid h1
  have Hnr := Lib.hid (h1.neF (k := w1.heap.size) (.inr rfl))
  have Hb1 := Lib.hid hb1
  have Hwr := Lib.hid (show w.heap.size ≤ w1.heap.size from h.bel.size)
  have Hte := Lib.hid (raterm_calls h1)
  clear h h1 hb1
  go_enter Tryz.func25, Tryz.ntmps25
  go_wp2_with fail
  refine Hte.out.mono ?_
  rintro e w2 ⟨rfl, q, rfl⟩
  have H2 := Lib.hid (H1.out.next (below_dqa (w1.alloc (.cells #[.int .i64 0, .int .i64 1, .slice p n c, .slice none 0 0] 47)) q))
  have hb2 : ((w1.alloc (.cells #[.int .i64 0, .int .i64 1, .slice p n c, .slice none 0 0] 47)).drewN q).heap[w1.heap.size]? = some (.cells #[.int .i64 0, .int .i64 1, .slice p n c, .slice none 0 0] 47 (0, 0)) := Hb1.out
  have Hb2 := Lib.hid hb2
  have Hs2 := Lib.hid (fun k (hk : F k) => show ((w1.alloc (.cells #[.int .i64 0, .int .i64 1, .slice p n c, .slice none 0 0] 47)).drewN q).heap[k]? = w1.heap[k]? from Hs1.out k hk)
  clear Hte H1 Hb1 Hs1 hb2
  generalize (w1.alloc (.cells #[.int .i64 0, .int .i64 1, .slice p n c, .slice none 0 0] 47)).drewN q = W2 at *
  generalize w1.heap.size = b0 at *
  have e0 := cell_of Hb2.out (i := 0) rfl
  have f0 := frozen_of Hb2.out 0
  have hch := Chg.setCell W2 ⟨b0, 0, none⟩ (.int .i64 M.now)
  have H3 := Lib.hid (H2.out.chg (hch.mono (T := fun k => k = b0) fun k _ e => e) fun k e => ⟨.inr e, by rw [e]; exact Hwr.out⟩)
  have hb3 : (W2.setCell ⟨b0, 0, none⟩ (.int .i64 M.now)).heap[b0]? = some (.cells #[.int .i64 M.now, .int .i64 1, .slice p n c, .slice none 0 0] 47 (0, 0)) := by
    have := set_block Hb2.out 0 (.int .i64 M.now)
    simpa using this
  have Hb3 := Lib.hid hb3
  have Hs3 := Lib.hid (fun k (hk : F k) => (set_other (.int .i64 M.now) (fun e => by
    have h1 := H2.out
    have e : k = b0 := e
    have h2 := Hfb.out k hk
    exact h2 e) : (W2.setCell ⟨b0, 0, none⟩ (.int .i64 M.now)).heap[k]? = _).trans (Hs2.out k hk))
  clear hch hb3
  go_upto_region 2 with (fail)
  clear e0 f0 H2 Hb2 Hs2
  generalize W2.setCell ⟨b0, 0, none⟩ (.int .i64 M.now) = W3 at *
  refine ord_start (fun w' : World => w'.cell? ⟨r, 0, none⟩ = some (.pointer (some ⟨j, 0, none⟩)) ∧ w'.heap[b0]? = some (.cells #[.int .i64 M.now, .int .i64 1, .slice p n c, .slice none 0 0] 47 (0, 0))) (n := 8) (by kernel_rfl) rfl ⟨H3.out.cell (i := 0) fun _ _ _ => rfl, Hb3.out⟩ (fun hHeld => ?_)
  have H4 := Lib.hid (H3.out.next (below_drew W3))
  have Hb4 := Lib.hid (show W3.drew.heap[b0]? = some (.cells #[.int .i64 M.now, .int .i64 1, .slice p n c, .slice none 0 0] 47 (0, 0)) from Hb3.out)
  have Hs4 := Lib.hid (fun k (hk : F k) => show W3.drew.heap[k]? = w1.heap[k]? from Hs3.out k hk)
  clear H3 Hb3 Hs3
  generalize W3.drew = W4 at *
  refine Pl [0,1,2,3,4] ?_
  iterate 5 (refine Pd rfl (by intro w hSw; have e0 := hSw.1; have e1 := cell_of hSw.2 (i := 0) rfl; have e2 := cell_of hSw.2 (i := 1) rfl; have e3 := cell_of hSw.2 (i := 2) rfl; have e4 := cell_of hSw.2 (i := 3) rfl; go_simp; try with_reducible rfl) ?_; simp only [Act.put, uA, uB, uC])
  refine Pn ?_
  have hra := ra_append1 H4.out (e := ⟨M.now, 1, data, []⟩) (u := (.slice p n c, .slice none 0 0)) ⟨hv, (ent_nil w 0 0).nodes, by show data.length ≤ _; omega, by simp⟩
  rw [hap] at hra
  dsimp only at hra
  have Hra := Lib.hid hra
  have hbl := below_one W4 (.cells #[.int .i64 M.now, .int .i64 1, .slice p n c, .slice none 0 0] 47)
  have H5 := Lib.hid (H4.out.next hbl)
  have Hb5 := Lib.hid ((hbl.block b0 (lt_of_block Hb4.out)).trans Hb4.out)
  clear hra hbl hHeld
  refine ord_one 5 rfl (by kernel_rfl) (by rfl) (fun K hK => ?_)
  go_wp2_with fail
  refine hK.out _ _ ⟨H5.out.cell (i := 0) fun _ _ _ => rfl, Hb5.out⟩ (fun hHeld => ?_)
  clear hK H5 Hb5
  try simp only [Act.put, uA, uB, uC]
  refine ord_one 6 rfl (by kernel_rfl) (by rfl) (fun K hK => ?_)
  go_wp2_with fail
  refine Hra.out.mono ?_
  rintro e w5 ⟨rfl, h5, hs5⟩
  have H5 := Lib.hid h5
  have Hb5 := Lib.hid ((hs5 b0 (.inr rfl)).trans Hb4.out)
  have Hs5 := Lib.hid (fun k (hk : F k) => (hs5 k (.inl hk)).trans (Hs4.out k hk))
  clear h5 hs5 Hra H4 Hb4 Hs4 hHeld
  go_wp2_with fail
  refine hK.out _ _ ⟨H5.out.cell (i := 0) fun _ _ _ => rfl, Hb5.out⟩ (fun hHeld => ?_)
  clear hK
  try simp only [Act.put, uA, uB, uC]
  refine Pl [7] ?_
  iterate 1 (refine Pc rfl ?_; simp only [Act.put, uA, uB, uC])
  refine Pn ?_
  refine wpAnyH_done (by kernel_rfl) ?_ _
  clear hHeld Hb5
  have Hw := Lib.hid (rawritten_calls w5 r)
  have k0 := H5.out.cell (i := 0) (v := .pointer (some ⟨j, 0, none⟩)) fun _ _ _ => rfl
  have Hla := Lib.hid (ra_q H5.out fun G hJ => jlast_calls hJ)
  generalize hla : M'.last = la at *
  go_wp2_with fail
  refine Hw.out.mono ?_
  rintro e w6 ⟨rfl, rfl⟩
  go_wp2_with fail
  refine Hla.out.mono ?_
  rintro e w7 ⟨rfl, q7, rfl⟩
  have H7 := Lib.hid (H5.out.next (below_dqa w6 q7))
  have Hs7 := Lib.hid (fun k (hk : F k) => show (w6.drewN q7).heap[k]? = w1.heap[k]? from Hs5.out k hk)
  clear Hla Hw H5 Hs5 k0
  generalize w6.drewN q7 = W7 at *
  have Hp1 := Lib.hid (prop1_calls W7 (la : Int))
  go_wp2_with fail
  refine Hp1.out.mono ?_
  rintro e w8 ⟨rfl, rfl⟩
  have Hcn := Lib.hid (racounts_calls H7.out hal' (by rw [hla]; exact hat') (by rw [hla]; exact hc) (by rw [hla]; exact ht))
  rw [hla] at Hcn
  clear Hp1
  go_wp2_with fail
  refine Hcn.out.mono ?_
  rintro e w9 ⟨rfl, h9, hs9⟩
  have H9 := Lib.hid h9
  have Hs9 := Lib.hid (fun k (hk : F k) => (hs9 k (.inl hk)).trans (Hs7.out k hk))
  have Hsd := Lib.hid (rasendsAll_calls h9 hal' hr)
  clear h9 hs9 Hcn H7 Hs7
  go_wp2_with fail
  refine Hsd.out.mono ?_
  rintro e wA ⟨rfl, hbA⟩
  have HA := Lib.hid (H9.out.next hbA)
  have HsA := Lib.hid (fun k (hk : F k) => (hbA.block k (H9.out.flt (.inl hk))).trans (Hs9.out k hk))
  have Hst := Lib.hid (rasent_calls HA.out)
  clear hbA Hsd H9 Hs9
  go_wp2_with fail
  refine Hst.out.mono ?_
  rintro e wB ⟨rfl, hB, hsB⟩
  have HE := Lib.hid (And.intro (hB.less (F' := F) fun k hk => .inl hk) fun k (hk : F k) => (hsB k (.inl hk)).trans (HsA.out k hk))
  clear hB hsB Hst HA HsA
  go_wp2_with fail
  go_ret3
  rw [hla]
  exact ⟨rfl, HE.out⟩
set_option maxRecDepth 100000 in
set_option maxHeartbeats 4000000 in
theorem rapropose_calls (h : RaF w w1 r j d id D M s F) (hal : (M.grpIn M.entries.length).1 = [id]) (hr : s.role = 2) {p : Option Addr} {n c : Nat} {data : Bs} (hv : HasB w (.slice p n c) data) (hn : data.length = n) (hn1 : 1 ≤ n ∧ n ≤ 65536) (hap : jouAppend [97] D M [⟨M.now, 1, data, []⟩] = ⟨D', M', 0⟩) (hal' : (M'.grpIn M'.entries.length).1 = [id]) (hat' : (M'.grpIn M'.entries.length).2 ≤ M'.last) (hc : s.commit < M'.last) (ht : M'.termAt (M'.last : Int) = some M'.now) :
    Calls Tryz.prog 8 #[.pointer (some ⟨r, 0, none⟩), .slice p n c] w1 fun e w' => e = .returned (.tuple #[.int .i64 (M'.last : Int), .slice none 0 0, .int .i64 0]) ∧ RaF w w' r j d id D' M' { s with commit := M'.last } F ∧ Same F w1 w' := by
  have hm := ramay_calls h (.inr hr)
  rw [if_pos hr] at hm
  have Hm := Lib.hid hm
  have Hly := Lib.hid (ralays_calls h hal hr hv hn hn1 hap hal' hat' hc ht)
  clear h hm hv hap hal hal' hat' hc ht hn
  obtain ⟨hn1, hn2⟩ := hn1
  go_enter Tryz.func8, Tryz.ntmps8
  go_wp2_with fail
  refine Hm.out.mono ?_
  rintro e w2 ⟨rfl, rfl⟩
  go_wp2_with fail
  refine Hly.out.mono ?_
  rintro e w3 ⟨rfl, h3, hs3⟩
  have HE := Lib.hid (And.intro h3 hs3)
  clear h3 hs3 Hly Hm
  go_wp2_with fail
  go_ret3
  exact ⟨rfl, HE.out⟩
set_option maxRecDepth 100000 in
set_option maxHeartbeats 4000000 in
theorem rapropose_no (h : RaF w w1 r j d id D M s F) (hr : s.role = 0) (v : Value) :
    Calls Tryz.prog 8 #[.pointer (some ⟨r, 0, none⟩), v] w1 fun e w' => e = .returned (.tuple #[.int .i64 0, .slice none 0 0, .int .i64 11]) ∧ w' = w1 := by
  have hm := ramay_calls h (.inl hr)
  rw [hr, if_neg (by decide)] at hm
  have Hm := Lib.hid hm
  clear h hm
  go_enter Tryz.func8, Tryz.ntmps8
  go_wp2_with fail
  refine Hm.out.mono ?_
  rintro e w2 ⟨rfl, rfl⟩
  go_wp2_with fail
  go_ret3
  exact ⟨rfl, rfl⟩
end
end Go.Proofs.YtngflpaooppmhaaGreat
