/- What a node alone has settled; its rows of questions. (Printed by mkra8.py.) settles: what a node alone is asked is settled at once. (Printed by mkra9.py.) Ask of a node alone. (Printed by mkra10.py.) journal: Open. (Printed by mkj26.py.) Reads, State and Open of a node alone. (Printed by mkra11.py.) -/
import Derived.ArgAppend
import Derived.Test.YtngflpaooppmhaaGreatWI
import Derived.Test.YtngflpaooppmhaaGreatWJ
namespace Go.Proofs.YtngflpaooppmhaaGreat
open Go.RowKit Go.Sat Go.Maps

section
variable {w w1 w2 : World} {r j d : Nat} {id : Int} {D D1 D' : DiskM} {M M1 M' : JouM} {s s' : RaS} {F F' : Nat → Prop}
set_option maxRecDepth 100000 in
set_option maxHeartbeats 4000000 in
theorem rafresh_calls (h : RaF w w1 r j d id D M s F) (hl : M.last ≤ 1099511627776) (hcm : s.commit ≤ M.last) (ht : M.termAt (s.commit : Int) = some M.now) :
    Calls Tryz.prog 32 #[.pointer (some ⟨r, 0, none⟩)] w1 fun e w' => e = .returned (.bool true) ∧ Below w1.heap.size w1 w' := by
  have h1 := h.next (below_drew w1)
  have Hta := Lib.hid (ra_q h1 fun G hJ => jtermAt_calls hJ (s.commit : Int) (by omega))
  rw [ht] at Hta
  have k0 := h.cell (i := 0) (v := .pointer (some ⟨j, 0, none⟩)) fun _ _ _ => rfl
  have k4 := h.cell (i := 4) (v := .int .i64 (s.commit : Int)) fun _ _ _ => rfl
  have Hte := Lib.hid (fun q => raterm_calls (h1.next (below_dqa w1.drew q)))
  have K := Lib.hid (And.intro k0 k4)
  clear h h1 k0 k4
  go_enter Tryz.func32, Tryz.ntmps32
  go_upto_region 1 with (fail)
  refine ord_start (fun w' : World => w'.cell? ⟨r, 0, none⟩ = some (.pointer (some ⟨j, 0, none⟩)) ∧ w'.cell? ⟨r, 4, none⟩ = some (.int .i64 (s.commit : Int))) (n := 14) (by kernel_rfl) rfl K.out (fun hHeld => ?_)
  refine Pl [0,1,2,3,4,5,6,7] ?_
  iterate 8 (refine Pd rfl (by intro w hSw; have e0 := hSw.1; have e1 := hSw.2; go_simp; try with_reducible rfl) ?_; simp only [Act.put, uA, uB, uC])
  refine Pn ?_
  refine ord_one 8 rfl (by kernel_rfl) (by rfl) (fun K hK => ?_)
  go_wp2_with fail
  refine Hta.out.mono ?_
  rintro e w3 ⟨rfl, q, rfl⟩
  have Hte3 := Lib.hid (Hte.out q)
  have Hb3 := Lib.hid (show Below w1.heap.size w1 (w1.drew.drewN q) from ⟨rfl, rfl, rfl, Nat.le_refl _, fun _ _ => rfl⟩)
  have hH3 := Lib.hid (show (w1.drew.drewN q).cell? ⟨r, 0, none⟩ = some (.pointer (some ⟨j, 0, none⟩)) ∧ (w1.drew.drewN q).cell? ⟨r, 4, none⟩ = some (.int .i64 (s.commit : Int)) from hHeld)
  clear Hte Hta hHeld
  generalize w1.drew.drewN q = W3 at *
  go_wp2_with fail
  refine hK.out _ _ hH3.out (fun hHeld => ?_)
  clear hK
  try simp only [Act.put, uA, uB, uC]
  refine Pl [9,10,11,12,13] ?_
  iterate 5 (refine Pc rfl ?_; simp only [Act.put, uA, uB, uC])
  refine Pn ?_
  refine wpAnyH_done (by kernel_rfl) ?_ _
  have heq : (M.now == M.now) = true := by simp
  go_wp2_with fail
  refine Hte3.out.mono ?_
  rintro e w4 ⟨rfl, q4, rfl⟩
  go_wp2_with fail
  go_ret
  exact ⟨rfl, Hb3.out.trans (below_dqa W3 q4)⟩

/-- The row of questions that wait; another one. -/
theorem RaF.wait (h : RaF w w1 r j d id D M s F) : ∃ wv, w1.cell? ⟨r, 10, none⟩ = some wv ∧ RowQ w1 wv s.wq ∧ (∀ k, wv.ownBlock = some k → k ≠ r ∧ ¬ F k) ∧ ∀ v' w' l, RowQ w' v' l → Chg (fun k => wv.ownBlock = some k) w1 w' → (v'.ownBlock = wv.ownBlock ∨ ∃ g, v'.ownBlock = some g ∧ w1.heap.size ≤ g) → RaF w (w'.setCell ⟨r, 10, none⟩ v') r j d id D M { s with wq := l } F := by
  obtain ⟨pv, wv, sv, hJ, hI⟩ := h
  refine ⟨wv, cell_of hI.cells rfl, hI.ow, fun k hk => (hI.nw k hk).2, fun v' w' l hv hc hloc => ?_⟩
  have hc2 := Chg.setCell w' ⟨r, 10, none⟩ v'
  have hrl := hI.lt (.inl rfl)
  have hsz := hc.size
  have hnv : ∀ k, v'.ownBlock = some k → w.heap.size ≤ k ∧ k ≠ r ∧ ¬ F k ∧ sv.ownBlock ≠ some k := fun k hk => by
    rcases hloc with e | ⟨g, e, hge⟩
    · rw [e] at hk
      exact ⟨(hI.nw k hk).1, (hI.nw k hk).2.1, (hI.nw k hk).2.2, fun e2 => (hI.ns k e2).2.2.2 hk⟩
    · rw [e] at hk
      have hk := Option.some.inj hk
      have h1 := hJ.bel.size
      refine ⟨by omega, by omega, fun e2 => ?_, fun e2 => ?_⟩
      · have := hJ.flt (.inl e2)
        omega
      · have := hI.lt (.inr (.inr e2))
        omega
  have hcell : w'.heap[r]? = some (RaO j id s pv wv sv) := (hc.block r hrl fun e => (hI.nw r e).2.1 rfl).trans hI.cells
  have hrow : RowQ (w'.setCell ⟨r, 10, none⟩ v') v' l := hv.keep fun k hk => set_other _ (hnv k hk).2.1
  refine ⟨pv, v', sv, hJ.move (S := fun k => wv.ownBlock = some k ∨ k = r) ((hc.mono fun k _ e => .inl e).trans (hc2.mono fun k _ e => .inr e) fun _ _ e => e) (fun k _ e => ?_) fun k hk => ?_, ⟨?_, hI.rge, hI.nF, hrow, ?_, fun k hk => ⟨(hnv k hk).1, (hnv k hk).2.1, (hnv k hk).2.2.1⟩, fun k hk => ⟨(hI.ns k hk).1, (hI.ns k hk).2.1, (hI.ns k hk).2.2.1, fun e => (hnv k e).2.2.2 hk⟩⟩⟩
  · rcases e with e | e
    · exact ⟨.inr (.inr (.inl e)), (hI.nw k e).1⟩
    · rw [e]
      exact ⟨.inr (.inl rfl), hI.rge⟩
  · have h9 : (w'.setCell ⟨r, 10, none⟩ v').heap.size = w'.heap.size := by simp [World.setCell]
    rcases hk with hk | hk | hk | hk
    · exact ⟨.inl (.inl hk), by have := hJ.flt (.inl hk); omega⟩
    · exact ⟨.inl (.inr (.inl hk)), by omega⟩
    · refine ⟨?_, hrow.lt hk⟩
      rcases hloc with e | ⟨g, e, hge⟩
      · rw [e] at hk
        exact .inl (.inr (.inr (.inl hk)))
      · rw [e] at hk
        have hk := Option.some.inj hk
        exact .inr (by omega)
    · exact ⟨.inl (.inr (.inr (.inr hk))), by have := hI.lt (.inr (.inr hk)); omega⟩
  · have := set_block hcell 10 v'
    simpa [RaO] using this
  · refine hI.os.keep fun k hk => ?_
    exact (set_other _ (hI.ns k hk).2.1).trans (hc.block k (hI.lt (.inr (.inr hk))) (hI.ns k hk).2.2.2)
/-- The row of what is settled; another one. -/
theorem RaF.sett (h : RaF w w1 r j d id D M s F) : ∃ sv, w1.cell? ⟨r, 11, none⟩ = some sv ∧ OwnR w1 49 3 sv s.qs.length (readsV s.qs) ∧ (∀ k, sv.ownBlock = some k → k ≠ r ∧ ¬ F k) ∧ ∀ v' w' l, OwnR w' 49 3 v' l.length (readsV l) → Chg (fun k => sv.ownBlock = some k) w1 w' → (v'.ownBlock = sv.ownBlock ∨ ∃ g, v'.ownBlock = some g ∧ w1.heap.size ≤ g) → RaF w (w'.setCell ⟨r, 11, none⟩ v') r j d id D M { s with qs := l } F := by
  obtain ⟨pv, wv, sv, hJ, hI⟩ := h
  refine ⟨sv, cell_of hI.cells rfl, hI.os, fun k hk => ⟨(hI.ns k hk).2.1, (hI.ns k hk).2.2.1⟩, fun v' w' l hv hc hloc => ?_⟩
  have hc2 := Chg.setCell w' ⟨r, 11, none⟩ v'
  have hrl := hI.lt (.inl rfl)
  have hsz := hc.size
  have hnv : ∀ k, v'.ownBlock = some k → w.heap.size ≤ k ∧ k ≠ r ∧ ¬ F k ∧ wv.ownBlock ≠ some k := fun k hk => by
    rcases hloc with e | ⟨g, e, hge⟩
    · rw [e] at hk
      exact hI.ns k hk
    · rw [e] at hk
      have hk := Option.some.inj hk
      have h1 := hJ.bel.size
      refine ⟨by omega, by omega, fun e2 => ?_, fun e2 => ?_⟩
      · have := hJ.flt (.inl e2)
        omega
      · have := hI.lt (.inr (.inl e2))
        omega
  have hcell : w'.heap[r]? = some (RaO j id s pv wv sv) := (hc.block r hrl fun e => (hI.ns r e).2.1 rfl).trans hI.cells
  have hrow : OwnR (w'.setCell ⟨r, 11, none⟩ v') 49 3 v' l.length (readsV l) := hv.keep fun k hk => set_other _ (hnv k hk).2.1
  refine ⟨pv, wv, v', hJ.move (S := fun k => sv.ownBlock = some k ∨ k = r) ((hc.mono fun k _ e => .inl e).trans (hc2.mono fun k _ e => .inr e) fun _ _ e => e) (fun k _ e => ?_) fun k hk => ?_, ⟨?_, hI.rge, hI.nF, ?_, hrow, hI.nw, hnv⟩⟩
  · rcases e with e | e
    · exact ⟨.inr (.inr (.inr e)), (hI.ns k e).1⟩
    · rw [e]
      exact ⟨.inr (.inl rfl), hI.rge⟩
  · have h9 : (w'.setCell ⟨r, 11, none⟩ v').heap.size = w'.heap.size := by simp [World.setCell]
    rcases hk with hk | hk | hk | hk
    · exact ⟨.inl (.inl hk), by have := hJ.flt (.inl hk); omega⟩
    · exact ⟨.inl (.inr (.inl hk)), by omega⟩
    · exact ⟨.inl (.inr (.inr (.inl hk))), by have := hI.lt (.inr (.inl hk)); omega⟩
    · refine ⟨?_, OwnR.lt hrow hk⟩
      rcases hloc with e | ⟨g, e, hge⟩
      · rw [e] at hk
        exact .inl (.inr (.inr (.inr hk)))
      · rw [e] at hk
        have hk := Option.some.inj hk
        exact .inr (by omega)
  · have := set_block hcell 11 v'
    simpa [RaO] using this
  · refine hI.ow.keep fun k hk => ?_
    exact (set_other _ (hI.nw k hk).2.1).trans (hc.block k (hI.lt (.inr (.inl hk))) fun e => (hI.ns k e).2.2.2 hk)

/-- 'x[k:]', of elements of whatever size. -/
theorem run_from_q {P : Program} (w : World) {t e : TypeId} {i : TypeInfo} (ht : P.underlying t = some (.slice e)) (hi : P.info? e = some i) (p : Option Addr) (len cap k : Nat) (h : k ≤ len) (h2 : len ≤ cap) :
    (Instr.slice t (.slice p len cap) (some (.int .i64 (k : Int))) none none).run P w = .ok (.slice (if cap - k = 0 then p else p.map fun x => x.add (k * i.size)) (len - k) (cap - k)) w := by
  have h1 : (Instr.sliceBound (.int .i64 (k : Int)) len .sliceB).run P w = .ok k w := by
    rw [run_sliceBound _ _ _ _ _ (by omega) (by omega)]
    simp
  simp [Instr.slice, run_underlying ht, Instr.sliceBounds, h1, sizeOf, typeInfo, hi, Result.andThen]
  by_cases hc : cap = k
  · rw [if_pos hc, if_pos (by omega)]
  · rw [if_neg hc, if_neg (by omega)]
/-- A question is laid behind an empty row. -/
theorem run_appq {t ty : TypeId} {i : TypeInfo} {z : Value} (ht : Tryz.prog.underlying t = some (.slice 82)) (hi : Tryz.prog.info? 82 = some i) (hz : i.zero = some z) (hs : i.size = 3) (hby : i.bytes = 24) (hzs : z.cells.size = 3)
    {W : World} {v : Value} (h : RowQ W v []) {xv : Value} {q : Int × Nat × Nat} (hx : Holds W 3 xv 1 (waitV [q])) :
    ∃ v' w', (Builtin.append_ #[t, t] ty #[v, xv]).run Tryz.prog W = .ok v' w' ∧ RowQ w' v' [q] ∧ Chg (fun k => v.ownBlock = some k) W w' ∧ (v'.ownBlock = v.ownBlock ∨ ∃ g, v'.ownBlock = some g ∧ W.heap.size ≤ g) := by
  have hone : ∀ u ∈ waitV [q], u.oneCell' = true := fun u hu => by
    simp only [waitV, List.mem_cons, List.not_mem_nil, or_false] at hu
    rcases hu with rfl | rfl | rfl <;> rfl
  have hrow : ∀ {w' : World} {v' : Value}, OwnR w' 82 3 v' 1 (waitV [q]) → RowQ w' v' [q] := fun {w' v'} ho => by
    rcases ho.2 with ⟨-, h0⟩ | ⟨g, cap, cur, e, hg, hnc, hcm, hcs, htk⟩
    · omega
    · refine .inr ⟨g, 0, cap, cur, e, hg, hcm, hnc, by omega, fun k u hu => ?_⟩
      have h1 : (cur.toList.take 3)[k]? = some u := by
        have : cur.toList.take (1 * 3) = waitV [q] := htk
        rw [show (3 : Nat) = 1 * 3 from rfl, this]
        exact hu
      rw [List.getElem?_take] at h1
      split at h1
      · rw [Nat.zero_add]
        simpa using h1
      · cases h1
  rcases h with ⟨rfl, -⟩ | ⟨g, o, cap, cur, rfl, hg, hcm, -, hcs, -⟩
  · obtain ⟨v', w', hr, h1, h2, h3⟩ := run_app (P := Tryz.prog) W t ty 82 i z 3 24 ht hi hz hs hby hzs (by decide) (.slice none 0 0) 0 [] (OwnR.nil _ _ _) xv 1 (waitV [q]) hx hone (by decide) (by decide)
    exact ⟨v', w', hr, hrow h1, (Chg.of_grown h2).mono fun _ _ e => e.symm, h3⟩
  · obtain ⟨hl, px, cx, rfl, hp0, hnews⟩ := hx
    obtain ⟨ax, rfl⟩ : ∃ a, px = some a := by
      cases px with
      | none => have := hp0 rfl; omega
      | some a => exact ⟨a, rfl⟩
    have hnews := hnews ax rfl
    by_cases hroom : 1 ≤ cap
    · have hcell : ∀ k, k < 3 → (W.cell? ⟨g, o + k, none⟩).isSome = true := fun k hk => by
        have : o + k < cur.size := by omega
        rw [cell_of hg (Array.getElem?_eq_getElem this)]
        rfl
      have hr := run_append_room_cells (P := Tryz.prog) W t ty 82 i ht hi g o 0 cap ax 1 cx (waitV [q]) (by rw [hs]; rfl) hnews hone (by omega) (fun k hk => by rw [hs]; exact hcell k hk) (fun k _ => frozen_of hg _)
      rw [hs] at hr
      have hW : W.setCells g (o + 0 * 3) (waitV [q]) = ((W.setCell ⟨g, o, none⟩ (.int .i64 q.1)).setCell ⟨g, o + 1, none⟩ (.int .i64 (q.2.1 : Int))).setCell ⟨g, o + 1 + 1, none⟩ (.int .i64 (q.2.2 : Int)) := by
        simp [waitV, World.setCells]
      rw [hW] at hr
      have b1 := set_block hg o (.int .i64 q.1)
      have b2 := set_block b1 (o + 1) (.int .i64 (q.2.1 : Int))
      have b3 := set_block b2 (o + 1 + 1) (.int .i64 (q.2.2 : Int))
      refine ⟨_, _, hr, .inr ⟨g, o, cap, _, rfl, b3, hcm, hroom, by simpa using hcs, fun k u hu => ?_⟩, ?_, .inl rfl⟩
      · have h3 : o + 2 < cur.size := by omega
        match k, hu with
        | 0, hu =>
          cases hu
          rw [Array.getElem?_setIfInBounds_ne (by omega), Array.getElem?_setIfInBounds_ne (by omega)]
          exact Array.getElem?_setIfInBounds_self_of_lt (by omega)
        | 1, hu =>
          cases hu
          rw [Array.getElem?_setIfInBounds_ne (by omega)]
          exact Array.getElem?_setIfInBounds_self_of_lt (by rw [Array.size_setIfInBounds]; omega)
        | 2, hu =>
          cases hu
          exact Array.getElem?_setIfInBounds_self_of_lt (by rw [Array.size_setIfInBounds, Array.size_setIfInBounds]; omega)
      · have c1 := Chg.setCell W ⟨g, o, none⟩ (.int .i64 q.1)
        have c2 := Chg.setCell (W.setCell ⟨g, o, none⟩ (.int .i64 q.1)) ⟨g, o + 1, none⟩ (.int .i64 (q.2.1 : Int))
        have c3 := Chg.setCell ((W.setCell ⟨g, o, none⟩ (.int .i64 q.1)).setCell ⟨g, o + 1, none⟩ (.int .i64 (q.2.1 : Int))) ⟨g, o + 1 + 1, none⟩ (.int .i64 (q.2.2 : Int))
        exact ((c1.trans c2 fun _ _ e => e).trans c3 fun _ _ e => e).mono fun k _ e => by
          have e : k = g := e
          rw [e]
          rfl
    · obtain ⟨v', w', hr, h1, h2⟩ := run_append_arg_grows (P := Tryz.prog) W t ty 82 i z 3 24 ht hi hz hs hby hzs (by decide) ⟨g, o, none⟩ 0 cap [] rfl (fun k u hu => by simp at hu) ax 1 cx (waitV [q]) rfl hnews (by omega) (by decide) (by decide)
      refine ⟨v', w', hr, hrow (OwnR.of_kit h1), (Chg.of_grown h2).mono fun _ _ e => (by cases e), ?_⟩
      obtain ⟨g2, hg2⟩ : ∃ g2, v'.ownBlock = some g2 := by
        rcases (OwnR.of_kit h1).2 with ⟨-, h0⟩ | ⟨g2, cap2, cur2, e, -⟩
        · omega
        · exact ⟨g2, by rw [e]; rfl⟩
      exact .inr ⟨g2, hg2, OwnR.block_ge h1 hg2⟩
end
end Go.Proofs.YtngflpaooppmhaaGreat

namespace Go.Proofs.YtngflpaooppmhaaGreat
open Go.RowKit Go.Sat Go.Maps

section
variable {w w1 w2 : World} {r j d : Nat} {id : Int} {D D1 D' : DiskM} {M M1 M' : JouM} {s s' : RaS} {F F' : Nat → Prop}
set_option maxRecDepth 100000 in
set_option maxHeartbeats 4000000 in
theorem rasettles_calls (h : RaF w w1 r j d id D M s F) (hal : (M.grpIn M.entries.length).1 = [id]) {ctx : Int} {ix rd : Nat} (hq : s.wq = [(ctx, ix, rd)]) (hn : s.qs.length ≤ 1000000) :
    Calls Tryz.prog 33 #[.pointer (some ⟨r, 0, none⟩)] w1 fun e w' => e = .returned (.tuple #[]) ∧ RaF w w' r j d id D M { s with wq := [], qs := s.qs ++ [(ctx, ix)] } F ∧ Same F w1 w' := by
  have h1 := h.box (.cells #[.pointer (some ⟨r, 0, none⟩)] 29)
  have Hs1 := Lib.hid (fun k (hk : F k) => (below_one w1 (.cells #[.pointer (some ⟨r, 0, none⟩)] 29)).block k (h.flt hk))
  have Hbx := Lib.hid (cell_of (new_block w1 (.cells #[.pointer (some ⟨r, 0, none⟩)] 29)) (i := 0) rfl)
  have H1 := Lib.hid h1
  obtain ⟨ip, hip, hp0, hp1, hp2⟩ := info_parts (show (Tryz.prog.info? 49).map (fun i => (i.zero, i.size, i.bytes)) = some (some (.agg #[.int .i64 0, .int .i64 0, .bool false]), 3, 24) by kernel_rfl)
  clear h h1
  go_enter Tryz.func33, Tryz.ntmps33
  go_wp2_with fail
  generalize w1.alloc (.cells #[.pointer (some ⟨r, 0, none⟩)] 29) = W1 at *
  generalize w1.heap.size = b0 at *
  go_loopw [2] (fun _ wr => (RaF w wr r j d id D M s (fun k => F k ∨ k = b0) ∨ RaF w wr r j d id D M { s with wq := [], qs := s.qs ++ [(ctx, ix)] } (fun k => F k ∨ k = b0)) ∧ wr.cell? ⟨b0, 0, none⟩ = some (.pointer (some ⟨r, 0, none⟩)) ∧ ∀ k, F k → wr.heap[k]? = w1.heap[k]?) (fun _ wr => match wr.cell? ⟨r, 10, none⟩ with | some (.slice _ n _) => n | _ => 0)
  case atStart => exact ⟨.inl H1.out, Hbx.out, Hs1.out⟩
  case round =>
    clear H1 Hbx Hs1
    obtain ⟨hR, hbx, hs⟩ := hrel
    have Hb := Lib.hid hbx
    have Hs := Lib.hid hs
    clear hs
    rcases hR with hR | hR
    · have H := Lib.hid hR
      obtain ⟨wv, c10, hrow, hne, hput⟩ := hR.wait
      rw [hq] at hrow
      rcases hrow with ⟨-, h0⟩ | ⟨g, o, cap, cur, rfl, hg, hcm, hnc, hcs, hcell⟩
      · cases h0
      have d0 : wr.cell? ⟨g, o, none⟩ = some (.int .i64 ctx) := cell_of hg (hcell 0 _ rfl)
      have d1 : wr.cell? ⟨g, o + 1, none⟩ = some (.int .i64 (ix : Int)) := cell_of hg (hcell 1 _ rfl)
      have d2 : wr.cell? ⟨g, o + 2, none⟩ = some (.int .i64 (rd : Int)) := cell_of hg (hcell 2 _ rfl)
      clear hR hput hne hg hcs hcell
      have hq0 := new_block wr (.cells #[.int .i64 ctx, .int .i64 (ix : Int), .int .i64 (rd : Int)] 82)
      have hb1 := below_one wr (.cells #[.int .i64 ctx, .int .i64 (ix : Int), .int .i64 (rd : Int)] 82)
      have H1 := Lib.hid (H.out.box (.cells #[.int .i64 ctx, .int .i64 (ix : Int), .int .i64 (rd : Int)] 82))
      have Hb1 := Lib.hid (cell_next hb1 Hb.out)
      have Hq1 := Lib.hid hq0
      have Hs1 := Lib.hid (fun k (hk : F k) => (hb1.block k (H.out.flt (.inl hk))).trans (Hs.out k hk))
      have Hmz := Lib.hid (show (match wr.cell? ⟨r, 10, none⟩ with | some (.slice _ n _) => n | _ => 0) = 1 from by rw [c10]; rfl)
      clear hq0 hb1
      go_upto_region 3 with (fail)
      clear d0 d1 d2 c10 hbx H Hb Hs
      generalize wr.alloc (.cells #[.int .i64 ctx, .int .i64 (ix : Int), .int .i64 (rd : Int)] 82) = W2 at *
      generalize wr.heap.size = q0 at *
      have k0 := Hb1.out
      have Hmo := Lib.hid (ramostQ_calls (b := b0) (c := q0) H1.out hal fun W hb => settles1_calls (cell_next hb Hb1.out) (cell_next hb (H1.out.cell (i := 1) fun _ _ _ => rfl)))
      go_wp2_with fail
      refine Hmo.out.mono ?_
      rintro e w3 ⟨rfl, hb3⟩
      have H3 := Lib.hid (H1.out.next hb3)
      have Hb3 := Lib.hid (cell_next hb3 Hb1.out)
      have Hq3 := Lib.hid ((hb3.block q0 (lt_of_block Hq1.out)).trans Hq1.out)
      have Hs3 := Lib.hid (fun k (hk : F k) => (hb3.block k (H1.out.flt (.inl (.inl hk)))).trans (Hs1.out k hk))
      clear hb3 Hmo H1 Hb1 Hq1 Hs1 k0
      go_upto_region 4 with (fail)
      have H4 := Lib.hid (H3.out.next (below_drew w3))
      have Hb4 := Lib.hid (show w3.drew.cell? ⟨b0, 0, none⟩ = some (.pointer (some ⟨r, 0, none⟩)) from Hb3.out)
      have Hq4 := Lib.hid (show w3.drew.heap[q0]? = some (.cells #[.int .i64 ctx, .int .i64 (ix : Int), .int .i64 (rd : Int)] 82 (0, 0)) from Hq3.out)
      have Hs4 := Lib.hid (fun k (hk : F k) => show w3.drew.heap[k]? = w1.heap[k]? from Hs3.out k hk)
      obtain ⟨sv, c11, hown, hsne, hsput⟩ := H4.out.sett
      obtain ⟨ps, cs, rfl⟩ := OwnR.shape hown
      have Hown := Lib.hid hown
      have Hsput := Lib.hid hsput
      have Hsne := Lib.hid hsne
      generalize hnl : s.qs.length = n at *
      have Hnl := Lib.hid hnl
      have C11 := Lib.hid c11
      clear hown hsput hsne hnl c11 H3 Hb3 Hq3 Hs3
      refine g_start [14] (fun w' : World => w'.cell? ⟨b0, 0, none⟩ = some (.pointer (some ⟨r, 0, none⟩)) ∧ w'.cell? ⟨r, 11, none⟩ = some (.slice ps n cs) ∧ w'.heap[q0]? = some (.cells #[.int .i64 ctx, .int .i64 (ix : Int), .int .i64 (rd : Int)] 82 (0, 0))) (n := 15) (by kernel_rfl) rfl ⟨Hb4.out, C11.out, Hq4.out⟩ (fun hHeld => ?_)
      generalize w3.drew = W4 at *
      refine Gl [0,1,2,3,4,5,6,7,8,9] ?_
      iterate 10 (refine Gd rfl (by intro w hSw; have e0 := hSw.1; have e1 := hSw.2.1; have e2 := cell_of hSw.2.2 (i := 0) rfl; have e3 := cell_of hSw.2.2 (i := 1) rfl; have e4 := cell_of hSw.2.2 (i := 2) rfl; go_simp; try with_reducible rfl) ?_; simp only [Act.put, uA, uB, uC])
      refine Gn ?_
      have hb5 := below_one W4 (.cells #[.int .i64 ctx, .int .i64 (ix : Int), .bool true] 49)
      have Hlit := Lib.hid (holds_blk1 (new_block W4 (.cells #[.int .i64 ctx, .int .i64 (ix : Int), .bool true] 49)) (readsV [(ctx, ix)]) 3 1 1 rfl rfl)
      have Hown5 := Lib.hid (Hown.out.keep (w' := W4.alloc (.cells #[.int .i64 ctx, .int .i64 (ix : Int), .bool true] 49)) fun k hk => hb5.block k (OwnR.lt Hown.out hk))
      have Hb5 := Lib.hid (cell_next hb5 Hb4.out)
      have C5 := Lib.hid (cell_next hb5 C11.out)
      have Hq5 := Lib.hid ((hb5.block q0 (lt_of_block Hq4.out)).trans Hq4.out)
      have Hch5 := Lib.hid (Chg.alloc W4 (.cells #[.int .i64 ctx, .int .i64 (ix : Int), .bool true] 49))
      have Hz5 := Lib.hid hb5.size
      clear hb5 Hown hHeld
      refine g_one 10 rfl (by kernel_rfl) (by rfl) (fun K hK => ?_)
      go_wp2_with fail
      refine hK.out _ _ ⟨Hb5.out, C5.out, Hq5.out⟩ (fun hHeld => ?_)
      clear hK
      try simp only [Act.put, uA, uB, uC]
      refine g_one 11 rfl (by kernel_rfl) (by rfl) (fun K hK => ?_)
      refine wp_app (.tmp 23) (.tmp 29) 42 rfl 49 ip (.agg #[.int .i64 0, .int .i64 0, .bool false]) 3 24 Tryz.underlying42 hip hp0 hp1 hp2 rfl (by decide) (.slice ps n cs) n _ rfl Hown5.out (.slice (some ⟨W4.heap.size, 0, none⟩) 1 1) 1 _ rfl Hlit.out (by intro u hu; simp only [readsV, List.mem_cons, List.not_mem_nil, or_false] at hu; rcases hu with rfl | rfl | rfl <;> rfl) (by unfold maxLen; omega) (by omega) ?_
      intro v6 w6 hown6 hgrow hloc
      have hc6 : Chg (fun k => (Value.slice ps n cs).ownBlock = some k) W4 w6 := (Hch5.out.mono fun _ _ e => e.elim).trans ((Chg.of_grown hgrow).mono fun _ _ e => e.symm) fun _ _ e => e
      rw [← readsV_app] at hown6
      have H7 := Lib.hid (Hsput.out v6 w6 (s.qs ++ [(ctx, ix)]) (by rw [List.length_append, Hnl.out]; exact hown6) hc6 (hloc.imp (fun e => e) fun ⟨g, e, hge⟩ => ⟨g, e, Nat.le_trans Hz5.out hge⟩))
      have nb : (Value.slice ps n cs).ownBlock ≠ some b0 := fun e => (Hsne.out b0 e).2 (.inl (.inr rfl))
      have nq : (Value.slice ps n cs).ownBlock ≠ some q0 := fun e => (Hsne.out q0 e).2 (.inr rfl)
      have nr : (Value.slice ps n cs).ownBlock ≠ some r := fun e => (Hsne.out r e).1 rfl
      have Hb6 := Lib.hid (hc6.cell Hb4.out nb)
      have C6 := Lib.hid (hc6.cell C11.out nr)
      have Hq6 := Lib.hid ((hc6.block q0 (lt_of_block Hq4.out) nq).trans Hq4.out)
      have Hf6 := Lib.hid (show w6.frozen? ⟨r, 11, none⟩ = false from by
        obtain ⟨_, _, _, hcc⟩ := H4.out.cells
        exact frozen_of ((hc6.block r (lt_of_block hcc) nr).trans hcc) 11)
      have Hs6 := Lib.hid (fun k (hk : F k) => (hc6.block k (H4.out.flt (.inl (.inl hk))) fun e => (Hsne.out k e).2 (.inl (.inl hk))).trans (Hs4.out k hk))
      have Hbr := Lib.hid (show b0 ≠ r from H4.out.neF (.inl (.inr rfl)))
      have Hkr := Lib.hid (fun k (hk : F k) => (show k ≠ r from H4.out.neF (.inl (.inl hk))))
      obtain ⟨p6, c6, rfl⟩ := OwnR.shape hown6
      clear hown6 hgrow hloc hc6 nb nq nr Hown5 Hlit Hb5 C5 Hq5 Hch5 Hz5 Hsput Hsne Hb4 C11 Hq4 Hs4 H4 hHeld
      go_wp2_with fail
      refine hK.out _ _ ⟨Hb6.out, C6.out, Hq6.out⟩ (fun hHeld => ?_)
      clear hK
      try simp only [Act.put, uA, uB, uC]
      refine Gl [12,13] ?_
      iterate 2 (refine Gp rfl ?_; simp only [Act.put, uA, uB, uC])
      refine Gn ?_
      have k11 := C6.out
      have f11 := Hf6.out
      have H8 := Lib.hid (show RaF w (w6.setCell ⟨r, 11, none⟩ (.slice p6 (n + 1) c6)) r j d id D M { s with qs := s.qs ++ [(ctx, ix)] } (fun k => (F k ∨ k = b0) ∨ k = q0) from H7.out)
      have Hb8 := Lib.hid ((World.cell?_of_block (set_other (.slice p6 (n + 1) c6) Hbr.out)).trans Hb6.out : (w6.setCell ⟨r, 11, none⟩ (.slice p6 (n + 1) c6)).cell? ⟨b0, 0, none⟩ = _)
      have Hs8 := Lib.hid (fun k (hk : F k) => ((set_other (.slice p6 (n + 1) c6) (Hkr.out k hk) : (w6.setCell ⟨r, 11, none⟩ (.slice p6 (n + 1) c6)).heap[k]? = _)).trans (Hs6.out k hk))
      refine g_end 14 rfl (by kernel_rfl) (by rfl) (by kernel_rfl) (fun K hK => ?_)
      go_wp2_with fail
      refine hK.out _ _ ?_
      clear hK
      refine g_done (by kernel_rfl) ?_ _
      clear H7 Hb6 C6 Hq6 Hf6 Hs6 k11 f11 hHeld
      generalize w6.setCell ⟨r, 11, none⟩ (.slice p6 (n + 1) c6) = W8 at *
      go_upto_region 5 with (fail)
      have H9 := Lib.hid (H8.out.next (below_drew W8))
      have Hb9 := Lib.hid (show W8.drew.cell? ⟨b0, 0, none⟩ = some (.pointer (some ⟨r, 0, none⟩)) from Hb8.out)
      have Hs9 := Lib.hid (fun k (hk : F k) => show W8.drew.heap[k]? = w1.heap[k]? from Hs8.out k hk)
      clear H8 Hb8 Hs8
      obtain ⟨wv, c10, hrow, hne, hput⟩ := H9.out.wait
      have hq9 : ({ s with qs := s.qs ++ [(ctx, ix)] } : RaS).wq = [(ctx, ix, rd)] := hq
      rw [hq9] at hrow
      rcases hrow with ⟨-, h0⟩ | ⟨g, o, cap, cur, rfl, hg, hcm, hnc, hcs, hcell⟩
      · cases h0
      clear hcell
      have Hg := Lib.hid hg
      have Hput := Lib.hid hput
      have C10 := Lib.hid c10
      have hnc1 : 1 ≤ cap := hnc
      have Hcs := Lib.hid hcs
      clear hg hput hnc hcs c10 hne
      simp only [List.length_cons, List.length_nil, Nat.zero_add] at *
      refine g_start [8] (fun w' : World => w'.cell? ⟨b0, 0, none⟩ = some (.pointer (some ⟨r, 0, none⟩)) ∧ w'.cell? ⟨r, 10, none⟩ = some (.slice (some ⟨g, o, none⟩) 1 cap)) (n := 9) (by kernel_rfl) rfl ⟨Hb9.out, C10.out⟩ (fun hHeld => ?_)
      generalize W8.drew = W9 at *
      refine Gl [0,1,2,3,4] ?_
      iterate 5 (refine Gd rfl (by intro w hSw; have e0 := hSw.1; have e1 := hSw.2; go_simp; try with_reducible rfl) ?_; simp only [Act.put, uA, uB, uC])
      obtain ⟨iq, hiq, hq0, hq1, hq2⟩ := info_parts (show (Tryz.prog.info? 82).map (fun i => (i.zero, i.size, i.bytes)) = some (some (.agg #[.int .i64 0, .int .i64 0, .int .i64 0]), 3, 24) by kernel_rfl)
      obtain ⟨pz, hsl, hpz⟩ : ∃ pz, (∀ W, (Instr.slice 69 (.slice (some ⟨g, o, none⟩) 1 cap) (some (.int .i64 1)) none none).run Tryz.prog W = .ok (.slice pz 0 (cap - 1)) W) ∧ (pz = some ⟨g, o, none⟩ ∨ (pz = some ⟨g, o + 3, none⟩ ∧ 2 ≤ cap)) := by
        refine ⟨if cap - 1 = 0 then some ⟨g, o, none⟩ else (some ⟨g, o, none⟩ : Option Addr).map fun x => x.add (1 * iq.size), fun W => run_from_q W Tryz.underlying69 hiq (some ⟨g, o, none⟩) 1 cap 1 (by omega) hnc1, ?_⟩
        by_cases hz : cap - 1 = 0
        · exact .inl (if_pos hz)
        · refine .inr ⟨(if_neg hz).trans ?_, by omega⟩
          rw [hq1]
          show some ((⟨g, o, none⟩ : Addr).add (1 * 3)) = _
          unfold Addr.add
          split <;> simp_all
      have hrz : RowQ W9 (.slice pz 0 (cap - 1)) [] := by
        rcases hpz with rfl | ⟨rfl, h2⟩
        · exact .inr ⟨g, o, cap - 1, cur, rfl, Hg.out, by omega, Nat.zero_le _, by have := Hcs.out; omega, fun k u hu => by simp [waitV] at hu⟩
        · exact .inr ⟨g, o + 3, cap - 1, cur, rfl, Hg.out, by omega, Nat.zero_le _, by have := Hcs.out; omega, fun k u hu => by simp [waitV] at hu⟩
      have hoz : (Value.slice pz 0 (cap - 1)).ownBlock = (Value.slice (some ⟨g, o, none⟩) 1 cap).ownBlock := by rcases hpz with rfl | ⟨rfl, -⟩ <;> rfl
      have HA := Lib.hid (Hput.out (.slice pz 0 (cap - 1)) W9 [] hrz (Chg.refl _ _) (.inl hoz))
      have Hf9 := Lib.hid (H9.out.frozen 10)
      have Hbr9 := Lib.hid (show b0 ≠ r from H9.out.neF (.inl (.inr rfl)))
      have hnew : (W9.setCell ⟨r, 10, none⟩ (.slice pz 0 (cap - 1))).cell? ⟨r, 10, none⟩ = some (.slice pz 0 (cap - 1)) := by
        obtain ⟨_, _, _, hcc⟩ := H9.out.cells
        exact cell_of (set_block hcc 10 _) rfl
      have Hnew := Lib.hid hnew
      have HbA := Lib.hid ((World.cell?_of_block (set_other (.slice pz 0 (cap - 1)) Hbr9.out)).trans Hb9.out : (W9.setCell ⟨r, 10, none⟩ (.slice pz 0 (cap - 1))).cell? ⟨b0, 0, none⟩ = _)
      have HsA := Lib.hid (fun k (hk : F k) => ((set_other (.slice pz 0 (cap - 1)) (H9.out.neF (.inl (.inl hk))) : (W9.setCell ⟨r, 10, none⟩ (.slice pz 0 (cap - 1))).heap[k]? = _)).trans (Hs9.out k hk))
      clear hrz hoz hpz Hput Hg Hcs hnew hq0 hq1 hq2 hiq
      generalize cap - 1 = cz at *
      refine Gn ?_
      refine Gl [5] ?_
      refine Gd (v := .slice pz 0 cz) rfl (by intro w hSw; have e := hsl w; go_simp) ?_
      simp only [Act.put, uA, uB, uC]
      refine Gn ?_
      refine Gl [6,7] ?_
      iterate 2 (refine Gp rfl ?_; simp only [Act.put, uA, uB, uC])
      refine Gn ?_
      have k10 := C10.out
      have f10 := Hf9.out
      clear hsl
      refine g_end 8 rfl (by kernel_rfl) (by rfl) (by kernel_rfl) (fun K hK => ?_)
      go_wp2_with fail
      refine hK.out _ _ ?_
      clear hK
      refine g_done (by kernel_rfl) ?_ _
      clear H9 Hb9 Hs9 k10 f10 hHeld C10
      go_wp2_with fail
      go_roundw
      case rel => exact ⟨.inr (HA.out.less fun k hk => .inl hk), HbA.out, HsA.out⟩
      case measure =>
        have h1 := Hmz.out
        have h2 := Hnew.out
        rw [h1, h2]
        exact Nat.zero_lt_one
    · obtain ⟨wv, c10, hrow, -, -⟩ := hR.wait
      have HE := Lib.hid (And.intro (hR.less (F' := F) fun k hk => .inl hk) Hs.out)
      have hl0 : ∃ p c, wv = .slice p 0 c := by
        rcases hrow with ⟨rfl, -⟩ | ⟨g, o, cap, cur, rfl, -⟩
        · exact ⟨_, _, rfl⟩
        · exact ⟨_, _, rfl⟩
      obtain ⟨p, c, rfl⟩ := hl0
      clear hrow hR Hs
      go_wp2_with fail
      go_end0
      exact ⟨rfl, HE.out⟩
end
end Go.Proofs.YtngflpaooppmhaaGreat

namespace Go.Proofs.YtngflpaooppmhaaGreat
open Go.RowKit Go.Sat Go.Maps

theorem wp_appq {o : Oper} {K : Act → World → Prop} {Q : Exit → Act → World → Prop} {a : Act} {W : World} (s x : Operand) (t : TypeId)
    (ho : o.op = .call { callee := .builtin .append, args := #[s, x], argTypes := #[t, t] })
    {i : TypeInfo} {z : Value} (ht : Tryz.prog.underlying t = some (.slice 82)) (hi : Tryz.prog.info? 82 = some i) (hz : i.zero = some z) (hsi : i.size = 3) (hby : i.bytes = 24) (hzs : z.cells.size = 3)
    (v : Value) (hs : a.eval s = v) (hr : RowQ W v []) (xv : Value) (q : Int × Nat × Nat) (hxv : a.eval x = xv) (hx : Holds W 3 xv 1 (waitV [q]))
    (h : ∀ v' w', RowQ w' v' [q] → Chg (fun k => v.ownBlock = some k) W w' → (v'.ownBlock = v.ownBlock ∨ ∃ g, v'.ownBlock = some g ∧ W.heap.size ≤ g) → K (a.put o.dst v') w') : Oper.wp Tryz.prog o a W K Q := by
  obtain ⟨v', w', hrun, h2, h3, h4⟩ := run_appq (t := t) (ty := o.type) ht hi hz hsi hby hzs hr hx
  unfold Oper.wp execOp
  simp only [ho, resolve, invoke, builtin, Sem.run_bind, Sem.run_pure, Result.andThen_ok, List.map_toArray, List.map_cons, List.map_nil, hs, hxv, hrun]
  exact h v' w' h2 h3 h4

section
variable {w w1 w2 : World} {r j d : Nat} {id : Int} {D D1 D' : DiskM} {M M1 M' : JouM} {s s' : RaS} {F F' : Nat → Prop}
set_option maxRecDepth 100000 in
set_option maxHeartbeats 4000000 in
theorem raask_calls (h : RaF w w1 r j d id D M s F) (hal : (M.grpIn M.entries.length).1 = [id]) (hr : s.role = 2) (hwq : s.wq = []) (hqs : s.qs.length ≤ 1000000) (hl : M.last ≤ 1099511627776) (hcm : s.commit ≤ M.last) (ht : M.termAt (s.commit : Int) = some M.now) (hrd : s.round ≤ 1099511627776) (ctx : Int) :
    Calls Tryz.prog 10 #[.pointer (some ⟨r, 0, none⟩), .int .i64 ctx] w1 fun e w' => e = .returned (.tuple #[.slice none 0 0, .int .i64 0]) ∧ RaF w w' r j d id D M { s with round := s.round + 1, qs := s.qs ++ [(ctx, s.commit)] } F ∧ Same F w1 w' := by
  have hm := ramay_calls h (.inr hr)
  rw [if_pos hr] at hm
  have Hm := Lib.hid hm
  have Hfr := Lib.hid (rafresh_calls h hl hcm ht)
  have H := Lib.hid h
  obtain ⟨iq, hiq, hq0, hq1, hq2⟩ := info_parts (show (Tryz.prog.info? 82).map (fun i => (i.zero, i.size, i.bytes)) = some (some (.agg #[.int .i64 0, .int .i64 0, .int .i64 0]), 3, 24) by kernel_rfl)
  obtain ⟨rd, hrd1⟩ : ∃ rd, s.round + 1 = rd := ⟨_, rfl⟩
  obtain ⟨cm, hcm1⟩ : ∃ cm, s.commit = cm := ⟨_, rfl⟩
  rw [hrd1, hcm1]
  have Hcm1 := Lib.hid hcm1
  have hwr : IntKind.i64.wrap ((s.round : Int) + 1) = (rd : Int) := by rw [← hrd1]; exact IntWalk.i64_in _ (by omega)
  clear h hm
  go_enter Tryz.func10, Tryz.ntmps10
  go_wp2_with fail
  refine Hm.out.mono ?_
  rintro e w2 ⟨rfl, rfl⟩
  go_wp2_with fail
  refine Hfr.out.mono ?_
  rintro e w3 ⟨rfl, hb3⟩
  have H3 := Lib.hid (H.out.next hb3)
  have Hs3 := Lib.hid (fun k (hk : F k) => hb3.block k (H.out.flt hk))
  clear hb3 Hfr Hm H
  have k9 := H3.out.cell (i := 9) (v := .int .i64 (s.round : Int)) fun _ _ _ => rfl
  have f9 := H3.out.frozen 9
  have H4 := Lib.hid (H3.out.set 9 (.int .i64 (rd : Int)) (s' := { s with round := rd }) (fun pv wv sv => ⟨pv, rfl⟩) rfl)
  have Hs4 := Lib.hid (fun k (hk : F k) => (H3.out.same_set 9 (.int .i64 (rd : Int)) k hk).trans (Hs3.out k hk))
  clear H3 Hs3
  generalize hrz : (s.round : Int) = rz at *
  go_upto_region 7 with (fail)
  clear k9 f9 hwr
  generalize w3.setCell ⟨r, 9, none⟩ (.int .i64 (rd : Int)) = W4 at *
  have H5 := Lib.hid (H4.out.next (below_drew W4))
  have Hs5 := Lib.hid (fun k (hk : F k) => show W4.drew.heap[k]? = w2.heap[k]? from Hs4.out k hk)
  clear H4 Hs4
  obtain ⟨wv, c10, hrow, hne, hput⟩ := H5.out.wait
  have hwq5 : ({ s with round := rd } : RaS).wq = [] := hwq
  rw [hwq5] at hrow
  have hl0 : ∃ p c, wv = .slice p 0 c := by
    rcases hrow with ⟨rfl, -⟩ | ⟨g, o, cap, cur, rfl, -⟩
    · exact ⟨_, _, rfl⟩
    · exact ⟨_, _, rfl⟩
  obtain ⟨pw, cw, rfl⟩ := hl0
  have Hrow := Lib.hid hrow
  have Hput := Lib.hid hput
  have Hne := Lib.hid hne
  have C10 := Lib.hid c10
  have C4 := Lib.hid (H5.out.cell (i := 4) (v := .int .i64 (cm : Int)) fun _ _ _ => (by rw [← hcm1]; rfl))
  have C9 := Lib.hid (H5.out.cell (i := 9) (v := .int .i64 (rd : Int)) fun _ _ _ => rfl)
  clear hrow hput hne c10 hcm1
  refine g_start [19] (fun w' : World => w'.cell? ⟨r, 10, none⟩ = some (.slice pw 0 cw) ∧ w'.cell? ⟨r, 4, none⟩ = some (.int .i64 (cm : Int)) ∧ w'.cell? ⟨r, 9, none⟩ = some (.int .i64 (rd : Int))) (n := 20) (by kernel_rfl) rfl ⟨C10.out, C4.out, C9.out⟩ (fun hHeld => ?_)
  generalize W4.drew = W5 at *
  refine Gl [0,1,2,3,4,5,6,7,8,9,10,11,12,13,14] ?_
  iterate 15 (refine Gd rfl (by intro w hSw; have e0 := hSw.1; have e1 := hSw.2.1; have e2 := hSw.2.2; go_simp; try with_reducible rfl) ?_; simp only [Act.put, uA, uB, uC])
  refine Gn ?_
  have hb6 := below_one W5 (.cells #[.int .i64 ctx, .int .i64 (cm : Int), .int .i64 (rd : Int)] 82)
  have Hlit := Lib.hid (holds_blk1 (new_block W5 (.cells #[.int .i64 ctx, .int .i64 (cm : Int), .int .i64 (rd : Int)] 82)) (waitV [(ctx, cm, rd)]) 3 1 1 rfl rfl)
  have Hrow6 := Lib.hid (Hrow.out.keep (w' := W5.alloc (.cells #[.int .i64 ctx, .int .i64 (cm : Int), .int .i64 (rd : Int)] 82)) fun k hk => hb6.block k (Hrow.out.lt hk))
  have K6 := Lib.hid (And.intro (cell_next hb6 C10.out) (And.intro (cell_next hb6 C4.out) (cell_next hb6 C9.out)))
  have Hch6 := Lib.hid (Chg.alloc W5 (.cells #[.int .i64 ctx, .int .i64 (cm : Int), .int .i64 (rd : Int)] 82))
  have Hz6 := Lib.hid hb6.size
  clear hb6 Hrow hHeld
  refine g_one 15 rfl (by kernel_rfl) (by rfl) (fun K hK => ?_)
  go_wp2_with fail
  refine hK.out _ _ K6.out (fun hHeld => ?_)
  clear hK
  try simp only [Act.put, uA, uB, uC]
  refine g_one 16 rfl (by kernel_rfl) (by rfl) (fun K hK => ?_)
  refine wp_appq (.tmp 26) (.tmp 37) 69 rfl Tryz.underlying69 hiq hq0 hq1 hq2 rfl (.slice pw 0 cw) rfl Hrow6.out (.slice (some ⟨W5.heap.size, 0, none⟩) 1 1) (ctx, cm, rd) rfl Hlit.out ?_
  intro v7 w7 hrow7 hc7 hloc
  have hc := (Hch6.out.mono fun _ _ e => e.elim).trans hc7 fun _ _ e => e
  have H8 := Lib.hid (Hput.out v7 w7 [(ctx, cm, rd)] hrow7 hc (hloc.imp (fun e => e) fun ⟨g, e, hge⟩ => ⟨g, e, Nat.le_trans Hz6.out hge⟩))
  have nr : (Value.slice pw 0 cw).ownBlock ≠ some r := fun e => (Hne.out r e).1 rfl
  have K7 := Lib.hid (And.intro (hc.cell C10.out nr) (And.intro (hc.cell C4.out nr) (hc.cell C9.out nr)))
  have Hf7 := Lib.hid (show w7.frozen? ⟨r, 10, none⟩ = false from by
    obtain ⟨_, _, _, hcc⟩ := H5.out.cells
    exact frozen_of ((hc.block r (lt_of_block hcc) nr).trans hcc) 10)
  have Hs7 := Lib.hid (fun k (hk : F k) => (hc.block k (H5.out.flt hk) fun e => (Hne.out k e).2 hk).trans (Hs5.out k hk))
  have Hkr := Lib.hid (fun k (hk : F k) => (show k ≠ r from H5.out.neF hk))
  have hl1 : ∃ p c, v7 = .slice p 1 c := by
    rcases hrow7 with ⟨-, h0⟩ | ⟨g, o, cap, cur, rfl, -⟩
    · cases h0
    · exact ⟨_, _, rfl⟩
  obtain ⟨p7, c7, rfl⟩ := hl1
  clear hrow7 hc7 hloc hc nr Hput Hne Hrow6 Hlit K6 Hch6 Hz6 C10 C4 C9 H5 Hs5 hHeld
  go_wp2_with fail
  refine hK.out _ _ K7.out (fun hHeld => ?_)
  clear hK
  try simp only [Act.put, uA, uB, uC]
  refine Gl [17,18] ?_
  iterate 2 (refine Gp rfl ?_; simp only [Act.put, uA, uB, uC])
  refine Gn ?_
  have k10 := K7.out.1
  have f10 := Hf7.out
  have Hs8 := Lib.hid (fun k (hk : F k) => ((set_other (.slice p7 1 c7) (Hkr.out k hk) : (w7.setCell ⟨r, 10, none⟩ (.slice p7 1 c7)).heap[k]? = _)).trans (Hs7.out k hk))
  refine g_end 19 rfl (by kernel_rfl) (by rfl) (by kernel_rfl) (fun K hK => ?_)
  go_wp2_with fail
  refine hK.out _ _ ?_
  clear hK
  refine g_done (by kernel_rfl) ?_ _
  clear K7 Hf7 Hs7 k10 f10 hHeld Hkr
  generalize w7.setCell ⟨r, 10, none⟩ (.slice p7 1 c7) = W8 at *
  have Hse := Lib.hid (rasettles_calls H8.out hal rfl hqs)
  go_wp2_with fail
  refine Hse.out.mono ?_
  rintro e w9 ⟨rfl, h9, hs9⟩
  have H9 := Lib.hid h9
  have Hs9 := Lib.hid (fun k (hk : F k) => (hs9 k hk).trans (Hs8.out k hk))
  have Hsd := Lib.hid (rasendsAll_calls h9 hal hr)
  clear h9 hs9 Hse H8 Hs8
  go_wp2_with fail
  refine Hsd.out.mono ?_
  rintro e wA ⟨rfl, hbA⟩
  have HA := Lib.hid (H9.out.next hbA)
  have HsA := Lib.hid (fun k (hk : F k) => (hbA.block k (H9.out.flt hk)).trans (Hs9.out k hk))
  have Hst := Lib.hid (rasent_calls HA.out)
  clear hbA Hsd H9 Hs9
  go_wp2_with fail
  refine Hst.out.mono ?_
  rintro e wB ⟨rfl, hB, hsB⟩
  have HE := Lib.hid (show RaF w wB r j d id D M { s with commit := cm, round := rd, qs := s.qs ++ [(ctx, cm)] } F ∧ Same F w2 wB from ⟨by
    have he : ({ s with commit := cm, round := rd, qs := s.qs ++ [(ctx, cm)] } : RaS) = { s with round := rd, qs := s.qs ++ [(ctx, cm)], wq := [] } := by rw [← hwq, ← Hcm1.out]
    rw [he]
    exact hB, fun k hk => (hsB k hk).trans (HsA.out k hk)⟩)
  clear hB hsB Hst HA HsA
  go_wp2_with fail
  go_ret2
  exact ⟨rfl, HE.out⟩
end
end Go.Proofs.YtngflpaooppmhaaGreat

namespace Go.Proofs.YtngflpaooppmhaaGreat
open Go.RowKit Go.Sat Go.Maps

section
variable {w w1 w2 : World} {j d : Nat} {pre : ByteArray} {D : DiskM} {M : JouM} {F F2 : Nat → Prop}

theorem open_bad {D' : DiskM} {M' : JouM} {k : Nat} {r : DiskM × Nat × JouM} (h : St w w2 d D' F) (hs : Same F w1 w2) (hr : r = (D', k, M')) (hk : k ≠ 0) : OpenJTold w w1 d pre F r (.returned (.tuple #[.pointer none, .int .i64 (k : Int)])) w2 := by
  subst hr
  exact ⟨h, hs, .inr ⟨hk, rfl⟩⟩
theorem open_good {D' : DiskM} {M' : JouM} {r : DiskM × Nat × JouM} (h : JouF w w2 j d pre D' M' F) (hs : Same F w1 w2) (hr : r = (D', 0, M')) : OpenJTold w w1 d pre F r (.returned (.tuple #[.pointer (some ⟨j, 0, none⟩), .int .i64 0])) w2 := by
  subst hr
  exact ⟨h.stF, hs, .inl ⟨rfl, j, rfl, h⟩⟩

/-- The data is laid into the journal's cell. -/
theorem jou_data (h : JouF w w1 j d pre D M F) {dv : Value} {b : Bs} (hd : OwnB w1 5 dv b) (hF : ∀ k, dv.ownBlock = some k → F k ∧ w.heap.size ≤ k) (hF2 : ∀ k, F2 k → F k ∧ dv.ownBlock ≠ some k) (hb : b.length ≤ 1073741824) :
    JouF w (w1.setCell ⟨j, 7, none⟩ dv) j d pre D { M with data := b } F2 ∧ Same F2 w1 (w1.setCell ⟨j, 7, none⟩ dv) := by
  obtain ⟨own, gv, dv0, ev, vs, hJ, hS, hn, hl⟩ := h
  have hnd : ∀ k, dv.ownBlock = some k → ¬ own k := fun k hk ho => (hn k ho).2 (hF k hk).1
  have hs : ∀ k, k ≠ j → (w1.setCell ⟨j, 7, none⟩ dv).heap[k]? = w1.heap[k]? := fun k hk => set_other _ hk
  have hdj : ∀ k, dv.ownBlock = some k → k ≠ j := fun k hk e => hnd k hk (e ▸ hJ.ol)
  refine JouF.turned2 (M' := { M with data := b }) (own' := fun k => own k ∨ dv.ownBlock = some k) (gv' := gv) (dv' := dv) (ev' := ev) (vs' := vs) hS hn hl ⟨?_, OwnR.keep hJ.group fun k hk => hs k (hJ.og k hk).2.1, OwnR.keep hd fun k hk => hs k (hdj k hk), hJ.row.keep fun k hk => hs k (hJ.oe k hk).2, ⟨hJ.rows.1, fun i e v h1 h2 => (hJ.rows.2 i e v h1 h2).keep fun k hk => hs k (hJ.ov v (List.mem_of_getElem? h2) k hk).2.1⟩, .inl hJ.ol, fun k hk => ⟨.inl (hJ.og k hk).1, (hJ.og k hk).2⟩, fun k hk => ⟨.inr hk, hdj k hk, fun e => hnd k hk (hJ.oe k e).1⟩, fun k hk => ⟨.inl (hJ.oe k hk).1, (hJ.oe k hk).2⟩, fun u hu k hk => ⟨.inl (hJ.ov u hu k hk).1, (hJ.ov u hu k hk).2⟩, fun k hk => ?_, hJ.psz, ⟨hJ.ok.last, hJ.ok.term, hJ.ok.group, hJ.ok.now, hJ.ok.vote, hb, hJ.ok.ents⟩⟩ ((Chg.setCell w1 ⟨j, 7, none⟩ dv).mono fun x _ e => by rw [e]; exact hJ.ol) (fun k hk => ?_) fun k hk => ⟨(hF2 k hk).1, fun ho => ?_⟩
  · have h1 := set_block hJ.cells 7 dv
    simpa using h1
  · have : k < w1.heap.size := hk.elim (hJ.olt k) fun h => OwnR.lt hd h
    simpa [World.setCell] using this
  · exact hk.imp id fun h => .inr (hF k h)
  · rcases ho with ho | ho
    · exact (hn k ho).2 (hF2 k hk).1
    · exact (hF2 k hk).2 ho

set_option maxRecDepth 100000 in
set_option maxHeartbeats 32000000 in
theorem jopen_calls (h : St w w1 d D F) (hroom : D.room ≤ 1048576) (pre : ByteArray) {nodes : List Int} {pn : Option Addr} {nn cn : Nat} (hx : HasI w1 (.slice pn nn cn) nodes) (hnl : nodes.length ≤ 1099511627776) :
    Calls Tryz.prog 21 #[.pointer (some ⟨d, 0, none⟩), .string pre, .slice pn nn cn] w1 (OpenJTold w w1 d pre F (jouOpen D (nm pre) nodes)) := by
  have hsz : (nm pre).length = pre.size := nm_len pre
  have Hgr := Lib.hid (isgrp_calls hx hnl)
  by_cases hp : pre.size < 1 ∨ 20 < pre.size
  · have HE := Lib.hid (open_bad (pre := pre) (k := 1) h (fun _ _ => rfl) (oj_arg (pre := nm pre) (nodes := nodes) (by rw [hsz]; exact hp.elim .inl fun h => .inr (.inl h))) (by decide))
    clear h hsz hx
    generalize hzz : pre.size = z at *
    by_cases hz : z < 1
    · have hz0 : z = 0 := by omega
      subst hz0
      go_enter Tryz.func21, Tryz.ntmps21
      go_wp2_with fail
      go_ret2
      exact HE.out
    · have hz6 : 20 < z := by omega
      go_enter Tryz.func21, Tryz.ntmps21
      go_wp2_with fail
      go_ret2
      exact HE.out
  · cases hgg : isGrp nodes with
    | false =>
      rw [hgg] at Hgr
      have HE := Lib.hid (open_bad (pre := pre) (k := 1) h (fun _ _ => rfl) (oj_arg (pre := nm pre) (nodes := nodes) (.inr (.inr hgg))) (by decide))
      clear h hsz hx hgg
      generalize hzz : pre.size = z at *
      go_enter Tryz.func21, Tryz.ntmps21
      go_wp2_with fail
      refine Hgr.out.mono ?_
      rintro e w2 ⟨rfl, rfl⟩
      go_wp2_with fail
      go_ret2
      exact HE.out
    | true =>
      rw [hgg] at Hgr
      have hps : 1 ≤ pre.size ∧ pre.size ≤ 20 := by omega
      have hok : ¬ ((nm pre).length < 1 ∨ 20 < (nm pre).length ∨ isGrp nodes = false) := by
        rw [hsz]
        rintro (h | h | h)
        · omega
        · omega
        · rw [hgg] at h
          cases h
      obtain ⟨O⟩ := opensJ_of D (nm pre) nodes
      have hrm1 := rid1_room D (shadowN (logN (nm pre)))
      rw [O.h1] at hrm1
      have hrm2 := rid1_room O.D1 (shadowN (snpN (nm pre)))
      rw [O.h2] at hrm2
      have Hrm := Lib.hid (show O.D2.room ≤ 1048576 by have h1 : O.D1.room = D.room := hrm1; have h2 : O.D2.room = O.D1.room := hrm2; omega)
      have Hh1 := Lib.hid O.h1
      have Hh2 := Lib.hid O.h2
      have Hhs := Lib.hid O.hs
      have Hhl := Lib.hid O.hl
      have HE1 := Lib.hid (oj_e1 O hok)
      have HE2 := Lib.hid (oj_e2 O hok)
      have HE3 := Lib.hid (oj_e3 O hok)
      have HE4 := Lib.hid (oj_e4 O hok)
      have HNo := Lib.hid (oj_no O hok)
      have HKp := Lib.hid (fun M => oj_keep O hok (M := M))
      have HAn := Lib.hid (fun M => oj_anew O hok (M := M))
      clear hrm1 hrm2
      generalize O.D1 = D1 at *
      generalize O.e1 = e1 at *
      generalize O.D2 = D2 at *
      generalize O.e2 = e2 at *
      generalize O.s = sn at *
      generalize O.l = li at *
      clear O
      obtain ⟨ks, so⟩ := sn
      obtain ⟨D3, e3, a3, M3⟩ := li
      have HE3 := Lib.hid (show e1 = 0 → e2 = 0 → ks ≠ 0 → jouOpen D (nm pre) nodes = (D2, ks, JouM.none0 nodes) from HE3.out)
      have HE4 := Lib.hid (show e1 = 0 → e2 = 0 → ks = 0 → e3 ≠ 0 → jouOpen D (nm pre) nodes = (D3, e3, JouM.none0 nodes) from HE4.out)
      have HNo := Lib.hid (show e1 = 0 → e2 = 0 → ks = 0 → e3 = 0 → joins so M3 a3 = none → jouOpen D (nm pre) nodes = (D3, 3, JouM.none0 nodes) from HNo.out)
      have HKp := Lib.hid (show ∀ M, e1 = 0 → e2 = 0 → ks = 0 → e3 = 0 → joins so M3 a3 = some (false, M) → jouOpen D (nm pre) nodes = (D3, 0, M) from HKp.out)
      have HAn := Lib.hid (show ∀ M, e1 = 0 → e2 = 0 → ks = 0 → e3 = 0 → joins so M3 a3 = some (true, M) → jouOpen D (nm pre) nodes = ((writesJ D3 (nm pre) M).1, (writesJ D3 (nm pre) M).2, M) from HAn.out)
      have Hcl := Lib.hid (icl_calls hx hnl)
      have HS := Lib.hid h
      have hpz1 := hps.1
      have hpz2 := hps.2
      have hsl : (sLog pre).size = pre.size + 4 := size_log pre
      have hssn : (sSnp pre).size = pre.size + 5 := size_snp pre
      have Hgg := Lib.hid hgg
      have i0 : ∀ (W : World) (a b : ByteArray), (Instr.index 108 (.agg #[.string a, .string b]) (.int .i64 0)).run Tryz.prog W = .ok (.string a) W := fun _ _ _ => by kernel_rfl
      have i1 : ∀ (W : World) (a b : ByteArray), (Instr.index 108 (.agg #[.string a, .string b]) (.int .i64 1)).run Tryz.prog W = .ok (.string b) W := fun _ _ _ => by kernel_rfl
      clear h hsz hx hgg hok hp
      go_enter Tryz.func21, Tryz.ntmps21
      go_wp2_with fail
      refine Hgr.out.mono ?_
      rintro e w2 ⟨rfl, rfl⟩
      go_wp2_with fail
      refine Hcl.out.mono ?_
      rintro e w3 ⟨gv, rfl, hgv, hgn, hb3⟩
      obtain ⟨pg, cg, rfl, -⟩ := own_capI hgv
      have HJ0 := Lib.hid (jou_fresh (F := F) (HS.out.move (F' := fun k => F k ∨ (Value.slice pg nodes.length cg).ownBlock = some k) (Chg.of_below hb3) (fun _ _ h => h.elim) fun k hk => hk.elim (fun h => ⟨.inl h, Nat.lt_of_lt_of_le (HS.out.flt h) hb3.size⟩) fun h => ⟨.inr (hgn k h), OwnR.lt hgv h⟩) pre hps Hgg.out hgv fun k hk => ⟨Nat.le_trans HS.out.below.size (hgn k hk), fun hf => by have h1 := HS.out.flt hf; have h2 := hgn k hk; omega⟩)
      have HS0 := Lib.hid (show Same F w2 (w3.alloc (.cells #[.int .i64 0, .int .i64 0, .slice pg nodes.length cg, .pointer (some ⟨d, 0, none⟩), .string pre, .int .i64 0, .int .i64 (-1), .slice none 0 0, .slice none 0 0, .bool false] 107)) from fun k hk => ((below_one w3 (.cells #[.int .i64 0, .int .i64 0, .slice pg nodes.length cg, .pointer (some ⟨d, 0, none⟩), .string pre, .int .i64 0, .int .i64 (-1), .slice none 0 0, .slice none 0 0, .bool false] 107)).block k (Nat.lt_of_lt_of_le (HS.out.flt hk) hb3.size)).trans (hb3.block k (HS.out.flt hk)))
      clear hgv hgn hb3 Hcl Hgr HS
      generalize hw1 : w2 = w1 at *
      clear hw1
      go_wp2_with fail
      generalize w3.heap.size = j at *
      generalize w3.alloc (.cells #[.int .i64 0, .int .i64 0, .slice pg nodes.length cg, .pointer (some ⟨d, 0, none⟩), .string pre, .int .i64 0, .int .i64 (-1), .slice none 0 0, .slice none 0 0, .bool false] 107) = W0 at *
      go_loopw [51] (fun x wr => Same F w1 wr ∧ ((x = .int .i64 0 ∧ JouF w wr j d pre D (JouM.none0 nodes) F) ∨ (x = .int .i64 1 ∧ e1 = 0 ∧ JouF w wr j d pre D1 (JouM.none0 nodes) F) ∨ (x = .int .i64 2 ∧ e1 = 0 ∧ e2 = 0 ∧ JouF w wr j d pre D2 (JouM.none0 nodes) F))) (fun i _ => 2 - (intOf i).toNat)
      case atStart => exact ⟨HS0.out, .inl ⟨rfl, HJ0.out⟩⟩
      case round =>
        clear HJ0 HS0
        obtain ⟨hsm, hx⟩ := hrel
        rcases hx with ⟨rfl, hJ⟩ | ⟨rfl, he1, hJ⟩ | ⟨rfl, he1, he2, hJ⟩
        · have Hrd := Lib.hid (jou_read hJ (sShadow (sLog pre)) (by rw [size_sha, hsl]; omega))
          rw [nm_sha, nm_log] at Hrd
          have HJw := Lib.hid hJ
          have HSw := Lib.hid hsm
          cases hg : Sat.get (shadowN (logN (nm pre))) D.files with
          | none =>
            have hr : D.rid1 (shadowN (logN (nm pre))) = (D, 0) := by unfold DiskM.rid1; rw [hg]; rfl
            have hr2 := Hh1.out
            rw [hr] at hr2
            have hr3 : D = D1 := congrArg Prod.fst hr2
            have hr4 : 0 = e1 := congrArg Prod.snd hr2
            have hr7 : readE (none : Option FileM) = 7 := rfl
            rw [hg, hr7] at Hrd
            have He0 := Lib.hid (show e1 = 0 from hr4.symm)
            have HJn := Lib.hid (show JouF w wr j d pre D1 (JouM.none0 nodes) F from hr3 ▸ HJw.out)
            clear hJ hsm hg hr hr2 hr3 hr4 hr7
            go_wp2_with fail
            refine Hrd.out.mono ?_
            rintro e w3 ⟨v3, rfl, -, -, hb3⟩
            have HE := Lib.hid (And.intro (HSw.out.trans (HJw.out.same hb3)) (HJn.out.next hb3))
            clear hb3 Hrd
            go_wp2_with fail
            go_roundw
            case rel => first | exact ⟨HE.out.1, .inr (.inl ⟨rfl, He0.out, HE.out.2⟩)⟩ | ((repeat apply Exists.intro); exact ⟨⟨HE.out.1, .inr (.inl ⟨rfl, He0.out, HE.out.2⟩)⟩, rfl⟩)
            case measure => simp [intOf]
          | some f =>
            have hr : D.remove [shadowN (logN (nm pre))] = (D1, e1) := by
              have := Hh1.out
              unfold DiskM.rid1 at this
              rw [hg] at this
              exact this
            have hr0 : readE (some f) = 0 := rfl
            rw [hg, hr0] at Hrd
            have Hrm := Lib.hid (fun W (h : JouF w W j d pre D (JouM.none0 nodes) F) => show Calls Tryz.prog 55 #[.pointer (some ⟨d, 0, none⟩), .slice (some ⟨W.heap.size, 0, none⟩) 1 1] (W.alloc (.cells #[.string (sShadow (sLog pre))] 9)) fun e w' => e = .returned (.int .i64 (e1 : Int)) ∧ JouF w w' j d pre D1 (JouM.none0 nodes) F ∧ Same F W w' ∧ w'.heap[j]? = W.heap[j]? from by
              have := jou_remove h (sShadow (sLog pre)) (by rw [size_sha, hsl]; omega)
              rwa [nm_sha, nm_log, hr] at this)
            clear hJ hsm hg hr hr0
            by_cases he : e1 = 0
            · have He0 := Lib.hid he
              rw [he] at Hrm
              clear he
              go_wp2_with fail
              refine Hrd.out.mono ?_
              rintro e w3 ⟨v3, rfl, -, -, hb3⟩
              have HJ3 := Lib.hid (HJw.out.next hb3)
              have HS3 := Lib.hid (HSw.out.trans (HJw.out.same hb3))
              clear hb3 Hrd
              go_wp2_with fail
              refine (Hrm.out w3 HJ3.out).mono ?_
              rintro e w4 ⟨rfl, hj4, hs4, -⟩
              have HE := Lib.hid (And.intro (HS3.out.trans hs4) hj4)
              clear hj4 hs4 Hrm
              go_wp2_with fail
              go_roundw
              case rel => first | exact ⟨HE.out.1, .inr (.inl ⟨rfl, He0.out, HE.out.2⟩)⟩ | ((repeat apply Exists.intro); exact ⟨⟨HE.out.1, .inr (.inl ⟨rfl, He0.out, HE.out.2⟩)⟩, rfl⟩)
              case measure => simp [intOf]
            · have hne : ((e1 : Int) != 0) = true := by simp; omega
              have HR := Lib.hid (HE1.out he)
              have He := Lib.hid he
              clear he
              go_wp2_with fail
              refine Hrd.out.mono ?_
              rintro e w3 ⟨v3, rfl, -, -, hb3⟩
              have HJ3 := Lib.hid (HJw.out.next hb3)
              have HS3 := Lib.hid (HSw.out.trans (HJw.out.same hb3))
              clear hb3 Hrd
              go_wp2_with fail
              refine (Hrm.out w3 HJ3.out).mono ?_
              rintro e w4 ⟨rfl, hj4, hs4, -⟩
              have HE := Lib.hid (open_bad (pre := pre) (w1 := w1) hj4.stF (HS3.out.trans hs4) HR.out He.out)
              clear hj4 hs4 Hrm
              go_wp2_with fail
              go_ret2
              exact HE.out
        · have He1 := Lib.hid he1
          clear he1
          have Hrd := Lib.hid (jou_read hJ (sShadow (sSnp pre)) (by rw [size_sha, hssn]; omega))
          rw [nm_sha, nm_snp] at Hrd
          have HJw := Lib.hid hJ
          have HSw := Lib.hid hsm
          cases hg : Sat.get (shadowN (snpN (nm pre))) D1.files with
          | none =>
            have hr : D1.rid1 (shadowN (snpN (nm pre))) = (D1, 0) := by unfold DiskM.rid1; rw [hg]; rfl
            have hr2 := Hh2.out
            rw [hr] at hr2
            have hr3 : D1 = D2 := congrArg Prod.fst hr2
            have hr4 : 0 = e2 := congrArg Prod.snd hr2
            have hr7 : readE (none : Option FileM) = 7 := rfl
            rw [hg, hr7] at Hrd
            have He0 := Lib.hid (show e2 = 0 from hr4.symm)
            have HJn := Lib.hid (show JouF w wr j d pre D2 (JouM.none0 nodes) F from hr3 ▸ HJw.out)
            clear hJ hsm hg hr hr2 hr3 hr4 hr7
            go_wp2_with fail
            refine Hrd.out.mono ?_
            rintro e w3 ⟨v3, rfl, -, -, hb3⟩
            have HE := Lib.hid (And.intro (HSw.out.trans (HJw.out.same hb3)) (HJn.out.next hb3))
            clear hb3 Hrd
            go_wp2_with fail
            go_roundw
            case rel => first | exact ⟨HE.out.1, .inr (.inr ⟨rfl, He1.out, He0.out, HE.out.2⟩)⟩ | ((repeat apply Exists.intro); exact ⟨⟨HE.out.1, .inr (.inr ⟨rfl, He1.out, He0.out, HE.out.2⟩)⟩, rfl⟩)
            case measure => simp [intOf]
          | some f =>
            have hr : D1.remove [shadowN (snpN (nm pre))] = (D2, e2) := by
              have := Hh2.out
              unfold DiskM.rid1 at this
              rw [hg] at this
              exact this
            have hr0 : readE (some f) = 0 := rfl
            rw [hg, hr0] at Hrd
            have Hrm := Lib.hid (fun W (h : JouF w W j d pre D1 (JouM.none0 nodes) F) => show Calls Tryz.prog 55 #[.pointer (some ⟨d, 0, none⟩), .slice (some ⟨W.heap.size, 0, none⟩) 1 1] (W.alloc (.cells #[.string (sShadow (sSnp pre))] 9)) fun e w' => e = .returned (.int .i64 (e2 : Int)) ∧ JouF w w' j d pre D2 (JouM.none0 nodes) F ∧ Same F W w' ∧ w'.heap[j]? = W.heap[j]? from by
              have := jou_remove h (sShadow (sSnp pre)) (by rw [size_sha, hssn]; omega)
              rwa [nm_sha, nm_snp, hr] at this)
            clear hJ hsm hg hr hr0
            by_cases he : e2 = 0
            · have He0 := Lib.hid he
              rw [he] at Hrm
              clear he
              go_wp2_with fail
              refine Hrd.out.mono ?_
              rintro e w3 ⟨v3, rfl, -, -, hb3⟩
              have HJ3 := Lib.hid (HJw.out.next hb3)
              have HS3 := Lib.hid (HSw.out.trans (HJw.out.same hb3))
              clear hb3 Hrd
              go_wp2_with fail
              refine (Hrm.out w3 HJ3.out).mono ?_
              rintro e w4 ⟨rfl, hj4, hs4, -⟩
              have HE := Lib.hid (And.intro (HS3.out.trans hs4) hj4)
              clear hj4 hs4 Hrm
              go_wp2_with fail
              go_roundw
              case rel => first | exact ⟨HE.out.1, .inr (.inr ⟨rfl, He1.out, He0.out, HE.out.2⟩)⟩ | ((repeat apply Exists.intro); exact ⟨⟨HE.out.1, .inr (.inr ⟨rfl, He1.out, He0.out, HE.out.2⟩)⟩, rfl⟩)
              case measure => simp [intOf]
            · have hne : ((e2 : Int) != 0) = true := by simp; omega
              have HR := Lib.hid (HE2.out He1.out he)
              have He := Lib.hid he
              clear he
              go_wp2_with fail
              refine Hrd.out.mono ?_
              rintro e w3 ⟨v3, rfl, -, -, hb3⟩
              have HJ3 := Lib.hid (HJw.out.next hb3)
              have HS3 := Lib.hid (HSw.out.trans (HJw.out.same hb3))
              clear hb3 Hrd
              go_wp2_with fail
              refine (Hrm.out w3 HJ3.out).mono ?_
              rintro e w4 ⟨rfl, hj4, hs4, -⟩
              have HE := Lib.hid (open_bad (pre := pre) (w1 := w1) hj4.stF (HS3.out.trans hs4) HR.out He.out)
              clear hj4 hs4 Hrm
              go_wp2_with fail
              go_ret2
              exact HE.out
        · have He1 := Lib.hid he1
          have He2 := Lib.hid he2
          have HJ2 := Lib.hid hJ
          have HS2 := Lib.hid hsm
          have Hsn := Lib.hid (rsnap_calls hJ)
          rw [Hhs.out] at Hsn
          have Hlen := Lib.hid (fun (h3 : e3 = 0) => readLog_len hJ.okD Hrm.out (show (JouM.none0 nodes).entries = [] from rfl) (Hhl.out.trans (by rw [h3])))
          clear he1 he2 hJ hsm
          go_wp2_with fail
          refine Hsn.out.mono ?_
          intro e w4 hT
          obtain ⟨hb4, n, t, gp, gn, gc, dv, rfl, hsn⟩ := hT
          have HJ4 := Lib.hid (HJ2.out.next hb4)
          have HS4 := Lib.hid (HS2.out.trans (HJ2.out.same hb4))
          have Hb4 := Lib.hid hb4
          have Hsn4 := Lib.hid hsn
          clear hb4 hsn Hsn
          by_cases hks : ks = 0
          · have Hks := Lib.hid hks
            cases so with
            | none =>
              have HRL := Lib.hid (rlog_calls (HJ4.out.box (.cells #[.int .i64 n, .int .i64 t, .slice gp gn gc] 105)) (show (JouM.none0 nodes).entries = [] from rfl))
              rw [Hhl.out] at HRL
              have HSB := Lib.hid (HS4.out.trans (HJ4.out.same (below_one w4 (.cells #[.int .i64 n, .int .i64 t, .slice gp gn gc] 105))))
              have HBX := Lib.hid (new_block w4 (.cells #[.int .i64 n, .int .i64 t, .slice gp gn gc] 105))
              subst hks
              go_wp2_with fail
              generalize w4.alloc (.cells #[.int .i64 n, .int .i64 t, .slice gp gn gc] 105) = w5 at *
              refine HRL.out.mono ?_
              rintro e w6 ⟨rfl, hst6, hs6, hj6⟩
              by_cases he3 : e3 = 0
              · have He3 := Lib.hid he3
                have HJ6 := Lib.hid ((hj6 he3).less (F' := F) fun k hk => .inl hk)
                have HS6 := Lib.hid (HSB.out.trans fun k hk => hs6 k (.inl hk))
                subst he3
                clear hst6 hs6 hj6
                obtain ⟨own, gv, dv0, ev, vs, hJ6, -⟩ := id HJ6.out
                have c0 := hJ6.c 0 rfl
                clear hJ6
                by_cases hn0 : 0 < M3.number
                · have HR := Lib.hid (HNo.out He1.out He2.out Hks.out He3.out (show joins none M3 a3 = none from by unfold joins; exact if_pos hn0))
                  have HE := Lib.hid (fun q => open_bad (pre := pre) (w1 := w1) (HJ6.out.drewN q).stF HS6.out HR.out (by decide))
                  have d0 : decide ((0 : Int) < (M3.number : Int)) = true := by simp; omega
                  have d0n : decide (0 < M3.number) = true := by simp; omega
                  clear hn0
                  go_wp2_with fail
                  go_quiet (fail)
                  go_wp2_with fail
                  go_quiet (fail)
                  go_wp2_with fail
                  go_ret2
                  exact HE.out _
                · have HJn := Lib.hid (show joins none M3 a3 = some (a3, M3) from by unfold joins; exact if_neg hn0)
                  have d0 : decide ((0 : Int) < (M3.number : Int)) = false := by simp; omega
                  have d0n : decide (0 < M3.number) = false := by simp; omega
                  clear hn0
                  cases a3 with
                  | false =>
                    have HR := Lib.hid (HKp.out M3 He1.out He2.out Hks.out He3.out HJn.out)
                    have HE := Lib.hid (fun q => open_good (pre := pre) (w1 := w1) (HJ6.out.drewN q) HS6.out HR.out)
                    go_wp2_with fail
                    go_quiet (fail)
                    go_wp2_with fail
                    go_quiet (fail)
                    go_wp2_with fail
                    go_ret2
                    exact HE.out _
                  | true =>
                    have HR0 := HAn.out M3 He1.out He2.out Hks.out He3.out HJn.out
                    go_wp2_with fail
                    go_quiet (fail)
                    go_wp2_with fail
                    go_quiet (fail)
                    go_wp2_with fail
                    generalize hWQ : (World.drewN _ _) = WQ
                    have HJQ := Lib.hid (show JouF w WQ j d pre D3 M3 F from by rw [← hWQ]; exact HJ6.out.drewN _)
                    have HSQ := Lib.hid (show Same F w1 WQ from by rw [← hWQ]; exact HS6.out)
                    clear hWQ c0
                    cases hwj : writesJ D3 (nm pre) M3 with
                    | mk D4 e4 =>
                      have Hwj := Lib.hid (show Calls Tryz.prog 59 #[.pointer (some ⟨j, 0, none⟩)] WQ (WritTold w WQ j d pre M3 F (D4, e4)) from by
                        have := jwrites_calls HJQ.out (Hlen.out He3.out)
                        rwa [hwj] at this)
                      have HR := HR0
                      rw [hwj] at HR
                      have HR := Lib.hid HR
                      clear hwj
                      by_cases he4 : e4 = 0
                      · subst he4
                        go_wp2_with fail
                        refine Hwj.out.mono ?_
                        rintro e w9 ⟨rfl, hj9, hs9⟩
                        have HE := Lib.hid (open_good (pre := pre) (w1 := w1) hj9 (HSQ.out.trans hs9) HR.out)
                        clear hj9 hs9 Hwj
                        go_wp2_with fail
                        go_ret2
                        exact HE.out
                      · have hne : ((e4 : Int) != 0) = true := by simp; omega
                        have He4 := Lib.hid he4
                        clear he4
                        go_wp2_with fail
                        refine Hwj.out.mono ?_
                        rintro e w9 ⟨rfl, hj9, hs9⟩
                        have HE := Lib.hid (open_bad (pre := pre) (w1 := w1) (show St w w9 d D4 F from hj9.stF) (HSQ.out.trans hs9) HR.out He4.out)
                        clear hj9 hs9 Hwj
                        go_wp2_with fail
                        go_ret2
                        exact HE.out
              · have hne : ((e3 : Int) != 0) = true := by simp; omega
                have HE := Lib.hid (open_bad (pre := pre) (w1 := w1) (hst6.less (F := F) fun k hk => .inl hk) (HSB.out.trans fun k hk => hs6 k (.inl hk)) (HE4.out He1.out He2.out Hks.out he3) he3)
                clear hst6 hs6 hj6 he3
                go_wp2_with fail
                go_ret2
                exact HE.out
            | some s =>
              obtain ⟨rfl, rfl, hog, hod, hnw⟩ := Hsn4.out s rfl
              have hso := snapOf_ok (o := Sat.get (snpN (nm pre)) D2.files) (s := s) (by rw [Hhs.out])
              obtain ⟨pg2, cg2, eg, -⟩ := own_capI hog
              simp only [Value.slice.injEq] at eg
              obtain ⟨rfl, rfl, rfl⟩ := eg
              obtain ⟨pd, cd, rfl, -⟩ := own_cap0 hod
              have Hso := Lib.hid hso
              have Hnw := Lib.hid hnw
              have HOG := Lib.hid hog
              have HOD := Lib.hid hod
              have HJG := Lib.hid (show JouF w (w4.alloc (.cells #[.int .i64 (s.number : Int), .int .i64 s.term, .slice gp s.group.length gc] 105)) j d pre D2 (JouM.none0 nodes) (fun k => F k ∨ k = w4.heap.size ∨ ((Value.slice gp s.group.length gc).ownBlock = some k ∨ (Value.slice pd s.data.length cd).ownBlock = some k)) from (HJ2.out.more (Hb4.out.trans ((below_one w4 (.cells #[.int .i64 (s.number : Int), .int .i64 s.term, .slice gp s.group.length gc] 105)).mono Hb4.out.size)) fun k hk => by
                have hs4 : w4.heap.size < (w4.alloc (.cells #[.int .i64 (s.number : Int), .int .i64 s.term, .slice gp s.group.length gc] 105)).heap.size := by simp
                rcases hk with hk | hk | hk
                · exact .inl hk
                · exact .inr ⟨by rw [hk]; exact Hb4.out.size, by rw [hk]; exact hs4⟩
                · refine .inr ⟨Hnw.out k hk, Nat.lt_trans ?_ hs4⟩
                  exact hk.elim (OwnR.lt HOG.out) (OwnR.lt HOD.out)))
              have HRL := Lib.hid (rlog_calls HJG.out (show (JouM.none0 nodes).entries = [] from rfl))
              rw [Hhl.out] at HRL
              have HSB := Lib.hid (HS4.out.trans (HJ4.out.same (below_one w4 (.cells #[.int .i64 (s.number : Int), .int .i64 s.term, .slice gp s.group.length gc] 105))))
              have HBX := Lib.hid (new_block w4 (.cells #[.int .i64 (s.number : Int), .int .i64 s.term, .slice gp s.group.length gc] 105))
              have HOG2 := Lib.hid (ownI_far HOG.out (below_one w4 (.cells #[.int .i64 (s.number : Int), .int .i64 s.term, .slice gp s.group.length gc] 105)))
              have HOD2 := Lib.hid (ownB_far HOD.out (below_one w4 (.cells #[.int .i64 (s.number : Int), .int .i64 s.term, .slice gp s.group.length gc] 105)))
              have Hwl := Lib.hid (show ∀ k, ((Value.slice gp s.group.length gc).ownBlock = some k ∨ (Value.slice pd s.data.length cd).ownBlock = some k) → w.heap.size ≤ k ∧ ¬ F k from fun k hk => ⟨Nat.le_trans HJ2.out.bel.size (Hnw.out k hk), fun hf => by have h1 := HJ2.out.flt hf; have h2 := Hnw.out k hk; omega⟩)
              have Hbl := Lib.hid (show ∀ k, ((Value.slice gp s.group.length gc).ownBlock = some k ∨ (Value.slice pd s.data.length cd).ownBlock = some k) → k ≠ w4.heap.size from fun k hk e => by
                have := hk.elim (OwnR.lt HOG.out) (OwnR.lt HOD.out)
                omega)
              have Hb4F := Lib.hid (show ∀ k, F k → k ≠ w4.heap.size from fun k hf e => by have h1 := HJ4.out.flt hf; omega)
              subst hks
              clear hog hod hnw hso Hsn4
              go_wp2_with fail
              generalize w4.heap.size = b4 at *
              generalize w4.alloc (.cells #[.int .i64 (s.number : Int), .int .i64 s.term, .slice gp s.group.length gc] 105) = w5 at *
              refine HRL.out.mono ?_
              rintro e w6 ⟨rfl, hst6, hs6, hj6⟩
              by_cases he3 : e3 = 0
              · have He3 := Lib.hid he3
                have HJ6 := Lib.hid (hj6 he3)
                have HS6 := Lib.hid (HSB.out.trans fun k hk => hs6 k (.inl hk))
                have HX6 := Lib.hid ((hs6 b4 (.inr (.inl rfl))).trans HBX.out)
                have HOG6 := Lib.hid (OwnR.keep HOG2.out fun k hk => hs6 k (.inr (.inr (.inl hk))))
                have HOD6 := Lib.hid (OwnR.keep HOD2.out fun k hk => hs6 k (.inr (.inr (.inr hk))))
                subst he3
                clear hst6 hs6 hj6
                obtain ⟨own, gv, dv0, ev, vs, hJ6, -⟩ := id HJ6.out
                have c0 := hJ6.c 0 rfl
                have c7 := hJ6.c 7 rfl
                have f7 := hJ6.fr 7
                have z0 := cell_of HX6.out (i := 0) rfl
                have z1 := cell_of HX6.out (i := 1) rfl
                have z2 := cell_of HX6.out (i := 2) rfl
                clear hJ6
                by_cases hlt : M3.number < s.number
                · have HJn := Lib.hid (show joins (some s) M3 a3 = some (true, M3.rebase s) from by unfold joins; exact if_pos hlt)
                  have d0 : decide ((M3.number : Int) < (s.number : Int)) = true := by simp; omega
                  have d0n : decide (M3.number < s.number) = true := by simp; omega
                  have HR0 := HAn.out _ He1.out He2.out Hks.out He3.out HJn.out
                  clear hlt c7 f7
                  go_wp2_with fail
                  go_quiet (fail)
                  go_wp2_with fail
                  generalize hWQ : (World.drewN _ _) = WQ
                  have HJQ := Lib.hid (show JouF w WQ j d pre D3 M3 _ from by rw [← hWQ]; exact HJ6.out.drewN _)
                  have HSQ := Lib.hid (show Same F w1 WQ from by rw [← hWQ]; exact HS6.out)
                  have HXQ := Lib.hid (show WQ.heap[b4]? = some (.cells #[.int .i64 (s.number : Int), .int .i64 s.term, .slice gp s.group.length gc] 105 (0, 0)) from by rw [← hWQ]; exact HX6.out)
                  have Hrb := Lib.hid (jrebase_calls (F2 := F) HJQ.out Hso.out.1 (pg := gp) (cg := gc) (pd := pd) (cd := cd) (OwnR.keep HOG6.out fun k _ => by rw [← hWQ]; rfl) (OwnR.keep HOD6.out fun k _ => by rw [← hWQ]; rfl) (fun k hk => ⟨.inr (.inr hk), (Hwl.out k hk).1⟩) fun k hk => ⟨.inl hk, fun e => (Hwl.out k (.inl e)).2 hk, fun e => (Hwl.out k (.inr e)).2 hk⟩)
                  have z0 := cell_of HXQ.out (i := 0) rfl
                  have z1 := cell_of HXQ.out (i := 1) rfl
                  have z2 := cell_of HXQ.out (i := 2) rfl
                  clear hWQ c0
                  go_wp2_with fail
                  refine Hrb.out.mono ?_
                  rintro e w7 ⟨rfl, hj7, hs7⟩
                  have HJ7 := Lib.hid hj7
                  have HS7 := Lib.hid (HSQ.out.trans hs7)
                  clear hj7 hs7 Hrb z0 z1 z2
                  go_wp2_with fail
                  cases hwj : writesJ D3 (nm pre) (M3.rebase s) with
                  | mk D4 e4 =>
                    have Hwj := Lib.hid (show Calls Tryz.prog 59 #[.pointer (some ⟨j, 0, none⟩)] w7 (WritTold w w7 j d pre (M3.rebase s) F (D4, e4)) from by
                      have := jwrites_calls HJ7.out (Nat.le_trans (rebase_len M3 s) (Hlen.out He3.out))
                      rwa [hwj] at this)
                    have HR := HR0
                    rw [hwj] at HR
                    have HR := Lib.hid HR
                    clear hwj
                    by_cases he4 : e4 = 0
                    · subst he4
                      go_wp2_with fail
                      refine Hwj.out.mono ?_
                      rintro e w9 ⟨rfl, hj9, hs9⟩
                      have HE := Lib.hid (open_good (pre := pre) (w1 := w1) hj9 (HS7.out.trans hs9) HR.out)
                      clear hj9 hs9 Hwj
                      go_wp2_with fail
                      go_ret2
                      exact HE.out
                    · have hne : ((e4 : Int) != 0) = true := by simp; omega
                      have He4 := Lib.hid he4
                      clear he4
                      go_wp2_with fail
                      refine Hwj.out.mono ?_
                      rintro e w9 ⟨rfl, hj9, hs9⟩
                      have HE := Lib.hid (open_bad (pre := pre) (w1 := w1) (show St w w9 d D4 F from hj9.stF) (HS7.out.trans hs9) HR.out He4.out)
                      clear hj9 hs9 Hwj
                      go_wp2_with fail
                      go_ret2
                      exact HE.out
                · have d0 : decide ((M3.number : Int) < (s.number : Int)) = false := by simp; omega
                  have d0n : decide (M3.number < s.number) = false := by simp; omega
                  by_cases hgt : s.number < M3.number
                  · have HJn := Lib.hid (show joins (some s) M3 a3 = none from by unfold joins; exact (if_neg hlt).trans (if_pos hgt))
                    have d1 : decide ((s.number : Int) < (M3.number : Int)) = true := by simp; omega
                    have d1n : decide (s.number < M3.number) = true := by simp; omega
                    have HE := Lib.hid (fun q q2 => open_bad (pre := pre) (w1 := w1) (((HJ6.out.drewN q).drewN q2).stF.less (F := F) fun k hk => .inl hk) HS6.out (HNo.out He1.out He2.out Hks.out He3.out HJn.out) (by decide))
                    clear hlt hgt c7 f7
                    go_wp2_with fail
                    go_quiet (fail)
                    go_wp2_with fail
                    go_quiet (fail)
                    go_wp2_with fail
                    go_ret2
                    exact HE.out _ _
                  · have HJn := Lib.hid (show joins (some s) M3 a3 = some (a3, { M3 with data := s.data }) from by unfold joins; exact (if_neg hlt).trans (if_neg hgt))
                    have d1 : decide ((s.number : Int) < (M3.number : Int)) = false := by simp; omega
                    have d1n : decide (s.number < M3.number) = false := by simp; omega
                    clear hlt hgt
                    have Hdt := Lib.hid (fun q => jou_data (F2 := F) (HJ6.out.drewN q) (dv := .slice pd s.data.length cd) (OwnR.keep HOD6.out fun _ _ => rfl) (fun k hk => ⟨.inr (.inr (.inr hk)), (Hwl.out k (.inr hk)).1⟩) (fun k hk => ⟨.inl hk, fun e => (Hwl.out k (.inr e)).2 hk⟩) (Nat.le_trans Hso.out.2.1 (by decide)))
                    cases a3 with
                    | false =>
                      have HR := Lib.hid (HKp.out _ He1.out He2.out Hks.out He3.out HJn.out)
                      have HE := Lib.hid (fun q => open_good (pre := pre) (w1 := w1) (Hdt.out q).1 (HS6.out.trans (Hdt.out q).2) HR.out)
                      go_wp2_with fail
                      go_quiet (fail)
                      go_wp2_with fail
                      go_quiet (fail)
                      go_wp2_with fail
                      go_ret2
                      exact HE.out _
                    | true =>
                      have HR0 := HAn.out _ He1.out He2.out Hks.out He3.out HJn.out
                      go_wp2_with fail
                      go_quiet (fail)
                      go_wp2_with fail
                      go_quiet (fail)
                      go_wp2_with fail
                      generalize hWQ : (World.setCell _ _ _) = WQ
                      have HJQ := Lib.hid (show JouF w WQ j d pre D3 { M3 with data := s.data } F from by rw [← hWQ]; exact (Hdt.out _).1)
                      have HSQ := Lib.hid (show Same F w1 WQ from by rw [← hWQ]; exact HS6.out.trans (Hdt.out _).2)
                      clear hWQ c0 c7 f7 z0 z1 z2
                      cases hwj : writesJ D3 (nm pre) { M3 with data := s.data } with
                      | mk D4 e4 =>
                        have Hwj := Lib.hid (show Calls Tryz.prog 59 #[.pointer (some ⟨j, 0, none⟩)] WQ (WritTold w WQ j d pre { M3 with data := s.data } F (D4, e4)) from by
                          have := jwrites_calls HJQ.out (Hlen.out He3.out)
                          rwa [hwj] at this)
                        have HR := HR0
                        rw [hwj] at HR
                        have HR := Lib.hid HR
                        clear hwj
                        by_cases he4 : e4 = 0
                        · subst he4
                          go_wp2_with fail
                          refine Hwj.out.mono ?_
                          rintro e w9 ⟨rfl, hj9, hs9⟩
                          have HE := Lib.hid (open_good (pre := pre) (w1 := w1) hj9 (HSQ.out.trans hs9) HR.out)
                          clear hj9 hs9 Hwj
                          go_wp2_with fail
                          go_ret2
                          exact HE.out
                        · have hne : ((e4 : Int) != 0) = true := by simp; omega
                          have He4 := Lib.hid he4
                          clear he4
                          go_wp2_with fail
                          refine Hwj.out.mono ?_
                          rintro e w9 ⟨rfl, hj9, hs9⟩
                          have HE := Lib.hid (open_bad (pre := pre) (w1 := w1) (show St w w9 d D4 F from hj9.stF) (HSQ.out.trans hs9) HR.out He4.out)
                          clear hj9 hs9 Hwj
                          go_wp2_with fail
                          go_ret2
                          exact HE.out
              · have hne : ((e3 : Int) != 0) = true := by simp; omega
                have HE := Lib.hid (open_bad (pre := pre) (w1 := w1) (hst6.less (F := F) fun k hk => .inl hk) (HSB.out.trans fun k hk => hs6 k (.inl hk)) (HE4.out He1.out He2.out Hks.out he3) he3)
                clear hst6 hs6 hj6 he3
                go_wp2_with fail
                go_ret2
                exact HE.out
          · have hne : ((ks : Int) != 0) = true := by simp; omega
            have HE := Lib.hid (open_bad (pre := pre) (w1 := w1) ((HJ4.out.box (.cells #[.int .i64 n, .int .i64 t, .slice gp gn gc] 105)).stF.less (F := F) fun k hk => .inl hk) (HS4.out.trans (HJ4.out.same (below_one w4 _))) (HE3.out He1.out He2.out hks) hks)
            clear hks
            go_wp2_with fail
            go_ret2
            exact HE.out
end
end Go.Proofs.YtngflpaooppmhaaGreat

namespace Go.Proofs.YtngflpaooppmhaaGreat
open Go.RowKit Go.Sat Go.Maps

section
variable {w w1 w2 : World} {r j d : Nat} {id : Int} {D D1 D' : DiskM} {M M1 M' : JouM} {s s' : RaS} {F F' : Nat → Prop}
set_option maxRecDepth 100000 in
set_option maxHeartbeats 4000000 in
theorem rareads_calls (h : RaF w w1 r j d id D M s F) :
    Calls Tryz.prog 12 #[.pointer (some ⟨r, 0, none⟩)] w1 fun e w' => ∃ sv, e = .returned sv ∧ w' = w1.setCell ⟨r, 11, none⟩ (.slice none 0 0) ∧ OwnR w1 49 3 sv s.qs.length (readsV s.qs) ∧ (∀ k, sv.ownBlock = some k → k ≠ r ∧ ¬ F k) := by
  obtain ⟨sv, c11, hown, hne, -⟩ := h.sett
  have HE := Lib.hid (And.intro hown hne)
  have k19 := h.cell (i := 19) (v := .bool false) fun _ _ _ => rfl
  have f11 := h.frozen 11
  obtain ⟨ps, cs, rfl⟩ := OwnR.shape hown
  clear h hown hne
  go_enter Tryz.func12, Tryz.ntmps12
  go_wp2_with fail
  go_ret
  exact ⟨_, rfl, rfl, HE.out⟩
set_option maxRecDepth 100000 in
set_option maxHeartbeats 4000000 in
theorem rastate_calls (h : RaF w w1 r j d id D M s F) :
    Calls Tryz.prog 15 #[.pointer (some ⟨r, 0, none⟩)] w1 fun e w' => e = .returned (.tuple #[.int .i64 s.role, .int .i64 M.now, .int .i64 s.leader]) ∧ Below w1.heap.size w1 w' := by
  have k19 := h.cell (i := 19) (v := .bool false) fun _ _ _ => rfl
  have K := Lib.hid (And.intro (h.cell (i := 2) (v := .int .i64 s.role) fun _ _ _ => rfl) (h.cell (i := 3) (v := .int .i64 s.leader) fun _ _ _ => rfl))
  have Hte := Lib.hid (raterm_calls (h.next (below_drew w1)))
  clear h
  go_enter Tryz.func15, Tryz.ntmps15
  go_upto_region 5 with (fail)
  refine ord_start (fun w' : World => w'.cell? ⟨r, 2, none⟩ = some (.int .i64 s.role) ∧ w'.cell? ⟨r, 3, none⟩ = some (.int .i64 s.leader)) (n := 13) (by kernel_rfl) rfl K.out (fun hHeld => ?_)
  refine Pl [0,1,2,3,4,6,7,8,9] ?_
  iterate 9 (refine Pd rfl (by intro w hSw; have e0 := hSw.1; have e1 := hSw.2; go_simp; try with_reducible rfl) ?_; simp only [Act.put, uA, uB, uC])
  refine Pn ?_
  refine ord_one 5 rfl (by kernel_rfl) (by rfl) (fun K hK => ?_)
  go_wp2_with fail
  refine Hte.out.mono ?_
  rintro e w3 ⟨rfl, q, rfl⟩
  have Hb3 := Lib.hid (show Below w1.heap.size w1 (w1.drew.drewN q) from ⟨rfl, rfl, rfl, Nat.le_refl _, fun _ _ => rfl⟩)
  have hH3 := Lib.hid (show (w1.drew.drewN q).cell? ⟨r, 2, none⟩ = some (.int .i64 s.role) ∧ (w1.drew.drewN q).cell? ⟨r, 3, none⟩ = some (.int .i64 s.leader) from hHeld)
  clear Hte hHeld k19
  generalize w1.drew.drewN q = W3 at *
  go_wp2_with fail
  refine hK.out _ _ hH3.out (fun hHeld => ?_)
  clear hK
  try simp only [Act.put, uA, uB, uC]
  refine Pl [10,11,12] ?_
  iterate 3 (refine Pc rfl ?_; simp only [Act.put, uA, uB, uC])
  refine Pn ?_
  refine wpAnyH_done (by kernel_rfl) ?_ _
  go_wp2_with fail
  go_ret3
  exact ⟨rfl, Hb3.out⟩
set_option maxRecDepth 100000 in
set_option maxHeartbeats 4000000 in
theorem raopen_calls (h : St w w1 d D F) (hroom : D.room ≤ 1048576) {nodes : List Int} {pn : Option Addr} {nn cn : Nat} (hx : HasI w1 (.slice pn nn cn) nodes) (hnl : nodes.length ≤ 1099511627776) (hop : jouOpen D [97] nodes = (D', 0, M)) (hid : 0 ≤ id ∧ id < 7) (draw : Int) (hd : -9223372036854775808 ≤ draw ∧ draw ≤ 9223372036854775807) :
    Calls Tryz.prog 7 #[.int .i64 id, .pointer (some ⟨d, 0, none⟩), .string sA, .int .i64 draw, .slice pn nn cn] w1 fun e w' => ∃ r j, e = .returned (.tuple #[.pointer (some ⟨r, 0, none⟩), .int .i64 0]) ∧ RaF w w' r j d id D' M { role := 0, leader := -1, commit := M.number, taken := 0, wait := 10 + (max 0 draw) % 10, round := 0, votes := .map none, qs := [], wq := [] } F ∧ Same F w1 w' := by
  have hin := isnode_calls w1 id
  rw [decide_eq_true hid] at hin
  have Hin := Lib.hid hin
  have hj := jopen_calls h hroom sA hx hnl
  rw [show jouOpen D (nm sA) nodes = (D', 0, M) from hop] at hj
  have Hj := Lib.hid hj
  clear hin hj h hx
  go_enter Tryz.func7, Tryz.ntmps7
  go_wp2_with fail
  refine Hin.out.mono ?_
  rintro e w2 ⟨rfl, rfl⟩
  go_wp2_with fail
  refine Hj.out.mono ?_
  rintro e w3 ⟨-, hs3, hcase⟩
  rcases hcase with ⟨-, j, rfl, hJ⟩ | ⟨hne, -⟩
  rotate_left
  · exact absurd rfl hne
  have hJ : JouF w w3 j d sA D' M F := hJ
  have Hs3 := Lib.hid hs3
  have Hba := Lib.hid (fun O => jbase_calls (hJ.box O))
  have H4 := Lib.hid (show RaF w (w3.alloc (RaO j id { role := 0, leader := -1, commit := 0, taken := 0, wait := 0, round := 0, votes := .map none, qs := [], wq := [] } (.map none) (.slice none 0 0) (.slice none 0 0))) w3.heap.size j d id D' M { role := 0, leader := -1, commit := 0, taken := 0, wait := 0, round := 0, votes := .map none, qs := [], wq := [] } F from ⟨.map none, .slice none 0 0, .slice none 0 0, (hJ.box _).less (fun k hk => by
      rcases hk with hk | hk | hk | hk
      · exact .inl hk
      · exact .inr hk
      · cases hk
      · cases hk), ⟨new_block w3 _, hJ.bel.size, fun e => by have := hJ.flt e; omega, .inl ⟨rfl, rfl⟩, OwnR.nil _ _ _, fun k hk => (by cases hk), fun k hk => (by cases hk)⟩⟩)
  have Hfl := Lib.hid (fun k (hk : F k) => hJ.flt hk)
  clear hJ hs3 Hj Hin
  go_upto_region 7 with (fail)
  have Hs4 := Lib.hid (fun k (hk : F k) => ((below_one w3 (RaO j id { role := 0, leader := -1, commit := 0, taken := 0, wait := 0, round := 0, votes := .map none, qs := [], wq := [] } (.map none) (.slice none 0 0) (.slice none 0 0))).block k (Hfl.out k hk)).trans (Hs3.out k hk))
  have hba := ra_q H4.out fun G hJ => jbase_calls hJ
  have Hb4 := Lib.hid hba
  clear hba Hba Hs3 Hfl
  unfold RaO at H4 Hs4 Hb4
  dsimp only at H4 Hs4 Hb4
  generalize hW4 : w3.alloc _ = W4 at *
  generalize w3.heap.size = r at *
  go_wp2_with fail
  refine Hb4.out.mono ?_
  rintro e w5 ⟨rfl, q, rfl⟩
  have H5 := Lib.hid (H4.out.next (below_dqa W4 q))
  have Hs5 := Lib.hid (fun k (hk : F k) => show (W4.drewN q).heap[k]? = w2.heap[k]? from Hs4.out k hk)
  clear Hb4 H4 Hs4 hW4
  generalize W4.drewN q = W5 at *
  have k4 := H5.out.cell (i := 4) (v := .int .i64 ((0 : Nat) : Int)) fun _ _ _ => rfl
  have f4 := H5.out.frozen 4
  have H6 := Lib.hid (H5.out.set 4 (.int .i64 (M.number : Int)) (s' := { role := 0, leader := -1, commit := M.number, taken := 0, wait := 0, round := 0, votes := .map none, qs := [], wq := [] }) (fun pv wv sv => ⟨pv, rfl⟩) rfl)
  have Hs6 := Lib.hid (fun k (hk : F k) => (H5.out.same_set 4 (.int .i64 (M.number : Int)) k hk).trans (Hs5.out k hk))
  have Hwa := Lib.hid (rawaits_calls H6.out draw hd)
  clear H5 Hs5
  go_wp2_with fail
  refine Hwa.out.mono ?_
  rintro e w7 ⟨rfl, h7, hs7⟩
  have HE := Lib.hid (And.intro h7 fun k (hk : F k) => (hs7 k hk).trans (Hs6.out k hk))
  clear h7 hs7 Hwa H6 Hs6 k4 f4
  go_wp2_with fail
  go_ret2
  exact ⟨r, j, rfl, HE.out⟩
end
end Go.Proofs.YtngflpaooppmhaaGreat
