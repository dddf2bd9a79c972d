/- journal: writes. (Printed by mkj13.py.) journal: slices.Clone of entries, rebase. (Printed by mkj14.py.) -/
import Derived.Lib.SliceRun
import Derived.Test.YtapfnehdgailmaaGreatQE
namespace Go.Proofs.YtapfnehdgailmaaGreat
open Go.RowKit Go.Sat Go.Maps

theorem rowsIn_keep {w w' : World} {v : Value} {vs : List Value} {ls : List Bs} (h : RowsIn w v vs ls) (hs : ∀ k, (v.ownBlock = some k ∨ ∃ u ∈ vs, u.ownBlock = some k) → w'.heap[k]? = w.heap[k]?) : RowsIn w' v vs ls :=
  ⟨h.row.keep fun k hk => hs k (.inl hk), fun i u b hu hl => OwnR.keep (h.has i u b hu hl) fun k hk => hs k (.inr ⟨u, List.mem_of_getElem? hu, hk⟩), h.sep⟩

/-- With the rows set apart besides. -/
def FR (F : Nat → Prop) (v : Value) (vs : List Value) (k : Nat) : Prop := F k ∨ v.ownBlock = some k ∨ ∃ u ∈ vs, u.ownBlock = some k

theorem RowsN.two {w W : World} {u1 u2 : Value} {x1 x2 : Bs} (hb : Below w.heap.size w W) (h1 : OwnB W 5 u1 x1) (n1 : ∀ k, u1.ownBlock = some k → w.heap.size ≤ k) (h2 : OwnB W 5 u2 x2) (n2 : ∀ k, u2.ownBlock = some k → w.heap.size ≤ k) :
    RowsN w (W.alloc (.cells #[u1, u2] 22)) (.slice (some ⟨W.heap.size, 0, none⟩) 2 2) [u1, u2] [x1, x2] := by
  have ha := below_one W (.cells #[u1, u2] 22)
  have hs := hb.size
  refine ⟨⟨⟨rfl, .inr ⟨W.heap.size, 2, #[u1, u2], rfl, new_block W _, Nat.le_refl _, by decide, Nat.le_refl _, rfl⟩⟩, fun i u b hu hl => ?_, fun u hu k hk e => ?_⟩, ⟨fun k hk => ?_, fun u hu k hk => ?_⟩, hb.trans (ha.mono hs)⟩
  · match i, hu, hl with
    | 0, hu, hl => cases hu; cases hl; exact ownB_far h1 ha
    | 1, hu, hl => cases hu; cases hl; exact ownB_far h2 ha
  · obtain rfl : W.heap.size = k := Option.some.inj e
    rcases List.mem_cons.1 hu with rfl | hu
    · have := OwnR.lt h1 hk
      omega
    · obtain rfl : u = u2 := by simpa using hu
      have := OwnR.lt h2 hk
      omega
  · cases hk
    exact hs
  · rcases List.mem_cons.1 hu with rfl | hu
    · exact n1 k hk
    · obtain rfl : u = u2 := by simpa using hu
      exact n2 k hk

section
variable {w w1 w2 : World} {j d : Nat} {pre : ByteArray} {D : DiskM} {M : JouM} {F : Nat → Prop}

theorem jou_read (h : JouF w w1 j d pre D M F) (s : ByteArray) (hs : s.size ≤ 9223372036854775807) :
    Calls Tryz.prog 75 #[.pointer (some ⟨d, 0, none⟩), .string s] w1 fun e w' => ∃ v, e = .returned (.tuple #[v, .int .i64 (readE (Sat.get (nm s) D.files))]) ∧ OwnB w' 5 v (dataOf (Sat.get (nm s) D.files)) ∧ (∀ k, v.ownBlock = some k → w1.heap.size ≤ k) ∧ Below w1.heap.size w1 w' := by
  refine (st_read h.st s hs).mono ?_
  rintro e w' ⟨v, rfl, hv, hn, hb, -⟩
  exact ⟨v, rfl, hv, hn, hb⟩
theorem jou_rename (h : JouF w w1 j d pre D M F) (o s : ByteArray) (hso : o.size ≤ 9223372036854775807) (hss : s.size ≤ 9223372036854775807) :
    Calls Tryz.prog 160 #[.pointer (some ⟨d, 0, none⟩), .string o, .string s] w1 fun e w' => e = .returned (.int .i64 ((D.rename (nm o) (nm s)).2 : Int)) ∧ JouF w w' j d pre (D.rename (nm o) (nm s)).1 M F ∧ Same F w1 w' ∧ w'.heap[j]? = w1.heap[j]? :=
  jou_disk h (Below.refl _ _) fun _ hS => st_rename hS o s hso hss

theorem FR_more (h : JouF w w1 j d pre D M F) {v : Value} {vs : List Value} {ls : List Bs} (hr : RowsN w1 w2 v vs ls) : JouF w w2 j d pre D M (FR F v vs) :=
  h.more hr.bel fun k hk => by
    rcases hk with hk | hk | ⟨u, hu, hk⟩
    · exact .inl hk
    · exact .inr ⟨hr.new.1 k hk, OwnR.lt hr.rows.row hk⟩
    · obtain ⟨c, hc⟩ := mem_rows hr.rows hu
      exact .inr ⟨hr.new.2 u hu k hk, OwnR.lt hc hk⟩

/-- What writing the log anew leaves. -/
def WritTold (w w1 : World) (j d : Nat) (pre : ByteArray) (M : JouM) (F : Nat → Prop) (r : DiskM × Nat) (e : Ending) (w' : World) : Prop :=
  e = .returned (.int .i64 (r.2 : Int)) ∧ JouF w w' j d pre r.1 M F ∧ Same F w1 w'

theorem rows_rows {M : JouM} (h : M.OK) : (∀ l ∈ M.rows, l.length ≤ 65800) ∧ M.rows.length = M.entries.length + 2 := by
  have hl := h.last
  unfold JouM.last at hl
  have hg := (grp_len h.group).2
  refine ⟨fun l hl' => ?_, ?_⟩
  · unfold JouM.rows at hl'
    rcases List.mem_cons.1 hl' with rfl | hl'
    · unfold fstB
      simp only [List.length_cons, List.length_append]
      have h1 := numB_nine (n := M.number) (by omega)
      have h2 := numI_len M.term
      have h3 := grpB_len M.group (by omega)
      omega
    · rcases List.mem_cons.1 hl' with rfl | hl'
      · exact Nat.le_trans (trmB_len _ _) (by decide)
      · exact entsB_rows _ _ h.ents (by omega) l hl'
  · unfold JouM.rows
    simp [entsB_len]

set_option maxRecDepth 100000 in
set_option maxHeartbeats 16000000 in
theorem jwrites_calls (h : JouF w w1 j d pre D M F) (hm : M.entries.length ≤ 1000000) :
    Calls Tryz.prog 80 #[.pointer (some ⟨j, 0, none⟩)] w1 (WritTold w w1 j d pre M F (writesJ D (nm pre) M)) := by
  obtain ⟨i0, hi, hz0, hz1, hz2⟩ := info_parts (show (Tryz.prog.info? 22).map (fun i => (i.zero, i.size, i.bytes)) = some (some (.slice none 0 0), 1, 24) by kernel_rfl)
  have hps := h.psz
  have hsl : (sLog pre).size = pre.size + 4 := size_log pre
  have hok := h.okM
  have hlast := hok.last
  have hnow := isTm_iff.1 hok.now
  have hvote := hok.vote
  have HrR := Lib.hid (rows_rows hok)
  have HrecL := Lib.hid (recsB_le (c := 65800) M.rows (rows_rows hok).1)
  have Hents := Lib.hid hok.ents
  have Hfi := Lib.hid (jfirst_calls (h.next (below_drew w1)))
  have Htr := Lib.hid (fun W => termRec_calls W M.now M.vote (by omega) (by omega))
  obtain ⟨own, gv, dv, ev, vs, hJ, hS, hn, hl⟩ := id h
  have HJ := Lib.hid hJ
  have c0 := hJ.c 0 rfl
  have c3 := hJ.c 3 rfl
  have c4 := hJ.c 4 rfl
  have c5 := hJ.c 5 rfl
  have c6 := hJ.c 6 rfl
  have c8 := hJ.c 8 rfl
  obtain ⟨pv8, cv8, hev⟩ := hJ.row.shape
  rw [hev] at c8
  have Hev := Lib.hid hev
  have H := Lib.hid h
  unfold JouM.last at hlast
  clear h hJ hS hn hl hok hev
  generalize hen : M.entries.length = n at *
  have Hen := Lib.hid hen
  generalize hnum : M.number = b at *
  have Hnum := Lib.hid hnum
  clear hen hnum
  go_enter Tryz.func80, Tryz.ntmps80
  go_wp2_with fail
  refine ord_start (fun w' : World => w'.cell? ⟨j, 5, none⟩ = some (.int .i64 M.now) ∧ w'.cell? ⟨j, 6, none⟩ = some (.int .i64 M.vote)) (n := 13) (by kernel_rfl) rfl (⟨c5, c6⟩) (fun hHeld => ?_)
  refine ord_take 0 (v := ?v1x0) rfl (by kernel_rfl) (by kernel_rfl) (by kernel_rfl) (fun _ _ _ h => h) (by rfl) (by assumption) ?y1x0 ?_
  case y1x0 => (intro w hSw; (try dsimp only at hSw); go_simp; try with_reducible rfl)
  simp only [Act.put, List.setIfInBounds_toArray, List.set_cons_zero, List.set_cons_succ]
  refine ord_take 2 (v := ?v1x2) rfl (by kernel_rfl) (by kernel_rfl) (by kernel_rfl) (fun _ _ _ h => h) (by rfl) (by assumption) ?y1x2 ?_
  case y1x2 => (intro w hSw; (try dsimp only at hSw); go_simp; try with_reducible rfl)
  simp only [Act.put, List.setIfInBounds_toArray, List.set_cons_zero, List.set_cons_succ]
  refine ord_take 3 (v := ?v1x3) rfl (by kernel_rfl) (by kernel_rfl) (by kernel_rfl) (fun _ _ _ h => h) (by rfl) (by assumption) ?y1x3 ?_
  case y1x3 => (intro w hSw; (try dsimp only at hSw); go_simp; try with_reducible rfl)
  simp only [Act.put, List.setIfInBounds_toArray, List.set_cons_zero, List.set_cons_succ]
  refine ord_take 4 (v := ?v1x4) rfl (by kernel_rfl) (by kernel_rfl) (by kernel_rfl) (fun _ _ _ h => h) (by rfl) (by assumption) ?y1x4 ?_
  case y1x4 => (intro w hSw; (try dsimp only at hSw); go_simp; try with_reducible rfl)
  simp only [Act.put, List.setIfInBounds_toArray, List.set_cons_zero, List.set_cons_succ]
  refine ord_take 5 (v := ?v1x5) rfl (by kernel_rfl) (by kernel_rfl) (by kernel_rfl) (fun _ _ _ h => h) (by rfl) (by assumption) ?y1x5 ?_
  case y1x5 => (intro w hSw; (try dsimp only at hSw); go_simp; try with_reducible rfl)
  simp only [Act.put, List.setIfInBounds_toArray, List.set_cons_zero, List.set_cons_succ]
  refine ord_take 6 (v := ?v1x6) rfl (by kernel_rfl) (by kernel_rfl) (by kernel_rfl) (fun _ _ _ h => h) (by rfl) (by assumption) ?y1x6 ?_
  case y1x6 => (intro w hSw; (try dsimp only at hSw); go_simp; try with_reducible rfl)
  simp only [Act.put, List.setIfInBounds_toArray, List.set_cons_zero, List.set_cons_succ]
  refine ord_take 7 (v := ?v1x7) rfl (by kernel_rfl) (by kernel_rfl) (by kernel_rfl) (fun _ _ _ h => h) (by rfl) (by assumption) ?y1x7 ?_
  case y1x7 => (intro w hSw; (try dsimp only at hSw); go_simp; try with_reducible rfl)
  simp only [Act.put, List.setIfInBounds_toArray, List.set_cons_zero, List.set_cons_succ]
  refine ord_take 8 (v := ?v1x8) rfl (by kernel_rfl) (by kernel_rfl) (by kernel_rfl) (fun _ _ _ h => h) (by rfl) (by assumption) ?y1x8 ?_
  case y1x8 => (intro w hSw; (try dsimp only at hSw); go_simp; try with_reducible rfl)
  simp only [Act.put, List.setIfInBounds_toArray, List.set_cons_zero, List.set_cons_succ]
  refine ord_take 9 (v := ?v1x9) rfl (by kernel_rfl) (by kernel_rfl) (by kernel_rfl) (fun _ _ _ h => h) (by rfl) (by assumption) ?y1x9 ?_
  case y1x9 => (intro w hSw; (try dsimp only at hSw); go_simp; try with_reducible rfl)
  simp only [Act.put, List.setIfInBounds_toArray, List.set_cons_zero, List.set_cons_succ]
  refine ord_one 1 rfl (by kernel_rfl) (by rfl) (fun K hK => ?_)
  go_wp2_with fail
  refine Hfi.out.mono ?_
  rintro e w3 ⟨u1, rfl, hu1, hn1, hb3⟩
  have HB3 := Lib.hid ((below_drew w1).trans hb3)
  have Hh3 := Lib.hid (And.intro (cell_far hHeld.1 hb3) (cell_far hHeld.2 hb3))
  have HU1 := Lib.hid (And.intro hu1 (show ∀ x, u1.ownBlock = some x → w1.heap.size ≤ x from hn1))
  obtain ⟨p1, q1, rfl, -⟩ := own_cap0 hu1
  clear hu1 hn1 hb3 Hfi
  go_wp2_with fail
  refine hK.out _ _ (Hh3.out) (fun hHeld => ?_)
  clear hK
  try simp only [Act.put, List.setIfInBounds_toArray, List.set_cons_zero, List.set_cons_succ]
  refine ord_one 10 rfl (by kernel_rfl) (by rfl) (fun K hK => ?_)
  go_wp2_with fail
  refine (Htr.out w3).mono ?_
  rintro e w4 ⟨u2, rfl, hu2, hn2, hb4⟩
  have HB4 := Lib.hid (HB3.out.trans (hb4.mono HB3.out.size))
  have Hh4 := Lib.hid (And.intro (cell_far hHeld.1 hb4) (cell_far hHeld.2 hb4))
  have HU2 := Lib.hid (And.intro (ownB_far HU1.out.1 hb4) (And.intro hu2 (show ∀ x, u2.ownBlock = some x → w1.heap.size ≤ x from fun x hx => Nat.le_trans HB3.out.size (hn2 x hx))))
  obtain ⟨p2, q2, rfl, -⟩ := own_cap0 hu2
  clear hu2 hn2 hb4 Htr
  go_wp2_with fail
  refine hK.out _ _ (Hh4.out) (fun hHeld => ?_)
  clear hK
  try simp only [Act.put, List.setIfInBounds_toArray, List.set_cons_zero, List.set_cons_succ]
  refine ord_one 11 rfl (by kernel_rfl) (by rfl) (fun K hK => ?_)
  have Hh5 := Lib.hid (And.intro (al_cell hHeld.1 (.cells #[.slice p1 (fstB b M.term M.group).length q1, .slice p2 (trmB M.now M.vote).length q2] 22)) (al_cell hHeld.2 (.cells #[.slice p1 (fstB b M.term M.group).length q1, .slice p2 (trmB M.now M.vote).length q2] 22)))
  go_wp2_with fail
  refine hK.out _ _ (Hh5.out) (fun hHeld => ?_)
  clear hK
  try simp only [Act.put, List.setIfInBounds_toArray, List.set_cons_zero, List.set_cons_succ]
  refine ord_take 12 (v := ?v1x12) rfl (by kernel_rfl) (by kernel_rfl) (by kernel_rfl) (fun _ _ _ h => h) (by rfl) (by assumption) ?y1x12 ?_
  case y1x12 => (intro w hSw; (try dsimp only at hSw); go_simp; try with_reducible rfl)
  simp only [Act.put, List.setIfInBounds_toArray, List.set_cons_zero, List.set_cons_succ]
  refine wpAnyH_done (by kernel_rfl) ?_ _
  have hrn0 := RowsN.two HB4.out HU2.out.1 HU1.out.2 HU2.out.2.1 HU2.out.2.2
  have HrM := Lib.hid (show [fstB b M.term M.group, trmB M.now M.vote] ++ entsB b M.entries = M.rows from by rw [← Hnum.out]; rfl)
  clear HU1 HU2 HB3 HB4
  generalize hWa : w4.alloc (.cells #[.slice p1 (fstB b M.term M.group).length q1, .slice p2 (trmB M.now M.vote).length q2] 22) = W0 at *
  have HR0 := Lib.hid hrn0
  have c8 := cell_far c8 hrn0.bel
  clear hrn0 hWa
  go_wp2_with fail
  go_loopw [3, 29] (fun x i wr => ∃ (k : Nat) (us : List Value) (xv : Value), k ≤ n ∧ i = .int .i64 k ∧ xv = x ∧ RowsN w1 wr xv us ([fstB b M.term M.group, trmB M.now M.vote] ++ entsB b (M.entries.take k))) (fun _ i _ => n - (intOf i).toNat)
  case atStart => exact ⟨0, _, _, Nat.zero_le _, rfl, rfl, HR0.out⟩
  case round =>
    clear HR0
    obtain ⟨k, us, xv, hk, rfl, rfl, hrn⟩ := hrel
    by_cases hlt : k < n
    · have hkl : k < M.entries.length := by rw [Hen.out]; exact hlt
      obtain ⟨g, c, v, hev', -, hat, k0, k1, k2, k3⟩ := HJ.out.ent (List.getElem?_eq_getElem hkl)
      rw [Hev.out] at hev'
      simp only [Value.slice.injEq] at hev'
      obtain ⟨rfl, -, rfl⟩ := hev'
      have HTk := Lib.hid (entsB_take (n := b) hkl)
      have hie := Hents.out _ (List.getElem_mem hkl)
      have hf := ent_bound hie
      generalize M.entries[k] = e at *
      have hhas := hat.has (by omega) (by omega)
      obtain ⟨pe, ce, e1, -⟩ := own_cap0 hat.data
      obtain ⟨pn, cn, e2, -⟩ := own_capI hat.nodes
      obtain ⟨v1, v2⟩ := v
      have e1' : v1 = .slice pe e.data.length ce := e1
      have e2' : v2 = .slice pn e.nodes.length cn := e2
      subst e1'
      subst e2'
      have k0 := cell_far k0 hrn.bel
      have k1 := cell_far k1 hrn.bel
      have k2 : wr.cell? ⟨g, k * 4 + 2, none⟩ = some (.slice pe e.data.length ce) := cell_far k2 hrn.bel
      have k3 : wr.cell? ⟨g, k * 4 + 3, none⟩ = some (.slice pn e.nodes.length cn) := cell_far k3 hrn.bel
      have c0r := cell_far c0 hrn.bel
      have Hhas := Lib.hid hhas
      have Hie := Lib.hid hie
      have Hrn := Lib.hid hrn
      have hdl := hhas.dl
      have hnl := hhas.nl
      have hw2 : IntKind.i64.wrap ((b : Int) + 1) = (b : Int) + 1 := IntWalk.i64_in _ (by omega)
      have hw3 : IntKind.i64.wrap ((b : Int) + 1 + (k : Int)) = (b : Int) + 1 + (k : Int) := IntWalk.i64_in _ (by omega)
      have Her := Lib.hid (fun W (hb : Below w1.heap.size w1 W) => show Calls Tryz.prog 100 #[.int .i64 ((b : Int) + 1 + (k : Int)), .agg #[.int .i64 e.term, .int .i64 e.kind, .slice pe e.data.length ce, .slice pn e.nodes.length cn]] W (RowNew W (entB (b + k + 1) e)) from by
        have := entRec_calls (b + k + 1) (by omega) (hhas.below hb) hie
        rwa [show ((b + k + 1 : Nat) : Int) = (b : Int) + 1 + (k : Int) by omega] at this)
      have Hek := Lib.hid (show ([fstB b M.term M.group, trmB M.now M.vote] ++ entsB b (M.entries.take k)).length = k + 2 from by rw [List.length_append, entsB_len, List.length_take, Hen.out, Nat.min_eq_left (by omega)]; simp; omega)
      clear hkl hat e1 e2 hhas hie hf hrn
      go_wp2_with fail
      refine ord_start (fun w' : World => w'.cell? ⟨j, 0, none⟩ = some (.int .i64 (b : Int)) ∧ w'.heap[wr.heap.size]? = some (.cells #[.int .i64 e.term, .int .i64 e.kind, .slice pe e.data.length ce, .slice pn e.nodes.length cn] 50 (0, 0))) (n := 14) (by kernel_rfl) rfl (⟨al_cell c0r _, new_block wr _⟩) (fun hHeld => ?_)
      have HB1 := Lib.hid (show Below wr.heap.size wr (wr.alloc (.cells #[.int .i64 e.term, .int .i64 e.kind, .slice pe e.data.length ce, .slice pn e.nodes.length cn] 50)).drew from (below_one wr _).trans ⟨rfl, rfl, rfl, by simp, fun _ _ => rfl⟩)
      generalize (wr.alloc (.cells #[.int .i64 e.term, .int .i64 e.kind, .slice pe e.data.length ce, .slice pn e.nodes.length cn] 50)).drew = W1 at *
      refine ord_take 0 (v := ?v5x0) rfl (by kernel_rfl) (by kernel_rfl) (by kernel_rfl) (fun _ _ _ h => h) (by rfl) (by assumption) ?y5x0 ?_
      case y5x0 => (intro w hSw; (try dsimp only at hSw); go_simp; try with_reducible rfl)
      simp only [Act.put, List.setIfInBounds_toArray, List.set_cons_zero, List.set_cons_succ]
      refine ord_take 1 (v := ?v5x1) rfl (by kernel_rfl) (by kernel_rfl) (by kernel_rfl) (fun _ _ _ h => h) (by rfl) (by assumption) ?y5x1 ?_
      case y5x1 => (intro w hSw; (try dsimp only at hSw); go_simp; try with_reducible rfl)
      simp only [Act.put, List.setIfInBounds_toArray, List.set_cons_zero, List.set_cons_succ]
      refine ord_take 2 (v := ?v5x2) rfl (by kernel_rfl) (by kernel_rfl) (by kernel_rfl) (fun _ _ _ h => h) (by rfl) (by assumption) ?y5x2 ?_
      case y5x2 => (intro w hSw; (try dsimp only at hSw); go_simp; try with_reducible rfl)
      simp only [Act.put, List.setIfInBounds_toArray, List.set_cons_zero, List.set_cons_succ]
      refine ord_take 3 (v := ?v5x3) rfl (by kernel_rfl) (by kernel_rfl) (by kernel_rfl) (fun _ _ _ h => h) (by rfl) (by assumption) ?y5x3 ?_
      case y5x3 => (intro w hSw; (try dsimp only at hSw); go_simp; try with_reducible rfl)
      simp only [Act.put, List.setIfInBounds_toArray, List.set_cons_zero, List.set_cons_succ]
      refine ord_take 4 (v := ?v5x4) rfl (by kernel_rfl) (by kernel_rfl) (by kernel_rfl) (fun _ _ _ h => h) (by rfl) (by assumption) ?y5x4 ?_
      case y5x4 => (intro w hSw; (try dsimp only at hSw); go_simp; try with_reducible rfl)
      simp only [Act.put, List.setIfInBounds_toArray, List.set_cons_zero, List.set_cons_succ]
      refine ord_take 5 (v := ?v5x5) rfl (by kernel_rfl) (by kernel_rfl) (by kernel_rfl) (fun _ _ _ h => h) (by rfl) (by assumption) ?y5x5 ?_
      case y5x5 => (intro w hSw; (try dsimp only at hSw); go_simp; try with_reducible rfl)
      simp only [Act.put, List.setIfInBounds_toArray, List.set_cons_zero, List.set_cons_succ]
      refine ord_take 6 (v := ?v5x6) rfl (by kernel_rfl) (by kernel_rfl) (by kernel_rfl) (fun _ _ _ h => h) (by rfl) (by assumption) ?y5x6 ?_
      case y5x6 => (intro w hSw; (try dsimp only at hSw); go_simp; try with_reducible rfl)
      simp only [Act.put, List.setIfInBounds_toArray, List.set_cons_zero, List.set_cons_succ]
      refine ord_take 7 (v := ?v5x7) rfl (by kernel_rfl) (by kernel_rfl) (by kernel_rfl) (fun _ _ _ h => h) (by rfl) (by assumption) ?y5x7 ?_
      case y5x7 => (intro w hSw; (try dsimp only at hSw); go_simp; try with_reducible rfl)
      simp only [Act.put, List.setIfInBounds_toArray, List.set_cons_zero, List.set_cons_succ]
      refine ord_take 8 (v := ?v5x8) rfl (by kernel_rfl) (by kernel_rfl) (by kernel_rfl) (fun _ _ _ h => h) (by rfl) (by assumption) ?y5x8 ?_
      case y5x8 => (intro w hSw; (try dsimp only at hSw); go_simp; try with_reducible rfl)
      simp only [Act.put, List.setIfInBounds_toArray, List.set_cons_zero, List.set_cons_succ]
      refine ord_take 9 (v := .agg #[.int .i64 e.term, .int .i64 e.kind, .slice pe e.data.length ce, .slice pn e.nodes.length cn]) rfl (by kernel_rfl) (by kernel_rfl) (by kernel_rfl) (fun _ _ _ h => h) (by rfl) (by assumption) (fun W hSw => by have q0 := cell_of hSw.2 (i := 0) rfl; have q1 := cell_of hSw.2 (i := 1) rfl; have q2 := cell_of hSw.2 (i := 2) rfl; have q3 := cell_of hSw.2 (i := 3) rfl; go_simp; try with_reducible rfl) ?_
      simp only [Act.put, List.setIfInBounds_toArray, List.set_cons_zero, List.set_cons_succ]
      refine ord_one 10 rfl (by kernel_rfl) (by rfl) (fun K hK => ?_)
      go_wp2_with fail
      refine (Her.out W1 (Hrn.out.bel.trans (HB1.out.mono Hrn.out.bel.size))).mono ?_
      rintro r w9 ⟨y, rfl, hy, hyn, hb9⟩
      have HB9 := Lib.hid (HB1.out.trans (hb9.mono HB1.out.size))
      have Hh9 := Lib.hid (And.intro (cell_far hHeld.1 hb9) ((hb9.block _ (lt_of_block hHeld.2)).trans hHeld.2))
      have HY := Lib.hid (And.intro hy (show ∀ z, y.ownBlock = some z → wr.heap.size ≤ z from fun z hz => Nat.le_trans HB1.out.size (hyn z hz)))
      obtain ⟨py, cy, rfl, -⟩ := own_cap0 hy
      clear hy hyn hb9 Her
      generalize hyl : (entB (b + k + 1) e).length = yl at *
      have HYL := Lib.hid hyl
      clear hyl
      go_wp2_with fail
      refine hK.out _ _ (Hh9.out) (fun hHeld => ?_)
      clear hK
      try simp only [Act.put, List.setIfInBounds_toArray, List.set_cons_zero, List.set_cons_succ]
      refine ord_one 11 rfl (by kernel_rfl) (by rfl) (fun K hK => ?_)
      have Hh10 := Lib.hid (And.intro (al_cell hHeld.1 (.cells #[.slice py yl cy] 22)) ((al_old _ (.cells #[.slice py yl cy] 22) (lt_of_block hHeld.2)).trans hHeld.2))
      go_wp2_with fail
      refine hK.out _ _ (Hh10.out) (fun hHeld => ?_)
      clear hK
      try simp only [Act.put, List.setIfInBounds_toArray, List.set_cons_zero, List.set_cons_succ]
      refine ord_one 12 rfl (by kernel_rfl) (by rfl) (fun K hK => ?_)
      have hrow := (Hrn.out.next HB9.out).rows.row
      rw [Hek.out] at hrow
      have hal := hrow.keep (w' := w9.alloc (.cells #[.slice py yl cy] 22)) (fun z hz => (below_one0 w9 _).block z (OwnR.lt hrow hz))
      have hxx := slit_one w9 (.slice py yl cy) 22 (0, 0)
      refine wp_app (.tmp 34) (.tmp 45) 108 rfl 22 i0 (.slice none 0 0) 1 24 Tryz.underlying108 hi hz0 hz1 hz2 rfl (by decide) xv (k + 2) _ rfl hal (.slice (some ⟨w9.heap.size, 0, none⟩) 1 1) 1 _ rfl hxx (by simp [Value.oneCell']) (by unfold maxLen; omega) (by omega) ?_
      intro v3 w3 hown3 hgrow3 hloc3
      have HE := Lib.hid (RowsN.push Hrn.out HB9.out HY.out.1 HY.out.2 (by rw [Hek.out]; exact hown3) hgrow3 hloc3)
      have hbne : ∀ x, xv.ownBlock = some x → w1.heap.size ≤ x ∧ x < wr.heap.size := fun x hx => ⟨Hrn.out.new.1 x hx, OwnR.lt Hrn.out.rows.row hx⟩
      have hc0 : w3.cell? ⟨j, 0, none⟩ = some (.int .i64 (b : Int)) := (World.cell?_of_block (a := ⟨j, 0, none⟩) (hgrow3.block j (World.block_lt_of_cell? _ ⟨j, 0, none⟩ hHeld.1) fun e => by have h1 := (hbne j e.symm).1; have h2 := World.block_lt_of_cell? w1 ⟨j, 0, none⟩ c0; have h3 : j < w1.heap.size := h2; omega)).trans hHeld.1
      have hbx : w3.heap[wr.heap.size]? = some (.cells #[.int .i64 e.term, .int .i64 e.kind, .slice pe e.data.length ce, .slice pn e.nodes.length cn] 50 (0, 0)) := (hgrow3.block _ (lt_of_block hHeld.2) fun e => by have := (hbne _ e.symm).2; omega).trans hHeld.2
      obtain ⟨p3, q3, rfl⟩ := OwnR.shape hown3
      clear hrow hal hxx hown3 hgrow3 hloc3 hbne
      refine hK.out _ _ ⟨hc0, hbx⟩ (fun hHeld => ?_)
      clear hK
      try simp only [Act.put, List.setIfInBounds_toArray, List.set_cons_zero, List.set_cons_succ]
      refine ord_take 13 (v := ?v5x13) rfl (by kernel_rfl) (by kernel_rfl) (by kernel_rfl) (fun _ _ _ h => h) (by rfl) (by assumption) ?y5x13 ?_
      case y5x13 => (intro w hSw; (try dsimp only at hSw); go_simp; try with_reducible rfl)
      simp only [Act.put, List.setIfInBounds_toArray, List.set_cons_zero, List.set_cons_succ]
      refine wpAnyH_done (by kernel_rfl) ?_ _
      go_wp2_with fail
      go_roundw
      case rel => exact ⟨k + 1, us ++ [.slice py yl cy], _, by omega, by go_num, rfl, by rw [HTk.out, ← List.append_assoc]; exact HE.out⟩
      case measure => simp [intOf]; omega
    · have hkn : k = n := by omega
      have het : M.entries.take k = M.entries := List.take_of_length_le (by rw [Hen.out]; omega)
      rw [het, HrM.out] at hrn
      have hrow := hrn.rows.row
      rw [HrR.out.2] at hrow
      obtain ⟨px, cx, rfl⟩ := hrow.shape
      have HJG := Lib.hid (FR_more H.out hrn)
      have HRW := Lib.hid hrn.rows
      have HsF := Lib.hid (H.out.same hrn.bel)
      have Hrd := Lib.hid (jou_read HJG.out (sShadow (sLog pre)) (by rw [size_sha, hsl]; omega))
      rw [nm_sha, nm_log] at Hrd
      have c3 := HJG.out.jc.1
      have c4 := HJG.out.jc.2.1
      have hss : (sShadow (sLog pre)).size ≤ 9223372036854775807 := by rw [size_sha, hsl]; omega
      have HSr := Lib.hid (show Same (FR F (.slice px (n + 2) cx) us) wr wr from fun _ _ => rfl)
      clear hrn hrow het hkn c0 c5 c6 c8
      cases hg : Sat.get (shadowN (logN (nm pre))) D.files with
      | none =>
        have h0 : D.save0 (logN (nm pre)) = (D, 0) := by unfold DiskM.save0; rw [hg]; rfl
        have HZa := Lib.hid (fun D1 e1 (h1 : D.append (shadowN (logN (nm pre))) (recsB M.rows) = (D1, e1)) (he : e1 ≠ 0) => (save1_app h0 h1 he : writesJ D (nm pre) M = _))
        have HZs := Lib.hid (fun D1 D2 e2 (h1 : D.append (shadowN (logN (nm pre))) (recsB M.rows) = (D1, 0)) (h2 : D1.sync [shadowN (logN (nm pre))] = (D2, e2)) (he : e2 ≠ 0) => (save1_syn h0 h1 h2 he : writesJ D (nm pre) M = _))
        have HZr := Lib.hid (fun D1 D2 (h1 : D.append (shadowN (logN (nm pre))) (recsB M.rows) = (D1, 0)) (h2 : D1.sync [shadowN (logN (nm pre))] = (D2, 0)) => (save1_ren h0 h1 h2 : writesJ D (nm pre) M = _))
        have hr7 : readE (none : Option FileM) = 7 := rfl
        rw [hg, hr7] at Hrd
        clear hg h0 hr7
        go_wp2_with fail
        refine Hrd.out.mono ?_
        rintro e w3 ⟨v3, rfl, -, -, hb3⟩
        have HJ3 := Lib.hid (HJG.out.next hb3)
        have HS3 := Lib.hid (show Same (FR F (.slice px (n + 2) cx) us) wr w3 from HJG.out.same hb3)
        clear hb3 Hrd c3 c4
        have c3 := HJ3.out.jc.1
        cases hap : DiskM.append D (shadowN (logN (nm pre))) (recsB M.rows) with
        | mk D1 e1 =>
          have Hap := Lib.hid (fun W (hb : Below (w3).heap.size (w3) W) x (hx : RowsAt W x [recsB M.rows]) => show Calls Tryz.prog 15 #[.pointer (some ⟨d, 0, none⟩), .string (sShadow (sLog pre)), x] W fun e w' => e = .returned (.int .i64 (e1 : Int)) ∧ JouF w w' j d pre D1 M (FR F (.slice px (n + 2) cx) us) ∧ Same (FR F (.slice px (n + 2) cx) us) (w3) w' ∧ w'.heap[j]? = (w3).heap[j]? from by
            have := jou_append HJ3.out hb (sShadow (sLog pre)) x [recsB M.rows] hx (by simp) (by simp; have := HrecL.out; have := HrR.out.2; omega) (by rw [size_sha, hsl]; omega)
            rw [show [recsB M.rows].flatten = recsB M.rows by simp, nm_sha, nm_log, hap] at this
            exact this)
          have Hfr := Lib.hid (fun W (hb : Below (w3).heap.size (w3) W) => framed_calls (RowsIn.at ((rowsIn_keep HRW.out fun x hx => HS3.out x (.inr hx)).below hb)) (by omega) (fun l hl => Nat.le_trans (HrR.out.1 l hl) (by decide)) (by have := HrecL.out; have := HrR.out.2; omega))
          have HAP := Lib.hid hap
          clear hap
          go_wp2_with fail
          refine ord_start (fun w' : World => w'.cell? ⟨j, 3, none⟩ = some (.pointer (some ⟨d, 0, none⟩))) (n := 11) (by kernel_rfl) rfl (c3) (fun hHeld => ?_)
          refine ord_take 0 (v := ?v13x0) rfl (by kernel_rfl) (by kernel_rfl) (by kernel_rfl) (fun _ _ _ h => h) (by rfl) (by assumption) ?y13x0 ?_
          case y13x0 => (intro w hSw; (try dsimp only at hSw); go_simp; try with_reducible rfl)
          simp only [Act.put, List.setIfInBounds_toArray, List.set_cons_zero, List.set_cons_succ]
          refine ord_take 1 (v := ?v13x1) rfl (by kernel_rfl) (by kernel_rfl) (by kernel_rfl) (fun _ _ _ h => h) (by rfl) (by assumption) ?y13x1 ?_
          case y13x1 => (intro w hSw; (try dsimp only at hSw); go_simp; try with_reducible rfl)
          simp only [Act.put, List.setIfInBounds_toArray, List.set_cons_zero, List.set_cons_succ]
          refine ord_take 2 (v := ?v13x2) rfl (by kernel_rfl) (by kernel_rfl) (by kernel_rfl) (fun _ _ _ h => h) (by rfl) (by assumption) ?y13x2 ?_
          case y13x2 => (intro w hSw; (try dsimp only at hSw); go_simp; try with_reducible rfl)
          simp only [Act.put, List.setIfInBounds_toArray, List.set_cons_zero, List.set_cons_succ]
          refine ord_take 3 (v := ?v13x3) rfl (by kernel_rfl) (by kernel_rfl) (by kernel_rfl) (fun _ _ _ h => h) (by rfl) (by assumption) ?y13x3 ?_
          case y13x3 => (intro w hSw; (try dsimp only at hSw); go_simp; try with_reducible rfl)
          simp only [Act.put, List.setIfInBounds_toArray, List.set_cons_zero, List.set_cons_succ]
          refine ord_take 4 (v := ?v13x4) rfl (by kernel_rfl) (by kernel_rfl) (by kernel_rfl) (fun _ _ _ h => h) (by rfl) (by assumption) ?y13x4 ?_
          case y13x4 => (intro w hSw; (try dsimp only at hSw); go_simp; try with_reducible rfl)
          simp only [Act.put, List.setIfInBounds_toArray, List.set_cons_zero, List.set_cons_succ]
          refine ord_take 5 (v := ?v13x5) rfl (by kernel_rfl) (by kernel_rfl) (by kernel_rfl) (fun _ _ _ h => h) (by rfl) (by assumption) ?y13x5 ?_
          case y13x5 => (intro w hSw; (try dsimp only at hSw); go_simp; rw [if_neg (by omega)]; try with_reducible rfl)
          simp only [Act.put, List.setIfInBounds_toArray, List.set_cons_zero, List.set_cons_succ]
          refine ord_take 6 (v := ?v13x6) rfl (by kernel_rfl) (by kernel_rfl) (by kernel_rfl) (fun _ _ _ h => h) (by rfl) (by assumption) ?y13x6 ?_
          case y13x6 => (intro w hSw; (try dsimp only at hSw); go_simp; try with_reducible rfl)
          simp only [Act.put, List.setIfInBounds_toArray, List.set_cons_zero, List.set_cons_succ]
          refine ord_one 7 rfl (by kernel_rfl) (by rfl) (fun K hK => ?_)
          have HBd := Lib.hid (below_drew (w3))
          go_wp2_with fail
          refine (Hfr.out _ HBd.out).mono ?_
          rintro e wf ⟨v, rfl, hv, -, hbf⟩
          have HBf := Lib.hid (HBd.out.trans hbf)
          have Hhf := Lib.hid (cell_far hHeld hbf)
          have HV := Lib.hid (OwnB.has hv)
          obtain ⟨pv, cv, rfl, -⟩ := own_cap0 hv
          clear hv hbf Hfr
          go_wp2_with fail
          refine hK.out _ _ (Hhf.out) (fun hHeld => ?_)
          clear hK
          try simp only [Act.put, List.setIfInBounds_toArray, List.set_cons_zero, List.set_cons_succ]
          refine ord_one 8 rfl (by kernel_rfl) (by rfl) (fun K hK => ?_)
          have Hha := Lib.hid (al_cell hHeld (.cells #[.slice pv (recsB M.rows).length cv] 22))
          go_wp2_with fail
          refine hK.out _ _ (Hha.out) (fun hHeld => ?_)
          clear hK
          try simp only [Act.put, List.setIfInBounds_toArray, List.set_cons_zero, List.set_cons_succ]
          refine ord_one 9 rfl (by kernel_rfl) (by rfl) (fun K hK => ?_)
          have Hcl := Lib.hid (Hap.out _ (HBf.out.trans ((below_one wf (.cells #[.slice pv (recsB M.rows).length cv] 22)).mono HBf.out.size)) _ (rows_one HV.out 22 (0, 0) wf.heap.size 1 rfl (Nat.le_refl _)))
          go_wp2_with fail
          refine Hcl.out.mono ?_
          rintro e wa ⟨rfl, hja, hsa, hha⟩
          have HJa := Lib.hid hja
          have HSa := Lib.hid (HS3.out.trans hsa)
          have Hhb := Lib.hid ((World.cell?_of_block (a := ⟨j, 3, none⟩) hha).trans c3)
          clear hja hsa hha Hcl
          go_wp2_with fail
          refine hK.out _ _ (Hhb.out) (fun hHeld => ?_)
          clear hK
          try simp only [Act.put, List.setIfInBounds_toArray, List.set_cons_zero, List.set_cons_succ]
          refine ord_take 10 (v := ?v13x10) rfl (by kernel_rfl) (by kernel_rfl) (by kernel_rfl) (fun _ _ _ h => h) (by rfl) (by assumption) ?y13x10 ?_
          case y13x10 => (intro w hSw; (try dsimp only at hSw); go_simp; try with_reducible rfl)
          simp only [Act.put, List.setIfInBounds_toArray, List.set_cons_zero, List.set_cons_succ]
          refine wpAnyH_done (by kernel_rfl) ?_ _
          clear HV HBf HBd
          have c3 : wa.cell? ⟨j, 3, none⟩ = some (.pointer (some ⟨d, 0, none⟩)) := Hhb.out
          by_cases he1 : e1 = 0
          · subst he1
            cases hsy : D1.sync [shadowN (logN (nm pre))] with
            | mk D2 e2 =>
              have hsyc := jou_sync HJa.out (sShadow (sLog pre)) (by rw [size_sha, hsl]; omega)
              rw [nm_sha, nm_log, hsy] at hsyc
              have Hsy := Lib.hid hsyc
              clear hsyc
              by_cases he2 : e2 = 0
              · subst he2
                cases hre : D2.rename (shadowN (logN (nm pre))) (logN (nm pre)) with
                | mk D3 e3 =>
                  have HZ := Lib.hid (show writesJ D (nm pre) M = (D3, e3) from (HZr.out D1 D2 HAP.out hsy).trans hre)
                  have Hre := Lib.hid (fun W (h : JouF w W j d pre D2 M (FR F (.slice px (n + 2) cx) us)) => show Calls Tryz.prog 160 #[.pointer (some ⟨d, 0, none⟩), .string (sShadow (sLog pre)), .string (sLog pre)] W fun e w' => e = .returned (.int .i64 (e3 : Int)) ∧ JouF w w' j d pre D3 M (FR F (.slice px (n + 2) cx) us) ∧ Same (FR F (.slice px (n + 2) cx) us) W w' ∧ w'.heap[j]? = W.heap[j]? from by
                    have := jou_rename h (sShadow (sLog pre)) (sLog pre) (by rw [size_sha, hsl]; omega) (by rw [hsl]; omega)
                    rw [nm_sha, nm_log, hre] at this
                    exact this)
                  clear hsy hre
                  go_wp2_with fail
                  refine Hsy.out.mono ?_
                  rintro e wb ⟨rfl, hjb, hsb, hhb⟩
                  have HSb := Lib.hid (HSa.out.trans hsb)
                  have c3b : wb.cell? ⟨j, 3, none⟩ = some (.pointer (some ⟨d, 0, none⟩)) := (World.cell?_of_block (a := ⟨j, 3, none⟩) hhb).trans c3
                  have Hrc := Lib.hid (Hre.out wb hjb)
                  clear hjb hsb hhb Hsy Hre
                  go_wp2_with fail
                  refine Hrc.out.mono ?_
                  rintro e wc ⟨rfl, hjc, hsc, -⟩
                  have HJc := Lib.hid hjc
                  have HSc := Lib.hid (HSb.out.trans hsc)
                  clear hjc hsc Hrc
                  have HE := Lib.hid (show WritTold w w1 j d pre M F (writesJ D (nm pre) M) (.returned (.int .i64 (e3 : Int))) _ from ⟨by rw [HZ.out], by rw [HZ.out]; exact HJc.out.less fun _ h => .inl h, fun x hx => (HSc.out x (.inl hx)).trans (HsF.out x hx)⟩)
                  go_wp2_with fail
                  go_ret
                  exact HE.out
              · have HZ := Lib.hid (show writesJ D (nm pre) M = (D2, e2) from HZs.out D1 D2 e2 HAP.out hsy he2)
                have hne : ((e2 : Int) != 0) = true := by simp; omega
                clear hsy he2
                go_wp2_with fail
                refine Hsy.out.mono ?_
                rintro e wb ⟨rfl, hjb, hsb, -⟩
                have HJb := Lib.hid hjb
                have HSb := Lib.hid (HSa.out.trans hsb)
                clear hjb hsb Hsy
                have HE := Lib.hid (show WritTold w w1 j d pre M F (writesJ D (nm pre) M) (.returned (.int .i64 (e2 : Int))) _ from ⟨by rw [HZ.out], by rw [HZ.out]; exact HJb.out.less fun _ h => .inl h, fun x hx => (HSb.out x (.inl hx)).trans (HsF.out x hx)⟩)
                go_wp2_with fail
                go_ret
                exact HE.out
          · have HZ := Lib.hid (show writesJ D (nm pre) M = (D1, e1) from HZa.out D1 e1 HAP.out he1)
            have hne : ((e1 : Int) != 0) = true := by simp; omega
            clear he1
            have HE := Lib.hid (show WritTold w w1 j d pre M F (writesJ D (nm pre) M) (.returned (.int .i64 (e1 : Int))) _ from ⟨by rw [HZ.out], by rw [HZ.out]; exact HJa.out.less fun _ h => .inl h, fun x hx => (HSa.out x (.inl hx)).trans (HsF.out x hx)⟩)
            go_wp2_with fail
            go_ret
            exact HE.out
      | some f =>
        cases hrm : D.remove [shadowN (logN (nm pre))] with
        | mk D0 e0 =>
          have hs0 : D.save0 (logN (nm pre)) = (D0, e0) := by unfold DiskM.save0; rw [hg]; exact hrm
          have Hrm := Lib.hid (fun W (h : JouF w W j d pre D M (FR F (.slice px (n + 2) cx) us)) => show Calls Tryz.prog 76 #[.pointer (some ⟨d, 0, none⟩), .slice (some ⟨W.heap.size, 0, none⟩) 1 1] (W.alloc (.cells #[.string (sShadow (sLog pre))] 9)) fun e w' => e = .returned (.int .i64 (e0 : Int)) ∧ JouF w w' j d pre D0 M (FR F (.slice px (n + 2) cx) us) ∧ Same (FR F (.slice px (n + 2) cx) us) W w' ∧ w'.heap[j]? = W.heap[j]? from by
            have := jou_remove h (sShadow (sLog pre)) hss
            rw [nm_sha, nm_log, hrm] at this
            exact this)
          have hr0 : readE (some f) = 0 := rfl
          rw [hg, hr0] at Hrd
          by_cases he0 : e0 = 0
          · subst he0
            have HZa := Lib.hid (fun D1 e1 (h1 : D0.append (shadowN (logN (nm pre))) (recsB M.rows) = (D1, e1)) (he : e1 ≠ 0) => (save1_app hs0 h1 he : writesJ D (nm pre) M = _))
            have HZs := Lib.hid (fun D1 D2 e2 (h1 : D0.append (shadowN (logN (nm pre))) (recsB M.rows) = (D1, 0)) (h2 : D1.sync [shadowN (logN (nm pre))] = (D2, e2)) (he : e2 ≠ 0) => (save1_syn hs0 h1 h2 he : writesJ D (nm pre) M = _))
            have HZr := Lib.hid (fun D1 D2 (h1 : D0.append (shadowN (logN (nm pre))) (recsB M.rows) = (D1, 0)) (h2 : D1.sync [shadowN (logN (nm pre))] = (D2, 0)) => (save1_ren hs0 h1 h2 : writesJ D (nm pre) M = _))
            clear hg hrm hs0 hr0
            go_wp2_with fail
            refine Hrd.out.mono ?_
            rintro e w3 ⟨v3, rfl, -, -, hb3⟩
            have HJ3 := Lib.hid (HJG.out.next hb3)
            have HS3 := Lib.hid (show Same (FR F (.slice px (n + 2) cx) us) wr w3 from HJG.out.same hb3)
            have c3b := cell_far c3 hb3
            have Hrc := Lib.hid (Hrm.out w3 HJ3.out)
            clear hb3 Hrd Hrm
            go_wp2_with fail
            refine Hrc.out.mono ?_
            rintro e w4 ⟨rfl, hj4, hs4, -⟩
            have HJ4 := Lib.hid hj4
            have HS4 := Lib.hid (HS3.out.trans hs4)
            clear hj4 hs4 Hrc c3 c4 c3b
            have c3 := HJ4.out.jc.1
            cases hap : DiskM.append D0 (shadowN (logN (nm pre))) (recsB M.rows) with
            | mk D1 e1 =>
              have Hap := Lib.hid (fun W (hb : Below (w4).heap.size (w4) W) x (hx : RowsAt W x [recsB M.rows]) => show Calls Tryz.prog 15 #[.pointer (some ⟨d, 0, none⟩), .string (sShadow (sLog pre)), x] W fun e w' => e = .returned (.int .i64 (e1 : Int)) ∧ JouF w w' j d pre D1 M (FR F (.slice px (n + 2) cx) us) ∧ Same (FR F (.slice px (n + 2) cx) us) (w4) w' ∧ w'.heap[j]? = (w4).heap[j]? from by
                have := jou_append HJ4.out hb (sShadow (sLog pre)) x [recsB M.rows] hx (by simp) (by simp; have := HrecL.out; have := HrR.out.2; omega) (by rw [size_sha, hsl]; omega)
                rw [show [recsB M.rows].flatten = recsB M.rows by simp, nm_sha, nm_log, hap] at this
                exact this)
              have Hfr := Lib.hid (fun W (hb : Below (w4).heap.size (w4) W) => framed_calls (RowsIn.at ((rowsIn_keep HRW.out fun x hx => HS4.out x (.inr hx)).below hb)) (by omega) (fun l hl => Nat.le_trans (HrR.out.1 l hl) (by decide)) (by have := HrecL.out; have := HrR.out.2; omega))
              have HAP := Lib.hid hap
              clear hap
              go_wp2_with fail
              refine ord_start (fun w' : World => w'.cell? ⟨j, 3, none⟩ = some (.pointer (some ⟨d, 0, none⟩))) (n := 11) (by kernel_rfl) rfl (c3) (fun hHeld => ?_)
              refine ord_take 0 (v := ?v14x0) rfl (by kernel_rfl) (by kernel_rfl) (by kernel_rfl) (fun _ _ _ h => h) (by rfl) (by assumption) ?y14x0 ?_
              case y14x0 => (intro w hSw; (try dsimp only at hSw); go_simp; try with_reducible rfl)
              simp only [Act.put, List.setIfInBounds_toArray, List.set_cons_zero, List.set_cons_succ]
              refine ord_take 1 (v := ?v14x1) rfl (by kernel_rfl) (by kernel_rfl) (by kernel_rfl) (fun _ _ _ h => h) (by rfl) (by assumption) ?y14x1 ?_
              case y14x1 => (intro w hSw; (try dsimp only at hSw); go_simp; try with_reducible rfl)
              simp only [Act.put, List.setIfInBounds_toArray, List.set_cons_zero, List.set_cons_succ]
              refine ord_take 2 (v := ?v14x2) rfl (by kernel_rfl) (by kernel_rfl) (by kernel_rfl) (fun _ _ _ h => h) (by rfl) (by assumption) ?y14x2 ?_
              case y14x2 => (intro w hSw; (try dsimp only at hSw); go_simp; try with_reducible rfl)
              simp only [Act.put, List.setIfInBounds_toArray, List.set_cons_zero, List.set_cons_succ]
              refine ord_take 3 (v := ?v14x3) rfl (by kernel_rfl) (by kernel_rfl) (by kernel_rfl) (fun _ _ _ h => h) (by rfl) (by assumption) ?y14x3 ?_
              case y14x3 => (intro w hSw; (try dsimp only at hSw); go_simp; try with_reducible rfl)
              simp only [Act.put, List.setIfInBounds_toArray, List.set_cons_zero, List.set_cons_succ]
              refine ord_take 4 (v := ?v14x4) rfl (by kernel_rfl) (by kernel_rfl) (by kernel_rfl) (fun _ _ _ h => h) (by rfl) (by assumption) ?y14x4 ?_
              case y14x4 => (intro w hSw; (try dsimp only at hSw); go_simp; try with_reducible rfl)
              simp only [Act.put, List.setIfInBounds_toArray, List.set_cons_zero, List.set_cons_succ]
              refine ord_take 5 (v := ?v14x5) rfl (by kernel_rfl) (by kernel_rfl) (by kernel_rfl) (fun _ _ _ h => h) (by rfl) (by assumption) ?y14x5 ?_
              case y14x5 => (intro w hSw; (try dsimp only at hSw); go_simp; rw [if_neg (by omega)]; try with_reducible rfl)
              simp only [Act.put, List.setIfInBounds_toArray, List.set_cons_zero, List.set_cons_succ]
              refine ord_take 6 (v := ?v14x6) rfl (by kernel_rfl) (by kernel_rfl) (by kernel_rfl) (fun _ _ _ h => h) (by rfl) (by assumption) ?y14x6 ?_
              case y14x6 => (intro w hSw; (try dsimp only at hSw); go_simp; try with_reducible rfl)
              simp only [Act.put, List.setIfInBounds_toArray, List.set_cons_zero, List.set_cons_succ]
              refine ord_one 7 rfl (by kernel_rfl) (by rfl) (fun K hK => ?_)
              have HBd := Lib.hid (below_drew (w4))
              go_wp2_with fail
              refine (Hfr.out _ HBd.out).mono ?_
              rintro e wf ⟨v, rfl, hv, -, hbf⟩
              have HBf := Lib.hid (HBd.out.trans hbf)
              have Hhf := Lib.hid (cell_far hHeld hbf)
              have HV := Lib.hid (OwnB.has hv)
              obtain ⟨pv, cv, rfl, -⟩ := own_cap0 hv
              clear hv hbf Hfr
              go_wp2_with fail
              refine hK.out _ _ (Hhf.out) (fun hHeld => ?_)
              clear hK
              try simp only [Act.put, List.setIfInBounds_toArray, List.set_cons_zero, List.set_cons_succ]
              refine ord_one 8 rfl (by kernel_rfl) (by rfl) (fun K hK => ?_)
              have Hha := Lib.hid (al_cell hHeld (.cells #[.slice pv (recsB M.rows).length cv] 22))
              go_wp2_with fail
              refine hK.out _ _ (Hha.out) (fun hHeld => ?_)
              clear hK
              try simp only [Act.put, List.setIfInBounds_toArray, List.set_cons_zero, List.set_cons_succ]
              refine ord_one 9 rfl (by kernel_rfl) (by rfl) (fun K hK => ?_)
              have Hcl := Lib.hid (Hap.out _ (HBf.out.trans ((below_one wf (.cells #[.slice pv (recsB M.rows).length cv] 22)).mono HBf.out.size)) _ (rows_one HV.out 22 (0, 0) wf.heap.size 1 rfl (Nat.le_refl _)))
              go_wp2_with fail
              refine Hcl.out.mono ?_
              rintro e wa ⟨rfl, hja, hsa, hha⟩
              have HJa := Lib.hid hja
              have HSa := Lib.hid (HS4.out.trans hsa)
              have Hhb := Lib.hid ((World.cell?_of_block (a := ⟨j, 3, none⟩) hha).trans c3)
              clear hja hsa hha Hcl
              go_wp2_with fail
              refine hK.out _ _ (Hhb.out) (fun hHeld => ?_)
              clear hK
              try simp only [Act.put, List.setIfInBounds_toArray, List.set_cons_zero, List.set_cons_succ]
              refine ord_take 10 (v := ?v14x10) rfl (by kernel_rfl) (by kernel_rfl) (by kernel_rfl) (fun _ _ _ h => h) (by rfl) (by assumption) ?y14x10 ?_
              case y14x10 => (intro w hSw; (try dsimp only at hSw); go_simp; try with_reducible rfl)
              simp only [Act.put, List.setIfInBounds_toArray, List.set_cons_zero, List.set_cons_succ]
              refine wpAnyH_done (by kernel_rfl) ?_ _
              clear HV HBf HBd
              have c3 : wa.cell? ⟨j, 3, none⟩ = some (.pointer (some ⟨d, 0, none⟩)) := Hhb.out
              by_cases he1 : e1 = 0
              · subst he1
                cases hsy : D1.sync [shadowN (logN (nm pre))] with
                | mk D2 e2 =>
                  have hsyc := jou_sync HJa.out (sShadow (sLog pre)) (by rw [size_sha, hsl]; omega)
                  rw [nm_sha, nm_log, hsy] at hsyc
                  have Hsy := Lib.hid hsyc
                  clear hsyc
                  by_cases he2 : e2 = 0
                  · subst he2
                    cases hre : D2.rename (shadowN (logN (nm pre))) (logN (nm pre)) with
                    | mk D3 e3 =>
                      have HZ := Lib.hid (show writesJ D (nm pre) M = (D3, e3) from (HZr.out D1 D2 HAP.out hsy).trans hre)
                      have Hre := Lib.hid (fun W (h : JouF w W j d pre D2 M (FR F (.slice px (n + 2) cx) us)) => show Calls Tryz.prog 160 #[.pointer (some ⟨d, 0, none⟩), .string (sShadow (sLog pre)), .string (sLog pre)] W fun e w' => e = .returned (.int .i64 (e3 : Int)) ∧ JouF w w' j d pre D3 M (FR F (.slice px (n + 2) cx) us) ∧ Same (FR F (.slice px (n + 2) cx) us) W w' ∧ w'.heap[j]? = W.heap[j]? from by
                        have := jou_rename h (sShadow (sLog pre)) (sLog pre) (by rw [size_sha, hsl]; omega) (by rw [hsl]; omega)
                        rw [nm_sha, nm_log, hre] at this
                        exact this)
                      clear hsy hre
                      go_wp2_with fail
                      refine Hsy.out.mono ?_
                      rintro e wb ⟨rfl, hjb, hsb, hhb⟩
                      have HSb := Lib.hid (HSa.out.trans hsb)
                      have c3b : wb.cell? ⟨j, 3, none⟩ = some (.pointer (some ⟨d, 0, none⟩)) := (World.cell?_of_block (a := ⟨j, 3, none⟩) hhb).trans c3
                      have Hrc := Lib.hid (Hre.out wb hjb)
                      clear hjb hsb hhb Hsy Hre
                      go_wp2_with fail
                      refine Hrc.out.mono ?_
                      rintro e wc ⟨rfl, hjc, hsc, -⟩
                      have HJc := Lib.hid hjc
                      have HSc := Lib.hid (HSb.out.trans hsc)
                      clear hjc hsc Hrc
                      have HE := Lib.hid (show WritTold w w1 j d pre M F (writesJ D (nm pre) M) (.returned (.int .i64 (e3 : Int))) _ from ⟨by rw [HZ.out], by rw [HZ.out]; exact HJc.out.less fun _ h => .inl h, fun x hx => (HSc.out x (.inl hx)).trans (HsF.out x hx)⟩)
                      go_wp2_with fail
                      go_ret
                      exact HE.out
                  · have HZ := Lib.hid (show writesJ D (nm pre) M = (D2, e2) from HZs.out D1 D2 e2 HAP.out hsy he2)
                    have hne : ((e2 : Int) != 0) = true := by simp; omega
                    clear hsy he2
                    go_wp2_with fail
                    refine Hsy.out.mono ?_
                    rintro e wb ⟨rfl, hjb, hsb, -⟩
                    have HJb := Lib.hid hjb
                    have HSb := Lib.hid (HSa.out.trans hsb)
                    clear hjb hsb Hsy
                    have HE := Lib.hid (show WritTold w w1 j d pre M F (writesJ D (nm pre) M) (.returned (.int .i64 (e2 : Int))) _ from ⟨by rw [HZ.out], by rw [HZ.out]; exact HJb.out.less fun _ h => .inl h, fun x hx => (HSb.out x (.inl hx)).trans (HsF.out x hx)⟩)
                    go_wp2_with fail
                    go_ret
                    exact HE.out
              · have HZ := Lib.hid (show writesJ D (nm pre) M = (D1, e1) from HZa.out D1 e1 HAP.out he1)
                have hne : ((e1 : Int) != 0) = true := by simp; omega
                clear he1
                have HE := Lib.hid (show WritTold w w1 j d pre M F (writesJ D (nm pre) M) (.returned (.int .i64 (e1 : Int))) _ from ⟨by rw [HZ.out], by rw [HZ.out]; exact HJa.out.less fun _ h => .inl h, fun x hx => (HSa.out x (.inl hx)).trans (HsF.out x hx)⟩)
                go_wp2_with fail
                go_ret
                exact HE.out
          · have HZ := Lib.hid (show writesJ D (nm pre) M = (D0, e0) from save1_rem hs0 he0)
            have hne : ((e0 : Int) != 0) = true := by simp; omega
            clear hg hrm hs0 hr0 he0
            go_wp2_with fail
            refine Hrd.out.mono ?_
            rintro e w3 ⟨v3, rfl, -, -, hb3⟩
            have HJ3 := Lib.hid (HJG.out.next hb3)
            have HS3 := Lib.hid (show Same (FR F (.slice px (n + 2) cx) us) wr w3 from HJG.out.same hb3)
            have c3b := cell_far c3 hb3
            have Hrc := Lib.hid (Hrm.out w3 HJ3.out)
            clear hb3 Hrd Hrm
            go_wp2_with fail
            refine Hrc.out.mono ?_
            rintro e w4 ⟨rfl, hj4, hs4, -⟩
            have HJ4 := Lib.hid hj4
            have HS4 := Lib.hid (HS3.out.trans hs4)
            clear hj4 hs4 Hrc
            have HE := Lib.hid (show WritTold w w1 j d pre M F (writesJ D (nm pre) M) (.returned (.int .i64 (e0 : Int))) _ from ⟨by rw [HZ.out], by rw [HZ.out]; exact HJ4.out.less fun _ h => .inl h, fun x hx => (HS4.out x (.inl hx)).trans (HsF.out x hx)⟩)
            go_wp2_with fail
            go_ret
            exact HE.out
end
end Go.Proofs.YtapfnehdgailmaaGreat

namespace Go.Proofs.YtapfnehdgailmaaGreat
open Go.RowKit Go.Sat Go.Maps

set_option maxRecDepth 100000 in
theorem ecl_calls {w : World} {p : Option Addr} {n c : Nat} {cs : List Value} (h : Holds w 4 (.slice p n c) n cs) (h1 : ∀ u ∈ cs, u.oneCell' = true) (hn : n ≤ 1099511627776) :
    Calls Tryz.prog 157 #[.slice p n c] w fun e w' => ∃ v, e = .returned v ∧ OwnR w' 50 4 v n cs ∧ (∀ k, v.ownBlock = some k → w.heap.size ≤ k) ∧ Below w.heap.size w w' := by
  obtain ⟨i4, hi4, hz40, hz41, hz42⟩ := info_parts (show (Tryz.prog.info? 50).map (fun i => (i.zero, i.size, i.bytes)) = some (some (.agg #[.int .i64 0, .int .i64 0, .slice none 0 0, .slice none 0 0]), 4, 64) by kernel_rfl)
  have q78 : ∀ (w : World) (a : Option Addr) (n c n' c' : Nat), (binOp .eql 78 (.slice a n c) (.slice none n' c')).run Tryz.prog w = .ok (.bool a.isNone) w := fun w a n c n' c' => Lib.run_eql_slice_nil w _ _ a n c n' c' Tryz.underlying78
  cases p with
  | none =>
    obtain ⟨hl, p', c', e, h0, -⟩ := h
    have hn0 : n = 0 := by
      simp only [Value.slice.injEq] at e
      exact h0 e.1.symm
    subst hn0
    have hcs : cs = [] := List.eq_nil_of_length_eq_zero (by simpa using hl)
    subst hcs
    go_enter Tryz.func157, Tryz.ntmps157
    go_wp2_with fail
    go_ret
    exact ⟨_, rfl, OwnR.nil _ _ _, fun k hk => (by cases hk), Below.refl _ _⟩
  | some a =>
    have H := Lib.hid h
    have H1 := Lib.hid h1
    clear h h1
    go_enter Tryz.func157, Tryz.ntmps157
    go_wp2_with (at_builtin; have hb := below_one0 w (.cells #[] 50); have hal : OwnR (w.alloc (.cells #[] 50)) 50 4 (.slice (some ⟨w.heap.size, 0, none⟩) 0 0) 0 [] := ⟨rfl, .inr ⟨w.heap.size, 0, #[], rfl, new_block w _, Nat.le_refl _, by decide, Nat.le_refl _, rfl⟩⟩; have hxx := Holds.chg H.out (Chg.of_below hb) fun _ _ => id; refine wpList_app _ rfl (.tmp 5) (.tmp 6) 78 rfl 50 i4 (.agg #[.int .i64 0, .int .i64 0, .slice none 0 0, .slice none 0 0]) 4 64 Tryz.underlying78 hi4 hz40 hz41 hz42 rfl (by decide) _ 0 _ rfl hal _ n _ rfl hxx H1.out (by unfold maxLen; omega) (by omega) ?_; intro v3 w3 hown3 hgrow3 hloc3; go_loud (have HE := Lib.hid (show OwnR w3 50 4 v3 n cs ∧ (∀ k, v3.ownBlock = some k → w.heap.size ≤ k) ∧ Below w.heap.size w w3 from ⟨by simpa using hown3, fun k hk => (by { rcases hloc3 with e | ⟨g, e, hge⟩; rw [hk] at e; cases e; exact Nat.le_refl _; rw [hk] at e; cases e; exact Nat.le_trans hb.size hge }), (((Chg.of_below hb).trans (Chg.of_grown hgrow3) fun k hk e => (by have e2 : k = w.heap.size := Option.some.inj e; omega) : Chg (fun _ => False) w w3)).below (Nat.le_refl _) fun _ _ e => e⟩); clear hb hal hxx hgrow3 hloc3; obtain ⟨p3, q3, rfl⟩ := OwnR.shape hown3; clear hown3))
    go_ret
    exact ⟨_, rfl, by have := HE.out; rwa [Nat.zero_add] at this⟩

theorem add_zero' (g o i : Nat) : (⟨g, o, none⟩ : Addr).add i = ⟨g, o + i, none⟩ := by unfold Addr.add; split <;> simp_all

theorem run_tail4 {P : Program} (w : World) {t e : TypeId} {i : TypeInfo} (ht : P.underlying t = some (.slice e)) (hi : P.info? e = some i) (p : Option Addr) (len cap k : Nat) (h : k ≤ len) (_h2 : len ≤ cap) :
    (Instr.slice t (.slice p len cap) (some (.int .i64 (k : Int))) none none).run P w = .ok (.slice (if cap = k then p else p.map fun x => x.add (k * i.size)) (len - k) (cap - k)) w := by
  have h1 : (Instr.sliceBound (.int .i64 (k : Int)) len .sliceB).run P w = .ok k w := by
    rw [run_sliceBound _ _ _ _ _ (by omega) (by omega)]
    simp
  simp [Instr.slice, run_underlying ht, Instr.sliceBounds, h1, sizeOf, typeInfo, hi, Result.andThen]

theorem holds_drop {w : World} {e : TypeId} {p : Option Addr} {n c k : Nat} {xs : List Value} (h : OwnR w e 4 (.slice p n c) n xs) (hk : k ≤ n) :
    Holds w 4 (.slice (if c = k then p else p.map fun x => x.add (k * 4)) (n - k) (c - k)) (n - k) (xs.drop (k * 4)) := by
  refine ⟨by rw [List.length_drop, h.1, Nat.sub_mul], _, _, rfl, fun e1 => ?_, fun a ha i u hu => ?_⟩
  · rcases h.2 with ⟨e2, hn⟩ | ⟨g, cap, cur, e2, hg, hnc, -⟩
    · omega
    · simp only [Value.slice.injEq] at e2
      obtain ⟨rfl, -, rfl⟩ := e2
      split at e1 <;> simp at e1
  · have hi := (List.getElem?_eq_some_iff.1 hu).1
    rw [List.length_drop, h.1] at hi
    rcases h.2 with ⟨e2, hn⟩ | ⟨g, cap, cur, e2, hg, hnc, -⟩
    · omega
    · simp only [Value.slice.injEq] at e2
      obtain ⟨rfl, -, rfl⟩ := e2
      rw [if_neg (by omega)] at ha
      simp only [Option.map_some, Option.some.injEq] at ha
      subst ha
      rw [add_zero, add_zero' g (k * 4) i]
      rw [List.getElem?_drop] at hu
      have := h.cells (g := g) rfl (k * 4 + i) u hu
      rwa [add_zero] at this

theorem entsC_one : ∀ (es : List Ent) (vs : List EV), (∀ v ∈ vs, v.1.oneCell' = true ∧ v.2.oneCell' = true) → ∀ u ∈ entsC es vs, u.oneCell' = true
  | [], vs, _, u, hu => by rw [show entsC [] vs = [] by cases vs <;> rfl] at hu; cases hu
  | _ :: _, [], _, u, hu => by cases hu
  | e :: es, v :: vs, h, u, hu => by
    have hv := h v (by simp)
    rcases List.mem_append.1 (show u ∈ entC e v ++ entsC es vs from hu) with hu | hu
    · simp only [entC, List.mem_cons, List.not_mem_nil, or_false] at hu
      rcases hu with rfl | rfl | rfl | rfl
      · rfl
      · rfl
      · exact hv.1
      · exact hv.2
    · exact entsC_one es vs (fun v hv => h v (by simp [hv])) u hu

theorem JouIn.shape {w : World} {j d : Nat} {pre : ByteArray} {own : Nat → Prop} {M : JouM} {gv dv ev : Value} {vs : List EV} (h : JouIn w j d pre own M gv dv ev vs) : ∀ v ∈ vs, v.1.oneCell' = true ∧ v.2.oneCell' = true := fun v hv => by
  obtain ⟨i, hi⟩ := List.getElem?_of_mem hv
  have hl := (List.getElem?_eq_some_iff.1 hi).1
  have he := h.rows.2 i _ v (List.getElem?_eq_getElem (by rw [← h.rows.1]; exact hl)) hi
  obtain ⟨p, c, e1, -⟩ := own_cap0 he.data
  obtain ⟨q, c2, e2, -⟩ := own_capI he.nodes
  rw [e1, e2]
  exact ⟨rfl, rfl⟩

theorem entsC_nil (vs : List EV) : entsC [] vs = [] := by cases vs <;> rfl

/-- What a snapshot is. -/
structure Snap.OK (s : Snap) : Prop where
  number : s.number ≤ 1099511627776
  term : isTm s.term = true
  group : isGrp s.group = true
  data : s.data.length ≤ 1073741824

theorem termAt_le {M : JouM} {i : Nat} {t : Int} (h : M.termAt (i : Int) = some t) : i ≤ M.last := by
  unfold JouM.termAt at h
  unfold JouM.last
  split at h
  · omega
  · split at h
    · cases h
    · cases he : M.entries[((i : Int) - (M.number : Int) - 1).toNat]? with
      | none => rw [he] at h; cases h
      | some e =>
        have := (List.getElem?_eq_some_iff.1 he).1
        omega

theorem rebase_ok {M : JouM} {s : Snap} (h : M.OK) (hs : s.OK) : (M.rebase s).OK := by
  have hl := h.last
  refine ⟨?_, hs.term, hs.group, h.now, h.vote, hs.data, fun e he => ?_⟩
  · show s.number + (if M.number < s.number ∧ M.termAt s.number = some s.term then M.entries.drop (s.number - M.number) else []).length ≤ _
    split
    · rename_i hc
      have := termAt_le hc.2
      unfold JouM.last at this hl
      rw [List.length_drop]
      omega
    · have := hs.number
      simpa using this
  · have he : e ∈ (if M.number < s.number ∧ M.termAt s.number = some s.term then M.entries.drop (s.number - M.number) else []) := he
    split at he
    · exact h.ents e (List.mem_of_mem_drop he)
    · cases he

section
variable {w w1 w2 : World} {j d : Nat} {pre : ByteArray} {D : DiskM} {M : JouM} {F F2 : Nat → Prop}

/-- The journal itself has turned, and has taken blocks that were set apart. -/
theorem JouF.turned2 {own own' : Nat → Prop} {M' : JouM} {gv' dv' ev' : Value} {vs' : List EV} (hS : St w w1 d D (fun k => own k ∨ F k)) (hn : ∀ k, own k → w.heap.size ≤ k ∧ ¬ F k) (hl : ∀ k, F k → k < w1.heap.size)
    (hL' : JouIn w2 j d pre own' M' gv' dv' ev' vs') (hc : Chg own w1 w2) (hx : ∀ k, own' k → own k ∨ w1.heap.size ≤ k ∨ (F k ∧ w.heap.size ≤ k)) (hF2 : ∀ k, F2 k → F k ∧ ¬ own' k) : JouF w w2 j d pre D M' F2 ∧ Same F2 w1 w2 := by
  refine ⟨⟨own', gv', dv', ev', vs', hL', hS.move hc (fun k _ hk => ⟨.inl hk, (hn k hk).1⟩) (fun k hk => ?_), fun k hk => ⟨?_, fun hf => (hF2 k hf).2 hk⟩, fun k hk => Nat.lt_of_lt_of_le (hl k (hF2 k hk).1) hc.size⟩, fun k hk => hc.block k (hl k (hF2 k hk).1) fun ho => (hn k ho).2 (hF2 k hk).1⟩
  · rcases hk with hk | hk
    · refine ⟨?_, hL'.olt k hk⟩
      rcases hx k hk with h | h | h
      · exact .inl (.inl h)
      · exact .inr h
      · exact .inl (.inr h.1)
    · exact ⟨.inl (.inr (hF2 k hk).1), Nat.lt_of_lt_of_le (hl k (hF2 k hk).1) hc.size⟩
  · rcases hx k hk with h | h | h
    · exact (hn k h).1
    · exact Nat.le_trans hS.below.size h
    · exact h.2

/-- The base, the data and the entries of a journal have turned. -/
theorem jouIn_base {own : Nat → Prop} {gv dv ev : Value} {vs : List EV} {s : Snap} {gn dn en : Value} {k : Nat} {es : List Ent} (hJ : JouIn w1 j d pre own M gv dv ev vs) (hs : s.OK) (hg : OwnI w1 gn s.group) (hd : OwnB w1 5 dn s.data) (hge : ∀ x, gn.ownBlock = some x ∨ dn.ownBlock = some x → ¬ own x)
    (hes : es = M.entries.drop k) (hb : Below w1.heap.size w1 w2) (he : OwnR w2 50 4 en es.length (entsC es (vs.drop k))) (hen : ∀ x, en.ownBlock = some x → w1.heap.size ≤ x) (hok : (JouM.mk s.number s.term s.group M.now M.vote s.data es M.dead).OK) :
    JouIn (((((w2.setCell ⟨j, 0, none⟩ (.int .i64 (s.number : Int))).setCell ⟨j, 1, none⟩ (.int .i64 s.term)).setCell ⟨j, 2, none⟩ gn).setCell ⟨j, 7, none⟩ dn).setCell ⟨j, 8, none⟩ en) j d pre (fun x => own x ∨ (gn.ownBlock = some x ∨ dn.ownBlock = some x) ∨ en.ownBlock = some x) (JouM.mk s.number s.term s.group M.now M.vote s.data es M.dead) gn dn en (vs.drop k) ∧
    Chg own w1 (((((w2.setCell ⟨j, 0, none⟩ (.int .i64 (s.number : Int))).setCell ⟨j, 1, none⟩ (.int .i64 s.term)).setCell ⟨j, 2, none⟩ gn).setCell ⟨j, 7, none⟩ dn).setCell ⟨j, 8, none⟩ en) := by
  have hsz := hb.size
  have hjl := hJ.olt j hJ.ol
  have hC : Chg (fun x => x = j) w2 (((((w2.setCell ⟨j, 0, none⟩ (.int .i64 (s.number : Int))).setCell ⟨j, 1, none⟩ (.int .i64 s.term)).setCell ⟨j, 2, none⟩ gn).setCell ⟨j, 7, none⟩ dn).setCell ⟨j, 8, none⟩ en) :=
    ((((Chg.setCell w2 ⟨j, 0, none⟩ _).trans (Chg.setCell _ ⟨j, 1, none⟩ _) fun _ _ e => e).trans (Chg.setCell _ ⟨j, 2, none⟩ _) fun _ _ e => e).trans (Chg.setCell _ ⟨j, 7, none⟩ _) fun _ _ e => e).trans (Chg.setCell _ ⟨j, 8, none⟩ _) fun _ _ e => e
  have hcell : (((((w2.setCell ⟨j, 0, none⟩ (.int .i64 (s.number : Int))).setCell ⟨j, 1, none⟩ (.int .i64 s.term)).setCell ⟨j, 2, none⟩ gn).setCell ⟨j, 7, none⟩ dn).setCell ⟨j, 8, none⟩ en).heap[j]? = some (.cells #[.int .i64 (s.number : Int), .int .i64 s.term, gn, .pointer (some ⟨d, 0, none⟩), .string pre, .int .i64 M.now, .int .i64 M.vote, dn, en, .bool M.dead] 132 (0, 0)) := by
    have h1 := set_block ((hb.block j hjl).trans hJ.cells) 0 (.int .i64 (s.number : Int))
    have h2 := set_block h1 1 (.int .i64 s.term)
    have h3 := set_block h2 2 gn
    have h4 := set_block h3 7 dn
    have h5 := set_block h4 8 en
    simpa using h5
  generalize ((((w2.setCell ⟨j, 0, none⟩ (.int .i64 (s.number : Int))).setCell ⟨j, 1, none⟩ (.int .i64 s.term)).setCell ⟨j, 2, none⟩ gn).setCell ⟨j, 7, none⟩ dn).setCell ⟨j, 8, none⟩ en = W at *
  have hk : ∀ x, x < w1.heap.size → x ≠ j → W.heap[x]? = w1.heap[x]? := fun x hx hne => (hC.block x (by omega) hne).trans (hb.block x hx)
  have hgj : ∀ x, gn.ownBlock = some x ∨ dn.ownBlock = some x → x ≠ j := fun x hx e => hge x hx (e ▸ hJ.ol)
  have hgl : ∀ x, gn.ownBlock = some x ∨ dn.ownBlock = some x → x < w1.heap.size := fun x hx => hx.elim (OwnR.lt hg) (OwnR.lt hd)
  have hmem : ∀ u ∈ vs.drop k, u ∈ vs := fun u hu => List.mem_of_mem_drop hu
  refine ⟨⟨hcell, OwnR.keep hg fun x hx => hk x (hgl x (.inl hx)) (hgj x (.inl hx)), OwnR.keep hd fun x hx => hk x (hgl x (.inr hx)) (hgj x (.inr hx)), he.keep fun x hx => hC.block x (he.lt hx) fun e => by have := hen x hx; omega, ⟨by show _ = es.length; rw [hes, List.length_drop, List.length_drop, hJ.rows.1], fun i e v h1 h2 => ?_⟩, .inl hJ.ol, fun x hx => ⟨.inr (.inl (.inl hx)), hgj x (.inl hx), fun e => by have h1 := hen x e; have h2 := hgl x (.inl hx); omega⟩, fun x hx => ⟨.inr (.inl (.inr hx)), hgj x (.inr hx), fun e => by have h1 := hen x e; have h2 := hgl x (.inr hx); omega⟩, fun x hx => ⟨.inr (.inr hx), fun e => by have := hen x hx; omega⟩, fun u hu x hx => ?_, fun x hx => ?_, hJ.psz, hok⟩, ?_⟩
  · have h1' : M.entries[k + i]? = some e := by
      have h1 : es[i]? = some e := h1
      rw [hes, List.getElem?_drop] at h1
      exact h1
    have h2' : vs[k + i]? = some v := by rw [List.getElem?_drop] at h2; exact h2
    have hv := hmem v (List.mem_of_getElem? h2)
    exact (hJ.rows.2 _ e v h1' h2').keep fun x hx => hk x (hJ.olt x (hJ.ov v hv x hx).1) (hJ.ov v hv x hx).2.1
  · have h3 := hJ.ov u (hmem u hu) x hx
    exact ⟨.inl h3.1, h3.2.1, fun e => by have h1 := hen x e; have h2 := hJ.olt x h3.1; omega⟩
  · have hCs := hC.size
    rcases hx with hx | hx | hx
    · have := hJ.olt x hx
      omega
    · have := hgl x hx
      omega
    · have := he.lt hx
      omega
  · exact ((Chg.of_below hb).mono (T := own) fun _ _ e => e.elim).trans hC fun x _ e => by rw [e]; exact hJ.ol

set_option maxRecDepth 100000 in
set_option maxHeartbeats 8000000 in
theorem jrebase_calls (h : JouF w w1 j d pre D M F) {s : Snap} (hs : s.OK) {pg pd : Option Addr} {cg cd : Nat} (hg : OwnI w1 (.slice pg s.group.length cg) s.group) (hd : OwnB w1 5 (.slice pd s.data.length cd) s.data)
    (hF : ∀ k, (Value.slice pg s.group.length cg).ownBlock = some k ∨ (Value.slice pd s.data.length cd).ownBlock = some k → F k ∧ w.heap.size ≤ k)
    (hF2 : ∀ k, F2 k → F k ∧ (Value.slice pg s.group.length cg).ownBlock ≠ some k ∧ (Value.slice pd s.data.length cd).ownBlock ≠ some k) :
    Calls Tryz.prog 79 #[.pointer (some ⟨j, 0, none⟩), .agg #[.int .i64 (s.number : Int), .int .i64 s.term, .slice pg s.group.length cg], .slice pd s.data.length cd] w1 fun e w' => e = .returned (.tuple #[]) ∧ JouF w w' j d pre D (M.rebase s) F2 ∧ Same F2 w1 w' := by
  obtain ⟨i0, hii, -, hi4s, -⟩ := info_parts (show (Tryz.prog.info? 50).map (fun i => (i.zero, i.size, i.bytes)) = some (some (.agg #[.int .i64 0, .int .i64 0, .slice none 0 0, .slice none 0 0]), 4, 64) by kernel_rfl)
  have hsn := hs.number
  have hsl := hs.data
  have hsg := (grp_len hs.group).2
  have hlast := h.okM.last
  have hbx := below_one w1 (.cells #[.int .i64 (s.number : Int), .int .i64 s.term, .slice pg s.group.length cg] 130)
  have Hta := Lib.hid (jtermAt_calls (h.next hbx) (s.number : Int) (by omega))
  obtain ⟨own, gv, dv, ev, vs, hJ, hS, hn, hl⟩ := id h
  obtain ⟨pe, ce, rfl⟩ := hJ.row.shape
  have c0 := al_cell (hJ.c 0 rfl) (.cells #[.int .i64 (s.number : Int), .int .i64 s.term, .slice pg s.group.length cg] 130)
  have c8 := al_cell (hJ.c 8 rfl) (.cells #[.int .i64 (s.number : Int), .int .i64 s.term, .slice pg s.group.length cg] 130)
  have hce : M.entries.length ≤ ce := by
    rcases hJ.row.2 with ⟨e1, e2⟩ | ⟨g, cap, cur, e1, -, e3, -⟩
    · rw [e2]; exact Nat.zero_le _
    · simp only [Value.slice.injEq] at e1; omega
  have HJlt := Lib.hid (hJ.olt j hJ.ol)
  have HJne := Lib.hid (show w1.heap.size ≠ (⟨j, 0, none⟩ : Addr).block from fun e => by have := hJ.olt j hJ.ol; have e2 : w1.heap.size = j := e; omega)
  have HJc := Lib.hid hJ.cells
  have HFin0 := Lib.hid (fun (k : Nat) (es : List Ent) (hes : es = M.entries.drop k) (hst : M.rebase s = JouM.mk s.number s.term s.group M.now M.vote s.data es M.dead) (wq : World) (en : Value) (hb : Below w1.heap.size w1 wq) (hen : OwnR wq 50 4 en es.length (entsC es (vs.drop k))) (henn : ∀ x, en.ownBlock = some x → w1.heap.size ≤ x) => show JouF w (((((wq.setCell ⟨j, 0, none⟩ (.int .i64 (s.number : Int))).setCell ⟨j, 1, none⟩ (.int .i64 s.term)).setCell ⟨j, 2, none⟩ (.slice pg s.group.length cg)).setCell ⟨j, 7, none⟩ (.slice pd s.data.length cd)).setCell ⟨j, 8, none⟩ en) j d pre D (M.rebase s) F2 ∧ Same F2 w1 (((((wq.setCell ⟨j, 0, none⟩ (.int .i64 (s.number : Int))).setCell ⟨j, 1, none⟩ (.int .i64 s.term)).setCell ⟨j, 2, none⟩ (.slice pg s.group.length cg)).setCell ⟨j, 7, none⟩ (.slice pd s.data.length cd)).setCell ⟨j, 8, none⟩ en) from by
    have hro := rebase_ok hJ.ok hs
    rw [hst] at hro ⊢
    obtain ⟨hA, hB⟩ := jouIn_base hJ hs hg hd (fun x hx ho => (hn x ho).2 (hF x hx).1) hes hb hen henn hro
    refine JouF.turned2 hS hn hl hA hB (fun x hx => ?_) fun x hx => ⟨(hF2 x hx).1, fun ho => ?_⟩
    · rcases hx with hx | hx | hx
      · exact .inl hx
      · exact .inr (.inr (hF x hx))
      · exact .inr (.inl (henn x hx))
    · rcases ho with ho | ho | ho
      · exact (hn x ho).2 (hF2 x hx).1
      · exact ho.elim (hF2 x hx).2.1 (hF2 x hx).2.2
      · have h1 := henn x ho
        have h2 := hl x (hF2 x hx).1
        omega)
  have Hbase := Lib.hid (new_block w1 (.cells #[.int .i64 (s.number : Int), .int .i64 s.term, .slice pg s.group.length cg] 130))
  have HBB := Lib.hid hbx
  have hrow := hJ.row
  cases hta : M.termAt (s.number : Int) with
  | none =>
    have hnc : ¬ (M.number < s.number ∧ M.termAt (s.number : Int) = some s.term) := fun e => by rw [hta] at e; cases e.2
    have hst : M.rebase s = JouM.mk s.number s.term s.group M.now M.vote s.data [] M.dead := by
      unfold JouM.rebase
      rw [if_neg hnc]
    have HFin := Lib.hid (fun wq en (hb : Below w1.heap.size w1 wq) (hen : OwnR wq 50 4 en 0 []) henn => HFin0.out M.entries.length [] (by rw [List.drop_length]) hst wq en hb (by rw [entsC_nil]; exact hen) henn)
    have Hcl := Lib.hid (fun W (_ : Below w1.heap.size w1 W) => ecl_calls (w := W) (p := none) (n := 0) (c := 0) (cs := []) ⟨rfl, none, 0, rfl, fun _ => rfl, fun a ha => by cases ha⟩ (fun u hu => by cases hu) (by decide))
    rw [hta] at Hta
    clear h hs hg hd hF hF2 hJ hS hn hl hrow hta hnc hst HFin0 hbx hce
    go_enter Tryz.func79, Tryz.ntmps79
    go_wp2_with fail
    refine Hta.out.mono ?_
    rintro r w2 ⟨rfl, q, rfl⟩
    have c0 : ((w1.alloc (.cells #[.int .i64 (s.number : Int), .int .i64 s.term, .slice pg s.group.length cg] 130)).drewN q).cell? ⟨j, 0, none⟩ = some (.int .i64 (M.number : Int)) := c0
    have c8 : ((w1.alloc (.cells #[.int .i64 (s.number : Int), .int .i64 s.term, .slice pg s.group.length cg] 130)).drewN q).cell? ⟨j, 8, none⟩ = some (.slice pe M.entries.length ce) := c8
    have z0 : ((w1.alloc (.cells #[.int .i64 (s.number : Int), .int .i64 s.term, .slice pg s.group.length cg] 130)).drewN q).cell? ⟨w1.heap.size, 0, none⟩ = some (.int .i64 (s.number : Int)) := cell_of (Hbase.out) (i := 0) rfl
    have z1 : ((w1.alloc (.cells #[.int .i64 (s.number : Int), .int .i64 s.term, .slice pg s.group.length cg] 130)).drewN q).cell? ⟨w1.heap.size, 1, none⟩ = some (.int .i64 s.term) := cell_of (Hbase.out) (i := 1) rfl

    go_wp2_with fail
    go_quiet (fail)
    go_wp2_with fail
    generalize hWQ : (World.drewN _ _) = WQ
    have HBq := Lib.hid (show Below w1.heap.size w1 WQ from by rw [← hWQ]; exact HBB.out.trans ⟨rfl, rfl, rfl, by simp [World.drewN], fun _ _ => rfl⟩)
    have Hbox := Lib.hid (show WQ.drew.heap[w1.heap.size]? = some (.cells #[.int .i64 (s.number : Int), .int .i64 s.term, .slice pg s.group.length cg] 130 (0, 0)) from by rw [← hWQ]; exact Hbase.out)
    clear hWQ c0 c8 z0 z1
    refine ord_start (fun w' : World => w'.heap[w1.heap.size]? = some (.cells #[.int .i64 (s.number : Int), .int .i64 s.term, .slice pg s.group.length cg] 130 (0, 0))) (n := 16) (by kernel_rfl) rfl (Hbox.out) (fun hHeld => ?_)
    have HBd := Lib.hid (show Below w1.heap.size w1 WQ.drew from HBq.out.trans ⟨rfl, rfl, rfl, Nat.le_refl _, fun _ _ => rfl⟩)
    generalize WQ.drew = W1 at *
    refine ord_take 0 (v := ?v21x0) rfl (by kernel_rfl) (by kernel_rfl) (by kernel_rfl) (fun _ _ _ h => h) (by rfl) (by assumption) ?y21x0 ?_
    case y21x0 => (intro w hSw; (try dsimp only at hSw); go_simp; try with_reducible rfl)
    simp only [Act.put, List.setIfInBounds_toArray, List.set_cons_zero, List.set_cons_succ]
    refine ord_take 1 (v := ?v21x1) rfl (by kernel_rfl) (by kernel_rfl) (by kernel_rfl) (fun _ _ _ h => h) (by rfl) (by assumption) ?y21x1 ?_
    case y21x1 => (intro w hSw; (try dsimp only at hSw); go_simp; try with_reducible rfl)
    simp only [Act.put, List.setIfInBounds_toArray, List.set_cons_zero, List.set_cons_succ]
    refine ord_take 2 (v := ?v21x2) rfl (by kernel_rfl) (by kernel_rfl) (by kernel_rfl) (fun _ _ _ h => h) (by rfl) (by assumption) ?y21x2 ?_
    case y21x2 => (intro w hSw; (try dsimp only at hSw); go_simp; try with_reducible rfl)
    simp only [Act.put, List.setIfInBounds_toArray, List.set_cons_zero, List.set_cons_succ]
    refine ord_take 3 (v := .agg #[.int .i64 (s.number : Int), .int .i64 s.term, .slice pg s.group.length cg]) rfl (by kernel_rfl) (by kernel_rfl) (by kernel_rfl) (fun _ _ _ h => h) (by rfl) (by assumption) (fun W hSw => by have q0 := cell_of hSw (i := 0) rfl; have q1 := cell_of hSw (i := 1) rfl; have q2 := cell_of hSw (i := 2) rfl; go_simp; try with_reducible rfl) ?_
    simp only [Act.put, List.setIfInBounds_toArray, List.set_cons_zero, List.set_cons_succ]
    refine ord_take 4 (v := ?v21x4) rfl (by kernel_rfl) (by kernel_rfl) (by kernel_rfl) (fun _ _ _ h => h) (by rfl) (by assumption) ?y21x4 ?_
    case y21x4 => (intro w hSw; (try dsimp only at hSw); go_simp; try with_reducible rfl)
    simp only [Act.put, List.setIfInBounds_toArray, List.set_cons_zero, List.set_cons_succ]
    refine ord_take 5 (v := ?v21x5) rfl (by kernel_rfl) (by kernel_rfl) (by kernel_rfl) (fun _ _ _ h => h) (by rfl) (by assumption) ?y21x5 ?_
    case y21x5 => (intro w hSw; (try dsimp only at hSw); go_simp; try with_reducible rfl)
    simp only [Act.put, List.setIfInBounds_toArray, List.set_cons_zero, List.set_cons_succ]
    refine ord_one 6 rfl (by kernel_rfl) (by rfl) (fun K hK => ?_)
    go_wp2_with fail
    refine (Hcl.out W1 HBd.out).mono ?_
    rintro e wq ⟨en, rfl, hen, henn, hbq⟩
    have HB5 := Lib.hid (HBd.out.trans (hbq.mono HBd.out.size))
    have Hh5 := Lib.hid ((hbq.block _ (lt_of_block hHeld)).trans hHeld)
    have HFn := Lib.hid (HFin.out wq en HB5.out hen (fun x hx => Nat.le_trans HBd.out.size (henn x hx)))
    have Hjc := Lib.hid ((HB5.out.block j HJlt.out).trans HJc.out)
    obtain ⟨pn, qn, rfl⟩ := OwnR.shape hen
    clear hen henn hbq Hcl HFin
    go_wp2_with fail
    refine hK.out _ _ (Hh5.out) (fun hHeld => ?_)
    clear hK
    try simp only [Act.put, List.setIfInBounds_toArray, List.set_cons_zero, List.set_cons_succ]
    refine ord_take 7 (v := ?v21x7) rfl (by kernel_rfl) (by kernel_rfl) (by kernel_rfl) (fun _ _ _ h => h) (by rfl) (by assumption) ?y21x7 ?_
    case y21x7 => (intro w hSw; (try dsimp only at hSw); go_simp; try with_reducible rfl)
    simp only [Act.put, List.setIfInBounds_toArray, List.set_cons_zero, List.set_cons_succ]
    refine ord_take 8 (v := ?v21x8) rfl (by kernel_rfl) (by kernel_rfl) (by kernel_rfl) (fun _ _ _ h => h) (by rfl) (by assumption) ?y21x8 ?_
    case y21x8 => (intro w hSw; (try dsimp only at hSw); go_simp; try with_reducible rfl)
    simp only [Act.put, List.setIfInBounds_toArray, List.set_cons_zero, List.set_cons_succ]
    refine ord_one 9 rfl (by kernel_rfl) (by rfl) (fun K hK => ?_)
    have b0 := cell_of Hjc.out (i := 0) rfl
    have b1 := cell_of Hjc.out (i := 1) rfl
    have b2 := cell_of Hjc.out (i := 2) rfl
    have fr := frozen_of Hjc.out
    have Hh6 := Lib.hid (show (((wq.setCell ⟨j, 0, none⟩ (.int .i64 (s.number : Int))).setCell ⟨j, 1, none⟩ (.int .i64 s.term)).setCell ⟨j, 2, none⟩ (.slice pg s.group.length cg)).heap[w1.heap.size]? = some (.cells #[.int .i64 (s.number : Int), .int .i64 s.term, .slice pg s.group.length cg] 130 (0, 0)) from (set_other _ HJne.out).trans ((set_other _ HJne.out).trans ((set_other _ HJne.out).trans hHeld)))
    have Hj6 := Lib.hid (set_block (set_block (set_block Hjc.out 0 (.int .i64 (s.number : Int))) 1 (.int .i64 s.term)) 2 (.slice pg s.group.length cg))
    go_wp2_with fail
    clear b0 b1 b2 fr
    refine hK.out _ _ (Hh6.out) (fun hHeld => ?_)
    clear hK
    try simp only [Act.put, List.setIfInBounds_toArray, List.set_cons_zero, List.set_cons_succ]
    refine ord_take 10 (v := ?v21x10) rfl (by kernel_rfl) (by kernel_rfl) (by kernel_rfl) (fun _ _ _ h => h) (by rfl) (by assumption) ?y21x10 ?_
    case y21x10 => (intro w hSw; (try dsimp only at hSw); go_simp; try with_reducible rfl)
    simp only [Act.put, List.setIfInBounds_toArray, List.set_cons_zero, List.set_cons_succ]
    refine ord_take 11 (v := ?v21x11) rfl (by kernel_rfl) (by kernel_rfl) (by kernel_rfl) (fun _ _ _ h => h) (by rfl) (by assumption) ?y21x11 ?_
    case y21x11 => (intro w hSw; (try dsimp only at hSw); go_simp; try with_reducible rfl)
    simp only [Act.put, List.setIfInBounds_toArray, List.set_cons_zero, List.set_cons_succ]
    refine ord_one 12 rfl (by kernel_rfl) (by rfl) (fun K hK => ?_)
    have b7 := cell_of Hj6.out (i := 7) rfl
    have f7 := frozen_of Hj6.out 7
    have Hh7 := Lib.hid (show ((((wq.setCell ⟨j, 0, none⟩ (.int .i64 (s.number : Int))).setCell ⟨j, 1, none⟩ (.int .i64 s.term)).setCell ⟨j, 2, none⟩ (.slice pg s.group.length cg)).setCell ⟨j, 7, none⟩ (.slice pd s.data.length cd)).heap[w1.heap.size]? = some (.cells #[.int .i64 (s.number : Int), .int .i64 s.term, .slice pg s.group.length cg] 130 (0, 0)) from (set_other _ HJne.out).trans hHeld)
    have Hj7 := Lib.hid (set_block Hj6.out 7 (.slice pd s.data.length cd))
    go_wp2_with fail
    clear b7 f7
    refine hK.out _ _ (Hh7.out) (fun hHeld => ?_)
    clear hK
    try simp only [Act.put, List.setIfInBounds_toArray, List.set_cons_zero, List.set_cons_succ]
    refine ord_take 13 (v := ?v21x13) rfl (by kernel_rfl) (by kernel_rfl) (by kernel_rfl) (fun _ _ _ h => h) (by rfl) (by assumption) ?y21x13 ?_
    case y21x13 => (intro w hSw; (try dsimp only at hSw); go_simp; try with_reducible rfl)
    simp only [Act.put, List.setIfInBounds_toArray, List.set_cons_zero, List.set_cons_succ]
    refine ord_take 14 (v := ?v21x14) rfl (by kernel_rfl) (by kernel_rfl) (by kernel_rfl) (fun _ _ _ h => h) (by rfl) (by assumption) ?y21x14 ?_
    case y21x14 => (intro w hSw; (try dsimp only at hSw); go_simp; try with_reducible rfl)
    simp only [Act.put, List.setIfInBounds_toArray, List.set_cons_zero, List.set_cons_succ]
    refine ord_one 15 rfl (by kernel_rfl) (by rfl) (fun K hK => ?_)
    have b8 := cell_of Hj7.out (i := 8) rfl
    have f8 := frozen_of Hj7.out 8
    have Hh8 := Lib.hid (fun x => (show (((((wq.setCell ⟨j, 0, none⟩ (.int .i64 (s.number : Int))).setCell ⟨j, 1, none⟩ (.int .i64 s.term)).setCell ⟨j, 2, none⟩ (.slice pg s.group.length cg)).setCell ⟨j, 7, none⟩ (.slice pd s.data.length cd)).setCell ⟨j, 8, none⟩ x).heap[w1.heap.size]? = some (.cells #[.int .i64 (s.number : Int), .int .i64 s.term, .slice pg s.group.length cg] 130 (0, 0)) from (set_other _ HJne.out).trans hHeld))
    go_wp2_with fail
    clear b8 f8
    refine hK.out _ _ (Hh8.out _) (fun hHeld => ?_)
    clear hK
    try simp only [Act.put, List.setIfInBounds_toArray, List.set_cons_zero, List.set_cons_succ]
    refine wpAnyH_done (by kernel_rfl) ?_ _
    go_wp2_with fail
    go_end0
    exact ⟨rfl, HFn.out⟩
  | some t =>
    by_cases hcs : M.number < s.number ∧ t = s.term
    · obtain ⟨hlt, rfl⟩ := hcs
      have hle := termAt_le hta
      unfold JouM.last at hle hlast
      have hst : M.rebase s = JouM.mk s.number s.term s.group M.now M.vote s.data (M.entries.drop (s.number - M.number)) M.dead := by
        unfold JouM.rebase
        rw [if_pos ⟨hlt, hta⟩]
      generalize hk : s.number - M.number = k at *
      have hkl : k ≤ M.entries.length := by omega
      have HFin := Lib.hid (fun wq en (hb : Below w1.heap.size w1 wq) (hen : OwnR wq 50 4 en (M.entries.length - k) ((entsC M.entries vs).drop (k * 4))) henn => HFin0.out k _ rfl hst wq en hb (by rw [List.length_drop, entsC_drop _ _ _ hJ.rows.1]; exact hen) henn)
      have hhd := holds_drop hrow hkl
      have Hcl := Lib.hid (fun W (hb : Below w1.heap.size w1 W) => ecl_calls (Holds.chg hhd (Chg.of_below hb) fun _ _ => id) (fun u hu => entsC_one _ _ (fun v hv => hJ.shape v hv) u (List.mem_of_mem_drop hu)) (by omega))
      have hsl4 : ∀ W, (Instr.slice 78 (.slice pe M.entries.length ce) (some (.int .i64 (k : Int))) none none).run Tryz.prog W = .ok (.slice (if ce = k then pe else pe.map fun x => x.add (k * 4)) (M.entries.length - k) (ce - k)) W := fun W => by
        have := run_tail4 (P := Tryz.prog) W Tryz.underlying78 hii pe M.entries.length ce k hkl hce
        rwa [hi4s] at this
      have hw4 : IntKind.i64.wrap ((s.number : Int) - (M.number : Int)) = (k : Int) := by rw [IntWalk.i64_in _ (by omega)]; omega
      have hd1 : decide (M.number < s.number) = true := by simpa using hlt
      have hd2 : decide ((M.number : Int) < (s.number : Int)) = true := by simp; omega
      rw [hta] at Hta
      clear h hs hg hd hF hF2 hJ hS hn hl hrow hta hst HFin0 hbx hce hle hk hhd hlast
      generalize (if ce = k then pe else pe.map fun x => x.add (k * 4)) = pk at *
      go_enter Tryz.func79, Tryz.ntmps79
      go_wp2_with fail
      refine Hta.out.mono ?_
      rintro r w2 ⟨rfl, q, rfl⟩
      have c0 : ((w1.alloc (.cells #[.int .i64 (s.number : Int), .int .i64 s.term, .slice pg s.group.length cg] 130)).drewN q).cell? ⟨j, 0, none⟩ = some (.int .i64 (M.number : Int)) := c0
      have c8 : ((w1.alloc (.cells #[.int .i64 (s.number : Int), .int .i64 s.term, .slice pg s.group.length cg] 130)).drewN q).cell? ⟨j, 8, none⟩ = some (.slice pe M.entries.length ce) := c8
      have z0 : ((w1.alloc (.cells #[.int .i64 (s.number : Int), .int .i64 s.term, .slice pg s.group.length cg] 130)).drewN q).cell? ⟨w1.heap.size, 0, none⟩ = some (.int .i64 (s.number : Int)) := cell_of (Hbase.out) (i := 0) rfl
      have z1 : ((w1.alloc (.cells #[.int .i64 (s.number : Int), .int .i64 s.term, .slice pg s.group.length cg] 130)).drewN q).cell? ⟨w1.heap.size, 1, none⟩ = some (.int .i64 s.term) := cell_of (Hbase.out) (i := 1) rfl

      go_wp2_with fail
      go_quiet (fail)
      go_wp2_with fail
      go_quiet (fail)
      go_wp2_with fail
      generalize hWQ : (World.drewN _ _) = WQ
      have HBq := Lib.hid (show Below w1.heap.size w1 WQ from by rw [← hWQ]; exact HBB.out.trans ⟨rfl, rfl, rfl, by simp [World.drewN], fun _ _ => rfl⟩)
      have Hbox := Lib.hid (show WQ.drew.heap[w1.heap.size]? = some (.cells #[.int .i64 (s.number : Int), .int .i64 s.term, .slice pg s.group.length cg] 130 (0, 0)) from by rw [← hWQ]; exact Hbase.out)
      clear hWQ c0 c8 z0 z1
      refine ord_start (fun w' : World => w'.heap[w1.heap.size]? = some (.cells #[.int .i64 (s.number : Int), .int .i64 s.term, .slice pg s.group.length cg] 130 (0, 0))) (n := 16) (by kernel_rfl) rfl (Hbox.out) (fun hHeld => ?_)
      have HBd := Lib.hid (show Below w1.heap.size w1 WQ.drew from HBq.out.trans ⟨rfl, rfl, rfl, Nat.le_refl _, fun _ _ => rfl⟩)
      generalize WQ.drew = W1 at *
      refine ord_take 0 (v := ?v22x0) rfl (by kernel_rfl) (by kernel_rfl) (by kernel_rfl) (fun _ _ _ h => h) (by rfl) (by assumption) ?y22x0 ?_
      case y22x0 => (intro w hSw; (try dsimp only at hSw); go_simp; try with_reducible rfl)
      simp only [Act.put, List.setIfInBounds_toArray, List.set_cons_zero, List.set_cons_succ]
      refine ord_take 1 (v := ?v22x1) rfl (by kernel_rfl) (by kernel_rfl) (by kernel_rfl) (fun _ _ _ h => h) (by rfl) (by assumption) ?y22x1 ?_
      case y22x1 => (intro w hSw; (try dsimp only at hSw); go_simp; try with_reducible rfl)
      simp only [Act.put, List.setIfInBounds_toArray, List.set_cons_zero, List.set_cons_succ]
      refine ord_take 2 (v := ?v22x2) rfl (by kernel_rfl) (by kernel_rfl) (by kernel_rfl) (fun _ _ _ h => h) (by rfl) (by assumption) ?y22x2 ?_
      case y22x2 => (intro w hSw; (try dsimp only at hSw); go_simp; try with_reducible rfl)
      simp only [Act.put, List.setIfInBounds_toArray, List.set_cons_zero, List.set_cons_succ]
      refine ord_take 3 (v := .agg #[.int .i64 (s.number : Int), .int .i64 s.term, .slice pg s.group.length cg]) rfl (by kernel_rfl) (by kernel_rfl) (by kernel_rfl) (fun _ _ _ h => h) (by rfl) (by assumption) (fun W hSw => by have q0 := cell_of hSw (i := 0) rfl; have q1 := cell_of hSw (i := 1) rfl; have q2 := cell_of hSw (i := 2) rfl; go_simp; try with_reducible rfl) ?_
      simp only [Act.put, List.setIfInBounds_toArray, List.set_cons_zero, List.set_cons_succ]
      refine ord_take 4 (v := ?v22x4) rfl (by kernel_rfl) (by kernel_rfl) (by kernel_rfl) (fun _ _ _ h => h) (by rfl) (by assumption) ?y22x4 ?_
      case y22x4 => (intro w hSw; (try dsimp only at hSw); go_simp; try with_reducible rfl)
      simp only [Act.put, List.setIfInBounds_toArray, List.set_cons_zero, List.set_cons_succ]
      refine ord_take 5 (v := ?v22x5) rfl (by kernel_rfl) (by kernel_rfl) (by kernel_rfl) (fun _ _ _ h => h) (by rfl) (by assumption) ?y22x5 ?_
      case y22x5 => (intro w hSw; (try dsimp only at hSw); go_simp; try with_reducible rfl)
      simp only [Act.put, List.setIfInBounds_toArray, List.set_cons_zero, List.set_cons_succ]
      refine ord_one 6 rfl (by kernel_rfl) (by rfl) (fun K hK => ?_)
      go_wp2_with fail
      refine (Hcl.out W1 HBd.out).mono ?_
      rintro e wq ⟨en, rfl, hen, henn, hbq⟩
      have HB5 := Lib.hid (HBd.out.trans (hbq.mono HBd.out.size))
      have Hh5 := Lib.hid ((hbq.block _ (lt_of_block hHeld)).trans hHeld)
      have HFn := Lib.hid (HFin.out wq en HB5.out hen (fun x hx => Nat.le_trans HBd.out.size (henn x hx)))
      have Hjc := Lib.hid ((HB5.out.block j HJlt.out).trans HJc.out)
      obtain ⟨pn, qn, rfl⟩ := OwnR.shape hen
      clear hen henn hbq Hcl HFin
      go_wp2_with fail
      refine hK.out _ _ (Hh5.out) (fun hHeld => ?_)
      clear hK
      try simp only [Act.put, List.setIfInBounds_toArray, List.set_cons_zero, List.set_cons_succ]
      refine ord_take 7 (v := ?v22x7) rfl (by kernel_rfl) (by kernel_rfl) (by kernel_rfl) (fun _ _ _ h => h) (by rfl) (by assumption) ?y22x7 ?_
      case y22x7 => (intro w hSw; (try dsimp only at hSw); go_simp; try with_reducible rfl)
      simp only [Act.put, List.setIfInBounds_toArray, List.set_cons_zero, List.set_cons_succ]
      refine ord_take 8 (v := ?v22x8) rfl (by kernel_rfl) (by kernel_rfl) (by kernel_rfl) (fun _ _ _ h => h) (by rfl) (by assumption) ?y22x8 ?_
      case y22x8 => (intro w hSw; (try dsimp only at hSw); go_simp; try with_reducible rfl)
      simp only [Act.put, List.setIfInBounds_toArray, List.set_cons_zero, List.set_cons_succ]
      refine ord_one 9 rfl (by kernel_rfl) (by rfl) (fun K hK => ?_)
      have b0 := cell_of Hjc.out (i := 0) rfl
      have b1 := cell_of Hjc.out (i := 1) rfl
      have b2 := cell_of Hjc.out (i := 2) rfl
      have fr := frozen_of Hjc.out
      have Hh6 := Lib.hid (show (((wq.setCell ⟨j, 0, none⟩ (.int .i64 (s.number : Int))).setCell ⟨j, 1, none⟩ (.int .i64 s.term)).setCell ⟨j, 2, none⟩ (.slice pg s.group.length cg)).heap[w1.heap.size]? = some (.cells #[.int .i64 (s.number : Int), .int .i64 s.term, .slice pg s.group.length cg] 130 (0, 0)) from (set_other _ HJne.out).trans ((set_other _ HJne.out).trans ((set_other _ HJne.out).trans hHeld)))
      have Hj6 := Lib.hid (set_block (set_block (set_block Hjc.out 0 (.int .i64 (s.number : Int))) 1 (.int .i64 s.term)) 2 (.slice pg s.group.length cg))
      go_wp2_with fail
      clear b0 b1 b2 fr
      refine hK.out _ _ (Hh6.out) (fun hHeld => ?_)
      clear hK
      try simp only [Act.put, List.setIfInBounds_toArray, List.set_cons_zero, List.set_cons_succ]
      refine ord_take 10 (v := ?v22x10) rfl (by kernel_rfl) (by kernel_rfl) (by kernel_rfl) (fun _ _ _ h => h) (by rfl) (by assumption) ?y22x10 ?_
      case y22x10 => (intro w hSw; (try dsimp only at hSw); go_simp; try with_reducible rfl)
      simp only [Act.put, List.setIfInBounds_toArray, List.set_cons_zero, List.set_cons_succ]
      refine ord_take 11 (v := ?v22x11) rfl (by kernel_rfl) (by kernel_rfl) (by kernel_rfl) (fun _ _ _ h => h) (by rfl) (by assumption) ?y22x11 ?_
      case y22x11 => (intro w hSw; (try dsimp only at hSw); go_simp; try with_reducible rfl)
      simp only [Act.put, List.setIfInBounds_toArray, List.set_cons_zero, List.set_cons_succ]
      refine ord_one 12 rfl (by kernel_rfl) (by rfl) (fun K hK => ?_)
      have b7 := cell_of Hj6.out (i := 7) rfl
      have f7 := frozen_of Hj6.out 7
      have Hh7 := Lib.hid (show ((((wq.setCell ⟨j, 0, none⟩ (.int .i64 (s.number : Int))).setCell ⟨j, 1, none⟩ (.int .i64 s.term)).setCell ⟨j, 2, none⟩ (.slice pg s.group.length cg)).setCell ⟨j, 7, none⟩ (.slice pd s.data.length cd)).heap[w1.heap.size]? = some (.cells #[.int .i64 (s.number : Int), .int .i64 s.term, .slice pg s.group.length cg] 130 (0, 0)) from (set_other _ HJne.out).trans hHeld)
      have Hj7 := Lib.hid (set_block Hj6.out 7 (.slice pd s.data.length cd))
      go_wp2_with fail
      clear b7 f7
      refine hK.out _ _ (Hh7.out) (fun hHeld => ?_)
      clear hK
      try simp only [Act.put, List.setIfInBounds_toArray, List.set_cons_zero, List.set_cons_succ]
      refine ord_take 13 (v := ?v22x13) rfl (by kernel_rfl) (by kernel_rfl) (by kernel_rfl) (fun _ _ _ h => h) (by rfl) (by assumption) ?y22x13 ?_
      case y22x13 => (intro w hSw; (try dsimp only at hSw); go_simp; try with_reducible rfl)
      simp only [Act.put, List.setIfInBounds_toArray, List.set_cons_zero, List.set_cons_succ]
      refine ord_take 14 (v := ?v22x14) rfl (by kernel_rfl) (by kernel_rfl) (by kernel_rfl) (fun _ _ _ h => h) (by rfl) (by assumption) ?y22x14 ?_
      case y22x14 => (intro w hSw; (try dsimp only at hSw); go_simp; try with_reducible rfl)
      simp only [Act.put, List.setIfInBounds_toArray, List.set_cons_zero, List.set_cons_succ]
      refine ord_one 15 rfl (by kernel_rfl) (by rfl) (fun K hK => ?_)
      have b8 := cell_of Hj7.out (i := 8) rfl
      have f8 := frozen_of Hj7.out 8
      have Hh8 := Lib.hid (fun x => (show (((((wq.setCell ⟨j, 0, none⟩ (.int .i64 (s.number : Int))).setCell ⟨j, 1, none⟩ (.int .i64 s.term)).setCell ⟨j, 2, none⟩ (.slice pg s.group.length cg)).setCell ⟨j, 7, none⟩ (.slice pd s.data.length cd)).setCell ⟨j, 8, none⟩ x).heap[w1.heap.size]? = some (.cells #[.int .i64 (s.number : Int), .int .i64 s.term, .slice pg s.group.length cg] 130 (0, 0)) from (set_other _ HJne.out).trans hHeld))
      go_wp2_with fail
      clear b8 f8
      refine hK.out _ _ (Hh8.out _) (fun hHeld => ?_)
      clear hK
      try simp only [Act.put, List.setIfInBounds_toArray, List.set_cons_zero, List.set_cons_succ]
      refine wpAnyH_done (by kernel_rfl) ?_ _
      go_wp2_with fail
      go_end0
      exact ⟨rfl, HFn.out⟩
    · have hnc : ¬ (M.number < s.number ∧ M.termAt (s.number : Int) = some s.term) := fun e => hcs ⟨e.1, by have := e.2; rw [hta] at this; exact Option.some.inj this⟩
      have hst : M.rebase s = JouM.mk s.number s.term s.group M.now M.vote s.data [] M.dead := by
        unfold JouM.rebase
        rw [if_neg hnc]
      have HFin := Lib.hid (fun wq en (hb : Below w1.heap.size w1 wq) (hen : OwnR wq 50 4 en 0 []) henn => HFin0.out M.entries.length [] (by rw [List.drop_length]) hst wq en hb (by rw [entsC_nil]; exact hen) henn)
      have Hcl := Lib.hid (fun W (_ : Below w1.heap.size w1 W) => ecl_calls (w := W) (p := none) (n := 0) (c := 0) (cs := []) ⟨rfl, none, 0, rfl, fun _ => rfl, fun a ha => by cases ha⟩ (fun u hu => by cases hu) (by decide))
      rw [hta] at Hta
      have hor : (t == s.term) = false ∨ (t == s.term) = true ∧ decide (M.number < s.number) = false ∧ decide ((M.number : Int) < (s.number : Int)) = false := by
        by_cases ht : t = s.term
        · have hn2 : ¬ M.number < s.number := fun e => hcs ⟨e, ht⟩
          exact .inr ⟨by simpa using ht, by simpa using hn2, by simp; omega⟩
        · exact .inl (by simpa using ht)
      clear h hs hg hd hF hF2 hJ hS hn hl hrow hta hnc hst HFin0 hbx hce hcs
      rcases hor with e0 | ⟨e0, e1, e2⟩
      · skip
        go_enter Tryz.func79, Tryz.ntmps79
        go_wp2_with fail
        refine Hta.out.mono ?_
        rintro r w2 ⟨rfl, q, rfl⟩
        have c0 : ((w1.alloc (.cells #[.int .i64 (s.number : Int), .int .i64 s.term, .slice pg s.group.length cg] 130)).drewN q).cell? ⟨j, 0, none⟩ = some (.int .i64 (M.number : Int)) := c0
        have c8 : ((w1.alloc (.cells #[.int .i64 (s.number : Int), .int .i64 s.term, .slice pg s.group.length cg] 130)).drewN q).cell? ⟨j, 8, none⟩ = some (.slice pe M.entries.length ce) := c8
        have z0 : ((w1.alloc (.cells #[.int .i64 (s.number : Int), .int .i64 s.term, .slice pg s.group.length cg] 130)).drewN q).cell? ⟨w1.heap.size, 0, none⟩ = some (.int .i64 (s.number : Int)) := cell_of (Hbase.out) (i := 0) rfl
        have z1 : ((w1.alloc (.cells #[.int .i64 (s.number : Int), .int .i64 s.term, .slice pg s.group.length cg] 130)).drewN q).cell? ⟨w1.heap.size, 1, none⟩ = some (.int .i64 s.term) := cell_of (Hbase.out) (i := 1) rfl

        go_wp2_with fail
        go_quiet (fail)
        go_wp2_with fail
        generalize hWQ : (World.drewN _ _) = WQ
        have HBq := Lib.hid (show Below w1.heap.size w1 WQ from by rw [← hWQ]; exact HBB.out.trans ⟨rfl, rfl, rfl, by simp [World.drewN], fun _ _ => rfl⟩)
        have Hbox := Lib.hid (show WQ.drew.heap[w1.heap.size]? = some (.cells #[.int .i64 (s.number : Int), .int .i64 s.term, .slice pg s.group.length cg] 130 (0, 0)) from by rw [← hWQ]; exact Hbase.out)
        clear hWQ c0 c8 z0 z1
        refine ord_start (fun w' : World => w'.heap[w1.heap.size]? = some (.cells #[.int .i64 (s.number : Int), .int .i64 s.term, .slice pg s.group.length cg] 130 (0, 0))) (n := 16) (by kernel_rfl) rfl (Hbox.out) (fun hHeld => ?_)
        have HBd := Lib.hid (show Below w1.heap.size w1 WQ.drew from HBq.out.trans ⟨rfl, rfl, rfl, Nat.le_refl _, fun _ _ => rfl⟩)
        generalize WQ.drew = W1 at *
        refine ord_take 0 (v := ?v23x0) rfl (by kernel_rfl) (by kernel_rfl) (by kernel_rfl) (fun _ _ _ h => h) (by rfl) (by assumption) ?y23x0 ?_
        case y23x0 => (intro w hSw; (try dsimp only at hSw); go_simp; try with_reducible rfl)
        simp only [Act.put, List.setIfInBounds_toArray, List.set_cons_zero, List.set_cons_succ]
        refine ord_take 1 (v := ?v23x1) rfl (by kernel_rfl) (by kernel_rfl) (by kernel_rfl) (fun _ _ _ h => h) (by rfl) (by assumption) ?y23x1 ?_
        case y23x1 => (intro w hSw; (try dsimp only at hSw); go_simp; try with_reducible rfl)
        simp only [Act.put, List.setIfInBounds_toArray, List.set_cons_zero, List.set_cons_succ]
        refine ord_take 2 (v := ?v23x2) rfl (by kernel_rfl) (by kernel_rfl) (by kernel_rfl) (fun _ _ _ h => h) (by rfl) (by assumption) ?y23x2 ?_
        case y23x2 => (intro w hSw; (try dsimp only at hSw); go_simp; try with_reducible rfl)
        simp only [Act.put, List.setIfInBounds_toArray, List.set_cons_zero, List.set_cons_succ]
        refine ord_take 3 (v := .agg #[.int .i64 (s.number : Int), .int .i64 s.term, .slice pg s.group.length cg]) rfl (by kernel_rfl) (by kernel_rfl) (by kernel_rfl) (fun _ _ _ h => h) (by rfl) (by assumption) (fun W hSw => by have q0 := cell_of hSw (i := 0) rfl; have q1 := cell_of hSw (i := 1) rfl; have q2 := cell_of hSw (i := 2) rfl; go_simp; try with_reducible rfl) ?_
        simp only [Act.put, List.setIfInBounds_toArray, List.set_cons_zero, List.set_cons_succ]
        refine ord_take 4 (v := ?v23x4) rfl (by kernel_rfl) (by kernel_rfl) (by kernel_rfl) (fun _ _ _ h => h) (by rfl) (by assumption) ?y23x4 ?_
        case y23x4 => (intro w hSw; (try dsimp only at hSw); go_simp; try with_reducible rfl)
        simp only [Act.put, List.setIfInBounds_toArray, List.set_cons_zero, List.set_cons_succ]
        refine ord_take 5 (v := ?v23x5) rfl (by kernel_rfl) (by kernel_rfl) (by kernel_rfl) (fun _ _ _ h => h) (by rfl) (by assumption) ?y23x5 ?_
        case y23x5 => (intro w hSw; (try dsimp only at hSw); go_simp; try with_reducible rfl)
        simp only [Act.put, List.setIfInBounds_toArray, List.set_cons_zero, List.set_cons_succ]
        refine ord_one 6 rfl (by kernel_rfl) (by rfl) (fun K hK => ?_)
        go_wp2_with fail
        refine (Hcl.out W1 HBd.out).mono ?_
        rintro e wq ⟨en, rfl, hen, henn, hbq⟩
        have HB5 := Lib.hid (HBd.out.trans (hbq.mono HBd.out.size))
        have Hh5 := Lib.hid ((hbq.block _ (lt_of_block hHeld)).trans hHeld)
        have HFn := Lib.hid (HFin.out wq en HB5.out hen (fun x hx => Nat.le_trans HBd.out.size (henn x hx)))
        have Hjc := Lib.hid ((HB5.out.block j HJlt.out).trans HJc.out)
        obtain ⟨pn, qn, rfl⟩ := OwnR.shape hen
        clear hen henn hbq Hcl HFin
        go_wp2_with fail
        refine hK.out _ _ (Hh5.out) (fun hHeld => ?_)
        clear hK
        try simp only [Act.put, List.setIfInBounds_toArray, List.set_cons_zero, List.set_cons_succ]
        refine ord_take 7 (v := ?v23x7) rfl (by kernel_rfl) (by kernel_rfl) (by kernel_rfl) (fun _ _ _ h => h) (by rfl) (by assumption) ?y23x7 ?_
        case y23x7 => (intro w hSw; (try dsimp only at hSw); go_simp; try with_reducible rfl)
        simp only [Act.put, List.setIfInBounds_toArray, List.set_cons_zero, List.set_cons_succ]
        refine ord_take 8 (v := ?v23x8) rfl (by kernel_rfl) (by kernel_rfl) (by kernel_rfl) (fun _ _ _ h => h) (by rfl) (by assumption) ?y23x8 ?_
        case y23x8 => (intro w hSw; (try dsimp only at hSw); go_simp; try with_reducible rfl)
        simp only [Act.put, List.setIfInBounds_toArray, List.set_cons_zero, List.set_cons_succ]
        refine ord_one 9 rfl (by kernel_rfl) (by rfl) (fun K hK => ?_)
        have b0 := cell_of Hjc.out (i := 0) rfl
        have b1 := cell_of Hjc.out (i := 1) rfl
        have b2 := cell_of Hjc.out (i := 2) rfl
        have fr := frozen_of Hjc.out
        have Hh6 := Lib.hid (show (((wq.setCell ⟨j, 0, none⟩ (.int .i64 (s.number : Int))).setCell ⟨j, 1, none⟩ (.int .i64 s.term)).setCell ⟨j, 2, none⟩ (.slice pg s.group.length cg)).heap[w1.heap.size]? = some (.cells #[.int .i64 (s.number : Int), .int .i64 s.term, .slice pg s.group.length cg] 130 (0, 0)) from (set_other _ HJne.out).trans ((set_other _ HJne.out).trans ((set_other _ HJne.out).trans hHeld)))
        have Hj6 := Lib.hid (set_block (set_block (set_block Hjc.out 0 (.int .i64 (s.number : Int))) 1 (.int .i64 s.term)) 2 (.slice pg s.group.length cg))
        go_wp2_with fail
        clear b0 b1 b2 fr
        refine hK.out _ _ (Hh6.out) (fun hHeld => ?_)
        clear hK
        try simp only [Act.put, List.setIfInBounds_toArray, List.set_cons_zero, List.set_cons_succ]
        refine ord_take 10 (v := ?v23x10) rfl (by kernel_rfl) (by kernel_rfl) (by kernel_rfl) (fun _ _ _ h => h) (by rfl) (by assumption) ?y23x10 ?_
        case y23x10 => (intro w hSw; (try dsimp only at hSw); go_simp; try with_reducible rfl)
        simp only [Act.put, List.setIfInBounds_toArray, List.set_cons_zero, List.set_cons_succ]
        refine ord_take 11 (v := ?v23x11) rfl (by kernel_rfl) (by kernel_rfl) (by kernel_rfl) (fun _ _ _ h => h) (by rfl) (by assumption) ?y23x11 ?_
        case y23x11 => (intro w hSw; (try dsimp only at hSw); go_simp; try with_reducible rfl)
        simp only [Act.put, List.setIfInBounds_toArray, List.set_cons_zero, List.set_cons_succ]
        refine ord_one 12 rfl (by kernel_rfl) (by rfl) (fun K hK => ?_)
        have b7 := cell_of Hj6.out (i := 7) rfl
        have f7 := frozen_of Hj6.out 7
        have Hh7 := Lib.hid (show ((((wq.setCell ⟨j, 0, none⟩ (.int .i64 (s.number : Int))).setCell ⟨j, 1, none⟩ (.int .i64 s.term)).setCell ⟨j, 2, none⟩ (.slice pg s.group.length cg)).setCell ⟨j, 7, none⟩ (.slice pd s.data.length cd)).heap[w1.heap.size]? = some (.cells #[.int .i64 (s.number : Int), .int .i64 s.term, .slice pg s.group.length cg] 130 (0, 0)) from (set_other _ HJne.out).trans hHeld)
        have Hj7 := Lib.hid (set_block Hj6.out 7 (.slice pd s.data.length cd))
        go_wp2_with fail
        clear b7 f7
        refine hK.out _ _ (Hh7.out) (fun hHeld => ?_)
        clear hK
        try simp only [Act.put, List.setIfInBounds_toArray, List.set_cons_zero, List.set_cons_succ]
        refine ord_take 13 (v := ?v23x13) rfl (by kernel_rfl) (by kernel_rfl) (by kernel_rfl) (fun _ _ _ h => h) (by rfl) (by assumption) ?y23x13 ?_
        case y23x13 => (intro w hSw; (try dsimp only at hSw); go_simp; try with_reducible rfl)
        simp only [Act.put, List.setIfInBounds_toArray, List.set_cons_zero, List.set_cons_succ]
        refine ord_take 14 (v := ?v23x14) rfl (by kernel_rfl) (by kernel_rfl) (by kernel_rfl) (fun _ _ _ h => h) (by rfl) (by assumption) ?y23x14 ?_
        case y23x14 => (intro w hSw; (try dsimp only at hSw); go_simp; try with_reducible rfl)
        simp only [Act.put, List.setIfInBounds_toArray, List.set_cons_zero, List.set_cons_succ]
        refine ord_one 15 rfl (by kernel_rfl) (by rfl) (fun K hK => ?_)
        have b8 := cell_of Hj7.out (i := 8) rfl
        have f8 := frozen_of Hj7.out 8
        have Hh8 := Lib.hid (fun x => (show (((((wq.setCell ⟨j, 0, none⟩ (.int .i64 (s.number : Int))).setCell ⟨j, 1, none⟩ (.int .i64 s.term)).setCell ⟨j, 2, none⟩ (.slice pg s.group.length cg)).setCell ⟨j, 7, none⟩ (.slice pd s.data.length cd)).setCell ⟨j, 8, none⟩ x).heap[w1.heap.size]? = some (.cells #[.int .i64 (s.number : Int), .int .i64 s.term, .slice pg s.group.length cg] 130 (0, 0)) from (set_other _ HJne.out).trans hHeld))
        go_wp2_with fail
        clear b8 f8
        refine hK.out _ _ (Hh8.out _) (fun hHeld => ?_)
        clear hK
        try simp only [Act.put, List.setIfInBounds_toArray, List.set_cons_zero, List.set_cons_succ]
        refine wpAnyH_done (by kernel_rfl) ?_ _
        go_wp2_with fail
        go_end0
        exact ⟨rfl, HFn.out⟩
      · skip
        go_enter Tryz.func79, Tryz.ntmps79
        go_wp2_with fail
        refine Hta.out.mono ?_
        rintro r w2 ⟨rfl, q, rfl⟩
        have c0 : ((w1.alloc (.cells #[.int .i64 (s.number : Int), .int .i64 s.term, .slice pg s.group.length cg] 130)).drewN q).cell? ⟨j, 0, none⟩ = some (.int .i64 (M.number : Int)) := c0
        have c8 : ((w1.alloc (.cells #[.int .i64 (s.number : Int), .int .i64 s.term, .slice pg s.group.length cg] 130)).drewN q).cell? ⟨j, 8, none⟩ = some (.slice pe M.entries.length ce) := c8
        have z0 : ((w1.alloc (.cells #[.int .i64 (s.number : Int), .int .i64 s.term, .slice pg s.group.length cg] 130)).drewN q).cell? ⟨w1.heap.size, 0, none⟩ = some (.int .i64 (s.number : Int)) := cell_of (Hbase.out) (i := 0) rfl
        have z1 : ((w1.alloc (.cells #[.int .i64 (s.number : Int), .int .i64 s.term, .slice pg s.group.length cg] 130)).drewN q).cell? ⟨w1.heap.size, 1, none⟩ = some (.int .i64 s.term) := cell_of (Hbase.out) (i := 1) rfl

        go_wp2_with fail
        go_quiet (fail)
        go_wp2_with fail
        generalize hWQ : (World.drewN _ _) = WQ
        have HBq := Lib.hid (show Below w1.heap.size w1 WQ from by rw [← hWQ]; exact HBB.out.trans ⟨rfl, rfl, rfl, by simp [World.drewN], fun _ _ => rfl⟩)
        have Hbox := Lib.hid (show WQ.drew.heap[w1.heap.size]? = some (.cells #[.int .i64 (s.number : Int), .int .i64 s.term, .slice pg s.group.length cg] 130 (0, 0)) from by rw [← hWQ]; exact Hbase.out)
        clear hWQ c0 c8 z0 z1
        refine ord_start (fun w' : World => w'.heap[w1.heap.size]? = some (.cells #[.int .i64 (s.number : Int), .int .i64 s.term, .slice pg s.group.length cg] 130 (0, 0))) (n := 16) (by kernel_rfl) rfl (Hbox.out) (fun hHeld => ?_)
        have HBd := Lib.hid (show Below w1.heap.size w1 WQ.drew from HBq.out.trans ⟨rfl, rfl, rfl, Nat.le_refl _, fun _ _ => rfl⟩)
        generalize WQ.drew = W1 at *
        refine ord_take 0 (v := ?v24x0) rfl (by kernel_rfl) (by kernel_rfl) (by kernel_rfl) (fun _ _ _ h => h) (by rfl) (by assumption) ?y24x0 ?_
        case y24x0 => (intro w hSw; (try dsimp only at hSw); go_simp; try with_reducible rfl)
        simp only [Act.put, List.setIfInBounds_toArray, List.set_cons_zero, List.set_cons_succ]
        refine ord_take 1 (v := ?v24x1) rfl (by kernel_rfl) (by kernel_rfl) (by kernel_rfl) (fun _ _ _ h => h) (by rfl) (by assumption) ?y24x1 ?_
        case y24x1 => (intro w hSw; (try dsimp only at hSw); go_simp; try with_reducible rfl)
        simp only [Act.put, List.setIfInBounds_toArray, List.set_cons_zero, List.set_cons_succ]
        refine ord_take 2 (v := ?v24x2) rfl (by kernel_rfl) (by kernel_rfl) (by kernel_rfl) (fun _ _ _ h => h) (by rfl) (by assumption) ?y24x2 ?_
        case y24x2 => (intro w hSw; (try dsimp only at hSw); go_simp; try with_reducible rfl)
        simp only [Act.put, List.setIfInBounds_toArray, List.set_cons_zero, List.set_cons_succ]
        refine ord_take 3 (v := .agg #[.int .i64 (s.number : Int), .int .i64 s.term, .slice pg s.group.length cg]) rfl (by kernel_rfl) (by kernel_rfl) (by kernel_rfl) (fun _ _ _ h => h) (by rfl) (by assumption) (fun W hSw => by have q0 := cell_of hSw (i := 0) rfl; have q1 := cell_of hSw (i := 1) rfl; have q2 := cell_of hSw (i := 2) rfl; go_simp; try with_reducible rfl) ?_
        simp only [Act.put, List.setIfInBounds_toArray, List.set_cons_zero, List.set_cons_succ]
        refine ord_take 4 (v := ?v24x4) rfl (by kernel_rfl) (by kernel_rfl) (by kernel_rfl) (fun _ _ _ h => h) (by rfl) (by assumption) ?y24x4 ?_
        case y24x4 => (intro w hSw; (try dsimp only at hSw); go_simp; try with_reducible rfl)
        simp only [Act.put, List.setIfInBounds_toArray, List.set_cons_zero, List.set_cons_succ]
        refine ord_take 5 (v := ?v24x5) rfl (by kernel_rfl) (by kernel_rfl) (by kernel_rfl) (fun _ _ _ h => h) (by rfl) (by assumption) ?y24x5 ?_
        case y24x5 => (intro w hSw; (try dsimp only at hSw); go_simp; try with_reducible rfl)
        simp only [Act.put, List.setIfInBounds_toArray, List.set_cons_zero, List.set_cons_succ]
        refine ord_one 6 rfl (by kernel_rfl) (by rfl) (fun K hK => ?_)
        go_wp2_with fail
        refine (Hcl.out W1 HBd.out).mono ?_
        rintro e wq ⟨en, rfl, hen, henn, hbq⟩
        have HB5 := Lib.hid (HBd.out.trans (hbq.mono HBd.out.size))
        have Hh5 := Lib.hid ((hbq.block _ (lt_of_block hHeld)).trans hHeld)
        have HFn := Lib.hid (HFin.out wq en HB5.out hen (fun x hx => Nat.le_trans HBd.out.size (henn x hx)))
        have Hjc := Lib.hid ((HB5.out.block j HJlt.out).trans HJc.out)
        obtain ⟨pn, qn, rfl⟩ := OwnR.shape hen
        clear hen henn hbq Hcl HFin
        go_wp2_with fail
        refine hK.out _ _ (Hh5.out) (fun hHeld => ?_)
        clear hK
        try simp only [Act.put, List.setIfInBounds_toArray, List.set_cons_zero, List.set_cons_succ]
        refine ord_take 7 (v := ?v24x7) rfl (by kernel_rfl) (by kernel_rfl) (by kernel_rfl) (fun _ _ _ h => h) (by rfl) (by assumption) ?y24x7 ?_
        case y24x7 => (intro w hSw; (try dsimp only at hSw); go_simp; try with_reducible rfl)
        simp only [Act.put, List.setIfInBounds_toArray, List.set_cons_zero, List.set_cons_succ]
        refine ord_take 8 (v := ?v24x8) rfl (by kernel_rfl) (by kernel_rfl) (by kernel_rfl) (fun _ _ _ h => h) (by rfl) (by assumption) ?y24x8 ?_
        case y24x8 => (intro w hSw; (try dsimp only at hSw); go_simp; try with_reducible rfl)
        simp only [Act.put, List.setIfInBounds_toArray, List.set_cons_zero, List.set_cons_succ]
        refine ord_one 9 rfl (by kernel_rfl) (by rfl) (fun K hK => ?_)
        have b0 := cell_of Hjc.out (i := 0) rfl
        have b1 := cell_of Hjc.out (i := 1) rfl
        have b2 := cell_of Hjc.out (i := 2) rfl
        have fr := frozen_of Hjc.out
        have Hh6 := Lib.hid (show (((wq.setCell ⟨j, 0, none⟩ (.int .i64 (s.number : Int))).setCell ⟨j, 1, none⟩ (.int .i64 s.term)).setCell ⟨j, 2, none⟩ (.slice pg s.group.length cg)).heap[w1.heap.size]? = some (.cells #[.int .i64 (s.number : Int), .int .i64 s.term, .slice pg s.group.length cg] 130 (0, 0)) from (set_other _ HJne.out).trans ((set_other _ HJne.out).trans ((set_other _ HJne.out).trans hHeld)))
        have Hj6 := Lib.hid (set_block (set_block (set_block Hjc.out 0 (.int .i64 (s.number : Int))) 1 (.int .i64 s.term)) 2 (.slice pg s.group.length cg))
        go_wp2_with fail
        clear b0 b1 b2 fr
        refine hK.out _ _ (Hh6.out) (fun hHeld => ?_)
        clear hK
        try simp only [Act.put, List.setIfInBounds_toArray, List.set_cons_zero, List.set_cons_succ]
        refine ord_take 10 (v := ?v24x10) rfl (by kernel_rfl) (by kernel_rfl) (by kernel_rfl) (fun _ _ _ h => h) (by rfl) (by assumption) ?y24x10 ?_
        case y24x10 => (intro w hSw; (try dsimp only at hSw); go_simp; try with_reducible rfl)
        simp only [Act.put, List.setIfInBounds_toArray, List.set_cons_zero, List.set_cons_succ]
        refine ord_take 11 (v := ?v24x11) rfl (by kernel_rfl) (by kernel_rfl) (by kernel_rfl) (fun _ _ _ h => h) (by rfl) (by assumption) ?y24x11 ?_
        case y24x11 => (intro w hSw; (try dsimp only at hSw); go_simp; try with_reducible rfl)
        simp only [Act.put, List.setIfInBounds_toArray, List.set_cons_zero, List.set_cons_succ]
        refine ord_one 12 rfl (by kernel_rfl) (by rfl) (fun K hK => ?_)
        have b7 := cell_of Hj6.out (i := 7) rfl
        have f7 := frozen_of Hj6.out 7
        have Hh7 := Lib.hid (show ((((wq.setCell ⟨j, 0, none⟩ (.int .i64 (s.number : Int))).setCell ⟨j, 1, none⟩ (.int .i64 s.term)).setCell ⟨j, 2, none⟩ (.slice pg s.group.length cg)).setCell ⟨j, 7, none⟩ (.slice pd s.data.length cd)).heap[w1.heap.size]? = some (.cells #[.int .i64 (s.number : Int), .int .i64 s.term, .slice pg s.group.length cg] 130 (0, 0)) from (set_other _ HJne.out).trans hHeld)
        have Hj7 := Lib.hid (set_block Hj6.out 7 (.slice pd s.data.length cd))
        go_wp2_with fail
        clear b7 f7
        refine hK.out _ _ (Hh7.out) (fun hHeld => ?_)
        clear hK
        try simp only [Act.put, List.setIfInBounds_toArray, List.set_cons_zero, List.set_cons_succ]
        refine ord_take 13 (v := ?v24x13) rfl (by kernel_rfl) (by kernel_rfl) (by kernel_rfl) (fun _ _ _ h => h) (by rfl) (by assumption) ?y24x13 ?_
        case y24x13 => (intro w hSw; (try dsimp only at hSw); go_simp; try with_reducible rfl)
        simp only [Act.put, List.setIfInBounds_toArray, List.set_cons_zero, List.set_cons_succ]
        refine ord_take 14 (v := ?v24x14) rfl (by kernel_rfl) (by kernel_rfl) (by kernel_rfl) (fun _ _ _ h => h) (by rfl) (by assumption) ?y24x14 ?_
        case y24x14 => (intro w hSw; (try dsimp only at hSw); go_simp; try with_reducible rfl)
        simp only [Act.put, List.setIfInBounds_toArray, List.set_cons_zero, List.set_cons_succ]
        refine ord_one 15 rfl (by kernel_rfl) (by rfl) (fun K hK => ?_)
        have b8 := cell_of Hj7.out (i := 8) rfl
        have f8 := frozen_of Hj7.out 8
        have Hh8 := Lib.hid (fun x => (show (((((wq.setCell ⟨j, 0, none⟩ (.int .i64 (s.number : Int))).setCell ⟨j, 1, none⟩ (.int .i64 s.term)).setCell ⟨j, 2, none⟩ (.slice pg s.group.length cg)).setCell ⟨j, 7, none⟩ (.slice pd s.data.length cd)).setCell ⟨j, 8, none⟩ x).heap[w1.heap.size]? = some (.cells #[.int .i64 (s.number : Int), .int .i64 s.term, .slice pg s.group.length cg] 130 (0, 0)) from (set_other _ HJne.out).trans hHeld))
        go_wp2_with fail
        clear b8 f8
        refine hK.out _ _ (Hh8.out _) (fun hHeld => ?_)
        clear hK
        try simp only [Act.put, List.setIfInBounds_toArray, List.set_cons_zero, List.set_cons_succ]
        refine wpAnyH_done (by kernel_rfl) ?_ _
        go_wp2_with fail
        go_end0
        exact ⟨rfl, HFn.out⟩
end
end Go.Proofs.YtapfnehdgailmaaGreat
