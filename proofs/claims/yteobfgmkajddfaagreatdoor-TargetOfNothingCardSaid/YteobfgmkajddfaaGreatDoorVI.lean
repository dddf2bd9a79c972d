/- satrapylaw23.known. Hear of no target; like and Same of no word; the law satrapylaw23. Printed by mkti.py. same and Same of no word. Printed by mktj.py. The law satrapylaw23.TargetOfNothing: the walk. An argument that is a word: its cells as a list; the last is a slice. -/
import Derived.Test.YteobfgmkajddfaaGreatDoorVA
import Derived.Test.YteobfgmkajddfaaGreatDoorVH
namespace Go.Proofs.YteobfgmkajddfaaGreatDoor
open Go.RowKit Go.Sat Go.Maps

theorem zd3_len : (zdata H3 [0, 0, 0, 0]).length ≤ 1000 := by
  have h1 := numsI_len [H3.id]
  have h2 := numsI_len [H3.epoch, H3.state]
  have h3 := numB_nine (n := 0) (by decide)
  have h4 := numB_nine (n := 0 + 1 + 1 + 1 + 1) (by decide)
  unfold zdata rowB
  have e1 : H3.fr.data.toList = [] := rfl
  have e2 : H3.tu.data.toList = [] := rfl
  simp only [e1, e2, List.length_append, List.length_nil, List.length_cons] at *
  omega
theorem zp3 : (nm (zpre 3)).length = 2 := by
  rw [nm_len]
  show (122 :: Lib.decDigits 3).toArray.size = 2
  rw [Lib.decDigits_one (by decide)]
  rfl
theorem wri3 : ∃ D2 M2, ledOpen (DiskM.fresh 65536) (nm (zpre 3)) = (DiskM.fresh 65536, 0, MM none []) ∧ ledWrite (nm (zpre 3)) (DiskM.fresh 65536) (MM none []) 1 (zdata H3 [0, 0, 0, 0]) = ⟨D2, M2, 0, 0⟩ ∧ M2.last = 1 := by
  have hp : 1 ≤ (nm (zpre 3)).length ∧ (nm (zpre 3)).length ≤ 20 := by rw [zp3]; decide
  have hl := lies_new (nm (zpre 3)) 65536
  obtain ⟨D2, h1, -⟩ := wri_lies (n := 1) (p := zdata H3 [0, 0, 0, 0]) hp (ok_fresh 65536 (by decide)) (tame_new (Nat.le_refl _)) hl (by decide) (by decide) (by have := zd3_len; omega) (by have := zd3_len; omega) (by decide)
  exact ⟨D2, _, open_lies hp hl trivial ⟨by decide, by intro e h; cases h⟩, h1, rfl⟩
theorem zmk4 (w : World) : (Instr.makeSlice 39 (.int .i64 4) (.int .i64 4)).run Tryz.prog w = .ok (.slice (some ⟨w.heap.size, 0, none⟩) 4 4) (w.alloc (.cells (zcells 4) 5)) := by
  obtain ⟨i0, hi, hz0, hz1, hz2⟩ := info_parts (show (Tryz.prog.info? 5).map (fun i => (i.zero, i.size, i.bytes)) = some (some (.int .u8 0), 1, 1) by kernel_rfl)
  have h := run_makeSlice (P := Tryz.prog) w 39 5 i0 (.int .u8 0) Tryz.underlying39 hi hz0 .i64 .i64 4 4 (by omega) (by omega) (by rw [hz1]; omega) (by rw [hz2]; omega) (by omega)
  rw [h, hz1]
  rfl
set_option maxRecDepth 100000 in
set_option maxHeartbeats 8000000 in
theorem known23_calls (w : World) : Calls Tryz.prog 31 #[] w (RetB true w) := by
  have Hnew := Lib.hid (st_new (w := w) (w1 := w) 65536 (by decide) (by decide) (Below.refl _ _))
  obtain ⟨D2, M2, ho, hwr, hm⟩ := wri3
  have Hwr := Lib.hid (And.intro ho (And.intro hwr hm))
  clear ho hwr hm
  have hmk := zmk4
  go_enter Tryz.func31, Tryz.ntmps31
  go_wp2_with fail
  refine Hnew.out.mono ?_
  rintro e W1 ⟨d, rfl, hd⟩
  have Hd := Lib.hid (show St w W1 d (DiskM.fresh 65536) NoF from hd)
  clear hd Hnew
  go_wp2_with fail
  refine (tnew_calls W1 d).mono ?_
  rintro e W2 ⟨rfl, hW2⟩
  have H2 := Lib.hid (show W2.heap[W1.heap.size]? = some (TargetO d 0 0 0 0 none) ∧ Below W1.heap.size W1 W2 ∧ W2.heap.size = W1.heap.size + 1 from by subst hW2; exact ⟨new_block W1 _, box_below W1 _, by simp⟩)
  clear hW2
  go_wp2_with (refine bbuild rfl 75 #[(0, .const (.int .i64 7)), (1, .const (.int .i64 3)), (2, .const (.int .i64 2)), (3, .const (.int .i64 1)), (4, .const (.int .i64 4)), (13, .tmp 18)] rfl (v := .agg (W7L (some ⟨W2.heap.size, 0, none⟩) 4).toArray) (by kernel_rfl) ?_)
  have hx3 := has_lit (w := W2) (e := 5) (fr := (0, 0)) (zcells 4) [0, 0, 0, 0] W2.heap.size 4 4 rfl rfl (by rw [show (zcells 4).toList = List.replicate 4 (.int .u8 0) from toList_madeCells_one _ _]; rfl)
  have HH := Lib.hid (hear_calls (w := w) (tb := W1.heap.size) ((Hd.out.more H2.out.2.1 (fun k (hk : k = W1.heap.size) => ⟨.inr (by omega), by have := H2.out.2.2; omega⟩)).alloc (.cells (zcells 4) 5)) Hd.out.below.size ((box_below W2 (.cells (zcells 4) 5)).block _ (by have := H2.out.2.2; omega) |>.trans H2.out.1) hx3 (fun k hk => by cases hk; have := H2.out.2.2; show W2.heap.size ≠ _; omega) Hwr.out.1 Hwr.out.2.1 (by have := zd3_len; omega))
  clear hx3
  refine HH.out.mono ?_
  rintro e W4 ⟨z, rfl, hZ⟩
  have HZ := Lib.hid hZ
  have HZ0 := Lib.hid hZ.bel.size
  clear hZ HH
  go_wp2_with (first
    | (refine balloc rfl 75 rfl (Tryz.zeroValue75 _) (by decide) ?_; intro W5 hn hb hs; have H5 := Lib.hid (And.intro hn (And.intro (HZ.out.move (F' := fun k => k = W4.heap.size) (Chg.of_below hb) (fun _ _ e => e.elim) (fun k hk => ⟨.inr (by omega), by omega⟩)) hs)); clear hn hb hs HZ)
    | (refine bstore rfl 75 (.tmp 5) (.tmp 22) rfl W4.heap.size rfl rfl H5.out.1 rfl (by kernel_rfl) W8L_one ?_; intro W6 hn hc; have H6 := Lib.hid (And.intro hn (H5.out.2.1.move (F' := NoF) hc (fun k _ e => ⟨e, by have := HZ0.out; omega⟩) fun k hk => hk.elim)); clear hn hc H5))
  obtain ⟨eb, l, vm, sm, tm, am, own, hL, hz, -⟩ := id H6.out.2
  have HD := Lib.hid (zhead_calls hz)
  have hfd : ∀ W : World, (Instr.field 35 (.agg #[.int .i64 H3.id, .string H3.fr, .string H3.tu, .int .i64 H3.epoch, .int .i64 H3.state]) 3).run Tryz.prog W = .ok (.int .i64 3) W := fun _ => by kernel_rfl
  clear hL hz
  go_wp2_with fail
  refine HD.out.mono ?_
  rintro e W7 ⟨rfl, hb⟩
  have H7 := Lib.hid (And.intro ((hb.block _ (lt_of_block H6.out.1)).trans H6.out.1) (H6.out.2.next hb))
  clear hb HD H6
  have HT := Lib.hid (zlast_calls H7.out.2 Hwr.out.2.2)
  go_wp2_with fail
  refine HT.out.mono ?_
  rintro e W8 ⟨he, q, rfl⟩
  obtain rfl : e = .returned (.int .i64 1) := he
  have h8 := H7.out.1
  have c0 := cell_of h8 (i := 0) (v := .int .i64 8) rfl
  have c5 := cell_of h8 (i := 5) (v := .int .i64 4) rfl
  have HB := Lib.hid (H7.out.2.bel.trans (show Below _ W7 (W7.drewN q) from ⟨rfl, rfl, rfl, Nat.le_refl _, fun _ _ => rfl⟩))
  clear h8 H7 HT
  go_wp2_with fail
  go_ret
  exact ⟨rfl, HB.out⟩
end Go.Proofs.YteobfgmkajddfaaGreatDoor

namespace Go.Proofs.YteobfgmkajddfaaGreatDoor
open Go.RowKit Go.Sat Go.Maps

def S0L : List Value := [.string ⟨#[]⟩, .string ⟨#[]⟩]
def O0L : List Value := (W0L.drop 10).take 12
def R0L : List Value := (W0L.drop 22).take 6
def M0L : List Value := [.int .i64 0, .int .i64 0, .slice none 0 0]
def C0L : List Value := [.int .i64 0, .int .i64 0, .int .i64 0, .int .i64 0, .string ⟨#[]⟩]
theorem range_part {w : World} {b : Nat} {L S : List Value} {t : TypeId} {fr : Nat × Nat} (h : w.heap[b]? = some (.cells L.toArray t fr)) (o : Nat) (hs : (L.drop o).take S.length = S) : w.rangeAt b o S := fun j v hj => by
  refine cell_of h ?_
  have h2 := hj
  rw [← hs, List.getElem?_take] at h2
  split at h2
  · rw [List.getElem?_drop] at h2
    simpa using h2
  · cases h2
section
variable {P : Program} {ops : Array Oper} {rest : List Oper} {op : Oper} {a : Act} {w : World} {Q : Exit → Act → World → Prop}
/-- A struct within a struct is loaded. -/
theorem bloadAt (hw : Region.wanted op (yielded ops a.tmps) = true) (ty : TypeId) (x : Operand) (ho : op.op = .load ty x) (b o : Nat) (hx : a.eval x = .pointer (some ⟨b, o, none⟩)) {L S : List Value} {t : TypeId} {fr : Nat × Nat} (hb : w.heap[b]? = some (.cells L.toArray t fr)) (hs : (L.drop o).take S.length = S) {d : TypeDesc}
    (hu : P.underlying ty = some d) (hd : d.isRow = true) (hi : (P.info? ty).map (·.size) = some S.length) (h : wpList P ops Q rest (a.put op.dst (.agg S.toArray)) w) : wpList P ops Q (op :: rest) a w :=
  BigFrame.wpList_want hw fun _ hK => wp_load_mid ty x ho b o hx S d (range_part hb o hs) hu hd hi (hK _ _ h)
/-- Two values of one type are compared. -/
theorem beql (hw : Region.wanted op (yielded ops a.tmps) = true) (ty rt : TypeId) (x y : Operand) (ho : op.op = .binOp .eql ty x y rt) (u v : Value) (hx : a.eval x = u) (hy : a.eval y = v) (c : Bool) (hr : (do eqGuard .eql ty x y u v; binOp .eql ty u v : Sem Value).run P w = .ok (.bool c) w) (h : wpList P ops Q rest (a.put op.dst (.bool c)) w) : wpList P ops Q (op :: rest) a w := by
  refine BigFrame.wpList_want hw fun K hK => ?_
  unfold Oper.wp execOp
  simp only [ho, hx, hy]
  rw [Sem.run_bind, hr]
  exact hK _ _ h
end

set_option maxRecDepth 100000 in
set_option maxHeartbeats 4000000 in
theorem hear_nil (w : World) (L : List Value) : Calls Tryz.prog 28 #[.pointer none, .agg L.toArray, .pointer none] w fun e w' => e = .returned (.tuple #[.pointer none, .agg W0L.toArray, .bool false, .int .i64 1]) ∧ Below w.heap.size w w' := by
  go_enter Tryz.func28, Tryz.ntmps28
  go_wp2_with (first
    | (refine bbox rfl 75 (.tmp 1) rfl rfl ?_; intro w2 hn1 hb1 hs1; have H2 := Lib.hid (And.intro hn1 (And.intro hb1 hs1)); clear hn1 hb1 hs1)
    | (refine balloc rfl 75 rfl (Tryz.zeroValue75 _) (by decide) ?_; intro w3 hn2 hb2 hs2; have H3x := Lib.hid (And.intro hn2 (And.intro (H2.out.2.1.trans (hb2.mono H2.out.2.1.size)) (show w.heap.size ≤ w2.heap.size by have := H2.out.2.2; omega))); clear hn2 hb2 hs2 H2)
    | (refine bbuild rfl 75 #[] rfl (v := .agg W0L.toArray) (by kernel_rfl) ?_)
    | (refine bstore rfl 75 (.tmp 7) (.tmp 15) rfl w2.heap.size rfl rfl H3x.out.1 rfl (by kernel_rfl) W0L_one ?_; intro w4 hn hc; have H4 := Lib.hid (And.intro hn (chg_one H3x.out.2.1 hc H3x.out.2.2)); clear hn hc H3x))
  refine bodyPost_ret (results_t4 (p := 7) (u := 6) (v := 8) (z := 9) rfl _ _ w2.heap.size _ _ (0, 0) _ rfl H4.out.1 Tryz.underlying75 rfl (by kernel_rfl)) rfl ?_
  exact ⟨rfl, H4.out.2⟩
set_option maxRecDepth 100000 in
set_option maxHeartbeats 8000000 in
theorem like_calls (w : World) : Calls Tryz.prog 30 #[.agg W0L.toArray] w fun e w' => e = .returned (.agg W0L.toArray) ∧ Below w.heap.size w w' := by
  go_enter Tryz.func30, Tryz.ntmps30
  go_wp2_with (first
    | (refine bbox rfl 75 (.tmp 0) rfl rfl ?_; intro w2 hn1 hb1 hs1; have H2 := Lib.hid (And.intro hn1 (And.intro hb1 hs1)); clear hn1 hb1 hs1)
    | (refine balloc rfl 80 rfl (Tryz.zeroValue80 _) (by decide) ?_; intro w3 hn2 hb2 hs2; have hk := (hb2.block w.heap.size (lt_of_block H2.out.1)).trans H2.out.1; have c0 := cell_of hk (i := 0) (v := .int .i64 0) rfl; have c1 := cell_of hk (i := 1) (v := .int .i64 0) rfl; have c2 := cell_of hk (i := 2) (v := .int .i64 0) rfl; have c3 := cell_of hk (i := 3) (v := .int .i64 0) rfl; have c4 := cell_of hk (i := 4) (v := .int .i64 0) rfl; have c5 := cell_of hk (i := 5) (v := .int .i64 0) rfl; have c6 := cell_of hk (i := 6) (v := .int .i64 0) rfl; have c7 := cell_of hk (i := 7) (v := .int .i64 0) rfl; have c36 := cell_of hk (i := 36) (v := .slice none 0 0) rfl; have H3x := Lib.hid (And.intro hn2 (And.intro (H2.out.2.1.trans (hb2.mono H2.out.2.1.size)) (And.intro (show w.heap.size ≤ w2.heap.size by have := H2.out.2.2; omega) hk))); clear hn2 hb2 hs2 H2 hk)
    | (refine bloadAt rfl 27 (.tmp 19) rfl w.heap.size 8 rfl (S := S0L) H3x.out.2.2.2 rfl Tryz.underlying27 rfl (by kernel_rfl) ?_)
    | (refine bloadAt rfl 25 (.tmp 21) rfl w.heap.size 10 rfl (S := O0L) H3x.out.2.2.2 rfl Tryz.underlying25 rfl (by kernel_rfl) ?_)
    | (refine bloadAt rfl 48 (.tmp 23) rfl w.heap.size 22 rfl (S := R0L) H3x.out.2.2.2 rfl Tryz.underlying48 rfl (by kernel_rfl) ?_)
    | (refine bloadAt rfl 71 (.tmp 25) rfl w.heap.size 28 rfl (S := M0L) H3x.out.2.2.2 rfl Tryz.underlying71 rfl (by kernel_rfl) ?_)
    | (refine bloadAt rfl 73 (.tmp 27) rfl w.heap.size 31 rfl (S := C0L) H3x.out.2.2.2 rfl Tryz.underlying73 rfl (by kernel_rfl) ?_)
    | (refine bbuild rfl 80 #[(0, .tmp 4), (1, .tmp 6), (2, .tmp 8), (3, .tmp 10), (4, .tmp 12), (5, .tmp 14), (6, .tmp 16), (7, .tmp 18), (8, .tmp 20), (9, .tmp 22), (10, .tmp 24), (11, .tmp 26), (12, .tmp 28), (13, .tmp 30)] rfl (v := .agg W0L.toArray) (by kernel_rfl) ?_)
    | (refine bstore rfl 80 (.tmp 2) (.tmp 31) rfl w2.heap.size rfl rfl H3x.out.1 rfl (by kernel_rfl) W0L_one ?_; intro w4 hn hc; have H4 := Lib.hid (And.intro hn (chg_one H3x.out.2.1 hc H3x.out.2.2.1)); clear hn hc))
  refine bodyPost_ret (results_cell_row rfl _ _ w2.heap.size _ _ (0, 0) _ rfl H4.out.1 Tryz.underlying80 rfl (by kernel_rfl)) rfl ?_
  exact ⟨rfl, H4.out.2⟩
end Go.Proofs.YteobfgmkajddfaaGreatDoor

namespace Go.Proofs.YteobfgmkajddfaaGreatDoor
open Go.RowKit Go.Sat Go.Maps

set_option maxRecDepth 100000 in
set_option maxHeartbeats 4000000 in
theorem msame_calls (w : World) : Calls Tryz.prog 68 #[.agg M0L.toArray, .agg M0L.toArray] w (RetB true w) := by
  unfold M0L
  go_enter Tryz.func68, Tryz.ntmps68
  go_wp2_with (first
    | (refine bbox rfl 71 (.tmp 0) rfl (L := M0L) rfl ?_; intro w2 hn1 hb1 hs1; have H2 := Lib.hid (And.intro hn1 (And.intro hb1 hs1)); clear hn1 hb1 hs1)
    | (refine bbox rfl 71 (.tmp 1) rfl (L := M0L) rfl ?_; intro w3 hn2 hb2 hs2; have hk := (hb2.block w.heap.size (lt_of_block H2.out.1)).trans H2.out.1; have ca0 := cell_of hk (i := 0) (v := .int .i64 0) rfl; have ca1 := cell_of hk (i := 1) (v := .int .i64 0) rfl; have ca2 := cell_of hk (i := 2) (v := .slice none 0 0) rfl; have cb0 := cell_of hn2 (i := 0) (v := .int .i64 0) rfl; have cb1 := cell_of hn2 (i := 1) (v := .int .i64 0) rfl; have cb2 := cell_of hn2 (i := 2) (v := .slice none 0 0) rfl; have HB := Lib.hid (H2.out.2.1.trans (hb2.mono H2.out.2.1.size)); clear hn2 hb2 hs2 H2 hk))
  go_loopw [5] (fun i wr => i = .int .i64 0 ∧ wr = w3) (fun _ _ => 0)
  case atStart => exact ⟨rfl, rfl⟩
  case round =>
    obtain ⟨rfl, rfl⟩ := hrel
    go_wp2_with fail
    go_ret
    exact ⟨rfl, HB.out⟩
set_option maxRecDepth 100000 in
set_option maxHeartbeats 8000000 in
theorem wsame_calls (w : World) : Calls Tryz.prog 29 #[.agg W0L.toArray, .agg W0L.toArray] w (RetB true w) := by
  have HM := Lib.hid msame_calls
  have hcv : ∀ W : World, (convert 39 9 (.slice none 0 0)).run Tryz.prog W = .ok (.string ⟨#[]⟩) W := fun W => Go.run_convert_bytes_nil W 39 5 Tryz.underlying39 Tryz.underlying5 _ _ 9 Tryz.underlying9
  go_enter Tryz.func29, Tryz.ntmps29
  go_wp2_with (first
    | (refine bbox rfl 80 (.tmp 0) rfl (L := W0L) rfl ?_; intro w2 hn1 hb1 hs1; have H2 := Lib.hid (And.intro hn1 (And.intro hb1 hs1)); clear hn1 hb1 hs1)
    | (refine bbox rfl 80 (.tmp 1) rfl (L := W0L) rfl ?_; intro w3 hn2 hb2 hs2; have hk := (hb2.block w.heap.size (lt_of_block H2.out.1)).trans H2.out.1; have ca0 := cell_of hk (i := 0) (v := .int .i64 0) rfl; have ca1 := cell_of hk (i := 1) (v := .int .i64 0) rfl; have ca2 := cell_of hk (i := 2) (v := .int .i64 0) rfl; have ca3 := cell_of hk (i := 3) (v := .int .i64 0) rfl; have ca4 := cell_of hk (i := 4) (v := .int .i64 0) rfl; have ca5 := cell_of hk (i := 5) (v := .int .i64 0) rfl; have ca6 := cell_of hk (i := 6) (v := .int .i64 0) rfl; have ca7 := cell_of hk (i := 7) (v := .int .i64 0) rfl; have ca36 := cell_of hk (i := 36) (v := .slice none 0 0) rfl; have cb0 := cell_of hn2 (i := 0) (v := .int .i64 0) rfl; have cb1 := cell_of hn2 (i := 1) (v := .int .i64 0) rfl; have cb2 := cell_of hn2 (i := 2) (v := .int .i64 0) rfl; have cb3 := cell_of hn2 (i := 3) (v := .int .i64 0) rfl; have cb4 := cell_of hn2 (i := 4) (v := .int .i64 0) rfl; have cb5 := cell_of hn2 (i := 5) (v := .int .i64 0) rfl; have cb6 := cell_of hn2 (i := 6) (v := .int .i64 0) rfl; have cb7 := cell_of hn2 (i := 7) (v := .int .i64 0) rfl; have cb36 := cell_of hn2 (i := 36) (v := .slice none 0 0) rfl; have H3x := Lib.hid (And.intro hk (And.intro hn2 (H2.out.2.1.trans (hb2.mono H2.out.2.1.size)))); clear hn2 hb2 hs2 H2 hk)
    | (refine bloadAt rfl 27 (.tmp 60) rfl w.heap.size 8 rfl (S := S0L) H3x.out.1 rfl Tryz.underlying27 rfl (by kernel_rfl) ?_)
    | (refine bloadAt rfl 27 (.tmp 62) rfl w2.heap.size 8 rfl (S := S0L) H3x.out.2.1 rfl Tryz.underlying27 rfl (by kernel_rfl) ?_)
    | (refine bloadAt rfl 25 (.tmp 67) rfl w.heap.size 10 rfl (S := O0L) H3x.out.1 rfl Tryz.underlying25 rfl (by kernel_rfl) ?_)
    | (refine bloadAt rfl 25 (.tmp 69) rfl w2.heap.size 10 rfl (S := O0L) H3x.out.2.1 rfl Tryz.underlying25 rfl (by kernel_rfl) ?_)
    | (refine bloadAt rfl 48 (.tmp 74) rfl w.heap.size 22 rfl (S := R0L) H3x.out.1 rfl Tryz.underlying48 rfl (by kernel_rfl) ?_)
    | (refine bloadAt rfl 48 (.tmp 76) rfl w2.heap.size 22 rfl (S := R0L) H3x.out.2.1 rfl Tryz.underlying48 rfl (by kernel_rfl) ?_)
    | (refine bloadAt rfl 71 (.tmp 81) rfl w.heap.size 28 rfl (S := M0L) H3x.out.1 rfl Tryz.underlying71 rfl (by kernel_rfl) ?_)
    | (refine bloadAt rfl 71 (.tmp 83) rfl w2.heap.size 28 rfl (S := M0L) H3x.out.2.1 rfl Tryz.underlying71 rfl (by kernel_rfl) ?_)
    | (refine bloadAt rfl 73 (.tmp 88) rfl w.heap.size 31 rfl (S := C0L) H3x.out.1 rfl Tryz.underlying73 rfl (by kernel_rfl) ?_)
    | (refine bloadAt rfl 73 (.tmp 90) rfl w2.heap.size 31 rfl (S := C0L) H3x.out.2.1 rfl Tryz.underlying73 rfl (by kernel_rfl) ?_)
    | (refine beql rfl 27 27 (.tmp 61) (.tmp 63) rfl (.agg S0L.toArray) (.agg S0L.toArray) rfl rfl true (by kernel_rfl) ?_)
    | (refine beql rfl 25 25 (.tmp 68) (.tmp 70) rfl (.agg O0L.toArray) (.agg O0L.toArray) rfl rfl true (by kernel_rfl) ?_)
    | (refine beql rfl 48 48 (.tmp 75) (.tmp 77) rfl (.agg R0L.toArray) (.agg R0L.toArray) rfl rfl true (by kernel_rfl) ?_)
    | (refine beql rfl 73 73 (.tmp 89) (.tmp 91) rfl (.agg C0L.toArray) (.agg C0L.toArray) rfl rfl true (by kernel_rfl) ?_)
    )
  refine (HM.out _).mono ?_
  rintro e w4 ⟨rfl, hb⟩
  have H4 := Lib.hid (And.intro ((hb.block _ (lt_of_block H3x.out.1)).trans H3x.out.1) (And.intro ((hb.block _ (lt_of_block H3x.out.2.1)).trans H3x.out.2.1) (H3x.out.2.2.trans (hb.mono H3x.out.2.2.size))))
  clear hb HM ca0 cb0 ca1 cb1 ca2 cb2 ca3 cb3 ca4 cb4 ca5 cb5 ca6 cb6 ca7 cb7 ca36 cb36
  clear H3x
  have ca36 := cell_of H4.out.1 (i := 36) (v := .slice none 0 0) rfl
  have cb36 := cell_of H4.out.2.1 (i := 36) (v := .slice none 0 0) rfl
  go_wp2_with (first
    | (refine bloadAt rfl 73 (.tmp 88) rfl w.heap.size 31 rfl (S := C0L) H4.out.1 rfl Tryz.underlying73 rfl (by kernel_rfl) ?_)
    | (refine bloadAt rfl 73 (.tmp 90) rfl w2.heap.size 31 rfl (S := C0L) H4.out.2.1 rfl Tryz.underlying73 rfl (by kernel_rfl) ?_)
    | (refine beql rfl 73 73 (.tmp 89) (.tmp 91) rfl (.agg C0L.toArray) (.agg C0L.toArray) rfl rfl true (by kernel_rfl) ?_)
    )
  go_ret
  exact ⟨rfl, H4.out.2.2⟩
end Go.Proofs.YteobfgmkajddfaaGreatDoor

namespace Go.Proofs.YteobfgmkajddfaaGreatDoor
open Go.RowKit Go.Sat Go.Maps

set_option maxRecDepth 100000 in
set_option maxHeartbeats 8000000 in
theorem tnothing_walk (w : World) (L : List Value) (hL : L.length = 37) {p : Option Addr} {n c : Nat} (h36 : L[36]? = some (.slice p n c)) : Calls Tryz.prog 6 #[.agg L.toArray] w (RetB true w) := by
  have HL := Lib.hid (And.intro hL (show L.toArray[36]? = some (.slice p n c) by simpa using h36))
  have HI := Lib.hid (show (Tryz.prog.info? 75).map (·.size) = some L.length by rw [hL]; kernel_rfl)
  clear hL h36
  by_cases hn : 1000 < n
  · go_enter Tryz.func6, Tryz.ntmps6
    go_wp2_with (refine bbox rfl 75 (.tmp 0) rfl rfl ?_; intro w2 hn1 hb1 hs1; have c36 := cell_of hn1 (i := 36) HL.out.2; have H2 := Lib.hid (And.intro hn1 (And.intro hb1 hs1)); clear hn1 hb1 hs1)
    go_ret
    exact ⟨rfl, H2.out.2.1⟩
  · go_enter Tryz.func6, Tryz.ntmps6
    go_wp2_with (refine bbox rfl 75 (.tmp 0) rfl rfl ?_; intro w2 hn1 hb1 hs1; have c36 := cell_of hn1 (i := 36) HL.out.2; have H2 := Lib.hid (And.intro hn1 (And.intro hb1 hs1)); clear hn1 hb1 hs1)
    refine (tstop_nil _).mono ?_
    rintro e w3 ⟨rfl, hw3⟩
    obtain rfl : w2 = w3 := hw3.symm
    clear c36
    go_wp2_with (refine bload rfl 75 (.tmp 1) rfl w.heap.size rfl (L := L) H2.out.1 Tryz.underlying75 rfl HI.out ?_)
    refine (hear_nil _ L).mono ?_
    rintro e w4 ⟨rfl, hb4⟩
    have H4 := Lib.hid (H2.out.2.1.trans (hb4.mono H2.out.2.1.size))
    clear hb4 H2
    have HK := Lib.hid like_calls
    have HS := Lib.hid wsame_calls
    have HN := Lib.hid known23_calls
    go_wp2_with (first
      | (refine balloc rfl 75 rfl (Tryz.zeroValue75 _) (by decide) ?_; intro w5 hn2 hb2 hs2; have H5 := Lib.hid (And.intro hn2 (H4.out.trans (hb2.mono H4.out.size))); clear hn2 hb2 hs2)
      | (refine bstore rfl 75 (.tmp 5) (.tmp 19) rfl w4.heap.size rfl rfl H5.out.1 rfl (by kernel_rfl) W0L_one ?_; intro w6 hn hc; have H6 := Lib.hid (And.intro hn (chg_one H5.out.2 hc H4.out.size)); clear hn hc)
      | (refine bload rfl 75 (.tmp 5) rfl w4.heap.size rfl (L := W0L) H6.out.1 Tryz.underlying75 rfl (by kernel_rfl) ?_))
    refine (HK.out _).mono ?_
    rintro e w7 ⟨rfl, hb7⟩
    have H7 := Lib.hid (H6.out.2.trans (hb7.mono H6.out.2.size))
    clear hb7 HK
    go_wp2_with (refine bbuild rfl 80 #[] rfl (v := .agg W0L.toArray) (by kernel_rfl) ?_)
    refine (HS.out _).mono ?_
    rintro e w8 ⟨rfl, hb8⟩
    have H8 := Lib.hid (H7.out.trans (hb8.mono H7.out.size))
    clear hb8 HS
    go_wp2_with fail
    refine (HN.out _).mono ?_
    rintro e w9 ⟨rfl, hb9⟩
    have H9 := Lib.hid (H8.out.trans (hb9.mono H8.out.size))
    clear hb9 HN
    go_wp2_with fail
    go_ret
    exact ⟨rfl, H9.out⟩
end Go.Proofs.YteobfgmkajddfaaGreatDoor

namespace Go.Proofs.YteobfgmkajddfaaGreatDoor
open Go.RowKit Go.Sat Go.ChangeShapes Go.WideShapes Go.ChangeAt Go.Deep

set_option maxRecDepth 100000 in
theorem word_arg {W : World} {base : Nat} {v : Value} (hv : Value.okWide Tryz.prog W .any base 75 v) : ∃ (L : List Value) (p : Option Addr) (n c : Nat), v = .agg L.toArray ∧ L.length = 37 ∧ L[36]? = some (.slice p n c) := by
  have h37 : Tryz.prog.cellsOf 75 = 37 := by kernel_rfl
  have hts : (Tryz.prog.cellTypes Tryz.prog.depth 75).map (fun ts => (ts.length, ts[36]?)) = some (37, some 39) := by kernel_rfl
  simp only [Value.okWide, Tryz.underlying75] at hv
  obtain ⟨cs, rfl, hsz, ts, h1, -, h3⟩ := hv
  rw [h37] at hsz
  rw [h1] at hts
  simp only [Option.map_some, Option.some.injEq, Prod.mk.injEq] at hts
  obtain ⟨x, hx⟩ : ∃ x, cs[36]? = some x := ⟨_, Array.getElem?_eq_getElem (by rw [hsz]; exact Nat.lt_of_sub_eq_succ rfl)⟩
  obtain ⟨u, hu, hc⟩ := h3 36 x hx
  rw [hts.1, show 36 % 37 = 36 from rfl, hts.2] at hu
  cases hu
  simp only [Cell.okWide, Tryz.underlying39] at hc
  have hs : ∃ p n c, x = .slice p n c := by
    clear hx h3 hts h1 hsz
    cases x <;> simp_all [Cell.ok]
  obtain ⟨p, n, c, rfl⟩ := hs
  exact ⟨cs.toList, p, n, c, by simp, by simpa using hsz, by rw [Array.getElem?_toList]; exact hx⟩
end Go.Proofs.YteobfgmkajddfaaGreatDoor
