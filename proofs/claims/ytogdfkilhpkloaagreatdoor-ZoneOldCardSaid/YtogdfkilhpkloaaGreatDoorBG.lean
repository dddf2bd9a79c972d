/- op.May of each kind. Printed by mkopz.py. op.May, of every request. -/
import Derived.Test.YtogdfkilhpkloaaGreatDoorBA
import Derived.Test.YtogdfkilhpkloaaGreatDoorBF
namespace Go.Proofs.YtogdfkilhpkloaaGreatDoor
open Go.RowKit Go.Sat Go.Maps

theorem below_dr (w : World) : Below w.heap.size w w.drew := ⟨rfl, rfl, rfl, Nat.le_refl _, fun _ _ => rfl⟩
theorem heldk1_new {w w1 : World} {client seq : Int} {ak aw tk tw : ByteArray} {item count price : Int} {buy : Bool} {id : Int} (n0 : w1.heap[w.heap.size]? = some (.cells #[.int .i64 1, .int .i64 client, .int .i64 seq, .string ak, .string aw, .string tk, .string tw, .int .i64 item, .int .i64 count, .int .i64 price, .bool buy, .int .i64 id] 25 (0, 0))) (n1 : w1.heap[w.heap.size + 1]? = some KindsO) (hb : Below w.heap.size w w1) :
    w1.heap[w.heap.size]? = some (.cells #[.int .i64 1, .int .i64 client, .int .i64 seq, .string ak, .string aw, .string tk, .string tw, .int .i64 item, .int .i64 count, .int .i64 price, .bool buy, .int .i64 id] 25 (0, 0)) ∧ w1.heap[w.heap.size + 1]? = some KindsO ∧ w1.cell? ⟨w.heap.size, 0, none⟩ = some (.int .i64 1) ∧ w1.cell? ⟨w.heap.size, 1, none⟩ = some (.int .i64 client) ∧ w1.cell? ⟨w.heap.size, 2, none⟩ = some (.int .i64 seq) ∧ w1.cell? ⟨w.heap.size, 3, none⟩ = some (.string ak) ∧ w1.cell? ⟨w.heap.size, 4, none⟩ = some (.string aw) ∧ w1.cell? ⟨w.heap.size, 5, none⟩ = some (.string tk) ∧ w1.cell? ⟨w.heap.size, 6, none⟩ = some (.string tw) ∧ w1.cell? ⟨w.heap.size, 7, none⟩ = some (.int .i64 item) ∧ w1.cell? ⟨w.heap.size, 8, none⟩ = some (.int .i64 count) ∧ w1.cell? ⟨w.heap.size, 9, none⟩ = some (.int .i64 price) ∧ w1.cell? ⟨w.heap.size, 10, none⟩ = some (.bool buy) ∧ w1.cell? ⟨w.heap.size, 11, none⟩ = some (.int .i64 id) ∧ w1.cell? ⟨w.heap.size + 1, 1, none⟩ = some (.func (.func 109) #[] #[]) ∧ Below w.heap.size w w1 :=
  ⟨n0, n1, cell_of n0 rfl, cell_of n0 rfl, cell_of n0 rfl, cell_of n0 rfl, cell_of n0 rfl, cell_of n0 rfl, cell_of n0 rfl, cell_of n0 rfl, cell_of n0 rfl, cell_of n0 rfl, cell_of n0 rfl, cell_of n0 rfl, cell_of n1 rfl, hb⟩
theorem heldk1_below {w w1 : World} {client seq : Int} {ak aw tk tw : ByteArray} {item count price : Int} {buy : Bool} {id : Int} (h : w1.heap[w.heap.size]? = some (.cells #[.int .i64 1, .int .i64 client, .int .i64 seq, .string ak, .string aw, .string tk, .string tw, .int .i64 item, .int .i64 count, .int .i64 price, .bool buy, .int .i64 id] 25 (0, 0)) ∧ w1.heap[w.heap.size + 1]? = some KindsO ∧ w1.cell? ⟨w.heap.size, 0, none⟩ = some (.int .i64 1) ∧ w1.cell? ⟨w.heap.size, 1, none⟩ = some (.int .i64 client) ∧ w1.cell? ⟨w.heap.size, 2, none⟩ = some (.int .i64 seq) ∧ w1.cell? ⟨w.heap.size, 3, none⟩ = some (.string ak) ∧ w1.cell? ⟨w.heap.size, 4, none⟩ = some (.string aw) ∧ w1.cell? ⟨w.heap.size, 5, none⟩ = some (.string tk) ∧ w1.cell? ⟨w.heap.size, 6, none⟩ = some (.string tw) ∧ w1.cell? ⟨w.heap.size, 7, none⟩ = some (.int .i64 item) ∧ w1.cell? ⟨w.heap.size, 8, none⟩ = some (.int .i64 count) ∧ w1.cell? ⟨w.heap.size, 9, none⟩ = some (.int .i64 price) ∧ w1.cell? ⟨w.heap.size, 10, none⟩ = some (.bool buy) ∧ w1.cell? ⟨w.heap.size, 11, none⟩ = some (.int .i64 id) ∧ w1.cell? ⟨w.heap.size + 1, 1, none⟩ = some (.func (.func 109) #[] #[]) ∧ Below w.heap.size w w1) : Below w.heap.size w w1 := h.2.2.2.2.2.2.2.2.2.2.2.2.2.2.2
set_option maxRecDepth 100000 in
set_option maxHeartbeats 8000000 in
theorem opmay1_calls (w : World) (client seq : Int) (ak aw tk tw : ByteArray) (item count price : Int) (buy : Bool) (id : Int) (h : OpM.wf ⟨1, client, seq, ak, aw, tk, tw, item, count, price, buy, id⟩) :
    Calls Tryz.prog 51 #[.agg #[.int .i64 1, .int .i64 client, .int .i64 seq, .string ak, .string aw, .string tk, .string tw, .int .i64 item, .int .i64 count, .int .i64 price, .bool buy, .int .i64 id]] w (RetB (OpM.may ⟨1, client, seq, ak, aw, tk, tw, item, count, price, buy, id⟩) w) := by
  have Hb := Lib.hid (fun x y : Obj => (box_below w x).trans ((box_below (w.alloc x) y).mono (box_below w x).size))
  have Hp := Lib.hid (fun W => isplace_calls W ak aw h.2.1.1 h.2.1.2.1)
  have Hc := Lib.hid (fun W => opcounts_calls W _ h)
  have Hm := Lib.hid (names_1 ⟨1, client, seq, ak, aw, tk, tw, item, count, price, buy, id⟩ (.inl rfl))
  have hfn := fun W => fn_eqn W (.func 109)
  go_enter Tryz.func51, Tryz.ntmps51
  go_wp2_with fail
  obtain ⟨w1, hw1⟩ : ∃ w1, w1 = (w.alloc (.cells #[.int .i64 1, .int .i64 client, .int .i64 seq, .string ak, .string aw, .string tk, .string tw, .int .i64 item, .int .i64 count, .int .i64 price, .bool buy, .int .i64 id] 25 (0, 0))).alloc (.cells #[.nilFunc, .func (.func 109) #[] #[], .func (.func 110) #[] #[], .func (.func 111) #[] #[], .func (.func 112) #[] #[], .func (.func 113) #[] #[], .func (.func 109) #[] #[], .func (.func 113) #[] #[]] 188 (0, 0)) := ⟨_, rfl⟩
  have n0 : w1.heap[w.heap.size]? = some (.cells #[.int .i64 1, .int .i64 client, .int .i64 seq, .string ak, .string aw, .string tk, .string tw, .int .i64 item, .int .i64 count, .int .i64 price, .bool buy, .int .i64 id] 25 (0, 0)) := by rw [hw1]; exact old_block _ (new_block _ _)
  have n1 : w1.heap[w.heap.size + 1]? = some KindsO := by rw [hw1]; exact new_block2 _ _ _
  have n3 : Below w.heap.size w w1 := hw1 ▸ Hb.out _ _
  rw [← hw1]
  clear hw1 Hb
  obtain ⟨k0, k1, k2, k3, k4, k5, k6, k7, k8, k9, k10, k11, k12, k13, k14, k15⟩ := heldk1_new n0 n1 n3
  have Hk := Lib.hid (heldk1_new n0 n1 n3)
  clear n0 n1 n3 k15
  rcases (by omega : client < 1 ∨ (1 ≤ client ∧ 1048576 < client) ∨ (1 ≤ client ∧ client ≤ 1048576 ∧ seq < 1) ∨ (1 ≤ client ∧ client ≤ 1048576 ∧ 1 ≤ seq ∧ 1099511627776 < seq) ∨ (1 ≤ client ∧ client ≤ 1048576 ∧ 1 ≤ seq ∧ seq ≤ 1099511627776)) with h1 | ⟨h1, h2⟩ | ⟨h1, h2, h3⟩ | ⟨h1, h2, h3, h4⟩ | ⟨h1, h2, h3, h4⟩
  · have hd : decide (1 ≤ client) = false := decide_eq_false (by omega)
    go_quiet (fail)
    go_wp2_with fail
    go_ret
    refine ⟨ret_bool ?_, (heldk1_below Hk.out).trans (below_drewN _ _ _)⟩
    unfold OpM.may
    simp
    omega
  · have hd : decide (client ≤ 1048576) = false := decide_eq_false (by omega)
    go_quiet (fail)
    go_wp2_with fail
    go_ret
    refine ⟨ret_bool ?_, (heldk1_below Hk.out).trans (below_drewN _ _ _)⟩
    unfold OpM.may
    simp
    omega
  · have hd : decide (1 ≤ seq) = false := decide_eq_false (by omega)
    go_quiet (fail)
    go_wp2_with fail
    go_ret
    refine ⟨ret_bool ?_, (heldk1_below Hk.out).trans (below_drewN _ _ _)⟩
    unfold OpM.may
    simp
    omega
  · have hd : decide (seq ≤ 1099511627776) = false := decide_eq_false (by omega)
    go_quiet (fail)
    go_wp2_with fail
    go_ret
    refine ⟨ret_bool ?_, (heldk1_below Hk.out).trans (below_drewN _ _ _)⟩
    unfold OpM.may
    simp
    omega
  · have hmay : OpM.may ⟨1, client, seq, ak, aw, tk, tw, item, count, price, buy, id⟩ = (isPl ak aw && OpM.cntM ⟨1, client, seq, ak, aw, tk, tw, item, count, price, buy, id⟩) := by
      rw [← Hm.out]
      unfold OpM.may
      simp [h1, h2, h3, h4]
    refine ord_start (fun w' : World => w'.heap[w.heap.size]? = some (.cells #[.int .i64 1, .int .i64 client, .int .i64 seq, .string ak, .string aw, .string tk, .string tw, .int .i64 item, .int .i64 count, .int .i64 price, .bool buy, .int .i64 id] 25 (0, 0)) ∧ w'.heap[w.heap.size + 1]? = some KindsO) (n := 32) (by kernel_rfl) rfl ⟨Hk.out.1, Hk.out.2.1⟩ (fun hHeld => ?_)
    have HB := Lib.hid ((heldk1_below Hk.out).trans ((below_dr w1).mono (heldk1_below Hk.out).size))
    clear k0 k1 k2 k3 k4 k5 k6 k7 k8 k9 k10 k11 k12 k13 k14 Hk
    generalize w1.drew = w2 at *
    refine Pl [0, 1, 2, 3, 4, 5, 6, 7, 8, 9, 10, 11, 12, 13, 14, 15, 16, 17, 18, 19, 20] ?_
    iterate 2 (refine Pd rfl (by intro w' hSw; have q0 := cell_of hSw.1 (i := 0) (v := .int .i64 1) rfl; have q1 := cell_of hSw.1 (i := 1) (v := .int .i64 client) rfl; have q2 := cell_of hSw.1 (i := 2) (v := .int .i64 seq) rfl; have q3 := cell_of hSw.1 (i := 3) (v := .string ak) rfl; have q4 := cell_of hSw.1 (i := 4) (v := .string aw) rfl; have q5 := cell_of hSw.2 (i := 1) (v := .func (.func 109) #[] #[]) rfl; go_simp; try with_reducible rfl) ?_; simp only [Act.put, uA, uB, uC])
    refine Pd (v := .bool true) rfl (by intro w' hSw; have e : decide (client ≥ 1) = true := decide_eq_true h1; go_simp; try with_reducible rfl) ?_; simp only [Act.put, uA, uB, uC]
    iterate 3 (refine Pd rfl (by intro w' hSw; have q0 := cell_of hSw.1 (i := 0) (v := .int .i64 1) rfl; have q1 := cell_of hSw.1 (i := 1) (v := .int .i64 client) rfl; have q2 := cell_of hSw.1 (i := 2) (v := .int .i64 seq) rfl; have q3 := cell_of hSw.1 (i := 3) (v := .string ak) rfl; have q4 := cell_of hSw.1 (i := 4) (v := .string aw) rfl; have q5 := cell_of hSw.2 (i := 1) (v := .func (.func 109) #[] #[]) rfl; go_simp; try with_reducible rfl) ?_; simp only [Act.put, uA, uB, uC])
    refine Pd (v := .bool true) rfl (by intro w' hSw; have e : decide (client ≤ 1048576) = true := decide_eq_true h2; go_simp; try with_reducible rfl) ?_; simp only [Act.put, uA, uB, uC]
    iterate 4 (refine Pd rfl (by intro w' hSw; have q0 := cell_of hSw.1 (i := 0) (v := .int .i64 1) rfl; have q1 := cell_of hSw.1 (i := 1) (v := .int .i64 client) rfl; have q2 := cell_of hSw.1 (i := 2) (v := .int .i64 seq) rfl; have q3 := cell_of hSw.1 (i := 3) (v := .string ak) rfl; have q4 := cell_of hSw.1 (i := 4) (v := .string aw) rfl; have q5 := cell_of hSw.2 (i := 1) (v := .func (.func 109) #[] #[]) rfl; go_simp; try with_reducible rfl) ?_; simp only [Act.put, uA, uB, uC])
    refine Pd (v := .bool true) rfl (by intro w' hSw; have e : decide (seq ≥ 1) = true := decide_eq_true h3; go_simp; try with_reducible rfl) ?_; simp only [Act.put, uA, uB, uC]
    iterate 4 (refine Pd rfl (by intro w' hSw; have q0 := cell_of hSw.1 (i := 0) (v := .int .i64 1) rfl; have q1 := cell_of hSw.1 (i := 1) (v := .int .i64 client) rfl; have q2 := cell_of hSw.1 (i := 2) (v := .int .i64 seq) rfl; have q3 := cell_of hSw.1 (i := 3) (v := .string ak) rfl; have q4 := cell_of hSw.1 (i := 4) (v := .string aw) rfl; have q5 := cell_of hSw.2 (i := 1) (v := .func (.func 109) #[] #[]) rfl; go_simp; try with_reducible rfl) ?_; simp only [Act.put, uA, uB, uC])
    refine Pd (v := .bool true) rfl (by intro w' hSw; have e : decide (seq ≤ 1099511627776) = true := decide_eq_true h4; go_simp; try with_reducible rfl) ?_; simp only [Act.put, uA, uB, uC]
    iterate 4 (refine Pd rfl (by intro w' hSw; have q0 := cell_of hSw.1 (i := 0) (v := .int .i64 1) rfl; have q1 := cell_of hSw.1 (i := 1) (v := .int .i64 client) rfl; have q2 := cell_of hSw.1 (i := 2) (v := .int .i64 seq) rfl; have q3 := cell_of hSw.1 (i := 3) (v := .string ak) rfl; have q4 := cell_of hSw.1 (i := 4) (v := .string aw) rfl; have q5 := cell_of hSw.2 (i := 1) (v := .func (.func 109) #[] #[]) rfl; go_simp; try with_reducible rfl) ?_; simp only [Act.put, uA, uB, uC])
    refine Pn ?_
    refine ord_one 21 rfl (by kernel_rfl) (by rfl) (fun K hK => ?_)
    go_wp2_with fail
    refine (Hp.out _).mono ?_
    rintro e w3 ⟨rfl, hb⟩
    have hH3 := And.intro ((hb.block _ (lt_of_block hHeld.1)).trans hHeld.1) ((hb.block _ (lt_of_block hHeld.2)).trans hHeld.2)
    have HB3 := Lib.hid (HB.out.trans (hb.mono HB.out.size))
    clear hb hHeld Hp HB
    cases hv : isPl ak aw with
    | false =>
      rw [hv] at hmay
      go_wp2_with fail
      refine hK.out _ _ hH3 (fun hHeld => ?_)
      clear hK hH3
      try simp only [Act.put, uA, uB, uC]
      refine Pl [22, 23, 24, 25, 26, 27, 28, 29, 30, 31] ?_
      iterate 2 (refine Pc rfl ?_; simp only [Act.put, uA, uB, uC])
      iterate 6 (refine Ps rfl ?_; simp only [Act.put, uA, uB, uC])
      iterate 2 (refine Pc rfl ?_; simp only [Act.put, uA, uB, uC])
      refine Pn ?_
      refine wpAnyH_done (by kernel_rfl) ?_ _
      clear hHeld
      go_wp2_with fail
      go_ret
      exact ⟨by rw [hmay]; rfl, HB3.out⟩
    | true =>
      rw [hv] at hmay
      go_wp2_with fail
      refine hK.out _ _ hH3 (fun hHeld => ?_)
      clear hK hH3
      try simp only [Act.put, uA, uB, uC]
      refine Pl [22, 23, 24, 25, 26, 27, 28] ?_
      iterate 2 (refine Pc rfl ?_; simp only [Act.put, uA, uB, uC])
      iterate 4 (refine Pd rfl (by intro w' hSw; have q0 := cell_of hSw.1 (i := 0) (v := .int .i64 1) rfl; have q1 := cell_of hSw.1 (i := 1) (v := .int .i64 client) rfl; have q2 := cell_of hSw.1 (i := 2) (v := .int .i64 seq) rfl; have q3 := cell_of hSw.1 (i := 3) (v := .string ak) rfl; have q4 := cell_of hSw.1 (i := 4) (v := .string aw) rfl; have q5 := cell_of hSw.2 (i := 1) (v := .func (.func 109) #[] #[]) rfl; go_simp; try with_reducible rfl) ?_; simp only [Act.put, uA, uB, uC])
      refine Pd rfl (by intro w' hSw; exact yload 25 (.tmp 1) rfl rfl hSw.1 Tryz.underlying25 rfl (by kernel_rfl)) ?_; simp only [Act.put, uA, uB, uC]
      refine Pn ?_
      refine ord_one 29 rfl (by kernel_rfl) (by rfl) (fun K hK => ?_)
      go_wp2_with fail
      refine (Hc.out _).mono ?_
      rintro e w4 ⟨rfl, hb⟩
      have hH4 := And.intro ((hb.block _ (lt_of_block hHeld.1)).trans hHeld.1) ((hb.block _ (lt_of_block hHeld.2)).trans hHeld.2)
      have HB4 := Lib.hid (HB3.out.trans (hb.mono HB3.out.size))
      clear hb hHeld Hc HB3
      go_wp2_with fail
      refine hK.out _ _ hH4 (fun hHeld => ?_)
      clear hK hH4
      try simp only [Act.put, uA, uB, uC]
      refine Pl [30, 31] ?_
      iterate 2 (refine Pc rfl ?_; simp only [Act.put, uA, uB, uC])
      refine Pn ?_
      refine wpAnyH_done (by kernel_rfl) ?_ _
      clear hHeld
      go_wp2_with fail
      go_ret
      exact ⟨by rw [hmay]; rfl, HB4.out⟩
theorem heldk2_new {w w1 : World} {client seq : Int} {ak aw tk tw : ByteArray} {item count price : Int} {buy : Bool} {id : Int} (n0 : w1.heap[w.heap.size]? = some (.cells #[.int .i64 2, .int .i64 client, .int .i64 seq, .string ak, .string aw, .string tk, .string tw, .int .i64 item, .int .i64 count, .int .i64 price, .bool buy, .int .i64 id] 25 (0, 0))) (n1 : w1.heap[w.heap.size + 1]? = some KindsO) (hb : Below w.heap.size w w1) :
    w1.heap[w.heap.size]? = some (.cells #[.int .i64 2, .int .i64 client, .int .i64 seq, .string ak, .string aw, .string tk, .string tw, .int .i64 item, .int .i64 count, .int .i64 price, .bool buy, .int .i64 id] 25 (0, 0)) ∧ w1.heap[w.heap.size + 1]? = some KindsO ∧ w1.cell? ⟨w.heap.size, 0, none⟩ = some (.int .i64 2) ∧ w1.cell? ⟨w.heap.size, 1, none⟩ = some (.int .i64 client) ∧ w1.cell? ⟨w.heap.size, 2, none⟩ = some (.int .i64 seq) ∧ w1.cell? ⟨w.heap.size, 3, none⟩ = some (.string ak) ∧ w1.cell? ⟨w.heap.size, 4, none⟩ = some (.string aw) ∧ w1.cell? ⟨w.heap.size, 5, none⟩ = some (.string tk) ∧ w1.cell? ⟨w.heap.size, 6, none⟩ = some (.string tw) ∧ w1.cell? ⟨w.heap.size, 7, none⟩ = some (.int .i64 item) ∧ w1.cell? ⟨w.heap.size, 8, none⟩ = some (.int .i64 count) ∧ w1.cell? ⟨w.heap.size, 9, none⟩ = some (.int .i64 price) ∧ w1.cell? ⟨w.heap.size, 10, none⟩ = some (.bool buy) ∧ w1.cell? ⟨w.heap.size, 11, none⟩ = some (.int .i64 id) ∧ w1.cell? ⟨w.heap.size + 1, 2, none⟩ = some (.func (.func 110) #[] #[]) ∧ Below w.heap.size w w1 :=
  ⟨n0, n1, cell_of n0 rfl, cell_of n0 rfl, cell_of n0 rfl, cell_of n0 rfl, cell_of n0 rfl, cell_of n0 rfl, cell_of n0 rfl, cell_of n0 rfl, cell_of n0 rfl, cell_of n0 rfl, cell_of n0 rfl, cell_of n0 rfl, cell_of n1 rfl, hb⟩
theorem heldk2_below {w w1 : World} {client seq : Int} {ak aw tk tw : ByteArray} {item count price : Int} {buy : Bool} {id : Int} (h : w1.heap[w.heap.size]? = some (.cells #[.int .i64 2, .int .i64 client, .int .i64 seq, .string ak, .string aw, .string tk, .string tw, .int .i64 item, .int .i64 count, .int .i64 price, .bool buy, .int .i64 id] 25 (0, 0)) ∧ w1.heap[w.heap.size + 1]? = some KindsO ∧ w1.cell? ⟨w.heap.size, 0, none⟩ = some (.int .i64 2) ∧ w1.cell? ⟨w.heap.size, 1, none⟩ = some (.int .i64 client) ∧ w1.cell? ⟨w.heap.size, 2, none⟩ = some (.int .i64 seq) ∧ w1.cell? ⟨w.heap.size, 3, none⟩ = some (.string ak) ∧ w1.cell? ⟨w.heap.size, 4, none⟩ = some (.string aw) ∧ w1.cell? ⟨w.heap.size, 5, none⟩ = some (.string tk) ∧ w1.cell? ⟨w.heap.size, 6, none⟩ = some (.string tw) ∧ w1.cell? ⟨w.heap.size, 7, none⟩ = some (.int .i64 item) ∧ w1.cell? ⟨w.heap.size, 8, none⟩ = some (.int .i64 count) ∧ w1.cell? ⟨w.heap.size, 9, none⟩ = some (.int .i64 price) ∧ w1.cell? ⟨w.heap.size, 10, none⟩ = some (.bool buy) ∧ w1.cell? ⟨w.heap.size, 11, none⟩ = some (.int .i64 id) ∧ w1.cell? ⟨w.heap.size + 1, 2, none⟩ = some (.func (.func 110) #[] #[]) ∧ Below w.heap.size w w1) : Below w.heap.size w w1 := h.2.2.2.2.2.2.2.2.2.2.2.2.2.2.2
set_option maxRecDepth 100000 in
set_option maxHeartbeats 8000000 in
theorem opmay2_calls (w : World) (client seq : Int) (ak aw tk tw : ByteArray) (item count price : Int) (buy : Bool) (id : Int) (h : OpM.wf ⟨2, client, seq, ak, aw, tk, tw, item, count, price, buy, id⟩) :
    Calls Tryz.prog 51 #[.agg #[.int .i64 2, .int .i64 client, .int .i64 seq, .string ak, .string aw, .string tk, .string tw, .int .i64 item, .int .i64 count, .int .i64 price, .bool buy, .int .i64 id]] w (RetB (OpM.may ⟨2, client, seq, ak, aw, tk, tw, item, count, price, buy, id⟩) w) := by
  have Hb := Lib.hid (fun x y : Obj => (box_below w x).trans ((box_below (w.alloc x) y).mono (box_below w x).size))
  have Hp := Lib.hid (fun W => isplace_calls W ak aw h.2.1.1 h.2.1.2.1)
  have Hc := Lib.hid (fun W => opsends_calls W _ h)
  have Hm := Lib.hid (names_2 ⟨2, client, seq, ak, aw, tk, tw, item, count, price, buy, id⟩ rfl)
  have hfn := fun W => fn_eqn W (.func 110)
  go_enter Tryz.func51, Tryz.ntmps51
  go_wp2_with fail
  obtain ⟨w1, hw1⟩ : ∃ w1, w1 = (w.alloc (.cells #[.int .i64 2, .int .i64 client, .int .i64 seq, .string ak, .string aw, .string tk, .string tw, .int .i64 item, .int .i64 count, .int .i64 price, .bool buy, .int .i64 id] 25 (0, 0))).alloc (.cells #[.nilFunc, .func (.func 109) #[] #[], .func (.func 110) #[] #[], .func (.func 111) #[] #[], .func (.func 112) #[] #[], .func (.func 113) #[] #[], .func (.func 109) #[] #[], .func (.func 113) #[] #[]] 188 (0, 0)) := ⟨_, rfl⟩
  have n0 : w1.heap[w.heap.size]? = some (.cells #[.int .i64 2, .int .i64 client, .int .i64 seq, .string ak, .string aw, .string tk, .string tw, .int .i64 item, .int .i64 count, .int .i64 price, .bool buy, .int .i64 id] 25 (0, 0)) := by rw [hw1]; exact old_block _ (new_block _ _)
  have n1 : w1.heap[w.heap.size + 1]? = some KindsO := by rw [hw1]; exact new_block2 _ _ _
  have n3 : Below w.heap.size w w1 := hw1 ▸ Hb.out _ _
  rw [← hw1]
  clear hw1 Hb
  obtain ⟨k0, k1, k2, k3, k4, k5, k6, k7, k8, k9, k10, k11, k12, k13, k14, k15⟩ := heldk2_new n0 n1 n3
  have Hk := Lib.hid (heldk2_new n0 n1 n3)
  clear n0 n1 n3 k15
  rcases (by omega : client < 1 ∨ (1 ≤ client ∧ 1048576 < client) ∨ (1 ≤ client ∧ client ≤ 1048576 ∧ seq < 1) ∨ (1 ≤ client ∧ client ≤ 1048576 ∧ 1 ≤ seq ∧ 1099511627776 < seq) ∨ (1 ≤ client ∧ client ≤ 1048576 ∧ 1 ≤ seq ∧ seq ≤ 1099511627776)) with h1 | ⟨h1, h2⟩ | ⟨h1, h2, h3⟩ | ⟨h1, h2, h3, h4⟩ | ⟨h1, h2, h3, h4⟩
  · have hd : decide (1 ≤ client) = false := decide_eq_false (by omega)
    go_quiet (fail)
    go_wp2_with fail
    go_ret
    refine ⟨ret_bool ?_, (heldk2_below Hk.out).trans (below_drewN _ _ _)⟩
    unfold OpM.may
    simp
    omega
  · have hd : decide (client ≤ 1048576) = false := decide_eq_false (by omega)
    go_quiet (fail)
    go_wp2_with fail
    go_ret
    refine ⟨ret_bool ?_, (heldk2_below Hk.out).trans (below_drewN _ _ _)⟩
    unfold OpM.may
    simp
    omega
  · have hd : decide (1 ≤ seq) = false := decide_eq_false (by omega)
    go_quiet (fail)
    go_wp2_with fail
    go_ret
    refine ⟨ret_bool ?_, (heldk2_below Hk.out).trans (below_drewN _ _ _)⟩
    unfold OpM.may
    simp
    omega
  · have hd : decide (seq ≤ 1099511627776) = false := decide_eq_false (by omega)
    go_quiet (fail)
    go_wp2_with fail
    go_ret
    refine ⟨ret_bool ?_, (heldk2_below Hk.out).trans (below_drewN _ _ _)⟩
    unfold OpM.may
    simp
    omega
  · have hmay : OpM.may ⟨2, client, seq, ak, aw, tk, tw, item, count, price, buy, id⟩ = (isPl ak aw && OpM.sendM ⟨2, client, seq, ak, aw, tk, tw, item, count, price, buy, id⟩) := by
      rw [← Hm.out]
      unfold OpM.may
      simp [h1, h2, h3, h4]
    refine ord_start (fun w' : World => w'.heap[w.heap.size]? = some (.cells #[.int .i64 2, .int .i64 client, .int .i64 seq, .string ak, .string aw, .string tk, .string tw, .int .i64 item, .int .i64 count, .int .i64 price, .bool buy, .int .i64 id] 25 (0, 0)) ∧ w'.heap[w.heap.size + 1]? = some KindsO) (n := 32) (by kernel_rfl) rfl ⟨Hk.out.1, Hk.out.2.1⟩ (fun hHeld => ?_)
    have HB := Lib.hid ((heldk2_below Hk.out).trans ((below_dr w1).mono (heldk2_below Hk.out).size))
    clear k0 k1 k2 k3 k4 k5 k6 k7 k8 k9 k10 k11 k12 k13 k14 Hk
    generalize w1.drew = w2 at *
    refine Pl [0, 1, 2, 3, 4, 5, 6, 7, 8, 9, 10, 11, 12, 13, 14, 15, 16, 17, 18, 19, 20] ?_
    iterate 2 (refine Pd rfl (by intro w' hSw; have q0 := cell_of hSw.1 (i := 0) (v := .int .i64 2) rfl; have q1 := cell_of hSw.1 (i := 1) (v := .int .i64 client) rfl; have q2 := cell_of hSw.1 (i := 2) (v := .int .i64 seq) rfl; have q3 := cell_of hSw.1 (i := 3) (v := .string ak) rfl; have q4 := cell_of hSw.1 (i := 4) (v := .string aw) rfl; have q5 := cell_of hSw.2 (i := 2) (v := .func (.func 110) #[] #[]) rfl; go_simp; try with_reducible rfl) ?_; simp only [Act.put, uA, uB, uC])
    refine Pd (v := .bool true) rfl (by intro w' hSw; have e : decide (client ≥ 1) = true := decide_eq_true h1; go_simp; try with_reducible rfl) ?_; simp only [Act.put, uA, uB, uC]
    iterate 3 (refine Pd rfl (by intro w' hSw; have q0 := cell_of hSw.1 (i := 0) (v := .int .i64 2) rfl; have q1 := cell_of hSw.1 (i := 1) (v := .int .i64 client) rfl; have q2 := cell_of hSw.1 (i := 2) (v := .int .i64 seq) rfl; have q3 := cell_of hSw.1 (i := 3) (v := .string ak) rfl; have q4 := cell_of hSw.1 (i := 4) (v := .string aw) rfl; have q5 := cell_of hSw.2 (i := 2) (v := .func (.func 110) #[] #[]) rfl; go_simp; try with_reducible rfl) ?_; simp only [Act.put, uA, uB, uC])
    refine Pd (v := .bool true) rfl (by intro w' hSw; have e : decide (client ≤ 1048576) = true := decide_eq_true h2; go_simp; try with_reducible rfl) ?_; simp only [Act.put, uA, uB, uC]
    iterate 4 (refine Pd rfl (by intro w' hSw; have q0 := cell_of hSw.1 (i := 0) (v := .int .i64 2) rfl; have q1 := cell_of hSw.1 (i := 1) (v := .int .i64 client) rfl; have q2 := cell_of hSw.1 (i := 2) (v := .int .i64 seq) rfl; have q3 := cell_of hSw.1 (i := 3) (v := .string ak) rfl; have q4 := cell_of hSw.1 (i := 4) (v := .string aw) rfl; have q5 := cell_of hSw.2 (i := 2) (v := .func (.func 110) #[] #[]) rfl; go_simp; try with_reducible rfl) ?_; simp only [Act.put, uA, uB, uC])
    refine Pd (v := .bool true) rfl (by intro w' hSw; have e : decide (seq ≥ 1) = true := decide_eq_true h3; go_simp; try with_reducible rfl) ?_; simp only [Act.put, uA, uB, uC]
    iterate 4 (refine Pd rfl (by intro w' hSw; have q0 := cell_of hSw.1 (i := 0) (v := .int .i64 2) rfl; have q1 := cell_of hSw.1 (i := 1) (v := .int .i64 client) rfl; have q2 := cell_of hSw.1 (i := 2) (v := .int .i64 seq) rfl; have q3 := cell_of hSw.1 (i := 3) (v := .string ak) rfl; have q4 := cell_of hSw.1 (i := 4) (v := .string aw) rfl; have q5 := cell_of hSw.2 (i := 2) (v := .func (.func 110) #[] #[]) rfl; go_simp; try with_reducible rfl) ?_; simp only [Act.put, uA, uB, uC])
    refine Pd (v := .bool true) rfl (by intro w' hSw; have e : decide (seq ≤ 1099511627776) = true := decide_eq_true h4; go_simp; try with_reducible rfl) ?_; simp only [Act.put, uA, uB, uC]
    iterate 4 (refine Pd rfl (by intro w' hSw; have q0 := cell_of hSw.1 (i := 0) (v := .int .i64 2) rfl; have q1 := cell_of hSw.1 (i := 1) (v := .int .i64 client) rfl; have q2 := cell_of hSw.1 (i := 2) (v := .int .i64 seq) rfl; have q3 := cell_of hSw.1 (i := 3) (v := .string ak) rfl; have q4 := cell_of hSw.1 (i := 4) (v := .string aw) rfl; have q5 := cell_of hSw.2 (i := 2) (v := .func (.func 110) #[] #[]) rfl; go_simp; try with_reducible rfl) ?_; simp only [Act.put, uA, uB, uC])
    refine Pn ?_
    refine ord_one 21 rfl (by kernel_rfl) (by rfl) (fun K hK => ?_)
    go_wp2_with fail
    refine (Hp.out _).mono ?_
    rintro e w3 ⟨rfl, hb⟩
    have hH3 := And.intro ((hb.block _ (lt_of_block hHeld.1)).trans hHeld.1) ((hb.block _ (lt_of_block hHeld.2)).trans hHeld.2)
    have HB3 := Lib.hid (HB.out.trans (hb.mono HB.out.size))
    clear hb hHeld Hp HB
    cases hv : isPl ak aw with
    | false =>
      rw [hv] at hmay
      go_wp2_with fail
      refine hK.out _ _ hH3 (fun hHeld => ?_)
      clear hK hH3
      try simp only [Act.put, uA, uB, uC]
      refine Pl [22, 23, 24, 25, 26, 27, 28, 29, 30, 31] ?_
      iterate 2 (refine Pc rfl ?_; simp only [Act.put, uA, uB, uC])
      iterate 6 (refine Ps rfl ?_; simp only [Act.put, uA, uB, uC])
      iterate 2 (refine Pc rfl ?_; simp only [Act.put, uA, uB, uC])
      refine Pn ?_
      refine wpAnyH_done (by kernel_rfl) ?_ _
      clear hHeld
      go_wp2_with fail
      go_ret
      exact ⟨by rw [hmay]; rfl, HB3.out⟩
    | true =>
      rw [hv] at hmay
      go_wp2_with fail
      refine hK.out _ _ hH3 (fun hHeld => ?_)
      clear hK hH3
      try simp only [Act.put, uA, uB, uC]
      refine Pl [22, 23, 24, 25, 26, 27, 28] ?_
      iterate 2 (refine Pc rfl ?_; simp only [Act.put, uA, uB, uC])
      iterate 4 (refine Pd rfl (by intro w' hSw; have q0 := cell_of hSw.1 (i := 0) (v := .int .i64 2) rfl; have q1 := cell_of hSw.1 (i := 1) (v := .int .i64 client) rfl; have q2 := cell_of hSw.1 (i := 2) (v := .int .i64 seq) rfl; have q3 := cell_of hSw.1 (i := 3) (v := .string ak) rfl; have q4 := cell_of hSw.1 (i := 4) (v := .string aw) rfl; have q5 := cell_of hSw.2 (i := 2) (v := .func (.func 110) #[] #[]) rfl; go_simp; try with_reducible rfl) ?_; simp only [Act.put, uA, uB, uC])
      refine Pd rfl (by intro w' hSw; exact yload 25 (.tmp 1) rfl rfl hSw.1 Tryz.underlying25 rfl (by kernel_rfl)) ?_; simp only [Act.put, uA, uB, uC]
      refine Pn ?_
      refine ord_one 29 rfl (by kernel_rfl) (by rfl) (fun K hK => ?_)
      go_wp2_with fail
      refine (Hc.out _).mono ?_
      rintro e w4 ⟨rfl, hb⟩
      have hH4 := And.intro ((hb.block _ (lt_of_block hHeld.1)).trans hHeld.1) ((hb.block _ (lt_of_block hHeld.2)).trans hHeld.2)
      have HB4 := Lib.hid (HB3.out.trans (hb.mono HB3.out.size))
      clear hb hHeld Hc HB3
      go_wp2_with fail
      refine hK.out _ _ hH4 (fun hHeld => ?_)
      clear hK hH4
      try simp only [Act.put, uA, uB, uC]
      refine Pl [30, 31] ?_
      iterate 2 (refine Pc rfl ?_; simp only [Act.put, uA, uB, uC])
      refine Pn ?_
      refine wpAnyH_done (by kernel_rfl) ?_ _
      clear hHeld
      go_wp2_with fail
      go_ret
      exact ⟨by rw [hmay]; rfl, HB4.out⟩
theorem heldk3_new {w w1 : World} {client seq : Int} {ak aw tk tw : ByteArray} {item count price : Int} {buy : Bool} {id : Int} (n0 : w1.heap[w.heap.size]? = some (.cells #[.int .i64 3, .int .i64 client, .int .i64 seq, .string ak, .string aw, .string tk, .string tw, .int .i64 item, .int .i64 count, .int .i64 price, .bool buy, .int .i64 id] 25 (0, 0))) (n1 : w1.heap[w.heap.size + 1]? = some KindsO) (hb : Below w.heap.size w w1) :
    w1.heap[w.heap.size]? = some (.cells #[.int .i64 3, .int .i64 client, .int .i64 seq, .string ak, .string aw, .string tk, .string tw, .int .i64 item, .int .i64 count, .int .i64 price, .bool buy, .int .i64 id] 25 (0, 0)) ∧ w1.heap[w.heap.size + 1]? = some KindsO ∧ w1.cell? ⟨w.heap.size, 0, none⟩ = some (.int .i64 3) ∧ w1.cell? ⟨w.heap.size, 1, none⟩ = some (.int .i64 client) ∧ w1.cell? ⟨w.heap.size, 2, none⟩ = some (.int .i64 seq) ∧ w1.cell? ⟨w.heap.size, 3, none⟩ = some (.string ak) ∧ w1.cell? ⟨w.heap.size, 4, none⟩ = some (.string aw) ∧ w1.cell? ⟨w.heap.size, 5, none⟩ = some (.string tk) ∧ w1.cell? ⟨w.heap.size, 6, none⟩ = some (.string tw) ∧ w1.cell? ⟨w.heap.size, 7, none⟩ = some (.int .i64 item) ∧ w1.cell? ⟨w.heap.size, 8, none⟩ = some (.int .i64 count) ∧ w1.cell? ⟨w.heap.size, 9, none⟩ = some (.int .i64 price) ∧ w1.cell? ⟨w.heap.size, 10, none⟩ = some (.bool buy) ∧ w1.cell? ⟨w.heap.size, 11, none⟩ = some (.int .i64 id) ∧ w1.cell? ⟨w.heap.size + 1, 3, none⟩ = some (.func (.func 111) #[] #[]) ∧ Below w.heap.size w w1 :=
  ⟨n0, n1, cell_of n0 rfl, cell_of n0 rfl, cell_of n0 rfl, cell_of n0 rfl, cell_of n0 rfl, cell_of n0 rfl, cell_of n0 rfl, cell_of n0 rfl, cell_of n0 rfl, cell_of n0 rfl, cell_of n0 rfl, cell_of n0 rfl, cell_of n1 rfl, hb⟩
theorem heldk3_below {w w1 : World} {client seq : Int} {ak aw tk tw : ByteArray} {item count price : Int} {buy : Bool} {id : Int} (h : w1.heap[w.heap.size]? = some (.cells #[.int .i64 3, .int .i64 client, .int .i64 seq, .string ak, .string aw, .string tk, .string tw, .int .i64 item, .int .i64 count, .int .i64 price, .bool buy, .int .i64 id] 25 (0, 0)) ∧ w1.heap[w.heap.size + 1]? = some KindsO ∧ w1.cell? ⟨w.heap.size, 0, none⟩ = some (.int .i64 3) ∧ w1.cell? ⟨w.heap.size, 1, none⟩ = some (.int .i64 client) ∧ w1.cell? ⟨w.heap.size, 2, none⟩ = some (.int .i64 seq) ∧ w1.cell? ⟨w.heap.size, 3, none⟩ = some (.string ak) ∧ w1.cell? ⟨w.heap.size, 4, none⟩ = some (.string aw) ∧ w1.cell? ⟨w.heap.size, 5, none⟩ = some (.string tk) ∧ w1.cell? ⟨w.heap.size, 6, none⟩ = some (.string tw) ∧ w1.cell? ⟨w.heap.size, 7, none⟩ = some (.int .i64 item) ∧ w1.cell? ⟨w.heap.size, 8, none⟩ = some (.int .i64 count) ∧ w1.cell? ⟨w.heap.size, 9, none⟩ = some (.int .i64 price) ∧ w1.cell? ⟨w.heap.size, 10, none⟩ = some (.bool buy) ∧ w1.cell? ⟨w.heap.size, 11, none⟩ = some (.int .i64 id) ∧ w1.cell? ⟨w.heap.size + 1, 3, none⟩ = some (.func (.func 111) #[] #[]) ∧ Below w.heap.size w w1) : Below w.heap.size w w1 := h.2.2.2.2.2.2.2.2.2.2.2.2.2.2.2
set_option maxRecDepth 100000 in
set_option maxHeartbeats 8000000 in
theorem opmay3_calls (w : World) (client seq : Int) (ak aw tk tw : ByteArray) (item count price : Int) (buy : Bool) (id : Int) (h : OpM.wf ⟨3, client, seq, ak, aw, tk, tw, item, count, price, buy, id⟩) :
    Calls Tryz.prog 51 #[.agg #[.int .i64 3, .int .i64 client, .int .i64 seq, .string ak, .string aw, .string tk, .string tw, .int .i64 item, .int .i64 count, .int .i64 price, .bool buy, .int .i64 id]] w (RetB (OpM.may ⟨3, client, seq, ak, aw, tk, tw, item, count, price, buy, id⟩) w) := by
  have Hb := Lib.hid (fun x y : Obj => (box_below w x).trans ((box_below (w.alloc x) y).mono (box_below w x).size))
  have Hp := Lib.hid (fun W => isplace_calls W ak aw h.2.1.1 h.2.1.2.1)
  have Hc := Lib.hid (fun W => oporders_calls W _ h)
  have Hm := Lib.hid (names_3 ⟨3, client, seq, ak, aw, tk, tw, item, count, price, buy, id⟩ rfl)
  have hfn := fun W => fn_eqn W (.func 111)
  go_enter Tryz.func51, Tryz.ntmps51
  go_wp2_with fail
  obtain ⟨w1, hw1⟩ : ∃ w1, w1 = (w.alloc (.cells #[.int .i64 3, .int .i64 client, .int .i64 seq, .string ak, .string aw, .string tk, .string tw, .int .i64 item, .int .i64 count, .int .i64 price, .bool buy, .int .i64 id] 25 (0, 0))).alloc (.cells #[.nilFunc, .func (.func 109) #[] #[], .func (.func 110) #[] #[], .func (.func 111) #[] #[], .func (.func 112) #[] #[], .func (.func 113) #[] #[], .func (.func 109) #[] #[], .func (.func 113) #[] #[]] 188 (0, 0)) := ⟨_, rfl⟩
  have n0 : w1.heap[w.heap.size]? = some (.cells #[.int .i64 3, .int .i64 client, .int .i64 seq, .string ak, .string aw, .string tk, .string tw, .int .i64 item, .int .i64 count, .int .i64 price, .bool buy, .int .i64 id] 25 (0, 0)) := by rw [hw1]; exact old_block _ (new_block _ _)
  have n1 : w1.heap[w.heap.size + 1]? = some KindsO := by rw [hw1]; exact new_block2 _ _ _
  have n3 : Below w.heap.size w w1 := hw1 ▸ Hb.out _ _
  rw [← hw1]
  clear hw1 Hb
  obtain ⟨k0, k1, k2, k3, k4, k5, k6, k7, k8, k9, k10, k11, k12, k13, k14, k15⟩ := heldk3_new n0 n1 n3
  have Hk := Lib.hid (heldk3_new n0 n1 n3)
  clear n0 n1 n3 k15
  rcases (by omega : client < 1 ∨ (1 ≤ client ∧ 1048576 < client) ∨ (1 ≤ client ∧ client ≤ 1048576 ∧ seq < 1) ∨ (1 ≤ client ∧ client ≤ 1048576 ∧ 1 ≤ seq ∧ 1099511627776 < seq) ∨ (1 ≤ client ∧ client ≤ 1048576 ∧ 1 ≤ seq ∧ seq ≤ 1099511627776)) with h1 | ⟨h1, h2⟩ | ⟨h1, h2, h3⟩ | ⟨h1, h2, h3, h4⟩ | ⟨h1, h2, h3, h4⟩
  · have hd : decide (1 ≤ client) = false := decide_eq_false (by omega)
    go_quiet (fail)
    go_wp2_with fail
    go_ret
    refine ⟨ret_bool ?_, (heldk3_below Hk.out).trans (below_drewN _ _ _)⟩
    unfold OpM.may
    simp
    omega
  · have hd : decide (client ≤ 1048576) = false := decide_eq_false (by omega)
    go_quiet (fail)
    go_wp2_with fail
    go_ret
    refine ⟨ret_bool ?_, (heldk3_below Hk.out).trans (below_drewN _ _ _)⟩
    unfold OpM.may
    simp
    omega
  · have hd : decide (1 ≤ seq) = false := decide_eq_false (by omega)
    go_quiet (fail)
    go_wp2_with fail
    go_ret
    refine ⟨ret_bool ?_, (heldk3_below Hk.out).trans (below_drewN _ _ _)⟩
    unfold OpM.may
    simp
    omega
  · have hd : decide (seq ≤ 1099511627776) = false := decide_eq_false (by omega)
    go_quiet (fail)
    go_wp2_with fail
    go_ret
    refine ⟨ret_bool ?_, (heldk3_below Hk.out).trans (below_drewN _ _ _)⟩
    unfold OpM.may
    simp
    omega
  · have hmay : OpM.may ⟨3, client, seq, ak, aw, tk, tw, item, count, price, buy, id⟩ = (isPl ak aw && OpM.ordM ⟨3, client, seq, ak, aw, tk, tw, item, count, price, buy, id⟩) := by
      rw [← Hm.out]
      unfold OpM.may
      simp [h1, h2, h3, h4]
    refine ord_start (fun w' : World => w'.heap[w.heap.size]? = some (.cells #[.int .i64 3, .int .i64 client, .int .i64 seq, .string ak, .string aw, .string tk, .string tw, .int .i64 item, .int .i64 count, .int .i64 price, .bool buy, .int .i64 id] 25 (0, 0)) ∧ w'.heap[w.heap.size + 1]? = some KindsO) (n := 32) (by kernel_rfl) rfl ⟨Hk.out.1, Hk.out.2.1⟩ (fun hHeld => ?_)
    have HB := Lib.hid ((heldk3_below Hk.out).trans ((below_dr w1).mono (heldk3_below Hk.out).size))
    clear k0 k1 k2 k3 k4 k5 k6 k7 k8 k9 k10 k11 k12 k13 k14 Hk
    generalize w1.drew = w2 at *
    refine Pl [0, 1, 2, 3, 4, 5, 6, 7, 8, 9, 10, 11, 12, 13, 14, 15, 16, 17, 18, 19, 20] ?_
    iterate 2 (refine Pd rfl (by intro w' hSw; have q0 := cell_of hSw.1 (i := 0) (v := .int .i64 3) rfl; have q1 := cell_of hSw.1 (i := 1) (v := .int .i64 client) rfl; have q2 := cell_of hSw.1 (i := 2) (v := .int .i64 seq) rfl; have q3 := cell_of hSw.1 (i := 3) (v := .string ak) rfl; have q4 := cell_of hSw.1 (i := 4) (v := .string aw) rfl; have q5 := cell_of hSw.2 (i := 3) (v := .func (.func 111) #[] #[]) rfl; go_simp; try with_reducible rfl) ?_; simp only [Act.put, uA, uB, uC])
    refine Pd (v := .bool true) rfl (by intro w' hSw; have e : decide (client ≥ 1) = true := decide_eq_true h1; go_simp; try with_reducible rfl) ?_; simp only [Act.put, uA, uB, uC]
    iterate 3 (refine Pd rfl (by intro w' hSw; have q0 := cell_of hSw.1 (i := 0) (v := .int .i64 3) rfl; have q1 := cell_of hSw.1 (i := 1) (v := .int .i64 client) rfl; have q2 := cell_of hSw.1 (i := 2) (v := .int .i64 seq) rfl; have q3 := cell_of hSw.1 (i := 3) (v := .string ak) rfl; have q4 := cell_of hSw.1 (i := 4) (v := .string aw) rfl; have q5 := cell_of hSw.2 (i := 3) (v := .func (.func 111) #[] #[]) rfl; go_simp; try with_reducible rfl) ?_; simp only [Act.put, uA, uB, uC])
    refine Pd (v := .bool true) rfl (by intro w' hSw; have e : decide (client ≤ 1048576) = true := decide_eq_true h2; go_simp; try with_reducible rfl) ?_; simp only [Act.put, uA, uB, uC]
    iterate 4 (refine Pd rfl (by intro w' hSw; have q0 := cell_of hSw.1 (i := 0) (v := .int .i64 3) rfl; have q1 := cell_of hSw.1 (i := 1) (v := .int .i64 client) rfl; have q2 := cell_of hSw.1 (i := 2) (v := .int .i64 seq) rfl; have q3 := cell_of hSw.1 (i := 3) (v := .string ak) rfl; have q4 := cell_of hSw.1 (i := 4) (v := .string aw) rfl; have q5 := cell_of hSw.2 (i := 3) (v := .func (.func 111) #[] #[]) rfl; go_simp; try with_reducible rfl) ?_; simp only [Act.put, uA, uB, uC])
    refine Pd (v := .bool true) rfl (by intro w' hSw; have e : decide (seq ≥ 1) = true := decide_eq_true h3; go_simp; try with_reducible rfl) ?_; simp only [Act.put, uA, uB, uC]
    iterate 4 (refine Pd rfl (by intro w' hSw; have q0 := cell_of hSw.1 (i := 0) (v := .int .i64 3) rfl; have q1 := cell_of hSw.1 (i := 1) (v := .int .i64 client) rfl; have q2 := cell_of hSw.1 (i := 2) (v := .int .i64 seq) rfl; have q3 := cell_of hSw.1 (i := 3) (v := .string ak) rfl; have q4 := cell_of hSw.1 (i := 4) (v := .string aw) rfl; have q5 := cell_of hSw.2 (i := 3) (v := .func (.func 111) #[] #[]) rfl; go_simp; try with_reducible rfl) ?_; simp only [Act.put, uA, uB, uC])
    refine Pd (v := .bool true) rfl (by intro w' hSw; have e : decide (seq ≤ 1099511627776) = true := decide_eq_true h4; go_simp; try with_reducible rfl) ?_; simp only [Act.put, uA, uB, uC]
    iterate 4 (refine Pd rfl (by intro w' hSw; have q0 := cell_of hSw.1 (i := 0) (v := .int .i64 3) rfl; have q1 := cell_of hSw.1 (i := 1) (v := .int .i64 client) rfl; have q2 := cell_of hSw.1 (i := 2) (v := .int .i64 seq) rfl; have q3 := cell_of hSw.1 (i := 3) (v := .string ak) rfl; have q4 := cell_of hSw.1 (i := 4) (v := .string aw) rfl; have q5 := cell_of hSw.2 (i := 3) (v := .func (.func 111) #[] #[]) rfl; go_simp; try with_reducible rfl) ?_; simp only [Act.put, uA, uB, uC])
    refine Pn ?_
    refine ord_one 21 rfl (by kernel_rfl) (by rfl) (fun K hK => ?_)
    go_wp2_with fail
    refine (Hp.out _).mono ?_
    rintro e w3 ⟨rfl, hb⟩
    have hH3 := And.intro ((hb.block _ (lt_of_block hHeld.1)).trans hHeld.1) ((hb.block _ (lt_of_block hHeld.2)).trans hHeld.2)
    have HB3 := Lib.hid (HB.out.trans (hb.mono HB.out.size))
    clear hb hHeld Hp HB
    cases hv : isPl ak aw with
    | false =>
      rw [hv] at hmay
      go_wp2_with fail
      refine hK.out _ _ hH3 (fun hHeld => ?_)
      clear hK hH3
      try simp only [Act.put, uA, uB, uC]
      refine Pl [22, 23, 24, 25, 26, 27, 28, 29, 30, 31] ?_
      iterate 2 (refine Pc rfl ?_; simp only [Act.put, uA, uB, uC])
      iterate 6 (refine Ps rfl ?_; simp only [Act.put, uA, uB, uC])
      iterate 2 (refine Pc rfl ?_; simp only [Act.put, uA, uB, uC])
      refine Pn ?_
      refine wpAnyH_done (by kernel_rfl) ?_ _
      clear hHeld
      go_wp2_with fail
      go_ret
      exact ⟨by rw [hmay]; rfl, HB3.out⟩
    | true =>
      rw [hv] at hmay
      go_wp2_with fail
      refine hK.out _ _ hH3 (fun hHeld => ?_)
      clear hK hH3
      try simp only [Act.put, uA, uB, uC]
      refine Pl [22, 23, 24, 25, 26, 27, 28] ?_
      iterate 2 (refine Pc rfl ?_; simp only [Act.put, uA, uB, uC])
      iterate 4 (refine Pd rfl (by intro w' hSw; have q0 := cell_of hSw.1 (i := 0) (v := .int .i64 3) rfl; have q1 := cell_of hSw.1 (i := 1) (v := .int .i64 client) rfl; have q2 := cell_of hSw.1 (i := 2) (v := .int .i64 seq) rfl; have q3 := cell_of hSw.1 (i := 3) (v := .string ak) rfl; have q4 := cell_of hSw.1 (i := 4) (v := .string aw) rfl; have q5 := cell_of hSw.2 (i := 3) (v := .func (.func 111) #[] #[]) rfl; go_simp; try with_reducible rfl) ?_; simp only [Act.put, uA, uB, uC])
      refine Pd rfl (by intro w' hSw; exact yload 25 (.tmp 1) rfl rfl hSw.1 Tryz.underlying25 rfl (by kernel_rfl)) ?_; simp only [Act.put, uA, uB, uC]
      refine Pn ?_
      refine ord_one 29 rfl (by kernel_rfl) (by rfl) (fun K hK => ?_)
      go_wp2_with fail
      refine (Hc.out _).mono ?_
      rintro e w4 ⟨rfl, hb⟩
      have hH4 := And.intro ((hb.block _ (lt_of_block hHeld.1)).trans hHeld.1) ((hb.block _ (lt_of_block hHeld.2)).trans hHeld.2)
      have HB4 := Lib.hid (HB3.out.trans (hb.mono HB3.out.size))
      clear hb hHeld Hc HB3
      go_wp2_with fail
      refine hK.out _ _ hH4 (fun hHeld => ?_)
      clear hK hH4
      try simp only [Act.put, uA, uB, uC]
      refine Pl [30, 31] ?_
      iterate 2 (refine Pc rfl ?_; simp only [Act.put, uA, uB, uC])
      refine Pn ?_
      refine wpAnyH_done (by kernel_rfl) ?_ _
      clear hHeld
      go_wp2_with fail
      go_ret
      exact ⟨by rw [hmay]; rfl, HB4.out⟩
theorem heldk4_new {w w1 : World} {client seq : Int} {ak aw tk tw : ByteArray} {item count price : Int} {buy : Bool} {id : Int} (n0 : w1.heap[w.heap.size]? = some (.cells #[.int .i64 4, .int .i64 client, .int .i64 seq, .string ak, .string aw, .string tk, .string tw, .int .i64 item, .int .i64 count, .int .i64 price, .bool buy, .int .i64 id] 25 (0, 0))) (n1 : w1.heap[w.heap.size + 1]? = some KindsO) (hb : Below w.heap.size w w1) :
    w1.heap[w.heap.size]? = some (.cells #[.int .i64 4, .int .i64 client, .int .i64 seq, .string ak, .string aw, .string tk, .string tw, .int .i64 item, .int .i64 count, .int .i64 price, .bool buy, .int .i64 id] 25 (0, 0)) ∧ w1.heap[w.heap.size + 1]? = some KindsO ∧ w1.cell? ⟨w.heap.size, 0, none⟩ = some (.int .i64 4) ∧ w1.cell? ⟨w.heap.size, 1, none⟩ = some (.int .i64 client) ∧ w1.cell? ⟨w.heap.size, 2, none⟩ = some (.int .i64 seq) ∧ w1.cell? ⟨w.heap.size, 3, none⟩ = some (.string ak) ∧ w1.cell? ⟨w.heap.size, 4, none⟩ = some (.string aw) ∧ w1.cell? ⟨w.heap.size, 5, none⟩ = some (.string tk) ∧ w1.cell? ⟨w.heap.size, 6, none⟩ = some (.string tw) ∧ w1.cell? ⟨w.heap.size, 7, none⟩ = some (.int .i64 item) ∧ w1.cell? ⟨w.heap.size, 8, none⟩ = some (.int .i64 count) ∧ w1.cell? ⟨w.heap.size, 9, none⟩ = some (.int .i64 price) ∧ w1.cell? ⟨w.heap.size, 10, none⟩ = some (.bool buy) ∧ w1.cell? ⟨w.heap.size, 11, none⟩ = some (.int .i64 id) ∧ w1.cell? ⟨w.heap.size + 1, 4, none⟩ = some (.func (.func 112) #[] #[]) ∧ Below w.heap.size w w1 :=
  ⟨n0, n1, cell_of n0 rfl, cell_of n0 rfl, cell_of n0 rfl, cell_of n0 rfl, cell_of n0 rfl, cell_of n0 rfl, cell_of n0 rfl, cell_of n0 rfl, cell_of n0 rfl, cell_of n0 rfl, cell_of n0 rfl, cell_of n0 rfl, cell_of n1 rfl, hb⟩
theorem heldk4_below {w w1 : World} {client seq : Int} {ak aw tk tw : ByteArray} {item count price : Int} {buy : Bool} {id : Int} (h : w1.heap[w.heap.size]? = some (.cells #[.int .i64 4, .int .i64 client, .int .i64 seq, .string ak, .string aw, .string tk, .string tw, .int .i64 item, .int .i64 count, .int .i64 price, .bool buy, .int .i64 id] 25 (0, 0)) ∧ w1.heap[w.heap.size + 1]? = some KindsO ∧ w1.cell? ⟨w.heap.size, 0, none⟩ = some (.int .i64 4) ∧ w1.cell? ⟨w.heap.size, 1, none⟩ = some (.int .i64 client) ∧ w1.cell? ⟨w.heap.size, 2, none⟩ = some (.int .i64 seq) ∧ w1.cell? ⟨w.heap.size, 3, none⟩ = some (.string ak) ∧ w1.cell? ⟨w.heap.size, 4, none⟩ = some (.string aw) ∧ w1.cell? ⟨w.heap.size, 5, none⟩ = some (.string tk) ∧ w1.cell? ⟨w.heap.size, 6, none⟩ = some (.string tw) ∧ w1.cell? ⟨w.heap.size, 7, none⟩ = some (.int .i64 item) ∧ w1.cell? ⟨w.heap.size, 8, none⟩ = some (.int .i64 count) ∧ w1.cell? ⟨w.heap.size, 9, none⟩ = some (.int .i64 price) ∧ w1.cell? ⟨w.heap.size, 10, none⟩ = some (.bool buy) ∧ w1.cell? ⟨w.heap.size, 11, none⟩ = some (.int .i64 id) ∧ w1.cell? ⟨w.heap.size + 1, 4, none⟩ = some (.func (.func 112) #[] #[]) ∧ Below w.heap.size w w1) : Below w.heap.size w w1 := h.2.2.2.2.2.2.2.2.2.2.2.2.2.2.2
set_option maxRecDepth 100000 in
set_option maxHeartbeats 8000000 in
theorem opmay4_calls (w : World) (client seq : Int) (ak aw tk tw : ByteArray) (item count price : Int) (buy : Bool) (id : Int) (h : OpM.wf ⟨4, client, seq, ak, aw, tk, tw, item, count, price, buy, id⟩) :
    Calls Tryz.prog 51 #[.agg #[.int .i64 4, .int .i64 client, .int .i64 seq, .string ak, .string aw, .string tk, .string tw, .int .i64 item, .int .i64 count, .int .i64 price, .bool buy, .int .i64 id]] w (RetB (OpM.may ⟨4, client, seq, ak, aw, tk, tw, item, count, price, buy, id⟩) w) := by
  have Hb := Lib.hid (fun x y : Obj => (box_below w x).trans ((box_below (w.alloc x) y).mono (box_below w x).size))
  have Hp := Lib.hid (fun W => isplace_calls W ak aw h.2.1.1 h.2.1.2.1)
  have Hc := Lib.hid (fun W => opcancels_calls W _ h)
  have Hm := Lib.hid (names_4 ⟨4, client, seq, ak, aw, tk, tw, item, count, price, buy, id⟩ rfl)
  have hfn := fun W => fn_eqn W (.func 112)
  go_enter Tryz.func51, Tryz.ntmps51
  go_wp2_with fail
  obtain ⟨w1, hw1⟩ : ∃ w1, w1 = (w.alloc (.cells #[.int .i64 4, .int .i64 client, .int .i64 seq, .string ak, .string aw, .string tk, .string tw, .int .i64 item, .int .i64 count, .int .i64 price, .bool buy, .int .i64 id] 25 (0, 0))).alloc (.cells #[.nilFunc, .func (.func 109) #[] #[], .func (.func 110) #[] #[], .func (.func 111) #[] #[], .func (.func 112) #[] #[], .func (.func 113) #[] #[], .func (.func 109) #[] #[], .func (.func 113) #[] #[]] 188 (0, 0)) := ⟨_, rfl⟩
  have n0 : w1.heap[w.heap.size]? = some (.cells #[.int .i64 4, .int .i64 client, .int .i64 seq, .string ak, .string aw, .string tk, .string tw, .int .i64 item, .int .i64 count, .int .i64 price, .bool buy, .int .i64 id] 25 (0, 0)) := by rw [hw1]; exact old_block _ (new_block _ _)
  have n1 : w1.heap[w.heap.size + 1]? = some KindsO := by rw [hw1]; exact new_block2 _ _ _
  have n3 : Below w.heap.size w w1 := hw1 ▸ Hb.out _ _
  rw [← hw1]
  clear hw1 Hb
  obtain ⟨k0, k1, k2, k3, k4, k5, k6, k7, k8, k9, k10, k11, k12, k13, k14, k15⟩ := heldk4_new n0 n1 n3
  have Hk := Lib.hid (heldk4_new n0 n1 n3)
  clear n0 n1 n3 k15
  rcases (by omega : client < 1 ∨ (1 ≤ client ∧ 1048576 < client) ∨ (1 ≤ client ∧ client ≤ 1048576 ∧ seq < 1) ∨ (1 ≤ client ∧ client ≤ 1048576 ∧ 1 ≤ seq ∧ 1099511627776 < seq) ∨ (1 ≤ client ∧ client ≤ 1048576 ∧ 1 ≤ seq ∧ seq ≤ 1099511627776)) with h1 | ⟨h1, h2⟩ | ⟨h1, h2, h3⟩ | ⟨h1, h2, h3, h4⟩ | ⟨h1, h2, h3, h4⟩
  · have hd : decide (1 ≤ client) = false := decide_eq_false (by omega)
    go_quiet (fail)
    go_wp2_with fail
    go_ret
    refine ⟨ret_bool ?_, (heldk4_below Hk.out).trans (below_drewN _ _ _)⟩
    unfold OpM.may
    simp
    omega
  · have hd : decide (client ≤ 1048576) = false := decide_eq_false (by omega)
    go_quiet (fail)
    go_wp2_with fail
    go_ret
    refine ⟨ret_bool ?_, (heldk4_below Hk.out).trans (below_drewN _ _ _)⟩
    unfold OpM.may
    simp
    omega
  · have hd : decide (1 ≤ seq) = false := decide_eq_false (by omega)
    go_quiet (fail)
    go_wp2_with fail
    go_ret
    refine ⟨ret_bool ?_, (heldk4_below Hk.out).trans (below_drewN _ _ _)⟩
    unfold OpM.may
    simp
    omega
  · have hd : decide (seq ≤ 1099511627776) = false := decide_eq_false (by omega)
    go_quiet (fail)
    go_wp2_with fail
    go_ret
    refine ⟨ret_bool ?_, (heldk4_below Hk.out).trans (below_drewN _ _ _)⟩
    unfold OpM.may
    simp
    omega
  · have hmay : OpM.may ⟨4, client, seq, ak, aw, tk, tw, item, count, price, buy, id⟩ = (isPl ak aw && OpM.idM ⟨4, client, seq, ak, aw, tk, tw, item, count, price, buy, id⟩) := by
      rw [← Hm.out]
      unfold OpM.may
      simp [h1, h2, h3, h4]
    refine ord_start (fun w' : World => w'.heap[w.heap.size]? = some (.cells #[.int .i64 4, .int .i64 client, .int .i64 seq, .string ak, .string aw, .string tk, .string tw, .int .i64 item, .int .i64 count, .int .i64 price, .bool buy, .int .i64 id] 25 (0, 0)) ∧ w'.heap[w.heap.size + 1]? = some KindsO) (n := 32) (by kernel_rfl) rfl ⟨Hk.out.1, Hk.out.2.1⟩ (fun hHeld => ?_)
    have HB := Lib.hid ((heldk4_below Hk.out).trans ((below_dr w1).mono (heldk4_below Hk.out).size))
    clear k0 k1 k2 k3 k4 k5 k6 k7 k8 k9 k10 k11 k12 k13 k14 Hk
    generalize w1.drew = w2 at *
    refine Pl [0, 1, 2, 3, 4, 5, 6, 7, 8, 9, 10, 11, 12, 13, 14, 15, 16, 17, 18, 19, 20] ?_
    iterate 2 (refine Pd rfl (by intro w' hSw; have q0 := cell_of hSw.1 (i := 0) (v := .int .i64 4) rfl; have q1 := cell_of hSw.1 (i := 1) (v := .int .i64 client) rfl; have q2 := cell_of hSw.1 (i := 2) (v := .int .i64 seq) rfl; have q3 := cell_of hSw.1 (i := 3) (v := .string ak) rfl; have q4 := cell_of hSw.1 (i := 4) (v := .string aw) rfl; have q5 := cell_of hSw.2 (i := 4) (v := .func (.func 112) #[] #[]) rfl; go_simp; try with_reducible rfl) ?_; simp only [Act.put, uA, uB, uC])
    refine Pd (v := .bool true) rfl (by intro w' hSw; have e : decide (client ≥ 1) = true := decide_eq_true h1; go_simp; try with_reducible rfl) ?_; simp only [Act.put, uA, uB, uC]
    iterate 3 (refine Pd rfl (by intro w' hSw; have q0 := cell_of hSw.1 (i := 0) (v := .int .i64 4) rfl; have q1 := cell_of hSw.1 (i := 1) (v := .int .i64 client) rfl; have q2 := cell_of hSw.1 (i := 2) (v := .int .i64 seq) rfl; have q3 := cell_of hSw.1 (i := 3) (v := .string ak) rfl; have q4 := cell_of hSw.1 (i := 4) (v := .string aw) rfl; have q5 := cell_of hSw.2 (i := 4) (v := .func (.func 112) #[] #[]) rfl; go_simp; try with_reducible rfl) ?_; simp only [Act.put, uA, uB, uC])
    refine Pd (v := .bool true) rfl (by intro w' hSw; have e : decide (client ≤ 1048576) = true := decide_eq_true h2; go_simp; try with_reducible rfl) ?_; simp only [Act.put, uA, uB, uC]
    iterate 4 (refine Pd rfl (by intro w' hSw; have q0 := cell_of hSw.1 (i := 0) (v := .int .i64 4) rfl; have q1 := cell_of hSw.1 (i := 1) (v := .int .i64 client) rfl; have q2 := cell_of hSw.1 (i := 2) (v := .int .i64 seq) rfl; have q3 := cell_of hSw.1 (i := 3) (v := .string ak) rfl; have q4 := cell_of hSw.1 (i := 4) (v := .string aw) rfl; have q5 := cell_of hSw.2 (i := 4) (v := .func (.func 112) #[] #[]) rfl; go_simp; try with_reducible rfl) ?_; simp only [Act.put, uA, uB, uC])
    refine Pd (v := .bool true) rfl (by intro w' hSw; have e : decide (seq ≥ 1) = true := decide_eq_true h3; go_simp; try with_reducible rfl) ?_; simp only [Act.put, uA, uB, uC]
    iterate 4 (refine Pd rfl (by intro w' hSw; have q0 := cell_of hSw.1 (i := 0) (v := .int .i64 4) rfl; have q1 := cell_of hSw.1 (i := 1) (v := .int .i64 client) rfl; have q2 := cell_of hSw.1 (i := 2) (v := .int .i64 seq) rfl; have q3 := cell_of hSw.1 (i := 3) (v := .string ak) rfl; have q4 := cell_of hSw.1 (i := 4) (v := .string aw) rfl; have q5 := cell_of hSw.2 (i := 4) (v := .func (.func 112) #[] #[]) rfl; go_simp; try with_reducible rfl) ?_; simp only [Act.put, uA, uB, uC])
    refine Pd (v := .bool true) rfl (by intro w' hSw; have e : decide (seq ≤ 1099511627776) = true := decide_eq_true h4; go_simp; try with_reducible rfl) ?_; simp only [Act.put, uA, uB, uC]
    iterate 4 (refine Pd rfl (by intro w' hSw; have q0 := cell_of hSw.1 (i := 0) (v := .int .i64 4) rfl; have q1 := cell_of hSw.1 (i := 1) (v := .int .i64 client) rfl; have q2 := cell_of hSw.1 (i := 2) (v := .int .i64 seq) rfl; have q3 := cell_of hSw.1 (i := 3) (v := .string ak) rfl; have q4 := cell_of hSw.1 (i := 4) (v := .string aw) rfl; have q5 := cell_of hSw.2 (i := 4) (v := .func (.func 112) #[] #[]) rfl; go_simp; try with_reducible rfl) ?_; simp only [Act.put, uA, uB, uC])
    refine Pn ?_
    refine ord_one 21 rfl (by kernel_rfl) (by rfl) (fun K hK => ?_)
    go_wp2_with fail
    refine (Hp.out _).mono ?_
    rintro e w3 ⟨rfl, hb⟩
    have hH3 := And.intro ((hb.block _ (lt_of_block hHeld.1)).trans hHeld.1) ((hb.block _ (lt_of_block hHeld.2)).trans hHeld.2)
    have HB3 := Lib.hid (HB.out.trans (hb.mono HB.out.size))
    clear hb hHeld Hp HB
    cases hv : isPl ak aw with
    | false =>
      rw [hv] at hmay
      go_wp2_with fail
      refine hK.out _ _ hH3 (fun hHeld => ?_)
      clear hK hH3
      try simp only [Act.put, uA, uB, uC]
      refine Pl [22, 23, 24, 25, 26, 27, 28, 29, 30, 31] ?_
      iterate 2 (refine Pc rfl ?_; simp only [Act.put, uA, uB, uC])
      iterate 6 (refine Ps rfl ?_; simp only [Act.put, uA, uB, uC])
      iterate 2 (refine Pc rfl ?_; simp only [Act.put, uA, uB, uC])
      refine Pn ?_
      refine wpAnyH_done (by kernel_rfl) ?_ _
      clear hHeld
      go_wp2_with fail
      go_ret
      exact ⟨by rw [hmay]; rfl, HB3.out⟩
    | true =>
      rw [hv] at hmay
      go_wp2_with fail
      refine hK.out _ _ hH3 (fun hHeld => ?_)
      clear hK hH3
      try simp only [Act.put, uA, uB, uC]
      refine Pl [22, 23, 24, 25, 26, 27, 28] ?_
      iterate 2 (refine Pc rfl ?_; simp only [Act.put, uA, uB, uC])
      iterate 4 (refine Pd rfl (by intro w' hSw; have q0 := cell_of hSw.1 (i := 0) (v := .int .i64 4) rfl; have q1 := cell_of hSw.1 (i := 1) (v := .int .i64 client) rfl; have q2 := cell_of hSw.1 (i := 2) (v := .int .i64 seq) rfl; have q3 := cell_of hSw.1 (i := 3) (v := .string ak) rfl; have q4 := cell_of hSw.1 (i := 4) (v := .string aw) rfl; have q5 := cell_of hSw.2 (i := 4) (v := .func (.func 112) #[] #[]) rfl; go_simp; try with_reducible rfl) ?_; simp only [Act.put, uA, uB, uC])
      refine Pd rfl (by intro w' hSw; exact yload 25 (.tmp 1) rfl rfl hSw.1 Tryz.underlying25 rfl (by kernel_rfl)) ?_; simp only [Act.put, uA, uB, uC]
      refine Pn ?_
      refine ord_one 29 rfl (by kernel_rfl) (by rfl) (fun K hK => ?_)
      go_wp2_with fail
      refine (Hc.out _).mono ?_
      rintro e w4 ⟨rfl, hb⟩
      have hH4 := And.intro ((hb.block _ (lt_of_block hHeld.1)).trans hHeld.1) ((hb.block _ (lt_of_block hHeld.2)).trans hHeld.2)
      have HB4 := Lib.hid (HB3.out.trans (hb.mono HB3.out.size))
      clear hb hHeld Hc HB3
      go_wp2_with fail
      refine hK.out _ _ hH4 (fun hHeld => ?_)
      clear hK hH4
      try simp only [Act.put, uA, uB, uC]
      refine Pl [30, 31] ?_
      iterate 2 (refine Pc rfl ?_; simp only [Act.put, uA, uB, uC])
      refine Pn ?_
      refine wpAnyH_done (by kernel_rfl) ?_ _
      clear hHeld
      go_wp2_with fail
      go_ret
      exact ⟨by rw [hmay]; rfl, HB4.out⟩
theorem heldk5_new {w w1 : World} {client seq : Int} {ak aw tk tw : ByteArray} {item count price : Int} {buy : Bool} {id : Int} (n0 : w1.heap[w.heap.size]? = some (.cells #[.int .i64 5, .int .i64 client, .int .i64 seq, .string ak, .string aw, .string tk, .string tw, .int .i64 item, .int .i64 count, .int .i64 price, .bool buy, .int .i64 id] 25 (0, 0))) (n1 : w1.heap[w.heap.size + 1]? = some KindsO) (hb : Below w.heap.size w w1) :
    w1.heap[w.heap.size]? = some (.cells #[.int .i64 5, .int .i64 client, .int .i64 seq, .string ak, .string aw, .string tk, .string tw, .int .i64 item, .int .i64 count, .int .i64 price, .bool buy, .int .i64 id] 25 (0, 0)) ∧ w1.heap[w.heap.size + 1]? = some KindsO ∧ w1.cell? ⟨w.heap.size, 0, none⟩ = some (.int .i64 5) ∧ w1.cell? ⟨w.heap.size, 1, none⟩ = some (.int .i64 client) ∧ w1.cell? ⟨w.heap.size, 2, none⟩ = some (.int .i64 seq) ∧ w1.cell? ⟨w.heap.size, 3, none⟩ = some (.string ak) ∧ w1.cell? ⟨w.heap.size, 4, none⟩ = some (.string aw) ∧ w1.cell? ⟨w.heap.size, 5, none⟩ = some (.string tk) ∧ w1.cell? ⟨w.heap.size, 6, none⟩ = some (.string tw) ∧ w1.cell? ⟨w.heap.size, 7, none⟩ = some (.int .i64 item) ∧ w1.cell? ⟨w.heap.size, 8, none⟩ = some (.int .i64 count) ∧ w1.cell? ⟨w.heap.size, 9, none⟩ = some (.int .i64 price) ∧ w1.cell? ⟨w.heap.size, 10, none⟩ = some (.bool buy) ∧ w1.cell? ⟨w.heap.size, 11, none⟩ = some (.int .i64 id) ∧ w1.cell? ⟨w.heap.size + 1, 5, none⟩ = some (.func (.func 113) #[] #[]) ∧ Below w.heap.size w w1 :=
  ⟨n0, n1, cell_of n0 rfl, cell_of n0 rfl, cell_of n0 rfl, cell_of n0 rfl, cell_of n0 rfl, cell_of n0 rfl, cell_of n0 rfl, cell_of n0 rfl, cell_of n0 rfl, cell_of n0 rfl, cell_of n0 rfl, cell_of n0 rfl, cell_of n1 rfl, hb⟩
theorem heldk5_below {w w1 : World} {client seq : Int} {ak aw tk tw : ByteArray} {item count price : Int} {buy : Bool} {id : Int} (h : w1.heap[w.heap.size]? = some (.cells #[.int .i64 5, .int .i64 client, .int .i64 seq, .string ak, .string aw, .string tk, .string tw, .int .i64 item, .int .i64 count, .int .i64 price, .bool buy, .int .i64 id] 25 (0, 0)) ∧ w1.heap[w.heap.size + 1]? = some KindsO ∧ w1.cell? ⟨w.heap.size, 0, none⟩ = some (.int .i64 5) ∧ w1.cell? ⟨w.heap.size, 1, none⟩ = some (.int .i64 client) ∧ w1.cell? ⟨w.heap.size, 2, none⟩ = some (.int .i64 seq) ∧ w1.cell? ⟨w.heap.size, 3, none⟩ = some (.string ak) ∧ w1.cell? ⟨w.heap.size, 4, none⟩ = some (.string aw) ∧ w1.cell? ⟨w.heap.size, 5, none⟩ = some (.string tk) ∧ w1.cell? ⟨w.heap.size, 6, none⟩ = some (.string tw) ∧ w1.cell? ⟨w.heap.size, 7, none⟩ = some (.int .i64 item) ∧ w1.cell? ⟨w.heap.size, 8, none⟩ = some (.int .i64 count) ∧ w1.cell? ⟨w.heap.size, 9, none⟩ = some (.int .i64 price) ∧ w1.cell? ⟨w.heap.size, 10, none⟩ = some (.bool buy) ∧ w1.cell? ⟨w.heap.size, 11, none⟩ = some (.int .i64 id) ∧ w1.cell? ⟨w.heap.size + 1, 5, none⟩ = some (.func (.func 113) #[] #[]) ∧ Below w.heap.size w w1) : Below w.heap.size w w1 := h.2.2.2.2.2.2.2.2.2.2.2.2.2.2.2
set_option maxRecDepth 100000 in
set_option maxHeartbeats 8000000 in
theorem opmay5_calls (w : World) (client seq : Int) (ak aw tk tw : ByteArray) (item count price : Int) (buy : Bool) (id : Int) (h : OpM.wf ⟨5, client, seq, ak, aw, tk, tw, item, count, price, buy, id⟩) :
    Calls Tryz.prog 51 #[.agg #[.int .i64 5, .int .i64 client, .int .i64 seq, .string ak, .string aw, .string tk, .string tw, .int .i64 item, .int .i64 count, .int .i64 price, .bool buy, .int .i64 id]] w (RetB (OpM.may ⟨5, client, seq, ak, aw, tk, tw, item, count, price, buy, id⟩) w) := by
  have Hb := Lib.hid (fun x y : Obj => (box_below w x).trans ((box_below (w.alloc x) y).mono (box_below w x).size))
  have Hp := Lib.hid (fun W => isplace_calls W ak aw h.2.1.1 h.2.1.2.1)
  have Hc := Lib.hid (fun W => opbare_calls W _ h)
  have Hm := Lib.hid (names_5 ⟨5, client, seq, ak, aw, tk, tw, item, count, price, buy, id⟩ (.inl rfl))
  have hfn := fun W => fn_eqn W (.func 113)
  go_enter Tryz.func51, Tryz.ntmps51
  go_wp2_with fail
  obtain ⟨w1, hw1⟩ : ∃ w1, w1 = (w.alloc (.cells #[.int .i64 5, .int .i64 client, .int .i64 seq, .string ak, .string aw, .string tk, .string tw, .int .i64 item, .int .i64 count, .int .i64 price, .bool buy, .int .i64 id] 25 (0, 0))).alloc (.cells #[.nilFunc, .func (.func 109) #[] #[], .func (.func 110) #[] #[], .func (.func 111) #[] #[], .func (.func 112) #[] #[], .func (.func 113) #[] #[], .func (.func 109) #[] #[], .func (.func 113) #[] #[]] 188 (0, 0)) := ⟨_, rfl⟩
  have n0 : w1.heap[w.heap.size]? = some (.cells #[.int .i64 5, .int .i64 client, .int .i64 seq, .string ak, .string aw, .string tk, .string tw, .int .i64 item, .int .i64 count, .int .i64 price, .bool buy, .int .i64 id] 25 (0, 0)) := by rw [hw1]; exact old_block _ (new_block _ _)
  have n1 : w1.heap[w.heap.size + 1]? = some KindsO := by rw [hw1]; exact new_block2 _ _ _
  have n3 : Below w.heap.size w w1 := hw1 ▸ Hb.out _ _
  rw [← hw1]
  clear hw1 Hb
  obtain ⟨k0, k1, k2, k3, k4, k5, k6, k7, k8, k9, k10, k11, k12, k13, k14, k15⟩ := heldk5_new n0 n1 n3
  have Hk := Lib.hid (heldk5_new n0 n1 n3)
  clear n0 n1 n3 k15
  rcases (by omega : client < 1 ∨ (1 ≤ client ∧ 1048576 < client) ∨ (1 ≤ client ∧ client ≤ 1048576 ∧ seq < 1) ∨ (1 ≤ client ∧ client ≤ 1048576 ∧ 1 ≤ seq ∧ 1099511627776 < seq) ∨ (1 ≤ client ∧ client ≤ 1048576 ∧ 1 ≤ seq ∧ seq ≤ 1099511627776)) with h1 | ⟨h1, h2⟩ | ⟨h1, h2, h3⟩ | ⟨h1, h2, h3, h4⟩ | ⟨h1, h2, h3, h4⟩
  · have hd : decide (1 ≤ client) = false := decide_eq_false (by omega)
    go_quiet (fail)
    go_wp2_with fail
    go_ret
    refine ⟨ret_bool ?_, (heldk5_below Hk.out).trans (below_drewN _ _ _)⟩
    unfold OpM.may
    simp
    omega
  · have hd : decide (client ≤ 1048576) = false := decide_eq_false (by omega)
    go_quiet (fail)
    go_wp2_with fail
    go_ret
    refine ⟨ret_bool ?_, (heldk5_below Hk.out).trans (below_drewN _ _ _)⟩
    unfold OpM.may
    simp
    omega
  · have hd : decide (1 ≤ seq) = false := decide_eq_false (by omega)
    go_quiet (fail)
    go_wp2_with fail
    go_ret
    refine ⟨ret_bool ?_, (heldk5_below Hk.out).trans (below_drewN _ _ _)⟩
    unfold OpM.may
    simp
    omega
  · have hd : decide (seq ≤ 1099511627776) = false := decide_eq_false (by omega)
    go_quiet (fail)
    go_wp2_with fail
    go_ret
    refine ⟨ret_bool ?_, (heldk5_below Hk.out).trans (below_drewN _ _ _)⟩
    unfold OpM.may
    simp
    omega
  · have hmay : OpM.may ⟨5, client, seq, ak, aw, tk, tw, item, count, price, buy, id⟩ = (isPl ak aw && OpM.bareM ⟨5, client, seq, ak, aw, tk, tw, item, count, price, buy, id⟩) := by
      rw [← Hm.out]
      unfold OpM.may
      simp [h1, h2, h3, h4]
    refine ord_start (fun w' : World => w'.heap[w.heap.size]? = some (.cells #[.int .i64 5, .int .i64 client, .int .i64 seq, .string ak, .string aw, .string tk, .string tw, .int .i64 item, .int .i64 count, .int .i64 price, .bool buy, .int .i64 id] 25 (0, 0)) ∧ w'.heap[w.heap.size + 1]? = some KindsO) (n := 32) (by kernel_rfl) rfl ⟨Hk.out.1, Hk.out.2.1⟩ (fun hHeld => ?_)
    have HB := Lib.hid ((heldk5_below Hk.out).trans ((below_dr w1).mono (heldk5_below Hk.out).size))
    clear k0 k1 k2 k3 k4 k5 k6 k7 k8 k9 k10 k11 k12 k13 k14 Hk
    generalize w1.drew = w2 at *
    refine Pl [0, 1, 2, 3, 4, 5, 6, 7, 8, 9, 10, 11, 12, 13, 14, 15, 16, 17, 18, 19, 20] ?_
    iterate 2 (refine Pd rfl (by intro w' hSw; have q0 := cell_of hSw.1 (i := 0) (v := .int .i64 5) rfl; have q1 := cell_of hSw.1 (i := 1) (v := .int .i64 client) rfl; have q2 := cell_of hSw.1 (i := 2) (v := .int .i64 seq) rfl; have q3 := cell_of hSw.1 (i := 3) (v := .string ak) rfl; have q4 := cell_of hSw.1 (i := 4) (v := .string aw) rfl; have q5 := cell_of hSw.2 (i := 5) (v := .func (.func 113) #[] #[]) rfl; go_simp; try with_reducible rfl) ?_; simp only [Act.put, uA, uB, uC])
    refine Pd (v := .bool true) rfl (by intro w' hSw; have e : decide (client ≥ 1) = true := decide_eq_true h1; go_simp; try with_reducible rfl) ?_; simp only [Act.put, uA, uB, uC]
    iterate 3 (refine Pd rfl (by intro w' hSw; have q0 := cell_of hSw.1 (i := 0) (v := .int .i64 5) rfl; have q1 := cell_of hSw.1 (i := 1) (v := .int .i64 client) rfl; have q2 := cell_of hSw.1 (i := 2) (v := .int .i64 seq) rfl; have q3 := cell_of hSw.1 (i := 3) (v := .string ak) rfl; have q4 := cell_of hSw.1 (i := 4) (v := .string aw) rfl; have q5 := cell_of hSw.2 (i := 5) (v := .func (.func 113) #[] #[]) rfl; go_simp; try with_reducible rfl) ?_; simp only [Act.put, uA, uB, uC])
    refine Pd (v := .bool true) rfl (by intro w' hSw; have e : decide (client ≤ 1048576) = true := decide_eq_true h2; go_simp; try with_reducible rfl) ?_; simp only [Act.put, uA, uB, uC]
    iterate 4 (refine Pd rfl (by intro w' hSw; have q0 := cell_of hSw.1 (i := 0) (v := .int .i64 5) rfl; have q1 := cell_of hSw.1 (i := 1) (v := .int .i64 client) rfl; have q2 := cell_of hSw.1 (i := 2) (v := .int .i64 seq) rfl; have q3 := cell_of hSw.1 (i := 3) (v := .string ak) rfl; have q4 := cell_of hSw.1 (i := 4) (v := .string aw) rfl; have q5 := cell_of hSw.2 (i := 5) (v := .func (.func 113) #[] #[]) rfl; go_simp; try with_reducible rfl) ?_; simp only [Act.put, uA, uB, uC])
    refine Pd (v := .bool true) rfl (by intro w' hSw; have e : decide (seq ≥ 1) = true := decide_eq_true h3; go_simp; try with_reducible rfl) ?_; simp only [Act.put, uA, uB, uC]
    iterate 4 (refine Pd rfl (by intro w' hSw; have q0 := cell_of hSw.1 (i := 0) (v := .int .i64 5) rfl; have q1 := cell_of hSw.1 (i := 1) (v := .int .i64 client) rfl; have q2 := cell_of hSw.1 (i := 2) (v := .int .i64 seq) rfl; have q3 := cell_of hSw.1 (i := 3) (v := .string ak) rfl; have q4 := cell_of hSw.1 (i := 4) (v := .string aw) rfl; have q5 := cell_of hSw.2 (i := 5) (v := .func (.func 113) #[] #[]) rfl; go_simp; try with_reducible rfl) ?_; simp only [Act.put, uA, uB, uC])
    refine Pd (v := .bool true) rfl (by intro w' hSw; have e : decide (seq ≤ 1099511627776) = true := decide_eq_true h4; go_simp; try with_reducible rfl) ?_; simp only [Act.put, uA, uB, uC]
    iterate 4 (refine Pd rfl (by intro w' hSw; have q0 := cell_of hSw.1 (i := 0) (v := .int .i64 5) rfl; have q1 := cell_of hSw.1 (i := 1) (v := .int .i64 client) rfl; have q2 := cell_of hSw.1 (i := 2) (v := .int .i64 seq) rfl; have q3 := cell_of hSw.1 (i := 3) (v := .string ak) rfl; have q4 := cell_of hSw.1 (i := 4) (v := .string aw) rfl; have q5 := cell_of hSw.2 (i := 5) (v := .func (.func 113) #[] #[]) rfl; go_simp; try with_reducible rfl) ?_; simp only [Act.put, uA, uB, uC])
    refine Pn ?_
    refine ord_one 21 rfl (by kernel_rfl) (by rfl) (fun K hK => ?_)
    go_wp2_with fail
    refine (Hp.out _).mono ?_
    rintro e w3 ⟨rfl, hb⟩
    have hH3 := And.intro ((hb.block _ (lt_of_block hHeld.1)).trans hHeld.1) ((hb.block _ (lt_of_block hHeld.2)).trans hHeld.2)
    have HB3 := Lib.hid (HB.out.trans (hb.mono HB.out.size))
    clear hb hHeld Hp HB
    cases hv : isPl ak aw with
    | false =>
      rw [hv] at hmay
      go_wp2_with fail
      refine hK.out _ _ hH3 (fun hHeld => ?_)
      clear hK hH3
      try simp only [Act.put, uA, uB, uC]
      refine Pl [22, 23, 24, 25, 26, 27, 28, 29, 30, 31] ?_
      iterate 2 (refine Pc rfl ?_; simp only [Act.put, uA, uB, uC])
      iterate 6 (refine Ps rfl ?_; simp only [Act.put, uA, uB, uC])
      iterate 2 (refine Pc rfl ?_; simp only [Act.put, uA, uB, uC])
      refine Pn ?_
      refine wpAnyH_done (by kernel_rfl) ?_ _
      clear hHeld
      go_wp2_with fail
      go_ret
      exact ⟨by rw [hmay]; rfl, HB3.out⟩
    | true =>
      rw [hv] at hmay
      go_wp2_with fail
      refine hK.out _ _ hH3 (fun hHeld => ?_)
      clear hK hH3
      try simp only [Act.put, uA, uB, uC]
      refine Pl [22, 23, 24, 25, 26, 27, 28] ?_
      iterate 2 (refine Pc rfl ?_; simp only [Act.put, uA, uB, uC])
      iterate 4 (refine Pd rfl (by intro w' hSw; have q0 := cell_of hSw.1 (i := 0) (v := .int .i64 5) rfl; have q1 := cell_of hSw.1 (i := 1) (v := .int .i64 client) rfl; have q2 := cell_of hSw.1 (i := 2) (v := .int .i64 seq) rfl; have q3 := cell_of hSw.1 (i := 3) (v := .string ak) rfl; have q4 := cell_of hSw.1 (i := 4) (v := .string aw) rfl; have q5 := cell_of hSw.2 (i := 5) (v := .func (.func 113) #[] #[]) rfl; go_simp; try with_reducible rfl) ?_; simp only [Act.put, uA, uB, uC])
      refine Pd rfl (by intro w' hSw; exact yload 25 (.tmp 1) rfl rfl hSw.1 Tryz.underlying25 rfl (by kernel_rfl)) ?_; simp only [Act.put, uA, uB, uC]
      refine Pn ?_
      refine ord_one 29 rfl (by kernel_rfl) (by rfl) (fun K hK => ?_)
      go_wp2_with fail
      refine (Hc.out _).mono ?_
      rintro e w4 ⟨rfl, hb⟩
      have hH4 := And.intro ((hb.block _ (lt_of_block hHeld.1)).trans hHeld.1) ((hb.block _ (lt_of_block hHeld.2)).trans hHeld.2)
      have HB4 := Lib.hid (HB3.out.trans (hb.mono HB3.out.size))
      clear hb hHeld Hc HB3
      go_wp2_with fail
      refine hK.out _ _ hH4 (fun hHeld => ?_)
      clear hK hH4
      try simp only [Act.put, uA, uB, uC]
      refine Pl [30, 31] ?_
      iterate 2 (refine Pc rfl ?_; simp only [Act.put, uA, uB, uC])
      refine Pn ?_
      refine wpAnyH_done (by kernel_rfl) ?_ _
      clear hHeld
      go_wp2_with fail
      go_ret
      exact ⟨by rw [hmay]; rfl, HB4.out⟩
theorem heldk6_new {w w1 : World} {client seq : Int} {ak aw tk tw : ByteArray} {item count price : Int} {buy : Bool} {id : Int} (n0 : w1.heap[w.heap.size]? = some (.cells #[.int .i64 6, .int .i64 client, .int .i64 seq, .string ak, .string aw, .string tk, .string tw, .int .i64 item, .int .i64 count, .int .i64 price, .bool buy, .int .i64 id] 25 (0, 0))) (n1 : w1.heap[w.heap.size + 1]? = some KindsO) (hb : Below w.heap.size w w1) :
    w1.heap[w.heap.size]? = some (.cells #[.int .i64 6, .int .i64 client, .int .i64 seq, .string ak, .string aw, .string tk, .string tw, .int .i64 item, .int .i64 count, .int .i64 price, .bool buy, .int .i64 id] 25 (0, 0)) ∧ w1.heap[w.heap.size + 1]? = some KindsO ∧ w1.cell? ⟨w.heap.size, 0, none⟩ = some (.int .i64 6) ∧ w1.cell? ⟨w.heap.size, 1, none⟩ = some (.int .i64 client) ∧ w1.cell? ⟨w.heap.size, 2, none⟩ = some (.int .i64 seq) ∧ w1.cell? ⟨w.heap.size, 3, none⟩ = some (.string ak) ∧ w1.cell? ⟨w.heap.size, 4, none⟩ = some (.string aw) ∧ w1.cell? ⟨w.heap.size, 5, none⟩ = some (.string tk) ∧ w1.cell? ⟨w.heap.size, 6, none⟩ = some (.string tw) ∧ w1.cell? ⟨w.heap.size, 7, none⟩ = some (.int .i64 item) ∧ w1.cell? ⟨w.heap.size, 8, none⟩ = some (.int .i64 count) ∧ w1.cell? ⟨w.heap.size, 9, none⟩ = some (.int .i64 price) ∧ w1.cell? ⟨w.heap.size, 10, none⟩ = some (.bool buy) ∧ w1.cell? ⟨w.heap.size, 11, none⟩ = some (.int .i64 id) ∧ w1.cell? ⟨w.heap.size + 1, 6, none⟩ = some (.func (.func 109) #[] #[]) ∧ Below w.heap.size w w1 :=
  ⟨n0, n1, cell_of n0 rfl, cell_of n0 rfl, cell_of n0 rfl, cell_of n0 rfl, cell_of n0 rfl, cell_of n0 rfl, cell_of n0 rfl, cell_of n0 rfl, cell_of n0 rfl, cell_of n0 rfl, cell_of n0 rfl, cell_of n0 rfl, cell_of n1 rfl, hb⟩
theorem heldk6_below {w w1 : World} {client seq : Int} {ak aw tk tw : ByteArray} {item count price : Int} {buy : Bool} {id : Int} (h : w1.heap[w.heap.size]? = some (.cells #[.int .i64 6, .int .i64 client, .int .i64 seq, .string ak, .string aw, .string tk, .string tw, .int .i64 item, .int .i64 count, .int .i64 price, .bool buy, .int .i64 id] 25 (0, 0)) ∧ w1.heap[w.heap.size + 1]? = some KindsO ∧ w1.cell? ⟨w.heap.size, 0, none⟩ = some (.int .i64 6) ∧ w1.cell? ⟨w.heap.size, 1, none⟩ = some (.int .i64 client) ∧ w1.cell? ⟨w.heap.size, 2, none⟩ = some (.int .i64 seq) ∧ w1.cell? ⟨w.heap.size, 3, none⟩ = some (.string ak) ∧ w1.cell? ⟨w.heap.size, 4, none⟩ = some (.string aw) ∧ w1.cell? ⟨w.heap.size, 5, none⟩ = some (.string tk) ∧ w1.cell? ⟨w.heap.size, 6, none⟩ = some (.string tw) ∧ w1.cell? ⟨w.heap.size, 7, none⟩ = some (.int .i64 item) ∧ w1.cell? ⟨w.heap.size, 8, none⟩ = some (.int .i64 count) ∧ w1.cell? ⟨w.heap.size, 9, none⟩ = some (.int .i64 price) ∧ w1.cell? ⟨w.heap.size, 10, none⟩ = some (.bool buy) ∧ w1.cell? ⟨w.heap.size, 11, none⟩ = some (.int .i64 id) ∧ w1.cell? ⟨w.heap.size + 1, 6, none⟩ = some (.func (.func 109) #[] #[]) ∧ Below w.heap.size w w1) : Below w.heap.size w w1 := h.2.2.2.2.2.2.2.2.2.2.2.2.2.2.2
set_option maxRecDepth 100000 in
set_option maxHeartbeats 8000000 in
theorem opmay6_calls (w : World) (client seq : Int) (ak aw tk tw : ByteArray) (item count price : Int) (buy : Bool) (id : Int) (h : OpM.wf ⟨6, client, seq, ak, aw, tk, tw, item, count, price, buy, id⟩) :
    Calls Tryz.prog 51 #[.agg #[.int .i64 6, .int .i64 client, .int .i64 seq, .string ak, .string aw, .string tk, .string tw, .int .i64 item, .int .i64 count, .int .i64 price, .bool buy, .int .i64 id]] w (RetB (OpM.may ⟨6, client, seq, ak, aw, tk, tw, item, count, price, buy, id⟩) w) := by
  have Hb := Lib.hid (fun x y : Obj => (box_below w x).trans ((box_below (w.alloc x) y).mono (box_below w x).size))
  have Hp := Lib.hid (fun W => isplace_calls W ak aw h.2.1.1 h.2.1.2.1)
  have Hc := Lib.hid (fun W => opcounts_calls W _ h)
  have Hm := Lib.hid (names_1 ⟨6, client, seq, ak, aw, tk, tw, item, count, price, buy, id⟩ (.inr rfl))
  have hfn := fun W => fn_eqn W (.func 109)
  go_enter Tryz.func51, Tryz.ntmps51
  go_wp2_with fail
  obtain ⟨w1, hw1⟩ : ∃ w1, w1 = (w.alloc (.cells #[.int .i64 6, .int .i64 client, .int .i64 seq, .string ak, .string aw, .string tk, .string tw, .int .i64 item, .int .i64 count, .int .i64 price, .bool buy, .int .i64 id] 25 (0, 0))).alloc (.cells #[.nilFunc, .func (.func 109) #[] #[], .func (.func 110) #[] #[], .func (.func 111) #[] #[], .func (.func 112) #[] #[], .func (.func 113) #[] #[], .func (.func 109) #[] #[], .func (.func 113) #[] #[]] 188 (0, 0)) := ⟨_, rfl⟩
  have n0 : w1.heap[w.heap.size]? = some (.cells #[.int .i64 6, .int .i64 client, .int .i64 seq, .string ak, .string aw, .string tk, .string tw, .int .i64 item, .int .i64 count, .int .i64 price, .bool buy, .int .i64 id] 25 (0, 0)) := by rw [hw1]; exact old_block _ (new_block _ _)
  have n1 : w1.heap[w.heap.size + 1]? = some KindsO := by rw [hw1]; exact new_block2 _ _ _
  have n3 : Below w.heap.size w w1 := hw1 ▸ Hb.out _ _
  rw [← hw1]
  clear hw1 Hb
  obtain ⟨k0, k1, k2, k3, k4, k5, k6, k7, k8, k9, k10, k11, k12, k13, k14, k15⟩ := heldk6_new n0 n1 n3
  have Hk := Lib.hid (heldk6_new n0 n1 n3)
  clear n0 n1 n3 k15
  rcases (by omega : client < 1 ∨ (1 ≤ client ∧ 1048576 < client) ∨ (1 ≤ client ∧ client ≤ 1048576 ∧ seq < 1) ∨ (1 ≤ client ∧ client ≤ 1048576 ∧ 1 ≤ seq ∧ 1099511627776 < seq) ∨ (1 ≤ client ∧ client ≤ 1048576 ∧ 1 ≤ seq ∧ seq ≤ 1099511627776)) with h1 | ⟨h1, h2⟩ | ⟨h1, h2, h3⟩ | ⟨h1, h2, h3, h4⟩ | ⟨h1, h2, h3, h4⟩
  · have hd : decide (1 ≤ client) = false := decide_eq_false (by omega)
    go_quiet (fail)
    go_wp2_with fail
    go_ret
    refine ⟨ret_bool ?_, (heldk6_below Hk.out).trans (below_drewN _ _ _)⟩
    unfold OpM.may
    simp
    omega
  · have hd : decide (client ≤ 1048576) = false := decide_eq_false (by omega)
    go_quiet (fail)
    go_wp2_with fail
    go_ret
    refine ⟨ret_bool ?_, (heldk6_below Hk.out).trans (below_drewN _ _ _)⟩
    unfold OpM.may
    simp
    omega
  · have hd : decide (1 ≤ seq) = false := decide_eq_false (by omega)
    go_quiet (fail)
    go_wp2_with fail
    go_ret
    refine ⟨ret_bool ?_, (heldk6_below Hk.out).trans (below_drewN _ _ _)⟩
    unfold OpM.may
    simp
    omega
  · have hd : decide (seq ≤ 1099511627776) = false := decide_eq_false (by omega)
    go_quiet (fail)
    go_wp2_with fail
    go_ret
    refine ⟨ret_bool ?_, (heldk6_below Hk.out).trans (below_drewN _ _ _)⟩
    unfold OpM.may
    simp
    omega
  · have hmay : OpM.may ⟨6, client, seq, ak, aw, tk, tw, item, count, price, buy, id⟩ = (isPl ak aw && OpM.cntM ⟨6, client, seq, ak, aw, tk, tw, item, count, price, buy, id⟩) := by
      rw [← Hm.out]
      unfold OpM.may
      simp [h1, h2, h3, h4]
    refine ord_start (fun w' : World => w'.heap[w.heap.size]? = some (.cells #[.int .i64 6, .int .i64 client, .int .i64 seq, .string ak, .string aw, .string tk, .string tw, .int .i64 item, .int .i64 count, .int .i64 price, .bool buy, .int .i64 id] 25 (0, 0)) ∧ w'.heap[w.heap.size + 1]? = some KindsO) (n := 32) (by kernel_rfl) rfl ⟨Hk.out.1, Hk.out.2.1⟩ (fun hHeld => ?_)
    have HB := Lib.hid ((heldk6_below Hk.out).trans ((below_dr w1).mono (heldk6_below Hk.out).size))
    clear k0 k1 k2 k3 k4 k5 k6 k7 k8 k9 k10 k11 k12 k13 k14 Hk
    generalize w1.drew = w2 at *
    refine Pl [0, 1, 2, 3, 4, 5, 6, 7, 8, 9, 10, 11, 12, 13, 14, 15, 16, 17, 18, 19, 20] ?_
    iterate 2 (refine Pd rfl (by intro w' hSw; have q0 := cell_of hSw.1 (i := 0) (v := .int .i64 6) rfl; have q1 := cell_of hSw.1 (i := 1) (v := .int .i64 client) rfl; have q2 := cell_of hSw.1 (i := 2) (v := .int .i64 seq) rfl; have q3 := cell_of hSw.1 (i := 3) (v := .string ak) rfl; have q4 := cell_of hSw.1 (i := 4) (v := .string aw) rfl; have q5 := cell_of hSw.2 (i := 6) (v := .func (.func 109) #[] #[]) rfl; go_simp; try with_reducible rfl) ?_; simp only [Act.put, uA, uB, uC])
    refine Pd (v := .bool true) rfl (by intro w' hSw; have e : decide (client ≥ 1) = true := decide_eq_true h1; go_simp; try with_reducible rfl) ?_; simp only [Act.put, uA, uB, uC]
    iterate 3 (refine Pd rfl (by intro w' hSw; have q0 := cell_of hSw.1 (i := 0) (v := .int .i64 6) rfl; have q1 := cell_of hSw.1 (i := 1) (v := .int .i64 client) rfl; have q2 := cell_of hSw.1 (i := 2) (v := .int .i64 seq) rfl; have q3 := cell_of hSw.1 (i := 3) (v := .string ak) rfl; have q4 := cell_of hSw.1 (i := 4) (v := .string aw) rfl; have q5 := cell_of hSw.2 (i := 6) (v := .func (.func 109) #[] #[]) rfl; go_simp; try with_reducible rfl) ?_; simp only [Act.put, uA, uB, uC])
    refine Pd (v := .bool true) rfl (by intro w' hSw; have e : decide (client ≤ 1048576) = true := decide_eq_true h2; go_simp; try with_reducible rfl) ?_; simp only [Act.put, uA, uB, uC]
    iterate 4 (refine Pd rfl (by intro w' hSw; have q0 := cell_of hSw.1 (i := 0) (v := .int .i64 6) rfl; have q1 := cell_of hSw.1 (i := 1) (v := .int .i64 client) rfl; have q2 := cell_of hSw.1 (i := 2) (v := .int .i64 seq) rfl; have q3 := cell_of hSw.1 (i := 3) (v := .string ak) rfl; have q4 := cell_of hSw.1 (i := 4) (v := .string aw) rfl; have q5 := cell_of hSw.2 (i := 6) (v := .func (.func 109) #[] #[]) rfl; go_simp; try with_reducible rfl) ?_; simp only [Act.put, uA, uB, uC])
    refine Pd (v := .bool true) rfl (by intro w' hSw; have e : decide (seq ≥ 1) = true := decide_eq_true h3; go_simp; try with_reducible rfl) ?_; simp only [Act.put, uA, uB, uC]
    iterate 4 (refine Pd rfl (by intro w' hSw; have q0 := cell_of hSw.1 (i := 0) (v := .int .i64 6) rfl; have q1 := cell_of hSw.1 (i := 1) (v := .int .i64 client) rfl; have q2 := cell_of hSw.1 (i := 2) (v := .int .i64 seq) rfl; have q3 := cell_of hSw.1 (i := 3) (v := .string ak) rfl; have q4 := cell_of hSw.1 (i := 4) (v := .string aw) rfl; have q5 := cell_of hSw.2 (i := 6) (v := .func (.func 109) #[] #[]) rfl; go_simp; try with_reducible rfl) ?_; simp only [Act.put, uA, uB, uC])
    refine Pd (v := .bool true) rfl (by intro w' hSw; have e : decide (seq ≤ 1099511627776) = true := decide_eq_true h4; go_simp; try with_reducible rfl) ?_; simp only [Act.put, uA, uB, uC]
    iterate 4 (refine Pd rfl (by intro w' hSw; have q0 := cell_of hSw.1 (i := 0) (v := .int .i64 6) rfl; have q1 := cell_of hSw.1 (i := 1) (v := .int .i64 client) rfl; have q2 := cell_of hSw.1 (i := 2) (v := .int .i64 seq) rfl; have q3 := cell_of hSw.1 (i := 3) (v := .string ak) rfl; have q4 := cell_of hSw.1 (i := 4) (v := .string aw) rfl; have q5 := cell_of hSw.2 (i := 6) (v := .func (.func 109) #[] #[]) rfl; go_simp; try with_reducible rfl) ?_; simp only [Act.put, uA, uB, uC])
    refine Pn ?_
    refine ord_one 21 rfl (by kernel_rfl) (by rfl) (fun K hK => ?_)
    go_wp2_with fail
    refine (Hp.out _).mono ?_
    rintro e w3 ⟨rfl, hb⟩
    have hH3 := And.intro ((hb.block _ (lt_of_block hHeld.1)).trans hHeld.1) ((hb.block _ (lt_of_block hHeld.2)).trans hHeld.2)
    have HB3 := Lib.hid (HB.out.trans (hb.mono HB.out.size))
    clear hb hHeld Hp HB
    cases hv : isPl ak aw with
    | false =>
      rw [hv] at hmay
      go_wp2_with fail
      refine hK.out _ _ hH3 (fun hHeld => ?_)
      clear hK hH3
      try simp only [Act.put, uA, uB, uC]
      refine Pl [22, 23, 24, 25, 26, 27, 28, 29, 30, 31] ?_
      iterate 2 (refine Pc rfl ?_; simp only [Act.put, uA, uB, uC])
      iterate 6 (refine Ps rfl ?_; simp only [Act.put, uA, uB, uC])
      iterate 2 (refine Pc rfl ?_; simp only [Act.put, uA, uB, uC])
      refine Pn ?_
      refine wpAnyH_done (by kernel_rfl) ?_ _
      clear hHeld
      go_wp2_with fail
      go_ret
      exact ⟨by rw [hmay]; rfl, HB3.out⟩
    | true =>
      rw [hv] at hmay
      go_wp2_with fail
      refine hK.out _ _ hH3 (fun hHeld => ?_)
      clear hK hH3
      try simp only [Act.put, uA, uB, uC]
      refine Pl [22, 23, 24, 25, 26, 27, 28] ?_
      iterate 2 (refine Pc rfl ?_; simp only [Act.put, uA, uB, uC])
      iterate 4 (refine Pd rfl (by intro w' hSw; have q0 := cell_of hSw.1 (i := 0) (v := .int .i64 6) rfl; have q1 := cell_of hSw.1 (i := 1) (v := .int .i64 client) rfl; have q2 := cell_of hSw.1 (i := 2) (v := .int .i64 seq) rfl; have q3 := cell_of hSw.1 (i := 3) (v := .string ak) rfl; have q4 := cell_of hSw.1 (i := 4) (v := .string aw) rfl; have q5 := cell_of hSw.2 (i := 6) (v := .func (.func 109) #[] #[]) rfl; go_simp; try with_reducible rfl) ?_; simp only [Act.put, uA, uB, uC])
      refine Pd rfl (by intro w' hSw; exact yload 25 (.tmp 1) rfl rfl hSw.1 Tryz.underlying25 rfl (by kernel_rfl)) ?_; simp only [Act.put, uA, uB, uC]
      refine Pn ?_
      refine ord_one 29 rfl (by kernel_rfl) (by rfl) (fun K hK => ?_)
      go_wp2_with fail
      refine (Hc.out _).mono ?_
      rintro e w4 ⟨rfl, hb⟩
      have hH4 := And.intro ((hb.block _ (lt_of_block hHeld.1)).trans hHeld.1) ((hb.block _ (lt_of_block hHeld.2)).trans hHeld.2)
      have HB4 := Lib.hid (HB3.out.trans (hb.mono HB3.out.size))
      clear hb hHeld Hc HB3
      go_wp2_with fail
      refine hK.out _ _ hH4 (fun hHeld => ?_)
      clear hK hH4
      try simp only [Act.put, uA, uB, uC]
      refine Pl [30, 31] ?_
      iterate 2 (refine Pc rfl ?_; simp only [Act.put, uA, uB, uC])
      refine Pn ?_
      refine wpAnyH_done (by kernel_rfl) ?_ _
      clear hHeld
      go_wp2_with fail
      go_ret
      exact ⟨by rw [hmay]; rfl, HB4.out⟩
theorem heldk7_new {w w1 : World} {client seq : Int} {ak aw tk tw : ByteArray} {item count price : Int} {buy : Bool} {id : Int} (n0 : w1.heap[w.heap.size]? = some (.cells #[.int .i64 7, .int .i64 client, .int .i64 seq, .string ak, .string aw, .string tk, .string tw, .int .i64 item, .int .i64 count, .int .i64 price, .bool buy, .int .i64 id] 25 (0, 0))) (n1 : w1.heap[w.heap.size + 1]? = some KindsO) (hb : Below w.heap.size w w1) :
    w1.heap[w.heap.size]? = some (.cells #[.int .i64 7, .int .i64 client, .int .i64 seq, .string ak, .string aw, .string tk, .string tw, .int .i64 item, .int .i64 count, .int .i64 price, .bool buy, .int .i64 id] 25 (0, 0)) ∧ w1.heap[w.heap.size + 1]? = some KindsO ∧ w1.cell? ⟨w.heap.size, 0, none⟩ = some (.int .i64 7) ∧ w1.cell? ⟨w.heap.size, 1, none⟩ = some (.int .i64 client) ∧ w1.cell? ⟨w.heap.size, 2, none⟩ = some (.int .i64 seq) ∧ w1.cell? ⟨w.heap.size, 3, none⟩ = some (.string ak) ∧ w1.cell? ⟨w.heap.size, 4, none⟩ = some (.string aw) ∧ w1.cell? ⟨w.heap.size, 5, none⟩ = some (.string tk) ∧ w1.cell? ⟨w.heap.size, 6, none⟩ = some (.string tw) ∧ w1.cell? ⟨w.heap.size, 7, none⟩ = some (.int .i64 item) ∧ w1.cell? ⟨w.heap.size, 8, none⟩ = some (.int .i64 count) ∧ w1.cell? ⟨w.heap.size, 9, none⟩ = some (.int .i64 price) ∧ w1.cell? ⟨w.heap.size, 10, none⟩ = some (.bool buy) ∧ w1.cell? ⟨w.heap.size, 11, none⟩ = some (.int .i64 id) ∧ w1.cell? ⟨w.heap.size + 1, 7, none⟩ = some (.func (.func 113) #[] #[]) ∧ Below w.heap.size w w1 :=
  ⟨n0, n1, cell_of n0 rfl, cell_of n0 rfl, cell_of n0 rfl, cell_of n0 rfl, cell_of n0 rfl, cell_of n0 rfl, cell_of n0 rfl, cell_of n0 rfl, cell_of n0 rfl, cell_of n0 rfl, cell_of n0 rfl, cell_of n0 rfl, cell_of n1 rfl, hb⟩
theorem heldk7_below {w w1 : World} {client seq : Int} {ak aw tk tw : ByteArray} {item count price : Int} {buy : Bool} {id : Int} (h : w1.heap[w.heap.size]? = some (.cells #[.int .i64 7, .int .i64 client, .int .i64 seq, .string ak, .string aw, .string tk, .string tw, .int .i64 item, .int .i64 count, .int .i64 price, .bool buy, .int .i64 id] 25 (0, 0)) ∧ w1.heap[w.heap.size + 1]? = some KindsO ∧ w1.cell? ⟨w.heap.size, 0, none⟩ = some (.int .i64 7) ∧ w1.cell? ⟨w.heap.size, 1, none⟩ = some (.int .i64 client) ∧ w1.cell? ⟨w.heap.size, 2, none⟩ = some (.int .i64 seq) ∧ w1.cell? ⟨w.heap.size, 3, none⟩ = some (.string ak) ∧ w1.cell? ⟨w.heap.size, 4, none⟩ = some (.string aw) ∧ w1.cell? ⟨w.heap.size, 5, none⟩ = some (.string tk) ∧ w1.cell? ⟨w.heap.size, 6, none⟩ = some (.string tw) ∧ w1.cell? ⟨w.heap.size, 7, none⟩ = some (.int .i64 item) ∧ w1.cell? ⟨w.heap.size, 8, none⟩ = some (.int .i64 count) ∧ w1.cell? ⟨w.heap.size, 9, none⟩ = some (.int .i64 price) ∧ w1.cell? ⟨w.heap.size, 10, none⟩ = some (.bool buy) ∧ w1.cell? ⟨w.heap.size, 11, none⟩ = some (.int .i64 id) ∧ w1.cell? ⟨w.heap.size + 1, 7, none⟩ = some (.func (.func 113) #[] #[]) ∧ Below w.heap.size w w1) : Below w.heap.size w w1 := h.2.2.2.2.2.2.2.2.2.2.2.2.2.2.2
set_option maxRecDepth 100000 in
set_option maxHeartbeats 8000000 in
theorem opmay7_calls (w : World) (client seq : Int) (ak aw tk tw : ByteArray) (item count price : Int) (buy : Bool) (id : Int) (h : OpM.wf ⟨7, client, seq, ak, aw, tk, tw, item, count, price, buy, id⟩) :
    Calls Tryz.prog 51 #[.agg #[.int .i64 7, .int .i64 client, .int .i64 seq, .string ak, .string aw, .string tk, .string tw, .int .i64 item, .int .i64 count, .int .i64 price, .bool buy, .int .i64 id]] w (RetB (OpM.may ⟨7, client, seq, ak, aw, tk, tw, item, count, price, buy, id⟩) w) := by
  have Hb := Lib.hid (fun x y : Obj => (box_below w x).trans ((box_below (w.alloc x) y).mono (box_below w x).size))
  have Hp := Lib.hid (fun W => isplace_calls W ak aw h.2.1.1 h.2.1.2.1)
  have Hc := Lib.hid (fun W => opbare_calls W _ h)
  have Hm := Lib.hid (names_5 ⟨7, client, seq, ak, aw, tk, tw, item, count, price, buy, id⟩ (.inr rfl))
  have hfn := fun W => fn_eqn W (.func 113)
  go_enter Tryz.func51, Tryz.ntmps51
  go_wp2_with fail
  obtain ⟨w1, hw1⟩ : ∃ w1, w1 = (w.alloc (.cells #[.int .i64 7, .int .i64 client, .int .i64 seq, .string ak, .string aw, .string tk, .string tw, .int .i64 item, .int .i64 count, .int .i64 price, .bool buy, .int .i64 id] 25 (0, 0))).alloc (.cells #[.nilFunc, .func (.func 109) #[] #[], .func (.func 110) #[] #[], .func (.func 111) #[] #[], .func (.func 112) #[] #[], .func (.func 113) #[] #[], .func (.func 109) #[] #[], .func (.func 113) #[] #[]] 188 (0, 0)) := ⟨_, rfl⟩
  have n0 : w1.heap[w.heap.size]? = some (.cells #[.int .i64 7, .int .i64 client, .int .i64 seq, .string ak, .string aw, .string tk, .string tw, .int .i64 item, .int .i64 count, .int .i64 price, .bool buy, .int .i64 id] 25 (0, 0)) := by rw [hw1]; exact old_block _ (new_block _ _)
  have n1 : w1.heap[w.heap.size + 1]? = some KindsO := by rw [hw1]; exact new_block2 _ _ _
  have n3 : Below w.heap.size w w1 := hw1 ▸ Hb.out _ _
  rw [← hw1]
  clear hw1 Hb
  obtain ⟨k0, k1, k2, k3, k4, k5, k6, k7, k8, k9, k10, k11, k12, k13, k14, k15⟩ := heldk7_new n0 n1 n3
  have Hk := Lib.hid (heldk7_new n0 n1 n3)
  clear n0 n1 n3 k15
  rcases (by omega : client < 1 ∨ (1 ≤ client ∧ 1048576 < client) ∨ (1 ≤ client ∧ client ≤ 1048576 ∧ seq < 1) ∨ (1 ≤ client ∧ client ≤ 1048576 ∧ 1 ≤ seq ∧ 1099511627776 < seq) ∨ (1 ≤ client ∧ client ≤ 1048576 ∧ 1 ≤ seq ∧ seq ≤ 1099511627776)) with h1 | ⟨h1, h2⟩ | ⟨h1, h2, h3⟩ | ⟨h1, h2, h3, h4⟩ | ⟨h1, h2, h3, h4⟩
  · have hd : decide (1 ≤ client) = false := decide_eq_false (by omega)
    go_quiet (fail)
    go_wp2_with fail
    go_ret
    refine ⟨ret_bool ?_, (heldk7_below Hk.out).trans (below_drewN _ _ _)⟩
    unfold OpM.may
    simp
    omega
  · have hd : decide (client ≤ 1048576) = false := decide_eq_false (by omega)
    go_quiet (fail)
    go_wp2_with fail
    go_ret
    refine ⟨ret_bool ?_, (heldk7_below Hk.out).trans (below_drewN _ _ _)⟩
    unfold OpM.may
    simp
    omega
  · have hd : decide (1 ≤ seq) = false := decide_eq_false (by omega)
    go_quiet (fail)
    go_wp2_with fail
    go_ret
    refine ⟨ret_bool ?_, (heldk7_below Hk.out).trans (below_drewN _ _ _)⟩
    unfold OpM.may
    simp
    omega
  · have hd : decide (seq ≤ 1099511627776) = false := decide_eq_false (by omega)
    go_quiet (fail)
    go_wp2_with fail
    go_ret
    refine ⟨ret_bool ?_, (heldk7_below Hk.out).trans (below_drewN _ _ _)⟩
    unfold OpM.may
    simp
    omega
  · have hmay : OpM.may ⟨7, client, seq, ak, aw, tk, tw, item, count, price, buy, id⟩ = (isPl ak aw && OpM.bareM ⟨7, client, seq, ak, aw, tk, tw, item, count, price, buy, id⟩) := by
      rw [← Hm.out]
      unfold OpM.may
      simp [h1, h2, h3, h4]
    refine ord_start (fun w' : World => w'.heap[w.heap.size]? = some (.cells #[.int .i64 7, .int .i64 client, .int .i64 seq, .string ak, .string aw, .string tk, .string tw, .int .i64 item, .int .i64 count, .int .i64 price, .bool buy, .int .i64 id] 25 (0, 0)) ∧ w'.heap[w.heap.size + 1]? = some KindsO) (n := 32) (by kernel_rfl) rfl ⟨Hk.out.1, Hk.out.2.1⟩ (fun hHeld => ?_)
    have HB := Lib.hid ((heldk7_below Hk.out).trans ((below_dr w1).mono (heldk7_below Hk.out).size))
    clear k0 k1 k2 k3 k4 k5 k6 k7 k8 k9 k10 k11 k12 k13 k14 Hk
    generalize w1.drew = w2 at *
    refine Pl [0, 1, 2, 3, 4, 5, 6, 7, 8, 9, 10, 11, 12, 13, 14, 15, 16, 17, 18, 19, 20] ?_
    iterate 2 (refine Pd rfl (by intro w' hSw; have q0 := cell_of hSw.1 (i := 0) (v := .int .i64 7) rfl; have q1 := cell_of hSw.1 (i := 1) (v := .int .i64 client) rfl; have q2 := cell_of hSw.1 (i := 2) (v := .int .i64 seq) rfl; have q3 := cell_of hSw.1 (i := 3) (v := .string ak) rfl; have q4 := cell_of hSw.1 (i := 4) (v := .string aw) rfl; have q5 := cell_of hSw.2 (i := 7) (v := .func (.func 113) #[] #[]) rfl; go_simp; try with_reducible rfl) ?_; simp only [Act.put, uA, uB, uC])
    refine Pd (v := .bool true) rfl (by intro w' hSw; have e : decide (client ≥ 1) = true := decide_eq_true h1; go_simp; try with_reducible rfl) ?_; simp only [Act.put, uA, uB, uC]
    iterate 3 (refine Pd rfl (by intro w' hSw; have q0 := cell_of hSw.1 (i := 0) (v := .int .i64 7) rfl; have q1 := cell_of hSw.1 (i := 1) (v := .int .i64 client) rfl; have q2 := cell_of hSw.1 (i := 2) (v := .int .i64 seq) rfl; have q3 := cell_of hSw.1 (i := 3) (v := .string ak) rfl; have q4 := cell_of hSw.1 (i := 4) (v := .string aw) rfl; have q5 := cell_of hSw.2 (i := 7) (v := .func (.func 113) #[] #[]) rfl; go_simp; try with_reducible rfl) ?_; simp only [Act.put, uA, uB, uC])
    refine Pd (v := .bool true) rfl (by intro w' hSw; have e : decide (client ≤ 1048576) = true := decide_eq_true h2; go_simp; try with_reducible rfl) ?_; simp only [Act.put, uA, uB, uC]
    iterate 4 (refine Pd rfl (by intro w' hSw; have q0 := cell_of hSw.1 (i := 0) (v := .int .i64 7) rfl; have q1 := cell_of hSw.1 (i := 1) (v := .int .i64 client) rfl; have q2 := cell_of hSw.1 (i := 2) (v := .int .i64 seq) rfl; have q3 := cell_of hSw.1 (i := 3) (v := .string ak) rfl; have q4 := cell_of hSw.1 (i := 4) (v := .string aw) rfl; have q5 := cell_of hSw.2 (i := 7) (v := .func (.func 113) #[] #[]) rfl; go_simp; try with_reducible rfl) ?_; simp only [Act.put, uA, uB, uC])
    refine Pd (v := .bool true) rfl (by intro w' hSw; have e : decide (seq ≥ 1) = true := decide_eq_true h3; go_simp; try with_reducible rfl) ?_; simp only [Act.put, uA, uB, uC]
    iterate 4 (refine Pd rfl (by intro w' hSw; have q0 := cell_of hSw.1 (i := 0) (v := .int .i64 7) rfl; have q1 := cell_of hSw.1 (i := 1) (v := .int .i64 client) rfl; have q2 := cell_of hSw.1 (i := 2) (v := .int .i64 seq) rfl; have q3 := cell_of hSw.1 (i := 3) (v := .string ak) rfl; have q4 := cell_of hSw.1 (i := 4) (v := .string aw) rfl; have q5 := cell_of hSw.2 (i := 7) (v := .func (.func 113) #[] #[]) rfl; go_simp; try with_reducible rfl) ?_; simp only [Act.put, uA, uB, uC])
    refine Pd (v := .bool true) rfl (by intro w' hSw; have e : decide (seq ≤ 1099511627776) = true := decide_eq_true h4; go_simp; try with_reducible rfl) ?_; simp only [Act.put, uA, uB, uC]
    iterate 4 (refine Pd rfl (by intro w' hSw; have q0 := cell_of hSw.1 (i := 0) (v := .int .i64 7) rfl; have q1 := cell_of hSw.1 (i := 1) (v := .int .i64 client) rfl; have q2 := cell_of hSw.1 (i := 2) (v := .int .i64 seq) rfl; have q3 := cell_of hSw.1 (i := 3) (v := .string ak) rfl; have q4 := cell_of hSw.1 (i := 4) (v := .string aw) rfl; have q5 := cell_of hSw.2 (i := 7) (v := .func (.func 113) #[] #[]) rfl; go_simp; try with_reducible rfl) ?_; simp only [Act.put, uA, uB, uC])
    refine Pn ?_
    refine ord_one 21 rfl (by kernel_rfl) (by rfl) (fun K hK => ?_)
    go_wp2_with fail
    refine (Hp.out _).mono ?_
    rintro e w3 ⟨rfl, hb⟩
    have hH3 := And.intro ((hb.block _ (lt_of_block hHeld.1)).trans hHeld.1) ((hb.block _ (lt_of_block hHeld.2)).trans hHeld.2)
    have HB3 := Lib.hid (HB.out.trans (hb.mono HB.out.size))
    clear hb hHeld Hp HB
    cases hv : isPl ak aw with
    | false =>
      rw [hv] at hmay
      go_wp2_with fail
      refine hK.out _ _ hH3 (fun hHeld => ?_)
      clear hK hH3
      try simp only [Act.put, uA, uB, uC]
      refine Pl [22, 23, 24, 25, 26, 27, 28, 29, 30, 31] ?_
      iterate 2 (refine Pc rfl ?_; simp only [Act.put, uA, uB, uC])
      iterate 6 (refine Ps rfl ?_; simp only [Act.put, uA, uB, uC])
      iterate 2 (refine Pc rfl ?_; simp only [Act.put, uA, uB, uC])
      refine Pn ?_
      refine wpAnyH_done (by kernel_rfl) ?_ _
      clear hHeld
      go_wp2_with fail
      go_ret
      exact ⟨by rw [hmay]; rfl, HB3.out⟩
    | true =>
      rw [hv] at hmay
      go_wp2_with fail
      refine hK.out _ _ hH3 (fun hHeld => ?_)
      clear hK hH3
      try simp only [Act.put, uA, uB, uC]
      refine Pl [22, 23, 24, 25, 26, 27, 28] ?_
      iterate 2 (refine Pc rfl ?_; simp only [Act.put, uA, uB, uC])
      iterate 4 (refine Pd rfl (by intro w' hSw; have q0 := cell_of hSw.1 (i := 0) (v := .int .i64 7) rfl; have q1 := cell_of hSw.1 (i := 1) (v := .int .i64 client) rfl; have q2 := cell_of hSw.1 (i := 2) (v := .int .i64 seq) rfl; have q3 := cell_of hSw.1 (i := 3) (v := .string ak) rfl; have q4 := cell_of hSw.1 (i := 4) (v := .string aw) rfl; have q5 := cell_of hSw.2 (i := 7) (v := .func (.func 113) #[] #[]) rfl; go_simp; try with_reducible rfl) ?_; simp only [Act.put, uA, uB, uC])
      refine Pd rfl (by intro w' hSw; exact yload 25 (.tmp 1) rfl rfl hSw.1 Tryz.underlying25 rfl (by kernel_rfl)) ?_; simp only [Act.put, uA, uB, uC]
      refine Pn ?_
      refine ord_one 29 rfl (by kernel_rfl) (by rfl) (fun K hK => ?_)
      go_wp2_with fail
      refine (Hc.out _).mono ?_
      rintro e w4 ⟨rfl, hb⟩
      have hH4 := And.intro ((hb.block _ (lt_of_block hHeld.1)).trans hHeld.1) ((hb.block _ (lt_of_block hHeld.2)).trans hHeld.2)
      have HB4 := Lib.hid (HB3.out.trans (hb.mono HB3.out.size))
      clear hb hHeld Hc HB3
      go_wp2_with fail
      refine hK.out _ _ hH4 (fun hHeld => ?_)
      clear hK hH4
      try simp only [Act.put, uA, uB, uC]
      refine Pl [30, 31] ?_
      iterate 2 (refine Pc rfl ?_; simp only [Act.put, uA, uB, uC])
      refine Pn ?_
      refine wpAnyH_done (by kernel_rfl) ?_ _
      clear hHeld
      go_wp2_with fail
      go_ret
      exact ⟨by rw [hmay]; rfl, HB4.out⟩
end Go.Proofs.YtogdfkilhpkloaaGreatDoor

namespace Go.Proofs.YtogdfkilhpkloaaGreatDoor
open Go.RowKit Go.Sat Go.Maps

theorem opmay_calls (w : World) (o : OpM) (h : o.wf) : Calls Tryz.prog 51 #[o.v] w (RetB o.may w) := by
  by_cases hk : o.kind < 1 ∨ 8 ≤ o.kind
  · exact opmayno_calls w o hk
  · obtain ⟨kind, client, seq, ak, aw, tk, tw, item, count, price, buy, id⟩ := o
    have hk' : 1 ≤ kind ∧ kind < 8 := by
      simp only [not_or] at hk
      omega
    rcases (by omega : kind = 1 ∨ kind = 2 ∨ kind = 3 ∨ kind = 4 ∨ kind = 5 ∨ kind = 6 ∨ kind = 7) with rfl | rfl | rfl | rfl | rfl | rfl | rfl
    · exact opmay1_calls w client seq ak aw tk tw item count price buy id h
    · exact opmay2_calls w client seq ak aw tk tw item count price buy id h
    · exact opmay3_calls w client seq ak aw tk tw item count price buy id h
    · exact opmay4_calls w client seq ak aw tk tw item count price buy id h
    · exact opmay5_calls w client seq ak aw tk tw item count price buy id h
    · exact opmay6_calls w client seq ak aw tk tw item count price buy id h
    · exact opmay7_calls w client seq ak aw tk tw item count price buy id h
end Go.Proofs.YtogdfkilhpkloaaGreatDoor
