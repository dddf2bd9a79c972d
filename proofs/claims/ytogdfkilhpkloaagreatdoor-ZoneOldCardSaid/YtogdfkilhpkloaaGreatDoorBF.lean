/- Which requests may be: sends, orders. Small parts of an economy: isNone, items, New. An economy in memory. An economy in memory: a new vault, a vault less, what was said; at. econ.at. econ.tidies. econ.mint. Printed by mkmint.py. op.May. -/
import Derived.Laws.EntriesVeiled
import Derived.Test.YtogdfkilhpkloaaGreatDoorBA
import Derived.Test.YtogdfkilhpkloaaGreatDoorBE
namespace Go.Proofs.YtogdfkilhpkloaaGreatDoor
open Go.RowKit Go.Sat Go.Maps

def OpM.noT (o : OpM) : OpM := { o with toK := s0, toW := s0 }
def OpM.noP (o : OpM) : OpM := { o with price := 0, buy := false }
theorem OpM.wf_noT {o : OpM} (h : o.wf) : o.noT.wf := ⟨h.1, ⟨h.2.1.1, h.2.1.2.1, strOk_s0, strOk_s0⟩, h.2.2⟩
theorem OpM.wf_noP {o : OpM} (h : o.wf) : o.noP.wf := ⟨h.1, h.2.1, h.2.2.1, h.2.2.2.1, wf64_0, h.2.2.2.2.2⟩
def OpM.sendM (o : OpM) : Bool := isPl o.toK o.toW && o.noT.cntM
def OpM.ordM (o : OpM) : Bool := decide (1 ≤ o.item) && decide (1 ≤ o.price) && decide (o.price ≤ 1024) && o.noP.cntM
theorem cells12 {w : World} {g : Nat} {a b c d e f g' h i j k l : Value} {t : TypeId} {fr : Nat × Nat} (h0 : w.heap[g]? = some (.cells #[a, b, c, d, e, f, g', h, i, j, k, l] t fr)) :
    w.cell? ⟨g, 0, none⟩ = some a ∧ w.cell? ⟨g, 1, none⟩ = some b ∧ w.cell? ⟨g, 2, none⟩ = some c ∧ w.cell? ⟨g, 3, none⟩ = some d ∧ w.cell? ⟨g, 4, none⟩ = some e ∧ w.cell? ⟨g, 5, none⟩ = some f ∧ w.cell? ⟨g, 6, none⟩ = some g' ∧ w.cell? ⟨g, 7, none⟩ = some h ∧ w.cell? ⟨g, 8, none⟩ = some i ∧ w.cell? ⟨g, 9, none⟩ = some j ∧ w.cell? ⟨g, 10, none⟩ = some k ∧ w.cell? ⟨g, 11, none⟩ = some l :=
  ⟨cell_of h0 rfl, cell_of h0 rfl, cell_of h0 rfl, cell_of h0 rfl, cell_of h0 rfl, cell_of h0 rfl, cell_of h0 rfl, cell_of h0 rfl, cell_of h0 rfl, cell_of h0 rfl, cell_of h0 rfl, cell_of h0 rfl⟩
set_option maxRecDepth 100000 in
set_option maxHeartbeats 4000000 in
theorem oporders_calls (w : World) (o : OpM) (h : o.wf) :
    Calls Tryz.prog 111 #[o.v] w (RetB o.ordM w) := by
  have Hc := Lib.hid (fun W => opcounts_calls W o.noP (OpM.wf_noP h))
  have Hb := Lib.hid (fun W : World => fun x : Obj => box_below W x)
  have e0 : o.v = .agg #[.int .i64 o.kind, .int .i64 o.client, .int .i64 o.seq, .string o.atK, .string o.atW, .string o.toK, .string o.toW, .int .i64 o.item, .int .i64 o.count, .int .i64 o.price, .bool o.buy, .int .i64 o.id] := rfl
  rw [e0]
  go_enter Tryz.func111, Tryz.ntmps111
  go_wp2_with fail
  · refine (Hc.out _).mono ?_
    rintro e w2 ⟨rfl, hb⟩
    have HB := Lib.hid ((Hb.out w _).trans (hb.mono (Hb.out w _).size))
    clear hb
    go_wp2_with fail
    go_ret
    refine ⟨ret_bool ?_, HB.out⟩
    unfold OpM.ordM
    simp
    omega
  all_goals
    go_ret
    refine ⟨ret_bool ?_, Hb.out _ _⟩
    unfold OpM.ordM
    simp
    omega
set_option maxRecDepth 100000 in
set_option maxHeartbeats 4000000 in
theorem opsends_calls (w : World) (o : OpM) (h : o.wf) :
    Calls Tryz.prog 110 #[o.v] w (RetB o.sendM w) := by
  have Hc := Lib.hid (fun W => opcounts_calls W o.noT (OpM.wf_noT h))
  have Hp := Lib.hid (fun W => isplace_calls W o.toK o.toW h.2.1.2.2.1 h.2.1.2.2.2)
  have Hb := Lib.hid (fun W : World => fun x : Obj => box_below W x)
  have e0 : o.v = .agg #[.int .i64 o.kind, .int .i64 o.client, .int .i64 o.seq, .string o.atK, .string o.atW, .string o.toK, .string o.toW, .int .i64 o.item, .int .i64 o.count, .int .i64 o.price, .bool o.buy, .int .i64 o.id] := rfl
  rw [e0]
  go_enter Tryz.func110, Tryz.ntmps110
  go_wp2_with fail
  refine (Hp.out _).mono ?_
  rintro e w2 ⟨rfl, hb⟩
  have hbx := (Hb.out w (.cells #[.int .i64 o.kind, .int .i64 o.client, .int .i64 o.seq, .string o.atK, .string o.atW, .string ⟨#[]⟩, .string ⟨#[]⟩, .int .i64 o.item, .int .i64 o.count, .int .i64 o.price, .bool o.buy, .int .i64 o.id] 187 (0, 0))).trans ((Hb.out _ (.cells #[.string o.toK, .string o.toW] 23 (0, 0))).mono (Hb.out w _).size)
  have n0 := (hb.block w.heap.size (by simp; omega)).trans (old_block _ (new_block w _))
  have HB := Lib.hid (hbx.trans (hb.mono hbx.size))
  clear hb hbx
  obtain ⟨k0, k1, k2, k3, k4, k5, k6, k7, k8, k9, k10, k11⟩ := cells12 n0
  clear n0
  cases hv : isPl o.toK o.toW with
  | false =>
    go_wp2_with fail
    go_ret
    refine ⟨ret_bool ?_, HB.out⟩
    unfold OpM.sendM
    rw [hv]
    simp
  | true =>
    go_wp2_with fail
    refine (Hc.out _).mono ?_
    rintro e w3 ⟨rfl, hb⟩
    have HB2 := Lib.hid (HB.out.trans (hb.mono HB.out.size))
    clear hb
    go_wp2_with fail
    go_ret
    refine ⟨ret_bool ?_, HB2.out⟩
    unfold OpM.sendM
    rw [hv]
    simp
end Go.Proofs.YtogdfkilhpkloaaGreatDoor

namespace Go.Proofs.YtogdfkilhpkloaaGreatDoor
open Go.RowKit Go.Sat Go.Maps

theorem wf64_iff {a : Int} : wf64 a ↔ -9223372036854775808 ≤ a ∧ a ≤ 9223372036854775807 := by
  refine ⟨fun h => ?_, wf64_of⟩
  unfold wf64 Lit.wf at h
  simp [IntKind.min, IntKind.max, IntKind.signed, IntKind.bits] at h
  omega
set_option maxRecDepth 100000 in
set_option maxHeartbeats 4000000 in
theorem isnone_calls {w : World} {vb pm bb : Nat} {V : List (Bs × It)} (h : VaultIn w vb pm bb V) (hn : V.length ≤ 1099511627776) :
    Calls Tryz.prog 153 #[.pointer (some ⟨vb, 0, none⟩)] w (RetB V.isEmpty w) := by
  have HL := Lib.hid (vlist_calls h hn)
  have Hn := Lib.hid hn
  clear h hn
  go_enter Tryz.func153, Tryz.ntmps153
  go_wp2_with fail
  refine HL.out.mono ?_
  rintro e w2 ⟨v, rfl, hR⟩
  obtain ⟨ps, cs, rfl⟩ := OwnR.shape hR.1
  have HR := Lib.hid hR.2.1
  clear hR
  cases V with
  | nil =>
    go_wp2_with fail
    go_ret
    exact ⟨rfl, HR.out⟩
  | cons p V =>
    have hw : wrap64 ((V.length : Int) + 1) = (V.length : Int) + 1 := by have := Hn.out; simp at this; unfold wrap64; omega
    have hd : (((V.length : Int) + 1) == 0) = false := by simp; omega
    go_wp2_with fail
    go_ret
    exact ⟨rfl, HR.out⟩
set_option maxRecDepth 100000 in
set_option maxHeartbeats 4000000 in
theorem items_calls (w : World) (o : OpM) (h : o.wf) :
    Calls Tryz.prog 185 #[o.v] w fun e w' => e = .returned (It.one o.item o.count).v ∧ Below w.heap.size w w' := by
  have Ho := Lib.hid (fun W => purseone_calls W o.item o.count (wf64_iff.1 h.2.2.1) (wf64_iff.1 h.2.2.2.1))
  generalize It.one o.item o.count = x at Ho ⊢
  have e0 : o.v = .agg #[.int .i64 o.kind, .int .i64 o.client, .int .i64 o.seq, .string o.atK, .string o.atW, .string o.toK, .string o.toW, .int .i64 o.item, .int .i64 o.count, .int .i64 o.price, .bool o.buy, .int .i64 o.id] := rfl
  have Hb := Lib.hid (fun x y : Obj => (box_below w x).trans ((box_below (w.alloc x) y).mono (box_below w x).size))
  rw [e0]
  go_enter Tryz.func185, Tryz.ntmps185
  go_wp2_with fail
  refine (Ho.out _).mono ?_
  rintro e w2 ⟨he, hb⟩
  have HB := Lib.hid ((Hb.out _ _).trans (hb.mono (Hb.out _ _).size))
  have hz := (hb.block (w.heap.size + 1) (by simp)).trans (new_block2 _ _ _)
  rw [show x.v = .agg #[.int .i64 x.a, .int .i64 x.b, .int .i64 x.c, .int .i64 x.d] from rfl] at he
  subst he
  have hz2 := ((box_below w2 (.cells #[.int .i64 x.a, .int .i64 x.b, .int .i64 x.c, .int .i64 x.d] 46 (0, 0))).block (w.heap.size + 1) (lt_of_block hz)).trans hz
  have z0 := cell_of hz2 (i := 0) rfl
  have z1 := cell_of hz2 (i := 1) rfl
  have z2 := cell_of hz2 (i := 2) rfl
  have z3 := cell_of hz2 (i := 3) rfl
  have f0 := frozen_of hz2 0
  have f1 := frozen_of hz2 1
  have f2 := frozen_of hz2 2
  have f3 := frozen_of hz2 3
  have HZ := Lib.hid hz2
  clear hz hz2 hb
  go_wp2_with fail
  refine bodyPost_ret (results_cell_row rfl _ _ (w.heap.size + 1) _ _ (0, 0) _ rfl (put4 HZ.out _ _ _ _) Tryz.underlying46 rfl (by kernel_rfl)) rfl ?_
  refine ⟨rfl, ?_⟩
  have hc := chg4 (w2.alloc (.cells #[.int .i64 x.a, .int .i64 x.b, .int .i64 x.c, .int .i64 x.d] 46 (0, 0))) (w.heap.size + 1) (.int .i64 x.a) (.int .i64 x.b) (.int .i64 x.c) (.int .i64 x.d)
  have hB := HB.out.trans ((box_below w2 (.cells #[.int .i64 x.a, .int .i64 x.b, .int .i64 x.c, .int .i64 x.d] 46 (0, 0))).mono HB.out.size)
  exact (((Chg.of_below hB).mono fun _ _ e => e.elim : Chg (fun k => k = w.heap.size + 1) w _).trans hc fun _ _ e => e).below (Nat.le_refl _) fun k hk e => by omega
set_option maxRecDepth 100000 in
set_option maxHeartbeats 4000000 in
theorem econew_calls (w : World) : Calls Tryz.prog 80 #[] w fun e w' => e = .returned (.pointer (some ⟨w.heap.size + 4, 0, none⟩)) ∧ w' = ((((w.alloc (.map #[] 0)).alloc (.map #[] 0)).alloc (.map #[] 0)).alloc (.map #[] 0)).alloc (.cells #[.map (some w.heap.size), .map (some (w.heap.size + 1)), .map (some (w.heap.size + 2)), .map (some (w.heap.size + 3))] 184) := by
  have hmm := @run_makeMap Tryz.prog
  go_enter Tryz.func80, Tryz.ntmps80
  go_wp2_with fail
  go_ret
  exact ⟨rfl, rfl⟩
end Go.Proofs.YtogdfkilhpkloaaGreatDoor

namespace Go.Proofs.YtogdfkilhpkloaaGreatDoor
open Go.RowKit Go.Sat Go.Maps

/-- A vault, and where it lies. -/
structure VRep where
  vb : Nat
  pm : Nat
  bb : Nat
  V : List (Bs × It)
/-- What was said last to a client. -/
structure Sess where
  seq : Int
  err : Int
  id : Int
  has : It
theorem Sess.ext' {x y : Sess} (h1 : x.seq = y.seq) (h2 : x.err = y.err) (h3 : x.id = y.id) (h4 : x.has = y.has) : x = y := by
  cases x
  cases y
  simp_all
def Sess.v (s : Sess) : Value := .agg #[.int .i64 s.seq, .int .i64 s.err, .int .i64 s.id, .int .i64 s.has.a, .int .i64 s.has.b, .int .i64 s.has.c, .int .i64 s.has.d]
noncomputable def sessE : ElemR Sess := elemK Sess.v (fun s => .agg [.lit (.int .i64 s.seq), .lit (.int .i64 s.err), .lit (.int .i64 s.id), .lit (.int .i64 s.has.a), .lit (.int .i64 s.has.b), .lit (.int .i64 s.has.c), .lit (.int .i64 s.has.d)])
  (fun x y h => by
    unfold Sess.v at h
    simp only [Value.agg.injEq, Array.mk.injEq, List.cons.injEq, Value.int.injEq, true_and, and_true] at h
    exact Sess.ext' h.1 h.2.1 h.2.2.1 (It.ext' h.2.2.2.1 h.2.2.2.2.1 h.2.2.2.2.2.1 h.2.2.2.2.2.2))
  (fun x y h => by
    simp only [DataW.agg.injEq, List.cons.injEq, DataW.lit.injEq, Lit.int.injEq, true_and, and_true] at h
    exact Sess.ext' h.1 h.2.1 h.2.2.1 (It.ext' h.2.2.2.1 h.2.2.2.2.1 h.2.2.2.2.2.1 h.2.2.2.2.2.2)) ⟨0, 0, 0, It.zero⟩
/-- What is under way. -/
structure TransM where
  client : Int
  seq : Int
  atK : ByteArray
  atW : ByteArray
  toK : ByteArray
  toW : ByteArray
  item : Int
  count : Int
def TransM.v (t : TransM) : Value := .agg #[.int .i64 t.client, .int .i64 t.seq, .string t.atK, .string t.atW, .string t.toK, .string t.toW, .int .i64 t.item, .int .i64 t.count]
def strD (s : ByteArray) : DataW Nat := .lit (.string s.data.toList)
theorem strD_inj {a b : ByteArray} (h : a.data.toList = b.data.toList) : a = b := by
  cases a
  cases b
  simpa using h
noncomputable def transE : ElemR TransM := elemK TransM.v (fun t => .agg [.lit (.int .i64 t.client), .lit (.int .i64 t.seq), strD t.atK, strD t.atW, strD t.toK, strD t.toW, .lit (.int .i64 t.item), .lit (.int .i64 t.count)])
  (fun x y h => by
    unfold TransM.v at h
    simp only [Value.agg.injEq, Array.mk.injEq, List.cons.injEq, Value.int.injEq, Value.string.injEq, true_and, and_true] at h
    cases x
    cases y
    simp_all)
  (fun x y h => by
    unfold strD at h
    simp only [DataW.agg.injEq, List.cons.injEq, DataW.lit.injEq, Lit.int.injEq, Lit.string.injEq, true_and, and_true] at h
    cases x
    cases y
    obtain ⟨h1, h2, h3, h4, h5, h6, h7, h8⟩ := h
    have h3 := strD_inj h3
    have h4 := strD_inj h4
    have h5 := strD_inj h5
    have h6 := strD_inj h6
    simp_all) ⟨0, 0, s0, s0, s0, s0, 0, 0⟩
noncomputable def boolE : ElemR Bool := elemK (fun b => .bool b) (fun b => .lit (.bool b)) (fun x y h => Value.bool.inj h) (fun x y h => by injection h with h; injection h) false
structure EcoR where
  vs : List (Bs × VRep)
  ss : List (Int × Sess)
  ts : List ((Int × Int) × TransM)
  ar : List ((Int × Int) × Bool)
def EconO (vm sm tm am : Nat) : Obj := .cells #[.map (some vm), .map (some sm), .map (some tm), .map (some am)] 184 (0, 0)
/-- The vaults of it. -/
def VsIs (w : World) (vm : Nat) (vs : List (Bs × VRep)) : Prop := MapIs w Tryz.prog 9 (strK Tryz.underlying9) ptrE vm (kmp (·.vb) vs)
structure EconIn (w : World) (eb vm sm tm am : Nat) (E : EcoR) (own : Nat → Option (Nat × Bs)) : Prop where
  cells : w.heap[eb]? = some (EconO vm sm tm am)
  vaults : VsIs w vm E.vs
  each : ∀ p ∈ E.vs, VaultIn w p.2.vb p.2.pm p.2.bb p.2.V
  sess : MapIs w Tryz.prog 3 (intK Tryz.underlying3) sessE sm E.ss
  trans : MapIs w Tryz.prog 191 whichK transE tm E.ts
  arr : MapIs w Tryz.prog 191 whichK boolE am E.ar
  oE : own eb = some (0, [])
  oV : own vm = some (1, [])
  oS : own sm = some (2, [])
  oT : own tm = some (3, [])
  oA : own am = some (4, [])
  oP : ∀ p ∈ E.vs, own p.2.vb = some (5, p.1) ∧ own p.2.pm = some (6, p.1) ∧ own p.2.bb = some (7, p.1)
  oLt : ∀ k, own k ≠ none → k < w.heap.size
section
variable {w w' : World} {eb vm sm tm am : Nat} {E : EcoR} {own : Nat → Option (Nat × Bs)}
theorem EconIn.srt (h : EconIn w eb vm sm tm am E own) : KSrt E.vs := by
  have := h.vaults.srt
  unfold KSrt kmp at this
  rw [List.pairwise_map] at this
  exact this
theorem EconIn.keep (h : EconIn w eb vm sm tm am E own) (hs : ∀ k, own k ≠ none → w'.heap[k]? = w.heap[k]?) (hz : w.heap.size ≤ w'.heap.size) : EconIn w' eb vm sm tm am E own :=
  ⟨(hs eb (by rw [h.oE]; simp)).trans h.cells, h.vaults.keep (hs vm (by rw [h.oV]; simp)),
   fun p hp => (h.each p hp).keep fun k hk => hs k (by rcases hk with rfl | rfl | rfl <;> simp [h.oP p hp]),
   h.sess.keep (hs sm (by rw [h.oS]; simp)), h.trans.keep (hs tm (by rw [h.oT]; simp)), h.arr.keep (hs am (by rw [h.oA]; simp)),
   h.oE, h.oV, h.oS, h.oT, h.oA, h.oP, fun k hk => Nat.lt_of_lt_of_le (h.oLt k hk) hz⟩
/-- The purses of one vault have changed. -/
theorem EconIn.vault (h : EconIn w eb vm sm tm am E own) {n : Bs} {r : VRep} (hr : kget n E.vs = some r) {V' : List (Bs × It)} (hv : VTold w r.vb r.pm r.bb V' w') :
    EconIn w' eb vm sm tm am { E with vs := kput n { r with V := V' } E.vs } own := by
  have hm := k_get_mem hr
  obtain ⟨o1, o2, o3⟩ := h.oP _ hm
  have hk : ∀ k, own k ≠ none → k ≠ r.pm → w'.heap[k]? = w.heap[k]? := fun k hk hne => hv.2.block k (h.oLt k hk) hne
  have hne : ∀ {k : Nat} {t : Nat} {x : Bs}, own k = some (t, x) → t ≠ 6 ∨ x ≠ n → k ≠ r.pm := fun {k t x} e ht e2 => by
    rw [e2, o2] at e
    cases e
    simp at ht
  have hsame : kmp (fun p => VRep.vb p) (kput n { r with V := V' } E.vs) = kmp (fun p => VRep.vb p) E.vs := by
    rw [k_mp_put]
    refine k_srt_ext (k_srt_put (k_mp_srt h.srt)) (k_mp_srt h.srt) fun m => ?_
    by_cases hmn : m = n
    · subst hmn
      rw [k_get_put_same (k_mp_srt h.srt), k_mp_get, hr]
      rfl
    · rw [k_get_put_other (k_mp_srt h.srt) _ hmn]
  refine ⟨(hk eb (by rw [h.oE]; simp) (hne h.oE (.inl (by decide)))).trans h.cells, ?_, fun p hp => ?_, h.sess.keep (hk sm (by rw [h.oS]; simp) (hne h.oS (.inl (by decide)))), h.trans.keep (hk tm (by rw [h.oT]; simp) (hne h.oT (.inl (by decide)))), h.arr.keep (hk am (by rw [h.oA]; simp) (hne h.oA (.inl (by decide)))), h.oE, h.oV, h.oS, h.oT, h.oA, fun p hp => ?_, fun k hkk => Nat.lt_of_lt_of_le (h.oLt k hkk) hv.2.size⟩
  · show VsIs w' vm (kput n { r with V := V' } E.vs)
    unfold VsIs
    rw [hsame]
    exact h.vaults.keep (hk vm (by rw [h.oV]; simp) (hne h.oV (.inl (by decide))))
  · rcases k_mem_put.1 hp with rfl | ⟨h1, h2⟩
    · exact hv.1
    · obtain ⟨q1, q2, q3⟩ := h.oP p h1
      refine (h.each p h1).keep fun k hkk => ?_
      rcases hkk with rfl | rfl | rfl
      · exact hk _ (by rw [q1]; simp) (hne q1 (.inl (by decide)))
      · exact hk _ (by rw [q2]; simp) (hne q2 (.inr h2))
      · exact hk _ (by rw [q3]; simp) (hne q3 (.inl (by decide)))
  · rcases k_mem_put.1 hp with rfl | ⟨h1, h2⟩
    · exact ⟨o1, o2, o3⟩
    · exact h.oP p h1
end
end Go.Proofs.YtogdfkilhpkloaaGreatDoor

namespace Go.Proofs.YtogdfkilhpkloaaGreatDoor
open Go.RowKit Go.Sat Go.Maps

section
variable {w w' : World} {eb vm sm tm am : Nat} {E : EcoR} {own : Nat → Option (Nat × Bs)}
/-- The map of vaults has one more. -/
theorem EconIn.fresh (h : EconIn w eb vm sm tm am E own) {n : Bs} {r : VRep} (hv : VaultIn w' r.vb r.pm r.bb r.V) (hm : VsIs w' vm (kput n r E.vs))
    (hf : ∀ k, k = r.vb ∨ k = r.pm ∨ k = r.bb → w.heap.size ≤ k) (hc : Chg (fun k => k = vm) w w') :
    ∃ own', EconIn w' eb vm sm tm am { E with vs := kput n r E.vs } own' ∧ ∀ k, k < w.heap.size → own' k = own k := by
  have hk : ∀ k, own k ≠ none → k ≠ vm → w'.heap[k]? = w.heap[k]? := fun k hk hne => hc.block k (h.oLt k hk) hne
  have hne : ∀ {k : Nat} {t : Nat} {x : Bs}, own k = some (t, x) → t ≠ 1 → k ≠ vm := fun {k t x} e ht e2 => by
    rw [e2, h.oV] at e
    cases e
    exact ht rfl
  have hold : ∀ k, k < w.heap.size → (if k = r.vb then some (5, n) else if k = r.pm then some (6, n) else if k = r.bb then some (7, n) else own k) = own k := fun k hk => by
    have e1 := hf r.vb (.inl rfl)
    have e2 := hf r.pm (.inr (.inl rfl))
    have e3 := hf r.bb (.inr (.inr rfl))
    rw [if_neg (by omega), if_neg (by omega), if_neg (by omega)]
  have ho : ∀ {k : Nat} {x : Nat × Bs}, own k = some x → (if k = r.vb then some (5, n) else if k = r.pm then some (6, n) else if k = r.bb then some (7, n) else own k) = some x := fun {k x} e => (hold k (h.oLt k (by rw [e]; simp))).trans e
  refine ⟨fun k => if k = r.vb then some (5, n) else if k = r.pm then some (6, n) else if k = r.bb then some (7, n) else own k, ⟨(hk eb (by rw [h.oE]; simp) (hne h.oE (by decide))).trans h.cells, hm, fun p hp => ?_, h.sess.keep (hk sm (by rw [h.oS]; simp) (hne h.oS (by decide))), h.trans.keep (hk tm (by rw [h.oT]; simp) (hne h.oT (by decide))), h.arr.keep (hk am (by rw [h.oA]; simp) (hne h.oA (by decide))), ho h.oE, ho h.oV, ho h.oS, ho h.oT, ho h.oA, fun p hp => ?_, fun k hkk => ?_⟩, hold⟩
  · rcases k_mem_put.1 hp with rfl | ⟨h1, h2⟩
    · exact hv
    · obtain ⟨q1, q2, q3⟩ := h.oP p h1
      refine (h.each p h1).keep fun k hkk => ?_
      rcases hkk with rfl | rfl | rfl
      · exact hk _ (by rw [q1]; simp) (hne q1 (by decide))
      · exact hk _ (by rw [q2]; simp) (hne q2 (by decide))
      · exact hk _ (by rw [q3]; simp) (hne q3 (by decide))
  · rcases k_mem_put.1 hp with rfl | ⟨h1, h2⟩
    · refine ⟨if_pos rfl, ?_, ?_⟩
      · show (if r.pm = r.vb then _ else _) = _
        rw [if_neg (Ne.symm hv.n1), if_pos rfl]
      · show (if r.bb = r.vb then _ else _) = _
        rw [if_neg (Ne.symm hv.n2), if_neg (Ne.symm hv.n3), if_pos rfl]
    · obtain ⟨q1, q2, q3⟩ := h.oP p h1
      exact ⟨ho q1, ho q2, ho q3⟩
  · have hkk' : (if k = r.vb then some (5, n) else if k = r.pm then some (6, n) else if k = r.bb then some (7, n) else own k) ≠ none := hkk
    by_cases e1 : k = r.vb
    · exact hv.lt (.inl e1)
    by_cases e2 : k = r.pm
    · exact hv.lt (.inr (.inl e2))
    by_cases e3 : k = r.bb
    · exact hv.lt (.inr (.inr e3))
    rw [if_neg e1, if_neg e2, if_neg e3] at hkk'
    exact Nat.lt_of_lt_of_le (h.oLt k hkk') hc.size
/-- The map of vaults has one less. -/
theorem EconIn.less (h : EconIn w eb vm sm tm am E own) {n : Bs} (hm : VsIs w' vm (kdel n E.vs)) (hc : Chg (fun k => k = vm) w w') : EconIn w' eb vm sm tm am { E with vs := kdel n E.vs } own := by
  have hk : ∀ k, own k ≠ none → k ≠ vm → w'.heap[k]? = w.heap[k]? := fun k hk hne => hc.block k (h.oLt k hk) hne
  have hne : ∀ {k : Nat} {t : Nat} {x : Bs}, own k = some (t, x) → t ≠ 1 → k ≠ vm := fun {k t x} e ht e2 => by
    rw [e2, h.oV] at e
    cases e
    exact ht rfl
  refine ⟨(hk eb (by rw [h.oE]; simp) (hne h.oE (by decide))).trans h.cells, hm, fun p hp => ?_, h.sess.keep (hk sm (by rw [h.oS]; simp) (hne h.oS (by decide))), h.trans.keep (hk tm (by rw [h.oT]; simp) (hne h.oT (by decide))), h.arr.keep (hk am (by rw [h.oA]; simp) (hne h.oA (by decide))), h.oE, h.oV, h.oS, h.oT, h.oA, fun p hp => h.oP p (k_mem_del.1 hp).1, fun k hkk => Nat.lt_of_lt_of_le (h.oLt k hkk) hc.size⟩
  obtain ⟨h1, h2⟩ := k_mem_del.1 hp
  obtain ⟨q1, q2, q3⟩ := h.oP p h1
  refine (h.each p h1).keep fun k hkk => ?_
  rcases hkk with rfl | rfl | rfl
  · exact hk _ (by rw [q1]; simp) (hne q1 (by decide))
  · exact hk _ (by rw [q2]; simp) (hne q2 (by decide))
  · exact hk _ (by rw [q3]; simp) (hne q3 (by decide))
/-- What was said has changed. -/
theorem EconIn.said (h : EconIn w eb vm sm tm am E own) {ss : List (Int × Sess)} (hm : MapIs w' Tryz.prog 3 (intK Tryz.underlying3) sessE sm ss) (hc : Chg (fun k => k = sm) w w') : EconIn w' eb vm sm tm am { E with ss := ss } own := by
  have hk : ∀ k, own k ≠ none → k ≠ sm → w'.heap[k]? = w.heap[k]? := fun k hk hne => hc.block k (h.oLt k hk) hne
  have hne : ∀ {k : Nat} {t : Nat} {x : Bs}, own k = some (t, x) → t ≠ 2 → k ≠ sm := fun {k t x} e ht e2 => by
    rw [e2, h.oS] at e
    cases e
    exact ht rfl
  refine ⟨(hk eb (by rw [h.oE]; simp) (hne h.oE (by decide))).trans h.cells, h.vaults.keep (hk vm (by rw [h.oV]; simp) (hne h.oV (by decide))), fun p hp => ?_, hm, h.trans.keep (hk tm (by rw [h.oT]; simp) (hne h.oT (by decide))), h.arr.keep (hk am (by rw [h.oA]; simp) (hne h.oA (by decide))), h.oE, h.oV, h.oS, h.oT, h.oA, h.oP, fun k hkk => Nat.lt_of_lt_of_le (h.oLt k hkk) hc.size⟩
  obtain ⟨q1, q2, q3⟩ := h.oP p hp
  refine (h.each p hp).keep fun k hkk => ?_
  rcases hkk with rfl | rfl | rfl
  · exact hk _ (by rw [q1]; simp) (hne q1 (by decide))
  · exact hk _ (by rw [q2]; simp) (hne q2 (by decide))
  · exact hk _ (by rw [q3]; simp) (hne q3 (by decide))
end
end Go.Proofs.YtogdfkilhpkloaaGreatDoor

namespace Go.Proofs.YtogdfkilhpkloaaGreatDoor
open Go.RowKit Go.Sat Go.Maps

/-- The economy as it stands when the vault at n is r. -/
def AtE (E : EcoR) (n : Bs) (r : VRep) : EcoR := if kget n E.vs = none then { E with vs := kput n r E.vs } else E
def AtR (w : World) (eb vm sm tm am : Nat) (E : EcoR) (own : Nat → Option (Nat × Bs)) (n : Bs) (e : Ending) (w' : World) : Prop :=
  ∃ r own', e = .returned (.pointer (some ⟨r.vb, 0, none⟩)) ∧ kget n (AtE E n r).vs = some r ∧ (kget n E.vs = none → r.V = []) ∧ EconIn w' eb vm sm tm am (AtE E n r) own' ∧ (∀ k, k < w.heap.size → own' k = own k) ∧ Chg (fun k => own k ≠ none) w w'
theorem vs_look {w : World} {vm : Nat} {vs : List (Bs × VRep)} (h : VsIs w vm vs) (key : ByteArray) (hk : key.size ≤ maxLen) :
    (Instr.lookup 179 (.map (some vm)) (.string key) false).run Tryz.prog w = .ok (match kget (nm key) vs with | some r => .pointer (some ⟨r.vb, 0, none⟩) | none => .pointer none) w := by
  have h1 := MapIs.look h strKeyed Tryz.underlying179 (by kernel_rfl) (a := nm key) (by show (nm key).length ≤ maxLen; rw [nm_len]; exact hk)
  rw [show (strK (P := Tryz.prog) Tryz.underlying9).v (nm key) = .string key from strK_v _ key, k_mp_get] at h1
  rw [h1]
  cases kget (nm key) vs <;> rfl
theorem vs_store {w : World} {vm : Nat} {vs : List (Bs × VRep)} (h : VsIs w vm vs) (key : ByteArray) (hk : key.size ≤ maxLen) (hn : vs.length < maxLen) (r : VRep) :
    ∃ w', (Instr.mapUpdate 179 (.map (some vm)) (.string key) (.pointer (some ⟨r.vb, 0, none⟩))).run Tryz.prog w = .ok () w' ∧ VsIs w' vm (kput (nm key) r vs) ∧ Chg (fun k => k = vm) w w' := by
  obtain ⟨w', h1, h2, h3⟩ := MapIs.store h strKeyed Tryz.underlying179 (by unfold kmp; rw [List.length_map]; exact hn) (a := nm key) (by show (nm key).length ≤ maxLen; rw [nm_len]; exact hk) (x := r.vb) trivial
  rw [show (strK (P := Tryz.prog) Tryz.underlying9).v (nm key) = .string key from strK_v _ key] at h1
  refine ⟨w', h1, ?_, turned_chg h3⟩
  unfold VsIs
  rw [k_mp_put]
  exact h2
set_option maxRecDepth 100000 in
set_option maxHeartbeats 4000000 in
theorem econat_calls {w : World} {eb vm sm tm am : Nat} {E : EcoR} {own : Nat → Option (Nat × Bs)} (h : EconIn w eb vm sm tm am E own) (key : ByteArray) (hk : key.size ≤ maxLen) (hn : E.vs.length < maxLen) :
    Calls Tryz.prog 183 #[.pointer (some ⟨eb, 0, none⟩), .string key] w (AtR w eb vm sm tm am E own (nm key)) := by
  have hlk := vs_look h.vaults key hk
  have c0 : w.cell? ⟨eb, 0, none⟩ = some (.map (some vm)) := cell_of h.cells rfl
  have H := Lib.hid h
  have Hk := Lib.hid (And.intro hk hn)
  clear h hk hn
  cases hg : kget (nm key) E.vs with
  | some r =>
    rw [hg] at hlk
    have hlk : (Instr.lookup 179 (.map (some vm)) (.string key) false).run Tryz.prog w = .ok (.pointer (some ⟨r.vb, 0, none⟩)) w := hlk
    have Hg := Lib.hid hg
    clear hg
    go_enter Tryz.func183, Tryz.ntmps183
    go_wp2_with fail
    go_ret
    have e : AtE E (nm key) r = E := if_neg (by rw [Hg.out]; simp)
    exact ⟨r, own, rfl, by rw [e]; exact Hg.out, (by rw [Hg.out]; intro hh; cases hh), by rw [e]; exact H.out, fun _ _ => rfl, Chg.refl _ _⟩
  | none =>
    rw [hg] at hlk
    have hlk : (Instr.lookup 179 (.map (some vm)) (.string key) false).run Tryz.prog w = .ok (.pointer none) w := hlk
    have Hg := Lib.hid hg
    have Hv := Lib.hid (fun W => vaultnew_calls W)
    clear hg
    go_enter Tryz.func183, Tryz.ntmps183
    go_wp2_with fail
    refine (Hv.out _).mono ?_
    rintro e w2 ⟨vb, pm, bb, rfl, hV, hf, hb⟩
    have h2 := H.out.keep (fun k hk => hb.block k (H.out.oLt k hk)) hb.size
    have c2 : w2.cell? ⟨eb, 0, none⟩ = some (.map (some vm)) := cell_of h2.cells rfl
    obtain ⟨w3, hst, hm3, hc3⟩ := vs_store (w := w2) h2.vaults key Hk.out.1 Hk.out.2 ⟨vb, pm, bb, []⟩
    have HX := Lib.hid (And.intro h2 (And.intro hV (And.intro hf (And.intro hb (And.intro hm3 hc3)))))
    clear h2 hV hf hb hm3 hc3
    go_wp2_with fail
    go_ret
    obtain ⟨h2, hV, hf, hb, hm3, hc3⟩ := HX.out
    have hvm := H.out.oLt vm (by rw [H.out.oV]; simp)
    have hc : Chg (fun k => k = vm) w w3 := ((Chg.of_below hb).mono fun _ _ e => e.elim : Chg (fun k => k = vm) w w2).trans hc3 fun _ _ e => e
    have hV3 : VaultIn w3 vb pm bb [] := hV.keep fun k hk => hc3.block k (hV.lt hk) (by have := hf k hk; omega)
    obtain ⟨own', h3, ho⟩ := H.out.fresh (r := ⟨vb, pm, bb, []⟩) hV3 hm3 hf hc
    have e : AtE E (nm key) ⟨vb, pm, bb, []⟩ = { E with vs := kput (nm key) ⟨vb, pm, bb, []⟩ E.vs } := if_pos Hg.out
    refine ⟨⟨vb, pm, bb, []⟩, own', rfl, ?_, fun _ => rfl, by rw [e]; exact h3, ho, hc.mono fun k _ e => by rw [e, H.out.oV]; simp⟩
    rw [e]
    exact k_get_put_same H.out.srt _ _
end Go.Proofs.YtogdfkilhpkloaaGreatDoor

namespace Go.Proofs.YtogdfkilhpkloaaGreatDoor
open Go.RowKit Go.Sat Go.Maps

def tidyE (E : EcoR) (n : Bs) : EcoR := match kget n E.vs with
  | some r => if r.V.isEmpty then { E with vs := kdel n E.vs } else E
  | none => E
def EcoTold (w : World) (eb vm sm tm am : Nat) (own : Nat → Option (Nat × Bs)) (E' : EcoR) (w' : World) : Prop := EconIn w' eb vm sm tm am E' own ∧ Chg (fun k => own k ≠ none) w w'
theorem vs_drop {w : World} {vm : Nat} {vs : List (Bs × VRep)} (h : VsIs w vm vs) (key : ByteArray) (hk : key.size ≤ maxLen) :
    ∃ w', (Builtin.delete_ #[179, 9] 0 #[.map (some vm), .string key]).run Tryz.prog w = .ok (.tuple #[]) w' ∧ VsIs w' vm (kdel (nm key) vs) ∧ Chg (fun k => k = vm) w w' := by
  obtain ⟨w', h1, h2, h3⟩ := MapIs.drop h strKeyed Tryz.underlying179 (a := nm key) (by show (nm key).length ≤ maxLen; rw [nm_len]; exact hk) 0
  rw [show (strK (P := Tryz.prog) Tryz.underlying9).v (nm key) = .string key from strK_v _ key] at h1
  refine ⟨w', h1, ?_, turned_chg h3⟩
  unfold VsIs
  rw [k_mp_del]
  exact h2
set_option maxRecDepth 100000 in
set_option maxHeartbeats 4000000 in
theorem tidies_calls {w : World} {eb vm sm tm am : Nat} {E : EcoR} {own : Nat → Option (Nat × Bs)} (h : EconIn w eb vm sm tm am E own) (key : ByteArray) (hk : key.size ≤ maxLen) (hn : ∀ p ∈ E.vs, p.2.V.length ≤ 1099511627776) :
    Calls Tryz.prog 125 #[.pointer (some ⟨eb, 0, none⟩), .string key] w fun e w' => e = .returned (.tuple #[]) ∧ EcoTold w eb vm sm tm am own (tidyE E (nm key)) w' := by
  have hlk := vs_look h.vaults key hk
  have c0 : w.cell? ⟨eb, 0, none⟩ = some (.map (some vm)) := cell_of h.cells rfl
  have H := Lib.hid h
  have Hk := Lib.hid hk
  cases hg : kget (nm key) E.vs with
  | none =>
    rw [hg] at hlk
    have hlk : (Instr.lookup 179 (.map (some vm)) (.string key) false).run Tryz.prog w = .ok (.pointer none) w := hlk
    have Ht := Lib.hid (show tidyE E (nm key) = E by unfold tidyE; rw [hg])
    clear hg h hk hn
    go_enter Tryz.func125, Tryz.ntmps125
    go_wp2_with fail
    go_end0
    refine ⟨rfl, ?_⟩
    rw [Ht.out]
    exact ⟨H.out, Chg.refl _ _⟩
  | some r =>
    rw [hg] at hlk
    have hlk : (Instr.lookup 179 (.map (some vm)) (.string key) false).run Tryz.prog w = .ok (.pointer (some ⟨r.vb, 0, none⟩)) w := hlk
    have Hi := Lib.hid (isnone_calls (h.each _ (k_get_mem hg)) (hn _ (k_get_mem hg)))
    cases hv : r.V.isEmpty with
    | false =>
      rw [hv] at Hi
      have Ht := Lib.hid (show tidyE E (nm key) = E by unfold tidyE; rw [hg]; simp [hv])
      clear hg h hk hn hv
      go_enter Tryz.func125, Tryz.ntmps125
      go_wp2_with fail
      refine Hi.out.mono ?_
      rintro e w2 ⟨rfl, hb⟩
      have HB := Lib.hid hb
      clear hb
      go_wp2_with fail
      go_end0
      refine ⟨rfl, ?_⟩
      rw [Ht.out]
      exact ⟨H.out.keep (fun k hk => HB.out.block k (H.out.oLt k hk)) HB.out.size, (Chg.of_below HB.out).mono fun _ _ e => e.elim⟩
    | true =>
      rw [hv] at Hi
      have Ht := Lib.hid (show tidyE E (nm key) = { E with vs := kdel (nm key) E.vs } by unfold tidyE; rw [hg]; simp [hv])
      clear hg h hk hn hv
      go_enter Tryz.func125, Tryz.ntmps125
      go_wp2_with fail
      refine Hi.out.mono ?_
      rintro e w2 ⟨rfl, hb⟩
      have h2 := H.out.keep (fun k hk => hb.block k (H.out.oLt k hk)) hb.size
      have c2 : w2.cell? ⟨eb, 0, none⟩ = some (.map (some vm)) := cell_of h2.cells rfl
      obtain ⟨w3, hst, hm3, hc3⟩ := vs_drop h2.vaults key Hk.out
      have HX := Lib.hid (And.intro h2 (And.intro hb (And.intro hm3 hc3)))
      clear h2 hb hm3 hc3
      go_wp2_with fail
      go_end0
      obtain ⟨h2, hb, hm3, hc3⟩ := HX.out
      refine ⟨rfl, ?_⟩
      rw [Ht.out]
      exact ⟨h2.less hm3 hc3, (((Chg.of_below hb).mono fun _ _ e => e.elim : Chg (fun k => k = vm) w w2).trans hc3 fun _ _ e => e).mono fun k _ e => by rw [e, H.out.oV]; simp⟩
end Go.Proofs.YtogdfkilhpkloaaGreatDoor

namespace Go.Proofs.YtogdfkilhpkloaaGreatDoor
open Go.RowKit Go.Sat Go.Maps

theorem put6 {w : World} {b : Nat} {a0 a1 a2 a3 a4 a5 : Value} {t : TypeId} (h : w.heap[b]? = some (.cells #[a0, a1, a2, a3, a4, a5] t (0, 0))) (v0 v1 v2 v3 v4 v5 : Value) :
    ((((((w.setCell ⟨b, 0, none⟩ v0).setCell ⟨b, 1, none⟩ v1).setCell ⟨b, 2, none⟩ v2).setCell ⟨b, 3, none⟩ v3).setCell ⟨b, 4, none⟩ v4).setCell ⟨b, 5, none⟩ v5).heap[b]? = some (.cells #[v0, v1, v2, v3, v4, v5] t (0, 0)) := by
  have h1 := set_block h 0 v0
  have h2 := set_block h1 1 v1
  have h3 := set_block h2 2 v2
  have h4 := set_block h3 3 v3
  have h5 := set_block h4 4 v4
  have h6 := set_block h5 5 v5
  simpa using h6
theorem chg6 (w : World) (b : Nat) (v0 v1 v2 v3 v4 v5 : Value) : Chg (fun k => k = b) w ((((((w.setCell ⟨b, 0, none⟩ v0).setCell ⟨b, 1, none⟩ v1).setCell ⟨b, 2, none⟩ v2).setCell ⟨b, 3, none⟩ v3).setCell ⟨b, 4, none⟩ v4).setCell ⟨b, 5, none⟩ v5) :=
  ((chg4 w b v0 v1 v2 v3).trans (Chg.setCell _ ⟨b, 4, none⟩ v4) fun _ _ e => e).trans (Chg.setCell _ ⟨b, 5, none⟩ v5) fun _ _ e => e
/-- A request is minted. -/
def MintR (w : World) (eb vm sm tm am : Nat) (E : EcoR) (own : Nat → Option (Nat × Bs)) (o : OpM) (e : Ending) (w' : World) : Prop :=
  ∃ r own', e = .returned (.agg #[.int .i64 ((putM r.V o.atW (It.one o.item o.count)).2 : Int), .int .i64 0, .int .i64 0, .int .i64 0, .int .i64 0, .int .i64 0]) ∧
    kget (nm o.atK) (AtE E (nm o.atK) r).vs = some r ∧ (kget (nm o.atK) E.vs = none → r.V = []) ∧
    EconIn w' eb vm sm tm am { AtE E (nm o.atK) r with vs := kput (nm o.atK) { r with V := (putM r.V o.atW (It.one o.item o.count)).1 } (AtE E (nm o.atK) r).vs } own' ∧ (∀ k, k < w.heap.size → own' k = own k) ∧ Chg (fun k => own k ≠ none) w w'
set_option maxRecDepth 100000 in
set_option maxHeartbeats 8000000 in
theorem mint_calls {w : World} {eb vm sm tm am : Nat} {E : EcoR} {own : Nat → Option (Nat × Bs)} (h : EconIn w eb vm sm tm am E own) (o : OpM) (ho : o.wf) (hn : E.vs.length < maxLen)
    (hpl : ∀ r, kget (nm o.atK) E.vs = some r → r.V.length < maxLen ∧ (itsOf r.V o.atW).is = true) :
    Calls Tryz.prog 118 #[.pointer (some ⟨eb, 0, none⟩), o.v] w (MintR w eb vm sm tm am E own o) := by
  have Hi := Lib.hid (fun W => items_calls W o ho)
  have Ha := Lib.hid (fun (W : World) (hW : EconIn W eb vm sm tm am E own) => econat_calls hW o.atK ho.2.1.1 hn)
  have H := Lib.hid h
  have Hp := Lib.hid hpl
  have Hw := Lib.hid ho.2.1.2.1
  clear h hpl hn ho
  have e0 : o.v = .agg #[.int .i64 o.kind, .int .i64 o.client, .int .i64 o.seq, .string o.atK, .string o.atW, .string o.toK, .string o.toW, .int .i64 o.item, .int .i64 o.count, .int .i64 o.price, .bool o.buy, .int .i64 o.id] := rfl
  have Hbx := Lib.hid (fun x y : Obj => (box_below w x).trans ((box_below (w.alloc x) y).mono (box_below w x).size))
  rw [e0] at Hi ⊢
  go_enter Tryz.func118, Tryz.ntmps118
  go_wp2_with fail
  obtain ⟨w1, hw1⟩ : ∃ w1, w1 = (w.alloc (.cells #[.int .i64 o.kind, .int .i64 o.client, .int .i64 o.seq, .string o.atK, .string o.atW, .string o.toK, .string o.toW, .int .i64 o.item, .int .i64 o.count, .int .i64 o.price, .bool o.buy, .int .i64 o.id] 25 (0, 0))).alloc (.cells #[.int .i64 0, .int .i64 0, .int .i64 0, .int .i64 0, .int .i64 0, .int .i64 0] 48 (0, 0)) := ⟨_, rfl⟩
  have n0 : w1.heap[w.heap.size]? = some (.cells #[.int .i64 o.kind, .int .i64 o.client, .int .i64 o.seq, .string o.atK, .string o.atW, .string o.toK, .string o.toW, .int .i64 o.item, .int .i64 o.count, .int .i64 o.price, .bool o.buy, .int .i64 o.id] 25 (0, 0)) := by rw [hw1]; exact old_block _ (new_block _ _)
  have n1 : w1.heap[w.heap.size + 1]? = some (.cells #[.int .i64 0, .int .i64 0, .int .i64 0, .int .i64 0, .int .i64 0, .int .i64 0] 48 (0, 0)) := by rw [hw1]; exact new_block2 _ _ _
  have HB1 := Lib.hid (show Below w.heap.size w w1.drew from (hw1 ▸ Hbx.out _ _ : Below w.heap.size w w1).trans ⟨rfl, rfl, rfl, Nat.le_refl _, fun _ _ => rfl⟩)
  rw [← hw1]
  clear hw1 Hbx
  refine ord_start (fun w' : World => w'.heap[w.heap.size]? = some (.cells #[.int .i64 o.kind, .int .i64 o.client, .int .i64 o.seq, .string o.atK, .string o.atW, .string o.toK, .string o.toW, .int .i64 o.item, .int .i64 o.count, .int .i64 o.price, .bool o.buy, .int .i64 o.id] 25 (0, 0))) (n := 13) (by kernel_rfl) rfl n0 (fun hHeld => ?_)
  have HZ := Lib.hid (show w1.drew.heap[w.heap.size + 1]? = some (.cells #[.int .i64 0, .int .i64 0, .int .i64 0, .int .i64 0, .int .i64 0, .int .i64 0] 48 (0, 0)) from n1)
  clear n0 n1
  generalize w1.drew = W2 at *
  refine Pl [0, 1, 2, 3, 5, 6, 7, 8] ?_
  iterate 8 (refine Pd rfl (by intro w' hSw; have p0 := cell_of hSw (i := 0) rfl; have p1 := cell_of hSw (i := 1) rfl; have p2 := cell_of hSw (i := 2) rfl; have p3 := cell_of hSw (i := 3) rfl; have p4 := cell_of hSw (i := 4) rfl; have p5 := cell_of hSw (i := 5) rfl; have p6 := cell_of hSw (i := 6) rfl; have p7 := cell_of hSw (i := 7) rfl; have p8 := cell_of hSw (i := 8) rfl; have p9 := cell_of hSw (i := 9) rfl; have p10 := cell_of hSw (i := 10) rfl; have p11 := cell_of hSw (i := 11) rfl; go_simp; try with_reducible rfl) ?_; simp only [Act.put, uA, uB, uC])
  refine Pn ?_
  refine ord_one 4 rfl (by kernel_rfl) (by rfl) (fun K hK => ?_)
  go_wp2_with fail
  have h1 := H.out.keep (fun k hk => HB1.out.block k (H.out.oLt k hk)) HB1.out.size
  refine (Ha.out _ h1).mono ?_
  rintro e w3 ⟨r, own', rfl, hg, hrn, h3, hoo, hc3⟩
  have hfr : ∀ k, w.heap.size ≤ k → ¬ own k ≠ none := fun k hk hh => by have := H.out.oLt _ hh; omega
  have HSn := Lib.hid ((hc3.block _ (lt_of_block hHeld) (hfr _ (Nat.le_refl _))).trans hHeld)
  have HZ3 := Lib.hid ((hc3.block _ (lt_of_block HZ.out) (hfr _ (by omega))).trans HZ.out)
  have hcw : Chg (fun k => own k ≠ none) w w3 := ((Chg.of_below HB1.out).mono fun _ _ e => e.elim : Chg (fun k => own k ≠ none) w W2).trans hc3 fun _ _ e => e
  have hoo2 : ∀ k, k < w.heap.size → own' k = own k := fun k hk => hoo k (Nat.lt_of_lt_of_le hk HB1.out.size)
  have HO := Lib.hid (And.intro ((hoo _ (lt_of_block hHeld)).trans (Classical.byContradiction fun hh => hfr _ (Nat.le_refl _) hh)) ((hoo _ (lt_of_block HZ.out)).trans (Classical.byContradiction fun hh => hfr _ (Nat.le_succ _) hh)))
  have HX := Lib.hid (And.intro hg (And.intro hrn (And.intro h3 (And.intro hoo2 hcw))))
  clear hg hrn h3 hoo hoo2 hc3 hcw h1 hfr HZ HB1 Ha hHeld
  go_wp2_with fail
  refine hK.out _ _ HSn.out (fun hHeld => ?_)
  clear hK HSn
  try simp only [Act.put, uA, uB, uC]
  refine ord_one 9 rfl (by kernel_rfl) (by rfl) (fun K hK => ?_)
  go_wp2_with fail
  refine (Hi.out _).mono ?_
  rintro e w4 ⟨he, hb4⟩
  rw [show (It.one o.item o.count).v = .agg #[.int .i64 (It.one o.item o.count).a, .int .i64 (It.one o.item o.count).b, .int .i64 (It.one o.item o.count).c, .int .i64 (It.one o.item o.count).d] from rfl] at he
  subst he
  have HSn := Lib.hid ((hb4.block _ (lt_of_block hHeld)).trans hHeld)
  have HZ4 := Lib.hid ((hb4.block _ (lt_of_block HZ3.out)).trans HZ3.out)
  have HX4 := Lib.hid (And.intro (HX.out.2.2.1.keep (fun k hk => hb4.block k (HX.out.2.2.1.oLt k hk)) hb4.size) (HX.out.2.2.2.2.trans ((Chg.of_below hb4).mono fun _ _ e => e.elim : Chg (fun k => own k ≠ none) w3 w4) fun _ _ e => e))
  clear hb4 HZ3 Hi hHeld
  go_wp2_with fail
  refine hK.out _ _ HSn.out (fun hHeld => ?_)
  clear hK HSn
  try simp only [Act.put, uA, uB, uC]
  refine ord_one 10 rfl (by kernel_rfl) (by rfl) (fun K hK => ?_)
  have hpr : r.V.length < maxLen ∧ (itsOf r.V o.atW).is = true := by
    cases hgn : kget (nm o.atK) E.vs with
    | none =>
      rw [HX.out.2.1 hgn]
      exact ⟨by decide, rfl⟩
    | some r' =>
      have e : AtE E (nm o.atK) r = E := if_neg (by rw [hgn]; simp)
      have h0 := HX.out.1
      rw [e] at h0
      exact Hp.out r h0
  have Hput := Lib.hid (put_calls (HX4.out.1.each _ (k_get_mem HX.out.1)) o.atW Hw.out (It.one o.item o.count) hpr.1 hpr.2)
  clear hpr
  go_wp2_with fail
  refine Hput.out.mono ?_
  rintro e w5 ⟨rfl, hvt⟩
  have hoP := HX4.out.1.oP _ (k_get_mem HX.out.1)
  have hne0 : w.heap.size ≠ r.pm := fun e => by
    have h1 := hoP.2.1
    rw [← e, HO.out.1] at h1
    cases h1
  have hne1 : w.heap.size + 1 ≠ r.pm := fun e => by
    have h1 := hoP.2.1
    rw [← e, HO.out.2] at h1
    cases h1
  have HSn := Lib.hid ((hvt.2.block _ (lt_of_block hHeld) hne0).trans hHeld)
  have HZ5 := Lib.hid ((hvt.2.block _ (lt_of_block HZ4.out) hne1).trans HZ4.out)
  have HX5 := Lib.hid (And.intro (HX4.out.1.vault HX.out.1 hvt) (HX4.out.2.trans hvt.2 fun i hi e => by
    rw [← HX.out.2.2.2.1 i hi, e, hoP.2.1]
    simp))
  clear hvt hoP hne0 hne1 Hput hHeld HZ4
  go_wp2_with fail
  refine hK.out _ _ HSn.out (fun hHeld => ?_)
  clear hK HSn
  try simp only [Act.put, uA, uB, uC]
  refine Pl [11] ?_
  iterate 1 (refine Pc rfl ?_; simp only [Act.put, uA, uB, uC])
  refine Pn ?_
  refine ord_one 12 rfl (by kernel_rfl) (by rfl) (fun K hK => ?_)
  have z0 := cell_of HZ5.out (i := 0) rfl
  have z1 := cell_of HZ5.out (i := 1) rfl
  have z2 := cell_of HZ5.out (i := 2) rfl
  have z3 := cell_of HZ5.out (i := 3) rfl
  have z4 := cell_of HZ5.out (i := 4) rfl
  have z5 := cell_of HZ5.out (i := 5) rfl
  have f0 := frozen_of HZ5.out 0
  have f1 := frozen_of HZ5.out 1
  have f2 := frozen_of HZ5.out 2
  have f3 := frozen_of HZ5.out 3
  have f4 := frozen_of HZ5.out 4
  have f5 := frozen_of HZ5.out 5
  have Hh := Lib.hid hHeld
  clear hHeld
  go_wp2_with fail
  have hc6 := chg6 w5 (w.heap.size + 1) (.int .i64 ((putM r.V o.atW (It.one o.item o.count)).2 : Int)) (.int .i64 0) (.int .i64 0) (.int .i64 0) (.int .i64 0) (.int .i64 0)
  have hp6 := put6 HZ5.out (.int .i64 ((putM r.V o.atW (It.one o.item o.count)).2 : Int)) (.int .i64 0) (.int .i64 0) (.int .i64 0) (.int .i64 0) (.int .i64 0)
  have HF := Lib.hid (And.intro hc6 hp6)
  refine hK.out _ _ ((hc6.block _ (lt_of_block Hh.out) (by omega)).trans Hh.out) (fun hHeld => ?_)
  clear hK Hh hHeld hc6 hp6
  try simp only [Act.put, uA, uB, uC]
  refine wpAnyH_done (by kernel_rfl) ?_ _
  go_wp2_with fail
  refine bodyPost_ret (results_cell_row rfl _ _ (w.heap.size + 1) _ _ (0, 0) _ rfl HF.out.2 Tryz.underlying48 rfl (by kernel_rfl)) rfl ?_
  refine ⟨r, own', rfl, HX.out.1, HX.out.2.1, HX5.out.1.keep (fun k hk => HF.out.1.block k (HX5.out.1.oLt k hk) fun e => ?_) HF.out.1.size, HX.out.2.2.2.1, HX5.out.2.trans HF.out.1 fun i hi e => by omega⟩
  rw [e] at hk
  exact hk HO.out.2
end Go.Proofs.YtogdfkilhpkloaaGreatDoor

namespace Go.Proofs.YtogdfkilhpkloaaGreatDoor
open Go.RowKit Go.Sat Go.Maps

theorem names_1 (o : OpM) (h : o.kind = 1 ∨ o.kind = 6) : o.names = o.cntM := by
  unfold OpM.names
  rw [if_pos h, Bool.eq_iff_iff]
  simp [OpM.cntM, OpM.noTo, OpM.same, OpM.rst, OpM.zero, and_assoc]
theorem names_2 (o : OpM) (h : o.kind = 2) : o.names = o.sendM := by
  unfold OpM.names
  rw [if_neg (by omega), if_pos h, Bool.eq_iff_iff]
  simp [OpM.sendM, OpM.cntM, OpM.cnt, OpM.noT, OpM.same, OpM.rst, OpM.zero, and_assoc]
  intros
  exact ⟨fun ⟨a, b, c, d, r⟩ => ⟨decide_eq_true a, decide_eq_true b, decide_eq_true c, decide_eq_true d, r⟩, fun ⟨a, b, c, d, r⟩ => ⟨of_decide_eq_true a, of_decide_eq_true b, of_decide_eq_true c, of_decide_eq_true d, r⟩⟩
theorem names_3 (o : OpM) (h : o.kind = 3) : o.names = o.ordM := by
  unfold OpM.names
  rw [if_neg (by omega), if_neg (by omega), if_pos h, Bool.eq_iff_iff]
  simp [OpM.ordM, OpM.cntM, OpM.cnt, OpM.noP, OpM.noTo, OpM.same, OpM.rst, OpM.zero, and_assoc]
  intros
  exact ⟨fun ⟨a, b, c, d, r⟩ => ⟨decide_eq_true a, decide_eq_true b, decide_eq_true c, decide_eq_true d, r⟩, fun ⟨a, b, c, d, r⟩ => ⟨of_decide_eq_true a, of_decide_eq_true b, of_decide_eq_true c, of_decide_eq_true d, r⟩⟩
theorem names_4 (o : OpM) (h : o.kind = 4) : o.names = o.idM := by
  unfold OpM.names
  rw [if_neg (by omega), if_neg (by omega), if_neg (by omega), if_pos h, Bool.eq_iff_iff]
  simp [OpM.idM, OpM.noTo, OpM.same, OpM.rst, OpM.zero, and_assoc]
theorem names_5 (o : OpM) (h : o.kind = 5 ∨ o.kind = 7) : o.names = o.bareM := by
  unfold OpM.names
  rw [if_neg (by omega), if_neg (by omega), if_neg (by omega), if_neg (by omega), if_pos h, Bool.eq_iff_iff]
  simp [OpM.bareM, OpM.bare, OpM.noTo, OpM.same, OpM.rst, OpM.zero, and_assoc]
theorem names_no (o : OpM) (h : o.kind < 1 ∨ 8 ≤ o.kind) : o.names = false := by
  unfold OpM.names
  rw [if_neg (by omega), if_neg (by omega), if_neg (by omega), if_neg (by omega), if_neg (by omega)]
theorem may_no (o : OpM) (h : o.kind < 1 ∨ 8 ≤ o.kind) : o.may = false := by
  unfold OpM.may
  rw [names_no o h, Bool.and_false]
/-- The kinds' tests, as May lays them. -/
def KindsO : Obj := (.cells #[.nilFunc, .func (.func 109) #[] #[], .func (.func 110) #[] #[], .func (.func 111) #[] #[], .func (.func 112) #[] #[], .func (.func 113) #[] #[], .func (.func 109) #[] #[], .func (.func 113) #[] #[]] 188 (0, 0))
theorem fn_eqd (w : World) (d : Nat) : (Op.equalIn (d + 1) 186 .nilFunc .nilFunc).run Tryz.prog w = .ok true w ∧ ∀ f : Fn, (Op.equalIn (d + 1) 186 (.func f #[] #[]) .nilFunc).run Tryz.prog w = .ok false w := by
  constructor
  · rw [Op.equalIn]
    simp only [go_sem, Tryz.underlying186]
    simp
  · intro f
    rw [Op.equalIn]
    simp only [go_sem, Tryz.underlying186]
    simp
theorem fn_eq0 (w : World) : (binOp .eql 186 .nilFunc .nilFunc).run Tryz.prog w = .ok (.bool true) w := by
  show (Op.equal 186 .nilFunc .nilFunc >>= fun b => pure (.bool b) : Sem Value).run Tryz.prog w = _
  rw [Sem.run_bind, show Op.equal 186 .nilFunc .nilFunc = Op.equalIn (9999 + 1) 186 .nilFunc .nilFunc from rfl, (fn_eqd w 9999).1]
  rfl
theorem fn_eqn (w : World) (f : Fn) : (binOp .eql 186 (.func f #[] #[]) .nilFunc).run Tryz.prog w = .ok (.bool false) w := by
  show (Op.equal 186 (.func f #[] #[]) .nilFunc >>= fun b => pure (.bool b) : Sem Value).run Tryz.prog w = _
  rw [Sem.run_bind, show Op.equal 186 (.func f #[] #[]) .nilFunc = Op.equalIn (9999 + 1) 186 (.func f #[] #[]) .nilFunc from rfl, (fn_eqd w 9999).2]
  rfl
set_option maxRecDepth 100000 in
set_option maxHeartbeats 4000000 in
theorem opmayno_calls (w : World) (o : OpM) (hk : o.kind < 1 ∨ 8 ≤ o.kind) :
    Calls Tryz.prog 51 #[o.v] w (RetB o.may w) := by
  have Hb := Lib.hid (fun x y : Obj => (box_below w x).trans ((box_below (w.alloc x) y).mono (box_below w x).size))
  have Hno := Lib.hid (may_no o hk)
  have e0 : o.v = .agg #[.int .i64 o.kind, .int .i64 o.client, .int .i64 o.seq, .string o.atK, .string o.atW, .string o.toK, .string o.toW, .int .i64 o.item, .int .i64 o.count, .int .i64 o.price, .bool o.buy, .int .i64 o.id] := rfl
  rw [e0]
  rcases (by omega : o.kind < 0 ∨ 8 ≤ o.kind ∨ o.kind = 0) with hk | hk | hk
  · go_enter Tryz.func51, Tryz.ntmps51
    go_wp2_with fail
    go_ret
    exact ⟨by rw [Hno.out]; rfl, Hb.out _ _⟩
  · go_enter Tryz.func51, Tryz.ntmps51
    go_wp2_with fail
    go_ret
    exact ⟨by rw [Hno.out]; rfl, Hb.out _ _⟩
  · rw [hk]
    have hfe := fun W => fn_eq0 W
    go_enter Tryz.func51, Tryz.ntmps51
    go_wp2_with fail
    go_ret
    exact ⟨by rw [Hno.out]; rfl, Hb.out _ _⟩
end Go.Proofs.YtogdfkilhpkloaaGreatDoor
