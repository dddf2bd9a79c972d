/- econ.Decode of the bytes of an economy of nothing. econ.Decode of the bytes of an economy of nothing: the walk. Printed by mkdecz.py. zone: a head, isHead, prefix, fits at an economy of nothing. zone: a zone in memory; data. Printed by mkzd.py. What a law does with a ledger beside Append and Write: the fuse, a reading, rows that were handed in, rows of its own. A ledger's files on a disk of which other files may stand (plain laws). zone.Make at an economy of nothing. econ.Apply of a mint that is new. A zone while it does a request: what lies where. zone: dies, tidies, where nothing is amiss. -/
import Derived.Test.YtogdfkilhpkloaaGreatDoorBA
import Derived.Test.YtogdfkilhpkloaaGreatDoorBC
import Derived.Test.YtogdfkilhpkloaaGreatDoorBD
import Derived.Test.YtogdfkilhpkloaaGreatDoorBH
import Derived.Test.YtogdfkilhpkloaaGreatDoorBI
import Derived.Test.YtogdfkilhpkloaaGreatDoorBL
import Derived.Test.YtogdfkilhpkloaaGreatDoorShelfI
namespace Go.Proofs.YtogdfkilhpkloaaGreatDoor
open Go.RowKit Go.Sat Go.Maps

/-- An economy of nothing that is new since B. -/
def NewE (B : Nat) (w : World) (eb : Nat) : Prop := ∃ vm sm tm am own, EconIn w eb vm sm tm am E0 own ∧ ∀ k, own k ≠ none → B ≤ k
theorem NewE.bel {B : Nat} {w w' : World} {eb : Nat} (h : NewE B w eb) (hb : Below w.heap.size w w') : NewE B w' eb := let ⟨vm, sm, tm, am, own, h1, h2⟩ := h; ⟨vm, sm, tm, am, own, h1.bel hb, h2⟩
theorem NewE.less {B C : Nat} {w : World} {eb : Nat} (h : NewE B w eb) (hb : C ≤ B) : NewE C w eb := let ⟨vm, sm, tm, am, own, h1, h2⟩ := h; ⟨vm, sm, tm, am, own, h1, fun k hk => Nat.le_trans hb (h2 k hk)⟩
def EconN (w : World) : World := ((((w.alloc (.map #[] 0)).alloc (.map #[] 0)).alloc (.map #[] 0)).alloc (.map #[] 0)).alloc (.cells #[.map (some w.heap.size), .map (some (w.heap.size + 1)), .map (some (w.heap.size + 2)), .map (some (w.heap.size + 3))] 184)
theorem econN_new (w : World) : NewE w.heap.size (EconN w) (w.heap.size + 4) ∧ Below w.heap.size w (EconN w) := by
  obtain ⟨w1, h1⟩ : ∃ w1, w1 = w.alloc (.map #[] 0) := ⟨_, rfl⟩
  obtain ⟨w2, h2⟩ : ∃ w2, w2 = w1.alloc (.map #[] 0) := ⟨_, rfl⟩
  obtain ⟨w3, h3⟩ : ∃ w3, w3 = w2.alloc (.map #[] 0) := ⟨_, rfl⟩
  obtain ⟨w4, h4⟩ : ∃ w4, w4 = w3.alloc (.map #[] 0) := ⟨_, rfl⟩
  have e : EconN w = w4.alloc (.cells #[.map (some w.heap.size), .map (some (w.heap.size + 1)), .map (some (w.heap.size + 2)), .map (some (w.heap.size + 3))] 184) := by rw [h4, h3, h2, h1]; rfl
  have s1 : w1.heap.size = w.heap.size + 1 := by rw [h1]; simp
  have s2 : w2.heap.size = w.heap.size + 2 := by rw [h2]; simp [s1]
  have s3 : w3.heap.size = w.heap.size + 3 := by rw [h3]; simp [s2]
  have s4 : w4.heap.size = w.heap.size + 4 := by rw [h4]; simp [s3]
  obtain ⟨w5, h5⟩ : ∃ w5, w5 = EconN w := ⟨_, rfl⟩
  have s5 : w5.heap.size = w.heap.size + 5 := by rw [h5, e]; simp [s4]
  have b1 : Below w.heap.size w w1 := h1 ▸ box_below w _
  have b2 : Below w1.heap.size w1 w2 := h2 ▸ box_below w1 _
  have b3 : Below w2.heap.size w2 w3 := h3 ▸ box_below w2 _
  have b4 : Below w3.heap.size w3 w4 := h4 ▸ box_below w3 _
  have b5 : Below w4.heap.size w4 w5 := by rw [h5, e]; exact box_below w4 _
  have b35 := b4.trans (b5.mono b4.size)
  have b25 := b3.trans (b35.mono b3.size)
  have b15 := b2.trans (b25.mono b2.size)
  have b05 := b1.trans (b15.mono b1.size)
  have hc : w5.heap[w.heap.size + 4]? = some (EconO w.heap.size (w.heap.size + 1) (w.heap.size + 2) (w.heap.size + 3)) := by
    rw [h5, e, ← s4]
    exact new_block w4 _
  rw [← h5]
  have m1 : MapIs w1 Tryz.prog 9 (strK Tryz.underlying9) ptrE w.heap.size ([] : List (Bs × Nat)) := h1 ▸ mapIs_made w
  have m2 : MapIs w2 Tryz.prog 3 (intK Tryz.underlying3) sessE w1.heap.size ([] : List (Int × Sess)) := h2 ▸ mapIs_made w1
  have m3 : MapIs w3 Tryz.prog 191 whichK transE w2.heap.size ([] : List ((Int × Int) × TransM)) := h3 ▸ mapIs_made w2
  have m4 : MapIs w4 Tryz.prog 191 whichK boolE w3.heap.size ([] : List ((Int × Int) × Bool)) := h4 ▸ mapIs_made w3
  have m1 := m1.keep (b15.block _ (by omega))
  have m2 := m2.keep (b25.block _ (by omega))
  have m3 := m3.keep (b35.block _ (by omega))
  have m4 := m4.keep (b5.block _ (by omega))
  rw [s1] at m2
  rw [s2] at m3
  rw [s3] at m4
  refine ⟨⟨w.heap.size, w.heap.size + 1, w.heap.size + 2, w.heap.size + 3, fun k => if k = w.heap.size + 4 then some (0, []) else if k = w.heap.size then some (1, []) else if k = w.heap.size + 1 then some (2, []) else if k = w.heap.size + 2 then some (3, []) else if k = w.heap.size + 3 then some (4, []) else none, ⟨hc, m1, fun p hp => (by cases hp), m2, m3, m4, if_pos rfl, ?_, ?_, ?_, ?_, fun p hp => (by cases hp), fun k hk => ?_⟩, fun k hk => ?_⟩, b05⟩
  · rw [if_neg (by omega), if_pos rfl]
  · rw [if_neg (by omega), if_neg (by omega), if_pos rfl]
  · rw [if_neg (by omega), if_neg (by omega), if_neg (by omega), if_pos rfl]
  · rw [if_neg (by omega), if_neg (by omega), if_neg (by omega), if_neg (by omega), if_pos rfl]
  · refine Classical.byContradiction fun hh => hk ?_
    rw [if_neg (by omega), if_neg (by omega), if_neg (by omega), if_neg (by omega), if_neg (by omega)]
  · refine Classical.byContradiction fun hh => hk ?_
    show (if _ then _ else _) = _
    rw [if_neg (by omega), if_neg (by omega), if_neg (by omega), if_neg (by omega), if_neg (by omega)]
def EReadO (r eb : Nat) : Obj := .cells #[.pointer (some ⟨r, 0, none⟩), .pointer (some ⟨eb, 0, none⟩), .bool true] 147 (0, 0)
set_option maxRecDepth 100000 in
set_option maxHeartbeats 4000000 in
theorem times0_calls {w : World} {xb r eb : Nat} {R : Rd} (hx : w.heap[xb]? = some (EReadO r eb)) (hr : RdAt w r R) (h0 : R.num.1 = 0) (fv : Value) :
    Calls Tryz.prog 85 #[.pointer (some ⟨xb, 0, none⟩), fv] w fun e w' => e = .returned (.tuple #[]) ∧ RdAt w' r R.num.2 ∧ Chg (fun k => k = r) w w' := by
  have c0 : w.cell? ⟨xb, 0, none⟩ = some (.pointer (some ⟨r, 0, none⟩)) := cell_of hx rfl
  obtain ⟨p, n, c, h⟩ := hr
  have HN := Lib.hid (num_calls h)
  unfold NumDone at HN
  rw [show ((R.num.1 : Nat) : Int) = 0 by rw [h0]; rfl] at HN
  clear h hx
  go_enter Tryz.func85, Tryz.ntmps85
  go_wp2_with fail
  refine HN.out.mono ?_
  rintro e w2 ⟨rfl, hr2, hc⟩
  have HR := Lib.hid (And.intro hr2 hc)
  clear hr2 hc
  go_wp2_with fail
  refine wp_loop_rounds 1 ?_
  rw [rounds_succ]
  go_wp2_with fail
  go_end0
  exact ⟨rfl, HR.out⟩
end Go.Proofs.YtogdfkilhpkloaaGreatDoor

namespace Go.Proofs.YtogdfkilhpkloaaGreatDoor
open Go.RowKit Go.Sat Go.Maps

def DecE (w : World) (e : Ending) (w' : World) : Prop := ∃ eb, e = .returned (.tuple #[.pointer (some ⟨eb, 0, none⟩), .int .i64 0]) ∧ NewE w.heap.size w' eb ∧ Below w.heap.size w w'
theorem num0 (l : Bs) (b : Bool) : Rd.num ⟨0 :: l, b⟩ = (0, ⟨l, b⟩) := by
  have h := Rd.num_of (n := 0) (by decide) l b
  rw [numB_small (by decide)] at h
  exact h
theorem NewE.chg {B : Nat} {w w' : World} {eb : Nat} {S : Nat → Prop} (h : NewE B w eb) (hc : Chg S w w') (hS : ∀ k, B ≤ k → ¬ S k) : NewE B w' eb := by
  obtain ⟨vm, sm, tm, am, own, hE, ho⟩ := h
  exact ⟨vm, sm, tm, am, own, hE.keep (fun k hk => hc.block k (hE.oLt k hk) (hS k (ho k hk))) hc.size, ho⟩
/-- The reader's two blocks, and the Reader. -/
structure Dec4 (w : World) (B xb g r eb : Nat) (fo : Obj) (l : Bs) (W : World) : Prop where
  x : W.heap[xb]? = some (EReadO r eb)
  fn : W.heap[g]? = some fo
  rd : RdAt W r ⟨l, false⟩
  eco : NewE B W eb
  bel : Below w.heap.size w W
  le1 : w.heap.size ≤ r
  le2 : r < B
  le3 : B ≤ xb
  le4 : B ≤ g
theorem Dec4.next {w : World} {B xb g r eb : Nat} {fo : Obj} {l l' : Bs} {W W' : World} (h : Dec4 w B xb g r eb fo l W) (hr : RdAt W' r ⟨l', false⟩) (hc : Chg (fun k => k = r) W W') : Dec4 w B xb g r eb fo l' W' := by
  have h1 := h.le1
  have h2 := h.le2
  have h3 := h.le3
  have h4 := h.le4
  exact ⟨(hc.block xb (lt_of_block h.x) (by omega)).trans h.x, (hc.block g (lt_of_block h.fn) (by omega)).trans h.fn, hr, h.eco.chg hc (fun k hk e => by omega), h.bel.trans (hc.below h.bel.size fun k _ e => by omega), h1, h2, h3, h4⟩
set_option maxRecDepth 100000 in
set_option maxHeartbeats 8000000 in
theorem decode0_calls {w : World} {x : Value} (hx : HasB w x [0, 0, 0, 0]) : Calls Tryz.prog 41 #[x] w (DecE w) := by
  have Hr := Lib.hid (newrd_calls hx (by decide))
  obtain ⟨p, c, rfl⟩ := hx.slice
  have Hx := Lib.hid hx
  clear hx
  rw [show ([0, 0, 0, 0] : Bs).length = 4 from rfl] at Hr Hx ⊢
  have Hn := Lib.hid (fun W => econew_calls W)
  go_enter Tryz.func41, Tryz.ntmps41
  go_wp2_with fail
  refine Hr.out.mono ?_
  rintro e w1 ⟨r, rfl, hr, hrn, hb1⟩
  have HR1 := Lib.hid (And.intro hr (And.intro hrn hb1))
  clear hr hrn hb1 Hr
  go_wp2_with fail
  refine (Hn.out _).mono ?_
  rintro e w2 ⟨rfl, hw2⟩
  have hE := econN_new w1
  rw [show EconN w1 = w2 from hw2.symm] at hE
  have HE2 := Lib.hid hE
  clear hw2 hE Hn
  obtain ⟨eb, heb⟩ : ∃ eb, eb = w1.heap.size + 4 := ⟨_, rfl⟩
  rw [← heb] at HE2 ⊢
  clear heb
  go_wp2_with fail
  obtain ⟨V0, hV0⟩ : ∃ V0, V0 = (w2.alloc (.cells #[.pointer (some ⟨r, 0, none⟩), .pointer (some ⟨eb, 0, none⟩), .bool true] 147)).alloc (.cells #[.func (.func 81) #[.pointer (some ⟨w2.heap.size, 0, none⟩)] #[], .func (.func 82) #[.pointer (some ⟨w2.heap.size, 0, none⟩)] #[], .func (.func 83) #[.pointer (some ⟨w2.heap.size, 0, none⟩)] #[], .func (.func 84) #[.pointer (some ⟨w2.heap.size, 0, none⟩)] #[]] 1) := ⟨_, rfl⟩
  have hb2 := (box_below w2 (.cells #[.pointer (some ⟨r, 0, none⟩), .pointer (some ⟨eb, 0, none⟩), .bool true] 147)).trans ((box_below (w2.alloc (.cells #[.pointer (some ⟨r, 0, none⟩), .pointer (some ⟨eb, 0, none⟩), .bool true] 147)) (.cells #[.func (.func 81) #[.pointer (some ⟨w2.heap.size, 0, none⟩)] #[], .func (.func 82) #[.pointer (some ⟨w2.heap.size, 0, none⟩)] #[], .func (.func 83) #[.pointer (some ⟨w2.heap.size, 0, none⟩)] #[], .func (.func 84) #[.pointer (some ⟨w2.heap.size, 0, none⟩)] #[]] 1)).mono (box_below w2 _).size)
  have HV0 := Lib.hid (show Dec4 w w1.heap.size w2.heap.size (w2.heap.size + 1) r eb (.cells #[.func (.func 81) #[.pointer (some ⟨w2.heap.size, 0, none⟩)] #[], .func (.func 82) #[.pointer (some ⟨w2.heap.size, 0, none⟩)] #[], .func (.func 83) #[.pointer (some ⟨w2.heap.size, 0, none⟩)] #[], .func (.func 84) #[.pointer (some ⟨w2.heap.size, 0, none⟩)] #[]] 1 (0, 0)) [0, 0, 0, 0] V0 from by
    rw [hV0]
    have hs := HE2.out.2.size
    have hs1 := HR1.out.2.2.size
    have hb12 := HE2.out.2.trans (hb2.mono hs)
    have hrl : r < w1.heap.size := by
      obtain ⟨p', n', c', hri⟩ := HR1.out.1
      exact hri.rlt
    exact ⟨old_block _ (new_block w2 _), new_block2 w2 _ _, by
      obtain ⟨p', n', c', hri⟩ := HR1.out.1
      exact ⟨p', n', c', (hb12.block r hrl).trans hri.cells, HasB.below hri.has hb12, hri.cap, hri.ne, hri.len⟩, HE2.out.1.bel hb2, HR1.out.2.2.trans (hb12.mono hs1), HR1.out.2.1, hrl, hs, by omega⟩)
  rw [← hV0]
  clear hV0 hb2 HR1 HE2
  refine wp_loop_rounds 5 ?_
  rw [rounds_succ]
  have g0 : V0.cell? ⟨w2.heap.size + 1, 0, none⟩ = some (.func (.func 81) #[.pointer (some ⟨w2.heap.size, 0, none⟩)] #[]) := cell_of HV0.out.fn rfl
  have HT := Lib.hid (fun fv => times0_calls HV0.out.x HV0.out.rd (by rw [num0]) fv)
  go_wp2_with fail
  refine (HT.out _).mono ?_
  rintro e V1 ⟨rfl, hr, hc⟩
  rw [num0] at hr
  have HV1 := Lib.hid (HV0.out.next hr hc)
  clear hr hc g0 HT HV0
  go_wp2_with fail
  rw [rounds_succ]
  have g0 : V1.cell? ⟨w2.heap.size + 1, 1, none⟩ = some (.func (.func 82) #[.pointer (some ⟨w2.heap.size, 0, none⟩)] #[]) := cell_of HV1.out.fn rfl
  have HT := Lib.hid (fun fv => times0_calls HV1.out.x HV1.out.rd (by rw [num0]) fv)
  go_wp2_with fail
  refine (HT.out _).mono ?_
  rintro e V2 ⟨rfl, hr, hc⟩
  rw [num0] at hr
  have HV2 := Lib.hid (HV1.out.next hr hc)
  clear hr hc g0 HT HV1
  go_wp2_with fail
  rw [rounds_succ]
  have g0 : V2.cell? ⟨w2.heap.size + 1, 2, none⟩ = some (.func (.func 83) #[.pointer (some ⟨w2.heap.size, 0, none⟩)] #[]) := cell_of HV2.out.fn rfl
  have HT := Lib.hid (fun fv => times0_calls HV2.out.x HV2.out.rd (by rw [num0]) fv)
  go_wp2_with fail
  refine (HT.out _).mono ?_
  rintro e V3 ⟨rfl, hr, hc⟩
  rw [num0] at hr
  have HV3 := Lib.hid (HV2.out.next hr hc)
  clear hr hc g0 HT HV2
  go_wp2_with fail
  rw [rounds_succ]
  have g0 : V3.cell? ⟨w2.heap.size + 1, 3, none⟩ = some (.func (.func 84) #[.pointer (some ⟨w2.heap.size, 0, none⟩)] #[]) := cell_of HV3.out.fn rfl
  have HT := Lib.hid (fun fv => times0_calls HV3.out.x HV3.out.rd (by rw [num0]) fv)
  go_wp2_with fail
  refine (HT.out _).mono ?_
  rintro e V4 ⟨rfl, hr, hc⟩
  rw [num0] at hr
  have HV4 := Lib.hid (HV3.out.next hr hc)
  clear hr hc g0 HT HV3
  go_wp2_with fail
  rw [rounds_succ]
  have x0 : V4.cell? ⟨w2.heap.size, 0, none⟩ = some (.pointer (some ⟨r, 0, none⟩)) := cell_of HV4.out.x rfl
  have x1 : V4.cell? ⟨w2.heap.size, 1, none⟩ = some (.pointer (some ⟨eb, 0, none⟩)) := cell_of HV4.out.x rfl
  have x2 : V4.cell? ⟨w2.heap.size, 2, none⟩ = some (.bool true) := cell_of HV4.out.x rfl
  have HWh := Lib.hid (whole_calls HV4.out.rd.hd)
  go_wp2_with fail
  refine HWh.out.mono ?_
  rintro e V5 ⟨he, rfl⟩
  rw [show (Rd.whole ⟨[], false⟩) = true from rfl] at he
  subst he
  have HEn := Lib.hid (show ∃ vm sm tm am own, EconIn V5 eb vm sm tm am E0 own ∧ ∀ k, own k ≠ none → w1.heap.size ≤ k from HV4.out.eco)
  obtain ⟨vm, sm, tm, am, own, hE, ho⟩ := HEn.out
  have HE := Lib.hid (encode0_calls hE)
  clear hE HWh HEn
  go_wp2_with fail
  refine HE.out.mono ?_
  rintro e V6 ⟨v, rfl, hv, hn, hb⟩
  have HQ := Lib.hid (equal_calls (OwnB.has hv) (HasB.below Hx.out (HV4.out.bel.trans (hb.mono HV4.out.bel.size))))
  have HV := Lib.hid hb
  have x1' : V6.cell? ⟨w2.heap.size, 1, none⟩ = some (.pointer (some ⟨eb, 0, none⟩)) := cell_of ((hb.block _ (lt_of_block HV4.out.x)).trans HV4.out.x) rfl
  clear hv hn hb HE
  go_wp2_with fail
  refine HQ.out.mono ?_
  rintro e V7 ⟨he, rfl⟩
  rw [show (([0, 0, 0, 0] : Bs) == [0, 0, 0, 0]) = true from rfl] at he
  subst he
  go_wp2_with fail
  go_ret2
  exact ⟨eb, rfl, (HV4.out.eco.bel HV.out).less (by have := HV4.out.le1; have := HV4.out.le2; omega), HV4.out.bel.trans (HV.out.mono HV4.out.bel.size)⟩
end Go.Proofs.YtogdfkilhpkloaaGreatDoor

namespace Go.Proofs.YtogdfkilhpkloaaGreatDoor
open Go.RowKit Go.Sat Go.Maps

structure HeadM where
  id : Int
  fr : ByteArray
  tu : ByteArray
  epoch : Int
  state : Int
def HeadM.v (h : HeadM) : Value := .agg #[.int .i64 h.id, .string h.fr, .string h.tu, .int .i64 h.epoch, .int .i64 h.state]
def HeadM.is (h : HeadM) : Bool := decide (1 ≤ h.id) && decide (h.id ≤ 1048576) && isSpan h.fr h.tu && decide (1 ≤ h.epoch) && decide (h.epoch ≤ 1099511627776) && decide (1 ≤ h.state) && decide (h.state ≤ 3)
def HeadM.wf (h : HeadM) : Prop := h.fr.size ≤ 9223372036854775807 ∧ h.tu.size ≤ 9223372036854775807
set_option maxRecDepth 100000 in
set_option maxHeartbeats 4000000 in
theorem ishead_calls (w : World) (h : HeadM) (hw : h.wf) : Calls Tryz.prog 40 #[.agg #[.int .i64 h.id, .string h.fr, .string h.tu, .int .i64 h.epoch, .int .i64 h.state]] w (RetB h.is w) := by
  obtain ⟨id, fr, tu, ep, st⟩ := h
  have HS := Lib.hid (fun W => spanis_calls W fr tu hw.1 hw.2)
  have HB := Lib.hid (box_below w (.cells #[.int .i64 id, .string fr, .string tu, .int .i64 ep, .int .i64 st] 35))
  have Hr : HeadM.is ⟨id, fr, tu, ep, st⟩ = (decide (1 ≤ id) && decide (id ≤ 1048576) && isSpan fr tu && decide (1 ≤ ep) && decide (ep ≤ 1099511627776) && decide (1 ≤ st) && decide (st ≤ 3)) := rfl
  rw [Hr]
  clear Hr hw
  dsimp only
  by_cases h1 : 1 ≤ id ∧ id ≤ 1048576
  · obtain ⟨h1, h2⟩ := h1
    go_enter Tryz.func40, Tryz.ntmps40
    go_wp2_with fail
    refine (HS.out _).mono ?_
    rintro e w2 ⟨rfl, hw2⟩
    have HB2 := Lib.hid (show Below w.heap.size w w2 from hw2 ▸ HB.out.trans ((box_below _ _).mono HB.out.size))
    have c2 : w2.cell? ⟨w.heap.size, 3, none⟩ = some (.int .i64 ep) := by rw [hw2]; exact cell_of (old_block _ (new_block w _)) rfl
    have c3 : w2.cell? ⟨w.heap.size, 4, none⟩ = some (.int .i64 st) := by rw [hw2]; exact cell_of (old_block _ (new_block w _)) rfl
    clear hw2
    cases hs : isSpan fr tu
    all_goals
      go_wp2_with fail
      all_goals
        go_ret
        refine ⟨?_, HB2.out⟩
        refine congrArg (fun b => Ending.returned (.bool b)) (?_ : _ = _)
        rw [Bool.eq_iff_iff]
        simp_all
        try omega
  · go_enter Tryz.func40, Tryz.ntmps40
    go_wp2_with fail
    all_goals
      go_ret
      refine ⟨?_, HB.out⟩
      congr 2
      simp_all
      try omega
/-- The prefix of a zone's files, of a small number. -/
theorem digits_len {n : Nat} (hn : n < 100) : (Lib.decDigits n).length ≤ 2 := by
  by_cases h : n < 10
  · rw [Lib.decDigits_one h]
    simp
  · rw [Lib.decDigits_two h hn]
    simp
theorem pre_cat (l : Bs) : (⟨#[122]⟩ : ByteArray) ++ ⟨l.toArray⟩ = ⟨(122 :: l).toArray⟩ := by
  apply ByteArray.ext
  simp
def zpre (n : Nat) : ByteArray := ⟨(122 :: Lib.decDigits n).toArray⟩
set_option maxHeartbeats 1000000 in
theorem prefix_calls2 (w : World) (n : Nat) (hn : n < 100) : Calls Tryz.prog 44 #[.int .i64 (n : Int)] w fun e w' => e = .returned (.string (zpre n)) ∧ w' = w := by
  have HI := Lib.hid (fun W => Tryz.strconv_Itoa_small n hn W)
  have HP := Lib.hid (pre_cat (Lib.decDigits n))
  have hl := digits_len hn
  go_enter Tryz.func44, Tryz.ntmps44
  go_wp2_with fail
  refine (HI.out _).mono ?_
  rintro e w2 ⟨rfl, rfl⟩
  go_wp2_with fail
  go_ret
  exact ⟨by rw [show zpre n = _ from HP.out.symm]; rfl, rfl⟩
set_option maxHeartbeats 1000000 in
theorem indexS_none (w : World) (fv : Value) : Calls Tryz.prog 157 #[.slice none 0 0, fv] w fun e w' => e = .returned (.int .i64 (-1)) ∧ w' = w := by
  go_enter Tryz.func157, Tryz.ntmps157
  go_wp2_with fail
  refine wp_loop_rounds 1 ?_
  rw [rounds_succ]
  go_wp2_with fail
  go_ret
  exact ⟨rfl, rfl⟩
set_option maxHeartbeats 1000000 in
theorem containsS_none (w : World) (fv : Value) : Calls Tryz.prog 88 #[.slice none 0 0, fv] w fun e w' => e = .returned (.bool false) ∧ w' = w := by
  have HI := Lib.hid (fun W => indexS_none W fv)
  go_enter Tryz.func88, Tryz.ntmps88
  go_wp2_with fail
  refine (HI.out _).mono ?_
  rintro e w2 ⟨rfl, rfl⟩
  go_wp2_with fail
  go_ret
  exact ⟨rfl, rfl⟩
set_option maxRecDepth 100000 in
set_option maxHeartbeats 2000000 in
theorem fits0_calls {w : World} {eb vm sm tm am : Nat} {own : Nat → Option (Nat × Bs)} (h : EconIn w eb vm sm tm am E0 own) (a b : ByteArray) : Calls Tryz.prog 42 #[.pointer (some ⟨eb, 0, none⟩), .agg #[.string a, .string b]] w (RetB true w) := by
  have HB := Lib.hid (box_below w (.cells #[.string a, .string b] 27))
  have HK := Lib.hid (keys0_calls (h.bel HB.out))
  have HC := Lib.hid (fun W fv => containsS_none W fv)
  clear h
  go_enter Tryz.func42, Tryz.ntmps42
  go_wp2_with fail
  refine HK.out.mono ?_
  rintro e w2 ⟨rfl, hb⟩
  have HB2 := Lib.hid (HB.out.trans (hb.mono HB.out.size))
  clear hb
  go_wp2_with fail
  refine (HC.out _ _).mono ?_
  rintro e w3 ⟨rfl, rfl⟩
  go_wp2_with fail
  go_ret
  exact ⟨rfl, HB2.out⟩
end Go.Proofs.YtogdfkilhpkloaaGreatDoor

namespace Go.Proofs.YtogdfkilhpkloaaGreatDoor
open Go.RowKit Go.Sat Go.Maps

def ZoneO (h : HeadM) (eb l : Nat) (ev : Value) (dead : Bool) : Obj := .cells #[.int .i64 h.id, .string h.fr, .string h.tu, .int .i64 h.epoch, .int .i64 h.state, .pointer (some ⟨eb, 0, none⟩), .pointer (some ⟨l, 0, none⟩), ev, .bool dead] 101 (0, 0)
/-- What the ledger's image has. -/
def zdata (h : HeadM) (img : Bs) : Bs := numsI [h.id] ++ (rowB h.fr.data.toList ++ rowB h.tu.data.toList) ++ numsI [h.epoch, h.state] ++ rowB img
/-- A head whose numbers are whole, and whose names are short. -/
def HeadM.small (h : HeadM) : Prop := (-9223372036854775808 ≤ h.id ∧ h.id ≤ 9223372036854775807) ∧ (-9223372036854775808 ≤ h.epoch ∧ h.epoch ≤ 9223372036854775807) ∧ (-9223372036854775808 ≤ h.state ∧ h.state ≤ 9223372036854775807) ∧ h.fr.size ≤ 1099511627776 ∧ h.tu.size ≤ 1099511627776
theorem rowB_le {x : Bs} (hx : x.length ≤ 1099511627776) : (rowB x).length ≤ 9 + x.length := by
  have := numB_nine (n := x.length) (by omega)
  simp [rowB]
  omega
theorem str_len (s : ByteArray) : s.data.toList.length = s.size := by simp
theorem has_own {w W : World} {v : Value} {l : Bs} (h : OwnB w 5 v l) (hs : ∀ k, v.ownBlock = some k → W.heap[k]? = w.heap[k]?) : HasB W v l := OwnB.has (OwnR.keep h hs)
set_option maxRecDepth 100000 in
set_option maxHeartbeats 16000000 in
theorem zdata_calls {w : World} {z eb l vm sm tm am : Nat} {own : Nat → Option (Nat × Bs)} {h : HeadM} {ev : Value} {dead : Bool} (hz : w.heap[z]? = some (ZoneO h eb l ev dead)) (hE : EconIn w eb vm sm tm am E0 own) (hs : h.small) :
    Calls Tryz.prog 46 #[.pointer (some ⟨z, 0, none⟩)] w (NewR w (zdata h [0, 0, 0, 0])) := by
  obtain ⟨id, fr, tu, ep, st⟩ := h
  have hs : (-9223372036854775808 ≤ id ∧ id ≤ 9223372036854775807) ∧ (-9223372036854775808 ≤ ep ∧ ep ≤ 9223372036854775807) ∧ (-9223372036854775808 ≤ st ∧ st ≤ 9223372036854775807) ∧ fr.size ≤ 1099511627776 ∧ tu.size ≤ 1099511627776 := hs
  obtain ⟨ZO, hZO⟩ : ∃ ZO, ZO = ZoneO ⟨id, fr, tu, ep, st⟩ eb l ev dead := ⟨_, rfl⟩
  have Hs := Lib.hid hs
  have HE := Lib.hid hE
  have HZ := Lib.hid hz
  have hB0 := box_below w (.cells #[.slice none 0 0] 160)
  have c0 : (w.alloc (.cells #[.slice none 0 0] 160)).cell? ⟨z, 0, none⟩ = some (.int .i64 id) := cell_of ((hB0.block z (lt_of_block hz)).trans hz) rfl
  obtain ⟨W0, hW0⟩ : ∃ W0, W0 = w.alloc (.cells #[.slice none 0 0] 160) := ⟨_, rfl⟩
  have HW0 := Lib.hid (show WrB w.heap.size W0 w.heap.size [] from hW0 ▸ wrB_new w)
  have HB0 := Lib.hid (show Below w.heap.size w W0 from hW0 ▸ hB0)
  have Hs0 := Lib.hid (show w.heap.size + 1 = W0.heap.size by rw [hW0]; simp)
  have HEq := Lib.hid hW0
  have Hl := Lib.hid (And.intro (rowB_le (x := fr.data.toList) (by rw [str_len]; exact hs.2.2.2.1)) (rowB_le (x := tu.data.toList) (by rw [str_len]; exact hs.2.2.2.2)))
  clear hW0 hB0 hE hz hs hZO
  go_enter Tryz.func46, Tryz.ntmps46
  go_wp2_with fail
  rw [← HEq.out]
  clear HEq c0
  refine (wrB_nums HW0.out [id] #[.int .i64 id] rfl (by have := Hs.out; simp; omega) (by simp) (w.heap.size + 1) 1 1 Hs0.out rfl (0, 0)).mono ?_
  rintro e W1 ⟨rfl, hw, hb⟩
  have HW1 := Lib.hid (show WrB w.heap.size W1 w.heap.size (numsI [id]) from hw)
  have HB1 := Lib.hid (HB0.out.trans hb)
  clear hw hb HW0 HB0 Hs0
  have hl1 := Lib.hid (numsI_len [id])
  go_wp2_with fail
  have hS1 := (HB1.out.block z (lt_of_block HZ.out)).trans HZ.out
  refine ord_start (fun w' : World => w'.heap[z]? = some (ZoneO ⟨id, fr, tu, ep, st⟩ eb l ev dead)) (n := 16) (by kernel_rfl) rfl hS1 (fun hHeld => ?_)
  have hbd := below_drew W1
  have HW2 := Lib.hid (HW1.out.keep hbd)
  have HB2 := Lib.hid (HB1.out.trans (hbd.mono HB1.out.size))
  clear hS1 hbd HW1 HB1
  generalize W1.drew = D at *
  refine Pl [0, 1, 2, 3, 4, 5, 7, 8, 9, 10, 11, 12] ?_
  iterate 12 (refine Pd rfl (by intro w' hSw; have p1 := cell_of hSw (i := 1) rfl; have p2 := cell_of hSw (i := 2) rfl; go_simp; try with_reducible rfl) ?_; simp only [Act.put, uA, uB, uC])
  refine Pn ?_
  refine ord_pair 6 13 rfl rfl (by kernel_rfl) (by rfl) (by rfl) (fun K hK => ?_) (fun K hK => ?_)
  · obtain ⟨c1, V1, hr1, hx1, hb1, hs1⟩ := conv_row D fr
    have hS1 := (hb1.block z (lt_of_block hHeld)).trans hHeld
    have HX1 := Lib.hid (And.intro hx1 (And.intro hb1 hs1))
    clear hx1 hb1 hs1
    go_wp2_with fail
    refine hK.out _ _ hS1 (fun hHeld => ?_)
    clear hK hr1 hS1
    try simp only [Act.put, uA, uB, uC]
    refine ord_one 13 rfl (by kernel_rfl) (by rfl) (fun K hK => ?_)
    obtain ⟨c2, V2, hr2, hx2, hb2, hs2⟩ := conv_row V1 tu
    have hS2 := (hb2.block z (lt_of_block hHeld)).trans hHeld
    have HX2 := Lib.hid (And.intro hx2 (And.intro hb2 hs2))
    clear hx2 hb2 hs2
    go_wp2_with fail
    refine hK.out _ _ hS2 (fun hHeld => ?_)
    clear hK hr2 hS2
    try simp only [Act.put, uA, uB, uC]
    refine ord_one 14 rfl (by kernel_rfl) (by rfl) (fun K hK => ?_)
    have hS3 := ((box_below V2 (.cells #[.slice (some ⟨D.heap.size, 0, none⟩) fr.size c1, .slice (some ⟨V1.heap.size, 0, none⟩) tu.size c2] 39)).block z (lt_of_block hHeld)).trans hHeld
    go_wp2_with fail
    refine hK.out _ _ hS3 (fun hHeld => ?_)
    clear hK hS3
    try simp only [Act.put, uA, uB, uC]
    refine ord_one 15 rfl (by kernel_rfl) (by rfl) (fun K hK => ?_)
    have hb02 := HX1.out.2.1.trans (HX2.out.2.1.mono HX1.out.2.1.size)
    have hrows : (rowsB [((.slice (some ⟨D.heap.size, 0, none⟩) fr.size c1 : Value), fr.data.toList), (.slice (some ⟨V1.heap.size, 0, none⟩) tu.size c2, tu.data.toList)]) = rowB fr.data.toList ++ rowB tu.data.toList := by simp [rowsB]
    have HR := wrB_rows2 HW2.out hb02 (rows := [(.slice (some ⟨D.heap.size, 0, none⟩) fr.size c1, fr.data.toList), (.slice (some ⟨V1.heap.size, 0, none⟩) tu.size c2, tu.data.toList)])
      #[.slice (some ⟨D.heap.size, 0, none⟩) fr.size c1, .slice (some ⟨V1.heap.size, 0, none⟩) tu.size c2] rfl
      (fun W hW p hp => by
        obtain ⟨hx1, hb1, hs1⟩ := HX1.out
        obtain ⟨hx2, hb2, hs2⟩ := HX2.out
        simp only [List.mem_cons, List.not_mem_nil, or_false] at hp
        rcases hp with rfl | rfl
        · exact hx1 W fun k e => by subst e; exact (hW _ (by omega) (by omega)).trans (hb2.block _ (by omega))
        · exact hx2 W fun k e => by subst e; exact hW _ (by omega) (by omega))
      (by rw [hrows]; have h1 := Hl.out; have h2 := hl1.out; have h3 := Hs.out; have := str_len fr; have := str_len tu; simp only [List.length_append, List.length_cons, List.length_nil] at *; omega) V2.heap.size 2 2 rfl rfl (by decide) (0, 0)
    rw [hrows] at HR
    have HR := Lib.hid HR
    clear hrows
    go_wp2_with fail
    refine HR.out.mono ?_
    rintro e W5 ⟨rfl, hw, hb⟩
    have hb25 := ((hb02.mono HB2.out.size).trans hb)
    have HW5 := Lib.hid hw
    have HB5 := Lib.hid (HB2.out.trans hb25)
    have hS5 := (HB5.out.block z (lt_of_block HZ.out)).trans HZ.out
    clear hw hb hb25 hb02 HR HX1 HX2 HW2 HB2 hHeld
    go_wp2_with fail
    refine hK.out _ _ hS5 (fun hHeld => ?_)
    clear hK hS5
    refine wpAnyH_done (by kernel_rfl) ?_ _
    go_wp2_with fail
    have hS5 := (HB5.out.block z (lt_of_block HZ.out)).trans HZ.out
    refine ord_start (fun w' : World => w'.heap[z]? = some (ZoneO ⟨id, fr, tu, ep, st⟩ eb l ev dead)) (n := 12) (by kernel_rfl) rfl hS5 (fun hHeld => ?_)
    have hbd := below_drew W5
    have HW6 := Lib.hid (HW5.out.keep hbd)
    have HB6 := Lib.hid (HB5.out.trans (hbd.mono HB5.out.size))
    clear hS5 hbd HW5 HB5
    generalize W5.drew = D6 at *
    refine Pl [0, 1, 2, 3, 4, 5, 6, 7, 8, 9] ?_
    iterate 10 (refine Pd rfl (by intro w' hSw; have p1 := cell_of hSw (i := 3) rfl; have p2 := cell_of hSw (i := 4) rfl; go_simp; try with_reducible rfl) ?_; simp only [Act.put, uA, uB, uC])
    refine Pn ?_
    refine ord_one 10 rfl (by kernel_rfl) (by rfl) (fun K hK => ?_)
    have hS3 := ((box_below D6 (.cells #[.int .i64 ep, .int .i64 st] 3)).block z (lt_of_block hHeld)).trans hHeld
    go_wp2_with fail
    refine hK.out _ _ hS3 (fun hHeld => ?_)
    clear hK hS3
    try simp only [Act.put, uA, uB, uC]
    refine ord_one 11 rfl (by kernel_rfl) (by rfl) (fun K hK => ?_)
    have HR := Lib.hid (wrB_nums HW6.out [ep, st] #[.int .i64 ep, .int .i64 st] rfl (by have := Hs.out; simp; omega) (by have h1 := Hl.out; have h2 := hl1.out; have h3 := Hs.out; have := str_len fr; have := str_len tu; simp only [List.length_append, List.length_cons, List.length_nil] at *; omega) D6.heap.size 2 2 rfl rfl (0, 0))
    go_wp2_with fail
    refine HR.out.mono ?_
    rintro e W7 ⟨rfl, hw, hb⟩
    have HW7 := Lib.hid hw
    have HB7 := Lib.hid (HB6.out.trans hb)
    have hS5 := (HB7.out.block z (lt_of_block HZ.out)).trans HZ.out
    clear hw hb HR HW6 HB6 hHeld
    go_wp2_with fail
    refine hK.out _ _ hS5 (fun hHeld => ?_)
    clear hK
    refine wpAnyH_done (by kernel_rfl) ?_ _
    have c5 : W7.cell? ⟨z, 5, none⟩ = some (.pointer (some ⟨eb, 0, none⟩)) := cell_of hS5 rfl
    have HN := Lib.hid (encode0_calls (HE.out.bel HB7.out))
    clear hS5 hHeld
    go_wp2_with fail
    refine HN.out.mono ?_
    rintro e W8 ⟨v, rfl, hv, hvn, hb8⟩
    obtain ⟨pv, cv, rfl, -⟩ := own_cap0 hv
    have hl2 := Lib.hid (numsI_len [ep, st])
    have HR := Lib.hid (wrB_rows2 HW7.out hb8 (rows := [(.slice pv 4 cv, [0, 0, 0, 0])]) #[.slice pv 4 cv] rfl
      (fun W hW p hp => by
        simp only [List.mem_cons, List.not_mem_nil, or_false] at hp
        subst hp
        exact has_own hv fun k hk => hW k (hvn k hk) (OwnR.lt hv hk))
      (by have h1 := Hl.out; have h2 := hl1.out; have h2' := hl2.out; have h3 := Hs.out; have := str_len fr; have := str_len tu; have h4 : (rowsB [((.slice pv 4 cv : Value), ([0, 0, 0, 0] : Bs))]).length ≤ 13 := (by have := rowB_le (x := [0, 0, 0, 0]) (by decide); simp [rowsB] at *; omega); simp only [List.length_append, List.length_cons, List.length_nil] at *; omega) W8.heap.size 1 1 rfl rfl (by decide) (0, 0))
    have HB8 := Lib.hid (HB7.out.trans (hb8.mono HB7.out.size))
    clear hv hvn hb8 HN c5 HW7 HB7
    go_wp2_with fail
    refine HR.out.mono ?_
    rintro e W9 ⟨rfl, hw, hb⟩
    have HB9 := Lib.hid (HB8.out.trans hb)
    have HO := Lib.hid (wrB_out hw (by have h1 := Hl.out; have h2 := hl1.out; have h2' := hl2.out; have h3 := Hs.out; have := str_len fr; have := str_len tu; have h4 : (rowsB [((.slice pv 4 cv : Value), ([0, 0, 0, 0] : Bs))]).length ≤ 13 := (by have := rowB_le (x := [0, 0, 0, 0]) (by decide); simp [rowsB] at *; omega); simp only [List.length_append, List.length_cons, List.length_nil] at *; omega))
    clear hw hb HR HB8
    go_wp2_with fail
    refine HO.out.mono ?_
    rintro e W10 ⟨u, rfl, hu, hun, hb10⟩
    have HU := Lib.hid (And.intro hu (And.intro hun hb10))
    clear hu hun hb10 HO
    go_wp2_with fail
    go_ret
    refine ⟨u, rfl, ?_, HU.out.2.1, HB9.out.trans HU.out.2.2⟩
    have e1 : zdata ⟨id, fr, tu, ep, st⟩ [0, 0, 0, 0] = numsI [id] ++ (rowB fr.data.toList ++ rowB tu.data.toList) ++ numsI [ep, st] ++ rowsB [((.slice pv 4 cv : Value), ([0, 0, 0, 0] : Bs))] := by
      rw [show rowsB [((.slice pv 4 cv : Value), ([0, 0, 0, 0] : Bs))] = rowB [0, 0, 0, 0] by simp [rowsB]]
      rfl
    rw [e1]
    exact HU.out.1
  · obtain ⟨c1, V1, hr1, hx1, hb1, hs1⟩ := conv_row D tu
    have hS1 := (hb1.block z (lt_of_block hHeld)).trans hHeld
    have HX1 := Lib.hid (And.intro hx1 (And.intro hb1 hs1))
    clear hx1 hb1 hs1
    go_wp2_with fail
    refine hK.out _ _ hS1 (fun hHeld => ?_)
    clear hK hr1 hS1
    try simp only [Act.put, uA, uB, uC]
    refine ord_one 6 rfl (by kernel_rfl) (by rfl) (fun K hK => ?_)
    obtain ⟨c2, V2, hr2, hx2, hb2, hs2⟩ := conv_row V1 fr
    have hS2 := (hb2.block z (lt_of_block hHeld)).trans hHeld
    have HX2 := Lib.hid (And.intro hx2 (And.intro hb2 hs2))
    clear hx2 hb2 hs2
    go_wp2_with fail
    refine hK.out _ _ hS2 (fun hHeld => ?_)
    clear hK hr2 hS2
    try simp only [Act.put, uA, uB, uC]
    refine ord_one 14 rfl (by kernel_rfl) (by rfl) (fun K hK => ?_)
    have hS3 := ((box_below V2 (.cells #[.slice (some ⟨V1.heap.size, 0, none⟩) fr.size c2, .slice (some ⟨D.heap.size, 0, none⟩) tu.size c1] 39)).block z (lt_of_block hHeld)).trans hHeld
    go_wp2_with fail
    refine hK.out _ _ hS3 (fun hHeld => ?_)
    clear hK hS3
    try simp only [Act.put, uA, uB, uC]
    refine ord_one 15 rfl (by kernel_rfl) (by rfl) (fun K hK => ?_)
    have hb02 := HX1.out.2.1.trans (HX2.out.2.1.mono HX1.out.2.1.size)
    have hrows : (rowsB [((.slice (some ⟨V1.heap.size, 0, none⟩) fr.size c2 : Value), fr.data.toList), (.slice (some ⟨D.heap.size, 0, none⟩) tu.size c1, tu.data.toList)]) = rowB fr.data.toList ++ rowB tu.data.toList := by simp [rowsB]
    have HR := wrB_rows2 HW2.out hb02 (rows := [(.slice (some ⟨V1.heap.size, 0, none⟩) fr.size c2, fr.data.toList), (.slice (some ⟨D.heap.size, 0, none⟩) tu.size c1, tu.data.toList)])
      #[.slice (some ⟨V1.heap.size, 0, none⟩) fr.size c2, .slice (some ⟨D.heap.size, 0, none⟩) tu.size c1] rfl
      (fun W hW p hp => by
        obtain ⟨hx1, hb1, hs1⟩ := HX1.out
        obtain ⟨hx2, hb2, hs2⟩ := HX2.out
        simp only [List.mem_cons, List.not_mem_nil, or_false] at hp
        rcases hp with rfl | rfl
        · exact hx2 W fun k e => by subst e; exact hW _ (by omega) (by omega)
        · exact hx1 W fun k e => by subst e; exact (hW _ (by omega) (by omega)).trans (hb2.block _ (by omega)))
      (by rw [hrows]; have h1 := Hl.out; have h2 := hl1.out; have h3 := Hs.out; have := str_len fr; have := str_len tu; simp only [List.length_append, List.length_cons, List.length_nil] at *; omega) V2.heap.size 2 2 rfl rfl (by decide) (0, 0)
    rw [hrows] at HR
    have HR := Lib.hid HR
    clear hrows
    go_wp2_with fail
    refine HR.out.mono ?_
    rintro e W5 ⟨rfl, hw, hb⟩
    have hb25 := ((hb02.mono HB2.out.size).trans hb)
    have HW5 := Lib.hid hw
    have HB5 := Lib.hid (HB2.out.trans hb25)
    have hS5 := (HB5.out.block z (lt_of_block HZ.out)).trans HZ.out
    clear hw hb hb25 hb02 HR HX1 HX2 HW2 HB2 hHeld
    go_wp2_with fail
    refine hK.out _ _ hS5 (fun hHeld => ?_)
    clear hK hS5
    refine wpAnyH_done (by kernel_rfl) ?_ _
    go_wp2_with fail
    have hS5 := (HB5.out.block z (lt_of_block HZ.out)).trans HZ.out
    refine ord_start (fun w' : World => w'.heap[z]? = some (ZoneO ⟨id, fr, tu, ep, st⟩ eb l ev dead)) (n := 12) (by kernel_rfl) rfl hS5 (fun hHeld => ?_)
    have hbd := below_drew W5
    have HW6 := Lib.hid (HW5.out.keep hbd)
    have HB6 := Lib.hid (HB5.out.trans (hbd.mono HB5.out.size))
    clear hS5 hbd HW5 HB5
    generalize W5.drew = D6 at *
    refine Pl [0, 1, 2, 3, 4, 5, 6, 7, 8, 9] ?_
    iterate 10 (refine Pd rfl (by intro w' hSw; have p1 := cell_of hSw (i := 3) rfl; have p2 := cell_of hSw (i := 4) rfl; go_simp; try with_reducible rfl) ?_; simp only [Act.put, uA, uB, uC])
    refine Pn ?_
    refine ord_one 10 rfl (by kernel_rfl) (by rfl) (fun K hK => ?_)
    have hS3 := ((box_below D6 (.cells #[.int .i64 ep, .int .i64 st] 3)).block z (lt_of_block hHeld)).trans hHeld
    go_wp2_with fail
    refine hK.out _ _ hS3 (fun hHeld => ?_)
    clear hK hS3
    try simp only [Act.put, uA, uB, uC]
    refine ord_one 11 rfl (by kernel_rfl) (by rfl) (fun K hK => ?_)
    have HR := Lib.hid (wrB_nums HW6.out [ep, st] #[.int .i64 ep, .int .i64 st] rfl (by have := Hs.out; simp; omega) (by have h1 := Hl.out; have h2 := hl1.out; have h3 := Hs.out; have := str_len fr; have := str_len tu; simp only [List.length_append, List.length_cons, List.length_nil] at *; omega) D6.heap.size 2 2 rfl rfl (0, 0))
    go_wp2_with fail
    refine HR.out.mono ?_
    rintro e W7 ⟨rfl, hw, hb⟩
    have HW7 := Lib.hid hw
    have HB7 := Lib.hid (HB6.out.trans hb)
    have hS5 := (HB7.out.block z (lt_of_block HZ.out)).trans HZ.out
    clear hw hb HR HW6 HB6 hHeld
    go_wp2_with fail
    refine hK.out _ _ hS5 (fun hHeld => ?_)
    clear hK
    refine wpAnyH_done (by kernel_rfl) ?_ _
    have c5 : W7.cell? ⟨z, 5, none⟩ = some (.pointer (some ⟨eb, 0, none⟩)) := cell_of hS5 rfl
    have HN := Lib.hid (encode0_calls (HE.out.bel HB7.out))
    clear hS5 hHeld
    go_wp2_with fail
    refine HN.out.mono ?_
    rintro e W8 ⟨v, rfl, hv, hvn, hb8⟩
    obtain ⟨pv, cv, rfl, -⟩ := own_cap0 hv
    have hl2 := Lib.hid (numsI_len [ep, st])
    have HR := Lib.hid (wrB_rows2 HW7.out hb8 (rows := [(.slice pv 4 cv, [0, 0, 0, 0])]) #[.slice pv 4 cv] rfl
      (fun W hW p hp => by
        simp only [List.mem_cons, List.not_mem_nil, or_false] at hp
        subst hp
        exact has_own hv fun k hk => hW k (hvn k hk) (OwnR.lt hv hk))
      (by have h1 := Hl.out; have h2 := hl1.out; have h2' := hl2.out; have h3 := Hs.out; have := str_len fr; have := str_len tu; have h4 : (rowsB [((.slice pv 4 cv : Value), ([0, 0, 0, 0] : Bs))]).length ≤ 13 := (by have := rowB_le (x := [0, 0, 0, 0]) (by decide); simp [rowsB] at *; omega); simp only [List.length_append, List.length_cons, List.length_nil] at *; omega) W8.heap.size 1 1 rfl rfl (by decide) (0, 0))
    have HB8 := Lib.hid (HB7.out.trans (hb8.mono HB7.out.size))
    clear hv hvn hb8 HN c5 HW7 HB7
    go_wp2_with fail
    refine HR.out.mono ?_
    rintro e W9 ⟨rfl, hw, hb⟩
    have HB9 := Lib.hid (HB8.out.trans hb)
    have HO := Lib.hid (wrB_out hw (by have h1 := Hl.out; have h2 := hl1.out; have h2' := hl2.out; have h3 := Hs.out; have := str_len fr; have := str_len tu; have h4 : (rowsB [((.slice pv 4 cv : Value), ([0, 0, 0, 0] : Bs))]).length ≤ 13 := (by have := rowB_le (x := [0, 0, 0, 0]) (by decide); simp [rowsB] at *; omega); simp only [List.length_append, List.length_cons, List.length_nil] at *; omega))
    clear hw hb HR HB8
    go_wp2_with fail
    refine HO.out.mono ?_
    rintro e W10 ⟨u, rfl, hu, hun, hb10⟩
    have HU := Lib.hid (And.intro hu (And.intro hun hb10))
    clear hu hun hb10 HO
    go_wp2_with fail
    go_ret
    refine ⟨u, rfl, ?_, HU.out.2.1, HB9.out.trans HU.out.2.2⟩
    have e1 : zdata ⟨id, fr, tu, ep, st⟩ [0, 0, 0, 0] = numsI [id] ++ (rowB fr.data.toList ++ rowB tu.data.toList) ++ numsI [ep, st] ++ rowsB [((.slice pv 4 cv : Value), ([0, 0, 0, 0] : Bs))] := by
      rw [show rowsB [((.slice pv 4 cv : Value), ([0, 0, 0, 0] : Bs))] = rowB [0, 0, 0, 0] by simp [rowsB]]
      rfl
    rw [e1]
    exact HU.out.1
end Go.Proofs.YtogdfkilhpkloaaGreatDoor

namespace Go.Proofs.YtogdfkilhpkloaaGreatDoor
open Go.RowKit Go.Sat Go.Maps

/-- What a ledger of this prefix has on a disk. -/
structure Lies (pre : Bs) (D : DiskM) (im : Option (Nat × Bs)) (es : List Bs) : Prop where
  log : Sat.get (logN pre) D.files = if es = [] then none else some (whole (recsB (recF (baseOf im) es)))
  img : Sat.get (imgN pre) D.files = im.map fun x => whole (frameN (imgB x.1 x.2))
  sh : Sat.get (shadowN (imgN pre)) D.files = none

structure Tame (D : DiskM) (u c : Nat) : Prop where
  room : 65536 ≤ D.room
  fuse : D.fuse = none
  used : D.used ≤ u
  count : D.files.length ≤ c

theorem log_ok {pre : Bs} (h : pre.length ≤ 20) : okN (logN pre) = true := by
  have : (logN pre).length = pre.length + 4 := by simp [logN, logX]
  simp [okN, this]
  omega
theorem img_len (pre : Bs) : (imgN pre).length = pre.length + 4 := by simp [imgN, imgX]
theorem log_img (pre : Bs) : logN pre ≠ imgN pre := fun e => by
  have := List.append_cancel_left e
  exact absurd this (by decide)
theorem log_sh (pre : Bs) : logN pre ≠ shadowN (imgN pre) := fun e => by
  have := congrArg List.length e
  rw [shadow_len, img_len] at this
  simp [logN, logX] at this
theorem img_sh (pre : Bs) : imgN pre ≠ shadowN (imgN pre) := shadow_ne _

theorem lies_img {pre : Bs} {D : DiskM} {im : Option (Nat × Bs)} {es : List Bs} (h : Lies pre D im es) (hi : OkI im) : imageOf (Sat.get (imgN pre) D.files) = (0, baseOf im, dataI im) := by
  rw [h.img]
  cases im with
  | none => exact image_none
  | some x => exact image_some x.1 x.2 hi.1 hi.2

theorem openG {D D1 : DiskM} {pre : Bs} {i : Nat × Nat × Bs} {g : DiskM × Nat × List Bs} (hp : 1 ≤ pre.length ∧ pre.length ≤ 20) (h1 : D.rid [shadowN (imgN pre)] = (D1, 0)) (hi : imageOf (Sat.get (imgN pre) D1.files) = i) (hi0 : i.1 = 0) (hg : logOf D1 pre i.2.1 = g) : ledOpen D pre = (g.1, g.2.1, ⟨i.2.1, i.2.2, g.2.2, false⟩) := by
  unfold ledOpen
  rw [if_neg (by omega), h1]
  rw [if_neg (by simp)]
  dsimp only
  rw [hi, if_neg (by simpa using hi0), hg]

theorem open_lies {pre : Bs} {D : DiskM} {im : Option (Nat × Bs)} {es : List Bs} (hp : 1 ≤ pre.length ∧ pre.length ≤ 20) (h : Lies pre D im es) (hi : OkI im) (hf : Fits (baseOf im) es) : ledOpen D pre = (D, 0, MM im es) := by
  refine openG (i := (0, baseOf im, dataI im)) (g := (D, 0, es)) hp (rid_none h.sh) (lies_img h hi) rfl ?_
  unfold logOf
  rw [h.log]
  by_cases he : es = []
  · subst he
    rw [if_pos rfl]
  · rw [if_neg he]
    obtain ⟨lb, hl⟩ := takeAll_new (baseOf im) es [] (-1) (.inl rfl) (by simpa using hf)
    have hs := scan_recs (recF (baseOf im) es) [] hf.rows (.inl rfl)
    rw [List.append_nil] at hs
    have hl' : takeAll (baseOf im) (-1, []) (recF (baseOf im) es) = some (lb, es) := by simpa using hl
    have hT : tornOff D (logN pre) (recsB (recF (baseOf im) es)).length (recsB (recF (baseOf im) es)).length = (D, 0) := if_neg (by omega)
    dsimp only
    show (match takeAll (baseOf im) (-1, []) (scan (recsB (recF (baseOf im) es))).1 with | none => _ | some s => _) = _
    rw [hs, hl']
    dsimp only
    rw [show (whole (recsB (recF (baseOf im) es))).data = recsB (recF (baseOf im) es) from rfl, hs, hT, if_neg (by simp), if_neg he]

theorem used_put (n : Bs) (f : FileM) (L : List (Bs × FileM)) (h : Srt L) : sumBy DiskM.size (put n f L) ≤ f.data.length + sumBy DiskM.size L := by
  rw [sum_put]
  have : sumBy DiskM.size (del n L) ≤ sumBy DiskM.size L := by
    cases hg : Sat.get n L with
    | none => rw [del_none hg]; exact Nat.le_refl _
    | some a =>
      rw [sum_del h hg]
      omega
  show f.data.length + _ ≤ _
  omega
theorem used_del (n : Bs) (L : List (Bs × FileM)) (h : Srt L) : sumBy DiskM.size (del n L) ≤ sumBy DiskM.size L := by
  cases hg : Sat.get n L with
  | none => rw [del_none hg]; exact Nat.le_refl _
  | some a =>
    rw [sum_del h hg]
    omega
theorem count_del (n : Bs) (L : List (Bs × FileM)) (h : Srt L) : (del n L).length ≤ L.length := by
  cases hg : Sat.get n L with
  | none => rw [del_none hg]; exact Nat.le_refl _
  | some a =>
    rw [len_del h hg]
    omega
theorem count_put (n : Bs) (f : FileM) (L : List (Bs × FileM)) (h : Srt L) : (put n f L).length ≤ L.length + 1 := by
  rw [len_put]
  have := count_del n L h
  omega
/-- A file that grows. -/
theorem used_app {D : DiskM} (h : Srt D.files) (n b : Bs) (k : Nat) : sumBy DiskM.size (put n ⟨(D.cur n).data ++ b, k⟩ D.files) ≤ D.used + b.length := by
  rw [sum_put]
  have hu : D.used = DiskM.size (D.cur n) + sumBy DiskM.size (del n D.files) := by
    unfold DiskM.used DiskM.cur
    cases hg : Sat.get n D.files with
    | none =>
      rw [del_none hg]
      show _ = 0 + _
      omega
    | some a => exact sum_del h hg
  rw [hu]
  show ((D.cur n).data ++ b).length + _ ≤ (D.cur n).data.length + _ + _
  rw [List.length_append]
  omega

section
variable {pre : Bs} {D : DiskM} {im : Option (Nat × Bs)} {es : List Bs} {u c : Nat} {p : Bs}

theorem app_lies (hp : pre.length ≤ 20) (hO : D.OK) (hT : Tame D u c) (h : Lies pre D im es) (hi : OkI im) (hf : Fits (baseOf im) (es ++ [p])) (hu : u + p.length + 30 ≤ 65536) (hc : c < 4096) :
    ∃ D2, ledAppend pre D (MM im es) p = ⟨D2, MM im (es ++ [p]), baseOf im + es.length + 1, 0⟩ ∧ Lies pre D2 im (es ++ [p]) ∧ Tame D2 (u + p.length + 30) (c + 1) ∧ ∀ m, m ≠ logN pre → Sat.get m D2.files = Sat.get m D.files := by
  have hn := log_ok hp
  have hz : D.fuse ≠ some 0 := by rw [hT.fuse]; intro e; cases e
  have hl := imgB_len (baseOf im + es.length + 1) p (by have := hf.1; simp at this; omega) (by have := hf.2 p (by simp); omega)
  have hfl := frame_len (imgB (baseOf im + es.length + 1) p)
  have h1 := append_ok (D := D) (n := logN pre) (b := frameN (imgB (baseOf im + es.length + 1) p)) hz hn (by have := hT.used; have := hT.room; omega) (by have := hT.count; omega)
  have hcur : (D.cur (logN pre)).data = recsB (recF (baseOf im) es) := by
    unfold DiskM.cur
    rw [h.log]
    by_cases he : es = []
    · rw [if_pos he, he]
      rfl
    · rw [if_neg he]
      rfl
  have hg1 : Sat.get (logN pre) (put (logN pre) ⟨(D.cur (logN pre)).data ++ frameN (imgB (baseOf im + es.length + 1) p), (D.cur (logN pre)).lasts⟩ D.files) = some _ := get_put_same hO.srt _ _
  have h2 := sync_ok (D := ⟨D.room, put (logN pre) ⟨(D.cur (logN pre)).data ++ frameN (imgB (baseOf im + es.length + 1) p), (D.cur (logN pre)).lasts⟩ D.files, offF D.fuse 1⟩) (n := logN pre) (by rw [hT.fuse]; intro e; cases e) hn hg1
  rw [hcur, ← recs_app] at h1 h2
  have hL : layOn D (logN pre) (frameN (imgB (baseOf im + es.length + 1) p)) = (⟨D.room, put (logN pre) (whole (recsB (recF (baseOf im) (es ++ [p])))) D.files, none⟩, 0) := by
    unfold layOn
    rw [h1, if_neg (by simp)]
    refine h2.trans ?_
    show ((⟨_, put (logN pre) _ (put (logN pre) _ D.files), offF (offF D.fuse 1) 1⟩ : DiskM), 0) = _
    rw [put_put hO.srt, hT.fuse]
    rfl
  refine ⟨⟨D.room, put (logN pre) (whole (recsB (recF (baseOf im) (es ++ [p])))) D.files, none⟩, ?_, ⟨?_, ?_, ?_⟩, ⟨hT.room, rfl, ?_, ?_⟩, fun m hm => get_put_other hO.srt _ hm⟩
  · unfold ledAppend
    rw [if_neg (by simp [MM]), if_neg (app_first hi hf), MM_last, hL, if_neg (by simp)]
    rfl
  · show Sat.get _ (put _ _ _) = _
    rw [get_put_same hO.srt, if_neg (by simp)]
  · show Sat.get _ (put _ _ _) = _
    rw [get_put_other hO.srt _ (log_img pre).symm, h.img]
  · show Sat.get _ (put _ _ _) = _
    rw [get_put_other hO.srt _ (log_sh pre).symm, h.sh]
  · have h3 := used_app hO.srt (logN pre) (frameN (imgB (baseOf im + es.length + 1) p)) (recsB (recF (baseOf im) (es ++ [p]))).length
    rw [hcur, ← recs_app] at h3
    have := hT.used
    refine Nat.le_trans h3 ?_
    omega
  · exact Nat.le_trans (count_put _ _ _ hO.srt) (by have := hT.count; omega)

theorem rid_gone {n : Bs} (hO : Srt D.files) (hf : D.fuse = none) (hn : okN n = true) : D.rid [n] = (⟨D.room, del n D.files, none⟩, 0) := by
  cases hg : Sat.get n D.files with
  | none =>
    rw [rid_none hg, del_none hg, ← hf]
  | some f =>
    rw [rid_some (by rw [hf]; intro e; cases e) hn hg, hf]
    rfl

theorem wri_lies {n : Nat} (hp : 1 ≤ pre.length ∧ pre.length ≤ 20) (hO : D.OK) (hT : Tame D u c) (h : Lies pre D im es) (hl : baseOf im + es.length ≤ n) (hn : n ≤ 1099511627776) (hpl : p.length ≤ 524288) (hu : u + p.length + 30 ≤ 65536) (hc : c < 4096) :
    ∃ D2, ledWrite pre D (MM im es) (n : Int) p = ⟨D2, MM (some (n, p)) [], 0, 0⟩ ∧ Lies pre D2 (some (n, p)) [] ∧ Tame D2 (u + p.length + 30) (c + 1) ∧ ∀ m, m ≠ logN pre → m ≠ imgN pre → Sat.get m D2.files = Sat.get m D.files := by
  have hlen := imgB_len n p (by omega) (by omega)
  have hfl := frame_len (imgB n p)
  have hs := save_all (D := D) (n := imgN pre) (l := imgB n p) hO (fun j e => by rw [hT.fuse] at e; cases e) (by rw [img_len]; omega) (by rw [img_len]; omega) h.sh (by have := hT.used; have := hT.room; omega) (by have := hT.count; omega)
  rw [hT.fuse] at hs
  have hr := rid_gone (D := ⟨D.room, put (imgN pre) ⟨frameN (imgB n p), (frameN (imgB n p)).length⟩ D.files, offF none 3⟩) (n := logN pre) (srt_put hO.srt) rfl (log_ok hp.2)
  have hI : imgOn pre D n p = (⟨D.room, del (logN pre) (put (imgN pre) (whole (frameN (imgB n p))) D.files), none⟩, 0) := by
    unfold imgOn
    rw [hs, if_neg (by simp)]
    exact hr
  have hS := srt_put (n := imgN pre) (a := whole (frameN (imgB n p))) hO.srt
  refine ⟨⟨D.room, del (logN pre) (put (imgN pre) (whole (frameN (imgB n p))) D.files), none⟩, ?_, ⟨?_, ?_, ?_⟩, ⟨hT.room, rfl, ?_, ?_⟩, fun m hm1 hm2 => ?_⟩
  · unfold ledWrite
    rw [if_neg (by simp [MM]), if_neg (by rw [MM_last]; omega), if_neg (by omega), Int.toNat_natCast, hI, if_neg (by simp)]
    rfl
  · show Sat.get _ (del _ _) = _
    rw [get_del_same, if_pos rfl]
  · show Sat.get _ (del _ _) = _
    rw [get_del_other hS (log_img pre).symm, get_put_same hO.srt]
    rfl
  · show Sat.get _ (del _ _) = _
    rw [get_del_other hS (log_sh pre).symm, get_put_other hO.srt _ (img_sh pre).symm, h.sh]
  · refine Nat.le_trans (used_del _ _ hS) (Nat.le_trans (used_put _ _ _ hO.srt) ?_)
    have := hT.used
    show (frameN (imgB n p)).length + D.used ≤ _
    omega
  · exact Nat.le_trans (count_del _ _ hS) (Nat.le_trans (count_put _ _ _ hO.srt) (by have := hT.count; omega))
  · show Sat.get _ (del _ _) = _
    rw [get_del_other hS hm1, get_put_other hO.srt _ hm2]

end

theorem Lies.other {pre : Bs} {D D2 : DiskM} {im : Option (Nat × Bs)} {es : List Bs} (h : Lies pre D im es) (hk : ∀ m, m = logN pre ∨ m = imgN pre ∨ m = shadowN (imgN pre) → Sat.get m D2.files = Sat.get m D.files) : Lies pre D2 im es :=
  ⟨by rw [hk _ (.inl rfl)]; exact h.log, by rw [hk _ (.inr (.inl rfl))]; exact h.img, by rw [hk _ (.inr (.inr rfl))]; exact h.sh⟩
theorem lies_new (pre : Bs) (n : Nat) : Lies pre (DiskM.fresh n) none [] := ⟨rfl, rfl, rfl⟩
theorem tame_new {n : Nat} (h : 65536 ≤ n) : Tame (DiskM.fresh n) 0 0 := ⟨h, rfl, Nat.le_refl _, Nat.le_refl _⟩
end Go.Proofs.YtogdfkilhpkloaaGreatDoor

namespace Go.Proofs.YtogdfkilhpkloaaGreatDoor
open Go.RowKit Go.Sat Go.Maps

/-- A zone of a law's own, its disk, and blocks (F) that neither has. -/
def ZoneF (w w1 : World) (z d : Nat) (h : HeadM) (pre : ByteArray) (D : DiskM) (M : LedM) (E : EcoR) (ev : Value) (dead : Bool) (F : Nat → Prop) : Prop :=
  ∃ eb l vm sm tm am own, LedF w w1 l d pre D M (fun k => F k ∨ k = z ∨ own k ≠ none ∨ ev.ownBlock = some k) ∧ w1.heap[z]? = some (ZoneO h eb l ev dead) ∧ EconIn w1 eb vm sm tm am E own ∧
    (∀ k, F k → k ≠ z ∧ own k = none ∧ ev.ownBlock ≠ some k) ∧ own z = none ∧ (∀ k, ev.ownBlock = some k → k ≠ z ∧ own k = none) ∧ w.heap.size ≤ z ∧ (∀ k, own k ≠ none → w.heap.size ≤ k) ∧ ∀ k, ev.ownBlock = some k → w.heap.size ≤ k
theorem St.more {w w1 w2 : World} {d : Nat} {D : DiskM} {F F' : Nat → Prop} (h : St w w1 d D F) (hb : Below w1.heap.size w1 w2) (hF : ∀ k, F' k → (F k ∨ w1.heap.size ≤ k) ∧ k < w2.heap.size) : St w w2 d D F' := h.move (Chg.of_below hb) (fun _ _ h => h.elim) hF
theorem open_same {w w1 : World} {d : Nat} {D D' : DiskM} {M : LedM} {F : Nat → Prop} {a : ByteArray} (h : St w w1 d D F) (he : ledOpen D (nm a) = (D', 0, M)) :
    Calls Tryz.prog 43 #[.pointer (some ⟨d, 0, none⟩), .string a] w1 fun e w' => ∃ l, e = .returned (.tuple #[.pointer (some ⟨l, 0, none⟩), .int .i64 0]) ∧ LedF w w' l d a D' M F ∧ Same F w1 w' := by
  have h1 := open_calls h a
  rw [he] at h1
  refine h1.mono ?_
  rintro e w' ⟨-, hs, ⟨-, l, rfl, hL⟩ | ⟨hne, -⟩⟩
  · exact ⟨l, rfl, hL, hs⟩
  · exact absurd rfl hne
theorem HeadM.ranges {h : HeadM} (hh : h.is = true) : (1 ≤ h.id ∧ h.id ≤ 1048576) ∧ (h.fr.size ≤ 16 ∧ h.tu.size ≤ 16) ∧ (1 ≤ h.epoch ∧ h.epoch ≤ 1099511627776) ∧ 1 ≤ h.state ∧ h.state ≤ 3 := by
  unfold HeadM.is isSpan at hh
  simp at hh
  omega
theorem HeadM.small_of {h : HeadM} (hh : h.is = true) : h.small := by
  have := HeadM.ranges hh
  unfold HeadM.small
  omega
theorem EconIn.keep2 {w w' : World} {eb vm sm tm am : Nat} {E : EcoR} {own : Nat → Option (Nat × Bs)} (h : EconIn w eb vm sm tm am E own) (hs : ∀ k, own k ≠ none → w'.heap[k]? = w.heap[k]?) : EconIn w' eb vm sm tm am E own :=
  ⟨(hs eb (by rw [h.oE]; simp)).trans h.cells, h.vaults.keep (hs vm (by rw [h.oV]; simp)),
   fun p hp => (h.each p hp).keep fun k hk => hs k (by rcases hk with rfl | rfl | rfl <;> simp [h.oP p hp]),
   h.sess.keep (hs sm (by rw [h.oS]; simp)), h.trans.keep (hs tm (by rw [h.oT]; simp)), h.arr.keep (hs am (by rw [h.oA]; simp)),
   h.oE, h.oV, h.oS, h.oT, h.oA, h.oP, fun k hk => by
     have h1 := hs k hk
     rw [Array.getElem?_eq_getElem (h.oLt k hk)] at h1
     exact lt_of_block h1⟩
def MadeZ (w w1 : World) (d : Nat) (h : HeadM) (pre : ByteArray) (D : DiskM) (M : LedM) (F : Nat → Prop) (e : Ending) (w' : World) : Prop := ∃ z, e = .returned (.tuple #[.pointer (some ⟨z, 0, none⟩), .int .i64 0]) ∧ ZoneF w w' z d h pre D M E0 (.slice none 0 0) false F ∧ Same F w1 w'
def HeadO (h : HeadM) : Obj := .cells #[.int .i64 h.id, .string h.fr, .string h.tu, .int .i64 h.epoch, .int .i64 h.state] 35 (0, 0)
set_option maxRecDepth 100000 in
set_option maxHeartbeats 16000000 in
theorem make0_calls {w w1 : World} {d : Nat} {D D1 D2 : DiskM} {M1 M2 : LedM} {F : Nat → Prop} (hS : St w w1 d D F) (h : HeadM) (hh : h.is = true) (n : Nat) (hidn : h.id = (n : Int)) (hn : n < 100) (i : Int) (hi : -9223372036854775808 ≤ i ∧ i ≤ 9223372036854775807) {p : Option Addr} {c : Nat} (hx : HasB w1 (.slice p 4 c) [0, 0, 0, 0])
    (ho : ledOpen D (nm (zpre n)) = (D1, 0, M1)) (hw : ledWrite (nm (zpre n)) D1 M1 i (zdata h [0, 0, 0, 0]) = ⟨D2, M2, 0, 0⟩) (hlen : (zdata h [0, 0, 0, 0]).length ≤ 140737488355328) :
    Calls Tryz.prog 12 #[.pointer (some ⟨d, 0, none⟩), .agg #[.int .i64 h.id, .string h.fr, .string h.tu, .int .i64 h.epoch, .int .i64 h.state], .int .i64 i, .slice p 4 c] w1 (MadeZ w w1 d h (zpre n) D2 M2 F) := by
  have hr := HeadM.ranges hh
  have Hsm := Lib.hid (HeadM.small_of hh)
  have HI := Lib.hid (fun W => ishead_calls W h ⟨by omega, by omega⟩)
  rw [hh] at HI
  have Ho := Lib.hid ho
  have Hw := Lib.hid hw
  have HS := Lib.hid hS
  have Hx := Lib.hid hx
  have Hl := Lib.hid hlen
  clear hr hh ho hw hS hx hlen
  obtain ⟨id, fr, tu, ep, st⟩ := h
  obtain rfl : id = (n : Int) := hidn
  dsimp only at HI ⊢
  have hB1 := box_below w1 (HeadO ⟨n, fr, tu, ep, st⟩)
  have hH1 := new_block w1 (HeadO ⟨n, fr, tu, ep, st⟩)
  have Hp := Lib.hid (And.intro hB1 hH1)
  clear hB1 hH1
  go_enter Tryz.func12, Tryz.ntmps12
  go_wp2_with fail
  refine (HI.out _).mono ?_
  rintro e W2 ⟨rfl, hb⟩
  have HB2 := Lib.hid (Hp.out.1.trans (hb.mono Hp.out.1.size))
  have HH2 := Lib.hid ((hb.block _ (lt_of_block Hp.out.2)).trans Hp.out.2)
  clear hb HI Hp
  have HD := Lib.hid (decode0_calls (HasB.below Hx.out HB2.out))
  go_wp2_with fail
  refine HD.out.mono ?_
  rintro e W3 ⟨eb, rfl, hE, hb⟩
  have HB3 := Lib.hid (HB2.out.trans (hb.mono HB2.out.size))
  have HH3 := Lib.hid ((hb.block _ (lt_of_block HH2.out)).trans HH2.out)
  have HE3 := Lib.hid (hE.less HB2.out.size)
  clear hb hE HD HH2 HB2
  have p1 : W3.cell? ⟨w1.heap.size, 1, none⟩ = some (.string fr) := cell_of HH3.out rfl
  have p2 : W3.cell? ⟨w1.heap.size, 2, none⟩ = some (.string tu) := cell_of HH3.out rfl
  obtain ⟨vm, sm, tm, am, own, hE, ho⟩ := HE3.out
  have HF := Lib.hid (fits0_calls hE fr tu)
  have HE := Lib.hid (And.intro hE ho)
  clear hE ho HE3
  go_wp2_with fail
  refine HF.out.mono ?_
  rintro e W4 ⟨rfl, hb⟩
  have HB4 := Lib.hid (HB3.out.trans (hb.mono HB3.out.size))
  have HH4 := Lib.hid ((hb.block _ (lt_of_block HH3.out)).trans HH3.out)
  have HE4 := Lib.hid (HE.out.1.bel hb)
  clear hb HF p1 p2 HH3 HB3
  have p0 : W4.cell? ⟨w1.heap.size, 0, none⟩ = some (.int .i64 (n : Int)) := cell_of HH4.out rfl
  go_wp2_with fail
  refine (prefix_calls2 W4 n hn).mono ?_
  rintro e W4' ⟨rfl, hW4'⟩
  obtain rfl : W4 = W4' := hW4'.symm
  have HO := Lib.hid (open_same (F := fun k => F k ∨ (w1.heap.size ≤ k ∧ k < W4.heap.size)) (HS.out.more HB4.out fun k hk => by
    rcases hk with hk | hk
    · exact ⟨.inl hk, Nat.lt_of_lt_of_le (HS.out.flt hk) HB4.out.size⟩
    · exact ⟨.inr hk.1, hk.2⟩) Ho.out)
  clear p0
  go_wp2_with fail
  refine HO.out.mono ?_
  rintro e W5 ⟨l, rfl, hL, hs⟩
  have HL5 := Lib.hid (And.intro hL hs)
  clear hL hs HO
  have HH5 := Lib.hid ((HL5.out.2 _ (.inr ⟨Nat.le_refl _, lt_of_block HH4.out⟩)).trans HH4.out)
  have HE5 := Lib.hid (HE4.out.keep2 fun k hk => HL5.out.2 k (.inr ⟨HE.out.2 k hk, HE4.out.oLt k hk⟩))
  have p0 : W5.cell? ⟨w1.heap.size, 0, none⟩ = some (.int .i64 (n : Int)) := cell_of HH5.out rfl
  have p1 : W5.cell? ⟨w1.heap.size, 1, none⟩ = some (.string fr) := cell_of HH5.out rfl
  have p2 : W5.cell? ⟨w1.heap.size, 2, none⟩ = some (.string tu) := cell_of HH5.out rfl
  have p3 : W5.cell? ⟨w1.heap.size, 3, none⟩ = some (.int .i64 ep) := cell_of HH5.out rfl
  have p4 : W5.cell? ⟨w1.heap.size, 4, none⟩ = some (.int .i64 st) := cell_of HH5.out rfl
  clear HH4
  go_wp2_with fail
  obtain ⟨Z, hZ⟩ : ∃ Z, Z = ZoneO ⟨n, fr, tu, ep, st⟩ eb l (.slice none 0 0) false := ⟨_, rfl⟩
  have hb6 := box_below W5 Z
  have hz6 := new_block W5 Z
  have hL6 := HL5.out.1.box Z
  rw [hZ] at hb6 hz6 hL6
  have HZ6 := Lib.hid (And.intro hb6 (And.intro hz6 hL6))
  have hE6 := HE5.out.bel hb6
  have Hda := Lib.hid (zdata_calls (ev := .slice none 0 0) (dead := false) hz6 hE6 Hsm.out)
  have HE6 := Lib.hid hE6
  clear hE6 hb6 hz6 hL6 hZ p0 p1 p2 p3 p4
  obtain ⟨W6, hW6⟩ : ∃ W6, W6 = W5.alloc (ZoneO ⟨n, fr, tu, ep, st⟩ eb l (.slice none 0 0) false) := ⟨_, rfl⟩
  rw [← hW6] at HZ6 Hda HE6
  refine ((show Calls Tryz.prog 46 #[.pointer (some ⟨W5.heap.size, 0, none⟩)] (W5.alloc (ZoneO ⟨n, fr, tu, ep, st⟩ eb l (.slice none 0 0) false)) _ from hW6 ▸ Hda.out)).mono ?_
  rintro e W7 ⟨v, rfl, hv, hvn, hb7⟩
  rw [← hW6] at hvn hb7
  obtain ⟨pv, cv, rfl, -⟩ := own_cap0 hv
  have hz7 := (hb7.block _ (lt_of_block HZ6.out.2.1)).trans HZ6.out.2.1
  have HE7 := Lib.hid (HE6.out.bel hb7)
  have HL7 := Lib.hid (HZ6.out.2.2.more hb7 (F' := fun k => ((F k ∨ (w1.heap.size ≤ k ∧ k < W4.heap.size)) ∨ k = W5.heap.size) ∨ (Value.slice pv (zdata ⟨n, fr, tu, ep, st⟩ [0, 0, 0, 0]).length cv).ownBlock = some k) fun k hk => hk.imp id fun e => ⟨hvn k e, OwnR.lt hv e⟩)
  have Hwr := Lib.hid (lwrite_calls HL7.out i hi (fun W _ hs => has_own hv fun k hk => hs k (.inr hk)) Hl.out)
  rw [Hw.out] at Hwr
  have HV := Lib.hid (And.intro hz7 (And.intro hv (And.intro hvn hb7)))
  clear hz7 hv hvn hb7 Hda
  obtain ⟨nz, hnz⟩ : ∃ nz, nz = (zdata ⟨n, fr, tu, ep, st⟩ [0, 0, 0, 0]).length := ⟨_, rfl⟩
  rw [← hnz] at Hwr ⊢
  clear hnz
  go_wp2_with fail
  refine Hwr.out.mono ?_
  rintro e W8 ⟨rfl, hL8, hs8⟩
  have HL8 := Lib.hid (And.intro hL8 hs8)
  clear hL8 hs8 Hwr
  go_wp2_with fail
  go_ret2
  have hlo := HS.out.below.size
  have h15 : w1.heap.size < W5.heap.size := lt_of_block HH5.out
  have hown : ∀ k, own k ≠ none → w1.heap.size ≤ k ∧ k < W4.heap.size := fun k hk => ⟨HE.out.2 k hk, HE4.out.oLt k hk⟩
  refine ⟨W5.heap.size, rfl, ⟨eb, l, vm, sm, tm, am, own, HL8.out.1.less fun k hk => ?_, (HL8.out.2 _ (.inl (.inr rfl))).trans HV.out.1, (HE6.out.bel HV.out.2.2.2).keep2 fun k hk => HL8.out.2 k (.inl (.inl (.inr (hown k hk)))), fun k hk => ⟨?_, ?_, by simp [Value.ownBlock]⟩, ?_, fun k hk => (by cases hk), (by omega), fun k hk => (by have := (hown k hk).1; omega), fun k hk => (by cases hk)⟩, fun k hk => ?_⟩
  · rcases hk with hk | rfl | hk | hk
    · exact .inl (.inl (.inl hk))
    · exact .inl (.inr rfl)
    · exact .inl (.inl (.inr (hown k hk)))
    · cases hk
  · have := HS.out.flt hk
    omega
  · refine Classical.byContradiction fun hh => ?_
    have h1 := (hown k hh).1
    have h2 := HS.out.flt hk
    omega
  · refine Classical.byContradiction fun hh => ?_
    have := HE5.out.oLt _ hh
    omega
  · have h5 := HL5.out.1.flt (.inl hk)
    exact (HL8.out.2 k (.inl (.inl (.inl hk)))).trans ((HV.out.2.2.2.block k (Nat.lt_of_lt_of_le h5 HZ6.out.1.size)).trans ((HZ6.out.1.block k h5).trans ((HL5.out.2 k (.inl hk)).trans (HB4.out.block k (HS.out.flt hk)))))
end Go.Proofs.YtogdfkilhpkloaaGreatDoor

namespace Go.Proofs.YtogdfkilhpkloaaGreatDoor
open Go.RowKit Go.Sat Go.Maps

def KindsL : List Value := [.nilFunc, .func (.func 118) #[] #[], .func (.func 119) #[] #[], .func (.func 120) #[] #[], .func (.func 121) #[] #[], .func (.func 122) #[] #[], .func (.func 123) #[] #[], .func (.func 124) #[] #[]]
theorem KindsL_one : ∀ v ∈ KindsL, v.oneCell' = true := by
  intro v hv
  unfold KindsL at hv
  simp only [List.mem_cons, List.not_mem_nil, or_false] at hv
  rcases hv with rfl | rfl | rfl | rfl | rfl | rfl | rfl | rfl <;> rfl
def RepC (x : Nat) : List Value := [.int .i64 (x : Int), .int .i64 0, .int .i64 0, .int .i64 0, .int .i64 0, .int .i64 0]
theorem RepC_one (x : Nat) : ∀ v ∈ RepC x, v.oneCell' = true := by
  intro v hv
  unfold RepC at hv
  simp only [List.mem_cons, List.not_mem_nil, or_false] at hv
  rcases hv with rfl | rfl | rfl | rfl | rfl | rfl <;> rfl
def putX (r : VRep) (o : OpM) : Nat := (putM r.V o.atW (It.one o.item o.count)).2
def putE (E : EcoR) (r : VRep) (o : OpM) : EcoR := { AtE E (nm o.atK) r with vs := kput (nm o.atK) { r with V := (putM r.V o.atW (It.one o.item o.count)).1 } (AtE E (nm o.atK) r).vs }
/-- Behind the minting. -/
structure MidA (w : World) (o : OpM) (eb vm sm tm am : Nat) (E : EcoR) (own : Nat → Option (Nat × Bs)) (b4 q : Nat) (r : VRep) (own' : Nat → Option (Nat × Bs)) (W : World) : Prop where
  op : W.heap[w.heap.size]? = some (.cells (OpL o).toArray 25 (0, 0))
  z : W.heap[b4]? = some (.cells ReplyL.toArray 48 (0, 0))
  rq : W.heap[q]? = some (.cells (RepC (putX r o)).toArray 48 (0, 0))
  n1 : own' w.heap.size = none
  n2 : own' b4 = none
  n3 : own' q = none
  d1 : w.heap.size < b4
  d2 : b4 < q
  old : ∀ k, k < w.heap.size → own' k = own k
  chg : Chg (fun k => own k ≠ none) w W
  get : kget (nm o.atK) (AtE E (nm o.atK) r).vs = some r
  new : kget (nm o.atK) E.vs = none → r.V = []
theorem ss_store {w : World} {sm : Nat} {ss : List (Int × Sess)} (h : MapIs w Tryz.prog 3 (intK Tryz.underlying3) sessE sm ss) (c : Int) (hc : wf64 c) (hn : ss.length < maxLen) (s : Sess) :
    ∃ w', (Instr.mapUpdate 180 (.map (some sm)) (.int .i64 c) s.v).run Tryz.prog w = .ok () w' ∧ MapIs w' Tryz.prog 3 (intK Tryz.underlying3) sessE sm (kput c s ss) ∧ Chg (fun k => k = sm) w w' := by
  obtain ⟨w', h1, h2, h3⟩ := MapIs.store h intKeyed Tryz.underlying180 hn (a := c) hc (x := s) trivial
  exact ⟨w', h1, h2, turned_chg h3⟩
theorem tidy_ss (E : EcoR) (n : Bs) : (tidyE E n).ss = E.ss := by
  unfold tidyE
  split
  · split <;> rfl
  · rfl
theorem put_ss (E : EcoR) (r : VRep) (o : OpM) : (putE E r o).ss = E.ss := by
  unfold putE AtE
  split <;> rfl
theorem midA_of {w W1 W2 : World} {o : OpM} {eb vm sm tm am : Nat} {E : EcoR} {own : Nat → Option (Nat × Bs)} {b4 q : Nat} {r : VRep} {own' : Nat → Option (Nat × Bs)} (hop : W1.heap[w.heap.size]? = some (.cells (OpL o).toArray 25 (0, 0))) (hz : W1.heap[b4]? = some (.cells ReplyL.toArray 48 (0, 0))) (d1 : w.heap.size < b4) (d2 : b4 < q) (hlo : ∀ k, w.heap.size ≤ k → own k = none)
    (n1 : own' w.heap.size = own w.heap.size) (n2 : own' b4 = own b4) (n3 : own' q = none) (old : ∀ k, k < w.heap.size → own' k = own k) (hc : Chg (fun k => own k ≠ none) w W1) (hE : EconIn W1 eb vm sm tm am (putE E r o) own') (hg : kget (nm o.atK) (AtE E (nm o.atK) r).vs = some r) (hr : kget (nm o.atK) E.vs = none → r.V = [])
    (h2 : W2.heap[q]? = some (.cells (RepC (putX r o)).toArray 48 (0, 0))) (hs : Chg (fun k => k = q) W1 W2) : MidA w o eb vm sm tm am E own b4 q r own' W2 ∧ EconIn W2 eb vm sm tm am (putE E r o) own' := by
  refine ⟨⟨(hs.block _ (lt_of_block hop) (by omega)).trans hop, (hs.block _ (lt_of_block hz) (by omega)).trans hz, h2, n1.trans (hlo _ (Nat.le_refl _)), n2.trans (hlo _ (by omega)), n3, d1, d2, old, hc.trans hs fun i hi e => by omega, hg, hr⟩, hE.keep (fun k hk => hs.block k (hE.oLt k hk) fun e => ?_) hs.size⟩
  rw [e] at hk
  exact hk n3
set_option maxRecDepth 100000 in
set_option maxHeartbeats 16000000 in
theorem applymint_calls {w : World} {eb vm sm tm am : Nat} {E : EcoR} {own : Nat → Option (Nat × Bs)} (h : EconIn w eb vm sm tm am E own) (o : OpM) (ho : o.wf) (hm : o.may = true) (hk : o.kind = 1)
    (hs : kget o.client E.ss = none) (hsl : E.ss.length < maxLen) (hn : E.vs.length < maxLen) (hpl : ∀ r, kget (nm o.atK) E.vs = some r → r.V.length < maxLen ∧ (itsOf r.V o.atW).is = true)
    (hV : ∀ r : VRep, (kget (nm o.atK) E.vs = none → r.V = []) → kget (nm o.atK) (AtE E (nm o.atK) r).vs = some r → ∀ p ∈ (putE E r o).vs, p.2.V.length ≤ 1099511627776) :
    Calls Tryz.prog 57 #[.pointer (some ⟨eb, 0, none⟩), .agg (OpL o).toArray] w fun e w' => ∃ r own', e = .returned (.tuple #[.agg (RepC (putX r o)).toArray, .bool true]) ∧
      kget (nm o.atK) (AtE E (nm o.atK) r).vs = some r ∧ (kget (nm o.atK) E.vs = none → r.V = []) ∧ EconIn w' eb vm sm tm am { tidyE (putE E r o) (nm o.atK) with ss := kput o.client ⟨o.seq, putX r o, 0, It.zero⟩ E.ss } own' ∧ (∀ k, k < w.heap.size → own' k = own k) ∧ Chg (fun k => own k ≠ none) w w' := by
  have HP := Lib.hid (fun (W : World) (hW : EconIn W eb vm sm tm am E own) => peeknew_calls hW o ho hm ⟨by rw [hk]; decide, by rw [hk]; decide⟩ hs)
  have HM := Lib.hid (fun (W : World) (hW : EconIn W eb vm sm tm am E own) => mint_calls hW o ho hn hpl)
  have H := Lib.hid h
  have Hx := Lib.hid (And.intro ho (And.intro hs (And.intro hsl hV)))
  have Hk := Lib.hid hk
  clear h hm hs hsl hn hpl hV hk ho
  go_enter Tryz.func57, Tryz.ntmps57
  go_wp2_with (first
    | (refine bbox rfl 25 (.tmp 1) rfl (L := OpL o) rfl ?_; intro w2 hn1 hb1 hs1; have H2 := Lib.hid (And.intro hn1 (And.intro hb1 hs1)); clear hn1 hb1 hs1)
    | (refine balloc rfl 48 rfl (Tryz.zeroValue48 _) (by decide) ?_; intro w3 hn2 hb2 hs2; have H3 := Lib.hid (And.intro hn2 (And.intro ((hb2.block _ (lt_of_block H2.out.1)).trans H2.out.1) (And.intro (H2.out.2.1.trans (hb2.mono H2.out.2.1.size)) H2.out.2.2))); clear hn2 hb2 hs2 H2)
    | (refine bload rfl 25 (.tmp 3) rfl w.heap.size rfl (L := OpL o) H3.out.2.1 Tryz.underlying25 rfl (by kernel_rfl) ?_))
  refine (HP.out _ (H.out.keep (fun k hk => H3.out.2.2.1.block k (H.out.oLt k hk)) H3.out.2.2.1.size)).mono ?_
  rintro e w4 ⟨rfl, hb⟩
  have H4 := Lib.hid (And.intro ((hb.block _ (lt_of_block H3.out.1)).trans H3.out.1) (And.intro ((hb.block _ (lt_of_block H3.out.2.1)).trans H3.out.2.1) (And.intro (H3.out.2.2.1.trans (hb.mono H3.out.2.2.1.size)) (H3.out.2.2.2))))
  clear hb H3 HP
  go_upto_region 5 with (first
    | (refine balloc rfl 48 rfl (Tryz.zeroValue48 _) (by decide) ?_; intro w5 hn2 hb2 hs2; have H5 := Lib.hid (And.intro hn2 (And.intro ((hb2.block _ (lt_of_block H4.out.1)).trans H4.out.1) (And.intro ((hb2.block _ (lt_of_block H4.out.2.1)).trans H4.out.2.1) (H4.out.2.2.1.trans (hb2.mono H4.out.2.2.1.size))))); have Hlt := Lib.hid (And.intro (lt_of_block H4.out.1) (And.intro H4.out.2.2.2 H4.out.2.2.1.size)); clear hn2 hb2 hs2)
    | (refine bstore rfl 48 (.tmp 6) (.tmp 14) rfl w4.heap.size rfl (L := ReplyL) rfl H5.out.1 rfl (by kernel_rfl) ReplyL_one ?_; intro w6 hn hc; have H6 := Lib.hid (And.intro ((hc.block _ (lt_of_block H5.out.2.1) (by have := Hlt.out; omega)).trans H5.out.2.1) (And.intro ((hc.block _ (lt_of_block H5.out.2.2.1) (by have := Hlt.out; omega)).trans H5.out.2.2.1) (chgOne H5.out.2.2.2 hc Hlt.out.2.2))); clear hn hc H5 H4)
    | (refine bbuild rfl 201 #[(1, .func 118), (2, .func 119), (3, .func 120), (4, .func 121), (5, .func 122), (6, .func 123), (7, .func 124)] rfl (v := .agg KindsL.toArray) (by kernel_rfl) ?_)
    | (refine balloc rfl 201 rfl (Tryz.zeroValue201 _) (by decide) ?_; intro w7 hn2 hb2 hs2; have H7 := Lib.hid (And.intro hn2 (And.intro ((hb2.block _ (lt_of_block H6.out.1)).trans H6.out.1) (And.intro ((hb2.block _ (lt_of_block H6.out.2.1)).trans H6.out.2.1) (H6.out.2.2.trans (hb2.mono H6.out.2.2.size))))); have Hl6 := Lib.hid (And.intro (lt_of_block H6.out.1) (And.intro (lt_of_block H6.out.2.1) H6.out.2.2.size)); clear hn2 hb2 hs2 H6)
    | (refine bstore rfl 201 (.tmp 8) (.tmp 18) rfl w6.heap.size rfl (L := KindsL) rfl H7.out.1 rfl (by kernel_rfl) KindsL_one ?_; intro w8 hn hc; have H8 := Lib.hid (And.intro hn (And.intro ((hc.block _ (lt_of_block H7.out.2.1) (by have := Hl6.out; omega)).trans H7.out.2.1) (And.intro ((hc.block _ (lt_of_block H7.out.2.2.1) (by have := Hl6.out; omega)).trans H7.out.2.2.1) (chgOne H7.out.2.2.2 hc Hl6.out.2.2)))); clear hn hc H7))
  simp only [Act.put, uA, uB, uC]
  go_cut [9] (fun s9 wx => ∃ q r own', s9 = .pointer (some ⟨q, 0, none⟩) ∧ MidA w o eb vm sm tm am E own w2.heap.size q r own' wx ∧ EconIn wx eb vm sm tm am (putE E r o) own')
  case first =>
    refine ord_start (fun w' : World => w'.heap[w.heap.size]? = some (.cells (OpL o).toArray 25 (0, 0)) ∧ w'.heap[w6.heap.size]? = some (.cells KindsL.toArray 201 (0, 0))) (n := 9) (by kernel_rfl) rfl ⟨H8.out.2.2.1, H8.out.1⟩ (fun hHeld => ?_)
    have HB := Lib.hid (show w8.drew.heap[w2.heap.size]? = some (.cells ReplyL.toArray 48 (0, 0)) ∧ Below w.heap.size w w8.drew from ⟨H8.out.2.1, H8.out.2.2.2.trans ⟨rfl, rfl, rfl, Nat.le_refl _, fun _ _ => rfl⟩⟩)
    clear H8
    generalize w8.drew = W0 at *
    have H8k := Lib.hid (lt_of_block hHeld.2)
    have HE := Lib.hid (H.out.keep (fun k hk => HB.out.2.block k (H.out.oLt k hk)) HB.out.2.size)
    have Hlo := Lib.hid (fun k (hk : w.heap.size ≤ k) => (Classical.byContradiction fun hh => by have := H.out.oLt k hh; omega : own k = none))
    have Hcw := Lib.hid ((Chg.of_below HB.out.2).mono fun _ _ e => e.elim : Chg (fun k => own k ≠ none) w W0)
    refine Pl [0, 1, 2, 3, 4, 5] ?_
    iterate 6 (refine Pd rfl (by intro w' hSw; first | exact yload 25 (.tmp 3) rfl rfl hSw.1 Tryz.underlying25 rfl (by kernel_rfl) | (have c0 := cell_of hSw.1 (i := 0) (v := .int .i64 1) (by show some (Value.int .i64 o.kind) = _; rw [Hk.out]); have k1 := cell_of hSw.2 (i := 1) (v := .func (.func 118) #[] #[]) rfl; go_simp; try with_reducible rfl)) ?_; simp only [Act.put, uA, uB, uC])
    refine Pn ?_
    refine ord_pair 6 7 rfl rfl (by kernel_rfl) (by rfl) (by rfl) (fun K hK => ?_) (fun K hK => ?_)
    · go_wp2_with fail
      refine (HM.out _ HE.out).mono ?_
      rintro e w9 ⟨r, own', he, hg, hrn, hE, hoo, hc⟩
      obtain rfl : e = .returned (.agg (RepC (putX r o)).toArray) := he
      have nk : ∀ k, w.heap.size ≤ k → k < W0.heap.size → w9.heap[k]? = W0.heap[k]? := fun k h1 h2 => hc.block k h2 fun hh => hh (Hlo.out k h1)
      have hz := (nk _ (by have := Hlt.out; omega) (lt_of_block HB.out.1)).trans HB.out.1
      have HA := Lib.hid (And.intro hg (And.intro hrn (And.intro hE (And.intro hoo (And.intro (Hcw.out.trans hc fun _ _ e => e) hz)))))
      have hS : (fun w' : World => w'.heap[w.heap.size]? = some (.cells (OpL o).toArray 25 (0, 0)) ∧ w'.heap[w6.heap.size]? = some (.cells KindsL.toArray 201 (0, 0))) w9 := ⟨(nk _ (Nat.le_refl _) (lt_of_block hHeld.1)).trans hHeld.1, (nk _ Hl6.out.2.2 (lt_of_block hHeld.2)).trans hHeld.2⟩
      have Hsz := Lib.hid hc.size
      clear hg hrn hE hoo hc nk hz hHeld
      go_wp2_with fail
      refine hK.out _ _ hS (fun hHeld => ?_)
      clear hK hS
      try simp only [Act.put, uA, uB, uC]
      refine ord_one 7 rfl (by kernel_rfl) (by rfl) (fun K hK => ?_)
      refine wp_balloc 48 rfl (Tryz.zeroValue48 _) (by decide) ?_
      intro w10 hn hb hsz
      refine hK.out _ _ ⟨(hb.block _ (lt_of_block hHeld.1)).trans hHeld.1, (hb.block _ (lt_of_block hHeld.2)).trans hHeld.2⟩ (fun hHeld => ?_)
      clear hK
      try simp only [Act.put, uA, uB, uC]
      refine ord_one 8 rfl (by kernel_rfl) (by rfl) (fun K hK => ?_)
      refine wp_bstore 48 (.tmp 9) (.tmp 25) rfl w9.heap.size rfl (L := RepC (putX r o)) rfl hn rfl (by kernel_rfl) (RepC_one _) ?_
      intro w11 h2 hs
      have hb4 := lt_of_block HA.out.2.2.2.2.2
      refine hK.out _ _ ⟨(hs.block _ (lt_of_block hHeld.1) (by have := Hlt.out; omega)).trans hHeld.1, (hs.block _ (lt_of_block hHeld.2) (by have := H8k.out; have := Hsz.out; omega)).trans hHeld.2⟩ (fun hHeld2 => ?_)
      clear hK
      have hfin := midA_of (r := r) hHeld.1 ((hb.block _ hb4).trans HA.out.2.2.2.2.2) (by have := Hlt.out; omega) hb4 Hlo.out (HA.out.2.2.2.1 _ (by have := Hlt.out; have := lt_of_block HB.out.1; omega)) (HA.out.2.2.2.1 _ (lt_of_block HB.out.1)) (Classical.byContradiction fun hh => by have := HA.out.2.2.1.oLt _ hh; omega) (fun k hk => HA.out.2.2.2.1 k (Nat.lt_of_lt_of_le hk HB.out.2.size)) (HA.out.2.2.2.2.1.trans (Chg.of_below hb) fun _ _ e => e.elim) (HA.out.2.2.1.keep (fun k hk => hb.block k (HA.out.2.2.1.oLt k hk)) hb.size) HA.out.1 HA.out.2.1 h2 hs
      have HF := Lib.hid hfin
      clear hfin h2 hs hHeld hHeld2 hn hb
      refine wpAnyH_done (by kernel_rfl) ?_ _
      go_wp2_with fail
      go_meet
      exact ⟨w9.heap.size, r, own', rfl, HF.out⟩
    · refine wp_balloc 48 rfl (Tryz.zeroValue48 _) (by decide) ?_
      intro w9 hn hb hsz
      refine hK.out _ _ ⟨(hb.block _ (lt_of_block hHeld.1)).trans hHeld.1, (hb.block _ (lt_of_block hHeld.2)).trans hHeld.2⟩ (fun hHeld => ?_)
      clear hK
      try simp only [Act.put, uA, uB, uC]
      refine ord_one 6 rfl (by kernel_rfl) (by rfl) (fun K hK => ?_)
      go_wp2_with fail
      refine (HM.out _ (HE.out.keep (fun k hk => hb.block k (HE.out.oLt k hk)) hb.size)).mono ?_
      rintro e w10 ⟨r, own', he, hg, hrn, hE, hoo, hc⟩
      obtain rfl : e = .returned (.agg (RepC (putX r o)).toArray) := he
      have nk : ∀ k, w.heap.size ≤ k → k < w9.heap.size → w10.heap[k]? = w9.heap[k]? := fun k h1 h2 => hc.block k h2 fun hh => hh (Hlo.out k h1)
      have hz := (nk _ (by have := Hlt.out; omega) (Nat.lt_of_lt_of_le (lt_of_block HB.out.1) hb.size)).trans ((hb.block _ (lt_of_block HB.out.1)).trans HB.out.1)
      have hq := (nk _ HB.out.2.size (by omega)).trans hn
      have HA := Lib.hid (And.intro hg (And.intro hrn (And.intro hE (And.intro hoo (And.intro ((Hcw.out.trans (Chg.of_below hb) fun _ _ e => e.elim).trans hc fun _ _ e => e) (And.intro hz hq))))))
      have hS : (fun w' : World => w'.heap[w.heap.size]? = some (.cells (OpL o).toArray 25 (0, 0)) ∧ w'.heap[w6.heap.size]? = some (.cells KindsL.toArray 201 (0, 0))) w10 := ⟨(nk _ (Nat.le_refl _) (lt_of_block hHeld.1)).trans hHeld.1, (nk _ Hl6.out.2.2 (lt_of_block hHeld.2)).trans hHeld.2⟩
      have Hsz := Lib.hid hsz
      have Hop := Lib.hid (lt_of_block hHeld.1)
      clear hg hrn hE hoo hc nk hz hHeld hq hn hb hsz
      go_wp2_with fail
      refine hK.out _ _ hS (fun hHeld => ?_)
      clear hK hS
      try simp only [Act.put, uA, uB, uC]
      refine ord_one 8 rfl (by kernel_rfl) (by rfl) (fun K hK => ?_)
      refine wp_bstore 48 (.tmp 9) (.tmp 25) rfl W0.heap.size rfl (L := RepC (putX r o)) rfl HA.out.2.2.2.2.2.2 rfl (by kernel_rfl) (RepC_one _) ?_
      intro w11 h2 hs
      have hb4 := lt_of_block HB.out.1
      refine hK.out _ _ ⟨(hs.block _ (lt_of_block hHeld.1) (by have := Hlt.out; omega)).trans hHeld.1, (hs.block _ (lt_of_block hHeld.2) (by have := H8k.out; omega)).trans hHeld.2⟩ (fun hHeld2 => ?_)
      clear hK
      have hfin := midA_of (r := r) hHeld.1 HA.out.2.2.2.2.2.1 (by have := Hlt.out; omega) hb4 Hlo.out (HA.out.2.2.2.1 _ Hop.out) (HA.out.2.2.2.1 _ (by have := Hsz.out; omega)) ((HA.out.2.2.2.1 _ (by have := Hsz.out; omega)).trans (Hlo.out _ HB.out.2.size)) (fun k hk => HA.out.2.2.2.1 k (by have := Hsz.out; have := HB.out.2.size; omega)) HA.out.2.2.2.2.1 HA.out.2.2.1 HA.out.1 HA.out.2.1 h2 hs
      have HF := Lib.hid hfin
      clear hfin h2 hs hHeld hHeld2
      refine wpAnyH_done (by kernel_rfl) ?_ _
      go_wp2_with fail
      go_meet
      exact ⟨W0.heap.size, r, own', rfl, HF.out⟩
  case rest =>
    obtain ⟨q, r, own', rfl, hM, hE⟩ := hcut
    have HT := Lib.hid (tidies_calls hE o.atK Hx.out.1.2.1.1 (Hx.out.2.2.2 r hM.new hM.get))
    have c3 := cell_of hM.op (i := 3) (v := .string o.atK) rfl
    have HMd := Lib.hid (And.intro hM hE)
    clear hM hE H8 HM
    go_wp2_with fail
    refine HT.out.mono ?_
    rintro e W5 ⟨rfl, hE5, hc5⟩
    have nk : ∀ k, own' k = none → k < wc.heap.size → W5.heap[k]? = wc.heap[k]? := fun k h1 h2 => hc5.block k h2 fun hh => hh h1
    have hop := (nk _ HMd.out.1.n1 (lt_of_block HMd.out.1.op)).trans HMd.out.1.op
    have hz := (nk _ HMd.out.1.n2 (lt_of_block HMd.out.1.z)).trans HMd.out.1.z
    have hq := (nk _ HMd.out.1.n3 (lt_of_block HMd.out.1.rq)).trans HMd.out.1.rq
    have c0 := cell_of hop (i := 0) (v := .int .i64 1) (by show some (Value.int .i64 o.kind) = _; rw [Hk.out])
    have HE5 := Lib.hid (And.intro hop (And.intro hz (And.intro hq (And.intro hE5 (HMd.out.1.chg.trans hc5 fun i hi e => by rw [← HMd.out.1.old i hi]; exact e)))))
    clear c3 HT nk hop hz hq hE5 hc5
    go_upto_region 8 with (fail)
    have hcs := HE5.out.2.2.2.1.cells
    refine ord_start (fun w' : World => w'.heap[w.heap.size]? = some (.cells (OpL o).toArray 25 (0, 0)) ∧ w'.heap[eb]? = some (EconO vm sm tm am) ∧ w'.heap[q]? = some (.cells (RepC (putX r o)).toArray 48 (0, 0))) (n := 11) (by kernel_rfl) rfl ⟨HE5.out.1, hcs, HE5.out.2.2.1⟩ (fun hHeld => ?_)
    have HX := Lib.hid (And.intro (HE5.out.2.2.2.1.keep (w' := W5.drew) (fun _ _ => rfl) (Nat.le_refl _)) (And.intro (show W5.drew.heap[w2.heap.size]? = _ from HE5.out.2.1) (HE5.out.2.2.2.2.trans (show Chg (fun _ => False) W5 W5.drew from Chg.of_below ⟨rfl, rfl, rfl, Nat.le_refl _, fun _ _ => rfl⟩) fun _ _ e => e.elim)))
    clear hcs HE5 c0
    generalize W5.drew = W6 at *
    refine Pl [0, 1, 2, 3, 4, 5, 6, 7, 8] ?_
    iterate 9 (refine Pd rfl (by intro w' hSw; first | exact yload 48 (.tmp 9) rfl rfl hSw.2.2 Tryz.underlying48 rfl (by kernel_rfl) | (have c1 := cell_of hSw.1 (i := 1) (v := .int .i64 o.client) rfl; have c2 := cell_of hSw.1 (i := 2) (v := .int .i64 o.seq) rfl; have e1 := cell_of hSw.2.1 (i := 1) (v := .map (some sm)) rfl; go_simp; try with_reducible rfl)) ?_; simp only [Act.put, uA, uB, uC])
    refine Pn ?_
    refine Pl [9] ?_
    refine Pd (v := Sess.v ⟨o.seq, putX r o, 0, It.zero⟩) rfl (by intro w' hSw; kernel_rfl) ?_
    simp only [Act.put, uA, uB, uC]
    refine Pn ?_
    refine ord_one 10 rfl (by kernel_rfl) (by rfl) (fun K hK => ?_)
    have hes : (tidyE (putE E r o) (nm o.atK)).ss = E.ss := (tidy_ss _ _).trans (put_ss _ _ _)
    obtain ⟨w', hst, hm', hc'⟩ := ss_store HX.out.1.sess o.client Hx.out.1.1.2.1 (by rw [hes]; exact Hx.out.2.2.1) ⟨o.seq, putX r o, 0, It.zero⟩
    have hsm : own' sm ≠ none := by rw [HX.out.1.oS]; simp
    have hne : ∀ k, own' k = none → k ≠ sm := fun k hk e => by rw [← e] at hsm; exact hsm hk
    have HY := Lib.hid (And.intro (HX.out.1.said hm' hc') (And.intro ((hc'.block _ (lt_of_block HX.out.2.1) (hne _ HMd.out.1.n2)).trans HX.out.2.1) (HX.out.2.2.trans hc' fun i hi e => by rw [← HMd.out.1.old i hi, e]; exact hsm)))
    have hS : w'.heap[w.heap.size]? = some (.cells (OpL o).toArray 25 (0, 0)) ∧ w'.heap[eb]? = some (EconO vm sm tm am) ∧ w'.heap[q]? = some (.cells (RepC (putX r o)).toArray 48 (0, 0)) := ⟨(hc'.block _ (lt_of_block hHeld.1) (hne _ HMd.out.1.n1)).trans hHeld.1, HY.out.1.cells, (hc'.block _ (lt_of_block hHeld.2.2) (hne _ HMd.out.1.n3)).trans hHeld.2.2⟩
    clear hm' hc' hsm hne HX hHeld
    go_wp2_with fail
    refine hK.out _ _ hS (fun hHeld => ?_)
    clear hK hst
    have HQ := Lib.hid hS
    clear hS hHeld
    refine wpAnyH_done (by kernel_rfl) ?_ _
    go_wp2_with (first
      | (refine bload rfl 48 (.tmp 9) rfl q rfl (L := RepC (putX r o)) HQ.out.2.2 Tryz.underlying48 rfl (by kernel_rfl) ?_)
      | (refine bstore rfl 48 (.tmp 4) (.tmp 49) rfl w2.heap.size rfl (L := RepC (putX r o)) rfl HY.out.2.1 rfl (by kernel_rfl) (RepC_one _) ?_; intro w9 hn hc; have HZ := Lib.hid (And.intro hn hc); clear hn hc))
    refine bodyPost_ret (results_rw2 (p := 4) (u := 5) rfl _ _ w2.heap.size _ _ (0, 0) _ rfl HZ.out.1 Tryz.underlying48 rfl (by kernel_rfl)) rfl ?_
    refine ⟨r, own', rfl, HMd.out.1.get, HMd.out.1.new, ?_, HMd.out.1.old, HY.out.2.2.trans HZ.out.2 fun i hi e => by have := HMd.out.1.d1; omega⟩
    have h9 := HY.out.1.keep (w' := w9) (fun k hk => HZ.out.2.block k (HY.out.1.oLt k hk) fun e => by rw [e] at hk; exact hk HMd.out.1.n2) HZ.out.2.size
    rw [hes] at h9
    exact h9
end Go.Proofs.YtogdfkilhpkloaaGreatDoor

namespace Go.Proofs.YtogdfkilhpkloaaGreatDoor
open Go.RowKit Go.Sat Go.Maps

/-- A zone at work: F are blocks of the caller's, G blocks of the work's own. -/
structure DoS (w w1 : World) (z d eb l vm sm tm am : Nat) (h : HeadM) (pre : ByteArray) (D : DiskM) (M : LedM) (E : EcoR) (own : Nat → Option (Nat × Bs)) (ev : Value) (F G : Nat → Prop) (W : World) : Prop where
  led : LedF w W l d pre D M (fun k => F k ∨ k = z ∨ own k ≠ none ∨ ev.ownBlock = some k ∨ G k)
  zon : W.heap[z]? = some (ZoneO h eb l ev false)
  eco : EconIn W eb vm sm tm am E own
  same : ∀ k, F k → W.heap[k]? = w1.heap[k]?
  fz : ∀ k, F k → k ≠ z ∧ own k = none ∧ ev.ownBlock ≠ some k ∧ ¬ G k
  nz : own z = none
  ne : ∀ k, ev.ownBlock = some k → k ≠ z ∧ own k = none
  gz : ∀ k, G k → k ≠ z ∧ own k = none ∧ ev.ownBlock ≠ some k
  lz : w.heap.size ≤ z
  lo : ∀ k, own k ≠ none → w.heap.size ≤ k
  le : ∀ k, ev.ownBlock = some k → w.heap.size ≤ k
  lg : ∀ k, G k → w.heap.size ≤ k
section
variable {w w1 W W' : World} {z d eb l vm sm tm am : Nat} {h : HeadM} {pre : ByteArray} {D D' : DiskM} {M M' : LedM} {E E' : EcoR} {own own' : Nat → Option (Nat × Bs)} {ev ev' : Value} {F G G' : Nat → Prop}
theorem ZoneF.doS (hZ : ZoneF w w1 z d h pre D M E ev false F) : ∃ eb l vm sm tm am own, DoS w w1 z d eb l vm sm tm am h pre D M E own ev F NoF w1 := by
  obtain ⟨eb, l, vm, sm, tm, am, own, hL, hz, hE, h1, h2, h3, h4, h5, h6⟩ := hZ
  refine ⟨eb, l, vm, sm, tm, am, own, hL.less fun k hk => ?_, hz, hE, fun _ _ => rfl, fun k hk => ⟨(h1 k hk).1, (h1 k hk).2.1, (h1 k hk).2.2, fun e => e⟩, h2, h3, fun k hk => hk.elim, h4, h5, h6, fun k hk => hk.elim⟩
  rcases hk with hk | hk | hk | hk | hk
  · exact .inl hk
  · exact .inr (.inl hk)
  · exact .inr (.inr (.inl hk))
  · exact .inr (.inr (.inr hk))
  · exact hk.elim
theorem DoS.flt (hS : DoS w w1 z d eb l vm sm tm am h pre D M E own ev F G W) {k : Nat} (hk : F k ∨ k = z ∨ own k ≠ none ∨ ev.ownBlock = some k ∨ G k) : k < W.heap.size := hS.led.flt hk
/-- Something new; G' may have new blocks too. -/
theorem DoS.add (hS : DoS w w1 z d eb l vm sm tm am h pre D M E own ev F G W) (hb : Below W.heap.size W W') (hG : ∀ k, G' k → G k ∨ W.heap.size ≤ k ∧ k < W'.heap.size) : DoS w w1 z d eb l vm sm tm am h pre D M E own ev F G' W' := by
  have hw := hS.led.bel.size
  have hnew : ∀ k, W.heap.size ≤ k → k ≠ z ∧ own k = none ∧ ev.ownBlock ≠ some k := fun k hk => ⟨fun e => by have := hS.flt (.inr (.inl e)); omega, Classical.byContradiction fun hh => by have := hS.flt (.inr (.inr (.inl hh))); omega, fun e => by have := hS.flt (.inr (.inr (.inr (.inl e)))); omega⟩
  refine ⟨hS.led.more hb fun k hk => ?_, (hb.block z (lt_of_block hS.zon)).trans hS.zon, hS.eco.keep (fun k hk => hb.block k (hS.eco.oLt k hk)) hb.size, fun k hk => (hb.block k (hS.flt (.inl hk))).trans (hS.same k hk), fun k hk => ⟨(hS.fz k hk).1, (hS.fz k hk).2.1, (hS.fz k hk).2.2.1, fun e => ?_⟩, hS.nz, hS.ne, fun k hk => ?_, hS.lz, hS.lo, hS.le, fun k hk => ?_⟩
  · rcases hk with hk | hk | hk | hk | hk
    · exact .inl (.inl hk)
    · exact .inl (.inr (.inl hk))
    · exact .inl (.inr (.inr (.inl hk)))
    · exact .inl (.inr (.inr (.inr (.inl hk))))
    · exact (hG k hk).imp (fun e => .inr (.inr (.inr (.inr e)))) id
  · rcases hG k e with h1 | h1
    · exact (hS.fz k hk).2.2.2 h1
    · have := hS.flt (.inl hk)
      omega
  · rcases hG k hk with h1 | h1
    · exact hS.gz k h1
    · exact hnew k h1.1
  · rcases hG k hk with h1 | h1
    · exact hS.lg k h1
    · omega
theorem DoS.next (hS : DoS w w1 z d eb l vm sm tm am h pre D M E own ev F G W) (hb : Below W.heap.size W W') : DoS w w1 z d eb l vm sm tm am h pre D M E own ev F G W' := hS.add hb fun _ hk => .inl hk
/-- The economy has turned. -/
theorem DoS.turn (hS : DoS w w1 z d eb l vm sm tm am h pre D M E own ev F G W) (hE : EconIn W' eb vm sm tm am E' own') (hc : Chg (fun k => own k ≠ none) W W') (ho : ∀ k, k < W.heap.size → own' k = own k) : DoS w w1 z d eb l vm sm tm am h pre D M E' own' ev F G W' := by
  have hw := hS.led.bel.size
  have hk0 : ∀ k, own k = none → k < W.heap.size → W'.heap[k]? = W.heap[k]? := fun k h1 h2 => hc.block k h2 fun hh => hh h1
  refine ⟨hS.led.move hc (fun k hk hs => ⟨.inr (.inr (.inl hs)), hS.lo k hs⟩) (fun k hk => ?_), (hk0 z hS.nz (lt_of_block hS.zon)).trans hS.zon, hE, fun k hk => (hk0 k (hS.fz k hk).2.1 (hS.flt (.inl hk))).trans (hS.same k hk), fun k hk => ⟨(hS.fz k hk).1, (ho k (hS.flt (.inl hk))).trans (hS.fz k hk).2.1, (hS.fz k hk).2.2⟩, (ho z (lt_of_block hS.zon)).trans hS.nz, fun k hk => ⟨(hS.ne k hk).1, (ho k (hS.flt (.inr (.inr (.inr (.inl hk)))))).trans (hS.ne k hk).2⟩, fun k hk => ⟨(hS.gz k hk).1, (ho k (hS.flt (.inr (.inr (.inr (.inr hk)))))).trans (hS.gz k hk).2.1, (hS.gz k hk).2.2⟩, hS.lz, fun k hk => ?_, hS.le, hS.lg⟩
  · rcases hk with hk | hk | hk | hk | hk
    · exact ⟨.inl (.inl hk), Nat.lt_of_lt_of_le (hS.flt (.inl hk)) hc.size⟩
    · exact ⟨.inl (.inr (.inl hk)), Nat.lt_of_lt_of_le (hS.flt (.inr (.inl hk))) hc.size⟩
    · refine ⟨?_, hE.oLt k hk⟩
      by_cases h1 : k < W.heap.size
      · exact .inl (.inr (.inr (.inl (by rw [← ho k h1]; exact hk))))
      · exact .inr (by omega)
    · exact ⟨.inl (.inr (.inr (.inr (.inl hk)))), Nat.lt_of_lt_of_le (hS.flt (.inr (.inr (.inr (.inl hk))))) hc.size⟩
    · exact ⟨.inl (.inr (.inr (.inr (.inr hk)))), Nat.lt_of_lt_of_le (hS.flt (.inr (.inr (.inr (.inr hk))))) hc.size⟩
  · by_cases h1 : k < W.heap.size
    · exact hS.lo k (by rw [← ho k h1]; exact hk)
    · omega
/-- The zone's own cells have turned; its events may be new. -/
theorem DoS.set (hS : DoS w w1 z d eb l vm sm tm am h pre D M E own ev F G W) (hc : Chg (fun k => k = z) W W') (hz : W'.heap[z]? = some (ZoneO h eb l ev' false)) (he : ∀ k, ev'.ownBlock = some k → ev.ownBlock = some k ∨ W.heap.size ≤ k ∧ k < W'.heap.size) : DoS w w1 z d eb l vm sm tm am h pre D M E own ev' F G W' := by
  have hw := hS.led.bel.size
  have hnew : ∀ k, W.heap.size ≤ k → k ≠ z ∧ own k = none ∧ ¬ F k ∧ ¬ G k := fun k hk => ⟨fun e => by have := hS.flt (.inr (.inl e)); omega, Classical.byContradiction fun hh => by have := hS.flt (.inr (.inr (.inl hh))); omega, fun e => by have := hS.flt (.inl e); omega, fun e => by have := hS.flt (.inr (.inr (.inr (.inr e)))); omega⟩
  have hne : ∀ k, own k ≠ none → k ≠ z := fun k hk e => by rw [e] at hk; exact hk hS.nz
  refine ⟨hS.led.move hc (fun k hk hs => ⟨.inr (.inl hs), by rw [hs]; exact hS.lz⟩) (fun k hk => ?_), hz, hS.eco.keep (fun k hk => hc.block k (hS.eco.oLt k hk) (hne k hk)) hc.size, fun k hk => (hc.block k (hS.flt (.inl hk)) (hS.fz k hk).1).trans (hS.same k hk), fun k hk => ⟨(hS.fz k hk).1, (hS.fz k hk).2.1, fun e => ?_, (hS.fz k hk).2.2.2⟩, hS.nz, fun k hk => ?_, fun k hk => ⟨(hS.gz k hk).1, (hS.gz k hk).2.1, fun e => ?_⟩, hS.lz, hS.lo, fun k hk => ?_, hS.lg⟩
  · rcases hk with hk | hk | hk | hk | hk
    · exact ⟨.inl (.inl hk), Nat.lt_of_lt_of_le (hS.flt (.inl hk)) hc.size⟩
    · exact ⟨.inl (.inr (.inl hk)), Nat.lt_of_lt_of_le (hS.flt (.inr (.inl hk))) hc.size⟩
    · exact ⟨.inl (.inr (.inr (.inl hk))), Nat.lt_of_lt_of_le (hS.flt (.inr (.inr (.inl hk)))) hc.size⟩
    · rcases he k hk with h1 | h1
      · exact ⟨.inl (.inr (.inr (.inr (.inl h1)))), Nat.lt_of_lt_of_le (hS.flt (.inr (.inr (.inr (.inl h1))))) hc.size⟩
      · exact ⟨.inr h1.1, h1.2⟩
    · exact ⟨.inl (.inr (.inr (.inr (.inr hk)))), Nat.lt_of_lt_of_le (hS.flt (.inr (.inr (.inr (.inr hk))))) hc.size⟩
  · rcases he k e with h1 | h1
    · exact (hS.fz k hk).2.2.1 h1
    · exact (hnew k h1.1).2.2.1 hk
  · rcases he k hk with h1 | h1
    · exact hS.ne k h1
    · exact ⟨(hnew k h1.1).1, (hnew k h1.1).2.1⟩
  · rcases he k e with h1 | h1
    · exact (hS.gz k hk).2.2 h1
    · exact (hnew k h1.1).2.2.2 hk
  · rcases he k hk with h1 | h1
    · exact hS.le k h1
    · omega
/-- The ledger has turned. -/
theorem DoS.wrote (hS : DoS w w1 z d eb l vm sm tm am h pre D M E own ev F G W) (hL : LedF w W' l d pre D' M' (fun k => F k ∨ k = z ∨ own k ≠ none ∨ ev.ownBlock = some k ∨ G k)) (hs : Same (fun k => F k ∨ k = z ∨ own k ≠ none ∨ ev.ownBlock = some k ∨ G k) W W') : DoS w w1 z d eb l vm sm tm am h pre D' M' E own ev F G W' :=
  ⟨hL, (hs z (.inr (.inl rfl))).trans hS.zon, hS.eco.keep2 fun k hk => hs k (.inr (.inr (.inl hk))), fun k hk => (hs k (.inl hk)).trans (hS.same k hk), hS.fz, hS.nz, hS.ne, hS.gz, hS.lz, hS.lo, hS.le, hS.lg⟩
end
end Go.Proofs.YtogdfkilhpkloaaGreatDoor

namespace Go.Proofs.YtogdfkilhpkloaaGreatDoor
open Go.RowKit Go.Sat Go.Maps

section
variable {w w1 W : World} {z d eb l vm sm tm am : Nat} {h : HeadM} {pre : ByteArray} {D : DiskM} {M : LedM} {E : EcoR} {own : Nat → Option (Nat × Bs)} {ev : Value} {F G : Nat → Prop}
set_option maxHeartbeats 1000000 in
theorem zdies_calls (hS : DoS w w1 z d eb l vm sm tm am h pre D M E own ev F G W) : Calls Tryz.prog 56 #[.pointer (some ⟨z, 0, none⟩), .int .i64 0] W fun e w' => e = .returned (.int .i64 0) ∧ DoS w w1 z d eb l vm sm tm am h pre D M E own ev F G w' ∧ Chg (fun k => k = z) W w' := by
  have H := Lib.hid hS
  have c8 := cell_of hS.zon (i := 8) (v := .bool false) rfl
  have f8 := frozen_of hS.zon 8
  clear hS
  go_enter Tryz.func56, Tryz.ntmps56
  go_wp2_with fail
  go_ret
  have hs := set_block H.out.zon 8 (.bool false)
  exact ⟨rfl, H.out.set (Chg.setCell W ⟨z, 8, none⟩ (.bool false)) hs fun k hk => .inl hk, Chg.setCell W ⟨z, 8, none⟩ (.bool false)⟩
set_option maxHeartbeats 1000000 in
theorem ztidies_calls (hS : DoS w w1 z d eb l vm sm tm am h pre D M E own ev F G W) (hm : M.last < M.base + 16) : Calls Tryz.prog 58 #[.pointer (some ⟨z, 0, none⟩)] W fun e w' => e = .returned (.int .i64 0) ∧ Below W.heap.size W w' := by
  have Hb := Lib.hid (base_calls hS.led)
  have Hl := Lib.hid (fun W' (hb : Below W.heap.size W W') => last_calls (hS.led.next hb))
  have hla := hS.led.last
  have hba : M.base ≤ 1099511627776 := by
    have : M.base ≤ M.last := by unfold LedM.last; omega
    omega
  have c6 := cell_of hS.zon (i := 6) (v := .pointer (some ⟨l, 0, none⟩)) rfl
  have Hz := Lib.hid hS.zon
  clear hS
  go_enter Tryz.func58, Tryz.ntmps58
  go_wp2_with fail
  refine Hb.out.mono ?_
  rintro e w2 ⟨v, rfl, hg⟩
  have HB := Lib.hid (show Below W.heap.size W w2 from hg.2.2)
  clear hg
  have c6 := cell_of ((HB.out.block _ (lt_of_block Hz.out)).trans Hz.out) (i := 6) (v := .pointer (some ⟨l, 0, none⟩)) rfl
  go_wp2_with fail
  refine (Hl.out _ HB.out).mono ?_
  rintro e w3 ⟨rfl, q, rfl⟩
  have hlt : (M.last : Int) - M.base < 16 := by omega
  go_wp2_with fail
  go_ret
  exact ⟨rfl, HB.out.trans ⟨rfl, rfl, rfl, Nat.le_refl _, fun _ _ => rfl⟩⟩
end
end Go.Proofs.YtogdfkilhpkloaaGreatDoor
