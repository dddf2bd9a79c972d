/- A vault whose book has no offers: where it lies in memory. vault.Put. (Printed by mkz2.py.) The contract of Rename. The contract of List. The names in a vault, in order. A book of no offers: its piles, its list, its length. A book of no offers: its list. vault.List, of a vault without offers. Requests in the program: their values, what is left of one, are two alike. Which requests may be: the tests. Printed by mkopx.py. -/
import Derived.Deep.CutBlock
import Derived.Deep.DeepCutAuto
import Derived.Deep.RegionHeld3
import Derived.OwnWalk
import Derived.StillTailTactics
import Derived.Test.YtogdfkilhpkloaaGreatDoorBA
import Derived.Test.YtogdfkilhpkloaaGreatDoorBB
import Derived.Test.YtogdfkilhpkloaaGreatDoorBC
import Derived.Test.YtogdfkilhpkloaaGreatDoorBD
import Derived.Test.YtogdfkilhpkloaaGreatDoorIter
import Derived.Test.YtogdfkilhpkloaaGreatDoorShelf
namespace Go.Proofs.YtogdfkilhpkloaaGreatDoor
open Go.RowKit Go.Sat Go.Maps

/-- A book of no offers, as it is made. -/
def BookO : Obj := .cells #[.slice none 0 0, .slice none 0 0, .slice none 0 0, .slice none 0 0, .slice none 0 0, .slice none 0 0, .slice none 0 0, .slice none 0 0, .int .i64 0] 373 (0, 0)
def VaultO (pm bb : Nat) : Obj := .cells #[.map (some pm), .pointer (some ⟨bb, 0, none⟩), .int .i64 1] 280 (0, 0)
/-- A vault at block vb: what purses have. -/
structure VaultIn (w : World) (vb pm bb : Nat) (V : List (Bs × It)) : Prop where
  cells : w.heap[vb]? = some (VaultO pm bb)
  map : MapIs w Tryz.prog 9 (strK Tryz.underlying9) itE pm V
  book : w.heap[bb]? = some BookO
  n1 : vb ≠ pm
  n2 : vb ≠ bb
  n3 : pm ≠ bb
theorem VaultIn.keep {w w' : World} {vb pm bb : Nat} {V : List (Bs × It)} (h : VaultIn w vb pm bb V) (hs : ∀ k, k = vb ∨ k = pm ∨ k = bb → w'.heap[k]? = w.heap[k]?) : VaultIn w' vb pm bb V :=
  ⟨(hs vb (.inl rfl)).trans h.cells, h.map.keep (hs pm (.inr (.inl rfl))), (hs bb (.inr (.inr rfl))).trans h.book, h.n1, h.n2, h.n3⟩
theorem VaultIn.lt {w : World} {vb pm bb : Nat} {V : List (Bs × It)} (h : VaultIn w vb pm bb V) {k : Nat} (hk : k = vb ∨ k = pm ∨ k = bb) : k < w.heap.size := by
  rcases hk with rfl | rfl | rfl
  · exact lt_of_block h.cells
  · exact h.map.lt
  · exact lt_of_block h.book
set_option maxRecDepth 100000 in
set_option maxHeartbeats 4000000 in
theorem booknew_calls (w : World) : Calls Tryz.prog 275 #[] w fun e w' => e = .returned (.pointer (some ⟨w.heap.size, 0, none⟩)) ∧ w' = w.alloc BookO := by
  go_enter Tryz.func275, Tryz.ntmps275
  go_wp2_with fail
  go_ret
  exact ⟨rfl, rfl⟩
set_option maxRecDepth 100000 in
set_option maxHeartbeats 4000000 in
theorem vaultnew_calls (w : World) : Calls Tryz.prog 215 #[] w fun e w' => ∃ vb pm bb, e = .returned (.pointer (some ⟨vb, 0, none⟩)) ∧ VaultIn w' vb pm bb [] ∧ (∀ k, k = vb ∨ k = pm ∨ k = bb → w.heap.size ≤ k) ∧ Below w.heap.size w w' := by
  have Hb := Lib.hid (fun W => booknew_calls W)
  have hmm := @run_makeMap Tryz.prog
  go_enter Tryz.func215, Tryz.ntmps215
  go_wp2_with fail
  refine (Hb.out _).mono ?_
  rintro e w2 ⟨rfl, rfl⟩
  go_wp2_with fail
  go_ret
  have b1 := box_below w (.map #[] 0)
  have b2 := b1.trans ((box_below (w.alloc (.map #[] 0)) BookO).mono b1.size)
  have b3 := b2.trans ((box_below ((w.alloc (.map #[] 0)).alloc BookO) (VaultO w.heap.size (w.heap.size + 1))).mono b2.size)
  have e1 : (w.alloc (.map #[] 0)).heap.size = w.heap.size + 1 := by simp
  have e2 : ((w.alloc (.map #[] 0)).alloc BookO).heap.size = w.heap.size + 2 := by simp
  have hn0 := new_block ((w.alloc (.map #[] 0)).alloc BookO) (VaultO w.heap.size (w.heap.size + 1))
  rw [e2] at hn0
  have hb0 := old_block (VaultO w.heap.size (w.heap.size + 1)) (new_block (w.alloc (.map #[] 0)) BookO)
  rw [e1] at hb0
  have hm : MapIs (w.alloc (.map #[] 0)) Tryz.prog 9 (strK Tryz.underlying9) itE w.heap.size [] := mapIs_made w
  have hm2 := (hm.keep ((box_below (w.alloc (.map #[] 0)) BookO).block w.heap.size (by simp))).keep ((box_below ((w.alloc (.map #[] 0)).alloc BookO) (VaultO w.heap.size (w.heap.size + 1))).block w.heap.size (by simp; omega))
  exact ⟨w.heap.size + 2, w.heap.size, w.heap.size + 1, rfl, ⟨hn0, hm2, hb0, by omega, by omega, by omega⟩, by rintro k (rfl | rfl | rfl) <;> omega, b3⟩
/-- A name that a purse may have. -/
def isWho (s : ByteArray) : Bool := decide (1 ≤ s.size) && decide (s.size ≤ 16)
set_option maxRecDepth 100000 in
set_option maxHeartbeats 4000000 in
theorem iswho_calls (w : World) (s : ByteArray) (hs : s.size ≤ 9223372036854775807) : Calls Tryz.prog 216 #[.string s] w fun e w' => e = .returned (.bool (isWho s)) ∧ w' = w := by
  generalize hR : isWho s = R
  have HR := Lib.hid hR
  clear hR
  go_enter Tryz.func216, Tryz.ntmps216
  go_wp2_with fail
  all_goals
    go_ret
    refine ⟨?_, rfl⟩
    rw [← HR.out]
    congr 2
    simp_all [isWho]
    first | done | omega | (rw [Bool.eq_iff_iff]; simp; omega)
def itsOf (V : List (Bs × It)) (who : ByteArray) : It := (kget (nm who) V).getD It.zero
def laysM (V : List (Bs × It)) (who : ByteArray) (x : It) : List (Bs × It) := if x = It.zero then kdel (nm who) V else kput (nm who) x V
/-- What a thing done with a vault leaves. -/
def VTold (w : World) (vb pm bb : Nat) (V' : List (Bs × It)) (w' : World) : Prop := VaultIn w' vb pm bb V' ∧ Chg (fun k => k = pm) w w'
theorem it_agg (x : It) : x.v = .agg #[.int .i64 x.a, .int .i64 x.b, .int .i64 x.c, .int .i64 x.d] := rfl
theorem turned_chg {w w' : World} {b : Nat} (h : w.mapTurned w' b) : Chg (fun k => k = b) w w' := (Chg.of_grown h.grown).mono fun _ _ e => Option.some.inj e
theorem lays_fin {w w' : World} {vb pm bb : Nat} {V V' : List (Bs × It)} (h : VaultIn w vb pm bb V) (hc : Chg (fun k => k = pm) w w') (hm : MapIs w' Tryz.prog 9 (strK Tryz.underlying9) itE pm V') : VTold w vb pm bb V' w' :=
  ⟨⟨(hc.block vb (h.lt (.inl rfl)) h.n1).trans h.cells, hm, (hc.block bb (h.lt (.inr (.inr rfl))) (Ne.symm h.n3)).trans h.book, h.n1, h.n2, h.n3⟩, hc⟩
set_option maxRecDepth 100000 in
set_option maxHeartbeats 4000000 in
theorem lays_calls {w : World} {vb pm bb : Nat} {V : List (Bs × It)} (h : VaultIn w vb pm bb V) (who : ByteArray) (hw : who.size ≤ maxLen) (x : It) (hx : x.wf) (hn : V.length < maxLen) :
    Calls Tryz.prog 218 #[.pointer (some ⟨vb, 0, none⟩), .string who, .agg #[.int .i64 x.a, .int .i64 x.b, .int .i64 x.c, .int .i64 x.d]] w fun e w' => e = .returned (.tuple #[]) ∧ VTold w vb pm bb (laysM V who x) w' := by
  have c0 : w.cell? ⟨vb, 0, none⟩ = some (.map (some pm)) := cell_of h.cells rfl
  have Hq := Lib.hid (fun W => it_eq W x It.zero hx (It.wf_of rfl))
  have hzv := it_agg It.zero
  have H := Lib.hid h
  clear h
  have HB := Lib.hid (box_below w (It.o x))
  have d0 : (w.alloc (.cells #[.int .i64 x.a, .int .i64 x.b, .int .i64 x.c, .int .i64 x.d] 46)).cell? ⟨vb, 0, none⟩ = some (.map (some pm)) := cell_of (old_block _ H.out.cells) rfl
  have hwk : (strK (P := Tryz.prog) Tryz.underlying9).ok (nm who) := by show (nm who).length ≤ maxLen; rw [nm_len]; exact hw
  have hkv : (strK (P := Tryz.prog) Tryz.underlying9).v (nm who) = .string who := strK_v _ who
  have Hk := Lib.hid (And.intro hwk hkv)
  clear hwk hkv
  by_cases hz : x = It.zero
  · have hq : ∀ W : World, (Op.equalIn 10000 46 (.agg #[.int .i64 x.a, .int .i64 x.b, .int .i64 x.c, .int .i64 x.d]) (.agg #[.int .i64 0, .int .i64 0, .int .i64 0, .int .i64 0])).run Tryz.prog W = .ok true W := fun W => by
      have h := Hq.out W
      rw [decide_eq_true hz] at h
      exact h
    obtain ⟨w1, hrun, hm, ht⟩ := (H.out.map.keep (HB.out.block pm H.out.map.lt)).drop strKeyed Tryz.underlying277 Hk.out.1 0
    rw [Hk.out.2] at hrun
    have hrun : (Builtin.delete_ #[277, 9] 0 #[.map (some pm), .string who]).run Tryz.prog (w.alloc (.cells #[.int .i64 x.a, .int .i64 x.b, .int .i64 x.c, .int .i64 x.d] 46)) = .ok (.tuple #[]) w1 := hrun
    have hY := new_block w (.cells #[.int .i64 x.a, .int .i64 x.b, .int .i64 x.c, .int .i64 x.d] 46)
    have y0 := cell_of hY (i := 0) rfl
    have y1 := cell_of hY (i := 1) rfl
    have y2 := cell_of hY (i := 2) rfl
    have y3 := cell_of hY (i := 3) rfl
    have Hm := Lib.hid (And.intro hm ht)
    have Hz := Lib.hid hz
    clear hm ht hz hY
    go_enter Tryz.func218, Tryz.ntmps218
    go_wp2_with fail
    refine bodyPost_ret (results_none rfl _ _ _) rfl ?_
    refine ⟨rfl, ?_⟩
    have hc : Chg (fun k => k = pm) w w1 := ((Chg.of_below HB.out).mono fun _ _ e => e.elim : Chg (fun k => k = pm) w _).trans (turned_chg Hm.out.2) fun _ _ e => e
    exact lays_fin H.out hc (by rw [show laysM V who x = kdel (nm who) V from if_pos Hz.out]; exact Hm.out.1)
  · have hq : ∀ W : World, (Op.equalIn 10000 46 (.agg #[.int .i64 x.a, .int .i64 x.b, .int .i64 x.c, .int .i64 x.d]) (.agg #[.int .i64 0, .int .i64 0, .int .i64 0, .int .i64 0])).run Tryz.prog W = .ok false W := fun W => by
      have h := Hq.out W
      rw [decide_eq_false hz] at h
      exact h
    obtain ⟨w1, hrun, hm, ht⟩ := ((H.out.map.keep (HB.out.block pm H.out.map.lt)).keep (w' := (w.alloc (It.o x)).drew) rfl).store strKeyed Tryz.underlying277 hn Hk.out.1 (x := x) trivial
    rw [Hk.out.2] at hrun
    have hrun : (Instr.mapUpdate 277 (.map (some pm)) (.string who) (.agg #[.int .i64 x.a, .int .i64 x.b, .int .i64 x.c, .int .i64 x.d])).run Tryz.prog (w.alloc (.cells #[.int .i64 x.a, .int .i64 x.b, .int .i64 x.c, .int .i64 x.d] 46)).drew = .ok () w1 := hrun
    have hY := new_block w (.cells #[.int .i64 x.a, .int .i64 x.b, .int .i64 x.c, .int .i64 x.d] 46)
    have y0 := cell_of hY (i := 0) rfl
    have y1 := cell_of hY (i := 1) rfl
    have y2 := cell_of hY (i := 2) rfl
    have y3 := cell_of hY (i := 3) rfl
    have Hm := Lib.hid (And.intro hm ht)
    have Hz := Lib.hid hz
    clear hm ht hz hY
    go_enter Tryz.func218, Tryz.ntmps218
    go_wp2_with fail
    generalize w.alloc (.cells #[.int .i64 x.a, .int .i64 x.b, .int .i64 x.c, .int .i64 x.d] 46) = W1 at *
    go_still_tail 6, (by kernel_rfl)
    change wpList _ _ _ _ _ W1.drew
    go_wp2_with fail
    go_end0
    refine ⟨rfl, ?_⟩
    have hc : Chg (fun k => k = pm) w w1 := (((Chg.of_below HB.out).mono fun _ _ e => e.elim : Chg (fun k => k = pm) w _).trans (Chg.drew _) fun _ _ e => e.elim).trans (turned_chg Hm.out.2) fun _ _ e => e
    exact lays_fin H.out hc (by rw [show laysM V who x = kput (nm who) x V from if_neg Hz.out]; exact Hm.out.1)
end Go.Proofs.YtogdfkilhpkloaaGreatDoor

namespace Go.Proofs.YtogdfkilhpkloaaGreatDoor
open Go.RowKit Go.Sat Go.Maps

def putM (V : List (Bs × It)) (who : ByteArray) (x : It) : List (Bs × It) × Nat :=
  if isWho who = true ∧ isAll x = true then (if (itsOf V who).add2ok x = true then (laysM V who ((itsOf V who).add2 x), 0) else (V, 6)) else (V, 1)
/-- What stays while a region of Put is walked. -/
structure PutS (w : World) (vb pm bb b : Nat) (V : List (Bs × It)) (x : It) (w' : World) : Prop where
  v : VaultIn w' vb pm bb V
  x : w'.heap[b]? = some (It.o x)
  bel : Below w.heap.size w w'
/-- A block of the region's own. -/
def PutQ (_w1 : World) (vb pm bb b q : Nat) (w : World) : Prop := (∀ k, (k = vb ∨ k = pm ∨ k = bb) ∨ k = b → k ≠ q) ∧ w.heap.size ≤ q
theorem PutQ.mk' {w w1 : World} {vb pm bb b : Nat} {V : List (Bs × It)} {x : It} (h : PutS w vb pm bb b V x w1) : PutQ w1 vb pm bb b w1.heap.size w := by
  refine ⟨fun k hk e => ?_, h.bel.size⟩
  subst e
  rcases hk with hk | hk
  · exact Nat.lt_irrefl _ (h.v.lt hk)
  · exact Nat.lt_irrefl _ (hk ▸ lt_of_block h.x)
theorem PutS.next {w w1 w2 : World} {vb pm bb b : Nat} {V : List (Bs × It)} {x : It} (h : PutS w vb pm bb b V x w1) (hb : Below w1.heap.size w1 w2) : PutS w vb pm bb b V x w2 :=
  ⟨h.v.keep fun k hk => hb.block k (h.v.lt hk), (hb.block b (lt_of_block h.x)).trans h.x, h.bel.trans (hb.mono h.bel.size)⟩
theorem PutS.drew {w w1 : World} {vb pm bb b : Nat} {V : List (Bs × It)} {x : It} (h : PutS w vb pm bb b V x w1) : PutS w vb pm bb b V x w1.drew := h.next ⟨rfl, rfl, rfl, Nat.le_refl _, fun _ _ => rfl⟩
theorem PutS.fin {w w1 : World} {vb pm bb b q : Nat} {V : List (Bs × It)} {x z : It} (h : PutS w vb pm bb b V x w1) (hq : w1.heap[q]? = some (It.o z)) (hqn : PutQ w1 vb pm bb b q w) (y : It) :
    PutS w vb pm bb b V x ((((w1.setCell ⟨q, 0, none⟩ (.int .i64 y.a)).setCell ⟨q, 1, none⟩ (.int .i64 y.b)).setCell ⟨q, 2, none⟩ (.int .i64 y.c)).setCell ⟨q, 3, none⟩ (.int .i64 y.d)) ∧ ((((w1.setCell ⟨q, 0, none⟩ (.int .i64 y.a)).setCell ⟨q, 1, none⟩ (.int .i64 y.b)).setCell ⟨q, 2, none⟩ (.int .i64 y.c)).setCell ⟨q, 3, none⟩ (.int .i64 y.d)).heap[q]? = some (It.o y) := by
  have hc := chg4 w1 q (.int .i64 y.a) (.int .i64 y.b) (.int .i64 y.c) (.int .i64 y.d)
  refine ⟨⟨h.v.keep fun k hk => hc.block k (h.v.lt hk) (hqn.1 k (.inl hk)), (hc.block b (lt_of_block h.x) (hqn.1 b (.inr rfl))).trans h.x, ?_⟩, put4 hq _ _ _ _⟩
  exact (((Chg.of_below h.bel).mono fun _ _ e => e.elim : Chg (fun k => k = q) w w1).trans hc fun _ _ e => e).below (Nat.le_refl _) fun k hk e => by have := hqn.2; omega
theorem itsOf_look {w : World} {vb pm bb : Nat} {V : List (Bs × It)} (h : VaultIn w vb pm bb V) (who : ByteArray) (hw : who.size ≤ maxLen) :
    (Instr.lookup 277 (.map (some pm)) (.string who) false).run Tryz.prog w = .ok (.agg #[.int .i64 (itsOf V who).a, .int .i64 (itsOf V who).b, .int .i64 (itsOf V who).c, .int .i64 (itsOf V who).d]) w := by
  have h1 := h.map.look strKeyed Tryz.underlying277 (by kernel_rfl) (a := nm who) (by show (nm who).length ≤ maxLen; rw [nm_len]; exact hw)
  rw [show (strK (P := Tryz.prog) Tryz.underlying9).v (nm who) = .string who from strK_v _ who] at h1
  rw [h1]
  unfold itsOf
  cases kget (nm who) V <;> rfl
set_option maxRecDepth 100000 in
set_option maxHeartbeats 16000000 in
theorem put_calls {w : World} {vb pm bb : Nat} {V : List (Bs × It)} (h : VaultIn w vb pm bb V) (who : ByteArray) (hw : who.size ≤ maxLen) (x : It) (hn : V.length < maxLen) (hvi : (itsOf V who).is = true) :
    Calls Tryz.prog 184 #[.pointer (some ⟨vb, 0, none⟩), .string who, .agg #[.int .i64 x.a, .int .i64 x.b, .int .i64 x.c, .int .i64 x.d]] w fun e w' => e = .returned (.int .i64 ((putM V who x).2 : Int)) ∧ VTold w vb pm bb (putM V who x).1 w' := by
  have c0 : w.cell? ⟨vb, 0, none⟩ = some (.map (some pm)) := cell_of h.cells rfl
  have H := Lib.hid h
  have hws : who.size ≤ 9223372036854775807 := Nat.le_trans hw (by decide)
  have Hwho := Lib.hid (fun W => iswho_calls W who hws)
  have His := Lib.hid (fun W => purseis_calls W x.a x.b x.c x.d)
  have H1 := Lib.hid (show PutS w vb pm bb w.heap.size V x (w.alloc (It.o x)) from ⟨h.keep fun k hk => (box_below w (It.o x)).block k (h.lt hk), new_block w (It.o x), box_below w (It.o x)⟩)
  have Hbad := Lib.hid (fun (h1 : ¬ (isWho who = true ∧ isAll x = true)) => (show putM V who x = (V, 1) from if_neg h1))
  have Hfull := Lib.hid (fun (h1 : isWho who = true) (h2 : isAll x = true) (h3 : ¬ (itsOf V who).add2ok x = true) => (show putM V who x = (V, 6) from (if_pos ⟨h1, h2⟩).trans (if_neg h3)))
  have Hgood := Lib.hid (fun (h1 : isWho who = true) (h2 : isAll x = true) (h3 : (itsOf V who).add2ok x = true) => (show putM V who x = (laysM V who ((itsOf V who).add2 x), 0) from (if_pos ⟨h1, h2⟩).trans (if_pos h3)))
  generalize putM V who x = Z at *
  clear h
  go_enter Tryz.func184, Tryz.ntmps184
  go_wp2_with fail
  refine (Hwho.out _).mono ?_
  rintro e w2 ⟨rfl, rfl⟩
  cases hi : isWho who with
  | false =>
    obtain rfl := Hbad.out (fun h => by rw [hi] at h; cases h.1)
    go_wp2_with fail
    go_ret
    exact ⟨rfl, ⟨H1.out.v, (Chg.of_below H1.out.bel).mono fun _ _ e => e.elim⟩⟩
  | true =>
    go_wp2_with fail
    refine (His.out _).mono ?_
    rintro e w3 ⟨rfl, hb3⟩
    have H3 := Lib.hid (H1.out.next hb3)
    clear hb3
    cases hx : isAll x with
    | false =>
      obtain rfl := Hbad.out (fun h => by rw [hx] at h; cases h.2)
      go_wp2_with fail
      go_ret
      exact ⟨rfl, ⟨H3.out.v, (Chg.of_below H3.out.bel).mono fun _ _ e => e.elim⟩⟩
    | true =>
      go_wp2_with fail
      go_upto_region 3 with (fail)
      generalize w.heap.size = b at H1 H3
      go_cut [7, 8] (fun s7 s8 wx => ∃ q, s7 = .pointer (some ⟨q, 0, none⟩) ∧ s8 = .bool ((itsOf V who).add2ok x) ∧ wx.heap[q]? = some (It.o ((itsOf V who).add2 x)) ∧ PutS w vb pm bb b V x wx)
      case first =>
        refine ord_start (PutS w vb pm bb b V x) (n := 15) (by kernel_rfl) rfl H3.out.drew (fun hHeld => ?_)
        have H := Lib.hid H3.out.drew
        clear H3 H1
        generalize w3.drew = W0 at *
        refine Pl [0,1,2,3,4,5,6] ?_
        iterate 3 (refine Pc rfl ?_; simp only [Act.put, uA, uB, uC])
        refine Pd rfl (by intro w hSw; have e0 : w.cell? ⟨vb, 0, none⟩ = some (.map (some pm)) := cell_of hSw.v.cells rfl; go_simp; try with_reducible rfl) ?_; simp only [Act.put, uA, uB, uC]
        refine Pc rfl ?_; simp only [Act.put, uA, uB, uC]
        refine Pd rfl (by intro w hSw; have e0 := itsOf_look hSw.v who hw; go_simp; try with_reducible rfl) ?_; simp only [Act.put, uA, uB, uC]
        refine Pd rfl (by intro w hSw; have e0 := cell_of hSw.x (i := 0) rfl; have e1 := cell_of hSw.x (i := 1) rfl; have e2 := cell_of hSw.x (i := 2) rfl; have e3 := cell_of hSw.x (i := 3) rfl; go_simp; try with_reducible rfl) ?_; simp only [Act.put, uA, uB, uC]
        refine Pn ?_
        refine ord_pair 7 12 rfl rfl (by kernel_rfl) (by rfl) (by rfl) (fun K hK => ?_) (fun K hK => ?_)
        · have hbb := box_below W0 (.cells #[.int .i64 (itsOf V who).a, .int .i64 (itsOf V who).b, .int .i64 (itsOf V who).c, .int .i64 (itsOf V who).d, .int .i64 x.a, .int .i64 x.b, .int .i64 x.c, .int .i64 x.d] 46)
          have hS := H.out.next hbb
          have hG := new_block W0 (.cells #[.int .i64 (itsOf V who).a, .int .i64 (itsOf V who).b, .int .i64 (itsOf V who).c, .int .i64 (itsOf V who).d, .int .i64 x.a, .int .i64 x.b, .int .i64 x.c, .int .i64 x.d] 46)

          go_wp2_with fail
          refine hK.out _ _ hS (fun hHeld => ?_)
          clear hK
          have H0 := Lib.hid hS
          have Hg := Lib.hid hG

          clear H hS hG hbb
          have H := H0
          clear H0
          generalize W0.alloc (.cells #[.int .i64 (itsOf V who).a, .int .i64 (itsOf V who).b, .int .i64 (itsOf V who).c, .int .i64 (itsOf V who).d, .int .i64 x.a, .int .i64 x.b, .int .i64 x.c, .int .i64 x.d] 46) = Wb1 at *
          generalize W0.heap.size = g at *
          try simp only [Act.put, uA, uB, uC]
          refine ord_pair 8 12 rfl rfl (by kernel_rfl) (by rfl) (by rfl) (fun K hK => ?_) (fun K hK => ?_)
          · have Had := Lib.hid (purseadd2_calls Wb1 (itsOf V who) x g (0, 0) Hg.out 2)
            go_wp2_with fail
            refine Had.out.mono ?_
            rintro e Wb3 ⟨he, hb8⟩
            obtain rfl : e = .returned (.tuple #[.agg #[.int .i64 ((itsOf V who).add2 x).a, .int .i64 ((itsOf V who).add2 x).b, .int .i64 ((itsOf V who).add2 x).c, .int .i64 ((itsOf V who).add2 x).d], .bool ((itsOf V who).add2ok x)]) := he
            have H0 := Lib.hid (H.out.next hb8)
            clear H Had hb8 Hg
            have H := H0

            clear H0
            go_wp2_with fail
            refine hK.out _ _ H.out (fun hHeld => ?_)
            clear hK
            try simp only [Act.put, uA, uB, uC]
            refine Pl [9,10,11] ?_
            iterate 3 (refine Pc rfl ?_; simp only [Act.put, uA, uB, uC])
            refine Pn ?_
            refine ord_one 12 rfl (by kernel_rfl) (by rfl) (fun K hK => ?_)
            have hbb := box_below Wb3 (.cells #[.int .i64 0, .int .i64 0, .int .i64 0, .int .i64 0] 46)
            have hS := H.out.next hbb
            have hQ := new_block Wb3 (.cells #[.int .i64 0, .int .i64 0, .int .i64 0, .int .i64 0] 46)
            go_wp2_with fail
            refine hK.out _ _ hS (fun hHeld => ?_)
            clear hK
            have H0 := Lib.hid hS
            have Hq := Lib.hid hQ
            have Hqn := Lib.hid (PutQ.mk' H.out)
            clear H hS hQ hbb
            have H := H0

            clear H0
            generalize Wb3.alloc (.cells #[.int .i64 0, .int .i64 0, .int .i64 0, .int .i64 0] 46) = Wb5 at *
            generalize Wb3.heap.size = q at *
            try simp only [Act.put, uA, uB, uC]
            have z0 : Wb5.cell? ⟨q, 0, none⟩ = some (.int .i64 0) := cell_of Hq.out rfl
            have z1 : Wb5.cell? ⟨q, 1, none⟩ = some (.int .i64 0) := cell_of Hq.out rfl
            have z2 : Wb5.cell? ⟨q, 2, none⟩ = some (.int .i64 0) := cell_of Hq.out rfl
            have z3 : Wb5.cell? ⟨q, 3, none⟩ = some (.int .i64 0) := cell_of Hq.out rfl
            have f0 := frozen_of Hq.out 0
            have f1 := frozen_of Hq.out 1
            have f2 := frozen_of Hq.out 2
            have f3 := frozen_of Hq.out 3
            have hF := PutS.fin (z := It.zero) H.out Hq.out Hqn.out ((itsOf V who).add2 x)
            clear H
            refine ord_one 13 rfl (by kernel_rfl) (by rfl) (fun K hK => ?_)
            go_wp2_with fail
            refine hK.out _ _ hF.1 (fun hHeld => ?_)
            clear hK
            try simp only [Act.put, uA, uB, uC]
            refine ord_one 14 rfl (by kernel_rfl) (by rfl) (fun K hK => ?_)
            go_wp2_with fail
            refine hK.out _ _ hF.1 (fun hHeld => ?_)
            clear hK
            refine wpAnyH_done (by kernel_rfl) ?_ _
            have HF := Lib.hid hF
            clear hF
            go_wp2_with fail
            go_meet
            exact ⟨q, rfl, rfl, HF.out.2, HF.out.1⟩
          · have hbb := box_below Wb1 (.cells #[.int .i64 0, .int .i64 0, .int .i64 0, .int .i64 0] 46)
            have hS := H.out.next hbb
            have hQ := new_block Wb1 (.cells #[.int .i64 0, .int .i64 0, .int .i64 0, .int .i64 0] 46)
            have Hg1 := Lib.hid ((hbb.block g (lt_of_block Hg.out)).trans Hg.out)
            go_wp2_with fail
            refine hK.out _ _ hS (fun hHeld => ?_)
            clear hK
            have H0 := Lib.hid hS
            have Hq := Lib.hid hQ
            have Hqn := Lib.hid (PutQ.mk' H.out)
            clear H hS hQ hbb Hg
            have H := H0
            have Hg := Hg1
            clear H0 Hg1
            generalize Wb1.alloc (.cells #[.int .i64 0, .int .i64 0, .int .i64 0, .int .i64 0] 46) = Wb4 at *
            generalize Wb1.heap.size = q at *
            try simp only [Act.put, uA, uB, uC]
            refine ord_one 8 rfl (by kernel_rfl) (by rfl) (fun K hK => ?_)
            have Had := Lib.hid (purseadd2_calls Wb4 (itsOf V who) x g (0, 0) Hg.out 2)
            go_wp2_with fail
            refine Had.out.mono ?_
            rintro e Wb6 ⟨he, hb8⟩
            obtain rfl : e = .returned (.tuple #[.agg #[.int .i64 ((itsOf V who).add2 x).a, .int .i64 ((itsOf V who).add2 x).b, .int .i64 ((itsOf V who).add2 x).c, .int .i64 ((itsOf V who).add2 x).d], .bool ((itsOf V who).add2ok x)]) := he
            have H0 := Lib.hid (H.out.next hb8)
            have Hq1 := Lib.hid ((hb8.block q (lt_of_block Hq.out)).trans Hq.out)
            clear H Had hb8 Hg Hq
            have H := H0
            have Hq := Hq1
            clear H0 Hq1
            go_wp2_with fail
            refine hK.out _ _ H.out (fun hHeld => ?_)
            clear hK
            try simp only [Act.put, uA, uB, uC]
            refine Pl [9,10,11] ?_
            iterate 3 (refine Pc rfl ?_; simp only [Act.put, uA, uB, uC])
            refine Pn ?_
            have z0 : Wb6.cell? ⟨q, 0, none⟩ = some (.int .i64 0) := cell_of Hq.out rfl
            have z1 : Wb6.cell? ⟨q, 1, none⟩ = some (.int .i64 0) := cell_of Hq.out rfl
            have z2 : Wb6.cell? ⟨q, 2, none⟩ = some (.int .i64 0) := cell_of Hq.out rfl
            have z3 : Wb6.cell? ⟨q, 3, none⟩ = some (.int .i64 0) := cell_of Hq.out rfl
            have f0 := frozen_of Hq.out 0
            have f1 := frozen_of Hq.out 1
            have f2 := frozen_of Hq.out 2
            have f3 := frozen_of Hq.out 3
            have hF := PutS.fin (z := It.zero) H.out Hq.out Hqn.out ((itsOf V who).add2 x)
            clear H
            refine ord_one 13 rfl (by kernel_rfl) (by rfl) (fun K hK => ?_)
            go_wp2_with fail
            refine hK.out _ _ hF.1 (fun hHeld => ?_)
            clear hK
            try simp only [Act.put, uA, uB, uC]
            refine ord_one 14 rfl (by kernel_rfl) (by rfl) (fun K hK => ?_)
            go_wp2_with fail
            refine hK.out _ _ hF.1 (fun hHeld => ?_)
            clear hK
            refine wpAnyH_done (by kernel_rfl) ?_ _
            have HF := Lib.hid hF
            clear hF
            go_wp2_with fail
            go_meet
            exact ⟨q, rfl, rfl, HF.out.2, HF.out.1⟩
        · have hbb := box_below W0 (.cells #[.int .i64 0, .int .i64 0, .int .i64 0, .int .i64 0] 46)
          have hS := H.out.next hbb
          have hQ := new_block W0 (.cells #[.int .i64 0, .int .i64 0, .int .i64 0, .int .i64 0] 46)
          go_wp2_with fail
          refine hK.out _ _ hS (fun hHeld => ?_)
          clear hK
          have H0 := Lib.hid hS
          have Hq := Lib.hid hQ
          have Hqn := Lib.hid (PutQ.mk' H.out)
          clear H hS hQ hbb
          have H := H0

          clear H0
          generalize W0.alloc (.cells #[.int .i64 0, .int .i64 0, .int .i64 0, .int .i64 0] 46) = Wb2 at *
          generalize W0.heap.size = q at *
          try simp only [Act.put, uA, uB, uC]
          refine ord_one 7 rfl (by kernel_rfl) (by rfl) (fun K hK => ?_)
          have hbb := box_below Wb2 (.cells #[.int .i64 (itsOf V who).a, .int .i64 (itsOf V who).b, .int .i64 (itsOf V who).c, .int .i64 (itsOf V who).d, .int .i64 x.a, .int .i64 x.b, .int .i64 x.c, .int .i64 x.d] 46)
          have hS := H.out.next hbb
          have hG := new_block Wb2 (.cells #[.int .i64 (itsOf V who).a, .int .i64 (itsOf V who).b, .int .i64 (itsOf V who).c, .int .i64 (itsOf V who).d, .int .i64 x.a, .int .i64 x.b, .int .i64 x.c, .int .i64 x.d] 46)
          have Hq0 := Hq
          go_wp2_with fail
          refine hK.out _ _ hS (fun hHeld => ?_)
          clear hK
          have H0 := Lib.hid hS
          have Hg := Lib.hid hG
          clear Hq
          have Hq := Lib.hid ((hbb.block q (lt_of_block Hq0.out)).trans Hq0.out)
          clear H hS hG hbb Hq0
          have H := H0
          clear H0
          generalize Wb2.alloc (.cells #[.int .i64 (itsOf V who).a, .int .i64 (itsOf V who).b, .int .i64 (itsOf V who).c, .int .i64 (itsOf V who).d, .int .i64 x.a, .int .i64 x.b, .int .i64 x.c, .int .i64 x.d] 46) = Wb7 at *
          generalize Wb2.heap.size = g at *
          try simp only [Act.put, uA, uB, uC]
          refine ord_one 8 rfl (by kernel_rfl) (by rfl) (fun K hK => ?_)
          have Had := Lib.hid (purseadd2_calls Wb7 (itsOf V who) x g (0, 0) Hg.out 2)
          go_wp2_with fail
          refine Had.out.mono ?_
          rintro e Wb8 ⟨he, hb8⟩
          obtain rfl : e = .returned (.tuple #[.agg #[.int .i64 ((itsOf V who).add2 x).a, .int .i64 ((itsOf V who).add2 x).b, .int .i64 ((itsOf V who).add2 x).c, .int .i64 ((itsOf V who).add2 x).d], .bool ((itsOf V who).add2ok x)]) := he
          have H0 := Lib.hid (H.out.next hb8)
          have Hq1 := Lib.hid ((hb8.block q (lt_of_block Hq.out)).trans Hq.out)
          clear H Had hb8 Hg Hq
          have H := H0
          have Hq := Hq1
          clear H0 Hq1
          go_wp2_with fail
          refine hK.out _ _ H.out (fun hHeld => ?_)
          clear hK
          try simp only [Act.put, uA, uB, uC]
          refine Pl [9,10,11] ?_
          iterate 3 (refine Pc rfl ?_; simp only [Act.put, uA, uB, uC])
          refine Pn ?_
          have z0 : Wb8.cell? ⟨q, 0, none⟩ = some (.int .i64 0) := cell_of Hq.out rfl
          have z1 : Wb8.cell? ⟨q, 1, none⟩ = some (.int .i64 0) := cell_of Hq.out rfl
          have z2 : Wb8.cell? ⟨q, 2, none⟩ = some (.int .i64 0) := cell_of Hq.out rfl
          have z3 : Wb8.cell? ⟨q, 3, none⟩ = some (.int .i64 0) := cell_of Hq.out rfl
          have f0 := frozen_of Hq.out 0
          have f1 := frozen_of Hq.out 1
          have f2 := frozen_of Hq.out 2
          have f3 := frozen_of Hq.out 3
          have hF := PutS.fin (z := It.zero) H.out Hq.out Hqn.out ((itsOf V who).add2 x)
          clear H
          refine ord_one 13 rfl (by kernel_rfl) (by rfl) (fun K hK => ?_)
          go_wp2_with fail
          refine hK.out _ _ hF.1 (fun hHeld => ?_)
          clear hK
          try simp only [Act.put, uA, uB, uC]
          refine ord_one 14 rfl (by kernel_rfl) (by rfl) (fun K hK => ?_)
          go_wp2_with fail
          refine hK.out _ _ hF.1 (fun hHeld => ?_)
          clear hK
          refine wpAnyH_done (by kernel_rfl) ?_ _
          have HF := Lib.hid hF
          clear hF
          go_wp2_with fail
          go_meet
          exact ⟨q, rfl, rfl, HF.out.2, HF.out.1⟩
      case rest =>
        clear H3 H1
        obtain ⟨q, rfl, rfl, hq, hS⟩ := hcut
        cases ho : (itsOf V who).add2ok x with
        | false =>
          obtain rfl := Hfull.out hi hx (by rw [ho]; decide)
          go_wp2_with fail
          go_ret
          exact ⟨rfl, ⟨hS.v, (Chg.of_below hS.bel).mono fun _ _ e => e.elim⟩⟩
        | true =>
          obtain rfl := Hgood.out hi hx ho
          have u0 := cell_of hq (i := 0) rfl
          have u1 := cell_of hq (i := 1) rfl
          have u2 := cell_of hq (i := 2) rfl
          have u3 := cell_of hq (i := 3) rfl
          have hwf : ((itsOf V who).add2 x).wf := by
            obtain ⟨e1, -⟩ := add2_yes hvi hx (by
              unfold It.add2ok at ho
              simp only [Bool.and_eq_true] at ho
              exact ho.2)
            rw [e1]
            refine It.wf_of ?_
            unfold It.add2ok at ho
            simp only [Bool.and_eq_true] at ho
            exact ho.2
          have Hl := Lib.hid (lays_calls hS.v who hw ((itsOf V who).add2 x) hwf hn)
          have HS := Lib.hid hS
          clear hS hq
          go_wp2_with fail
          refine Hl.out.mono ?_
          rintro e w5 ⟨rfl, hT⟩
          have HT := Lib.hid hT
          clear hT Hl
          go_wp2_with fail
          go_ret
          exact ⟨rfl, HT.out.1, (((Chg.of_below HS.out.bel).mono fun _ _ e => e.elim : Chg (fun k => k = pm) w _).trans HT.out.2 fun _ _ e => e)⟩
end Go.Proofs.YtogdfkilhpkloaaGreatDoor

namespace Go.Proofs.YtogdfkilhpkloaaGreatDoor
open Go.RowKit Go.Sat Go.Maps

theorem ok_rename {D : DiskM} (h : D.OK) {o n : Bs} {f : FileM} (hg : Sat.get o D.files = some f) (hn : okN n = true) : DiskM.OK { D with files := put n f (del o D.files) } where
  srt := srt_put (srt_del h.srt)
  room := h.room
  used := by
    show sumBy DiskM.size (put n f (del o D.files)) ≤ D.room
    have h1 : D.used = DiskM.size f + sumBy DiskM.size (del o D.files) := sum_del h.srt hg
    have h2 := h.used
    rw [sum_put]
    cases hg2 : Sat.get n (del o D.files) with
    | none => rw [del_none hg2]; omega
    | some f2 =>
      have h3 : sumBy DiskM.size (del o D.files) = DiskM.size f2 + sumBy DiskM.size (del n (del o D.files)) := sum_del (srt_del h.srt) hg2
      omega
  count := by
    show (put n f (del o D.files)).length ≤ 4096
    have h1 := len_del h.srt hg
    have h2 := len_del_le n (del o D.files)
    have h3 := h.count
    rw [len_put]
    omega
  names p hp := by
    rcases mem_put.1 hp with rfl | ⟨hp, _⟩
    · exact hn
    · exact h.names p (mem_del.1 hp).1
  lasts p hp := by
    rcases mem_put.1 hp with rfl | ⟨hp, _⟩
    · exact h.lasts (o, f) (get_mem hg)
    · exact h.lasts p (mem_del.1 hp).1
  fuse := h.fuse

section
variable {w : World} {d m : Nat} {left : Int} {L : List (Bs × FRep)} {own : Own} {D : DiskM}

theorem ren_file (h : DiskIn w d m left L own D) {o n : Bs} {r : FRep} (hg : Sat.get o L = some r) {w' : World} (hs : w.heap.size ≤ w'.heap.size) (hb : ∀ k, k < w.heap.size → k ≠ m → w'.heap[k]? = w.heap[k]?)
    (hm : ∃ q, w'.ownsMap Tryz.prog 9 ptrR m q (dm fbD (put n r (del o L)))) (hn : okN n = true) :
    ∃ own', DiskIn w' d m left (put n r (del o L)) own' { D with files := put n r.f (del o D.files) } ∧ Ext w own own' := by
  refine h.remap (L' := put n r (del o L)) hs hb hm (srt_put (srt_del h.srt)) rfl rfl (by rw [mp_put, mp_del, ← h.files]) (ok_rename h.ok (by rw [h.get, hg]; rfl) hn) (fun p hp => ?_) (fun p hp q hq e => ?_)
  · rcases mem_put.1 hp with rfl | ⟨hp, _⟩
    · exact ⟨_, get_mem hg, rfl⟩
    · exact ⟨p, (mem_del.1 hp).1, rfl⟩
  · have hr := h.fileAt hg
    have other : ∀ p, p ∈ del o L → p.2.fb = r.fb → False := fun p hp e => by
      have h1 := (h.file p (mem_del.1 hp).1).ob
      rw [e, hr.ob] at h1
      exact (mem_del.1 hp).2 (by simpa using h1.symm)
    rcases mem_put.1 hp with rfl | ⟨hp, _⟩
    · rcases mem_put.1 hq with rfl | ⟨hq, _⟩
      · rfl
      · exact (other q hq e.symm).elim
    · rcases mem_put.1 hq with rfl | ⟨hq, _⟩
      · exact (other p hp e).elim
      · have h1 := (h.file p (mem_del.1 hp).1).ob
        have h2 := (h.file q (mem_del.1 hq).1).ob
        rw [e, h2] at h1
        exact key_uniq h.srt (mem_del.1 hp).1 (mem_del.1 hq).1 (by simpa using h1.symm)

theorem strs_two (w : World) (o s : ByteArray) : StrsAt (w.alloc (.cells #[.string o, .string s] 9)) (some ⟨w.heap.size, 0, none⟩) [o, s] := strs_new w [o, s] _ rfl _ (0, 0)

set_option maxRecDepth 100000 in
set_option maxHeartbeats 2000000 in
theorem rename_bad (h : DiskIn w d m left L own D) (o s : ByteArray) (hso : o.size ≤ 9223372036854775807) (hss : s.size ≤ 9223372036854775807) (hm : D.may [nm o, nm s] ≠ 0) :
    Calls Tryz.prog 170 #[.pointer (some ⟨d, 0, none⟩), .string o, .string s] w (After w d own (D, D.may [nm o, nm s])) := by
  have h1 := h.chg (Chg.alloc w (.cells #[.string o, .string s] 9)) (fun k hk => hk.elim)
  have hc := may_calls h1 _ [o, s] 2 (strs_two w o s) (by simp) (by simp; exact ⟨hso, hss⟩)
  simp only [List.map_cons, List.map_nil] at hc
  have Hfin := Lib.hid (show After w d own (D, D.may [nm o, nm s]) (.returned (.int .i64 (D.may [nm o, nm s] : Int))) (w.alloc (.cells #[.string o, .string s] 9)) from
    ⟨own, rfl, ⟨m, left, L, h1⟩, (Chg.alloc w _).mono fun _ _ h => h.elim, ext_refl _ _⟩)
  generalize D.may [nm o, nm s] = e0 at *
  have hne : ((e0 : Int) != 0) = true := by simp; omega
  have Hc := Lib.hid hc
  clear h hc h1
  go_enter Tryz.func170, Tryz.ntmps170
  go_wp2_with fail
  refine Hc.out.mono ?_
  rintro e w' ⟨rfl, rfl⟩
  go_wp2_with fail
  go_ret
  exact Hfin.out

set_option maxRecDepth 100000 in
set_option maxHeartbeats 2000000 in
theorem rename_none (h : DiskIn w d m left L own D) (o s : ByteArray) (hso : o.size ≤ 9223372036854775807) (hss : s.size ≤ 9223372036854775807) (hm : D.may [nm o, nm s] = 0) (hg : Sat.get (nm o) L = none) :
    Calls Tryz.prog 170 #[.pointer (some ⟨d, 0, none⟩), .string o, .string s] w (After w d own (D, 7)) := by
  have h1 := h.chg (Chg.alloc w (.cells #[.string o, .string s] 9)) (fun k hk => hk.elim)
  have hc := may_calls h1 _ [o, s] 2 (strs_two w o s) (by simp) (by simp; exact ⟨hso, hss⟩)
  simp only [List.map_cons, List.map_nil, hm] at hc
  have hlook := run_look_none _ keyLaw Tryz.underlying9 Tryz.underlying89 (zeroFile _) FRep.fb h1.map hso hg
  have hc1 := h1.c1
  have Hfin := Lib.hid (show After w d own (D, 7) (.returned (.int .i64 (7 : Int))) (w.alloc (.cells #[.string o, .string s] 9)) from
    ⟨own, rfl, ⟨m, left, L, h1⟩, (Chg.alloc w _).mono fun _ _ h => h.elim, ext_refl _ _⟩)
  have Hc := Lib.hid hc
  have Hlook := Lib.hid hlook
  have Hc1 := Lib.hid hc1
  clear h hc h1 hlook hc1
  generalize hw0 : w.alloc (.cells #[.string o, .string s] 9) = w0 at *
  go_enter Tryz.func170, Tryz.ntmps170
  go_wp2_with fail
  have hlook := Hlook.out
  have hc1 := Hc1.out
  refine Hc.out.mono ?_
  rintro e w' ⟨rfl, rfl⟩
  clear hw0
  go_wp2_with fail
  go_ret
  exact Hfin.out

set_option maxRecDepth 100000 in
set_option maxHeartbeats 4000000 in
theorem rename_some (h : DiskIn w d m left L own D) (o s : ByteArray) (hso : o.size ≤ 9223372036854775807) (hss : s.size ≤ 9223372036854775807) (hm : D.may [nm o, nm s] = 0) {r : FRep} (hg : Sat.get (nm o) L = some r) :
    Calls Tryz.prog 170 #[.pointer (some ⟨d, 0, none⟩), .string o, .string s] w (After w d own (DiskM.done { D with files := put (nm s) r.f (del (nm o) D.files) }, 0)) := by
  have h1 := h.chg (Chg.alloc w (.cells #[.string o, .string s] 9)) (fun k hk => hk.elim)
  have hc := may_calls h1 _ [o, s] 2 (strs_two w o s) (by simp) (by simp; exact ⟨hso, hss⟩)
  simp only [List.map_cons, List.map_nil, hm] at hc
  have hlook := run_look_some _ keyLaw Tryz.underlying9 Tryz.underlying89 (zeroFile _) FRep.fb h1.map hso hg
  have hc1 := h1.c1
  have hkey := WideMaps.keyOf_string_mk Tryz.underlying9 hso
  have hkey2 := WideMaps.keyOf_string_mk Tryz.underlying9 hss
  have hz := may_zero hm
  have hfu := hz.1
  have hokn : okN (nm s) = true := by
    have := hz.2
    simp at this
    exact this.2
  have hN : L.length < maxLen := by
    have h3 := h.ok.count
    rw [h.len] at h3
    unfold maxLen
    omega
  have Hw := Lib.hid (Chg.alloc w (.cells #[.string o, .string s] 9))
  have H1 := Lib.hid h1
  have Hc := Lib.hid hc
  have Hlook := Lib.hid hlook
  have Hc1 := Lib.hid hc1
  have Hok := Lib.hid hokn
  have Hfu := Lib.hid hfu
  have Hg := Lib.hid hg
  have hmap := h1.map
  have Hmap := Lib.hid hmap
  clear h hc h1 hlook hc1 hz hokn hm hg hmap hfu
  generalize hw0 : w.alloc (.cells #[.string o, .string s] 9) = w0 at *
  go_enter Tryz.func170, Tryz.ntmps170
  go_wp2_with fail
  have hlook := Hlook.out
  have hc1 := Hc1.out
  refine Hc.out.mono ?_
  rintro e w' ⟨rfl, rfl⟩
  clear hw0
  go_wp2_with (first | (at_delete; refine wpList_delete_own _ rfl _ _ 89 9 rfl 126 keyLaw Tryz.underlying89 ptrR m L.length (dm fbD L) rfl Hmap.out _ _ rfl hkey ?_; intro w1 hown1 hturn1; have hcA := cell_of (i := 1) (grown_block hturn1.grown H1.out.cells (fun e => H1.out.ne_of H1.out.od H1.out.om (by simp) (by cases e; rfl))) rfl; have Hf := Lib.hid (And.intro hown1 hturn1); clear hown1 hturn1) | (at_mapUpdate; refine wpList_mapUpdate_own _ rfl _ _ _ 89 rfl 9 126 keyLaw Tryz.underlying89 ptrR m L.length _ rfl Hf.out.1 hN _ _ _ rfl rfl hkey2 (.held r.fb) [] rfl ?_; intro w3 hown3 hg3; have Hg3 := Lib.hid (And.intro hown3 hg3); clear hown3 hg3))
  obtain ⟨hown1, hturn1⟩ := Hf.out
  obtain ⟨hown3, hg3⟩ := Hg3.out
  have hg1 := hturn1.grown
  have hb : ∀ k, k < w0.heap.size → k ≠ m → w3.heap[k]? = w0.heap[k]? := fun k hk hkm => by
    have := hg1.size
    rw [hg3.block k (by omega) (by intro e; cases e; exact hkm rfl), hg1.block k hk (by intro e; cases e; exact hkm rfl)]
  rw [show (.held r.fb : DataW Nat) = fbD r from rfl, dm_del, dm_put] at hown3
  obtain ⟨own', h4, hx⟩ := ren_file H1.out Hg.out (w' := w3) (n := nm s) (Nat.le_trans hg1.size hg3.size) hb ⟨_, hown3⟩ Hok.out
  have hchg : Chg (Has own) w w3 := (Hw.out.mono (T := Has own) fun _ _ h => h.elim).trans (((Chg.of_grown hg1).trans (Chg.of_grown hg3) fun _ _ h => h).mono fun k _ e => by cases e; exact has_m H1.out) fun _ _ h => h
  have hdone := done_calls h4 Hfu.out
  have Hdone := Lib.hid hdone
  have Hchg := Lib.hid hchg
  have Hx := Lib.hid hx
  have hsz := Hw.out.size
  have Hsz := Lib.hid hsz
  have Hod := Lib.hid (has_d H1.out)
  clear hown1 hturn1 hown3 hg3 hg1 hb h4 hx hchg hdone hsz
  refine Hdone.out.mono ?_
  rintro e w5 ⟨rfl, hd5, hc5⟩
  go_wp2_with fail
  go_ret
  exact ⟨own', rfl, hd5, Hchg.out.trans hc5 fun i _ e => by rw [e]; exact Hod.out, fun k hk => Hx.out k (Nat.lt_of_lt_of_le hk Hsz.out)⟩

/-- **Rename.** -/
theorem rename_calls (h : DiskAt w d D own) (o s : ByteArray) (hso : o.size ≤ 9223372036854775807) (hss : s.size ≤ 9223372036854775807) :
    Calls Tryz.prog 170 #[.pointer (some ⟨d, 0, none⟩), .string o, .string s] w (After w d own (D.rename (nm o) (nm s))) := by
  obtain ⟨m, left, L, h⟩ := h
  unfold DiskM.rename
  by_cases hm : D.may [nm o, nm s] = 0
  · rw [if_neg (by simpa using hm), h.get]
    cases hg : Sat.get (nm o) L with
    | none => exact rename_none h o s hso hss hm hg
    | some r => exact rename_some h o s hso hss hm hg
  · rw [if_pos (by simpa using hm)]
    exact rename_bad h o s hso hss hm
end

theorem st_rename {w w1 : World} {d : Nat} {D : DiskM} {F : Nat → Prop} (h : St w w1 d D F) (o s : ByteArray) (hso : o.size ≤ 9223372036854775807) (hss : s.size ≤ 9223372036854775807) :
    Calls Tryz.prog 170 #[.pointer (some ⟨d, 0, none⟩), .string o, .string s] w1 (Told w d F w1 (D.rename (nm o) (nm s))) := by
  obtain ⟨own, hd, hb, hnn, hF⟩ := h
  refine (rename_calls hd o s hso hss).mono ?_
  rintro e w' ⟨own', rfl, hd', hc, hx⟩
  exact ⟨rfl, St.step hb hnn hF hd' hc hx⟩
end Go.Proofs.YtogdfkilhpkloaaGreatDoor

namespace Go.Sat
open Go.RowKit Go.Maps

theorem bb_lt : ∀ (a b : Bs), bytesBefore a b = true ↔ a < b
  | [], [] => by simp [bytesBefore]
  | [], _ :: _ => by simp [bytesBefore]
  | _ :: _, [] => by simp [bytesBefore]
  | a :: r, b :: s => by
    rw [List.cons_lt_cons_iff, ← bb_lt r s]
    simp [bytesBefore]

/-- Not behind. -/
def Le (x y : Bs) : Prop := bytesBefore y x = false

theorem le_iff (x y : Bs) : x ≤ y ↔ Le x y := by
  unfold Le
  rw [← Bool.not_eq_true, bb_lt]
  exact Iff.rfl

theorem le_anti {x y : Bs} (h : Le x y) (k : Le y x) : x = y := by
  by_cases e : x = y
  · exact e
  · rcases bb_total x y e with h1 | h1
    · rw [k] at h1; cases h1
    · rw [h] at h1; cases h1

theorem le_total (x y : Bs) : Le x y ∨ Le y x := by
  unfold Le
  cases h : bytesBefore y x with
  | false => exact .inl rfl
  | true =>
    right
    cases h2 : bytesBefore x y with
    | false => rfl
    | true =>
      have := bb_trans h h2
      rw [bb_irrefl] at this
      cases this

theorem le_trans' {x y z : Bs} (h : Le x y) (k : Le y z) : Le x z := by
  by_cases e : x = y
  · rw [e]; exact k
  · by_cases e2 : y = z
    · rw [← e2]; exact h
    · have h1 : bytesBefore x y = true := by
        rcases bb_total x y e with h1 | h1
        · exact h1
        · rw [h] at h1; cases h1
      have h2 : bytesBefore y z = true := by
        rcases bb_total y z e2 with h1 | h1
        · exact h1
        · rw [k] at h1; cases h1
      have h3 := bb_trans h1 h2
      unfold Le
      cases h4 : bytesBefore z x with
      | false => rfl
      | true =>
        have := bb_trans h3 h4
        rw [bb_irrefl] at this
        cases this

theorem sorted_uniq : ∀ {l m : List Bs}, l.Perm m → l.Pairwise Le → m.Pairwise Le → l = m
  | [], m, h, _, _ => h.nil_eq
  | a :: r, [], h, _, _ => by have := h.length_eq; simp at this
  | a :: r, b :: s, h, hl, hm => by
    rw [List.pairwise_cons] at hl hm
    have e : a = b := by
      have ha : a ∈ b :: s := h.subset (List.mem_cons_self ..)
      have hb : b ∈ a :: r := h.symm.subset (List.mem_cons_self ..)
      rcases List.mem_cons.1 ha with e | ha
      · exact e
      · rcases List.mem_cons.1 hb with e | hb
        · exact e.symm
        · exact le_anti (hl.1 b hb) (hm.1 a ha)
    subst e
    rw [sorted_uniq (List.Perm.cons_inv h) hl.2 hm.2]

theorem keys_sorted {α : Type} {L : List (Bs × α)} (h : Srt L) : (L.map (·.1)).Pairwise Le := by
  rw [List.pairwise_map]
  refine h.imp fun {p q} hpq => ?_
  unfold Le
  cases h4 : bytesBefore q.1 p.1 with
  | false => rfl
  | true =>
    have := bb_trans hpq h4
    rw [bb_irrefl] at this
    cases this

theorem merge_keys {α : Type} {L : List (Bs × α)} (h : Srt L) {ss : List Bs} (hp : ss.Perm (L.map (·.1))) : ss.mergeSort (fun x y => decide (x ≤ y)) = L.map (·.1) := by
  refine sorted_uniq ((List.mergeSort_perm ss _).trans hp) ?_ (keys_sorted h)
  have := List.pairwise_mergeSort (le := fun x y : Bs => decide (x ≤ y)) (fun a b c h1 h2 => by
    simp only [decide_eq_true_eq, le_iff] at *
    exact le_trans' h1 h2) (fun a b => by
    simp only [Bool.or_eq_true, decide_eq_true_eq, le_iff]
    exact le_total a b) ss
  exact this.imp fun {a b} hab => by simpa only [decide_eq_true_eq, le_iff] using hab

theorem keys_dm {H α : Type} (g : α → DataW H) (L : List (Bs × α)) : strKeys (dm g L) = L.map (·.1) := by
  simp only [strKeys, dm, List.map_map]
  exact List.map_congr_left fun p _ => rfl
end Go.Sat

namespace Go.Proofs.YtogdfkilhpkloaaGreatDoor
open Go.RowKit Go.Sat Go.Maps

/-- A slice of strings of one's own. -/
def OwnN (w : World) (v : Value) (ns : List Bs) : Prop := OwnR w 9 1 v ns.length (ns.map encStr)

def namesOf (D : DiskM) : List Bs := D.files.map (·.1)

def Listed (w : World) (D : DiskM) (e : Ending) (w' : World) : Prop := ∃ v, e = .returned v ∧ OwnN w' v (namesOf D) ∧ (∀ k, v.ownBlock = some k → w.heap.size ≤ k) ∧ Below w.heap.size w w'

section
variable {w : World} {d m : Nat} {left : Int} {L : List (Bs × FRep)} {own : Own} {D : DiskM}

set_option maxHeartbeats 1000000 in
theorem list_calls (h : DiskAt w d D own) : Calls Tryz.prog 225 #[.pointer (some ⟨d, 0, none⟩)] w (Listed w D) := by
  obtain ⟨m, left, L, h⟩ := h
  have hc1 := h.c1
  have hcount : L.length ≤ 4096 := by rw [← h.len]; exact h.ok.count
  have hfin : ∀ (v : Value) (ss : List Bs) (w' : World), ss.Perm (strKeys (dm fbD L)) → w'.ownsRow (w.alloc (.cells #[.map (some m)] 89)).heap.size 9 1 v ss.length ((ss.mergeSort (fun x y => decide (x ≤ y))).map encStr) →
      Below (w.alloc (.cells #[.map (some m)] 89)).heap.size (w.alloc (.cells #[.map (some m)] 89)) w' → Listed w D (.returned v) w' := by
    intro v ss w' hp hr hb
    rw [keys_dm] at hp
    rw [merge_keys h.srt hp, hp.length_eq] at hr
    refine ⟨v, rfl, ?_, fun k hk => ?_, ((Below.refl _ _).alloc (Nat.le_refl _) _).trans (hb.mono (by simp))⟩
    · have e : namesOf D = L.map (·.1) := by
        unfold namesOf
        rw [h.files]
        simp [mp]
      unfold OwnN
      rw [e]
      exact OwnR.of_kit hr
    · have := OwnR.block_ge hr hk
      simp at this
      omega
  have hS := (callsIn_wide (n := 5)).1 (Tryz.slices_Sorted_keys_158_283 m L.length (dm fbD L) ptrR w h.map (by rw [dm_size]; unfold maxLen; omega) (by rw [dm_size]; omega))
  have hK := (callsIn_wide (n := 5)).1 (Tryz.maps_Keys_283 (some m) w)
  have Hfin := Lib.hid hfin
  have HS := Lib.hid hS
  have HK := Lib.hid hK
  clear hfin hS hK h hcount
  go_enter Tryz.func225, Tryz.ntmps225
  go_wp2_with fail
  refine HK.out.mono ?_
  rintro e w' ⟨rfl, rfl⟩
  go_wp2_with fail
  refine HS.out.mono ?_
  rintro e w' ⟨v, ss, rfl, hp, hr, -, hb⟩
  have Hl := Lib.hid (Hfin.out v ss w' hp hr hb)
  clear hp hr hb
  go_wp2_with fail
  go_ret
  exact Hl.out
end

def ListedS (w : World) (d : Nat) (D : DiskM) (F : Nat → Prop) (w1 : World) (e : Ending) (w' : World) : Prop :=
  ∃ v, e = .returned v ∧ OwnN w' v (namesOf D) ∧ (∀ k, v.ownBlock = some k → w1.heap.size ≤ k) ∧ Below w1.heap.size w1 w' ∧ St w w' d D F

theorem st_list {w w1 : World} {d : Nat} {D : DiskM} {F : Nat → Prop} (h : St w w1 d D F) :
    Calls Tryz.prog 225 #[.pointer (some ⟨d, 0, none⟩)] w1 (ListedS w d D F w1) := by
  have h0 := h
  obtain ⟨own, hd, hb, hnn, hF⟩ := h
  refine (list_calls hd).mono ?_
  rintro e w' ⟨v, rfl, hv, hn, hb'⟩
  exact ⟨v, rfl, hv, hn, hb', h0.next hb'⟩
end Go.Proofs.YtogdfkilhpkloaaGreatDoor

namespace Go.Proofs.YtogdfkilhpkloaaGreatDoor
open Go.RowKit Go.Sat Go.Maps

/-- The keys of a map of strings. -/
theorem mapIs_strKeys {w : World} {P : Program} {k : TypeId} (hk : P.underlying k = some .string) {α : Type} {E : ElemR α} {b : Nat} {V : List (Bs × α)} (h : MapIs w P k (strK hk) E b V) :
    ∃ es, w.ownsMap P k E.R b V.length (.map es) ∧ (strKeys (.map es)).Perm (V.map (·.1)) ∧ Maps.size (DataW.map es) = V.length := by
  obtain ⟨es, h1, h2, h3, h4⟩ := h
  refine ⟨es, h1, ?_, ?_⟩
  · have := h2.map (fun p => strOf p.1)
    rw [List.map_map] at this
    exact this
  · rw [Maps.size_eq, h2.length_eq, List.length_map]
def SortedN (w : World) (V : List Bs) (e : Ending) (w' : World) : Prop := ∃ v, e = .returned v ∧ OwnN w' v V ∧ (∀ k, v.ownBlock = some k → w.heap.size ≤ k) ∧ Below w.heap.size w w'
theorem vkeys_fin {w : World} {α : Type} {V : List (Bs × α)} (hs : KSrt V) {pm : Nat} {t : TypeId} {v : Value} {ss : List Bs} {w' : World} (hp : ss.Perm (V.map (·.1)))
    (hr : w'.ownsRow (w.alloc (.cells #[.map (some pm)] t)).heap.size 9 1 v ss.length ((ss.mergeSort (fun x y => decide (x ≤ y))).map encStr))
    (hb : Below (w.alloc (.cells #[.map (some pm)] t)).heap.size (w.alloc (.cells #[.map (some pm)] t)) w') : SortedN w (V.map (·.1)) (.returned v) w' := by
  have hl : ss.length = (V.map (·.1)).length := hp.length_eq
  rw [merge_keys (L := V) hs hp, hl] at hr
  refine ⟨v, rfl, OwnR.of_kit hr, fun k hk => ?_, ((Below.refl _ _).alloc (Nat.le_refl _) _).trans (hb.mono (by simp))⟩
  have := OwnR.block_ge hr hk
  simp at this
  omega
theorem vsorted_calls {w : World} {pm : Nat} {V : List (Bs × It)} (h : MapIs w Tryz.prog 9 (strK Tryz.underlying9) itE pm V) (hn : V.length ≤ 1099511627776) :
    Calls Tryz.prog 158 #[.func (.func 300) #[] #[.pointer (some ⟨w.heap.size, 0, none⟩)]] (w.alloc (.cells #[.map (some pm)] 277)) (SortedN w (V.map (·.1))) := by
  obtain ⟨es, h1, h2, h3⟩ := mapIs_strKeys _ h
  refine ((callsIn_wide (n := 5)).1 (Tryz.slices_Sorted_keys_158_242 pm V.length (.map es) itE.R w h1 (by rw [h3]; unfold maxLen; omega) (by rw [h3]; omega))).mono ?_
  rintro e w' ⟨v, ss, rfl, hp, hr, -, hb⟩
  exact vkeys_fin h.srt (hp.trans h2) hr hb
theorem vkeys_calls (w : World) (pm : Nat) :
    Calls Tryz.prog 242 #[.map (some pm)] w fun e w' => e = .returned (.func (.func 300) #[] #[.pointer (some ⟨w.heap.size, 0, none⟩)]) ∧ w' = w.alloc (.cells #[.map (some pm)] 277) :=
  (callsIn_wide (n := 5)).1 (Tryz.maps_Keys_242 (some pm) w)
end Go.Proofs.YtogdfkilhpkloaaGreatDoor

namespace Go.Proofs.YtogdfkilhpkloaaGreatDoor
open Go.RowKit Go.Sat Go.Maps

/-- The piles of the first k items. -/
def pileP (bb k : Nat) : List Value := (List.range k).flatMap fun i => [.pointer (some ⟨bb, i, none⟩), .pointer (some ⟨bb, 4 + i, none⟩)]
theorem pileP_succ (bb k : Nat) : pileP bb (k + 1) = pileP bb k ++ [.pointer (some ⟨bb, k, none⟩), .pointer (some ⟨bb, 4 + k, none⟩)] := by
  unfold pileP
  rw [List.range_succ, List.flatMap_append]
  rfl
def PileR (w wr : World) (v : Value) (bb k : Nat) : Prop := OwnR wr 374 1 v (2 * k) (pileP bb k) ∧ Below w.heap.size w wr ∧ ∀ j, v.ownBlock = some j → w.heap.size ≤ j
theorem pile_box {k : Nat} {w wr : World} {v : Value} {bb : Nat} (h : PileR w wr v bb k) (_k' : Nat) :
    OwnR (wr.drew.alloc (.cells #[.pointer (some ⟨bb, k, none⟩), .pointer (some ⟨bb, 4 + k, none⟩)] 374)) 374 1 v (2 * k) (pileP bb k) ∧
    Holds (wr.drew.alloc (.cells #[.pointer (some ⟨bb, k, none⟩), .pointer (some ⟨bb, 4 + k, none⟩)] 374)) 1 (.slice (some ⟨wr.drew.heap.size, 0, none⟩) 2 2) 2 [.pointer (some ⟨bb, k, none⟩), .pointer (some ⟨bb, 4 + k, none⟩)] ∧
    ∀ v' w', OwnR w' 374 1 v' (2 * k + 2) (pileP bb k ++ [.pointer (some ⟨bb, k, none⟩), .pointer (some ⟨bb, 4 + k, none⟩)]) → (wr.drew.alloc (.cells #[.pointer (some ⟨bb, k, none⟩), .pointer (some ⟨bb, 4 + k, none⟩)] 374)).grownBy w' v.ownBlock → (v'.ownBlock = v.ownBlock ∨ ∃ g, v'.ownBlock = some g ∧ (wr.drew.alloc (.cells #[.pointer (some ⟨bb, k, none⟩), .pointer (some ⟨bb, 4 + k, none⟩)] 374)).heap.size ≤ g) → PileR w w' v' bb (k + 1) := by
  obtain ⟨h1, h2, h3⟩ := h
  have hb := box_below wr.drew (.cells #[.pointer (some ⟨bb, k, none⟩), .pointer (some ⟨bb, 4 + k, none⟩)] 374)
  have hn := new_block wr.drew (.cells #[.pointer (some ⟨bb, k, none⟩), .pointer (some ⟨bb, 4 + k, none⟩)] 374)
  refine ⟨h1.keep fun j hj => hb.block j (OwnR.lt h1 hj), ⟨rfl, some ⟨wr.drew.heap.size, 0, none⟩, 2, rfl, fun e => (by cases e), fun a ha i u hu => ?_⟩, fun v' w' g1 g2 g3 => ?_⟩
  · cases ha
    rw [add_zero]
    match i, hu with
    | 0, hu => cases hu; exact cell_of hn rfl
    | 1, hu => cases hu; exact cell_of hn rfl
    | i + 2, hu => simp at hu
  · have hbb : Below w.heap.size w (wr.drew.alloc (.cells #[.pointer (some ⟨bb, k, none⟩), .pointer (some ⟨bb, 4 + k, none⟩)] 374)) := h2.trans ((⟨rfl, rfl, rfl, Nat.le_refl _, fun _ _ => rfl⟩ : Below w.heap.size wr wr.drew).trans (hb.mono h2.size))
    refine ⟨by rw [pileP_succ]; exact g1, hbb.grown g2 hbb.size ?_, fun j hj => ?_⟩
    · intro j hj
      exact h3 j hj
    · rcases g3 with g3 | ⟨g, g3, hg⟩
      · exact h3 j (g3 ▸ hj)
      · rw [g3] at hj
        cases hj
        exact Nat.le_trans hbb.size hg
set_option maxRecDepth 100000 in
set_option maxHeartbeats 4000000 in
theorem piles_calls (w : World) (bb : Nat) :
    Calls Tryz.prog 291 #[.pointer (some ⟨bb, 0, none⟩)] w fun e w' => ∃ v, e = .returned v ∧ PileR w w' v bb 4 := by
  obtain ⟨i0, hi, hz0, hz1, hz2⟩ := info_parts (show (Tryz.prog.info? 374).map (fun i => (i.zero, i.size, i.bytes)) = some (some (.pointer none), 1, 8) by kernel_rfl)
  go_enter Tryz.func291, Tryz.ntmps291
  go_wp2_with fail
  go_loopw [3, 5] (fun v i wr => ∃ k : Nat, k ≤ 4 ∧ i = .int .i64 k ∧ PileR w wr v bb k) (fun _ i _ => 4 - (intOf i).toNat)
  case atStart => exact ⟨0, by omega, rfl, OwnR.nil _ _ _, Below.refl _ _, fun j hj => by cases hj⟩
  case round =>
    obtain ⟨k, hk, rfl, hR⟩ := hrel
    obtain ⟨ps, cs, rfl⟩ := OwnR.shape hR.1
    have HR := Lib.hid hR
    clear hR
    rcases (by omega : k = 0 ∨ k = 1 ∨ k = 2 ∨ k = 3 ∨ k = 4) with rfl | rfl | rfl | rfl | rfl
    · go_wp2_with fail
      refine ord_start (fun _ => True) (n := 14) (by kernel_rfl) rfl trivial (fun _ => ?_)
      refine Pl [0,1,2,3,4,5,6,7,8,9,10] ?_
      iterate 11 (refine Pc rfl ?_; simp only [Act.put, uA, uB, uC])
      refine Pn ?_
      refine ord_one 11 rfl (by kernel_rfl) (by rfl) (fun K hK => ?_)
      have H0 := Lib.hid (pile_box HR.out 0)
      go_wp2_with fail
      refine hK.out _ _ trivial (fun hHeld => ?_)
      clear hK HR
      try simp only [Act.put, uA, uB, uC]
      refine ord_one 12 rfl (by kernel_rfl) (by rfl) (fun K hK => ?_)
      refine wp_appP (.tmp 8) (.tmp 19) 390 rfl 374 i0 (.pointer none) 1 8 Tryz.underlying390 hi hz0 hz1 hz2 rfl (by decide) (.slice ps (2 * 0) cs) (2 * 0) (pileP bb 0) rfl H0.out.1 (.slice (some ⟨wr.drew.heap.size, 0, none⟩) 2 2) 2 [.pointer (some ⟨bb, 0, none⟩), .pointer (some ⟨bb, 4 + 0, none⟩)] rfl H0.out.2.1 (by intro u hu; simp at hu; rcases hu with rfl | rfl <;> rfl) (by decide) (by decide) ?_
      intro v' w' h1 h2 h3
      have H1 := Lib.hid (H0.out.2.2 v' w' h1 h2 h3)
      clear h1 h2 h3 H0
      refine hK.out _ _ trivial (fun hHeld => ?_)
      clear hK
      try simp only [Act.put, uA, uB, uC]
      refine ord_one 13 rfl (by kernel_rfl) (by rfl) (fun K hK => ?_)
      go_wp2_with fail
      refine hK.out _ _ trivial (fun hHeld => ?_)
      clear hK
      refine wpAnyH_done (by kernel_rfl) ?_ _
      go_wp2_with fail
      go_roundw
      case rel => exact ⟨1, by decide, rfl, H1.out⟩
      case measure => simp [intOf]
    · go_wp2_with fail
      refine ord_start (fun _ => True) (n := 14) (by kernel_rfl) rfl trivial (fun _ => ?_)
      refine Pl [0,1,2,3,4,5,6,7,8,9,10] ?_
      iterate 11 (refine Pc rfl ?_; simp only [Act.put, uA, uB, uC])
      refine Pn ?_
      refine ord_one 11 rfl (by kernel_rfl) (by rfl) (fun K hK => ?_)
      have H0 := Lib.hid (pile_box HR.out 1)
      go_wp2_with fail
      refine hK.out _ _ trivial (fun hHeld => ?_)
      clear hK HR
      try simp only [Act.put, uA, uB, uC]
      refine ord_one 12 rfl (by kernel_rfl) (by rfl) (fun K hK => ?_)
      refine wp_appP (.tmp 8) (.tmp 19) 390 rfl 374 i0 (.pointer none) 1 8 Tryz.underlying390 hi hz0 hz1 hz2 rfl (by decide) (.slice ps (2 * 1) cs) (2 * 1) (pileP bb 1) rfl H0.out.1 (.slice (some ⟨wr.drew.heap.size, 0, none⟩) 2 2) 2 [.pointer (some ⟨bb, 1, none⟩), .pointer (some ⟨bb, 4 + 1, none⟩)] rfl H0.out.2.1 (by intro u hu; simp at hu; rcases hu with rfl | rfl <;> rfl) (by decide) (by decide) ?_
      intro v' w' h1 h2 h3
      have H1 := Lib.hid (H0.out.2.2 v' w' h1 h2 h3)
      clear h1 h2 h3 H0
      refine hK.out _ _ trivial (fun hHeld => ?_)
      clear hK
      try simp only [Act.put, uA, uB, uC]
      refine ord_one 13 rfl (by kernel_rfl) (by rfl) (fun K hK => ?_)
      go_wp2_with fail
      refine hK.out _ _ trivial (fun hHeld => ?_)
      clear hK
      refine wpAnyH_done (by kernel_rfl) ?_ _
      go_wp2_with fail
      go_roundw
      case rel => exact ⟨2, by decide, rfl, H1.out⟩
      case measure => simp [intOf]
    · go_wp2_with fail
      refine ord_start (fun _ => True) (n := 14) (by kernel_rfl) rfl trivial (fun _ => ?_)
      refine Pl [0,1,2,3,4,5,6,7,8,9,10] ?_
      iterate 11 (refine Pc rfl ?_; simp only [Act.put, uA, uB, uC])
      refine Pn ?_
      refine ord_one 11 rfl (by kernel_rfl) (by rfl) (fun K hK => ?_)
      have H0 := Lib.hid (pile_box HR.out 2)
      go_wp2_with fail
      refine hK.out _ _ trivial (fun hHeld => ?_)
      clear hK HR
      try simp only [Act.put, uA, uB, uC]
      refine ord_one 12 rfl (by kernel_rfl) (by rfl) (fun K hK => ?_)
      refine wp_appP (.tmp 8) (.tmp 19) 390 rfl 374 i0 (.pointer none) 1 8 Tryz.underlying390 hi hz0 hz1 hz2 rfl (by decide) (.slice ps (2 * 2) cs) (2 * 2) (pileP bb 2) rfl H0.out.1 (.slice (some ⟨wr.drew.heap.size, 0, none⟩) 2 2) 2 [.pointer (some ⟨bb, 2, none⟩), .pointer (some ⟨bb, 4 + 2, none⟩)] rfl H0.out.2.1 (by intro u hu; simp at hu; rcases hu with rfl | rfl <;> rfl) (by decide) (by decide) ?_
      intro v' w' h1 h2 h3
      have H1 := Lib.hid (H0.out.2.2 v' w' h1 h2 h3)
      clear h1 h2 h3 H0
      refine hK.out _ _ trivial (fun hHeld => ?_)
      clear hK
      try simp only [Act.put, uA, uB, uC]
      refine ord_one 13 rfl (by kernel_rfl) (by rfl) (fun K hK => ?_)
      go_wp2_with fail
      refine hK.out _ _ trivial (fun hHeld => ?_)
      clear hK
      refine wpAnyH_done (by kernel_rfl) ?_ _
      go_wp2_with fail
      go_roundw
      case rel => exact ⟨3, by decide, rfl, H1.out⟩
      case measure => simp [intOf]
    · go_wp2_with fail
      refine ord_start (fun _ => True) (n := 14) (by kernel_rfl) rfl trivial (fun _ => ?_)
      refine Pl [0,1,2,3,4,5,6,7,8,9,10] ?_
      iterate 11 (refine Pc rfl ?_; simp only [Act.put, uA, uB, uC])
      refine Pn ?_
      refine ord_one 11 rfl (by kernel_rfl) (by rfl) (fun K hK => ?_)
      have H0 := Lib.hid (pile_box HR.out 3)
      go_wp2_with fail
      refine hK.out _ _ trivial (fun hHeld => ?_)
      clear hK HR
      try simp only [Act.put, uA, uB, uC]
      refine ord_one 12 rfl (by kernel_rfl) (by rfl) (fun K hK => ?_)
      refine wp_appP (.tmp 8) (.tmp 19) 390 rfl 374 i0 (.pointer none) 1 8 Tryz.underlying390 hi hz0 hz1 hz2 rfl (by decide) (.slice ps (2 * 3) cs) (2 * 3) (pileP bb 3) rfl H0.out.1 (.slice (some ⟨wr.drew.heap.size, 0, none⟩) 2 2) 2 [.pointer (some ⟨bb, 3, none⟩), .pointer (some ⟨bb, 4 + 3, none⟩)] rfl H0.out.2.1 (by intro u hu; simp at hu; rcases hu with rfl | rfl <;> rfl) (by decide) (by decide) ?_
      intro v' w' h1 h2 h3
      have H1 := Lib.hid (H0.out.2.2 v' w' h1 h2 h3)
      clear h1 h2 h3 H0
      refine hK.out _ _ trivial (fun hHeld => ?_)
      clear hK
      try simp only [Act.put, uA, uB, uC]
      refine ord_one 13 rfl (by kernel_rfl) (by rfl) (fun K hK => ?_)
      go_wp2_with fail
      refine hK.out _ _ trivial (fun hHeld => ?_)
      clear hK
      refine wpAnyH_done (by kernel_rfl) ?_ _
      go_wp2_with fail
      go_roundw
      case rel => exact ⟨4, by decide, rfl, H1.out⟩
      case measure => simp [intOf]
    · go_wp2_with fail
      go_ret
      exact ⟨_, rfl, HR.out⟩
end Go.Proofs.YtogdfkilhpkloaaGreatDoor

namespace Go.Proofs.YtogdfkilhpkloaaGreatDoor
open Go.RowKit Go.Sat Go.Maps

set_option maxRecDepth 100000 in
set_option maxHeartbeats 4000000 in
theorem insnil_calls (w : World) (f : Value) :
    Calls Tryz.prog 393 #[.slice none 0 0, .int .i64 0, .int .i64 0, f] w fun e w' => e = .returned (.tuple #[]) ∧ w' = w := by
  go_enter Tryz.func393, Tryz.ntmps393
  go_wp2_with fail
  go_loopw [8] (fun i wr => i = .int .i64 1 ∧ wr = w) (fun _ _ => 0)
  case atStart => exact ⟨rfl, rfl⟩
  case round =>
    obtain ⟨rfl, rfl⟩ := hrel
    go_wp2_with fail
    go_end0
    exact ⟨rfl, rfl⟩
set_option maxRecDepth 100000 in
set_option maxHeartbeats 4000000 in
theorem pdqnil_calls (w : World) (f : Value) (l : Int) :
    Calls Tryz.prog 364 #[.slice none 0 0, .int .i64 0, .int .i64 0, .int .i64 l, f] w fun e w' => e = .returned (.tuple #[]) ∧ w' = w := by
  have Hi := Lib.hid (insnil_calls w f)
  go_enter Tryz.func364, Tryz.ntmps364
  go_wp2_with fail
  go_loopw [1, 2] (fun i k wr => i = .int .i64 0 ∧ k = .int .i64 0 ∧ wr = w) (fun _ _ _ => 0)
  case atStart => exact ⟨rfl, rfl, rfl⟩
  case round =>
    obtain ⟨rfl, rfl, rfl⟩ := hrel
    go_wp2_with fail
    refine Hi.out.mono ?_
    rintro e w2 ⟨rfl, rfl⟩
    go_wp2_with fail
    refine bodyPost_ret (results_none rfl _ _ _) rfl ?_
    exact ⟨rfl, rfl⟩
set_option maxRecDepth 100000 in
set_option maxHeartbeats 4000000 in
theorem sortnil_calls (w : World) (f : Value) :
    Calls Tryz.prog 295 #[.slice none 0 0, f] w fun e w' => e = .returned (.tuple #[]) ∧ w' = w := by
  have Hp := Lib.hid (fun l => pdqnil_calls w f l)
  have Hl := Lib.hid (Tryz.bits_Len 0 w (by decide) (by decide))
  go_enter Tryz.func295, Tryz.ntmps295
  go_wp2_with fail
  refine Hl.out.mono ?_
  rintro e w2 ⟨rfl, rfl⟩
  go_wp2_with fail
  refine (Hp.out _).mono ?_
  rintro e w2 ⟨rfl, rfl⟩
  go_wp2_with fail
  go_end0
  exact ⟨rfl, rfl⟩
set_option maxRecDepth 100000 in
set_option maxHeartbeats 4000000 in
theorem booklist_calls {w : World} {bb : Nat} (h : w.heap[bb]? = some BookO) :
    Calls Tryz.prog 239 #[.pointer (some ⟨bb, 0, none⟩)] w fun e w' => e = .returned (.slice none 0 0) ∧ Below w.heap.size w w' := by
  have Hp := Lib.hid (piles_calls w bb)
  have Hh := Lib.hid h
  have Hs := Lib.hid (fun W f => sortnil_calls W f)
  clear h
  go_enter Tryz.func239, Tryz.ntmps239
  go_wp2_with fail
  refine Hp.out.mono ?_
  rintro e w2 ⟨v, rfl, hR⟩
  obtain ⟨g, c, rfl, hc⟩ : ∃ g c, v = .slice (some ⟨g, 0, none⟩) 8 c ∧ ∀ (i : Nat) u, (pileP bb 4)[i]? = some u → w2.cell? ⟨g, i, none⟩ = some u := by
    rcases hR.1.2 with ⟨-, h0⟩ | ⟨g, cap, cur, e, -⟩
    · omega
    · refine ⟨g, cap, e, fun i u hu => ?_⟩
      have := hR.1.cells (g := g) (by rw [e]; rfl) i u hu
      rwa [add_zero] at this
  have HB := Lib.hid hR.2.1
  have hb2 := (HB.out.block bb (lt_of_block Hh.out)).trans Hh.out
  have Hc := Lib.hid hc
  have Hb2 := Lib.hid hb2
  clear hR hc hb2
  go_wp2_with fail
  go_loopw [3, 11] (fun v i wr => ∃ k : Nat, k ≤ 8 ∧ v = .slice none 0 0 ∧ i = .int .i64 k ∧ wr = w2) (fun _ i _ => 8 - (intOf i).toNat)
  case atStart => exact ⟨0, by omega, rfl, rfl, rfl⟩
  case round =>
    obtain ⟨k, hk, rfl, rfl, rfl⟩ := hrel
    rcases (by omega : k = 0 ∨ k = 1 ∨ k = 2 ∨ k = 3 ∨ k = 4 ∨ k = 5 ∨ k = 6 ∨ k = 7 ∨ k = 8) with rfl | rfl | rfl | rfl | rfl | rfl | rfl | rfl | rfl
    · have c1 : wr.cell? ⟨g, 0, none⟩ = some (.pointer (some ⟨bb, 0, none⟩)) := Hc.out 0 _ rfl
      have c2 : wr.cell? ⟨bb, 0, none⟩ = some (.slice none 0 0) := cell_of Hb2.out rfl
      go_wp2_with fail
      go_roundw
      case rel => exact ⟨1, by decide, rfl, rfl, trivial⟩
      case measure => simp [intOf]
    · have c1 : wr.cell? ⟨g, 1, none⟩ = some (.pointer (some ⟨bb, 4, none⟩)) := Hc.out 1 _ rfl
      have c2 : wr.cell? ⟨bb, 4, none⟩ = some (.slice none 0 0) := cell_of Hb2.out rfl
      go_wp2_with fail
      go_roundw
      case rel => exact ⟨2, by decide, rfl, rfl, trivial⟩
      case measure => simp [intOf]
    · have c1 : wr.cell? ⟨g, 2, none⟩ = some (.pointer (some ⟨bb, 1, none⟩)) := Hc.out 2 _ rfl
      have c2 : wr.cell? ⟨bb, 1, none⟩ = some (.slice none 0 0) := cell_of Hb2.out rfl
      go_wp2_with fail
      go_roundw
      case rel => exact ⟨3, by decide, rfl, rfl, trivial⟩
      case measure => simp [intOf]
    · have c1 : wr.cell? ⟨g, 3, none⟩ = some (.pointer (some ⟨bb, 5, none⟩)) := Hc.out 3 _ rfl
      have c2 : wr.cell? ⟨bb, 5, none⟩ = some (.slice none 0 0) := cell_of Hb2.out rfl
      go_wp2_with fail
      go_roundw
      case rel => exact ⟨4, by decide, rfl, rfl, trivial⟩
      case measure => simp [intOf]
    · have c1 : wr.cell? ⟨g, 4, none⟩ = some (.pointer (some ⟨bb, 2, none⟩)) := Hc.out 4 _ rfl
      have c2 : wr.cell? ⟨bb, 2, none⟩ = some (.slice none 0 0) := cell_of Hb2.out rfl
      go_wp2_with fail
      go_roundw
      case rel => exact ⟨5, by decide, rfl, rfl, trivial⟩
      case measure => simp [intOf]
    · have c1 : wr.cell? ⟨g, 5, none⟩ = some (.pointer (some ⟨bb, 6, none⟩)) := Hc.out 5 _ rfl
      have c2 : wr.cell? ⟨bb, 6, none⟩ = some (.slice none 0 0) := cell_of Hb2.out rfl
      go_wp2_with fail
      go_roundw
      case rel => exact ⟨6, by decide, rfl, rfl, trivial⟩
      case measure => simp [intOf]
    · have c1 : wr.cell? ⟨g, 6, none⟩ = some (.pointer (some ⟨bb, 3, none⟩)) := Hc.out 6 _ rfl
      have c2 : wr.cell? ⟨bb, 3, none⟩ = some (.slice none 0 0) := cell_of Hb2.out rfl
      go_wp2_with fail
      go_roundw
      case rel => exact ⟨7, by decide, rfl, rfl, trivial⟩
      case measure => simp [intOf]
    · have c1 : wr.cell? ⟨g, 7, none⟩ = some (.pointer (some ⟨bb, 7, none⟩)) := Hc.out 7 _ rfl
      have c2 : wr.cell? ⟨bb, 7, none⟩ = some (.slice none 0 0) := cell_of Hb2.out rfl
      go_wp2_with fail
      go_roundw
      case rel => exact ⟨8, by decide, rfl, rfl, trivial⟩
      case measure => simp [intOf]
    · go_wp2_with fail
      refine (Hs.out _ _).mono ?_
      rintro e w3 ⟨rfl, rfl⟩
      go_wp2_with fail
      go_ret
      exact ⟨rfl, HB.out⟩
end Go.Proofs.YtogdfkilhpkloaaGreatDoor

namespace Go.Proofs.YtogdfkilhpkloaaGreatDoor
open Go.RowKit Go.Sat Go.Maps

def holdV (V : List (Bs × It)) : List Value := V.flatMap fun p => [.string (bsV p.1), .int .i64 p.2.a, .int .i64 p.2.b, .int .i64 p.2.c, .int .i64 p.2.d]
def HoldR (w wr : World) (v : Value) (V : List (Bs × It)) (k : Nat) : Prop := OwnR wr 269 5 v k (holdV (V.take k)) ∧ Below w.heap.size w wr ∧ ∀ j, v.ownBlock = some j → w.heap.size ≤ j
def VListed (w : World) (V : List (Bs × It)) (e : Ending) (w' : World) : Prop := ∃ v, e = .returned (.tuple #[v, .slice none 0 0, .int .i64 1]) ∧ HoldR w w' v V V.length
theorem holdV_succ {V : List (Bs × It)} {k : Nat} (hk : k < V.length) : holdV (V.take (k + 1)) = holdV (V.take k) ++ [.string (bsV V[k].1), .int .i64 V[k].2.a, .int .i64 V[k].2.b, .int .i64 V[k].2.c, .int .i64 V[k].2.d] := by
  unfold holdV
  rw [List.take_succ_eq_append_getElem hk, List.flatMap_append]
  simp
theorem hold_push {w wr w' : World} {v v' : Value} {V : List (Bs × It)} {k : Nat} (hk : k < V.length) (h : HoldR w wr v V k)
    (h1 : OwnR w' 269 5 v' (k + 1) (holdV (V.take k) ++ [.string (bsV V[k].1), .int .i64 V[k].2.a, .int .i64 V[k].2.b, .int .i64 V[k].2.c, .int .i64 V[k].2.d])) {o : Obj} (h2 : (wr.alloc o).grownBy w' v.ownBlock)
    (h3 : v'.ownBlock = v.ownBlock ∨ ∃ g, v'.ownBlock = some g ∧ (wr.alloc o).heap.size ≤ g) : HoldR w w' v' V (k + 1) := by
  obtain ⟨g1, g2, g3⟩ := h
  have hbb : Below w.heap.size w (wr.alloc o) := g2.trans ((box_below wr o).mono g2.size)
  refine ⟨by rw [holdV_succ hk]; exact h1, hbb.grown h2 hbb.size (fun j hj => g3 j hj), fun j hj => ?_⟩
  rcases h3 with h3 | ⟨g, h3, hg⟩
  · exact g3 j (h3 ▸ hj)
  · rw [h3] at hj
    cases hj
    exact Nat.le_trans hbb.size hg
theorem holdsLit (w : World) (cs : Array Value) (l : List Value) (size n cap : Nat) (hl : cs.toList = l) (hn : n * size = l.length) (t : TypeId) (fr : Nat × Nat) :
    Holds (w.alloc (.cells cs t fr)) size (.slice (some ⟨w.heap.size, 0, none⟩) n cap) n l := by
  refine ⟨hn.symm, some ⟨w.heap.size, 0, none⟩, cap, rfl, fun e => (by cases e), fun a ha i u hu => ?_⟩
  cases ha
  rw [add_zero]
  have hn := new_block w (.cells cs t fr)
  refine cell_of hn ?_
  rw [← hl] at hu
  simpa using hu
def VGo (w : World) (vb bb : Nat) (w' : World) : Prop := w'.cell? ⟨vb, 1, none⟩ = some (.pointer (some ⟨bb, 0, none⟩)) ∧ w'.cell? ⟨vb, 2, none⟩ = some (.int .i64 1) ∧ Below w.heap.size w w'
theorem VGo.bel {w w' : World} {vb bb : Nat} (h : VGo w vb bb w') : Below w.heap.size w w' := h.2.2
theorem VGo.go {w w1 w2 : World} {vb pm bb : Nat} (h0 : w.heap[vb]? = some (VaultO pm bb)) (h : VGo w vb bb w1) (hb : Below w1.heap.size w1 w2) : VGo w vb bb w2 := by
  have hbb := h.2.2.trans (hb.mono h.2.2.size)
  have := (hbb.block vb (lt_of_block h0)).trans h0
  exact ⟨cell_of this rfl, cell_of this rfl, hbb⟩
theorem its_at {V : List (Bs × It)} (hs : KSrt V) {k : Nat} (hk : k < V.length) : itsOf V (bsV V[k].1) = V[k].2 := by
  unfold itsOf
  rw [show nm (bsV V[k].1) = V[k].1 by simp [nm, bsV], k_get_of_mem hs (show (V[k].1, V[k].2) ∈ V from List.getElem_mem hk)]
  rfl
set_option maxRecDepth 100000 in
set_option maxHeartbeats 4000000 in
theorem vlist_calls {w : World} {vb pm bb : Nat} {V : List (Bs × It)} (h : VaultIn w vb pm bb V) (hn : V.length ≤ 1099511627776) :
    Calls Tryz.prog 191 #[.pointer (some ⟨vb, 0, none⟩)] w (VListed w V) := by
  have HK := Lib.hid (vkeys_calls w pm)
  have HS := Lib.hid (vsorted_calls h.map hn)
  have c0 : w.cell? ⟨vb, 0, none⟩ = some (.map (some pm)) := cell_of h.cells rfl
  have H := Lib.hid h
  clear h
  go_enter Tryz.func191, Tryz.ntmps191
  go_wp2_with fail
  refine HK.out.mono ?_
  rintro e w' ⟨rfl, rfl⟩
  go_wp2_with fail
  refine HS.out.mono ?_
  rintro e w2 ⟨nv, rfl, hN, hNn, hb⟩
  have hNl : OwnR w2 9 1 nv V.length ((V.map (·.1)).map encStr) := by
    have := hN
    unfold OwnN at this
    rw [List.length_map] at this
    exact this
  obtain ⟨np, nc, rfl⟩ := OwnR.shape hNl
  have HN := Lib.hid hNl
  have HB := Lib.hid hb
  have HF := Lib.hid hb
  have HH := Lib.hid (H.out.keep fun k hk => hb.block k (H.out.lt hk))
  clear hN hb hNn hNl
  obtain ⟨i4, hi4, hz40, hz41, hz42⟩ := info_parts (show (Tryz.prog.info? 269).map (fun i => (i.zero, i.size, i.bytes)) = some (some (.agg #[.string ⟨#[]⟩, .int .i64 0, .int .i64 0, .int .i64 0, .int .i64 0]), 5, 48) by kernel_rfl)
  go_wp2_with fail
  go_loopw [5, 17] (fun v i wr => ∃ k : Nat, k ≤ V.length ∧ i = .int .i64 k ∧ HoldR w2 wr v V k) (fun _ i _ => V.length - (intOf i).toNat)
  case atStart => exact ⟨0, by omega, rfl, ⟨OwnR.nil _ _ _, Below.refl _ _, fun j hj => by cases hj⟩⟩
  case round =>
    obtain ⟨k, hk, rfl, hR⟩ := hrel
    obtain ⟨wo, hwo⟩ : ∃ wo, wo = wr := ⟨_, rfl⟩
    subst hwo
    obtain ⟨ps, cs, rfl⟩ := OwnR.shape hR.1
    have HR := Lib.hid hR
    have HV := Lib.hid (HH.out.keep fun k hk => hR.2.1.block k (HH.out.lt hk))
    have c1 : wo.cell? ⟨vb, 0, none⟩ = some (.map (some pm)) := cell_of HV.out.cells rfl
    clear hR
    by_cases hlt : k < V.length
    · have hN := HN.out.keep (w' := wo) fun y hy => HR.out.2.1.block y (OwnR.lt HN.out hy)
      obtain ⟨g, rfl⟩ : ∃ g, np = some ⟨g, 0, none⟩ := by
        rcases hN.2 with ⟨-, h0⟩ | ⟨g, cap, cur, e, -⟩
        · omega
        · cases e
          exact ⟨g, rfl⟩
      have c2 : wo.cell? ⟨g, k, none⟩ = some (.string (bsV V[k].1)) := by
        have := hN.cells (g := g) rfl k (.string (bsV V[k].1)) (by simp [hlt, encStr, bsV])
        rwa [add_zero] at this
      have hlk := itsOf_look HV.out (bsV V[k].1) (by obtain ⟨es, -, -, -, hok⟩ := H.out.map; have hkk : (V[k].1).length ≤ maxLen := hok _ (List.getElem_mem hlt); exact hkk)
      rw [its_at H.out.map.srt hlt] at hlk
      clear hN
      have Hal := Lib.hid (HR.out.1.keep (w' := wo.alloc (.cells #[.string (bsV V[k].1), .int .i64 V[k].2.a, .int .i64 V[k].2.b, .int .i64 V[k].2.c, .int .i64 V[k].2.d] 269)) fun y hy => (box_below wo _).block y (OwnR.lt HR.out.1 hy))
      have Hxx := Lib.hid (holdsLit wo #[.string (bsV V[k].1), .int .i64 V[k].2.a, .int .i64 V[k].2.b, .int .i64 V[k].2.c, .int .i64 V[k].2.d] _ 5 1 1 rfl rfl 269 (0, 0))
      go_wp2_with (at_builtin; refine wpList_app _ rfl (.tmp 21) (.tmp 30) 264 rfl 269 i4 (.agg #[.string ⟨#[]⟩, .int .i64 0, .int .i64 0, .int .i64 0, .int .i64 0]) 5 48 Tryz.underlying264 hi4 hz40 hz41 hz42 rfl (by decide) (.slice ps k cs) k _ rfl Hal.out (.slice (some ⟨wo.heap.size, 0, none⟩) 1 1) 1 _ rfl Hxx.out (fun u hu => by simp at hu; rcases hu with rfl | rfl | rfl | rfl | rfl <;> rfl) (by unfold maxLen; omega) (by omega) ?_; intro v4 w4 hown hgrow hloc; go_loud (have HP4 := Lib.hid (hold_push hlt HR.out hown hgrow hloc); clear hown hgrow hloc Hal Hxx))
      go_roundw
      case rel => exact ⟨k + 1, by omega, by go_num, HP4.out⟩
      case measure => simp [intOf]; omega
    · obtain rfl : k = V.length := by omega
      go_wp2_with fail
      have k1 : wo.cell? ⟨vb, 1, none⟩ = some (.pointer (some ⟨bb, 0, none⟩)) := cell_of HV.out.cells rfl
      have k2 : wo.cell? ⟨vb, 2, none⟩ = some (.int .i64 1) := cell_of HV.out.cells rfl
      have Hbk := Lib.hid (fun (W : World) (h : Below wo.heap.size wo W) => booklist_calls (w := W) (bb := bb) ((h.block bb (HV.out.lt (.inr (.inr rfl)))).trans HV.out.book))
      have Hg := Lib.hid (fun (W1 W2 : World) (h : VGo wo vb bb W1) (hb : Below W1.heap.size W1 W2) => VGo.go HV.out.cells h hb)
      have h0 := Lib.hid (show VGo wo vb bb wo from ⟨k1, k2, Below.refl _ _⟩)
      go_region_held3 (fun w' => w'.cell? ⟨vb, 1, none⟩ = some (.pointer (some ⟨bb, 0, none⟩)) ∧ w'.cell? ⟨vb, 2, none⟩ = some (.int .i64 1) ∧ Below wo.heap.size wo w') (first | exact hNew | exact Hg.out _ _ h0.out ⟨rfl, rfl, rfl, Nat.le_refl _, fun _ _ => rfl⟩) (first | (go_at_call 239; refine (Hbk.out _ (VGo.bel (vb := vb) (bb := bb) (by assumption))).mono ?_; rintro e w5 ⟨rfl, hb⟩; have hNew := Hg.out _ _ (by assumption) hb))
      have hbe := Lib.hid (VGo.bel (w := wo) (vb := vb) (bb := bb) (by assumption))
      go_wp2_with fail
      go_ret3
      exact ⟨_, rfl, HR.out.1.keep fun j hj => hbe.out.block j (OwnR.lt HR.out.1 hj), (HF.out.trans (HR.out.2.1.mono HF.out.size)).trans (hbe.out.mono (HF.out.trans (HR.out.2.1.mono HF.out.size)).size), fun j hj => Nat.le_trans HF.out.size (HR.out.2.2 j hj)⟩
end Go.Proofs.YtogdfkilhpkloaaGreatDoor

namespace Go.Proofs.YtogdfkilhpkloaaGreatDoor
open Go.RowKit Go.Sat Go.Maps

def OpM.v (o : OpM) : Value := .agg #[.int .i64 o.kind, .int .i64 o.client, .int .i64 o.seq, .string o.atK, .string o.atW, .string o.toK, .string o.toW, .int .i64 o.item, .int .i64 o.count, .int .i64 o.price, .bool o.buy, .int .i64 o.id]
/-- A request in a block. -/
def OpM.o (o : OpM) (t : TypeId) : Obj := .cells #[.int .i64 o.kind, .int .i64 o.client, .int .i64 o.seq, .string o.atK, .string o.atW, .string o.toK, .string o.toW, .int .i64 o.item, .int .i64 o.count, .int .i64 o.price, .bool o.buy, .int .i64 o.id] t (0, 0)
def strOk (a : ByteArray) : Prop := a.size ≤ maxLen
def OpM.wf (o : OpM) : Prop := (wf64 o.kind ∧ wf64 o.client ∧ wf64 o.seq) ∧ (strOk o.atK ∧ strOk o.atW ∧ strOk o.toK ∧ strOk o.toW) ∧ wf64 o.item ∧ wf64 o.count ∧ wf64 o.price ∧ wf64 o.id
/-- Without what all have. -/
def OpM.rst (o : OpM) : OpM := { o with kind := 0, client := 0, seq := 0, atK := s0, atW := s0 }
def OpM.same (x y : OpM) : Bool := decide (x.kind = y.kind ∧ x.client = y.client ∧ x.seq = y.seq ∧ x.atK = y.atK ∧ x.atW = y.atW ∧ x.toK = y.toK ∧ x.toW = y.toW ∧ x.item = y.item ∧ x.count = y.count ∧ x.price = y.price ∧ x.buy = y.buy ∧ x.id = y.id)
def OpM.lits (o : OpM) : List Lit := [.int .i64 o.kind, .int .i64 o.client, .int .i64 o.seq, .string o.atK.data.toList, .string o.atW.data.toList, .string o.toK.data.toList, .string o.toW.data.toList, .int .i64 o.item, .int .i64 o.count, .int .i64 o.price, .bool o.buy, .int .i64 o.id]
theorem op_lits (o : OpM) (h : o.wf) : ∀ m, (∃ n, m = n + 2) → Tryz.prog.keyLits (m + 1) 187 [.int .i64 o.kind, .int .i64 o.client, .int .i64 o.seq, .string o.atK, .string o.atW, .string o.toK, .string o.toW, .int .i64 o.item, .int .i64 o.count, .int .i64 o.price, .bool o.buy, .int .i64 o.id] = some o.lits := by
  have hc : Tryz.prog.cellsOf 187 = 12 := by kernel_rfl
  have hcp : Tryz.prog.cellsOf 23 = 2 := by kernel_rfl
  have hc3 : Tryz.prog.cellsOf 3 = 1 := by kernel_rfl
  have hc4 : Tryz.prog.cellsOf 4 = 1 := by kernel_rfl
  obtain ⟨⟨g1, g2, g3⟩, ⟨s1, s2, s3, s4⟩, g4, g5, g6, g7⟩ := h
  unfold wf64 at g1 g2 g3 g4 g5 g6 g7
  rintro m ⟨n, rfl⟩
  have hcs : Tryz.prog.cellsOf 9 = 1 := by kernel_rfl
  unfold strOk at s1 s2 s3 s4
  simp [Program.keyLits, Tryz.underlying187, Tryz.underlying23, Tryz.underlying3, Tryz.underlying4, Tryz.underlying9, hc, hcp, hc3, hc4, hcs, g1, g2, g3, g4, g5, g6, g7, s1, s2, s3, s4, OpM.lits]
  rw [if_pos (by decide), if_pos (by decide)]
  rfl
set_option maxRecDepth 100000 in
theorem op_eq (w : World) (x y : OpM) (hx : x.wf) (hy : y.wf) : (Op.equalIn 10000 187 x.v y.v).run Tryz.prog w = .ok (x.same y) w := by
  have hc : Tryz.prog.cellsOf 187 = 12 := by kernel_rfl
  have hn : ∃ n, Tryz.prog.types.size = n + 2 := ⟨Tryz.prog.types.size - 2, by kernel_rfl⟩
  have hf : ∀ z : OpM, z.v.formed Tryz.prog 187 = true := fun z => by simp [OpM.v, Value.formed, Tryz.underlying187, hc]
  obtain ⟨r, hr, hiff⟩ := run_equalIn_deep (10000 - 3) 3 187 (by kernel_rfl) w _ _ x.v y.v _ _ (hf x) (hf y) (op_lits x hx _ hn) (op_lits y hy _ hn)
  have hr' : (Op.equalIn 10000 187 x.v y.v).run Tryz.prog w = .ok r w := hr
  rw [hr']
  congr 1
  rw [Bool.eq_iff_iff, hiff]
  have hs : ∀ a b : ByteArray, a.data.toList = b.data.toList ↔ a = b := fun a b => ⟨fun h => by cases a; cases b; simpa using h, fun h => by rw [h]⟩
  simp only [OpM.lits, OpM.same, List.cons.injEq, Lit.int.injEq, Lit.string.injEq, Lit.bool.injEq, true_and, and_true, decide_eq_true_eq, hs]
theorem ret_bool {x y : Bool} (h : x = true ↔ y = true) : Ending.returned (.bool x) = .returned (.bool y) := by rw [Bool.eq_iff_iff.2 h]
theorem new_block2 (w : World) (a b : Obj) : ((w.alloc a).alloc b).heap[w.heap.size + 1]? = some b := by
  have := new_block (w.alloc a) b
  simpa using this
set_option maxRecDepth 100000 in
set_option maxHeartbeats 4000000 in
theorem isplace_calls (w : World) (a b : ByteArray) (ha : strOk a) (hb : strOk b) :
    Calls Tryz.prog 114 #[.agg #[.string a, .string b]] w (RetB (isPl a b) w) := by
  have Hb := Lib.hid (box_below w (.cells #[.string a, .string b] 23))
  unfold strOk maxLen at ha hb
  go_enter Tryz.func114, Tryz.ntmps114
  go_wp2_with fail
  all_goals
    go_ret
    refine ⟨ret_bool ?_, Hb.out⟩
    unfold isPl
    simp
    omega
set_option maxRecDepth 100000 in
set_option maxHeartbeats 4000000 in
theorem oprest_calls (w : World) (o : OpM) :
    Calls Tryz.prog 173 #[o.v] w fun e w' => e = .returned o.rst.v ∧ Below w.heap.size w w' := by
  have e0 : o.v = .agg #[.int .i64 o.kind, .int .i64 o.client, .int .i64 o.seq, .string o.atK, .string o.atW, .string o.toK, .string o.toW, .int .i64 o.item, .int .i64 o.count, .int .i64 o.price, .bool o.buy, .int .i64 o.id] := rfl
  rw [e0]
  go_enter Tryz.func173, Tryz.ntmps173
  go_wp2_with fail
  refine bodyPost_ret (results_cell_row rfl _ _ (w.heap.size + 1) _ _ (0, 0) _ rfl (new_block2 _ _ _) Tryz.underlying187 rfl (by kernel_rfl)) rfl ?_
  exact ⟨rfl, (box_below _ _).trans ((box_below _ _).mono (by simp))⟩
end Go.Proofs.YtogdfkilhpkloaaGreatDoor

namespace Go.Proofs.YtogdfkilhpkloaaGreatDoor
open Go.RowKit Go.Sat Go.Maps

def OpM.cntM (o : OpM) : Bool := o.cnt && o.rst.same { OpM.zero with item := o.item, count := o.count }
def OpM.idM (o : OpM) : Bool := decide (1 ≤ o.id) && decide (o.id ≤ 1099511627776) && o.rst.same { OpM.zero with id := o.id }
def OpM.bareM (o : OpM) : Bool := o.rst.same OpM.zero
theorem wf64_0 : wf64 0 := wf64_of (by omega)
theorem strOk_s0 : strOk s0 := Nat.zero_le _
theorem OpM.wf_rst {o : OpM} (h : o.wf) : o.rst.wf := ⟨⟨wf64_0, wf64_0, wf64_0⟩, ⟨strOk_s0, strOk_s0, h.2.1.2.2⟩, h.2.2⟩
theorem below_drewN (k : Nat) (w : World) (n : Nat) : Below k w (w.drewN n) := ⟨rfl, rfl, rfl, Nat.le_refl _, fun _ _ => rfl⟩
theorem held_new {w w1 : World} {o : OpM} (n0 : w1.heap[w.heap.size]? = some (.cells #[.int .i64 o.kind, .int .i64 o.client, .int .i64 o.seq, .string o.atK, .string o.atW, .string o.toK, .string o.toW, .int .i64 o.item, .int .i64 o.count, .int .i64 o.price, .bool o.buy, .int .i64 o.id] 187 (0, 0))) (hb : Below w.heap.size w w1) :
    w1.heap[w.heap.size]? = some (.cells #[.int .i64 o.kind, .int .i64 o.client, .int .i64 o.seq, .string o.atK, .string o.atW, .string o.toK, .string o.toW, .int .i64 o.item, .int .i64 o.count, .int .i64 o.price, .bool o.buy, .int .i64 o.id] 187 (0, 0)) ∧ w1.cell? ⟨w.heap.size, 0, none⟩ = some (.int .i64 o.kind) ∧ w1.cell? ⟨w.heap.size, 1, none⟩ = some (.int .i64 o.client) ∧ w1.cell? ⟨w.heap.size, 2, none⟩ = some (.int .i64 o.seq) ∧ w1.cell? ⟨w.heap.size, 3, none⟩ = some (.string o.atK) ∧ w1.cell? ⟨w.heap.size, 4, none⟩ = some (.string o.atW) ∧ w1.cell? ⟨w.heap.size, 5, none⟩ = some (.string o.toK) ∧ w1.cell? ⟨w.heap.size, 6, none⟩ = some (.string o.toW) ∧ w1.cell? ⟨w.heap.size, 7, none⟩ = some (.int .i64 o.item) ∧ w1.cell? ⟨w.heap.size, 8, none⟩ = some (.int .i64 o.count) ∧ w1.cell? ⟨w.heap.size, 9, none⟩ = some (.int .i64 o.price) ∧ w1.cell? ⟨w.heap.size, 10, none⟩ = some (.bool o.buy) ∧ w1.cell? ⟨w.heap.size, 11, none⟩ = some (.int .i64 o.id) ∧ Below w.heap.size w w1 :=
  ⟨n0, cell_of n0 rfl, cell_of n0 rfl, cell_of n0 rfl, cell_of n0 rfl, cell_of n0 rfl, cell_of n0 rfl, cell_of n0 rfl, cell_of n0 rfl, cell_of n0 rfl, cell_of n0 rfl, cell_of n0 rfl, cell_of n0 rfl, hb⟩
theorem held_below {w w1 : World} {o : OpM} (h : w1.heap[w.heap.size]? = some (.cells #[.int .i64 o.kind, .int .i64 o.client, .int .i64 o.seq, .string o.atK, .string o.atW, .string o.toK, .string o.toW, .int .i64 o.item, .int .i64 o.count, .int .i64 o.price, .bool o.buy, .int .i64 o.id] 187 (0, 0)) ∧ w1.cell? ⟨w.heap.size, 0, none⟩ = some (.int .i64 o.kind) ∧ w1.cell? ⟨w.heap.size, 1, none⟩ = some (.int .i64 o.client) ∧ w1.cell? ⟨w.heap.size, 2, none⟩ = some (.int .i64 o.seq) ∧ w1.cell? ⟨w.heap.size, 3, none⟩ = some (.string o.atK) ∧ w1.cell? ⟨w.heap.size, 4, none⟩ = some (.string o.atW) ∧ w1.cell? ⟨w.heap.size, 5, none⟩ = some (.string o.toK) ∧ w1.cell? ⟨w.heap.size, 6, none⟩ = some (.string o.toW) ∧ w1.cell? ⟨w.heap.size, 7, none⟩ = some (.int .i64 o.item) ∧ w1.cell? ⟨w.heap.size, 8, none⟩ = some (.int .i64 o.count) ∧ w1.cell? ⟨w.heap.size, 9, none⟩ = some (.int .i64 o.price) ∧ w1.cell? ⟨w.heap.size, 10, none⟩ = some (.bool o.buy) ∧ w1.cell? ⟨w.heap.size, 11, none⟩ = some (.int .i64 o.id) ∧ Below w.heap.size w w1) : Below w.heap.size w w1 := h.2.2.2.2.2.2.2.2.2.2.2.2.2
theorem held_go {w w1 w2 : World} {o : OpM} (h : w1.heap[w.heap.size]? = some (.cells #[.int .i64 o.kind, .int .i64 o.client, .int .i64 o.seq, .string o.atK, .string o.atW, .string o.toK, .string o.toW, .int .i64 o.item, .int .i64 o.count, .int .i64 o.price, .bool o.buy, .int .i64 o.id] 187 (0, 0)) ∧ w1.cell? ⟨w.heap.size, 0, none⟩ = some (.int .i64 o.kind) ∧ w1.cell? ⟨w.heap.size, 1, none⟩ = some (.int .i64 o.client) ∧ w1.cell? ⟨w.heap.size, 2, none⟩ = some (.int .i64 o.seq) ∧ w1.cell? ⟨w.heap.size, 3, none⟩ = some (.string o.atK) ∧ w1.cell? ⟨w.heap.size, 4, none⟩ = some (.string o.atW) ∧ w1.cell? ⟨w.heap.size, 5, none⟩ = some (.string o.toK) ∧ w1.cell? ⟨w.heap.size, 6, none⟩ = some (.string o.toW) ∧ w1.cell? ⟨w.heap.size, 7, none⟩ = some (.int .i64 o.item) ∧ w1.cell? ⟨w.heap.size, 8, none⟩ = some (.int .i64 o.count) ∧ w1.cell? ⟨w.heap.size, 9, none⟩ = some (.int .i64 o.price) ∧ w1.cell? ⟨w.heap.size, 10, none⟩ = some (.bool o.buy) ∧ w1.cell? ⟨w.heap.size, 11, none⟩ = some (.int .i64 o.id) ∧ Below w.heap.size w w1) (hb : Below w1.heap.size w1 w2) :
    w2.heap[w.heap.size]? = some (.cells #[.int .i64 o.kind, .int .i64 o.client, .int .i64 o.seq, .string o.atK, .string o.atW, .string o.toK, .string o.toW, .int .i64 o.item, .int .i64 o.count, .int .i64 o.price, .bool o.buy, .int .i64 o.id] 187 (0, 0)) ∧ w2.cell? ⟨w.heap.size, 0, none⟩ = some (.int .i64 o.kind) ∧ w2.cell? ⟨w.heap.size, 1, none⟩ = some (.int .i64 o.client) ∧ w2.cell? ⟨w.heap.size, 2, none⟩ = some (.int .i64 o.seq) ∧ w2.cell? ⟨w.heap.size, 3, none⟩ = some (.string o.atK) ∧ w2.cell? ⟨w.heap.size, 4, none⟩ = some (.string o.atW) ∧ w2.cell? ⟨w.heap.size, 5, none⟩ = some (.string o.toK) ∧ w2.cell? ⟨w.heap.size, 6, none⟩ = some (.string o.toW) ∧ w2.cell? ⟨w.heap.size, 7, none⟩ = some (.int .i64 o.item) ∧ w2.cell? ⟨w.heap.size, 8, none⟩ = some (.int .i64 o.count) ∧ w2.cell? ⟨w.heap.size, 9, none⟩ = some (.int .i64 o.price) ∧ w2.cell? ⟨w.heap.size, 10, none⟩ = some (.bool o.buy) ∧ w2.cell? ⟨w.heap.size, 11, none⟩ = some (.int .i64 o.id) ∧ Below w.heap.size w w2 := by
  obtain ⟨h0, -, -, -, -, -, -, -, -, -, -, -, -, h1⟩ := h
  exact held_new ((hb.block _ (lt_of_block h0)).trans h0) (h1.trans (hb.mono h1.size))
set_option maxRecDepth 100000 in
set_option maxHeartbeats 4000000 in
theorem opbare_calls (w : World) (o : OpM) (h : o.wf) :
    Calls Tryz.prog 113 #[o.v] w (RetB o.bareM w) := by
  have Hq := Lib.hid (fun W => op_eq W o.rst OpM.zero (OpM.wf_rst h) ⟨⟨wf64_0, wf64_0, wf64_0⟩, ⟨strOk_s0, strOk_s0, strOk_s0, strOk_s0⟩, wf64_0, wf64_0, wf64_0, wf64_0⟩)
  have Hr := Lib.hid (fun W => oprest_calls W o)
  have e0 : o.v = .agg #[.int .i64 o.kind, .int .i64 o.client, .int .i64 o.seq, .string o.atK, .string o.atW, .string o.toK, .string o.toW, .int .i64 o.item, .int .i64 o.count, .int .i64 o.price, .bool o.buy, .int .i64 o.id] := rfl
  have Hb := Lib.hid (fun W : World => box_below W (o.o 187))
  rw [e0] at Hr ⊢
  go_enter Tryz.func113, Tryz.ntmps113
  go_wp2_with fail
  refine (Hr.out _).mono ?_
  rintro e w2 ⟨he, hb⟩
  rw [show o.rst.v = .agg #[.int .i64 0, .int .i64 0, .int .i64 0, .string ⟨#[]⟩, .string ⟨#[]⟩, .string o.toK, .string o.toW, .int .i64 o.item, .int .i64 o.count, .int .i64 o.price, .bool o.buy, .int .i64 o.id] from rfl] at he
  subst he
  have HB := Lib.hid ((Hb.out w).trans (hb.mono (Hb.out w).size))
  clear hb
  have hq : ∀ W : World, (Op.equalIn 10000 187 (.agg #[.int .i64 0, .int .i64 0, .int .i64 0, .string ⟨#[]⟩, .string ⟨#[]⟩, .string o.toK, .string o.toW, .int .i64 o.item, .int .i64 o.count, .int .i64 o.price, .bool o.buy, .int .i64 o.id]) (.agg #[.int .i64 0, .int .i64 0, .int .i64 0, .string ⟨#[]⟩, .string ⟨#[]⟩, .string ⟨#[]⟩, .string ⟨#[]⟩, .int .i64 0, .int .i64 0, .int .i64 0, .bool false, .int .i64 0])).run Tryz.prog W = .ok o.bareM W := Hq.out
  go_wp2_with fail
  go_ret
  exact ⟨rfl, HB.out⟩
set_option maxRecDepth 100000 in
set_option maxHeartbeats 4000000 in
theorem opcounts_calls (w : World) (o : OpM) (h : o.wf) :
    Calls Tryz.prog 109 #[o.v] w (RetB o.cntM w) := by
  have Hq := Lib.hid (fun W => op_eq W o.rst { OpM.zero with item := o.item, count := o.count } (OpM.wf_rst h) ⟨⟨wf64_0, wf64_0, wf64_0⟩, ⟨strOk_s0, strOk_s0, strOk_s0, strOk_s0⟩, h.2.2.1, h.2.2.2.1, wf64_0, wf64_0⟩)
  have Hr := Lib.hid (fun W => oprest_calls W o)
  have e0 : o.v = .agg #[.int .i64 o.kind, .int .i64 o.client, .int .i64 o.seq, .string o.atK, .string o.atW, .string o.toK, .string o.toW, .int .i64 o.item, .int .i64 o.count, .int .i64 o.price, .bool o.buy, .int .i64 o.id] := rfl
  have Hb := Lib.hid (fun W : World => box_below W (o.o 187))
  rw [e0] at Hr ⊢
  go_enter Tryz.func109, Tryz.ntmps109
  go_wp2_with fail
  obtain ⟨w1, hw1⟩ : ∃ w1, w1 = w.alloc (.cells #[.int .i64 o.kind, .int .i64 o.client, .int .i64 o.seq, .string o.atK, .string o.atW, .string o.toK, .string o.toW, .int .i64 o.item, .int .i64 o.count, .int .i64 o.price, .bool o.buy, .int .i64 o.id] 187 (0, 0)) := ⟨_, rfl⟩
  have n0 : w1.heap[w.heap.size]? = some (.cells #[.int .i64 o.kind, .int .i64 o.client, .int .i64 o.seq, .string o.atK, .string o.atW, .string o.toK, .string o.toW, .int .i64 o.item, .int .i64 o.count, .int .i64 o.price, .bool o.buy, .int .i64 o.id] 187 (0, 0)) := by rw [hw1]; exact new_block _ _
  have n3 : Below w.heap.size w w1 := hw1 ▸ Hb.out w
  rw [← hw1]
  clear hw1 Hb
  obtain ⟨k0, k1, k2, k3, k4, k5, k6, k7, k8, k9, k10, k11, k12, k13⟩ := held_new n0 n3
  have Hk := Lib.hid (held_new n0 n3)
  clear n0 n3 k13
  rcases (by omega : (o.item < 0) ∨ (0 ≤ o.item ∧ 4 ≤ o.item) ∨ (0 ≤ o.item ∧ o.item < 4 ∧ o.count < 1) ∨ (0 ≤ o.item ∧ o.item < 4 ∧ 1 ≤ o.count ∧ 1048576 < o.count) ∨ (0 ≤ o.item ∧ o.item < 4 ∧ 1 ≤ o.count ∧ o.count ≤ 1048576)) with h1 | ⟨h1, h2⟩ | ⟨h1, h2, h3⟩ | ⟨h1, h2, h3, h4⟩ | ⟨h1, h2, h3, h4⟩
  · have hd : decide (0 ≤ o.item) = false := decide_eq_false (by omega)
    go_quiet (fail)
    go_wp2_with fail
    go_ret
    refine ⟨ret_bool ?_, Hk.out.2.2.2.2.2.2.2.2.2.2.2.2.2.trans (below_drewN _ _ _)⟩
    unfold OpM.cntM OpM.cnt
    simp
    omega
  · have hd : decide (o.item < 4) = false := decide_eq_false (by omega)
    go_quiet (fail)
    go_wp2_with fail
    go_ret
    refine ⟨ret_bool ?_, Hk.out.2.2.2.2.2.2.2.2.2.2.2.2.2.trans (below_drewN _ _ _)⟩
    unfold OpM.cntM OpM.cnt
    simp
    omega
  · have hd : decide (1 ≤ o.count) = false := decide_eq_false (by omega)
    go_quiet (fail)
    go_wp2_with fail
    go_ret
    refine ⟨ret_bool ?_, Hk.out.2.2.2.2.2.2.2.2.2.2.2.2.2.trans (below_drewN _ _ _)⟩
    unfold OpM.cntM OpM.cnt
    simp
    omega
  · have hd : decide (o.count ≤ 1048576) = false := decide_eq_false (by omega)
    go_quiet (fail)
    go_wp2_with fail
    go_ret
    refine ⟨ret_bool ?_, Hk.out.2.2.2.2.2.2.2.2.2.2.2.2.2.trans (below_drewN _ _ _)⟩
    unfold OpM.cntM OpM.cnt
    simp
    omega
  · have hq : ∀ W : World, (Op.equalIn 10000 187 (.agg #[.int .i64 0, .int .i64 0, .int .i64 0, .string ⟨#[]⟩, .string ⟨#[]⟩, .string o.toK, .string o.toW, .int .i64 o.item, .int .i64 o.count, .int .i64 o.price, .bool o.buy, .int .i64 o.id]) (.agg #[.int .i64 0, .int .i64 0, .int .i64 0, .string ⟨#[]⟩, .string ⟨#[]⟩, .string ⟨#[]⟩, .string ⟨#[]⟩, .int .i64 o.item, .int .i64 o.count, .int .i64 0, .bool false, .int .i64 0])).run Tryz.prog W = .ok (o.rst.same { OpM.zero with item := o.item, count := o.count }) W := Hq.out
    go_region_held3 (fun w' => w'.heap[w.heap.size]? = some (.cells #[.int .i64 o.kind, .int .i64 o.client, .int .i64 o.seq, .string o.atK, .string o.atW, .string o.toK, .string o.toW, .int .i64 o.item, .int .i64 o.count, .int .i64 o.price, .bool o.buy, .int .i64 o.id] 187 (0, 0)) ∧ w'.cell? ⟨w.heap.size, 0, none⟩ = some (.int .i64 o.kind) ∧ w'.cell? ⟨w.heap.size, 1, none⟩ = some (.int .i64 o.client) ∧ w'.cell? ⟨w.heap.size, 2, none⟩ = some (.int .i64 o.seq) ∧ w'.cell? ⟨w.heap.size, 3, none⟩ = some (.string o.atK) ∧ w'.cell? ⟨w.heap.size, 4, none⟩ = some (.string o.atW) ∧ w'.cell? ⟨w.heap.size, 5, none⟩ = some (.string o.toK) ∧ w'.cell? ⟨w.heap.size, 6, none⟩ = some (.string o.toW) ∧ w'.cell? ⟨w.heap.size, 7, none⟩ = some (.int .i64 o.item) ∧ w'.cell? ⟨w.heap.size, 8, none⟩ = some (.int .i64 o.count) ∧ w'.cell? ⟨w.heap.size, 9, none⟩ = some (.int .i64 o.price) ∧ w'.cell? ⟨w.heap.size, 10, none⟩ = some (.bool o.buy) ∧ w'.cell? ⟨w.heap.size, 11, none⟩ = some (.int .i64 o.id) ∧ Below w.heap.size w w') (first | exact hNew | exact held_go Hk.out ⟨rfl, rfl, rfl, Nat.le_refl _, fun _ _ => rfl⟩) (first | (go_at_call 173; refine (Hr.out _).mono ?_; rintro e w2 ⟨he, hb⟩; rw [show o.rst.v = .agg #[.int .i64 0, .int .i64 0, .int .i64 0, .string ⟨#[]⟩, .string ⟨#[]⟩, .string o.toK, .string o.toW, .int .i64 o.item, .int .i64 o.count, .int .i64 o.price, .bool o.buy, .int .i64 o.id] from rfl] at he; subst he; have hNew := held_go (w := w) (o := o) (by assumption) hb))
    have hbe := Lib.hid (held_below (w := w) (o := o) (by assumption))
    go_wp2_with fail
    go_ret
    refine ⟨ret_bool ?_, hbe.out⟩
    unfold OpM.cntM OpM.cnt
    simp
    omega
set_option maxRecDepth 100000 in
set_option maxHeartbeats 4000000 in
theorem opcancels_calls (w : World) (o : OpM) (h : o.wf) :
    Calls Tryz.prog 112 #[o.v] w (RetB o.idM w) := by
  have Hq := Lib.hid (fun W => op_eq W o.rst { OpM.zero with id := o.id } (OpM.wf_rst h) ⟨⟨wf64_0, wf64_0, wf64_0⟩, ⟨strOk_s0, strOk_s0, strOk_s0, strOk_s0⟩, wf64_0, wf64_0, wf64_0, h.2.2.2.2.2⟩)
  have Hr := Lib.hid (fun W => oprest_calls W o)
  have e0 : o.v = .agg #[.int .i64 o.kind, .int .i64 o.client, .int .i64 o.seq, .string o.atK, .string o.atW, .string o.toK, .string o.toW, .int .i64 o.item, .int .i64 o.count, .int .i64 o.price, .bool o.buy, .int .i64 o.id] := rfl
  have Hb := Lib.hid (fun W : World => box_below W (o.o 187))
  rw [e0] at Hr ⊢
  go_enter Tryz.func112, Tryz.ntmps112
  go_wp2_with fail
  obtain ⟨w1, hw1⟩ : ∃ w1, w1 = w.alloc (.cells #[.int .i64 o.kind, .int .i64 o.client, .int .i64 o.seq, .string o.atK, .string o.atW, .string o.toK, .string o.toW, .int .i64 o.item, .int .i64 o.count, .int .i64 o.price, .bool o.buy, .int .i64 o.id] 187 (0, 0)) := ⟨_, rfl⟩
  have n0 : w1.heap[w.heap.size]? = some (.cells #[.int .i64 o.kind, .int .i64 o.client, .int .i64 o.seq, .string o.atK, .string o.atW, .string o.toK, .string o.toW, .int .i64 o.item, .int .i64 o.count, .int .i64 o.price, .bool o.buy, .int .i64 o.id] 187 (0, 0)) := by rw [hw1]; exact new_block _ _
  have n3 : Below w.heap.size w w1 := hw1 ▸ Hb.out w
  rw [← hw1]
  clear hw1 Hb
  obtain ⟨k0, k1, k2, k3, k4, k5, k6, k7, k8, k9, k10, k11, k12, k13⟩ := held_new n0 n3
  have Hk := Lib.hid (held_new n0 n3)
  clear n0 n3 k13
  rcases (by omega : (o.id < 1) ∨ (1 ≤ o.id ∧ 1099511627776 < o.id) ∨ (1 ≤ o.id ∧ o.id ≤ 1099511627776)) with h1 | ⟨h1, h2⟩ | ⟨h1, h2⟩
  · have hd : decide (1 ≤ o.id) = false := decide_eq_false (by omega)
    go_quiet (fail)
    go_wp2_with fail
    go_ret
    refine ⟨ret_bool ?_, Hk.out.2.2.2.2.2.2.2.2.2.2.2.2.2.trans (below_drewN _ _ _)⟩
    unfold OpM.idM
    simp
    omega
  · have hd : decide (o.id ≤ 1099511627776) = false := decide_eq_false (by omega)
    go_quiet (fail)
    go_wp2_with fail
    go_ret
    refine ⟨ret_bool ?_, Hk.out.2.2.2.2.2.2.2.2.2.2.2.2.2.trans (below_drewN _ _ _)⟩
    unfold OpM.idM
    simp
    omega
  · have hq : ∀ W : World, (Op.equalIn 10000 187 (.agg #[.int .i64 0, .int .i64 0, .int .i64 0, .string ⟨#[]⟩, .string ⟨#[]⟩, .string o.toK, .string o.toW, .int .i64 o.item, .int .i64 o.count, .int .i64 o.price, .bool o.buy, .int .i64 o.id]) (.agg #[.int .i64 0, .int .i64 0, .int .i64 0, .string ⟨#[]⟩, .string ⟨#[]⟩, .string ⟨#[]⟩, .string ⟨#[]⟩, .int .i64 0, .int .i64 0, .int .i64 0, .bool false, .int .i64 o.id])).run Tryz.prog W = .ok (o.rst.same { OpM.zero with id := o.id }) W := Hq.out
    go_region_held3 (fun w' => w'.heap[w.heap.size]? = some (.cells #[.int .i64 o.kind, .int .i64 o.client, .int .i64 o.seq, .string o.atK, .string o.atW, .string o.toK, .string o.toW, .int .i64 o.item, .int .i64 o.count, .int .i64 o.price, .bool o.buy, .int .i64 o.id] 187 (0, 0)) ∧ w'.cell? ⟨w.heap.size, 0, none⟩ = some (.int .i64 o.kind) ∧ w'.cell? ⟨w.heap.size, 1, none⟩ = some (.int .i64 o.client) ∧ w'.cell? ⟨w.heap.size, 2, none⟩ = some (.int .i64 o.seq) ∧ w'.cell? ⟨w.heap.size, 3, none⟩ = some (.string o.atK) ∧ w'.cell? ⟨w.heap.size, 4, none⟩ = some (.string o.atW) ∧ w'.cell? ⟨w.heap.size, 5, none⟩ = some (.string o.toK) ∧ w'.cell? ⟨w.heap.size, 6, none⟩ = some (.string o.toW) ∧ w'.cell? ⟨w.heap.size, 7, none⟩ = some (.int .i64 o.item) ∧ w'.cell? ⟨w.heap.size, 8, none⟩ = some (.int .i64 o.count) ∧ w'.cell? ⟨w.heap.size, 9, none⟩ = some (.int .i64 o.price) ∧ w'.cell? ⟨w.heap.size, 10, none⟩ = some (.bool o.buy) ∧ w'.cell? ⟨w.heap.size, 11, none⟩ = some (.int .i64 o.id) ∧ Below w.heap.size w w') (first | exact hNew | exact held_go Hk.out ⟨rfl, rfl, rfl, Nat.le_refl _, fun _ _ => rfl⟩) (first | (go_at_call 173; refine (Hr.out _).mono ?_; rintro e w2 ⟨he, hb⟩; rw [show o.rst.v = .agg #[.int .i64 0, .int .i64 0, .int .i64 0, .string ⟨#[]⟩, .string ⟨#[]⟩, .string o.toK, .string o.toW, .int .i64 o.item, .int .i64 o.count, .int .i64 o.price, .bool o.buy, .int .i64 o.id] from rfl] at he; subst he; have hNew := held_go (w := w) (o := o) (by assumption) hb))
    have hbe := Lib.hid (held_below (w := w) (o := o) (by assumption))
    go_wp2_with fail
    go_ret
    refine ⟨ret_bool ?_, hbe.out⟩
    unfold OpM.idM
    simp
    omega
end Go.Proofs.YtogdfkilhpkloaaGreatDoor
