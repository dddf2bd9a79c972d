/- The document's journal (satrapyref5) in memory; Last, TermAt. The document's journal: GroupAt, Config. (Printed by mkrk2.py.) satrapyref5.Own. (Printed by mkrk3.py.) journal: SetTerm. (Printed by mkj9.py.) journal: Cut. (Printed by mkj10.py.) journal: rows that are gathered, entries handed in. (Printed by mkj11.py.) journal: Append. (Printed by mkj12.py.) journal: writes. (Printed by mkj13.py.) journal: slices.Clone of entries, rebase. (Printed by mkj14.py.) journal: goes. (Printed by mkj15.py.) journal: Compact, Install. (Printed by mkj16.py.) journal: Install. (Printed by mkj17.py.) octet: Reader.Nums; journal: readGroup. (Printed by mkj18.py.) journal: record. (Printed by mkj19.py.) journal: record, kind 4. (Printed by mkj20.py.) journal: record, kind 2. (Printed by mkj21.py.) journal: record, kind 3. (Printed by mkj22.py.) journal: record. (Printed by mkj23.py.) journal: readSnap. (Printed by mkj24.py.) journal: readLog. (Printed by mkj25.py.) journal: Open (plain laws). What an empty disk opens as (plain laws). The disk of a journal "a": a log, and a snapshot or none (plain laws). What the disk of a journal "a" opens as (plain laws). A journal of a law's own on its disk: what each thing done leaves (plain laws). A journal of a law's own on its disk: start, SetTerm, Append, Cut (plain laws). A journal of a law's own on its disk: Compact, Install (plain laws). satrapylaw5.known: what it does (plain). satrapyref1.Bytes, satrapyref5.Bytes, entry. (Printed by mkrk5.py.) satrapyref15: the bytes of a zone whose economy is nothing. Printed by mkr15.py. The document's Scan (satrapyref2). The document's ledger (satrapyref14) in memory, over its disk. (Printed by mkrl1.py.) The document's ReadList (satrapyref5). The document's ReadEntry and reads: plain laws (what its list of nodes says is what the program's says). satrapyref5.ReadEntry. (Printed by mkro1.py.) The document's journal: At. (Printed by mkrk4.py.) The document's Whole (satrapyref4): a file is made to hold just these bytes. The document's journal: a thing done with its disk; lays. (Printed by mkrk6.py.) The document's journal: SetTerm, Cut. (Printed by mkrk7.py.) The document's journal: its list turned; Cut. (Printed by mkrk8.py.) The document's journal: reads (helpers, nothing, else, kind 2). (Printed by mkro2.py.) The document's journal: reads, kinds 2 and 1. (Printed by mkro3.py.) The document's journal: Append. (Printed by mkrk9.py.) The document's journal: reads, kinds 4 and 3; all of it. (Printed by mkro4.py.) The document's journal: reads. (Printed by mkro5.py.) The document's journal: anew, of no entries. (Printed by mkrj4.py.) The document's journal: anew. (Printed by mkrk10.py.) The document's journal: its base turned. (Printed by mkrk11.py.) Contracts of the document's journal that ask nothing of its disk. (Printed by mkro8.py out of the texts RJ, RJA, RJB.) The document's journal: stands. (Printed by mkrk12.py.) The document's Save (satrapyref4). The document's journal: its data turned; snaps. (Printed by mkrk13.py.) The document's journal: Compact. (Printed by mkrk14.py.) The document's journal: Install. (Printed by mkro6.py.) The document's journal within its opening: what each thing done leaves. The document's ledger: Last, has; within its opening what each thing done leaves. (Printed by mkrl2.py.) The document's ledger: image. (Printed by mkrl3.py.) -/
import Derived.Lib.SliceRun
import Derived.Test.YtogdfkilhpkloaaGreatDoorAA
import Derived.Test.YtogdfkilhpkloaaGreatDoorAC
import Derived.Test.YtogdfkilhpkloaaGreatDoorAD
import Derived.Test.YtogdfkilhpkloaaGreatDoorAE
import Derived.Test.YtogdfkilhpkloaaGreatDoorAF
import Derived.Test.YtogdfkilhpkloaaGreatDoorAH
import Derived.Test.YtogdfkilhpkloaaGreatDoorAI
import Derived.Test.YtogdfkilhpkloaaGreatDoorAJ
import Derived.Test.YtogdfkilhpkloaaGreatDoorAK
namespace Go.Proofs.YtogdfkilhpkloaaGreatDoor
open Go.RowKit Go.Sat Go.Maps

section
variable {w w' : World} {j r : Nat} {pre : ByteArray} {O C : Nat → Prop} {M : JouM} {gv dv ev : Value} {vs : List EV}

theorem EntHas.keep {e : Ent} {v : EV} (h : EntHas w e v) (hb : ∀ k, (v.1.ownBlock = some k ∨ v.2.ownBlock = some k) → w'.heap[k]? = w.heap[k]?) : EntHas w' e v :=
  ⟨Holds.keep h.data fun k hk => hb k (.inl hk), Holds.keep h.nodes fun k hk => hb k (.inr hk), h.dl, h.nl⟩
end

section
variable {w1 w2 : World} {j r : Nat} {pre : ByteArray} {D : DiskM} {M : JouM} {Hot Cold : Nat → Prop}

end
end Go.Proofs.YtogdfkilhpkloaaGreatDoor

namespace Go.Proofs.YtogdfkilhpkloaaGreatDoor
open Go.RowKit Go.Sat Go.Maps

/-- The entries that are not above a number. -/
def JouM.upto (M : JouM) (z : Int) : Nat := min (z - (M.number : Int)).toNat M.entries.length

section
variable {w1 w2 : World} {j r : Nat} {pre : ByteArray} {D : DiskM} {M : JouM} {Hot Cold : Nat → Prop}

end
end Go.Proofs.YtogdfkilhpkloaaGreatDoor

namespace Go.Proofs.YtogdfkilhpkloaaGreatDoor
open Go.RowKit Go.Sat Go.Maps

abbrev RowT := TypeId × Value × Nat × List Value
structure RowS (W1 W : World) (x : RowT) : Prop where
  own : OwnR W x.1 1 x.2.1 x.2.2.1 x.2.2.2
  new : ∀ k, x.2.1.ownBlock = some k → W1.heap.size ≤ k
/-- Two rows that are being made, each or none. -/
def TwoRows (W1 W : World) (a b : Option RowT) : Prop := Below W1.heap.size W1 W ∧ (∀ x, a = some x → RowS W1 W x) ∧ (∀ y, b = some y → RowS W1 W y) ∧ ∀ x y, a = some x → b = some y → ∀ k, x.2.1.ownBlock = some k → y.2.1.ownBlock ≠ some k
section
variable {W1 W W' : World} {a b : Option RowT} {e : TypeId} {v v' : Value} {n m : Nat} {xs news : List Value}
theorem TwoRows.swap (h : TwoRows W1 W a b) : TwoRows W1 W b a := ⟨h.1, h.2.2.1, h.2.1, fun x y hx hy k hk e => h.2.2.2 y x hy hx k e hk⟩
theorem TwoRows.own (h : TwoRows W1 W (some (e, v, n, xs)) b) : OwnR W e 1 v n xs := (h.2.1 _ rfl).own
theorem TwoRows.new (h : TwoRows W1 W (some (e, v, n, xs)) b) : ∀ k, v.ownBlock = some k → W1.heap.size ≤ k := (h.2.1 _ rfl).new
theorem TwoRows.alloc (h : TwoRows W1 W none b) : TwoRows W1 (W.alloc (.cells #[] e)) (some (e, .slice (some ⟨W.heap.size, 0, none⟩) 0 0, 0, [])) b := by
  have hb := below_one W (.cells #[] e)
  refine ⟨h.1.trans (hb.mono h.1.size), fun x hx => ?_, fun y hy => ⟨OwnR.keep (h.2.2.1 y hy).own fun k hk => hb.block k (OwnR.lt (h.2.2.1 y hy).own hk), (h.2.2.1 y hy).new⟩, fun x y hx hy k hk e2 => ?_⟩
  · cases hx
    refine ⟨own_empty W e, fun k hk => ?_⟩
    have := Option.some.inj hk
    have := h.1.size
    dsimp only at *
    omega
  · cases hx
    have h1 := OwnR.lt (h.2.2.1 y hy).own e2
    have h2 := Option.some.inj hk
    dsimp only at h2
    omega
theorem TwoRows.app (h : TwoRows W1 W (some (e, v, n, xs)) b) (hown : OwnR W' e 1 v' (n + m) (xs ++ news)) (hg : W.grownBy W' v.ownBlock) (hl : v'.ownBlock = v.ownBlock ∨ ∃ g, v'.ownBlock = some g ∧ W.heap.size ≤ g) :
    TwoRows W1 W' (some (e, v', n + m, xs ++ news)) b := by
  have hc := Chg.of_grown hg
  refine ⟨h.1.trans (hc.below h.1.size fun k hk e2 => by have := h.new k e2.symm; omega), fun x hx => ?_, fun y hy => ⟨OwnR.keep (h.2.2.1 y hy).own fun k hk => hc.block k (OwnR.lt (h.2.2.1 y hy).own hk) fun e2 => h.2.2.2 _ y rfl hy k e2.symm hk, (h.2.2.1 y hy).new⟩, fun x y hx hy k hk e2 => ?_⟩
  · cases hx
    refine ⟨hown, fun k hk => ?_⟩
    rcases hl with h1 | ⟨g, h1, hge⟩
    · exact h.new k (h1 ▸ hk)
    · rw [h1] at hk
      cases hk
      exact Nat.le_trans h.1.size hge
  · cases hx
    rcases hl with h1 | ⟨g, h1, hge⟩
    · exact h.2.2.2 _ y rfl hy k (h1 ▸ hk) e2
    · have h3 : v'.ownBlock = some k := hk
      rw [h1] at h3
      cases h3
      have := OwnR.lt (h.2.2.1 y hy).own e2
      omega
end

end Go.Proofs.YtogdfkilhpkloaaGreatDoor

namespace Go.Proofs.YtogdfkilhpkloaaGreatDoor
open Go.RowKit Go.Sat Go.Maps

/-- Rows that are gathered since w. -/
structure RowsN (w W : World) (v : Value) (vs : List Value) (ls : List Bs) : Prop where
  rows : RowsIn W v vs ls
  new : NewRows w.heap.size v vs
  bel : Below w.heap.size w W

theorem RowsN.nil (w : World) : RowsN w w (.slice none 0 0) [] [] := ⟨RowsIn.nil _, ⟨fun k hk => (by cases hk), fun u hu => (by simp at hu)⟩, Below.refl _ _⟩
theorem RowsN.next {w W W2 : World} {v : Value} {vs : List Value} {ls : List Bs} (h : RowsN w W v vs ls) (hb : Below W.heap.size W W2) : RowsN w W2 v vs ls := ⟨h.rows.below hb, h.new, h.bel.trans (hb.mono h.bel.size)⟩

theorem RowsN.push {w W W2 w3 : World} {v v3 u : Value} {vs : List Value} {ls : List Bs} {x : Bs} {o : Obj} (h : RowsN w W v vs ls) (hb : Below W.heap.size W W2) (hu : OwnB W2 5 u x) (hun : ∀ k, u.ownBlock = some k → W.heap.size ≤ k)
    (hown : OwnR w3 39 1 v3 (ls.length + 1) (vs ++ [u])) (hg : (W2.alloc o).grownBy w3 v.ownBlock) (hloc : v3.ownBlock = v.ownBlock ∨ ∃ g, v3.ownBlock = some g ∧ (W2.alloc o).heap.size ≤ g) : RowsN w w3 v3 (vs ++ [u]) (ls ++ [x]) := by
  have h1 := h.next hb
  have h2 := below_one0 W2 o
  have hs := hb.size
  have hs2 := h2.size
  have hs3 := h.bel.size
  refine ⟨RowsIn.push (h1.rows.below h2) (ownB_far hu h2) (fun k hk e => by have a := hun k hk; have b := OwnR.lt h.rows.row e; omega) hown hg hloc, NewRows.push h.new (fun k hk => Nat.le_trans hs3 (hun k hk)) hloc (by omega), ?_⟩
  exact ((Chg.of_below (h1.bel.trans (h2.mono h1.bel.size))).trans (Chg.of_grown hg) fun k hk e => by have := h.new.1 k e.symm; omega : Chg (fun _ => False) w w3).below (Nat.le_refl _) fun _ _ => id

theorem RowsIn.at {w : World} {p : Option Addr} {n c : Nat} {vs : List Value} {ls : List Bs} (h : RowsIn w (.slice p n c) vs ls) : RowsAt w (.slice p n c) ls := by
  have hlen := h.len
  rcases h.row.2 with ⟨e, h0⟩ | ⟨g, cap, cur, e, hg, hnc, -⟩
  · simp only [Value.slice.injEq] at e
    obtain ⟨rfl, rfl, rfl⟩ := e
    have hl : ls = [] := List.eq_nil_of_length_eq_zero h0
    subst hl
    exact ⟨none, 0, rfl, Nat.le_refl _, fun h => absurd rfl h⟩
  · simp only [Value.slice.injEq] at e
    obtain ⟨rfl, rfl, rfl⟩ := e
    refine ⟨_, c, rfl, hnc, fun _ => ⟨g, 0, vs, rfl, hlen, fun i u hu => ?_, fun i u m hu hm => (h.has i u m hu hm).has.kit⟩⟩
    exact h.row.cells (g := g) rfl i u hu

/-- Entries that were handed in. -/
def EntsHas (w : World) (x : Value) (es : List Ent) (vs : List EV) : Prop := vs.length = es.length ∧ Holds w 4 x es.length (entsC es vs) ∧ ∀ (i : Nat) e v, es[i]? = some e → vs[i]? = some v → EntHas w e v

theorem EntsHas.len {w : World} {p : Option Addr} {n c : Nat} {es : List Ent} {vs : List EV} (h : EntsHas w (.slice p n c) es vs) : es.length = n := by
  obtain ⟨-, ⟨-, _, _, e, -⟩, -⟩ := h
  simp only [Value.slice.injEq] at e
  exact e.2.1.symm

end Go.Proofs.YtogdfkilhpkloaaGreatDoor

namespace Go.Proofs.YtogdfkilhpkloaaGreatDoor
open Go.RowKit Go.Sat Go.Maps

theorem RowsN.two {w W : World} {u1 u2 : Value} {x1 x2 : Bs} (hb : Below w.heap.size w W) (h1 : OwnB W 5 u1 x1) (n1 : ∀ k, u1.ownBlock = some k → w.heap.size ≤ k) (h2 : OwnB W 5 u2 x2) (n2 : ∀ k, u2.ownBlock = some k → w.heap.size ≤ k) :
    RowsN w (W.alloc (.cells #[u1, u2] 39)) (.slice (some ⟨W.heap.size, 0, none⟩) 2 2) [u1, u2] [x1, x2] := by
  have ha := below_one W (.cells #[u1, u2] 39)
  have hs := hb.size
  refine ⟨⟨⟨rfl, .inr ⟨W.heap.size, 2, #[u1, u2], rfl, new_block W _, Nat.le_refl _, by decide, Nat.le_refl _, rfl⟩⟩, fun i u b hu hl => ?_, fun u hu k hk e => ?_⟩, ⟨fun k hk => ?_, fun u hu k hk => ?_⟩, hb.trans (ha.mono hs)⟩
  · match i, hu, hl with
    | 0, hu, hl => cases hu; cases hl; exact ownB_far h1 ha
    | 1, hu, hl => cases hu; cases hl; exact ownB_far h2 ha
  · obtain rfl : W.heap.size = k := Option.some.inj e
    rcases List.mem_cons.1 hu with rfl | hu
    · have := OwnR.lt h1 hk
      omega
    · obtain rfl : u = u2 := by simpa using hu
      have := OwnR.lt h2 hk
      omega
  · cases hk
    exact hs
  · rcases List.mem_cons.1 hu with rfl | hu
    · exact n1 k hk
    · obtain rfl : u = u2 := by simpa using hu
      exact n2 k hk

section
variable {w w1 w2 : World} {j d : Nat} {pre : ByteArray} {D : DiskM} {M : JouM} {F : Nat → Prop}

end
end Go.Proofs.YtogdfkilhpkloaaGreatDoor

namespace Go.Proofs.YtogdfkilhpkloaaGreatDoor
open Go.RowKit Go.Sat Go.Maps

/-- What a snapshot is. -/
structure Snap.OK (s : Snap) : Prop where
  number : s.number ≤ 1099511627776
  term : isTm s.term = true
  group : isGrp s.group = true
  data : s.data.length ≤ 1073741824

section
variable {w w1 w2 : World} {j d : Nat} {pre : ByteArray} {D : DiskM} {M : JouM} {F F2 : Nat → Prop}

end
end Go.Proofs.YtogdfkilhpkloaaGreatDoor

namespace Go.Proofs.YtogdfkilhpkloaaGreatDoor
open Go.RowKit Go.Sat Go.Maps

/-- PlacesJ that numbers may be laid into. -/
structure PlacesJ (w : World) (r : Nat) (ps : List Addr) : Prop where
  cell : ∀ a ∈ ps, ∃ z, w.cell? a = some (.int .i64 z)
  free : ∀ a ∈ ps, w.frozen? a = false
  ne : ∀ a ∈ ps, a.block ≠ r
  sp : ∀ a ∈ ps, a.spot = none

theorem PlacesJ.chg {w w' : World} {r : Nat} {ps : List Addr} (h : PlacesJ w r ps) (hc : Chg (fun k => k = r) w w') : PlacesJ w' r ps := by
  have hb : ∀ a ∈ ps, w'.heap[a.block]? = w.heap[a.block]? := fun a ha => by
    obtain ⟨z, hz⟩ := h.cell a ha
    exact hc.block _ (World.block_lt_of_cell? _ _ hz) (h.ne a ha)
  exact ⟨fun a ha => by obtain ⟨z, hz⟩ := h.cell a ha; exact ⟨z, (World.cell?_of_block (hb a ha)).trans hz⟩, fun a ha => by have := h.free a ha; simpa [World.frozen?, hb a ha] using this, h.ne, h.sp⟩

theorem PlacesJ.set {w : World} {r : Nat} {ps : List Addr} (h : PlacesJ w r ps) {a : Addr} (ha : a ∈ ps) (z : Int) : PlacesJ (w.setCell a (.int .i64 z)) r ps := by
  have hcell : ∀ b, w.cell? b ≠ none → (∃ y, (w.setCell a (.int .i64 z)).cell? b = some y ∧ (y = .int .i64 z ∨ w.cell? b = some y)) := fun b hb => by
    by_cases e : a = b
    · subst e
      exact ⟨.int .i64 z, by obtain ⟨z', hz⟩ := h.cell a ha; exact World.cell?_setCell_same w a _ hz, .inl rfl⟩
    · rw [World.cell?_setCell_other (h := e)]
      cases hc : w.cell? b with
      | none => exact absurd hc hb
      | some y => exact ⟨y, rfl, .inr rfl⟩
  refine ⟨fun b hb => ?_, fun b hb => by rw [World.frozen?_setCell]; exact h.free b hb, h.ne, h.sp⟩
  · obtain ⟨z', hz⟩ := h.cell b hb
    obtain ⟨y, hy, he⟩ := hcell b (by rw [hz]; simp)
    rcases he with rfl | he
    · exact ⟨z, hy⟩
    · rw [hz] at he
      cases he
      exact ⟨z', hy⟩

end Go.Proofs.YtogdfkilhpkloaaGreatDoor

namespace Go.Proofs.YtogdfkilhpkloaaGreatDoor
open Go.RowKit Go.Sat Go.Maps

theorem loadE_cases (o : Option FileM) : loadE o = 0 ∨ loadE o = 3 ∨ loadE o = 7 := by
  unfold loadE
  split
  · split
    · exact .inl rfl
    · exact .inr (.inl rfl)
  · exact .inr (.inr rfl)
theorem loadB_le {D : DiskM} (h : D.OK) (n : Bs) : (loadB (Sat.get n D.files)).length ≤ 1073741824 := by
  have hln := data_len h n
  cases ho : Sat.get n D.files with
  | none => rw [loadB_none]; exact Nat.zero_le _
  | some f =>
    rw [ho] at hln
    rw [loadB_some]
    unfold oneB decB
    split
    · split
      · rw [List.length_take, List.length_drop]
        omega
      · exact Nat.zero_le _
    · exact Nat.zero_le _
theorem snapOf_7 {o : Option FileM} (h : loadE o = 7) : snapOf o = (0, none) := by unfold snapOf; rw [if_pos h]
theorem snapOf_0 {o : Option FileM} (h : loadE o = 0) : snapOf o = match snapIs (loadB o) with | none => (3, none) | some s => (0, some s) := by unfold snapOf; rw [if_neg (by omega), if_neg (by omega)]; rfl

section
variable {w w1 w2 : World} {j d : Nat} {pre : ByteArray} {D : DiskM} {M : JouM} {F : Nat → Prop}

end
end Go.Proofs.YtogdfkilhpkloaaGreatDoor

namespace Go.Proofs.YtogdfkilhpkloaaGreatDoor
open Go.RowKit Go.Sat Go.Maps

/-- The steps of an opening. -/
structure OpensJ (D : DiskM) (pre : Bs) (nodes : List Int) where
  D1 : DiskM
  e1 : Nat
  h1 : D.rid1 (shadowN (logN pre)) = (D1, e1)
  D2 : DiskM
  e2 : Nat
  h2 : D1.rid1 (shadowN (snpN pre)) = (D2, e2)
  s : Nat × Option Snap
  hs : snapOf (Sat.get (snpN pre) D2.files) = s
  l : DiskM × Nat × Bool × JouM
  hl : readLogJ D2 pre (JouM.none0 nodes) = l
theorem opensJ_of (D : DiskM) (pre : Bs) (nodes : List Int) : Nonempty (OpensJ D pre nodes) := ⟨⟨_, _, rfl, _, _, rfl, _, rfl, _, rfl⟩⟩

section
variable {D : DiskM} {pre : Bs} {nodes : List Int} (O : OpensJ D pre nodes)

theorem oj_rid2 (h1 : O.e1 = 0) : D.rid [shadowN (logN pre), shadowN (snpN pre)] = (O.D2, O.e2) := by
  unfold DiskM.rid
  rw [O.h1]
  refine (if_pos h1).trans ?_
  show DiskM.rid O.D1 [shadowN (snpN pre)] = _
  unfold DiskM.rid
  rw [O.h2]
  dsimp only
  by_cases h2 : O.e2 = 0
  · rw [if_pos h2]
    show (O.D2, 0) = _
    rw [h2]
  · exact if_neg h2
theorem oj_go (h : ¬ (pre.length < 1 ∨ 20 < pre.length ∨ isGrp nodes = false)) (h1 : O.e1 = 0) (h2 : O.e2 = 0) (h3 : O.s.1 = 0) : jouOpen D pre nodes = (if O.l.2.1 ≠ 0 then (O.l.1, O.l.2.1, JouM.none0 nodes) else
  match joins O.s.2 O.l.2.2.2 O.l.2.2.1 with
  | none => (O.l.1, 3, JouM.none0 nodes)
  | some (anew, M) => if anew then ((writesJ O.l.1 pre M).1, (writesJ O.l.1 pre M).2, M) else (O.l.1, 0, M)) := by
  unfold jouOpen
  rw [if_neg h, oj_rid2 O h1]
  dsimp only
  rw [if_neg (by simpa using h2), O.hs, if_neg (by simpa using h3), O.hl]
  rfl
theorem oj_keep (h : ¬ (pre.length < 1 ∨ 20 < pre.length ∨ isGrp nodes = false)) (h1 : O.e1 = 0) (h2 : O.e2 = 0) (h3 : O.s.1 = 0) (h4 : O.l.2.1 = 0) {M : JouM} (h5 : joins O.s.2 O.l.2.2.2 O.l.2.2.1 = some (false, M)) : jouOpen D pre nodes = (O.l.1, 0, M) := by
  rw [oj_go O h h1 h2 h3, if_neg (by simpa using h4), h5]
  rfl
end

end Go.Proofs.YtogdfkilhpkloaaGreatDoor

namespace Go.Proofs.YtogdfkilhpkloaaGreatDoor
open Go.RowKit Go.Sat Go.Maps

def wh (c : Bs) : FileM := ⟨c, c.length⟩
def snpL (s : Option Bs) : List (Bs × FileM) := match s with
  | none => []
  | some b => [(snpN [97], wh b)]
/-- The disk of a journal "a". -/
def dJ (room : Nat) (c : Bs) (s : Option Bs) : DiskM := ⟨room, (logN [97], wh c) :: snpL s, none⟩

section
variable {room : Nat} {c b : Bs} {s : Option Bs}

theorem dj_log : Sat.get (logN [97]) (dJ room c s).files = some (wh c) := by cases s <;> rfl
theorem dj_shl : Sat.get (shadowN (logN [97])) (dJ room c s).files = none := by cases s <;> rfl
theorem dj_shs : Sat.get (shadowN (snpN [97])) (dJ room c s).files = none := by cases s <;> rfl
theorem dj_snp : Sat.get (snpN [97]) (dJ room c s).files = s.map wh := by cases s <;> rfl
theorem crash_dj (k : Int) : (dJ room c s).crash k = dJ room c s := by
  have h1 : ∀ x : Bs, DiskM.crashF k (wh x) = wh x := fun x => crash_whole x k
  unfold dJ DiskM.crash
  cases s with
  | none =>
    show (⟨room, [(logN [97], DiskM.crashF k (wh c))], none⟩ : DiskM) = _
    rw [h1]
    rfl
  | some b =>
    show (⟨room, [(logN [97], DiskM.crashF k (wh c)), (snpN [97], DiskM.crashF k (wh b))], none⟩ : DiskM) = _
    rw [h1, h1]
    rfl
end
end Go.Proofs.YtogdfkilhpkloaaGreatDoor

namespace Go.Proofs.YtogdfkilhpkloaaGreatDoor
open Go.RowKit Go.Sat Go.Maps

/-- The bytes of a snapshot. -/
def Snap.bytes (s : Snap) : Bs := snpB s.number s.term s.group s.data
theorem snapIs_bytes {s : Snap} (h : s.OK) (h1 : 1 ≤ s.number) (hd : s.data.length ≤ 524288) : snapIs s.bytes = some s := by
  have ht := isTm_iff.1 h.term
  have hg := grp_bound h.group
  have hn := h.number
  have hb : s.bytes = numB s.number ++ (numI s.term ++ (grpB s.group ++ (rowB s.data ++ []))) := by simp [Snap.bytes, snpB]
  rw [hb]
  unfold snapIs
  dsimp only
  rw [Rd.num_of (by omega)]
  dsimp only
  rw [rd_int ht.1 (by omega)]
  dsimp only
  rw [grp_of hg.1 hg.2 h.group]
  dsimp only
  rw [Rd.bytes_of (by omega)]
  dsimp only
  rw [if_pos ⟨whole_of false, h1, hn, by omega, hd⟩, Int.toNat_of_nonneg ht.1]

theorem snapOf_bytes {s : Snap} (h : s.OK) (h1 : 1 ≤ s.number) (hd : s.data.length ≤ 524288) (hl : s.bytes.length ≤ 1048576) : snapOf (some (wh (frameN s.bytes))) = (0, some s) := by
  obtain ⟨a, b⟩ := load_frame s.bytes hl (frameN s.bytes).length
  rw [show (wh (frameN s.bytes)) = ⟨frameN s.bytes, (frameN s.bytes).length⟩ from rfl, snapOf_0 a, b, snapIs_bytes h h1 hd]

/-- What a snapshot's file is. -/
def snapF (s : Option Snap) : Option Bs := s.map fun s => frameN s.bytes
def SnapOK (s : Option Snap) : Prop := ∀ x, s = some x → x.OK ∧ 1 ≤ x.number ∧ x.data.length ≤ 524288 ∧ x.bytes.length ≤ 1048576

theorem open_dj {room : Nat} {ls : List Bs} {s : Option Snap} {g : List Int} {M0 M : JouM} (hg : isGrp g = true) (hls : ∀ l ∈ ls, l.length ≤ 1048576) (hs : SnapOK s) (h0 : recAll (JouM.none0 g) ls = some M0) (hj : joins s M0 false = some (false, M)) :
    jouOpen (dJ room (recsB ls) (snapF s)) [97] g = (dJ room (recsB ls) (snapF s), 0, M) := by
  obtain ⟨O⟩ := opensJ_of (dJ room (recsB ls) (snapF s)) [97] g
  have a1 := O.h1
  have a2 := O.h2
  have a3 := O.hs
  have a4 := O.hl
  have b1 : (dJ room (recsB ls) (snapF s)).rid1 (shadowN (logN [97])) = (dJ room (recsB ls) (snapF s), 0) := by unfold DiskM.rid1; rw [dj_shl]; rfl
  rw [b1] at a1
  have d1 : dJ room (recsB ls) (snapF s) = O.D1 := congrArg Prod.fst a1
  have e1 : 0 = O.e1 := congrArg Prod.snd a1
  rw [← d1] at a2
  have b2 : (dJ room (recsB ls) (snapF s)).rid1 (shadowN (snpN [97])) = (dJ room (recsB ls) (snapF s), 0) := by unfold DiskM.rid1; rw [dj_shs]; rfl
  rw [b2] at a2
  have d2 : dJ room (recsB ls) (snapF s) = O.D2 := congrArg Prod.fst a2
  have e2 : 0 = O.e2 := congrArg Prod.snd a2
  rw [← d2] at a3 a4
  have b3 : snapOf (Sat.get (snpN [97]) (dJ room (recsB ls) (snapF s)).files) = (0, s) := by
    rw [dj_snp]
    cases s with
    | none => exact snapOf_7 loadE_none
    | some x =>
      obtain ⟨q1, q2, q3, q4⟩ := hs x rfl
      exact snapOf_bytes q1 q2 q3 q4
  rw [b3] at a3
  have hsc := scan_recs ls [] hls (.inl rfl)
  rw [List.append_nil] at hsc
  have b4 : readLogJ (dJ room (recsB ls) (snapF s)) [97] (JouM.none0 g) = (dJ room (recsB ls) (snapF s), 0, false, M0) := by
    unfold readLogJ
    rw [dj_log]
    dsimp only
    rw [show (wh (recsB ls)).data = recsB ls from rfl, hsc]
    dsimp only
    rw [h0]
    dsimp only
    have ht : tornOff (dJ room (recsB ls) (snapF s)) (logN [97]) (recsB ls).length (recsB ls).length = (dJ room (recsB ls) (snapF s), 0) := by unfold tornOff; rw [if_neg (by omega)]
    rw [ht]
  rw [b4] at a4
  have hok : ¬ ((([97] : Bs).length) < 1 ∨ 20 < ([97] : Bs).length ∨ isGrp g = false) := by
    rintro (h | h | h)
    · exact absurd h (by decide)
    · exact absurd h (by decide)
    · rw [hg] at h
      cases h
  rw [oj_keep O hok e1.symm e2.symm (by rw [← a3]) (by rw [← a4]) (M := M) (by rw [← a3, ← a4]; exact hj), ← a4]
end Go.Proofs.YtogdfkilhpkloaaGreatDoor

namespace Go.Proofs.YtogdfkilhpkloaaGreatDoor
open Go.RowKit Go.Sat Go.Maps

/-- A journal of a law's own: its disk says what it is. -/
structure Kept5 (room : Nat) (g : List Int) (M : JouM) (D : DiskM) (u : Nat) : Prop where
  ex : ∃ ls s M0, D = dJ room (recsB ls) (snapF s) ∧ (∀ l ∈ ls, l.length ≤ 1048576) ∧ SnapOK s ∧ recAll (JouM.none0 g) ls = some M0 ∧ joins s M0 false = some (false, M)
  used : D.used ≤ u
  grp : isGrp g = true
  alive : M.dead = false

theorem Kept5.open {room : Nat} {g : List Int} {M : JouM} {D : DiskM} {u : Nat} (h : Kept5 room g M D u) : jouOpen D [97] g = (D, 0, M) := by
  obtain ⟨⟨ls, s, M0, rfl, h1, h2, h3, h4⟩, -, hg, -⟩ := h
  exact open_dj hg h1 h2 h3 h4
theorem Kept5.crash {room : Nat} {g : List Int} {M : JouM} {D : DiskM} {u : Nat} (h : Kept5 room g M D u) (k : Int) : D.crash k = D := by
  obtain ⟨⟨ls, s, M0, rfl, -⟩, -⟩ := h
  exact crash_dj k

end Go.Proofs.YtogdfkilhpkloaaGreatDoor

namespace Go.Proofs.YtogdfkilhpkloaaGreatDoor
open Go.RowKit Go.Sat Go.Maps

set_option maxRecDepth 100000 in
set_option maxHeartbeats 4000000 in
theorem rbytes1_calls {w : World} {p : Option Addr} {n c : Nat} {l : Bs} (hx : HasB w (.slice p n c) l) (hl : l.length ≤ 1073741824) :
    Calls Tryz.prog 105 #[.slice p n c] w (RowNew w (rowB l)) := by
  obtain ⟨i0, hi, hz0, hz1, hz2⟩ := info_parts (show (Tryz.prog.info? 5).map (fun i => (i.zero, i.size, i.bytes)) = some (some (.int .u8 0), 1, 1) by kernel_rfl)
  have hn : l.length = n := by obtain ⟨_, _, e⟩ := hx.slice; simp only [Value.slice.injEq] at e; exact e.2.1.symm
  have Hnum := Lib.hid (rnum1_calls w (n : Int) (by omega))
  have HT := Lib.hid (show numI (n : Int) ++ l = rowB l by rw [numI_nat (by omega), ← hn]; rfl)
  have hnl : (numI (n : Int)).length ≤ 9 := numI_len _
  have Hx := Lib.hid hx
  have Hn := Lib.hid hn
  have hn30 : n ≤ 1073741824 := by omega
  clear hx hn hl
  go_enter Tryz.func105, Tryz.ntmps105
  go_wp2_with fail
  refine Hnum.out.mono ?_
  rintro e w2 ⟨x, rfl, hx2, hxn, hb2⟩
  obtain ⟨px, cx, rfl, -⟩ := own_cap0 hx2
  have HS2 := Lib.hid (show RowB w w2 (.slice px (numI (n : Int)).length cx) (numI (n : Int)) from ⟨hx2, hxn, hb2⟩)
  have Hxx3 := Lib.hid (show Holds w2 1 (.slice p n c) n (bytesV l) by have := Hx.out.below hb2; unfold HasB at this; rwa [Hn.out] at this)
  clear hx2 hxn hb2 Hnum
  generalize hL2 : (numI (n : Int)).length = m2 at *
  have HL := Lib.hid hL2
  clear hL2
  have Hrow3 := Lib.hid (show OwnR w2 5 1 (.slice px m2 cx) m2 (bytesV (numI (n : Int))) from by have := HS2.out.own; unfold OwnB at this; rwa [HL.out] at this)
  go_wp2_with (at_builtin; refine wpList_app _ rfl (.tmp 5) (.tmp 6) 39 rfl 5 i0 (.int .u8 0) 1 1 Tryz.underlying39 hi hz0 hz1 hz2 rfl (by decide) (.slice px m2 cx) m2 _ rfl Hrow3.out (.slice p n c) n _ rfl Hxx3.out (bytesV_one _) (by unfold maxLen; omega) (by omega) ?_; intro v3 w3 hown hgrow hloc; go_loud (have HE3 := Lib.hid (RowB.grown (x := l) HS2.out (by rw [HL.out, Hn.out]; exact hown) hgrow hloc); clear hgrow hloc; obtain ⟨p3, q3, rfl⟩ := OwnR.shape hown; clear hown))
  go_ret
  rw [← HT.out]
  exact HE3.out.told

end Go.Proofs.YtogdfkilhpkloaaGreatDoor

namespace Go.Proofs.YtogdfkilhpkloaaGreatDoor
open Go.RowKit Go.Sat Go.Maps

def RZoneO (h : HeadM) (eb l : Nat) : Obj := .cells #[.int .i64 h.id, .string h.fr, .string h.tu, .int .i64 h.epoch, .int .i64 h.state, .pointer (some ⟨eb, 0, none⟩), .pointer (some ⟨l, 0, none⟩), .slice none 0 0, .bool false] 315 (0, 0)
/-- Bytes that are being made. -/
structure NewS (w : World) (p : Option Addr) (n c : Nat) (l : Bs) (W : World) : Prop where
  row : OwnR W 5 1 (.slice p n c) n (bytesV l)
  len : n = l.length
  new : ∀ j, (Value.slice p n c).ownBlock = some j → w.heap.size ≤ j
  bel : Below w.heap.size w W
theorem NewS.of {w W W' : World} {v : Value} {l : Bs} (hbw : Below w.heap.size w W) (hv : OwnB W' 5 v l) (hn : ∀ j, v.ownBlock = some j → W.heap.size ≤ j) (hb : Below W.heap.size W W') : ∃ p n c, v = .slice p n c ∧ NewS w p n c l W' := by
  obtain ⟨p, c, rfl⟩ := hv.slice
  exact ⟨p, l.length, c, rfl, hv, rfl, fun j hj => Nat.le_trans hbw.size (hn j hj), hbw.trans (hb.mono hbw.size)⟩
theorem NewS.next {w W W' : World} {p : Option Addr} {n c : Nat} {l : Bs} (h : NewS w p n c l W) (hb : Below W.heap.size W W') : NewS w p n c l W' :=
  ⟨OwnR.keep h.row fun k hk => hb.block k (OwnR.lt h.row hk), h.len, h.new, h.bel.trans (hb.mono h.bel.size)⟩
theorem NewS.has {w W : World} {p : Option Addr} {n c : Nat} {l : Bs} (h : NewS w p n c l W) : HasB W (.slice p n c) l := by
  have h1 := h.row
  have h2 := h.len
  have : OwnB W 5 (.slice p n c) l := by
    unfold OwnB
    rw [← h2]
    exact h1
  exact this.has
theorem NewS.app {w W W' : World} {p : Option Addr} {n c m : Nat} {l k : Bs} {v : Value} (h : NewS w p n c l W) (hm : m = k.length) (hown : OwnR W' 5 1 v (n + m) (bytesV l ++ bytesV k)) (hg : W.grownBy W' (Value.slice p n c).ownBlock) (hloc : v.ownBlock = (Value.slice p n c).ownBlock ∨ ∃ g, v.ownBlock = some g ∧ W.heap.size ≤ g) : ∃ p' c', v = .slice p' (n + m) c' ∧ NewS w p' (n + m) c' (l ++ k) W' := by
  obtain ⟨p', c', rfl⟩ := OwnR.shape hown
  obtain ⟨h1, h2⟩ := app_new h.bel h.new hg hloc
  exact ⟨p', c', rfl, by rw [bytesV_app]; exact hown, by rw [List.length_append, h.len, hm], h2, h1⟩
set_option maxRecDepth 100000 in
set_option maxHeartbeats 8000000 in
theorem r15data_0 {w : World} {z eb l : Nat} {h : HeadM} (hz : w.heap[z]? = some (RZoneO h eb l)) (he : w.heap[eb]? = some REconO) (hh : h.is = true) : Calls Tryz.prog 208 #[.pointer (some ⟨z, 0, none⟩)] w (NewR w (zdata h [0, 0, 0, 0])) := by
  obtain ⟨i0, hi, hz0, hz1, hz2⟩ := info_parts (show (Tryz.prog.info? 5).map (fun i => (i.zero, i.size, i.bytes)) = some (some (.int .u8 0), 1, 1) by kernel_rfl)
  have hr := HeadM.ranges hh
  have Hr := Lib.hid hr
  have HZ := Lib.hid (And.intro hz he)
  have HI := Lib.hid (And.intro hi (And.intro hz0 (And.intro hz1 hz2)))
  have l1 := numI_len h.id
  have l2 := numB_nine (n := h.fr.size) (by omega)
  have l3 := numB_nine (n := h.tu.size) (by omega)
  have l4 := numsI_len [h.epoch, h.state]
  have HLn := Lib.hid (And.intro l1 (And.intro l2 (And.intro l3 l4)))
  clear hz he hh hr hi hz0 hz1 hz2 l1 l2 l3 l4
  obtain ⟨id, fr, tu, ep, st⟩ := h
  have c0 := cell_of HZ.out.1 (i := 0) (v := .int .i64 id) rfl
  go_enter Tryz.func208, Tryz.ntmps208
  go_wp2_with fail
  refine (rnum1_calls _ id (by have := Hr.out; omega)).mono ?_
  rintro e w1 ⟨v, rfl, hv, hvn, hb⟩
  obtain ⟨p1, n1, k1, rfl, hs⟩ := NewS.of (Below.refl _ _) hv hvn hb
  have H1 := Lib.hid hs
  clear hv hvn hb hs c0
  have c1 := cell_of ((H1.out.bel.block _ (lt_of_block HZ.out.1)).trans HZ.out.1) (i := 1) (v := .string fr) rfl
  obtain ⟨cc2, V2, hcr, hcx, hcb, -⟩ := conv_row w1 fr
  have HV := Lib.hid (And.intro (hcx V2 fun _ _ => rfl) hcb)
  clear hcx hcb
  go_wp2_with fail
  refine (rbytes1_calls HV.out.1 (by rw [str_len]; have := Hr.out; omega)).mono ?_
  rintro e u2 ⟨v, rfl, hv, hvn, hb⟩
  obtain ⟨q2, m2, j2, rfl, hs⟩ := NewS.of (H1.out.bel.trans (HV.out.2.mono H1.out.bel.size)) hv hvn hb
  have HB2 := Lib.hid hs
  have HA2 := Lib.hid (H1.out.next (HV.out.2.trans (hb.mono HV.out.2.size)))
  clear hv hvn hb hs hcr c1 HV
  have hho := HB2.out.row.holds
  have hsum := Lib.hid (show n1 + m2 ≤ 100 from by have h1 := H1.out.len; have h2 := HB2.out.len; have h3 := HLn.out; have h4 := rowB_le (x := fr.data.toList) (by rw [str_len]; have := Hr.out; omega); rw [str_len] at h4; have h5 := Hr.out; omega)
  go_upto_region 3 with (at_builtin; refine wpList_app _ rfl (.tmp 10) (.tmp 18) 39 rfl 5 i0 (.int .u8 0) 1 1 Tryz.underlying39 HI.out.1 HI.out.2.1 HI.out.2.2.1 HI.out.2.2.2 rfl (by decide) (.slice p1 n1 k1) n1 _ rfl HA2.out.row (.slice q2 m2 j2) m2 _ rfl hho (bytesV_one _) (by have := hsum.out; unfold maxLen; omega) (by have := hsum.out; omega) ?_; intro v3 x2 hown3 hgrow3 hloc3; obtain ⟨p2, k2, rfl, hs3⟩ := HA2.out.app HB2.out.len hown3 hgrow3 hloc3; have H2 := Lib.hid hs3; clear hown3 hgrow3 hloc3 hs3 hho)
  try simp only [Act.put, uA, uB, uC]
  have c2 := cell_of ((H2.out.bel.block _ (lt_of_block HZ.out.1)).trans HZ.out.1) (i := 2) (v := .string tu) rfl
  obtain ⟨cc3, V3, hcr, hcx, hcb, -⟩ := conv_row x2 tu
  have HV := Lib.hid (And.intro (hcx V3 fun _ _ => rfl) hcb)
  clear hcx hcb
  go_wp2_with fail
  refine (rbytes1_calls HV.out.1 (by rw [str_len]; have := Hr.out; omega)).mono ?_
  rintro e u3 ⟨v, rfl, hv, hvn, hb⟩
  obtain ⟨q3, m3, j3, rfl, hs⟩ := NewS.of (H2.out.bel.trans (HV.out.2.mono H2.out.bel.size)) hv hvn hb
  have HB3 := Lib.hid hs
  have HA3 := Lib.hid (H2.out.next (HV.out.2.trans (hb.mono HV.out.2.size)))
  clear hv hvn hb hs hcr c2 HV
  have hho := HB3.out.row.holds
  have hsum := Lib.hid (show (n1 + m2) + m3 ≤ 150 from by have h1 := hsum.out; have h2 := HB3.out.len; have h3 := HLn.out; have h4 := rowB_le (x := tu.data.toList) (by rw [str_len]; have := Hr.out; omega); rw [str_len] at h4; have h5 := Hr.out; omega)
  go_upto_region 4 with (at_builtin; refine wpList_app _ rfl (.tmp 20) (.tmp 28) 39 rfl 5 i0 (.int .u8 0) 1 1 Tryz.underlying39 HI.out.1 HI.out.2.1 HI.out.2.2.1 HI.out.2.2.2 rfl (by decide) (.slice p2 (n1 + m2) k2) (n1 + m2) _ rfl HA3.out.row (.slice q3 m3 j3) m3 _ rfl hho (bytesV_one _) (by have := hsum.out; unfold maxLen; omega) (by have := hsum.out; omega) ?_; intro v3 x3 hown3 hgrow3 hloc3; obtain ⟨p3, k3, rfl, hs3⟩ := HA3.out.app HB3.out.len hown3 hgrow3 hloc3; have H3 := Lib.hid hs3; clear hown3 hgrow3 hloc3 hs3 hho)
  try simp only [Act.put, uA, uB, uC]
  have c3 := cell_of ((H3.out.bel.block _ (lt_of_block HZ.out.1)).trans HZ.out.1) (i := 3) (v := .int .i64 ep) rfl
  have c4 := cell_of ((H3.out.bel.block _ (lt_of_block HZ.out.1)).trans HZ.out.1) (i := 4) (v := .int .i64 st) rfl
  refine ord_start (fun W : World => W.cell? ⟨z, 3, none⟩ = some (.int .i64 ep) ∧ W.cell? ⟨z, 4, none⟩ = some (.int .i64 st)) (n := 15) (by kernel_rfl) rfl ⟨c3, c4⟩ (fun hHeld => ?_)
  have H3d := Lib.hid (H3.out.next (below_drew x3))
  clear c3 c4 H3
  generalize x3.drew = y0 at *
  refine Pl [0, 1, 2, 3, 4, 5, 6, 7, 8, 9, 10] ?_
  iterate 11 (refine Pd rfl (by intro w' hSw; have d3 := hSw.1; have d4 := hSw.2; go_simp; try with_reducible rfl) ?_; simp only [Act.put, uA, uB, uC])
  refine Pn ?_
  refine ord_one 11 rfl (by kernel_rfl) (by rfl) (fun K hK => ?_)
  have hbo := box_below y0 (.cells #[.int .i64 ep, .int .i64 st] 3)
  have hI := HasI.lit (w := y0) [ep, st] #[.int .i64 ep, .int .i64 st] rfl 3 (0, 0) y0.heap.size 2 2 rfl rfl
  have HIn := Lib.hid (And.intro hI hbo)
  clear hI hbo
  go_wp2_with fail
  refine hK.out _ _ ⟨al_cell hHeld.1 _, al_cell hHeld.2 _⟩ (fun hHeld => ?_)
  clear hK
  try simp only [Act.put, uA, uB, uC]
  refine ord_one 12 rfl (by kernel_rfl) (by rfl) (fun K hK => ?_)
  go_wp2_with fail
  refine (rnums1_calls HIn.out.1 (by intro x hx; simp only [List.mem_cons, List.not_mem_nil, or_false] at hx; have := Hr.out; rcases hx with rfl | rfl <;> omega) (by show 2 ≤ 1099511627776; decide)).mono ?_
  rintro e u4 ⟨v, rfl, hv, hvn, hb⟩
  obtain ⟨q4, m4, j4, rfl, hs⟩ := NewS.of (H3d.out.bel.trans (HIn.out.2.mono H3d.out.bel.size)) hv hvn hb
  have HB4 := Lib.hid hs
  have HA4 := Lib.hid (H3d.out.next (HIn.out.2.trans (hb.mono HIn.out.2.size)))
  have hS4 : u4.cell? ⟨z, 3, none⟩ = some (.int .i64 ep) ∧ u4.cell? ⟨z, 4, none⟩ = some (.int .i64 st) := ⟨(hb.cell (World.block_lt_of_cell? _ _ hHeld.1)).trans hHeld.1, (hb.cell (World.block_lt_of_cell? _ _ hHeld.2)).trans hHeld.2⟩
  clear hv hvn hb hs HIn H3d hHeld
  go_wp2_with fail
  refine hK.out _ _ hS4 (fun hHeld => ?_)
  clear hK hS4
  try simp only [Act.put, uA, uB, uC]
  have hho := HB4.out.row.holds
  have hsum4 := Lib.hid (show n1 + m2 + m3 + m4 ≤ 200 from by have h1 := hsum.out; have h2 := HB4.out.len; have h4 := HLn.out.2.2.2; simp only [List.length_cons, List.length_nil] at h4; omega)
  refine ord_one 13 rfl (by kernel_rfl) (by rfl) (fun K hK => ?_)
  refine wp_appP (.tmp 30) (.tmp 42) 39 rfl 5 i0 (.int .u8 0) 1 1 Tryz.underlying39 HI.out.1 HI.out.2.1 HI.out.2.2.1 HI.out.2.2.2 rfl (by decide) (.slice p3 (n1 + m2 + m3) k3) (n1 + m2 + m3) _ rfl HA4.out.row (.slice q4 m4 j4) m4 _ rfl hho (bytesV_one _) (by have := hsum4.out; unfold maxLen; omega) (by have := hsum4.out; omega) ?_
  intro v3 x4 hown3 hgrow3 hloc3
  have hS5 : x4.cell? ⟨z, 3, none⟩ = some (.int .i64 ep) ∧ x4.cell? ⟨z, 4, none⟩ = some (.int .i64 st) := by
    have hzl := lt_of_block HZ.out.1
    have hzn : (Value.slice p3 (n1 + m2 + m3) k3).ownBlock ≠ some z := fun e => by have := HA4.out.new z e; omega
    have hz4 := grown_block hgrow3 ((HA4.out.bel.block z hzl).trans HZ.out.1) hzn
    exact ⟨cell_of hz4 (i := 3) rfl, cell_of hz4 (i := 4) rfl⟩
  obtain ⟨p4, k4, rfl, hs3⟩ := HA4.out.app HB4.out.len hown3 hgrow3 hloc3
  have H4 := Lib.hid hs3
  clear hown3 hgrow3 hloc3 hs3 hho hHeld HA4 HB4
  refine hK.out _ _ hS5 (fun hHeld => ?_)
  clear hK hS5
  try simp only [Act.put, uA, uB, uC]
  refine Pl [14] ?_
  iterate 1 (refine Pc rfl ?_; simp only [Act.put, uA, uB, uC])
  refine Pn ?_
  refine wpAnyH_done (by kernel_rfl) ?_ _
  clear hHeld
  have c6 := cell_of ((H4.out.bel.block _ (lt_of_block HZ.out.1)).trans HZ.out.1) (i := 5) (v := .pointer (some ⟨eb, 0, none⟩)) rfl
  go_wp2_with fail
  refine (renc0_calls ((H4.out.bel.block _ (lt_of_block HZ.out.2)).trans HZ.out.2)).mono ?_
  rintro e u5 ⟨v, rfl, hv, hvn, hb⟩
  obtain ⟨pe, ne, ke, rfl, hs⟩ := NewS.of H4.out.bel hv hvn hb
  have HE5 := Lib.hid hs
  have H4e := Lib.hid (H4.out.next hb)
  clear hv hvn hb hs c6 H4
  go_wp2_with fail
  refine (rbytes1_calls HE5.out.has (by decide)).mono ?_
  rintro e u6 ⟨v, rfl, hv, hvn, hb⟩
  obtain ⟨q5, m5, j5, rfl, hs⟩ := NewS.of HE5.out.bel hv hvn hb
  have HB5 := Lib.hid hs
  have HA5 := Lib.hid (H4e.out.next hb)
  clear hv hvn hb hs HE5 H4e
  have hsum := hsum4
  have hho := HB5.out.row.holds
  have hsum := Lib.hid (show (n1 + m2 + m3 + m4) + m5 ≤ 250 from by have h1 := hsum.out; have h2 := HB5.out.len; have h3 := HLn.out; have h4 := rowB_le (x := [0, 0, 0, 0]) (by decide); simp only [List.length_cons, List.length_nil] at h4; have h5 := Hr.out; omega)
  go_wp2_with (at_builtin; refine wpList_app _ rfl (.tmp 44) (.tmp 50) 39 rfl 5 i0 (.int .u8 0) 1 1 Tryz.underlying39 HI.out.1 HI.out.2.1 HI.out.2.2.1 HI.out.2.2.2 rfl (by decide) (.slice p4 (n1 + m2 + m3 + m4) k4) (n1 + m2 + m3 + m4) _ rfl HA5.out.row (.slice q5 m5 j5) m5 _ rfl hho (bytesV_one _) (by have := hsum.out; unfold maxLen; omega) (by have := hsum.out; omega) ?_; intro v3 x5 hown3 hgrow3 hloc3; obtain ⟨p5, k5, rfl, hs3⟩ := HA5.out.app HB5.out.len hown3 hgrow3 hloc3; have H5 := Lib.hid hs3; clear hown3 hgrow3 hloc3 hs3 hho)
  go_ret
  exact ⟨_, rfl, by
    have h1 := H5.out.row
    have h2 := H5.out.len
    have e : zdata ⟨id, fr, tu, ep, st⟩ [0, 0, 0, 0] = numI id ++ rowB fr.data.toList ++ rowB tu.data.toList ++ numsI [ep, st] ++ rowB [0, 0, 0, 0] := by
      unfold zdata
      simp [numsI]
    unfold OwnB
    rw [e, ← h2]
    exact h1, H5.out.new, H5.out.bel⟩
end Go.Proofs.YtogdfkilhpkloaaGreatDoor

namespace Go.Proofs.YtogdfkilhpkloaaGreatDoor
open Go.RowKit Go.Sat Go.Maps

set_option maxRecDepth 100000 in
set_option maxHeartbeats 4000000 in
theorem rscan_calls {w : World} {p : Option Addr} {n c : Nat} {b : Bs} (h : HasB w (.slice p n c) b) (hnc : n ≤ c) (hl : b.length ≤ 1073741824) :
    Calls Tryz.prog 333 #[.slice p n c] w (Scanned w b) := by
  obtain ⟨i1, hi1, -, hs1, -⟩ := info_parts (show (Tryz.prog.info? 5).map (fun i => (i.zero, i.size, i.bytes)) = some (some (.int .u8 0), 1, 1) by kernel_rfl)
  obtain ⟨i0, hi, hz0, hz1, hz2⟩ := info_parts (show (Tryz.prog.info? 39).map (fun i => (i.zero, i.size, i.bytes)) = some (some (.slice none 0 0), 1, 24) by kernel_rfl)
  have hn : b.length = n := by obtain ⟨_, _, e⟩ := h.slice; simp only [Value.slice.injEq] at e; exact e.2.1.symm
  have hn30 : n ≤ 1073741824 := by omega
  have H := Lib.hid h
  have Hn := Lib.hid hn
  have Hnc := Lib.hid hnc
  clear h hn hnc hl
  go_enter Tryz.func333, Tryz.ntmps333
  go_wp2_with fail
  go_loopw [4, 5] (ScanRel w b n) (fun _ y _ => n - (intOf y).toNat)
  case atStart => exact ⟨0, _, [], [], Nat.zero_le _, rfl, rfl, Nat.zero_le _, RowsIn.nil _, ⟨fun k hk => (by cases hk), fun u hu => (by simp at hu)⟩, Below.refl _ _, by simp, by simp⟩
  case round =>
    obtain ⟨k, v, vs, ls, hk, rfl, rfl, hlk, hrow, hnew, hb, hsc1, hsc2⟩ := hrel
    by_cases hlt : k < n
    · obtain ⟨r0, hr0⟩ : ∃ r0, (Value.slice p n c).ownBlock ≠ some r0 := by
        cases (Value.slice p n c).ownBlock with
        | none => exact ⟨0, by simp⟩
        | some g => exact ⟨g + 1, by simp⟩
      obtain ⟨p', c', hsl, hh, hc', -⟩ := run_tail (P := Tryz.prog) Tryz.underlying39 hi1 hs1 (HasB.below H.out hb) Hnc.out r0 k hr0 (Nat.le_of_lt hlt)
      have Hd := Lib.hid (rdec_calls hh hc' (by rw [List.length_drop, Hn.out]; omega))
      have Hx := Lib.hid (And.intro hrow (And.intro hnew (And.intro hb (And.intro hsc1 hsc2))))
      have hbl : (b.drop k).length = n - k := by rw [List.length_drop, Hn.out]
      clear hh hc' hrow hnew hb hsc1 hsc2
      by_cases he : decE (b.drop k) = 0
      · have hL := decL_pos he
        rw [hbl] at hL
        have Hgo := Lib.hid (scan_go he)
        rw [List.drop_drop] at Hgo
        unfold Decoded at Hd
        rw [he] at Hd
        generalize decL (b.drop k) = L at *
        generalize decB (b.drop k) = x at *
        clear he
        go_wp2_with fail
        refine Hd.out.mono ?_
        rintro e w2 ⟨v2, rfl, hv2, hn2, hb2⟩
        have hrow2 := Hx.out.1.below hb2
        have Hv2 := Lib.hid hv2
        have Hsep := Lib.hid (show ∀ j, v2.ownBlock = some j → v.ownBlock ≠ some j from fun j hj e => by have h1 := hn2 j hj; have h2 := OwnR.lt Hx.out.1.row e; omega)
        have Hn2 := Lib.hid (show ∀ j, v2.ownBlock = some j → w.heap.size ≤ j from fun j hj => Nat.le_trans Hx.out.2.2.1.size (hn2 j hj))
        have Hb2 := Lib.hid hb2
        have Hr2 := Lib.hid hrow2
        obtain ⟨p2, c2, rfl, -⟩ := own_cap0 hv2
        clear hv2 hn2 hb2 hrow2 Hd
        generalize hq : x.length = q at *
        have Hq := Lib.hid hq
        generalize hm : ls.length = m at *
        have Hm := Lib.hid hm
        clear hq hm
        have Hrow2 := Lib.hid (show OwnR w2 39 1 v m vs by have := Hr2.out.row; rwa [Hm.out] at this)
        go_wp2_with (at_builtin; have hal := Hrow2.out.keep (w' := w2.alloc (.cells #[.slice p2 q c2] 39)) (fun j hj => (below_one0 w2 _).block j (OwnR.lt Hrow2.out hj)); have hxx := slit_one w2 (.slice p2 q c2) 39 (0, 0); refine wpList_app _ rfl (.tmp 23) (.tmp 25) 155 rfl 39 i0 (.slice none 0 0) 1 24 Tryz.underlying155 hi hz0 hz1 hz2 rfl (by decide) v m _ rfl hal (.slice (some ⟨w2.heap.size, 0, none⟩) 1 1) 1 _ rfl hxx (by simp [Value.oneCell']) (by unfold maxLen; omega) (by omega) ?_; clear hal hxx; intro v3 w3 hown3 hgrow3 hloc3; go_loud (have hE := RowsIn.push (b := x) (Hr2.out.below (below_one0 w2 (.cells #[.slice p2 q c2] 39))) (OwnR.keep Hv2.out fun j hj => (below_one0 w2 _).block j (OwnR.lt Hv2.out hj)) Hsep.out (by rw [Hm.out]; exact hown3) hgrow3 hloc3; have hN := NewRows.push (u := .slice p2 q c2) Hx.out.2.1 Hn2.out hloc3 (by have h1 := Hx.out.2.2.1.size; have h2 := Hb2.out.size; have h3 := (below_one0 w2 (.cells #[.slice p2 q c2] 39)).size; omega); have hB : Below w.heap.size w w3 := by { have h1 := Hx.out.2.2.1.trans ((Hb2.out.trans ((below_one0 w2 (.cells #[.slice p2 q c2] 39)).mono Hb2.out.size)).mono Hx.out.2.2.1.size); exact ((Chg.of_below h1).trans (Chg.of_grown hgrow3) fun j hj e => by have h5 := Hx.out.2.1.1 j e.symm; omega).below (Nat.le_refl _) fun _ _ => id }; have HE := Lib.hid (And.intro hE (And.intro hN hB)); clear hE hN hB hgrow3 hloc3; obtain ⟨p3, q3, rfl⟩ := OwnR.shape hown3; clear hown3))
        go_roundw
        case rel => exact ⟨k + L, _, _, ls ++ [x], by omega, by go_num, rfl, by rw [List.length_append, Hm.out]; simp; omega, HE.out.1, HE.out.2.1, HE.out.2.2, by rw [Hx.out.2.2.2.1, Hgo.out]; simp, by rw [Hx.out.2.2.2.2, Hgo.out]; simp; omega⟩
        case measure => simp [intOf]; omega
      · have Hst := Lib.hid (scan_stop (.inr he))
        have hne : ((decE (b.drop k) : Int) != 0) = true := by simp; omega
        unfold Decoded at Hd
        generalize decE (b.drop k) = E at *
        generalize decL (b.drop k) = L at *
        go_wp2_with fail
        refine Hd.out.mono ?_
        rintro e w2 ⟨v2, rfl, -, -, hb2⟩
        have HE := Lib.hid (show Scanned w b (.returned (.tuple #[v, .int .i64 (k : Int)])) w2 from ⟨v, vs, by rw [Hx.out.2.2.2.2, Hst.out]; rfl, by rw [Hx.out.2.2.2.1, Hst.out, List.append_nil]; exact Hx.out.1.below hb2, Hx.out.2.1, Hx.out.2.2.1.trans (hb2.mono Hx.out.2.2.1.size)⟩)
        clear hb2 Hd
        go_wp2_with fail
        go_ret2
        exact HE.out
    · have he : b.drop k = [] := List.drop_of_length_le (by rw [Hn.out]; omega)
      rw [he, scan_stop (.inl rfl)] at hsc1 hsc2
      have HE := Lib.hid (show Scanned w b (.returned (.tuple #[v, .int .i64 (k : Int)])) wr from ⟨v, vs, by rw [hsc2]; rfl, by rw [hsc1, List.append_nil]; exact hrow, hnew, hb⟩)
      clear hrow hnew hb hsc1 hsc2 he
      go_wp2_with fail
      go_ret2
      exact HE.out
end Go.Proofs.YtogdfkilhpkloaaGreatDoor

namespace Go.Proofs.YtogdfkilhpkloaaGreatDoor
open Go.RowKit Go.Sat Go.Maps

abbrev LRC (r : Nat) (pre : ByteArray) (n : Int) (dv ev : Value) (dead : Bool) : Obj := .cells #[.pointer (some ⟨r, 0, none⟩), .string pre, .int .i64 n, dv, ev, .bool dead] 359 (0, 0)

/-- Blocks that may be written: O; blocks that are only read: C. -/
structure LRIn (w : World) (l r : Nat) (pre : ByteArray) (O C : Nat → Prop) (M : LedM) (dv ev : Value) (vs : List Value) : Prop where
  cells : w.heap[l]? = some (LRC r pre (M.base : Int) dv ev M.dead)
  data : HasB w dv M.data
  row : OwnR w 39 1 ev M.entries.length vs
  rows : ∀ (i : Nat) b v, M.entries[i]? = some b → vs[i]? = some v → HasB w v b
  oj : O l
  oe : ∀ k, ev.ownBlock = some k → O k ∧ k ≠ l
  cd : ∀ k, dv.ownBlock = some k → C k
  cv : ∀ u ∈ vs, ∀ k, u.ownBlock = some k → C k
  dis : ∀ k, C k → ¬ O k
  olt : ∀ k, O k → k < w.heap.size
  clt : ∀ k, C k → k < w.heap.size
  psz : 1 ≤ pre.size ∧ pre.size ≤ 20
  last : M.last ≤ 1099511627776
  big : M.data.length ≤ 1073741824 ∧ ∀ b ∈ M.entries, b.length ≤ 1073741824

section
variable {w w' : World} {l r : Nat} {pre : ByteArray} {O C : Nat → Prop} {M : LedM} {dv ev : Value} {vs : List Value}

theorem LRIn.rlen (h : LRIn w l r pre O C M dv ev vs) : vs.length = M.entries.length := by have := h.row.1; omega
theorem LRIn.keep (h : LRIn w l r pre O C M dv ev vs) (hs : ∀ k, O k ∨ C k → w'.heap[k]? = w.heap[k]?) (hl : ∀ k, O k ∨ C k → k < w'.heap.size) : LRIn w' l r pre O C M dv ev vs where
  cells := (hs l (.inl h.oj)).trans h.cells
  data := Holds.keep h.data fun k hk => hs k (.inr (h.cd k hk))
  row := h.row.keep fun k hk => hs k (.inl (h.oe k hk).1)
  rows := fun i e v he hv => Holds.keep (h.rows i e v he hv) fun k hk => hs k (.inr (h.cv v (List.mem_of_getElem? hv) k hk))
  oj := h.oj
  oe := h.oe
  cd := h.cd
  cv := h.cv
  dis := h.dis
  olt := fun k hk => hl k (.inl hk)
  clt := fun k hk => hl k (.inr hk)
  psz := h.psz
  last := h.last
  big := h.big
theorem LRIn.below (h : LRIn w l r pre O C M dv ev vs) (hb : Below w.heap.size w w') : LRIn w' l r pre O C M dv ev vs :=
  h.keep (fun k hk => hb.block k (hk.elim (h.olt k) (h.clt k))) fun k hk => Nat.lt_of_lt_of_le (hk.elim (h.olt k) (h.clt k)) hb.size
theorem LRIn.chg {S : Nat → Prop} (h : LRIn w l r pre O C M dv ev vs) (hc : Chg S w w') (hS : ∀ k, S k → ¬ O k ∧ ¬ C k) : LRIn w' l r pre O C M dv ev vs :=
  h.keep (fun k hk => hc.block k (hk.elim (h.olt k) (h.clt k)) fun s => hk.elim (hS k s).1 (hS k s).2) fun k hk => Nat.lt_of_lt_of_le (hk.elim (h.olt k) (h.clt k)) hc.size


theorem LRIn.c (h : LRIn w l r pre O C M dv ev vs) (i : Nat) {v : Value} (hi : (#[.pointer (some ⟨r, 0, none⟩), .string pre, .int .i64 (M.base : Int), dv, ev, .bool M.dead] : Array Value)[i]? = some v) : w.cell? ⟨l, i, none⟩ = some v := cell_of h.cells hi
theorem LRIn.fr (h : LRIn w l r pre O C M dv ev vs) (i : Nat) : w.frozen? ⟨l, i, none⟩ = false := frozen_of h.cells i
end

/-- The document's ledger over its disk; Hot: what it may write; Cold: what it only reads. -/
def LRF (w1 : World) (l r : Nat) (pre : ByteArray) (D : DiskM) (M : LedM) (Hot Cold : Nat → Prop) : Prop :=
  ∃ O own dv ev vs v L, LRIn w1 l r pre O Cold M dv ev vs ∧ RefIn w1 r v L own D ∧ (∀ k, O k → ¬ own k) ∧ (∀ k, Cold k → ¬ own k) ∧ ∀ k, Hot k ↔ O k ∨ own k

section
variable {w1 w2 : World} {l r : Nat} {pre : ByteArray} {D : DiskM} {M : LedM} {Hot Cold : Nat → Prop}

theorem LRF.okD (h : LRF w1 l r pre D M Hot Cold) : D.OK := let ⟨_, _, _, _, _, _, _, _, hR, _⟩ := h; hR.ok
theorem LRF.hlt (h : LRF w1 l r pre D M Hot Cold) {k : Nat} (hk : Hot k) : k < w1.heap.size := by
  obtain ⟨_, _, _, _, _, _, _, hJ, hR, _, _, hH⟩ := h
  exact ((hH k).1 hk).elim (hJ.olt k) (hR.olt k)
theorem LRF.clt (h : LRF w1 l r pre D M Hot Cold) {k : Nat} (hk : Cold k) : k < w1.heap.size := let ⟨_, _, _, _, _, _, _, hJ, _⟩ := h; hJ.clt k hk
theorem LRF.dis (h : LRF w1 l r pre D M Hot Cold) {k : Nat} (hk : Cold k) : ¬ Hot k := by
  obtain ⟨_, _, _, _, _, _, _, hJ, hR, _, hC, hH⟩ := h
  exact fun hh => ((hH k).1 hh).elim (hJ.dis k hk) (hC k hk)
theorem LRF.psz (h : LRF w1 l r pre D M Hot Cold) : 1 ≤ pre.size ∧ pre.size ≤ 20 := let ⟨_, _, _, _, _, _, _, hJ, _⟩ := h; hJ.psz
theorem LRF.chg {S : Nat → Prop} (h : LRF w1 l r pre D M Hot Cold) (hc : Chg S w1 w2) (hS : ∀ k, S k → ¬ Hot k ∧ ¬ Cold k) : LRF w2 l r pre D M Hot Cold := by
  obtain ⟨O, own, dv, ev, vs, v, L, hJ, hR, hO, hC, hH⟩ := h
  exact ⟨O, own, dv, ev, vs, v, L, hJ.chg hc fun k s => ⟨fun o => (hS k s).1 ((hH k).2 (.inl o)), (hS k s).2⟩, hR.keep hc.size (fun k hk => hc.block k (hR.olt k hk) fun s => (hS k s).1 ((hH k).2 (.inr hk))), hO, hC, hH⟩
theorem LRF.below (h : LRF w1 l r pre D M Hot Cold) (hb : Below w1.heap.size w1 w2) : LRF w2 l r pre D M Hot Cold := h.chg (Chg.of_below hb) fun _ s => s.elim
theorem LRF.drewN (h : LRF w1 l r pre D M Hot Cold) (q : Nat) : LRF (w1.drewN q) l r pre D M Hot Cold := h.below ⟨rfl, rfl, rfl, Nat.le_refl _, fun _ _ => rfl⟩


/-- What a thing done with the document's ledger leaves. -/
def LRStep (w0 : World) (l r : Nat) (pre : ByteArray) (Hot0 Cold0 : Nat → Prop) (w1 : World) (D : DiskM) (M : LedM) : Prop :=
  ∃ Hot Cold, LRF w1 l r pre D M Hot Cold ∧ Chg Hot0 w0 w1 ∧ (∀ k, Hot k → Hot0 k ∨ w0.heap.size ≤ k) ∧ ∀ k, Cold k → Cold0 k ∨ w0.heap.size ≤ k

end
section
variable {w0 w1 w2 : World} {l r : Nat} {pre : ByteArray} {D D2 : DiskM} {M M2 : LedM} {Hot Cold Hot1 Cold1 : Nat → Prop}

theorem LRF.step (h : LRF w1 l r pre D M Hot Cold) : LRStep w1 l r pre Hot Cold w1 D M := ⟨Hot, Cold, h, Chg.refl _ _, fun _ h => .inl h, fun _ h => .inl h⟩
theorem LRF.stepB (h : LRF w1 l r pre D M Hot Cold) (hb : Below w1.heap.size w1 w2) : LRStep w1 l r pre Hot Cold w2 D M := ⟨Hot, Cold, h.below hb, (Chg.of_below hb).mono fun _ _ h => h.elim, fun _ h => .inl h, fun _ h => .inl h⟩
theorem LRStep.comp (hc : Chg Hot w0 w1) (hh : ∀ k, Hot1 k → Hot k ∨ w0.heap.size ≤ k) (hco : ∀ k, Cold1 k → Cold k ∨ w0.heap.size ≤ k) (h2 : LRStep w1 l r pre Hot1 Cold1 w2 D2 M2) : LRStep w0 l r pre Hot Cold w2 D2 M2 := by
  obtain ⟨Hot2, Cold2, hF2, hc2, hh2, hco2⟩ := h2
  refine ⟨Hot2, Cold2, hF2, hc.trans hc2 fun k hk hs => (hh k hs).resolve_right (by omega), fun k hk => ?_, fun k hk => ?_⟩
  · rcases hh2 k hk with h | h
    · exact hh k h
    · exact .inr (Nat.le_trans hc.size h)
  · rcases hco2 k hk with h | h
    · exact hco k h
    · exact .inr (Nat.le_trans hc.size h)
theorem LRStep.trans (h : LRStep w0 l r pre Hot Cold w1 D M) (hx : ∀ Hot1 Cold1, LRF w1 l r pre D M Hot1 Cold1 → LRStep w1 l r pre Hot1 Cold1 w2 D2 M2) : LRStep w0 l r pre Hot Cold w2 D2 M2 := by
  obtain ⟨Hot1, Cold1, hF, hc, hh, hco⟩ := h
  exact LRStep.comp hc hh hco (hx _ _ hF)
theorem LRStep.next (h : LRStep w0 l r pre Hot Cold w1 D M) (hb : Below w1.heap.size w1 w2) : LRStep w0 l r pre Hot Cold w2 D M := h.trans fun _ _ hF => hF.stepB hb
theorem LRStep.since (h : LRStep w1 l r pre Hot Cold w2 D M) (hb : Below w0.heap.size w0 w1) : LRStep w0 l r pre Hot Cold w2 D M := by
  obtain ⟨Hot1, Cold1, hF, hc, hh, hco⟩ := h
  exact ⟨Hot1, Cold1, hF, ((Chg.of_below hb).mono fun _ _ h => h.elim).trans hc fun _ _ h => h, fun k hk => (hh k hk).imp id (Nat.le_trans hb.size), fun k hk => (hco k hk).imp id (Nat.le_trans hb.size)⟩

/-- A thing done with the journal's disk. -/
theorem lr_disk {P : Program} {f : FuncId} {args : Array Value} {Re : DiskM × Nat} {wc : World} (h : LRF w1 l r pre D M Hot Cold) (hb : Below w1.heap.size w1 wc) (hx : ∀ v L own, RefIn wc r v L own D → (∀ k, own k → Hot k) → Calls P f args wc (RStep wc r own Re)) :
    Calls P f args wc fun e w' => e = .returned (.int .i64 (Re.2 : Int)) ∧ LRStep w1 l r pre Hot Cold w' Re.1 M ∧ w'.heap[l]? = w1.heap[l]? := by
  obtain ⟨O, own, dv, ev, vs, v, L, hJ, hR, hO, hC, hH⟩ := h
  refine (hx v L own (hR.below hb) fun k hk => (hH k).2 (.inr hk)).mono ?_
  rintro e w' ⟨rfl, own', ⟨v', L', hR'⟩, hc, hn⟩
  have hc1 : Chg own w1 w' := chg_below hb hc
  have hn1 : ∀ k, own' k → own k ∨ w1.heap.size ≤ k := fun k hk => (hn k hk).imp id (Nat.le_trans hb.size)
  have hJ' := hJ.chg hc1 fun k hk => ⟨fun o => hO k o hk, fun c => hC k c hk⟩
  refine ⟨rfl, ⟨fun k => O k ∨ own' k, Cold, ⟨O, own', dv, ev, vs, v', L', hJ', hR', fun k hk hk2 => ?_, fun k hk hk2 => ?_, fun k => Iff.rfl⟩, hc1.mono fun k _ hk => (hH k).2 (.inr hk), fun k hk => ?_, fun k hk => .inl hk⟩, hc1.block l (hJ.olt l hJ.oj) (hO l hJ.oj)⟩
  · rcases hn1 k hk2 with h | h
    · exact hO k hk h
    · have := hJ.olt k hk
      omega
  · rcases hn1 k hk2 with h | h
    · exact hC k hk h
    · have := hJ.clt k hk
      omega
  · rcases hk with hk | hk
    · exact .inl ((hH k).2 (.inl hk))
    · exact (hn1 k hk).imp (fun h => (hH k).2 (.inr h)) id


end

/-- The document's ledger: all of it lies in S. -/
def LRNew (S : Nat → Prop) (w : World) (l r : Nat) (pre : ByteArray) (M : LedM) : Prop :=
  ∃ O C dv ev vs, LRIn w l r pre O C M dv ev vs ∧ ∀ k, (O k ∨ C k) → S k

section
variable {S : Nat → Prop} {w w1 w2 : World} {l r : Nat} {pre : ByteArray} {M : LedM}

theorem LRNew.below (h : LRNew S w1 l r pre M) (hb : Below w1.heap.size w1 w2) : LRNew S w2 l r pre M := by
  obtain ⟨O, C, dv, ev, vs, hJ, hn⟩ := h
  exact ⟨O, C, dv, ev, vs, hJ.below hb, hn⟩
theorem LRNew.lt (h : LRNew S w l r pre M) : S l ∧ l < w.heap.size := let ⟨_, _, _, _, _, hJ, hn⟩ := h; ⟨hn l (.inl hJ.oj), hJ.olt l hJ.oj⟩
theorem LRNew.cells (h : LRNew S w l r pre M) : ∃ dv ev, w.heap[l]? = some (LRC r pre (M.base : Int) dv ev M.dead) := let ⟨_, _, dv, ev, _, hJ, _⟩ := h; ⟨dv, ev, hJ.cells⟩

theorem LRNew.wide {T : Nat → Prop} (h : LRNew S w1 l r pre M) (hT : ∀ k, S k → T k) : LRNew T w1 l r pre M := by
  obtain ⟨O, C, dv, ev, vs, hJ, hn⟩ := h
  exact ⟨O, C, dv, ev, vs, hJ, fun k hk => hT k (hn k hk)⟩
end
end Go.Proofs.YtogdfkilhpkloaaGreatDoor

namespace Go.Proofs.YtogdfkilhpkloaaGreatDoor
open Go.RowKit Go.Sat Go.Maps

section
variable {w : World} {r : Nat} {v : Value} {L : List RFile} {own : Nat → Prop} {D : DiskM}

set_option maxRecDepth 100000 in
set_option maxHeartbeats 4000000 in
theorem rwhole_calls (h : RefIn w r v L own D) (s : ByteArray) (hs : s.size ≤ 9223372036854775000) {pb : Option Addr} {m cb : Nat} {l : Bs} (hl : HasB w (.slice pb m cb) l) (hlm : l.length ≤ 140737488355328) (hF : ∀ k, (Value.slice pb m cb).ownBlock = some k → ¬ own k ∧ k < w.heap.size) :
    Calls Tryz.prog 334 #[.pointer (some ⟨r, 0, none⟩), .string s, .slice pb m cb] w (RStep w r own (D.save1 (nm s) l)) := by
  have hsh : (s ++ (⟨#[126]⟩ : ByteArray)).size = s.size + 1 := by simp [ByteArray.size_append]; rfl
  have hst : RSt w w r own D (fun k => (Value.slice pb m cb).ownBlock = some k) := RSt.start h (Below.refl _ _) hF
  have Hth := Lib.hid (rst_has hst (s ++ (⟨#[126]⟩ : ByteArray)))
  rw [nm_shadow] at Hth
  have Hl := Lib.hid hl
  have Hlm := Lib.hid hlm
  clear hst h hl hlm hF
  cases hg : Sat.get (shadowN (nm s)) D.files with
  | none =>
    rw [hg] at Hth
    obtain ⟨D0, h0, hD⟩ : ∃ D0, D.save0 (nm s) = (D0, 0) ∧ D0 = D := ⟨D, by unfold DiskM.save0; rw [hg]; rfl, rfl⟩
    go_enter Tryz.func334, Tryz.ntmps334
    go_wp2_with fail
    refine Hth.out.mono ?_
    rintro e w3 ⟨rfl, hst3, hs3⟩
    rw [← hD] at hst3
    have Hst := Lib.hid hst3
    have Hv := Lib.hid (Hl.out.same hs3)
    clear hst3 hs3 Hth hD hg
    have Hap := Lib.hid (rst_step Hst.out (Re := D0.append (shadowN (nm s)) l) fun own v L hR hn => by
      have := rappend_calls hR (s ++ (⟨#[126]⟩ : ByteArray)) (by rw [hsh]; omega) (Hv.out) Hlm.out (fun _ k hk ho => hn k ho hk)
      rwa [nm_shadow] at this)
    cases h1 : DiskM.append D0 (shadowN (nm s)) l with
    | mk D1 e1 =>
      rw [h1] at Hap
      by_cases he1 : e1 = 0
      · subst he1
        go_wp2_with fail
        refine Hap.out.mono ?_
        rintro e w5 ⟨rfl, hst5, -⟩
        have Hst5 := Lib.hid (show RSt w w5 r own D1 (fun k => (Value.slice pb m cb).ownBlock = some k) from hst5)
        have Hsy := Lib.hid (rst_step Hst5.out (Re := D1.sync [shadowN (nm s)]) fun own v L hR hn => by
          have := rsync_calls hR (s ++ (⟨#[126]⟩ : ByteArray)) (by rw [hsh]; omega)
          rwa [nm_shadow] at this)
        clear hst5 Hap
        cases h2 : DiskM.sync D1 [shadowN (nm s)] with
        | mk D2 e2 =>
          rw [h2] at Hsy
          by_cases he2 : e2 = 0
          · subst he2
            have Hend := Lib.hid (save1_ren h0 h1 h2)
            clear h0 h1 h2
            go_wp2_with fail
            refine Hsy.out.mono ?_
            rintro e w6 ⟨rfl, hst6, -⟩
            have Hst6 := Lib.hid (show RSt w w6 r own D2 (fun k => (Value.slice pb m cb).ownBlock = some k) from hst6)
            have Hrn := Lib.hid (rst_step Hst6.out (Re := D2.rename (shadowN (nm s)) (nm s)) fun own v L hR hn => by
              have := rren_calls hR (s ++ (⟨#[126]⟩ : ByteArray)) s (by rw [hsh]; omega) (by omega)
              rwa [nm_shadow] at this)
            clear hst6 Hsy
            go_wp2_with fail
            refine Hrn.out.mono ?_
            rintro e w7 ⟨rfl, hst7, -⟩
            have HE := Lib.hid (show RStep w r own (D.save1 (nm s) l) (.returned (.int .i64 ((D2.rename (shadowN (nm s)) (nm s)).2 : Int))) w7 from by rw [Hend.out]; exact hst7.stop _)
            clear hst7 Hrn
            generalize (D2.rename (shadowN (nm s)) (nm s)).2 = e3 at *
            go_wp2_with fail
            go_ret
            exact HE.out
          · have hne : ((e2 : Int) == 0) = false := by simp; omega
            have Hend := Lib.hid (save1_syn h0 h1 h2 he2)
            clear h0 h1 h2 he2
            go_wp2_with fail
            refine Hsy.out.mono ?_
            rintro e w6 ⟨rfl, hst6, -⟩
            have HE := Lib.hid (show RStep w r own (D.save1 (nm s) l) (.returned (.int .i64 (e2 : Int))) w6 from by rw [Hend.out]; exact hst6.stop _)
            clear hst6 Hsy
            go_wp2_with fail
            go_ret
            exact HE.out
      · have hne : ((e1 : Int) == 0) = false := by simp; omega
        have Hend := Lib.hid (save1_app h0 h1 he1)
        clear h0 h1 he1
        go_wp2_with fail
        refine Hap.out.mono ?_
        rintro e w5 ⟨rfl, hst5, -⟩
        have HE := Lib.hid (show RStep w r own (D.save1 (nm s) l) (.returned (.int .i64 (e1 : Int))) w5 from by rw [Hend.out]; exact hst5.stop _)
        clear hst5 Hap
        go_wp2_with fail
        go_ret
        exact HE.out
  | some f =>
    rw [hg] at Hth
    cases h0 : D.save0 (nm s) with
    | mk D0 e0 =>
      have hz0 : DiskM.remove D [shadowN (nm s)] = (D0, e0) := by rw [← h0]; unfold DiskM.save0; rw [hg]; rfl
      have Hz0 := Lib.hid hz0
      clear hz0 hg
      go_enter Tryz.func334, Tryz.ntmps334
      go_wp2_with fail
      refine Hth.out.mono ?_
      rintro e w3 ⟨rfl, hst3, hs3⟩
      have Hrm := Lib.hid (rst_step hst3 (Re := D.remove [shadowN (nm s)]) fun own v L hR hn => by
        have := rrem_calls hR (s ++ (⟨#[126]⟩ : ByteArray)) (by rw [hsh]; omega)
        rwa [nm_shadow] at this)
      rw [Hz0.out] at Hrm
      have Hv3 := Lib.hid (Hl.out.same hs3)
      clear hst3 hs3 Hth
      by_cases he0 : e0 = 0
      · subst he0
        go_wp2_with fail
        refine Hrm.out.mono ?_
        rintro e w4 ⟨rfl, hst4, hs4⟩
        have Hst := Lib.hid (show RSt w w4 r own D0 (fun k => (Value.slice pb m cb).ownBlock = some k) from hst4)
        have Hv := Lib.hid (Hv3.out.same hs4)
        clear hst4 hs4 Hv3 Hrm Hz0
        have Hap := Lib.hid (rst_step Hst.out (Re := D0.append (shadowN (nm s)) l) fun own v L hR hn => by
          have := rappend_calls hR (s ++ (⟨#[126]⟩ : ByteArray)) (by rw [hsh]; omega) (Hv.out) Hlm.out (fun _ k hk ho => hn k ho hk)
          rwa [nm_shadow] at this)
        cases h1 : DiskM.append D0 (shadowN (nm s)) l with
        | mk D1 e1 =>
          rw [h1] at Hap
          by_cases he1 : e1 = 0
          · subst he1
            go_wp2_with fail
            refine Hap.out.mono ?_
            rintro e w5 ⟨rfl, hst5, -⟩
            have Hst5 := Lib.hid (show RSt w w5 r own D1 (fun k => (Value.slice pb m cb).ownBlock = some k) from hst5)
            have Hsy := Lib.hid (rst_step Hst5.out (Re := D1.sync [shadowN (nm s)]) fun own v L hR hn => by
              have := rsync_calls hR (s ++ (⟨#[126]⟩ : ByteArray)) (by rw [hsh]; omega)
              rwa [nm_shadow] at this)
            clear hst5 Hap
            cases h2 : DiskM.sync D1 [shadowN (nm s)] with
            | mk D2 e2 =>
              rw [h2] at Hsy
              by_cases he2 : e2 = 0
              · subst he2
                have Hend := Lib.hid (save1_ren h0 h1 h2)
                clear h0 h1 h2
                go_wp2_with fail
                refine Hsy.out.mono ?_
                rintro e w6 ⟨rfl, hst6, -⟩
                have Hst6 := Lib.hid (show RSt w w6 r own D2 (fun k => (Value.slice pb m cb).ownBlock = some k) from hst6)
                have Hrn := Lib.hid (rst_step Hst6.out (Re := D2.rename (shadowN (nm s)) (nm s)) fun own v L hR hn => by
                  have := rren_calls hR (s ++ (⟨#[126]⟩ : ByteArray)) s (by rw [hsh]; omega) (by omega)
                  rwa [nm_shadow] at this)
                clear hst6 Hsy
                go_wp2_with fail
                refine Hrn.out.mono ?_
                rintro e w7 ⟨rfl, hst7, -⟩
                have HE := Lib.hid (show RStep w r own (D.save1 (nm s) l) (.returned (.int .i64 ((D2.rename (shadowN (nm s)) (nm s)).2 : Int))) w7 from by rw [Hend.out]; exact hst7.stop _)
                clear hst7 Hrn
                generalize (D2.rename (shadowN (nm s)) (nm s)).2 = e3 at *
                go_wp2_with fail
                go_ret
                exact HE.out
              · have hne : ((e2 : Int) == 0) = false := by simp; omega
                have Hend := Lib.hid (save1_syn h0 h1 h2 he2)
                clear h0 h1 h2 he2
                go_wp2_with fail
                refine Hsy.out.mono ?_
                rintro e w6 ⟨rfl, hst6, -⟩
                have HE := Lib.hid (show RStep w r own (D.save1 (nm s) l) (.returned (.int .i64 (e2 : Int))) w6 from by rw [Hend.out]; exact hst6.stop _)
                clear hst6 Hsy
                go_wp2_with fail
                go_ret
                exact HE.out
          · have hne : ((e1 : Int) == 0) = false := by simp; omega
            have Hend := Lib.hid (save1_app h0 h1 he1)
            clear h0 h1 he1
            go_wp2_with fail
            refine Hap.out.mono ?_
            rintro e w5 ⟨rfl, hst5, -⟩
            have HE := Lib.hid (show RStep w r own (D.save1 (nm s) l) (.returned (.int .i64 (e1 : Int))) w5 from by rw [Hend.out]; exact hst5.stop _)
            clear hst5 Hap
            go_wp2_with fail
            go_ret
            exact HE.out
      · have hne : ((e0 : Int) != 0) = true := by simp; omega
        have Hend := Lib.hid (save1_rem (b := l) h0 he0)
        clear h0 he0
        go_wp2_with fail
        refine Hrm.out.mono ?_
        rintro e w4 ⟨rfl, hst4, -⟩
        have HE := Lib.hid (show RStep w r own (D.save1 (nm s) l) (.returned (.int .i64 (e0 : Int))) w4 from by rw [Hend.out]; exact hst4.stop _)
        clear hst4 Hrm
        go_wp2_with fail
        go_ret
        exact HE.out
end
end Go.Proofs.YtogdfkilhpkloaaGreatDoor

namespace Go.Proofs.YtogdfkilhpkloaaGreatDoor
open Go.RowKit Go.Sat Go.Maps

section
variable {S : Nat → Prop} {w w1 w2 : World} {j r : Nat} {pre : ByteArray} {M : JouM}

theorem below_dq {B : Nat} (w : World) (q : Nat) : Below B w (w.drewN q) := ⟨rfl, rfl, rfl, Nat.le_refl _, fun _ _ => rfl⟩
/-- A Reader over a row. -/
theorem rdy_new {p : Option Addr} {n c : Nat} {l : Bs} (hx : HasB w (.slice p n c) l) (hcap : n ≤ c) (hlt : ∀ k, (Value.slice p n c).ownBlock = some k → k < w.heap.size) (hl : n ≤ 140737488355328) :
    RdY (fun k => (Value.slice p n c).ownBlock = some k) (w.alloc (.cells #[.slice p n c, .bool false] 416)) w.heap.size ⟨l, false⟩ := by
  have hn : l.length = n := by obtain ⟨_, _, e⟩ := hx.slice; simp only [Value.slice.injEq] at e; exact e.2.1.symm
  exact ⟨p, n, c, ⟨new_block w _, hx.below (below_one w _), hcap, fun e => by have := hlt _ e; omega, by rw [hn]; exact hl, fun e => by cases e⟩, fun k hk => hk⟩

end
end Go.Proofs.YtogdfkilhpkloaaGreatDoor

namespace Go.Proofs.YtogdfkilhpkloaaGreatDoor
open Go.RowKit Go.Sat Go.Maps

section
variable {w : World} {r : Nat} {v : Value} {L : List RFile} {own : Nat → Prop} {D : DiskM}

set_option maxRecDepth 100000 in
set_option maxHeartbeats 1000000 in
theorem rsave_calls (h : RefIn w r v L own D) (s : ByteArray) (hs : s.size ≤ 9223372036854775000) {p : Option Addr} {m c : Nat} {l : Bs} (hx : HasB w (.slice p m c) l) (hl : l.length ≤ 1048576) :
    Calls Tryz.prog 261 #[.pointer (some ⟨r, 0, none⟩), .string s, .slice p m c] w (RStep w r own (D.save (nm s) l)) := by
  have hsz : (nm s).length = s.size := nm_len s
  by_cases hnm : (nm s).length < 1 ∨ 60 < (nm s).length
  · have hM : D.save (nm s) l = (D, 1) := by unfold DiskM.save; rw [if_pos hnm]
    rw [hM]
    have Hfin := Lib.hid (rstep_same h (Below.refl _ _) 1)
    rw [hsz] at hnm
    generalize hzz : s.size = z at *
    clear hM h hx
    have hd1 : (decide ((z : Int) < 1) || decide (60 < (z : Int))) = true := by simp; omega
    by_cases hz : z < 1
    · have hz0 : z = 0 := by omega
      subst hz0
      go_enter Tryz.func261, Tryz.ntmps261
      go_wp2_with fail
      go_ret
      exact Hfin.out
    · have hz6 : 60 < z := by omega
      go_enter Tryz.func261, Tryz.ntmps261
      go_wp2_with fail
      go_ret
      exact Hfin.out
  · have hM : D.save (nm s) l = D.save1 (nm s) (frameN l) := by unfold DiskM.save; rw [if_neg hnm]
    rw [hM]
    have He := Lib.hid (renc_calls hx hl)
    have Hh := Lib.hid h
    have Hs := Lib.hid hs
    rw [hsz] at hnm
    generalize hz : s.size = z at *
    have Hz := Lib.hid hz
    have hfl : (frameN l).length ≤ 140737488355328 := by rw [frame_len]; omega
    have Hfl := Lib.hid hfl
    clear hM h hx hl hs hfl
    go_enter Tryz.func261, Tryz.ntmps261
    go_wp2_with fail
    refine He.out.mono ?_
    rintro e w2 ⟨v2, rfl, hv, hnew, hb⟩
    obtain ⟨p2, c2, rfl⟩ := hv.slice
    have Hw := Lib.hid ((rwhole_calls (Hh.out.below hb) s (by rw [Hz.out]; exact Hs.out) hv.has Hfl.out (fun k hk => ⟨fun ho => by have h1 := hnew k hk; have h2 := Hh.out.olt k ho; omega, OwnR.lt hv hk⟩)).mono fun e w' h => rstep_below hb h)
    clear hv hnew hb He
    go_wp2_with fail
    refine Hw.out.mono ?_
    intro e w3 h3
    have HE := Lib.hid h3
    obtain ⟨rfl, -⟩ := h3
    generalize (D.save1 (nm s) (frameN l)).2 = e3 at *
    go_wp2_with fail
    go_ret
    exact HE.out
end
end Go.Proofs.YtogdfkilhpkloaaGreatDoor

namespace Go.Proofs.YtogdfkilhpkloaaGreatDoor
open Go.RowKit Go.Sat Go.Maps

set_option maxRecDepth 100000 in
set_option maxHeartbeats 2000000 in
theorem lrin_last {w1 : World} {l r : Nat} {pre : ByteArray} {O C : Nat → Prop} {M : LedM} {dv ev : Value} {vs : List Value} (h : LRIn w1 l r pre O C M dv ev vs) :
    Calls Tryz.prog 260 #[.pointer (some ⟨l, 0, none⟩)] w1 fun e w' => e = .returned (.int .i64 (M.last : Int)) ∧ ∃ q, w' = w1.drewN q := by
  have hlast := h.last
  have c2 := h.c 2 rfl
  have c4 := h.c 4 rfl
  obtain ⟨p, c, hev⟩ := h.row.shape
  rw [hev] at c4
  have HL := Lib.hid (show (M.last : Int) = (M.base : Int) + (M.entries.length : Int) by unfold LedM.last; omega)
  have hw : IntKind.i64.wrap ((M.base : Int) + (M.entries.length : Int)) = (M.base : Int) + (M.entries.length : Int) := IntWalk.i64_in _ (by unfold LedM.last at hlast; omega)
  clear h hev hlast
  generalize M.entries.length = n at *
  generalize M.base = b at *
  go_enter Tryz.func260, Tryz.ntmps260
  go_wp2_with fail
  go_quiet (fail)
  go_wp2_with fail
  go_ret
  exact ⟨by rw [HL.out]; rfl, _, rfl⟩

theorem LRNew.last_calls {S : Nat → Prop} {w1 : World} {l r : Nat} {pre : ByteArray} {M : LedM} (h : LRNew S w1 l r pre M) :
    Calls Tryz.prog 260 #[.pointer (some ⟨l, 0, none⟩)] w1 fun e w' => e = .returned (.int .i64 (M.last : Int)) ∧ ∃ q, w' = w1.drewN q := let ⟨_, _, _, _, _, hJ, _⟩ := h; lrin_last hJ
theorem lrlast_calls {w1 : World} {l r : Nat} {pre : ByteArray} {D : DiskM} {M : LedM} {Hot Cold : Nat → Prop} (h : LRF w1 l r pre D M Hot Cold) :
    Calls Tryz.prog 260 #[.pointer (some ⟨l, 0, none⟩)] w1 fun e w' => e = .returned (.int .i64 (M.last : Int)) ∧ ∃ q, w' = w1.drewN q := let ⟨_, _, _, _, _, _, _, hJ, _⟩ := h; lrin_last hJ

theorem lrhas_calls {w1 : World} {l r : Nat} {pre : ByteArray} {D : DiskM} {M : LedM} {Hot Cold : Nat → Prop} (h : LRF w1 l r pre D M Hot Cold) (s : ByteArray) :
    Calls Tryz.prog 252 #[.pointer (some ⟨l, 0, none⟩), .string s] w1 fun e w' => e = .returned (.bool (Sat.get (nm s) D.files).isSome) ∧ Below w1.heap.size w1 w' := by
  obtain ⟨_, _, _, _, _, _, _, hJ, hR, _⟩ := h
  have c0 := hJ.c 0 rfl
  have H := Lib.hid (rread_calls hR s)
  clear hJ hR
  cases hg : Sat.get (nm s) D.files with
  | none =>
    rw [hg] at H
    go_enter Tryz.func252, Tryz.ntmps252
    go_wp2_with fail
    refine H.out.mono ?_
    rintro e w' ⟨v, rfl, -, -, hb⟩
    have Hf := Lib.hid hb
    clear hb
    go_wp2_with fail
    go_ret
    exact ⟨rfl, Hf.out⟩
  | some f =>
    rw [hg] at H
    go_enter Tryz.func252, Tryz.ntmps252
    go_wp2_with fail
    refine H.out.mono ?_
    rintro e w' ⟨v, rfl, -, -, hb⟩
    have Hf := Lib.hid hb
    clear hb
    go_wp2_with fail
    go_ret
    exact ⟨rfl, Hf.out⟩

/-- The document's ledger within its opening (w: where that began; F: blocks set apart). -/
def LOS (w : World) (F : Nat → Prop) (l r : Nat) (pre : ByteArray) (own : Nat → Prop) (W : World) (D : DiskM) (M : LedM) : Prop :=
  ∃ Hot Cold, LRF W l r pre D M Hot Cold ∧ Chg own w W ∧ (∀ k, Hot k ∨ Cold k → own k ∨ w.heap.size ≤ k) ∧ ∀ k, F k → k < W.heap.size ∧ ¬ Hot k ∧ ¬ Cold k

section
variable {w W W2 : World} {F F' own : Nat → Prop} {l r : Nat} {pre : ByteArray} {D : DiskM} {M : LedM}

theorem LOS.okD (h : LOS w F l r pre own W D M) : D.OK := let ⟨_, _, h, _⟩ := h; h.okD
theorem LOS.flt (h : LOS w F l r pre own W D M) {k : Nat} (hk : F k) : k < W.heap.size := let ⟨_, _, _, _, _, hf⟩ := h; (hf k hk).1
theorem LOS.cells (h : LOS w F l r pre own W D M) : ∃ dv ev, W.heap[l]? = some (LRC r pre (M.base : Int) dv ev M.dead) := let ⟨_, _, ⟨_, _, _, _, _, _, _, hJ, _⟩, _⟩ := h; ⟨_, _, hJ.cells⟩
theorem LOS.next (h : LOS w F l r pre own W D M) (hb : Below W.heap.size W W2) : LOS w F l r pre own W2 D M := by
  obtain ⟨Hot, Cold, hF, hc, hh, hf⟩ := h
  exact ⟨Hot, Cold, hF.below hb, hc.trans ((Chg.of_below hb).mono (T := own) fun _ _ e => e.elim) fun _ _ h => h, hh, fun k hk => ⟨Nat.lt_of_lt_of_le (hf k hk).1 hb.size, (hf k hk).2⟩⟩
theorem LOS.same (h : LOS w F l r pre own W D M) (hb : Below W.heap.size W W2) : Same F W W2 := fun k hk => hb.block k (h.flt hk)
theorem LOS.less (h : LOS w F l r pre own W D M) (hF : ∀ k, F' k → F k) : LOS w F' l r pre own W D M := by
  obtain ⟨Hot, Cold, hJ, hc, hh, hf⟩ := h
  exact ⟨Hot, Cold, hJ, hc, hh, fun k hk => hf k (hF k hk)⟩
theorem LOS.more (h : LOS w F l r pre own W D M) (hb : Below W.heap.size W W2) (hF : ∀ k, F' k → F k ∨ (W.heap.size ≤ k ∧ k < W2.heap.size)) : LOS w F' l r pre own W2 D M := by
  have h2 := h.next hb
  obtain ⟨Hot, Cold, hJ, hc, hh, hf⟩ := h
  refine ⟨Hot, Cold, hJ.below hb, hc.trans ((Chg.of_below hb).mono (T := own) fun _ _ e => e.elim) fun _ _ h => h, hh, fun k hk => ?_⟩
  rcases hF k hk with h | h
  · exact ⟨Nat.lt_of_lt_of_le (hf k h).1 hb.size, (hf k h).2⟩
  · exact ⟨h.2, fun e => by have := hJ.hlt e; omega, fun e => by have := hJ.clt e; omega⟩

theorem los_step {D' : DiskM} {M' : LedM} {Hot Cold : Nat → Prop} (hc : Chg own w W) (hh : ∀ k, Hot k ∨ Cold k → own k ∨ w.heap.size ≤ k) (hf : ∀ k, F k → k < W.heap.size ∧ ¬ Hot k ∧ ¬ Cold k) (st : LRStep W l r pre Hot Cold W2 D' M') : LOS w F l r pre own W2 D' M' ∧ Same F W W2 := by
  obtain ⟨Hot2, Cold2, hF2, hc2, hh2, hco2⟩ := st
  have hs := hc.size
  refine ⟨⟨Hot2, Cold2, hF2, hc.trans hc2 fun k hk he => (hh k (.inl he)).resolve_right (by omega), fun k hk => ?_, fun k hk => ⟨Nat.lt_of_lt_of_le (hf k hk).1 hc2.size, fun e => ?_, fun e => ?_⟩⟩, fun k hk => hc2.block k (hf k hk).1 (hf k hk).2.1⟩
  · rcases hk with hk | hk
    · rcases hh2 k hk with h | h
      · exact hh k (.inl h)
      · exact .inr (by omega)
    · rcases hco2 k hk with h | h
      · exact hh k (.inr h)
      · exact .inr (by omega)
  · rcases hh2 k e with h | h
    · exact (hf k hk).2.1 h
    · have := (hf k hk).1
      omega
  · rcases hco2 k e with h | h
    · exact (hf k hk).2.2 h
    · have := (hf k hk).1
      omega

theorem los_ref (h : LOS w F l r pre own W D M) : ∃ v L own1, RefIn W r v L own1 D := by
  obtain ⟨_, _, ⟨_, own1, _, _, _, v, L, _, hR, _⟩, _⟩ := h
  exact ⟨v, L, own1, hR⟩

theorem los_disk {P : Program} {f : FuncId} {args : Array Value} {Re : DiskM × Nat} {wc : World} (h : LOS w F l r pre own W D M) (hb : Below W.heap.size W wc) (hx : ∀ v L own1, RefIn wc r v L own1 D → Calls P f args wc (RStep wc r own1 Re)) :
    Calls P f args wc fun e w' => e = .returned (.int .i64 (Re.2 : Int)) ∧ LOS w F l r pre own w' Re.1 M ∧ Same F W w' := by
  obtain ⟨Hot, Cold, hF, hc, hh, hf⟩ := h
  refine (lr_disk hF hb fun v L own1 hR _ => hx v L own1 hR).mono ?_
  rintro e w' ⟨rfl, hst, -⟩
  exact ⟨rfl, los_step hc hh hf hst⟩


theorem los_has (h : LOS w F l r pre own W D M) {W2 : World} (hb : Below W.heap.size W W2) (s : ByteArray) :
    Calls Tryz.prog 252 #[.pointer (some ⟨l, 0, none⟩), .string s] W2 fun e w' => e = .returned (.bool (Sat.get (nm s) D.files).isSome) ∧ Below W2.heap.size W2 w' := let ⟨_, _, h, _⟩ := h; lrhas_calls (h.below hb) s

/-- The ledger alone is turned by the records of its log. -/
theorem los_new (h : LOS w F l r pre own W D M) : ∃ S, LRNew S W l r pre M ∧ (∀ k, S k → k < W.heap.size ∧ ¬ F k) ∧
    (∀ W' M', LRNew (fun k => S k ∨ W.heap.size ≤ k) W' l r pre M' → Chg (fun k => S k ∨ W.heap.size ≤ k) W W' → LOS w F l r pre own W' D M' ∧ Same F W W') ∧
    ∀ W', Chg (fun k => S k ∨ W.heap.size ≤ k) W W' → ∃ own', RefAt W' r D own' ∧ Chg own w W' ∧ ∀ k, own' k → own k ∨ w.heap.size ≤ k := by
  obtain ⟨Hot, Cold, hJF, hc, hh, hf⟩ := h
  obtain ⟨O, own1, dv, ev, vs, v, L, hJ, hR, hO, hCo, hH⟩ := hJF
  have hs := hc.size
  have hfS : ∀ k, F k → ¬ (O k ∨ Cold k) := fun k hk e => e.elim (fun o => (hf k hk).2.1 ((hH k).2 (.inl o))) (hf k hk).2.2
  have hSo : ∀ k, (O k ∨ Cold k) → own k ∨ w.heap.size ≤ k := fun k hk => hh k (hk.imp (fun o => (hH k).2 (.inl o)) id)
  have hSw : ∀ k, (O k ∨ Cold k) → ¬ own1 k := fun k hk => hk.elim (hO k) (hCo k)
  refine ⟨fun k => O k ∨ Cold k, ⟨O, Cold, dv, ev, vs, hJ, fun _ h => h⟩, fun k hk => ⟨hk.elim (hJ.olt k) (hJ.clt k), fun e => hfS k e hk⟩, fun W' M' hN hC => ?_, fun W' hC => ⟨own1, ⟨v, L, hR.keep hC.size fun k hk => hC.block k (hR.olt k hk) fun e => e.elim (fun e => hSw k e hk) fun e => by have := hR.olt k hk; omega⟩, hc.trans hC fun k hk e => e.elim (fun e => (hSo k e).resolve_right (by omega)) fun e => by omega, fun k hk => hh k (.inl ((hH k).2 (.inr hk)))⟩⟩
  obtain ⟨O', C', dv', ev', vs', hJ', hn'⟩ := hN
  have hR' := hR.keep hC.size fun k hk => hC.block k (hR.olt k hk) fun e => e.elim (fun e => hSw k e hk) fun e => by have := hR.olt k hk; omega
  have hdis : ∀ k, (O' k ∨ C' k) → ¬ own1 k := fun k hk ho => by
    rcases hn' k hk with e | e
    · exact hSw k e ho
    · have := hR.olt k ho
      omega
  have hwide : ∀ k, (O' k ∨ C' k) → own k ∨ w.heap.size ≤ k := fun k hk => by
    rcases hn' k hk with e | e
    · exact hSo k e
    · exact .inr (by omega)
  have hnf : ∀ k, F k → ¬ (O' k ∨ C' k) := fun k hk e => by
    rcases hn' k e with e | e
    · exact hfS k hk e
    · have := (hf k hk).1
      omega
  refine ⟨⟨fun k => O' k ∨ own1 k, C', ⟨O', own1, dv', ev', vs', v, L, hJ', hR', fun k hk => hdis k (.inl hk), fun k hk => hdis k (.inr hk), fun k => Iff.rfl⟩, hc.trans hC fun k hk e => ?_, fun k hk => ?_, fun k hk => ⟨Nat.lt_of_lt_of_le (hf k hk).1 hC.size, fun e => ?_, fun e => hnf k hk (.inr e)⟩⟩, fun k hk => hC.block k (hf k hk).1 fun e => ?_⟩
  · rcases e with e | e
    · exact (hSo k e).resolve_right (by omega)
    · omega
  · rcases hk with (hk | hk) | hk
    · exact hwide k (.inl hk)
    · exact hh k (.inl ((hH k).2 (.inr hk)))
    · exact hwide k (.inr hk)
  · rcases e with e | e
    · exact hnf k hk (.inl e)
    · exact (hf k hk).2.1 ((hH k).2 (.inr e))
  · rcases e with e | e
    · exact hfS k hk e
    · have := (hf k hk).1
      omega


end

section
variable {w W W2 : World} {F F' own : Nat → Prop} {l r : Nat} {pre : ByteArray} {D : DiskM} {M : LedM}
/-- What an opening of the document's ledger leaves. -/
def LROpened (w : World) (r : Nat) (pre : ByteArray) (own : Nat → Prop) (R : DiskM × Nat × LedM) (e : Ending) (w' : World) : Prop :=
  (R.2.1 = 0 ∧ ∃ l Hot Cold, e = .returned (.tuple #[.pointer (some ⟨l, 0, none⟩), .int .i64 0]) ∧ LRF w' l r pre R.1 R.2.2 Hot Cold ∧ Chg own w w' ∧ ∀ k, Hot k ∨ Cold k → own k ∨ w.heap.size ≤ k) ∨
  (R.2.1 ≠ 0 ∧ e = .returned (.tuple #[.pointer none, .int .i64 (R.2.1 : Int)]) ∧ ∃ own', RefAt w' r R.1 own' ∧ Chg own w w' ∧ ∀ k, own' k → own k ∨ w.heap.size ≤ k)

theorem lropened_good {R : DiskM × Nat × LedM} (h : LOS w F l r pre own W D M) (hR : R = (D, 0, M)) : LROpened w r pre own R (.returned (.tuple #[.pointer (some ⟨l, 0, none⟩), .int .i64 0])) W := by
  subst hR
  obtain ⟨Hot, Cold, hF, hc, hh, -⟩ := h
  exact .inl ⟨rfl, l, Hot, Cold, rfl, hF, hc, hh⟩
theorem lropened_bad {R : DiskM × Nat × LedM} {M' : LedM} {k : Nat} (h : LOS w F l r pre own W D M) (hR : R = (D, k, M')) (hk : k ≠ 0) : LROpened w r pre own R (.returned (.tuple #[.pointer none, .int .i64 (k : Int)])) W := by
  subst hR
  obtain ⟨Hot, Cold, hF, hc, hh, -⟩ := h
  obtain ⟨O, own1, dv, ev, vs, v, L, hJ, hR, hO, hCo, hH⟩ := hF
  exact .inr ⟨hk, rfl, own1, ⟨v, L, hR⟩, hc, fun k hk => hh k (.inl ((hH k).2 (.inr hk)))⟩
theorem lropened_bad2 {R : DiskM × Nat × LedM} {M' : LedM} {k : Nat} (h : ∃ own', RefAt W r D own' ∧ Chg own w W ∧ ∀ k, own' k → own k ∨ w.heap.size ≤ k) (hR : R = (D, k, M')) (hk : k ≠ 0) : LROpened w r pre own R (.returned (.tuple #[.pointer none, .int .i64 (k : Int)])) W := by
  subst hR
  exact .inr ⟨hk, rfl, h⟩
theorem lropened_arg {R : DiskM × Nat × LedM} {M' : LedM} {k : Nat} {v : Value} {L : List RFile} (h : RefIn w r v L own D) (hb : Below w.heap.size w W) (hR : R = (D, k, M')) (hk : k ≠ 0) : LROpened w r pre own R (.returned (.tuple #[.pointer none, .int .i64 (k : Int)])) W := by
  subst hR
  exact .inr ⟨hk, rfl, own, ⟨v, L, h.below hb⟩, (Chg.of_below hb).mono fun _ _ e => e.elim, fun k hk => .inl hk⟩


end
end Go.Proofs.YtogdfkilhpkloaaGreatDoor

namespace Go.Proofs.YtogdfkilhpkloaaGreatDoor
open Go.RowKit Go.Sat Go.Maps

/-- The image has been laid into a ledger without entries. -/
theorem LRNew.image {S : Nat → Prop} {w1 : World} {l r : Nat} {pre : ByteArray} {M : LedM} (h : LRNew S w1 l r pre M) (he : M.entries = []) :
    ∃ dv ev, w1.heap[l]? = some (LRC r pre (M.base : Int) dv ev M.dead) ∧ ∀ w2 (n : Nat) v b, Chg (fun k => k = l) w1 w2 → w2.heap[l]? = some (LRC r pre (n : Int) v ev M.dead) → HasB w2 v b → (∀ k, v.ownBlock = some k → w1.heap.size ≤ k ∧ k < w2.heap.size) →
      n ≤ 1099511627776 → b.length ≤ 1073741824 → LRNew (fun k => S k ∨ w1.heap.size ≤ k) w2 l r pre ⟨n, b, [], M.dead⟩ := by
  obtain ⟨O, C, dv, ev, vs, hJ, hn⟩ := h
  refine ⟨dv, ev, hJ.cells, fun w2 n v b hc hcell hb hv hn40 hb30 => ?_⟩
  have hvs : vs = [] := List.eq_nil_of_length_eq_zero (by rw [hJ.rlen, he]; rfl)
  have hrow := hJ.row
  rw [he] at hrow
  refine ⟨O, fun k => v.ownBlock = some k, v, ev, vs, {
    cells := hcell
    data := hb
    row := hrow.keep fun k hk => hc.block k (hJ.olt k (hJ.oe k hk).1) (hJ.oe k hk).2
    rows := fun i e v he hv => by simp at he
    oj := hJ.oj
    oe := hJ.oe
    cd := fun k hk => hk
    cv := fun u hu => by rw [hvs] at hu; simp at hu
    dis := fun k hk ho => by have := hJ.olt k ho; have := (hv k hk).1; omega
    olt := fun k hk => Nat.lt_of_lt_of_le (hJ.olt k hk) hc.size
    clt := fun k hk => (hv k hk).2
    psz := hJ.psz
    last := by unfold LedM.last; exact hn40
    big := ⟨hb30, fun b hb => by simp at hb⟩ }, fun k hk => ?_⟩
  rcases hk with hk | hk
  · exact .inl (hn k (.inl hk))
  · exact .inr (hv k hk).1

def LImg (w : World) (F : Nat → Prop) (l r : Nat) (pre : ByteArray) (own : Nat → Prop) (W : World) (D : DiskM) (R : Nat × Nat × Bs) (e : Ending) (w' : World) : Prop :=
  e = .returned (.int .i64 (R.1 : Int)) ∧ (R.1 = 0 → LOS w F l r pre own w' D ⟨R.2.1, R.2.2, [], false⟩ ∧ Same F W w') ∧ ∃ own', RefAt w' r D own' ∧ Chg own w w' ∧ ∀ k, own' k → own k ∨ w.heap.size ≤ k

section
variable {w W W2 : World} {F own : Nat → Prop} {l r : Nat} {pre : ByteArray} {D : DiskM}

theorem LOS.ref {M : LedM} (h : LOS w F l r pre own W D M) : ∃ own', RefAt W r D own' ∧ Chg own w W ∧ ∀ k, own' k → own k ∨ w.heap.size ≤ k := by
  obtain ⟨Hot, Cold, hF, hc, hh, -⟩ := h
  obtain ⟨O, own1, dv, ev, vs, v, L, hJ, hR, hO, hCo, hH⟩ := hF
  exact ⟨own1, ⟨v, L, hR⟩, hc, fun k hk => hh k (.inl ((hH k).2 (.inr hk)))⟩

set_option maxRecDepth 100000 in
set_option maxHeartbeats 4000000 in
theorem los_image (h : LOS w F l r pre own W D ⟨0, [], [], false⟩) :
    Calls Tryz.prog 254 #[.pointer (some ⟨l, 0, none⟩)] W (LImg w F l r pre own W D (imageOf (Sat.get (imgN (nm pre)) D.files))) := by
  obtain ⟨S, hN, hSF, hgood, hbad⟩ := los_new h
  have hld := loadB_le h.okD (imgN (nm pre))
  have Hhas := Lib.hid (los_has h (Below.refl _ _) (sImg pre))
  obtain ⟨v, L, own1, hR⟩ := los_ref h
  have HL := Lib.hid (fun W2 (hb : Below W.heap.size W W2) => rload_calls (hR.below hb) (sImg pre))
  have hps0 : 1 ≤ pre.size ∧ pre.size ≤ 20 := let ⟨_, _, _, _, _, hJ, _⟩ := hN; hJ.psz
  obtain ⟨dv, ev, hcell, himg⟩ := hN.image rfl
  have hlS := hN.lt
  have Hcell := Lib.hid hcell
  have Himg := Lib.hid himg
  have Hgood := Lib.hid hgood
  have Hbad := Lib.hid hbad
  have HLOS := Lib.hid h
  have c1 := cell_of hcell (i := 1) rfl
  rw [nm_img] at Hhas HL
  have hps : 1 ≤ pre.size ∧ pre.size ≤ 20 := hps0
  have hpz1 := hps.1
  have hpz2 := hps.2
  have hs1 : (pre ++ (⟨#[45, 105, 109, 103]⟩ : ByteArray)).size = pre.size + 4 := by simp [ByteArray.size_append]; rfl
  clear hps hps0
  clear hN hSF hgood hbad hR himg hcell h
  cases hg : Sat.get (imgN (nm pre)) D.files with
  | none =>
    rw [hg] at Hhas
    go_enter Tryz.func254, Tryz.ntmps254
    go_wp2_with fail
    refine Hhas.out.mono ?_
    rintro e w2 ⟨rfl, hb⟩
    have HE := Lib.hid (show LImg w F l r pre own W D (imageOf none) (.returned (.int .i64 0)) w2 from ⟨rfl, fun _ => ⟨HLOS.out.next hb, HLOS.out.same hb⟩, (HLOS.out.next hb).ref⟩)
    clear hb
    go_wp2_with fail
    go_ret
    exact HE.out
  | some f =>
    rw [hg] at Hhas HL hld
    go_enter Tryz.func254, Tryz.ntmps254
    go_wp2_with fail
    refine Hhas.out.mono ?_
    rintro e w2 ⟨rfl, hb⟩
    have HB2 := Lib.hid hb
    have hcell2 := (hb.block l hlS.2).trans Hcell.out
    have c0 := cell_of hcell2 (i := 0) rfl
    have c1 := cell_of hcell2 (i := 1) rfl
    clear hb hcell2
    go_wp2_with fail
    refine ord_start (fun w' : World => w'.cell? ⟨l, 0, none⟩ = some (.pointer (some ⟨r, 0, none⟩)) ∧ w'.cell? ⟨l, 1, none⟩ = some (.string pre)) (n := 15) (by kernel_rfl) rfl (⟨c0, c1⟩) (fun hHeld => ?_)
    have HB3 := Lib.hid (show Below W.heap.size W w2.drew from HB2.out.trans ⟨rfl, rfl, rfl, Nat.le_refl _, fun _ _ => rfl⟩)
    generalize w2.drew = W1 at *
    refine Pl [0,1,2,3,4,5,6,7,8] ?_
    iterate 9 (refine Pc rfl ?_;simp only [Act.put, uA, uB, uC])
    refine Pn ?_
    refine ord_one 9 rfl (by kernel_rfl) (by rfl) (fun K hK => ?_)
    go_wp2_with fail
    refine (HL.out W1 HB3.out).mono ?_
    rintro e w4 ⟨v4, rfl, hv4, hn4, hb4⟩
    have HB4 := Lib.hid (show Below W.heap.size W w4 from HB3.out.trans (hb4.mono HB3.out.size))
    have hcell4 := (HB4.out.block l hlS.2).trans Hcell.out
    have Hh4 := Lib.hid (And.intro (cell_of hcell4 (i := 0) rfl) (cell_of hcell4 (i := 1) rfl))
    have HV4 := Lib.hid (And.intro hv4 (show ∀ k, v4.ownBlock = some k → W.heap.size ≤ k from fun k hk => Nat.le_trans HB3.out.size (hn4 k hk)))
    clear hv4 hn4 hb4 hcell4
    go_wp2_with fail
    refine hK.out _ _ (Hh4.out) (fun hHeld => ?_)
    clear hK
    try simp only [Act.put, List.setIfInBounds_toArray, List.set_cons_zero, List.set_cons_succ]
    refine Pl [10,11,12,13,14] ?_
    iterate 5 (refine Pc rfl ?_;simp only [Act.put, uA, uB, uC])
    refine Pn ?_
    refine wpAnyH_done (by kernel_rfl) ?_ _
    by_cases hE : loadE (some f) = 0
    · have hB : imageOf (some f) = if (Rd.num ⟨loadB (some f), false⟩).2.bytes.2.whole = false ∨ 1099511627776 < (Rd.num ⟨loadB (some f), false⟩).1 then (3, 0, []) else (0, (Rd.num ⟨loadB (some f), false⟩).1, (Rd.num ⟨loadB (some f), false⟩).2.bytes.1) := by
        unfold imageOf
        rw [if_neg (by omega), if_neg (by omega)]
      rw [hE]
      have HIm := Lib.hid hB
      clear hB hE
      obtain ⟨p4, c4, rfl, hcap4⟩ := own_slice HV4.out.1
      generalize imageOf (some f) = RI at *
      generalize loadB (some f) = bb at *
      generalize hnb : bb.length = nb at *
      have HR0 := Lib.hid (rdy_new (w := w4) HV4.out.1.has hcap4 (fun k hk => OwnR.lt HV4.out.1 hk) (by omega))
      have HBq := Lib.hid (HB4.out.trans ((below_one w4 (.cells #[.slice p4 nb c4, .bool false] 416)).mono HB4.out.size))
      have hl4 := Nat.lt_of_lt_of_le hlS.2 HB4.out.size
      have hs4 := HB4.out.size
      clear Hhas HL c0 c1
      go_wp2_with fail
      have HN1 := Lib.hid (rrnum_calls HR0.out)
      refine HN1.out.mono ?_
      rintro e w5 ⟨rfl, hr5, hc5⟩
      have HB5 := Lib.hid (show Below W.heap.size W w5 from HBq.out.trans (hc5.below HBq.out.size fun i hi e => by omega))
      have hcell5 := (HB5.out.block l hlS.2).trans Hcell.out
      have c2 := cell_of hcell5 (i := 2) rfl
      have f2 := frozen_of hcell5 2
      have HR5 := Lib.hid hr5
      clear hr5 hc5 HN1 HR0
      have hm1 := Rd.num_le ⟨bb, false⟩
      have Hbl := Lib.hid (show (Rd.num ⟨bb, false⟩).2.bytes.1.length ≤ 1073741824 from Nat.le_trans (Rd.bytes_len _) (Nat.le_trans (Rd.num_rest _) (by show bb.length ≤ _; omega)))
      have hl5 := HB5.out.size
      generalize (Rd.num ⟨bb, false⟩).2 = R5 at *
      generalize (Rd.num ⟨bb, false⟩).1 = m1 at *
      have HN2 := Lib.hid (rrbytes_calls (HR5.out.chg (Chg.setCell w5 ⟨l, 2, none⟩ (.int .i64 (m1 : Int))) (fun e => by have e2 : w4.heap.size = l := e; omega) (fun k hk e => by have := HV4.out.2 k hk; have e2 : k = l := e; omega)))
      have HcA := Lib.hid (set_block hcell5 2 (.int .i64 (m1 : Int)))
      have HCA := Lib.hid (((Chg.of_below HB5.out).mono fun _ _ e => e.elim : Chg (fun k => k = l) W w5).trans (Chg.setCell w5 ⟨l, 2, none⟩ (.int .i64 (m1 : Int))) fun _ _ e => e)
      have hsA : (w5.setCell ⟨l, 2, none⟩ (.int .i64 (m1 : Int))).heap.size = w5.heap.size := by simp [World.setCell]
      clear hcell5
      go_wp2_with fail
      refine HN2.out.mono ?_
      rintro e w6 ⟨v6, rfl, hv6, hn6, hr6, hc6⟩
      obtain ⟨p6, c6, rfl, hcap6⟩ := own_slice hv6
      rw [hsA] at hn6
      have hcell6 : w6.heap[l]? = some (LRC r pre (m1 : Int) dv ev false) := by
        have := (hc6.block l (by rw [hsA]; omega) (by omega)).trans HcA.out
        simpa using this
      have HC6 := Lib.hid (HCA.out.trans hc6 fun k hk e => by omega)
      have c2 := cell_of hcell6 (i := 2) rfl
      have c3 := cell_of hcell6 (i := 3) rfl
      have f3 := frozen_of hcell6 3
      have hs6 := hc6.size
      rw [hsA] at hs6
      have HW := Lib.hid (rrwhole_calls (hr6.chg (Chg.setCell w6 ⟨l, 3, none⟩ (.slice p6 R5.bytes.1.length c6)) (fun e => by have e2 : w4.heap.size = l := e; omega) (fun k hk e => by have := HV4.out.2 k hk; have e2 : k = l := e; omega)))
      have HCB := Lib.hid (HC6.out.trans (Chg.setCell w6 ⟨l, 3, none⟩ (.slice p6 R5.bytes.1.length c6)) fun _ _ e => e)
      have hcB : (w6.setCell ⟨l, 3, none⟩ (.slice p6 R5.bytes.1.length c6)).heap[l]? = some (LRC r pre (m1 : Int) (.slice p6 R5.bytes.1.length c6) ev false) := by simpa using set_block hcell6 3 (.slice p6 R5.bytes.1.length c6)
      have HvB := Lib.hid (show HasB (w6.setCell ⟨l, 3, none⟩ (.slice p6 R5.bytes.1.length c6)) (.slice p6 R5.bytes.1.length c6) R5.bytes.1 from HasB.chg hv6.has (Chg.setCell w6 ⟨l, 3, none⟩ (.slice p6 R5.bytes.1.length c6)) fun k hk e => by have := hn6 k hk; have e2 : k = l := e; omega)
      have HvL := Lib.hid (show ∀ k, (Value.slice p6 R5.bytes.1.length c6).ownBlock = some k → W.heap.size ≤ k ∧ k < (w6.setCell ⟨l, 3, none⟩ (.slice p6 R5.bytes.1.length c6)).heap.size from fun k hk => ⟨Nat.le_trans HB5.out.size (hn6 k hk), by have := OwnR.lt hv6 hk; simpa [World.setCell] using this⟩)
      have hi2 := cell_of hcB (i := 2) rfl
      have HcB := Lib.hid hcB
      clear hv6 hn6 hr6 hc6 hcell6 hcB HN2
      go_wp2_with fail
      generalize w6.setCell ⟨l, 3, none⟩ (.slice p6 R5.bytes.1.length c6) = w7 at *
      refine HW.out.mono ?_
      rintro e w8 ⟨rfl, rfl⟩
      have HBd := Lib.hid (fun hbd : R5.bytes.2.whole = false ∨ 1099511627776 < m1 => show LImg w F l r pre own W D RI (.returned (.int .i64 3)) w8 from by
        rw [HIm.out, if_pos hbd]
        exact ⟨rfl, fun h => absurd h (by decide), Hbad.out w8 (HCB.out.mono fun k _ e => .inl (e ▸ hlS.1))⟩)
      have HGd := Lib.hid (fun (h1 : ¬ (R5.bytes.2.whole = false ∨ 1099511627776 < m1)) => show LImg w F l r pre own W D RI (.returned (.int .i64 0)) w8 from by
        rw [HIm.out, if_neg h1]
        exact ⟨rfl, fun _ => Hgood.out w8 _ (Himg.out w8 m1 (.slice p6 R5.bytes.1.length c6) R5.bytes.1 HCB.out HcB.out HvB.out HvL.out (by omega) Hbl.out) (HCB.out.mono fun k _ e => .inl (e ▸ hlS.1)), Hbad.out w8 (HCB.out.mono fun k _ e => .inl (e ▸ hlS.1))⟩)
      clear Himg Hgood Hbad HLOS HW HIm
      cases hw : R5.bytes.2.whole with
      | false =>
        have HE := Lib.hid (HBd.out (.inl hw))
        go_wp2_with fail
        go_ret
        exact HE.out
      | true =>
        by_cases hm : 1099511627776 < m1
        · have HE := Lib.hid (HBd.out (.inr hm))
          go_wp2_with fail
          go_ret
          exact HE.out
        · have HE := Lib.hid (HGd.out (fun h => h.elim (fun e => by rw [hw] at e; cases e) hm))
          go_wp2_with fail
          go_ret
          exact HE.out
    · have hE3 : loadE (some f) = 3 := by
        rcases loadE_cases (some f) with h | h | h
        · exact absurd h hE
        · exact h
        · rw [loadE_some] at h
          split at h <;> omega
      have hB : imageOf (some f) = (3, 0, []) := by
        unfold imageOf
        rw [if_neg (by omega), if_pos hE, hE3]
      have HE := Lib.hid (show LImg w F l r pre own W D (imageOf (some f)) (.returned (.int .i64 3)) w4 from by
        rw [hB]
        exact ⟨rfl, fun h => absurd h (by decide), (HLOS.out.next HB4.out).ref⟩)
      rw [hE3]
      clear hE hE3 hB
      go_wp2_with fail
      go_ret
      exact HE.out
end
end Go.Proofs.YtogdfkilhpkloaaGreatDoor
