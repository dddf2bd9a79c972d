/- The contract of frame.Encode. The contracts of bytes.Equal, frame.Decode, frame.One. A region that draws its order, walked in an order that is named: what yields is taken first, one operation at a time; what is not wanted is passed by; what works on the world comes up alone. The contract of frame.Decode: the walk. The contract of frame.One; what a record that was laid reads as. The contracts of satrapylaw4.same and satrapylaw4.texts. keep.Save, keep.Load: the plain model, and the contracts of there. The contract of keep.Save. The contract of keep.Save: the walk. The contract of keep.Load. -/
import Derived.Deep.DrawnRows
import Derived.Deep.RegionHeld3
import Derived.Test.YtdlbamhabenhgaaUA
import Derived.Test.YtdlbamhabenhgaaUD
namespace Go.Proofs.Ytdlbamhabenhgaa
open Go.RowKit Go.Sat Go.Maps

/-- A record of bytes. -/
def frameN (l : Bs) : Bs := (headN l.length ++ l) ++ fourN (sumN (headN l.length ++ l))

theorem lens_take (ls : List Bs) {k : Nat} (hk : k < ls.length) : (ls.take (k + 1)).flatten.length = (ls.take k).flatten.length + ls[k].length := by
  rw [flat_take hk, List.length_append]

set_option maxRecDepth 100000 in
set_option maxHeartbeats 4000000 in
theorem enc_calls {w : World} {p : Option Addr} {n c : Nat} {ls : List Bs} (hx : RowsAt w (.slice p n c) ls) (hn : n ≤ 140737488355328) (hl : ls.flatten.length ≤ 1048576) :
    Calls Try.prog 56 #[.slice p n c] w (fun e w' => ∃ v, e = .returned (.tuple #[v, .int .i64 0]) ∧ HasB w' v (frameN ls.flatten) ∧ (∀ k, v.ownBlock = some k → w.heap.size ≤ k) ∧ Below w.heap.size w w') := by
  have hnl := RowsAt.len hx
  have Hx := Lib.hid hx
  have Hl := Lib.hid hl
  have Hnl := Lib.hid hnl
  clear hx hl hnl
  go_enter Try.func56, Try.ntmps56
  go_wp2_with fail
  go_loop [4, 10] (fun a i => ∃ k : Nat, k ≤ n ∧ i = .int .i64 k ∧ a = .int .i64 (((ls.take k).flatten.length : Nat) : Int) ∧ (ls.take k).flatten.length ≤ 1048576) (fun _ i => n - (intOf i).toNat)
  case atStart => exact ⟨0, Nat.zero_le _, rfl, by simp, by simp⟩
  case round =>
    obtain ⟨k, hk, rfl, rfl, hck⟩ := hrel
    by_cases hlt : k < n
    · have hltl : k < ls.length := by rw [← Hnl.out]; exact hlt
      have hct := lens_take ls hltl
      have hle := flat_take_le ls (k + 1)
      obtain ⟨-, b, o, v, rfl, hcell, hv⟩ := RowsAt.row Hx.out hltl
      obtain ⟨pv, cv, rfl⟩ := hv.slice
      have hc8 : (ls.take (k + 1)).flatten.length ≤ 1048576 := by have := Hl.out; omega
      have hsum : (ls.take k).flatten.length + ls[k].length ≤ 1048576 := by omega
      have Hct := Lib.hid hct
      have Hc8 := Lib.hid hc8
      clear hv hct hle hc8
      generalize ls[k].length = m at *
      generalize (ls.take k).flatten.length = C at *
      go_wp2_with fail
      go_round
      case rel => exact ⟨k + 1, by omega, by go_num, by rw [Hct.out]; go_num, Hc8.out⟩
      case measure => simp [intOf]; omega
    · have hls : ls.take k = ls := List.take_of_length_le (by have := Hnl.out; omega)
      rw [hls] at hck ⊢
      have hkn : k = n := by omega
      have Hhd := Lib.hid (fun w => head_calls (w := w) ls.flatten.length (by have := Hl.out; omega))
      have HFr := Lib.hid (show frameN ls.flatten = (headN ls.flatten.length ++ ls.flatten) ++ fourN (sumN (headN ls.flatten.length ++ ls.flatten)) from rfl)
      have Hjn := Lib.hid (fun (W : World) (hb : Below w.heap.size w W) => join_calls (rows_below Hx.out hb) (by rw [← Hnl.out]; omega) (by have := Hl.out; omega))
      generalize hX : ls.flatten = X at *
      have HX := Lib.hid hX
      clear hX
      generalize hC : X.length = C at *
      have hhl : (headN C).length = 8 := rfl
      generalize headN C = hd at *
      have HC := Lib.hid hC
      have Hhl := Lib.hid hhl
      clear hls hC hhl
      go_wp2_with fail
      refine (Hhd.out _).mono ?_
      rintro e w1 ⟨v1, rfl, hv1, hb1⟩
      have V1 := Lib.hid hv1
      have B1 := Lib.hid hb1
      have Hj := Lib.hid (Hjn.out _ hb1)
      clear hv1 hb1
      go_wp2_with fail
      refine Hj.out.mono ?_
      rintro e w2 ⟨v2, rfl, hv2, hb2⟩
      have hh1 := V1.out.below hb2
      obtain ⟨p1, c1, rfl⟩ := hh1.slice
      obtain ⟨p2, c2, rfl⟩ := hv2.slice
      have hj := join_calls (rows_two hh1 hv2 23 (0, 0) _ 2 rfl (Nat.le_refl _)) (by simp) (by simp [Hhl.out, HC.out]; omega)
      rw [show [hd, X].flatten = hd ++ X by simp] at hj
      have e1 := Hhl.out
      have e2 := HC.out
      rw [e1, e2] at hj
      rw [e1, e2]
      have Hj2 := Lib.hid hj
      have B2 := Lib.hid (below_to B1.out (below_to hb2 (below_al w2 (.cells #[.slice p1 8 c1, .slice p2 C c2] 23))))
      clear hj hh1 hv2 hb2 Hj e1 e2
      go_wp2_with fail
      refine Hj2.out.mono ?_
      rintro e w3 ⟨v3, rfl, hv3, hb3⟩
      have V3 := Lib.hid hv3
      have B3 := Lib.hid (below_to B2.out hb3)
      have hlb : (hd ++ X).length ≤ 1048584 := by rw [List.length_append, Hhl.out, HC.out]; omega
      have HLb := Lib.hid hlb
      generalize hY : hd ++ X = Y at *
      obtain ⟨p3, c3, rfl⟩ := hv3.slice
      clear hv3 hb3 hY hlb
      have hlY := HLb.out
      generalize hD : Y.length = yl at *
      have HD := Lib.hid hD
      clear hD
      go_wp2_with fail
      refine (sum_calls (rows_one V3.out 23 (0, 0) _ 1 rfl (Nat.le_refl _)) (by decide) (by simp [HD.out]; omega)).mono ?_
      rintro e w4 ⟨rfl, rfl⟩
      rw [show [Y].flatten = Y by simp, sumF_nat]
      have Hg := Lib.hid (fun w => four_calls (w := w) (sumN Y) (sumN_lt _))
      generalize sumN Y = q at *
      go_wp2_with fail
      refine (Hg.out _).mono ?_
      rintro e w5 ⟨v5, rfl, hv5, hb5⟩
      have V3' := V3.out.below (below_to (below_al _ _) hb5)
      obtain ⟨p5, c5, rfl⟩ := hv5.slice
      have hj := join_new (rows_two V3' hv5 23 (0, 0) _ 2 rfl (Nat.le_refl _)) (by simp) (by simp [fourN, HD.out]; omega)
      rw [show [Y, fourN q].flatten = Y ++ fourN q by simp, show (fourN q).length = 4 from rfl] at hj
      have B5 := Lib.hid (below_to B3.out (below_to (below_al _ _) hb5))
      rw [show (fourN q).length = 4 from rfl]
      have Hj3 := Lib.hid hj
      clear hj V3' hv5 hb5
      go_wp2_with fail
      refine Hj3.out.mono ?_
      rintro e w6 ⟨v6, rfl, hv6, hw6, hb6⟩
      have V6 := Lib.hid (And.intro hv6 (And.intro (fun k hk => Nat.le_trans B5.out.size (Nat.le_trans (below_al w5 _).size (hw6 k hk)) : ∀ k, v6.ownBlock = some k → w.heap.size ≤ k) (below_to B5.out (below_to (below_al _ _) hb6))))
      clear hv6 hw6 hb6
      go_wp2_with fail
      go_ret2
      exact ⟨v6, rfl, by rw [HX.out, HFr.out]; exact V6.out.1, V6.out.2.1, V6.out.2.2⟩
end Go.Proofs.Ytdlbamhabenhgaa

namespace Go.Proofs.Ytdlbamhabenhgaa
open Go.RowKit Go.Sat Go.Maps

theorem bytes_in {w : World} {p : Option Addr} {n c : Nat} {l : Bs} (h : HasB w (.slice p n c) l) : n = l.length ∧ Lib.BytesIn w p n (Lib.numsL l) := by
  have h1 := h.at
  obtain ⟨p', c', e⟩ := h.slice
  cases e
  refine ⟨rfl, fun hn => ?_⟩
  rcases h1 with e | ⟨b, o, c2, e, hc⟩
  · rw [e] at hn
    simp at hn
  · cases e
    refine ⟨b, o, rfl, fun i hi => ?_⟩
    rw [hc i l[i] (List.getElem?_eq_getElem hi)]
    simp [Lib.numsL, List.getD, List.getElem?_map, List.getElem?_eq_getElem hi]

theorem equal_calls {w : World} {x y : Value} {l m : Bs} (hx : HasB w x l) (hy : HasB w y m) :
    Calls Try.prog 94 #[x, y] w fun e w' => e = .returned (.bool (l == m)) ∧ w' = w := by
  obtain ⟨p1, c1, rfl⟩ := hx.slice
  obtain ⟨p2, c2, rfl⟩ := hy.slice
  have := Try.bytes_Equal_all p1 p2 l.length c1 m.length c2 (Lib.numsL l) (Lib.numsL m) w (Lib.numsL_length l) (Lib.numsL_length m) (bytes_in hx).2 (bytes_in hy).2
  rwa [Lib.bytesOf_numsL, Lib.bytesOf_numsL] at this

/-- The number that bytes begin with. -/
def fourAt (b : Bs) : Nat := ofFour (b.getD 0 0) (b.getD 1 0) (b.getD 2 0) (b.getD 3 0)

def decE (b : Bs) : Nat :=
  if b.length < 8 then 2 else if b.take 8 ≠ headN (fourAt b) then 4 else if 1048576 < fourAt b then 5 else if b.length < fourAt b + 12 then 2
  else if fourAt (b.drop (8 + fourAt b)) ≠ sumN (b.take (8 + fourAt b)) then 4 else 0
def decB (b : Bs) : Bs := if decE b = 0 then (b.drop 8).take (fourAt b) else []
def decL (b : Bs) : Nat := if decE b = 0 then fourAt b + 12 else 0

def Decoded (w : World) (b : Bs) (e : Ending) (w' : World) : Prop :=
  ∃ v, e = .returned (.tuple #[v, .int .i64 (decL b : Int), .int .i64 (decE b : Int)]) ∧ OwnB w' 5 v (decB b) ∧ (∀ k, v.ownBlock = some k → w.heap.size ≤ k) ∧ Below w.heap.size w w'

theorem four_at {w : World} {p : Option Addr} {n c : Nat} {b : Bs} (h : HasB w (.slice p n c) b) (h4 : 4 ≤ b.length) :
    Calls Try.prog 93 #[.slice p n c] w (fun e w' => e = .returned (.int .u32 (fourAt b : Int)) ∧ ∃ q, w' = w.drewN q) := by
  have h1 := h.at
  obtain ⟨p', c', e⟩ := h.slice
  cases e
  rcases h1 with e | ⟨g, o, c2, e, hc⟩
  · rw [e] at h4
    simp at h4
  · cases e
    have hb : ∀ i, i < b.length → b[i]? = some (b.getD i 0) := fun i hi => by simp [List.getD, List.getElem?_eq_getElem hi]
    exact fromFour_calls h4 (by simpa using hc 0 _ (hb 0 (by omega))) (hc 1 _ (hb 1 (by omega))) (hc 2 _ (hb 2 (by omega))) (hc 3 _ (hb 3 (by omega)))

theorem fourAt_lt (b : Bs) : fourAt b < 4294967296 := by
  have h0 := (b.getD 0 0).toNat_lt
  have h1 := (b.getD 1 0).toNat_lt
  have h2 := (b.getD 2 0).toNat_lt
  have h3 := (b.getD 3 0).toNat_lt
  unfold fourAt ofFour
  omega

theorem HasB.from {w : World} {g o n c : Nat} {l : Bs} (h : HasB w (.slice (some ⟨g, o, none⟩) n c) l) {k : Nat} (_hk : k ≤ l.length) (c' : Nat) : HasB w (.slice (some ⟨g, o + k, none⟩) (n - k) c') (l.drop k) := by
  have h1 := h.at
  obtain ⟨p', c2, e⟩ := h.slice
  cases e
  refine HasB.of_kit ⟨some ⟨g, o + k, none⟩, c', by rw [List.length_drop], fun e => (by cases e), fun a ha i x hx => ?_⟩
  cases ha
  have e1 : (⟨g, o + k, none⟩ : Addr).add i = ⟨g, o + k + i, none⟩ := by unfold Addr.add; split <;> simp_all
  rw [e1]
  rw [List.getElem?_drop] at hx
  rcases h1 with e | ⟨g2, o2, c3, e, hc⟩
  · rw [e] at hx
    simp at hx
  · cases e
    have := hc _ _ hx
    rw [Nat.add_assoc]
    exact this

/-- 'x[k:]'. -/
theorem run_from {P : Program} (w : World) {t e : TypeId} {i : TypeInfo} (ht : P.underlying t = some (.slice e)) (hi : P.info? e = some i) (hsz : i.size = 1) (g o len cap k : Nat) (h : k ≤ len) (_h2 : len ≤ cap) (h3 : k < cap) :
    (Instr.slice t (.slice (some ⟨g, o, none⟩) len cap) (some (.int .i64 (k : Int))) none none).run P w = .ok (.slice (some ⟨g, o + k, none⟩) (len - k) (cap - k)) w := by
  have h1 : (Instr.sliceBound (.int .i64 (k : Int)) len .sliceB).run P w = .ok k w := by
    rw [run_sliceBound _ _ _ _ _ (by omega) (by omega)]
    simp
  have e1 : (⟨g, o, none⟩ : Addr).add k = ⟨g, o + k, none⟩ := by unfold Addr.add; split <;> simp_all
  simp [Instr.slice, run_underlying ht, Instr.sliceBounds, h1, sizeOf, typeInfo, hi, Result.andThen, hsz, e1]
  omega
end Go.Proofs.Ytdlbamhabenhgaa

namespace Go.Sat
open Go

section
variable {P : Program} {l : List Oper} {Q : Exit → Act → World → Prop} {md : Region.Mode} {S : World → Prop} {fuel : Nat} {listed : Array Bool} {a : Act} {w : World}

theorem ord_get {i : Nat} {o : Oper} {r : List Oper} (h : l.drop i = o :: r) : l.toArray[i]? = some o := by
  have := List.getElem?_drop (xs := l) (i := i) (j := 0)
  rw [h] at this
  simpa using this.symm

/-- The beginning. -/
theorem ord_start (S : World → Prop) {id n : Nat} (hm : P.follows .mixedOrders = true) (hn : l.length = n) (hS : S w.drew) (h : S w.drew → wpAnyH P .any l.toArray Q S n (Array.replicate n false) a w.drew) : (Code.region id l.toArray true).wp P Q a w := by
  subst hn
  exact wp_region_held_drew hm hS (by simpa using h)

/-- Number i is not wanted. -/
theorem ord_skip (i : Nat) {o : Oper} {r : List Oper} (hd : l.drop i = o :: r) (hs : Region.noSelect l.toArray = true) (hf : Region.free md l.toArray listed i = true) (hr : (Region.ready md l.toArray listed).contains i = true)
    (hQ : ∀ c a w, Q (.panic c) (a.put o.dst undef) w → Q (.panic c) a w) (hw : Region.wanted o (yielded l.toArray a.tmps) = false) (hS : S w)
    (h : wpAnyH P md l.toArray Q S fuel (listed.setIfInBounds i true) (a.put o.dst undef) w) : wpAnyH P md l.toArray Q S (fuel + 1) listed a w :=
  wpAnyH_take (ord_get hd) hs hf hr hQ (.inr ⟨hw, rfl⟩) hS h

/-- Number i yields its value, in every world that meets S. -/
theorem ord_take (i : Nat) {o : Oper} {r : List Oper} {v : Value} (hd : l.drop i = o :: r) (hs : Region.noSelect l.toArray = true) (hf : Region.free md l.toArray listed i = true) (hr : (Region.ready md l.toArray listed).contains i = true)
    (hQ : ∀ c a w, Q (.panic c) (a.put o.dst v) w → Q (.panic c) a w) (hw : Region.wanted o (yielded l.toArray a.tmps) = true) (hS : S w) (hy : ∀ w, S w → (execOp a.eval o).run P w = .ok (.value v) w)
    (h : wpAnyH P md l.toArray Q S fuel (listed.setIfInBounds i true) (a.put o.dst v) w) : wpAnyH P md l.toArray Q S (fuel + 1) listed a w :=
  wpAnyH_take (ord_get hd) hs hf hr hQ (.inl ⟨hw, hy⟩) hS h

/-- Number i alone may come up. -/
theorem ord_one (i : Nat) {o : Oper} {r : List Oper} (hd : l.drop i = o :: r) (hr : Region.ready md l.toArray listed = [i]) (hw : Region.wanted o (yielded l.toArray a.tmps) = true)
    (h : ∀ K : Act → World → Prop, Shut (∀ a w, S w → (S w → wpAnyH P md l.toArray Q S fuel (listed.setIfInBounds i true) a w) → K a w) → Oper.wp P o a w K Q) : wpAnyH P md l.toArray Q S (fuel + 1) listed a w :=
  wpAnyH_ready hr (by simp) (AllReadyH.cons (ord_get hd) (fun K hK => by rw [if_pos hw]; exact h K hK) AllReadyH.nil)

/-- append, at an operation. -/
theorem wp_app {o : Oper} {K : Act → World → Prop} (s x : Operand) (t : TypeId)
    (ho : o.op = .call { callee := .builtin .append, args := #[s, x], argTypes := #[t, t] })
    (e : TypeId) (i : TypeInfo) (z : Value) (size bytes : Nat) (ht : P.underlying t = some (.slice e)) (hi : P.info? e = some i) (hz : i.zero = some z)
    (hsize : i.size = size) (hby : i.bytes = bytes) (hzs : z.cells.size = size) (hsz : 0 < size)
    (v : Value) (n : Nat) (xs : List Value) (hs : a.eval s = v) (hown : OwnR w e size v n xs)
    (xv : Value) (m : Nat) (news : List Value) (hxv : a.eval x = xv) (hx : Holds w size xv m news) (h1 : ∀ u ∈ news, u.oneCell' = true)
    (h63 : n + m ≤ maxLen) (hbytes : (n + m) * bytes ≤ 140737488355328)
    (h : ∀ v' w', OwnR w' e size v' (n + m) (xs ++ news) → w.grownBy w' v.ownBlock → (v'.ownBlock = v.ownBlock ∨ ∃ g, v'.ownBlock = some g ∧ w.heap.size ≤ g) → K (a.put o.dst v') w') : Oper.wp P o a w K Q := by
  obtain ⟨v', w', hr, h2, h3, h4⟩ := run_app (P := P) w t o.type e i z size bytes ht hi hz hsize hby hzs hsz v n xs hown xv m news hx h1 h63 hbytes
  unfold Oper.wp execOp
  simp only [ho, resolve, invoke, builtin, Sem.run_bind, Sem.run_pure, Result.andThen_ok, List.map_toArray, List.map_cons, List.map_nil, hs, hxv, hr]
  exact h v' w' h2 h3 h4
end
end Go.Sat

namespace Go.Proofs.Ytdlbamhabenhgaa
open Go.RowKit Go.Sat Go.Maps

theorem decoded_bad {w w' : World} {b : Bs} {k : Nat} (he : decE b = k) (hk : k ≠ 0) (hb : Below w.heap.size w w') : Decoded w b (.returned (.tuple #[.slice none 0 0, .int .i64 0, .int .i64 (k : Int)])) w' := by
  refine ⟨.slice none 0 0, ?_, ?_, fun j hj => (by cases hj), hb⟩
  · rw [he]
    unfold decL
    rw [he, if_neg hk]
    rfl
  · unfold decB
    rw [he, if_neg hk]
    exact OwnR.nil _ _ _

set_option maxRecDepth 100000 in
set_option maxHeartbeats 4000000 in
theorem dec_calls {w : World} {p : Option Addr} {n c : Nat} {b : Bs} (h : HasB w (.slice p n c) b) (hnc : n ≤ c) (hl : b.length ≤ 140737488355328) :
    Calls Try.prog 81 #[.slice p n c] w (Decoded w b) := by
  have hn : n = b.length := (bytes_in h).1
  subst hn
  have H := Lib.hid h
  obtain ⟨i0, hi, hz0, hz1, hz2⟩ := info_parts (show (Try.prog.info? 5).map (fun i => (i.zero, i.size, i.bytes)) = some (some (.int .u8 0), 1, 1) by kernel_rfl)
  by_cases h8 : b.length < 8
  · have Hfin := Lib.hid (decoded_bad (w := w) (w' := w) (b := b) (k := 2) (by unfold decE; rw [if_pos h8]) (by decide) (Below.refl _ _))
    generalize hN : b.length = N at *
    clear hN h
    go_enter Try.func81, Try.ntmps81
    go_wp2_with fail
    go_ret3
    exact Hfin.out
  · have H4 := Lib.hid (fun (W : World) (hb : Below w.heap.size w W) => four_at (h.below hb) (by omega))
    have H8 := Lib.hid (fun (W : World) (hb : Below w.heap.size w W) => HasB.cut (h.below hb) (k := 8) (by omega) c)
    have Hhd := Lib.hid (fun w => head_calls (w := w) (fourAt b) (fourAt_lt b))
    have hsl : ∀ W, (Instr.slice 23 (.slice p b.length c) none (some (.int .i64 8)) none).run Try.prog W = .ok (.slice p 8 c) W := fun W => run_upto W Try.underlying23 hi p _ c 8 (by omega)
    by_cases hh : b.take 8 = headN (fourAt b)
    · have Hh := Lib.hid (show (b.take 8 == headN (fourAt b)) = true by rw [hh, beq_self_eq_true])
      by_cases hm : 1048576 < fourAt b
      · have Hfin := Lib.hid (fun W => decoded_bad (w := w) (w' := W) (b := b) (k := 5) (by unfold decE; rw [if_neg h8, if_neg (by simpa using hh), if_pos hm]) (by decide))
        generalize hM : fourAt b = m at *
        generalize hN : b.length = N at *
        clear hN hM h hh
        go_enter Try.func81, Try.ntmps81
        go_wp2_with fail
        refine (H4.out _ (Below.refl _ _)).mono ?_
        rintro e w1 ⟨rfl, q, rfl⟩
        go_wp2_with fail
        refine ord_start (fun _ : World => True) (n := 7) (by kernel_rfl) rfl trivial (fun hHeld => ?_)
        refine ord_take 0 (v := ?v1x0) rfl (by kernel_rfl) (by kernel_rfl) (by kernel_rfl) (fun _ _ _ h => h) (by rfl) (by assumption) ?y1x0 ?_
        case y1x0 => (intro w hSw; (try dsimp only at hSw); go_simp; try with_reducible rfl)
        simp only [Act.put, List.setIfInBounds_toArray, List.set_cons_zero, List.set_cons_succ]
        refine ord_take 1 (v := ?v1x1) rfl (by kernel_rfl) (by kernel_rfl) (by kernel_rfl) (fun _ _ _ h => h) (by rfl) (by assumption) ?y1x1 ?_
        case y1x1 => (intro w hSw; (try dsimp only at hSw); go_simp; try with_reducible rfl)
        simp only [Act.put, List.setIfInBounds_toArray, List.set_cons_zero, List.set_cons_succ]
        refine ord_take 2 (v := ?v1x2) rfl (by kernel_rfl) (by kernel_rfl) (by kernel_rfl) (fun _ _ _ h => h) (by rfl) (by assumption) ?y1x2 ?_
        case y1x2 => (intro w hSw; (try dsimp only at hSw); go_simp; try with_reducible rfl)
        simp only [Act.put, List.setIfInBounds_toArray, List.set_cons_zero, List.set_cons_succ]
        refine ord_one 3 rfl (by kernel_rfl) (by rfl) (fun K hK => ?_)
        go_wp2_with fail
        refine (Hhd.out _).mono ?_
        rintro e w2 ⟨v2, rfl, hv2, hb2⟩
        have B2 := Lib.hid (below_to (show Below w.heap.size w (w.drewN q).drew from ⟨rfl, rfl, rfl, Nat.le_refl _, fun _ _ => rfl⟩) hb2)
        have heq := equal_calls (H8.out _ B2.out) hv2
        rw [Hh.out] at heq
        have Heq := Lib.hid heq
        clear hv2 hb2 heq
        go_wp2_with fail
        refine hK.out _ _ (trivial) (fun hHeld => ?_)
        clear hK
        try simp only [Act.put, List.setIfInBounds_toArray, List.set_cons_zero, List.set_cons_succ]
        refine ord_one 4 rfl (by kernel_rfl) (by rfl) (fun K hK => ?_)
        go_wp2_with fail
        refine Heq.out.mono ?_
        rintro e w3 ⟨rfl, rfl⟩
        go_wp2_with fail
        refine hK.out _ _ (trivial) (fun hHeld => ?_)
        clear hK
        try simp only [Act.put, List.setIfInBounds_toArray, List.set_cons_zero, List.set_cons_succ]
        refine ord_take 5 (v := ?v1x5) rfl (by kernel_rfl) (by kernel_rfl) (by kernel_rfl) (fun _ _ _ h => h) (by rfl) (by assumption) ?y1x5 ?_
        case y1x5 => (intro w hSw; (try dsimp only at hSw); go_simp; try with_reducible rfl)
        simp only [Act.put, List.setIfInBounds_toArray, List.set_cons_zero, List.set_cons_succ]
        refine ord_take 6 (v := ?v1x6) rfl (by kernel_rfl) (by kernel_rfl) (by kernel_rfl) (fun _ _ _ h => h) (by rfl) (by assumption) ?y1x6 ?_
        case y1x6 => (intro w hSw; (try dsimp only at hSw); go_simp; try with_reducible rfl)
        simp only [Act.put, List.setIfInBounds_toArray, List.set_cons_zero, List.set_cons_succ]
        refine wpAnyH_done (by kernel_rfl) ?_ _
        go_wp2_with fail
        go_ret3
        exact Hfin.out _ B2.out
      · by_cases hd : b.length < fourAt b + 12
        · have Hfin := Lib.hid (fun W => decoded_bad (w := w) (w' := W) (b := b) (k := 2) (by unfold decE; rw [if_neg h8, if_neg (by simpa using hh), if_neg hm, if_pos hd]) (by decide))
          generalize hM : fourAt b = m at *
          generalize hN : b.length = N at *
          clear hN hM h hh
          go_enter Try.func81, Try.ntmps81
          go_wp2_with fail
          refine (H4.out _ (Below.refl _ _)).mono ?_
          rintro e w1 ⟨rfl, q, rfl⟩
          go_wp2_with fail
          refine ord_start (fun _ : World => True) (n := 7) (by kernel_rfl) rfl trivial (fun hHeld => ?_)
          refine ord_take 0 (v := ?v2x0) rfl (by kernel_rfl) (by kernel_rfl) (by kernel_rfl) (fun _ _ _ h => h) (by rfl) (by assumption) ?y2x0 ?_
          case y2x0 => (intro w hSw; (try dsimp only at hSw); go_simp; try with_reducible rfl)
          simp only [Act.put, List.setIfInBounds_toArray, List.set_cons_zero, List.set_cons_succ]
          refine ord_take 1 (v := ?v2x1) rfl (by kernel_rfl) (by kernel_rfl) (by kernel_rfl) (fun _ _ _ h => h) (by rfl) (by assumption) ?y2x1 ?_
          case y2x1 => (intro w hSw; (try dsimp only at hSw); go_simp; try with_reducible rfl)
          simp only [Act.put, List.setIfInBounds_toArray, List.set_cons_zero, List.set_cons_succ]
          refine ord_take 2 (v := ?v2x2) rfl (by kernel_rfl) (by kernel_rfl) (by kernel_rfl) (fun _ _ _ h => h) (by rfl) (by assumption) ?y2x2 ?_
          case y2x2 => (intro w hSw; (try dsimp only at hSw); go_simp; try with_reducible rfl)
          simp only [Act.put, List.setIfInBounds_toArray, List.set_cons_zero, List.set_cons_succ]
          refine ord_one 3 rfl (by kernel_rfl) (by rfl) (fun K hK => ?_)
          go_wp2_with fail
          refine (Hhd.out _).mono ?_
          rintro e w2 ⟨v2, rfl, hv2, hb2⟩
          have B2 := Lib.hid (below_to (show Below w.heap.size w (w.drewN q).drew from ⟨rfl, rfl, rfl, Nat.le_refl _, fun _ _ => rfl⟩) hb2)
          have heq := equal_calls (H8.out _ B2.out) hv2
          rw [Hh.out] at heq
          have Heq := Lib.hid heq
          clear hv2 hb2 heq
          go_wp2_with fail
          refine hK.out _ _ (trivial) (fun hHeld => ?_)
          clear hK
          try simp only [Act.put, List.setIfInBounds_toArray, List.set_cons_zero, List.set_cons_succ]
          refine ord_one 4 rfl (by kernel_rfl) (by rfl) (fun K hK => ?_)
          go_wp2_with fail
          refine Heq.out.mono ?_
          rintro e w3 ⟨rfl, rfl⟩
          go_wp2_with fail
          refine hK.out _ _ (trivial) (fun hHeld => ?_)
          clear hK
          try simp only [Act.put, List.setIfInBounds_toArray, List.set_cons_zero, List.set_cons_succ]
          refine ord_take 5 (v := ?v2x5) rfl (by kernel_rfl) (by kernel_rfl) (by kernel_rfl) (fun _ _ _ h => h) (by rfl) (by assumption) ?y2x5 ?_
          case y2x5 => (intro w hSw; (try dsimp only at hSw); go_simp; try with_reducible rfl)
          simp only [Act.put, List.setIfInBounds_toArray, List.set_cons_zero, List.set_cons_succ]
          refine ord_take 6 (v := ?v2x6) rfl (by kernel_rfl) (by kernel_rfl) (by kernel_rfl) (fun _ _ _ h => h) (by rfl) (by assumption) ?y2x6 ?_
          case y2x6 => (intro w hSw; (try dsimp only at hSw); go_simp; try with_reducible rfl)
          simp only [Act.put, List.setIfInBounds_toArray, List.set_cons_zero, List.set_cons_succ]
          refine wpAnyH_done (by kernel_rfl) ?_ _
          go_wp2_with fail
          go_ret3
          exact Hfin.out _ B2.out
        · have hpos : 0 < b.length := by omega
          rcases h.at with e | ⟨g, o, c2, e, -⟩
          · rw [e] at hpos
            simp at hpos
          cases e
          have Hf := Lib.hid (fun (W : World) (hb : Below w.heap.size w W) => four_at (HasB.from (h.below hb) (k := 8 + fourAt b) (by omega) (c - (8 + fourAt b))) (by rw [List.length_drop]; omega))
          have Hs := Lib.hid (fun (W : World) (hb : Below w.heap.size w W) => HasB.cut (h.below hb) (k := 8 + fourAt b) (by omega) c)
          have HE : decE b = if fourAt (b.drop (8 + fourAt b)) ≠ sumN (b.take (8 + fourAt b)) then 4 else 0 := by unfold decE; rw [if_neg h8, if_neg (by simpa using hh), if_neg hm, if_neg hd]
          have HEl := Lib.hid (show decE b = 0 → decL b = fourAt b + 12 ∧ decB b = (b.take (8 + fourAt b)).drop 8 from fun e => ⟨by unfold decL; rw [if_pos e], by unfold decB; rw [if_pos e, List.take_drop]⟩)
          have hlen : (b.take (8 + fourAt b)).length = 8 + fourAt b := by rw [List.length_take]; omega
          generalize fourAt b = m at *
          generalize hN : b.length = N at *
          generalize b.take (8 + m) = Y at *
          generalize fourAt (b.drop (8 + m)) = q4 at *
          have HEE := Lib.hid HE
          have Hlen := Lib.hid hlen
          clear hN h hh hlen HE
          go_enter Try.func81, Try.ntmps81
          go_wp2_with fail
          refine (H4.out _ (Below.refl _ _)).mono ?_
          rintro e w1 ⟨rfl, q, rfl⟩
          go_wp2_with fail
          refine ord_start (fun _ : World => True) (n := 7) (by kernel_rfl) rfl trivial (fun hHeld => ?_)
          refine ord_take 0 (v := ?v5x0) rfl (by kernel_rfl) (by kernel_rfl) (by kernel_rfl) (fun _ _ _ h => h) (by rfl) (by assumption) ?y5x0 ?_
          case y5x0 => (intro w hSw; (try dsimp only at hSw); go_simp; try with_reducible rfl)
          simp only [Act.put, List.setIfInBounds_toArray, List.set_cons_zero, List.set_cons_succ]
          refine ord_take 1 (v := ?v5x1) rfl (by kernel_rfl) (by kernel_rfl) (by kernel_rfl) (fun _ _ _ h => h) (by rfl) (by assumption) ?y5x1 ?_
          case y5x1 => (intro w hSw; (try dsimp only at hSw); go_simp; try with_reducible rfl)
          simp only [Act.put, List.setIfInBounds_toArray, List.set_cons_zero, List.set_cons_succ]
          refine ord_take 2 (v := ?v5x2) rfl (by kernel_rfl) (by kernel_rfl) (by kernel_rfl) (fun _ _ _ h => h) (by rfl) (by assumption) ?y5x2 ?_
          case y5x2 => (intro w hSw; (try dsimp only at hSw); go_simp; try with_reducible rfl)
          simp only [Act.put, List.setIfInBounds_toArray, List.set_cons_zero, List.set_cons_succ]
          refine ord_one 3 rfl (by kernel_rfl) (by rfl) (fun K hK => ?_)
          go_wp2_with fail
          refine (Hhd.out _).mono ?_
          rintro e w2 ⟨v2, rfl, hv2, hb2⟩
          have B2 := Lib.hid (below_to (show Below w.heap.size w (w.drewN q).drew from ⟨rfl, rfl, rfl, Nat.le_refl _, fun _ _ => rfl⟩) hb2)
          have heq := equal_calls (H8.out _ B2.out) hv2
          rw [Hh.out] at heq
          have Heq := Lib.hid heq
          clear hv2 hb2 heq
          go_wp2_with fail
          refine hK.out _ _ (trivial) (fun hHeld => ?_)
          clear hK
          try simp only [Act.put, List.setIfInBounds_toArray, List.set_cons_zero, List.set_cons_succ]
          refine ord_one 4 rfl (by kernel_rfl) (by rfl) (fun K hK => ?_)
          go_wp2_with fail
          refine Heq.out.mono ?_
          rintro e w3 ⟨rfl, rfl⟩
          go_wp2_with fail
          refine hK.out _ _ (trivial) (fun hHeld => ?_)
          clear hK
          try simp only [Act.put, List.setIfInBounds_toArray, List.set_cons_zero, List.set_cons_succ]
          refine ord_take 5 (v := ?v5x5) rfl (by kernel_rfl) (by kernel_rfl) (by kernel_rfl) (fun _ _ _ h => h) (by rfl) (by assumption) ?y5x5 ?_
          case y5x5 => (intro w hSw; (try dsimp only at hSw); go_simp; try with_reducible rfl)
          simp only [Act.put, List.setIfInBounds_toArray, List.set_cons_zero, List.set_cons_succ]
          refine ord_take 6 (v := ?v5x6) rfl (by kernel_rfl) (by kernel_rfl) (by kernel_rfl) (fun _ _ _ h => h) (by rfl) (by assumption) ?y5x6 ?_
          case y5x6 => (intro w hSw; (try dsimp only at hSw); go_simp; try with_reducible rfl)
          simp only [Act.put, List.setIfInBounds_toArray, List.set_cons_zero, List.set_cons_succ]
          refine wpAnyH_done (by kernel_rfl) ?_ _
          go_wp2_with fail
          refine (Hf.out _ B2.out).mono ?_
          rintro e w4 ⟨rfl, q5, rfl⟩
          have B4 := Lib.hid (below_to B2.out (show Below w3.heap.size w3 (w3.drewN q5) from ⟨rfl, rfl, rfl, Nat.le_refl _, fun _ _ => rfl⟩))
          have hys := Hs.out _ B4.out
          obtain ⟨p6, c6, e6⟩ := hys.slice
          have hsm := sum_calls (rows_one hys 23 (0, 0) _ 1 rfl (Nat.le_refl _)) (by decide) (by simp [Hlen.out]; omega)
          rw [show [Y].flatten = Y by simp, sumF_nat] at hsm
          have Hsm := Lib.hid hsm
          have B5 := Lib.hid (below_to B4.out (below_al (w3.drewN q5) (.cells #[.slice (some ⟨g, o, none⟩) (8 + m) c] 23)))
          clear hys e6 hsm
          by_cases heq : q4 = sumN Y
          · have he0 : decE b = 0 := by rw [HEE.out, if_neg (by simpa using heq)]
            have hne : ((q4 : Int) != (sumN Y : Int)) = false := by simp [heq]
            obtain ⟨hL, hB⟩ := HEl.out he0
            have hcl := clone_calls (HasB.from (Hs.out _ B5.out) (k := 8) (by rw [Hlen.out]; omega) (c - 8)) (by rw [List.length_drop, Hlen.out]; omega)
            have Hcl := Lib.hid hcl
            have Hfin := Lib.hid (And.intro he0 (And.intro hL hB))
            generalize sumN Y = q7 at *
            clear hcl he0 hL hB heq
            go_wp2_with fail
            refine Hsm.out.mono ?_
            rintro e w6 ⟨rfl, rfl⟩
            rw [show 8 + m - 8 = m by omega] at Hcl
            go_wp2_with fail
            refine Hcl.out.mono ?_
            rintro e w7 ⟨v7, rfl, hv7, hn7, hb7⟩
            have Hd := Lib.hid (show Decoded w b (.returned (.tuple #[v7, .int .i64 (8 + (m : Int) + 4), .int .i64 0])) w7 from by
              obtain ⟨h0, hL, hB⟩ := Hfin.out
              refine ⟨v7, ?_, by rw [hB]; exact hv7, fun k hk => Nat.le_trans B5.out.size (hn7 k hk), below_to B5.out hb7⟩
              rw [hL, h0, show ((m + 12 : Nat) : Int) = 8 + (m : Int) + 4 by omega]
              rfl)
            clear hv7 hn7 hb7
            go_wp2_with fail
            go_ret3
            exact Hd.out
          · have hfin := fun W => decoded_bad (w := w) (w' := W) (b := b) (k := 4) (by rw [HEE.out, if_pos heq]) (by decide)
            have Hfin := Lib.hid hfin
            have hne : ((q4 : Int) != (sumN Y : Int)) = true := by
              simp only [bne_iff_ne, ne_eq, Int.natCast_inj]
              exact heq
            generalize sumN Y = q7 at *
            clear hfin heq
            go_wp2_with fail
            refine Hsm.out.mono ?_
            rintro e w6 ⟨rfl, rfl⟩
            go_wp2_with fail
            go_ret3
            exact Hfin.out _ B5.out
    · have Hh := Lib.hid (show (b.take 8 == headN (fourAt b)) = false by rw [beq_eq_false_iff_ne]; exact hh)
      have Hfin := Lib.hid (fun W => decoded_bad (w := w) (w' := W) (b := b) (k := 4) (by unfold decE; rw [if_neg h8, if_pos hh]) (by decide))
      generalize hM : fourAt b = m at *
      generalize hN : b.length = N at *
      clear hN hM h hh
      go_enter Try.func81, Try.ntmps81
      go_wp2_with fail
      refine (H4.out _ (Below.refl _ _)).mono ?_
      rintro e w1 ⟨rfl, q, rfl⟩
      go_wp2_with fail
      refine ord_start (fun _ : World => True) (n := 7) (by kernel_rfl) rfl trivial (fun hHeld => ?_)
      refine ord_take 0 (v := ?v4x0) rfl (by kernel_rfl) (by kernel_rfl) (by kernel_rfl) (fun _ _ _ h => h) (by rfl) (by assumption) ?y4x0 ?_
      case y4x0 => (intro w hSw; (try dsimp only at hSw); go_simp; try with_reducible rfl)
      simp only [Act.put, List.setIfInBounds_toArray, List.set_cons_zero, List.set_cons_succ]
      refine ord_take 1 (v := ?v4x1) rfl (by kernel_rfl) (by kernel_rfl) (by kernel_rfl) (fun _ _ _ h => h) (by rfl) (by assumption) ?y4x1 ?_
      case y4x1 => (intro w hSw; (try dsimp only at hSw); go_simp; try with_reducible rfl)
      simp only [Act.put, List.setIfInBounds_toArray, List.set_cons_zero, List.set_cons_succ]
      refine ord_take 2 (v := ?v4x2) rfl (by kernel_rfl) (by kernel_rfl) (by kernel_rfl) (fun _ _ _ h => h) (by rfl) (by assumption) ?y4x2 ?_
      case y4x2 => (intro w hSw; (try dsimp only at hSw); go_simp; try with_reducible rfl)
      simp only [Act.put, List.setIfInBounds_toArray, List.set_cons_zero, List.set_cons_succ]
      refine ord_one 3 rfl (by kernel_rfl) (by rfl) (fun K hK => ?_)
      go_wp2_with fail
      refine (Hhd.out _).mono ?_
      rintro e w2 ⟨v2, rfl, hv2, hb2⟩
      have B2 := Lib.hid (below_to (show Below w.heap.size w (w.drewN q).drew from ⟨rfl, rfl, rfl, Nat.le_refl _, fun _ _ => rfl⟩) hb2)
      have heq := equal_calls (H8.out _ B2.out) hv2
      rw [Hh.out] at heq
      have Heq := Lib.hid heq
      clear hv2 hb2 heq
      go_wp2_with fail
      refine hK.out _ _ (trivial) (fun hHeld => ?_)
      clear hK
      try simp only [Act.put, List.setIfInBounds_toArray, List.set_cons_zero, List.set_cons_succ]
      refine ord_one 4 rfl (by kernel_rfl) (by rfl) (fun K hK => ?_)
      go_wp2_with fail
      refine Heq.out.mono ?_
      rintro e w3 ⟨rfl, rfl⟩
      go_wp2_with fail
      refine hK.out _ _ (trivial) (fun hHeld => ?_)
      clear hK
      try simp only [Act.put, List.setIfInBounds_toArray, List.set_cons_zero, List.set_cons_succ]
      refine ord_take 5 (v := ?v4x5) rfl (by kernel_rfl) (by kernel_rfl) (by kernel_rfl) (fun _ _ _ h => h) (by rfl) (by assumption) ?y4x5 ?_
      case y4x5 => (intro w hSw; (try dsimp only at hSw); go_simp; try with_reducible rfl)
      simp only [Act.put, List.setIfInBounds_toArray, List.set_cons_zero, List.set_cons_succ]
      refine ord_take 6 (v := ?v4x6) rfl (by kernel_rfl) (by kernel_rfl) (by kernel_rfl) (fun _ _ _ h => h) (by rfl) (by assumption) ?y4x6 ?_
      case y4x6 => (intro w hSw; (try dsimp only at hSw); go_simp; try with_reducible rfl)
      simp only [Act.put, List.setIfInBounds_toArray, List.set_cons_zero, List.set_cons_succ]
      refine wpAnyH_done (by kernel_rfl) ?_ _
      go_wp2_with fail
      go_ret3
      exact Hfin.out _ B2.out
end Go.Proofs.Ytdlbamhabenhgaa

namespace Go.Proofs.Ytdlbamhabenhgaa
open Go.RowKit Go.Sat Go.Maps

theorem fourAt_four (n : Nat) (h : n < 4294967296) (r : Bs) : fourAt (fourN n ++ r) = n := by
  show ofFour (UInt8.ofNat n) (UInt8.ofNat (n / 256)) (UInt8.ofNat (n / 65536)) (UInt8.ofNat (n / 16777216)) = n
  exact of_four n h

theorem head_len (n : Nat) : (headN n).length = 8 := rfl

theorem frame_len (l : Bs) : (frameN l).length = l.length + 12 := by
  unfold frameN
  rw [List.length_append, List.length_append, head_len]
  simp only [fourN, List.length_cons, List.length_nil]
  omega

theorem frame_at (l : Bs) (h : l.length ≤ 1048576) : fourAt (frameN l) = l.length := by
  have : frameN l = fourN l.length ++ (fourN (sumN (fourN l.length)) ++ l ++ fourN (sumN (headN l.length ++ l))) := by
    simp [frameN, headN]
  rw [this]
  exact fourAt_four _ (by omega) _

theorem frame_dec (l : Bs) (h : l.length ≤ 1048576) : decE (frameN l) = 0 := by
  unfold decE
  have e1 := frame_at l h
  have e2 := frame_len l
  have e3 : (frameN l).take 8 = headN l.length := by
    unfold frameN
    rw [List.append_assoc, List.take_append_of_le_length (by rw [head_len]; omega), List.take_of_length_le (by rw [head_len]; omega)]
  have e4 : (frameN l).take (8 + l.length) = headN l.length ++ l := by
    unfold frameN
    rw [List.take_append_of_le_length (by rw [List.length_append, head_len]; omega), List.take_of_length_le (by rw [List.length_append, head_len]; omega)]
  have e5 : (frameN l).drop (8 + l.length) = fourN (sumN (headN l.length ++ l)) ++ [] := by
    unfold frameN
    rw [List.drop_append_of_le_length (by rw [List.length_append, head_len]; omega), List.drop_of_length_le (by rw [List.length_append, head_len]; omega)]
    simp
  rw [e1, e2, e3, e4, e5, fourAt_four _ (sumN_lt _)]
  rw [if_neg (by omega), if_neg (by simp), if_neg (by omega), if_neg (by omega), if_neg (by simp)]

theorem frame_decB (l : Bs) (h : l.length ≤ 1048576) : decB (frameN l) = l := by
  unfold decB
  rw [if_pos (frame_dec l h), frame_at l h]
  unfold frameN
  rw [List.append_assoc, List.drop_append_of_le_length (by rw [head_len]; omega), List.drop_of_length_le (by rw [head_len]; omega)]
  simp

theorem frame_decL (l : Bs) (h : l.length ≤ 1048576) : decL (frameN l) = (frameN l).length := by
  unfold decL
  rw [if_pos (frame_dec l h), frame_at l h, frame_len]

def oneE (b : Bs) : Nat := if decE b = 0 then (if decL b = b.length then 0 else 3) else decE b
def oneB (b : Bs) : Bs := if oneE b = 0 then decB b else []

theorem frame_oneE (l : Bs) (h : l.length ≤ 1048576) : oneE (frameN l) = 0 := by
  unfold oneE
  rw [if_pos (frame_dec l h), if_pos (frame_decL l h)]
theorem frame_oneB (l : Bs) (h : l.length ≤ 1048576) : oneB (frameN l) = l := by
  unfold oneB
  rw [if_pos (frame_oneE l h), frame_decB l h]

def OneOf (w : World) (b : Bs) (e : Ending) (w' : World) : Prop :=
  ∃ v, e = .returned (.tuple #[v, .int .i64 (oneE b : Int)]) ∧ OwnB w' 5 v (oneB b) ∧ (∀ k, v.ownBlock = some k → w.heap.size ≤ k) ∧ Below w.heap.size w w'

theorem one_nil {w w' : World} {b : Bs} {k : Nat} (he : oneE b = k) (hk : k ≠ 0) (hb : Below w.heap.size w w') : OneOf w b (.returned (.tuple #[.slice none 0 0, .int .i64 (k : Int)])) w' := by
  refine ⟨.slice none 0 0, by rw [he], ?_, fun j hj => (by cases hj), hb⟩
  unfold oneB
  rw [he, if_neg hk]
  exact OwnR.nil _ _ _

set_option maxHeartbeats 1000000 in
theorem one_calls {w : World} {p : Option Addr} {n c : Nat} {b : Bs} (h : HasB w (.slice p n c) b) (hnc : n ≤ c) (hl : b.length ≤ 140737488355328) :
    Calls Try.prog 58 #[.slice p n c] w (OneOf w b) := by
  have hn : n = b.length := (bytes_in h).1
  subst hn
  have Hd := Lib.hid (dec_calls h hnc hl)
  have hdl : decL b ≤ 4294967307 := by
    have := fourAt_lt b
    unfold decL
    split <;> omega
  clear h
  go_enter Try.func58, Try.ntmps58
  go_wp2_with fail
  refine Hd.out.mono ?_
  rintro e w1 ⟨v, rfl, hv, hn1, hb1⟩
  by_cases he : decE b = 0
  · by_cases hL : decL b = b.length
    · have hE : oneE b = 0 := by unfold oneE; rw [if_pos he, if_pos hL]
      have Hfin := Lib.hid (show OneOf w b (.returned (.tuple #[v, .int .i64 0])) w1 from ⟨v, by rw [hE]; rfl, by unfold oneB; rw [if_pos hE]; exact hv, hn1, hb1⟩)
      rw [he, hL]
      generalize b.length = N at *
      clear hv hn1 hb1 he hL hE hdl
      go_wp2_with fail
      go_ret2
      exact Hfin.out
    · have Hfin := Lib.hid (one_nil (w := w) (w' := w1) (b := b) (k := 3) (by unfold oneE; rw [if_pos he, if_neg hL]) (by decide) hb1)
      have hne : ((decL b : Int) != (b.length : Int)) = true := by
        simp only [bne_iff_ne, ne_eq, Int.natCast_inj]
        exact hL
      rw [he]
      generalize decL b = M at *
      generalize b.length = N at *
      clear hv hn1 hb1 he hL
      go_wp2_with fail
      go_ret2
      exact Hfin.out
  · have hE : oneE b = decE b := by unfold oneE; rw [if_neg he]
    have Hfin := Lib.hid (show OneOf w b (.returned (.tuple #[v, .int .i64 (decE b : Int)])) w1 from ⟨v, by rw [hE], by unfold oneB; rw [hE, if_neg he]; unfold decB at hv; rw [if_neg he] at hv; exact hv, hn1, hb1⟩)
    have hne : ((decE b : Int) == 0) = false := by simp; omega
    generalize decE b = E at *
    generalize decL b = M at *
    generalize b.length = N at *
    clear hv hn1 hb1 hE
    go_wp2_with fail
    go_ret2
    exact Hfin.out
end Go.Proofs.Ytdlbamhabenhgaa

namespace Go.Proofs.Ytdlbamhabenhgaa
open Go.RowKit Go.Sat Go.Maps

set_option maxHeartbeats 1000000 in
theorem same4_calls {w : World} {x y : Value} {l m : Bs} (hx : HasB w x l) (hy : HasB w y m) (hl : l.length ≤ 140737488355328) (hm : m.length ≤ 140737488355328) :
    Calls Try.prog 27 #[x, y] w (SamePost w (l == m)) := by
  by_cases hlen : l.length = m.length
  · have ax := hx.at
    have ay := hy.at
    obtain ⟨px, cx, rfl⟩ := hx.slice
    obtain ⟨py, cy, rfl⟩ := hy.slice
    have hbne : ((l.length : Int) != (m.length : Int)) = false := by simp [hlen]
    have Hlen := Lib.hid hlen
    have Hax := Lib.hid ax
    have Hay := Lib.hid ay
    clear hx hy hlen ax ay
    generalize hlN : l.length = N at *
    generalize hmM : m.length = M at *
    have HlN := Lib.hid hlN
    have HmM := Lib.hid hmM
    clear hlN hmM
    go_enter Try.func27, Try.ntmps27
    go_wp2
    go_loopw [5] (fun i wr => ∃ k q : Nat, k ≤ N ∧ i = .int .i64 k ∧ l.take k = m.take k ∧ wr = w.drewN q) (fun i _ => N - (intOf i).toNat)
    case atStart => exact ⟨0, 0, Nat.zero_le _, rfl, rfl, rfl⟩
    case round =>
      obtain ⟨k, q, hk, rfl, htake, rfl⟩ := hrel
      have Htake := Lib.hid htake
      clear htake
      by_cases hlt : k < N
      · have hltM : k < M := by have := Hlen.out; omega
        have hkl : k < l.length := by rw [HlN.out]; exact hlt
        have hkm : k < m.length := by rw [HmM.out]; exact hltM
        have h1 : l[k]? = some l[k] := List.getElem?_eq_getElem hkl
        have h2 : m[k]? = some m[k] := List.getElem?_eq_getElem hkm
        rcases Hax.out with h | ⟨b, o, c, e1, hcx⟩
        · rw [h] at hkl
          simp at hkl
        rcases Hay.out with h | ⟨b2, o2, c2, e2, hcy⟩
        · rw [h] at hkm
          simp at hkm
        cases e1
        cases e2
        have hc1 := hcx k _ h1
        have hc2 := hcy k _ h2
        have Hnext := Lib.hid (fun e => take_eq_succ h1 h2 Htake.out e)
        have Hno := Lib.hid (fun e => ne_at h1 h2 e)
        clear hcx hcy h1 h2
        generalize l[k] = a at *
        generalize m[k] = b at *
        by_cases hab : a = b
        · have hd : ((a.toNat : Int) != (b.toNat : Int)) = false := by simp [hab]
          have Hab := Lib.hid hab
          clear hab hkl hkm
          go_wp2_with fail
          go_quiet (fail)
          go_wp2
          go_roundw
          case rel => exact ⟨k + 1, q + nq, by omega, by go_num, Hnext.out Hab.out, by first | rfl | rw [World.drewN_drewN]⟩
          case measure => simp [intOf]; omega
        · have hd : ((a.toNat : Int) != (b.toNat : Int)) = true := by
            simp only [bne_iff_ne, ne_eq, Int.natCast_inj]
            exact fun e => hab (UInt8.toNat.inj e)
          have Hab := Lib.hid hab
          clear hab hkl hkm
          go_wp2_with fail
          go_quiet (fail)
          go_wp2
          go_ret
          exact ⟨by rw [Hno.out Hab.out]; rfl, q + nq, by first | rfl | rw [World.drewN_drewN]⟩
      · go_wp2
        go_ret
        refine ⟨?_, q, rfl⟩
        have h1 := Htake.out
        rw [List.take_of_length_le (by rw [HlN.out]; omega), List.take_of_length_le (by rw [HmM.out]; have := Hlen.out; omega)] at h1
        simp [h1]
  · obtain ⟨px, cx, rfl⟩ := hx.slice
    obtain ⟨py, cy, rfl⟩ := hy.slice
    have hbne : ((l.length : Int) != (m.length : Int)) = true := by simp; omega
    have hres : (l == m) = false := by rw [beq_eq_false_iff_ne]; rintro rfl; exact hlen rfl
    rw [hres]
    clear hx hy hlen hres
    go_enter Try.func27, Try.ntmps27
    go_wp2
    go_ret
    exact ⟨rfl, 0, rfl⟩

set_option maxHeartbeats 1000000 in
theorem texts4_calls {w : World} {x y : Value} {l m : List Bs} (hx : HasN w x l) (hy : HasN w y m) (hl : l.length ≤ 140737488355328) (hm : m.length ≤ 140737488355328) :
    Calls Try.prog 39 #[x, y] w (SamePost w (l == m)) := by
  by_cases hlen : l.length = m.length
  · have ax := hx.at
    have ay := hy.at
    obtain ⟨px, cx, rfl⟩ := hx.slice
    obtain ⟨py, cy, rfl⟩ := hy.slice
    have hbne : ((l.length : Int) != (m.length : Int)) = false := by simp [hlen]
    have Hlen := Lib.hid hlen
    have Hax := Lib.hid ax
    have Hay := Lib.hid ay
    clear hx hy hlen ax ay
    generalize hlN : l.length = N at *
    generalize hmM : m.length = M at *
    have HlN := Lib.hid hlN
    have HmM := Lib.hid hmM
    clear hlN hmM
    go_enter Try.func39, Try.ntmps39
    go_wp2
    go_loopw [5] (fun i wr => ∃ k q : Nat, k ≤ N ∧ i = .int .i64 k ∧ l.take k = m.take k ∧ wr = w.drewN q) (fun i _ => N - (intOf i).toNat)
    case atStart => exact ⟨0, 0, Nat.zero_le _, rfl, rfl, rfl⟩
    case round =>
      obtain ⟨k, q, hk, rfl, htake, rfl⟩ := hrel
      have Htake := Lib.hid htake
      clear htake
      by_cases hlt : k < N
      · have hltM : k < M := by have := Hlen.out; omega
        have hkl : k < l.length := by rw [HlN.out]; exact hlt
        have hkm : k < m.length := by rw [HmM.out]; exact hltM
        have h1 : l[k]? = some l[k] := List.getElem?_eq_getElem hkl
        have h2 : m[k]? = some m[k] := List.getElem?_eq_getElem hkm
        rcases Hax.out with h | ⟨b, o, c, e1, hcx⟩
        · rw [h] at hkl
          simp at hkl
        rcases Hay.out with h | ⟨b2, o2, c2, e2, hcy⟩
        · rw [h] at hkm
          simp at hkm
        cases e1
        cases e2
        have hc1 := hcx k _ h1
        have hc2 := hcy k _ h2
        have Hnext := Lib.hid (fun e => take_eq_succ' h1 h2 Htake.out e)
        have Hno := Lib.hid (fun e => ne_at' h1 h2 e)
        clear hcx hcy h1 h2
        generalize l[k] = a at *
        generalize m[k] = b at *
        by_cases hab : a = b
        · subst hab
          clear hkl hkm
          go_wp2_with fail
          go_quiet (fail)
          go_wp2
          go_roundw
          case rel => exact ⟨k + 1, q + nq, by omega, by go_num, Hnext.out trivial, by first | rfl | rw [World.drewN_drewN]⟩
          case measure => simp [intOf]; omega
        · have hd : ((a == b) = false) := by simpa using hab
          have Hab := Lib.hid hab
          clear hab hkl hkm
          go_wp2_with fail
          go_quiet (fail)
          go_wp2
          go_ret
          exact ⟨by rw [Hno.out Hab.out]; rfl, q + nq, by first | rfl | rw [World.drewN_drewN]⟩
      · go_wp2
        go_ret
        refine ⟨?_, q, rfl⟩
        have h1 := Htake.out
        rw [List.take_of_length_le (by rw [HlN.out]; omega), List.take_of_length_le (by rw [HmM.out]; have := Hlen.out; omega)] at h1
        simp [h1]
  · obtain ⟨px, cx, rfl⟩ := hx.slice
    obtain ⟨py, cy, rfl⟩ := hy.slice
    have hbne : ((l.length : Int) != (m.length : Int)) = true := by simp; omega
    have hres : (l == m) = false := by rw [beq_eq_false_iff_ne]; rintro rfl; exact hlen rfl
    rw [hres]
    clear hx hy hlen hres
    go_enter Try.func39, Try.ntmps39
    go_wp2
    go_ret
    exact ⟨rfl, 0, rfl⟩
end Go.Proofs.Ytdlbamhabenhgaa

namespace Go.Proofs.Ytdlbamhabenhgaa
open Go.RowKit Go.Sat Go.Maps

def shadowN (n : Bs) : Bs := n ++ [126]

namespace DiskM
/-- Behind the frame: the shadow goes, is written, lasts, and gets the name. -/
def save0 (D : DiskM) (n : Bs) : DiskM × Nat := if (get (shadowN n) D.files).isSome then D.remove [shadowN n] else (D, 0)
def save1 (D : DiskM) (n b : Bs) : DiskM × Nat :=
  let r0 := D.save0 n
  if r0.2 ≠ 0 then r0 else
  let r1 := r0.1.append (shadowN n) b
  if r1.2 ≠ 0 then r1 else
  let r2 := r1.1.sync [shadowN n]
  if r2.2 ≠ 0 then r2 else r2.1.rename (shadowN n) n
def save (D : DiskM) (n l : Bs) : DiskM × Nat := if n.length < 1 ∨ 60 < n.length then (D, 1) else save1 D n (frameN l)
end DiskM

theorem there_calls {w w1 : World} {d : Nat} {D : DiskM} {F : Nat → Prop} (h : St w w1 d D F) (s : ByteArray) (hs : s.size ≤ 9223372036854775807) :
    Calls Try.prog 57 #[.pointer (some ⟨d, 0, none⟩), .string s] w1 fun e w' => e = .returned (.bool (Sat.get (nm s) D.files).isSome) ∧ Below w1.heap.size w1 w' ∧ St w w' d D F := by
  have H := Lib.hid (st_read h s hs)
  clear h
  go_enter Try.func57, Try.ntmps57
  cases hg : Sat.get (nm s) D.files with
  | none =>
    rw [hg] at H
    go_wp2_with fail
    refine H.out.mono ?_
    rintro e w' ⟨v, rfl, -, -, hb, hst⟩
    have Hf := Lib.hid (And.intro hb hst)
    clear hb hst
    go_wp2_with fail
    go_ret
    exact ⟨rfl, Hf.out⟩
  | some f =>
    rw [hg] at H
    go_wp2_with fail
    refine H.out.mono ?_
    rintro e w' ⟨v, rfl, -, -, hb, hst⟩
    have Hf := Lib.hid (And.intro hb hst)
    clear hb hst
    go_wp2_with fail
    go_ret
    exact ⟨rfl, Hf.out⟩

theorem nm_shadow (s : ByteArray) : nm (s ++ ⟨#[126]⟩) = shadowN (nm s) := by
  simp [nm, shadowN]
end Go.Proofs.Ytdlbamhabenhgaa

namespace Go.Sat
open Go.RowKit
theorem HasB.same {w w' : World} {v : Value} {l : Bs} (h : HasB w v l) (hs : ∀ k, v.ownBlock = some k → w'.heap[k]? = w.heap[k]?) : HasB w' v l := by
  obtain ⟨hl, p, cap, rfl, h0, hc⟩ := h
  refine ⟨hl, p, cap, rfl, h0, fun a ha i u hu => ?_⟩
  have hb : (a.add i).block = a.block := add_block _ _
  exact (World.cell?_of_block (by rw [hb]; exact hs _ (by rw [ha]; rfl))).trans (hc a ha i u hu)

theorem HasB.lt {w : World} {v : Value} {l : Bs} (h : HasB w v l) (hne : l ≠ []) {k : Nat} (hk : v.ownBlock = some k) : k < w.heap.size := by
  obtain ⟨hl, p, cap, rfl, h0, hc⟩ := h
  cases p with
  | none => cases hk
  | some a =>
    cases l with
    | nil => exact absurd rfl hne
    | cons x r =>
      have h1 := hc a rfl 0 (.int .u8 (x.toNat : Int)) (by simp [bytesV])
      have h2 := World.block_lt_of_cell? w _ h1
      rw [add_block] at h2
      cases hk
      exact h2
end Go.Sat

namespace Go.Proofs.Ytdlbamhabenhgaa
open Go.RowKit Go.Sat Go.Maps

/-- With what a value lies in set apart besides. -/
def Fv (F : Nat → Prop) (v : Value) (k : Nat) : Prop := F k ∨ v.ownBlock = some k

theorem St.less {w w1 : World} {d : Nat} {D : DiskM} {F F' : Nat → Prop} (h : St w w1 d D F') (hF : ∀ k, F k → F' k) : St w w1 d D F :=
  h.move (S := fun _ => False) (Chg.refl _ _) (fun _ _ h => h.elim) fun k hk => ⟨.inl (hF k hk), by obtain ⟨_, _, _, _, hl⟩ := h; exact hl k (hF k hk)⟩

theorem St.flt {w w1 : World} {d : Nat} {D : DiskM} {F : Nat → Prop} (h : St w w1 d D F) {k : Nat} (hk : F k) : k < w1.heap.size := by
  obtain ⟨_, _, _, _, hl⟩ := h
  exact hl k hk

theorem same_below {w w1 w2 : World} {d : Nat} {D : DiskM} {F : Nat → Prop} (h : St w w1 d D F) (hb : Below w1.heap.size w1 w2) : Same F w1 w2 := fun k hk => hb.block k (h.flt hk)
theorem Same.trans {F : Nat → Prop} {w1 w2 w3 : World} (h : Same F w1 w2) (k : Same F w2 w3) : Same F w1 w3 := fun i hi => (k i hi).trans (h i hi)

theorem save_end {w w1 w2 : World} {d : Nat} {F : Nat → Prop} {v : Value} {r : DiskM × Nat} {e : Ending} (hs : Same F w1 w2) {w' : World} (h : Told w d (Fv F v) w2 r e w') : Told w d F w1 r e w' :=
  ⟨h.1, h.2.1.less fun _ hk => .inl hk, fun k hk => (h.2.2 k (.inl hk)).trans (hs k hk)⟩

theorem save1_rem {D D0 : DiskM} {n b : Bs} {e0 : Nat} (h0 : D.save0 n = (D0, e0)) (he : e0 ≠ 0) : D.save1 n b = (D0, e0) := by
  unfold DiskM.save1
  simp only [h0]
  rw [if_pos he]

theorem save1_app {D D0 D1 : DiskM} {n b : Bs} {e1 : Nat} (h0 : D.save0 n = (D0, 0)) (h1 : D0.append (shadowN n) b = (D1, e1)) (he : e1 ≠ 0) : D.save1 n b = (D1, e1) := by
  unfold DiskM.save1
  simp only [h0, h1]
  rw [if_neg (by simp), if_pos he]

theorem save1_syn {D D0 D1 D2 : DiskM} {n b : Bs} {e2 : Nat} (h0 : D.save0 n = (D0, 0)) (h1 : D0.append (shadowN n) b = (D1, 0)) (h2 : D1.sync [shadowN n] = (D2, e2)) (he : e2 ≠ 0) : D.save1 n b = (D2, e2) := by
  unfold DiskM.save1
  simp only [h0, h1, h2]
  rw [if_neg (by simp), if_neg (by simp), if_pos he]

theorem save1_ren {D D0 D1 D2 : DiskM} {n b : Bs} (h0 : D.save0 n = (D0, 0)) (h1 : D0.append (shadowN n) b = (D1, 0)) (h2 : D1.sync [shadowN n] = (D2, 0)) : D.save1 n b = D2.rename (shadowN n) n := by
  unfold DiskM.save1
  simp only [h0, h1, h2]
  rw [if_neg (by simp), if_neg (by simp), if_neg (by simp)]
end Go.Proofs.Ytdlbamhabenhgaa

namespace Go.Proofs.Ytdlbamhabenhgaa
open Go.RowKit Go.Sat Go.Maps

set_option maxRecDepth 100000 in
set_option maxHeartbeats 4000000 in
theorem save_calls {w w1 : World} {d : Nat} {D : DiskM} {F : Nat → Prop} (h : St w w1 d D F) (s : ByteArray) (hs : s.size ≤ 9223372036854775807) {p : Option Addr} {n c : Nat} {ls : List Bs} (hx : RowsAt w1 (.slice p n c) ls) (hn : n ≤ 140737488355328) (hl : ls.flatten.length ≤ 1048576) :
    Calls Try.prog 25 #[.pointer (some ⟨d, 0, none⟩), .string s, .slice p n c] w1 (Told w d F w1 (D.save (nm s) ls.flatten)) := by
  have hsz : (nm s).length = s.size := nm_len s
  by_cases hnm : (nm s).length < 1 ∨ 60 < (nm s).length
  · have hM : D.save (nm s) ls.flatten = (D, 1) := by unfold DiskM.save; rw [if_pos hnm]
    rw [hM]
    have Hfin := Lib.hid (show Told w d F w1 (D, 1) (.returned (.int .i64 1)) w1 from ⟨rfl, h, fun _ _ => rfl⟩)
    rw [hsz] at hnm
    generalize hzz : s.size = z at *
    clear hM h hx
    have hd1 : (decide ((z : Int) < 1) || decide (60 < (z : Int))) = true := by simp; omega
    by_cases hz : z < 1
    · have hz0 : z = 0 := by omega
      subst hz0
      go_enter Try.func25, Try.ntmps25
      go_wp2_with fail
      go_ret
      exact Hfin.out
    · have hz6 : 60 < z := by omega
      go_enter Try.func25, Try.ntmps25
      go_wp2_with fail
      go_ret
      exact Hfin.out
  · have hM : D.save (nm s) ls.flatten = DiskM.save1 D (nm s) (frameN ls.flatten) := by unfold DiskM.save; rw [if_neg hnm]
    rw [hM]
    have He := Lib.hid (enc_calls hx hn hl)
    have Hst := Lib.hid h
    rw [hsz] at hnm
    have hsh : (s ++ (⟨#[126]⟩ : ByteArray)).size = s.size + 1 := by simp [ByteArray.size_append]; rfl
    generalize hz : s.size = z at *
    have Hl := Lib.hid hl
    clear hM h hx hl
    go_enter Try.func25, Try.ntmps25
    go_wp2_with fail
    refine He.out.mono ?_
    rintro e w2 ⟨v, rfl, hv, hnew, hb⟩
    have hvl : ∀ k, v.ownBlock = some k → k < w2.heap.size := fun k hk => hv.lt (by simp [frameN, headN, fourN]) hk
    have hst2 : St w w2 d D (Fv F v) := Hst.out.move (S := fun _ => False) (Chg.of_below hb) (fun _ _ h => h.elim) fun k hk => by
      rcases hk with hk | hk
      · exact ⟨.inl hk, Nat.lt_of_lt_of_le (Hst.out.flt hk) hb.size⟩
      · exact ⟨.inr (hnew k hk), hvl k hk⟩
    have hsame2 : Same (fun k => F k) w1 w2 := same_below Hst.out hb
    have Hth := Lib.hid (there_calls hst2 (s ++ (⟨#[126]⟩ : ByteArray)) (by rw [hsh]; omega))
    rw [nm_shadow] at Hth
    have Hv := Lib.hid hv
    have Hs2 := Lib.hid hsame2
    have Hst2 := Lib.hid hst2
    clear hv hnew hb hvl hst2 hsame2
    go_wp2_with fail
    refine Hth.out.mono ?_
    rintro e w3 ⟨rfl, hb3, hst3⟩
    obtain ⟨pv, cv, rfl⟩ := Hv.out.slice
    generalize hmv : (frameN ls.flatten).length = mv at *
    have Hst := Lib.hid hst3
    have Hs := Lib.hid (Hs2.out.trans (same_below (Hst2.out.less fun _ hk => .inl hk) hb3))
    have Hv := Lib.hid (Hv.out.below hb3)
    clear hb3 hst3
    cases hg : Sat.get (shadowN (nm s)) D.files with
    | none =>
      have h0 : D.save0 (nm s) = (D, 0) := by unfold DiskM.save0; rw [hg]; rfl
      clear Hth
      have hap := st_append (Hst.out.alloc (.cells #[.slice pv mv cv] 23)) (s ++ (⟨#[126]⟩ : ByteArray)) (.slice (some ⟨w3.heap.size, 0, none⟩) 1 1) [frameN ls.flatten] (rows_one (v := .slice pv mv cv) Hv.out 23 (0, 0) _ 1 rfl (Nat.le_refl _)) (by simp) (by rw [List.flatten_cons, List.flatten_nil, List.append_nil, frame_len]; have := Hl.out; omega) (by rw [hsh]; omega)
      rw [nm_shadow, List.flatten_cons, List.flatten_nil, List.append_nil] at hap
      have Hsa := Lib.hid (Hs.out.trans (same_below (F := F) (Hst.out.less fun _ hk => .inl hk) ((Below.refl w3.heap.size w3).alloc (Nat.le_refl _) (.cells #[.slice pv mv cv] 23))))
      cases h1 : DiskM.append D (shadowN (nm s)) (frameN ls.flatten) with
      | mk D1 e1 =>
        rw [h1] at hap
        have Hap := Lib.hid hap
        by_cases he1 : e1 = 0
        · subst he1
          clear hap
          go_wp2_with fail
          refine Hap.out.mono ?_
          rintro e w5 ⟨rfl, hst5, hs5⟩
          have hst5 : St w w5 d D1 (Fv F (.slice pv mv cv)) := hst5
          have hsy := st_sync hst5 [s ++ (⟨#[126]⟩ : ByteArray)] w5.heap.size 1 rfl (0, 0) (by simp) (by simp [hsh]; omega)
          rw [show [s ++ (⟨#[126]⟩ : ByteArray)].map nm = [shadowN (nm s)] from by rw [List.map_cons, nm_shadow, List.map_nil]] at hsy
          have Hsb := Lib.hid (Hsa.out.trans (Same.trans (fun k hk => hs5 k (.inl hk)) (same_below (F := F) (hst5.less fun _ hk => .inl hk) ((Below.refl w5.heap.size w5).alloc (Nat.le_refl _) (.cells #[.string (s ++ (⟨#[126]⟩ : ByteArray))] 9)))))
          clear hs5 hst5
          cases h2 : DiskM.sync D1 [shadowN (nm s)] with
          | mk D2 e2 =>
            rw [h2] at hsy
            have Hsy := Lib.hid hsy
            by_cases he2 : e2 = 0
            · subst he2
              clear hsy
              go_wp2_with fail
              refine Hsy.out.mono ?_
              rintro e w6 ⟨rfl, hst6, hs6⟩
              have hst6 : St w w6 d D2 (Fv F (.slice pv mv cv)) := hst6
              have hrn := st_rename hst6 (s ++ (⟨#[126]⟩ : ByteArray)) s (by rw [hsh]; omega) (by omega)
              rw [nm_shadow, ← save1_ren h0 h1 h2] at hrn
              have Hrn := Lib.hid hrn
              have Hsc := Lib.hid (Hsb.out.trans (fun k hk => hs6 k (.inl hk)))
              clear hrn hs6 hst6
              go_wp2_with fail
              refine Hrn.out.mono ?_
              intro e w7 hT
              have hE := save_end Hsc.out hT
              obtain ⟨rfl, -⟩ := hT
              have HE := Lib.hid hE
              clear hE
              go_wp2_with fail
              go_ret
              exact HE.out
            · have hne : ((e2 : Int) != 0) = true := by simp; omega
              clear hsy
              go_wp2_with fail
              refine Hsy.out.mono ?_
              intro e w6 hT
              have hE : Told w d F w1 (D.save1 (nm s) (frameN ls.flatten)) e w6 := by rw [save1_syn h0 h1 h2 he2]; exact save_end Hsb.out hT
              obtain ⟨rfl, -⟩ := hT
              have HE := Lib.hid hE
              clear hE
              go_wp2_with fail
              go_ret
              exact HE.out
        · have hne : ((e1 : Int) != 0) = true := by simp; omega
          clear hap
          go_wp2_with fail
          refine Hap.out.mono ?_
          intro e w5 hT
          have hE : Told w d F w1 (D.save1 (nm s) (frameN ls.flatten)) e w5 := by rw [save1_app h0 h1 he1]; exact save_end Hsa.out hT
          obtain ⟨rfl, -⟩ := hT
          have HE := Lib.hid hE
          clear hE
          go_wp2_with fail
          go_ret
          exact HE.out
    | some f =>
      have hrm := st_remove Hst.out [s ++ (⟨#[126]⟩ : ByteArray)] w3.heap.size 1 rfl (0, 0) (by simp) (by simp [hsh]; omega)
      rw [show [s ++ (⟨#[126]⟩ : ByteArray)].map nm = [shadowN (nm s)] from by rw [List.map_cons, nm_shadow, List.map_nil]] at hrm
      have Hsr := Lib.hid (Hs.out.trans (same_below (Hst.out.less fun _ hk => .inl hk) ((Below.refl w3.heap.size w3).alloc (Nat.le_refl _) (.cells #[.string (s ++ (⟨#[126]⟩ : ByteArray))] 9))))
      cases h0 : D.save0 (nm s) with
      | mk D0 e0 =>
        have hz0 : DiskM.remove D [shadowN (nm s)] = (D0, e0) := by rw [← h0]; unfold DiskM.save0; rw [hg]; rfl
        rw [hz0] at hrm
        have Hrm := Lib.hid hrm
        clear hrm
        by_cases he0 : e0 = 0
        · subst he0
          go_wp2_with fail
          refine Hrm.out.mono ?_
          rintro e w4 ⟨rfl, hst4, hs4⟩
          have Hst4 := Lib.hid (show St w w4 d D0 (Fv F (.slice pv mv cv)) from hst4)
          have Hv4 := Lib.hid ((Hv.out.below ((Below.refl w3.heap.size w3).alloc (Nat.le_refl _) (.cells #[.string (s ++ (⟨#[126]⟩ : ByteArray))] 9))).same fun k hk => hs4 k (.inr hk))
          have Hs4 := Lib.hid (Hsr.out.trans (fun k hk => hs4 k (.inl hk)))
          clear Hst Hv Hs Hsr hst4 hs4
          have Hst := Hst4
          have Hv := Hv4
          have Hs := Hs4
          clear Hst4 Hv4 Hs4
          have hap := st_append (Hst.out.alloc (.cells #[.slice pv mv cv] 23)) (s ++ (⟨#[126]⟩ : ByteArray)) (.slice (some ⟨w4.heap.size, 0, none⟩) 1 1) [frameN ls.flatten] (rows_one (v := .slice pv mv cv) Hv.out 23 (0, 0) _ 1 rfl (Nat.le_refl _)) (by simp) (by rw [List.flatten_cons, List.flatten_nil, List.append_nil, frame_len]; have := Hl.out; omega) (by rw [hsh]; omega)
          rw [nm_shadow, List.flatten_cons, List.flatten_nil, List.append_nil] at hap
          have Hsa := Lib.hid (Hs.out.trans (same_below (F := F) (Hst.out.less fun _ hk => .inl hk) ((Below.refl w4.heap.size w4).alloc (Nat.le_refl _) (.cells #[.slice pv mv cv] 23))))
          cases h1 : DiskM.append D0 (shadowN (nm s)) (frameN ls.flatten) with
          | mk D1 e1 =>
            rw [h1] at hap
            have Hap := Lib.hid hap
            by_cases he1 : e1 = 0
            · subst he1
              clear hap
              go_wp2_with fail
              refine Hap.out.mono ?_
              rintro e w5 ⟨rfl, hst5, hs5⟩
              have hst5 : St w w5 d D1 (Fv F (.slice pv mv cv)) := hst5
              have hsy := st_sync hst5 [s ++ (⟨#[126]⟩ : ByteArray)] w5.heap.size 1 rfl (0, 0) (by simp) (by simp [hsh]; omega)
              rw [show [s ++ (⟨#[126]⟩ : ByteArray)].map nm = [shadowN (nm s)] from by rw [List.map_cons, nm_shadow, List.map_nil]] at hsy
              have Hsb := Lib.hid (Hsa.out.trans (Same.trans (fun k hk => hs5 k (.inl hk)) (same_below (F := F) (hst5.less fun _ hk => .inl hk) ((Below.refl w5.heap.size w5).alloc (Nat.le_refl _) (.cells #[.string (s ++ (⟨#[126]⟩ : ByteArray))] 9)))))
              clear hs5 hst5
              cases h2 : DiskM.sync D1 [shadowN (nm s)] with
              | mk D2 e2 =>
                rw [h2] at hsy
                have Hsy := Lib.hid hsy
                by_cases he2 : e2 = 0
                · subst he2
                  clear hsy
                  go_wp2_with fail
                  refine Hsy.out.mono ?_
                  rintro e w6 ⟨rfl, hst6, hs6⟩
                  have hst6 : St w w6 d D2 (Fv F (.slice pv mv cv)) := hst6
                  have hrn := st_rename hst6 (s ++ (⟨#[126]⟩ : ByteArray)) s (by rw [hsh]; omega) (by omega)
                  rw [nm_shadow, ← save1_ren h0 h1 h2] at hrn
                  have Hrn := Lib.hid hrn
                  have Hsc := Lib.hid (Hsb.out.trans (fun k hk => hs6 k (.inl hk)))
                  clear hrn hs6 hst6
                  go_wp2_with fail
                  refine Hrn.out.mono ?_
                  intro e w7 hT
                  have hE := save_end Hsc.out hT
                  obtain ⟨rfl, -⟩ := hT
                  have HE := Lib.hid hE
                  clear hE
                  go_wp2_with fail
                  go_ret
                  exact HE.out
                · have hne : ((e2 : Int) != 0) = true := by simp; omega
                  clear hsy
                  go_wp2_with fail
                  refine Hsy.out.mono ?_
                  intro e w6 hT
                  have hE : Told w d F w1 (D.save1 (nm s) (frameN ls.flatten)) e w6 := by rw [save1_syn h0 h1 h2 he2]; exact save_end Hsb.out hT
                  obtain ⟨rfl, -⟩ := hT
                  have HE := Lib.hid hE
                  clear hE
                  go_wp2_with fail
                  go_ret
                  exact HE.out
            · have hne : ((e1 : Int) != 0) = true := by simp; omega
              clear hap
              go_wp2_with fail
              refine Hap.out.mono ?_
              intro e w5 hT
              have hE : Told w d F w1 (D.save1 (nm s) (frameN ls.flatten)) e w5 := by rw [save1_app h0 h1 he1]; exact save_end Hsa.out hT
              obtain ⟨rfl, -⟩ := hT
              have HE := Lib.hid hE
              clear hE
              go_wp2_with fail
              go_ret
              exact HE.out
        · have hne : ((e0 : Int) != 0) = true := by simp; omega
          go_wp2_with fail
          refine Hrm.out.mono ?_
          intro e w4 hT
          have hE : Told w d F w1 (D.save1 (nm s) (frameN ls.flatten)) e w4 := by rw [save1_rem h0 he0]; exact save_end Hsr.out hT
          obtain ⟨rfl, -⟩ := hT
          have HE := Lib.hid hE
          clear hE
          go_wp2_with fail
          go_ret
          exact HE.out
end Go.Proofs.Ytdlbamhabenhgaa

namespace Go.Proofs.Ytdlbamhabenhgaa
open Go.RowKit Go.Sat Go.Maps

theorem data_len {D : DiskM} (h : D.OK) (n : Bs) : (dataOf (Sat.get n D.files)).length ≤ 1073741824 := by
  cases hg : Sat.get n D.files with
  | none => simp [dataOf]
  | some f =>
    have h1 : DiskM.size f ≤ D.used := le_sum h.srt hg
    have h2 := h.used
    have h3 := h.room
    show f.data.length ≤ _
    unfold DiskM.size at h1
    omega

def loadE (o : Option FileM) : Nat := if o.isSome then (if oneE (dataOf o) = 0 then 0 else 3) else 7
def loadB (o : Option FileM) : Bs := if o.isSome then oneB (dataOf o) else []

theorem loadE_none : loadE none = 7 := by unfold loadE; exact if_neg (by decide)
theorem loadB_none : loadB none = [] := by unfold loadB; exact if_neg (by decide)
theorem loadE_some (f : FileM) : loadE (some f) = if oneE (dataOf (some f)) = 0 then 0 else 3 := by unfold loadE; exact if_pos (by rfl)
theorem loadB_some (f : FileM) : loadB (some f) = oneB (dataOf (some f)) := by unfold loadB; exact if_pos (by rfl)

def GotL (w : World) (d : Nat) (D : DiskM) (F : Nat → Prop) (w1 : World) (o : Option FileM) (e : Ending) (w' : World) : Prop :=
  ∃ v, e = .returned (.tuple #[v, .int .i64 (loadE o : Int)]) ∧ OwnB w' 5 v (loadB o) ∧ (∀ k, v.ownBlock = some k → w1.heap.size ≤ k) ∧ Below w1.heap.size w1 w' ∧ St w w' d D F

theorem own_slice {w : World} {e : TypeId} {v : Value} {l : Bs} (h : OwnB w e v l) : ∃ p c, v = .slice p l.length c ∧ l.length ≤ c := by
  rcases h.2 with ⟨rfl, hn⟩ | ⟨g, cap, cur, rfl, _, hnc, _⟩
  · exact ⟨none, 0, by rw [hn], by omega⟩
  · exact ⟨_, cap, rfl, hnc⟩

theorem load_calls {w w1 : World} {d : Nat} {D : DiskM} {F : Nat → Prop} (h : St w w1 d D F) (s : ByteArray) (hs : s.size ≤ 9223372036854775807) :
    Calls Try.prog 26 #[.pointer (some ⟨d, 0, none⟩), .string s] w1 (GotL w d D F w1 (Sat.get (nm s) D.files)) := by
  have hln := data_len h.ok (nm s)
  have H := Lib.hid (st_read h s hs)
  clear h
  cases hg : Sat.get (nm s) D.files with
  | none =>
    rw [hg] at H
    clear hln
    go_enter Try.func26, Try.ntmps26
    go_wp2_with fail
    refine H.out.mono ?_
    rintro e w2 ⟨v, rfl, -, -, hb, hst⟩
    have Hf := Lib.hid (show GotL w d D F w1 none (.returned (.tuple #[.slice none 0 0, .int .i64 7])) w2 from ⟨.slice none 0 0, by rw [loadE_none]; rfl, by rw [loadB_none]; exact OwnR.nil _ _ _, fun k hk => (by cases hk), hb, hst⟩)
    clear hb hst
    go_wp2_with fail
    go_ret2
    exact Hf.out
  | some f =>
    rw [hg] at H hln
    go_enter Try.func26, Try.ntmps26
    go_wp2_with fail
    refine H.out.mono ?_
    rintro e w2 ⟨v, rfl, hv, -, hb, hst⟩
    obtain ⟨p, c, rfl, hnc⟩ := own_slice hv
    have H1 := Lib.hid (one_calls hv.has hnc (by omega))
    have Hst := Lib.hid hst
    have Hb := Lib.hid hb
    have hE := loadE_some f
    have hB := loadB_some f
    generalize dataOf (some f) = b at *
    generalize hN : b.length = N at *
    clear hv hst hb hnc hln
    go_wp2_with fail
    refine H1.out.mono ?_
    rintro e w3 ⟨v, rfl, hv, hn, hb3⟩
    have hb4 := Hb.out.trans (hb3.mono Hb.out.size)
    have hst3 := Hst.out.next hb3
    by_cases he : oneE b = 0
    · have Hf := Lib.hid (show GotL w d D F w1 (some f) (.returned (.tuple #[v, .int .i64 0])) w3 from ⟨v, by rw [hE, if_pos he]; rfl, by rw [hB]; exact hv, fun k hk => Nat.le_trans Hb.out.size (hn k hk), hb4, hst3⟩)
      rw [he]
      clear hv hn hb3 hb4 hst3
      go_wp2_with fail
      go_ret2
      exact Hf.out
    · have Hf := Lib.hid (show GotL w d D F w1 (some f) (.returned (.tuple #[.slice none 0 0, .int .i64 3])) w3 from ⟨.slice none 0 0, by rw [hE, if_neg he]; rfl, by rw [hB]; unfold oneB; rw [if_neg he]; exact OwnR.nil _ _ _, fun k hk => (by cases hk), hb4, hst3⟩)
      have hne : ((oneE b : Int) != 0) = true := by simp; omega
      generalize oneE b = E at *
      clear hv hn hb3 hb4 hst3
      go_wp2_with fail
      go_ret2
      exact Hf.out
end Go.Proofs.Ytdlbamhabenhgaa
