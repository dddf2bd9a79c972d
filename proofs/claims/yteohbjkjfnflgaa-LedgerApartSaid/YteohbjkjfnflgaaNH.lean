/- ledger: takes. (Printed by mkled3.py.) ledger: takes, the walk. (Printed by mkled4.py.) -/
import Derived.Test.YteohbjkjfnflgaaNG
namespace Go.Sat
open Go Go.RowKit
/-- Two may come up. -/
theorem ord_both {P : Program} {l : List Oper} {Q : Exit → Act → World → Prop} {md : Region.Mode} {S : World → Prop} {fuel : Nat} {listed : Array Bool} {a : Act} {w : World} (i j : Nat) {oi oj : Oper} {ri rj : List Oper} (hdi : l.drop i = oi :: ri) (hdj : l.drop j = oj :: rj) (hr : Region.ready md l.toArray listed = [i, j])
    (hwi : Region.wanted oi (yielded l.toArray a.tmps) = true) (hwj : Region.wanted oj (yielded l.toArray a.tmps) = true)
    (hi : ∀ K : Act → World → Prop, Shut (∀ a w, S w → (S w → wpAnyH P md l.toArray Q S fuel (listed.setIfInBounds i true) a w) → K a w) → Oper.wp P oi a w K Q)
    (hj : ∀ K : Act → World → Prop, Shut (∀ a w, S w → (S w → wpAnyH P md l.toArray Q S fuel (listed.setIfInBounds j true) a w) → K a w) → Oper.wp P oj a w K Q) : wpAnyH P md l.toArray Q S (fuel + 1) listed a w :=
  wpAnyH_ready hr (by simp) (AllReadyH.cons (ord_get hdi) (fun K hK => by rw [if_pos hwi]; exact hi K hK) (AllReadyH.cons (ord_get hdj) (fun K hK => by rw [if_pos hwj]; exact hj K hK) AllReadyH.nil))
end Go.Sat

namespace Go.Proofs.Yteohbjkjfnflgaa
open Go.RowKit Go.Sat Go.Maps

section
variable {w w1 w2 : World} {l d : Nat} {pre : ByteArray} {D : DiskM} {M : LedM} {F F' : Nat → Prop}

/-- The ledger itself has turned; what had been set apart for it is its own. -/
theorem LedF.taken {own own' : Nat → Prop} {M' : LedM} {dv' ev' : Value} {vs' : List Value} (hS : St w w1 d D (fun k => own k ∨ F' k)) (hn : ∀ k, own k → w.heap.size ≤ k ∧ ¬ F' k) (hl : ∀ k, F' k → k < w1.heap.size) (hF : ∀ k, F k → F' k)
    (hL' : LedIn w2 l d pre own' M' dv' ev' vs') (hc : Chg own w1 w2) (hx : ∀ k, own' k → own k ∨ w1.heap.size ≤ k ∨ (F' k ∧ ¬ F k ∧ w.heap.size ≤ k)) : LedF w w2 l d pre D M' F ∧ Same F w1 w2 := by
  refine ⟨⟨own', dv', ev', vs', hL', hS.move hc (fun k _ hk => ⟨.inl hk, (hn k hk).1⟩) (fun k hk => ?_), fun k hk => ?_, fun k hk => Nat.lt_of_lt_of_le (hl k (hF k hk)) hc.size⟩, fun k hk => hc.block k (hl k (hF k hk)) fun ho => (hn k ho).2 (hF k hk)⟩
  · rcases hk with hk | hk
    · refine ⟨?_, hL'.olt k hk⟩
      rcases hx k hk with h | h | h
      · exact .inl (.inl h)
      · exact .inr h
      · exact .inl (.inr h.1)
    · exact ⟨.inl (.inr (hF k hk)), Nat.lt_of_lt_of_le (hl k (hF k hk)) hc.size⟩
  · rcases hx k hk with h | h | h
    · exact ⟨(hn k h).1, fun hf => (hn k h).2 (hF k hf)⟩
    · exact ⟨Nat.le_trans hS.below.size h, fun hf => by have := hl k (hF k hf); omega⟩
    · exact ⟨h.2.2, h.2.1⟩

/-- An entry is laid behind the others. -/
theorem led_push {own : Nat → Prop} {dv ev v' u : Value} {vs : List Value} {w0 : World} {b : Bs} (hL : LedIn w1 l d pre own M dv ev vs) (hu : OwnB w1 5 u b) (hun : ∀ k, u.ownBlock = some k → ¬ own k) (hb : b.length ≤ 1073741824) (hla : M.last + 1 ≤ 1099511627776)
    (hb0 : Below w1.heap.size w1 w0) (hown : OwnR w2 33 1 v' (M.entries.length + 1) (vs ++ [u])) (hg : w0.grownBy w2 ev.ownBlock) (hloc : v'.ownBlock = ev.ownBlock ∨ ∃ g, v'.ownBlock = some g ∧ w0.heap.size ≤ g) :
    LedIn (w2.setCell ⟨l, 4, none⟩ v') l d pre (fun k => own k ∨ u.ownBlock = some k ∨ v'.ownBlock = some k) { M with entries := M.entries ++ [b] } dv v' (vs ++ [u]) ∧ Chg own w1 (w2.setCell ⟨l, 4, none⟩ v') ∧ (∀ k, v'.ownBlock = some k → own k ∨ w1.heap.size ≤ k) ∧
    w2.heap[l]? = w1.heap[l]? := by
  have hs := hb0.size
  have hg2 := hg.size
  have hll : w2.heap[l]? = w1.heap[l]? := (hg.block l (by have := hL.olt l hL.ol; omega) fun e => (hL.oe l e.symm).2 rfl).trans (hb0.block l (hL.olt l hL.ol))
  have hnew : ∀ k, v'.ownBlock = some k → ev.ownBlock = some k ∨ w1.heap.size ≤ k := fun k hk => by
    rcases hloc with e | ⟨g, e, hge⟩
    · exact .inl (e ▸ hk)
    · rw [hk] at e
      cases e
      exact .inr (by omega)
  have hv'l : ∀ k, v'.ownBlock = some k → k ≠ l := fun k hk e => by
    rcases hnew k hk with h | h
    · exact (hL.oe k h).2 e
    · have := hL.olt l hL.ol
      omega
  have hul : ∀ k, u.ownBlock = some k → k ≠ l := fun k hk e => hun k hk (e ▸ hL.ol)
  have hkeep : ∀ k, k < w1.heap.size → ev.ownBlock ≠ some k → k ≠ l → (w2.setCell ⟨l, 4, none⟩ v').heap[k]? = w1.heap[k]? := fun k hk he hkl =>
    (set_other v' hkl).trans ((hg.block k (by omega) fun e => he e.symm).trans (hb0.block k hk))
  have hv'n : ∀ k, k < w1.heap.size → ev.ownBlock ≠ some k → v'.ownBlock ≠ some k := fun k hk he e => by
    rcases hnew k e with h | h
    · exact he h
    · omega
  have hune : ∀ k, u.ownBlock = some k → ev.ownBlock ≠ some k := fun k hk e => hun k hk (hL.oe k e).1
  refine ⟨⟨?_, ?_, ?_, ?_, .inl hL.ol, ?_, fun k hk => ⟨.inr (.inr hk), hv'l k hk⟩, ?_, ?_, ?_, hL.psz, ⟨hL.big.1, ?_⟩⟩, ?_, fun k hk => (hnew k hk).imp (fun h => (hL.oe k h).1) id, hll⟩
  · have h1 := set_block (hll.trans hL.cells) 4 v'
    simpa using h1
  · exact OwnR.keep hL.data fun k hk => hkeep k (OwnR.lt hL.data hk) (hL.od k hk).2.2 (hL.od k hk).2.1
  · have : (M.entries ++ [b]).length = M.entries.length + 1 := by simp
    show OwnR _ _ _ _ (M.entries ++ [b]).length _
    rw [this]
    exact hown.keep fun k hk => set_other v' (hv'l k hk)
  · intro i x c hx hc
    have hc' : (M.entries ++ [b])[i]? = some c := hc
    by_cases hi : i < vs.length
    · rw [List.getElem?_append_left hi] at hx
      rw [List.getElem?_append_left (by have := hL.len; omega)] at hc'
      have hxm := List.mem_of_getElem? hx
      exact OwnR.keep (hL.rows i x c hx hc') fun k hk => hkeep k (hL.olt k (hL.ov x hxm k hk).1) (hL.ov x hxm k hk).2.2 (hL.ov x hxm k hk).2.1
    · rw [List.getElem?_append_right (by omega)] at hx
      rw [List.getElem?_append_right (by have := hL.len; omega)] at hc'
      have hi0 : i - vs.length = 0 := by
        have := (List.getElem?_eq_some_iff.1 hx).1
        simp at this
        omega
      rw [hi0] at hx
      rw [show i - M.entries.length = 0 by have := hL.len; omega] at hc'
      cases hx
      cases hc'
      exact OwnR.keep hu fun k hk => hkeep k (OwnR.lt hu hk) (hune k hk) (hul k hk)
  · exact fun k hk => ⟨.inl (hL.od k hk).1, (hL.od k hk).2.1, hv'n k (OwnR.lt hL.data hk) (hL.od k hk).2.2⟩
  · intro x hx k hk
    rcases List.mem_append.1 hx with hx | hx
    · exact ⟨.inl (hL.ov x hx k hk).1, (hL.ov x hx k hk).2.1, hv'n k (hL.olt k (hL.ov x hx k hk).1) (hL.ov x hx k hk).2.2⟩
    · have : x = u := by simpa using hx
      subst this
      exact ⟨.inr (.inl hk), hul k hk, hv'n k (OwnR.lt hu hk) (hune k hk)⟩
  · intro k hk
    have h2 : k < w2.heap.size := by
      rcases hk with h | h | h
      · have := hL.olt k h
        omega
      · have := OwnR.lt hu h
        omega
      · exact OwnR.lt hown h
    simpa [World.setCell] using h2
  · show M.base + (M.entries ++ [b]).length ≤ _
    rw [List.length_append]
    unfold LedM.last at hla
    simp
    omega
  · intro x hx
    have hx' : x ∈ M.entries ++ [b] := hx
    rcases List.mem_append.1 hx' with h | h
    · exact hL.big.2 x h
    · have : x = b := by simpa using h
      rw [this]
      exact hb
  · exact (((Chg.of_below hb0).mono fun _ _ h => h.elim).trans (Chg.of_grown hg) fun k _ e => (hL.oe k e.symm).1).trans (Chg.setCell w2 ⟨l, 4, none⟩ v') fun k _ e => by rw [e]; exact hL.ol
end
end Go.Proofs.Yteohbjkjfnflgaa

namespace Go.Proofs.Yteohbjkjfnflgaa
open Go.RowKit Go.Sat Go.Maps

def takerO (l : Nat) (la : Int) : Obj := .cells #[.pointer (some ⟨l, 0, none⟩), .int .i64 la] 83 (0, 0)

/-- What a record that was taken in leaves. -/
def TakeTold (w w1 : World) (l d : Nat) (pre : ByteArray) (D : DiskM) (M : LedM) (F : Nat → Prop) (t : Nat) (la : Int) (b : Bs) (e : Ending) (w' : World) : Prop :=
  St w w' d D F ∧ (∀ k, F k → k ≠ t → w'.heap[k]? = w1.heap[k]?) ∧ match take1 M.base (la, M.entries) b with
  | none => e = .returned (.bool false)
  | some s => e = .returned (.bool true) ∧ LedF w w' l d pre D { M with entries := s.2 } F ∧ w'.heap[t]? = some (takerO l s.1)

section
variable {w w1 w2 : World} {l d t : Nat} {pre : ByteArray} {D : DiskM} {M : LedM} {F F' : Nat → Prop} {la : Int} {b : Bs}

theorem take1_no {base : Nat} {s : Int × List Bs} (h : (Rd.num ⟨b, false⟩).2.bytes.2.whole = false ∨ (Rd.num ⟨b, false⟩).1 < 1 ∨ 1099511627776 < (Rd.num ⟨b, false⟩).1 ∨ (0 ≤ s.1 ∧ ((Rd.num ⟨b, false⟩).1 : Int) ≠ s.1 + 1)) : take1 base s b = none := by
  unfold take1
  rw [if_pos h]
theorem take1_old {base : Nat} {s : Int × List Bs} (h : ¬ ((Rd.num ⟨b, false⟩).2.bytes.2.whole = false ∨ (Rd.num ⟨b, false⟩).1 < 1 ∨ 1099511627776 < (Rd.num ⟨b, false⟩).1 ∨ (0 ≤ s.1 ∧ ((Rd.num ⟨b, false⟩).1 : Int) ≠ s.1 + 1))) (h1 : (Rd.num ⟨b, false⟩).1 ≤ base) : take1 base s b = some (((Rd.num ⟨b, false⟩).1 : Int), s.2) := by
  unfold take1
  rw [if_neg h, if_pos h1]
theorem take1_gap {base : Nat} {s : Int × List Bs} (h : ¬ ((Rd.num ⟨b, false⟩).2.bytes.2.whole = false ∨ (Rd.num ⟨b, false⟩).1 < 1 ∨ 1099511627776 < (Rd.num ⟨b, false⟩).1 ∨ (0 ≤ s.1 ∧ ((Rd.num ⟨b, false⟩).1 : Int) ≠ s.1 + 1))) (h1 : ¬ (Rd.num ⟨b, false⟩).1 ≤ base) (h2 : (Rd.num ⟨b, false⟩).1 ≠ base + s.2.length + 1) : take1 base s b = none := by
  unfold take1
  rw [if_neg h, if_neg h1, if_pos h2]
theorem take1_new {base : Nat} {s : Int × List Bs} (h : ¬ ((Rd.num ⟨b, false⟩).2.bytes.2.whole = false ∨ (Rd.num ⟨b, false⟩).1 < 1 ∨ 1099511627776 < (Rd.num ⟨b, false⟩).1 ∨ (0 ≤ s.1 ∧ ((Rd.num ⟨b, false⟩).1 : Int) ≠ s.1 + 1))) (h1 : ¬ (Rd.num ⟨b, false⟩).1 ≤ base) (h2 : ¬ (Rd.num ⟨b, false⟩).1 ≠ base + s.2.length + 1) : take1 base s b = some (((Rd.num ⟨b, false⟩).1 : Int), s.2 ++ [(Rd.num ⟨b, false⟩).2.bytes.1]) := by
  unfold take1
  rw [if_neg h, if_neg h1, if_neg h2]

theorem take_none {x : Option (Int × List Bs)} (hx : x = take1 M.base (la, M.entries) b) (hS : St w w2 d D F) (hF : ∀ k, F k → k ≠ t → w2.heap[k]? = w1.heap[k]?) (h : x = none) : TakeTold w w1 l d pre D M F t la b (.returned (.bool false)) w2 := by
  unfold TakeTold
  rw [← hx, h]
  exact ⟨hS, hF, rfl⟩
theorem take_some {x : Option (Int × List Bs)} (hx : x = take1 M.base (la, M.entries) b) {s : Int × List Bs} (hL : LedF w w2 l d pre D { M with entries := s.2 } F) (hF : ∀ k, F k → k ≠ t → w2.heap[k]? = w1.heap[k]?) (ht : w2.heap[t]? = some (takerO l s.1)) (h : x = some s) : TakeTold w w1 l d pre D M F t la b (.returned (.bool true)) w2 := by
  unfold TakeTold
  rw [← hx, h]
  exact ⟨hL.stF, hF, rfl, hL, ht⟩

set_option maxRecDepth 100000 in
set_option maxHeartbeats 8000000 in
theorem takes_calls (h : LedF w w1 l d pre D M F) (ht : w1.heap[t]? = some (takerO l la)) (hFt : F t) (htn : w.heap.size ≤ t) {p : Option Addr} {n c : Nat} (hx : HasB w1 (.slice p n c) b) (hb : b.length ≤ 1073741824) (hla1 : -1 ≤ la) (hla2 : la ≤ 1099511627776) :
    Calls Try.prog 46 #[.pointer (some ⟨t, 0, none⟩), .slice p n c] w1 (TakeTold w w1 l d pre D M F t la b) := by
  obtain ⟨i0, hi, hz0, hz1, hz2⟩ := info_parts (show (Try.prog.info? 33).map (fun i => (i.zero, i.size, i.bytes)) = some (some (.slice none 0 0), 1, 24) by kernel_rfl)
  have Hrd0 := Lib.hid (newrd_calls hx (by omega))
  have H := Lib.hid h
  have Ht := Lib.hid ht
  have htlt : t < w1.heap.size := h.flt hFt
  have Hb := Lib.hid hb
  have hn : b.length = n := by obtain ⟨_, _, e⟩ := hx.slice; simp only [Value.slice.injEq] at e; exact e.2.1.symm
  have HFt := Lib.hid hFt
  have hlt : l ≠ t := fun e => by
    obtain ⟨own, dv, ev, vs, hL, -, hn, -⟩ := h
    exact (hn l hL.ol).2 (e ▸ hFt)
  clear h hx hb ht hn hFt
  go_enter Try.func46, Try.ntmps46
  go_wp2_with fail
  refine Hrd0.out.mono ?_
  rintro e w3 ⟨r, rfl, hr, hrn, hb3⟩
  have Hnum := Lib.hid (show Calls Try.prog 41 #[.pointer (some ⟨r, 0, none⟩)] w3 (NumDone w3 r ⟨b, false⟩) from by obtain ⟨_, _, _, h⟩ := hr; exact num_calls h)
  have Hb3 := Lib.hid hb3
  have Hrn := Lib.hid hrn
  clear hr hrn hb3 Hrd0
  go_wp2_with fail
  refine Hnum.out.mono ?_
  rintro e w4 ⟨rfl, hr4, hc4⟩
  have Hby := Lib.hid (rbytes_calls hr4)
  have Hc4 := Lib.hid hc4
  have hm62 := Rd.num_le ⟨b, false⟩
  have Hbl := Lib.hid (show (Rd.num ⟨b, false⟩).2.bytes.1.length ≤ 1073741824 from Nat.le_trans (Rd.bytes_len _) (Nat.le_trans (Rd.num_rest _) Hb.out))
  have HNo := Lib.hid (fun s => take1_no (b := b) (base := M.base) (s := s))
  have HOld := Lib.hid (fun s => take1_old (b := b) (base := M.base) (s := s))
  have HGap := Lib.hid (fun s => take1_gap (b := b) (base := M.base) (s := s))
  have HNew := Lib.hid (fun s => take1_new (b := b) (base := M.base) (s := s))
  clear hr4 hc4 Hnum
  generalize (Rd.num ⟨b, false⟩).1 = k at *
  generalize (Rd.num ⟨b, false⟩).2 = R1 at *
  go_wp2_with fail
  refine Hby.out.mono ?_
  rintro e w5 ⟨v5, rfl, hv5, hn5, hr5, hc5⟩
  have HB5 := Lib.hid (show Below w1.heap.size w1 w5 from Hb3.out.trans ((Hc4.out.trans hc5 fun _ _ e => e).below Hb3.out.size fun k hk e => by have := Hrn.out; omega))
  have Hn5 := Lib.hid (show ∀ k, v5.ownBlock = some k → w1.heap.size ≤ k from fun k hk => by have h1 := hn5 k hk; have h3 := Hb3.out.size; have h4 := Hc4.out.size; omega)
  have Hwh := Lib.hid (whole_calls hr5.hd)
  have HV5 := Lib.hid hv5
  have ht5 := (HB5.out.block t htlt).trans Ht.out
  have kt0 : w5.cell? ⟨t, 0, none⟩ = some (.pointer (some ⟨l, 0, none⟩)) := cell_of ht5 rfl
  have kt1 : w5.cell? ⟨t, 1, none⟩ = some (.int .i64 la) := cell_of ht5 rfl
  have ft1 := frozen_of ht5 1
  have HS5 := Lib.hid (show St w w5 d D F ∧ ∀ k, F k → k ≠ t → w5.heap[k]? = w1.heap[k]? from ⟨(H.out.next HB5.out).stF, fun k hk _ => HB5.out.block k (H.out.flt hk)⟩)
  have HT := Lib.hid (show take1 M.base (la, M.entries) b = take1 M.base (la, M.entries) b from rfl)
  have HT5 := Lib.hid ht5
  clear hv5 hn5 hr5 hc5 Hby ht5
  generalize R1.bytes.2 = R2 at *
  generalize R1.bytes.1 = b5 at *
  obtain ⟨pu, cu, rfl, -⟩ := own_cap0 HV5.out
  by_cases hw : R2.whole = false
  · rw [hw] at Hwh
    have HE := Lib.hid (show TakeTold w w1 l d pre D M F t la b (.returned (.bool false)) w5 from take_none rfl HS5.out.1 HS5.out.2 (HNo.out _ (.inl hw)))
    go_wp2_with fail
    refine Hwh.out.mono ?_
    rintro e w6 ⟨rfl, rfl⟩
    go_wp2_with fail
    go_ret
    exact HE.out
  · have hw' : R2.whole = true := by cases h : R2.whole <;> simp_all
    rw [hw'] at Hwh
    by_cases h1 : k < 1
    · have HE := Lib.hid (show TakeTold w w1 l d pre D M F t la b (.returned (.bool false)) w5 from take_none rfl HS5.out.1 HS5.out.2 (HNo.out _ (.inr (.inl h1))))
      go_wp2_with fail
      refine Hwh.out.mono ?_
      rintro e w6 ⟨rfl, rfl⟩
      go_wp2_with fail
      go_ret
      exact HE.out
    · by_cases h2 : 1099511627776 < k
      · have HE := Lib.hid (show TakeTold w w1 l d pre D M F t la b (.returned (.bool false)) w5 from take_none rfl HS5.out.1 HS5.out.2 (HNo.out _ (.inr (.inr (.inl h2)))))
        go_wp2_with fail
        refine Hwh.out.mono ?_
        rintro e w6 ⟨rfl, rfl⟩
        go_wp2_with fail
        go_ret
        exact HE.out
      · have hlw : IntKind.i64.wrap (la + 1) = la + 1 := IntWalk.i64_in _ (by omega)
        by_cases h3 : 0 ≤ la ∧ (k : Int) ≠ la + 1
        · obtain ⟨h3a, h3b⟩ := h3
          have hd3 : decide (0 ≤ la) = true := by simpa using h3a
          have hne : ((k : Int) != la + 1) = true := by simpa using h3b
          have HE := Lib.hid (show TakeTold w w1 l d pre D M F t la b (.returned (.bool false)) w5 from take_none rfl HS5.out.1 HS5.out.2 (HNo.out _ (.inr (.inr (.inr ⟨h3a, h3b⟩)))))
          go_wp2_with fail
          refine Hwh.out.mono ?_
          rintro e w6 ⟨rfl, rfl⟩
          go_wp2_with fail
          go_ret
          exact HE.out
        · have HOK := Lib.hid (show ¬ (R2.whole = false ∨ k < 1 ∨ 1099511627776 < k ∨ (0 ≤ la ∧ (k : Int) ≠ la + 1)) from by rintro (h | h | h | h); exact hw h; exact h1 h; exact h2 h; exact h3 h)
          have HL5 := Lib.hid (show LedF w w5 l d pre D M (fun k => F k ∨ (Value.slice pu b5.length cu).ownBlock = some k) from H.out.more HB5.out fun k hk => hk.imp id fun e => ⟨Hn5.out k e, OwnR.lt HV5.out e⟩)
          have HL6 := Lib.hid (show LedF w (w5.setCell ⟨t, 1, none⟩ (.int .i64 (k : Int))) l d pre D M (fun k => F k ∨ (Value.slice pu b5.length cu).ownBlock = some k) from HL5.out.move (Chg.setCell w5 ⟨t, 1, none⟩ _) (fun j _ e => by rw [e]; exact ⟨.inl HFt.out, htn⟩) fun j hj => ⟨.inl hj, by have := HL5.out.flt hj; simpa [World.setCell] using this⟩)
          have HT6 := Lib.hid (show (w5.setCell ⟨t, 1, none⟩ (.int .i64 (k : Int))).heap[t]? = some (takerO l (k : Int)) from by have := set_block HT5.out 1 (.int .i64 (k : Int)); simpa [takerO] using this)
          have HF6 := Lib.hid (show ∀ j, F j → j ≠ t → (w5.setCell ⟨t, 1, none⟩ (.int .i64 (k : Int))).heap[j]? = w1.heap[j]? from fun j hj hjt => (set_other _ hjt).trans (HB5.out.block j (H.out.flt hj)))
          obtain ⟨dv, ev, hcl, -⟩ := HL6.out.cells
          have k62 := cell_of hcl (i := 2) rfl
          have kt60 : (w5.setCell ⟨t, 1, none⟩ (.int .i64 (k : Int))).cell? ⟨t, 0, none⟩ = some (.pointer (some ⟨l, 0, none⟩)) := cell_of HT6.out rfl
          have HV6 := Lib.hid (show OwnB (w5.setCell ⟨t, 1, none⟩ (.int .i64 (k : Int))) 5 (.slice pu b5.length cu) b5 from OwnR.keep HV5.out fun j hj => set_other _ fun e => by have := Hn5.out j hj; have h5 : j = t := e; omega)
          clear hcl
          by_cases hold : k ≤ M.base
          · have HE := Lib.hid (show TakeTold w w1 l d pre D M F t la b (.returned (.bool true)) (w5.setCell ⟨t, 1, none⟩ (.int .i64 (k : Int))) from take_some rfl (s := ((k : Int), M.entries)) (HL6.out.less fun _ h => .inl h) HF6.out HT6.out (HOld.out _ HOK.out hold))
            have hol : ((k : Int)) ≤ (M.base : Int) := by omega
            generalize M.base = base at *
            by_cases hl0 : 0 ≤ la
            · have hkl : (k : Int) = la + 1 := by omega
              have hne : ((k : Int) != la + 1) = false := by simp [hkl]
              have hd3 : decide (0 ≤ la) = true := by simpa using hl0
              clear hkl
              go_wp2_with fail
              refine Hwh.out.mono ?_
              rintro e w6 ⟨rfl, rfl⟩
              go_wp2_with fail
              go_ret
              exact HE.out
            · have hd3 : decide (0 ≤ la) = false := by simpa using hl0
              go_wp2_with fail
              refine Hwh.out.mono ?_
              rintro e w6 ⟨rfl, rfl⟩
              go_wp2_with fail
              go_ret
              exact HE.out
          · have Hla6 := Lib.hid (last_calls HL6.out)
            have hgt : (M.base : Int) < (k : Int) := by omega
            have HLa := Lib.hid (show M.last = M.base + M.entries.length from rfl)
            have Hlb := Lib.hid HL6.out.last
            by_cases hgap : k ≠ M.base + M.entries.length + 1
            · have HE := Lib.hid (fun q => (show TakeTold w w1 l d pre D M F t la b (.returned (.bool false)) ((w5.setCell ⟨t, 1, none⟩ (.int .i64 (k : Int))).drewN q) from take_none rfl ((HL6.out.less fun _ h => .inl h).stF.drewN q) HF6.out (HGap.out _ HOK.out hold hgap)))
              have hlb := Hlb.out
              have hne2 : (k : Int) ≠ (M.last : Int) + 1 := by have := HLa.out; omega
              have hne2' : ((k : Int) != (M.last : Int) + 1) = true := by simpa using hne2
              clear hgap hold hne2
              generalize M.last = lst at *
              generalize M.base = base at *
              by_cases hl0 : 0 ≤ la
              · have hkl : (k : Int) = la + 1 := by
                  have := HOK.out
                  exact Classical.byContradiction fun e => this (.inr (.inr (.inr ⟨hl0, e⟩)))
                have hne : ((k : Int) != la + 1) = false := by simp [hkl]
                have hd3 : decide (0 ≤ la) = true := by simpa using hl0
                clear hkl
                go_wp2_with fail
                refine Hwh.out.mono ?_
                rintro e w6 ⟨rfl, rfl⟩
                go_wp2_with fail
                refine Hla6.out.mono ?_
                rintro e w7 ⟨rfl, q, rfl⟩
                go_wp2_with fail
                go_ret
                exact HE.out q
              · have hd3 : decide (0 ≤ la) = false := by simpa using hl0
                go_wp2_with fail
                refine Hwh.out.mono ?_
                rintro e w6 ⟨rfl, rfl⟩
                go_wp2_with fail
                refine Hla6.out.mono ?_
                rintro e w7 ⟨rfl, q, rfl⟩
                go_wp2_with fail
                go_ret
                exact HE.out q
            · have hkv : k = M.base + M.entries.length + 1 := Classical.not_not.1 hgap
              have HNw := Lib.hid (HNew.out ((la, M.entries) : Int × List Bs) HOK.out hold hgap)
              have hlb := Hlb.out
              have hla3 : M.last + 1 ≤ 1099511627776 := by have := HLa.out; omega
              have hne2 : ((k : Int) != (M.last : Int) + 1) = false := by have := HLa.out; simp; omega
              have hm40 : M.entries.length ≤ 1099511627776 := by have := HLa.out; omega
              have Hm3 := Lib.hid hla3
              clear hgap hold hkv HLa hla3
              by_cases hl0 : 0 ≤ la
              · have hkl : (k : Int) = la + 1 := by
                  have := HOK.out
                  exact Classical.byContradiction fun e => this (.inr (.inr (.inr ⟨hl0, e⟩)))
                have hne : ((k : Int) != la + 1) = false := by simp [hkl]
                have hd3 : decide (0 ≤ la) = true := by simpa using hl0
                clear hkl
                generalize hW6 : w5.setCell ⟨t, 1, none⟩ (.int .i64 (k : Int)) = w6 at *
                go_wp2_with fail
                refine Hwh.out.mono ?_
                rintro e w8 ⟨rfl, rfl⟩
                go_wp2_with fail
                refine Hla6.out.mono ?_
                rintro e w7 ⟨rfl, q, rfl⟩
                clear hW6
                have kt60 : (w6.drewN q).cell? ⟨t, 0, none⟩ = some (.pointer (some ⟨l, 0, none⟩)) := kt60
                go_wp2_with fail
                refine ord_start (fun w' : World => w'.cell? ⟨t, 0, none⟩ = some (.pointer (some ⟨l, 0, none⟩))) (n := 17) (by kernel_rfl) rfl (kt60) (fun hHeld => ?_)
                have hL7 := HL6.out.next (show Below w6.heap.size w6 (w6.drewN q).drew from ⟨rfl, rfl, rfl, Nat.le_refl _, fun _ _ => rfl⟩)
                have hT7 : (w6.drewN q).drew.heap[t]? = some (takerO l (k : Int)) := HT6.out
                have hV7 : OwnB (w6.drewN q).drew 5 (.slice pu b5.length cu) b5 := OwnR.keep HV6.out fun _ _ => rfl
                have hF7 : ∀ j, F j → j ≠ t → (w6.drewN q).drew.heap[j]? = w1.heap[j]? := HF6.out
                generalize (w6.drewN q).drew = W1 at *
                obtain ⟨own, dv, ev, vs, hL, hS, hn, hl⟩ := hL7
                have h4 := hL.c4
                have k0 := hL.c0
                have hnt : ¬ own t := fun ho => (hn t ho).2 (.inl HFt.out)
                have htl : t ≠ l := fun e => hlt e.symm
                have Ht0 := Lib.hid (cell_of hT7 (i := 0) rfl : W1.cell? ⟨t, 0, none⟩ = some (.pointer (some ⟨l, 0, none⟩)))
                have HalR := Lib.hid (hL.row.keep (w' := W1.alloc (.cells #[.slice pu b5.length cu] 33)) fun j hj => (below_one0 W1 _).block j (OwnR.lt hL.row hj))
                have Hxx := Lib.hid (slit_one W1 (.slice pu b5.length cu) 33 (0, 0))
                have HP := Lib.hid (show ∀ v3 w3, OwnR w3 33 1 v3 (M.entries.length + 1) (vs ++ [.slice pu b5.length cu]) → (W1.alloc (.cells #[.slice pu b5.length cu] 33)).grownBy w3 ev.ownBlock → (v3.ownBlock = ev.ownBlock ∨ ∃ g, v3.ownBlock = some g ∧ (W1.alloc (.cells #[.slice pu b5.length cu] 33)).heap.size ≤ g) → TakeTold w w1 l d pre D M F t la b (.returned (.bool true)) (w3.setCell ⟨l, 4, none⟩ v3) ∧ w3.heap[t]? = W1.heap[t]? ∧ w3.heap[l]? = some (.cells #[.pointer (some ⟨d, 0, none⟩), .string pre, .int .i64 (M.base : Int), dv, ev, .bool M.dead] 56 (0, 0)) from fun v3 w3 hown3 hgrow3 hloc3 => by
                  obtain ⟨hP1, hP2, hP3, hP4⟩ := led_push hL hV7 (fun j hj ho => (hn j ho).2 (.inr hj)) Hbl.out Hm3.out (below_one0 W1 _) hown3 hgrow3 hloc3
                  have hpt : w3.heap[t]? = W1.heap[t]? := (hgrow3.block t (Nat.lt_of_lt_of_le (hl t (.inl HFt.out)) (below_one0 W1 _).size) fun e => hnt (hL.oe t e.symm).1).trans ((below_one0 W1 _).block t (hl t (.inl HFt.out)))
                  obtain ⟨hQ1, hQ2⟩ := LedF.taken hS hn hl (fun j hj => .inl hj) hP1 hP2 fun j hj => by
                    rcases hj with hj | hj | hj
                    · exact .inl hj
                    · exact .inr (.inr ⟨.inr hj, fun hf => by have h5 := Hn5.out j hj; have h6 := H.out.flt hf; omega, Nat.le_trans H.out.bel.size (Hn5.out j hj)⟩)
                    · rcases hP3 j hj with h | h
                      · exact .inl h
                      · exact .inr (.inl h)
                  exact ⟨take_some rfl (s := ((k : Int), M.entries ++ [b5])) hQ1 (fun j hj hjt => (hQ2 j hj).trans (hF7 j hj hjt)) ((set_other v3 htl).trans (hpt.trans hT7)) HNw.out, hpt, hP4.trans hL.cells⟩)
                clear hL hS hn hl hT7 hV7 hF7 k62 kt0 kt1 ft1
                generalize M.entries.length = m at *
                generalize b5.length = q5 at *
                refine ord_take 0 (v := ?v15x0) rfl (by kernel_rfl) (by kernel_rfl) (by kernel_rfl) (fun _ _ _ h => h) (by rfl) (by assumption) ?y15x0 ?_
                case y15x0 => (intro w hSw; (try dsimp only at hSw); go_simp; try with_reducible rfl)
                simp only [Act.put, List.setIfInBounds_toArray, List.set_cons_zero, List.set_cons_succ]
                refine ord_take 1 (v := ?v15x1) rfl (by kernel_rfl) (by kernel_rfl) (by kernel_rfl) (fun _ _ _ h => h) (by rfl) (by assumption) ?y15x1 ?_
                case y15x1 => (intro w hSw; (try dsimp only at hSw); go_simp; try with_reducible rfl)
                simp only [Act.put, List.setIfInBounds_toArray, List.set_cons_zero, List.set_cons_succ]
                refine ord_take 2 (v := ?v15x2) rfl (by kernel_rfl) (by kernel_rfl) (by kernel_rfl) (fun _ _ _ h => h) (by rfl) (by assumption) ?y15x2 ?_
                case y15x2 => (intro w hSw; (try dsimp only at hSw); go_simp; try with_reducible rfl)
                simp only [Act.put, List.setIfInBounds_toArray, List.set_cons_zero, List.set_cons_succ]
                refine ord_take 3 (v := ?v15x3) rfl (by kernel_rfl) (by kernel_rfl) (by kernel_rfl) (fun _ _ _ h => h) (by rfl) (by assumption) ?y15x3 ?_
                case y15x3 => (intro w hSw; (try dsimp only at hSw); go_simp; try with_reducible rfl)
                simp only [Act.put, List.setIfInBounds_toArray, List.set_cons_zero, List.set_cons_succ]
                refine ord_take 4 (v := ?v15x4) rfl (by kernel_rfl) (by kernel_rfl) (by kernel_rfl) (fun _ _ _ h => h) (by rfl) (by assumption) ?y15x4 ?_
                case y15x4 => (intro w hSw; (try dsimp only at hSw); go_simp; try with_reducible rfl)
                simp only [Act.put, List.setIfInBounds_toArray, List.set_cons_zero, List.set_cons_succ]
                refine ord_take 5 (v := ?v15x5) rfl (by kernel_rfl) (by kernel_rfl) (by kernel_rfl) (fun _ _ _ h => h) (by rfl) (by assumption) ?y15x5 ?_
                case y15x5 => (intro w hSw; (try dsimp only at hSw); go_simp; try with_reducible rfl)
                simp only [Act.put, List.setIfInBounds_toArray, List.set_cons_zero, List.set_cons_succ]
                refine ord_take 6 (v := ?v15x6) rfl (by kernel_rfl) (by kernel_rfl) (by kernel_rfl) (fun _ _ _ h => h) (by rfl) (by assumption) ?y15x6 ?_
                case y15x6 => (intro w hSw; (try dsimp only at hSw); go_simp; try with_reducible rfl)
                simp only [Act.put, List.setIfInBounds_toArray, List.set_cons_zero, List.set_cons_succ]
                refine ord_take 7 (v := ?v15x7) rfl (by kernel_rfl) (by kernel_rfl) (by kernel_rfl) (fun _ _ _ h => h) (by rfl) (by assumption) ?y15x7 ?_
                case y15x7 => (intro w hSw; (try dsimp only at hSw); go_simp; try with_reducible rfl)
                simp only [Act.put, List.setIfInBounds_toArray, List.set_cons_zero, List.set_cons_succ]
                refine ord_take 8 (v := ?v15x8) rfl (by kernel_rfl) (by kernel_rfl) (by kernel_rfl) (fun _ _ _ h => h) (by rfl) (by assumption) ?y15x8 ?_
                case y15x8 => (intro w hSw; (try dsimp only at hSw); go_simp; try with_reducible rfl)
                simp only [Act.put, List.setIfInBounds_toArray, List.set_cons_zero, List.set_cons_succ]
                refine ord_take 9 (v := ?v15x9) rfl (by kernel_rfl) (by kernel_rfl) (by kernel_rfl) (fun _ _ _ h => h) (by rfl) (by assumption) ?y15x9 ?_
                case y15x9 => (intro w hSw; (try dsimp only at hSw); go_simp; try with_reducible rfl)
                simp only [Act.put, List.setIfInBounds_toArray, List.set_cons_zero, List.set_cons_succ]
                refine ord_take 11 (v := ?v15x11) rfl (by kernel_rfl) (by kernel_rfl) (by kernel_rfl) (fun _ _ _ h => h) (by rfl) (by assumption) ?y15x11 ?_
                case y15x11 => (intro w hSw; (try dsimp only at hSw); go_simp; try with_reducible rfl)
                simp only [Act.put, List.setIfInBounds_toArray, List.set_cons_zero, List.set_cons_succ]
                refine ord_both 10 12 rfl rfl (by kernel_rfl) (by rfl) (by rfl) (fun K hK => ?_) (fun K hK => ?_)
                · go_wp2_with fail
                  refine hK.out _ _ (hHeld) (fun hHeld => ?_)
                  clear hK
                  try simp only [Act.put, List.setIfInBounds_toArray, List.set_cons_zero, List.set_cons_succ]
                  refine ord_one 12 rfl (by kernel_rfl) (by rfl) (fun K hK => ?_)
                  go_wp2_with fail
                  refine hK.out _ _ (al_cell hHeld _) (fun hHeld => ?_)
                  clear hK
                  try simp only [Act.put, List.setIfInBounds_toArray, List.set_cons_zero, List.set_cons_succ]
                  refine ord_one 13 rfl (by kernel_rfl) (by rfl) (fun K hK => ?_)
                  refine wp_app (.tmp 72) (.tmp 74) 45 rfl 33 i0 (.slice none 0 0) 1 24 Try.underlying45 hi hz0 hz1 hz2 rfl (by decide) _ m _ rfl HalR.out (.slice (some ⟨W1.heap.size, 0, none⟩) 1 1) 1 _ rfl Hxx.out (by simp [Value.oneCell']) (by unfold maxLen; omega) (by omega) ?_
                  intro v3 w3 hown3 hgrow3 hloc3
                  have HE := Lib.hid (HP.out v3 w3 hown3 hgrow3 hloc3)
                  have k4 := cell_of HE.out.2.2 (i := 4) rfl
                  have f4 := frozen_of HE.out.2.2 4
                  have kt3 : w3.cell? ⟨t, 0, none⟩ = some (.pointer (some ⟨l, 0, none⟩)) := (World.cell?_of_block (a := ⟨t, 0, none⟩) HE.out.2.1).trans Ht0.out
                  obtain ⟨p3, q3, rfl⟩ := OwnR.shape hown3
                  clear hown3 hgrow3 hloc3
                  refine hK.out _ _ kt3 (fun hHeld => ?_)
                  clear hK
                  try simp only [Act.put, List.setIfInBounds_toArray, List.set_cons_zero, List.set_cons_succ]
                  refine ord_take 14 (v := ?v16x14) rfl (by kernel_rfl) (by kernel_rfl) (by kernel_rfl) (fun _ _ _ h => h) (by rfl) (by assumption) ?y16x14 ?_
                  case y16x14 => (intro w hSw; (try dsimp only at hSw); go_simp; try with_reducible rfl)
                  simp only [Act.put, List.setIfInBounds_toArray, List.set_cons_zero, List.set_cons_succ]
                  refine ord_take 15 (v := ?v16x15) rfl (by kernel_rfl) (by kernel_rfl) (by kernel_rfl) (fun _ _ _ h => h) (by rfl) (by assumption) ?y16x15 ?_
                  case y16x15 => (intro w hSw; (try dsimp only at hSw); go_simp; try with_reducible rfl)
                  simp only [Act.put, List.setIfInBounds_toArray, List.set_cons_zero, List.set_cons_succ]
                  refine ord_one 16 rfl (by kernel_rfl) (by rfl) (fun K hK => ?_)
                  go_wp2_with fail
                  refine hK.out _ _ ((World.cell?_of_block (a := ⟨t, 0, none⟩) (set_other _ htl)).trans kt3) (fun hHeld => ?_)
                  clear hK
                  try simp only [Act.put, List.setIfInBounds_toArray, List.set_cons_zero, List.set_cons_succ]
                  refine wpAnyH_done (by kernel_rfl) ?_ _
                  go_wp2_with fail
                  go_ret
                  exact HE.out.1
                · have h4a := al_cell h4 (.cells #[.slice pu q5 cu] 33)
                  go_wp2_with fail
                  refine hK.out _ _ (al_cell hHeld _) (fun hHeld => ?_)
                  clear hK
                  try simp only [Act.put, List.setIfInBounds_toArray, List.set_cons_zero, List.set_cons_succ]
                  refine ord_one 10 rfl (by kernel_rfl) (by rfl) (fun K hK => ?_)
                  go_wp2_with fail
                  refine hK.out _ _ (hHeld) (fun hHeld => ?_)
                  clear hK
                  try simp only [Act.put, List.setIfInBounds_toArray, List.set_cons_zero, List.set_cons_succ]
                  refine ord_one 13 rfl (by kernel_rfl) (by rfl) (fun K hK => ?_)
                  refine wp_app (.tmp 72) (.tmp 74) 45 rfl 33 i0 (.slice none 0 0) 1 24 Try.underlying45 hi hz0 hz1 hz2 rfl (by decide) _ m _ rfl HalR.out (.slice (some ⟨W1.heap.size, 0, none⟩) 1 1) 1 _ rfl Hxx.out (by simp [Value.oneCell']) (by unfold maxLen; omega) (by omega) ?_
                  intro v3 w3 hown3 hgrow3 hloc3
                  have HE := Lib.hid (HP.out v3 w3 hown3 hgrow3 hloc3)
                  have k4 := cell_of HE.out.2.2 (i := 4) rfl
                  have f4 := frozen_of HE.out.2.2 4
                  have kt3 : w3.cell? ⟨t, 0, none⟩ = some (.pointer (some ⟨l, 0, none⟩)) := (World.cell?_of_block (a := ⟨t, 0, none⟩) HE.out.2.1).trans Ht0.out
                  obtain ⟨p3, q3, rfl⟩ := OwnR.shape hown3
                  clear hown3 hgrow3 hloc3
                  refine hK.out _ _ kt3 (fun hHeld => ?_)
                  clear hK
                  try simp only [Act.put, List.setIfInBounds_toArray, List.set_cons_zero, List.set_cons_succ]
                  refine ord_take 14 (v := ?v17x14) rfl (by kernel_rfl) (by kernel_rfl) (by kernel_rfl) (fun _ _ _ h => h) (by rfl) (by assumption) ?y17x14 ?_
                  case y17x14 => (intro w hSw; (try dsimp only at hSw); go_simp; try with_reducible rfl)
                  simp only [Act.put, List.setIfInBounds_toArray, List.set_cons_zero, List.set_cons_succ]
                  refine ord_take 15 (v := ?v17x15) rfl (by kernel_rfl) (by kernel_rfl) (by kernel_rfl) (fun _ _ _ h => h) (by rfl) (by assumption) ?y17x15 ?_
                  case y17x15 => (intro w hSw; (try dsimp only at hSw); go_simp; try with_reducible rfl)
                  simp only [Act.put, List.setIfInBounds_toArray, List.set_cons_zero, List.set_cons_succ]
                  refine ord_one 16 rfl (by kernel_rfl) (by rfl) (fun K hK => ?_)
                  go_wp2_with fail
                  refine hK.out _ _ ((World.cell?_of_block (a := ⟨t, 0, none⟩) (set_other _ htl)).trans kt3) (fun hHeld => ?_)
                  clear hK
                  try simp only [Act.put, List.setIfInBounds_toArray, List.set_cons_zero, List.set_cons_succ]
                  refine wpAnyH_done (by kernel_rfl) ?_ _
                  go_wp2_with fail
                  go_ret
                  exact HE.out.1
              · have hd3 : decide (0 ≤ la) = false := by simpa using hl0
                generalize hW6 : w5.setCell ⟨t, 1, none⟩ (.int .i64 (k : Int)) = w6 at *
                go_wp2_with fail
                refine Hwh.out.mono ?_
                rintro e w8 ⟨rfl, rfl⟩
                go_wp2_with fail
                refine Hla6.out.mono ?_
                rintro e w7 ⟨rfl, q, rfl⟩
                clear hW6
                have kt60 : (w6.drewN q).cell? ⟨t, 0, none⟩ = some (.pointer (some ⟨l, 0, none⟩)) := kt60
                go_wp2_with fail
                refine ord_start (fun w' : World => w'.cell? ⟨t, 0, none⟩ = some (.pointer (some ⟨l, 0, none⟩))) (n := 17) (by kernel_rfl) rfl (kt60) (fun hHeld => ?_)
                have hL7 := HL6.out.next (show Below w6.heap.size w6 (w6.drewN q).drew from ⟨rfl, rfl, rfl, Nat.le_refl _, fun _ _ => rfl⟩)
                have hT7 : (w6.drewN q).drew.heap[t]? = some (takerO l (k : Int)) := HT6.out
                have hV7 : OwnB (w6.drewN q).drew 5 (.slice pu b5.length cu) b5 := OwnR.keep HV6.out fun _ _ => rfl
                have hF7 : ∀ j, F j → j ≠ t → (w6.drewN q).drew.heap[j]? = w1.heap[j]? := HF6.out
                generalize (w6.drewN q).drew = W1 at *
                obtain ⟨own, dv, ev, vs, hL, hS, hn, hl⟩ := hL7
                have h4 := hL.c4
                have k0 := hL.c0
                have hnt : ¬ own t := fun ho => (hn t ho).2 (.inl HFt.out)
                have htl : t ≠ l := fun e => hlt e.symm
                have Ht0 := Lib.hid (cell_of hT7 (i := 0) rfl : W1.cell? ⟨t, 0, none⟩ = some (.pointer (some ⟨l, 0, none⟩)))
                have HalR := Lib.hid (hL.row.keep (w' := W1.alloc (.cells #[.slice pu b5.length cu] 33)) fun j hj => (below_one0 W1 _).block j (OwnR.lt hL.row hj))
                have Hxx := Lib.hid (slit_one W1 (.slice pu b5.length cu) 33 (0, 0))
                have HP := Lib.hid (show ∀ v3 w3, OwnR w3 33 1 v3 (M.entries.length + 1) (vs ++ [.slice pu b5.length cu]) → (W1.alloc (.cells #[.slice pu b5.length cu] 33)).grownBy w3 ev.ownBlock → (v3.ownBlock = ev.ownBlock ∨ ∃ g, v3.ownBlock = some g ∧ (W1.alloc (.cells #[.slice pu b5.length cu] 33)).heap.size ≤ g) → TakeTold w w1 l d pre D M F t la b (.returned (.bool true)) (w3.setCell ⟨l, 4, none⟩ v3) ∧ w3.heap[t]? = W1.heap[t]? ∧ w3.heap[l]? = some (.cells #[.pointer (some ⟨d, 0, none⟩), .string pre, .int .i64 (M.base : Int), dv, ev, .bool M.dead] 56 (0, 0)) from fun v3 w3 hown3 hgrow3 hloc3 => by
                  obtain ⟨hP1, hP2, hP3, hP4⟩ := led_push hL hV7 (fun j hj ho => (hn j ho).2 (.inr hj)) Hbl.out Hm3.out (below_one0 W1 _) hown3 hgrow3 hloc3
                  have hpt : w3.heap[t]? = W1.heap[t]? := (hgrow3.block t (Nat.lt_of_lt_of_le (hl t (.inl HFt.out)) (below_one0 W1 _).size) fun e => hnt (hL.oe t e.symm).1).trans ((below_one0 W1 _).block t (hl t (.inl HFt.out)))
                  obtain ⟨hQ1, hQ2⟩ := LedF.taken hS hn hl (fun j hj => .inl hj) hP1 hP2 fun j hj => by
                    rcases hj with hj | hj | hj
                    · exact .inl hj
                    · exact .inr (.inr ⟨.inr hj, fun hf => by have h5 := Hn5.out j hj; have h6 := H.out.flt hf; omega, Nat.le_trans H.out.bel.size (Hn5.out j hj)⟩)
                    · rcases hP3 j hj with h | h
                      · exact .inl h
                      · exact .inr (.inl h)
                  exact ⟨take_some rfl (s := ((k : Int), M.entries ++ [b5])) hQ1 (fun j hj hjt => (hQ2 j hj).trans (hF7 j hj hjt)) ((set_other v3 htl).trans (hpt.trans hT7)) HNw.out, hpt, hP4.trans hL.cells⟩)
                clear hL hS hn hl hT7 hV7 hF7 k62 kt0 kt1 ft1
                generalize M.entries.length = m at *
                generalize b5.length = q5 at *
                refine ord_take 0 (v := ?v20x0) rfl (by kernel_rfl) (by kernel_rfl) (by kernel_rfl) (fun _ _ _ h => h) (by rfl) (by assumption) ?y20x0 ?_
                case y20x0 => (intro w hSw; (try dsimp only at hSw); go_simp; try with_reducible rfl)
                simp only [Act.put, List.setIfInBounds_toArray, List.set_cons_zero, List.set_cons_succ]
                refine ord_take 1 (v := ?v20x1) rfl (by kernel_rfl) (by kernel_rfl) (by kernel_rfl) (fun _ _ _ h => h) (by rfl) (by assumption) ?y20x1 ?_
                case y20x1 => (intro w hSw; (try dsimp only at hSw); go_simp; try with_reducible rfl)
                simp only [Act.put, List.setIfInBounds_toArray, List.set_cons_zero, List.set_cons_succ]
                refine ord_take 2 (v := ?v20x2) rfl (by kernel_rfl) (by kernel_rfl) (by kernel_rfl) (fun _ _ _ h => h) (by rfl) (by assumption) ?y20x2 ?_
                case y20x2 => (intro w hSw; (try dsimp only at hSw); go_simp; try with_reducible rfl)
                simp only [Act.put, List.setIfInBounds_toArray, List.set_cons_zero, List.set_cons_succ]
                refine ord_take 3 (v := ?v20x3) rfl (by kernel_rfl) (by kernel_rfl) (by kernel_rfl) (fun _ _ _ h => h) (by rfl) (by assumption) ?y20x3 ?_
                case y20x3 => (intro w hSw; (try dsimp only at hSw); go_simp; try with_reducible rfl)
                simp only [Act.put, List.setIfInBounds_toArray, List.set_cons_zero, List.set_cons_succ]
                refine ord_take 4 (v := ?v20x4) rfl (by kernel_rfl) (by kernel_rfl) (by kernel_rfl) (fun _ _ _ h => h) (by rfl) (by assumption) ?y20x4 ?_
                case y20x4 => (intro w hSw; (try dsimp only at hSw); go_simp; try with_reducible rfl)
                simp only [Act.put, List.setIfInBounds_toArray, List.set_cons_zero, List.set_cons_succ]
                refine ord_take 5 (v := ?v20x5) rfl (by kernel_rfl) (by kernel_rfl) (by kernel_rfl) (fun _ _ _ h => h) (by rfl) (by assumption) ?y20x5 ?_
                case y20x5 => (intro w hSw; (try dsimp only at hSw); go_simp; try with_reducible rfl)
                simp only [Act.put, List.setIfInBounds_toArray, List.set_cons_zero, List.set_cons_succ]
                refine ord_take 6 (v := ?v20x6) rfl (by kernel_rfl) (by kernel_rfl) (by kernel_rfl) (fun _ _ _ h => h) (by rfl) (by assumption) ?y20x6 ?_
                case y20x6 => (intro w hSw; (try dsimp only at hSw); go_simp; try with_reducible rfl)
                simp only [Act.put, List.setIfInBounds_toArray, List.set_cons_zero, List.set_cons_succ]
                refine ord_take 7 (v := ?v20x7) rfl (by kernel_rfl) (by kernel_rfl) (by kernel_rfl) (fun _ _ _ h => h) (by rfl) (by assumption) ?y20x7 ?_
                case y20x7 => (intro w hSw; (try dsimp only at hSw); go_simp; try with_reducible rfl)
                simp only [Act.put, List.setIfInBounds_toArray, List.set_cons_zero, List.set_cons_succ]
                refine ord_take 8 (v := ?v20x8) rfl (by kernel_rfl) (by kernel_rfl) (by kernel_rfl) (fun _ _ _ h => h) (by rfl) (by assumption) ?y20x8 ?_
                case y20x8 => (intro w hSw; (try dsimp only at hSw); go_simp; try with_reducible rfl)
                simp only [Act.put, List.setIfInBounds_toArray, List.set_cons_zero, List.set_cons_succ]
                refine ord_take 9 (v := ?v20x9) rfl (by kernel_rfl) (by kernel_rfl) (by kernel_rfl) (fun _ _ _ h => h) (by rfl) (by assumption) ?y20x9 ?_
                case y20x9 => (intro w hSw; (try dsimp only at hSw); go_simp; try with_reducible rfl)
                simp only [Act.put, List.setIfInBounds_toArray, List.set_cons_zero, List.set_cons_succ]
                refine ord_take 11 (v := ?v20x11) rfl (by kernel_rfl) (by kernel_rfl) (by kernel_rfl) (fun _ _ _ h => h) (by rfl) (by assumption) ?y20x11 ?_
                case y20x11 => (intro w hSw; (try dsimp only at hSw); go_simp; try with_reducible rfl)
                simp only [Act.put, List.setIfInBounds_toArray, List.set_cons_zero, List.set_cons_succ]
                refine ord_both 10 12 rfl rfl (by kernel_rfl) (by rfl) (by rfl) (fun K hK => ?_) (fun K hK => ?_)
                · go_wp2_with fail
                  refine hK.out _ _ (hHeld) (fun hHeld => ?_)
                  clear hK
                  try simp only [Act.put, List.setIfInBounds_toArray, List.set_cons_zero, List.set_cons_succ]
                  refine ord_one 12 rfl (by kernel_rfl) (by rfl) (fun K hK => ?_)
                  go_wp2_with fail
                  refine hK.out _ _ (al_cell hHeld _) (fun hHeld => ?_)
                  clear hK
                  try simp only [Act.put, List.setIfInBounds_toArray, List.set_cons_zero, List.set_cons_succ]
                  refine ord_one 13 rfl (by kernel_rfl) (by rfl) (fun K hK => ?_)
                  refine wp_app (.tmp 72) (.tmp 74) 45 rfl 33 i0 (.slice none 0 0) 1 24 Try.underlying45 hi hz0 hz1 hz2 rfl (by decide) _ m _ rfl HalR.out (.slice (some ⟨W1.heap.size, 0, none⟩) 1 1) 1 _ rfl Hxx.out (by simp [Value.oneCell']) (by unfold maxLen; omega) (by omega) ?_
                  intro v3 w3 hown3 hgrow3 hloc3
                  have HE := Lib.hid (HP.out v3 w3 hown3 hgrow3 hloc3)
                  have k4 := cell_of HE.out.2.2 (i := 4) rfl
                  have f4 := frozen_of HE.out.2.2 4
                  have kt3 : w3.cell? ⟨t, 0, none⟩ = some (.pointer (some ⟨l, 0, none⟩)) := (World.cell?_of_block (a := ⟨t, 0, none⟩) HE.out.2.1).trans Ht0.out
                  obtain ⟨p3, q3, rfl⟩ := OwnR.shape hown3
                  clear hown3 hgrow3 hloc3
                  refine hK.out _ _ kt3 (fun hHeld => ?_)
                  clear hK
                  try simp only [Act.put, List.setIfInBounds_toArray, List.set_cons_zero, List.set_cons_succ]
                  refine ord_take 14 (v := ?v21x14) rfl (by kernel_rfl) (by kernel_rfl) (by kernel_rfl) (fun _ _ _ h => h) (by rfl) (by assumption) ?y21x14 ?_
                  case y21x14 => (intro w hSw; (try dsimp only at hSw); go_simp; try with_reducible rfl)
                  simp only [Act.put, List.setIfInBounds_toArray, List.set_cons_zero, List.set_cons_succ]
                  refine ord_take 15 (v := ?v21x15) rfl (by kernel_rfl) (by kernel_rfl) (by kernel_rfl) (fun _ _ _ h => h) (by rfl) (by assumption) ?y21x15 ?_
                  case y21x15 => (intro w hSw; (try dsimp only at hSw); go_simp; try with_reducible rfl)
                  simp only [Act.put, List.setIfInBounds_toArray, List.set_cons_zero, List.set_cons_succ]
                  refine ord_one 16 rfl (by kernel_rfl) (by rfl) (fun K hK => ?_)
                  go_wp2_with fail
                  refine hK.out _ _ ((World.cell?_of_block (a := ⟨t, 0, none⟩) (set_other _ htl)).trans kt3) (fun hHeld => ?_)
                  clear hK
                  try simp only [Act.put, List.setIfInBounds_toArray, List.set_cons_zero, List.set_cons_succ]
                  refine wpAnyH_done (by kernel_rfl) ?_ _
                  go_wp2_with fail
                  go_ret
                  exact HE.out.1
                · have h4a := al_cell h4 (.cells #[.slice pu q5 cu] 33)
                  go_wp2_with fail
                  refine hK.out _ _ (al_cell hHeld _) (fun hHeld => ?_)
                  clear hK
                  try simp only [Act.put, List.setIfInBounds_toArray, List.set_cons_zero, List.set_cons_succ]
                  refine ord_one 10 rfl (by kernel_rfl) (by rfl) (fun K hK => ?_)
                  go_wp2_with fail
                  refine hK.out _ _ (hHeld) (fun hHeld => ?_)
                  clear hK
                  try simp only [Act.put, List.setIfInBounds_toArray, List.set_cons_zero, List.set_cons_succ]
                  refine ord_one 13 rfl (by kernel_rfl) (by rfl) (fun K hK => ?_)
                  refine wp_app (.tmp 72) (.tmp 74) 45 rfl 33 i0 (.slice none 0 0) 1 24 Try.underlying45 hi hz0 hz1 hz2 rfl (by decide) _ m _ rfl HalR.out (.slice (some ⟨W1.heap.size, 0, none⟩) 1 1) 1 _ rfl Hxx.out (by simp [Value.oneCell']) (by unfold maxLen; omega) (by omega) ?_
                  intro v3 w3 hown3 hgrow3 hloc3
                  have HE := Lib.hid (HP.out v3 w3 hown3 hgrow3 hloc3)
                  have k4 := cell_of HE.out.2.2 (i := 4) rfl
                  have f4 := frozen_of HE.out.2.2 4
                  have kt3 : w3.cell? ⟨t, 0, none⟩ = some (.pointer (some ⟨l, 0, none⟩)) := (World.cell?_of_block (a := ⟨t, 0, none⟩) HE.out.2.1).trans Ht0.out
                  obtain ⟨p3, q3, rfl⟩ := OwnR.shape hown3
                  clear hown3 hgrow3 hloc3
                  refine hK.out _ _ kt3 (fun hHeld => ?_)
                  clear hK
                  try simp only [Act.put, List.setIfInBounds_toArray, List.set_cons_zero, List.set_cons_succ]
                  refine ord_take 14 (v := ?v22x14) rfl (by kernel_rfl) (by kernel_rfl) (by kernel_rfl) (fun _ _ _ h => h) (by rfl) (by assumption) ?y22x14 ?_
                  case y22x14 => (intro w hSw; (try dsimp only at hSw); go_simp; try with_reducible rfl)
                  simp only [Act.put, List.setIfInBounds_toArray, List.set_cons_zero, List.set_cons_succ]
                  refine ord_take 15 (v := ?v22x15) rfl (by kernel_rfl) (by kernel_rfl) (by kernel_rfl) (fun _ _ _ h => h) (by rfl) (by assumption) ?y22x15 ?_
                  case y22x15 => (intro w hSw; (try dsimp only at hSw); go_simp; try with_reducible rfl)
                  simp only [Act.put, List.setIfInBounds_toArray, List.set_cons_zero, List.set_cons_succ]
                  refine ord_one 16 rfl (by kernel_rfl) (by rfl) (fun K hK => ?_)
                  go_wp2_with fail
                  refine hK.out _ _ ((World.cell?_of_block (a := ⟨t, 0, none⟩) (set_other _ htl)).trans kt3) (fun hHeld => ?_)
                  clear hK
                  try simp only [Act.put, List.setIfInBounds_toArray, List.set_cons_zero, List.set_cons_succ]
                  refine wpAnyH_done (by kernel_rfl) ?_ _
                  go_wp2_with fail
                  go_ret
                  exact HE.out.1
end
end Go.Proofs.Yteohbjkjfnflgaa
