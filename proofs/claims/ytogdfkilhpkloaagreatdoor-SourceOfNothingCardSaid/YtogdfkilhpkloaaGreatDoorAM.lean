/- The document's ledger: entries. (Printed by mkrl4.py.) The document's ledger: Open. (Printed by mkrl5.py.) The document's ledger: wrote, Append. The document's ledger: Append. The document's ledger: Append, walked. The document's ledger: Drop. (Printed by mkrl8.py.) The document's ledger: Write. (Printed by mkrl8.py.) satrapyref12.Is, satrapyref15.May; satrapyref1.Dec of 5; satrapyref15.prefix; satrapyref15.Make of nothing. -/
import Derived.Deep.DeepCutAuto
import Derived.StillTailTactics
import Derived.Test.YtogdfkilhpkloaaGreatDoorAA
import Derived.Test.YtogdfkilhpkloaaGreatDoorAG
import Derived.Test.YtogdfkilhpkloaaGreatDoorAH
import Derived.Test.YtogdfkilhpkloaaGreatDoorAI
import Derived.Test.YtogdfkilhpkloaaGreatDoorAK
import Derived.Test.YtogdfkilhpkloaaGreatDoorAL
namespace Go.Proofs.YtogdfkilhpkloaaGreatDoor
open Go.RowKit Go.Sat Go.Maps

/-- An entry is laid behind the others. -/
theorem LRIn.push {w1 w2 w3 : World} {l r : Nat} {pre : ByteArray} {O C : Nat → Prop} {M : LedM} {dv ev u v3 : Value} {vs : List Value} {x : Bs} (h : LRIn w1 l r pre O C M dv ev vs) (hb : Below w1.heap.size w1 w2) (hu : HasB w2 u x) (huo : ∀ k, u.ownBlock = some k → w1.heap.size ≤ k ∧ k < w2.heap.size)
    (hown : OwnR w3 39 1 v3 (M.entries.length + 1) (vs ++ [u])) (hgrow : w2.grownBy w3 ev.ownBlock) (hloc : v3.ownBlock = ev.ownBlock ∨ ∃ g, v3.ownBlock = some g ∧ w2.heap.size ≤ g) (hlast : M.last + 1 ≤ 1099511627776) (hx : x.length ≤ 1073741824) :
    LRIn (w3.setCell ⟨l, 4, none⟩ v3) l r pre (fun k => O k ∨ v3.ownBlock = some k) (fun k => C k ∨ u.ownBlock = some k) { M with entries := M.entries ++ [x] } dv v3 (vs ++ [u]) ∧ (∀ k, v3.ownBlock = some k → O k ∨ w1.heap.size ≤ k) ∧ Chg O w1 (w3.setCell ⟨l, 4, none⟩ v3) := by
  have hs := hb.size
  have hl1 := h.olt l h.oj
  have hg := Chg.of_grown hgrow
  have hgs := hg.size
  have hsz : (w3.setCell ⟨l, 4, none⟩ v3).heap.size = w3.heap.size := by simp [World.setCell]
  have hev : ∀ k, ev.ownBlock = some k → k < w1.heap.size := fun k hk => h.olt k (h.oe k hk).1
  have hv3 : ∀ k, v3.ownBlock = some k → ev.ownBlock = some k ∨ w2.heap.size ≤ k := fun k hk => by
    rcases hloc with e | ⟨g, e, hge⟩
    · exact .inl (e ▸ hk)
    · rw [hk] at e
      cases e
      exact .inr hge
  have hold : ∀ k, k < w2.heap.size → k ≠ l → ev.ownBlock ≠ some k → (w3.setCell ⟨l, 4, none⟩ v3).heap[k]? = w2.heap[k]? := fun k hk hne he => (set_other _ hne).trans (hg.block k hk fun e => he e.symm)
  have hold1 : ∀ k, k < w1.heap.size → k ≠ l → ev.ownBlock ≠ some k → (w3.setCell ⟨l, 4, none⟩ v3).heap[k]? = w1.heap[k]? := fun k hk hne he => (hold k (by omega) hne he).trans (hb.block k hk)
  have hC : ∀ k, C k → (w3.setCell ⟨l, 4, none⟩ v3).heap[k]? = w1.heap[k]? := fun k hk => hold1 k (h.clt k hk) (fun e => h.dis k hk (e ▸ h.oj)) fun e => h.dis k hk (h.oe k e).1
  have hcell3 : w3.heap[l]? = some (LRC r pre (M.base : Int) dv ev M.dead) := ((hg.block l (by omega) fun e => (h.oe l e.symm).2 rfl).trans (hb.block l hl1)).trans h.cells
  have hvl : vs.length = M.entries.length := h.rlen
  have hnew : ∀ k, v3.ownBlock = some k → O k ∨ w1.heap.size ≤ k := fun k hk => (hv3 k hk).elim (fun e => .inl (h.oe k e).1) fun e => .inr (by omega)
  refine ⟨{
    cells := by simpa using set_block hcell3 4 v3
    data := Holds.keep h.data fun k hk => hC k (h.cd k hk)
    row := by
      show OwnR _ _ _ _ (M.entries ++ [x]).length _
      rw [List.length_append]
      exact hown.keep fun k hk => set_other _ fun e => (hv3 k hk).elim (fun e2 => (h.oe k e2).2 e) fun e2 => by have e3 : k = l := e; omega
    rows := fun i e v he hv => by
      by_cases hi : i < M.entries.length
      · rw [List.getElem?_append_left hi] at he
        rw [List.getElem?_append_left (by omega)] at hv
        exact Holds.keep (h.rows i e v he hv) fun k hk => hC k (h.cv v (List.mem_of_getElem? hv) k hk)
      · rw [List.getElem?_append_right (by omega)] at he hv
        rw [hvl] at hv
        cases hj : i - M.entries.length with
        | succ j => rw [hj] at he; simp at he
        | zero =>
          rw [hj] at he hv
          simp only [List.getElem?_cons_zero, Option.some.injEq] at he hv
          subst he
          subst hv
          exact Holds.keep hu fun k hk => hold k (huo k hk).2 (fun e => by have := (huo k hk).1; omega) fun e => by have := hev k e; have := (huo k hk).1; omega
    oj := .inl h.oj
    oe := fun k hk => ⟨.inr hk, fun e => (hv3 k hk).elim (fun e2 => (h.oe k e2).2 e) fun e2 => by omega⟩
    cd := fun k hk => .inl (h.cd k hk)
    cv := fun z hz k hk => by
      rcases List.mem_append.1 hz with hz | hz
      · exact .inl (h.cv z hz k hk)
      · rw [List.mem_singleton] at hz
        exact .inr (hz ▸ hk)
    dis := fun k hk ho => by
      rcases hk with hk | hk
      · rcases ho with ho | ho
        · exact h.dis k hk ho
        · rcases hv3 k ho with e | e
          · exact h.dis k hk (h.oe k e).1
          · have := h.clt k hk
            omega
      · have hu1 := huo k hk
        rcases ho with ho | ho
        · have := h.olt k ho
          omega
        · rcases hv3 k ho with e | e
          · have := hev k e
            omega
          · omega
    olt := fun k hk => by
      rw [hsz]
      rcases hk with hk | hk
      · have := h.olt k hk
        omega
      · exact OwnR.lt hown hk
    clt := fun k hk => by
      rw [hsz]
      rcases hk with hk | hk
      · have := h.clt k hk
        omega
      · have := (huo k hk).2
        omega
    psz := h.psz
    last := by
      show M.base + (M.entries ++ [x]).length ≤ _
      rw [List.length_append]
      exact hlast
    big := ⟨h.big.1, fun b hb => (List.mem_append.1 hb).elim (h.big.2 b) fun e => by rw [List.mem_singleton] at e; rw [e]; exact hx⟩ }, hnew, ?_⟩
  exact ((Chg.of_below hb).mono fun _ _ e => e.elim : Chg O w1 w2).trans ((hg.mono fun k _ e => (h.oe k e.symm).1 : Chg O w2 w3).trans (Chg.setCell w3 ⟨l, 4, none⟩ v3) fun k _ e => by have e2 : k = l := e; rw [e2]; exact h.oj) fun _ _ e => e

/-- What entries tells: the records taken in, and how many bytes are whole. -/
def LEnts (w : World) (F : Nat → Prop) (l r : Nat) (pre : ByteArray) (own : Nat → Prop) (W : World) (D : DiskM) (base : Nat) (data : Bs) (o : Option (Int × List Bs)) (q : Nat) (e : Ending) (w' : World) : Prop :=
  match o with
  | none => e = .returned (.tuple #[.int .i64 3, .int .i64 0]) ∧ ∃ own', RefAt w' r D own' ∧ Chg own w w' ∧ ∀ k, own' k → own k ∨ w.heap.size ≤ k
  | some s => e = .returned (.tuple #[.int .i64 0, .int .i64 (q : Int)]) ∧ LOS w F l r pre own w' D ⟨base, data, s.2, false⟩ ∧ Same F W w'

def EntRel (S : Nat → Prop) (w2 : World) (l r : Nat) (pre : ByteArray) (base : Nat) (data : Bs) (rows : List Bs) (n : Nat) (x y : Value) (wr : World) : Prop :=
  ∃ (k z : Nat) (la : Int) (es : List Bs), k ≤ n ∧ y = .int .i64 (k : Int) ∧ x = .int .i64 (z : Int) ∧ ((k = 0 ∧ la = -1) ∨ (0 < k ∧ la = (z : Int))) ∧ z ≤ 1099511627776 ∧ LRNew (fun k => S k ∨ w2.heap.size ≤ k) wr l r pre ⟨base, data, es, false⟩ ∧ Chg S w2 wr ∧ takeAll base (-1, []) rows = takeAll base (la, es) (rows.drop k)

theorem lrnew_idx {S : Nat → Prop} {w1 : World} {l r : Nat} {pre : ByteArray} {M : LedM} (h : LRNew S w1 l r pre M) : w1.cell? ⟨l, 2, none⟩ = some (.int .i64 (M.base : Int)) := by
  obtain ⟨dv, ev, hc⟩ := h.cells
  exact cell_of hc (i := 2) rfl
theorem lrnew_last {S : Nat → Prop} {w1 : World} {l r : Nat} {pre : ByteArray} {M : LedM} (h : LRNew S w1 l r pre M) : M.last ≤ 1099511627776 := let ⟨_, _, _, _, _, hJ, _⟩ := h; hJ.last

set_option maxRecDepth 100000 in
set_option maxHeartbeats 8000000 in
theorem los_entries {w W : World} {F own : Nat → Prop} {l r : Nat} {pre : ByteArray} {D : DiskM} {base : Nat} {data : Bs} (h : LOS w F l r pre own W D ⟨base, data, [], false⟩) {p : Option Addr} {nb c : Nat} {b : Bs} (hx : HasB W (.slice p nb c) b) (hcap : nb ≤ c) (hl : b.length ≤ 1073741824) :
    Calls Tryz.prog 256 #[.pointer (some ⟨l, 0, none⟩), .slice p nb c] W (LEnts w F l r pre own W D base data (takeAll base (-1, []) (scan b).1) (scan b).2) := by
  obtain ⟨i0, hi, hz0, hz1, hz2⟩ := info_parts (show (Tryz.prog.info? 39).map (fun i => (i.zero, i.size, i.bytes)) = some (some (.slice none 0 0), 1, 24) by kernel_rfl)
  obtain ⟨S, hN, hSF, hgood, hbad⟩ := los_new h
  have Hgood := Lib.hid hgood
  have Hbad := Lib.hid hbad
  have Hsc := Lib.hid (rscan_calls hx hcap hl)
  have HN := Lib.hid hN
  have hlS := hN.lt
  have hSl := fun k hk => (hSF k hk).1
  have Hrl := Lib.hid (show ∀ x ∈ (scan b).1, x.length ≤ 1073741824 from fun x hx => scan_row hl rfl hx)
  have hbl := lrnew_last hN
  have hb40 : base ≤ 1099511627776 := by simpa [LedM.last] using hbl
  clear hgood hbad hx hcap hN hSF h hbl
  go_enter Tryz.func256, Tryz.ntmps256
  go_wp2_with fail
  refine Hsc.out.mono ?_
  rintro e w2 ⟨v2, vs, rfl, hr2, hn2, hb2⟩
  have HR2 := Lib.hid hr2
  have HN2 := Lib.hid hn2
  have HB2 := Lib.hid hb2
  have HL2 := Lib.hid ((HN.out.below hb2).wide (T := fun k => S k ∨ w2.heap.size ≤ k) fun _ h => .inl h)
  have hs2 := hb2.size
  obtain ⟨pr, cr, rfl⟩ := OwnR.shape hr2.row
  have HBd := Lib.hid (fun (wr : World) (hc : Chg S w2 wr) (ho : takeAll base (-1, []) (scan b).1 = none) => show LEnts w F l r pre own W D base data (takeAll base (-1, []) (scan b).1) (scan b).2 (.returned (.tuple #[.int .i64 3, .int .i64 0])) wr from by
    rw [ho]
    exact ⟨rfl, Hbad.out wr (((Chg.of_below HB2.out).mono fun _ _ e => e.elim : Chg (fun k => S k ∨ W.heap.size ≤ k) W w2).trans hc fun _ _ h => .inl h)⟩)
  have HGd := Lib.hid (fun (wr : World) (hc : Chg S w2 wr) (la : Int) (es : List Bs) (hn : LRNew (fun k => S k ∨ w2.heap.size ≤ k) wr l r pre ⟨base, data, es, false⟩) (ho : takeAll base (-1, []) (scan b).1 = some (la, es)) => show LEnts w F l r pre own W D base data (takeAll base (-1, []) (scan b).1) (scan b).2 (.returned (.tuple #[.int .i64 0, .int .i64 ((scan b).2 : Int)])) wr from by
    rw [ho]
    exact ⟨rfl, Hgood.out wr _ (hn.wide fun k hk => hk.imp id fun h => Nat.le_trans HB2.out.size h) (((Chg.of_below HB2.out).mono fun _ _ e => e.elim : Chg (fun k => S k ∨ W.heap.size ≤ k) W w2).trans hc fun _ _ h => .inl h)⟩)
  generalize hq : (scan b).2 = q at *
  generalize hrows : (scan b).1 = rows at *
  have hnr : rows.length ≤ 1073741824 := scan_count hl rfl hrows
  generalize hnn : rows.length = n at *
  have Hnn := Lib.hid hnn
  generalize hTell : LEnts w F l r pre own W D base data (takeAll base (-1, []) rows) q = Tell at *
  clear hq hrows hnn hr2 hn2 hb2 Hsc Hgood Hbad HN hl
  go_wp2_with fail
  go_loopw [8, 9] (EntRel S w2 l r pre base data rows n) (fun _ y _ => n - (intOf y).toNat)
  case atStart => exact ⟨0, 0, -1, [], Nat.zero_le _, rfl, rfl, .inl ⟨rfl, rfl⟩, Nat.zero_le _, HL2.out, Chg.refl _ _, rfl⟩
  case round =>
    obtain ⟨k, z, la, es, hk, rfl, rfl, hla, hz, hL, hc, htk⟩ := hrel
    by_cases hlt : k < n
    · have hkl : k < rows.length := by rw [Hnn.out]; exact hlt
      rw [List.drop_eq_getElem_cons hkl, takeAll_cons] at htk
      have hRW : RowsIn wr (.slice pr n cr) vs rows := RowsIn.keep HR2.out fun j hj => by
        rcases hj with hj | ⟨u, hu, hj⟩
        · exact hc.block j (OwnR.lt HR2.out.row hj) fun hS => by have h1 := hSl j hS; have h2 := HN2.out.1 j hj; omega
        · obtain ⟨cu, hcu⟩ := mem_rows HR2.out hu
          exact hc.block j (OwnR.lt hcu hj) fun hS => by have h1 := hSl j hS; have h2 := HN2.out.2 u hu j hj; omega
      have hkv : k < vs.length := by rw [hRW.len]; exact hkl
      have hxr := hRW.has k _ _ (List.getElem?_eq_getElem hkv) (List.getElem?_eq_getElem hkl)
      have hcell : ∃ g, pr = some ⟨g, 0, none⟩ ∧ wr.cell? ⟨g, k, none⟩ = some vs[k] := by
        rcases hRW.row.2 with ⟨-, h0⟩ | ⟨g, cap, cur, e, -⟩
        · omega
        · refine ⟨g, ?_, ?_⟩
          · simp only [Value.slice.injEq] at e
            exact e.1
          · have hc := hRW.row.cells (g := g) (by rw [e]; rfl) k _ (List.getElem?_eq_getElem hkv)
            rwa [add_zero] at hc
      obtain ⟨g, rfl, hcell⟩ := hcell
      have hx30 := Hrl.out _ (List.getElem_mem hkl)
      obtain ⟨px, cx, hpx, hcapx⟩ := own_slice hxr
      rw [hpx] at hxr hcell
      have HT := Lib.hid (show take1 base (la, es) rows[k] = if (Rd.num ⟨rows[k], false⟩).2.bytes.2.whole = false ∨ (Rd.num ⟨rows[k], false⟩).1 < 1 ∨ 1099511627776 < (Rd.num ⟨rows[k], false⟩).1 ∨ (0 ≤ la ∧ ((Rd.num ⟨rows[k], false⟩).1 : Int) ≠ la + 1) then none
        else if (Rd.num ⟨rows[k], false⟩).1 ≤ base then some (((Rd.num ⟨rows[k], false⟩).1 : Int), es)
        else if (Rd.num ⟨rows[k], false⟩).1 ≠ base + es.length + 1 then none
        else some (((Rd.num ⟨rows[k], false⟩).1 : Int), es ++ [(Rd.num ⟨rows[k], false⟩).2.bytes.1]) from rfl)
      have hm1 := Rd.num_le ⟨rows[k], false⟩
      have Hbl := Lib.hid (show (Rd.num ⟨rows[k], false⟩).2.bytes.1.length ≤ 1073741824 from Nat.le_trans (Rd.bytes_len _) (Nat.le_trans (Rd.num_rest _) (by show rows[k].length ≤ _; exact hx30)))
      have HR0 := Lib.hid (rdy_new (w := wr) hxr.has hcapx (fun k hk => OwnR.lt hxr hk) (by omega))
      have HBq := Lib.hid (below_one wr (.cells #[.slice px rows[k].length cx, .bool false] 416))
      have HL := Lib.hid hL
      have Hc := Lib.hid hc
      have Htk := Lib.hid htk
      have hls := lrnew_last hL
      clear hRW hkv hxr hpx hcapx hL hc htk
      generalize take1 base (la, es) rows[k] = ot at *
      generalize hx : rows[k] = x at *
      clear hx hkl
      generalize hxl : x.length = nx at *
      clear hxl
      go_wp2_with fail
      have HN1 := Lib.hid (rrnum_calls HR0.out)
      refine HN1.out.mono ?_
      rintro e w3 ⟨rfl, hr3, hc3⟩
      have HB3 := Lib.hid (show Below wr.heap.size wr w3 from HBq.out.trans (hc3.below HBq.out.size fun i hi e => by omega))
      have HNb := Lib.hid (rrbytes_calls hr3)
      generalize (Rd.num ⟨x, false⟩).2 = R3 at *
      generalize (Rd.num ⟨x, false⟩).1 = m1 at *
      clear hr3 hc3 HN1 HR0 HBq
      go_wp2_with fail
      refine HNb.out.mono ?_
      rintro e w4 ⟨v4, rfl, hv4, hn4, hr4, hc4⟩
      obtain ⟨p4, c4, rfl, hcap4⟩ := own_slice hv4
      have hs3 := HB3.out.size
      have HB4 := Lib.hid (show Below wr.heap.size wr w4 from HB3.out.trans (hc4.below hs3 fun i hi e => by omega))
      have HW := Lib.hid (rrwhole_calls hr4)
      have HV4 := Lib.hid (And.intro hv4 (show ∀ k, (Value.slice p4 R3.bytes.1.length c4).ownBlock = some k → wr.heap.size ≤ k ∧ k < w4.heap.size from fun k hk => ⟨Nat.le_trans hs3 (hn4 k hk), OwnR.lt hv4 hk⟩))
      have HL4 := Lib.hid (HL.out.below HB4.out)
      have HC4 := Lib.hid (Hc.out.trans ((Chg.of_below HB4.out).mono fun _ _ e => e.elim : Chg S wr w4) fun _ _ h => h)
      clear hv4 hn4 hr4 hc4 HNb HB3
      generalize R3.bytes.2 = R4 at *
      generalize hy : R3.bytes.1 = y at *
      clear hy
      generalize hny : y.length = ny at *
      go_wp2_with fail
      refine HW.out.mono ?_
      rintro e w5 ⟨rfl, rfl⟩
      have HNo := Lib.hid (fun (hb : R4.whole = false ∨ m1 < 1 ∨ 1099511627776 < m1 ∨ (0 ≤ la ∧ (m1 : Int) ≠ la + 1)) => HBd.out w5 HC4.out (by rw [Htk.out, HT.out, if_pos hb]))
      have Hno0 := Lib.hid (show 0 < k → la = (z : Int) from fun h => hla.elim (fun e => by omega) fun e => e.2)
      have Hno1 := Lib.hid (show k = 0 → la = -1 from fun h => hla.elim (fun e => e.2) fun e => by omega)
      have hw1 : IntKind.i64.wrap ((z : Int) + 1) = (z : Int) + 1 := IntWalk.i64_in _ (by omega)
      have c2 := lrnew_idx HL4.out
      clear HW hla
      by_cases hw : R4.whole = false
      · have hw' := hw
        have HE := Lib.hid (HNo.out (.inl hw))
        go_wp2_with fail
        all_goals (try go_ret2)
        all_goals exact HE.out
      · have hw' : R4.whole = true := by simpa using hw
        by_cases hk0 : 0 < k
        · have d1 : decide ((0 : Int) < (k : Int)) = true := decide_eq_true (by omega)
          have hlz := Hno0.out hk0
          by_cases hz1 : (m1 : Int) = (z : Int) + 1
          · have d2 : ((m1 : Int) != (z : Int) + 1) = false := by simpa using hz1
            have hno : ¬ (0 ≤ la ∧ (m1 : Int) ≠ la + 1) := fun h => h.2 (by omega)
            clear hz1
            by_cases h3 : m1 < 1
            · have d3 : decide ((m1 : Int) < 1) = true := decide_eq_true (by omega)
              have HE := Lib.hid (HNo.out (.inr (.inl h3)))
              go_wp2_with fail
              all_goals (try go_ret2)
              all_goals exact HE.out
            · have d3 : decide ((m1 : Int) < 1) = false := decide_eq_false (by omega)
              by_cases h4 : 1099511627776 < m1
              · have d4 : decide ((1099511627776 : Int) < (m1 : Int)) = true := decide_eq_true (by omega)
                have HE := Lib.hid (HNo.out (.inr (.inr (.inl h4))))
                go_wp2_with fail
                all_goals (try go_ret2)
                all_goals exact HE.out
              · have d4 : decide ((1099511627776 : Int) < (m1 : Int)) = false := decide_eq_false (by omega)
                have HY := Lib.hid (show ot = if m1 ≤ base then some ((m1 : Int), es) else if m1 ≠ base + es.length + 1 then none else some ((m1 : Int), es ++ [y]) from by
                  rw [HT.out, if_neg]
                  rintro (h | h | h | h)
                  · exact hw h
                  · exact h3 h
                  · exact h4 h
                  · exact hno h)
                by_cases h5 : m1 ≤ base
                · have d5 : decide ((m1 : Int) ≤ (base : Int)) = true := decide_eq_true (by omega)
                  have HE := Lib.hid (And.intro HL4.out (And.intro HC4.out (show takeAll base (-1, []) rows = takeAll base ((m1 : Int), es) (rows.drop (k + 1)) from by rw [Htk.out, HY.out, if_pos h5])))
                  go_wp2_with fail
                  go_roundw
                  case rel => exact ⟨k + 1, m1, (m1 : Int), es, by omega, by go_num, rfl, .inr ⟨by omega, rfl⟩, by omega, HE.out.1, HE.out.2.1, HE.out.2.2⟩
                  case measure => simp [intOf]; omega
                · have d5 : decide ((m1 : Int) ≤ (base : Int)) = false := decide_eq_false (by omega)
                  have HLc := Lib.hid (HL4.out.last_calls)
                  go_wp2_with fail
                  refine HLc.out.mono ?_
                  rintro e w7 ⟨rfl, q7, rfl⟩
                  have HBL := Lib.hid (show LedM.last ⟨base, data, es, false⟩ = base + es.length from rfl)
                  generalize LedM.last ⟨base, data, es, false⟩ = la7 at *
                  have hw7 : IntKind.i64.wrap ((la7 : Int) + 1) = (la7 : Int) + 1 := IntWalk.i64_in _ (by omega)
                  have HB6 := Lib.hid (show Below wr.heap.size wr (w5.drewN q7) from HB4.out.trans ⟨rfl, rfl, rfl, Nat.le_refl _, fun _ _ => rfl⟩)
                  have HO6 := Lib.hid (show OwnB (w5.drewN q7) 5 (.slice p4 ny c4) y from OwnR.keep HV4.out.1 fun _ _ => rfl)
                  have HO6l := Lib.hid (show ∀ k, (Value.slice p4 ny c4).ownBlock = some k → wr.heap.size ≤ k ∧ k < (w5.drewN q7).heap.size from HV4.out.2)
                  generalize w5.drewN q7 = w6 at *
                  by_cases h6 : m1 = la7 + 1
                  · have d6 : ((m1 : Int) != (la7 : Int) + 1) = false := by simp; omega
                    have Hk6 := Lib.hid (show takeAll base (-1, []) rows = takeAll base ((m1 : Int), es ++ [y]) (rows.drop (k + 1)) from by rw [Htk.out, HY.out, if_neg h5, if_neg (by have := HBL.out; omega)])
                    have H6 := Lib.hid h6
                    clear h6
                    obtain ⟨O, C, dv, ev, vs8, hJ, hn⟩ := HL.out
                    obtain ⟨p8, c8, hev⟩ := hJ.row.shape
                    have hev : ev = .slice p8 es.length c8 := hev
                    have hm8l : es.length ≤ 1099511627776 := by have := HBL.out; omega
                    have hJ6 := hJ.below HB6.out
                    have h8 := hJ6.c 4 rfl
                    have hcl := hJ6.cells
                    have HOw := Lib.hid (show OwnR w6 39 1 ev es.length vs8 from hJ6.row)
                    rw [hev] at h8
                    have HPush := Lib.hid (fun v9 w9 hown hgrow hloc => (hJ.push (w2 := w6.alloc (.cells #[.slice p4 ny c4] 39)) (w3 := w9) (v3 := v9) (HB6.out.trans ((below_one0 w6 _).mono HB6.out.size)) (HO6.out.has.below (below_one0 w6 _)) (fun k hk => ⟨(HO6l.out k hk).1, Nat.lt_of_lt_of_le (HO6l.out k hk).2 (below_one0 w6 _).size⟩) hown hgrow hloc (by show base + es.length + 1 ≤ _; have := HBL.out; have := H6.out; omega) (by have := Hbl.out; omega)))
                    have HF9 := Lib.hid (show ∀ w9, (w6.alloc (.cells #[.slice p4 ny c4] 39)).grownBy w9 ev.ownBlock → w9.heap[l]? = some (LRC r pre (base : Int) dv ev false) from fun w9 hg => by
                      have h1 := lt_of_block hcl
                      exact (((Chg.of_grown hg).block l (Nat.lt_of_lt_of_le h1 (below_one0 w6 _).size) fun e => (hJ.oe l e.symm).2 rfl).trans ((below_one0 w6 _).block l h1)).trans hcl)
                    have Hn := Lib.hid hn
                    rw [hev] at HPush HF9 HOw
                    clear hJ hJ6 hn
                    generalize hm8 : es.length = m8 at *
                    go_wp2_with (at_builtin; have hal := HOw.out.keep (w' := w6.alloc (.cells #[.slice p4 ny c4] 39)) (fun j hj => (below_one0 w6 _).block j (OwnR.lt HOw.out hj)); have hxx := slit_one w6 (.slice p4 ny c4) 39 (0, 0); refine wpList_app _ rfl (.tmp 71) (.tmp 73) 155 rfl 39 i0 (.slice none 0 0) 1 24 Tryz.underlying155 hi hz0 hz1 hz2 rfl (by decide) (.slice p8 m8 c8) m8 _ rfl hal (.slice (some ⟨w6.heap.size, 0, none⟩) 1 1) 1 _ rfl hxx (by simp [Value.oneCell']) (by unfold maxLen; omega) (by omega) ?_; clear hal hxx; intro v9 w9 hown9 hgrow9 hloc9; go_loud (have hE := HPush.out v9 w9 hown9 hgrow9 hloc9; have hc9 := HF9.out w9 hgrow9; have hf9 := frozen_of hc9 4; have hc9 := cell_of hc9 (i := 4) rfl; have HE := Lib.hid hE; clear hE hgrow9 hloc9; obtain ⟨p9, q9, rfl⟩ := OwnR.shape hown9; clear hown9))
                    go_roundw
                    case rel =>
                      refine ⟨k + 1, m1, (m1 : Int), es ++ [y], by omega, by go_num, rfl, .inr ⟨by omega, rfl⟩, by omega, ⟨_, _, _, _, _, HE.out.1, fun j hj => ?_⟩, Hc.out.trans HE.out.2.2 fun j hj e => (Hn.out j (.inl e)).resolve_right (by omega), Hk6.out⟩
                      have hwr := Hc.out.size
                      rcases hj with (hj | hj) | (hj | hj)
                      · exact Hn.out j (.inl hj)
                      · rcases HE.out.2.1 j hj with e | e
                        · exact Hn.out j (.inl e)
                        · exact .inr (by omega)
                      · exact Hn.out j (.inr hj)
                      · have := (HO6l.out j hj).1
                        exact .inr (by omega)
                    case measure => simp [intOf]; omega
                  · have d6 : ((m1 : Int) != (la7 : Int) + 1) = true := by simp; omega
                    have HE := Lib.hid (HBd.out w6 (Hc.out.trans ((Chg.of_below HB6.out).mono fun _ _ e => e.elim : Chg S wr w6) fun _ _ h => h) (by rw [Htk.out, HY.out, if_neg h5, if_pos (by have := HBL.out; omega)]))
                    go_wp2_with fail
                    all_goals (try go_ret2)
                    all_goals exact HE.out
          · have d2 : ((m1 : Int) != (z : Int) + 1) = true := by simpa using hz1
            have HE := Lib.hid (HNo.out (.inr (.inr (.inr ⟨by omega, by omega⟩))))
            go_wp2_with fail
            all_goals (try go_ret2)
            all_goals exact HE.out
        · have d1 : decide ((0 : Int) < (k : Int)) = false := decide_eq_false (by omega)
          have hlz := Hno1.out (by omega)
          have hno : ¬ (0 ≤ la ∧ (m1 : Int) ≠ la + 1) := fun h => by omega
          by_cases h3 : m1 < 1
          · have d3 : decide ((m1 : Int) < 1) = true := decide_eq_true (by omega)
            have HE := Lib.hid (HNo.out (.inr (.inl h3)))
            go_wp2_with fail
            all_goals (try go_ret2)
            all_goals exact HE.out
          · have d3 : decide ((m1 : Int) < 1) = false := decide_eq_false (by omega)
            by_cases h4 : 1099511627776 < m1
            · have d4 : decide ((1099511627776 : Int) < (m1 : Int)) = true := decide_eq_true (by omega)
              have HE := Lib.hid (HNo.out (.inr (.inr (.inl h4))))
              go_wp2_with fail
              all_goals (try go_ret2)
              all_goals exact HE.out
            · have d4 : decide ((1099511627776 : Int) < (m1 : Int)) = false := decide_eq_false (by omega)
              have HY := Lib.hid (show ot = if m1 ≤ base then some ((m1 : Int), es) else if m1 ≠ base + es.length + 1 then none else some ((m1 : Int), es ++ [y]) from by
                rw [HT.out, if_neg]
                rintro (h | h | h | h)
                · exact hw h
                · exact h3 h
                · exact h4 h
                · exact hno h)
              by_cases h5 : m1 ≤ base
              · have d5 : decide ((m1 : Int) ≤ (base : Int)) = true := decide_eq_true (by omega)
                have HE := Lib.hid (And.intro HL4.out (And.intro HC4.out (show takeAll base (-1, []) rows = takeAll base ((m1 : Int), es) (rows.drop (k + 1)) from by rw [Htk.out, HY.out, if_pos h5])))
                go_wp2_with fail
                go_roundw
                case rel => exact ⟨k + 1, m1, (m1 : Int), es, by omega, by go_num, rfl, .inr ⟨by omega, rfl⟩, by omega, HE.out.1, HE.out.2.1, HE.out.2.2⟩
                case measure => simp [intOf]; omega
              · have d5 : decide ((m1 : Int) ≤ (base : Int)) = false := decide_eq_false (by omega)
                have HLc := Lib.hid (HL4.out.last_calls)
                go_wp2_with fail
                refine HLc.out.mono ?_
                rintro e w7 ⟨rfl, q7, rfl⟩
                have HBL := Lib.hid (show LedM.last ⟨base, data, es, false⟩ = base + es.length from rfl)
                generalize LedM.last ⟨base, data, es, false⟩ = la7 at *
                have hw7 : IntKind.i64.wrap ((la7 : Int) + 1) = (la7 : Int) + 1 := IntWalk.i64_in _ (by omega)
                have HB6 := Lib.hid (show Below wr.heap.size wr (w5.drewN q7) from HB4.out.trans ⟨rfl, rfl, rfl, Nat.le_refl _, fun _ _ => rfl⟩)
                have HO6 := Lib.hid (show OwnB (w5.drewN q7) 5 (.slice p4 ny c4) y from OwnR.keep HV4.out.1 fun _ _ => rfl)
                have HO6l := Lib.hid (show ∀ k, (Value.slice p4 ny c4).ownBlock = some k → wr.heap.size ≤ k ∧ k < (w5.drewN q7).heap.size from HV4.out.2)
                generalize w5.drewN q7 = w6 at *
                by_cases h6 : m1 = la7 + 1
                · have d6 : ((m1 : Int) != (la7 : Int) + 1) = false := by simp; omega
                  have Hk6 := Lib.hid (show takeAll base (-1, []) rows = takeAll base ((m1 : Int), es ++ [y]) (rows.drop (k + 1)) from by rw [Htk.out, HY.out, if_neg h5, if_neg (by have := HBL.out; omega)])
                  have H6 := Lib.hid h6
                  clear h6
                  obtain ⟨O, C, dv, ev, vs8, hJ, hn⟩ := HL.out
                  obtain ⟨p8, c8, hev⟩ := hJ.row.shape
                  have hev : ev = .slice p8 es.length c8 := hev
                  have hm8l : es.length ≤ 1099511627776 := by have := HBL.out; omega
                  have hJ6 := hJ.below HB6.out
                  have h8 := hJ6.c 4 rfl
                  have hcl := hJ6.cells
                  have HOw := Lib.hid (show OwnR w6 39 1 ev es.length vs8 from hJ6.row)
                  rw [hev] at h8
                  have HPush := Lib.hid (fun v9 w9 hown hgrow hloc => (hJ.push (w2 := w6.alloc (.cells #[.slice p4 ny c4] 39)) (w3 := w9) (v3 := v9) (HB6.out.trans ((below_one0 w6 _).mono HB6.out.size)) (HO6.out.has.below (below_one0 w6 _)) (fun k hk => ⟨(HO6l.out k hk).1, Nat.lt_of_lt_of_le (HO6l.out k hk).2 (below_one0 w6 _).size⟩) hown hgrow hloc (by show base + es.length + 1 ≤ _; have := HBL.out; have := H6.out; omega) (by have := Hbl.out; omega)))
                  have HF9 := Lib.hid (show ∀ w9, (w6.alloc (.cells #[.slice p4 ny c4] 39)).grownBy w9 ev.ownBlock → w9.heap[l]? = some (LRC r pre (base : Int) dv ev false) from fun w9 hg => by
                    have h1 := lt_of_block hcl
                    exact (((Chg.of_grown hg).block l (Nat.lt_of_lt_of_le h1 (below_one0 w6 _).size) fun e => (hJ.oe l e.symm).2 rfl).trans ((below_one0 w6 _).block l h1)).trans hcl)
                  have Hn := Lib.hid hn
                  rw [hev] at HPush HF9 HOw
                  clear hJ hJ6 hn
                  generalize hm8 : es.length = m8 at *
                  go_wp2_with (at_builtin; have hal := HOw.out.keep (w' := w6.alloc (.cells #[.slice p4 ny c4] 39)) (fun j hj => (below_one0 w6 _).block j (OwnR.lt HOw.out hj)); have hxx := slit_one w6 (.slice p4 ny c4) 39 (0, 0); refine wpList_app _ rfl (.tmp 71) (.tmp 73) 155 rfl 39 i0 (.slice none 0 0) 1 24 Tryz.underlying155 hi hz0 hz1 hz2 rfl (by decide) (.slice p8 m8 c8) m8 _ rfl hal (.slice (some ⟨w6.heap.size, 0, none⟩) 1 1) 1 _ rfl hxx (by simp [Value.oneCell']) (by unfold maxLen; omega) (by omega) ?_; clear hal hxx; intro v9 w9 hown9 hgrow9 hloc9; go_loud (have hE := HPush.out v9 w9 hown9 hgrow9 hloc9; have hc9 := HF9.out w9 hgrow9; have hf9 := frozen_of hc9 4; have hc9 := cell_of hc9 (i := 4) rfl; have HE := Lib.hid hE; clear hE hgrow9 hloc9; obtain ⟨p9, q9, rfl⟩ := OwnR.shape hown9; clear hown9))
                  go_roundw
                  case rel =>
                    refine ⟨k + 1, m1, (m1 : Int), es ++ [y], by omega, by go_num, rfl, .inr ⟨by omega, rfl⟩, by omega, ⟨_, _, _, _, _, HE.out.1, fun j hj => ?_⟩, Hc.out.trans HE.out.2.2 fun j hj e => (Hn.out j (.inl e)).resolve_right (by omega), Hk6.out⟩
                    have hwr := Hc.out.size
                    rcases hj with (hj | hj) | (hj | hj)
                    · exact Hn.out j (.inl hj)
                    · rcases HE.out.2.1 j hj with e | e
                      · exact Hn.out j (.inl e)
                      · exact .inr (by omega)
                    · exact Hn.out j (.inr hj)
                    · have := (HO6l.out j hj).1
                      exact .inr (by omega)
                  case measure => simp [intOf]; omega
                · have d6 : ((m1 : Int) != (la7 : Int) + 1) = true := by simp; omega
                  have HE := Lib.hid (HBd.out w6 (Hc.out.trans ((Chg.of_below HB6.out).mono fun _ _ e => e.elim : Chg S wr w6) fun _ _ h => h) (by rw [Htk.out, HY.out, if_neg h5, if_pos (by have := HBL.out; omega)]))
                  go_wp2_with fail
                  all_goals (try go_ret2)
                  all_goals exact HE.out
    · have hrn : rows.drop k = [] := List.drop_of_length_le (by rw [Hnn.out]; omega)
      have HE := Lib.hid (HGd.out wr hc la es hL (by rw [htk, hrn]; rfl))
      clear hL hc htk hrn hla
      go_wp2_with fail
      exact HE.out
end Go.Proofs.YtogdfkilhpkloaaGreatDoor

namespace Go.Proofs.YtogdfkilhpkloaaGreatDoor
open Go.RowKit Go.Sat Go.Maps

theorem led_arg {D : DiskM} {pre : Bs} (h : pre.length < 1 ∨ 20 < pre.length) : ledOpen D pre = (D, 1, LedM.none0) := by
  unfold ledOpen
  exact if_pos h

theorem los_list {w W : World} {F own : Nat → Prop} {l r : Nat} {pre : ByteArray} {D : DiskM} {M : LedM} (h : LOS w F l r pre own W D M) : ∃ p c, W.cell? ⟨l, 4, none⟩ = some (.slice p M.entries.length c) := by
  obtain ⟨_, _, ⟨_, _, _, _, _, _, _, hJ, _⟩, _⟩ := h
  obtain ⟨p, c, hev⟩ := hJ.row.shape
  have := hJ.c 4 rfl
  rw [hev] at this
  exact ⟨p, c, this⟩

theorem nm_imgsh (s : ByteArray) : nm (s ++ (⟨#[45, 105, 109, 103, 126]⟩ : ByteArray)) = shadowN (imgN (nm s)) := by simp [nm, imgN, imgX, shadowN]
theorem nm_logw (s : ByteArray) : nm (s ++ (⟨#[45, 108, 111, 103]⟩ : ByteArray)) = logN (nm s) := by simp [nm, logN, logX]

theorem rid_no {D : DiskM} {n : Bs} (h : (Sat.get n D.files).isSome = false) : D.rid [n] = (D, 0) := by
  unfold DiskM.rid DiskM.rid1
  rw [h]
  rfl
theorem rid_yes {D : DiskM} {n : Bs} (h : (Sat.get n D.files).isSome = true) : D.rid [n] = D.remove [n] := by
  unfold DiskM.rid DiskM.rid1 DiskM.rid
  rw [if_pos h]
  split
  next h0 => exact Prod.ext rfl h0.symm
  next => rfl

/-- A ledger that was made a moment ago. -/
theorem los_fresh {w w1 : World} {r : Nat} {v : Value} {L : List RFile} {own : Nat → Prop} {D : DiskM} {pre : ByteArray} (h : RefIn w r v L own D) (hb : Below w.heap.size w w1) (hp : 1 ≤ pre.size ∧ pre.size ≤ 20) :
    LOS w (fun _ => False) w1.heap.size r pre own (w1.alloc (LRC r pre 0 (.slice none 0 0) (.slice none 0 0) false)) D LedM.none0 := by
  have hol := h.olt
  have hs := hb.size
  have hb2 := hb.alloc hs (LRC r pre 0 (.slice none 0 0) (.slice none 0 0) false)
  have hcell := new_block w1 (LRC r pre 0 (.slice none 0 0) (.slice none 0 0) false)
  refine ⟨fun k => k = w1.heap.size ∨ own k, fun _ => False, ⟨fun k => k = w1.heap.size, own, .slice none 0 0, .slice none 0 0, [], v, L, {
    cells := hcell
    data := OwnB.has (e := 0) (OwnR.nil _ _ _)
    row := OwnR.nil _ _ _
    rows := fun i e v he hv => by simp at hv
    oj := rfl
    oe := fun k hk => by cases hk
    cd := fun k hk => by cases hk
    cv := fun u hu => by simp at hu
    dis := fun k hk e => hk.elim
    olt := fun k hk => by rw [hk]; exact lt_of_block hcell
    clt := fun k hk => hk.elim
    psz := hp
    last := Nat.zero_le _
    big := ⟨Nat.zero_le _, fun e he => (by cases he)⟩ }, h.below hb2, fun k hk ho => ?_, fun k hk ho => hk, fun k => Iff.rfl⟩, (Chg.of_below hb2).mono fun _ _ e => e.elim, fun k hk => ?_, fun k hk => hk.elim⟩
  · have := hol k ho
    rw [hk] at this
    omega
  · rcases hk with (hk | hk) | hk
    · exact .inr (by omega)
    · exact .inl hk
    · exact hk.elim

set_option maxRecDepth 100000 in
set_option maxHeartbeats 8000000 in
theorem lropen_calls {w : World} {r : Nat} {v : Value} {L : List RFile} {own : Nat → Prop} {D : DiskM} (h : RefIn w r v L own D) (pre : ByteArray) :
    Calls Tryz.prog 205 #[.pointer (some ⟨r, 0, none⟩), .string pre] w (LROpened w r pre own (ledOpen D (nm pre))) := by
  have hsz : (nm pre).length = pre.size := nm_len pre
  by_cases hp : pre.size < 1 ∨ 20 < pre.size
  · have HE := Lib.hid (lropened_arg (pre := pre) (k := 1) h (Below.refl _ _) (led_arg (D := D) (pre := nm pre) (by rw [hsz]; exact hp)) (by decide))
    clear h hsz
    generalize hzz : pre.size = z at *
    by_cases hz : z < 1
    · have hz0 : z = 0 := by omega
      subst hz0
      go_enter Tryz.func205, Tryz.ntmps205
      go_wp2_with fail
      all_goals (try go_ret2)
      all_goals exact HE.out
    · have hz6 : 20 < z := by omega
      go_enter Tryz.func205, Tryz.ntmps205
      go_wp2_with fail
      all_goals (try go_ret2)
      all_goals exact HE.out
  have hps : 1 ≤ pre.size ∧ pre.size ≤ 20 := by omega
  have hpz1 := hps.1
  have hpz2 := hps.2
  have hok : ¬ ((nm pre).length < 1 ∨ 20 < (nm pre).length) := by rw [hsz]; exact hp
  have H0 := Lib.hid (los_fresh h (Below.refl _ _) hps)
  have hs1 : (pre ++ (⟨#[45, 105, 109, 103, 126]⟩ : ByteArray)).size = pre.size + 5 := by simp [ByteArray.size_append]; rfl
  have hs2 : (pre ++ (⟨#[45, 108, 111, 103]⟩ : ByteArray)).size = pre.size + 4 := by simp [ByteArray.size_append]; rfl
  have hnl := nm_logw pre
  have hnsh := nm_imgsh pre
  obtain ⟨O⟩ := opens_of D (nm pre)
  have Hhas := Lib.hid (los_has H0.out (Below.refl _ _) (pre ++ (⟨#[45, 105, 109, 103, 126]⟩ : ByteArray)))
  rw [hnsh] at Hhas
  clear h hsz hp hps
  cases hgs : (Sat.get (shadowN (imgN (nm pre))) D.files).isSome with
  | false =>
    rw [hgs] at Hhas
    have HO1 := Lib.hid (show O.e1 = 0 ∧ O.D1 = D from by have := O.h1; rw [rid_no hgs] at this; simp only [Prod.mk.injEq] at this; exact ⟨this.2.symm, this.1.symm⟩)
    go_enter Tryz.func205, Tryz.ntmps205
    go_wp2_with fail
    refine Hhas.out.mono ?_
    rintro e w3 ⟨rfl, hb3⟩
    have HN := Lib.hid (show LOS w (fun _ => False) w.heap.size r pre own w3 O.D1 LedM.none0 from by rw [HO1.out.2]; exact H0.out.next hb3)
    clear hb3 Hhas
    have Him := Lib.hid (los_image HN.out)
    go_wp2_with fail
    refine Him.out.mono ?_
    rintro e w4 ⟨rfl, hgood, href⟩
    rw [O.hi] at hgood
    rw [O.hi]
    by_cases hi : O.i.1 = 0
    · obtain ⟨h4, -⟩ := hgood hi
      have HI := Lib.hid hi
      rw [hi]
      clear hi href hgood
      have H4 := Lib.hid h4
      obtain ⟨v0, L0, own0, hR0⟩ := los_ref h4
      have Hrd := Lib.hid (rread_calls hR0 (pre ++ (⟨#[45, 108, 111, 103]⟩ : ByteArray)))
      have hdl0 := data_len h4.okD (logN (nm pre))
      rw [hnl] at Hrd
      clear h4 hR0
      cases hlg : Sat.get (logN (nm pre)) O.D1.files with
      | none =>
        rw [hlg] at Hrd
        go_wp2_with fail
        refine Hrd.out.mono ?_
        rintro e w5 ⟨v5, rfl, hv5, -, hb5⟩
        have HE := Lib.hid (lropened_good (H4.out.next hb5) (show ledOpen D (nm pre) = _ from by
          rw [open_e3 O hok HO1.out.1 HI.out, ← O.hg]
          unfold logOf
          rw [hlg]))
        obtain ⟨p5, c5, rfl, -⟩ := own_slice hv5
        clear hv5 hb5
        go_wp2_with fail
        all_goals (try go_ret2)
        all_goals exact HE.out
      | some f =>
        have HLs := Lib.hid (O.hg.symm.trans (log_some hlg O.i.2.1))
        rw [hlg] at Hrd hdl0
        go_wp2_with fail
        refine Hrd.out.mono ?_
        rintro e w5 ⟨v5, rfl, hv5, -, hb5⟩
        have hv5 : OwnB w5 5 v5 f.data := hv5
        obtain ⟨p5, c5, rfl, hcap5⟩ := own_slice hv5
        have hdl : f.data.length ≤ 1073741824 := hdl0
        have hql0 := scan_le f.data
        have Hen := Lib.hid (los_entries (H4.out.next hb5) hv5.has hcap5 hdl)
        clear hv5 hcap5
        generalize hq : (scan f.data).2 = q at *
        generalize hlen : f.data.length = len at *
        generalize htk : takeAll O.i.2.1 (-1, []) (scan f.data).1 = tk at *
        go_wp2_with fail
        refine Hen.out.mono ?_
        intro e w6 hT
        cases tk with
        | none =>
          obtain ⟨rfl, href⟩ := hT
          have HE := Lib.hid (lropened_bad2 (pre := pre) href (show ledOpen D (nm pre) = (O.D1, 3, _) from by rw [open_e3 O hok HO1.out.1 HI.out, HLs.out]) (by decide))
          clear href
          go_wp2_with fail
          all_goals (try go_ret2)
          all_goals exact HE.out
        | some s =>
          obtain ⟨la, es⟩ := s
          obtain ⟨rfl, h6, -⟩ := hT
          have H6 := Lib.hid h6
          have hg1 := HLs.out
          dsimp only at hg1
          have HG := Lib.hid hg1
          clear h6 hg1 HLs
          by_cases hql : q < len
          · have hql' : ((q : Int) < (len : Int)) := by omega
            have Htr := Lib.hid (los_disk H6.out (Below.refl _ _) fun v L own1 hR => rtrunc_calls hR (pre ++ (⟨#[45, 108, 111, 103]⟩ : ByteArray)) (by rw [hs2]; omega) (q : Int) (by omega) (by omega))
            rw [hnl] at Htr
            go_wp2_with fail
            refine Htr.out.mono ?_
            rintro e w7 ⟨rfl, h7, -⟩
            obtain ⟨D7, e7, hD7⟩ : ∃ a b, O.D1.truncate (logN (nm pre)) (q : Int) = (a, b) := ⟨_, _, rfl⟩
            have HT7 := Lib.hid (show tornOff O.D1 (logN (nm pre)) q len = if e7 ≠ 0 then (D7, e7) else D7.sync [logN (nm pre)] from by
              unfold tornOff
              rw [if_pos hql, hD7])
            rw [hD7] at h7
            rw [hD7]
            dsimp only at h7
            dsimp only
            clear Htr hD7
            by_cases he7 : e7 = 0
            · have H7 := Lib.hid h7
              have Hsy := Lib.hid (los_disk h7 (Below.refl _ _) fun v L own1 hR => rsync_calls hR (pre ++ (⟨#[45, 108, 111, 103]⟩ : ByteArray)) (by rw [hs2]; omega))
              rw [hnl] at Hsy
              rw [he7]
              have He7 := Lib.hid he7
              clear he7 h7
              go_wp2_with fail
              refine Hsy.out.mono ?_
              rintro e w8 ⟨rfl, h8, -⟩
              obtain ⟨D8, e8, hD8⟩ : ∃ a b, D7.sync [logN (nm pre)] = (a, b) := ⟨_, _, rfl⟩
              rw [hD8] at h8
              rw [hD8]
              dsimp only at h8
              dsimp only
              have HT8 := Lib.hid (show tornOff O.D1 (logN (nm pre)) q len = (D8, e8) from by rw [HT7.out, if_neg (fun h => h He7.out), hD8])
              clear Hsy hD8 HT7
              by_cases he8 : e8 = 0
              · have H8 := Lib.hid h8
                have HT := Lib.hid (show (tornOff O.D1 (logN (nm pre)) q len).1 = D8 ∧ (tornOff O.D1 (logN (nm pre)) q len).2 = 0 from by rw [HT8.out]; exact ⟨rfl, he8⟩)
                obtain ⟨p8, c8, c4⟩ := los_list h8
                have c4 : w8.cell? ⟨w.heap.size, 4, none⟩ = some (.slice p8 es.length c8) := c4
                rw [he8]
                clear he8 h8
                by_cases hes : es = []
                · have hel : es.length = 0 := by rw [hes]; rfl
                  have Hrm := Lib.hid (los_disk H8.out (Below.refl _ _) fun v L own1 hR => rrem_calls hR (pre ++ (⟨#[45, 108, 111, 103]⟩ : ByteArray)) (by rw [hs2]; omega))
                  have Hes := Lib.hid hes
                  clear hes
                  rw [hel] at c4
                  go_wp2_with fail
                  refine Hrm.out.mono ?_
                  rintro e w9 ⟨rfl, h9, -⟩
                  rw [hnl] at h9
                  have HGx := Lib.hid (show O.g = (((D8.remove [logN (nm pre)]).1, (D8.remove [logN (nm pre)]).2, es)) from by rw [HG.out, if_neg (by rw [HT.out.2]; simp), if_pos Hes.out, HT.out.1])
                  rw [hnl]
                  by_cases he3 : (D8.remove [logN (nm pre)]).2 = 0
                  · have HE := Lib.hid (lropened_good h9 (show ledOpen D (nm pre) = _ from by rw [open_e3 O hok HO1.out.1 HI.out, HGx.out, he3]))
                    rw [he3]
                    clear he3 h9
                    go_wp2_with fail
                    all_goals (try go_ret2)
                    all_goals exact HE.out
                  · have HE := Lib.hid (lropened_bad h9 (show ledOpen D (nm pre) = _ from by rw [open_e3 O hok HO1.out.1 HI.out, HGx.out]) he3)
                    have hne : (((D8.remove [logN (nm pre)]).2 : Int) != 0) = true := by simp; omega
                    clear h9
                    generalize (D8.remove [logN (nm pre)]).2 = k3 at *
                    go_wp2_with fail
                    all_goals (try go_ret2)
                    all_goals exact HE.out
                · have hel : es.length ≠ 0 := fun e => hes (List.eq_nil_of_length_eq_zero e)
                  have hel2 : ((es.length : Int) == 0) = false := by simp; omega
                  have HGx := Lib.hid (show O.g = (D8, 0, es) from by rw [HG.out, if_neg (by rw [HT.out.2]; simp), if_neg hes, HT.out.1])
                  have HE := Lib.hid (lropened_good H8.out (show ledOpen D (nm pre) = _ from by rw [open_e3 O hok HO1.out.1 HI.out, HGx.out]))
                  clear hes
                  go_wp2_with fail
                  all_goals (try go_ret2)
                  all_goals exact HE.out
              · have HE := Lib.hid (lropened_bad h8 (show ledOpen D (nm pre) = (D8, e8, _) from by rw [open_e3 O hok HO1.out.1 HI.out, HG.out, if_pos (by rw [HT8.out]; exact he8), HT8.out]) he8)
                have hne : ((e8 : Int) != 0) = true := by simp; omega
                have hne2 : ((e8 : Int) == 0) = false := by simp; omega
                clear h8
                go_wp2_with fail
                all_goals (try go_ret2)
                all_goals exact HE.out
            · have HE := Lib.hid (lropened_bad h7 (show ledOpen D (nm pre) = (D7, e7, _) from by rw [open_e3 O hok HO1.out.1 HI.out, HG.out, HT7.out, if_pos he7, if_pos he7]) he7)
              have hne : ((e7 : Int) != 0) = true := by simp; omega
              have hne2 : ((e7 : Int) == 0) = false := by simp; omega
              clear h7
              go_wp2_with fail
              all_goals (try go_ret2)
              all_goals exact HE.out
          · have hql' : ¬ ((q : Int) < (len : Int)) := by omega
            have HT := Lib.hid (show (tornOff O.D1 (logN (nm pre)) q len).1 = O.D1 ∧ (tornOff O.D1 (logN (nm pre)) q len).2 = 0 from by unfold tornOff; rw [if_neg hql]; exact ⟨rfl, rfl⟩)
            obtain ⟨p8, c8, c4⟩ := los_list H6.out
            have c4 : w6.cell? ⟨w.heap.size, 4, none⟩ = some (.slice p8 es.length c8) := c4
            by_cases hes : es = []
            · have hel : es.length = 0 := by rw [hes]; rfl
              have Hrm := Lib.hid (los_disk H6.out (Below.refl _ _) fun v L own1 hR => rrem_calls hR (pre ++ (⟨#[45, 108, 111, 103]⟩ : ByteArray)) (by rw [hs2]; omega))
              have Hes := Lib.hid hes
              clear hes
              rw [hel] at c4
              go_wp2_with fail
              refine Hrm.out.mono ?_
              rintro e w9 ⟨rfl, h9, -⟩
              rw [hnl] at h9
              have HGx := Lib.hid (show O.g = (((O.D1.remove [logN (nm pre)]).1, (O.D1.remove [logN (nm pre)]).2, es)) from by rw [HG.out, if_neg (by rw [HT.out.2]; simp), if_pos Hes.out, HT.out.1])
              rw [hnl]
              by_cases he3 : (O.D1.remove [logN (nm pre)]).2 = 0
              · have HE := Lib.hid (lropened_good h9 (show ledOpen D (nm pre) = _ from by rw [open_e3 O hok HO1.out.1 HI.out, HGx.out, he3]))
                rw [he3]
                clear he3 h9
                go_wp2_with fail
                all_goals (try go_ret2)
                all_goals exact HE.out
              · have HE := Lib.hid (lropened_bad h9 (show ledOpen D (nm pre) = _ from by rw [open_e3 O hok HO1.out.1 HI.out, HGx.out]) he3)
                have hne : (((O.D1.remove [logN (nm pre)]).2 : Int) != 0) = true := by simp; omega
                clear h9
                generalize (O.D1.remove [logN (nm pre)]).2 = k3 at *
                go_wp2_with fail
                all_goals (try go_ret2)
                all_goals exact HE.out
            · have hel : es.length ≠ 0 := fun e => hes (List.eq_nil_of_length_eq_zero e)
              have hel2 : ((es.length : Int) == 0) = false := by simp; omega
              have HGx := Lib.hid (show O.g = (O.D1, 0, es) from by rw [HG.out, if_neg (by rw [HT.out.2]; simp), if_neg hes, HT.out.1])
              have HE := Lib.hid (lropened_good H6.out (show ledOpen D (nm pre) = _ from by rw [open_e3 O hok HO1.out.1 HI.out, HGx.out]))
              clear hes
              go_wp2_with fail
              all_goals (try go_ret2)
              all_goals exact HE.out
    · have HE := Lib.hid (lropened_bad2 (pre := pre) href (open_e2 O hok HO1.out.1 hi) hi)
      have hne : ((O.i.1 : Int) != 0) = true := by simp; omega
      clear href hgood
      generalize O.i.1 = k1 at *
      go_wp2_with fail
      all_goals (try go_ret2)
      all_goals exact HE.out
  | true =>
    rw [hgs] at Hhas
    have HD1 := Lib.hid (show D.remove [shadowN (imgN (nm pre))] = (O.D1, O.e1) from by have := O.h1; rwa [rid_yes hgs] at this)
    go_enter Tryz.func205, Tryz.ntmps205
    go_wp2_with fail
    refine Hhas.out.mono ?_
    rintro e w2 ⟨rfl, hb2⟩
    have Hrm := Lib.hid (los_disk (H0.out.next hb2) (Below.refl _ _) fun v L own1 hR => rrem_calls hR (pre ++ (⟨#[45, 105, 109, 103, 126]⟩ : ByteArray)) (by rw [hs1]; omega))
    rw [hnsh, HD1.out] at Hrm
    clear hb2 Hhas
    go_wp2_with fail
    refine Hrm.out.mono ?_
    rintro e w3 ⟨rfl, h3, -⟩
    have HN := Lib.hid h3
    clear h3 Hrm
    by_cases he1 : O.e1 = 0
    · have HO1 := Lib.hid (And.intro he1 trivial)
      dsimp only
      rw [he1]
      clear he1
      have Him := Lib.hid (los_image HN.out)
      go_wp2_with fail
      refine Him.out.mono ?_
      rintro e w4 ⟨rfl, hgood, href⟩
      rw [O.hi] at hgood
      rw [O.hi]
      by_cases hi : O.i.1 = 0
      · obtain ⟨h4, -⟩ := hgood hi
        have HI := Lib.hid hi
        rw [hi]
        clear hi href hgood
        have H4 := Lib.hid h4
        obtain ⟨v0, L0, own0, hR0⟩ := los_ref h4
        have Hrd := Lib.hid (rread_calls hR0 (pre ++ (⟨#[45, 108, 111, 103]⟩ : ByteArray)))
        have hdl0 := data_len h4.okD (logN (nm pre))
        rw [hnl] at Hrd
        clear h4 hR0
        cases hlg : Sat.get (logN (nm pre)) O.D1.files with
        | none =>
          rw [hlg] at Hrd
          go_wp2_with fail
          refine Hrd.out.mono ?_
          rintro e w5 ⟨v5, rfl, hv5, -, hb5⟩
          have HE := Lib.hid (lropened_good (H4.out.next hb5) (show ledOpen D (nm pre) = _ from by
            rw [open_e3 O hok HO1.out.1 HI.out, ← O.hg]
            unfold logOf
            rw [hlg]))
          obtain ⟨p5, c5, rfl, -⟩ := own_slice hv5
          clear hv5 hb5
          go_wp2_with fail
          all_goals (try go_ret2)
          all_goals exact HE.out
        | some f =>
          have HLs := Lib.hid (O.hg.symm.trans (log_some hlg O.i.2.1))
          rw [hlg] at Hrd hdl0
          go_wp2_with fail
          refine Hrd.out.mono ?_
          rintro e w5 ⟨v5, rfl, hv5, -, hb5⟩
          have hv5 : OwnB w5 5 v5 f.data := hv5
          obtain ⟨p5, c5, rfl, hcap5⟩ := own_slice hv5
          have hdl : f.data.length ≤ 1073741824 := hdl0
          have hql0 := scan_le f.data
          have Hen := Lib.hid (los_entries (H4.out.next hb5) hv5.has hcap5 hdl)
          clear hv5 hcap5
          generalize hq : (scan f.data).2 = q at *
          generalize hlen : f.data.length = len at *
          generalize htk : takeAll O.i.2.1 (-1, []) (scan f.data).1 = tk at *
          go_wp2_with fail
          refine Hen.out.mono ?_
          intro e w6 hT
          cases tk with
          | none =>
            obtain ⟨rfl, href⟩ := hT
            have HE := Lib.hid (lropened_bad2 (pre := pre) href (show ledOpen D (nm pre) = (O.D1, 3, _) from by rw [open_e3 O hok HO1.out.1 HI.out, HLs.out]) (by decide))
            clear href
            go_wp2_with fail
            all_goals (try go_ret2)
            all_goals exact HE.out
          | some s =>
            obtain ⟨la, es⟩ := s
            obtain ⟨rfl, h6, -⟩ := hT
            have H6 := Lib.hid h6
            have hg1 := HLs.out
            dsimp only at hg1
            have HG := Lib.hid hg1
            clear h6 hg1 HLs
            by_cases hql : q < len
            · have hql' : ((q : Int) < (len : Int)) := by omega
              have Htr := Lib.hid (los_disk H6.out (Below.refl _ _) fun v L own1 hR => rtrunc_calls hR (pre ++ (⟨#[45, 108, 111, 103]⟩ : ByteArray)) (by rw [hs2]; omega) (q : Int) (by omega) (by omega))
              rw [hnl] at Htr
              go_wp2_with fail
              refine Htr.out.mono ?_
              rintro e w7 ⟨rfl, h7, -⟩
              obtain ⟨D7, e7, hD7⟩ : ∃ a b, O.D1.truncate (logN (nm pre)) (q : Int) = (a, b) := ⟨_, _, rfl⟩
              have HT7 := Lib.hid (show tornOff O.D1 (logN (nm pre)) q len = if e7 ≠ 0 then (D7, e7) else D7.sync [logN (nm pre)] from by
                unfold tornOff
                rw [if_pos hql, hD7])
              rw [hD7] at h7
              rw [hD7]
              dsimp only at h7
              dsimp only
              clear Htr hD7
              by_cases he7 : e7 = 0
              · have H7 := Lib.hid h7
                have Hsy := Lib.hid (los_disk h7 (Below.refl _ _) fun v L own1 hR => rsync_calls hR (pre ++ (⟨#[45, 108, 111, 103]⟩ : ByteArray)) (by rw [hs2]; omega))
                rw [hnl] at Hsy
                rw [he7]
                have He7 := Lib.hid he7
                clear he7 h7
                go_wp2_with fail
                refine Hsy.out.mono ?_
                rintro e w8 ⟨rfl, h8, -⟩
                obtain ⟨D8, e8, hD8⟩ : ∃ a b, D7.sync [logN (nm pre)] = (a, b) := ⟨_, _, rfl⟩
                rw [hD8] at h8
                rw [hD8]
                dsimp only at h8
                dsimp only
                have HT8 := Lib.hid (show tornOff O.D1 (logN (nm pre)) q len = (D8, e8) from by rw [HT7.out, if_neg (fun h => h He7.out), hD8])
                clear Hsy hD8 HT7
                by_cases he8 : e8 = 0
                · have H8 := Lib.hid h8
                  have HT := Lib.hid (show (tornOff O.D1 (logN (nm pre)) q len).1 = D8 ∧ (tornOff O.D1 (logN (nm pre)) q len).2 = 0 from by rw [HT8.out]; exact ⟨rfl, he8⟩)
                  obtain ⟨p8, c8, c4⟩ := los_list h8
                  have c4 : w8.cell? ⟨w.heap.size, 4, none⟩ = some (.slice p8 es.length c8) := c4
                  rw [he8]
                  clear he8 h8
                  by_cases hes : es = []
                  · have hel : es.length = 0 := by rw [hes]; rfl
                    have Hrm := Lib.hid (los_disk H8.out (Below.refl _ _) fun v L own1 hR => rrem_calls hR (pre ++ (⟨#[45, 108, 111, 103]⟩ : ByteArray)) (by rw [hs2]; omega))
                    have Hes := Lib.hid hes
                    clear hes
                    rw [hel] at c4
                    go_wp2_with fail
                    refine Hrm.out.mono ?_
                    rintro e w9 ⟨rfl, h9, -⟩
                    rw [hnl] at h9
                    have HGx := Lib.hid (show O.g = (((D8.remove [logN (nm pre)]).1, (D8.remove [logN (nm pre)]).2, es)) from by rw [HG.out, if_neg (by rw [HT.out.2]; simp), if_pos Hes.out, HT.out.1])
                    rw [hnl]
                    by_cases he3 : (D8.remove [logN (nm pre)]).2 = 0
                    · have HE := Lib.hid (lropened_good h9 (show ledOpen D (nm pre) = _ from by rw [open_e3 O hok HO1.out.1 HI.out, HGx.out, he3]))
                      rw [he3]
                      clear he3 h9
                      go_wp2_with fail
                      all_goals (try go_ret2)
                      all_goals exact HE.out
                    · have HE := Lib.hid (lropened_bad h9 (show ledOpen D (nm pre) = _ from by rw [open_e3 O hok HO1.out.1 HI.out, HGx.out]) he3)
                      have hne : (((D8.remove [logN (nm pre)]).2 : Int) != 0) = true := by simp; omega
                      clear h9
                      generalize (D8.remove [logN (nm pre)]).2 = k3 at *
                      go_wp2_with fail
                      all_goals (try go_ret2)
                      all_goals exact HE.out
                  · have hel : es.length ≠ 0 := fun e => hes (List.eq_nil_of_length_eq_zero e)
                    have hel2 : ((es.length : Int) == 0) = false := by simp; omega
                    have HGx := Lib.hid (show O.g = (D8, 0, es) from by rw [HG.out, if_neg (by rw [HT.out.2]; simp), if_neg hes, HT.out.1])
                    have HE := Lib.hid (lropened_good H8.out (show ledOpen D (nm pre) = _ from by rw [open_e3 O hok HO1.out.1 HI.out, HGx.out]))
                    clear hes
                    go_wp2_with fail
                    all_goals (try go_ret2)
                    all_goals exact HE.out
                · have HE := Lib.hid (lropened_bad h8 (show ledOpen D (nm pre) = (D8, e8, _) from by rw [open_e3 O hok HO1.out.1 HI.out, HG.out, if_pos (by rw [HT8.out]; exact he8), HT8.out]) he8)
                  have hne : ((e8 : Int) != 0) = true := by simp; omega
                  have hne2 : ((e8 : Int) == 0) = false := by simp; omega
                  clear h8
                  go_wp2_with fail
                  all_goals (try go_ret2)
                  all_goals exact HE.out
              · have HE := Lib.hid (lropened_bad h7 (show ledOpen D (nm pre) = (D7, e7, _) from by rw [open_e3 O hok HO1.out.1 HI.out, HG.out, HT7.out, if_pos he7, if_pos he7]) he7)
                have hne : ((e7 : Int) != 0) = true := by simp; omega
                have hne2 : ((e7 : Int) == 0) = false := by simp; omega
                clear h7
                go_wp2_with fail
                all_goals (try go_ret2)
                all_goals exact HE.out
            · have hql' : ¬ ((q : Int) < (len : Int)) := by omega
              have HT := Lib.hid (show (tornOff O.D1 (logN (nm pre)) q len).1 = O.D1 ∧ (tornOff O.D1 (logN (nm pre)) q len).2 = 0 from by unfold tornOff; rw [if_neg hql]; exact ⟨rfl, rfl⟩)
              obtain ⟨p8, c8, c4⟩ := los_list H6.out
              have c4 : w6.cell? ⟨w.heap.size, 4, none⟩ = some (.slice p8 es.length c8) := c4
              by_cases hes : es = []
              · have hel : es.length = 0 := by rw [hes]; rfl
                have Hrm := Lib.hid (los_disk H6.out (Below.refl _ _) fun v L own1 hR => rrem_calls hR (pre ++ (⟨#[45, 108, 111, 103]⟩ : ByteArray)) (by rw [hs2]; omega))
                have Hes := Lib.hid hes
                clear hes
                rw [hel] at c4
                go_wp2_with fail
                refine Hrm.out.mono ?_
                rintro e w9 ⟨rfl, h9, -⟩
                rw [hnl] at h9
                have HGx := Lib.hid (show O.g = (((O.D1.remove [logN (nm pre)]).1, (O.D1.remove [logN (nm pre)]).2, es)) from by rw [HG.out, if_neg (by rw [HT.out.2]; simp), if_pos Hes.out, HT.out.1])
                rw [hnl]
                by_cases he3 : (O.D1.remove [logN (nm pre)]).2 = 0
                · have HE := Lib.hid (lropened_good h9 (show ledOpen D (nm pre) = _ from by rw [open_e3 O hok HO1.out.1 HI.out, HGx.out, he3]))
                  rw [he3]
                  clear he3 h9
                  go_wp2_with fail
                  all_goals (try go_ret2)
                  all_goals exact HE.out
                · have HE := Lib.hid (lropened_bad h9 (show ledOpen D (nm pre) = _ from by rw [open_e3 O hok HO1.out.1 HI.out, HGx.out]) he3)
                  have hne : (((O.D1.remove [logN (nm pre)]).2 : Int) != 0) = true := by simp; omega
                  clear h9
                  generalize (O.D1.remove [logN (nm pre)]).2 = k3 at *
                  go_wp2_with fail
                  all_goals (try go_ret2)
                  all_goals exact HE.out
              · have hel : es.length ≠ 0 := fun e => hes (List.eq_nil_of_length_eq_zero e)
                have hel2 : ((es.length : Int) == 0) = false := by simp; omega
                have HGx := Lib.hid (show O.g = (O.D1, 0, es) from by rw [HG.out, if_neg (by rw [HT.out.2]; simp), if_neg hes, HT.out.1])
                have HE := Lib.hid (lropened_good H6.out (show ledOpen D (nm pre) = _ from by rw [open_e3 O hok HO1.out.1 HI.out, HGx.out]))
                clear hes
                go_wp2_with fail
                all_goals (try go_ret2)
                all_goals exact HE.out
      · have HE := Lib.hid (lropened_bad2 (pre := pre) href (open_e2 O hok HO1.out.1 hi) hi)
        have hne : ((O.i.1 : Int) != 0) = true := by simp; omega
        clear href hgood
        generalize O.i.1 = k1 at *
        go_wp2_with fail
        all_goals (try go_ret2)
        all_goals exact HE.out
    · have HE := Lib.hid (lropened_bad HN.out (open_e1 O hok he1) he1)
      have hne : ((O.e1 : Int) == 0) = false := by simp; omega
      have hne2 : ((O.e1 : Int) != 0) = true := by simp; omega
      dsimp only
      generalize O.e1 = k1 at *
      go_wp2_with fail
      all_goals (try go_ret2)
      all_goals exact HE.out
end Go.Proofs.YtogdfkilhpkloaaGreatDoor

namespace Go.Proofs.YtogdfkilhpkloaaGreatDoor
open Go.RowKit Go.Sat Go.Maps

theorem hasB_keep {w w' : World} {S : Nat → Prop} {v : Value} {b : Bs} (h : HasB w v b) (hc : Chg S w w') (hno : b ≠ [] → ∀ k, v.ownBlock = some k → ¬ S k) : HasB w' v b := by
  by_cases hb : b = []
  · subst hb
    obtain ⟨hl, p, cap, rfl, h0, -⟩ := h
    exact ⟨hl, p, cap, rfl, h0, fun a ha i u hu => by simp [bytesV] at hu⟩
  · exact h.chg hc (hno hb)

section
variable {w0 w1 w2 : World} {l r : Nat} {pre : ByteArray} {D : DiskM} {M : LedM} {Hot Cold : Nat → Prop}

/-- Plain cells of the ledger have turned. -/
theorem LRIn.set {w w' : World} {O C : Nat → Prop} {M M' : LedM} {dv ev : Value} {vs : List Value} (h : LRIn w l r pre O C M dv ev vs)
    (hc : w'.heap[l]? = some (LRC r pre (M'.base : Int) dv ev M'.dead)) (hs : Chg (fun k => k = l) w w') (hd : M'.data = M.data) (he : M'.entries = M.entries) (hb : M'.base = M.base) : LRIn w' l r pre O C M' dv ev vs where
  cells := hc
  data := by rw [hd]; exact Holds.chg h.data hs fun k hk e => h.dis k (h.cd k hk) (e ▸ h.oj)
  row := by rw [he]; exact h.row.keep fun k hk => hs.block k (h.olt k (h.oe k hk).1) (h.oe k hk).2
  rows := by rw [he]; exact fun i e v he hv => Holds.chg (h.rows i e v he hv) hs fun k hk e => h.dis k (h.cv v (List.mem_of_getElem? hv) k hk) (e ▸ h.oj)
  oj := h.oj
  oe := h.oe
  cd := h.cd
  cv := h.cv
  dis := h.dis
  olt := fun k hk => Nat.lt_of_lt_of_le (h.olt k hk) hs.size
  clt := fun k hk => Nat.lt_of_lt_of_le (h.clt k hk) hs.size
  psz := h.psz
  last := by unfold LedM.last; rw [he, hb]; exact h.last
  big := by rw [hd, he]; exact h.big
theorem LRF.set (h : LRF w1 l r pre D M Hot Cold) {M' : LedM} (hs : Chg (fun k => k = l) w1 w2)
    (hc : ∀ dv ev, w1.heap[l]? = some (LRC r pre (M.base : Int) dv ev M.dead) → w2.heap[l]? = some (LRC r pre (M'.base : Int) dv ev M'.dead)) (hd : M'.data = M.data) (he : M'.entries = M.entries) (hb : M'.base = M.base) : LRStep w1 l r pre Hot Cold w2 D M' := by
  obtain ⟨O, own, dv, ev, vs, v, L, hJ, hR, hO, hC, hH⟩ := h
  exact ⟨Hot, Cold, ⟨O, own, dv, ev, vs, v, L, hJ.set (hc _ _ hJ.cells) hs hd he hb, hR.keep hs.size (fun k hk => hs.block k (hR.olt k hk) fun e => hO l hJ.oj (e ▸ hk)), hO, hC, hH⟩, hs.mono fun k _ e => (hH k).2 (.inl (e ▸ hJ.oj)), fun k hk => .inl hk, fun k hk => .inl hk⟩
theorem LRF.cellsD (h : LRF w1 l r pre D M Hot Cold) : ∃ dv ev, w1.heap[l]? = some (LRC r pre (M.base : Int) dv ev M.dead) := let ⟨_, _, dv, ev, _, _, _, hJ, _⟩ := h; ⟨dv, ev, hJ.cells⟩
theorem LRF.lastL (h : LRF w1 l r pre D M Hot Cold) : M.last ≤ 1099511627776 := let ⟨_, _, _, _, _, _, _, hJ, _⟩ := h; hJ.last
theorem lr_die (h : LRF w1 l r pre D M Hot Cold) : LRStep w1 l r pre Hot Cold (w1.setCell ⟨l, 5, none⟩ (.bool true)) D M.die :=
  h.set (Chg.setCell w1 ⟨l, 5, none⟩ _) (fun dv ev hc => by
    have := set_block hc 5 (.bool true)
    simpa [LedM.die] using this) rfl rfl rfl
theorem LRStep.cellsD (h : LRStep w0 l r pre Hot Cold w1 D M) : ∃ dv ev, w1.heap[l]? = some (LRC r pre (M.base : Int) dv ev M.dead) := let ⟨_, _, hF, _⟩ := h; hF.cellsD
theorem LRStep.chg (h : LRStep w0 l r pre Hot Cold w1 D M) : Chg Hot w0 w1 := let ⟨_, _, _, hc, _⟩ := h; hc

def LedM.dieIf (M : LedM) (e : Nat) : LedM := if e = 0 then M else M.die

theorem lrwrote_calls (h : LRF w1 l r pre D M Hot Cold) (e : Nat) :
    Calls Tryz.prog 262 #[.pointer (some ⟨l, 0, none⟩), .int .i64 (e : Int)] w1 fun x w' => x = .returned (.int .i64 (e : Int)) ∧ LRStep w1 l r pre Hot Cold w' D (M.dieIf e) := by
  obtain ⟨dv, ev, hcell⟩ := h.cellsD
  have f5 := frozen_of hcell 5
  have hcell := cell_of hcell (i := 5) rfl
  unfold LedM.dieIf
  by_cases h0 : e = 0
  · rw [if_pos h0]
    have hne : ((e : Int) != 0) = false := by simp; omega
    have HE := Lib.hid h.step
    clear h h0 hcell f5
    go_enter Tryz.func262, Tryz.ntmps262
    go_wp2_with fail
    go_ret
    exact ⟨rfl, HE.out⟩
  · rw [if_neg h0]
    have hne : ((e : Int) != 0) = true := by simp; omega
    have HE := Lib.hid (lr_die h)
    clear h h0
    go_enter Tryz.func262, Tryz.ntmps262
    go_wp2_with fail
    go_ret
    exact ⟨rfl, HE.out⟩

/-- Something is done with the disk, behind something else. -/
theorem lrs_disk {P : Program} {f : FuncId} {args : Array Value} {Re : DiskM × Nat} {wc : World} (h : LRStep w0 l r pre Hot Cold w1 D M) (hb : Below w1.heap.size w1 wc) (hx : ∀ v L own, RefIn wc r v L own D → (∀ k, own k → Hot k ∨ w0.heap.size ≤ k) → Calls P f args wc (RStep wc r own Re)) :
    Calls P f args wc fun e w' => e = .returned (.int .i64 (Re.2 : Int)) ∧ LRStep w0 l r pre Hot Cold w' Re.1 M := by
  obtain ⟨Hot1, Cold1, hF, hc, hh, hco⟩ := h
  refine (lr_disk hF hb fun v L own hR ho => hx v L own hR fun k hk => hh k (ho k hk)).mono ?_
  rintro e w' ⟨rfl, hst, -⟩
  exact ⟨rfl, LRStep.comp hc hh hco hst⟩
theorem lrs_wrote (h : LRStep w0 l r pre Hot Cold w1 D M) (e : Nat) :
    Calls Tryz.prog 262 #[.pointer (some ⟨l, 0, none⟩), .int .i64 (e : Int)] w1 fun x w' => x = .returned (.int .i64 (e : Int)) ∧ LRStep w0 l r pre Hot Cold w' D (M.dieIf e) := by
  obtain ⟨Hot1, Cold1, hF, hc, hh, hco⟩ := h
  refine (lrwrote_calls hF e).mono ?_
  rintro x w' ⟨rfl, hst⟩
  exact ⟨rfl, LRStep.comp hc hh hco hst⟩
end
end Go.Proofs.YtogdfkilhpkloaaGreatDoor

namespace Go.Proofs.YtogdfkilhpkloaaGreatDoor
open Go.RowKit Go.Sat Go.Maps

section
variable {w0 w1 w2 : World} {l r : Nat} {pre : ByteArray} {D : DiskM} {M : LedM} {Hot Cold : Nat → Prop}

theorem lnm_log (pre : ByteArray) : nm (pre ++ (⟨#[45, 108, 111, 103]⟩ : ByteArray)) = logN (nm pre) := by simp [nm, logN, logX]

end
end Go.Proofs.YtogdfkilhpkloaaGreatDoor

namespace Go.Proofs.YtogdfkilhpkloaaGreatDoor
open Go.RowKit Go.Sat Go.Maps

theorem lnm_img (pre : ByteArray) : nm (pre ++ (⟨#[45, 105, 109, 103]⟩ : ByteArray)) = imgN (nm pre) := by simp [nm, imgN, imgX]
theorem rid1_no {D : DiskM} {n : Bs} (h : (Sat.get n D.files).isSome = false) : D.rid1 n = (D, 0) := by unfold DiskM.rid1; rw [h]; rfl
theorem rid1_yes {D : DiskM} {n : Bs} (h : (Sat.get n D.files).isSome = true) : D.rid1 n = D.remove [n] := by unfold DiskM.rid1; rw [if_pos h]
theorem rid_one (D : DiskM) (n : Bs) : D.rid [n] = D.rid1 n := by
  unfold DiskM.rid
  split
  next h => unfold DiskM.rid; exact Prod.ext rfl h.symm
  next => rfl
section
variable {w0 w1 w2 : World} {l r : Nat} {pre : ByteArray} {D : DiskM} {M : LedM} {Hot Cold : Nat → Prop}


def LRTold1 (w1 : World) (l r : Nat) (pre : ByteArray) (Hot Cold : Nat → Prop) (Z : Wrote) (e : Ending) (w' : World) : Prop := e = .returned (.int .i64 (Z.err : Int)) ∧ LRStep w1 l r pre Hot Cold w' Z.disk Z.led

theorem lrs_has (h : LRStep w0 l r pre Hot Cold w1 D M) (s : ByteArray) :
    Calls Tryz.prog 252 #[.pointer (some ⟨l, 0, none⟩), .string s] w1 fun e w' => e = .returned (.bool (Sat.get (nm s) D.files).isSome) ∧ LRStep w0 l r pre Hot Cold w' D M := by
  obtain ⟨Hot1, Cold1, hF, hc, hh, hco⟩ := h
  refine (lrhas_calls hF s).mono ?_
  rintro e w' ⟨rfl, hb⟩
  exact ⟨rfl, LRStep.comp hc hh hco (hF.stepB hb)⟩
theorem lrs_rem (h : LRStep w0 l r pre Hot Cold w1 D M) (s : ByteArray) (hs : s.size ≤ 9223372036854775807) {W : World} (hb : Below w1.heap.size w1 W) :
    Calls Tryz.prog 253 #[.pointer (some ⟨r, 0, none⟩), .string s] W fun e w' => e = .returned (.int .i64 ((D.remove [nm s]).2 : Int)) ∧ LRStep w0 l r pre Hot Cold w' (D.remove [nm s]).1 M :=
  lrs_disk (Re := D.remove [nm s]) h hb fun _ _ _ hR _ => rrem_calls hR s hs

end
end Go.Proofs.YtogdfkilhpkloaaGreatDoor

namespace Go.Proofs.YtogdfkilhpkloaaGreatDoor
open Go.RowKit Go.Sat Go.Maps

section
variable {w0 w1 w2 : World} {l r : Nat} {pre : ByteArray} {D : DiskM} {M : LedM} {Hot Cold : Nat → Prop}


theorem lrs_img (h : LRStep w0 l r pre Hot Cold w1 D M) {W : World} {v : Value} {p : Bs} {n : Nat} (hb : Below w1.heap.size w1 W) (hv : HasB W v p) (hvo : ∀ k, v.ownBlock = some k → w1.heap.size ≤ k ∧ k < W.heap.size) (hn : n ≤ 1099511627776) (hp : p.length ≤ 1073741824) :
    LRStep w0 l r pre Hot Cold (((W.setCell ⟨l, 2, none⟩ (.int .i64 (n : Int))).setCell ⟨l, 3, none⟩ v).setCell ⟨l, 4, none⟩ (.slice none 0 0)) D ⟨n, p, [], M.dead⟩ := by
  obtain ⟨Hot1, Cold1, hF, hc, hh, hco⟩ := h
  obtain ⟨O, own, dv, ev, vs, vr, L, hJ, hR, hO, hC, hH⟩ := hF
  have hl := hJ.olt l hJ.oj
  have hsz := hb.size
  have hcW : W.heap[l]? = some (LRC r pre (M.base : Int) dv ev M.dead) := (hb.block l hl).trans hJ.cells
  have hs : Chg (fun k => k = l) W (((W.setCell ⟨l, 2, none⟩ (.int .i64 (n : Int))).setCell ⟨l, 3, none⟩ v).setCell ⟨l, 4, none⟩ (.slice none 0 0)) :=
    ((Chg.setCell W ⟨l, 2, none⟩ _).trans (Chg.setCell _ ⟨l, 3, none⟩ _) fun _ _ e => e).trans (Chg.setCell _ ⟨l, 4, none⟩ _) fun _ _ e => e
  have hcell : (((W.setCell ⟨l, 2, none⟩ (.int .i64 (n : Int))).setCell ⟨l, 3, none⟩ v).setCell ⟨l, 4, none⟩ (.slice none 0 0)).heap[l]? = some (LRC r pre (n : Int) v (.slice none 0 0) M.dead) := by
    have q1 := set_block hcW 2 (.int .i64 (n : Int))
    have q2 := set_block q1 3 v
    have q3 := set_block q2 4 (.slice none 0 0)
    simpa using q3
  generalize ((W.setCell ⟨l, 2, none⟩ (.int .i64 (n : Int))).setCell ⟨l, 3, none⟩ v).setCell ⟨l, 4, none⟩ (.slice none 0 0) = W' at *
  have hcx : Chg (fun k => k = l) w1 W' := ((Chg.of_below hb).mono fun _ _ e => e.elim).trans hs fun _ _ e => e
  have hsz' := hcx.size
  refine LRStep.comp hc hh hco ⟨Hot1, fun k => Cold1 k ∨ v.ownBlock = some k, ⟨O, own, v, .slice none 0 0, [], vr, L, {
    cells := hcell
    data := HasB.chg hv hs fun k hk e => by have := (hvo k hk).1; omega
    row := OwnR.nil _ _ _
    rows := fun i e v he hv => by simp at hv
    oj := hJ.oj
    oe := fun k hk => by cases hk
    cd := fun k hk => .inr hk
    cv := fun u hu => by simp at hu
    dis := fun k hk ho => hk.elim (fun c => hJ.dis k c ho) fun e => by have h1 := hJ.olt k ho; have h2 := (hvo k e).1; omega
    olt := fun k hk => Nat.lt_of_lt_of_le (hJ.olt k hk) hsz'
    clt := fun k hk => hk.elim (fun c => Nat.lt_of_lt_of_le (hJ.clt k c) hsz') fun e => Nat.lt_of_lt_of_le (hvo k e).2 hs.size
    psz := hJ.psz
    last := hn
    big := ⟨hp, fun e he => (by cases he)⟩ }, hR.keep hsz' (fun k hk => hcx.block k (hR.olt k hk) fun e => hO l hJ.oj (e ▸ hk)), hO, fun k hk ho => ?_, hH⟩, hcx.mono fun k _ e => (hH k).2 (.inl (e ▸ hJ.oj)), fun k hk => .inl hk, fun k hk => hk.imp id fun e => (hvo k e).1⟩
  rcases hk with hk | hk
  · exact hC k hk ho
  · have h1 := hR.olt k ho
    have h2 := (hvo k hk).1
    omega

theorem lrs_save (h : LRF w1 l r pre D M Hot Cold) {wc : World} (hb : Below w1.heap.size w1 wc) (s : ByteArray) (hs : s.size ≤ 9223372036854775000) {p : Option Addr} {m c : Nat} {x : Bs} (hx : HasB wc (.slice p m c) x) (hl : x.length ≤ 1048576) :
    Calls Tryz.prog 261 #[.pointer (some ⟨r, 0, none⟩), .string s, .slice p m c] wc fun e w' => e = .returned (.int .i64 ((D.save (nm s) x).2 : Int)) ∧ LRStep w1 l r pre Hot Cold w' (D.save (nm s) x).1 M := by
  refine (lr_disk (Re := D.save (nm s) x) h hb fun _ _ _ hR _ => rsave_calls hR s hs hx hl).mono ?_
  rintro e w' ⟨rfl, hst, -⟩
  exact ⟨rfl, hst⟩

set_option maxRecDepth 100000 in
set_option maxHeartbeats 8000000 in
theorem lrwrite_calls (h : LRF w1 l r pre D M Hot Cold) (i : Int) (hir : -9223372036854775808 ≤ i ∧ i ≤ 9223372036854775807) {pb : Option Addr} {m cb : Nat} {b : Bs} (hb : HasB w1 (.slice pb m cb) b) (hbl : b.length ≤ 140737488355328) (hno : b ≠ [] → ∀ k, (Value.slice pb m cb).ownBlock = some k → ¬ Hot k) :
    Calls Tryz.prog 207 #[.pointer (some ⟨l, 0, none⟩), .int .i64 i, .slice pb m cb] w1 (LRTold1 w1 l r pre Hot Cold (ledWrite (nm pre) D M i b)) := by
  obtain ⟨i0, hi, hz0, hz1, hz2⟩ := info_parts (show (Tryz.prog.info? 5).map (fun i => (i.zero, i.size, i.bytes)) = some (some (.int .u8 0), 1, 1) by kernel_rfl)
  have hm : b.length = m := by obtain ⟨_, _, e⟩ := hb.slice; simp only [Value.slice.injEq] at e; exact e.2.1.symm
  have hps2 := h.psz.2
  have hs4 : (pre ++ (⟨#[45, 108, 111, 103]⟩ : ByteArray)).size = pre.size + 4 := by simp [ByteArray.size_append]; rfl
  have hs5 : (pre ++ (⟨#[45, 105, 109, 103]⟩ : ByteArray)).size = pre.size + 4 := by simp [ByteArray.size_append]; rfl
  have hsl : (pre ++ (⟨#[45, 108, 111, 103]⟩ : ByteArray)).size ≤ 9223372036854775807 := by omega
  have hsi : (pre ++ (⟨#[45, 105, 109, 103]⟩ : ByteArray)).size ≤ 9223372036854775000 := by omega
  clear hs4 hs5
  obtain ⟨dv, ev, hcell⟩ := h.cellsD
  have c0 : w1.cell? ⟨l, 0, none⟩ = some (.pointer (some ⟨r, 0, none⟩)) := cell_of hcell rfl
  have c1 : w1.cell? ⟨l, 1, none⟩ = some (.string pre) := cell_of hcell rfl
  have c5 : w1.cell? ⟨l, 5, none⟩ = some (.bool M.dead) := cell_of hcell rfl
  have HL := Lib.hid (lrlast_calls h)
  have hla := h.lastL
  have H := Lib.hid h
  have Hb := Lib.hid hb
  have Hno := Lib.hid hno
  have Hm := Lib.hid hm
  have Hla := Lib.hid hla
  rw [hm] at hbl
  clear h hb hno hcell
  cases hd : M.dead with
  | true =>
    have HE := Lib.hid (show LRTold1 w1 l r pre Hot Cold (ledWrite (nm pre) D M i b) (.returned (.int .i64 9)) w1 from by
      unfold ledWrite
      rw [if_pos hd]
      exact ⟨rfl, H.out.step⟩)
    rw [hd] at c5
    clear hd hm hla
    go_enter Tryz.func207, Tryz.ntmps207
    go_wp2_with fail
    go_ret
    exact HE.out
  | false =>
    have Hd := Lib.hid (show ¬ (M.dead = true) by rw [hd]; simp)
    rw [hd] at c5
    by_cases hbad : i < (M.last : Int) ∨ 1099511627776 < i
    · have HE := Lib.hid (fun q => show LRTold1 w1 l r pre Hot Cold (ledWrite (nm pre) D M i b) (.returned (.int .i64 1)) (w1.drewN q) from by
        unfold ledWrite
        rw [if_neg Hd.out, if_pos hbad]
        exact ⟨rfl, H.out.stepB (below_dq w1 q)⟩)
      clear hd hm hla Hla
      generalize M.last = la at *
      by_cases h1 : i < (la : Int)
      · have d1 : decide (i < (la : Int)) = true := decide_eq_true h1
        clear hbad
        go_enter Tryz.func207, Tryz.ntmps207
        go_wp2_with fail
        refine HL.out.mono ?_
        rintro e w2 ⟨rfl, q, rfl⟩
        go_wp2_with fail
        go_ret
        exact HE.out q
      · have d1 : decide (i < (la : Int)) = false := decide_eq_false h1
        have d2 : decide ((1099511627776 : Int) < i) = true := decide_eq_true (by omega)
        clear hbad h1
        go_enter Tryz.func207, Tryz.ntmps207
        go_wp2_with fail
        refine HL.out.mono ?_
        rintro e w2 ⟨rfl, q, rfl⟩
        go_wp2_with fail
        go_ret
        exact HE.out q
    have d1 : decide (i < (M.last : Int)) = false := decide_eq_false fun e => hbad (.inl e)
    have d2 : decide ((1099511627776 : Int) < i) = false := decide_eq_false fun e => hbad (.inr e)
    by_cases hbig : 524288 < m
    · have HE := Lib.hid (fun q => show LRTold1 w1 l r pre Hot Cold (ledWrite (nm pre) D M i b) (.returned (.int .i64 5)) (w1.drewN q) from by
        unfold ledWrite
        rw [if_neg Hd.out, if_neg hbad, if_pos (by rw [hm]; exact hbig)]
        exact ⟨rfl, H.out.stepB (below_dq w1 q)⟩)
      have d3 : decide ((524288 : Int) < (m : Int)) = true := decide_eq_true (by omega)
      have d3n : decide (524288 < m) = true := decide_eq_true hbig
      clear hd hm hla Hla hbad
      generalize M.last = la at *
      go_enter Tryz.func207, Tryz.ntmps207
      go_wp2_with fail
      refine HL.out.mono ?_
      rintro e w2 ⟨rfl, q, rfl⟩
      go_wp2_with fail
      go_ret
      exact HE.out q
    have d3 : decide ((524288 : Int) < (m : Int)) = false := decide_eq_false (by omega)
    have d3n : decide (524288 < m) = false := decide_eq_false hbig
    obtain ⟨n, rfl⟩ : ∃ n : Nat, i = (n : Int) := ⟨i.toNat, by omega⟩
    have hZ : ledWrite (nm pre) D M (n : Int) b = if (imgOn (nm pre) D n b).2 ≠ 0 then ⟨(imgOn (nm pre) D n b).1, M.die, 0, (imgOn (nm pre) D n b).2⟩ else ⟨(imgOn (nm pre) D n b).1, ⟨n, b, [], M.dead⟩, 0, 0⟩ := by
      unfold ledWrite
      rw [if_neg Hd.out, if_neg hbad, if_neg (by rw [hm]; exact hbig)]
      rfl
    have hn40 : n ≤ 1099511627776 := by omega
    have Hn40 := Lib.hid hn40
    have Hil := Lib.hid (show (imgB n b).length ≤ 1048576 from by have := imgB_len n b (by omega) (by omega); omega)
    have Hnum := Lib.hid (fun W => show Calls Tryz.prog 104 #[.int .i64 (n : Int)] W (RowNew W (numB n)) from by
      have := rnum1_calls W (n : Int) (by omega)
      rwa [numI_nat (by omega)] at this)
    have hnl : (numB n).length ≤ 9 := numB_nine (by omega)
    have hrl : (rowB b).length ≤ 524297 := by
      unfold rowB
      rw [List.length_append]
      have := numB_nine (n := b.length) (by omega)
      omega
    have Himg := Lib.hid (show numB n ++ rowB b = imgB n b from rfl)
    have hon : imgOn (nm pre) D n b = if (D.save (imgN (nm pre)) (imgB n b)).2 ≠ 0 then D.save (imgN (nm pre)) (imgB n b) else (D.save (imgN (nm pre)) (imgB n b)).1.rid1 (logN (nm pre)) := by
      unfold imgOn
      rw [rid_one]
    obtain ⟨D1, e1, hsv⟩ : ∃ D1 e1, D.save (imgN (nm pre)) (imgB n b) = (D1, e1) := ⟨_, _, rfl⟩
    rw [hsv] at hon
    have Hsv := Lib.hid hsv
    have Hon := Lib.hid (show imgOn (nm pre) D n b = if e1 ≠ 0 then (D1, e1) else D1.rid1 (logN (nm pre)) from hon)
    generalize imgOn (nm pre) D n b = Z at *
    have HZ := Lib.hid hZ
    generalize ledWrite (nm pre) D M (n : Int) b = ZZ at *
    have hm5 : m ≤ 524288 := by omega
    have d1n : decide (n < M.last) = false := decide_eq_false (by omega)
    have d2n : decide (1099511627776 < n) = false := decide_eq_false (by omega)
    clear hZ hbad hbig hd hm hla Hla hir hn40 hsv hon
    generalize M.last = la at *
    generalize hN : numB n = nb at *
    generalize hR : rowB b = rb at *
    generalize hI : imgB n b = ib at *
    clear hN hI
    generalize hn : nb.length = n1 at *
    generalize hn2 : rb.length = n2 at *
    have Hn := Lib.hid hn
    have Hn2 := Lib.hid hn2
    have HR := Lib.hid hR
    clear hn hn2 hR
    go_enter Tryz.func207, Tryz.ntmps207
    go_wp2_with fail
    refine HL.out.mono ?_
    rintro e w2 ⟨rfl, q, rfl⟩
    go_wp2_with fail
    have HBq := Lib.hid (show Below w1.heap.size w1 (w1.drewN q).drew from ⟨rfl, rfl, rfl, Nat.le_refl _, fun _ _ => rfl⟩)
    have c0q : (w1.drewN q).cell? ⟨l, 0, none⟩ = some (.pointer (some ⟨r, 0, none⟩)) := c0
    have c1q : (w1.drewN q).cell? ⟨l, 1, none⟩ = some (.string pre) := c1
    refine ord_start (fun w' : World => w'.cell? ⟨l, 0, none⟩ = some (.pointer (some ⟨r, 0, none⟩)) ∧ w'.cell? ⟨l, 1, none⟩ = some (.string pre)) (n := 16) (by kernel_rfl) rfl ⟨c0q, c1q⟩ (fun hHeld => ?_)
    refine Pl [0,1,2,3,4,5,6,7,8,9,11] ?_
    iterate 11 (refine Pc rfl ?_; simp only [Act.put, uA, uB, uC])
    refine Pn ?_
    clear c0 c1 c5 c0q c1q HL
    generalize (w1.drewN q).drew = W2 at *
    refine ord_one 10 rfl (by kernel_rfl) (by rfl) (fun K hK => ?_)
    have Hnq := Lib.hid (Hnum.out W2)
    go_wp2_with fail
    refine Hnq.out.mono ?_
    rintro e w3 ⟨x, rfl, hx, hxn, hb3⟩
    have Hh := Lib.hid (And.intro (cell_far hHeld.1 hb3) (cell_far hHeld.2 hb3))
    have HB3 := Lib.hid (HBq.out.trans (hb3.mono HBq.out.size))
    have HX := Lib.hid (show RowB W2 w3 x nb from ⟨hx, hxn, hb3⟩)
    obtain ⟨px, cx, rfl, -⟩ := own_cap0 hx
    rw [Hn.out] at HX
    rw [Hn.out]
    have Hby := Lib.hid (rbytes1_calls (HasB.below Hb.out HB3.out) (by have := Hm.out; omega))
    rw [HR.out] at Hby
    clear hx hxn hb3 Hnq hHeld
    go_wp2_with fail
    refine hK.out _ _ Hh.out (fun hHeld => ?_)
    clear hK
    try simp only [Act.put, uA, uB, uC]
    refine ord_one 12 rfl (by kernel_rfl) (by rfl) (fun K hK => ?_)
    go_wp2_with fail
    refine Hby.out.mono ?_
    rintro e w4 ⟨z, rfl, hz, hzn, hb4⟩
    have Hh := Lib.hid (And.intro (cell_far hHeld.1 hb4) (cell_far hHeld.2 hb4))
    have HX4 := Lib.hid (HX.out.next hb4)
    have Hz4 := Lib.hid (OwnB.has hz)
    obtain ⟨pz, cz, rfl, -⟩ := own_cap0 hz
    rw [Hn2.out] at Hz4
    rw [Hn2.out]
    clear hz hzn hb4 Hby hHeld
    go_wp2_with fail
    refine hK.out _ _ Hh.out (fun hHeld => ?_)
    clear hK
    try simp only [Act.put, uA, uB, uC]
    refine ord_one 13 rfl (by kernel_rfl) (by rfl) (fun K hK => ?_)
    have Hrow := Lib.hid (show OwnR w4 5 1 (.slice px n1 cx) n1 (bytesV nb) from by have := HX4.out.own; unfold OwnB at this; rwa [Hn.out] at this)
    have Hxx := Lib.hid (show Holds w4 1 (.slice pz n2 cz) n2 (bytesV rb) from by have := Hz4.out; unfold HasB at this; rwa [Hn2.out] at this)
    refine wp_app (.tmp 36) (.tmp 38) 39 rfl 5 i0 (.int .u8 0) 1 1 Tryz.underlying39 hi hz0 hz1 hz2 rfl (by decide) (.slice px n1 cx) n1 _ rfl Hrow.out (.slice pz n2 cz) n2 _ rfl Hxx.out (bytesV_one _) (by unfold maxLen; omega) (by omega) ?_
    intro v5 w5 hown hgrow hloc
    have HX5 := Lib.hid (RowB.grown (x := rb) HX4.out (by rw [Hn.out, Hn2.out]; exact hown) hgrow hloc)
    have HB5 := Lib.hid (HBq.out.trans (HX5.out.bel.mono HBq.out.size))
    obtain ⟨dv5, ev5, hcell5⟩ := H.out.cellsD
    have hcl5 := (HB5.out.block l (lt_of_block hcell5)).trans hcell5
    have Hh := Lib.hid (And.intro (show w5.cell? ⟨l, 0, none⟩ = some (.pointer (some ⟨r, 0, none⟩)) from cell_of hcl5 rfl) (show w5.cell? ⟨l, 1, none⟩ = some (.string pre) from cell_of hcl5 rfl))
    obtain ⟨p5, g5, rfl⟩ := OwnR.shape hown
    have Hsave := Lib.hid (lrs_save H.out HB5.out (pre ++ (⟨#[45, 105, 109, 103]⟩ : ByteArray)) hsi (p := p5) (m := n1 + n2) (c := g5) (x := ib) (by have := HX5.out.own.has; rwa [Himg.out] at this) Hil.out)
    rw [lnm_img, Hsv.out] at Hsave
    dsimp only at Hsave
    clear hgrow hloc hown Hrow Hxx hHeld hcell5 hcl5 HX5 HX4 Hz4 HX HB3
    go_wp2_with fail
    refine hK.out _ _ Hh.out (fun hHeld => ?_)
    clear hK
    try simp only [Act.put, uA, uB, uC]
    refine ord_one 14 rfl (by kernel_rfl) (by rfl) (fun K hK => ?_)
    go_wp2_with fail
    refine Hsave.out.mono ?_
    rintro e w6 ⟨rfl, h6⟩
    have H6 := Lib.hid h6
    obtain ⟨dv6, ev6, hcell6⟩ := h6.cellsD
    have k0 : w6.cell? ⟨l, 0, none⟩ = some (.pointer (some ⟨r, 0, none⟩)) := cell_of hcell6 rfl
    have k1 : w6.cell? ⟨l, 1, none⟩ = some (.string pre) := cell_of hcell6 rfl
    clear hcell6
    clear h6 Hsave hHeld
    go_wp2_with fail
    refine hK.out _ _ ⟨k0, k1⟩ (fun hHeld => ?_)
    clear hK
    try simp only [Act.put, uA, uB, uC]
    refine Pl [15] ?_
    iterate 1 (refine Pc rfl ?_; simp only [Act.put, uA, uB, uC])
    refine Pn ?_
    refine wpAnyH_done (by kernel_rfl) ?_ _
    clear hHeld Hh
    go_upto_region 8 with (fail)
    go_cut [51] (fun s51 wx => s51 = .bool (decide (e1 = 0) && (Sat.get (logN (nm pre)) D1.files).isSome) ∧ LRStep w1 l r pre Hot Cold wx D1 M)
    case first =>
      by_cases he1 : e1 = 0
      · subst he1
        have Hhas := Lib.hid (lrs_has H6.out (pre ++ (⟨#[45, 108, 111, 103]⟩ : ByteArray)))
        rw [lnm_log] at Hhas
        go_wp2_with fail
        refine Hhas.out.mono ?_
        rintro e w7 ⟨rfl, h7⟩
        have H7 := Lib.hid h7
        clear h7 Hhas
        go_wp2_with fail
        go_meet
        exact ⟨by simp, H7.out⟩
      · have hne : ((e1 : Int) == 0) = false := by simp; omega
        have hdd : decide (e1 = 0) = false := decide_eq_false he1
        clear he1
        go_wp2_with fail
        go_meet
        exact ⟨by simp [hdd], H6.out⟩
    case rest =>
      obtain ⟨rfl, h7⟩ := hcut
      have H7 := Lib.hid h7
      clear k0 k1 H6
      obtain ⟨dv7, ev7, hcell7⟩ := h7.cellsD
      have k0 : wc.cell? ⟨l, 0, none⟩ = some (.pointer (some ⟨r, 0, none⟩)) := cell_of hcell7 rfl
      have k1 : wc.cell? ⟨l, 1, none⟩ = some (.string pre) := cell_of hcell7 rfl
      clear hcell7
      clear h7
      go_upto_if 51 with (fail)
      go_cut [7] (fun s7 wx => s7 = .int .i64 (Z.2 : Int) ∧ LRStep w1 l r pre Hot Cold wx Z.1 M)
      case first =>
        cases hgb : (decide (e1 = 0) && (Sat.get (logN (nm pre)) D1.files).isSome) with
        | true =>
          rw [Bool.and_eq_true] at hgb
          obtain ⟨he, hgs⟩ := hgb
          have he1 : e1 = 0 := of_decide_eq_true he
          subst he1
          have HZ1 := Lib.hid (show D1.rid1 (logN (nm pre)) = Z from by rw [Hon.out, if_neg (by simp)])
          have Hrm := Lib.hid (fun W hb => lrs_rem H7.out (pre ++ (⟨#[45, 108, 111, 103]⟩ : ByteArray)) hsl (W := W) hb)
          rw [lnm_log] at Hrm
          rw [← rid1_yes hgs, HZ1.out] at Hrm
          clear hgs he
          go_wp2_with fail
          refine ord_start (fun w' : World => w'.cell? ⟨l, 0, none⟩ = some (.pointer (some ⟨r, 0, none⟩)) ∧ w'.cell? ⟨l, 1, none⟩ = some (.string pre)) (n := 11) (by kernel_rfl) rfl ⟨k0, k1⟩ (fun hHeld => ?_)
          refine Pl [0,1,2,3,4,5,6,7,8] ?_
          iterate 9 (refine Pc rfl ?_; simp only [Act.put, uA, uB, uC])
          refine Pn ?_
          refine ord_one 9 rfl (by kernel_rfl) (by rfl) (fun K hK => ?_)
          go_wp2_with fail
          refine (Hrm.out wc.drew (below_drew wc)).mono ?_
          rintro e w8 ⟨rfl, h8⟩
          have H8 := Lib.hid h8
          obtain ⟨dv8, ev8, hcell8⟩ := h8.cellsD
          have hk8 := And.intro (show w8.cell? ⟨l, 0, none⟩ = some (.pointer (some ⟨r, 0, none⟩)) from cell_of hcell8 rfl) (show w8.cell? ⟨l, 1, none⟩ = some (.string pre) from cell_of hcell8 rfl)
          have Hk8 := Lib.hid hk8
          clear h8 hcell8 hk8 hHeld
          go_wp2_with fail
          refine hK.out _ _ Hk8.out (fun hHeld => ?_)
          clear hK
          try simp only [Act.put, uA, uB, uC]
          refine Pl [10] ?_
          iterate 1 (refine Pc rfl ?_; simp only [Act.put, uA, uB, uC])
          refine Pn ?_
          refine wpAnyH_done (by kernel_rfl) ?_ _
          clear hHeld
          go_wp2_with fail
          go_meet
          exact ⟨rfl, H8.out⟩
        | false =>
          have HZ1 := Lib.hid (show Z = (D1, e1) from by
            rw [Hon.out]
            by_cases he : e1 = 0
            · rw [if_neg (by simpa using he), he]
              have hgs : (Sat.get (logN (nm pre)) D1.files).isSome = false := by simpa [he] using hgb
              exact rid1_no hgs
            · rw [if_pos he])
          clear hgb
          go_wp2_with fail
          go_meet
          exact ⟨by rw [HZ1.out], by rw [HZ1.out]; exact H7.out⟩
      case rest =>
        obtain ⟨rfl, h8⟩ := hcut
        have H8 := Lib.hid h8
        have Hwr := Lib.hid (lrs_wrote h8 Z.2)
        clear h8 k0 k1 H7
        obtain ⟨D2, e2⟩ := Z
        dsimp only at *
        go_wp2_with fail
        refine Hwr.out.mono ?_
        rintro e w9 ⟨rfl, h9⟩
        by_cases he2 : e2 = 0
        · subst he2
          have h9 : LRStep w1 l r pre Hot Cold w9 D2 M := h9
          have H9 := Lib.hid h9
          obtain ⟨dv9, ev9, hcell9⟩ := h9.cellsD
          have HB9 := Lib.hid (hasB_keep Hb.out h9.chg Hno.out)
          have HE0 := Lib.hid (show ∀ W, LRStep w1 l r pre Hot Cold W D2 ⟨n, b, [], M.dead⟩ → LRTold1 w1 l r pre Hot Cold ZZ (.returned (.int .i64 0)) W from fun W h => by
            rw [HZ.out, if_neg (by simp)]
            exact ⟨rfl, h⟩)
          have Hal := Lib.hid (own_empty w9 5)
          have Hxx := Lib.hid (show Holds (w9.alloc (.cells #[] 5)) 1 (.slice pb m cb) m (bytesV b) from by
            have h1 := HB9.out.below (below_one w9 (.cells #[] 5))
            unfold HasB at h1
            rwa [Hm.out] at h1)
          have Hc9 := Lib.hid hcell9
          clear h9 hcell9
          go_wp2_with (at_builtin; refine wpList_app _ rfl (.tmp 71) (.tmp 72) 39 rfl 5 i0 (.int .u8 0) 1 1 Tryz.underlying39 hi hz0 hz1 hz2 rfl (by decide) (.slice (some ⟨w9.heap.size, 0, none⟩) 0 0) 0 [] rfl Hal.out (.slice pb m cb) m _ rfl Hxx.out (bytesV_one _) (by unfold maxLen; omega) (by omega) ?_; intro v10 w10 hown hgrow hloc; go_loud (have HN := Lib.hid (copy_new Hm.out hown hgrow hloc); clear hgrow hloc; obtain ⟨p10, c10, rfl⟩ := OwnR.shape hown; clear hown; have HE := Lib.hid (HE0.out _ (lrs_img (n := n) H9.out HN.out.2.2 HN.out.1.has (fun k hk => ⟨HN.out.2.1 k hk, OwnR.lt HN.out.1 hk⟩) Hn40.out (by have := Hm.out; omega))); have hc10 := (HN.out.2.2.block l (lt_of_block Hc9.out)).trans Hc9.out; have s2 := cell_of hc10 (i := 2) rfl; have s3 := cell_of hc10 (i := 3) rfl; have s4 := cell_of hc10 (i := 4) rfl; have f2 := frozen_of hc10 2; have f3 := frozen_of hc10 3; have f4 := frozen_of hc10 4; clear hc10))
          go_ret
          have hE := HE.out
          rw [Nat.zero_add] at hE
          exact hE
        · have hne : ((e2 : Int) != 0) = true := by simp; omega
          have HE := Lib.hid (show LRTold1 w1 l r pre Hot Cold ZZ (.returned (.int .i64 (e2 : Int))) w9 from by
            rw [HZ.out, if_pos he2]
            refine ⟨rfl, ?_⟩
            have h9 := h9
            unfold LedM.dieIf at h9
            rwa [if_neg he2] at h9)
          clear he2 h9
          go_wp2_with fail
          go_ret
          exact HE.out
end
end Go.Proofs.YtogdfkilhpkloaaGreatDoor

namespace Go.Proofs.YtogdfkilhpkloaaGreatDoor
open Go.RowKit Go.Sat Go.Maps

set_option maxRecDepth 100000 in
set_option maxHeartbeats 4000000 in
theorem r12is_calls (w : World) (a b : ByteArray) (ha : a.size ≤ 9223372036854775807) (hb : b.size ≤ 9223372036854775807) :
    Calls Tryz.prog 48 #[.agg #[.string a, .string b]] w fun e w' => e = .returned (.bool (isSpan a b)) ∧ w' = w.alloc (.cells #[.string a, .string b] 27) := by
  have Hb := Lib.hid (box_below w (.cells #[.string a, .string b] 27))
  go_enter Tryz.func48, Tryz.ntmps48
  go_wp2_with fail
  all_goals
    go_ret
    refine ⟨?_, rfl⟩
    congr 2
    simp_all [isSpan, strLt, strEq]
    try omega
set_option maxRecDepth 100000 in
set_option maxHeartbeats 4000000 in
theorem r15may_calls (w : World) (h : HeadM) (hw : h.wf) : Calls Tryz.prog 14 #[.agg #[.int .i64 h.id, .string h.fr, .string h.tu, .int .i64 h.epoch, .int .i64 h.state]] w (RetB h.is w) := by
  obtain ⟨id, fr, tu, ep, st⟩ := h
  have HS := Lib.hid (fun W => r12is_calls W fr tu hw.1 hw.2)
  have HB := Lib.hid (box_below w (.cells #[.int .i64 id, .string fr, .string tu, .int .i64 ep, .int .i64 st] 42))
  have Hr : HeadM.is ⟨id, fr, tu, ep, st⟩ = (decide (1 ≤ id) && decide (id ≤ 1048576) && isSpan fr tu && decide (1 ≤ ep) && decide (ep ≤ 1099511627776) && decide (1 ≤ st) && decide (st ≤ 3)) := rfl
  rw [Hr]
  clear Hr hw
  dsimp only
  by_cases h1 : 1 ≤ id ∧ id ≤ 1048576
  · obtain ⟨h1, h2⟩ := h1
    go_enter Tryz.func14, Tryz.ntmps14
    go_wp2_with fail
    refine (HS.out _).mono ?_
    rintro e w2 ⟨rfl, hw2⟩
    have HB2 := Lib.hid (show Below w.heap.size w w2 from hw2 ▸ HB.out.trans ((box_below _ _).mono HB.out.size))
    have c2 : w2.cell? ⟨w.heap.size, 3, none⟩ = some (.int .i64 ep) := by rw [hw2]; exact cell_of (old_block _ (new_block w _)) rfl
    have c3 : w2.cell? ⟨w.heap.size, 4, none⟩ = some (.int .i64 st) := by rw [hw2]; exact cell_of (old_block _ (new_block w _)) rfl
    clear hw2
    cases hs : isSpan fr tu
    all_goals
      go_wp2_with fail
      all_goals
        go_ret
        refine ⟨?_, HB2.out⟩
        refine congrArg (fun b => Ending.returned (.bool b)) (?_ : _ = _)
        rw [Bool.eq_iff_iff]
        simp_all
        try omega
  · go_enter Tryz.func14, Tryz.ntmps14
    go_wp2_with fail
    all_goals
      go_ret
      refine ⟨?_, HB.out⟩
      congr 2
      simp_all
      try omega

set_option maxRecDepth 100000 in
set_option maxHeartbeats 4000000 in
theorem rdec5_calls (w : World) : Calls Tryz.prog 259 #[.int .i64 5] w fun e w' => e = .returned (.string ⟨#[53]⟩) ∧ Below w.heap.size w w' := by
  have hx := conv_str (P := Tryz.prog) (W := w.alloc (.cells #[.int .u8 53] 5)) Tryz.underlying39 Tryz.underlying5 Tryz.underlying9 (has_lit (w := w) (e := 5) (fr := (0, 0)) #[.int .u8 53] [53] w.heap.size 1 1 rfl rfl rfl)
  have HB := Lib.hid (box_below w (.cells #[.int .u8 53] 5))
  go_enter Tryz.func259, Tryz.ntmps259
  go_wp2_with fail
  go_loopw [0, 3] (fun n s wr => n = .int .i64 5 ∧ s = .string ⟨#[]⟩ ∧ wr = w) (fun _ _ _ => 0)
  case atStart => exact ⟨rfl, rfl, rfl⟩
  case round =>
    obtain ⟨rfl, rfl, hwr⟩ := hrel
    obtain rfl := hwr.symm
    go_wp2_with fail
    go_ret
    exact ⟨by congr 2, HB.out⟩
theorem z5_cat : (⟨#[122]⟩ : ByteArray) ++ ⟨#[53]⟩ = zpre 5 := by
  unfold zpre
  rw [Lib.decDigits_one (by decide)]
  kernel_rfl
set_option maxRecDepth 100000 in
set_option maxHeartbeats 4000000 in
theorem rprefix5_calls (w : World) : Calls Tryz.prog 206 #[.int .i64 5] w fun e w' => e = .returned (.string (zpre 5)) ∧ Below w.heap.size w w' := by
  have HD := Lib.hid (rdec5_calls w)
  have HZ := Lib.hid z5_cat
  go_enter Tryz.func206, Tryz.ntmps206
  go_wp2_with fail
  refine HD.out.mono ?_
  rintro e w2 ⟨rfl, hb⟩
  have HB := Lib.hid hb
  clear hb HD
  go_wp2_with fail
  go_ret
  exact ⟨by rw [← HZ.out]; rfl, HB.out⟩
def H5 : HeadM := ⟨5, ⟨#[]⟩, ⟨#[]⟩, 1, 1⟩
theorem H5_is : H5.is = true := by
  show (decide (1 ≤ (5 : Int)) && decide ((5 : Int) ≤ 1048576) && isSpan ⟨#[]⟩ ⟨#[]⟩ && decide (1 ≤ (1 : Int)) && decide ((1 : Int) ≤ 1099511627776) && decide (1 ≤ (1 : Int)) && decide ((1 : Int) ≤ 3)) = true
  unfold isSpan
  rw [show (⟨#[]⟩ : ByteArray).toList = [] from by unfold ByteArray.toList ByteArray.toList.loop; rfl]
  rfl
theorem zp5 : (nm (zpre 5)).length = 2 := by
  rw [nm_len]
  show (122 :: Lib.decDigits 5).toArray.size = 2
  rw [Lib.decDigits_one (by decide)]
  rfl
theorem zd5_len : (zdata H5 [0, 0, 0, 0]).length ≤ 1000 := by
  have h1 := numsI_len [H5.id]
  have h2 := numsI_len [H5.epoch, H5.state]
  have h3 := numB_nine (n := 0) (by decide)
  have h4 := numB_nine (n := 0 + 1 + 1 + 1 + 1) (by decide)
  unfold zdata rowB
  have e1 : H5.fr.data.toList = [] := rfl
  have e2 : H5.tu.data.toList = [] := rfl
  simp only [e1, e2, List.length_append, List.length_nil, List.length_cons] at *
  omega
theorem laid5 : ∃ D1, ledOpen (DiskM.fresh 262144) (nm (zpre 5)) = (DiskM.fresh 262144, 0, MM none []) ∧ ledWrite (nm (zpre 5)) (DiskM.fresh 262144) (MM none []) 0 (zdata H5 [0, 0, 0, 0]) = ⟨D1, MM (some (0, zdata H5 [0, 0, 0, 0])) [], 0, 0⟩ := by
  have hp : 1 ≤ (nm (zpre 5)).length ∧ (nm (zpre 5)).length ≤ 20 := by rw [zp5]; decide
  have hl := lies_new (nm (zpre 5)) 262144
  have hz := zd5_len
  obtain ⟨D1, h1, -, -, -⟩ := wri_lies (n := 0) (p := zdata H5 [0, 0, 0, 0]) hp (ok_fresh 262144 (by decide)) (tame_new (by decide)) hl (by decide) (by decide) (by omega) (by omega) (by decide)
  exact ⟨D1, open_lies hp hl trivial ⟨by decide, by intro e h; cases h⟩, h1⟩
set_option maxRecDepth 100000 in
set_option maxHeartbeats 8000000 in
theorem rmake0_calls {w : World} {r : Nat} {v : Value} {own : Nat → Prop} {p : Option Addr} {c : Nat} (h : RefIn w r v [] own (DiskM.fresh 262144)) (hx : HasB w (.slice p 4 c) [0, 0, 0, 0]) (hc : 4 ≤ c) :
    Calls Tryz.prog 146 #[.pointer (some ⟨r, 0, none⟩), .agg #[.int .i64 5, .string ⟨#[]⟩, .string ⟨#[]⟩, .int .i64 1, .int .i64 1], .int .i64 0, .slice p 4 c] w fun e w' => ∃ a b, e = .returned (.tuple #[a, b]) ∧ Chg own w w' := by
  obtain ⟨D1, ho, hw⟩ := laid5
  have Hl := Lib.hid (And.intro ho hw)
  have HR := Lib.hid h
  have HX := Lib.hid (And.intro hx hc)
  have HM := Lib.hid (fun W => r15may_calls W H5 ⟨(Nat.zero_le _ : 0 ≤ 9223372036854775807), (Nat.zero_le _ : 0 ≤ 9223372036854775807)⟩)
  rw [H5_is] at HM
  clear h hx hc ho hw
  go_enter Tryz.func146, Tryz.ntmps146
  go_wp2_with fail
  refine (HM.out _).mono ?_
  rintro e w2 ⟨rfl, hb⟩
  have hno := new_block w (.cells #[.int .i64 5, .string ⟨#[]⟩, .string ⟨#[]⟩, .int .i64 1, .int .i64 1] 42)
  have hbo := box_below w (.cells #[.int .i64 5, .string ⟨#[]⟩, .string ⟨#[]⟩, .int .i64 1, .int .i64 1] 42)
  have H2 := Lib.hid (And.intro ((hb.block _ (lt_of_block hno)).trans hno) (hbo.trans (hb.mono hbo.size)))
  clear hno hbo hb HM
  have d1 := cell_of H2.out.1 (i := 1) (v := .string ⟨#[]⟩) rfl
  have d2 := cell_of H2.out.1 (i := 2) (v := .string ⟨#[]⟩) rfl
  go_wp2_with fail
  refine (r15image_0 _ _ (HasB.below HX.out.1 H2.out.2) HX.out.2).mono ?_
  rintro e w3 ⟨eb, rfl, he, hge, hb⟩
  have H3 := Lib.hid (And.intro ((hb.block _ (lt_of_block H2.out.1)).trans H2.out.1) (And.intro (H2.out.2.trans (hb.mono H2.out.2.size)) he))
  have Hge := Lib.hid (Nat.le_trans H2.out.2.size hge)
  clear he hge hb d1 d2 H2
  have d0 := cell_of H3.out.1 (i := 0) (v := .int .i64 5) rfl
  go_wp2_with fail
  refine (rprefix5_calls _).mono ?_
  rintro e w4 ⟨rfl, hb⟩
  have H4 := Lib.hid (And.intro ((hb.block _ (lt_of_block H3.out.1)).trans H3.out.1) (And.intro (H3.out.2.1.trans (hb.mono H3.out.2.1.size)) ((hb.block _ (lt_of_block H3.out.2.2)).trans H3.out.2.2)))
  clear hb d0 H3
  have hop := lropen_calls (HR.out.below H4.out.2.1) (zpre 5)
  rw [Hl.out.1] at hop
  have HOp := Lib.hid hop
  clear hop
  go_wp2_with fail
  refine HOp.out.mono ?_
  rintro e w5 (⟨-, l, Hot, Cold, rfl, hF, hcO, hh⟩ | ⟨hne, -⟩)
  rotate_left
  · exact absurd rfl hne
  have hno1 : ∀ k, w.heap.size ≤ k → ¬ own k := fun k hk e => by have := HR.out.olt k e; omega
  have Hq := Lib.hid (show w5.heap[w.heap.size]? = some (.cells #[.int .i64 5, .string ⟨#[]⟩, .string ⟨#[]⟩, .int .i64 1, .int .i64 1] 42 (0, 0)) ∧ w5.heap[eb]? = some REconO ∧ Chg own w w5 ∧ ∀ k, Hot k → own k ∨ w.heap.size ≤ k from
    ⟨(hcO.block _ (lt_of_block H4.out.1) (hno1 _ (Nat.le_refl _))).trans H4.out.1, (hcO.block _ (lt_of_block H4.out.2.2) (hno1 _ Hge.out)).trans H4.out.2.2, chg_below H4.out.2.1 hcO, fun k hk => (hh k (.inl hk)).imp id fun e => Nat.le_trans H4.out.2.1.size e⟩)
  have HF := Lib.hid hF
  clear hF hcO hh hno1 HOp H4
  have d0 := cell_of Hq.out.1 (i := 0) (v := .int .i64 5) rfl
  have d1 := cell_of Hq.out.1 (i := 1) (v := .string ⟨#[]⟩) rfl
  have d2 := cell_of Hq.out.1 (i := 2) (v := .string ⟨#[]⟩) rfl
  have d3 := cell_of Hq.out.1 (i := 3) (v := .int .i64 1) rfl
  have d4 := cell_of Hq.out.1 (i := 4) (v := .int .i64 1) rfl
  go_upto_region 10 with (fail)
  try simp only [Act.put, uA, uB, uC]
  have hno := new_block w5 (RZoneO H5 eb l)
  have hbo := box_below w5 (RZoneO H5 eb l)
  have hD := r15data_0 hno ((hbo.block _ (lt_of_block Hq.out.2.1)).trans Hq.out.2.1) H5_is
  have HB6 := Lib.hid hbo
  have HDa := Lib.hid hD
  unfold RZoneO at HDa HB6
  clear hno hbo hD d0 d1 d2 d3 d4
  go_wp2_with fail
  refine HDa.out.mono ?_
  rintro e w7 ⟨v7, rfl, hv, hvn, hb⟩
  obtain ⟨pv, cv, rfl⟩ := hv.slice
  have HF7 := Lib.hid (HF.out.below (HB6.out.trans (hb.mono HB6.out.size)))
  have hwr := lrwrite_calls HF7.out 0 (by decide) hv.has (by have := zd5_len; omega) (fun _ k hk hot => by have h1 := hvn k hk; have h2 := HF.out.hlt hot; have h3 := HB6.out.size; omega)
  rw [Hl.out.2] at hwr
  have HW := Lib.hid hwr
  have H7 := Lib.hid (Hq.out.2.2.1.trans (Chg.of_below (HB6.out.trans (hb.mono HB6.out.size))) fun _ _ e => e.elim)
  clear hv hvn hb hwr HDa
  generalize (zdata H5 [0, 0, 0, 0]).length = N at *
  go_wp2_with fail
  refine HW.out.mono ?_
  rintro e w8 ⟨rfl, -, -, -, hcW, -, -⟩
  have H8 := Lib.hid (show Chg own w w8 from H7.out.trans hcW fun i hi hot => (Hq.out.2.2.2 i hot).resolve_right (by omega))
  clear hcW HW H7
  go_wp2_with fail
  go_ret2
  exact ⟨_, _, rfl, H8.out⟩
end Go.Proofs.YtogdfkilhpkloaaGreatDoor
