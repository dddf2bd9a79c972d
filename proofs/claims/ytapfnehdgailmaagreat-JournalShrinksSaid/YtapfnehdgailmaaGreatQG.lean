/- journal: slices.Clone of entries, rebase. (Printed by mkj14.py.) journal: goes. (Printed by mkj15.py.) journal: Compact, Install. (Printed by mkj16.py.) journal: Install. (Printed by mkj17.py.) The contracts of octet's Reader, with the set of blocks in which its bytes lie. (Printed by mkx.py out of the texts Rdr, RdrN.) -/
import Derived.Lib.SliceRun
import Derived.Test.YtapfnehdgailmaaGreatQB
import Derived.Test.YtapfnehdgailmaaGreatQF
namespace Go.Proofs.YtapfnehdgailmaaGreat
open Go.RowKit Go.Sat Go.Maps

set_option maxRecDepth 100000 in
theorem ecl_calls {w : World} {p : Option Addr} {n c : Nat} {cs : List Value} (h : Holds w 4 (.slice p n c) n cs) (h1 : ∀ u ∈ cs, u.oneCell' = true) (hn : n ≤ 1099511627776) :
    Calls Tryz.prog 157 #[.slice p n c] w fun e w' => ∃ v, e = .returned v ∧ OwnR w' 50 4 v n cs ∧ (∀ k, v.ownBlock = some k → w.heap.size ≤ k) ∧ Below w.heap.size w w' := by
  obtain ⟨i4, hi4, hz40, hz41, hz42⟩ := info_parts (show (Tryz.prog.info? 50).map (fun i => (i.zero, i.size, i.bytes)) = some (some (.agg #[.int .i64 0, .int .i64 0, .slice none 0 0, .slice none 0 0]), 4, 64) by kernel_rfl)
  have q78 : ∀ (w : World) (a : Option Addr) (n c n' c' : Nat), (binOp .eql 78 (.slice a n c) (.slice none n' c')).run Tryz.prog w = .ok (.bool a.isNone) w := fun w a n c n' c' => Lib.run_eql_slice_nil w _ _ a n c n' c' Tryz.underlying78
  cases p with
  | none =>
    obtain ⟨hl, p', c', e, h0, -⟩ := h
    have hn0 : n = 0 := by
      simp only [Value.slice.injEq] at e
      exact h0 e.1.symm
    subst hn0
    have hcs : cs = [] := List.eq_nil_of_length_eq_zero (by simpa using hl)
    subst hcs
    go_enter Tryz.func157, Tryz.ntmps157
    go_wp2_with fail
    go_ret
    exact ⟨_, rfl, OwnR.nil _ _ _, fun k hk => (by cases hk), Below.refl _ _⟩
  | some a =>
    have H := Lib.hid h
    have H1 := Lib.hid h1
    clear h h1
    go_enter Tryz.func157, Tryz.ntmps157
    go_wp2_with (at_builtin; have hb := below_one0 w (.cells #[] 50); have hal : OwnR (w.alloc (.cells #[] 50)) 50 4 (.slice (some ⟨w.heap.size, 0, none⟩) 0 0) 0 [] := ⟨rfl, .inr ⟨w.heap.size, 0, #[], rfl, new_block w _, Nat.le_refl _, by decide, Nat.le_refl _, rfl⟩⟩; have hxx := Holds.chg H.out (Chg.of_below hb) fun _ _ => id; refine wpList_app _ rfl (.tmp 5) (.tmp 6) 78 rfl 50 i4 (.agg #[.int .i64 0, .int .i64 0, .slice none 0 0, .slice none 0 0]) 4 64 Tryz.underlying78 hi4 hz40 hz41 hz42 rfl (by decide) _ 0 _ rfl hal _ n _ rfl hxx H1.out (by unfold maxLen; omega) (by omega) ?_; intro v3 w3 hown3 hgrow3 hloc3; go_loud (have HE := Lib.hid (show OwnR w3 50 4 v3 n cs ∧ (∀ k, v3.ownBlock = some k → w.heap.size ≤ k) ∧ Below w.heap.size w w3 from ⟨by simpa using hown3, fun k hk => (by { rcases hloc3 with e | ⟨g, e, hge⟩; rw [hk] at e; cases e; exact Nat.le_refl _; rw [hk] at e; cases e; exact Nat.le_trans hb.size hge }), (((Chg.of_below hb).trans (Chg.of_grown hgrow3) fun k hk e => (by have e2 : k = w.heap.size := Option.some.inj e; omega) : Chg (fun _ => False) w w3)).below (Nat.le_refl _) fun _ _ e => e⟩); clear hb hal hxx hgrow3 hloc3; obtain ⟨p3, q3, rfl⟩ := OwnR.shape hown3; clear hown3))
    go_ret
    exact ⟨_, rfl, by have := HE.out; rwa [Nat.zero_add] at this⟩

theorem add_zero' (g o i : Nat) : (⟨g, o, none⟩ : Addr).add i = ⟨g, o + i, none⟩ := by unfold Addr.add; split <;> simp_all

theorem run_tail4 {P : Program} (w : World) {t e : TypeId} {i : TypeInfo} (ht : P.underlying t = some (.slice e)) (hi : P.info? e = some i) (p : Option Addr) (len cap k : Nat) (h : k ≤ len) (_h2 : len ≤ cap) :
    (Instr.slice t (.slice p len cap) (some (.int .i64 (k : Int))) none none).run P w = .ok (.slice (if cap = k then p else p.map fun x => x.add (k * i.size)) (len - k) (cap - k)) w := by
  have h1 : (Instr.sliceBound (.int .i64 (k : Int)) len .sliceB).run P w = .ok k w := by
    rw [run_sliceBound _ _ _ _ _ (by omega) (by omega)]
    simp
  simp [Instr.slice, run_underlying ht, Instr.sliceBounds, h1, sizeOf, typeInfo, hi, Result.andThen]

theorem holds_drop {w : World} {e : TypeId} {p : Option Addr} {n c k : Nat} {xs : List Value} (h : OwnR w e 4 (.slice p n c) n xs) (hk : k ≤ n) :
    Holds w 4 (.slice (if c = k then p else p.map fun x => x.add (k * 4)) (n - k) (c - k)) (n - k) (xs.drop (k * 4)) := by
  refine ⟨by rw [List.length_drop, h.1, Nat.sub_mul], _, _, rfl, fun e1 => ?_, fun a ha i u hu => ?_⟩
  · rcases h.2 with ⟨e2, hn⟩ | ⟨g, cap, cur, e2, hg, hnc, -⟩
    · omega
    · simp only [Value.slice.injEq] at e2
      obtain ⟨rfl, -, rfl⟩ := e2
      split at e1 <;> simp at e1
  · have hi := (List.getElem?_eq_some_iff.1 hu).1
    rw [List.length_drop, h.1] at hi
    rcases h.2 with ⟨e2, hn⟩ | ⟨g, cap, cur, e2, hg, hnc, -⟩
    · omega
    · simp only [Value.slice.injEq] at e2
      obtain ⟨rfl, -, rfl⟩ := e2
      rw [if_neg (by omega)] at ha
      simp only [Option.map_some, Option.some.injEq] at ha
      subst ha
      rw [add_zero, add_zero' g (k * 4) i]
      rw [List.getElem?_drop] at hu
      have := h.cells (g := g) rfl (k * 4 + i) u hu
      rwa [add_zero] at this

theorem entsC_one : ∀ (es : List Ent) (vs : List EV), (∀ v ∈ vs, v.1.oneCell' = true ∧ v.2.oneCell' = true) → ∀ u ∈ entsC es vs, u.oneCell' = true
  | [], vs, _, u, hu => by rw [show entsC [] vs = [] by cases vs <;> rfl] at hu; cases hu
  | _ :: _, [], _, u, hu => by cases hu
  | e :: es, v :: vs, h, u, hu => by
    have hv := h v (by simp)
    rcases List.mem_append.1 (show u ∈ entC e v ++ entsC es vs from hu) with hu | hu
    · simp only [entC, List.mem_cons, List.not_mem_nil, or_false] at hu
      rcases hu with rfl | rfl | rfl | rfl
      · rfl
      · rfl
      · exact hv.1
      · exact hv.2
    · exact entsC_one es vs (fun v hv => h v (by simp [hv])) u hu

theorem JouIn.shape {w : World} {j d : Nat} {pre : ByteArray} {own : Nat → Prop} {M : JouM} {gv dv ev : Value} {vs : List EV} (h : JouIn w j d pre own M gv dv ev vs) : ∀ v ∈ vs, v.1.oneCell' = true ∧ v.2.oneCell' = true := fun v hv => by
  obtain ⟨i, hi⟩ := List.getElem?_of_mem hv
  have hl := (List.getElem?_eq_some_iff.1 hi).1
  have he := h.rows.2 i _ v (List.getElem?_eq_getElem (by rw [← h.rows.1]; exact hl)) hi
  obtain ⟨p, c, e1, -⟩ := own_cap0 he.data
  obtain ⟨q, c2, e2, -⟩ := own_capI he.nodes
  rw [e1, e2]
  exact ⟨rfl, rfl⟩

theorem entsC_nil (vs : List EV) : entsC [] vs = [] := by cases vs <;> rfl

/-- What a snapshot is. -/
structure Snap.OK (s : Snap) : Prop where
  number : s.number ≤ 1099511627776
  term : isTm s.term = true
  group : isGrp s.group = true
  data : s.data.length ≤ 1073741824

theorem termAt_le {M : JouM} {i : Nat} {t : Int} (h : M.termAt (i : Int) = some t) : i ≤ M.last := by
  unfold JouM.termAt at h
  unfold JouM.last
  split at h
  · omega
  · split at h
    · cases h
    · cases he : M.entries[((i : Int) - (M.number : Int) - 1).toNat]? with
      | none => rw [he] at h; cases h
      | some e =>
        have := (List.getElem?_eq_some_iff.1 he).1
        omega

theorem rebase_ok {M : JouM} {s : Snap} (h : M.OK) (hs : s.OK) : (M.rebase s).OK := by
  have hl := h.last
  refine ⟨?_, hs.term, hs.group, h.now, h.vote, hs.data, fun e he => ?_⟩
  · show s.number + (if M.number < s.number ∧ M.termAt s.number = some s.term then M.entries.drop (s.number - M.number) else []).length ≤ _
    split
    · rename_i hc
      have := termAt_le hc.2
      unfold JouM.last at this hl
      rw [List.length_drop]
      omega
    · have := hs.number
      simpa using this
  · have he : e ∈ (if M.number < s.number ∧ M.termAt s.number = some s.term then M.entries.drop (s.number - M.number) else []) := he
    split at he
    · exact h.ents e (List.mem_of_mem_drop he)
    · cases he

section
variable {w w1 w2 : World} {j d : Nat} {pre : ByteArray} {D : DiskM} {M : JouM} {F F2 : Nat → Prop}

/-- The journal itself has turned, and has taken blocks that were set apart. -/
theorem JouF.turned2 {own own' : Nat → Prop} {M' : JouM} {gv' dv' ev' : Value} {vs' : List EV} (hS : St w w1 d D (fun k => own k ∨ F k)) (hn : ∀ k, own k → w.heap.size ≤ k ∧ ¬ F k) (hl : ∀ k, F k → k < w1.heap.size)
    (hL' : JouIn w2 j d pre own' M' gv' dv' ev' vs') (hc : Chg own w1 w2) (hx : ∀ k, own' k → own k ∨ w1.heap.size ≤ k ∨ (F k ∧ w.heap.size ≤ k)) (hF2 : ∀ k, F2 k → F k ∧ ¬ own' k) : JouF w w2 j d pre D M' F2 ∧ Same F2 w1 w2 := by
  refine ⟨⟨own', gv', dv', ev', vs', hL', hS.move hc (fun k _ hk => ⟨.inl hk, (hn k hk).1⟩) (fun k hk => ?_), fun k hk => ⟨?_, fun hf => (hF2 k hf).2 hk⟩, fun k hk => Nat.lt_of_lt_of_le (hl k (hF2 k hk).1) hc.size⟩, fun k hk => hc.block k (hl k (hF2 k hk).1) fun ho => (hn k ho).2 (hF2 k hk).1⟩
  · rcases hk with hk | hk
    · refine ⟨?_, hL'.olt k hk⟩
      rcases hx k hk with h | h | h
      · exact .inl (.inl h)
      · exact .inr h
      · exact .inl (.inr h.1)
    · exact ⟨.inl (.inr (hF2 k hk).1), Nat.lt_of_lt_of_le (hl k (hF2 k hk).1) hc.size⟩
  · rcases hx k hk with h | h | h
    · exact (hn k h).1
    · exact Nat.le_trans hS.below.size h
    · exact h.2

/-- The base, the data and the entries of a journal have turned. -/
theorem jouIn_base {own : Nat → Prop} {gv dv ev : Value} {vs : List EV} {s : Snap} {gn dn en : Value} {k : Nat} {es : List Ent} (hJ : JouIn w1 j d pre own M gv dv ev vs) (_hs : s.OK) (hg : OwnI w1 gn s.group) (hd : OwnB w1 5 dn s.data) (hge : ∀ x, gn.ownBlock = some x ∨ dn.ownBlock = some x → ¬ own x)
    (hes : es = M.entries.drop k) (hb : Below w1.heap.size w1 w2) (he : OwnR w2 50 4 en es.length (entsC es (vs.drop k))) (hen : ∀ x, en.ownBlock = some x → w1.heap.size ≤ x) (hok : (JouM.mk s.number s.term s.group M.now M.vote s.data es M.dead).OK) :
    JouIn (((((w2.setCell ⟨j, 0, none⟩ (.int .i64 (s.number : Int))).setCell ⟨j, 1, none⟩ (.int .i64 s.term)).setCell ⟨j, 2, none⟩ gn).setCell ⟨j, 7, none⟩ dn).setCell ⟨j, 8, none⟩ en) j d pre (fun x => own x ∨ (gn.ownBlock = some x ∨ dn.ownBlock = some x) ∨ en.ownBlock = some x) (JouM.mk s.number s.term s.group M.now M.vote s.data es M.dead) gn dn en (vs.drop k) ∧
    Chg own w1 (((((w2.setCell ⟨j, 0, none⟩ (.int .i64 (s.number : Int))).setCell ⟨j, 1, none⟩ (.int .i64 s.term)).setCell ⟨j, 2, none⟩ gn).setCell ⟨j, 7, none⟩ dn).setCell ⟨j, 8, none⟩ en) := by
  have hsz := hb.size
  have hjl := hJ.olt j hJ.ol
  have hC : Chg (fun x => x = j) w2 (((((w2.setCell ⟨j, 0, none⟩ (.int .i64 (s.number : Int))).setCell ⟨j, 1, none⟩ (.int .i64 s.term)).setCell ⟨j, 2, none⟩ gn).setCell ⟨j, 7, none⟩ dn).setCell ⟨j, 8, none⟩ en) :=
    ((((Chg.setCell w2 ⟨j, 0, none⟩ _).trans (Chg.setCell _ ⟨j, 1, none⟩ _) fun _ _ e => e).trans (Chg.setCell _ ⟨j, 2, none⟩ _) fun _ _ e => e).trans (Chg.setCell _ ⟨j, 7, none⟩ _) fun _ _ e => e).trans (Chg.setCell _ ⟨j, 8, none⟩ _) fun _ _ e => e
  have hcell : (((((w2.setCell ⟨j, 0, none⟩ (.int .i64 (s.number : Int))).setCell ⟨j, 1, none⟩ (.int .i64 s.term)).setCell ⟨j, 2, none⟩ gn).setCell ⟨j, 7, none⟩ dn).setCell ⟨j, 8, none⟩ en).heap[j]? = some (.cells #[.int .i64 (s.number : Int), .int .i64 s.term, gn, .pointer (some ⟨d, 0, none⟩), .string pre, .int .i64 M.now, .int .i64 M.vote, dn, en, .bool M.dead] 132 (0, 0)) := by
    have h1 := set_block ((hb.block j hjl).trans hJ.cells) 0 (.int .i64 (s.number : Int))
    have h2 := set_block h1 1 (.int .i64 s.term)
    have h3 := set_block h2 2 gn
    have h4 := set_block h3 7 dn
    have h5 := set_block h4 8 en
    simpa using h5
  generalize ((((w2.setCell ⟨j, 0, none⟩ (.int .i64 (s.number : Int))).setCell ⟨j, 1, none⟩ (.int .i64 s.term)).setCell ⟨j, 2, none⟩ gn).setCell ⟨j, 7, none⟩ dn).setCell ⟨j, 8, none⟩ en = W at *
  have hk : ∀ x, x < w1.heap.size → x ≠ j → W.heap[x]? = w1.heap[x]? := fun x hx hne => (hC.block x (by omega) hne).trans (hb.block x hx)
  have hgj : ∀ x, gn.ownBlock = some x ∨ dn.ownBlock = some x → x ≠ j := fun x hx e => hge x hx (e ▸ hJ.ol)
  have hgl : ∀ x, gn.ownBlock = some x ∨ dn.ownBlock = some x → x < w1.heap.size := fun x hx => hx.elim (OwnR.lt hg) (OwnR.lt hd)
  have hmem : ∀ u ∈ vs.drop k, u ∈ vs := fun u hu => List.mem_of_mem_drop hu
  refine ⟨⟨hcell, OwnR.keep hg fun x hx => hk x (hgl x (.inl hx)) (hgj x (.inl hx)), OwnR.keep hd fun x hx => hk x (hgl x (.inr hx)) (hgj x (.inr hx)), he.keep fun x hx => hC.block x (he.lt hx) fun e => by have := hen x hx; omega, ⟨by show _ = es.length; rw [hes, List.length_drop, List.length_drop, hJ.rows.1], fun i e v h1 h2 => ?_⟩, .inl hJ.ol, fun x hx => ⟨.inr (.inl (.inl hx)), hgj x (.inl hx), fun e => by have h1 := hen x e; have h2 := hgl x (.inl hx); omega⟩, fun x hx => ⟨.inr (.inl (.inr hx)), hgj x (.inr hx), fun e => by have h1 := hen x e; have h2 := hgl x (.inr hx); omega⟩, fun x hx => ⟨.inr (.inr hx), fun e => by have := hen x hx; omega⟩, fun u hu x hx => ?_, fun x hx => ?_, hJ.psz, hok⟩, ?_⟩
  · have h1' : M.entries[k + i]? = some e := by
      have h1 : es[i]? = some e := h1
      rw [hes, List.getElem?_drop] at h1
      exact h1
    have h2' : vs[k + i]? = some v := by rw [List.getElem?_drop] at h2; exact h2
    have hv := hmem v (List.mem_of_getElem? h2)
    exact (hJ.rows.2 _ e v h1' h2').keep fun x hx => hk x (hJ.olt x (hJ.ov v hv x hx).1) (hJ.ov v hv x hx).2.1
  · have h3 := hJ.ov u (hmem u hu) x hx
    exact ⟨.inl h3.1, h3.2.1, fun e => by have h1 := hen x e; have h2 := hJ.olt x h3.1; omega⟩
  · have hCs := hC.size
    rcases hx with hx | hx | hx
    · have := hJ.olt x hx
      omega
    · have := hgl x hx
      omega
    · have := he.lt hx
      omega
  · exact ((Chg.of_below hb).mono (T := own) fun _ _ e => e.elim).trans hC fun x _ e => by rw [e]; exact hJ.ol

set_option maxRecDepth 100000 in
set_option maxHeartbeats 8000000 in
theorem jrebase_calls (h : JouF w w1 j d pre D M F) {s : Snap} (hs : s.OK) {pg pd : Option Addr} {cg cd : Nat} (hg : OwnI w1 (.slice pg s.group.length cg) s.group) (hd : OwnB w1 5 (.slice pd s.data.length cd) s.data)
    (hF : ∀ k, (Value.slice pg s.group.length cg).ownBlock = some k ∨ (Value.slice pd s.data.length cd).ownBlock = some k → F k ∧ w.heap.size ≤ k)
    (hF2 : ∀ k, F2 k → F k ∧ (Value.slice pg s.group.length cg).ownBlock ≠ some k ∧ (Value.slice pd s.data.length cd).ownBlock ≠ some k) :
    Calls Tryz.prog 79 #[.pointer (some ⟨j, 0, none⟩), .agg #[.int .i64 (s.number : Int), .int .i64 s.term, .slice pg s.group.length cg], .slice pd s.data.length cd] w1 fun e w' => e = .returned (.tuple #[]) ∧ JouF w w' j d pre D (M.rebase s) F2 ∧ Same F2 w1 w' := by
  obtain ⟨i0, hii, -, hi4s, -⟩ := info_parts (show (Tryz.prog.info? 50).map (fun i => (i.zero, i.size, i.bytes)) = some (some (.agg #[.int .i64 0, .int .i64 0, .slice none 0 0, .slice none 0 0]), 4, 64) by kernel_rfl)
  have hsn := hs.number
  have hsl := hs.data
  have hsg := (grp_len hs.group).2
  have hlast := h.okM.last
  have hbx := below_one w1 (.cells #[.int .i64 (s.number : Int), .int .i64 s.term, .slice pg s.group.length cg] 130)
  have Hta := Lib.hid (jtermAt_calls (h.next hbx) (s.number : Int) (by omega))
  obtain ⟨own, gv, dv, ev, vs, hJ, hS, hn, hl⟩ := id h
  obtain ⟨pe, ce, rfl⟩ := hJ.row.shape
  have c0 := al_cell (hJ.c 0 rfl) (.cells #[.int .i64 (s.number : Int), .int .i64 s.term, .slice pg s.group.length cg] 130)
  have c8 := al_cell (hJ.c 8 rfl) (.cells #[.int .i64 (s.number : Int), .int .i64 s.term, .slice pg s.group.length cg] 130)
  have hce : M.entries.length ≤ ce := by
    rcases hJ.row.2 with ⟨e1, e2⟩ | ⟨g, cap, cur, e1, -, e3, -⟩
    · rw [e2]; exact Nat.zero_le _
    · simp only [Value.slice.injEq] at e1; omega
  have HJlt := Lib.hid (hJ.olt j hJ.ol)
  have HJne := Lib.hid (show w1.heap.size ≠ (⟨j, 0, none⟩ : Addr).block from fun e => by have := hJ.olt j hJ.ol; have e2 : w1.heap.size = j := e; omega)
  have HJc := Lib.hid hJ.cells
  have HFin0 := Lib.hid (fun (k : Nat) (es : List Ent) (hes : es = M.entries.drop k) (hst : M.rebase s = JouM.mk s.number s.term s.group M.now M.vote s.data es M.dead) (wq : World) (en : Value) (hb : Below w1.heap.size w1 wq) (hen : OwnR wq 50 4 en es.length (entsC es (vs.drop k))) (henn : ∀ x, en.ownBlock = some x → w1.heap.size ≤ x) => show JouF w (((((wq.setCell ⟨j, 0, none⟩ (.int .i64 (s.number : Int))).setCell ⟨j, 1, none⟩ (.int .i64 s.term)).setCell ⟨j, 2, none⟩ (.slice pg s.group.length cg)).setCell ⟨j, 7, none⟩ (.slice pd s.data.length cd)).setCell ⟨j, 8, none⟩ en) j d pre D (M.rebase s) F2 ∧ Same F2 w1 (((((wq.setCell ⟨j, 0, none⟩ (.int .i64 (s.number : Int))).setCell ⟨j, 1, none⟩ (.int .i64 s.term)).setCell ⟨j, 2, none⟩ (.slice pg s.group.length cg)).setCell ⟨j, 7, none⟩ (.slice pd s.data.length cd)).setCell ⟨j, 8, none⟩ en) from by
    have hro := rebase_ok hJ.ok hs
    rw [hst] at hro ⊢
    obtain ⟨hA, hB⟩ := jouIn_base hJ hs hg hd (fun x hx ho => (hn x ho).2 (hF x hx).1) hes hb hen henn hro
    refine JouF.turned2 hS hn hl hA hB (fun x hx => ?_) fun x hx => ⟨(hF2 x hx).1, fun ho => ?_⟩
    · rcases hx with hx | hx | hx
      · exact .inl hx
      · exact .inr (.inr (hF x hx))
      · exact .inr (.inl (henn x hx))
    · rcases ho with ho | ho | ho
      · exact (hn x ho).2 (hF2 x hx).1
      · exact ho.elim (hF2 x hx).2.1 (hF2 x hx).2.2
      · have h1 := henn x ho
        have h2 := hl x (hF2 x hx).1
        omega)
  have Hbase := Lib.hid (new_block w1 (.cells #[.int .i64 (s.number : Int), .int .i64 s.term, .slice pg s.group.length cg] 130))
  have HBB := Lib.hid hbx
  have hrow := hJ.row
  cases hta : M.termAt (s.number : Int) with
  | none =>
    have hnc : ¬ (M.number < s.number ∧ M.termAt (s.number : Int) = some s.term) := fun e => by rw [hta] at e; cases e.2
    have hst : M.rebase s = JouM.mk s.number s.term s.group M.now M.vote s.data [] M.dead := by
      unfold JouM.rebase
      rw [if_neg hnc]
    have HFin := Lib.hid (fun wq en (hb : Below w1.heap.size w1 wq) (hen : OwnR wq 50 4 en 0 []) henn => HFin0.out M.entries.length [] (by rw [List.drop_length]) hst wq en hb (by rw [entsC_nil]; exact hen) henn)
    have Hcl := Lib.hid (fun W (_ : Below w1.heap.size w1 W) => ecl_calls (w := W) (p := none) (n := 0) (c := 0) (cs := []) ⟨rfl, none, 0, rfl, fun _ => rfl, fun a ha => by cases ha⟩ (fun u hu => by cases hu) (by decide))
    rw [hta] at Hta
    clear h hs hg hd hF hF2 hJ hS hn hl hrow hta hnc hst HFin0 hbx hce
    go_enter Tryz.func79, Tryz.ntmps79
    go_wp2_with fail
    refine Hta.out.mono ?_
    rintro r w2 ⟨rfl, q, rfl⟩
    have c0 : ((w1.alloc (.cells #[.int .i64 (s.number : Int), .int .i64 s.term, .slice pg s.group.length cg] 130)).drewN q).cell? ⟨j, 0, none⟩ = some (.int .i64 (M.number : Int)) := c0
    have c8 : ((w1.alloc (.cells #[.int .i64 (s.number : Int), .int .i64 s.term, .slice pg s.group.length cg] 130)).drewN q).cell? ⟨j, 8, none⟩ = some (.slice pe M.entries.length ce) := c8
    have z0 : ((w1.alloc (.cells #[.int .i64 (s.number : Int), .int .i64 s.term, .slice pg s.group.length cg] 130)).drewN q).cell? ⟨w1.heap.size, 0, none⟩ = some (.int .i64 (s.number : Int)) := cell_of (Hbase.out) (i := 0) rfl
    have z1 : ((w1.alloc (.cells #[.int .i64 (s.number : Int), .int .i64 s.term, .slice pg s.group.length cg] 130)).drewN q).cell? ⟨w1.heap.size, 1, none⟩ = some (.int .i64 s.term) := cell_of (Hbase.out) (i := 1) rfl

    go_wp2_with fail
    go_quiet (fail)
    go_wp2_with fail
    generalize hWQ : (World.drewN _ _) = WQ
    have HBq := Lib.hid (show Below w1.heap.size w1 WQ from by rw [← hWQ]; exact HBB.out.trans ⟨rfl, rfl, rfl, by simp [World.drewN], fun _ _ => rfl⟩)
    have Hbox := Lib.hid (show WQ.drew.heap[w1.heap.size]? = some (.cells #[.int .i64 (s.number : Int), .int .i64 s.term, .slice pg s.group.length cg] 130 (0, 0)) from by rw [← hWQ]; exact Hbase.out)
    clear hWQ c0 c8 z0 z1
    refine ord_start (fun w' : World => w'.heap[w1.heap.size]? = some (.cells #[.int .i64 (s.number : Int), .int .i64 s.term, .slice pg s.group.length cg] 130 (0, 0))) (n := 16) (by kernel_rfl) rfl (Hbox.out) (fun hHeld => ?_)
    have HBd := Lib.hid (show Below w1.heap.size w1 WQ.drew from HBq.out.trans ⟨rfl, rfl, rfl, Nat.le_refl _, fun _ _ => rfl⟩)
    generalize WQ.drew = W1 at *
    refine ord_take 0 (v := ?v21x0) rfl (by kernel_rfl) (by kernel_rfl) (by kernel_rfl) (fun _ _ _ h => h) (by rfl) (by assumption) ?y21x0 ?_
    case y21x0 => (intro w hSw; (try dsimp only at hSw); go_simp; try with_reducible rfl)
    simp only [Act.put, List.setIfInBounds_toArray, List.set_cons_zero, List.set_cons_succ]
    refine ord_take 1 (v := ?v21x1) rfl (by kernel_rfl) (by kernel_rfl) (by kernel_rfl) (fun _ _ _ h => h) (by rfl) (by assumption) ?y21x1 ?_
    case y21x1 => (intro w hSw; (try dsimp only at hSw); go_simp; try with_reducible rfl)
    simp only [Act.put, List.setIfInBounds_toArray, List.set_cons_zero, List.set_cons_succ]
    refine ord_take 2 (v := ?v21x2) rfl (by kernel_rfl) (by kernel_rfl) (by kernel_rfl) (fun _ _ _ h => h) (by rfl) (by assumption) ?y21x2 ?_
    case y21x2 => (intro w hSw; (try dsimp only at hSw); go_simp; try with_reducible rfl)
    simp only [Act.put, List.setIfInBounds_toArray, List.set_cons_zero, List.set_cons_succ]
    refine ord_take 3 (v := .agg #[.int .i64 (s.number : Int), .int .i64 s.term, .slice pg s.group.length cg]) rfl (by kernel_rfl) (by kernel_rfl) (by kernel_rfl) (fun _ _ _ h => h) (by rfl) (by assumption) (fun W hSw => by have q0 := cell_of hSw (i := 0) rfl; have q1 := cell_of hSw (i := 1) rfl; have q2 := cell_of hSw (i := 2) rfl; go_simp; try with_reducible rfl) ?_
    simp only [Act.put, List.setIfInBounds_toArray, List.set_cons_zero, List.set_cons_succ]
    refine ord_take 4 (v := ?v21x4) rfl (by kernel_rfl) (by kernel_rfl) (by kernel_rfl) (fun _ _ _ h => h) (by rfl) (by assumption) ?y21x4 ?_
    case y21x4 => (intro w hSw; (try dsimp only at hSw); go_simp; try with_reducible rfl)
    simp only [Act.put, List.setIfInBounds_toArray, List.set_cons_zero, List.set_cons_succ]
    refine ord_take 5 (v := ?v21x5) rfl (by kernel_rfl) (by kernel_rfl) (by kernel_rfl) (fun _ _ _ h => h) (by rfl) (by assumption) ?y21x5 ?_
    case y21x5 => (intro w hSw; (try dsimp only at hSw); go_simp; try with_reducible rfl)
    simp only [Act.put, List.setIfInBounds_toArray, List.set_cons_zero, List.set_cons_succ]
    refine ord_one 6 rfl (by kernel_rfl) (by rfl) (fun K hK => ?_)
    go_wp2_with fail
    refine (Hcl.out W1 HBd.out).mono ?_
    rintro e wq ⟨en, rfl, hen, henn, hbq⟩
    have HB5 := Lib.hid (HBd.out.trans (hbq.mono HBd.out.size))
    have Hh5 := Lib.hid ((hbq.block _ (lt_of_block hHeld)).trans hHeld)
    have HFn := Lib.hid (HFin.out wq en HB5.out hen (fun x hx => Nat.le_trans HBd.out.size (henn x hx)))
    have Hjc := Lib.hid ((HB5.out.block j HJlt.out).trans HJc.out)
    obtain ⟨pn, qn, rfl⟩ := OwnR.shape hen
    clear hen henn hbq Hcl HFin
    go_wp2_with fail
    refine hK.out _ _ (Hh5.out) (fun hHeld => ?_)
    clear hK
    try simp only [Act.put, List.setIfInBounds_toArray, List.set_cons_zero, List.set_cons_succ]
    refine ord_take 7 (v := ?v21x7) rfl (by kernel_rfl) (by kernel_rfl) (by kernel_rfl) (fun _ _ _ h => h) (by rfl) (by assumption) ?y21x7 ?_
    case y21x7 => (intro w hSw; (try dsimp only at hSw); go_simp; try with_reducible rfl)
    simp only [Act.put, List.setIfInBounds_toArray, List.set_cons_zero, List.set_cons_succ]
    refine ord_take 8 (v := ?v21x8) rfl (by kernel_rfl) (by kernel_rfl) (by kernel_rfl) (fun _ _ _ h => h) (by rfl) (by assumption) ?y21x8 ?_
    case y21x8 => (intro w hSw; (try dsimp only at hSw); go_simp; try with_reducible rfl)
    simp only [Act.put, List.setIfInBounds_toArray, List.set_cons_zero, List.set_cons_succ]
    refine ord_one 9 rfl (by kernel_rfl) (by rfl) (fun K hK => ?_)
    have b0 := cell_of Hjc.out (i := 0) rfl
    have b1 := cell_of Hjc.out (i := 1) rfl
    have b2 := cell_of Hjc.out (i := 2) rfl
    have fr := frozen_of Hjc.out
    have Hh6 := Lib.hid (show (((wq.setCell ⟨j, 0, none⟩ (.int .i64 (s.number : Int))).setCell ⟨j, 1, none⟩ (.int .i64 s.term)).setCell ⟨j, 2, none⟩ (.slice pg s.group.length cg)).heap[w1.heap.size]? = some (.cells #[.int .i64 (s.number : Int), .int .i64 s.term, .slice pg s.group.length cg] 130 (0, 0)) from (set_other _ HJne.out).trans ((set_other _ HJne.out).trans ((set_other _ HJne.out).trans hHeld)))
    have Hj6 := Lib.hid (set_block (set_block (set_block Hjc.out 0 (.int .i64 (s.number : Int))) 1 (.int .i64 s.term)) 2 (.slice pg s.group.length cg))
    go_wp2_with fail
    clear b0 b1 b2 fr
    refine hK.out _ _ (Hh6.out) (fun hHeld => ?_)
    clear hK
    try simp only [Act.put, List.setIfInBounds_toArray, List.set_cons_zero, List.set_cons_succ]
    refine ord_take 10 (v := ?v21x10) rfl (by kernel_rfl) (by kernel_rfl) (by kernel_rfl) (fun _ _ _ h => h) (by rfl) (by assumption) ?y21x10 ?_
    case y21x10 => (intro w hSw; (try dsimp only at hSw); go_simp; try with_reducible rfl)
    simp only [Act.put, List.setIfInBounds_toArray, List.set_cons_zero, List.set_cons_succ]
    refine ord_take 11 (v := ?v21x11) rfl (by kernel_rfl) (by kernel_rfl) (by kernel_rfl) (fun _ _ _ h => h) (by rfl) (by assumption) ?y21x11 ?_
    case y21x11 => (intro w hSw; (try dsimp only at hSw); go_simp; try with_reducible rfl)
    simp only [Act.put, List.setIfInBounds_toArray, List.set_cons_zero, List.set_cons_succ]
    refine ord_one 12 rfl (by kernel_rfl) (by rfl) (fun K hK => ?_)
    have b7 := cell_of Hj6.out (i := 7) rfl
    have f7 := frozen_of Hj6.out 7
    have Hh7 := Lib.hid (show ((((wq.setCell ⟨j, 0, none⟩ (.int .i64 (s.number : Int))).setCell ⟨j, 1, none⟩ (.int .i64 s.term)).setCell ⟨j, 2, none⟩ (.slice pg s.group.length cg)).setCell ⟨j, 7, none⟩ (.slice pd s.data.length cd)).heap[w1.heap.size]? = some (.cells #[.int .i64 (s.number : Int), .int .i64 s.term, .slice pg s.group.length cg] 130 (0, 0)) from (set_other _ HJne.out).trans hHeld)
    have Hj7 := Lib.hid (set_block Hj6.out 7 (.slice pd s.data.length cd))
    go_wp2_with fail
    clear b7 f7
    refine hK.out _ _ (Hh7.out) (fun hHeld => ?_)
    clear hK
    try simp only [Act.put, List.setIfInBounds_toArray, List.set_cons_zero, List.set_cons_succ]
    refine ord_take 13 (v := ?v21x13) rfl (by kernel_rfl) (by kernel_rfl) (by kernel_rfl) (fun _ _ _ h => h) (by rfl) (by assumption) ?y21x13 ?_
    case y21x13 => (intro w hSw; (try dsimp only at hSw); go_simp; try with_reducible rfl)
    simp only [Act.put, List.setIfInBounds_toArray, List.set_cons_zero, List.set_cons_succ]
    refine ord_take 14 (v := ?v21x14) rfl (by kernel_rfl) (by kernel_rfl) (by kernel_rfl) (fun _ _ _ h => h) (by rfl) (by assumption) ?y21x14 ?_
    case y21x14 => (intro w hSw; (try dsimp only at hSw); go_simp; try with_reducible rfl)
    simp only [Act.put, List.setIfInBounds_toArray, List.set_cons_zero, List.set_cons_succ]
    refine ord_one 15 rfl (by kernel_rfl) (by rfl) (fun K hK => ?_)
    have b8 := cell_of Hj7.out (i := 8) rfl
    have f8 := frozen_of Hj7.out 8
    have Hh8 := Lib.hid (fun x => (show (((((wq.setCell ⟨j, 0, none⟩ (.int .i64 (s.number : Int))).setCell ⟨j, 1, none⟩ (.int .i64 s.term)).setCell ⟨j, 2, none⟩ (.slice pg s.group.length cg)).setCell ⟨j, 7, none⟩ (.slice pd s.data.length cd)).setCell ⟨j, 8, none⟩ x).heap[w1.heap.size]? = some (.cells #[.int .i64 (s.number : Int), .int .i64 s.term, .slice pg s.group.length cg] 130 (0, 0)) from (set_other _ HJne.out).trans hHeld))
    go_wp2_with fail
    clear b8 f8
    refine hK.out _ _ (Hh8.out _) (fun hHeld => ?_)
    clear hK
    try simp only [Act.put, List.setIfInBounds_toArray, List.set_cons_zero, List.set_cons_succ]
    refine wpAnyH_done (by kernel_rfl) ?_ _
    go_wp2_with fail
    go_end0
    exact ⟨rfl, HFn.out⟩
  | some t =>
    by_cases hcs : M.number < s.number ∧ t = s.term
    · obtain ⟨hlt, rfl⟩ := hcs
      have hle := termAt_le hta
      unfold JouM.last at hle hlast
      have hst : M.rebase s = JouM.mk s.number s.term s.group M.now M.vote s.data (M.entries.drop (s.number - M.number)) M.dead := by
        unfold JouM.rebase
        rw [if_pos ⟨hlt, hta⟩]
      generalize hk : s.number - M.number = k at *
      have hkl : k ≤ M.entries.length := by omega
      have HFin := Lib.hid (fun wq en (hb : Below w1.heap.size w1 wq) (hen : OwnR wq 50 4 en (M.entries.length - k) ((entsC M.entries vs).drop (k * 4))) henn => HFin0.out k _ rfl hst wq en hb (by rw [List.length_drop, entsC_drop _ _ _ hJ.rows.1]; exact hen) henn)
      have hhd := holds_drop hrow hkl
      have Hcl := Lib.hid (fun W (hb : Below w1.heap.size w1 W) => ecl_calls (Holds.chg hhd (Chg.of_below hb) fun _ _ => id) (fun u hu => entsC_one _ _ (fun v hv => hJ.shape v hv) u (List.mem_of_mem_drop hu)) (by omega))
      have hsl4 : ∀ W, (Instr.slice 78 (.slice pe M.entries.length ce) (some (.int .i64 (k : Int))) none none).run Tryz.prog W = .ok (.slice (if ce = k then pe else pe.map fun x => x.add (k * 4)) (M.entries.length - k) (ce - k)) W := fun W => by
        have := run_tail4 (P := Tryz.prog) W Tryz.underlying78 hii pe M.entries.length ce k hkl hce
        rwa [hi4s] at this
      have hw4 : IntKind.i64.wrap ((s.number : Int) - (M.number : Int)) = (k : Int) := by rw [IntWalk.i64_in _ (by omega)]; omega
      have hd1 : decide (M.number < s.number) = true := by simpa using hlt
      have hd2 : decide ((M.number : Int) < (s.number : Int)) = true := by simp; omega
      rw [hta] at Hta
      clear h hs hg hd hF hF2 hJ hS hn hl hrow hta hst HFin0 hbx hce hle hk hhd hlast
      generalize (if ce = k then pe else pe.map fun x => x.add (k * 4)) = pk at *
      go_enter Tryz.func79, Tryz.ntmps79
      go_wp2_with fail
      refine Hta.out.mono ?_
      rintro r w2 ⟨rfl, q, rfl⟩
      have c0 : ((w1.alloc (.cells #[.int .i64 (s.number : Int), .int .i64 s.term, .slice pg s.group.length cg] 130)).drewN q).cell? ⟨j, 0, none⟩ = some (.int .i64 (M.number : Int)) := c0
      have c8 : ((w1.alloc (.cells #[.int .i64 (s.number : Int), .int .i64 s.term, .slice pg s.group.length cg] 130)).drewN q).cell? ⟨j, 8, none⟩ = some (.slice pe M.entries.length ce) := c8
      have z0 : ((w1.alloc (.cells #[.int .i64 (s.number : Int), .int .i64 s.term, .slice pg s.group.length cg] 130)).drewN q).cell? ⟨w1.heap.size, 0, none⟩ = some (.int .i64 (s.number : Int)) := cell_of (Hbase.out) (i := 0) rfl
      have z1 : ((w1.alloc (.cells #[.int .i64 (s.number : Int), .int .i64 s.term, .slice pg s.group.length cg] 130)).drewN q).cell? ⟨w1.heap.size, 1, none⟩ = some (.int .i64 s.term) := cell_of (Hbase.out) (i := 1) rfl

      go_wp2_with fail
      go_quiet (fail)
      go_wp2_with fail
      go_quiet (fail)
      go_wp2_with fail
      generalize hWQ : (World.drewN _ _) = WQ
      have HBq := Lib.hid (show Below w1.heap.size w1 WQ from by rw [← hWQ]; exact HBB.out.trans ⟨rfl, rfl, rfl, by simp [World.drewN], fun _ _ => rfl⟩)
      have Hbox := Lib.hid (show WQ.drew.heap[w1.heap.size]? = some (.cells #[.int .i64 (s.number : Int), .int .i64 s.term, .slice pg s.group.length cg] 130 (0, 0)) from by rw [← hWQ]; exact Hbase.out)
      clear hWQ c0 c8 z0 z1
      refine ord_start (fun w' : World => w'.heap[w1.heap.size]? = some (.cells #[.int .i64 (s.number : Int), .int .i64 s.term, .slice pg s.group.length cg] 130 (0, 0))) (n := 16) (by kernel_rfl) rfl (Hbox.out) (fun hHeld => ?_)
      have HBd := Lib.hid (show Below w1.heap.size w1 WQ.drew from HBq.out.trans ⟨rfl, rfl, rfl, Nat.le_refl _, fun _ _ => rfl⟩)
      generalize WQ.drew = W1 at *
      refine ord_take 0 (v := ?v22x0) rfl (by kernel_rfl) (by kernel_rfl) (by kernel_rfl) (fun _ _ _ h => h) (by rfl) (by assumption) ?y22x0 ?_
      case y22x0 => (intro w hSw; (try dsimp only at hSw); go_simp; try with_reducible rfl)
      simp only [Act.put, List.setIfInBounds_toArray, List.set_cons_zero, List.set_cons_succ]
      refine ord_take 1 (v := ?v22x1) rfl (by kernel_rfl) (by kernel_rfl) (by kernel_rfl) (fun _ _ _ h => h) (by rfl) (by assumption) ?y22x1 ?_
      case y22x1 => (intro w hSw; (try dsimp only at hSw); go_simp; try with_reducible rfl)
      simp only [Act.put, List.setIfInBounds_toArray, List.set_cons_zero, List.set_cons_succ]
      refine ord_take 2 (v := ?v22x2) rfl (by kernel_rfl) (by kernel_rfl) (by kernel_rfl) (fun _ _ _ h => h) (by rfl) (by assumption) ?y22x2 ?_
      case y22x2 => (intro w hSw; (try dsimp only at hSw); go_simp; try with_reducible rfl)
      simp only [Act.put, List.setIfInBounds_toArray, List.set_cons_zero, List.set_cons_succ]
      refine ord_take 3 (v := .agg #[.int .i64 (s.number : Int), .int .i64 s.term, .slice pg s.group.length cg]) rfl (by kernel_rfl) (by kernel_rfl) (by kernel_rfl) (fun _ _ _ h => h) (by rfl) (by assumption) (fun W hSw => by have q0 := cell_of hSw (i := 0) rfl; have q1 := cell_of hSw (i := 1) rfl; have q2 := cell_of hSw (i := 2) rfl; go_simp; try with_reducible rfl) ?_
      simp only [Act.put, List.setIfInBounds_toArray, List.set_cons_zero, List.set_cons_succ]
      refine ord_take 4 (v := ?v22x4) rfl (by kernel_rfl) (by kernel_rfl) (by kernel_rfl) (fun _ _ _ h => h) (by rfl) (by assumption) ?y22x4 ?_
      case y22x4 => (intro w hSw; (try dsimp only at hSw); go_simp; try with_reducible rfl)
      simp only [Act.put, List.setIfInBounds_toArray, List.set_cons_zero, List.set_cons_succ]
      refine ord_take 5 (v := ?v22x5) rfl (by kernel_rfl) (by kernel_rfl) (by kernel_rfl) (fun _ _ _ h => h) (by rfl) (by assumption) ?y22x5 ?_
      case y22x5 => (intro w hSw; (try dsimp only at hSw); go_simp; try with_reducible rfl)
      simp only [Act.put, List.setIfInBounds_toArray, List.set_cons_zero, List.set_cons_succ]
      refine ord_one 6 rfl (by kernel_rfl) (by rfl) (fun K hK => ?_)
      go_wp2_with fail
      refine (Hcl.out W1 HBd.out).mono ?_
      rintro e wq ⟨en, rfl, hen, henn, hbq⟩
      have HB5 := Lib.hid (HBd.out.trans (hbq.mono HBd.out.size))
      have Hh5 := Lib.hid ((hbq.block _ (lt_of_block hHeld)).trans hHeld)
      have HFn := Lib.hid (HFin.out wq en HB5.out hen (fun x hx => Nat.le_trans HBd.out.size (henn x hx)))
      have Hjc := Lib.hid ((HB5.out.block j HJlt.out).trans HJc.out)
      obtain ⟨pn, qn, rfl⟩ := OwnR.shape hen
      clear hen henn hbq Hcl HFin
      go_wp2_with fail
      refine hK.out _ _ (Hh5.out) (fun hHeld => ?_)
      clear hK
      try simp only [Act.put, List.setIfInBounds_toArray, List.set_cons_zero, List.set_cons_succ]
      refine ord_take 7 (v := ?v22x7) rfl (by kernel_rfl) (by kernel_rfl) (by kernel_rfl) (fun _ _ _ h => h) (by rfl) (by assumption) ?y22x7 ?_
      case y22x7 => (intro w hSw; (try dsimp only at hSw); go_simp; try with_reducible rfl)
      simp only [Act.put, List.setIfInBounds_toArray, List.set_cons_zero, List.set_cons_succ]
      refine ord_take 8 (v := ?v22x8) rfl (by kernel_rfl) (by kernel_rfl) (by kernel_rfl) (fun _ _ _ h => h) (by rfl) (by assumption) ?y22x8 ?_
      case y22x8 => (intro w hSw; (try dsimp only at hSw); go_simp; try with_reducible rfl)
      simp only [Act.put, List.setIfInBounds_toArray, List.set_cons_zero, List.set_cons_succ]
      refine ord_one 9 rfl (by kernel_rfl) (by rfl) (fun K hK => ?_)
      have b0 := cell_of Hjc.out (i := 0) rfl
      have b1 := cell_of Hjc.out (i := 1) rfl
      have b2 := cell_of Hjc.out (i := 2) rfl
      have fr := frozen_of Hjc.out
      have Hh6 := Lib.hid (show (((wq.setCell ⟨j, 0, none⟩ (.int .i64 (s.number : Int))).setCell ⟨j, 1, none⟩ (.int .i64 s.term)).setCell ⟨j, 2, none⟩ (.slice pg s.group.length cg)).heap[w1.heap.size]? = some (.cells #[.int .i64 (s.number : Int), .int .i64 s.term, .slice pg s.group.length cg] 130 (0, 0)) from (set_other _ HJne.out).trans ((set_other _ HJne.out).trans ((set_other _ HJne.out).trans hHeld)))
      have Hj6 := Lib.hid (set_block (set_block (set_block Hjc.out 0 (.int .i64 (s.number : Int))) 1 (.int .i64 s.term)) 2 (.slice pg s.group.length cg))
      go_wp2_with fail
      clear b0 b1 b2 fr
      refine hK.out _ _ (Hh6.out) (fun hHeld => ?_)
      clear hK
      try simp only [Act.put, List.setIfInBounds_toArray, List.set_cons_zero, List.set_cons_succ]
      refine ord_take 10 (v := ?v22x10) rfl (by kernel_rfl) (by kernel_rfl) (by kernel_rfl) (fun _ _ _ h => h) (by rfl) (by assumption) ?y22x10 ?_
      case y22x10 => (intro w hSw; (try dsimp only at hSw); go_simp; try with_reducible rfl)
      simp only [Act.put, List.setIfInBounds_toArray, List.set_cons_zero, List.set_cons_succ]
      refine ord_take 11 (v := ?v22x11) rfl (by kernel_rfl) (by kernel_rfl) (by kernel_rfl) (fun _ _ _ h => h) (by rfl) (by assumption) ?y22x11 ?_
      case y22x11 => (intro w hSw; (try dsimp only at hSw); go_simp; try with_reducible rfl)
      simp only [Act.put, List.setIfInBounds_toArray, List.set_cons_zero, List.set_cons_succ]
      refine ord_one 12 rfl (by kernel_rfl) (by rfl) (fun K hK => ?_)
      have b7 := cell_of Hj6.out (i := 7) rfl
      have f7 := frozen_of Hj6.out 7
      have Hh7 := Lib.hid (show ((((wq.setCell ⟨j, 0, none⟩ (.int .i64 (s.number : Int))).setCell ⟨j, 1, none⟩ (.int .i64 s.term)).setCell ⟨j, 2, none⟩ (.slice pg s.group.length cg)).setCell ⟨j, 7, none⟩ (.slice pd s.data.length cd)).heap[w1.heap.size]? = some (.cells #[.int .i64 (s.number : Int), .int .i64 s.term, .slice pg s.group.length cg] 130 (0, 0)) from (set_other _ HJne.out).trans hHeld)
      have Hj7 := Lib.hid (set_block Hj6.out 7 (.slice pd s.data.length cd))
      go_wp2_with fail
      clear b7 f7
      refine hK.out _ _ (Hh7.out) (fun hHeld => ?_)
      clear hK
      try simp only [Act.put, List.setIfInBounds_toArray, List.set_cons_zero, List.set_cons_succ]
      refine ord_take 13 (v := ?v22x13) rfl (by kernel_rfl) (by kernel_rfl) (by kernel_rfl) (fun _ _ _ h => h) (by rfl) (by assumption) ?y22x13 ?_
      case y22x13 => (intro w hSw; (try dsimp only at hSw); go_simp; try with_reducible rfl)
      simp only [Act.put, List.setIfInBounds_toArray, List.set_cons_zero, List.set_cons_succ]
      refine ord_take 14 (v := ?v22x14) rfl (by kernel_rfl) (by kernel_rfl) (by kernel_rfl) (fun _ _ _ h => h) (by rfl) (by assumption) ?y22x14 ?_
      case y22x14 => (intro w hSw; (try dsimp only at hSw); go_simp; try with_reducible rfl)
      simp only [Act.put, List.setIfInBounds_toArray, List.set_cons_zero, List.set_cons_succ]
      refine ord_one 15 rfl (by kernel_rfl) (by rfl) (fun K hK => ?_)
      have b8 := cell_of Hj7.out (i := 8) rfl
      have f8 := frozen_of Hj7.out 8
      have Hh8 := Lib.hid (fun x => (show (((((wq.setCell ⟨j, 0, none⟩ (.int .i64 (s.number : Int))).setCell ⟨j, 1, none⟩ (.int .i64 s.term)).setCell ⟨j, 2, none⟩ (.slice pg s.group.length cg)).setCell ⟨j, 7, none⟩ (.slice pd s.data.length cd)).setCell ⟨j, 8, none⟩ x).heap[w1.heap.size]? = some (.cells #[.int .i64 (s.number : Int), .int .i64 s.term, .slice pg s.group.length cg] 130 (0, 0)) from (set_other _ HJne.out).trans hHeld))
      go_wp2_with fail
      clear b8 f8
      refine hK.out _ _ (Hh8.out _) (fun hHeld => ?_)
      clear hK
      try simp only [Act.put, List.setIfInBounds_toArray, List.set_cons_zero, List.set_cons_succ]
      refine wpAnyH_done (by kernel_rfl) ?_ _
      go_wp2_with fail
      go_end0
      exact ⟨rfl, HFn.out⟩
    · have hnc : ¬ (M.number < s.number ∧ M.termAt (s.number : Int) = some s.term) := fun e => hcs ⟨e.1, by have := e.2; rw [hta] at this; exact Option.some.inj this⟩
      have hst : M.rebase s = JouM.mk s.number s.term s.group M.now M.vote s.data [] M.dead := by
        unfold JouM.rebase
        rw [if_neg hnc]
      have HFin := Lib.hid (fun wq en (hb : Below w1.heap.size w1 wq) (hen : OwnR wq 50 4 en 0 []) henn => HFin0.out M.entries.length [] (by rw [List.drop_length]) hst wq en hb (by rw [entsC_nil]; exact hen) henn)
      have Hcl := Lib.hid (fun W (_ : Below w1.heap.size w1 W) => ecl_calls (w := W) (p := none) (n := 0) (c := 0) (cs := []) ⟨rfl, none, 0, rfl, fun _ => rfl, fun a ha => by cases ha⟩ (fun u hu => by cases hu) (by decide))
      rw [hta] at Hta
      have hor : (t == s.term) = false ∨ (t == s.term) = true ∧ decide (M.number < s.number) = false ∧ decide ((M.number : Int) < (s.number : Int)) = false := by
        by_cases ht : t = s.term
        · have hn2 : ¬ M.number < s.number := fun e => hcs ⟨e, ht⟩
          exact .inr ⟨by simpa using ht, by simpa using hn2, by simp; omega⟩
        · exact .inl (by simpa using ht)
      clear h hs hg hd hF hF2 hJ hS hn hl hrow hta hnc hst HFin0 hbx hce hcs
      rcases hor with e0 | ⟨e0, e1, e2⟩
      · skip
        go_enter Tryz.func79, Tryz.ntmps79
        go_wp2_with fail
        refine Hta.out.mono ?_
        rintro r w2 ⟨rfl, q, rfl⟩
        have c0 : ((w1.alloc (.cells #[.int .i64 (s.number : Int), .int .i64 s.term, .slice pg s.group.length cg] 130)).drewN q).cell? ⟨j, 0, none⟩ = some (.int .i64 (M.number : Int)) := c0
        have c8 : ((w1.alloc (.cells #[.int .i64 (s.number : Int), .int .i64 s.term, .slice pg s.group.length cg] 130)).drewN q).cell? ⟨j, 8, none⟩ = some (.slice pe M.entries.length ce) := c8
        have z0 : ((w1.alloc (.cells #[.int .i64 (s.number : Int), .int .i64 s.term, .slice pg s.group.length cg] 130)).drewN q).cell? ⟨w1.heap.size, 0, none⟩ = some (.int .i64 (s.number : Int)) := cell_of (Hbase.out) (i := 0) rfl
        have z1 : ((w1.alloc (.cells #[.int .i64 (s.number : Int), .int .i64 s.term, .slice pg s.group.length cg] 130)).drewN q).cell? ⟨w1.heap.size, 1, none⟩ = some (.int .i64 s.term) := cell_of (Hbase.out) (i := 1) rfl

        go_wp2_with fail
        go_quiet (fail)
        go_wp2_with fail
        generalize hWQ : (World.drewN _ _) = WQ
        have HBq := Lib.hid (show Below w1.heap.size w1 WQ from by rw [← hWQ]; exact HBB.out.trans ⟨rfl, rfl, rfl, by simp [World.drewN], fun _ _ => rfl⟩)
        have Hbox := Lib.hid (show WQ.drew.heap[w1.heap.size]? = some (.cells #[.int .i64 (s.number : Int), .int .i64 s.term, .slice pg s.group.length cg] 130 (0, 0)) from by rw [← hWQ]; exact Hbase.out)
        clear hWQ c0 c8 z0 z1
        refine ord_start (fun w' : World => w'.heap[w1.heap.size]? = some (.cells #[.int .i64 (s.number : Int), .int .i64 s.term, .slice pg s.group.length cg] 130 (0, 0))) (n := 16) (by kernel_rfl) rfl (Hbox.out) (fun hHeld => ?_)
        have HBd := Lib.hid (show Below w1.heap.size w1 WQ.drew from HBq.out.trans ⟨rfl, rfl, rfl, Nat.le_refl _, fun _ _ => rfl⟩)
        generalize WQ.drew = W1 at *
        refine ord_take 0 (v := ?v23x0) rfl (by kernel_rfl) (by kernel_rfl) (by kernel_rfl) (fun _ _ _ h => h) (by rfl) (by assumption) ?y23x0 ?_
        case y23x0 => (intro w hSw; (try dsimp only at hSw); go_simp; try with_reducible rfl)
        simp only [Act.put, List.setIfInBounds_toArray, List.set_cons_zero, List.set_cons_succ]
        refine ord_take 1 (v := ?v23x1) rfl (by kernel_rfl) (by kernel_rfl) (by kernel_rfl) (fun _ _ _ h => h) (by rfl) (by assumption) ?y23x1 ?_
        case y23x1 => (intro w hSw; (try dsimp only at hSw); go_simp; try with_reducible rfl)
        simp only [Act.put, List.setIfInBounds_toArray, List.set_cons_zero, List.set_cons_succ]
        refine ord_take 2 (v := ?v23x2) rfl (by kernel_rfl) (by kernel_rfl) (by kernel_rfl) (fun _ _ _ h => h) (by rfl) (by assumption) ?y23x2 ?_
        case y23x2 => (intro w hSw; (try dsimp only at hSw); go_simp; try with_reducible rfl)
        simp only [Act.put, List.setIfInBounds_toArray, List.set_cons_zero, List.set_cons_succ]
        refine ord_take 3 (v := .agg #[.int .i64 (s.number : Int), .int .i64 s.term, .slice pg s.group.length cg]) rfl (by kernel_rfl) (by kernel_rfl) (by kernel_rfl) (fun _ _ _ h => h) (by rfl) (by assumption) (fun W hSw => by have q0 := cell_of hSw (i := 0) rfl; have q1 := cell_of hSw (i := 1) rfl; have q2 := cell_of hSw (i := 2) rfl; go_simp; try with_reducible rfl) ?_
        simp only [Act.put, List.setIfInBounds_toArray, List.set_cons_zero, List.set_cons_succ]
        refine ord_take 4 (v := ?v23x4) rfl (by kernel_rfl) (by kernel_rfl) (by kernel_rfl) (fun _ _ _ h => h) (by rfl) (by assumption) ?y23x4 ?_
        case y23x4 => (intro w hSw; (try dsimp only at hSw); go_simp; try with_reducible rfl)
        simp only [Act.put, List.setIfInBounds_toArray, List.set_cons_zero, List.set_cons_succ]
        refine ord_take 5 (v := ?v23x5) rfl (by kernel_rfl) (by kernel_rfl) (by kernel_rfl) (fun _ _ _ h => h) (by rfl) (by assumption) ?y23x5 ?_
        case y23x5 => (intro w hSw; (try dsimp only at hSw); go_simp; try with_reducible rfl)
        simp only [Act.put, List.setIfInBounds_toArray, List.set_cons_zero, List.set_cons_succ]
        refine ord_one 6 rfl (by kernel_rfl) (by rfl) (fun K hK => ?_)
        go_wp2_with fail
        refine (Hcl.out W1 HBd.out).mono ?_
        rintro e wq ⟨en, rfl, hen, henn, hbq⟩
        have HB5 := Lib.hid (HBd.out.trans (hbq.mono HBd.out.size))
        have Hh5 := Lib.hid ((hbq.block _ (lt_of_block hHeld)).trans hHeld)
        have HFn := Lib.hid (HFin.out wq en HB5.out hen (fun x hx => Nat.le_trans HBd.out.size (henn x hx)))
        have Hjc := Lib.hid ((HB5.out.block j HJlt.out).trans HJc.out)
        obtain ⟨pn, qn, rfl⟩ := OwnR.shape hen
        clear hen henn hbq Hcl HFin
        go_wp2_with fail
        refine hK.out _ _ (Hh5.out) (fun hHeld => ?_)
        clear hK
        try simp only [Act.put, List.setIfInBounds_toArray, List.set_cons_zero, List.set_cons_succ]
        refine ord_take 7 (v := ?v23x7) rfl (by kernel_rfl) (by kernel_rfl) (by kernel_rfl) (fun _ _ _ h => h) (by rfl) (by assumption) ?y23x7 ?_
        case y23x7 => (intro w hSw; (try dsimp only at hSw); go_simp; try with_reducible rfl)
        simp only [Act.put, List.setIfInBounds_toArray, List.set_cons_zero, List.set_cons_succ]
        refine ord_take 8 (v := ?v23x8) rfl (by kernel_rfl) (by kernel_rfl) (by kernel_rfl) (fun _ _ _ h => h) (by rfl) (by assumption) ?y23x8 ?_
        case y23x8 => (intro w hSw; (try dsimp only at hSw); go_simp; try with_reducible rfl)
        simp only [Act.put, List.setIfInBounds_toArray, List.set_cons_zero, List.set_cons_succ]
        refine ord_one 9 rfl (by kernel_rfl) (by rfl) (fun K hK => ?_)
        have b0 := cell_of Hjc.out (i := 0) rfl
        have b1 := cell_of Hjc.out (i := 1) rfl
        have b2 := cell_of Hjc.out (i := 2) rfl
        have fr := frozen_of Hjc.out
        have Hh6 := Lib.hid (show (((wq.setCell ⟨j, 0, none⟩ (.int .i64 (s.number : Int))).setCell ⟨j, 1, none⟩ (.int .i64 s.term)).setCell ⟨j, 2, none⟩ (.slice pg s.group.length cg)).heap[w1.heap.size]? = some (.cells #[.int .i64 (s.number : Int), .int .i64 s.term, .slice pg s.group.length cg] 130 (0, 0)) from (set_other _ HJne.out).trans ((set_other _ HJne.out).trans ((set_other _ HJne.out).trans hHeld)))
        have Hj6 := Lib.hid (set_block (set_block (set_block Hjc.out 0 (.int .i64 (s.number : Int))) 1 (.int .i64 s.term)) 2 (.slice pg s.group.length cg))
        go_wp2_with fail
        clear b0 b1 b2 fr
        refine hK.out _ _ (Hh6.out) (fun hHeld => ?_)
        clear hK
        try simp only [Act.put, List.setIfInBounds_toArray, List.set_cons_zero, List.set_cons_succ]
        refine ord_take 10 (v := ?v23x10) rfl (by kernel_rfl) (by kernel_rfl) (by kernel_rfl) (fun _ _ _ h => h) (by rfl) (by assumption) ?y23x10 ?_
        case y23x10 => (intro w hSw; (try dsimp only at hSw); go_simp; try with_reducible rfl)
        simp only [Act.put, List.setIfInBounds_toArray, List.set_cons_zero, List.set_cons_succ]
        refine ord_take 11 (v := ?v23x11) rfl (by kernel_rfl) (by kernel_rfl) (by kernel_rfl) (fun _ _ _ h => h) (by rfl) (by assumption) ?y23x11 ?_
        case y23x11 => (intro w hSw; (try dsimp only at hSw); go_simp; try with_reducible rfl)
        simp only [Act.put, List.setIfInBounds_toArray, List.set_cons_zero, List.set_cons_succ]
        refine ord_one 12 rfl (by kernel_rfl) (by rfl) (fun K hK => ?_)
        have b7 := cell_of Hj6.out (i := 7) rfl
        have f7 := frozen_of Hj6.out 7
        have Hh7 := Lib.hid (show ((((wq.setCell ⟨j, 0, none⟩ (.int .i64 (s.number : Int))).setCell ⟨j, 1, none⟩ (.int .i64 s.term)).setCell ⟨j, 2, none⟩ (.slice pg s.group.length cg)).setCell ⟨j, 7, none⟩ (.slice pd s.data.length cd)).heap[w1.heap.size]? = some (.cells #[.int .i64 (s.number : Int), .int .i64 s.term, .slice pg s.group.length cg] 130 (0, 0)) from (set_other _ HJne.out).trans hHeld)
        have Hj7 := Lib.hid (set_block Hj6.out 7 (.slice pd s.data.length cd))
        go_wp2_with fail
        clear b7 f7
        refine hK.out _ _ (Hh7.out) (fun hHeld => ?_)
        clear hK
        try simp only [Act.put, List.setIfInBounds_toArray, List.set_cons_zero, List.set_cons_succ]
        refine ord_take 13 (v := ?v23x13) rfl (by kernel_rfl) (by kernel_rfl) (by kernel_rfl) (fun _ _ _ h => h) (by rfl) (by assumption) ?y23x13 ?_
        case y23x13 => (intro w hSw; (try dsimp only at hSw); go_simp; try with_reducible rfl)
        simp only [Act.put, List.setIfInBounds_toArray, List.set_cons_zero, List.set_cons_succ]
        refine ord_take 14 (v := ?v23x14) rfl (by kernel_rfl) (by kernel_rfl) (by kernel_rfl) (fun _ _ _ h => h) (by rfl) (by assumption) ?y23x14 ?_
        case y23x14 => (intro w hSw; (try dsimp only at hSw); go_simp; try with_reducible rfl)
        simp only [Act.put, List.setIfInBounds_toArray, List.set_cons_zero, List.set_cons_succ]
        refine ord_one 15 rfl (by kernel_rfl) (by rfl) (fun K hK => ?_)
        have b8 := cell_of Hj7.out (i := 8) rfl
        have f8 := frozen_of Hj7.out 8
        have Hh8 := Lib.hid (fun x => (show (((((wq.setCell ⟨j, 0, none⟩ (.int .i64 (s.number : Int))).setCell ⟨j, 1, none⟩ (.int .i64 s.term)).setCell ⟨j, 2, none⟩ (.slice pg s.group.length cg)).setCell ⟨j, 7, none⟩ (.slice pd s.data.length cd)).setCell ⟨j, 8, none⟩ x).heap[w1.heap.size]? = some (.cells #[.int .i64 (s.number : Int), .int .i64 s.term, .slice pg s.group.length cg] 130 (0, 0)) from (set_other _ HJne.out).trans hHeld))
        go_wp2_with fail
        clear b8 f8
        refine hK.out _ _ (Hh8.out _) (fun hHeld => ?_)
        clear hK
        try simp only [Act.put, List.setIfInBounds_toArray, List.set_cons_zero, List.set_cons_succ]
        refine wpAnyH_done (by kernel_rfl) ?_ _
        go_wp2_with fail
        go_end0
        exact ⟨rfl, HFn.out⟩
      · skip
        go_enter Tryz.func79, Tryz.ntmps79
        go_wp2_with fail
        refine Hta.out.mono ?_
        rintro r w2 ⟨rfl, q, rfl⟩
        have c0 : ((w1.alloc (.cells #[.int .i64 (s.number : Int), .int .i64 s.term, .slice pg s.group.length cg] 130)).drewN q).cell? ⟨j, 0, none⟩ = some (.int .i64 (M.number : Int)) := c0
        have c8 : ((w1.alloc (.cells #[.int .i64 (s.number : Int), .int .i64 s.term, .slice pg s.group.length cg] 130)).drewN q).cell? ⟨j, 8, none⟩ = some (.slice pe M.entries.length ce) := c8
        have z0 : ((w1.alloc (.cells #[.int .i64 (s.number : Int), .int .i64 s.term, .slice pg s.group.length cg] 130)).drewN q).cell? ⟨w1.heap.size, 0, none⟩ = some (.int .i64 (s.number : Int)) := cell_of (Hbase.out) (i := 0) rfl
        have z1 : ((w1.alloc (.cells #[.int .i64 (s.number : Int), .int .i64 s.term, .slice pg s.group.length cg] 130)).drewN q).cell? ⟨w1.heap.size, 1, none⟩ = some (.int .i64 s.term) := cell_of (Hbase.out) (i := 1) rfl

        go_wp2_with fail
        go_quiet (fail)
        go_wp2_with fail
        generalize hWQ : (World.drewN _ _) = WQ
        have HBq := Lib.hid (show Below w1.heap.size w1 WQ from by rw [← hWQ]; exact HBB.out.trans ⟨rfl, rfl, rfl, by simp [World.drewN], fun _ _ => rfl⟩)
        have Hbox := Lib.hid (show WQ.drew.heap[w1.heap.size]? = some (.cells #[.int .i64 (s.number : Int), .int .i64 s.term, .slice pg s.group.length cg] 130 (0, 0)) from by rw [← hWQ]; exact Hbase.out)
        clear hWQ c0 c8 z0 z1
        refine ord_start (fun w' : World => w'.heap[w1.heap.size]? = some (.cells #[.int .i64 (s.number : Int), .int .i64 s.term, .slice pg s.group.length cg] 130 (0, 0))) (n := 16) (by kernel_rfl) rfl (Hbox.out) (fun hHeld => ?_)
        have HBd := Lib.hid (show Below w1.heap.size w1 WQ.drew from HBq.out.trans ⟨rfl, rfl, rfl, Nat.le_refl _, fun _ _ => rfl⟩)
        generalize WQ.drew = W1 at *
        refine ord_take 0 (v := ?v24x0) rfl (by kernel_rfl) (by kernel_rfl) (by kernel_rfl) (fun _ _ _ h => h) (by rfl) (by assumption) ?y24x0 ?_
        case y24x0 => (intro w hSw; (try dsimp only at hSw); go_simp; try with_reducible rfl)
        simp only [Act.put, List.setIfInBounds_toArray, List.set_cons_zero, List.set_cons_succ]
        refine ord_take 1 (v := ?v24x1) rfl (by kernel_rfl) (by kernel_rfl) (by kernel_rfl) (fun _ _ _ h => h) (by rfl) (by assumption) ?y24x1 ?_
        case y24x1 => (intro w hSw; (try dsimp only at hSw); go_simp; try with_reducible rfl)
        simp only [Act.put, List.setIfInBounds_toArray, List.set_cons_zero, List.set_cons_succ]
        refine ord_take 2 (v := ?v24x2) rfl (by kernel_rfl) (by kernel_rfl) (by kernel_rfl) (fun _ _ _ h => h) (by rfl) (by assumption) ?y24x2 ?_
        case y24x2 => (intro w hSw; (try dsimp only at hSw); go_simp; try with_reducible rfl)
        simp only [Act.put, List.setIfInBounds_toArray, List.set_cons_zero, List.set_cons_succ]
        refine ord_take 3 (v := .agg #[.int .i64 (s.number : Int), .int .i64 s.term, .slice pg s.group.length cg]) rfl (by kernel_rfl) (by kernel_rfl) (by kernel_rfl) (fun _ _ _ h => h) (by rfl) (by assumption) (fun W hSw => by have q0 := cell_of hSw (i := 0) rfl; have q1 := cell_of hSw (i := 1) rfl; have q2 := cell_of hSw (i := 2) rfl; go_simp; try with_reducible rfl) ?_
        simp only [Act.put, List.setIfInBounds_toArray, List.set_cons_zero, List.set_cons_succ]
        refine ord_take 4 (v := ?v24x4) rfl (by kernel_rfl) (by kernel_rfl) (by kernel_rfl) (fun _ _ _ h => h) (by rfl) (by assumption) ?y24x4 ?_
        case y24x4 => (intro w hSw; (try dsimp only at hSw); go_simp; try with_reducible rfl)
        simp only [Act.put, List.setIfInBounds_toArray, List.set_cons_zero, List.set_cons_succ]
        refine ord_take 5 (v := ?v24x5) rfl (by kernel_rfl) (by kernel_rfl) (by kernel_rfl) (fun _ _ _ h => h) (by rfl) (by assumption) ?y24x5 ?_
        case y24x5 => (intro w hSw; (try dsimp only at hSw); go_simp; try with_reducible rfl)
        simp only [Act.put, List.setIfInBounds_toArray, List.set_cons_zero, List.set_cons_succ]
        refine ord_one 6 rfl (by kernel_rfl) (by rfl) (fun K hK => ?_)
        go_wp2_with fail
        refine (Hcl.out W1 HBd.out).mono ?_
        rintro e wq ⟨en, rfl, hen, henn, hbq⟩
        have HB5 := Lib.hid (HBd.out.trans (hbq.mono HBd.out.size))
        have Hh5 := Lib.hid ((hbq.block _ (lt_of_block hHeld)).trans hHeld)
        have HFn := Lib.hid (HFin.out wq en HB5.out hen (fun x hx => Nat.le_trans HBd.out.size (henn x hx)))
        have Hjc := Lib.hid ((HB5.out.block j HJlt.out).trans HJc.out)
        obtain ⟨pn, qn, rfl⟩ := OwnR.shape hen
        clear hen henn hbq Hcl HFin
        go_wp2_with fail
        refine hK.out _ _ (Hh5.out) (fun hHeld => ?_)
        clear hK
        try simp only [Act.put, List.setIfInBounds_toArray, List.set_cons_zero, List.set_cons_succ]
        refine ord_take 7 (v := ?v24x7) rfl (by kernel_rfl) (by kernel_rfl) (by kernel_rfl) (fun _ _ _ h => h) (by rfl) (by assumption) ?y24x7 ?_
        case y24x7 => (intro w hSw; (try dsimp only at hSw); go_simp; try with_reducible rfl)
        simp only [Act.put, List.setIfInBounds_toArray, List.set_cons_zero, List.set_cons_succ]
        refine ord_take 8 (v := ?v24x8) rfl (by kernel_rfl) (by kernel_rfl) (by kernel_rfl) (fun _ _ _ h => h) (by rfl) (by assumption) ?y24x8 ?_
        case y24x8 => (intro w hSw; (try dsimp only at hSw); go_simp; try with_reducible rfl)
        simp only [Act.put, List.setIfInBounds_toArray, List.set_cons_zero, List.set_cons_succ]
        refine ord_one 9 rfl (by kernel_rfl) (by rfl) (fun K hK => ?_)
        have b0 := cell_of Hjc.out (i := 0) rfl
        have b1 := cell_of Hjc.out (i := 1) rfl
        have b2 := cell_of Hjc.out (i := 2) rfl
        have fr := frozen_of Hjc.out
        have Hh6 := Lib.hid (show (((wq.setCell ⟨j, 0, none⟩ (.int .i64 (s.number : Int))).setCell ⟨j, 1, none⟩ (.int .i64 s.term)).setCell ⟨j, 2, none⟩ (.slice pg s.group.length cg)).heap[w1.heap.size]? = some (.cells #[.int .i64 (s.number : Int), .int .i64 s.term, .slice pg s.group.length cg] 130 (0, 0)) from (set_other _ HJne.out).trans ((set_other _ HJne.out).trans ((set_other _ HJne.out).trans hHeld)))
        have Hj6 := Lib.hid (set_block (set_block (set_block Hjc.out 0 (.int .i64 (s.number : Int))) 1 (.int .i64 s.term)) 2 (.slice pg s.group.length cg))
        go_wp2_with fail
        clear b0 b1 b2 fr
        refine hK.out _ _ (Hh6.out) (fun hHeld => ?_)
        clear hK
        try simp only [Act.put, List.setIfInBounds_toArray, List.set_cons_zero, List.set_cons_succ]
        refine ord_take 10 (v := ?v24x10) rfl (by kernel_rfl) (by kernel_rfl) (by kernel_rfl) (fun _ _ _ h => h) (by rfl) (by assumption) ?y24x10 ?_
        case y24x10 => (intro w hSw; (try dsimp only at hSw); go_simp; try with_reducible rfl)
        simp only [Act.put, List.setIfInBounds_toArray, List.set_cons_zero, List.set_cons_succ]
        refine ord_take 11 (v := ?v24x11) rfl (by kernel_rfl) (by kernel_rfl) (by kernel_rfl) (fun _ _ _ h => h) (by rfl) (by assumption) ?y24x11 ?_
        case y24x11 => (intro w hSw; (try dsimp only at hSw); go_simp; try with_reducible rfl)
        simp only [Act.put, List.setIfInBounds_toArray, List.set_cons_zero, List.set_cons_succ]
        refine ord_one 12 rfl (by kernel_rfl) (by rfl) (fun K hK => ?_)
        have b7 := cell_of Hj6.out (i := 7) rfl
        have f7 := frozen_of Hj6.out 7
        have Hh7 := Lib.hid (show ((((wq.setCell ⟨j, 0, none⟩ (.int .i64 (s.number : Int))).setCell ⟨j, 1, none⟩ (.int .i64 s.term)).setCell ⟨j, 2, none⟩ (.slice pg s.group.length cg)).setCell ⟨j, 7, none⟩ (.slice pd s.data.length cd)).heap[w1.heap.size]? = some (.cells #[.int .i64 (s.number : Int), .int .i64 s.term, .slice pg s.group.length cg] 130 (0, 0)) from (set_other _ HJne.out).trans hHeld)
        have Hj7 := Lib.hid (set_block Hj6.out 7 (.slice pd s.data.length cd))
        go_wp2_with fail
        clear b7 f7
        refine hK.out _ _ (Hh7.out) (fun hHeld => ?_)
        clear hK
        try simp only [Act.put, List.setIfInBounds_toArray, List.set_cons_zero, List.set_cons_succ]
        refine ord_take 13 (v := ?v24x13) rfl (by kernel_rfl) (by kernel_rfl) (by kernel_rfl) (fun _ _ _ h => h) (by rfl) (by assumption) ?y24x13 ?_
        case y24x13 => (intro w hSw; (try dsimp only at hSw); go_simp; try with_reducible rfl)
        simp only [Act.put, List.setIfInBounds_toArray, List.set_cons_zero, List.set_cons_succ]
        refine ord_take 14 (v := ?v24x14) rfl (by kernel_rfl) (by kernel_rfl) (by kernel_rfl) (fun _ _ _ h => h) (by rfl) (by assumption) ?y24x14 ?_
        case y24x14 => (intro w hSw; (try dsimp only at hSw); go_simp; try with_reducible rfl)
        simp only [Act.put, List.setIfInBounds_toArray, List.set_cons_zero, List.set_cons_succ]
        refine ord_one 15 rfl (by kernel_rfl) (by rfl) (fun K hK => ?_)
        have b8 := cell_of Hj7.out (i := 8) rfl
        have f8 := frozen_of Hj7.out 8
        have Hh8 := Lib.hid (fun x => (show (((((wq.setCell ⟨j, 0, none⟩ (.int .i64 (s.number : Int))).setCell ⟨j, 1, none⟩ (.int .i64 s.term)).setCell ⟨j, 2, none⟩ (.slice pg s.group.length cg)).setCell ⟨j, 7, none⟩ (.slice pd s.data.length cd)).setCell ⟨j, 8, none⟩ x).heap[w1.heap.size]? = some (.cells #[.int .i64 (s.number : Int), .int .i64 s.term, .slice pg s.group.length cg] 130 (0, 0)) from (set_other _ HJne.out).trans hHeld))
        go_wp2_with fail
        clear b8 f8
        refine hK.out _ _ (Hh8.out _) (fun hHeld => ?_)
        clear hK
        try simp only [Act.put, List.setIfInBounds_toArray, List.set_cons_zero, List.set_cons_succ]
        refine wpAnyH_done (by kernel_rfl) ?_ _
        go_wp2_with fail
        go_end0
        exact ⟨rfl, HFn.out⟩
end
end Go.Proofs.YtapfnehdgailmaaGreat

namespace Go.Proofs.YtapfnehdgailmaaGreat
open Go.RowKit Go.Sat Go.Maps

def sSnp (s : ByteArray) : ByteArray := s ++ ⟨#[45, 115, 110, 97, 112]⟩
theorem nm_snp (s : ByteArray) : nm (sSnp s) = snpN (nm s) := by simp [nm, sSnp, snpN, snpX]
theorem size_snp (s : ByteArray) : (sSnp s).size = s.size + 5 := by simp [sSnp, ByteArray.size_append]; rfl

theorem wrB_outS {B : Nat} {w : World} {k : Nat} {l : Bs} (h : WrB B w k l) (hl : l.length ≤ 140737488355328) :
    Calls Tryz.prog 106 #[.pointer (some ⟨k, 0, none⟩)] w fun e w' => ∃ v, e = .returned v ∧ OwnB w' 5 v l ∧ Below w.heap.size w w' := by
  obtain ⟨v, h1, h2, h3, h4⟩ := h
  refine (wout_calls h1 hl).mono ?_
  rintro e w' ⟨u, rfl, hu, hn, hb⟩
  exact ⟨u, rfl, hu, hb⟩

theorem goes_err {pre : Bs} {D D' : DiskM} {M : JouM} {s : Snap} {e : Nat} (h : D.save (snpN pre) (snpB s.number s.term s.group s.data) = (D', e)) (he : e ≠ 0) : jouGoes pre D M s = ⟨D', M.die, e⟩ := by
  unfold jouGoes
  rw [h, if_pos he]
theorem goes_err2 {pre : Bs} {D D1 D2 : DiskM} {M : JouM} {s : Snap} {e : Nat} (h : D.save (snpN pre) (snpB s.number s.term s.group s.data) = (D1, 0)) (h2 : writesJ D1 pre (M.rebase s) = (D2, e)) (he : e ≠ 0) : jouGoes pre D M s = ⟨D2, (M.rebase s).die, e⟩ := by
  unfold jouGoes
  rw [h, if_neg (by simp), h2, if_pos he]
theorem goes_ok {pre : Bs} {D D1 D2 : DiskM} {M : JouM} {s : Snap} (h : D.save (snpN pre) (snpB s.number s.term s.group s.data) = (D1, 0)) (h2 : writesJ D1 pre (M.rebase s) = (D2, 0)) : jouGoes pre D M s = ⟨D2, M.rebase s, 0⟩ := by
  unfold jouGoes
  rw [h, if_neg (by simp), h2, if_neg (by simp)]

theorem rebase_len (M : JouM) (s : Snap) : (M.rebase s).entries.length ≤ M.entries.length := by
  show (if M.number < s.number ∧ M.termAt s.number = some s.term then M.entries.drop (s.number - M.number) else []).length ≤ _
  split
  · rw [List.length_drop]; omega
  · exact Nat.zero_le _

section
variable {w w1 wc : World} {j d : Nat} {pre : ByteArray} {D : DiskM} {M : JouM} {F F2 : Nat → Prop}

theorem jou_save (h : JouF w w1 j d pre D M F) (hb : Below w1.heap.size w1 wc) (s : ByteArray) (hs : s.size ≤ 9223372036854775807) {p : Option Addr} {n c : Nat} {ls : List Bs} (hx : RowsAt wc (.slice p n c) ls) (hn : n ≤ 140737488355328) (hl : ls.flatten.length ≤ 1048576) :
    Calls Tryz.prog 135 #[.pointer (some ⟨d, 0, none⟩), .string s, .slice p n c] wc fun e w' => e = .returned (.int .i64 ((D.save (nm s) ls.flatten).2 : Int)) ∧ JouF w w' j d pre (D.save (nm s) ls.flatten).1 M F ∧ Same F w1 w' ∧ w'.heap[j]? = w1.heap[j]? :=
  jou_disk h hb fun _ hS => save_calls (hS.next hb) s hs hx hn hl

set_option maxRecDepth 100000 in
set_option maxHeartbeats 16000000 in
theorem jgoes_calls (h : JouF w w1 j d pre D M F) (hm : M.entries.length ≤ 1000000) {s : Snap} (hs : s.OK) (hsd : s.data.length ≤ 524288) {pg pd : Option Addr} {cg cd : Nat} (hg : OwnI w1 (.slice pg s.group.length cg) s.group)
    (hx : ∀ W, Below w.heap.size w W → Same F w1 W → HasB W (.slice pd s.data.length cd) s.data)
    (hF : ∀ k, (Value.slice pg s.group.length cg).ownBlock = some k → F k ∧ w.heap.size ≤ k) (hF2 : ∀ k, F2 k → F k ∧ (Value.slice pg s.group.length cg).ownBlock ≠ some k) :
    Calls Tryz.prog 110 #[.pointer (some ⟨j, 0, none⟩), .agg #[.int .i64 (s.number : Int), .int .i64 s.term, .slice pg s.group.length cg], .slice pd s.data.length cd] w1 (JouTold w w1 j d pre F2 (jouGoes (nm pre) D M s)) := by
  have hps := h.psz
  have hssn : (sSnp pre).size = pre.size + 5 := size_snp pre
  have hsn := hs.number
  have hst := isTm_iff.1 hs.term
  have hgb := grp_bound hs.group
  have hgl := hgb.1
  have Hgb := Lib.hid hgb
  obtain ⟨c3, c4, -⟩ := h.jc
  have HG := Lib.hid hg
  have Hx := Lib.hid hx
  have HF := Lib.hid hF
  have HF2 := Lib.hid hF2
  have Hs := Lib.hid hs
  have H := Lib.hid (h.box (.cells #[.int .i64 (s.number : Int), .int .i64 s.term, .slice pg s.group.length cg] 130))
  have H0 := Lib.hid h
  have HT := Lib.hid (show snpB s.number s.term s.group s.data = [] ++ numsI [(s.number : Int), s.term] ++ grpB s.group ++ rowB s.data from by simp [snpB, numsI, numI_nat (show s.number ≤ 4611686018427387904 by omega)])
  have Hbox := Lib.hid (new_block w1 (.cells #[.int .i64 (s.number : Int), .int .i64 s.term, .slice pg s.group.length cg] 130))
  have Hb1 := Lib.hid (below_one w1 (.cells #[.int .i64 (s.number : Int), .int .i64 s.term, .slice pg s.group.length cg] 130))
  clear h hg hx hF hF2 hs hgb
  go_enter Tryz.func110, Tryz.ntmps110
  go_wp2_with fail
  have hwr := wrB_new (w1.alloc (.cells #[.int .i64 (s.number : Int), .int .i64 s.term, .slice pg s.group.length cg] 130))
  have hsz : (w1.alloc (.cells #[.int .i64 (s.number : Int), .int .i64 s.term, .slice pg s.group.length cg] 130)).heap.size = w1.heap.size + 1 := by simp
  rw [hsz] at hwr
  have hb2 : Below w1.heap.size w1 ((w1.alloc (.cells #[.int .i64 (s.number : Int), .int .i64 s.term, .slice pg s.group.length cg] 130)).alloc (.cells #[.slice none 0 0] 163)) := Hb1.out.alloc Hb1.out.size _
  have hbx2 := (al_old _ (.cells #[.slice none 0 0] 163) (lt_of_block Hbox.out)).trans Hbox.out
  have HB2 := Lib.hid hb2
  have HX2 := Lib.hid hbx2
  have HW2 := Lib.hid hwr
  have z0 := cell_of hbx2 (i := 0) rfl
  have z1 := cell_of hbx2 (i := 1) rfl
  have z0 : ((w1.alloc (.cells #[.int .i64 (s.number : Int), .int .i64 s.term, .slice pg s.group.length cg] 130)).alloc (.cells #[.slice none 0 0] 163)).cell? ⟨w1.heap.size, 0, none⟩ = some (.int .i64 (s.number : Int)) := z0
  have z1 : ((w1.alloc (.cells #[.int .i64 (s.number : Int), .int .i64 s.term, .slice pg s.group.length cg] 130)).alloc (.cells #[.slice none 0 0] 163)).cell? ⟨w1.heap.size, 1, none⟩ = some (.int .i64 s.term) := z1
  have HWs := Lib.hid (show w1.heap.size + 1 + 1 = ((w1.alloc (.cells #[.int .i64 (s.number : Int), .int .i64 s.term, .slice pg s.group.length cg] 130)).alloc (.cells #[.slice none 0 0] 163)).heap.size from by simp)
  clear hwr hsz hb2 hbx2
  generalize (w1.alloc (.cells #[.int .i64 (s.number : Int), .int .i64 s.term, .slice pg s.group.length cg] 130)).alloc (.cells #[.slice none 0 0] 163) = W0 at *
  have H1 := Lib.hid (wrB_nums HW2.out [(s.number : Int), s.term] #[.int .i64 (s.number : Int), .int .i64 s.term] rfl (by simp; omega) (by simp) (w1.heap.size + 1 + 1) 2 2 HWs.out rfl (0, 0))
  clear z0 z1
  refine H1.out.mono ?_
  rintro e w3 ⟨rfl, hw3, hb3⟩
  have h9 := numsI_len [(s.number : Int), s.term]
  have HB3 := Lib.hid (show Below w1.heap.size w1 w3 from HB2.out.trans (hb3.mono (Nat.le_succ _)))
  have HX3 := Lib.hid ((hb3.block w1.heap.size (Nat.lt_succ_self _)).trans HX2.out)
  have H2 := Lib.hid (wgroup_calls hw3 (p := pg) (n := s.group.length) (c := cg) (zs := s.group) (fun W hb => Holds.chg (OwnI.has HG.out) (Chg.of_below (HB3.out.trans (hb.mono (Nat.le_succ _)))) fun _ _ => id) (fun z hz => by have := Hgb.out.2 z hz; omega) (by simp at h9 ⊢; omega))
  have z2 : w3.cell? ⟨w1.heap.size, 2, none⟩ = some (.slice pg s.group.length cg) := cell_of HX3.out (i := 2) rfl
  clear hw3 hb3 H1
  go_wp2_with fail
  refine H2.out.mono ?_
  rintro e w4 ⟨rfl, hw4, hb4⟩
  have h8 := grpB_len s.group (by omega)
  have HB4 := Lib.hid (show Below w1.heap.size w1 w4 from HB3.out.trans (hb4.mono (Nat.le_succ _)))
  have HX4 := Lib.hid ((hb4.block w1.heap.size (Nat.lt_succ_self _)).trans HX3.out)
  have H3 := Lib.hid (wrB_bytes hw4 (pv := pd) (m := s.data.length) (cv := cd) (x := s.data) (fun W hb => Hx.out W (H0.out.bel.trans ((HB4.out.trans (hb.mono (Nat.le_succ _))).mono H0.out.bel.size)) (H0.out.same (HB4.out.trans (hb.mono (Nat.le_succ _))))) (by simp at h9 ⊢; omega) w4.heap.size 1 rfl (0, 0))
  clear hw4 hb4 H2 z2
  go_wp2_with fail
  refine H3.out.mono ?_
  rintro e w5 ⟨rfl, hw5, hb5⟩
  have HB5 := Lib.hid (show Below w1.heap.size w1 w5 from HB4.out.trans (hb5.mono (Nat.le_succ _)))
  have HX5 := Lib.hid ((hb5.block w1.heap.size (Nat.lt_succ_self _)).trans HX4.out)
  rw [← HT.out] at hw5
  have h7 : (snpB s.number s.term s.group s.data).length ≤ 600000 := by
    rw [HT.out]
    unfold rowB
    have := numB_nine (n := s.data.length) (by omega)
    simp at h9 ⊢
    omega
  have HW5 := Lib.hid hw5
  have HL7 := Lib.hid h7
  have c3 := cell_far c3 HB5.out
  have c4 := cell_far c4 HB5.out
  clear hw5 hb5 H3 h9 h8 h7
  go_wp2_with fail
  cases hsv : D.save (snpN (nm pre)) (snpB s.number s.term s.group s.data) with
  | mk D1 e1 =>
    have HJB := Lib.hid (show JouF w w5 j d pre D M (fun k => F k ∨ k = w1.heap.size) from H0.out.more HB5.out fun k hk => hk.imp id fun e => ⟨by omega, by rw [e]; exact lt_of_block HX5.out⟩)
    have Hsv := Lib.hid (fun W (hb : Below w5.heap.size w5 W) p n c (hx : RowsAt W (.slice p n c) [snpB s.number s.term s.group s.data]) (hn : n = 1) => show Calls Tryz.prog 135 #[.pointer (some ⟨d, 0, none⟩), .string (sSnp pre), .slice p n c] W fun e w' => e = .returned (.int .i64 (e1 : Int)) ∧ JouF w w' j d pre D1 M (fun k => F k ∨ k = w1.heap.size) ∧ Same (fun k => F k ∨ k = w1.heap.size) w5 w' ∧ w'.heap[j]? = w5.heap[j]? from by
      have := jou_save HJB.out hb (sSnp pre) (by rw [hssn]; omega) hx (by omega) (by simp; have := HL7.out; omega)
      rw [show [snpB s.number s.term s.group s.data].flatten = snpB s.number s.term s.group s.data by simp, nm_snp, hsv] at this
      exact this)
    have HSV := Lib.hid hsv
    clear hsv
    refine ord_start (fun w' : World => w'.cell? ⟨j, 3, none⟩ = some (.pointer (some ⟨d, 0, none⟩)) ∧ w'.cell? ⟨j, 4, none⟩ = some (.string pre)) (n := 13) (by kernel_rfl) rfl (⟨c3, c4⟩) (fun hHeld => ?_)
    refine ord_take 0 (v := ?v5x0) rfl (by kernel_rfl) (by kernel_rfl) (by kernel_rfl) (fun _ _ _ h => h) (by rfl) (by assumption) ?y5x0 ?_
    case y5x0 => (intro w hSw; (try dsimp only at hSw); go_simp; try with_reducible rfl)
    simp only [Act.put, List.setIfInBounds_toArray, List.set_cons_zero, List.set_cons_succ]
    refine ord_take 1 (v := ?v5x1) rfl (by kernel_rfl) (by kernel_rfl) (by kernel_rfl) (fun _ _ _ h => h) (by rfl) (by assumption) ?y5x1 ?_
    case y5x1 => (intro w hSw; (try dsimp only at hSw); go_simp; try with_reducible rfl)
    simp only [Act.put, List.setIfInBounds_toArray, List.set_cons_zero, List.set_cons_succ]
    refine ord_take 2 (v := ?v5x2) rfl (by kernel_rfl) (by kernel_rfl) (by kernel_rfl) (fun _ _ _ h => h) (by rfl) (by assumption) ?y5x2 ?_
    case y5x2 => (intro w hSw; (try dsimp only at hSw); go_simp; try with_reducible rfl)
    simp only [Act.put, List.setIfInBounds_toArray, List.set_cons_zero, List.set_cons_succ]
    refine ord_take 3 (v := ?v5x3) rfl (by kernel_rfl) (by kernel_rfl) (by kernel_rfl) (fun _ _ _ h => h) (by rfl) (by assumption) ?y5x3 ?_
    case y5x3 => (intro w hSw; (try dsimp only at hSw); go_simp; try with_reducible rfl)
    simp only [Act.put, List.setIfInBounds_toArray, List.set_cons_zero, List.set_cons_succ]
    refine ord_take 4 (v := ?v5x4) rfl (by kernel_rfl) (by kernel_rfl) (by kernel_rfl) (fun _ _ _ h => h) (by rfl) (by assumption) ?y5x4 ?_
    case y5x4 => (intro w hSw; (try dsimp only at hSw); go_simp; try with_reducible rfl)
    simp only [Act.put, List.setIfInBounds_toArray, List.set_cons_zero, List.set_cons_succ]
    refine ord_take 5 (v := ?v5x5) rfl (by kernel_rfl) (by kernel_rfl) (by kernel_rfl) (fun _ _ _ h => h) (by rfl) (by assumption) ?y5x5 ?_
    case y5x5 => (intro w hSw; (try dsimp only at hSw); go_simp; try with_reducible rfl)
    simp only [Act.put, List.setIfInBounds_toArray, List.set_cons_zero, List.set_cons_succ]
    refine ord_take 6 (v := ?v5x6) rfl (by kernel_rfl) (by kernel_rfl) (by kernel_rfl) (fun _ _ _ h => h) (by rfl) (by assumption) ?y5x6 ?_
    case y5x6 => (intro w hSw; (try dsimp only at hSw); go_simp; try with_reducible rfl)
    simp only [Act.put, List.setIfInBounds_toArray, List.set_cons_zero, List.set_cons_succ]
    refine ord_take 7 (v := ?v5x7) rfl (by kernel_rfl) (by kernel_rfl) (by kernel_rfl) (fun _ _ _ h => h) (by rfl) (by assumption) ?y5x7 ?_
    case y5x7 => (intro w hSw; (try dsimp only at hSw); go_simp; try with_reducible rfl)
    simp only [Act.put, List.setIfInBounds_toArray, List.set_cons_zero, List.set_cons_succ]
    refine ord_take 8 (v := ?v5x8) rfl (by kernel_rfl) (by kernel_rfl) (by kernel_rfl) (fun _ _ _ h => h) (by rfl) (by assumption) ?y5x8 ?_
    case y5x8 => (intro w hSw; (try dsimp only at hSw); go_simp; rw [if_neg (by omega)]; try with_reducible rfl)
    simp only [Act.put, List.setIfInBounds_toArray, List.set_cons_zero, List.set_cons_succ]
    refine ord_one 9 rfl (by kernel_rfl) (by rfl) (fun K hK => ?_)
    have HBd := Lib.hid (below_drew w5)
    have H6 := Lib.hid (wrB_outS (HW5.out.keep (below_drew w5)) (by have := HL7.out; omega))
    go_wp2_with fail
    refine H6.out.mono ?_
    rintro e w6 ⟨v, rfl, hv, hb6⟩
    have HB6 := Lib.hid (HBd.out.trans hb6)
    have Hh6 := Lib.hid (And.intro (cell_far hHeld.1 hb6) (cell_far hHeld.2 hb6))
    have HV := Lib.hid (OwnB.has hv)
    obtain ⟨pv, cv, rfl, -⟩ := own_cap0 hv
    clear hv hb6 H6
    go_wp2_with fail
    refine hK.out _ _ (Hh6.out) (fun hHeld => ?_)
    clear hK
    try simp only [Act.put, List.setIfInBounds_toArray, List.set_cons_zero, List.set_cons_succ]
    refine ord_one 10 rfl (by kernel_rfl) (by rfl) (fun K hK => ?_)
    have Hh7 := Lib.hid (And.intro (al_cell hHeld.1 (.cells #[.slice pv (snpB s.number s.term s.group s.data).length cv] 22)) (al_cell hHeld.2 (.cells #[.slice pv (snpB s.number s.term s.group s.data).length cv] 22)))
    go_wp2_with fail
    refine hK.out _ _ (Hh7.out) (fun hHeld => ?_)
    clear hK
    try simp only [Act.put, List.setIfInBounds_toArray, List.set_cons_zero, List.set_cons_succ]
    refine ord_one 11 rfl (by kernel_rfl) (by rfl) (fun K hK => ?_)
    have Hcl := Lib.hid (Hsv.out _ (HB6.out.trans ((below_one w6 (.cells #[.slice pv (snpB s.number s.term s.group s.data).length cv] 22)).mono HB6.out.size)) _ _ _ (rows_one HV.out 22 (0, 0) w6.heap.size 1 rfl (Nat.le_refl _)) rfl)
    go_wp2_with fail
    refine Hcl.out.mono ?_
    rintro e w7 ⟨rfl, hj7, hs7, hh7⟩
    have HJ7 := Lib.hid hj7
    have HS7 := Lib.hid hs7
    have Hh8 := Lib.hid (And.intro ((World.cell?_of_block (a := ⟨j, 3, none⟩) hh7).trans c3) ((World.cell?_of_block (a := ⟨j, 4, none⟩) hh7).trans c4))
    clear hj7 hs7 hh7 Hcl
    go_wp2_with fail
    refine hK.out _ _ (Hh8.out) (fun hHeld => ?_)
    clear hK
    try simp only [Act.put, List.setIfInBounds_toArray, List.set_cons_zero, List.set_cons_succ]
    refine ord_take 12 (v := ?v5x12) rfl (by kernel_rfl) (by kernel_rfl) (by kernel_rfl) (fun _ _ _ h => h) (by rfl) (by assumption) ?y5x12 ?_
    case y5x12 => (intro w hSw; (try dsimp only at hSw); go_simp; try with_reducible rfl)
    simp only [Act.put, List.setIfInBounds_toArray, List.set_cons_zero, List.set_cons_succ]
    refine wpAnyH_done (by kernel_rfl) ?_ _
    have HSF := Lib.hid (show Same F w1 w7 from fun k hk => (HS7.out k (.inl hk)).trans (H0.out.same HB5.out k hk))
    have HX7 := Lib.hid ((HS7.out w1.heap.size (.inr rfl)).trans HX5.out)
    by_cases he1 : e1 = 0
    · subst he1
      have Hcl := Lib.hid (fun W (hb : Below w7.heap.size w7 W) => clone_calls (Hx.out W (HJ7.out.bel.trans (hb.mono HJ7.out.bel.size)) (fun k hk => (HJ7.out.same hb k (.inl hk)).trans (HSF.out k hk))) (by omega))
      have hm2 := Nat.le_trans (rebase_len M s) hm
      cases hwj : writesJ D1 (nm pre) (M.rebase s) with
      | mk D2 e2 =>
        have HWJ := Lib.hid hwj
        have Hok := Lib.hid (fun (h : e2 = 0) => goes_ok (pre := nm pre) (M := M) HSV.out (by rw [hwj, h]))
        have Her := Lib.hid (fun (h : e2 ≠ 0) => goes_err2 (pre := nm pre) (M := M) HSV.out hwj h)
        clear hwj
        go_wp2_with fail
        refine g_start [4] (fun w' : World => w'.heap[w1.heap.size]? = some (.cells #[.int .i64 (s.number : Int), .int .i64 s.term, .slice pg s.group.length cg] 130 (0, 0))) (n := 5) (by kernel_rfl) rfl (HX7.out) (fun hHeld => ?_)
        refine g_pure0 0 (v := ?v8x0) rfl (by kernel_rfl) (by kernel_rfl) (by kernel_rfl) (by kernel_rfl) (fun _ _ _ h => h) (by rfl) (by assumption) ?y8x0 ?_
        case y8x0 => (intro w; go_simp; try with_reducible rfl)
        simp only [Act.put, List.setIfInBounds_toArray, List.set_cons_zero, List.set_cons_succ]
        refine g_take 1 (v := .agg #[.int .i64 (s.number : Int), .int .i64 s.term, .slice pg s.group.length cg]) rfl (by kernel_rfl) (by kernel_rfl) (by kernel_rfl) (by kernel_rfl) (fun _ _ _ h => h) (by rfl) (by assumption) (fun W hSw => by have q0 := cell_of hSw (i := 0) rfl; have q1 := cell_of hSw (i := 1) rfl; have q2 := cell_of hSw (i := 2) rfl; go_simp; try with_reducible rfl) ?_
        simp only [Act.put, List.setIfInBounds_toArray, List.set_cons_zero, List.set_cons_succ]
        refine g_pure0 2 (v := ?v8x2) rfl (by kernel_rfl) (by kernel_rfl) (by kernel_rfl) (by kernel_rfl) (fun _ _ _ h => h) (by rfl) (by assumption) ?y8x2 ?_
        case y8x2 => (intro w; go_simp; try with_reducible rfl)
        simp only [Act.put, List.setIfInBounds_toArray, List.set_cons_zero, List.set_cons_succ]
        refine g_one 3 rfl (by kernel_rfl) (by rfl) (fun K hK => ?_)
        have HBd := Lib.hid (below_drew w7)
        go_wp2_with fail
        refine (Hcl.out w7.drew HBd.out).mono ?_
        rintro e w8 ⟨v, rfl, hv, hvn, hb8⟩
        have HB8 := Lib.hid (HBd.out.trans hb8)
        have Hh9 := Lib.hid ((hb8.block _ (lt_of_block hHeld)).trans hHeld)
        have HV := Lib.hid (And.intro hv (show ∀ k, v.ownBlock = some k → w7.heap.size ≤ k from hvn))
        obtain ⟨pv, cv, rfl, -⟩ := own_cap0 hv
        clear hv hvn hb8 Hcl
        go_wp2_with fail
        refine hK.out _ _ (Hh9.out) (fun hHeld => ?_)
        clear hK
        try simp only [Act.put, List.setIfInBounds_toArray, List.set_cons_zero, List.set_cons_succ]
        refine g_end 4 rfl (by kernel_rfl) (by rfl) (by kernel_rfl) (fun K hK => ?_)
        have hJ8 : JouF w w8 j d pre D1 M (fun k => (F k ∨ k = w1.heap.size) ∨ (Value.slice pv s.data.length cv).ownBlock = some k) := HJ7.out.more HB8.out fun k hk => hk.imp id fun e => ⟨HV.out.2 k e, OwnR.lt HV.out.1 e⟩
        have hG8 : OwnI w8 (.slice pg s.group.length cg) s.group := OwnR.keep HG.out fun k hk => (HJ7.out.same HB8.out k (.inl (HF.out k hk).1)).trans (HSF.out k (HF.out k hk).1)
        have Hrb := Lib.hid (jrebase_calls (F2 := F2) hJ8 Hs.out hG8 HV.out.1 (fun k hk => by
          rcases hk with hk | hk
          · exact ⟨.inl (.inl (HF.out k hk).1), (HF.out k hk).2⟩
          · exact ⟨.inr hk, Nat.le_trans HJ7.out.bel.size (HV.out.2 k hk)⟩) (fun k hk => ⟨.inl (.inl (HF2.out k hk).1), (HF2.out k hk).2, fun e => by have h1 := HV.out.2 k e; have h2 := HJ7.out.flt (.inl (HF2.out k hk).1); omega⟩))
        have HS8 := Lib.hid (show Same F2 w1 w8 from fun k hk => (HJ7.out.same HB8.out k (.inl (HF2.out k hk).1)).trans (HSF.out k (HF2.out k hk).1))
        clear hJ8 hG8
        go_wp2_with fail
        refine Hrb.out.mono ?_
        rintro e w9 ⟨rfl, hj9, hs9⟩
        have HJ9 := Lib.hid hj9
        have HS9 := Lib.hid (HS8.out.trans hs9)
        clear hj9 hs9 Hrb
        go_wp2_with fail
        refine hK.out _ _ ?_
        clear hK
        try simp only [Act.put, List.setIfInBounds_toArray, List.set_cons_zero, List.set_cons_succ]
        refine g_done (by kernel_rfl) ?_ _
        have Hwr := Lib.hid (jwrites_calls HJ9.out hm2)
        unfold WritTold at Hwr
        rw [HWJ.out] at Hwr
        go_wp2_with fail
        refine Hwr.out.mono ?_
        rintro e wa ⟨rfl, hja, hsa⟩
        have Hen := Lib.hid (jended_calls hja e2)
        have HSa := Lib.hid (HS9.out.trans hsa)
        clear hja hsa Hwr
        go_wp2_with fail
        refine Hen.out.mono ?_
        rintro e wb ⟨rfl, hjb, hsb⟩
        have HE := Lib.hid (And.intro hjb (HSa.out.trans hsb))
        clear hjb hsb
        go_wp2_with fail
        go_ret
        by_cases he2 : e2 = 0
        · rw [Hok.out he2, he2]
          have h1 := HE.out.1
          rw [he2] at h1
          exact ⟨rfl, by have := deadIf_zero (M.rebase s); unfold deadIf at this; rw [this] at h1; exact h1, HE.out.2⟩
        · rw [Her.out he2]
          have h1 := HE.out.1
          exact ⟨rfl, by have := deadIf_ne (M.rebase s) he2; unfold deadIf at this; rw [this] at h1; exact h1, HE.out.2⟩
    · have hne : ((e1 : Int) != 0) = true := by simp; omega
      have HZ := Lib.hid (goes_err (pre := nm pre) (M := M) HSV.out he1)
      have hen := jended_calls (HJ7.out.less fun k hk => .inl (HF2.out k hk).1 : JouF w w7 j d pre D1 M F2) e1
      have hdi := deadIf_ne M he1
      unfold deadIf at hdi
      rw [hdi] at hen
      have Hen := Lib.hid hen
      clear he1 hen hdi
      go_wp2_with fail
      refine Hen.out.mono ?_
      rintro e w8 ⟨rfl, hj8, hs8⟩
      have HE := Lib.hid (And.intro hj8 (show Same F2 w1 w8 from fun k hk => (hs8 k hk).trans (HSF.out k (HF2.out k hk).1)))
      clear hj8 hs8
      go_wp2_with fail
      go_ret
      rw [HZ.out]
      exact ⟨rfl, HE.out.1, HE.out.2⟩
end
end Go.Proofs.YtapfnehdgailmaaGreat

namespace Go.Proofs.YtapfnehdgailmaaGreat
open Go.RowKit Go.Sat Go.Maps

theorem grpIn_ok {M : JouM} (h : M.OK) : ∀ k, isGrp (M.grpIn k).1 = true
  | 0 => h.group
  | k + 1 => by
    have ih := grpIn_ok h k
    cases he : M.entries[k]? with
    | none =>
      have : M.grpIn (k + 1) = M.grpIn k := by
        show (match M.entries[k]? with | some e => _ | none => _) = _
        rw [he]
      rw [this]
      exact ih
    | some e =>
      by_cases hk : e.kind = 2
      · rw [grpIn_yes he hk]
        have := h.ents e (List.mem_of_getElem? he)
        rw [ent_two hk] at this
        simp only [Bool.and_eq_true] at this
        exact this.2.2
      · rw [grpIn_no he hk]
        exact ih
theorem termAt_ok {M : JouM} (h : M.OK) {i : Int} {t : Int} (ht : M.termAt i = some t) : isTm t = true := by
  unfold JouM.termAt at ht
  split at ht
  · cases ht
    exact h.term
  · split at ht
    · cases ht
    · cases he : M.entries[(i - (M.number : Int) - 1).toNat]? with
      | none => rw [he] at ht; cases ht
      | some e =>
        rw [he] at ht
        cases ht
        exact isTm_iff.2 (ent_bound (h.ents e (List.mem_of_getElem? he))).1

section
variable {w w1 : World} {j d : Nat} {pre : ByteArray} {D : DiskM} {M : JouM} {F : Nat → Prop}

set_option maxRecDepth 100000 in
set_option maxHeartbeats 8000000 in
theorem jcompact_calls (h : JouF w w1 j d pre D M F) (hm : M.entries.length ≤ 1000000) (i : Int) (hi : -9223372036854775808 ≤ i ∧ i ≤ 9223372036854775807) {pd : Option Addr} {n cd : Nat} {b : Bs} (hn : b.length = n) (hn47 : n ≤ 140737488355328)
    (hx : ∀ W, Below w.heap.size w W → Same F w1 W → HasB W (.slice pd n cd) b) :
    Calls Tryz.prog 30 #[.pointer (some ⟨j, 0, none⟩), .int .i64 i, .slice pd n cd] w1 (JouTold w w1 j d pre F (jouCompact (nm pre) D M i b)) := by
  have Hmay := Lib.hid (jmay_calls h)
  have Hha := Lib.hid (jhas_calls h i hi)
  have Hid := Lib.hid (fun k w2 (hb : Below w1.heap.size w1 w2) (hr : jouCompact (nm pre) D M i b = ⟨D, M, k⟩) => jouTold_id h hb hr)
  have HR := Lib.hid (show jouCompact (nm pre) D M i b = if M.dead then ⟨D, M, 9⟩ else if i ≤ (M.number : Int) ∨ (M.last : Int) < i ∨ 524288 < b.length then ⟨D, M, 1⟩ else jouGoes (nm pre) D M ⟨i.toNat, (M.termAt i).getD 0, (M.grpIn (i.toNat - M.number)).1, b⟩ from rfl)
  have hok := h.okM
  have hlast := hok.last
  cases hd : M.dead with
  | true =>
    rw [hd] at Hmay
    have HE := Lib.hid (Hid.out 9 w1 (Below.refl _ _) (by rw [HR.out, hd]; rfl))
    clear h
    go_enter Tryz.func30, Tryz.ntmps30
    go_wp2_with fail
    refine Hmay.out.mono ?_
    rintro e w2 ⟨rfl, rfl⟩
    go_wp2_with fail
    go_ret
    exact HE.out
  | false =>
    rw [hd] at Hmay
    by_cases hin : (M.number : Int) < i ∧ i ≤ (M.last : Int)
    · rw [decide_eq_true hin] at Hha
      by_cases hbig : 524288 < n
      · have HE := Lib.hid (fun q => Hid.out 1 (w1.drewN q) ⟨rfl, rfl, rfl, Nat.le_refl _, fun _ _ => rfl⟩ (by rw [HR.out, hd, if_neg (by simp), if_pos (.inr (.inr (by rw [hn]; exact hbig)))]))
        clear h hx hin
        go_enter Tryz.func30, Tryz.ntmps30
        go_wp2_with fail
        refine Hmay.out.mono ?_
        rintro e w2 ⟨rfl, rfl⟩
        go_wp2_with fail
        refine Hha.out.mono ?_
        rintro e w2 ⟨rfl, q, rfl⟩
        go_wp2_with fail
        go_ret
        exact HE.out q
      · have hdb : decide (524288 < (n : Int)) = false := by simp; omega
        have HR2 := Lib.hid (show jouCompact (nm pre) D M i b = jouGoes (nm pre) D M ⟨i.toNat, (M.termAt i).getD 0, (M.grpIn (i.toNat - M.number)).1, b⟩ from by rw [HR.out, hd, if_neg (by simp), if_neg (by rw [hn]; omega)])
        have hlm : (M.last : Int) = (M.number : Int) + (M.entries.length : Int) := by unfold JouM.last; omega
        have hit : ∃ t, M.termAt i = some t := by
          have hkl : (i - (M.number : Int) - 1).toNat < M.entries.length := by omega
          exact ⟨_, termAt_yes hin.1 (List.getElem?_eq_getElem hkl)⟩
        obtain ⟨t, ht⟩ := hit
        have htm := termAt_ok hok ht
        generalize hN : i.toNat - M.number = N at *
        have hNl : N ≤ M.entries.length := by omega
        have hiN : i = ((M.number + N : Nat) : Int) := by omega
        have hgo := grpIn_ok hok N
        rw [ht] at HR2
        have Hta := Lib.hid (fun q => jtermAt_calls (h.drewN q) i hi)
        rw [ht] at Hta
        have Hgr := Lib.hid (fun q => show Calls Tryz.prog 107 #[.pointer (some ⟨j, 0, none⟩), .int .i64 i] (w1.drewN q) (NodesTold (w1.drewN q) (M.grpIn N)) from by rw [hiN]; exact jgrpAt_calls (h.drewN q) N hNl)
        have HBq := Lib.hid (fun q => (show Below w1.heap.size w1 (w1.drewN q) from ⟨rfl, rfl, rfl, Nat.le_refl _, fun _ _ => rfl⟩))
        have hi0 : ((i.toNat : Nat) : Int) = i := by omega
        have Hgo := Lib.hid (fun W v pg cg (hb : Below w1.heap.size w1 W) (hv : OwnI W v (M.grpIn N).1) (hvn : ∀ k, v.ownBlock = some k → w1.heap.size ≤ k) (hsh : v = .slice pg (M.grpIn N).1.length cg) => show Calls Tryz.prog 110 #[.pointer (some ⟨j, 0, none⟩), .agg #[.int .i64 i, .int .i64 t, .slice pg (M.grpIn N).1.length cg], .slice pd n cd] W (JouTold w w1 j d pre F (jouCompact (nm pre) D M i b)) from by
          subst hsh
          rw [HR2.out]
          have hJ : JouF w W j d pre D M (fun k => F k ∨ (Value.slice pg (M.grpIn N).1.length cg).ownBlock = some k) := h.more hb fun k hk => hk.imp id fun e => ⟨hvn k e, OwnR.lt hv e⟩
          have := jgoes_calls (F2 := F) hJ hm (s := ⟨i.toNat, t, (M.grpIn N).1, b⟩) ⟨by show i.toNat ≤ _; omega, htm, hgo, by show b.length ≤ _; omega⟩ (by show b.length ≤ _; omega) (pg := pg) (cg := cg) (pd := pd) (cd := cd) hv (fun W' hb' hs' => by show HasB W' (.slice pd b.length cd) b; rw [hn]; exact hx W' hb' fun k hk => (hs' k (.inl hk)).trans (h.same hb k hk)) (fun k hk => ⟨.inr hk, Nat.le_trans h.bel.size (hvn k hk)⟩) (fun k hk => ⟨.inl hk, fun e => by have h1 := hvn k e; have h2 := h.flt hk; omega⟩)
          dsimp only at this
          rw [hi0, hn] at this
          exact this.mono fun e w' hT => ⟨hT.1, hT.2.1, fun k hk => (hT.2.2 k hk).trans (h.same hb k hk)⟩)
        clear h hx hin hok ht htm hN hNl hiN hgo hlm hlast hi0 hd hi
        go_enter Tryz.func30, Tryz.ntmps30
        go_wp2_with fail
        refine Hmay.out.mono ?_
        rintro e w2 ⟨rfl, rfl⟩
        go_wp2_with fail
        refine Hha.out.mono ?_
        rintro e w3 ⟨rfl, q, rfl⟩
        go_wp2_with fail
        refine (Hta.out q).mono ?_
        rintro e w3 ⟨rfl, q2, rfl⟩
        rw [drewN_two]
        go_wp2_with fail
        refine (Hgr.out (q + q2)).mono ?_
        rintro e w4 ⟨v, rfl, hv, hvn, hb⟩
        obtain ⟨pg, cg, hsh, -⟩ := own_capI hv
        have Hcl := Lib.hid (Hgo.out w4 v pg cg ((HBq.out (q + q2)).trans hb) hv hvn hsh)
        subst hsh
        clear hv hvn hb Hgo
        go_wp2_with fail
        refine Hcl.out.mono ?_
        intro e w5 hT
        obtain ⟨e1, hT2⟩ := hT
        have HE := Lib.hid hT2
        subst e1
        clear hT2 Hcl
        go_wp2_with fail
        go_ret
        exact ⟨rfl, HE.out⟩
    · rw [decide_eq_false hin] at Hha
      have HE := Lib.hid (fun q => Hid.out 1 (w1.drewN q) ⟨rfl, rfl, rfl, Nat.le_refl _, fun _ _ => rfl⟩ (by rw [HR.out, hd, if_neg (by simp), if_pos (by omega)]))
      clear h hx hin
      go_enter Tryz.func30, Tryz.ntmps30
      go_wp2_with fail
      refine Hmay.out.mono ?_
      rintro e w2 ⟨rfl, rfl⟩
      go_wp2_with fail
      refine Hha.out.mono ?_
      rintro e w2 ⟨rfl, q, rfl⟩
      go_wp2_with fail
      go_ret
      exact HE.out q
end
end Go.Proofs.YtapfnehdgailmaaGreat

namespace Go.Proofs.YtapfnehdgailmaaGreat
open Go.RowKit Go.Sat Go.Maps

/-- A Reader whose bytes lie in the blocks of A. -/
def RdX (A : Nat → Prop) (w : World) (r : Nat) (R : Rd) : Prop := ∃ p n c, RdIn w r R p n c ∧ ∀ k, (Value.slice p n c).ownBlock = some k → A k
theorem RdX.at {A : Nat → Prop} {w : World} {r : Nat} {R : Rd} (h : RdX A w r R) : RdAt w r R := let ⟨p, n, c, h, _⟩ := h; ⟨p, n, c, h⟩
theorem RdX.lt {A : Nat → Prop} {w : World} {r : Nat} {R : Rd} (h : RdX A w r R) : r < w.heap.size := let ⟨_, _, _, h, _⟩ := h; h.rlt
theorem RdX.chg {A S : Nat → Prop} {w w' : World} {r : Nat} {R : Rd} (h : RdX A w r R) (hc : Chg S w w') (hr : ¬ S r) (hA : ∀ k, A k → ¬ S k) : RdX A w' r R := by
  obtain ⟨p, n, c, h, ha⟩ := h
  exact ⟨p, n, c, ⟨(hc.block r h.rlt hr).trans h.cells, HasB.chg h.has hc fun k hk => hA k (ha k hk), h.cap, h.ne, h.len⟩, ha⟩
def RStepX (A : Nat → Prop) (w : World) (r : Nat) (R' : Rd) (v : Value) (e : Ending) (w' : World) : Prop := e = .returned v ∧ RdX A w' r R' ∧ Chg (fun k => k = r) w w'
def NumX (A : Nat → Prop) (w : World) (r : Nat) (R : Rd) (e : Ending) (w' : World) : Prop := e = .returned (.int .i64 (R.num.1 : Int)) ∧ RdX A w' r R.num.2 ∧ Chg (fun k => k = r) w w'
def RowX (A : Nat → Prop) (w : World) (r : Nat) (b : Bs) (R' : Rd) (e : Ending) (w' : World) : Prop :=
  ∃ v, e = .returned v ∧ OwnB w' 5 v b ∧ (∀ j, v.ownBlock = some j → w.heap.size ≤ j) ∧ RdX A w' r R' ∧ Chg (fun j => j = r) w w'

theorem run_tailX {P : Program} {w : World} {t e : TypeId} {i : TypeInfo} (ht : P.underlying t = some (.slice e)) (hi : P.info? e = some i) (hsz : i.size = 1) {p : Option Addr} {n c : Nat} {l : Bs} (h : HasB w (.slice p n c) l) (hnc : n ≤ c) (r k : Nat) (hne : (Value.slice p n c).ownBlock ≠ some r) (hk : k ≤ n) :
    ∃ p' c', (∀ W, (Instr.slice t (.slice p n c) (some (.int .i64 (k : Int))) none none).run P W = .ok (.slice p' (n - k) c') W) ∧ HasB w (.slice p' (n - k) c') (l.drop k) ∧ n - k ≤ c' ∧ (Value.slice p' (n - k) c').ownBlock ≠ some r ∧ ∀ x, (Value.slice p' (n - k) c').ownBlock = some x → (Value.slice p n c).ownBlock = some x := by
  obtain ⟨p', c', h1, h2, h3, h4⟩ := run_tail (P := P) ht hi hsz h hnc r k hne hk
  refine ⟨p', c', h1, h2, h3, h4, fun x hx => ?_⟩
  have e1 := h1 w
  rw [run_tail0 (P := P) w ht hi hsz p n c k hk hnc] at e1
  have e2 : (if c = k then p else p.map fun x => x.add k) = p' := by
    have := congrArg (fun z : Result Value => match z with | .ok (.slice a _ _) _ => a | _ => none) e1
    exact this
  subst e2
  split at hx
  · cases p with
    | none => cases hx
    | some a => exact hx
  · cases p with
    | none => cases hx
    | some a =>
      have e3 : (Value.slice (some (a.add k)) (n - k) c').ownBlock = some (a.add k).block := rfl
      have hx' : (Value.slice (some (a.add k)) (n - k) c').ownBlock = some x := hx
      rw [e3, add_block] at hx'
      exact hx'

section
variable {w : World} {r : Nat} {R : Rd} {p : Option Addr} {n c : Nat}
theorem rdX_bad {A : Nat → Prop} (h : RdIn w r R p n c) : RdX A ((w.setCell ⟨r, 0, none⟩ (.slice none 0 0)).setCell ⟨r, 1, none⟩ (.bool true)) r Rd.fail :=
  ⟨none, 0, 0, ⟨rd_set h _ _, OwnB.has (e := 0) (OwnR.nil _ _ _), Nat.le_refl _, fun h => (by cases h), Nat.zero_le _⟩, fun k hk => (by cases hk)⟩

theorem badX_calls {A : Nat → Prop} (h : RdIn w r R p n c) :
    Calls Tryz.prog 192 #[.pointer (some ⟨r, 0, none⟩)] w (RStepX A w r Rd.fail (.tuple #[])) := by
  have h0 := h.c0
  have h1 := h.c1
  have hf := fun i => frozen_of h.cells i
  have HE := Lib.hid (show RStepX A w r Rd.fail (.tuple #[]) (.returned (.tuple #[])) ((w.setCell ⟨r, 0, none⟩ (.slice none 0 0)).setCell ⟨r, 1, none⟩ (.bool true)) from ⟨rfl, rdX_bad h, (Chg.setCell w ⟨r, 0, none⟩ _).trans (Chg.setCell _ ⟨r, 1, none⟩ _) fun _ _ e => e⟩)
  clear h
  go_enter Tryz.func192, Tryz.ntmps192
  go_wp2_with fail
  go_end0
  exact HE.out

set_option maxRecDepth 100000 in
set_option maxHeartbeats 4000000 in
theorem rawX_calls {A : Nat → Prop} (h : RdIn w r R p n c) (hA : ∀ k, (Value.slice p n c).ownBlock = some k → A k) (k : Int) (hk : 0 ≤ k) (hk' : k ≤ 9223372036854775807) :
    Calls Tryz.prog 193 #[.pointer (some ⟨r, 0, none⟩), .int .i64 k] w fun e w' => ∃ v, e = .returned v ∧ OwnB w' 5 v (R.raw k.toNat).1 ∧ (∀ j, v.ownBlock = some j → w.heap.size ≤ j) ∧ RdX A w' r (R.raw k.toNat).2 ∧ Chg (fun j => j = r) w w' := by
  obtain ⟨i0, hi, -, hz1, -⟩ := info_parts (show (Tryz.prog.info? 5).map (fun i => (i.zero, i.size, i.bytes)) = some (some (.int .u8 0), 1, 1) by kernel_rfl)
  obtain ⟨m, rfl⟩ : ∃ m : Nat, k = (m : Int) := ⟨k.toNat, by omega⟩
  have hn := h.n_eq
  have hlen := h.len
  rw [Int.toNat_natCast]
  have c0 := h.c0
  have hfr := fun i => frozen_of h.cells i
  by_cases hm : m ≤ n
  · have hR : R.raw m = (R.rest.take m, ⟨R.rest.drop m, R.bad⟩) := by unfold Rd.raw; rw [if_pos (by omega)]
    rw [hR]
    obtain ⟨p', c', hsl, hh, hc, hne, hnA⟩ := run_tailX (P := Tryz.prog) Tryz.underlying22 hi hz1 h.has h.cap r m h.ne hm
    have hup : ∀ W, (Instr.slice 22 (.slice p n c) none (some (.int .i64 (m : Int))) none).run Tryz.prog W = .ok (.slice p m c) W := fun W => run_upto W Tryz.underlying22 hi p n c m (by have := h.cap; omega)
    have Hcl := Lib.hid (clone_calls (HasB.cut h.has (k := m) (by omega) c) (by rw [List.length_take]; omega))
    have Hin := Lib.hid h
    have Hh := Lib.hid (And.intro hh (And.intro hc hne))
    have HA := Lib.hid (fun k hk => hA k (hnA k hk))
    clear hh hc hne h hR hnA hA
    go_enter Tryz.func193, Tryz.ntmps193
    go_wp2_with fail
    refine Hcl.out.mono ?_
    rintro e w1 ⟨v, rfl, hv, hvn, hb⟩
    have hcell := hb.block r Hin.out.rlt
    have hin1 : RdIn w1 r R p n c := ⟨hcell.trans Hin.out.cells, HasB.below Hin.out.has hb, Hin.out.cap, Hin.out.ne, Hin.out.len⟩
    have hc1 := hin1.c0
    have hfr1 := fun i => frozen_of hin1.cells i
    have HV := Lib.hid (And.intro (show OwnB (w1.setCell ⟨r, 0, none⟩ (.slice p' (n - m) c')) 5 v (R.rest.take m) from hv.keep fun k hk => set_other _ fun e => by
      have := hvn k hk
      have h2 := Hin.out.rlt
      have h3 : k = r := e
      omega) (And.intro hvn (And.intro (show RdX A (w1.setCell ⟨r, 0, none⟩ (.slice p' (n - m) c')) r ⟨R.rest.drop m, R.bad⟩ from ⟨p', n - m, c', ⟨rd_set0 hin1 _, (HasB.set (HasB.below Hh.out.1 hb) _ Hh.out.2.2), Hh.out.2.1, Hh.out.2.2, by rw [List.length_drop]; omega⟩, HA.out⟩)
        (((Chg.of_below hb).mono fun _ _ h => h.elim).trans (Chg.setCell _ ⟨r, 0, none⟩ _) fun _ _ e => e : Chg (fun j => j = r) w (w1.setCell ⟨r, 0, none⟩ (.slice p' (n - m) c'))))))
    clear hv hvn hin1 Hin Hh Hcl hcell
    go_wp2_with fail
    go_ret
    exact ⟨v, rfl, HV.out⟩
  · have hR : R.raw m = ([], Rd.fail) := by unfold Rd.raw; rw [if_neg (by omega)]
    rw [hR]
    have Hbd := Lib.hid (badX_calls (A := A) h)
    have hgt : ((m : Int) > (n : Int)) := by omega
    clear h hR
    go_enter Tryz.func193, Tryz.ntmps193
    go_wp2_with fail
    refine Hbd.out.mono ?_
    rintro e w1 ⟨rfl, hr, hc⟩
    have HE := Lib.hid (And.intro hr hc)
    clear hr hc
    go_wp2_with fail
    go_ret
    exact ⟨_, rfl, OwnR.nil _ _ _, fun j hj => (by cases hj), HE.out⟩
end

set_option maxRecDepth 100000 in
set_option maxHeartbeats 4000000 in
theorem numX_calls {AA : Nat → Prop} {w : World} {r : Nat} {R : Rd} {p : Option Addr} {n c : Nat} (h : RdIn w r R p n c) (hA : ∀ k, (Value.slice p n c).ownBlock = some k → AA k) :
    Calls Tryz.prog 191 #[.pointer (some ⟨r, 0, none⟩)] w (NumX AA w r R) := by
  obtain ⟨i0, hi, -, hz1, -⟩ := info_parts (show (Tryz.prog.info? 5).map (fun i => (i.zero, i.size, i.bytes)) = some (some (.int .u8 0), 1, 1) by kernel_rfl)
  have hn := h.n_eq
  have hlen := h.len
  rw [hn] at hlen
  have c0 := h.c0
  have hfr := frozen_of h.cells 0
  have Hbad := Lib.hid (badX_calls (A := AA) h)
  have Hno := Lib.hid (show numGo 0 0 R.rest = none → R.num = (0, Rd.fail) from fun e => by unfold Rd.num; rw [e])
  have Hyes := Lib.hid (show ∀ v t, numGo 0 0 R.rest = some (v, t) → R.num = (v, ⟨t, R.bad⟩) from fun v t e => by unfold Rd.num; rw [e])
  have Hin := Lib.hid h
  have HA := Lib.hid hA
  have Hn := Lib.hid hn
  clear h hn hA
  go_enter Tryz.func191, Tryz.ntmps191
  go_wp2_with fail
  go_loop [3, 13] (fun u i => ∃ k a : Nat, k ≤ n ∧ k ≤ 9 ∧ i = .int .i64 k ∧ u = .int .u64 a ∧ a < 128 ^ k ∧ numGo 0 0 R.rest = numGo k a (R.rest.drop k)) (fun _ i => n - (intOf i).toNat)
  case atStart => exact ⟨0, 0, Nat.zero_le _, by omega, rfl, rfl, by simp, rfl⟩
  case round =>
    obtain ⟨k, a, hk, hk9, rfl, rfl, ha, hgo⟩ := hrel
    by_cases hlt : k < n
    · have hkl : k < R.rest.length := by rw [Hn.out]; exact hlt
      rw [List.drop_eq_getElem_cons hkl] at hgo
      rcases Hin.out.has.at with h0 | ⟨g, o, c1, e1, hc⟩
      · rw [h0] at hkl
        simp at hkl
      simp only [Value.slice.injEq] at e1
      obtain ⟨rfl, -, rfl⟩ := e1
      have hck := hc k _ (List.getElem?_eq_getElem hkl)
      have Hgo := Lib.hid hgo
      clear hc hgo
      have hx := R.rest[k].toNat_lt
      have Hstop := Lib.hid (show 9 ≤ k ∨ (0 < k ∧ R.rest[k].toNat = 0) → numGo k a (R.rest[k] :: R.rest.drop (k + 1)) = none from fun e => by
        unfold numGo
        rw [if_pos (e.imp id fun e => ⟨e.1, UInt8.toNat.inj (by rw [e.2]; rfl)⟩)])
      have Hgo1 := Lib.hid (show ¬ (9 ≤ k ∨ (0 < k ∧ R.rest[k].toNat = 0)) → R.rest[k].toNat < 128 → numGo k a (R.rest[k] :: R.rest.drop (k + 1)) = if 4611686018427387904 < a + R.rest[k].toNat * 128 ^ k then none else some (a + R.rest[k].toNat * 128 ^ k, R.rest.drop (k + 1)) from fun e h => by
        rw [numGo, if_neg (fun h => e (h.imp id fun h => ⟨h.1, by rw [h.2]; rfl⟩)), if_pos h])
      have Hgo2 := Lib.hid (show ¬ (9 ≤ k ∨ (0 < k ∧ R.rest[k].toNat = 0)) → ¬ R.rest[k].toNat < 128 → numGo k a (R.rest[k] :: R.rest.drop (k + 1)) = numGo (k + 1) (a + R.rest[k].toNat % 128 * 128 ^ k) (R.rest.drop (k + 1)) from fun e h => by
        rw [numGo, if_neg (fun h => e (h.imp id fun h => ⟨h.1, by rw [h.2]; rfl⟩)), if_neg h])
      generalize R.rest[k].toNat = x at *
      by_cases h9 : 9 ≤ k
      · have HE := Lib.hid (Hno.out (Hgo.out.trans (Hstop.out (.inl h9))))
        go_wp2_with fail
        refine Hbad.out.mono ?_
        rintro e w1 ⟨rfl, hr, hc⟩
        have HF := Lib.hid (show NumX AA w r R (.returned (.int .i64 0)) w1 from ⟨by rw [HE.out]; rfl, by rw [HE.out]; exact hr, hc⟩)
        clear hr hc
        go_wp2_with fail
        go_ret
        exact HF.out
      · by_cases hz : 0 < k ∧ x = 0
        · have HE := Lib.hid (Hno.out (Hgo.out.trans (Hstop.out (.inr hz))))
          obtain ⟨hk0, rfl⟩ := hz
          go_wp2_with fail
          refine Hbad.out.mono ?_
          rintro e w1 ⟨rfl, hr, hc⟩
          have HF := Lib.hid (show NumX AA w r R (.returned (.int .i64 0)) w1 from ⟨by rw [HE.out]; rfl, by rw [HE.out]; exact hr, hc⟩)
          clear hr hc
          go_wp2_with fail
          go_ret
          exact HF.out
        · have hs : ¬ (9 ≤ k ∨ (0 < k ∧ x = 0)) := fun e => e.elim h9 hz
          have hd9 : decide ((9 : Int) ≤ (k : Int)) = false := by simp; omega
          by_cases h128 : x < 128
          · have HE := Lib.hid (Hgo.out.trans (Hgo1.out hs h128))
            have h7 := u64_seven ha (by omega) (show x < 256 by omega)
            rw [show x % 128 = x by omega] at h7
            obtain ⟨h7, -, h73⟩ := h7
            generalize a + x * 128 ^ k = A at *
            by_cases hA : 4611686018427387904 < A
            · have HE2 := Lib.hid (Hno.out (HE.out.trans (if_pos hA)))
              rcases Nat.lt_or_ge 0 k with hk0 | hk0
              rotate_left
              · go_wp2_with fail
                refine Hbad.out.mono ?_
                rintro e w1 ⟨rfl, hr, hc⟩
                have HF := Lib.hid (show NumX AA w r R (.returned (.int .i64 0)) w1 from ⟨by rw [HE2.out]; rfl, by rw [HE2.out]; exact hr, hc⟩)
                clear hr hc
                go_wp2_with fail
                go_ret
                exact HF.out
              · have hx0 : 0 < x := by omega
                go_wp2_with fail
                refine Hbad.out.mono ?_
                rintro e w1 ⟨rfl, hr, hc⟩
                have HF := Lib.hid (show NumX AA w r R (.returned (.int .i64 0)) w1 from ⟨by rw [HE2.out]; rfl, by rw [HE2.out]; exact hr, hc⟩)
                clear hr hc
                go_wp2_with fail
                go_ret
                exact HF.out
            · have HE2 := Lib.hid (Hyes.out _ _ (HE.out.trans (if_neg hA)))
              obtain ⟨p', c', hsl, hh, hcc, hne, hnA⟩ := run_tailX (P := Tryz.prog) Tryz.underlying22 hi hz1 Hin.out.has Hin.out.cap r (k + 1) Hin.out.ne hlt
              have HF := Lib.hid (show NumX AA w r R (.returned (.int .i64 (A : Int))) (w.setCell ⟨r, 0, none⟩ (.slice p' (n - (k + 1)) c')) from
                ⟨by rw [HE2.out], by rw [HE2.out]; exact ⟨p', n - (k + 1), c', ⟨rd_set0 Hin.out _, HasB.set hh _ hne, hcc, hne, by rw [List.length_drop, Hn.out]; omega⟩, fun k hk => HA.out k (hnA k hk)⟩, Chg.setCell w ⟨r, 0, none⟩ _⟩)
              rw [Int.natCast_add, Int.natCast_one] at hsl
              clear hh hcc hne hnA
              rcases Nat.lt_or_ge 0 k with hk0 | hk0
              rotate_left
              · go_wp2_with fail
                go_ret
                exact HF.out
              · have hx0 : 0 < x := by omega
                go_wp2_with fail
                go_ret
                exact HF.out
          · have hgo2 := Hgo.out.trans (Hgo2.out hs h128)
            obtain ⟨h7, h72, h73⟩ := u64_seven ha (by omega) (show x < 256 by omega)
            have Hgn := Lib.hid (And.intro hgo2 h72)
            clear hgo2 h72
            generalize a + x % 128 * 128 ^ k = A at *
            rcases Nat.lt_or_ge 0 k with hk0 | hk0
            rotate_left
            · go_wp2_with fail
              go_round
              case rel => exact ⟨k + 1, A, by omega, by omega, by go_num, rfl, Hgn.out.2, Hgn.out.1⟩
              case measure => simp [intOf]; omega
            · have hx0 : 0 < x := by omega
              go_wp2_with fail
              go_round
              case rel => exact ⟨k + 1, A, by omega, by omega, by go_num, rfl, Hgn.out.2, Hgn.out.1⟩
              case measure => simp [intOf]; omega
    · have hkn : R.rest.drop k = [] := List.drop_of_length_le (by rw [Hn.out]; omega)
      rw [hkn] at hgo
      have HE := Lib.hid (Hno.out hgo)
      clear hgo hkn
      go_wp2_with fail
      refine Hbad.out.mono ?_
      rintro e w1 ⟨rfl, hr, hc⟩
      have HF := Lib.hid (show NumX AA w r R (.returned (.int .i64 0)) w1 from ⟨by rw [HE.out]; rfl, by rw [HE.out]; exact hr, hc⟩)
      clear hr hc
      go_wp2_with fail
      go_ret
      exact HF.out

set_option maxRecDepth 100000 in
set_option maxHeartbeats 2000000 in
theorem rbytesX_calls {A : Nat → Prop} {w : World} {r : Nat} {R : Rd} (h : RdX A w r R) :
    Calls Tryz.prog 152 #[.pointer (some ⟨r, 0, none⟩)] w (RowX A w r R.bytes.1 R.bytes.2) := by
  obtain ⟨p, n, c, h, hA⟩ := h
  have Hn := Lib.hid (numX_calls h hA)
  have hle := Rd.num_le R
  have HB := Lib.hid (show R.bytes = R.num.2.raw R.num.1 from rfl)
  clear h hA
  go_enter Tryz.func152, Tryz.ntmps152
  go_wp2_with fail
  refine Hn.out.mono ?_
  rintro e w1 ⟨rfl, ⟨p1, n1, c1, hr, hA1⟩, hc⟩
  have Hr := Lib.hid (rawX_calls hr hA1 (R.num.1 : Int) (by omega) (by omega))
  have Hc := Lib.hid hc
  rw [Int.toNat_natCast] at Hr
  clear hr hc Hn hA1
  generalize R.num.1 = m at *
  generalize R.num.2 = R1 at *
  go_wp2_with fail
  refine Hr.out.mono ?_
  rintro e w2 ⟨v, rfl, hv, hvn, hr2, hc2⟩
  have HE := Lib.hid (show RowX A w r R.bytes.1 R.bytes.2 (.returned v) w2 from ⟨v, rfl, by rw [HB.out]; exact hv, fun j hj => Nat.le_trans Hc.out.size (hvn j hj), by rw [HB.out]; exact hr2, Hc.out.trans hc2 fun _ _ e => e⟩)
  clear hv hvn hr2 hc2 Hr
  go_wp2_with fail
  go_ret
  exact HE.out

theorem newrdX_calls {w : World} {x : Value} {l : Bs} (h : HasB w x l) (hl : l.length ≤ 140737488355328) :
    Calls Tryz.prog 149 #[x] w fun e w' => ∃ r, e = .returned (.pointer (some ⟨r, 0, none⟩)) ∧ RdX (fun k => w.heap.size ≤ k ∧ k < r) w' r ⟨l, false⟩ ∧ w.heap.size ≤ r ∧ r < w'.heap.size ∧ Below w.heap.size w w' := by
  have Hc := Lib.hid (clone_calls h hl)
  clear h
  go_enter Tryz.func149, Tryz.ntmps149
  go_wp2_with fail
  refine Hc.out.mono ?_
  rintro e w1 ⟨v, rfl, hv, hvn, hb⟩
  obtain ⟨p, c, rfl, hcap⟩ := own_cap0 hv
  have HE := Lib.hid (show RdX (fun k => w.heap.size ≤ k ∧ k < w1.heap.size) (w1.alloc (.cells #[.slice p l.length c, .bool false] 232)) w1.heap.size ⟨l, false⟩ from
    ⟨p, l.length, c, ⟨new_block w1 _, has_alloc hv.has _, hcap, fun e => by have := OwnR.lt hv e; omega, hl⟩, fun k hk => ⟨hvn k hk, OwnR.lt hv hk⟩⟩)
  have HB := Lib.hid (And.intro hb.size (And.intro (show w1.heap.size < (w1.alloc (.cells #[.slice p l.length c, .bool false] 232)).heap.size from by simp) (hb.alloc hb.size (.cells #[.slice p l.length c, .bool false] 232))))
  clear hv hvn hb Hc
  generalize l.length = n at *
  go_wp2_with fail
  go_ret
  exact ⟨_, rfl, HE.out, HB.out⟩
end Go.Proofs.YtapfnehdgailmaaGreat
