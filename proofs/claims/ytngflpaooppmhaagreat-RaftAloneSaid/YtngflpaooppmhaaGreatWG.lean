/- journal: slices.Clone of entries, rebase. (Printed by mkj14.py.) journal: goes. (Printed by mkj15.py.) journal: Compact, Install. (Printed by mkj16.py.) journal: Install. (Printed by mkj17.py.) The contracts of octet's Reader, with the set of blocks in which its bytes lie. (Printed by mkx.py out of the texts Rdr, RdrN.) octet: Reader.Nums; journal: readGroup. (Printed by mkj18.py.) -/
import Derived.Lib.SliceRun
import Derived.Test.YtngflpaooppmhaaGreatWC
import Derived.Test.YtngflpaooppmhaaGreatWF
namespace Go.Proofs.YtngflpaooppmhaaGreat
open Go.RowKit Go.Sat Go.Maps

set_option maxRecDepth 100000 in
theorem ecl_calls {w : World} {p : Option Addr} {n c : Nat} {cs : List Value} (h : Holds w 4 (.slice p n c) n cs) (h1 : ∀ u ∈ cs, u.oneCell' = true) (hn : n ≤ 1099511627776) :
    Calls Tryz.prog 105 #[.slice p n c] w fun e w' => ∃ v, e = .returned v ∧ OwnR w' 47 4 v n cs ∧ (∀ k, v.ownBlock = some k → w.heap.size ≤ k) ∧ Below w.heap.size w w' := by
  obtain ⟨i4, hi4, hz40, hz41, hz42⟩ := info_parts (show (Tryz.prog.info? 47).map (fun i => (i.zero, i.size, i.bytes)) = some (some (.agg #[.int .i64 0, .int .i64 0, .slice none 0 0, .slice none 0 0]), 4, 64) by kernel_rfl)
  have q78 : ∀ (w : World) (a : Option Addr) (n c n' c' : Nat), (binOp .eql 38 (.slice a n c) (.slice none n' c')).run Tryz.prog w = .ok (.bool a.isNone) w := fun w a n c n' c' => Lib.run_eql_slice_nil w _ _ a n c n' c' Tryz.underlying38
  cases p with
  | none =>
    obtain ⟨hl, p', c', e, h0, -⟩ := h
    have hn0 : n = 0 := by
      simp only [Value.slice.injEq] at e
      exact h0 e.1.symm
    subst hn0
    have hcs : cs = [] := List.eq_nil_of_length_eq_zero (by simpa using hl)
    subst hcs
    go_enter Tryz.func105, Tryz.ntmps105
    go_wp2_with fail
    go_ret
    exact ⟨_, rfl, OwnR.nil _ _ _, fun k hk => (by cases hk), Below.refl _ _⟩
  | some a =>
    have H := Lib.hid h
    have H1 := Lib.hid h1
    clear h h1
    go_enter Tryz.func105, Tryz.ntmps105
    go_wp2_with (at_builtin; have hb := below_one0 w (.cells #[] 47); have hal : OwnR (w.alloc (.cells #[] 47)) 47 4 (.slice (some ⟨w.heap.size, 0, none⟩) 0 0) 0 [] := ⟨rfl, .inr ⟨w.heap.size, 0, #[], rfl, new_block w _, Nat.le_refl _, by decide, Nat.le_refl _, rfl⟩⟩; have hxx := Holds.chg H.out (Chg.of_below hb) fun _ _ => id; refine wpList_app _ rfl (.tmp 5) (.tmp 6) 38 rfl 47 i4 (.agg #[.int .i64 0, .int .i64 0, .slice none 0 0, .slice none 0 0]) 4 64 Tryz.underlying38 hi4 hz40 hz41 hz42 rfl (by decide) _ 0 _ rfl hal _ n _ rfl hxx H1.out (by unfold maxLen; omega) (by omega) ?_; intro v3 w3 hown3 hgrow3 hloc3; go_loud (have HE := Lib.hid (show OwnR w3 47 4 v3 n cs ∧ (∀ k, v3.ownBlock = some k → w.heap.size ≤ k) ∧ Below w.heap.size w w3 from ⟨by simpa using hown3, fun k hk => (by { rcases hloc3 with e | ⟨g, e, hge⟩; rw [hk] at e; cases e; exact Nat.le_refl _; rw [hk] at e; cases e; exact Nat.le_trans hb.size hge }), (((Chg.of_below hb).trans (Chg.of_grown hgrow3) fun k hk e => (by have e2 : k = w.heap.size := Option.some.inj e; omega) : Chg (fun _ => False) w w3)).below (Nat.le_refl _) fun _ _ e => e⟩); clear hb hal hxx hgrow3 hloc3; obtain ⟨p3, q3, rfl⟩ := OwnR.shape hown3; clear hown3))
    go_ret
    exact ⟨_, rfl, by have := HE.out; rwa [Nat.zero_add] at this⟩

theorem add_zero' (g o i : Nat) : (⟨g, o, none⟩ : Addr).add i = ⟨g, o + i, none⟩ := by unfold Addr.add; split <;> simp_all

theorem run_tail4 {P : Program} (w : World) {t e : TypeId} {i : TypeInfo} (ht : P.underlying t = some (.slice e)) (hi : P.info? e = some i) (p : Option Addr) (len cap k : Nat) (h : k ≤ len) (_h2 : len ≤ cap) :
    (Instr.slice t (.slice p len cap) (some (.int .i64 (k : Int))) none none).run P w = .ok (.slice (if cap = k then p else p.map fun x => x.add (k * i.size)) (len - k) (cap - k)) w := by
  have h1 : (Instr.sliceBound (.int .i64 (k : Int)) len .sliceB).run P w = .ok k w := by
    rw [run_sliceBound _ _ _ _ _ (by omega) (by omega)]
    simp
  simp [Instr.slice, run_underlying ht, Instr.sliceBounds, h1, sizeOf, typeInfo, hi, Result.andThen]

theorem holds_drop {w : World} {e : TypeId} {p : Option Addr} {n c k : Nat} {xs : List Value} (h : OwnR w e 4 (.slice p n c) n xs) (hk : k ≤ n) :
    Holds w 4 (.slice (if c = k then p else p.map fun x => x.add (k * 4)) (n - k) (c - k)) (n - k) (xs.drop (k * 4)) := by
  refine ⟨by rw [List.length_drop, h.1, Nat.sub_mul], _, _, rfl, fun e1 => ?_, fun a ha i u hu => ?_⟩
  · rcases h.2 with ⟨e2, hn⟩ | ⟨g, cap, cur, e2, hg, hnc, -⟩
    · omega
    · simp only [Value.slice.injEq] at e2
      obtain ⟨rfl, -, rfl⟩ := e2
      split at e1 <;> simp at e1
  · have hi := (List.getElem?_eq_some_iff.1 hu).1
    rw [List.length_drop, h.1] at hi
    rcases h.2 with ⟨e2, hn⟩ | ⟨g, cap, cur, e2, hg, hnc, -⟩
    · omega
    · simp only [Value.slice.injEq] at e2
      obtain ⟨rfl, -, rfl⟩ := e2
      rw [if_neg (by omega)] at ha
      simp only [Option.map_some, Option.some.injEq] at ha
      subst ha
      rw [add_zero, add_zero' g (k * 4) i]
      rw [List.getElem?_drop] at hu
      have := h.cells (g := g) rfl (k * 4 + i) u hu
      rwa [add_zero] at this

theorem entsC_one : ∀ (es : List Ent) (vs : List EV), (∀ v ∈ vs, v.1.oneCell' = true ∧ v.2.oneCell' = true) → ∀ u ∈ entsC es vs, u.oneCell' = true
  | [], vs, _, u, hu => by rw [show entsC [] vs = [] by cases vs <;> rfl] at hu; cases hu
  | _ :: _, [], _, u, hu => by cases hu
  | e :: es, v :: vs, h, u, hu => by
    have hv := h v (by simp)
    rcases List.mem_append.1 (show u ∈ entC e v ++ entsC es vs from hu) with hu | hu
    · simp only [entC, List.mem_cons, List.not_mem_nil, or_false] at hu
      rcases hu with rfl | rfl | rfl | rfl
      · rfl
      · rfl
      · exact hv.1
      · exact hv.2
    · exact entsC_one es vs (fun v hv => h v (by simp [hv])) u hu

theorem JouIn.shape {w : World} {j d : Nat} {pre : ByteArray} {own : Nat → Prop} {M : JouM} {gv dv ev : Value} {vs : List EV} (h : JouIn w j d pre own M gv dv ev vs) : ∀ v ∈ vs, v.1.oneCell' = true ∧ v.2.oneCell' = true := fun v hv => by
  obtain ⟨i, hi⟩ := List.getElem?_of_mem hv
  have hl := (List.getElem?_eq_some_iff.1 hi).1
  have he := h.rows.2 i _ v (List.getElem?_eq_getElem (by rw [← h.rows.1]; exact hl)) hi
  obtain ⟨p, c, e1, -⟩ := own_cap0 he.data
  obtain ⟨q, c2, e2, -⟩ := own_capI he.nodes
  rw [e1, e2]
  exact ⟨rfl, rfl⟩

theorem entsC_nil (vs : List EV) : entsC [] vs = [] := by cases vs <;> rfl

/-- What a snapshot is. -/
structure Snap.OK (s : Snap) : Prop where
  number : s.number ≤ 1099511627776
  term : isTm s.term = true
  group : isGrp s.group = true
  data : s.data.length ≤ 1073741824

theorem termAt_le {M : JouM} {i : Nat} {t : Int} (h : M.termAt (i : Int) = some t) : i ≤ M.last := by
  unfold JouM.termAt at h
  unfold JouM.last
  split at h
  · omega
  · split at h
    · cases h
    · cases he : M.entries[((i : Int) - (M.number : Int) - 1).toNat]? with
      | none => rw [he] at h; cases h
      | some e =>
        have := (List.getElem?_eq_some_iff.1 he).1
        omega

theorem rebase_ok {M : JouM} {s : Snap} (h : M.OK) (hs : s.OK) : (M.rebase s).OK := by
  have hl := h.last
  refine ⟨?_, hs.term, hs.group, h.now, h.vote, hs.data, fun e he => ?_⟩
  · show s.number + (if M.number < s.number ∧ M.termAt s.number = some s.term then M.entries.drop (s.number - M.number) else []).length ≤ _
    split
    · rename_i hc
      have := termAt_le hc.2
      unfold JouM.last at this hl
      rw [List.length_drop]
      omega
    · have := hs.number
      simpa using this
  · have he : e ∈ (if M.number < s.number ∧ M.termAt s.number = some s.term then M.entries.drop (s.number - M.number) else []) := he
    split at he
    · exact h.ents e (List.mem_of_mem_drop he)
    · cases he

section
variable {w w1 w2 : World} {j d : Nat} {pre : ByteArray} {D : DiskM} {M : JouM} {F F2 : Nat → Prop}

/-- The journal itself has turned, and has taken blocks that were set apart. -/
theorem JouF.turned2 {own own' : Nat → Prop} {M' : JouM} {gv' dv' ev' : Value} {vs' : List EV} (hS : St w w1 d D (fun k => own k ∨ F k)) (hn : ∀ k, own k → w.heap.size ≤ k ∧ ¬ F k) (hl : ∀ k, F k → k < w1.heap.size)
    (hL' : JouIn w2 j d pre own' M' gv' dv' ev' vs') (hc : Chg own w1 w2) (hx : ∀ k, own' k → own k ∨ w1.heap.size ≤ k ∨ (F k ∧ w.heap.size ≤ k)) (hF2 : ∀ k, F2 k → F k ∧ ¬ own' k) : JouF w w2 j d pre D M' F2 ∧ Same F2 w1 w2 := by
  refine ⟨⟨own', gv', dv', ev', vs', hL', hS.move hc (fun k _ hk => ⟨.inl hk, (hn k hk).1⟩) (fun k hk => ?_), fun k hk => ⟨?_, fun hf => (hF2 k hf).2 hk⟩, fun k hk => Nat.lt_of_lt_of_le (hl k (hF2 k hk).1) hc.size⟩, fun k hk => hc.block k (hl k (hF2 k hk).1) fun ho => (hn k ho).2 (hF2 k hk).1⟩
  · rcases hk with hk | hk
    · refine ⟨?_, hL'.olt k hk⟩
      rcases hx k hk with h | h | h
      · exact .inl (.inl h)
      · exact .inr h
      · exact .inl (.inr h.1)
    · exact ⟨.inl (.inr (hF2 k hk).1), Nat.lt_of_lt_of_le (hl k (hF2 k hk).1) hc.size⟩
  · rcases hx k hk with h | h | h
    · exact (hn k h).1
    · exact Nat.le_trans hS.below.size h
    · exact h.2

/-- The base, the data and the entries of a journal have turned. -/
theorem jouIn_base {own : Nat → Prop} {gv dv ev : Value} {vs : List EV} {s : Snap} {gn dn en : Value} {k : Nat} {es : List Ent} (hJ : JouIn w1 j d pre own M gv dv ev vs) (_hs : s.OK) (hg : OwnI w1 gn s.group) (hd : OwnB w1 5 dn s.data) (hge : ∀ x, gn.ownBlock = some x ∨ dn.ownBlock = some x → ¬ own x)
    (hes : es = M.entries.drop k) (hb : Below w1.heap.size w1 w2) (he : OwnR w2 47 4 en es.length (entsC es (vs.drop k))) (hen : ∀ x, en.ownBlock = some x → w1.heap.size ≤ x) (hok : (JouM.mk s.number s.term s.group M.now M.vote s.data es M.dead).OK) :
    JouIn (((((w2.setCell ⟨j, 0, none⟩ (.int .i64 (s.number : Int))).setCell ⟨j, 1, none⟩ (.int .i64 s.term)).setCell ⟨j, 2, none⟩ gn).setCell ⟨j, 7, none⟩ dn).setCell ⟨j, 8, none⟩ en) j d pre (fun x => own x ∨ (gn.ownBlock = some x ∨ dn.ownBlock = some x) ∨ en.ownBlock = some x) (JouM.mk s.number s.term s.group M.now M.vote s.data es M.dead) gn dn en (vs.drop k) ∧
    Chg own w1 (((((w2.setCell ⟨j, 0, none⟩ (.int .i64 (s.number : Int))).setCell ⟨j, 1, none⟩ (.int .i64 s.term)).setCell ⟨j, 2, none⟩ gn).setCell ⟨j, 7, none⟩ dn).setCell ⟨j, 8, none⟩ en) := by
  have hsz := hb.size
  have hjl := hJ.olt j hJ.ol
  have hC : Chg (fun x => x = j) w2 (((((w2.setCell ⟨j, 0, none⟩ (.int .i64 (s.number : Int))).setCell ⟨j, 1, none⟩ (.int .i64 s.term)).setCell ⟨j, 2, none⟩ gn).setCell ⟨j, 7, none⟩ dn).setCell ⟨j, 8, none⟩ en) :=
    ((((Chg.setCell w2 ⟨j, 0, none⟩ _).trans (Chg.setCell _ ⟨j, 1, none⟩ _) fun _ _ e => e).trans (Chg.setCell _ ⟨j, 2, none⟩ _) fun _ _ e => e).trans (Chg.setCell _ ⟨j, 7, none⟩ _) fun _ _ e => e).trans (Chg.setCell _ ⟨j, 8, none⟩ _) fun _ _ e => e
  have hcell : (((((w2.setCell ⟨j, 0, none⟩ (.int .i64 (s.number : Int))).setCell ⟨j, 1, none⟩ (.int .i64 s.term)).setCell ⟨j, 2, none⟩ gn).setCell ⟨j, 7, none⟩ dn).setCell ⟨j, 8, none⟩ en).heap[j]? = some (.cells #[.int .i64 (s.number : Int), .int .i64 s.term, gn, .pointer (some ⟨d, 0, none⟩), .string pre, .int .i64 M.now, .int .i64 M.vote, dn, en, .bool M.dead] 107 (0, 0)) := by
    have h1 := set_block ((hb.block j hjl).trans hJ.cells) 0 (.int .i64 (s.number : Int))
    have h2 := set_block h1 1 (.int .i64 s.term)
    have h3 := set_block h2 2 gn
    have h4 := set_block h3 7 dn
    have h5 := set_block h4 8 en
    simpa using h5
  generalize ((((w2.setCell ⟨j, 0, none⟩ (.int .i64 (s.number : Int))).setCell ⟨j, 1, none⟩ (.int .i64 s.term)).setCell ⟨j, 2, none⟩ gn).setCell ⟨j, 7, none⟩ dn).setCell ⟨j, 8, none⟩ en = W at *
  have hk : ∀ x, x < w1.heap.size → x ≠ j → W.heap[x]? = w1.heap[x]? := fun x hx hne => (hC.block x (by omega) hne).trans (hb.block x hx)
  have hgj : ∀ x, gn.ownBlock = some x ∨ dn.ownBlock = some x → x ≠ j := fun x hx e => hge x hx (e ▸ hJ.ol)
  have hgl : ∀ x, gn.ownBlock = some x ∨ dn.ownBlock = some x → x < w1.heap.size := fun x hx => hx.elim (OwnR.lt hg) (OwnR.lt hd)
  have hmem : ∀ u ∈ vs.drop k, u ∈ vs := fun u hu => List.mem_of_mem_drop hu
  refine ⟨⟨hcell, OwnR.keep hg fun x hx => hk x (hgl x (.inl hx)) (hgj x (.inl hx)), OwnR.keep hd fun x hx => hk x (hgl x (.inr hx)) (hgj x (.inr hx)), he.keep fun x hx => hC.block x (he.lt hx) fun e => by have := hen x hx; omega, ⟨by show _ = es.length; rw [hes, List.length_drop, List.length_drop, hJ.rows.1], fun i e v h1 h2 => ?_⟩, .inl hJ.ol, fun x hx => ⟨.inr (.inl (.inl hx)), hgj x (.inl hx), fun e => by have h1 := hen x e; have h2 := hgl x (.inl hx); omega⟩, fun x hx => ⟨.inr (.inl (.inr hx)), hgj x (.inr hx), fun e => by have h1 := hen x e; have h2 := hgl x (.inr hx); omega⟩, fun x hx => ⟨.inr (.inr hx), fun e => by have := hen x hx; omega⟩, fun u hu x hx => ?_, fun x hx => ?_, hJ.psz, hok⟩, ?_⟩
  · have h1' : M.entries[k + i]? = some e := by
      have h1 : es[i]? = some e := h1
      rw [hes, List.getElem?_drop] at h1
      exact h1
    have h2' : vs[k + i]? = some v := by rw [List.getElem?_drop] at h2; exact h2
    have hv := hmem v (List.mem_of_getElem? h2)
    exact (hJ.rows.2 _ e v h1' h2').keep fun x hx => hk x (hJ.olt x (hJ.ov v hv x hx).1) (hJ.ov v hv x hx).2.1
  · have h3 := hJ.ov u (hmem u hu) x hx
    exact ⟨.inl h3.1, h3.2.1, fun e => by have h1 := hen x e; have h2 := hJ.olt x h3.1; omega⟩
  · have hCs := hC.size
    rcases hx with hx | hx | hx
    · have := hJ.olt x hx
      omega
    · have := hgl x hx
      omega
    · have := he.lt hx
      omega
  · exact ((Chg.of_below hb).mono (T := own) fun _ _ e => e.elim).trans hC fun x _ e => by rw [e]; exact hJ.ol

set_option maxRecDepth 100000 in
set_option maxHeartbeats 8000000 in
theorem jrebase_calls (h : JouF w w1 j d pre D M F) {s : Snap} (hs : s.OK) {pg pd : Option Addr} {cg cd : Nat} (hg : OwnI w1 (.slice pg s.group.length cg) s.group) (hd : OwnB w1 5 (.slice pd s.data.length cd) s.data)
    (hF : ∀ k, (Value.slice pg s.group.length cg).ownBlock = some k ∨ (Value.slice pd s.data.length cd).ownBlock = some k → F k ∧ w.heap.size ≤ k)
    (hF2 : ∀ k, F2 k → F k ∧ (Value.slice pg s.group.length cg).ownBlock ≠ some k ∧ (Value.slice pd s.data.length cd).ownBlock ≠ some k) :
    Calls Tryz.prog 58 #[.pointer (some ⟨j, 0, none⟩), .agg #[.int .i64 (s.number : Int), .int .i64 s.term, .slice pg s.group.length cg], .slice pd s.data.length cd] w1 fun e w' => e = .returned (.tuple #[]) ∧ JouF w w' j d pre D (M.rebase s) F2 ∧ Same F2 w1 w' := by
  obtain ⟨i0, hii, -, hi4s, -⟩ := info_parts (show (Tryz.prog.info? 47).map (fun i => (i.zero, i.size, i.bytes)) = some (some (.agg #[.int .i64 0, .int .i64 0, .slice none 0 0, .slice none 0 0]), 4, 64) by kernel_rfl)
  have hsn := hs.number
  have hsl := hs.data
  have hsg := (grp_len hs.group).2
  have hlast := h.okM.last
  have hbx := below_one w1 (.cells #[.int .i64 (s.number : Int), .int .i64 s.term, .slice pg s.group.length cg] 105)
  have Hta := Lib.hid (jtermAt_calls (h.next hbx) (s.number : Int) (by omega))
  obtain ⟨own, gv, dv, ev, vs, hJ, hS, hn, hl⟩ := id h
  obtain ⟨pe, ce, rfl⟩ := hJ.row.shape
  have c0 := al_cell (hJ.c 0 rfl) (.cells #[.int .i64 (s.number : Int), .int .i64 s.term, .slice pg s.group.length cg] 105)
  have c8 := al_cell (hJ.c 8 rfl) (.cells #[.int .i64 (s.number : Int), .int .i64 s.term, .slice pg s.group.length cg] 105)
  have hce : M.entries.length ≤ ce := by
    rcases hJ.row.2 with ⟨e1, e2⟩ | ⟨g, cap, cur, e1, -, e3, -⟩
    · rw [e2]; exact Nat.zero_le _
    · simp only [Value.slice.injEq] at e1; omega
  have HJlt := Lib.hid (hJ.olt j hJ.ol)
  have HJne := Lib.hid (show w1.heap.size ≠ (⟨j, 0, none⟩ : Addr).block from fun e => by have := hJ.olt j hJ.ol; have e2 : w1.heap.size = j := e; omega)
  have HJc := Lib.hid hJ.cells
  have HFin0 := Lib.hid (fun (k : Nat) (es : List Ent) (hes : es = M.entries.drop k) (hst : M.rebase s = JouM.mk s.number s.term s.group M.now M.vote s.data es M.dead) (wq : World) (en : Value) (hb : Below w1.heap.size w1 wq) (hen : OwnR wq 47 4 en es.length (entsC es (vs.drop k))) (henn : ∀ x, en.ownBlock = some x → w1.heap.size ≤ x) => show JouF w (((((wq.setCell ⟨j, 0, none⟩ (.int .i64 (s.number : Int))).setCell ⟨j, 1, none⟩ (.int .i64 s.term)).setCell ⟨j, 2, none⟩ (.slice pg s.group.length cg)).setCell ⟨j, 7, none⟩ (.slice pd s.data.length cd)).setCell ⟨j, 8, none⟩ en) j d pre D (M.rebase s) F2 ∧ Same F2 w1 (((((wq.setCell ⟨j, 0, none⟩ (.int .i64 (s.number : Int))).setCell ⟨j, 1, none⟩ (.int .i64 s.term)).setCell ⟨j, 2, none⟩ (.slice pg s.group.length cg)).setCell ⟨j, 7, none⟩ (.slice pd s.data.length cd)).setCell ⟨j, 8, none⟩ en) from by
    have hro := rebase_ok hJ.ok hs
    rw [hst] at hro ⊢
    obtain ⟨hA, hB⟩ := jouIn_base hJ hs hg hd (fun x hx ho => (hn x ho).2 (hF x hx).1) hes hb hen henn hro
    refine JouF.turned2 hS hn hl hA hB (fun x hx => ?_) fun x hx => ⟨(hF2 x hx).1, fun ho => ?_⟩
    · rcases hx with hx | hx | hx
      · exact .inl hx
      · exact .inr (.inr (hF x hx))
      · exact .inr (.inl (henn x hx))
    · rcases ho with ho | ho | ho
      · exact (hn x ho).2 (hF2 x hx).1
      · exact ho.elim (hF2 x hx).2.1 (hF2 x hx).2.2
      · have h1 := henn x ho
        have h2 := hl x (hF2 x hx).1
        omega)
  have Hbase := Lib.hid (new_block w1 (.cells #[.int .i64 (s.number : Int), .int .i64 s.term, .slice pg s.group.length cg] 105))
  have HBB := Lib.hid hbx
  have hrow := hJ.row
  cases hta : M.termAt (s.number : Int) with
  | none =>
    have hnc : ¬ (M.number < s.number ∧ M.termAt (s.number : Int) = some s.term) := fun e => by rw [hta] at e; cases e.2
    have hst : M.rebase s = JouM.mk s.number s.term s.group M.now M.vote s.data [] M.dead := by
      unfold JouM.rebase
      rw [if_neg hnc]
    have HFin := Lib.hid (fun wq en (hb : Below w1.heap.size w1 wq) (hen : OwnR wq 47 4 en 0 []) henn => HFin0.out M.entries.length [] (by rw [List.drop_length]) hst wq en hb (by rw [entsC_nil]; exact hen) henn)
    have Hcl := Lib.hid (fun W (_ : Below w1.heap.size w1 W) => ecl_calls (w := W) (p := none) (n := 0) (c := 0) (cs := []) ⟨rfl, none, 0, rfl, fun _ => rfl, fun a ha => by cases ha⟩ (fun u hu => by cases hu) (by decide))
    rw [hta] at Hta
    clear h hs hg hd hF hF2 hJ hS hn hl hrow hta hnc hst HFin0 hbx hce
    go_enter Tryz.func58, Tryz.ntmps58
    go_wp2_with fail
    refine Hta.out.mono ?_
    rintro r w2 ⟨rfl, q, rfl⟩
    have c0 : ((w1.alloc (.cells #[.int .i64 (s.number : Int), .int .i64 s.term, .slice pg s.group.length cg] 105)).drewN q).cell? ⟨j, 0, none⟩ = some (.int .i64 (M.number : Int)) := c0
    have c8 : ((w1.alloc (.cells #[.int .i64 (s.number : Int), .int .i64 s.term, .slice pg s.group.length cg] 105)).drewN q).cell? ⟨j, 8, none⟩ = some (.slice pe M.entries.length ce) := c8
    have z0 : ((w1.alloc (.cells #[.int .i64 (s.number : Int), .int .i64 s.term, .slice pg s.group.length cg] 105)).drewN q).cell? ⟨w1.heap.size, 0, none⟩ = some (.int .i64 (s.number : Int)) := cell_of (Hbase.out) (i := 0) rfl
    have z1 : ((w1.alloc (.cells #[.int .i64 (s.number : Int), .int .i64 s.term, .slice pg s.group.length cg] 105)).drewN q).cell? ⟨w1.heap.size, 1, none⟩ = some (.int .i64 s.term) := cell_of (Hbase.out) (i := 1) rfl

    go_wp2_with fail
    go_quiet (fail)
    go_wp2_with fail
    generalize hWQ : (World.drewN _ _) = WQ
    have HBq := Lib.hid (show Below w1.heap.size w1 WQ from by rw [← hWQ]; exact HBB.out.trans ⟨rfl, rfl, rfl, by simp [World.drewN], fun _ _ => rfl⟩)
    have Hbox := Lib.hid (show WQ.drew.heap[w1.heap.size]? = some (.cells #[.int .i64 (s.number : Int), .int .i64 s.term, .slice pg s.group.length cg] 105 (0, 0)) from by rw [← hWQ]; exact Hbase.out)
    clear hWQ c0 c8 z0 z1
    refine ord_start (fun w' : World => w'.heap[w1.heap.size]? = some (.cells #[.int .i64 (s.number : Int), .int .i64 s.term, .slice pg s.group.length cg] 105 (0, 0))) (n := 16) (by kernel_rfl) rfl (Hbox.out) (fun hHeld => ?_)
    have HBd := Lib.hid (show Below w1.heap.size w1 WQ.drew from HBq.out.trans ⟨rfl, rfl, rfl, Nat.le_refl _, fun _ _ => rfl⟩)
    generalize WQ.drew = W1 at *
    refine Pl [0,1,2] ?_
    iterate 3 (refine Pc rfl ?_;simp only [Act.put, uA, uB, uC])
    refine Pn ?_
    refine ord_take 3 (v := .agg #[.int .i64 (s.number : Int), .int .i64 s.term, .slice pg s.group.length cg]) rfl (by kernel_rfl) (by kernel_rfl) (by kernel_rfl) (fun _ _ _ h => h) (by rfl) (by assumption) (fun W hSw => by have q0 := cell_of hSw (i := 0) rfl; have q1 := cell_of hSw (i := 1) rfl; have q2 := cell_of hSw (i := 2) rfl; go_simp; try with_reducible rfl) ?_
    simp only [Act.put, List.setIfInBounds_toArray, List.set_cons_zero, List.set_cons_succ]
    refine Pl [4,5] ?_
    iterate 2 (refine Pc rfl ?_;simp only [Act.put, uA, uB, uC])
    refine Pn ?_
    refine ord_one 6 rfl (by kernel_rfl) (by rfl) (fun K hK => ?_)
    go_wp2_with fail
    refine (Hcl.out W1 HBd.out).mono ?_
    rintro e wq ⟨en, rfl, hen, henn, hbq⟩
    have HB5 := Lib.hid (HBd.out.trans (hbq.mono HBd.out.size))
    have Hh5 := Lib.hid ((hbq.block _ (lt_of_block hHeld)).trans hHeld)
    have HFn := Lib.hid (HFin.out wq en HB5.out hen (fun x hx => Nat.le_trans HBd.out.size (henn x hx)))
    have Hjc := Lib.hid ((HB5.out.block j HJlt.out).trans HJc.out)
    obtain ⟨pn, qn, rfl⟩ := OwnR.shape hen
    clear hen henn hbq Hcl HFin
    go_wp2_with fail
    refine hK.out _ _ (Hh5.out) (fun hHeld => ?_)
    clear hK
    try simp only [Act.put, List.setIfInBounds_toArray, List.set_cons_zero, List.set_cons_succ]
    refine Pl [7,8] ?_
    iterate 2 (refine Pc rfl ?_;simp only [Act.put, uA, uB, uC])
    refine Pn ?_
    refine ord_one 9 rfl (by kernel_rfl) (by rfl) (fun K hK => ?_)
    have b0 := cell_of Hjc.out (i := 0) rfl
    have b1 := cell_of Hjc.out (i := 1) rfl
    have b2 := cell_of Hjc.out (i := 2) rfl
    have fr := frozen_of Hjc.out
    have Hh6 := Lib.hid (show (((wq.setCell ⟨j, 0, none⟩ (.int .i64 (s.number : Int))).setCell ⟨j, 1, none⟩ (.int .i64 s.term)).setCell ⟨j, 2, none⟩ (.slice pg s.group.length cg)).heap[w1.heap.size]? = some (.cells #[.int .i64 (s.number : Int), .int .i64 s.term, .slice pg s.group.length cg] 105 (0, 0)) from (set_other _ HJne.out).trans ((set_other _ HJne.out).trans ((set_other _ HJne.out).trans hHeld)))
    have Hj6 := Lib.hid (set_block (set_block (set_block Hjc.out 0 (.int .i64 (s.number : Int))) 1 (.int .i64 s.term)) 2 (.slice pg s.group.length cg))
    go_wp2_with fail
    clear b0 b1 b2 fr
    refine hK.out _ _ (Hh6.out) (fun hHeld => ?_)
    clear hK
    try simp only [Act.put, List.setIfInBounds_toArray, List.set_cons_zero, List.set_cons_succ]
    refine Pl [10,11] ?_
    iterate 2 (refine Pc rfl ?_;simp only [Act.put, uA, uB, uC])
    refine Pn ?_
    refine ord_one 12 rfl (by kernel_rfl) (by rfl) (fun K hK => ?_)
    have b7 := cell_of Hj6.out (i := 7) rfl
    have f7 := frozen_of Hj6.out 7
    have Hh7 := Lib.hid (show ((((wq.setCell ⟨j, 0, none⟩ (.int .i64 (s.number : Int))).setCell ⟨j, 1, none⟩ (.int .i64 s.term)).setCell ⟨j, 2, none⟩ (.slice pg s.group.length cg)).setCell ⟨j, 7, none⟩ (.slice pd s.data.length cd)).heap[w1.heap.size]? = some (.cells #[.int .i64 (s.number : Int), .int .i64 s.term, .slice pg s.group.length cg] 105 (0, 0)) from (set_other _ HJne.out).trans hHeld)
    have Hj7 := Lib.hid (set_block Hj6.out 7 (.slice pd s.data.length cd))
    go_wp2_with fail
    clear b7 f7
    refine hK.out _ _ (Hh7.out) (fun hHeld => ?_)
    clear hK
    try simp only [Act.put, List.setIfInBounds_toArray, List.set_cons_zero, List.set_cons_succ]
    refine Pl [13,14] ?_
    iterate 2 (refine Pc rfl ?_;simp only [Act.put, uA, uB, uC])
    refine Pn ?_
    refine ord_one 15 rfl (by kernel_rfl) (by rfl) (fun K hK => ?_)
    have b8 := cell_of Hj7.out (i := 8) rfl
    have f8 := frozen_of Hj7.out 8
    have Hh8 := Lib.hid (fun x => (show (((((wq.setCell ⟨j, 0, none⟩ (.int .i64 (s.number : Int))).setCell ⟨j, 1, none⟩ (.int .i64 s.term)).setCell ⟨j, 2, none⟩ (.slice pg s.group.length cg)).setCell ⟨j, 7, none⟩ (.slice pd s.data.length cd)).setCell ⟨j, 8, none⟩ x).heap[w1.heap.size]? = some (.cells #[.int .i64 (s.number : Int), .int .i64 s.term, .slice pg s.group.length cg] 105 (0, 0)) from (set_other _ HJne.out).trans hHeld))
    go_wp2_with fail
    clear b8 f8
    refine hK.out _ _ (Hh8.out _) (fun hHeld => ?_)
    clear hK
    try simp only [Act.put, List.setIfInBounds_toArray, List.set_cons_zero, List.set_cons_succ]
    refine wpAnyH_done (by kernel_rfl) ?_ _
    go_wp2_with fail
    go_end0
    exact ⟨rfl, HFn.out⟩
  | some t =>
    by_cases hcs : M.number < s.number ∧ t = s.term
    · obtain ⟨hlt, rfl⟩ := hcs
      have hle := termAt_le hta
      unfold JouM.last at hle hlast
      have hst : M.rebase s = JouM.mk s.number s.term s.group M.now M.vote s.data (M.entries.drop (s.number - M.number)) M.dead := by
        unfold JouM.rebase
        rw [if_pos ⟨hlt, hta⟩]
      generalize hk : s.number - M.number = k at *
      have hkl : k ≤ M.entries.length := by omega
      have HFin := Lib.hid (fun wq en (hb : Below w1.heap.size w1 wq) (hen : OwnR wq 47 4 en (M.entries.length - k) ((entsC M.entries vs).drop (k * 4))) henn => HFin0.out k _ rfl hst wq en hb (by rw [List.length_drop, entsC_drop _ _ _ hJ.rows.1]; exact hen) henn)
      have hhd := holds_drop hrow hkl
      have Hcl := Lib.hid (fun W (hb : Below w1.heap.size w1 W) => ecl_calls (Holds.chg hhd (Chg.of_below hb) fun _ _ => id) (fun u hu => entsC_one _ _ (fun v hv => hJ.shape v hv) u (List.mem_of_mem_drop hu)) (by omega))
      have hsl4 : ∀ W, (Instr.slice 38 (.slice pe M.entries.length ce) (some (.int .i64 (k : Int))) none none).run Tryz.prog W = .ok (.slice (if ce = k then pe else pe.map fun x => x.add (k * 4)) (M.entries.length - k) (ce - k)) W := fun W => by
        have := run_tail4 (P := Tryz.prog) W Tryz.underlying38 hii pe M.entries.length ce k hkl hce
        rwa [hi4s] at this
      have hw4 : IntKind.i64.wrap ((s.number : Int) - (M.number : Int)) = (k : Int) := by rw [IntWalk.i64_in _ (by omega)]; omega
      have hd1 : decide (M.number < s.number) = true := by simpa using hlt
      have hd2 : decide ((M.number : Int) < (s.number : Int)) = true := by simp; omega
      rw [hta] at Hta
      clear h hs hg hd hF hF2 hJ hS hn hl hrow hta hst HFin0 hbx hce hle hk hhd hlast
      generalize (if ce = k then pe else pe.map fun x => x.add (k * 4)) = pk at *
      go_enter Tryz.func58, Tryz.ntmps58
      go_wp2_with fail
      refine Hta.out.mono ?_
      rintro r w2 ⟨rfl, q, rfl⟩
      have c0 : ((w1.alloc (.cells #[.int .i64 (s.number : Int), .int .i64 s.term, .slice pg s.group.length cg] 105)).drewN q).cell? ⟨j, 0, none⟩ = some (.int .i64 (M.number : Int)) := c0
      have c8 : ((w1.alloc (.cells #[.int .i64 (s.number : Int), .int .i64 s.term, .slice pg s.group.length cg] 105)).drewN q).cell? ⟨j, 8, none⟩ = some (.slice pe M.entries.length ce) := c8
      have z0 : ((w1.alloc (.cells #[.int .i64 (s.number : Int), .int .i64 s.term, .slice pg s.group.length cg] 105)).drewN q).cell? ⟨w1.heap.size, 0, none⟩ = some (.int .i64 (s.number : Int)) := cell_of (Hbase.out) (i := 0) rfl
      have z1 : ((w1.alloc (.cells #[.int .i64 (s.number : Int), .int .i64 s.term, .slice pg s.group.length cg] 105)).drewN q).cell? ⟨w1.heap.size, 1, none⟩ = some (.int .i64 s.term) := cell_of (Hbase.out) (i := 1) rfl

      go_wp2_with fail
      go_quiet (fail)
      go_wp2_with fail
      go_quiet (fail)
      go_wp2_with fail
      generalize hWQ : (World.drewN _ _) = WQ
      have HBq := Lib.hid (show Below w1.heap.size w1 WQ from by rw [← hWQ]; exact HBB.out.trans ⟨rfl, rfl, rfl, by simp [World.drewN], fun _ _ => rfl⟩)
      have Hbox := Lib.hid (show WQ.drew.heap[w1.heap.size]? = some (.cells #[.int .i64 (s.number : Int), .int .i64 s.term, .slice pg s.group.length cg] 105 (0, 0)) from by rw [← hWQ]; exact Hbase.out)
      clear hWQ c0 c8 z0 z1
      refine ord_start (fun w' : World => w'.heap[w1.heap.size]? = some (.cells #[.int .i64 (s.number : Int), .int .i64 s.term, .slice pg s.group.length cg] 105 (0, 0))) (n := 16) (by kernel_rfl) rfl (Hbox.out) (fun hHeld => ?_)
      have HBd := Lib.hid (show Below w1.heap.size w1 WQ.drew from HBq.out.trans ⟨rfl, rfl, rfl, Nat.le_refl _, fun _ _ => rfl⟩)
      generalize WQ.drew = W1 at *
      refine Pl [0,1,2] ?_
      iterate 3 (refine Pc rfl ?_;simp only [Act.put, uA, uB, uC])
      refine Pn ?_
      refine ord_take 3 (v := .agg #[.int .i64 (s.number : Int), .int .i64 s.term, .slice pg s.group.length cg]) rfl (by kernel_rfl) (by kernel_rfl) (by kernel_rfl) (fun _ _ _ h => h) (by rfl) (by assumption) (fun W hSw => by have q0 := cell_of hSw (i := 0) rfl; have q1 := cell_of hSw (i := 1) rfl; have q2 := cell_of hSw (i := 2) rfl; go_simp; try with_reducible rfl) ?_
      simp only [Act.put, List.setIfInBounds_toArray, List.set_cons_zero, List.set_cons_succ]
      refine Pl [4,5] ?_
      iterate 2 (refine Pc rfl ?_;simp only [Act.put, uA, uB, uC])
      refine Pn ?_
      refine ord_one 6 rfl (by kernel_rfl) (by rfl) (fun K hK => ?_)
      go_wp2_with fail
      refine (Hcl.out W1 HBd.out).mono ?_
      rintro e wq ⟨en, rfl, hen, henn, hbq⟩
      have HB5 := Lib.hid (HBd.out.trans (hbq.mono HBd.out.size))
      have Hh5 := Lib.hid ((hbq.block _ (lt_of_block hHeld)).trans hHeld)
      have HFn := Lib.hid (HFin.out wq en HB5.out hen (fun x hx => Nat.le_trans HBd.out.size (henn x hx)))
      have Hjc := Lib.hid ((HB5.out.block j HJlt.out).trans HJc.out)
      obtain ⟨pn, qn, rfl⟩ := OwnR.shape hen
      clear hen henn hbq Hcl HFin
      go_wp2_with fail
      refine hK.out _ _ (Hh5.out) (fun hHeld => ?_)
      clear hK
      try simp only [Act.put, List.setIfInBounds_toArray, List.set_cons_zero, List.set_cons_succ]
      refine Pl [7,8] ?_
      iterate 2 (refine Pc rfl ?_;simp only [Act.put, uA, uB, uC])
      refine Pn ?_
      refine ord_one 9 rfl (by kernel_rfl) (by rfl) (fun K hK => ?_)
      have b0 := cell_of Hjc.out (i := 0) rfl
      have b1 := cell_of Hjc.out (i := 1) rfl
      have b2 := cell_of Hjc.out (i := 2) rfl
      have fr := frozen_of Hjc.out
      have Hh6 := Lib.hid (show (((wq.setCell ⟨j, 0, none⟩ (.int .i64 (s.number : Int))).setCell ⟨j, 1, none⟩ (.int .i64 s.term)).setCell ⟨j, 2, none⟩ (.slice pg s.group.length cg)).heap[w1.heap.size]? = some (.cells #[.int .i64 (s.number : Int), .int .i64 s.term, .slice pg s.group.length cg] 105 (0, 0)) from (set_other _ HJne.out).trans ((set_other _ HJne.out).trans ((set_other _ HJne.out).trans hHeld)))
      have Hj6 := Lib.hid (set_block (set_block (set_block Hjc.out 0 (.int .i64 (s.number : Int))) 1 (.int .i64 s.term)) 2 (.slice pg s.group.length cg))
      go_wp2_with fail
      clear b0 b1 b2 fr
      refine hK.out _ _ (Hh6.out) (fun hHeld => ?_)
      clear hK
      try simp only [Act.put, List.setIfInBounds_toArray, List.set_cons_zero, List.set_cons_succ]
      refine Pl [10,11] ?_
      iterate 2 (refine Pc rfl ?_;simp only [Act.put, uA, uB, uC])
      refine Pn ?_
      refine ord_one 12 rfl (by kernel_rfl) (by rfl) (fun K hK => ?_)
      have b7 := cell_of Hj6.out (i := 7) rfl
      have f7 := frozen_of Hj6.out 7
      have Hh7 := Lib.hid (show ((((wq.setCell ⟨j, 0, none⟩ (.int .i64 (s.number : Int))).setCell ⟨j, 1, none⟩ (.int .i64 s.term)).setCell ⟨j, 2, none⟩ (.slice pg s.group.length cg)).setCell ⟨j, 7, none⟩ (.slice pd s.data.length cd)).heap[w1.heap.size]? = some (.cells #[.int .i64 (s.number : Int), .int .i64 s.term, .slice pg s.group.length cg] 105 (0, 0)) from (set_other _ HJne.out).trans hHeld)
      have Hj7 := Lib.hid (set_block Hj6.out 7 (.slice pd s.data.length cd))
      go_wp2_with fail
      clear b7 f7
      refine hK.out _ _ (Hh7.out) (fun hHeld => ?_)
      clear hK
      try simp only [Act.put, List.setIfInBounds_toArray, List.set_cons_zero, List.set_cons_succ]
      refine Pl [13,14] ?_
      iterate 2 (refine Pc rfl ?_;simp only [Act.put, uA, uB, uC])
      refine Pn ?_
      refine ord_one 15 rfl (by kernel_rfl) (by rfl) (fun K hK => ?_)
      have b8 := cell_of Hj7.out (i := 8) rfl
      have f8 := frozen_of Hj7.out 8
      have Hh8 := Lib.hid (fun x => (show (((((wq.setCell ⟨j, 0, none⟩ (.int .i64 (s.number : Int))).setCell ⟨j, 1, none⟩ (.int .i64 s.term)).setCell ⟨j, 2, none⟩ (.slice pg s.group.length cg)).setCell ⟨j, 7, none⟩ (.slice pd s.data.length cd)).setCell ⟨j, 8, none⟩ x).heap[w1.heap.size]? = some (.cells #[.int .i64 (s.number : Int), .int .i64 s.term, .slice pg s.group.length cg] 105 (0, 0)) from (set_other _ HJne.out).trans hHeld))
      go_wp2_with fail
      clear b8 f8
      refine hK.out _ _ (Hh8.out _) (fun hHeld => ?_)
      clear hK
      try simp only [Act.put, List.setIfInBounds_toArray, List.set_cons_zero, List.set_cons_succ]
      refine wpAnyH_done (by kernel_rfl) ?_ _
      go_wp2_with fail
      go_end0
      exact ⟨rfl, HFn.out⟩
    · have hnc : ¬ (M.number < s.number ∧ M.termAt (s.number : Int) = some s.term) := fun e => hcs ⟨e.1, by have := e.2; rw [hta] at this; exact Option.some.inj this⟩
      have hst : M.rebase s = JouM.mk s.number s.term s.group M.now M.vote s.data [] M.dead := by
        unfold JouM.rebase
        rw [if_neg hnc]
      have HFin := Lib.hid (fun wq en (hb : Below w1.heap.size w1 wq) (hen : OwnR wq 47 4 en 0 []) henn => HFin0.out M.entries.length [] (by rw [List.drop_length]) hst wq en hb (by rw [entsC_nil]; exact hen) henn)
      have Hcl := Lib.hid (fun W (_ : Below w1.heap.size w1 W) => ecl_calls (w := W) (p := none) (n := 0) (c := 0) (cs := []) ⟨rfl, none, 0, rfl, fun _ => rfl, fun a ha => by cases ha⟩ (fun u hu => by cases hu) (by decide))
      rw [hta] at Hta
      have hor : (t == s.term) = false ∨ (t == s.term) = true ∧ decide (M.number < s.number) = false ∧ decide ((M.number : Int) < (s.number : Int)) = false := by
        by_cases ht : t = s.term
        · have hn2 : ¬ M.number < s.number := fun e => hcs ⟨e, ht⟩
          exact .inr ⟨by simpa using ht, by simpa using hn2, by simp; omega⟩
        · exact .inl (by simpa using ht)
      clear h hs hg hd hF hF2 hJ hS hn hl hrow hta hnc hst HFin0 hbx hce hcs
      rcases hor with e0 | ⟨e0, e1, e2⟩
      · skip
        go_enter Tryz.func58, Tryz.ntmps58
        go_wp2_with fail
        refine Hta.out.mono ?_
        rintro r w2 ⟨rfl, q, rfl⟩
        have c0 : ((w1.alloc (.cells #[.int .i64 (s.number : Int), .int .i64 s.term, .slice pg s.group.length cg] 105)).drewN q).cell? ⟨j, 0, none⟩ = some (.int .i64 (M.number : Int)) := c0
        have c8 : ((w1.alloc (.cells #[.int .i64 (s.number : Int), .int .i64 s.term, .slice pg s.group.length cg] 105)).drewN q).cell? ⟨j, 8, none⟩ = some (.slice pe M.entries.length ce) := c8
        have z0 : ((w1.alloc (.cells #[.int .i64 (s.number : Int), .int .i64 s.term, .slice pg s.group.length cg] 105)).drewN q).cell? ⟨w1.heap.size, 0, none⟩ = some (.int .i64 (s.number : Int)) := cell_of (Hbase.out) (i := 0) rfl
        have z1 : ((w1.alloc (.cells #[.int .i64 (s.number : Int), .int .i64 s.term, .slice pg s.group.length cg] 105)).drewN q).cell? ⟨w1.heap.size, 1, none⟩ = some (.int .i64 s.term) := cell_of (Hbase.out) (i := 1) rfl

        go_wp2_with fail
        go_quiet (fail)
        go_wp2_with fail
        generalize hWQ : (World.drewN _ _) = WQ
        have HBq := Lib.hid (show Below w1.heap.size w1 WQ from by rw [← hWQ]; exact HBB.out.trans ⟨rfl, rfl, rfl, by simp [World.drewN], fun _ _ => rfl⟩)
        have Hbox := Lib.hid (show WQ.drew.heap[w1.heap.size]? = some (.cells #[.int .i64 (s.number : Int), .int .i64 s.term, .slice pg s.group.length cg] 105 (0, 0)) from by rw [← hWQ]; exact Hbase.out)
        clear hWQ c0 c8 z0 z1
        refine ord_start (fun w' : World => w'.heap[w1.heap.size]? = some (.cells #[.int .i64 (s.number : Int), .int .i64 s.term, .slice pg s.group.length cg] 105 (0, 0))) (n := 16) (by kernel_rfl) rfl (Hbox.out) (fun hHeld => ?_)
        have HBd := Lib.hid (show Below w1.heap.size w1 WQ.drew from HBq.out.trans ⟨rfl, rfl, rfl, Nat.le_refl _, fun _ _ => rfl⟩)
        generalize WQ.drew = W1 at *
        refine Pl [0,1,2] ?_
        iterate 3 (refine Pc rfl ?_;simp only [Act.put, uA, uB, uC])
        refine Pn ?_
        refine ord_take 3 (v := .agg #[.int .i64 (s.number : Int), .int .i64 s.term, .slice pg s.group.length cg]) rfl (by kernel_rfl) (by kernel_rfl) (by kernel_rfl) (fun _ _ _ h => h) (by rfl) (by assumption) (fun W hSw => by have q0 := cell_of hSw (i := 0) rfl; have q1 := cell_of hSw (i := 1) rfl; have q2 := cell_of hSw (i := 2) rfl; go_simp; try with_reducible rfl) ?_
        simp only [Act.put, List.setIfInBounds_toArray, List.set_cons_zero, List.set_cons_succ]
        refine Pl [4,5] ?_
        iterate 2 (refine Pc rfl ?_;simp only [Act.put, uA, uB, uC])
        refine Pn ?_
        refine ord_one 6 rfl (by kernel_rfl) (by rfl) (fun K hK => ?_)
        go_wp2_with fail
        refine (Hcl.out W1 HBd.out).mono ?_
        rintro e wq ⟨en, rfl, hen, henn, hbq⟩
        have HB5 := Lib.hid (HBd.out.trans (hbq.mono HBd.out.size))
        have Hh5 := Lib.hid ((hbq.block _ (lt_of_block hHeld)).trans hHeld)
        have HFn := Lib.hid (HFin.out wq en HB5.out hen (fun x hx => Nat.le_trans HBd.out.size (henn x hx)))
        have Hjc := Lib.hid ((HB5.out.block j HJlt.out).trans HJc.out)
        obtain ⟨pn, qn, rfl⟩ := OwnR.shape hen
        clear hen henn hbq Hcl HFin
        go_wp2_with fail
        refine hK.out _ _ (Hh5.out) (fun hHeld => ?_)
        clear hK
        try simp only [Act.put, List.setIfInBounds_toArray, List.set_cons_zero, List.set_cons_succ]
        refine Pl [7,8] ?_
        iterate 2 (refine Pc rfl ?_;simp only [Act.put, uA, uB, uC])
        refine Pn ?_
        refine ord_one 9 rfl (by kernel_rfl) (by rfl) (fun K hK => ?_)
        have b0 := cell_of Hjc.out (i := 0) rfl
        have b1 := cell_of Hjc.out (i := 1) rfl
        have b2 := cell_of Hjc.out (i := 2) rfl
        have fr := frozen_of Hjc.out
        have Hh6 := Lib.hid (show (((wq.setCell ⟨j, 0, none⟩ (.int .i64 (s.number : Int))).setCell ⟨j, 1, none⟩ (.int .i64 s.term)).setCell ⟨j, 2, none⟩ (.slice pg s.group.length cg)).heap[w1.heap.size]? = some (.cells #[.int .i64 (s.number : Int), .int .i64 s.term, .slice pg s.group.length cg] 105 (0, 0)) from (set_other _ HJne.out).trans ((set_other _ HJne.out).trans ((set_other _ HJne.out).trans hHeld)))
        have Hj6 := Lib.hid (set_block (set_block (set_block Hjc.out 0 (.int .i64 (s.number : Int))) 1 (.int .i64 s.term)) 2 (.slice pg s.group.length cg))
        go_wp2_with fail
        clear b0 b1 b2 fr
        refine hK.out _ _ (Hh6.out) (fun hHeld => ?_)
        clear hK
        try simp only [Act.put, List.setIfInBounds_toArray, List.set_cons_zero, List.set_cons_succ]
        refine Pl [10,11] ?_
        iterate 2 (refine Pc rfl ?_;simp only [Act.put, uA, uB, uC])
        refine Pn ?_
        refine ord_one 12 rfl (by kernel_rfl) (by rfl) (fun K hK => ?_)
        have b7 := cell_of Hj6.out (i := 7) rfl
        have f7 := frozen_of Hj6.out 7
        have Hh7 := Lib.hid (show ((((wq.setCell ⟨j, 0, none⟩ (.int .i64 (s.number : Int))).setCell ⟨j, 1, none⟩ (.int .i64 s.term)).setCell ⟨j, 2, none⟩ (.slice pg s.group.length cg)).setCell ⟨j, 7, none⟩ (.slice pd s.data.length cd)).heap[w1.heap.size]? = some (.cells #[.int .i64 (s.number : Int), .int .i64 s.term, .slice pg s.group.length cg] 105 (0, 0)) from (set_other _ HJne.out).trans hHeld)
        have Hj7 := Lib.hid (set_block Hj6.out 7 (.slice pd s.data.length cd))
        go_wp2_with fail
        clear b7 f7
        refine hK.out _ _ (Hh7.out) (fun hHeld => ?_)
        clear hK
        try simp only [Act.put, List.setIfInBounds_toArray, List.set_cons_zero, List.set_cons_succ]
        refine Pl [13,14] ?_
        iterate 2 (refine Pc rfl ?_;simp only [Act.put, uA, uB, uC])
        refine Pn ?_
        refine ord_one 15 rfl (by kernel_rfl) (by rfl) (fun K hK => ?_)
        have b8 := cell_of Hj7.out (i := 8) rfl
        have f8 := frozen_of Hj7.out 8
        have Hh8 := Lib.hid (fun x => (show (((((wq.setCell ⟨j, 0, none⟩ (.int .i64 (s.number : Int))).setCell ⟨j, 1, none⟩ (.int .i64 s.term)).setCell ⟨j, 2, none⟩ (.slice pg s.group.length cg)).setCell ⟨j, 7, none⟩ (.slice pd s.data.length cd)).setCell ⟨j, 8, none⟩ x).heap[w1.heap.size]? = some (.cells #[.int .i64 (s.number : Int), .int .i64 s.term, .slice pg s.group.length cg] 105 (0, 0)) from (set_other _ HJne.out).trans hHeld))
        go_wp2_with fail
        clear b8 f8
        refine hK.out _ _ (Hh8.out _) (fun hHeld => ?_)
        clear hK
        try simp only [Act.put, List.setIfInBounds_toArray, List.set_cons_zero, List.set_cons_succ]
        refine wpAnyH_done (by kernel_rfl) ?_ _
        go_wp2_with fail
        go_end0
        exact ⟨rfl, HFn.out⟩
      · skip
        go_enter Tryz.func58, Tryz.ntmps58
        go_wp2_with fail
        refine Hta.out.mono ?_
        rintro r w2 ⟨rfl, q, rfl⟩
        have c0 : ((w1.alloc (.cells #[.int .i64 (s.number : Int), .int .i64 s.term, .slice pg s.group.length cg] 105)).drewN q).cell? ⟨j, 0, none⟩ = some (.int .i64 (M.number : Int)) := c0
        have c8 : ((w1.alloc (.cells #[.int .i64 (s.number : Int), .int .i64 s.term, .slice pg s.group.length cg] 105)).drewN q).cell? ⟨j, 8, none⟩ = some (.slice pe M.entries.length ce) := c8
        have z0 : ((w1.alloc (.cells #[.int .i64 (s.number : Int), .int .i64 s.term, .slice pg s.group.length cg] 105)).drewN q).cell? ⟨w1.heap.size, 0, none⟩ = some (.int .i64 (s.number : Int)) := cell_of (Hbase.out) (i := 0) rfl
        have z1 : ((w1.alloc (.cells #[.int .i64 (s.number : Int), .int .i64 s.term, .slice pg s.group.length cg] 105)).drewN q).cell? ⟨w1.heap.size, 1, none⟩ = some (.int .i64 s.term) := cell_of (Hbase.out) (i := 1) rfl

        go_wp2_with fail
        go_quiet (fail)
        go_wp2_with fail
        generalize hWQ : (World.drewN _ _) = WQ
        have HBq := Lib.hid (show Below w1.heap.size w1 WQ from by rw [← hWQ]; exact HBB.out.trans ⟨rfl, rfl, rfl, by simp [World.drewN], fun _ _ => rfl⟩)
        have Hbox := Lib.hid (show WQ.drew.heap[w1.heap.size]? = some (.cells #[.int .i64 (s.number : Int), .int .i64 s.term, .slice pg s.group.length cg] 105 (0, 0)) from by rw [← hWQ]; exact Hbase.out)
        clear hWQ c0 c8 z0 z1
        refine ord_start (fun w' : World => w'.heap[w1.heap.size]? = some (.cells #[.int .i64 (s.number : Int), .int .i64 s.term, .slice pg s.group.length cg] 105 (0, 0))) (n := 16) (by kernel_rfl) rfl (Hbox.out) (fun hHeld => ?_)
        have HBd := Lib.hid (show Below w1.heap.size w1 WQ.drew from HBq.out.trans ⟨rfl, rfl, rfl, Nat.le_refl _, fun _ _ => rfl⟩)
        generalize WQ.drew = W1 at *
        refine Pl [0,1,2] ?_
        iterate 3 (refine Pc rfl ?_;simp only [Act.put, uA, uB, uC])
        refine Pn ?_
        refine ord_take 3 (v := .agg #[.int .i64 (s.number : Int), .int .i64 s.term, .slice pg s.group.length cg]) rfl (by kernel_rfl) (by kernel_rfl) (by kernel_rfl) (fun _ _ _ h => h) (by rfl) (by assumption) (fun W hSw => by have q0 := cell_of hSw (i := 0) rfl; have q1 := cell_of hSw (i := 1) rfl; have q2 := cell_of hSw (i := 2) rfl; go_simp; try with_reducible rfl) ?_
        simp only [Act.put, List.setIfInBounds_toArray, List.set_cons_zero, List.set_cons_succ]
        refine Pl [4,5] ?_
        iterate 2 (refine Pc rfl ?_;simp only [Act.put, uA, uB, uC])
        refine Pn ?_
        refine ord_one 6 rfl (by kernel_rfl) (by rfl) (fun K hK => ?_)
        go_wp2_with fail
        refine (Hcl.out W1 HBd.out).mono ?_
        rintro e wq ⟨en, rfl, hen, henn, hbq⟩
        have HB5 := Lib.hid (HBd.out.trans (hbq.mono HBd.out.size))
        have Hh5 := Lib.hid ((hbq.block _ (lt_of_block hHeld)).trans hHeld)
        have HFn := Lib.hid (HFin.out wq en HB5.out hen (fun x hx => Nat.le_trans HBd.out.size (henn x hx)))
        have Hjc := Lib.hid ((HB5.out.block j HJlt.out).trans HJc.out)
        obtain ⟨pn, qn, rfl⟩ := OwnR.shape hen
        clear hen henn hbq Hcl HFin
        go_wp2_with fail
        refine hK.out _ _ (Hh5.out) (fun hHeld => ?_)
        clear hK
        try simp only [Act.put, List.setIfInBounds_toArray, List.set_cons_zero, List.set_cons_succ]
        refine Pl [7,8] ?_
        iterate 2 (refine Pc rfl ?_;simp only [Act.put, uA, uB, uC])
        refine Pn ?_
        refine ord_one 9 rfl (by kernel_rfl) (by rfl) (fun K hK => ?_)
        have b0 := cell_of Hjc.out (i := 0) rfl
        have b1 := cell_of Hjc.out (i := 1) rfl
        have b2 := cell_of Hjc.out (i := 2) rfl
        have fr := frozen_of Hjc.out
        have Hh6 := Lib.hid (show (((wq.setCell ⟨j, 0, none⟩ (.int .i64 (s.number : Int))).setCell ⟨j, 1, none⟩ (.int .i64 s.term)).setCell ⟨j, 2, none⟩ (.slice pg s.group.length cg)).heap[w1.heap.size]? = some (.cells #[.int .i64 (s.number : Int), .int .i64 s.term, .slice pg s.group.length cg] 105 (0, 0)) from (set_other _ HJne.out).trans ((set_other _ HJne.out).trans ((set_other _ HJne.out).trans hHeld)))
        have Hj6 := Lib.hid (set_block (set_block (set_block Hjc.out 0 (.int .i64 (s.number : Int))) 1 (.int .i64 s.term)) 2 (.slice pg s.group.length cg))
        go_wp2_with fail
        clear b0 b1 b2 fr
        refine hK.out _ _ (Hh6.out) (fun hHeld => ?_)
        clear hK
        try simp only [Act.put, List.setIfInBounds_toArray, List.set_cons_zero, List.set_cons_succ]
        refine Pl [10,11] ?_
        iterate 2 (refine Pc rfl ?_;simp only [Act.put, uA, uB, uC])
        refine Pn ?_
        refine ord_one 12 rfl (by kernel_rfl) (by rfl) (fun K hK => ?_)
        have b7 := cell_of Hj6.out (i := 7) rfl
        have f7 := frozen_of Hj6.out 7
        have Hh7 := Lib.hid (show ((((wq.setCell ⟨j, 0, none⟩ (.int .i64 (s.number : Int))).setCell ⟨j, 1, none⟩ (.int .i64 s.term)).setCell ⟨j, 2, none⟩ (.slice pg s.group.length cg)).setCell ⟨j, 7, none⟩ (.slice pd s.data.length cd)).heap[w1.heap.size]? = some (.cells #[.int .i64 (s.number : Int), .int .i64 s.term, .slice pg s.group.length cg] 105 (0, 0)) from (set_other _ HJne.out).trans hHeld)
        have Hj7 := Lib.hid (set_block Hj6.out 7 (.slice pd s.data.length cd))
        go_wp2_with fail
        clear b7 f7
        refine hK.out _ _ (Hh7.out) (fun hHeld => ?_)
        clear hK
        try simp only [Act.put, List.setIfInBounds_toArray, List.set_cons_zero, List.set_cons_succ]
        refine Pl [13,14] ?_
        iterate 2 (refine Pc rfl ?_;simp only [Act.put, uA, uB, uC])
        refine Pn ?_
        refine ord_one 15 rfl (by kernel_rfl) (by rfl) (fun K hK => ?_)
        have b8 := cell_of Hj7.out (i := 8) rfl
        have f8 := frozen_of Hj7.out 8
        have Hh8 := Lib.hid (fun x => (show (((((wq.setCell ⟨j, 0, none⟩ (.int .i64 (s.number : Int))).setCell ⟨j, 1, none⟩ (.int .i64 s.term)).setCell ⟨j, 2, none⟩ (.slice pg s.group.length cg)).setCell ⟨j, 7, none⟩ (.slice pd s.data.length cd)).setCell ⟨j, 8, none⟩ x).heap[w1.heap.size]? = some (.cells #[.int .i64 (s.number : Int), .int .i64 s.term, .slice pg s.group.length cg] 105 (0, 0)) from (set_other _ HJne.out).trans hHeld))
        go_wp2_with fail
        clear b8 f8
        refine hK.out _ _ (Hh8.out _) (fun hHeld => ?_)
        clear hK
        try simp only [Act.put, List.setIfInBounds_toArray, List.set_cons_zero, List.set_cons_succ]
        refine wpAnyH_done (by kernel_rfl) ?_ _
        go_wp2_with fail
        go_end0
        exact ⟨rfl, HFn.out⟩
end
end Go.Proofs.YtngflpaooppmhaaGreat

namespace Go.Proofs.YtngflpaooppmhaaGreat
open Go.RowKit Go.Sat Go.Maps

def sSnp (s : ByteArray) : ByteArray := s ++ ⟨#[45, 115, 110, 97, 112]⟩
theorem nm_snp (s : ByteArray) : nm (sSnp s) = snpN (nm s) := by simp [nm, sSnp, snpN, snpX]
theorem size_snp (s : ByteArray) : (sSnp s).size = s.size + 5 := by simp [sSnp, ByteArray.size_append]; rfl

theorem rebase_len (M : JouM) (s : Snap) : (M.rebase s).entries.length ≤ M.entries.length := by
  show (if M.number < s.number ∧ M.termAt s.number = some s.term then M.entries.drop (s.number - M.number) else []).length ≤ _
  split
  · rw [List.length_drop]; omega
  · exact Nat.zero_le _

section
variable {w w1 wc : World} {j d : Nat} {pre : ByteArray} {D : DiskM} {M : JouM} {F F2 : Nat → Prop}

end
end Go.Proofs.YtngflpaooppmhaaGreat

namespace Go.Proofs.YtngflpaooppmhaaGreat
open Go.RowKit Go.Sat Go.Maps

/-- A Reader whose bytes lie in the blocks of A. -/
def RdX (A : Nat → Prop) (w : World) (r : Nat) (R : Rd) : Prop := ∃ p n c, RdIn w r R p n c ∧ ∀ k, (Value.slice p n c).ownBlock = some k → A k
theorem RdX.at {A : Nat → Prop} {w : World} {r : Nat} {R : Rd} (h : RdX A w r R) : RdAt w r R := let ⟨p, n, c, h, _⟩ := h; ⟨p, n, c, h⟩
theorem RdX.lt {A : Nat → Prop} {w : World} {r : Nat} {R : Rd} (h : RdX A w r R) : r < w.heap.size := let ⟨_, _, _, h, _⟩ := h; h.rlt
theorem RdX.chg {A S : Nat → Prop} {w w' : World} {r : Nat} {R : Rd} (h : RdX A w r R) (hc : Chg S w w') (hr : ¬ S r) (hA : ∀ k, A k → ¬ S k) : RdX A w' r R := by
  obtain ⟨p, n, c, h, ha⟩ := h
  exact ⟨p, n, c, ⟨(hc.block r h.rlt hr).trans h.cells, HasB.chg h.has hc fun k hk => hA k (ha k hk), h.cap, h.ne, h.len⟩, ha⟩
def RStepX (A : Nat → Prop) (w : World) (r : Nat) (R' : Rd) (v : Value) (e : Ending) (w' : World) : Prop := e = .returned v ∧ RdX A w' r R' ∧ Chg (fun k => k = r) w w'
def NumX (A : Nat → Prop) (w : World) (r : Nat) (R : Rd) (e : Ending) (w' : World) : Prop := e = .returned (.int .i64 (R.num.1 : Int)) ∧ RdX A w' r R.num.2 ∧ Chg (fun k => k = r) w w'
def RowX (A : Nat → Prop) (w : World) (r : Nat) (b : Bs) (R' : Rd) (e : Ending) (w' : World) : Prop :=
  ∃ v, e = .returned v ∧ OwnB w' 5 v b ∧ (∀ j, v.ownBlock = some j → w.heap.size ≤ j) ∧ RdX A w' r R' ∧ Chg (fun j => j = r) w w'

theorem run_tailX {P : Program} {w : World} {t e : TypeId} {i : TypeInfo} (ht : P.underlying t = some (.slice e)) (hi : P.info? e = some i) (hsz : i.size = 1) {p : Option Addr} {n c : Nat} {l : Bs} (h : HasB w (.slice p n c) l) (hnc : n ≤ c) (r k : Nat) (hne : (Value.slice p n c).ownBlock ≠ some r) (hk : k ≤ n) :
    ∃ p' c', (∀ W, (Instr.slice t (.slice p n c) (some (.int .i64 (k : Int))) none none).run P W = .ok (.slice p' (n - k) c') W) ∧ HasB w (.slice p' (n - k) c') (l.drop k) ∧ n - k ≤ c' ∧ (Value.slice p' (n - k) c').ownBlock ≠ some r ∧ ∀ x, (Value.slice p' (n - k) c').ownBlock = some x → (Value.slice p n c).ownBlock = some x := by
  obtain ⟨p', c', h1, h2, h3, h4⟩ := run_tail (P := P) ht hi hsz h hnc r k hne hk
  refine ⟨p', c', h1, h2, h3, h4, fun x hx => ?_⟩
  have e1 := h1 w
  rw [run_tail0 (P := P) w ht hi hsz p n c k hk hnc] at e1
  have e2 : (if c = k then p else p.map fun x => x.add k) = p' := by
    have := congrArg (fun z : Result Value => match z with | .ok (.slice a _ _) _ => a | _ => none) e1
    exact this
  subst e2
  split at hx
  · cases p with
    | none => cases hx
    | some a => exact hx
  · cases p with
    | none => cases hx
    | some a =>
      have e3 : (Value.slice (some (a.add k)) (n - k) c').ownBlock = some (a.add k).block := rfl
      have hx' : (Value.slice (some (a.add k)) (n - k) c').ownBlock = some x := hx
      rw [e3, add_block] at hx'
      exact hx'

section
variable {w : World} {r : Nat} {R : Rd} {p : Option Addr} {n c : Nat}
theorem rdX_bad {A : Nat → Prop} (h : RdIn w r R p n c) : RdX A ((w.setCell ⟨r, 0, none⟩ (.slice none 0 0)).setCell ⟨r, 1, none⟩ (.bool true)) r Rd.fail :=
  ⟨none, 0, 0, ⟨rd_set h _ _, OwnB.has (e := 0) (OwnR.nil _ _ _), Nat.le_refl _, fun h => (by cases h), Nat.zero_le _⟩, fun k hk => (by cases hk)⟩

theorem badX_calls {A : Nat → Prop} (h : RdIn w r R p n c) :
    Calls Tryz.prog 118 #[.pointer (some ⟨r, 0, none⟩)] w (RStepX A w r Rd.fail (.tuple #[])) := by
  have h0 := h.c0
  have h1 := h.c1
  have hf := fun i => frozen_of h.cells i
  have HE := Lib.hid (show RStepX A w r Rd.fail (.tuple #[]) (.returned (.tuple #[])) ((w.setCell ⟨r, 0, none⟩ (.slice none 0 0)).setCell ⟨r, 1, none⟩ (.bool true)) from ⟨rfl, rdX_bad h, (Chg.setCell w ⟨r, 0, none⟩ _).trans (Chg.setCell _ ⟨r, 1, none⟩ _) fun _ _ e => e⟩)
  clear h
  go_enter Tryz.func118, Tryz.ntmps118
  go_wp2_with fail
  go_end0
  exact HE.out

set_option maxRecDepth 100000 in
set_option maxHeartbeats 4000000 in
theorem rawX_calls {A : Nat → Prop} (h : RdIn w r R p n c) (hA : ∀ k, (Value.slice p n c).ownBlock = some k → A k) (k : Int) (hk : 0 ≤ k) (hk' : k ≤ 9223372036854775807) :
    Calls Tryz.prog 119 #[.pointer (some ⟨r, 0, none⟩), .int .i64 k] w fun e w' => ∃ v, e = .returned v ∧ OwnB w' 5 v (R.raw k.toNat).1 ∧ (∀ j, v.ownBlock = some j → w.heap.size ≤ j) ∧ RdX A w' r (R.raw k.toNat).2 ∧ Chg (fun j => j = r) w w' := by
  obtain ⟨i0, hi, -, hz1, -⟩ := info_parts (show (Tryz.prog.info? 5).map (fun i => (i.zero, i.size, i.bytes)) = some (some (.int .u8 0), 1, 1) by kernel_rfl)
  obtain ⟨m, rfl⟩ : ∃ m : Nat, k = (m : Int) := ⟨k.toNat, by omega⟩
  have hn := h.n_eq
  have hlen := h.len
  rw [Int.toNat_natCast]
  have c0 := h.c0
  have hfr := fun i => frozen_of h.cells i
  by_cases hm : m ≤ n
  · have hR : R.raw m = (R.rest.take m, ⟨R.rest.drop m, R.bad⟩) := by unfold Rd.raw; rw [if_pos (by omega)]
    rw [hR]
    obtain ⟨p', c', hsl, hh, hc, hne, hnA⟩ := run_tailX (P := Tryz.prog) Tryz.underlying23 hi hz1 h.has h.cap r m h.ne hm
    have hup : ∀ W, (Instr.slice 23 (.slice p n c) none (some (.int .i64 (m : Int))) none).run Tryz.prog W = .ok (.slice p m c) W := fun W => run_upto W Tryz.underlying23 hi p n c m (by have := h.cap; omega)
    have Hcl := Lib.hid (clone_calls (HasB.cut h.has (k := m) (by omega) c) (by rw [List.length_take]; omega))
    have Hin := Lib.hid h
    have Hh := Lib.hid (And.intro hh (And.intro hc hne))
    have HA := Lib.hid (fun k hk => hA k (hnA k hk))
    clear hh hc hne h hR hnA hA
    go_enter Tryz.func119, Tryz.ntmps119
    go_wp2_with fail
    refine Hcl.out.mono ?_
    rintro e w1 ⟨v, rfl, hv, hvn, hb⟩
    have hcell := hb.block r Hin.out.rlt
    have hin1 : RdIn w1 r R p n c := ⟨hcell.trans Hin.out.cells, HasB.below Hin.out.has hb, Hin.out.cap, Hin.out.ne, Hin.out.len⟩
    have hc1 := hin1.c0
    have hfr1 := fun i => frozen_of hin1.cells i
    have HV := Lib.hid (And.intro (show OwnB (w1.setCell ⟨r, 0, none⟩ (.slice p' (n - m) c')) 5 v (R.rest.take m) from hv.keep fun k hk => set_other _ fun e => by
      have := hvn k hk
      have h2 := Hin.out.rlt
      have h3 : k = r := e
      omega) (And.intro hvn (And.intro (show RdX A (w1.setCell ⟨r, 0, none⟩ (.slice p' (n - m) c')) r ⟨R.rest.drop m, R.bad⟩ from ⟨p', n - m, c', ⟨rd_set0 hin1 _, (HasB.set (HasB.below Hh.out.1 hb) _ Hh.out.2.2), Hh.out.2.1, Hh.out.2.2, by rw [List.length_drop]; omega⟩, HA.out⟩)
        (((Chg.of_below hb).mono fun _ _ h => h.elim).trans (Chg.setCell _ ⟨r, 0, none⟩ _) fun _ _ e => e : Chg (fun j => j = r) w (w1.setCell ⟨r, 0, none⟩ (.slice p' (n - m) c'))))))
    clear hv hvn hin1 Hin Hh Hcl hcell
    go_wp2_with fail
    go_ret
    exact ⟨v, rfl, HV.out⟩
  · have hR : R.raw m = ([], Rd.fail) := by unfold Rd.raw; rw [if_neg (by omega)]
    rw [hR]
    have Hbd := Lib.hid (badX_calls (A := A) h)
    have hgt : ((m : Int) > (n : Int)) := by omega
    clear h hR
    go_enter Tryz.func119, Tryz.ntmps119
    go_wp2_with fail
    refine Hbd.out.mono ?_
    rintro e w1 ⟨rfl, hr, hc⟩
    have HE := Lib.hid (And.intro hr hc)
    clear hr hc
    go_wp2_with fail
    go_ret
    exact ⟨_, rfl, OwnR.nil _ _ _, fun j hj => (by cases hj), HE.out⟩
end

set_option maxRecDepth 100000 in
set_option maxHeartbeats 4000000 in
theorem numX_calls {AA : Nat → Prop} {w : World} {r : Nat} {R : Rd} {p : Option Addr} {n c : Nat} (h : RdIn w r R p n c) (hA : ∀ k, (Value.slice p n c).ownBlock = some k → AA k) :
    Calls Tryz.prog 81 #[.pointer (some ⟨r, 0, none⟩)] w (NumX AA w r R) := by
  obtain ⟨i0, hi, -, hz1, -⟩ := info_parts (show (Tryz.prog.info? 5).map (fun i => (i.zero, i.size, i.bytes)) = some (some (.int .u8 0), 1, 1) by kernel_rfl)
  have hn := h.n_eq
  have hlen := h.len
  rw [hn] at hlen
  have c0 := h.c0
  have hfr := frozen_of h.cells 0
  have Hbad := Lib.hid (badX_calls (A := AA) h)
  have Hno := Lib.hid (show numGo 0 0 R.rest = none → R.num = (0, Rd.fail) from fun e => by unfold Rd.num; rw [e])
  have Hyes := Lib.hid (show ∀ v t, numGo 0 0 R.rest = some (v, t) → R.num = (v, ⟨t, R.bad⟩) from fun v t e => by unfold Rd.num; rw [e])
  have Hin := Lib.hid h
  have HA := Lib.hid hA
  have Hn := Lib.hid hn
  clear h hn hA
  go_enter Tryz.func81, Tryz.ntmps81
  go_wp2_with fail
  go_loop [3, 13] (fun u i => ∃ k a : Nat, k ≤ n ∧ k ≤ 9 ∧ i = .int .i64 k ∧ u = .int .u64 a ∧ a < 128 ^ k ∧ numGo 0 0 R.rest = numGo k a (R.rest.drop k)) (fun _ i => n - (intOf i).toNat)
  case atStart => exact ⟨0, 0, Nat.zero_le _, by omega, rfl, rfl, by simp, rfl⟩
  case round =>
    obtain ⟨k, a, hk, hk9, rfl, rfl, ha, hgo⟩ := hrel
    by_cases hlt : k < n
    · have hkl : k < R.rest.length := by rw [Hn.out]; exact hlt
      rw [List.drop_eq_getElem_cons hkl] at hgo
      rcases Hin.out.has.at with h0 | ⟨g, o, c1, e1, hc⟩
      · rw [h0] at hkl
        simp at hkl
      simp only [Value.slice.injEq] at e1
      obtain ⟨rfl, -, rfl⟩ := e1
      have hck := hc k _ (List.getElem?_eq_getElem hkl)
      have Hgo := Lib.hid hgo
      clear hc hgo
      have hx := R.rest[k].toNat_lt
      have Hstop := Lib.hid (show 9 ≤ k ∨ (0 < k ∧ R.rest[k].toNat = 0) → numGo k a (R.rest[k] :: R.rest.drop (k + 1)) = none from fun e => by
        unfold numGo
        rw [if_pos (e.imp id fun e => ⟨e.1, UInt8.toNat.inj (by rw [e.2]; rfl)⟩)])
      have Hgo1 := Lib.hid (show ¬ (9 ≤ k ∨ (0 < k ∧ R.rest[k].toNat = 0)) → R.rest[k].toNat < 128 → numGo k a (R.rest[k] :: R.rest.drop (k + 1)) = if 4611686018427387904 < a + R.rest[k].toNat * 128 ^ k then none else some (a + R.rest[k].toNat * 128 ^ k, R.rest.drop (k + 1)) from fun e h => by
        rw [numGo, if_neg (fun h => e (h.imp id fun h => ⟨h.1, by rw [h.2]; rfl⟩)), if_pos h])
      have Hgo2 := Lib.hid (show ¬ (9 ≤ k ∨ (0 < k ∧ R.rest[k].toNat = 0)) → ¬ R.rest[k].toNat < 128 → numGo k a (R.rest[k] :: R.rest.drop (k + 1)) = numGo (k + 1) (a + R.rest[k].toNat % 128 * 128 ^ k) (R.rest.drop (k + 1)) from fun e h => by
        rw [numGo, if_neg (fun h => e (h.imp id fun h => ⟨h.1, by rw [h.2]; rfl⟩)), if_neg h])
      generalize R.rest[k].toNat = x at *
      by_cases h9 : 9 ≤ k
      · have HE := Lib.hid (Hno.out (Hgo.out.trans (Hstop.out (.inl h9))))
        go_wp2_with fail
        refine Hbad.out.mono ?_
        rintro e w1 ⟨rfl, hr, hc⟩
        have HF := Lib.hid (show NumX AA w r R (.returned (.int .i64 0)) w1 from ⟨by rw [HE.out]; rfl, by rw [HE.out]; exact hr, hc⟩)
        clear hr hc
        go_wp2_with fail
        go_ret
        exact HF.out
      · by_cases hz : 0 < k ∧ x = 0
        · have HE := Lib.hid (Hno.out (Hgo.out.trans (Hstop.out (.inr hz))))
          obtain ⟨hk0, rfl⟩ := hz
          go_wp2_with fail
          refine Hbad.out.mono ?_
          rintro e w1 ⟨rfl, hr, hc⟩
          have HF := Lib.hid (show NumX AA w r R (.returned (.int .i64 0)) w1 from ⟨by rw [HE.out]; rfl, by rw [HE.out]; exact hr, hc⟩)
          clear hr hc
          go_wp2_with fail
          go_ret
          exact HF.out
        · have hs : ¬ (9 ≤ k ∨ (0 < k ∧ x = 0)) := fun e => e.elim h9 hz
          have hd9 : decide ((9 : Int) ≤ (k : Int)) = false := by simp; omega
          by_cases h128 : x < 128
          · have HE := Lib.hid (Hgo.out.trans (Hgo1.out hs h128))
            have h7 := u64_seven ha (by omega) (show x < 256 by omega)
            rw [show x % 128 = x by omega] at h7
            obtain ⟨h7, -, h73⟩ := h7
            generalize a + x * 128 ^ k = A at *
            by_cases hA : 4611686018427387904 < A
            · have HE2 := Lib.hid (Hno.out (HE.out.trans (if_pos hA)))
              rcases Nat.lt_or_ge 0 k with hk0 | hk0
              rotate_left
              · go_wp2_with fail
                refine Hbad.out.mono ?_
                rintro e w1 ⟨rfl, hr, hc⟩
                have HF := Lib.hid (show NumX AA w r R (.returned (.int .i64 0)) w1 from ⟨by rw [HE2.out]; rfl, by rw [HE2.out]; exact hr, hc⟩)
                clear hr hc
                go_wp2_with fail
                go_ret
                exact HF.out
              · have hx0 : 0 < x := by omega
                go_wp2_with fail
                refine Hbad.out.mono ?_
                rintro e w1 ⟨rfl, hr, hc⟩
                have HF := Lib.hid (show NumX AA w r R (.returned (.int .i64 0)) w1 from ⟨by rw [HE2.out]; rfl, by rw [HE2.out]; exact hr, hc⟩)
                clear hr hc
                go_wp2_with fail
                go_ret
                exact HF.out
            · have HE2 := Lib.hid (Hyes.out _ _ (HE.out.trans (if_neg hA)))
              obtain ⟨p', c', hsl, hh, hcc, hne, hnA⟩ := run_tailX (P := Tryz.prog) Tryz.underlying23 hi hz1 Hin.out.has Hin.out.cap r (k + 1) Hin.out.ne hlt
              have HF := Lib.hid (show NumX AA w r R (.returned (.int .i64 (A : Int))) (w.setCell ⟨r, 0, none⟩ (.slice p' (n - (k + 1)) c')) from
                ⟨by rw [HE2.out], by rw [HE2.out]; exact ⟨p', n - (k + 1), c', ⟨rd_set0 Hin.out _, HasB.set hh _ hne, hcc, hne, by rw [List.length_drop, Hn.out]; omega⟩, fun k hk => HA.out k (hnA k hk)⟩, Chg.setCell w ⟨r, 0, none⟩ _⟩)
              rw [Int.natCast_add, Int.natCast_one] at hsl
              clear hh hcc hne hnA
              rcases Nat.lt_or_ge 0 k with hk0 | hk0
              rotate_left
              · go_wp2_with fail
                go_ret
                exact HF.out
              · have hx0 : 0 < x := by omega
                go_wp2_with fail
                go_ret
                exact HF.out
          · have hgo2 := Hgo.out.trans (Hgo2.out hs h128)
            obtain ⟨h7, h72, h73⟩ := u64_seven ha (by omega) (show x < 256 by omega)
            have Hgn := Lib.hid (And.intro hgo2 h72)
            clear hgo2 h72
            generalize a + x % 128 * 128 ^ k = A at *
            rcases Nat.lt_or_ge 0 k with hk0 | hk0
            rotate_left
            · go_wp2_with fail
              go_round
              case rel => exact ⟨k + 1, A, by omega, by omega, by go_num, rfl, Hgn.out.2, Hgn.out.1⟩
              case measure => simp [intOf]; omega
            · have hx0 : 0 < x := by omega
              go_wp2_with fail
              go_round
              case rel => exact ⟨k + 1, A, by omega, by omega, by go_num, rfl, Hgn.out.2, Hgn.out.1⟩
              case measure => simp [intOf]; omega
    · have hkn : R.rest.drop k = [] := List.drop_of_length_le (by rw [Hn.out]; omega)
      rw [hkn] at hgo
      have HE := Lib.hid (Hno.out hgo)
      clear hgo hkn
      go_wp2_with fail
      refine Hbad.out.mono ?_
      rintro e w1 ⟨rfl, hr, hc⟩
      have HF := Lib.hid (show NumX AA w r R (.returned (.int .i64 0)) w1 from ⟨by rw [HE.out]; rfl, by rw [HE.out]; exact hr, hc⟩)
      clear hr hc
      go_wp2_with fail
      go_ret
      exact HF.out

set_option maxRecDepth 100000 in
set_option maxHeartbeats 2000000 in
theorem rbytesX_calls {A : Nat → Prop} {w : World} {r : Nat} {R : Rd} (h : RdX A w r R) :
    Calls Tryz.prog 82 #[.pointer (some ⟨r, 0, none⟩)] w (RowX A w r R.bytes.1 R.bytes.2) := by
  obtain ⟨p, n, c, h, hA⟩ := h
  have Hn := Lib.hid (numX_calls h hA)
  have hle := Rd.num_le R
  have HB := Lib.hid (show R.bytes = R.num.2.raw R.num.1 from rfl)
  clear h hA
  go_enter Tryz.func82, Tryz.ntmps82
  go_wp2_with fail
  refine Hn.out.mono ?_
  rintro e w1 ⟨rfl, ⟨p1, n1, c1, hr, hA1⟩, hc⟩
  have Hr := Lib.hid (rawX_calls hr hA1 (R.num.1 : Int) (by omega) (by omega))
  have Hc := Lib.hid hc
  rw [Int.toNat_natCast] at Hr
  clear hr hc Hn hA1
  generalize R.num.1 = m at *
  generalize R.num.2 = R1 at *
  go_wp2_with fail
  refine Hr.out.mono ?_
  rintro e w2 ⟨v, rfl, hv, hvn, hr2, hc2⟩
  have HE := Lib.hid (show RowX A w r R.bytes.1 R.bytes.2 (.returned v) w2 from ⟨v, rfl, by rw [HB.out]; exact hv, fun j hj => Nat.le_trans Hc.out.size (hvn j hj), by rw [HB.out]; exact hr2, Hc.out.trans hc2 fun _ _ e => e⟩)
  clear hv hvn hr2 hc2 Hr
  go_wp2_with fail
  go_ret
  exact HE.out

theorem newrdX_calls {w : World} {x : Value} {l : Bs} (h : HasB w x l) (hl : l.length ≤ 140737488355328) :
    Calls Tryz.prog 78 #[x] w fun e w' => ∃ r, e = .returned (.pointer (some ⟨r, 0, none⟩)) ∧ RdX (fun k => w.heap.size ≤ k ∧ k < r) w' r ⟨l, false⟩ ∧ w.heap.size ≤ r ∧ r < w'.heap.size ∧ Below w.heap.size w w' := by
  have Hc := Lib.hid (clone_calls h hl)
  clear h
  go_enter Tryz.func78, Tryz.ntmps78
  go_wp2_with fail
  refine Hc.out.mono ?_
  rintro e w1 ⟨v, rfl, hv, hvn, hb⟩
  obtain ⟨p, c, rfl, hcap⟩ := own_cap0 hv
  have HE := Lib.hid (show RdX (fun k => w.heap.size ≤ k ∧ k < w1.heap.size) (w1.alloc (.cells #[.slice p l.length c, .bool false] 166)) w1.heap.size ⟨l, false⟩ from
    ⟨p, l.length, c, ⟨new_block w1 _, has_alloc hv.has _, hcap, fun e => by have := OwnR.lt hv e; omega, hl⟩, fun k hk => ⟨hvn k hk, OwnR.lt hv hk⟩⟩)
  have HB := Lib.hid (And.intro hb.size (And.intro (show w1.heap.size < (w1.alloc (.cells #[.slice p l.length c, .bool false] 166)).heap.size from by simp) (hb.alloc hb.size (.cells #[.slice p l.length c, .bool false] 166))))
  clear hv hvn hb Hc
  generalize l.length = n at *
  go_wp2_with fail
  go_ret
  exact ⟨_, rfl, HE.out, HB.out⟩
end Go.Proofs.YtngflpaooppmhaaGreat

namespace Go.Proofs.YtngflpaooppmhaaGreat
open Go.RowKit Go.Sat Go.Maps

theorem setCell_heap {w u : World} (a : Addr) (v : Value) {b : Nat} (h : w.heap[b]? = u.heap[b]?) : (w.setCell a v).heap[b]? = (u.setCell a v).heap[b]? := by
  simp [World.setCell, Array.getElem?_modify, h]

/-- Numbers, laid into places. -/
def putN (w : World) : List Addr → List Int → World
  | a :: l, z :: zs => putN (w.setCell a (.int .i64 z)) l zs
  | _, _ => w
theorem putN_snoc : ∀ (l : List Addr) (zs : List Int) (w : World) (a : Addr) (z : Int), zs.length = l.length → putN w (l ++ [a]) (zs ++ [z]) = (putN w l zs).setCell a (.int .i64 z)
  | [], [], _, _, _, _ => rfl
  | _ :: l, _ :: zs, _, a, z, h => putN_snoc l zs _ a z (by simpa using h)
  | [], _ :: _, _, _, _, h => by simp at h
  | _ :: _, [], _, _, _, h => by simp at h

theorem ints_len : ∀ (k : Nat) (R : Rd), (Rd.ints k R).1.length = k
  | 0, _ => rfl
  | k + 1, R => by
    show ((R.num.1 : Int) :: (Rd.ints k R.num.2).1).length = _
    rw [List.length_cons, ints_len k]
theorem ints_snoc : ∀ (k : Nat) (R : Rd), Rd.ints (k + 1) R = ((Rd.ints k R).1 ++ [((Rd.ints k R).2.num.1 : Int)], (Rd.ints k R).2.num.2)
  | 0, R => rfl
  | k + 1, R => by
    show ((R.num.1 : Int) :: (Rd.ints (k + 1) R.num.2).1, (Rd.ints (k + 1) R.num.2).2) = _
    rw [ints_snoc k R.num.2]
    rfl
theorem ints_rest : ∀ (k : Nat) (R : Rd), (Rd.ints k R).2.rest.length ≤ R.rest.length
  | 0, _ => Nat.le_refl _
  | k + 1, R => Nat.le_trans (ints_rest k R.num.2) (Rd.num_rest R)

/-- Places that numbers may be laid into. -/
structure Places (w : World) (r : Nat) (ps : List Addr) : Prop where
  cell : ∀ a ∈ ps, ∃ z, w.cell? a = some (.int .i64 z)
  free : ∀ a ∈ ps, w.frozen? a = false
  ne : ∀ a ∈ ps, a.block ≠ r
  sp : ∀ a ∈ ps, a.spot = none

def NumsTold (A : Nat → Prop) (w : World) (r : Nat) (R : Rd) (ps : List Addr) (w' : World) : Prop :=
  RdX A w' r (Rd.ints ps.length R).2 ∧ Chg (fun b => b = r ∨ ∃ a ∈ ps, b = a.block) w w' ∧ ∀ b, b < w.heap.size → b ≠ r → w'.heap[b]? = (putN w ps (Rd.ints ps.length R).1).heap[b]?

theorem Places.chg {w w' : World} {r : Nat} {ps : List Addr} (h : Places w r ps) (hc : Chg (fun k => k = r) w w') : Places w' r ps := by
  have hb : ∀ a ∈ ps, w'.heap[a.block]? = w.heap[a.block]? := fun a ha => by
    obtain ⟨z, hz⟩ := h.cell a ha
    exact hc.block _ (World.block_lt_of_cell? _ _ hz) (h.ne a ha)
  exact ⟨fun a ha => by obtain ⟨z, hz⟩ := h.cell a ha; exact ⟨z, (World.cell?_of_block (hb a ha)).trans hz⟩, fun a ha => by have := h.free a ha; simpa [World.frozen?, hb a ha] using this, h.ne, h.sp⟩

theorem Places.set {w : World} {r : Nat} {ps : List Addr} (h : Places w r ps) {a : Addr} (ha : a ∈ ps) (z : Int) : Places (w.setCell a (.int .i64 z)) r ps := by
  have hcell : ∀ b, w.cell? b ≠ none → (∃ y, (w.setCell a (.int .i64 z)).cell? b = some y ∧ (y = .int .i64 z ∨ w.cell? b = some y)) := fun b hb => by
    by_cases e : a = b
    · subst e
      exact ⟨.int .i64 z, by obtain ⟨z', hz⟩ := h.cell a ha; exact World.cell?_setCell_same w a _ hz, .inl rfl⟩
    · rw [World.cell?_setCell_other (h := e)]
      cases hc : w.cell? b with
      | none => exact absurd hc hb
      | some y => exact ⟨y, rfl, .inr rfl⟩
  refine ⟨fun b hb => ?_, fun b hb => by rw [World.frozen?_setCell]; exact h.free b hb, h.ne, h.sp⟩
  · obtain ⟨z', hz⟩ := h.cell b hb
    obtain ⟨y, hy, he⟩ := hcell b (by rw [hz]; simp)
    rcases he with rfl | he
    · exact ⟨z, hy⟩
    · rw [hz] at he
      cases he
      exact ⟨z', hy⟩

set_option maxRecDepth 100000 in
set_option maxHeartbeats 4000000 in
theorem rnums_calls {A : Nat → Prop} {w : World} {r : Nat} {R : Rd} (h : RdX A w r R) {g c : Nat} {ps : List Addr} (hp : Places w r ps) (hl : ps.length ≤ 1000) (hg : ∀ i a, ps[i]? = some a → w.cell? ⟨g, i, none⟩ = some (.pointer (some a))) (hgr : g ≠ r) (hgn : ∀ a ∈ ps, a.block ≠ g) (hA : ∀ k, A k → k ≠ r ∧ ∀ a ∈ ps, k ≠ a.block) :
    Calls Tryz.prog 79 #[.pointer (some ⟨r, 0, none⟩), .slice (some ⟨g, 0, none⟩) ps.length c] w fun e w' => e = .returned (.tuple #[]) ∧ NumsTold A w r R ps w' := by
  have Hg := Lib.hid hg
  have H := Lib.hid h
  have Hp := Lib.hid hp
  have Hgr := Lib.hid hgr
  have Hgn := Lib.hid hgn
  have HA := Lib.hid hA
  clear h hp hg hgr hgn hA
  generalize hn : ps.length = n at *
  have Hn := Lib.hid hn
  clear hn
  go_enter Tryz.func79, Tryz.ntmps79
  go_wp2_with fail
  go_loopw [9] (fun i wr => ∃ k : Nat, k ≤ n ∧ i = .int .i64 k ∧ RdX A wr r (Rd.ints k R).2 ∧ Chg (fun b => b = r ∨ ∃ a ∈ ps, b = a.block) w wr ∧ Places wr r ps ∧ ∀ b, b < w.heap.size → b ≠ r → wr.heap[b]? = (putN w (ps.take k) (Rd.ints k R).1).heap[b]?) (fun i _ => n - (intOf i).toNat)
  case atStart => exact ⟨0, Nat.zero_le _, rfl, H.out, Chg.refl _ _, Hp.out, fun b _ _ => by rw [List.take_zero]; rfl⟩
  case round =>
    clear H Hp
    obtain ⟨k, hk, rfl, hrd, hch, hpl, hpu⟩ := hrel
    by_cases hlt : k < n
    · have hkl : k < ps.length := by rw [Hn.out]; exact hlt
      have ha := List.getElem?_eq_getElem hkl
      have ham := List.getElem_mem hkl
      have hcg := hch.cell (Hg.out k _ ha) (fun e => e.elim Hgr.out fun ⟨a, h1, h2⟩ => Hgn.out a h1 h2.symm)
      have Hsn := Lib.hid (ints_snoc k R)
      have HTk := Lib.hid (List.take_succ_eq_append_getElem hkl)
      generalize ps[k] = a at *
      have Hlen := Lib.hid (show ((Rd.ints k R).1).length = (ps.take k).length from by rw [ints_len, List.length_take, Nat.min_eq_left (by omega)])
      have Hnum := Lib.hid (show Calls Tryz.prog 81 #[.pointer (some ⟨r, 0, none⟩)] wr (NumX A wr r (Rd.ints k R).2) from by obtain ⟨_, _, _, h, ha⟩ := hrd; exact numX_calls h ha)
      have HX := Lib.hid (And.intro hch (And.intro hpl hpu))
      have Ham := Lib.hid ham
      have hle := Rd.num_le (Rd.ints k R).2
      clear hrd hch hpl hpu hkl ha ham
      generalize hRk : (Rd.ints k R).2 = Rk at *
      generalize hv : Rk.num.1 = v at *
      have HRk := Lib.hid hRk
      have Hv := Lib.hid hv
      clear hRk hv
      go_wp2_with fail
      refine Hnum.out.mono ?_
      rintro e w2 ⟨rfl, hr2, hc2⟩
      have hpl2 := HX.out.2.1.chg hc2
      have HP2 := Lib.hid hpl2
      obtain ⟨z, hz⟩ := hpl2.cell a Ham.out
      have hfz := hpl2.free a Ham.out
      have HR2 := Lib.hid hr2
      have HC2 := Lib.hid hc2
      rw [Hv.out]
      clear hr2 hc2 hpl2 Hnum
      go_wp2_with fail
      have HE := Lib.hid (show RdX A (w2.setCell a (.int .i64 (v : Int))) r (Rd.ints (k + 1) R).2 ∧ Chg (fun b => b = r ∨ ∃ a ∈ ps, b = a.block) w (w2.setCell a (.int .i64 (v : Int))) ∧ Places (w2.setCell a (.int .i64 (v : Int))) r ps ∧ ∀ b, b < w.heap.size → b ≠ r → (w2.setCell a (.int .i64 (v : Int))).heap[b]? = (putN w (ps.take (k + 1)) (Rd.ints (k + 1) R).1).heap[b]? from by
        rw [Hsn.out, HTk.out]
        refine ⟨HR2.out.chg (Chg.setCell w2 a _) (fun e => HP2.out.ne a Ham.out e.symm) (fun k hk e => (HA.out k hk).2 a Ham.out e), ?_, HP2.out.set Ham.out _, fun b hb hbr => ?_⟩
        · exact (HX.out.1.trans (HC2.out.mono (T := fun b => b = r ∨ ∃ a ∈ ps, b = a.block) fun _ _ e => .inl e) fun _ _ e => e).trans ((Chg.setCell w2 a (.int .i64 (v : Int))).mono (T := fun b => b = r ∨ ∃ a ∈ ps, b = a.block) fun _ _ e => .inr ⟨a, Ham.out, e⟩) fun _ _ e => e
        · rw [putN_snoc _ _ _ _ _ Hlen.out]
          exact setCell_heap _ _ ((HC2.out.block b (Nat.lt_of_lt_of_le hb HX.out.1.size) hbr).trans (HX.out.2.2 b hb hbr)))
      go_roundw
      case rel => exact ⟨k + 1, by omega, by go_num, HE.out⟩
      case measure => simp [intOf]; omega
    · have hkn : k = n := by omega
      have het : ps.take k = ps := List.take_of_length_le (by rw [Hn.out]; omega)
      rw [het, hkn] at hpu
      rw [hkn] at hrd
      have HE := Lib.hid (show NumsTold A w r R ps wr from ⟨by rw [Hn.out]; exact hrd, hch, by rw [Hn.out]; exact hpu⟩)
      clear hrd hch hpl hpu het hkn
      go_wp2_with fail
      go_end0
      exact ⟨rfl, HE.out⟩

/-- What a group that is read is told with. -/
def GrpTold (A : Nat → Prop) (w : World) (r : Nat) (g : List Int × Rd) (e : Ending) (w' : World) : Prop :=
  ∃ v, e = .returned v ∧ OwnI w' v g.1 ∧ (∀ k, v.ownBlock = some k → w.heap.size ≤ k) ∧ RdX A w' r g.2 ∧ Chg (fun k => k = r) w w'

theorem any_calls (w : World) (x : Value) : Calls Tryz.prog 130 #[x] w fun e w' => e = .returned (.bool true) ∧ w' = w := by
  go_enter Tryz.func130, Tryz.ntmps130
  go_wp2_with fail
  go_ret
  exact ⟨rfl, rfl⟩

theorem grp_big {may : List Int → Bool} {R : Rd} (h : 7 < R.num.1) : R.grp may = ([], Rd.fail) := by
  unfold Rd.grp
  rw [if_pos h]
theorem grp_small {may : List Int → Bool} {R : Rd} (h : ¬ 7 < R.num.1) : R.grp may = ((Rd.ints R.num.1 R.num.2).1, if may (Rd.ints R.num.1 R.num.2).1 then (Rd.ints R.num.1 R.num.2).2 else Rd.fail) := by
  unfold Rd.grp
  rw [if_neg h]

theorem grp_round {A : Nat → Prop} {w wr w3 w4 : World} {r k v : Nat} {xv v4 : Value} {zs : List Int} {R2 : Rd} {o : Obj} (hA : ∀ k, A k → k < w.heap.size ∧ k ≠ r) (hrl : r < w.heap.size) (hnew : ∀ y, xv.ownBlock = some y → w.heap.size ≤ y ∧ y ≠ r) (hch : Chg (fun k => k = r) w wr)
    (hr3 : RdX A w3 r R2) (hc3 : Chg (fun k => k = r) wr w3) (hik : zs.length = k) (hown : OwnR w4 3 1 v4 (k + 1) (intsV zs ++ [.int .i64 (v : Int)])) (hg : (w3.alloc o).grownBy w4 xv.ownBlock) (hloc : v4.ownBlock = xv.ownBlock ∨ ∃ g, v4.ownBlock = some g ∧ (w3.alloc o).heap.size ≤ g) :
    OwnI w4 v4 (zs ++ [(v : Int)]) ∧ (∀ y, v4.ownBlock = some y → w.heap.size ≤ y ∧ y ≠ r) ∧ RdX A w4 r R2 ∧ Chg (fun k => k = r) w w4 := by
  have hs1 := hch.size
  have hs3 := hc3.size
  have hb := below_one0 w3 o
  have hs4 := hb.size
  have hC : Chg (fun k => some k = xv.ownBlock) w3 w4 := ((Chg.of_below hb).mono fun _ _ e => e.elim).trans (Chg.of_grown hg) fun _ _ e => e
  refine ⟨?_, fun y hy => ?_, hr3.chg hC (fun e => (hnew r e.symm).2 rfl) (fun x hx e => by have h1 := (hnew x e.symm).1; have h2 := (hA x hx).1; omega), (hch.trans hc3 fun _ _ e => e).trans hC fun x hx e => by have := (hnew x e.symm).1; omega⟩
  · unfold OwnI intsV
    rw [List.length_append, hik, List.map_append]
    exact hown
  · rcases hloc with e | ⟨g, e, hge⟩
    · exact hnew y (e ▸ hy)
    · rw [hy] at e
      cases e
      exact ⟨by omega, by omega⟩

set_option maxRecDepth 100000 in
set_option maxHeartbeats 4000000 in
theorem readGrp_grp {A : Nat → Prop} {w : World} {r : Nat} {R : Rd} (h : RdX A w r R) (hA : ∀ k, A k → k < w.heap.size ∧ k ≠ r) :
    Calls Tryz.prog 99 #[.pointer (some ⟨r, 0, none⟩), .func (.func 52) #[] #[]] w (GrpTold A w r (R.grp isGrp)) := by
  obtain ⟨i0, hi, hz0, hz1, hz2⟩ := info_parts (show (Tryz.prog.info? 3).map (fun i => (i.zero, i.size, i.bytes)) = some (some (.int .i64 0), 1, 8) by kernel_rfl)
  have Hnum := Lib.hid (show Calls Tryz.prog 81 #[.pointer (some ⟨r, 0, none⟩)] w (NumX A w r R) from by obtain ⟨_, _, _, h, ha⟩ := h; exact numX_calls h ha)
  have hle := Rd.num_le R
  have HB := Lib.hid (grp_big (may := isGrp) (R := R))
  have HS := Lib.hid (grp_small (may := isGrp) (R := R))
  have HA := Lib.hid hA
  have Hrl := Lib.hid h.lt
  clear h hA
  generalize R.grp isGrp = G at *
  generalize hn : R.num.1 = n at *
  generalize hR1 : R.num.2 = R1 at *
  have Hn := Lib.hid hn
  have HR1 := Lib.hid hR1
  clear hn hR1
  go_enter Tryz.func99, Tryz.ntmps99
  go_wp2_with fail
  refine Hnum.out.mono ?_
  rintro e w2 ⟨rfl, hr2, hc2⟩
  rw [HR1.out] at hr2
  rw [Hn.out]
  have HR2 := Lib.hid hr2
  have HC2 := Lib.hid hc2
  by_cases h7 : 7 < n
  · have Hbad := Lib.hid (show Calls Tryz.prog 118 #[.pointer (some ⟨r, 0, none⟩)] w2 (RStepX A w2 r Rd.fail (.tuple #[])) from by obtain ⟨_, _, _, h, _⟩ := hr2; exact badX_calls h)
    have HG := Lib.hid (HB.out h7)
    clear hr2 hc2 Hnum
    go_wp2_with fail
    refine Hbad.out.mono ?_
    rintro e w3 ⟨rfl, hr3, hc3⟩
    have HE := Lib.hid (show GrpTold A w r G (.returned (.slice none 0 0)) w3 from ⟨.slice none 0 0, rfl, by rw [HG.out]; exact OwnR.nil _ _ _, fun k hk => (by cases hk), by rw [HG.out]; exact hr3, HC2.out.trans hc3 fun _ _ e => e⟩)
    clear hr3 hc3 Hbad
    go_wp2_with fail
    go_ret
    exact HE.out
  · have HG := Lib.hid (HS.out h7)
    have hn7 : n ≤ 7 := by omega
    clear hr2 hc2 Hnum
    go_wp2_with fail
    go_loopw [6, 14] (fun x i wr => ∃ (k : Nat) (xv : Value), k ≤ n ∧ i = .int .i64 k ∧ xv = x ∧ OwnI wr xv (Rd.ints k R1).1 ∧ (∀ y, xv.ownBlock = some y → w.heap.size ≤ y ∧ y ≠ r) ∧ RdX A wr r (Rd.ints k R1).2 ∧ Chg (fun k => k = r) w wr) (fun _ i _ => n - (intOf i).toNat)
    case atStart => exact ⟨0, _, Nat.zero_le _, rfl, rfl, OwnR.nil _ _ _, fun y hy => (by cases hy), HR2.out, HC2.out⟩
    case round =>
      clear HR2 HC2
      obtain ⟨k, xv, hk, rfl, rfl, hown, hnew, hrd, hch⟩ := hrel
      by_cases hlt : k < n
      · have Hnm := Lib.hid (show Calls Tryz.prog 81 #[.pointer (some ⟨r, 0, none⟩)] wr (NumX A wr r (Rd.ints k R1).2) from by obtain ⟨_, _, _, h, ha⟩ := hrd; exact numX_calls h ha)
        have Hsn := Lib.hid (ints_snoc k R1)
        have hik := ints_len k R1
        have HX := Lib.hid (And.intro hown (And.intro hnew hch))
        have Hrow := Lib.hid (show OwnR wr 3 1 xv k (intsV (Rd.ints k R1).1) from by have := hown; unfold OwnI at this; rwa [hik] at this)
        have Hik := Lib.hid hik
        have hle2 := Rd.num_le (Rd.ints k R1).2
        have Hsn2 := Lib.hid Hsn.out
        clear hown hnew hrd hch hik
        generalize hv : (Rd.ints k R1).2.num.1 = v at *
        have Hv := Lib.hid hv
        clear hv
        go_wp2_with fail
        refine Hnm.out.mono ?_
        rintro e w3 ⟨rfl, hr3, hc3⟩
        have HR3 := Lib.hid hr3
        have HC3 := Lib.hid hc3
        rw [Hv.out]
        have Hrow3 := Lib.hid (Hrow.out.keep fun y hy => hc3.block y (OwnR.lt Hrow.out hy) fun e => (HX.out.2.1 y hy).2 e)
        clear hr3 hc3 Hnm
        go_wp2_with (at_builtin; have hal := Hrow3.out.keep (w' := w3.alloc (.cells #[.int .i64 (v : Int)] 3)) (fun z hz => (below_one0 w3 _).block z (OwnR.lt Hrow3.out hz)); have hxx := slit_one w3 (.int .i64 (v : Int)) 3 (0, 0); refine wpList_app _ rfl (.tmp 16) (.tmp 19) 45 rfl 3 i0 (.int .i64 0) 1 8 Tryz.underlying45 hi hz0 hz1 hz2 rfl (by decide) xv k _ rfl hal (.slice (some ⟨w3.heap.size, 0, none⟩) 1 1) 1 _ rfl hxx (by simp [Value.oneCell']) (by unfold maxLen; omega) (by omega) ?_; clear hal hxx; intro v4 w4 hown4 hgrow4 hloc4; go_loud (have HE := Lib.hid (grp_round (v := v) HA.out Hrl.out HX.out.2.1 HX.out.2.2 HR3.out HC3.out Hik.out hown4 hgrow4 hloc4); clear hgrow4 hloc4; obtain ⟨p4, q4, rfl⟩ := OwnR.shape hown4; clear hown4))
        go_roundw
        case rel => exact ⟨k + 1, _, by omega, by go_num, rfl, by rw [Hsn2.out]; exact HE.out.1, HE.out.2.1, by rw [Hsn2.out]; exact HE.out.2.2.1, HE.out.2.2.2⟩
        case measure => simp [intOf]; omega
      · have hkn : k = n := by omega
        subst hkn
        have hlen := ints_len k R1
        obtain ⟨px, cx, e1, -⟩ := own_capI hown
        have Hmay := Lib.hid (show Calls Tryz.prog 52 #[xv] wr fun e w' => e = .returned (.bool (isGrp (Rd.ints k R1).1)) ∧ w' = wr from by rw [e1]; exact isgrp_calls (by rw [← e1]; exact OwnI.has hown) (by omega))
        have Hbad := Lib.hid (show Calls Tryz.prog 118 #[.pointer (some ⟨r, 0, none⟩)] wr (RStepX A wr r Rd.fail (.tuple #[])) from by obtain ⟨_, _, _, h, _⟩ := hrd; exact badX_calls h)
        have HX := Lib.hid (And.intro hown (And.intro hnew (And.intro hch hrd)))
        have HXS := Lib.hid (show xv.ownBlock ≠ some r from fun e => (hnew r e).2 rfl)
        subst e1
        clear hown hnew hch hrd hlen
        cases hmy : isGrp (Rd.ints k R1).1 with
        | false =>
          rw [hmy] at Hmay HG
          go_wp2_with fail
          refine Hmay.out.mono ?_
          rintro e w3 ⟨rfl, rfl⟩
          go_wp2_with fail
          refine Hbad.out.mono ?_
          rintro e w4 ⟨rfl, hr4, hc4⟩
          have HE := Lib.hid (show GrpTold A w r G (.returned (.slice px (Rd.ints k R1).1.length cx)) w4 from ⟨_, rfl, by rw [HG.out]; exact OwnR.keep HX.out.1 fun y hy => hc4.block y (OwnR.lt HX.out.1 hy) fun e => HXS.out (e ▸ hy), fun y hy => (HX.out.2.1 y hy).1, by rw [HG.out]; exact hr4, HX.out.2.2.1.trans hc4 fun _ _ e => e⟩)
          clear hr4 hc4 Hbad
          go_wp2_with fail
          go_ret
          exact HE.out
        | true =>
          rw [hmy] at Hmay HG
          have HE := Lib.hid (show GrpTold A w r G (.returned (.slice px (Rd.ints k R1).1.length cx)) wr from ⟨_, rfl, by rw [HG.out]; exact HX.out.1, fun y hy => (HX.out.2.1 y hy).1, by rw [HG.out]; exact HX.out.2.2.2, HX.out.2.2.1⟩)
          go_wp2_with fail
          refine Hmay.out.mono ?_
          rintro e w3 ⟨rfl, rfl⟩
          go_wp2_with fail
          go_ret
          exact HE.out

set_option maxRecDepth 100000 in
set_option maxHeartbeats 4000000 in
theorem readGrp_any {A : Nat → Prop} {w : World} {r : Nat} {R : Rd} (h : RdX A w r R) (hA : ∀ k, A k → k < w.heap.size ∧ k ≠ r) :
    Calls Tryz.prog 99 #[.pointer (some ⟨r, 0, none⟩), .func (.func 130) #[] #[]] w (GrpTold A w r (R.grp anyG)) := by
  obtain ⟨i0, hi, hz0, hz1, hz2⟩ := info_parts (show (Tryz.prog.info? 3).map (fun i => (i.zero, i.size, i.bytes)) = some (some (.int .i64 0), 1, 8) by kernel_rfl)
  have Hnum := Lib.hid (show Calls Tryz.prog 81 #[.pointer (some ⟨r, 0, none⟩)] w (NumX A w r R) from by obtain ⟨_, _, _, h, ha⟩ := h; exact numX_calls h ha)
  have hle := Rd.num_le R
  have HB := Lib.hid (grp_big (may := anyG) (R := R))
  have HS := Lib.hid (grp_small (may := anyG) (R := R))
  have HA := Lib.hid hA
  have Hrl := Lib.hid h.lt
  clear h hA
  generalize R.grp anyG = G at *
  generalize hn : R.num.1 = n at *
  generalize hR1 : R.num.2 = R1 at *
  have Hn := Lib.hid hn
  have HR1 := Lib.hid hR1
  clear hn hR1
  go_enter Tryz.func99, Tryz.ntmps99
  go_wp2_with fail
  refine Hnum.out.mono ?_
  rintro e w2 ⟨rfl, hr2, hc2⟩
  rw [HR1.out] at hr2
  rw [Hn.out]
  have HR2 := Lib.hid hr2
  have HC2 := Lib.hid hc2
  by_cases h7 : 7 < n
  · have Hbad := Lib.hid (show Calls Tryz.prog 118 #[.pointer (some ⟨r, 0, none⟩)] w2 (RStepX A w2 r Rd.fail (.tuple #[])) from by obtain ⟨_, _, _, h, _⟩ := hr2; exact badX_calls h)
    have HG := Lib.hid (HB.out h7)
    clear hr2 hc2 Hnum
    go_wp2_with fail
    refine Hbad.out.mono ?_
    rintro e w3 ⟨rfl, hr3, hc3⟩
    have HE := Lib.hid (show GrpTold A w r G (.returned (.slice none 0 0)) w3 from ⟨.slice none 0 0, rfl, by rw [HG.out]; exact OwnR.nil _ _ _, fun k hk => (by cases hk), by rw [HG.out]; exact hr3, HC2.out.trans hc3 fun _ _ e => e⟩)
    clear hr3 hc3 Hbad
    go_wp2_with fail
    go_ret
    exact HE.out
  · have HG := Lib.hid (HS.out h7)
    have hn7 : n ≤ 7 := by omega
    clear hr2 hc2 Hnum
    go_wp2_with fail
    go_loopw [6, 14] (fun x i wr => ∃ (k : Nat) (xv : Value), k ≤ n ∧ i = .int .i64 k ∧ xv = x ∧ OwnI wr xv (Rd.ints k R1).1 ∧ (∀ y, xv.ownBlock = some y → w.heap.size ≤ y ∧ y ≠ r) ∧ RdX A wr r (Rd.ints k R1).2 ∧ Chg (fun k => k = r) w wr) (fun _ i _ => n - (intOf i).toNat)
    case atStart => exact ⟨0, _, Nat.zero_le _, rfl, rfl, OwnR.nil _ _ _, fun y hy => (by cases hy), HR2.out, HC2.out⟩
    case round =>
      clear HR2 HC2
      obtain ⟨k, xv, hk, rfl, rfl, hown, hnew, hrd, hch⟩ := hrel
      by_cases hlt : k < n
      · have Hnm := Lib.hid (show Calls Tryz.prog 81 #[.pointer (some ⟨r, 0, none⟩)] wr (NumX A wr r (Rd.ints k R1).2) from by obtain ⟨_, _, _, h, ha⟩ := hrd; exact numX_calls h ha)
        have Hsn := Lib.hid (ints_snoc k R1)
        have hik := ints_len k R1
        have HX := Lib.hid (And.intro hown (And.intro hnew hch))
        have Hrow := Lib.hid (show OwnR wr 3 1 xv k (intsV (Rd.ints k R1).1) from by have := hown; unfold OwnI at this; rwa [hik] at this)
        have Hik := Lib.hid hik
        have hle2 := Rd.num_le (Rd.ints k R1).2
        have Hsn2 := Lib.hid Hsn.out
        clear hown hnew hrd hch hik
        generalize hv : (Rd.ints k R1).2.num.1 = v at *
        have Hv := Lib.hid hv
        clear hv
        go_wp2_with fail
        refine Hnm.out.mono ?_
        rintro e w3 ⟨rfl, hr3, hc3⟩
        have HR3 := Lib.hid hr3
        have HC3 := Lib.hid hc3
        rw [Hv.out]
        have Hrow3 := Lib.hid (Hrow.out.keep fun y hy => hc3.block y (OwnR.lt Hrow.out hy) fun e => (HX.out.2.1 y hy).2 e)
        clear hr3 hc3 Hnm
        go_wp2_with (at_builtin; have hal := Hrow3.out.keep (w' := w3.alloc (.cells #[.int .i64 (v : Int)] 3)) (fun z hz => (below_one0 w3 _).block z (OwnR.lt Hrow3.out hz)); have hxx := slit_one w3 (.int .i64 (v : Int)) 3 (0, 0); refine wpList_app _ rfl (.tmp 16) (.tmp 19) 45 rfl 3 i0 (.int .i64 0) 1 8 Tryz.underlying45 hi hz0 hz1 hz2 rfl (by decide) xv k _ rfl hal (.slice (some ⟨w3.heap.size, 0, none⟩) 1 1) 1 _ rfl hxx (by simp [Value.oneCell']) (by unfold maxLen; omega) (by omega) ?_; clear hal hxx; intro v4 w4 hown4 hgrow4 hloc4; go_loud (have HE := Lib.hid (grp_round (v := v) HA.out Hrl.out HX.out.2.1 HX.out.2.2 HR3.out HC3.out Hik.out hown4 hgrow4 hloc4); clear hgrow4 hloc4; obtain ⟨p4, q4, rfl⟩ := OwnR.shape hown4; clear hown4))
        go_roundw
        case rel => exact ⟨k + 1, _, by omega, by go_num, rfl, by rw [Hsn2.out]; exact HE.out.1, HE.out.2.1, by rw [Hsn2.out]; exact HE.out.2.2.1, HE.out.2.2.2⟩
        case measure => simp [intOf]; omega
      · have hkn : k = n := by omega
        subst hkn
        have hlen := ints_len k R1
        obtain ⟨px, cx, e1, -⟩ := own_capI hown
        have Hmay := Lib.hid (show Calls Tryz.prog 130 #[xv] wr fun e w' => e = .returned (.bool (anyG (Rd.ints k R1).1)) ∧ w' = wr from by exact any_calls wr xv)
        have Hbad := Lib.hid (show Calls Tryz.prog 118 #[.pointer (some ⟨r, 0, none⟩)] wr (RStepX A wr r Rd.fail (.tuple #[])) from by obtain ⟨_, _, _, h, _⟩ := hrd; exact badX_calls h)
        have HX := Lib.hid (And.intro hown (And.intro hnew (And.intro hch hrd)))
        have HXS := Lib.hid (show xv.ownBlock ≠ some r from fun e => (hnew r e).2 rfl)
        subst e1
        clear hown hnew hch hrd hlen
        cases hmy : anyG (Rd.ints k R1).1 with
        | false =>
          rw [hmy] at Hmay HG
          go_wp2_with fail
          refine Hmay.out.mono ?_
          rintro e w3 ⟨rfl, rfl⟩
          go_wp2_with fail
          refine Hbad.out.mono ?_
          rintro e w4 ⟨rfl, hr4, hc4⟩
          have HE := Lib.hid (show GrpTold A w r G (.returned (.slice px (Rd.ints k R1).1.length cx)) w4 from ⟨_, rfl, by rw [HG.out]; exact OwnR.keep HX.out.1 fun y hy => hc4.block y (OwnR.lt HX.out.1 hy) fun e => HXS.out (e ▸ hy), fun y hy => (HX.out.2.1 y hy).1, by rw [HG.out]; exact hr4, HX.out.2.2.1.trans hc4 fun _ _ e => e⟩)
          clear hr4 hc4 Hbad
          go_wp2_with fail
          go_ret
          exact HE.out
        | true =>
          rw [hmy] at Hmay HG
          have HE := Lib.hid (show GrpTold A w r G (.returned (.slice px (Rd.ints k R1).1.length cx)) wr from ⟨_, rfl, by rw [HG.out]; exact HX.out.1, fun y hy => (HX.out.2.1 y hy).1, by rw [HG.out]; exact HX.out.2.2.2, HX.out.2.2.1⟩)
          go_wp2_with fail
          refine Hmay.out.mono ?_
          rintro e w3 ⟨rfl, rfl⟩
          go_wp2_with fail
          go_ret
          exact HE.out
end Go.Proofs.YtngflpaooppmhaaGreat
