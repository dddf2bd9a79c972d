/- Take of a node alone. (Printed by mkra12.py.) The journal of a node alone (plain laws). A node alone from its opening on; what known of satrapylaw6 answers. (Printed by mkra13.py.) RaftAlone: a node that leads proposes, asks; what it then has (from one thing done to the next). The contract of satrapylaw6.same. The walk of satrapylaw6.RaftAlone: it is true. What a nil node answers. (Printed by mkra14.py.) Hear of a nil node. (Printed by mkra15.py.) The lexical order of a great region, shown in parts (the kernel's memory). No program. RaftOfNothing: the walk. (Printed by mkra16.py.) Arguments that are rows of numbers. An argument that is a message. -/
import Derived.Lib.SmallJoins
import Derived.Test.YtngflpaooppmhaaGreatWA
import Derived.Test.YtngflpaooppmhaaGreatWB
import Derived.Test.YtngflpaooppmhaaGreatWC
import Derived.Test.YtngflpaooppmhaaGreatWI
import Derived.Test.YtngflpaooppmhaaGreatWK
namespace Go.Proofs.YtngflpaooppmhaaGreat
open Go.RowKit Go.Sat Go.Maps

section
variable {w w1 w2 : World} {r j d : Nat} {id : Int} {D D1 D' : DiskM} {M M1 M' : JouM} {s s' : RaS} {F F' : Nat → Prop}
/-- Blocks set apart are written, some are new. -/
theorem RaF.move {T : Nat → Prop} (h : RaF w w1 r j d id D M s F) (hc : Chg T w1 w2) (hT : ∀ k, k < w1.heap.size → T k → F k ∧ w.heap.size ≤ k) (hF : ∀ k, F' k → F k ∨ (w1.heap.size ≤ k ∧ k < w2.heap.size)) : RaF w w2 r j d id D M s F' := by
  obtain ⟨pv, wv, sv, hJ, hI⟩ := h
  have hne : ∀ k, k = r ∨ wv.ownBlock = some k ∨ sv.ownBlock = some k → ¬ T k := fun k hk e => by
    have hl := hI.lt hk
    rcases hk with rfl | hk | hk
    · exact hI.nF (hT _ hl e).1
    · exact (hI.nw k hk).2.2 (hT k hl e).1
    · exact (hI.ns k hk).2.2.1 (hT k hl e).1
  have hf : ∀ k, (k = r ∨ wv.ownBlock = some k ∨ sv.ownBlock = some k) → ¬ F k → ¬ F' k := fun k hk hn e => by
    have hl := hI.lt hk
    rcases hF k e with e | e
    · exact hn e
    · omega
  have hsz := hc.size
  refine ⟨pv, wv, sv, hJ.move hc (fun k hl e => ⟨.inl (hT k hl e).1, (hT k hl e).2⟩) fun k hk => ?_, ⟨(hc.block r (hI.lt (.inl rfl)) (hne r (.inl rfl))).trans hI.cells, hI.rge, hf r (.inl rfl) hI.nF, hI.ow.keep fun k hk => hc.block k (hI.ow.lt hk) (hne k (.inr (.inl hk))), hI.os.keep fun k hk => hc.block k (OwnR.lt hI.os hk) (hne k (.inr (.inr hk))), fun k hk => ⟨(hI.nw k hk).1, (hI.nw k hk).2.1, hf k (.inr (.inl hk)) (hI.nw k hk).2.2⟩, fun k hk => ⟨(hI.ns k hk).1, (hI.ns k hk).2.1, hf k (.inr (.inr hk)) (hI.ns k hk).2.2.1, (hI.ns k hk).2.2.2⟩⟩⟩
  rcases hk with hk | hk
  · rcases hF k hk with hk | hk
    · exact ⟨.inl (.inl hk), by have := hJ.flt (.inl hk); omega⟩
    · exact ⟨.inr hk.1, hk.2⟩
  · exact ⟨.inl (.inr hk), by have := hI.lt hk; omega⟩

/-- What was taken so far. -/
structure TakeS (w w1 W : World) (r j d : Nat) (id : Int) (D : DiskM) (M : JouM) (s : RaS) (F : Nat → Prop) (a b k : Nat) (ev : Value) (vs : List EV) : Prop where
  ra : RaF w W r j d id D M { s with taken := k } (fun x => ((F x ∨ x = a) ∨ x = b) ∨ ev.ownBlock = some x)
  ta : W.heap[a]? = some (.cells #[.bool false, .slice none 0 0, .int .i64 0, .slice none 0 0] 40 (0, 0))
  tb : W.heap[b]? = some (.cells #[.bool false, .slice none 0 0, .int .i64 0, ev] 40 (0, 0))
  own : OwnR W 47 4 ev k (entsC (M.entries.take k) vs)
  at_ : EntsAt W (M.entries.take k) vs
  ne : ∀ x, ev.ownBlock = some x → w1.heap.size ≤ x ∧ x ≠ a ∧ x ≠ b
  nv : ∀ u ∈ vs, ∀ x, (u.1.ownBlock = some x ∨ u.2.ownBlock = some x) → w1.heap.size ≤ x ∧ x ≠ a ∧ x ≠ b ∧ ev.ownBlock ≠ some x
  ab : w1.heap.size ≤ a ∧ a < b ∧ w.heap.size ≤ w1.heap.size ∧ r < w1.heap.size
  fl : ∀ x, F x → x < w1.heap.size
  fs : ∀ x, F x → W.heap[x]? = w1.heap[x]?

theorem put_ent {W : World} {e0 : Nat} {a0 a1 a2 a3 : Value} {t : TypeId} (h : W.heap[e0]? = some (.cells #[a0, a1, a2, a3] t (0, 0))) (x y : Int) (u v : Value) :
    ((((W.setCell ⟨e0, 0, none⟩ (.int .i64 x)).setCell ⟨e0, 1, none⟩ (.int .i64 y)).setCell ⟨e0, 2, none⟩ u).setCell ⟨e0, 3, none⟩ v).heap[e0]? = some (.cells #[.int .i64 x, .int .i64 y, u, v] t (0, 0)) ∧ Chg (fun k => k = e0) W ((((W.setCell ⟨e0, 0, none⟩ (.int .i64 x)).setCell ⟨e0, 1, none⟩ (.int .i64 y)).setCell ⟨e0, 2, none⟩ u).setCell ⟨e0, 3, none⟩ v) := by
  refine ⟨?_, ?_⟩
  · have h1 := set_block h 0 (.int .i64 x)
    have h2 := set_block h1 1 (.int .i64 y)
    have h3 := set_block h2 2 u
    have h4 := set_block h3 3 v
    simpa using h4
  · have c1 := Chg.setCell W ⟨e0, 0, none⟩ (.int .i64 x)
    have c2 := Chg.setCell (W.setCell ⟨e0, 0, none⟩ (.int .i64 x)) ⟨e0, 1, none⟩ (.int .i64 y)
    have c3 := Chg.setCell ((W.setCell ⟨e0, 0, none⟩ (.int .i64 x)).setCell ⟨e0, 1, none⟩ (.int .i64 y)) ⟨e0, 2, none⟩ u
    have c4 := Chg.setCell (((W.setCell ⟨e0, 0, none⟩ (.int .i64 x)).setCell ⟨e0, 1, none⟩ (.int .i64 y)).setCell ⟨e0, 2, none⟩ u) ⟨e0, 3, none⟩ v
    exact ((c1.trans c2 fun _ _ e => e).trans c3 fun _ _ e => e).trans c4 fun _ _ e => e
theorem EntsAt.keep {W W' : World} {es : List Ent} {vs : List EV} (h : EntsAt W es vs) (hs : ∀ u ∈ vs, ∀ x, (u.1.ownBlock = some x ∨ u.2.ownBlock = some x) → W'.heap[x]? = W.heap[x]?) : EntsAt W' es vs :=
  ⟨h.1, fun i e v he hv => (h.2 i e v he hv).keep fun x hx => hs v (List.mem_of_getElem? hv) x hx⟩
theorem EntsAt.lt {W : World} {es : List Ent} {vs : List EV} (h : EntsAt W es vs) {u : EV} (hu : u ∈ vs) {x : Nat} (hx : u.1.ownBlock = some x ∨ u.2.ownBlock = some x) : x < W.heap.size := by
  obtain ⟨i, hi⟩ := List.getElem?_of_mem hu
  have hl : i < es.length := by rw [← h.1]; exact (List.getElem?_eq_some_iff.1 hi).1
  exact (h.2 i _ _ (List.getElem?_eq_getElem hl) hi).lt hx
theorem TakeS.next {W W' : World} {a b k : Nat} {ev : Value} {vs : List EV} (h : TakeS w w1 W r j d id D M s F a b k ev vs) (hb : Below W.heap.size W W') : TakeS w w1 W' r j d id D M s F a b k ev vs where
  ra := h.ra.next hb
  ta := (hb.block a (lt_of_block h.ta)).trans h.ta
  tb := (hb.block b (lt_of_block h.tb)).trans h.tb
  own := h.own.keep fun x hx => hb.block x (OwnR.lt h.own hx)
  at_ := h.at_.keep fun u hu x hx => hb.block x (h.at_.lt hu hx)
  ne := h.ne
  nv := h.nv
  ab := h.ab
  fl := h.fl
  fs := fun x hx => (hb.block x (h.ra.flt (.inl (.inl (.inl hx))))).trans (h.fs x hx)

theorem TakeS.push {W w7 : World} {a b k : Nat} {ev v7 : Value} {vs : List EV} {e : Ent} {v : EV} (h : TakeS w w1 W r j d id D M s F a b k ev vs) (he : M.entries[k]? = some e) (hv : EntAt W e v) (hn : ∀ x, (v.1.ownBlock = some x ∨ v.2.ownBlock = some x) → w1.heap.size ≤ x ∧ x ≠ a ∧ x ≠ b ∧ ev.ownBlock ≠ some x) (O : Obj)
    (hown : OwnR w7 47 4 v7 (k + 1) (entsC (M.entries.take k) vs ++ entC e v)) (hg : (W.alloc O).grownBy w7 ev.ownBlock) (hloc : v7.ownBlock = ev.ownBlock ∨ ∃ g, v7.ownBlock = some g ∧ (W.alloc O).heap.size ≤ g) :
    TakeS w w1 ((w7.setCell ⟨b, 3, none⟩ v7).setCell ⟨r, 5, none⟩ (.int .i64 ((k + 1 : Nat) : Int))) r j d id D M s F a b (k + 1) v7 (vs ++ [v]) := by
  obtain ⟨hab1, hab2, hab3, hab4⟩ := h.ab
  have hs0 : W.heap.size ≤ (W.alloc O).heap.size := (Chg.alloc W O).size
  have hc1 : Chg (fun x => ev.ownBlock = some x) W w7 := ((Chg.alloc W O).mono fun _ _ e => e.elim).trans ((Chg.of_grown hg).mono fun _ _ e => e.symm) fun _ _ e => e
  have hs7 := hc1.size
  have hal := lt_of_block h.ta
  have hbl := lt_of_block h.tb
  have hW := h.ra.bel.size
  have hrl : r < W.heap.size := by
    obtain ⟨_, _, _, hcc⟩ := h.ra.cells
    exact lt_of_block hcc
  have hnv7 : ∀ x, v7.ownBlock = some x → (ev.ownBlock = some x ∨ W.heap.size ≤ x) ∧ x < w7.heap.size := fun x hx => ⟨by
    rcases hloc with e1 | ⟨g, e1, e2⟩
    · exact .inl (e1 ▸ hx)
    · rw [e1] at hx
      have := Option.some.inj hx
      exact .inr (by omega), OwnR.lt hown hx⟩
  have hne7 : ∀ x, v7.ownBlock = some x → w1.heap.size ≤ x ∧ x ≠ a ∧ x ≠ b := fun x hx => by
    rcases (hnv7 x hx).1 with e1 | e1
    · exact h.ne x e1
    · exact ⟨by omega, by omega, by omega⟩
  have hra7 := h.ra.move (F' := fun x => ((F x ∨ x = a) ∨ x = b) ∨ v7.ownBlock = some x) hc1 (fun x _ e => ⟨.inr e, by have := (h.ne x e).1; omega⟩) fun x hx => by
    rcases hx with hx | hx
    · exact .inl (.inl hx)
    · rcases (hnv7 x hx).1 with e1 | e1
      · exact .inl (.inr e1)
      · exact .inr ⟨e1, (hnv7 x hx).2⟩
  have hc2 := Chg.setCell w7 ⟨b, 3, none⟩ v7
  have hra8 := hra7.move (F' := fun x => ((F x ∨ x = a) ∨ x = b) ∨ v7.ownBlock = some x) hc2 (fun x _ e => by
    have e : x = b := e
    rw [e]
    exact ⟨.inl (.inr rfl), by omega⟩) fun x hx => .inl hx
  have hra9 := hra8.set 5 (.int .i64 ((k + 1 : Nat) : Int)) (s' := { s with taken := k + 1 }) (fun pv wv sv => ⟨pv, rfl⟩) rfl
  have hblk : ∀ x, ev.ownBlock ≠ some x → x ≠ b → x ≠ r → x < W.heap.size → ((w7.setCell ⟨b, 3, none⟩ v7).setCell ⟨r, 5, none⟩ (.int .i64 ((k + 1 : Nat) : Int))).heap[x]? = W.heap[x]? := fun x h1 h2 h3 h4 => (set_other _ h3).trans ((set_other _ h2).trans (hc1.block x h4 h1))
  have hblk7 : ∀ x, x ≠ b → x ≠ r → ((w7.setCell ⟨b, 3, none⟩ v7).setCell ⟨r, 5, none⟩ (.int .i64 ((k + 1 : Nat) : Int))).heap[x]? = w7.heap[x]? := fun x h2 h3 => (set_other _ h3).trans (set_other _ h2)
  have hkl := (List.getElem?_eq_some_iff.1 he).1
  have htk : M.entries.take (k + 1) = M.entries.take k ++ [e] := by
    rw [List.take_succ_eq_append_getElem hkl]
    rw [List.getElem?_eq_getElem hkl] at he
    rw [Option.some.inj he]
  have hlk : (M.entries.take k).length = k := by rw [List.length_take]; omega
  have hvl : vs.length = k := by rw [h.at_.1, hlk]
  have htb7 : w7.heap[b]? = some (.cells #[.bool false, .slice none 0 0, .int .i64 0, ev] 40 (0, 0)) := (hc1.block b hbl fun e => (h.ne b e).2.2 rfl).trans h.tb
  exact {
    ra := hra9
    ta := (hblk a (fun e => (h.ne a e).2.1 rfl) (by omega) (by omega) hal).trans h.ta
    tb := (set_other _ (show b ≠ r by omega)).trans (by
      have := set_block htb7 3 v7
      simpa using this)
    own := by
      rw [htk, entsC_app (M.entries.take k) vs [e] [v] h.at_.1]
      exact hown.keep fun x hx => hblk7 x (hne7 x hx).2.2 (by have := (hne7 x hx).1; omega)
    at_ := by
      rw [htk]
      refine ⟨by rw [List.length_append, List.length_append, h.at_.1]; rfl, fun i e' v' he' hv' => ?_⟩
      by_cases hi : i < k
      · rw [List.getElem?_append_left (by omega)] at he' hv'
        have hm := List.mem_of_getElem? hv'
        exact (h.at_.2 i e' v' he' hv').keep fun x hx => hblk x (h.nv v' hm x hx).2.2.2 (h.nv v' hm x hx).2.2.1 (by have := (h.nv v' hm x hx).1; omega) (h.at_.lt hm hx)
      · rw [List.getElem?_append_right (by omega)] at he' hv'
        rw [hlk] at he'
        rw [hvl] at hv'
        cases hik : i - k with
        | zero =>
          rw [hik] at he' hv'
          cases he'
          cases hv'
          exact hv.keep fun x hx => hblk x (hn x hx).2.2.2 (hn x hx).2.2.1 (by have := (hn x hx).1; omega) (hv.lt hx)
        | succ i =>
          rw [hik] at he'
          simp at he'
    ne := hne7
    nv := fun u hu x hx => by
      rcases List.mem_append.1 hu with hu | hu
      · have h1 := h.nv u hu x hx
        have h2 := h.at_.lt hu hx
        exact ⟨h1.1, h1.2.1, h1.2.2.1, fun e => (hnv7 x e).1.elim h1.2.2.2 fun e2 => by omega⟩
      · obtain rfl := List.mem_singleton.1 hu
        have h1 := hn x hx
        have h2 := hv.lt hx
        exact ⟨h1.1, h1.2.1, h1.2.2.1, fun e => (hnv7 x e).1.elim h1.2.2.2 fun e2 => by omega⟩
    ab := h.ab
    fl := h.fl
    fs := fun x hx => by
      have h1 := h.fl x hx
      exact (hblk x (fun e => by have := (h.ne x e).1; omega) (by omega) (h.ra.neF (.inl (.inl (.inl hx)))) (by omega)).trans (h.fs x hx) }

set_option maxRecDepth 100000 in
set_option maxHeartbeats 4000000 in
theorem ratake_calls (h : RaF w w1 r j d id D M s F) (h0 : M.number = 0) (ht : s.taken = 0) (hc : s.commit = M.entries.length) (hl : M.entries.length ≤ 1000000) :
    Calls Tryz.prog 11 #[.pointer (some ⟨r, 0, none⟩)] w1 fun e w' => ∃ ev vs, e = .returned (.agg #[.bool false, .slice none 0 0, .int .i64 0, ev]) ∧ OwnR w' 47 4 ev M.entries.length (entsC M.entries vs) ∧ EntsAt w' M.entries vs ∧ (∀ x, (ev.ownBlock = some x ∨ ∃ u ∈ vs, u.1.ownBlock = some x ∨ u.2.ownBlock = some x) → x ≠ r ∧ ¬ F x) ∧ RaF w w' r j d id D M { s with taken := s.commit } F ∧ Same F w1 w' := by
  have k19 := h.cell (i := 19) (v := .bool false) fun _ _ _ => rfl
  have hfl := Lib.hid (fun x (hx : F x) => h.flt hx)
  have hr1 : r < w1.heap.size := by
    obtain ⟨_, _, _, hcc⟩ := h.cells
    exact lt_of_block hcc
  have hw1 := h.bel.size
  have h1 := h.box (.cells #[.bool false, .slice none 0 0, .int .i64 0, .slice none 0 0] 40)
  have h2 := h1.box (.cells #[.bool false, .slice none 0 0, .int .i64 0, .slice none 0 0] 40)
  have hba := below_one w1 (.cells #[.bool false, .slice none 0 0, .int .i64 0, .slice none 0 0] 40)
  have hbb := below_one (w1.alloc (.cells #[.bool false, .slice none 0 0, .int .i64 0, .slice none 0 0] 40)) (.cells #[.bool false, .slice none 0 0, .int .i64 0, .slice none 0 0] 40)
  have Ha := Lib.hid ((hbb.block w1.heap.size (lt_of_block (new_block w1 (.cells #[.bool false, .slice none 0 0, .int .i64 0, .slice none 0 0] 40)))).trans (new_block w1 (.cells #[.bool false, .slice none 0 0, .int .i64 0, .slice none 0 0] 40)))
  have Hb := Lib.hid (new_block (w1.alloc (.cells #[.bool false, .slice none 0 0, .int .i64 0, .slice none 0 0] 40)) (.cells #[.bool false, .slice none 0 0, .int .i64 0, .slice none 0 0] 40))
  have H2 := Lib.hid h2
  have Hs2 := Lib.hid (fun x (hx : F x) => (hbb.block x (Nat.lt_of_lt_of_le (h.flt hx) hba.size)).trans (hba.block x (h.flt hx)))
  have Hbs := Lib.hid (ra_q h2 fun G hJ => jbase_calls hJ)
  rw [h0] at Hbs
  have j0 := h2.cell (i := 0) (v := .pointer (some ⟨j, 0, none⟩)) fun _ _ _ => rfl
  clear h h1 h2 hba hbb
  have hsb : (w1.alloc (.cells #[.bool false, .slice none 0 0, .int .i64 0, .slice none 0 0] 40)).heap.size = w1.heap.size + 1 := by simp
  rw [hsb] at Hb H2
  clear hsb
  have Hab := Lib.hid (Nat.lt_succ_self w1.heap.size)
  go_enter Tryz.func11, Tryz.ntmps11
  go_wp2_with fail
  clear k19
  generalize (w1.alloc (.cells #[.bool false, .slice none 0 0, .int .i64 0, .slice none 0 0] 40)).alloc (.cells #[.bool false, .slice none 0 0, .int .i64 0, .slice none 0 0] 40) = W2 at *
  clear j0
  generalize hae : w1.heap.size = a at *
  replace Hab := Lib.hid (show a < a + 1 from Nat.lt_succ_self a)
  generalize a + 1 = b at *
  refine Hbs.out.mono ?_
  rintro e w3 ⟨rfl, q, rfl⟩
  have H3 := Lib.hid (H2.out.next (below_dqa W2 q))
  have Ha3 := Lib.hid (show (W2.drewN q).heap[a]? = some (.cells #[.bool false, .slice none 0 0, .int .i64 0, .slice none 0 0] 40 (0, 0)) from Ha.out)
  have Hb3 := Lib.hid (show (W2.drewN q).heap[b]? = some (.cells #[.bool false, .slice none 0 0, .int .i64 0, .slice none 0 0] 40 (0, 0)) from Hb.out)
  have Hs3 := Lib.hid (fun x (hx : F x) => show (W2.drewN q).heap[x]? = w1.heap[x]? from Hs2.out x hx)
  clear Hbs H2 Ha Hb Hs2
  generalize W2.drewN q = W3 at *
  have k5 : W3.cell? ⟨r, 5, none⟩ = some (.int .i64 0) := H3.out.cell (i := 5) fun _ _ _ => (by rw [show RaO j id s = fun pv wv sv => RaO j id s pv wv sv from rfl]; show some (Value.int .i64 (s.taken : Int)) = _; rw [ht]; rfl)
  have b2 := cell_of Hb3.out (i := 2) rfl
  have fb2 := frozen_of Hb3.out 2
  have hb3 := Hb3.out
  go_wp2_with fail
  have Hf5 := Lib.hid (Nat.le_refl 0)
  have hset : (W3.setCell ⟨b, 2, none⟩ (.int .i64 0)).heap[b]? = some (.cells #[.bool false, .slice none 0 0, .int .i64 0, .slice none 0 0] 40 (0, 0)) := by
    have := set_block hb3 2 (.int .i64 0)
    simpa using this
  have hcb := Chg.setCell W3 ⟨b, 2, none⟩ (.int .i64 0)
  have Hst := Lib.hid (show TakeS w w1 (W3.setCell ⟨b, 2, none⟩ (.int .i64 0)) r j d id D M s F a b 0 (.slice none 0 0) [] from
    { ra := by
        have h9 := (H3.out.move (F' := fun x => ((F x ∨ x = a) ∨ x = b) ∨ (Value.slice none 0 0).ownBlock = some x) hcb (fun x _ e => by
          have e : x = b := e
          have h1 := Hab.out
          rw [e]
          exact ⟨.inr rfl, by omega⟩) fun x hx => by
          rcases hx with hx | hx
          · exact .inl hx
          · cases hx)
        have he : ({ s with taken := 0 } : RaS) = s := by rw [← ht]
        rw [he]
        exact h9
      ta := (set_other _ (fun e => by
        have e : a = b := e
        have h1 := Hab.out
        omega)).trans Ha3.out
      tb := hset
      own := OwnR.nil _ _ _
      at_ := ⟨rfl, fun i e v he => by simp at he⟩
      ne := fun x hx => (by cases hx)
      nv := fun u hu => (by cases hu)
      ab := ⟨by omega, Hab.out, by omega, by omega⟩
      fl := fun x hx => by rw [hae]; exact hfl.out x hx
      fs := fun x hx => (set_other _ (fun e => by
        have e : x = b := e
        have h1 := Hab.out
        have h2 := hfl.out x hx
        omega)).trans (Hs3.out x hx) })
  clear hset hcb H3 Ha3 Hb3 Hs3 Hf5 k5 b2 fb2 hb3 hfl
  generalize W3.setCell ⟨b, 2, none⟩ (.int .i64 0) = W4 at *
  generalize hn : M.entries.length = n at *
  have Hn := Lib.hid hn
  clear hn
  obtain ⟨i4, hi4, hz40, hz41, hz42⟩ := info_parts (show (Tryz.prog.info? 47).map (fun i => (i.zero, i.size, i.bytes)) = some (some (.agg #[.int .i64 0, .int .i64 0, .slice none 0 0, .slice none 0 0]), 4, 64) by kernel_rfl)
  go_loopw [6] (fun _ wr => ∃ k ev vs, k ≤ n ∧ TakeS w w1 wr r j d id D M s F a b k ev vs) (fun _ wr => match wr.cell? ⟨r, 5, none⟩ with | some (.int _ t) => n - t.toNat | _ => 0)
  case atStart => exact ⟨0, _, _, Nat.zero_le _, Hst.out⟩
  case round =>
    clear Hst
    obtain ⟨k, ev, vs, hk, hT⟩ := hrel
    have HT := Lib.hid hT
    have k5 := hT.ra.cell (i := 5) (v := .int .i64 (k : Int)) fun _ _ _ => rfl
    have k4 : wr.cell? ⟨r, 4, none⟩ = some (.int .i64 (n : Int)) := hT.ra.cell (i := 4) fun _ _ _ => (by show some (Value.int .i64 (s.commit : Int)) = _; rw [hc])
    have Hmz := Lib.hid (show (match wr.cell? ⟨r, 5, none⟩ with | some (.int _ t) => n - t.toNat | _ => 0) = n - k from by rw [k5]; simp)
    clear hT
    go_upto_region 10 with (fail)
    refine ord_start (fun w' : World => w'.cell? ⟨r, 5, none⟩ = some (.int .i64 (k : Int)) ∧ w'.cell? ⟨r, 4, none⟩ = some (.int .i64 (n : Int))) (n := 9) (by kernel_rfl) rfl ⟨k5, k4⟩ (fun hHeld => ?_)
    refine Pl [0,1,2,3,4,5,6,7,8] ?_
    iterate 9 (refine Pd rfl (by intro w hSw; have e0 := hSw.1; have e1 := hSw.2; go_simp; try with_reducible rfl) ?_; simp only [Act.put, uA, uB, uC])
    refine Pn ?_
    refine wpAnyH_done (by kernel_rfl) ?_ _
    have HT1 := Lib.hid (HT.out.next (below_drew wr))
    clear HT k5 k4 hHeld
    generalize wr.drew = W5 at *
    by_cases hlt : k < n
    · have hd1 : decide ((k : Int) < (n : Int)) = true := decide_eq_true (by omega)
      have hd2 : decide (k < n) = true := decide_eq_true hlt
      obtain ⟨e, he⟩ : ∃ e, M.entries[k]? = some e := ⟨_, List.getElem?_eq_getElem (by rw [Hn.out]; exact hlt)⟩
      have He := Lib.hid he
      go_upto_region 12 with (fail)
      go_cut [6] (fun s6 wx => ∃ (e0 : Nat) (v : EV), s6 = .pointer (some ⟨e0, 0, none⟩) ∧ wx.heap[e0]? = some (.cells #[.int .i64 e.term, .int .i64 e.kind, v.1, v.2] 47 (0, 0)) ∧ EntAt wx e v ∧ (∀ x, (v.1.ownBlock = some x ∨ v.2.ownBlock = some x) → W5.heap.size ≤ x ∧ x ≠ e0) ∧ Below W5.heap.size W5 wx ∧ W5.heap.size ≤ e0)
      case first =>
        have hwk : IntKind.i64.wrap ((k : Int) + 1) = (k : Int) + 1 := IntWalk.i64_in _ (by omega)
        have Hat := Lib.hid (fun W (h : TakeS w w1 W r j d id D M s F a b k ev vs) => ra_q h.ra fun G hJ => jat_yes hJ ((k : Int) + 1) (by omega) (by rw [h0]; omega) (e := e) (by rw [h0, show ((k : Int) + 1 - ((0 : Nat) : Int) - 1).toNat = k from by omega]; exact He.out))
        refine ord_start (fun w' : World => w'.cell? ⟨r, 0, none⟩ = some (.pointer (some ⟨j, 0, none⟩)) ∧ w'.cell? ⟨r, 5, none⟩ = some (.int .i64 (k : Int))) (n := 16) (by kernel_rfl) rfl ⟨HT1.out.ra.cell (i := 0) fun _ _ _ => rfl, HT1.out.ra.cell (i := 5) fun _ _ _ => rfl⟩ (fun hHeld => ?_)
        have HT2 := Lib.hid (HT1.out.next (below_drew W5))
        have Hb2 := Lib.hid (below_drew W5)
        have Hz2 := Lib.hid (show W5.heap.size ≤ W5.drew.heap.size from Nat.le_refl _)
        generalize W5.drew = W6 at *
        refine Pl [0,1,2,3,4,5,6,7,8] ?_
        iterate 9 (refine Pd rfl (by intro w hSw; have e0 := hSw.1; have e1 := hSw.2; go_simp; try with_reducible rfl) ?_; simp only [Act.put, uA, uB, uC])
        refine Pn ?_
        refine ord_pair 9 13 rfl rfl (by kernel_rfl) (by rfl) (by rfl) (fun K hK => ?_) (fun K hK => ?_)
        · go_wp2_with fail
          refine (Hat.out W6 HT2.out).mono ?_
          rintro r1 w7 ⟨⟨u1, u2⟩, rfl, hv, hnv, hb⟩
          obtain ⟨p1, c1, rfl⟩ := hv.data.slice
          obtain ⟨p2, c2, rfl⟩ := (OwnI.has hv.nodes).slice
          have HT7 := Lib.hid (HT2.out.next hb)
          have Hv := Lib.hid hv
          have Hnv := Lib.hid hnv
          have Hb7 := Lib.hid (Hb2.out.trans (hb.mono Hz2.out))
          clear hv hnv hb
          go_wp2_with fail
          refine hK.out _ _ ⟨HT7.out.ra.cell (i := 0) fun _ _ _ => rfl, HT7.out.ra.cell (i := 5) fun _ _ _ => rfl⟩ (fun hHeld => ?_)
          clear hK
          try simp only [Act.put, uA, uB, uC]
          refine Pl [10,11,12] ?_
          iterate 3 (refine Pc rfl ?_; simp only [Act.put, uA, uB, uC])
          refine Pn ?_
          have He0 := Lib.hid (new_block w7 (.cells #[.int .i64 0, .int .i64 0, .slice none 0 0, .slice none 0 0] 47))
          have HT8 := Lib.hid (HT7.out.next (below_one w7 (.cells #[.int .i64 0, .int .i64 0, .slice none 0 0, .slice none 0 0] 47)))
          have Hv8 := Lib.hid (Hv.out.keep (w' := w7.alloc (.cells #[.int .i64 0, .int .i64 0, .slice none 0 0, .slice none 0 0] 47)) fun x hx => (below_one w7 (.cells #[.int .i64 0, .int .i64 0, .slice none 0 0, .slice none 0 0] 47)).block x (Hv.out.lt hx))
          have Hb8 := Lib.hid (Hb7.out.trans ((below_one w7 (.cells #[.int .i64 0, .int .i64 0, .slice none 0 0, .slice none 0 0] 47)).mono Hb7.out.size))
          have Hn8 := Lib.hid (fun x (hx : (Value.slice p1 e.data.length c1).ownBlock = some x ∨ (Value.slice p2 e.nodes.length c2).ownBlock = some x) => (⟨Nat.le_trans Hz2.out (Hnv.out x hx), Nat.ne_of_lt (Hv.out.lt hx)⟩ : W5.heap.size ≤ x ∧ x ≠ w7.heap.size))
          have Hz8 := Lib.hid (show W5.heap.size ≤ w7.heap.size from Hb7.out.size)
          refine ord_one 13 rfl (by kernel_rfl) (by rfl) (fun K hK => ?_)
          go_wp2_with fail
          refine hK.out _ _ ⟨HT8.out.ra.cell (i := 0) fun _ _ _ => rfl, HT8.out.ra.cell (i := 5) fun _ _ _ => rfl⟩ (fun hHeld => ?_)
          clear hK
          try simp only [Act.put, uA, uB, uC]
          generalize w7.alloc (.cells #[.int .i64 0, .int .i64 0, .slice none 0 0, .slice none 0 0] 47) = W8 at *
          generalize w7.heap.size = e0 at *
          have r0 := cell_of He0.out (i := 0) rfl
          have r1 := cell_of He0.out (i := 1) rfl
          have r2 := cell_of He0.out (i := 2) rfl
          have r3 := cell_of He0.out (i := 3) rfl
          have fr := frozen_of He0.out
          have hps := put_ent He0.out e.term e.kind (.slice p1 e.data.length c1) (.slice p2 e.nodes.length c2)
          have Hbl := Lib.hid hps.1
          have Hbe := Lib.hid (Hb8.out.trans (hps.2.below Hb8.out.size fun x hx e => by have := Hz8.out; omega))
          have Hve := Lib.hid (Hv8.out.keep (w' := (((W8.setCell ⟨e0, 0, none⟩ (.int .i64 e.term)).setCell ⟨e0, 1, none⟩ (.int .i64 e.kind)).setCell ⟨e0, 2, none⟩ (.slice p1 e.data.length c1)).setCell ⟨e0, 3, none⟩ (.slice p2 e.nodes.length c2)) fun x hx => hps.2.block x (Hv8.out.lt hx) fun e => (Hn8.out x hx).2 e)
          clear hps
          unfold entV
          refine ord_one 14 rfl (by kernel_rfl) (by rfl) (fun K hK => ?_)
          go_wp2_with fail
          have HTe := Lib.hid (HT1.out.next Hbe.out)
          refine hK.out _ _ ⟨HTe.out.ra.cell (i := 0) fun _ _ _ => rfl, HTe.out.ra.cell (i := 5) fun _ _ _ => rfl⟩ (fun hHeld => ?_)
          clear hK r0 r1 r2 r3 fr
          try simp only [Act.put, uA, uB, uC]
          refine Pl [15] ?_
          refine Pc rfl ?_
          simp only [Act.put, uA, uB, uC]
          refine Pn ?_
          refine wpAnyH_done (by kernel_rfl) ?_ _
          go_wp2_with fail
          go_meet
          exact ⟨e0, (.slice p1 e.data.length c1, .slice p2 e.nodes.length c2), rfl, Hbl.out, Hve.out, Hn8.out, Hbe.out, Hz8.out⟩
        · have He0 := Lib.hid (new_block W6 (.cells #[.int .i64 0, .int .i64 0, .slice none 0 0, .slice none 0 0] 47))
          have hb7 := below_one W6 (.cells #[.int .i64 0, .int .i64 0, .slice none 0 0, .slice none 0 0] 47)
          have HT7 := Lib.hid (HT2.out.next hb7)
          have Hb7 := Lib.hid (Hb2.out.trans (hb7.mono Hz2.out))
          have He0l := Lib.hid (lt_of_block He0.out)
          clear hb7
          go_wp2_with fail
          refine hK.out _ _ ⟨HT7.out.ra.cell (i := 0) fun _ _ _ => rfl, HT7.out.ra.cell (i := 5) fun _ _ _ => rfl⟩ (fun hHeld => ?_)
          clear hK
          try simp only [Act.put, uA, uB, uC]
          generalize W6.alloc (.cells #[.int .i64 0, .int .i64 0, .slice none 0 0, .slice none 0 0] 47) = W7 at *
          generalize W6.heap.size = e0 at *
          refine ord_one 9 rfl (by kernel_rfl) (by rfl) (fun K hK => ?_)
          go_wp2_with fail
          refine (Hat.out W7 HT7.out).mono ?_
          rintro r1 w8 ⟨⟨u1, u2⟩, rfl, hv, hnv, hb⟩
          obtain ⟨p1, c1, rfl⟩ := hv.data.slice
          obtain ⟨p2, c2, rfl⟩ := (OwnI.has hv.nodes).slice
          have HT8 := Lib.hid (HT7.out.next hb)
          have Hv8 := Lib.hid hv
          have Hb8 := Lib.hid (Hb7.out.trans (hb.mono Hb7.out.size))
          have Hn8 := Lib.hid (fun x (hx : (Value.slice p1 e.data.length c1).ownBlock = some x ∨ (Value.slice p2 e.nodes.length c2).ownBlock = some x) => (⟨Nat.le_trans Hb7.out.size (hnv x hx), by have h1 := hnv x hx; have h2 := He0l.out; omega⟩ : W5.heap.size ≤ x ∧ x ≠ e0))
          have He8 := Lib.hid ((hb.block e0 He0l.out).trans He0.out)
          have Hz8 := Hz2
          clear hv hnv hb He0
          have He0 := He8
          clear He8
          go_wp2_with fail
          refine hK.out _ _ ⟨HT8.out.ra.cell (i := 0) fun _ _ _ => rfl, HT8.out.ra.cell (i := 5) fun _ _ _ => rfl⟩ (fun hHeld => ?_)
          clear hK
          try simp only [Act.put, uA, uB, uC]
          refine Pl [10,11,12] ?_
          iterate 3 (refine Pc rfl ?_; simp only [Act.put, uA, uB, uC])
          refine Pn ?_
          have r0 := cell_of He0.out (i := 0) rfl
          have r1 := cell_of He0.out (i := 1) rfl
          have r2 := cell_of He0.out (i := 2) rfl
          have r3 := cell_of He0.out (i := 3) rfl
          have fr := frozen_of He0.out
          have hps := put_ent He0.out e.term e.kind (.slice p1 e.data.length c1) (.slice p2 e.nodes.length c2)
          have Hbl := Lib.hid hps.1
          have Hbe := Lib.hid (Hb8.out.trans (hps.2.below Hb8.out.size fun x hx e => by have := Hz8.out; omega))
          have Hve := Lib.hid (Hv8.out.keep (w' := (((w8.setCell ⟨e0, 0, none⟩ (.int .i64 e.term)).setCell ⟨e0, 1, none⟩ (.int .i64 e.kind)).setCell ⟨e0, 2, none⟩ (.slice p1 e.data.length c1)).setCell ⟨e0, 3, none⟩ (.slice p2 e.nodes.length c2)) fun x hx => hps.2.block x (Hv8.out.lt hx) fun e => (Hn8.out x hx).2 e)
          clear hps
          unfold entV
          refine ord_one 14 rfl (by kernel_rfl) (by rfl) (fun K hK => ?_)
          go_wp2_with fail
          have HTe := Lib.hid (HT1.out.next Hbe.out)
          refine hK.out _ _ ⟨HTe.out.ra.cell (i := 0) fun _ _ _ => rfl, HTe.out.ra.cell (i := 5) fun _ _ _ => rfl⟩ (fun hHeld => ?_)
          clear hK r0 r1 r2 r3 fr
          try simp only [Act.put, uA, uB, uC]
          refine Pl [15] ?_
          refine Pc rfl ?_
          simp only [Act.put, uA, uB, uC]
          refine Pn ?_
          refine wpAnyH_done (by kernel_rfl) ?_ _
          go_wp2_with fail
          go_meet
          exact ⟨e0, (.slice p1 e.data.length c1, .slice p2 e.nodes.length c2), rfl, Hbl.out, Hve.out, Hn8.out, Hbe.out, Hz8.out⟩
      case rest =>
        obtain ⟨e0, ⟨u1, u2⟩, rfl, he0, hv, hnw, hb, hz⟩ := hcut
        obtain ⟨p1, c1, rfl⟩ := hv.data.slice
        obtain ⟨p2, c2, rfl⟩ := (OwnI.has hv.nodes).slice
        have HT6 := Lib.hid (HT1.out.next hb)
        have Hv := Lib.hid hv
        have Hnw := Lib.hid (fun x (hx : (Value.slice p1 e.data.length c1).ownBlock = some x ∨ (Value.slice p2 e.nodes.length c2).ownBlock = some x) => (by
          have h1 := (hnw x hx).1
          have h2 := HT1.out.ab
          have h3 := lt_of_block HT1.out.ta
          have h4 := lt_of_block HT1.out.tb
          exact ⟨by omega, by omega, by omega, fun e2 => by have := OwnR.lt HT1.out.own e2; omega⟩ : w1.heap.size ≤ x ∧ x ≠ a ∧ x ≠ b ∧ ev.ownBlock ≠ some x))
        obtain ⟨pe, ce, rfl⟩ := OwnR.shape HT6.out.own
        have b3 := cell_of HT6.out.tb (i := 3) rfl
        have g0 := cell_of he0 (i := 0) rfl
        have g1 := cell_of he0 (i := 1) rfl
        have g2 := cell_of he0 (i := 2) rfl
        have g3 := cell_of he0 (i := 3) rfl
        have hbl := below_one wc (.cells #[.int .i64 e.term, .int .i64 e.kind, .slice p1 e.data.length c1, .slice p2 e.nodes.length c2] 47)
        have Hlit := Lib.hid (holds_blk1 (new_block wc (.cells #[.int .i64 e.term, .int .i64 e.kind, .slice p1 e.data.length c1, .slice p2 e.nodes.length c2] 47)) (entC e (.slice p1 e.data.length c1, .slice p2 e.nodes.length c2)) 4 1 1 rfl rfl)
        have Hown := Lib.hid (HT6.out.own.keep (w' := wc.alloc (.cells #[.int .i64 e.term, .int .i64 e.kind, .slice p1 e.data.length c1, .slice p2 e.nodes.length c2] 47)) fun x hx => hbl.block x (OwnR.lt HT6.out.own hx))
        have Hpush := Lib.hid (fun w7 v7 => HT6.out.push (w7 := w7) (v7 := v7) He.out Hv.out Hnw.out (.cells #[.int .i64 e.term, .int .i64 e.kind, .slice p1 e.data.length c1, .slice p2 e.nodes.length c2] 47))
        have Hb6 := Lib.hid (fun w7 (hg : (wc.alloc (.cells #[.int .i64 e.term, .int .i64 e.kind, .slice p1 e.data.length c1, .slice p2 e.nodes.length c2] 47)).grownBy w7 (Value.slice pe k ce).ownBlock) => (((Chg.alloc wc (.cells #[.int .i64 e.term, .int .i64 e.kind, .slice p1 e.data.length c1, .slice p2 e.nodes.length c2] 47)).mono fun _ _ e => e.elim).trans ((Chg.of_grown hg).mono fun _ _ e => e.symm) fun _ _ e => e : Chg (fun x => (Value.slice pe k ce).ownBlock = some x) wc w7))
        have K5 := Lib.hid (HT6.out.ra.cell (i := 5) (v := .int .i64 (k : Int)) fun _ _ _ => rfl)
        have Hrb := Lib.hid (show r ≠ b from by have h2 := HT6.out.ab; omega)
        have hwk : IntKind.i64.wrap ((k : Int) + 1) = (k : Int) + 1 := IntWalk.i64_in _ (by omega)
        clear hv hnw hb hz he0 hbl HT1
        go_wp2_with (at_builtin; refine wpList_app _ rfl (.tmp 80) (.tmp 82) 38 rfl 47 i4 (.agg #[.int .i64 0, .int .i64 0, .slice none 0 0, .slice none 0 0]) 4 64 Tryz.underlying38 hi4 hz40 hz41 hz42 rfl (by decide) (.slice pe k ce) k _ rfl Hown.out (.slice (some ⟨wc.heap.size, 0, none⟩) 1 1) 1 _ rfl Hlit.out (by intro u hu; simp only [entC, List.mem_cons, List.not_mem_nil, or_false] at hu; rcases hu with rfl | rfl | rfl | rfl <;> rfl) (by unfold maxLen; omega) (by omega) ?_; intro v7 w7 hown hgrow hloc; go_loud (have HP7 := Lib.hid (Hpush.out w7 v7 hown hgrow hloc); have hc7 := Hb6.out w7 hgrow; have HTb := Lib.hid ((hc7.block b (lt_of_block HT6.out.tb) (fun e => (HT6.out.ne b e).2.2 rfl)).trans HT6.out.tb); have b37 := cell_of HTb.out (i := 3) rfl; have fb7 := frozen_of HTb.out 3; have HR7 := Lib.hid (fun i v (hv : wc.cell? ⟨r, i, none⟩ = some v) => (hc7.cell hv (fun e => by have h1 := (HT6.out.ne r e).1; have h2 := HT6.out.ab; omega) : w7.cell? ⟨r, i, none⟩ = some v)); have HF7 := Lib.hid (show w7.frozen? ⟨r, 5, none⟩ = false from (by obtain ⟨_, _, _, hcc⟩ := HT6.out.ra.cells; exact frozen_of ((hc7.block r (lt_of_block hcc) (fun e => by have h1 := (HT6.out.ne r e).1; have h2 := HT6.out.ab; omega)).trans hcc) 5)); obtain ⟨p7, c7, rfl⟩ := OwnR.shape hown; have q5 : (w7.setCell ⟨b, 3, none⟩ (.slice p7 (k + 1) c7)).cell? ⟨r, 5, none⟩ = some (.int .i64 (k : Int)) := (World.cell?_of_block (set_other _ Hrb.out)).trans (HR7.out 5 _ K5.out); have f5 : (w7.setCell ⟨b, 3, none⟩ (.slice p7 (k + 1) c7)).frozen? ⟨r, 5, none⟩ = false := (by rw [World.frozen?_setCell]; exact HF7.out); clear hown hgrow hloc hc7 Hown Hlit Hpush Hb6 b3 g0 g1 g2 g3))
        refine ⟨⟨k + 1, _, _, by omega, HP7.out⟩, ?_⟩
        have h5 := HP7.out.ra.cell (i := 5) (v := .int .i64 ((k + 1 : Nat) : Int)) fun _ _ _ => rfl
        have h6 : (match ((w7.setCell ⟨b, 3, none⟩ (.slice p7 (k + 1) c7)).setCell ⟨r, 5, none⟩ (.int .i64 ((k : Int) + 1))).cell? ⟨r, 5, none⟩ with | some (.int _ t) => n - t.toNat | _ => 0) = n - (k + 1) := by
          rw [show ((w7.setCell ⟨b, 3, none⟩ (.slice p7 (k + 1) c7)).setCell ⟨r, 5, none⟩ (.int .i64 ((k : Int) + 1))).cell? ⟨r, 5, none⟩ = _ from h5]
          rfl
        rw [h6, Hmz.out]
        omega
    · obtain rfl : k = n := by omega
      have hd1 : decide ((k : Int) < (k : Int)) = false := by simp
      obtain ⟨pe, ce, rfl⟩ := OwnR.shape HT1.out.own
      have a0 := cell_of HT1.out.ta (i := 0) rfl
      have a1 := cell_of HT1.out.ta (i := 1) rfl
      have a2 := cell_of HT1.out.ta (i := 2) rfl
      have a3 := cell_of HT1.out.ta (i := 3) rfl
      have fa := frozen_of HT1.out.ta
      have b0 := cell_of HT1.out.tb (i := 0) rfl
      have b1 := cell_of HT1.out.tb (i := 1) rfl
      have b2 := cell_of HT1.out.tb (i := 2) rfl
      have b3 := cell_of HT1.out.tb (i := 3) rfl
      have hps : ((((W5.setCell ⟨a, 0, none⟩ (.bool false)).setCell ⟨a, 1, none⟩ (.slice none 0 0)).setCell ⟨a, 2, none⟩ (.int .i64 0)).setCell ⟨a, 3, none⟩ (.slice pe k ce)).heap[a]? = some (.cells #[.bool false, .slice none 0 0, .int .i64 0, .slice pe k ce] 40 (0, 0)) := by
        have h1 := set_block HT1.out.ta 0 (.bool false)
        have h2 := set_block h1 1 (.slice none 0 0)
        have h3 := set_block h2 2 (.int .i64 0)
        have h4 := set_block h3 3 (.slice pe k ce)
        simpa using h4
      have hch : Chg (fun x => x = a) W5 ((((W5.setCell ⟨a, 0, none⟩ (.bool false)).setCell ⟨a, 1, none⟩ (.slice none 0 0)).setCell ⟨a, 2, none⟩ (.int .i64 0)).setCell ⟨a, 3, none⟩ (.slice pe k ce)) :=
        (((Chg.setCell W5 ⟨a, 0, none⟩ (.bool false)).trans (Chg.setCell _ ⟨a, 1, none⟩ (.slice none 0 0)) fun _ _ e => e).trans (Chg.setCell _ ⟨a, 2, none⟩ (.int .i64 0)) fun _ _ e => e).trans (Chg.setCell _ ⟨a, 3, none⟩ (.slice pe k ce)) fun _ _ e => e
      have Hps := Lib.hid hps
      have Hch := Lib.hid hch
      clear hps hch
      go_wp2_with fail
      refine bodyPost_ret (results_cell_row rfl _ _ a _ _ (0, 0) _ rfl Hps.out Tryz.underlying40 rfl (by kernel_rfl)) rfl ?_
      have hab := HT1.out.ab
      have htk : M.entries.take k = M.entries := List.take_of_length_le (Nat.le_of_eq Hn.out)
      refine ⟨.slice pe k ce, vs, rfl, ?_, ?_, fun x hx => ?_, ?_, fun x hx => ?_⟩
      · rw [Hn.out]
        have h9 := HT1.out.own
        rw [htk] at h9
        exact h9.keep fun x hx => Hch.out.block x (OwnR.lt HT1.out.own hx) (HT1.out.ne x hx).2.1
      · have h9 := HT1.out.at_
        have h8 := h9
        rw [htk] at h9
        exact h9.keep fun u hu x hx => Hch.out.block x (h8.lt hu hx) (HT1.out.nv u hu x hx).2.1
      · have h9 : w1.heap.size ≤ x := by
          rcases hx with hx | ⟨u, hu, hx⟩
          · exact (HT1.out.ne x hx).1
          · exact (HT1.out.nv u hu x hx).1
        exact ⟨by omega, fun e => by have := HT1.out.fl x e; omega⟩
      · have he : ({ s with taken := s.commit } : RaS) = { s with taken := k } := by rw [hc]
        rw [he]
        exact HT1.out.ra.move Hch.out (fun x _ e => by
          have e : x = a := e
          rw [e]
          exact ⟨.inl (.inl (.inr rfl)), by omega⟩) fun x hx => .inl (.inl (.inl (.inl hx)))
      · exact (Hch.out.block x (HT1.out.ra.flt (.inl (.inl (.inl hx)))) (fun e => by
          have e : x = a := e
          have := HT1.out.fl x hx
          omega)).trans (HT1.out.fs x hx)
end
end Go.Proofs.YtngflpaooppmhaaGreat

namespace Go.Proofs.YtngflpaooppmhaaGreat
open Go.RowKit Go.Sat Go.Maps

structure AloJ (room : Nat) (id t : Int) (M : JouM) (D : DiskM) (u : Nat) : Prop where
  kept : Kept5 room [id] M D u
  num : M.number = 0
  grp : M.group = [id]
  pl : ∀ e ∈ M.entries, e.kind ≠ 2
  now : M.now = t

theorem grp_one {id : Int} (h : 0 ≤ id ∧ id < 7) : isGrp [id] = true := by
  have h1 : id = 0 ∨ id = 1 ∨ id = 2 ∨ id = 3 ∨ id = 4 ∨ id = 5 ∨ id = 6 := by omega
  rcases h1 with rfl | rfl | rfl | rfl | rfl | rfl | rfl <;> rfl
theorem grp_plain {M : JouM} (h : ∀ e ∈ M.entries, e.kind ≠ 2) : ∀ k, k ≤ M.entries.length → M.grpIn k = (M.group, M.number)
  | 0, _ => rfl
  | k + 1, hk => by
    have he := List.getElem?_eq_getElem (show k < M.entries.length by omega)
    rw [grpIn_no he (h _ (List.mem_of_getElem? he))]
    exact grp_plain h k (by omega)

section
variable {room : Nat} {id t : Int} {M : JouM} {D : DiskM} {u : Nat}
theorem alo_start (room : Nat) (h : 0 ≤ id ∧ id < 7) : AloJ room id 0 (JouM.none0 [id]) (diskJ0 room [97] [id]) 150 :=
  ⟨keep_start (grp_one h), rfl, rfl, fun e he => (by cases he), rfl⟩
theorem AloJ.is (h : AloJ room id t M D u) : M.grpIn M.entries.length = ([id], 0) := by rw [grp_plain h.pl _ (Nat.le_refl _), h.grp, h.num]
theorem AloJ.last (h : AloJ room id t M D u) : M.last = M.entries.length := by
  have : M.last = M.number + M.entries.length := rfl
  rw [this, h.num, Nat.zero_add]
theorem alo_term (h : AloJ room id t M D u) (hid : 0 ≤ id ∧ id < 7) (ht : 0 ≤ t ∧ t + 1 ≤ 1099511627776) (hu : u + 31 ≤ room) :
    ∃ D1, jouTerm [97] D M (M.now + 1) id = ⟨D1, { M with now := M.now + 1, vote := id }, 0⟩ ∧ AloJ room id (t + 1) { M with now := M.now + 1, vote := id } D1 (u + 31) := by
  have hn := h.now
  have hm : M.mayVote (M.now + 1) id = true := by
    unfold JouM.mayVote
    rw [decide_eq_true ⟨by omega, by omega, by omega, by omega⟩, decide_eq_false (by omega)]
    rfl
  obtain ⟨D1, h1, h2⟩ := term_go h.kept hm (by omega) (by omega) hu
  exact ⟨D1, h1, h2, h.num, h.grp, h.pl, by show M.now + 1 = _; rw [hn]⟩
theorem entB_len3 {n : Nat} {e : Ent} (hn : n ≤ 4611686018427387904) (h : isEnt e = true) : (entB n e).length ≤ 46 + e.data.length + 9 * e.nodes.length := by
  have hf := ent_bound h
  unfold entB rowB grpB
  simp only [List.length_cons, List.length_append]
  have h1 := numB_nine hn
  have h2 := numI_len e.term
  have h3 := numI_len e.kind
  have h4 := numB_nine (n := e.data.length) (by omega)
  have h5 := numB_nine (n := e.nodes.length) (by omega)
  have h6 := numsI_len e.nodes
  omega
theorem ent_len3 {n : Nat} {e : Ent} (hn : n ≤ 4611686018427387900) (h : isEnt e = true) : (recsB (entsB n [e])).length ≤ 58 + e.data.length + 9 * e.nodes.length := by
  have hl : (entsB n [e]).length = 1 := entsB_len n [e]
  obtain ⟨x, hx⟩ : ∃ x, entsB n [e] = [entB x e] ∧ x ≤ n + 1 := by
    first
    | exact ⟨n + 1, rfl, Nat.le_refl _⟩
    | exact ⟨n, rfl, Nat.le_succ _⟩
  rw [hx.1, recs_one_len]
  have h9 := entB_len3 (n := x) (by omega) h
  omega
theorem alo_append (h : AloJ room id t M D u) {e : Ent} (he : isEnt e = true) (hk : e.kind ≠ 2) (hte : e.term = t) (hla : M.entries.length + 1 ≤ 1099511627776) (hu : u + (58 + e.data.length + 9 * e.nodes.length) ≤ room) :
    ∃ D', jouAppend [97] D M [e] = ⟨D', { M with entries := M.entries ++ [e] }, 0⟩ ∧ AloJ room id t { M with entries := M.entries ++ [e] } D' (u + (58 + e.data.length + 9 * e.nodes.length)) := by
  have hl := h.last
  have h9 := ent_len3 (n := M.last) (by omega) he
  obtain ⟨D', h1, h2⟩ := app_go h.kept (es := [e]) (by simp) (fun x hx => by rw [List.mem_singleton.1 hx]; exact he) (by simp; omega) (.inr (by omega))
  refine ⟨D', h1, ⟨h2.ex, Nat.le_trans h2.used (by omega), h2.grp, h2.alive⟩, h.num, h.grp, fun x hx => ?_, h.now⟩
  rcases List.mem_append.1 hx with hx | hx
  · exact h.pl x hx
  · rw [List.mem_singleton.1 hx]
    exact hk
/-- What the last entry says. -/
theorem alo_at {e : Ent} (h : AloJ room id t { M with entries := M.entries ++ [e] } D u) (hte : e.term = t) :
    (({ M with entries := M.entries ++ [e] } : JouM).grpIn ({ M with entries := M.entries ++ [e] } : JouM).entries.length).1 = [id] ∧ (({ M with entries := M.entries ++ [e] } : JouM).grpIn ({ M with entries := M.entries ++ [e] } : JouM).entries.length).2 ≤ ({ M with entries := M.entries ++ [e] } : JouM).last ∧ ({ M with entries := M.entries ++ [e] } : JouM).termAt (({ M with entries := M.entries ++ [e] } : JouM).last : Int) = some ({ M with entries := M.entries ++ [e] } : JouM).now := by
  have h1 := h.is
  have h2 := h.last
  have h3 := h.num
  have h4 := h.now
  refine ⟨by rw [h1], by rw [h1]; exact Nat.zero_le _, ?_⟩
  generalize hN : ({ M with entries := M.entries ++ [e] } : JouM) = N at *
  have hlen : N.entries.length = M.entries.length + 1 := by rw [← hN]; simp
  rw [termAt_yes (e := e) (by omega) (by
    rw [h2, h3, hlen, show ((M.entries.length + 1 : Nat) : Int) - ((0 : Nat) : Int) - 1 = (M.entries.length : Int) from by omega, Int.toNat_natCast, ← hN]
    simp), hte, h4]
end
end Go.Proofs.YtngflpaooppmhaaGreat

namespace Go.Proofs.YtngflpaooppmhaaGreat
open Go.RowKit Go.Sat Go.Maps

/-- The first entry. -/
def ent0 : Ent := ⟨1, 0, [], []⟩
/-- It waits. -/
def Node1 (w w1 : World) (r j d : Nat) (id : Int) (room : Nat) (F : Nat → Prop) (n : Int) : Prop :=
  RaF w w1 r j d id (diskJ0 room [97] [id]) (JouM.none0 [id]) { role := 0, leader := -1, commit := 0, taken := 0, wait := n, round := 0, votes := .map none, qs := [], wq := [] } F
/-- It leads. -/
def Node2 (w w1 : World) (r j d : Nat) (id : Int) (room : Nat) (F : Nat → Prop) (n : Int) (rd : Nat) (qs : List (Int × Nat)) (es : List Ent) (u : Nat) : Prop :=
  ∃ D M vt, RaF w w1 r j d id D M { role := 2, leader := id, commit := es.length, taken := 0, wait := n, round := rd, votes := vt, qs := qs, wq := [] } F ∧ AloJ room id 1 M D u ∧ M.entries = es

section
variable {w w1 w2 : World} {r j d room : Nat} {id : Int} {F F' : Nat → Prop}
theorem node1_wait {n : Int} (h : Node1 w w1 r j d id room F n) (hn : 2 ≤ n ∧ n ≤ 1000) (draw : Int) : Calls Tryz.prog 9 #[.pointer (some ⟨r, 0, none⟩), .int .i64 draw] w1 fun e w' => e = .returned (.slice none 0 0) ∧ Node1 w w' r j d id room F (n - 1) ∧ Same F w1 w' := ratick_wait h hn draw
theorem node1_stand (h : Node1 w w1 r j d id room F 1) (hid : 0 ≤ id ∧ id < 7) (hroom : 300 ≤ room) (draw : Int) (hd : -9223372036854775808 ≤ draw ∧ draw ≤ 9223372036854775807) :
    Calls Tryz.prog 9 #[.pointer (some ⟨r, 0, none⟩), .int .i64 draw] w1 fun e w' => e = .returned (.slice none 0 0) ∧ Node2 w w' r j d id room F 3 0 [] [ent0] 239 ∧ Same F w1 w' := by
  have h0 := alo_start room hid
  obtain ⟨D1, hst, h1⟩ := alo_term h0 hid (by omega) (by omega)
  obtain ⟨D2, hap, h2⟩ := alo_append h1 (e := ent0) (by rfl) (by decide) (by rfl) (by show 0 + 1 ≤ _; omega) (by show 150 + 31 + (58 + 0 + 9 * 0) ≤ room; omega)
  obtain ⟨a1, a2, a3⟩ := alo_at h2 rfl
  refine (ratick_stand h rfl rfl rfl hid hst (by rw [h1.is]) hap a1 a2 (by rw [h2.last]; show 0 < 1; decide) a3 draw hd).mono ?_
  rintro e w' ⟨he, vt, hR, hs⟩
  exact ⟨he, ⟨D2, _, vt, by have := hR; rw [h2.last] at this; exact this, ⟨h2.kept, h2.num, h2.grp, h2.pl, h2.now⟩, rfl⟩, hs⟩
theorem node2_tick {n : Int} {rd : Nat} {qs : List (Int × Nat)} {es : List Ent} {u : Nat} (h : Node2 w w1 r j d id room F n rd qs es u) (hn : 1 ≤ n ∧ n ≤ 3) (draw : Int) :
    Calls Tryz.prog 9 #[.pointer (some ⟨r, 0, none⟩), .int .i64 draw] w1 fun e w' => e = .returned (.slice none 0 0) ∧ (∃ m, 1 ≤ m ∧ m ≤ 3 ∧ Node2 w w' r j d id room F m rd qs es u) ∧ Same F w1 w' := by
  obtain ⟨D, M, vt, hR, hA, hes⟩ := h
  by_cases h1 : n = 1
  · refine (ratick_lead hR (by rw [hA.is]) h1 rfl draw).mono ?_
    rintro e w' ⟨he, hR', hs⟩
    exact ⟨he, ⟨3, by decide, by decide, D, M, vt, hR', hA, hes⟩, hs⟩
  · refine (ratick_wait hR (show 2 ≤ n ∧ n ≤ 1000 by omega) draw).mono ?_
    rintro e w' ⟨he, hR', hs⟩
    exact ⟨he, ⟨n - 1, by omega, by omega, D, M, vt, hR', hA, hes⟩, hs⟩
set_option maxRecDepth 100000 in
set_option maxHeartbeats 4000000 in
theorem known6_calls (w : World) : Calls Tryz.prog 5 #[] w fun e w' => e = .returned (.bool true) ∧ Below w.heap.size w w' := by
  have Hnw := Lib.hid (st_new (w := w) (w1 := w) 65536 (by decide) (by decide) (Below.refl _ _))
  go_enter Tryz.func5, Tryz.ntmps5
  go_wp2_with fail
  refine Hnw.out.mono ?_
  rintro e w2 ⟨d, rfl, hst⟩
  have hb := below_one w2 (.cells #[.int .i64 0] 3)
  have Hop := Lib.hid (raopen_calls (id := 0) (hst.next hb) (by decide) (nodes := [0]) (pn := some ⟨w2.heap.size, 0, none⟩) (nn := 1) (cn := 1) (holds_blk1 (new_block w2 (.cells #[.int .i64 0] 3)) (intsV [0]) 1 1 1 rfl rfl) (by decide) (jopen_fresh (room := 65536) (by decide) (by decide) (by decide) (grp_one (by decide))) (by decide) 0 (by decide))
  clear Hnw hst hb
  go_wp2_with fail
  refine Hop.out.mono ?_
  rintro e w3 ⟨r, j, rfl, hR, -⟩
  have H3 := Lib.hid (show Node1 w w3 r j d 0 65536 NoF 10 from hR)
  clear hR Hop
  go_wp2_with fail
  go_loopw [5] (fun i wr => ∃ k : Nat, k ≤ 10 ∧ i = .int .i64 k ∧ ((k ≤ 9 ∧ Node1 w wr r j d 0 65536 NoF (10 - (k : Int))) ∨ (k = 10 ∧ Node2 w wr r j d 0 65536 NoF 3 0 [] [ent0] 239))) (fun i _ => 10 - (intOf i).toNat)
  case atStart => exact ⟨0, by omega, rfl, .inl ⟨by omega, H3.out⟩⟩
  case round =>
    clear H3
    obtain ⟨k, hk, rfl, hN⟩ := hrel
    rcases hN with ⟨hk9, hN⟩ | ⟨rfl, hN⟩
    · by_cases h9 : k = 9
      · subst h9
        have Htk := Lib.hid (node1_stand hN (by decide) (by decide) 0 (by decide))
        clear hN
        go_wp2_with fail
        refine Htk.out.mono ?_
        rintro e w4 ⟨rfl, h4, -⟩
        have H4 := Lib.hid h4
        clear h4 Htk
        go_wp2_with fail
        go_roundw
        case rel => exact ⟨10, by omega, rfl, .inr ⟨rfl, H4.out⟩⟩
        case measure => simp [intOf]
      · have Htk := Lib.hid (node1_wait hN (by omega) 0)
        clear hN
        go_wp2_with fail
        refine Htk.out.mono ?_
        rintro e w4 ⟨rfl, h4, -⟩
        have H4 := Lib.hid h4
        clear h4 Htk
        go_wp2_with fail
        go_roundw
        case rel => exact ⟨k + 1, by omega, by go_num, .inl ⟨by omega, by have h := H4.out; rwa [show (10 : Int) - (k : Int) - 1 = 10 - ((k + 1 : Nat) : Int) by omega] at h⟩⟩
        case measure => simp [intOf]; omega
    · obtain ⟨D, M, vt, hR, hA, hes⟩ := hN
      have Hst := Lib.hid (rastate_calls hR)
      rw [hA.now] at Hst
      have HR := Lib.hid hR
      clear hR
      go_wp2_with fail
      refine Hst.out.mono ?_
      rintro e w4 ⟨rfl, hb4⟩
      have H4 := Lib.hid (HR.out.next hb4)
      have Htk := Lib.hid (ratake_calls H4.out hA.num rfl (by rw [hes]) (by rw [hes]; decide))
      rw [hes] at Htk
      clear hb4 Hst HR
      go_wp2_with fail
      refine Htk.out.mono ?_
      rintro e w5 ⟨ev, vs, rfl, hown, hat, -, hR5, -⟩
      have Hb5 := Lib.hid hR5.bel
      have hvl : vs.length = 1 := hat.1
      obtain ⟨v, rfl⟩ : ∃ v, vs = [v] := by
        match vs, hvl with
        | [v], _ => exact ⟨v, rfl⟩
      rcases hown.2 with ⟨-, h0⟩ | ⟨g, cap, cur, rfl, hg, hnc, -⟩
      · simp at h0
      have hk1 : w5.cell? ⟨g, 1, none⟩ = some (.int .i64 0) := by
        have := OwnR.cells hown (g := g) rfl 1 (.int .i64 0) rfl
        rwa [add_zero] at this
      clear hown hat hR5 hg hnc hvl Htk H4
      simp only [List.length_cons, List.length_nil, Nat.zero_add] at *
      have hb6 := below_one w5 (.cells #[.bool false, .slice none 0 0, .int .i64 0, .slice (some ⟨g, 0, none⟩) 1 cap] 40)
      have hn6 := new_block w5 (.cells #[.bool false, .slice none 0 0, .int .i64 0, .slice (some ⟨g, 0, none⟩) 1 cap] 40)
      have m0 := cell_of hn6 (i := 0) rfl
      have m2 := cell_of hn6 (i := 2) rfl
      have m3 := cell_of hn6 (i := 3) rfl
      have hk6 := cell_next hb6 hk1
      have HE := Lib.hid (Hb5.out.trans (hb6.mono Hb5.out.size))
      clear hb6 hn6 Hb5
      go_wp2_with fail
      go_ret
      exact ⟨rfl, HE.out⟩
end
end Go.Proofs.YtngflpaooppmhaaGreat

namespace Go.Proofs.YtngflpaooppmhaaGreat
open Go.RowKit Go.Sat Go.Maps

def dataE (l : Bs) : Ent := ⟨1, 1, l, []⟩
def rdQ (k : Nat) : List (Int × Nat) := (List.range k).map fun i : Nat => ((i : Int), i + 2)
theorem rdQ_succ (k : Nat) : rdQ (k + 1) = rdQ k ++ [((k : Int), k + 2)] := by
  unfold rdQ
  rw [List.range_succ, List.map_append]
  rfl
theorem rdQ_len (k : Nat) : (rdQ k).length = k := by simp [rdQ]
theorem readsV_at : ∀ (l : List (Int × Nat)) (i : Nat) (q : Int × Nat), l[i]? = some q → (readsV l)[i * 3]? = some (.int .i64 q.1) ∧ (readsV l)[i * 3 + 1]? = some (.int .i64 (q.2 : Int)) ∧ (readsV l)[i * 3 + 2]? = some (.bool true)
  | [], i, q, h => by simp at h
  | x :: l, 0, q, h => by
    simp only [List.getElem?_cons_zero, Option.some.injEq] at h
    subst h
    exact ⟨rfl, rfl, rfl⟩
  | x :: l, i + 1, q, h => by
    have h1 := readsV_at l i q (by simpa using h)
    have e (j : Nat) : (readsV (x :: l))[(i + 1) * 3 + j]? = (readsV l)[i * 3 + j]? := by
      show (Value.int .i64 x.1 :: Value.int .i64 (x.2 : Int) :: Value.bool true :: readsV l)[(i + 1) * 3 + j]? = _
      rw [show (i + 1) * 3 + j = i * 3 + j + 1 + 1 + 1 by omega]
      rfl
    exact ⟨(e 0).trans h1.1, (e 1).trans h1.2.1, (e 2).trans h1.2.2⟩
/-- Rows that may be proposed, all of them. -/
def Rows6 (ls : List Bs) : Prop := (∀ l ∈ ls, 1 ≤ l.length ∧ l.length ≤ 1000) ∧ ls.flatten.length ≤ 6000
theorem Rows6.count : ∀ {ls : List Bs}, (∀ l ∈ ls, 1 ≤ l.length) → ls.length ≤ ls.flatten.length
  | [], _ => Nat.zero_le _
  | a :: r, h => by
    have h1 := Rows6.count (ls := r) fun l hl => h l (List.mem_cons_of_mem _ hl)
    have h2 := h a (List.mem_cons_self ..)
    simp only [List.length_cons, List.flatten_cons, List.length_append]
    omega
theorem Rows6.few {ls : List Bs} (h : Rows6 ls) : ls.length ≤ 6000 := Nat.le_trans (Rows6.count fun l hl => (h.1 l hl).1) h.2

section
variable {w w1 w2 : World} {r j d room : Nat} {id : Int} {F F' : Nat → Prop}
theorem node2_propose {m : Int} {rd : Nat} {qs : List (Int × Nat)} {es : List Ent} {u : Nat} (h : Node2 w w1 r j d id room F m rd qs es u) {p : Option Addr} {n c : Nat} {data : Bs} (hv : HasB w (.slice p n c) data) (hn : data.length = n) (hn1 : 1 ≤ n ∧ n ≤ 65536) (hl : es.length + 1 ≤ 1000000) (hu : u + (58 + n) ≤ room) :
    Calls Tryz.prog 8 #[.pointer (some ⟨r, 0, none⟩), .slice p n c] w1 fun e w' => e = .returned (.tuple #[.int .i64 ((es.length + 1 : Nat) : Int), .slice none 0 0, .int .i64 0]) ∧ Node2 w w' r j d id room F m rd qs (es ++ [dataE data]) (u + (58 + n)) ∧ Same F w1 w' := by
  obtain ⟨D, M, vt, hR, hA, rfl⟩ := h
  have he : isEnt (dataE data) = true := by
    have h1 : 1 ≤ data.length ∧ data.length ≤ 65536 := by rw [hn]; exact hn1
    unfold isEnt dataE
    simp [isTm, h1.1, h1.2]
  obtain ⟨D2, hap, h2⟩ := alo_append hA (e := dataE data) he (by show (1 : Int) ≠ 2; decide) rfl (by omega) (by show _ + (58 + data.length + 9 * 0) ≤ _; rw [hn]; omega)
  obtain ⟨a1, a2, a3⟩ := alo_at h2 rfl
  have hd : (⟨M.now, 1, data, []⟩ : Ent) = dataE data := by rw [hA.now]; rfl
  have hap' : jouAppend [97] D M [⟨M.now, 1, data, []⟩] = ⟨D2, { M with entries := M.entries ++ [dataE data] }, 0⟩ := by rw [hd]; exact hap
  refine (rapropose_calls hR (by rw [hA.is]) rfl hv hn hn1 hap' a1 a2 (by rw [h2.last]; show M.entries.length < (M.entries ++ [dataE data]).length; simp) a3).mono ?_
  rintro e w' ⟨he, hR', hs⟩
  have h3 := h2.last
  rw [h3] at he hR'
  simp only [List.length_append, List.length_cons, List.length_nil, Nat.zero_add] at he
  have hu2 : u + (58 + (dataE data).data.length + 9 * (dataE data).nodes.length) = u + (58 + n) := by
    show u + (58 + data.length + 9 * 0) = _
    omega
  rw [hu2] at h2
  exact ⟨he, ⟨D2, _, vt, hR', h2, rfl⟩, hs⟩
theorem node2_ask {m : Int} {rd : Nat} {qs : List (Int × Nat)} {es : List Ent} {e0 : Ent} {u : Nat} (h : Node2 w w1 r j d id room F m rd qs (es ++ [e0]) u) (h0 : e0.term = 1) (hqs : qs.length ≤ 1000000) (hl : es.length + 1 ≤ 1000000) (hrd : rd ≤ 1099511627776) (ctx : Int) :
    Calls Tryz.prog 10 #[.pointer (some ⟨r, 0, none⟩), .int .i64 ctx] w1 fun e w' => e = .returned (.tuple #[.slice none 0 0, .int .i64 0]) ∧ Node2 w w' r j d id room F m (rd + 1) (qs ++ [(ctx, es.length + 1)]) (es ++ [e0]) u ∧ Same F w1 w' := by
  obtain ⟨D, M, vt, hR, hA, hes⟩ := h
  have hlen : M.entries.length = es.length + 1 := by rw [hes]; simp
  have hL := hA.last
  have ht : M.termAt (M.last : Int) = some M.now := by
    have hM : ({ ({ M with entries := es } : JouM) with entries := ({ M with entries := es } : JouM).entries ++ [e0] } : JouM) = M := by
      show ({ M with entries := es ++ [e0] } : JouM) = M
      rw [← hes]
    have hA2 : AloJ room id 1 ({ ({ M with entries := es } : JouM) with entries := ({ M with entries := es } : JouM).entries ++ [e0] } : JouM) D u := by rw [hM]; exact hA
    have h2 := (alo_at hA2 h0).2.2
    rw [hM] at h2
    exact h2
  refine (raask_calls hR (by rw [hA.is]) rfl rfl hqs (by rw [hL, hlen]; omega) (by rw [hL, hes]; exact Nat.le_refl _) (by show M.termAt (((es ++ [e0]).length : Nat) : Int) = _; rw [← hes, ← hL]; exact ht) hrd ctx).mono ?_
  rintro e w' ⟨he, hR', hs⟩
  simp only [List.length_append, List.length_cons, List.length_nil, Nat.zero_add] at hR'
  exact ⟨he, ⟨D, M, vt, by simp only [List.length_append, List.length_cons, List.length_nil, Nat.zero_add]; exact hR', hA, hes⟩, hs⟩

/-- It leads and has taken k of the rows. -/
def Lead6 (w w1 : World) (r j d : Nat) (ls : List Bs) (k : Nat) : Prop :=
  ∃ m, 1 ≤ m ∧ m ≤ 3 ∧ Node2 w w1 r j d 3 1048576 NoF m k (rdQ k) (ent0 :: (ls.take k).map dataE) (239 + ((ls.take k).flatten.length + 58 * k))
def Lead6h (w w1 : World) (r j d : Nat) (ls : List Bs) (k : Nat) : Prop :=
  ∃ m, 1 ≤ m ∧ m ≤ 3 ∧ Node2 w w1 r j d 3 1048576 NoF m k (rdQ k) (ent0 :: (ls.take (k + 1)).map dataE) (239 + ((ls.take (k + 1)).flatten.length + 58 * (k + 1)))
theorem lead6_propose {ls : List Bs} {k : Nat} (h : Lead6 w w1 r j d ls k) (h6 : Rows6 ls) (hk : k < ls.length) {p : Option Addr} {n c : Nat} (hv : HasB w (.slice p n c) ls[k]) (hn : ls[k].length = n) :
    Calls Tryz.prog 8 #[.pointer (some ⟨r, 0, none⟩), .slice p n c] w1 fun e w' => e = .returned (.tuple #[.int .i64 ((k : Int) + 2), .slice none 0 0, .int .i64 0]) ∧ Lead6h w w' r j d ls k := by
  obtain ⟨m, hm1, hm2, hN⟩ := h
  have hf := h6.few
  have hrow := h6.1 _ (List.getElem_mem hk)
  have htl : (ls.take k).length = k := by rw [List.length_take]; omega
  have hct := flat_take hk
  have hfl := flat_take_le ls (k + 1)
  have h60 := h6.2
  have hcl : (ls.take (k + 1)).flatten.length = (ls.take k).flatten.length + n := by rw [hct, List.length_append, hn]
  refine (node2_propose hN hv hn (by omega) (by simp [htl]; omega) (by omega)).mono ?_
  rintro e w' ⟨he, hN', -⟩
  simp only [List.length_cons, List.length_map, htl] at he
  refine ⟨by rw [he, show ((k + 1 + 1 : Nat) : Int) = (k : Int) + 2 by omega], m, hm1, hm2, ?_⟩
  rw [show (ent0 :: (ls.take k).map dataE) ++ [dataE ls[k]] = ent0 :: (ls.take (k + 1)).map dataE by rw [List.take_succ_eq_append_getElem hk, List.map_append]; rfl, show 239 + ((ls.take k).flatten.length + 58 * k) + (58 + n) = 239 + ((ls.take (k + 1)).flatten.length + 58 * (k + 1)) by omega] at hN'
  exact hN'
theorem lead6_ask {ls : List Bs} {k : Nat} (h : Lead6h w w1 r j d ls k) (h6 : Rows6 ls) (hk : k < ls.length) :
    Calls Tryz.prog 10 #[.pointer (some ⟨r, 0, none⟩), .int .i64 (k : Int)] w1 fun e w' => e = .returned (.tuple #[.slice none 0 0, .int .i64 0]) ∧ Lead6 w w' r j d ls (k + 1) := by
  obtain ⟨m, hm1, hm2, hN⟩ := h
  have hf := h6.few
  have htl : (ls.take k).length = k := by rw [List.length_take]; omega
  have he : ent0 :: (ls.take (k + 1)).map dataE = (ent0 :: (ls.take k).map dataE) ++ [dataE ls[k]] := by rw [List.take_succ_eq_append_getElem hk, List.map_append]; rfl
  rw [he] at hN
  have h1 := node2_ask hN rfl (by rw [rdQ_len]; omega) (by simp [htl]; omega) (by omega) (k : Int)
  rw [← he] at h1
  simp only [List.length_cons, List.length_map, htl] at h1
  rw [show rdQ k ++ [((k : Int), k + 1 + 1)] = rdQ (k + 1) from (rdQ_succ k).symm] at h1
  refine h1.mono ?_
  rintro e w' ⟨he, hN', -⟩
  exact ⟨he, m, hm1, hm2, hN'⟩
/-- What was taken, what was read. -/
structure End6 (w W : World) (tb : Nat) (ev sv : Value) (ls : List Bs) (n : Nat) : Prop where
  bel : Below w.heap.size w W
  tk : W.cell? ⟨tb, 3, none⟩ = some ev
  ss : ∃ p c, sv = .slice p n c
  ent : ∀ k (h : k < ls.length), ∃ g c v, ev = .slice (some ⟨g, 0, none⟩) (n + 1) c ∧ W.cell? ⟨g, (k + 1) * 4 + 2, none⟩ = some v ∧ HasB W v ls[k]
  rd : ∀ k, k < ls.length → ∃ g c, sv = .slice (some ⟨g, 0, none⟩) n c ∧ W.cell? ⟨g, k * 3, none⟩ = some (.int .i64 (k : Int)) ∧ W.cell? ⟨g, k * 3 + 1, none⟩ = some (.int .i64 ((k : Int) + 2)) ∧ W.cell? ⟨g, k * 3 + 2, none⟩ = some (.bool true)
theorem End6.next {W W' : World} {tb n : Nat} {ev sv : Value} {ls : List Bs} (h : End6 w W tb ev sv ls n) (hb : Below W.heap.size W W') : End6 w W' tb ev sv ls n where
  bel := h.bel.trans (hb.mono h.bel.size)
  tk := cell_next hb h.tk
  ss := h.ss
  ent := fun k hk => let ⟨g, c, v, h1, h2, h3⟩ := h.ent k hk; ⟨g, c, v, h1, cell_next hb h2, h3.below hb⟩
  rd := fun k hk => let ⟨g, c, h1, h2, h3, h4⟩ := h.rd k hk; ⟨g, c, h1, cell_next hb h2, cell_next hb h3, cell_next hb h4⟩
/-- Taken. -/
structure Mid6 (w W : World) (r : Nat) (ev : Value) (ls : List Bs) : Prop where
  ent : ∃ vs, OwnR W 47 4 ev (ls.length + 1) (entsC (ent0 :: ls.map dataE) vs) ∧ EntsAt W (ent0 :: ls.map dataE) vs ∧ ∀ x, (ev.ownBlock = some x ∨ ∃ u ∈ vs, u.1.ownBlock = some x ∨ u.2.ownBlock = some x) → x ≠ r
  node : ∃ j d D M s, RaF w W r j d 3 D M s NoF ∧ s.qs = rdQ ls.length
theorem lead6_take {ls : List Bs} {k : Nat} (h : Lead6 w w1 r j d ls k) (h6 : Rows6 ls) (hk : k = ls.length) :
    Calls Tryz.prog 11 #[.pointer (some ⟨r, 0, none⟩)] w1 fun e w' => ∃ ev, e = .returned (.agg #[.bool false, .slice none 0 0, .int .i64 0, ev]) ∧ Mid6 w w' r ev ls := by
  obtain ⟨m, hm1, hm2, D, M, vt, hR, hA, hes⟩ := h
  subst hk
  have hf := h6.few
  rw [List.take_length] at hR hA hes
  have hl : M.entries.length = ls.length + 1 := by rw [hes]; simp
  refine (ratake_calls hR hA.num rfl (by rw [hes]) (by omega)).mono ?_
  rintro e w' ⟨ev, vs, rfl, h1, h2, h3, h4, -⟩
  rw [hes] at h1 h2
  exact ⟨ev, rfl, ⟨vs, by simpa using h1, h2, fun x hx => (h3 x hx).1⟩, j, d, D, M, _, h4, rfl⟩
theorem Mid6.next {ev : Value} {ls : List Bs} (h : Mid6 w w1 r ev ls) (hb : Below w1.heap.size w1 w2) : Mid6 w w2 r ev ls := by
  obtain ⟨⟨vs, h1, h2, h3⟩, j, d, D, M, s, hR, hq⟩ := h
  have hk : ∀ k, k < w1.heap.size → w2.heap[k]? = w1.heap[k]? := fun k hk => hb.block k hk
  exact ⟨⟨vs, h1.keep fun k hk' => hk k (OwnR.lt h1 hk'), ⟨h2.1, fun i e v he hv => (h2.2 i e v he hv).keep fun k hk' => hk k ((h2.2 i e v he hv).lt hk')⟩, h3⟩, j, d, D, M, s, hR.next hb, hq⟩
theorem Mid6.shape {W : World} {ev : Value} {ls : List Bs} (h : Mid6 w W r ev ls) : ∃ p c, ev = .slice p (ls.length + 1) c := let ⟨⟨_, h1, _⟩, _⟩ := h; h1.shape
theorem Mid6.lt {ev : Value} {ls : List Bs} (h : Mid6 w w1 r ev ls) : r < w1.heap.size := by
  obtain ⟨-, j, d, D, M, s, hR, -⟩ := h
  obtain ⟨_, _, _, hc⟩ := hR.cells
  exact lt_of_block hc
theorem mid6_reads {tb n : Nat} {ev : Value} {ls : List Bs} (h : Mid6 w w1 r ev ls) (hn : n = ls.length) (ht : w1.heap[tb]? = some (.cells #[.bool false, .slice none 0 0, .int .i64 0, ev] 40)) (htr : tb ≠ r) :
    Calls Tryz.prog 12 #[.pointer (some ⟨r, 0, none⟩)] w1 fun e w' => ∃ sv, e = .returned sv ∧ End6 w w' tb ev sv ls n := by
  subst hn
  obtain ⟨⟨vs, h1, h2, h3⟩, j, d, D, M, s, hR, hq⟩ := h
  refine (rareads_calls hR).mono ?_
  rintro e w' ⟨sv, rfl, rfl, hsv, hne⟩
  rw [hq, rdQ_len] at hsv
  have hset : ∀ k, k ≠ r → (w1.setCell ⟨r, 11, none⟩ (.slice none 0 0)).heap[k]? = w1.heap[k]? := fun k hk => set_other _ hk
  have h1' : OwnR (w1.setCell ⟨r, 11, none⟩ (.slice none 0 0)) 47 4 ev (ls.length + 1) (entsC (ent0 :: ls.map dataE) vs) := h1.keep fun k hk => hset k (h3 k (.inl hk))
  have hsv' : OwnR (w1.setCell ⟨r, 11, none⟩ (.slice none 0 0)) 49 3 sv ls.length (readsV (rdQ ls.length)) := hsv.keep fun k hk => hset k (hne k hk).1
  refine ⟨sv, rfl, ?_, ?_, hsv'.shape, fun k hk => ?_, fun k hk => ?_⟩
  · obtain ⟨pv, wv, sv2, hJ, hI⟩ := hR
    exact ((((Chg.of_below hJ.bel).mono fun _ _ e => e.elim : Chg (fun k => k = r) w w1).trans (Chg.setCell w1 ⟨r, 11, none⟩ (.slice none 0 0)) fun k _ e => e).below (Nat.le_refl _) fun k hk e => by have := hI.rge; omega)
  · exact cell_of ((hset tb htr).trans ht) (i := 3) rfl
  · have hv : k + 1 < vs.length := by rw [h2.1]; simp; omega
    have he : (ent0 :: ls.map dataE)[k + 1]? = some (dataE ls[k]) := by simp [List.getElem?_eq_getElem hk]
    have hvv := List.getElem?_eq_getElem hv
    have hat := h2.2 (k + 1) _ _ he hvv
    have hc := entsC_at _ _ (k + 1) _ _ he hvv 2 vs[k + 1].1 rfl
    rcases h1'.2 with ⟨-, h0⟩ | ⟨g, cap, cur, e, -⟩
    · omega
    · refine ⟨g, cap, vs[k + 1].1, e, ?_, ?_⟩
      · have := h1'.cells (g := g) (by rw [e]; rfl) _ _ hc
        rwa [add_zero] at this
      · exact (hat.keep fun x hx => hset x (h3 x (.inr ⟨_, List.getElem_mem hv, hx⟩))).data.has
  · have hq1 : (rdQ ls.length)[k]? = some ((k : Int), k + 2) := by
      unfold rdQ
      rw [List.getElem?_map, List.getElem?_range hk]
      rfl
    obtain ⟨r0, r1, r2⟩ := readsV_at _ k _ hq1
    rcases hsv'.2 with ⟨-, h0⟩ | ⟨g, cap, cur, e, -⟩
    · omega
    · have hcc := hsv'.cells (g := g) (by rw [e]; rfl)
      refine ⟨g, cap, e, ?_, ?_, ?_⟩
      · have := hcc _ _ r0
        rwa [add_zero] at this
      · have := hcc _ _ r1
        rwa [add_zero] at this
      · have := hcc _ _ r2
        rwa [add_zero] at this
end
end Go.Proofs.YtngflpaooppmhaaGreat

namespace Go.Proofs.YtngflpaooppmhaaGreat
open Go.RowKit Go.Sat Go.Maps

set_option maxHeartbeats 1000000 in
theorem same6_calls {w : World} {x y : Value} {l m : Bs} (hx : HasB w x l) (hy : HasB w y m) (hl : l.length ≤ 140737488355328) (hm : m.length ≤ 140737488355328) :
    Calls Tryz.prog 13 #[x, y] w (SamePost w (l == m)) := by
  by_cases hlen : l.length = m.length
  · have ax := hx.at
    have ay := hy.at
    obtain ⟨px, cx, rfl⟩ := hx.slice
    obtain ⟨py, cy, rfl⟩ := hy.slice
    have hbne : ((l.length : Int) != (m.length : Int)) = false := by simp [hlen]
    have Hlen := Lib.hid hlen
    have Hax := Lib.hid ax
    have Hay := Lib.hid ay
    clear hx hy hlen ax ay
    generalize hlN : l.length = N at *
    generalize hmM : m.length = M at *
    have HlN := Lib.hid hlN
    have HmM := Lib.hid hmM
    clear hlN hmM
    go_enter Tryz.func13, Tryz.ntmps13
    go_wp2
    go_loopw [5] (fun i wr => ∃ k q : Nat, k ≤ N ∧ i = .int .i64 k ∧ l.take k = m.take k ∧ wr = w.drewN q) (fun i _ => N - (intOf i).toNat)
    case atStart => exact ⟨0, 0, Nat.zero_le _, rfl, rfl, rfl⟩
    case round =>
      obtain ⟨k, q, hk, rfl, htake, rfl⟩ := hrel
      have Htake := Lib.hid htake
      clear htake
      by_cases hlt : k < N
      · have hltM : k < M := by have := Hlen.out; omega
        have hkl : k < l.length := by rw [HlN.out]; exact hlt
        have hkm : k < m.length := by rw [HmM.out]; exact hltM
        have h1 : l[k]? = some l[k] := List.getElem?_eq_getElem hkl
        have h2 : m[k]? = some m[k] := List.getElem?_eq_getElem hkm
        rcases Hax.out with h | ⟨b, o, c, e1, hcx⟩
        · rw [h] at hkl
          simp at hkl
        rcases Hay.out with h | ⟨b2, o2, c2, e2, hcy⟩
        · rw [h] at hkm
          simp at hkm
        cases e1
        cases e2
        have hc1 := hcx k _ h1
        have hc2 := hcy k _ h2
        have Hnext := Lib.hid (fun e => take_eq_succ h1 h2 Htake.out e)
        have Hno := Lib.hid (fun e => ne_at h1 h2 e)
        clear hcx hcy h1 h2
        generalize l[k] = a at *
        generalize m[k] = b at *
        by_cases hab : a = b
        · have hd : ((a.toNat : Int) != (b.toNat : Int)) = false := by simp [hab]
          have Hab := Lib.hid hab
          clear hab hkl hkm
          go_wp2_with fail
          go_quiet (fail)
          go_wp2
          go_roundw
          case rel => exact ⟨k + 1, q + nq, by omega, by go_num, Hnext.out Hab.out, by first | rfl | rw [World.drewN_drewN]⟩
          case measure => simp [intOf]; omega
        · have hd : ((a.toNat : Int) != (b.toNat : Int)) = true := by
            simp only [bne_iff_ne, ne_eq, Int.natCast_inj]
            exact fun e => hab (UInt8.toNat.inj e)
          have Hab := Lib.hid hab
          clear hab hkl hkm
          go_wp2_with fail
          go_quiet (fail)
          go_wp2
          go_ret
          exact ⟨by rw [Hno.out Hab.out]; rfl, q + nq, by first | rfl | rw [World.drewN_drewN]⟩
      · go_wp2
        go_ret
        refine ⟨?_, q, rfl⟩
        have h1 := Htake.out
        rw [List.take_of_length_le (by rw [HlN.out]; omega), List.take_of_length_le (by rw [HmM.out]; have := Hlen.out; omega)] at h1
        simp [h1]
  · obtain ⟨px, cx, rfl⟩ := hx.slice
    obtain ⟨py, cy, rfl⟩ := hy.slice
    have hbne : ((l.length : Int) != (m.length : Int)) = true := by simp; omega
    have hres : (l == m) = false := by rw [beq_eq_false_iff_ne]; rintro rfl; exact hlen rfl
    rw [hres]
    clear hx hy hlen hres
    go_enter Tryz.func13, Tryz.ntmps13
    go_wp2
    go_ret
    exact ⟨rfl, 0, rfl⟩

end Go.Proofs.YtngflpaooppmhaaGreat

namespace Go.Proofs.YtngflpaooppmhaaGreat
open Go.RowKit Go.Sat Go.Maps

theorem grp3 : isGrp [3] = true := rfl
set_option maxRecDepth 100000 in
set_option maxHeartbeats 16000000 in
theorem ralone_walk {w : World} {p : Option Addr} {n c : Nat} {ls : List Bs} (hx : RowsAt w (.slice p n c) ls) (hn : n ≤ 140737488355328) (hrow : ∀ l ∈ ls, l.length ≤ 140737488355328) (draw : Int)
    (hd1 : -9223372036854775808 ≤ draw) (hd2 : draw ≤ 9223372036854775807) :
    Calls Tryz.prog 3 #[.slice p n c, .int .i64 draw] w (True3 w) := by
  have hnl := RowsAt.len hx
  have Hx := Lib.hid hx
  have Hrow := Lib.hid hrow
  have Hnl := Lib.hid hnl
  have Hd := Lib.hid (And.intro hd1 hd2)
  have Hkn := Lib.hid (known6_calls w)
  clear hx hrow hnl hd1 hd2
  go_enter Tryz.func3, Tryz.ntmps3
  go_wp2_with fail
  go_loop [5, 6] (fun a i => ∃ k : Nat, k ≤ n ∧ i = .int .i64 k ∧ a = .int .i64 (((ls.take k).flatten.length : Nat) : Int) ∧ Rows6 (ls.take k)) (fun _ i => n - (intOf i).toNat)
  case atStart => exact ⟨0, Nat.zero_le _, rfl, rfl, fun l hl => by simp at hl, by simp⟩
  case round =>
    obtain ⟨k, hk, rfl, rfl, hck⟩ := hrel
    by_cases hlt : k < n
    · have hltl : k < ls.length := by rw [← Hnl.out]; exact hlt
      obtain ⟨-, b, o, v, rfl, hcell, hv⟩ := RowsAt.row Hx.out hltl
      have hct := flat_take hltl
      have hrl := Hrow.out _ (List.getElem_mem hltl)
      obtain ⟨pv, cv, rfl⟩ := hv.slice
      have Hct := Lib.hid (show (ls.take (k + 1)).flatten.length = (ls.take k).flatten.length + ls[k].length by rw [hct, List.length_append])
      have Hck := Lib.hid hck
      have hC6 := hck.2
      have Htk := Lib.hid (show ls.take (k + 1) = ls.take k ++ [ls[k]] from List.take_succ_eq_append_getElem hltl)
      have Hnx := Lib.hid (show 1 ≤ ls[k].length → ls[k].length ≤ 1000 → (ls.take k).flatten.length + ls[k].length ≤ 6000 → Rows6 (ls.take (k + 1)) from fun h1 h2 h3 => ⟨fun l hl => by
        rw [Htk.out] at hl
        rcases List.mem_append.1 hl with hl | hl
        · exact Hck.out.1 l hl
        · rw [List.mem_singleton.1 hl]
          exact ⟨h1, h2⟩, by rw [Hct.out]; exact h3⟩)
      clear hv hct hck
      generalize hm : ls[k].length = m at *
      generalize hC : (ls.take k).flatten.length = C at *
      have HC := Lib.hid hC
      have Hm := Lib.hid hm
      clear hC hm
      by_cases hm1 : m < 1
      · go_wp2_with fail
        refine Hkn.out.mono ?_
        rintro e w' ⟨rfl, hb⟩
        go_wp2_with fail
        go_ret
        exact ⟨rfl, hb⟩
      by_cases hm2 : 1000 < m
      · go_wp2_with fail
        refine Hkn.out.mono ?_
        rintro e w' ⟨rfl, hb⟩
        go_wp2_with fail
        go_ret
        exact ⟨rfl, hb⟩
      by_cases hs : 6000 < C + m
      · go_wp2_with fail
        refine Hkn.out.mono ?_
        rintro e w' ⟨rfl, hb⟩
        go_wp2_with fail
        go_ret
        exact ⟨rfl, hb⟩
      go_wp2_with fail
      go_round
      case rel => exact ⟨k + 1, by omega, by go_num, by rw [Hct.out]; go_num, Hnx.out (by omega) (by omega) (by omega)⟩
      case measure => simp [intOf]; omega
    · have hls : ls.take k = ls := List.take_of_length_le (by have := Hnl.out; omega)
      rw [hls] at hck ⊢
      have hn6 : n ≤ 6000 := by rw [Hnl.out]; exact hck.few
      have H6 := Lib.hid hck
      have hkn : k = n := by omega
      have Hnew := Lib.hid (st_new (w := w) (w1 := w) 1048576 (by decide) (by decide) (Below.refl _ _))
      have kc := fun (w : World) (C : Array Value) (n c : Nat) => Lib.run_convert_bytes_const (P := Tryz.prog) w 23 5 C n c Tryz.underlying23 Tryz.underlying5
      have hfl := hck.2
      generalize ls.flatten.length = C at *
      clear hls hck Hkn
      go_wp2_with fail
      refine Hnew.out.mono ?_
      rintro e w2 ⟨d, rfl, hst⟩
      have hb := below_one w2 (.cells #[.int .i64 3] 3)
      have Hop := Lib.hid (raopen_calls (id := 3) (hst.next hb) (by decide) (nodes := [3]) (pn := some ⟨w2.heap.size, 0, none⟩) (nn := 1) (cn := 1) (holds_blk1 (new_block w2 (.cells #[.int .i64 3] 3)) (intsV [3]) 1 1 1 rfl rfl) (by decide) (jopen_fresh (room := 1048576) (by decide) (by decide) (by decide) grp3) (by decide) draw Hd.out)
      clear Hnew hst hb
      go_wp2_with fail
      refine Hop.out.mono ?_
      rintro e w3 ⟨r, j, rfl, hR, -⟩
      have hwt : 10 ≤ 10 + (max 0 draw) % 10 ∧ 10 + (max 0 draw) % 10 ≤ 19 := by omega
      generalize 10 + (max 0 draw) % 10 = wt at *
      have hR1 : Node1 w w3 r j d 3 1048576 NoF wt := hR
      have H3 := Lib.hid hR1
      have hb4 := below_one w3 (.cells #[.int .u8 120] 5 (1, 2))
      have Hno := Lib.hid (rapropose_no (show RaF _ _ _ _ _ _ _ _ _ _ from hR1.next hb4) rfl (.slice (some ⟨w3.heap.size, 0, none⟩) 1 1))
      have H4 := Lib.hid (show Node1 w (w3.alloc (.cells #[.int .u8 120] 5 (1, 2))) r j d 3 1048576 NoF wt from hR1.next hb4)
      clear hR hR1 Hop hb4
      go_wp2_with fail
      refine Hno.out.mono ?_
      rintro e w4 ⟨rfl, rfl⟩
      clear H3 Hno
      go_wp2_with fail
      go_loopw [14] (fun i wr => ∃ k : Nat, k ≤ 20 ∧ i = .int .i64 k ∧ (((k : Int) < wt ∧ Node1 w wr r j d 3 1048576 NoF (wt - (k : Int))) ∨ (wt ≤ (k : Int) ∧ Lead6 w wr r j d ls 0))) (fun i _ => 20 - (intOf i).toNat)
      case atStart => exact ⟨0, by omega, rfl, .inl ⟨by omega, by rw [show wt - ((0 : Nat) : Int) = wt by omega]; exact H4.out⟩⟩
      case round =>
        clear H4
        obtain ⟨t, ht, rfl, hN⟩ := hrel
        by_cases h20 : t < 20
        · have Htk : Hid (Calls Tryz.prog 9 #[.pointer (some ⟨r, 0, none⟩), .int .i64 draw] wr fun e w' => e = .returned (.slice none 0 0) ∧ ((((t + 1 : Nat) : Int) < wt ∧ Node1 w w' r j d 3 1048576 NoF (wt - ((t + 1 : Nat) : Int))) ∨ (wt ≤ ((t + 1 : Nat) : Int) ∧ Lead6 w w' r j d ls 0))) := by
            refine Lib.hid ?_
            rcases hN with ⟨h1, hN⟩ | ⟨h1, m, hm1, hm2, hN⟩
            · by_cases h9 : wt - (t : Int) = 1
              · rw [h9] at hN
                refine (node1_stand hN (by decide) (by decide) draw Hd.out).mono ?_
                rintro e w' ⟨rfl, hN', -⟩
                exact ⟨rfl, .inr ⟨by omega, 3, by decide, by decide, by simpa [rdQ] using hN'⟩⟩
              · refine (node1_wait hN (by omega) draw).mono ?_
                rintro e w' ⟨rfl, hN', -⟩
                exact ⟨rfl, .inl ⟨by omega, by rwa [show wt - (t : Int) - 1 = wt - ((t + 1 : Nat) : Int) by omega] at hN'⟩⟩
            · refine (node2_tick hN ⟨hm1, hm2⟩ draw).mono ?_
              rintro e w' ⟨rfl, ⟨m', h1', h2', hN'⟩, -⟩
              exact ⟨rfl, .inr ⟨by omega, m', h1', h2', hN'⟩⟩
          clear hN
          go_wp2_with fail
          refine Htk.out.mono ?_
          rintro e w5 ⟨rfl, h5⟩
          have H5 := Lib.hid h5
          clear h5 Htk
          go_wp2_with fail
          go_roundw
          case rel => exact ⟨t + 1, by omega, by go_num, H5.out⟩
          case measure => simp [intOf]; omega
        · have hL : Lead6 w wr r j d ls 0 := by
            rcases hN with ⟨h1, -⟩ | ⟨-, hL⟩
            · omega
            · exact hL
          have HL := Lib.hid hL
          clear hN hL
          go_wp2_with fail
          go_loopw [15] (fun i wr => ∃ k : Nat, k ≤ n ∧ i = .int .i64 k ∧ Lead6 w wr r j d ls k) (fun i _ => n - (intOf i).toNat)
          case atStart => exact ⟨0, Nat.zero_le _, rfl, HL.out⟩
          case round =>
            clear HL
            obtain ⟨k, hk, rfl, hN⟩ := hrel
            by_cases hlt : k < n
            · have hltl : k < ls.length := by rw [← Hnl.out]; exact hlt
              obtain ⟨-, b, o, v, rfl, hcell, hv⟩ := RowsAt.row Hx.out hltl
              have hbel : Below w.heap.size w wr := by
                obtain ⟨m, -, -, D, M, vt, hR, -⟩ := hN
                exact hR.bel
              have hcell2 := (hbel.cell (World.block_lt_of_cell? w _ hcell)).trans hcell
              obtain ⟨pv, cv, rfl⟩ := hv.slice
              have Hpr := Lib.hid (lead6_propose hN H6.out hltl hv rfl)
              clear hN hbel hv hcell
              generalize ls[k].length = m at *
              go_wp2_with fail
              refine Hpr.out.mono ?_
              rintro e w5 ⟨rfl, h5⟩
              have Has := Lib.hid (lead6_ask h5 H6.out hltl)
              clear h5 Hpr hcell2
              go_wp2_with fail
              refine Has.out.mono ?_
              rintro e w6 ⟨rfl, h6⟩
              have HH := Lib.hid h6
              clear h6 Has
              go_wp2_with fail
              go_roundw
              case rel => exact ⟨k + 1, by omega, by go_num, HH.out⟩
              case measure => simp [intOf]; omega
            · have hkl : k = n := by omega
              have Htk := Lib.hid (lead6_take hN H6.out (hkl.trans Hnl.out))
              subst hkl
              clear hN
              go_wp2_with fail
              refine Htk.out.mono ?_
              rintro e w5 ⟨ev, rfl, h5⟩
              obtain ⟨pe, ce, rfl⟩ := h5.shape
              rw [← Hnl.out] at h5 ⊢
              have hb6 := below_one w5 (.cells #[.bool false, .slice none 0 0, .int .i64 0, .slice pe (k + 1) ce] 40)
              have hn6 := new_block w5 (.cells #[.bool false, .slice none 0 0, .int .i64 0, .slice pe (k + 1) ce] 40)
              have Hrd := Lib.hid (mid6_reads (h5.next hb6) Hnl.out hn6 (by have := h5.lt; omega))
              clear h5 Htk hb6 hn6
              go_wp2_with fail
              generalize w5.alloc (.cells #[.bool false, .slice none 0 0, .int .i64 0, .slice pe (k + 1) ce] 40) = W6 at *
              generalize w5.heap.size = tb at *
              refine Hrd.out.mono ?_
              rintro e w7 ⟨sv, rfl, h7⟩
              obtain ⟨ps, cs, rfl⟩ := h7.ss
              have htk := h7.tk
              have H7 := Lib.hid h7
              clear h7 Hrd
              go_wp2_with fail
              clear htk
              go_loopw [21] (fun i wr => ∃ t : Nat, t ≤ k ∧ i = .int .i64 t ∧ End6 w wr tb (.slice pe (k + 1) ce) (.slice ps k cs) ls k) (fun i _ => k - (intOf i).toNat)
              case atStart => exact ⟨0, Nat.zero_le _, rfl, H7.out⟩
              case round =>
                clear H7
                obtain ⟨t, ht, rfl, hE⟩ := hrel
                have HE := Lib.hid hE
                by_cases hlt2 : t < k
                · have hltl : t < ls.length := by rw [← Hnl.out]; exact hlt2
                  obtain ⟨-, b, o, v0, rfl, hcell, hv0⟩ := RowsAt.row Hx.out hltl
                  have hcell2 := (hE.bel.cell (World.block_lt_of_cell? w _ hcell)).trans hcell
                  have hv2 := hv0.below hE.bel
                  obtain ⟨g, c1, v, e1, hc1, hv1⟩ := hE.ent t hltl
                  obtain ⟨g2, c2, e2, hr0, hr1, hr2⟩ := hE.rd t hltl
                  cases e1
                  cases e2
                  have hl := Hrow.out _ (List.getElem_mem hltl)
                  have hcl : (ls[t] == ls[t]) = true := beq_self_eq_true _
                  obtain ⟨pv, cv, rfl⟩ := hv1.slice
                  obtain ⟨pw, cw, rfl⟩ := hv2.slice
                  go_wp2_with fail
                  go_upto_region 40 with (fail)
                  have htk := hE.tk
                  have hx1 : IntKind.i64.wrap ((t : Int) + 1) = ((t + 1 : Nat) : Int) := by rw [IntWalk.i64_in _ (by omega)]; omega
                  have hx2 : IntKind.i64.wrap ((t : Int) + 2) = (t : Int) + 2 := IntWalk.i64_in _ (by omega)
                  obtain ⟨ι, G, hne, hG0, hGS, hGall⟩ := classOf (fun W => Below wr.heap.size wr W) (w := wr.drew) (Below.refl _ _).drew
                  have q0 := fun q => cell_next (hGS q) htk
                  have q1 := fun q => cell_next (hGS q) hc1
                  have q2 := fun q => cell_next (hGS q) hcell2
                  have q3 := fun q => cell_next (hGS q) hr0
                  have q4 := fun q => cell_next (hGS q) hr1
                  have q5 := fun q => cell_next (hGS q) hr2
                  have Hsm := Lib.hid (fun q => same6_calls (hv1.below (hGS q)) (hv2.below (hGS q)) hl hl)
                  simp only [hcl] at Hsm
                  have HGS := Lib.hid hGS
                  have HGall := Lib.hid hGall
                  clear hGS hGall htk hc1 hcell hcell2 hr0 hr1 hr2 hv0 hv1 hv2 hE hl hcl
                  generalize ls[t].length = m at *
                  refine wp_region_class G (by kernel_rfl) (by kernel_rfl) hG0 ?_
                  repeat (go_big_quiet_step ((go_at_call 13; refine (Hsm.out _).mono ?_; rintro e w3 ⟨rfl, q3, rfl⟩; exact ⟨rfl, HGall.out _ ((HGS.out _).trans (below_dqa _ _))⟩)))
                  refine wpQuiet_nil ?_
                  rintro _ ⟨q, rfl⟩
                  have HE2 := Lib.hid (HE.out.next (HGS.out q))
                  clear HGS HGall hG0 Hsm q0 q1 q2 q3 q4 q5
                  go_wp2_with fail
                  go_roundw
                  case rel => exact ⟨t + 1, by omega, by go_num, HE2.out⟩
                  case measure => simp [intOf]; omega
                · have Hk2 := Lib.hid (known6_calls wr)
                  go_wp2_with fail
                  refine Hk2.out.mono ?_
                  rintro e w8 ⟨rfl, hb8⟩
                  have HB8 := Lib.hid (HE.out.bel.trans (hb8.mono HE.out.bel.size))
                  clear hb8
                  go_wp2_with fail
                  go_ret
                  exact ⟨rfl, HB8.out⟩
end Go.Proofs.YtngflpaooppmhaaGreat

namespace Go.Proofs.YtngflpaooppmhaaGreat
open Go.RowKit Go.Sat Go.Maps

set_option maxRecDepth 100000 in
set_option maxHeartbeats 4000000 in
theorem nilmay_calls (w : World) : Calls Tryz.prog 24 #[.pointer none] w fun e w' => e = .returned (.int .i64 1) ∧ w' = w := by
  go_enter Tryz.func24, Tryz.ntmps24
  go_wp2_with fail
  go_ret
  exact ⟨rfl, rfl⟩
set_option maxRecDepth 100000 in
set_option maxHeartbeats 4000000 in
theorem nilprop_calls (w : World) (v : Value) : Calls Tryz.prog 8 #[.pointer none, v] w fun e w' => e = .returned (.tuple #[.int .i64 0, .slice none 0 0, .int .i64 1]) ∧ w' = w := by
  have Hm := Lib.hid (nilmay_calls w)
  go_enter Tryz.func8, Tryz.ntmps8
  go_wp2_with fail
  refine Hm.out.mono ?_
  rintro e w2 ⟨rfl, rfl⟩
  go_wp2_with fail
  go_ret3
  exact ⟨rfl, rfl⟩
set_option maxRecDepth 100000 in
set_option maxHeartbeats 4000000 in
theorem nilchange_calls (w : World) (p : Option Addr) (n c : Nat) : Calls Tryz.prog 14 #[.pointer none, .slice p n c] w fun e w' => e = .returned (.tuple #[.int .i64 0, .slice none 0 0, .int .i64 1]) ∧ Below w.heap.size w w' := by
  have hb1 := below_one w (.cells #[.pointer none] 29)
  have HB := Lib.hid (hb1.trans ((below_one (w.alloc (.cells #[.pointer none] 29)) (.cells #[.slice p n c] 45)).mono hb1.size))
  have Hm := Lib.hid (nilmay_calls ((w.alloc (.cells #[.pointer none] 29)).alloc (.cells #[.slice p n c] 45)))
  have hnb := cell_of (new_block w (.cells #[.pointer none] 29)) (i := 0) rfl
  have hnb2 := cell_next (below_one (w.alloc (.cells #[.pointer none] 29)) (.cells #[.slice p n c] 45)) hnb
  clear hb1
  go_enter Tryz.func14, Tryz.ntmps14
  go_wp2_with fail
  refine Hm.out.mono ?_
  rintro e w2 ⟨rfl, rfl⟩
  go_wp2_with fail
  go_ret3
  exact ⟨rfl, HB.out⟩
set_option maxRecDepth 100000 in
set_option maxHeartbeats 4000000 in
theorem nilask_calls (w : World) (n : Int) : Calls Tryz.prog 10 #[.pointer none, .int .i64 n] w fun e w' => e = .returned (.tuple #[.slice none 0 0, .int .i64 1]) ∧ w' = w := by
  have Hm := Lib.hid (nilmay_calls w)
  go_enter Tryz.func10, Tryz.ntmps10
  go_wp2_with fail
  refine Hm.out.mono ?_
  rintro e w2 ⟨rfl, rfl⟩
  go_wp2_with fail
  go_ret2
  exact ⟨rfl, rfl⟩
set_option maxRecDepth 100000 in
set_option maxHeartbeats 4000000 in
theorem niltick_calls (w : World) (n : Int) : Calls Tryz.prog 9 #[.pointer none, .int .i64 n] w fun e w' => e = .returned (.slice none 0 0) ∧ w' = w := by
  go_enter Tryz.func9, Tryz.ntmps9
  go_wp2_with fail
  go_ret
  exact ⟨rfl, rfl⟩
set_option maxRecDepth 100000 in
set_option maxHeartbeats 4000000 in
theorem nilreads_calls (w : World) : Calls Tryz.prog 12 #[.pointer none] w fun e w' => e = .returned (.slice none 0 0) ∧ w' = w := by
  go_enter Tryz.func12, Tryz.ntmps12
  go_wp2_with fail
  go_ret
  exact ⟨rfl, rfl⟩
set_option maxRecDepth 100000 in
set_option maxHeartbeats 4000000 in
theorem nilnodes_calls (w : World) : Calls Tryz.prog 18 #[.pointer none] w fun e w' => e = .returned (.slice none 0 0) ∧ w' = w := by
  go_enter Tryz.func18, Tryz.ntmps18
  go_wp2_with fail
  go_ret
  exact ⟨rfl, rfl⟩
set_option maxRecDepth 100000 in
set_option maxHeartbeats 4000000 in
theorem nilcompact_calls (w : World) (n : Int) (v : Value) : Calls Tryz.prog 19 #[.pointer none, .int .i64 n, v] w fun e w' => e = .returned (.int .i64 1) ∧ w' = w := by
  go_enter Tryz.func19, Tryz.ntmps19
  go_wp2_with fail
  go_ret
  exact ⟨rfl, rfl⟩
set_option maxRecDepth 100000 in
set_option maxHeartbeats 4000000 in
theorem nilstate_calls (w : World) : Calls Tryz.prog 15 #[.pointer none] w fun e w' => e = .returned (.tuple #[.int .i64 0, .int .i64 0, .int .i64 0]) ∧ w' = w := by
  go_enter Tryz.func15, Tryz.ntmps15
  go_wp2_with fail
  go_ret3
  exact ⟨rfl, rfl⟩
set_option maxRecDepth 100000 in
set_option maxHeartbeats 4000000 in
theorem nillog_calls (w : World) : Calls Tryz.prog 16 #[.pointer none] w fun e w' => e = .returned (.tuple #[.int .i64 0, .int .i64 0, .int .i64 0]) ∧ w' = w := by
  go_enter Tryz.func16, Tryz.ntmps16
  go_wp2_with fail
  go_ret3
  exact ⟨rfl, rfl⟩

set_option maxRecDepth 100000 in
set_option maxHeartbeats 4000000 in
theorem nilopen_calls (w : World) (v : Value) (n : Int) : Calls Tryz.prog 7 #[.int .i64 (-1), .pointer none, .string sA, .int .i64 n, v] w fun e w' => e = .returned (.tuple #[.pointer none, .int .i64 1]) ∧ w' = w := by
  have hin := isnode_calls w (-1)
  rw [decide_eq_false (by decide)] at hin
  have Hin := Lib.hid hin
  clear hin
  go_enter Tryz.func7, Tryz.ntmps7
  go_wp2_with fail
  refine Hin.out.mono ?_
  rintro e w2 ⟨rfl, rfl⟩
  go_wp2_with fail
  go_ret2
  exact ⟨rfl, rfl⟩
set_option maxRecDepth 100000 in
set_option maxHeartbeats 4000000 in
theorem niltake_calls (w : World) : Calls Tryz.prog 11 #[.pointer none] w fun e w' => e = .returned (.agg #[.bool false, .slice none 0 0, .int .i64 0, .slice none 0 0]) ∧ Below w.heap.size w w' := by
  have hn := new_block w (.cells #[.bool false, .slice none 0 0, .int .i64 0, .slice none 0 0] 40)
  have hb := below_one w (.cells #[.bool false, .slice none 0 0, .int .i64 0, .slice none 0 0] 40)
  have Hps := Lib.hid hn
  have HB := Lib.hid hb
  have a0 := cell_of hn (i := 0) rfl
  have a1 := cell_of hn (i := 1) rfl
  have a2 := cell_of hn (i := 2) rfl
  have a3 := cell_of hn (i := 3) rfl
  have fa := frozen_of hn
  clear hn hb
  go_enter Tryz.func11, Tryz.ntmps11
  go_wp2_with fail
  refine bodyPost_ret (results_cell_row rfl _ _ w.heap.size _ _ (0, 0) _ rfl Hps.out Tryz.underlying40 rfl (by kernel_rfl)) rfl ?_
  exact ⟨rfl, HB.out⟩
end Go.Proofs.YtngflpaooppmhaaGreat

namespace Go.Proofs.YtngflpaooppmhaaGreat
open Go.RowKit Go.Sat Go.Maps

set_option maxRecDepth 100000 in
set_option maxHeartbeats 4000000 in
theorem nilhear_calls (w : World) (x y : Int) (v : Value) (n : Int) (hv : ∃ p k c, v = .slice p k c) : Calls Tryz.prog 17 #[.pointer none, .agg #[.int .i64 x, .int .i64 y, v], .int .i64 n] w fun e w' => e = .returned (.slice none 0 0) ∧ Below w.heap.size w w' := by
  obtain ⟨p, k, c, rfl⟩ := hv
  have HB := Lib.hid ((below_one w (.cells #[.int .i64 x, .int .i64 y, .slice p k c] 52)).trans ((below_drew (w.alloc (.cells #[.int .i64 x, .int .i64 y, .slice p k c] 52))).mono (below_one w (.cells #[.int .i64 x, .int .i64 y, .slice p k c] 52)).size))
  go_enter Tryz.func17, Tryz.ntmps17
  go_upto_region 1 with (fail)
  generalize w.alloc (.cells #[.int .i64 x, .int .i64 y, .slice p k c] 52) = W1 at *
  refine ord_start (fun _ : World => True) (n := 32) (by kernel_rfl) rfl trivial (fun hHeld => ?_)
  refine Pl [0,1,2,3,4,5,6,7,8,9,10,11,12,13,14,15,16,17,18,19,20,21,22,23,24,25,26,27,28,29,30,31] ?_
  iterate 3 (refine Pc rfl ?_; simp only [Act.put, uA, uB, uC])
  iterate 4 (refine Ps rfl ?_; simp only [Act.put, uA, uB, uC])
  iterate 2 (refine Pc rfl ?_; simp only [Act.put, uA, uB, uC])
  iterate 7 (refine Ps rfl ?_; simp only [Act.put, uA, uB, uC])
  iterate 2 (refine Pc rfl ?_; simp only [Act.put, uA, uB, uC])
  iterate 7 (refine Ps rfl ?_; simp only [Act.put, uA, uB, uC])
  iterate 2 (refine Pc rfl ?_; simp only [Act.put, uA, uB, uC])
  iterate 4 (refine Ps rfl ?_; simp only [Act.put, uA, uB, uC])
  iterate 1 (refine Pc rfl ?_; simp only [Act.put, uA, uB, uC])
  refine Pn ?_
  refine wpAnyH_done (by kernel_rfl) ?_ _
  go_wp2_with fail
  go_ret
  exact ⟨rfl, HB.out⟩
end Go.Proofs.YtngflpaooppmhaaGreat

namespace Go.Sat
open Go.RowKit

def lexRun (md : Region.Mode) (ops : Array Oper) : Nat → Nat → Array Bool → Bool
  | 0, _, _ => true
  | n + 1, k, a => (Region.ready md ops a).contains k && Region.free md ops a k && lexRun md ops n (k + 1) (a.setIfInBounds k true)
def setRun : Nat → Nat → Array Bool → Array Bool
  | 0, _, a => a
  | n + 1, k, a => setRun n (k + 1) (a.setIfInBounds k true)
theorem lex_part {md : Region.Mode} {ops : Array Oper} (fuel : Nat) : ∀ (n k : Nat) (a : Array Bool), lexRun md ops n k a = true → Region.lexFrom md ops fuel (k + n) (setRun n k a) = true → Region.lexFrom md ops (n + fuel) k a = true
  | 0, k, a, _, h => by rw [Nat.zero_add]; exact h
  | n + 1, k, a, h1, h2 => by
    simp only [lexRun, Bool.and_eq_true] at h1
    rw [show n + 1 + fuel = n + fuel + 1 by omega]
    simp only [Region.lexFrom, Bool.and_eq_true]
    refine ⟨h1.1, lex_part fuel n (k + 1) _ h1.2 ?_⟩
    rw [show k + 1 + n = k + (n + 1) by omega]
    exact h2
/-- So many are taken, the others not. -/
def lexA (k n : Nat) : Array Bool := (List.replicate k true ++ List.replicate (n - k) false).toArray
theorem lex_chunk {md : Region.Mode} {ops : Array Oper} (n fuel k m : Nat) (h1 : lexRun md ops n k (lexA k m) = true) (h2 : setRun n k (lexA k m) = lexA (k + n) m) (h3 : Region.lexFrom md ops fuel (k + n) (lexA (k + n) m) = true) : Region.lexFrom md ops (n + fuel) k (lexA k m) = true :=
  lex_part fuel n k _ h1 (by rw [h2]; exact h3)
end Go.Sat

namespace Go.Proofs.YtngflpaooppmhaaGreat
open Go.RowKit Go.Sat Go.Maps

set_option maxRecDepth 100000 in
set_option maxHeartbeats 16000000 in
theorem rnothing_walk {w : World} (x y : Int) {p1 : Option Addr} {n1 c1 : Nat} (hn1 : n1 ≤ 140737488355328) (n : Int) {pn : Option Addr} {nn cn : Nat} (hn : nn ≤ 17592186044416) :
    Calls Tryz.prog 4 #[.agg #[.int .i64 x, .int .i64 y, .slice p1 n1 c1], .int .i64 n, .slice pn nn cn] w (True3 w) := by
  have hw1 : IntKind.i64.wrap ((n1 : Int) + (nn : Int)) = ((n1 + nn : Nat) : Int) := by rw [IntWalk.i64_in _ (by omega)]; omega
  have hb0 := below_one w (.cells #[.int .i64 x, .int .i64 y, .slice p1 n1 c1] 52)
  have HB0 := Lib.hid hb0
  have Hm0 := Lib.hid (new_block w (.cells #[.int .i64 x, .int .i64 y, .slice p1 n1 c1] 52))
  have m2 := cell_of Hm0.out (i := 2) rfl
  clear hb0
  by_cases hbig : 1000 < n1 + nn
  · have hd : decide ((1000 : Int) < ((n1 + nn : Nat) : Int)) = true := decide_eq_true (by omega)
    go_enter Tryz.func4, Tryz.ntmps4
    go_wp2_with fail
    go_ret
    exact ⟨rfl, HB0.out⟩
  · have hd : decide ((1000 : Int) < ((n1 + nn : Nat) : Int)) = false := decide_eq_false (by omega)
    go_enter Tryz.func4, Tryz.ntmps4
    have Hp := Lib.hid (nilprop_calls (w.alloc (.cells #[.int .i64 x, .int .i64 y, .slice p1 n1 c1] 52)) (.slice p1 n1 c1))
    go_wp2_with fail
    generalize w.alloc (.cells #[.int .i64 x, .int .i64 y, .slice p1 n1 c1] 52) = W1 at *
    generalize w.heap.size = m0 at Hm0 ⊢
    refine Hp.out.mono ?_
    rintro e w2 ⟨rfl, rfl⟩
    have Hch := Lib.hid (nilchange_calls w2 pn nn cn)
    clear Hp
    go_wp2_with fail
    refine Hch.out.mono ?_
    rintro e w3 ⟨rfl, hb3⟩
    have HB3 := Lib.hid (HB0.out.trans (hb3.mono HB0.out.size))
    have Hm3 := Lib.hid ((hb3.block m0 (lt_of_block Hm0.out)).trans Hm0.out)
    have Hak := Lib.hid (nilask_calls w3 n)
    clear Hch hb3 HB0 Hm0 m2
    go_wp2_with fail
    refine Hak.out.mono ?_
    rintro e w4 ⟨rfl, rfl⟩
    have Htk := Lib.hid (niltake_calls w4)
    go_wp2_with fail
    refine Htk.out.mono ?_
    rintro e w5 ⟨rfl, hb5⟩
    have HB5 := Lib.hid (HB3.out.trans (hb5.mono HB3.out.size))
    have Hm5 := Lib.hid ((hb5.block m0 (lt_of_block Hm3.out)).trans Hm3.out)
    have hb6 := below_one w5 (.cells #[.bool false, .slice none 0 0, .int .i64 0, .slice none 0 0] 40)
    have HB6 := Lib.hid (HB5.out.trans (hb6.mono HB5.out.size))
    have Hm6 := Lib.hid ((hb6.block m0 (lt_of_block Hm5.out)).trans Hm5.out)
    have Ht6 := Lib.hid (new_block w5 (.cells #[.bool false, .slice none 0 0, .int .i64 0, .slice none 0 0] 40))
    have Hst := Lib.hid (nilstate_calls (w5.alloc (.cells #[.bool false, .slice none 0 0, .int .i64 0, .slice none 0 0] 40)))
    clear Htk hb5 HB3 Hm3 Hak hb6 HB5 Hm5
    go_wp2_with fail
    generalize w5.alloc (.cells #[.bool false, .slice none 0 0, .int .i64 0, .slice none 0 0] 40) = W6 at *
    generalize w5.heap.size = t0 at *
    refine Hst.out.mono ?_
    rintro e w6 ⟨rfl, rfl⟩
    have Hlg := Lib.hid (nillog_calls w6)
    go_wp2_with fail
    refine Hlg.out.mono ?_
    rintro e w7 ⟨rfl, rfl⟩
    have hb8 := below_one w7 (.cells #[.int .i64 0] 3)
    have Hop := Lib.hid (nilopen_calls (w7.alloc (.cells #[.int .i64 0] 3)) (.slice (some ⟨w7.heap.size, 0, none⟩) 1 1) n)
    have HB8 := Lib.hid (HB6.out.trans (hb8.mono HB6.out.size))
    have Hm8 := Lib.hid ((hb8.block m0 (lt_of_block Hm6.out)).trans Hm6.out)
    have Ht8 := Lib.hid ((hb8.block t0 (lt_of_block Ht6.out)).trans Ht6.out)
    clear Hst Hlg hb8 HB6 Hm6 Ht6
    go_wp2_with fail
    generalize w7.alloc (.cells #[.int .i64 0] 3) = W8 at *
    generalize w7.heap.size = n0 at *
    refine Hop.out.mono ?_
    rintro e w9 ⟨rfl, rfl⟩
    go_upto_region 11 with (fail)
    clear hw1 hd hbig Hop
    simp only [List.append] at *
    obtain ⟨ι, G, hne, hG0, hGS, hGall⟩ := classOf (fun W => Below w9.heap.size w9 W) (w := w9.drew) (Below.refl _ _).drew
    have q0 := fun q => cell_next (hGS q) (cell_of Ht8.out (i := 0) rfl)
    have q1 := fun q => cell_next (hGS q) (cell_of Ht8.out (i := 1) rfl)
    have q2 := fun q => cell_next (hGS q) (cell_of Ht8.out (i := 2) rfl)
    have q3 := fun q => cell_next (hGS q) (cell_of Ht8.out (i := 3) rfl)
    have r0 := fun q => cell_next (hGS q) (cell_of Hm8.out (i := 0) rfl)
    have r1 := fun q => cell_next (hGS q) (cell_of Hm8.out (i := 1) rfl)
    have r2 := fun q => cell_next (hGS q) (cell_of Hm8.out (i := 2) rfl)
    have Htk := Lib.hid (fun q => niltick_calls (G q) n)
    have Hhe := Lib.hid (fun q => nilhear_calls (G q) x y (.slice p1 n1 c1) n ⟨_, _, _, rfl⟩)
    have Hre := Lib.hid (fun q => nilreads_calls (G q))
    have Hno := Lib.hid (fun q => nilnodes_calls (G q))
    have Hco := Lib.hid (fun q => nilcompact_calls (G q) n (.slice none 0 0))
    have Hkn := Lib.hid (fun q => known6_calls (G q))
    have HGS := Lib.hid hGS
    have HGall := Lib.hid hGall
    clear hGS hGall Ht8 Hm8
    as_aux_lemma =>
      refine wp_region_class G (by kernel_rfl) ?_ hG0 ?_
      · unfold Region.lexB
        rw [Bool.and_eq_true]
        refine ⟨by decide +kernel, ?_⟩
        refine (show Region.lexFrom .any _ (16 + (16 + (15 + (15 + (15 + (15 + 0)))))) 0 (lexA 0 92) = true from ?_)
        refine lex_chunk 16 _ 0 92 (by decide +kernel) (by decide +kernel) ?_
        refine lex_chunk 16 _ 16 92 (by decide +kernel) (by decide +kernel) ?_
        refine lex_chunk 15 _ 32 92 (by decide +kernel) (by decide +kernel) ?_
        refine lex_chunk 15 _ 47 92 (by decide +kernel) (by decide +kernel) ?_
        refine lex_chunk 15 _ 62 92 (by decide +kernel) (by decide +kernel) ?_
        refine lex_chunk 15 0 77 92 (by decide +kernel) (by decide +kernel) ?_
        decide +kernel
      iterate 30 (go_big_quiet_step (first | (go_at_call 9; refine (Htk.out _).mono ?_; rintro e w3 ⟨rfl, rfl⟩; exact ⟨rfl, _, rfl⟩) | (go_at_call 17; refine (Hhe.out _).mono ?_; rintro e w3 ⟨rfl, hb⟩; exact ⟨rfl, HGall.out _ ((HGS.out _).trans (hb.mono (HGS.out _).size))⟩) | (go_at_call 12; refine (Hre.out _).mono ?_; rintro e w3 ⟨rfl, rfl⟩; exact ⟨rfl, _, rfl⟩) | (go_at_call 18; refine (Hno.out _).mono ?_; rintro e w3 ⟨rfl, rfl⟩; exact ⟨rfl, _, rfl⟩) | (go_at_call 19; refine (Hco.out _).mono ?_; rintro e w3 ⟨rfl, rfl⟩; exact ⟨rfl, _, rfl⟩) | (go_at_call 5; refine (Hkn.out _).mono ?_; rintro e w3 ⟨rfl, hb⟩; exact ⟨rfl, HGall.out _ ((HGS.out _).trans (hb.mono (HGS.out _).size))⟩)))
      as_aux_lemma =>
        iterate 30 (go_big_quiet_step (first | (go_at_call 9; refine (Htk.out _).mono ?_; rintro e w3 ⟨rfl, rfl⟩; exact ⟨rfl, _, rfl⟩) | (go_at_call 17; refine (Hhe.out _).mono ?_; rintro e w3 ⟨rfl, hb⟩; exact ⟨rfl, HGall.out _ ((HGS.out _).trans (hb.mono (HGS.out _).size))⟩) | (go_at_call 12; refine (Hre.out _).mono ?_; rintro e w3 ⟨rfl, rfl⟩; exact ⟨rfl, _, rfl⟩) | (go_at_call 18; refine (Hno.out _).mono ?_; rintro e w3 ⟨rfl, rfl⟩; exact ⟨rfl, _, rfl⟩) | (go_at_call 19; refine (Hco.out _).mono ?_; rintro e w3 ⟨rfl, rfl⟩; exact ⟨rfl, _, rfl⟩) | (go_at_call 5; refine (Hkn.out _).mono ?_; rintro e w3 ⟨rfl, hb⟩; exact ⟨rfl, HGall.out _ ((HGS.out _).trans (hb.mono (HGS.out _).size))⟩)))
        as_aux_lemma =>
          repeat (go_big_quiet_step (first | (go_at_call 9; refine (Htk.out _).mono ?_; rintro e w3 ⟨rfl, rfl⟩; exact ⟨rfl, _, rfl⟩) | (go_at_call 17; refine (Hhe.out _).mono ?_; rintro e w3 ⟨rfl, hb⟩; exact ⟨rfl, HGall.out _ ((HGS.out _).trans (hb.mono (HGS.out _).size))⟩) | (go_at_call 12; refine (Hre.out _).mono ?_; rintro e w3 ⟨rfl, rfl⟩; exact ⟨rfl, _, rfl⟩) | (go_at_call 18; refine (Hno.out _).mono ?_; rintro e w3 ⟨rfl, rfl⟩; exact ⟨rfl, _, rfl⟩) | (go_at_call 19; refine (Hco.out _).mono ?_; rintro e w3 ⟨rfl, rfl⟩; exact ⟨rfl, _, rfl⟩) | (go_at_call 5; refine (Hkn.out _).mono ?_; rintro e w3 ⟨rfl, hb⟩; exact ⟨rfl, HGall.out _ ((HGS.out _).trans (hb.mono (HGS.out _).size))⟩)))
          refine wpQuiet_nil ?_
          rintro _ ⟨q, rfl⟩
          have HE := Lib.hid (HB8.out.trans ((HGS.out q).mono HB8.out.size))
          clear HGS HGall hG0
          go_wp2_with fail
          go_ret
          exact ⟨rfl, HE.out⟩
end Go.Proofs.YtngflpaooppmhaaGreat

namespace Go.Proofs.YtngflpaooppmhaaGreat
open Go.RowKit Go.Sat Go.ChangeShapes Go.WideShapes Go.ChangeAt Go.Deep

section
variable {H : Type} {enc : TypeId × Value → H} {W : World} {fuel : Nat} {d : DataW H} {ps : List MemPlace}

/-- A []int. -/
theorem ints_arg {a : Option Addr} {len cap : Nat} (hf : DataW.trod enc Tryz.prog W 0 (fun _ => true) true fuel 45 [.slice a len cap] = some (d, ps)) (hw : ∀ n ∈ d.weights Tryz.prog 45, n ≤ reachBytes) :
    ∃ l : List Int, HasI W (.slice a len cap) l ∧ l.length = len ∧ len ≤ 17592186044416 ∧ ∀ z ∈ l, -9223372036854775808 ≤ z ∧ z ≤ 9223372036854775807 := by
  rcases open_ints Tryz.underlying45 Tryz.underlying3 (by kernel_rfl) hf with ⟨hcs, _⟩ | ⟨x, l, c, zs, hcs, _, hl, hm, hz, hd, hcell, hwz⟩
  · simp at hcs
    obtain ⟨rfl, rfl, rfl⟩ := hcs
    exact ⟨[], ⟨by simp, none, 0, rfl, fun _ => rfl, fun a ha => by cases ha⟩, rfl, by decide, fun z hz => by cases hz⟩
  · simp at hcs
    obtain ⟨rfl, rfl, rfl⟩ := hcs
    simp only [if_true] at hz
    simp only [Prod.mk.injEq] at hd
    obtain ⟨rfl, _⟩ := hd
    have hb := weights_head Tryz.underlying45 hw
    rw [show Tryz.prog.bytesOf 3 = 8 by kernel_rfl] at hb
    simp only [lits, List.length_map, List.length_take, List.length_drop] at hb
    have hlen : (zs.take len).length = len := by rw [List.length_take]; omega
    refine ⟨zs.take len, ⟨by simp, some x, cap, by rw [hlen], fun e => (by cases e), fun a' ha i u hu => ?_⟩, hlen, by unfold reachBytes at hb; omega, fun z hz2 => ?_⟩
    · cases ha
      have hi : i < len := by
        have := (List.getElem?_eq_some_iff.1 hu).1
        rw [List.length_map, hlen] at this
        exact this
      rw [hcell i (by omega)]
      have h1 : zs.getD i 0 = zs[i]'(by omega) := by simp [List.getD, List.getElem?_eq_getElem (show i < zs.length by omega)]
      rw [List.getElem?_map, List.getElem?_take, if_pos hi, List.getElem?_eq_getElem (show i < zs.length by omega), Option.map_some] at hu
      rw [h1]
      exact hu
    · have := bounds_i64 (hwz z (List.mem_of_mem_take hz2))
      exact ⟨this.1, this.2⟩
end
end Go.Proofs.YtngflpaooppmhaaGreat

namespace Go.Proofs.YtngflpaooppmhaaGreat
open Go.RowKit Go.Sat Go.ChangeShapes Go.WideShapes Go.ChangeAt Go.Deep

section
variable {H : Type} {enc : TypeId × Value → H} {W : World} {base : Nat}

set_option maxRecDepth 100000 in
theorem msg_arg {v : Value} {d : DataW H} {p : List MemPlace} (hv : Value.okWide Tryz.prog W .any base 52 v) (h : DataW.Trod enc Tryz.prog W 0 (fun _ => true) true 52 v d p) (hw : ∀ n ∈ d.weights Tryz.prog 52, n ≤ reachBytes) :
    ∃ x y p1 n1 c1, v = .agg #[.int .i64 x, .int .i64 y, .slice p1 n1 c1] ∧ n1 ≤ 140737488355328 := by
  obtain ⟨v0, v1, v2, y0, y1, y2, n, rfl, rfl, -, h0, h1, h2⟩ := Go.Joins.open_agg3 Tryz.underlying52 (by kernel_rfl) (by kernel_rfl) hv h
  obtain ⟨t, e0, -⟩ := DataW.trod_int Tryz.underlying3 h0
  obtain ⟨k, e1, -⟩ := DataW.trod_int Tryz.underlying3 h1
  obtain ⟨p1, n1, c1, e2⟩ := Go.Joins.slice_form Tryz.underlying23 h2
  simp only [List.cons.injEq, and_true] at e0 e1 e2
  subst e0
  subst e1
  subst e2
  have hw2 : ∀ m ∈ y2.1.weights Tryz.prog 23, m ≤ reachBytes := fun m hm => hw m (by
    unfold DataW.weights
    rw [Tryz.underlying52]
    simp [DataW.weightsEach, hm])
  obtain ⟨l2, hb, hl⟩ := bytes_arg (d := y2.1) (ps := y2.2) h2 hw2
  obtain ⟨_, _, e⟩ := hb.slice
  simp only [Value.slice.injEq] at e
  exact ⟨t, k, p1, n1, c1, rfl, by omega⟩
end
end Go.Proofs.YtngflpaooppmhaaGreat
