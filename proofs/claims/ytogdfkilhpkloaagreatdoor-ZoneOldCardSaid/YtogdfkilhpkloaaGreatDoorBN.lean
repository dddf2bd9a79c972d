/- zone.Do of a mint that is new. zone: what a nil Zone answers. Printed by mknon.py. zone.Set of a head that is refused, or that is the zone's own. Are two heads alike? zone.reads: what a ledger's image has. zone.Open: of a ledger that has an image, and requests behind it. wire: May at the word that the law's known tells. Printed by mkta.py. wire: plain of the word that the law's known tells. Printed by mktb.py. wire: May of the word that the law's known tells. Printed by mktc.py. piece: an In of four bytes that come at once. target: told, and the closure that tells back. Printed by mktd.py. -/
import Derived.Test.YtogdfkilhpkloaaGreatDoorBA
import Derived.Test.YtogdfkilhpkloaaGreatDoorBH
import Derived.Test.YtogdfkilhpkloaaGreatDoorBL
import Derived.Test.YtogdfkilhpkloaaGreatDoorBM
namespace Go.Proofs.YtogdfkilhpkloaaGreatDoor
open Go.RowKit Go.Sat Go.Maps

/-- What stays while a zone does a request. -/
structure DoK (w w1 : World) (z d eb l vm sm tm am : Nat) (h : HeadM) (pre : ByteArray) (D : DiskM) (M : LedM) (E : EcoR) (own : Nat → Option (Nat × Bs)) (ev : Value) (F G : Nat → Prop) (o : OpM) (b0 b4 : Nat) (W : World) : Prop where
  s : DoS w w1 z d eb l vm sm tm am h pre D M E own ev F G W
  op : W.heap[b0]? = some (.cells (OpL o).toArray 25 (0, 0))
  rep : W.heap[b4]? = some (.cells ReplyL.toArray 48 (0, 0))
  g0 : G b0
  g4 : G b4
section
variable {w w1 W W' : World} {z d eb l vm sm tm am : Nat} {h : HeadM} {pre : ByteArray} {D D' : DiskM} {M M' : LedM} {E E' : EcoR} {own own' : Nat → Option (Nat × Bs)} {ev ev' : Value} {F G G' : Nat → Prop} {o : OpM} {b0 b4 : Nat}
theorem DoK.add (hK : DoK w w1 z d eb l vm sm tm am h pre D M E own ev F G o b0 b4 W) (hb : Below W.heap.size W W') (hG : ∀ k, G' k → G k ∨ W.heap.size ≤ k ∧ k < W'.heap.size) (hG2 : ∀ k, G k → G' k) : DoK w w1 z d eb l vm sm tm am h pre D M E own ev F G' o b0 b4 W' :=
  ⟨hK.s.add hb hG, (hb.block _ (lt_of_block hK.op)).trans hK.op, (hb.block _ (lt_of_block hK.rep)).trans hK.rep, hG2 _ hK.g0, hG2 _ hK.g4⟩
theorem DoK.next (hK : DoK w w1 z d eb l vm sm tm am h pre D M E own ev F G o b0 b4 W) (hb : Below W.heap.size W W') : DoK w w1 z d eb l vm sm tm am h pre D M E own ev F G o b0 b4 W' := hK.add hb (fun _ hk => .inl hk) fun _ hk => hk
theorem DoK.drew (hK : DoK w w1 z d eb l vm sm tm am h pre D M E own ev F G o b0 b4 W) : DoK w w1 z d eb l vm sm tm am h pre D M E own ev F G o b0 b4 W.drew := hK.next ⟨rfl, rfl, rfl, Nat.le_refl _, fun _ _ => rfl⟩
theorem DoK.turn (hK : DoK w w1 z d eb l vm sm tm am h pre D M E own ev F G o b0 b4 W) (hE : EconIn W' eb vm sm tm am E' own') (hc : Chg (fun k => own k ≠ none) W W') (ho : ∀ k, k < W.heap.size → own' k = own k) : DoK w w1 z d eb l vm sm tm am h pre D M E' own' ev F G o b0 b4 W' :=
  ⟨hK.s.turn hE hc ho, (hc.block _ (lt_of_block hK.op) fun hh => hh (hK.s.gz _ hK.g0).2.1).trans hK.op, (hc.block _ (lt_of_block hK.rep) fun hh => hh (hK.s.gz _ hK.g4).2.1).trans hK.rep, hK.g0, hK.g4⟩
theorem DoK.set (hK : DoK w w1 z d eb l vm sm tm am h pre D M E own ev F G o b0 b4 W) (hc : Chg (fun k => k = z) W W') (hz : W'.heap[z]? = some (ZoneO h eb l ev' false)) (he : ∀ k, ev'.ownBlock = some k → ev.ownBlock = some k ∨ W.heap.size ≤ k ∧ k < W'.heap.size) : DoK w w1 z d eb l vm sm tm am h pre D M E own ev' F G o b0 b4 W' :=
  ⟨hK.s.set hc hz he, (hc.block _ (lt_of_block hK.op) (hK.s.gz _ hK.g0).1).trans hK.op, (hc.block _ (lt_of_block hK.rep) (hK.s.gz _ hK.g4).1).trans hK.rep, hK.g0, hK.g4⟩
theorem DoK.wrote (hK : DoK w w1 z d eb l vm sm tm am h pre D M E own ev F G o b0 b4 W) (hL : LedF w W' l d pre D' M' (fun k => F k ∨ k = z ∨ own k ≠ none ∨ ev.ownBlock = some k ∨ G k)) (hs : Same (fun k => F k ∨ k = z ∨ own k ≠ none ∨ ev.ownBlock = some k ∨ G k) W W') : DoK w w1 z d eb l vm sm tm am h pre D' M' E own ev F G o b0 b4 W' :=
  ⟨hK.s.wrote hL hs, (hs _ (.inr (.inr (.inr (.inr hK.g0))))).trans hK.op, (hs _ (.inr (.inr (.inr (.inr hK.g4))))).trans hK.rep, hK.g0, hK.g4⟩
theorem DoS.hit (hK : DoS w w1 z d eb l vm sm tm am h pre D M E own ev F G W) {q : Nat} (hc : Chg (fun k => k = q) W W') (hq : G q) : DoS w w1 z d eb l vm sm tm am h pre D M E own ev F G W' :=
  ⟨hK.led.move hc (fun k _ hs => ⟨.inr (.inr (.inr (.inr (by rw [hs]; exact hq)))), by rw [hs]; exact hK.lg _ hq⟩) (fun k hk => ⟨.inl hk, Nat.lt_of_lt_of_le (hK.flt hk) hc.size⟩), (hc.block z (lt_of_block hK.zon) fun e => (hK.gz _ hq).1 e.symm).trans hK.zon, hK.eco.keep (fun k hk => hc.block k (hK.eco.oLt k hk) fun e => hk (by rw [e]; exact (hK.gz _ hq).2.1)) hc.size, fun k hk => (hc.block k (hK.flt (.inl hk)) fun e => (hK.fz k hk).2.2.2 (by rw [e]; exact hq)).trans (hK.same k hk), hK.fz, hK.nz, hK.ne, hK.gz, hK.lz, hK.lo, hK.le, hK.lg⟩
theorem DoS.drop (hK : DoS w w1 z d eb l vm sm tm am h pre D M E own ev F G W) : DoS w w1 z d eb l vm sm tm am h pre D M E own ev F NoF W :=
  ⟨hK.led.less fun k hk => by
    rcases hk with hk | hk | hk | hk | hk
    · exact .inl hk
    · exact .inr (.inl hk)
    · exact .inr (.inr (.inl hk))
    · exact .inr (.inr (.inr (.inl hk)))
    · exact hk.elim, hK.zon, hK.eco, hK.same, fun k hk => ⟨(hK.fz k hk).1, (hK.fz k hk).2.1, (hK.fz k hk).2.2.1, fun e => e⟩, hK.nz, hK.ne, fun k hk => hk.elim, hK.lz, hK.lo, hK.le, fun k hk => hk.elim⟩
/-- The zone's events are now in what was a block of the work's own. -/
theorem DoS.setG (hS : DoS w w1 z d eb l vm sm tm am h pre D M E own ev F G W) (hc : Chg (fun k => k = z) W W') (hz : W'.heap[z]? = some (ZoneO h eb l ev' false)) (he : ∀ k, ev'.ownBlock = some k → G k) (hG : ∀ k, G' k → G k ∧ ev'.ownBlock ≠ some k) : DoS w w1 z d eb l vm sm tm am h pre D M E own ev' F G' W' := by
  have hne : ∀ k, own k ≠ none → k ≠ z := fun k hk e => by rw [e] at hk; exact hk hS.nz
  refine ⟨hS.led.move hc (fun k hk hs => ⟨.inr (.inl hs), by rw [hs]; exact hS.lz⟩) (fun k hk => ?_), hz, hS.eco.keep (fun k hk => hc.block k (hS.eco.oLt k hk) (hne k hk)) hc.size, fun k hk => (hc.block k (hS.flt (.inl hk)) (hS.fz k hk).1).trans (hS.same k hk), fun k hk => ⟨(hS.fz k hk).1, (hS.fz k hk).2.1, fun e => (hS.fz k hk).2.2.2 (he k e), fun e => (hS.fz k hk).2.2.2 (hG k e).1⟩, hS.nz, fun k hk => ⟨(hS.gz k (he k hk)).1, (hS.gz k (he k hk)).2.1⟩, fun k hk => ⟨(hS.gz k (hG k hk).1).1, (hS.gz k (hG k hk).1).2.1, (hG k hk).2⟩, hS.lz, hS.lo, fun k hk => hS.lg k (he k hk), fun k hk => hS.lg k (hG k hk).1⟩
  have hl : ∀ k, (F k ∨ k = z ∨ own k ≠ none ∨ ev.ownBlock = some k ∨ G k) → ((F k ∨ k = z ∨ own k ≠ none ∨ ev.ownBlock = some k ∨ G k) ∨ W.heap.size ≤ k) ∧ k < W'.heap.size := fun k hk => ⟨.inl hk, Nat.lt_of_lt_of_le (hS.flt hk) hc.size⟩
  rcases hk with hk | hk | hk | hk | hk
  · exact hl k (.inl hk)
  · exact hl k (.inr (.inl hk))
  · exact hl k (.inr (.inr (.inl hk)))
  · exact hl k (.inr (.inr (.inr (.inr (he k hk)))))
  · exact hl k (.inr (.inr (.inr (.inr (hG k hk).1))))
theorem DoK.setG (hK : DoK w w1 z d eb l vm sm tm am h pre D M E own ev F G o b0 b4 W) (hc : Chg (fun k => k = z) W W') (hz : W'.heap[z]? = some (ZoneO h eb l ev' false)) (he : ∀ k, ev'.ownBlock = some k → G k) (hG : ∀ k, G' k → G k ∧ ev'.ownBlock ≠ some k) (h0 : G' b0) (h4 : G' b4) : DoK w w1 z d eb l vm sm tm am h pre D M E own ev' F G' o b0 b4 W' :=
  ⟨hK.s.setG hc hz he hG, (hc.block _ (lt_of_block hK.op) (hK.s.gz _ hK.g0).1).trans hK.op, (hc.block _ (lt_of_block hK.rep) (hK.s.gz _ hK.g4).1).trans hK.rep, h0, h4⟩
/-- A block of the work's own has turned. -/
theorem DoK.hit (hK : DoK w w1 z d eb l vm sm tm am h pre D M E own ev F G o b0 b4 W) {q : Nat} (hc : Chg (fun k => k = q) W W') (hq : G q) (h0 : b0 ≠ q) (h4 : b4 ≠ q) : DoK w w1 z d eb l vm sm tm am h pre D M E own ev F G o b0 b4 W' :=
  ⟨⟨hK.s.led.move hc (fun k _ hs => ⟨.inr (.inr (.inr (.inr (by rw [hs]; exact hq)))), by rw [hs]; exact hK.s.lg _ hq⟩) (fun k hk => ⟨.inl hk, Nat.lt_of_lt_of_le (hK.s.flt hk) hc.size⟩), (hc.block z (lt_of_block hK.s.zon) fun e => (hK.s.gz _ hq).1 e.symm).trans hK.s.zon, hK.s.eco.keep (fun k hk => hc.block k (hK.s.eco.oLt k hk) fun e => hk (by rw [e]; exact (hK.s.gz _ hq).2.1)) hc.size, fun k hk => (hc.block k (hK.s.flt (.inl hk)) fun e => (hK.s.fz k hk).2.2.2 (by rw [e]; exact hq)).trans (hK.s.same k hk), hK.s.fz, hK.s.nz, hK.s.ne, hK.s.gz, hK.s.lz, hK.s.lo, hK.s.le, hK.s.lg⟩, (hc.block _ (lt_of_block hK.op) h0).trans hK.op, (hc.block _ (lt_of_block hK.rep) h4).trans hK.rep, hK.g0, hK.g4⟩
end
set_option maxRecDepth 100000 in
set_option maxHeartbeats 16000000 in
theorem domint_calls {w w1 : World} {z d eb l vm sm tm am : Nat} {h : HeadM} {pre : ByteArray} {D D2 : DiskM} {M M2 : LedM} {n2 : Nat} {E : EcoR} {own : Nat → Option (Nat × Bs)} {F : Nat → Prop} (hS : DoS w w1 z d eb l vm sm tm am h pre D M E own (.slice none 0 0) F NoF w1)
    (hst : h.state = 1) (hsz : h.fr.size ≤ 16 ∧ h.tu.size ≤ 16) (o : OpM) (hin : inSpan h.fr h.tu o.atK = true) (ho : o.wf) (hto : o.toK.size ≤ 1099511627776 ∧ o.toW.size ≤ 1099511627776) (hm : o.may = true) (hk : o.kind = 1)
    (hs : kget o.client E.ss = none) (hsl : E.ss.length < maxLen) (hn : E.vs.length < maxLen) (hpl : ∀ r, kget (nm o.atK) E.vs = some r → r.V.length < maxLen ∧ (itsOf r.V o.atW).is = true)
    (hV : ∀ r : VRep, (kget (nm o.atK) E.vs = none → r.V = []) → kget (nm o.atK) (AtE E (nm o.atK) r).vs = some r → ∀ p ∈ (putE E r o).vs, p.2.V.length ≤ 1099511627776)
    (happ : ledAppend (nm pre) D M o.enc = ⟨D2, M2, n2, 0⟩) (hlen : o.enc.length ≤ 140737488355328) (hm2 : M2.last < M2.base + 16) :
    Calls Tryz.prog 17 #[.pointer (some ⟨z, 0, none⟩), .agg (OpL o).toArray] w1 fun e w' => ∃ r own' ev', e = .returned (.tuple #[.agg (RepC (putX r o)).toArray, .int .i64 0]) ∧
      (kget (nm o.atK) E.vs = none → r.V = []) ∧ DoS w w1 z d eb l vm sm tm am h pre D2 M2 { tidyE (putE E r o) (nm o.atK) with ss := kput o.client ⟨o.seq, putX r o, 0, It.zero⟩ E.ss } own' ev' F NoF w' := by
  have Hm := Lib.hid (fun W => opmay_calls W o ho)
  rw [hm] at Hm
  have Hin := Lib.hid (fun W => spanin_calls W h.fr h.tu o.atK (by omega) (by omega) (by have := ho.2.1.1; unfold strOk maxLen at this; omega))
  rw [hin] at Hin
  have HP := Lib.hid (fun (W : World) (hW : EconIn W eb vm sm tm am E own) => peeknew_calls hW o ho hm ⟨by rw [hk]; decide, by rw [hk]; decide⟩ hs)
  have HA := Lib.hid (fun (W : World) (hW : EconIn W eb vm sm tm am E own) => applymint_calls hW o ho hm hk hs hsl hn hpl hV)
  have HEn := Lib.hid (fun W => openc_calls W o ho hm hto)
  have H := Lib.hid hS
  have Hx := Lib.hid (And.intro hst (And.intro happ (And.intro hlen hm2)))
  clear hin hto hs hsl hn hpl hV happ hlen hm2 hst hS hk hm ho hsz
  obtain ⟨i5, hi5, hz50, hz51, hz52⟩ := info_parts (show (Tryz.prog.info? 120).map (fun i => (i.zero, i.size, i.bytes)) = some (some (.agg #[.int .i64 0, .int .i64 0, .int .i64 0, .int .i64 0, .int .i64 0, .string ⟨#[]⟩, .string ⟨#[]⟩, .string ⟨#[]⟩, .string ⟨#[]⟩, .int .i64 0, .int .i64 0, .int .i64 0, .bool false, .int .i64 0]), 14, 144) by kernel_rfl)
  have HI5 := Lib.hid (And.intro hi5 (And.intro hz50 (And.intro hz51 hz52)))
  clear hi5 hz50 hz51 hz52
  go_enter Tryz.func17, Tryz.ntmps17
  go_upto_region 7 with (first
    | (refine bbox rfl 25 (.tmp 1) rfl (L := OpL o) rfl ?_; intro w2 hn1 hb1 hs1; have H2 := Lib.hid (And.intro hn1 (And.intro hb1 hs1)); clear hn1 hb1 hs1)
    | (refine balloc rfl 48 rfl (Tryz.zeroValue48 _) (by decide) ?_; intro w3 hn2 hb2 hs2; have H3 := Lib.hid (show DoK w w1 z d eb l vm sm tm am h pre D M E own (.slice none 0 0) F (fun k => k = w1.heap.size ∨ k = w2.heap.size) o w1.heap.size w2.heap.size w3 from ⟨H.out.add (H2.out.2.1.trans (hb2.mono H2.out.2.1.size)) (fun k hk => .inr (by have := H2.out.2.2; omega)), (hb2.block _ (lt_of_block H2.out.1)).trans H2.out.1, hn2, .inl rfl, .inr rfl⟩); have Hlt := Lib.hid H2.out.2.2; clear hn2 hb2 hs2 H2; have c8 := cell_of H3.out.s.zon (i := 8) (v := .bool false) rfl; have c4 := cell_of H3.out.s.zon (i := 4) (v := .int .i64 1) (by show some (Value.int .i64 h.state) = _; rw [Hx.out.1])))
  refine ord_start (fun w' : World => w'.heap[w1.heap.size]? = some (.cells (OpL o).toArray 25 (0, 0)) ∧ w'.heap[z]? = some (ZoneO h eb l (.slice none 0 0) false)) (n := 15) (by kernel_rfl) rfl ⟨H3.out.op, H3.out.s.zon⟩ (fun hHeld => ?_)
  have H4 := Lib.hid H3.out.drew
  clear H3 c8 c4
  generalize w3.drew = w4 at *
  refine Pl [0] ?_
  refine Pd rfl (by intro w' hSw; exact yload 25 (.tmp 3) rfl rfl hSw.1 Tryz.underlying25 rfl (by kernel_rfl)) ?_
  simp only [Act.put, uA, uB, uC]
  refine Pn ?_
  refine ord_one 1 rfl (by kernel_rfl) (by rfl) (fun K hK => ?_)
  go_wp2_with fail
  refine (Hm.out _).mono ?_
  rintro e w5 ⟨rfl, hb⟩
  have H5 := Lib.hid (H4.out.next hb)
  clear hb Hm hHeld H4
  go_wp2_with fail
  refine hK.out _ _ ⟨H5.out.op, H5.out.s.zon⟩ (fun hHeld => ?_)
  clear hK
  try simp only [Act.put, uA, uB, uC]
  refine Pl [2, 3, 4, 5, 6, 7, 8, 9, 10] ?_
  iterate 9 (refine Pd rfl (by intro w' hSw; have c3 := cell_of hSw.1 (i := 3) (v := .string o.atK) rfl; have p1 := cell_of hSw.2 (i := 1) (v := .string h.fr) rfl; have p2 := cell_of hSw.2 (i := 2) (v := .string h.tu) rfl; go_simp; try with_reducible rfl) ?_; simp only [Act.put, uA, uB, uC])
  refine Pn ?_
  refine ord_one 11 rfl (by kernel_rfl) (by rfl) (fun K hK => ?_)
  go_wp2_with fail
  refine (Hin.out _).mono ?_
  rintro e w6 ⟨rfl, hb⟩
  have H6 := Lib.hid (H5.out.next hb)
  clear hb Hin hHeld H5
  go_wp2_with fail
  refine hK.out _ _ ⟨H6.out.op, H6.out.s.zon⟩ (fun hHeld => ?_)
  clear hK
  try simp only [Act.put, uA, uB, uC]
  refine Pl [12, 13, 14] ?_
  iterate 3 (refine Pc rfl ?_; simp only [Act.put, uA, uB, uC])
  refine Pn ?_
  clear hHeld
  refine wpAnyH_done (by kernel_rfl) ?_ _
  go_upto_region 9 with (fail)
  have H7 := H6
  clear H6
  try simp only [Act.put, uA, uB, uC]
  go_cut [7] (fun s7 wx => s7 = .bool false ∧ DoK w w1 z d eb l vm sm tm am h pre D M E own (.slice none 0 0) F (fun k => k = w1.heap.size ∨ k = w2.heap.size) o w1.heap.size w2.heap.size wx)
  case first =>
    refine ord_start (fun w' : World => w'.heap[w1.heap.size]? = some (.cells (OpL o).toArray 25 (0, 0)) ∧ w'.heap[z]? = some (ZoneO h eb l (.slice none 0 0) false)) (n := 12) (by kernel_rfl) rfl ⟨H7.out.op, H7.out.s.zon⟩ (fun hHeld => ?_)
    have H8 := Lib.hid H7.out.drew
    clear H7
    generalize w6.drew = W0 at *
    refine Pl [0, 1, 2, 3, 4] ?_
    iterate 5 (refine Pd rfl (by intro w' hSw; first | exact yload 25 (.tmp 3) rfl rfl hSw.1 Tryz.underlying25 rfl (by kernel_rfl) | (have c5 := cell_of hSw.2 (i := 5) (v := .pointer (some ⟨eb, 0, none⟩)) rfl; go_simp; try with_reducible rfl)) ?_; simp only [Act.put, uA, uB, uC])
    refine Pn ?_
    refine ord_pair 5 9 rfl rfl (by kernel_rfl) (by rfl) (by rfl) (fun K hK => ?_) (fun K hK => ?_)
    · clear hHeld
      go_wp2_with fail
      refine (HP.out _ H8.out.s.eco).mono ?_
      rintro e w9 ⟨rfl, hb⟩
      have H9 := Lib.hid (H8.out.next hb)
      clear hb
      go_wp2_with fail
      refine hK.out _ _ ⟨H9.out.op, H9.out.s.zon⟩ (fun hHeld => ?_)
      clear hK
      try simp only [Act.put, uA, uB, uC]
      refine Pl [6, 7, 8] ?_
      iterate 3 (refine Pc rfl ?_; simp only [Act.put, uA, uB, uC])
      refine Pn ?_
      refine ord_one 9 rfl (by kernel_rfl) (by rfl) (fun K hK => ?_)
      refine wp_balloc 48 rfl (Tryz.zeroValue48 _) (by decide) ?_
      intro w10 hn hb hsz
      have H10 := Lib.hid (H9.out.next hb)
      have HNw10 := Lib.hid hn
      have H10b := Lib.hid (show Below w9.heap.size w9 w10 from hb)
      have HLw10 := Lib.hid (show w.heap.size ≤ w9.heap.size from H9.out.s.led.bel.size)
      clear hn hb hHeld
      refine hK.out _ _ ⟨H10.out.op, H10.out.s.zon⟩ (fun hHeld => ?_)
      clear hK
      try simp only [Act.put, uA, uB, uC]
      refine ord_one 10 rfl (by kernel_rfl) (by rfl) (fun K hK => ?_)
      refine wp_bstore 48 (.tmp 6) (.tmp 56) rfl w9.heap.size rfl (L := ReplyL) rfl HNw10.out rfl (by kernel_rfl) ReplyL_one ?_
      intro w11 hn hc
      have H11 := Lib.hid (H9.out.next (chgOne (w := w9) H10b.out hc (Nat.le_refl _)))
      clear hn hc hHeld
      refine hK.out _ _ ⟨H11.out.op, H11.out.s.zon⟩ (fun hHeld => ?_)
      clear hK
      try simp only [Act.put, uA, uB, uC]
      refine Pl [11] ?_
      iterate 1 (refine Pc rfl ?_; simp only [Act.put, uA, uB, uC])
      refine Pn ?_
      clear hHeld
      refine wpAnyH_done (by kernel_rfl) ?_ _
      go_wp2_with fail
      go_meet
      exact ⟨rfl, H11.out⟩
    · refine wp_balloc 48 rfl (Tryz.zeroValue48 _) (by decide) ?_
      intro w9 hn hb hsz
      have H9 := Lib.hid (H8.out.next hb)
      have HB9 := Lib.hid (And.intro hn hb)
      clear hn hb hHeld
      refine hK.out _ _ ⟨H9.out.op, H9.out.s.zon⟩ (fun hHeld => ?_)
      clear hK
      try simp only [Act.put, uA, uB, uC]
      refine ord_one 5 rfl (by kernel_rfl) (by rfl) (fun K hK => ?_)
      clear hHeld
      go_wp2_with fail
      refine (HP.out _ H9.out.s.eco).mono ?_
      rintro e w10 ⟨rfl, hb⟩
      have H10 := Lib.hid (H9.out.next hb)
      have HB10 := Lib.hid (And.intro ((hb.block _ (lt_of_block HB9.out.1)).trans HB9.out.1) (HB9.out.2.trans (hb.mono HB9.out.2.size)))
      clear hb
      go_wp2_with fail
      refine hK.out _ _ ⟨H10.out.op, H10.out.s.zon⟩ (fun hHeld => ?_)
      clear hK
      try simp only [Act.put, uA, uB, uC]
      refine Pl [6, 7, 8] ?_
      iterate 3 (refine Pc rfl ?_; simp only [Act.put, uA, uB, uC])
      refine Pn ?_
      refine ord_one 10 rfl (by kernel_rfl) (by rfl) (fun K hK => ?_)
      refine wp_bstore 48 (.tmp 6) (.tmp 56) rfl W0.heap.size rfl (L := ReplyL) rfl HB10.out.1 rfl (by kernel_rfl) ReplyL_one ?_
      intro w11 hn hc
      have H11 := Lib.hid (H8.out.next (chgOne (w := W0) HB10.out.2 hc (Nat.le_refl _)))
      clear hn hc hHeld
      refine hK.out _ _ ⟨H11.out.op, H11.out.s.zon⟩ (fun hHeld => ?_)
      clear hK
      try simp only [Act.put, uA, uB, uC]
      refine Pl [11] ?_
      iterate 1 (refine Pc rfl ?_; simp only [Act.put, uA, uB, uC])
      refine Pn ?_
      clear hHeld
      refine wpAnyH_done (by kernel_rfl) ?_ _
      go_wp2_with fail
      go_meet
      exact ⟨rfl, H11.out⟩
  case rest =>
    obtain ⟨rfl, hD⟩ := hcut
    have H8 := Lib.hid hD
    clear hD H7
    clear HP
    go_wp2_with (refine bload rfl 25 (.tmp 3) rfl w1.heap.size rfl (L := OpL o) H8.out.op Tryz.underlying25 rfl (by kernel_rfl) ?_)
    refine (HEn.out _).mono ?_
    rintro e w12 ⟨v, rfl, hv, hvn, hb⟩
    have H12 := Lib.hid (H8.out.add (G' := fun k => (k = w1.heap.size ∨ k = w2.heap.size) ∨ v.ownBlock = some k) hb (fun k hk => hk.imp id fun e => ⟨hvn k e, OwnR.lt hv e⟩) fun k hk => .inl hk)
    obtain ⟨pv, cv, rfl, -⟩ := own_cap0 hv
    have Hv := Lib.hid hv
    clear hv hvn hb HEn H8
    have HAp := Lib.hid (lappend_calls H12.out.s.led (fun W _ hs => has_own Hv.out fun k hk => hs k (.inr (.inr (.inr (.inr (.inr hk)))))) Hx.out.2.2.1)
    rw [Hx.out.2.1] at HAp
    have c6 := cell_of H12.out.s.zon (i := 6) (v := .pointer (some ⟨l, 0, none⟩)) rfl
    go_wp2_with fail
    refine HAp.out.mono ?_
    rintro e w13 ⟨rfl, hL, hs⟩
    have H13 := Lib.hid (H12.out.wrote hL hs)
    clear hL hs HAp H12 c6
    have HDi := Lib.hid (zdies_calls H13.out.s)
    go_wp2_with fail
    refine HDi.out.mono ?_
    rintro e w14 ⟨rfl, hDs, hc⟩
    have H14 := Lib.hid (H13.out.set hc hDs.zon fun k hk => .inl hk)
    clear hc hDs HDi H13
    go_upto_region 16 with (fail)
    try simp only [Act.put, uA, uB, uC]
    go_cut [12] (fun s12 wx => ∃ q r own', s12 = .pointer (some ⟨q, 0, none⟩) ∧ wx.heap[q]? = some (.cells (RepC (putX r o)).toArray 48 (0, 0)) ∧ (kget (nm o.atK) E.vs = none → r.V = []) ∧ DoK w w1 z d eb l vm sm tm am h pre D2 M2 { tidyE (putE E r o) (nm o.atK) with ss := kput o.client ⟨o.seq, putX r o, 0, It.zero⟩ E.ss } own' (.slice none 0 0) F (fun k => ((k = w1.heap.size ∨ k = w2.heap.size) ∨ (Value.slice pv o.enc.length cv).ownBlock = some k) ∨ k = q) o w1.heap.size w2.heap.size wx)
    case first =>
      refine ord_start (fun w' : World => w'.heap[w1.heap.size]? = some (.cells (OpL o).toArray 25 (0, 0)) ∧ w'.heap[z]? = some (ZoneO h eb l (.slice none 0 0) false)) (n := 12) (by kernel_rfl) rfl ⟨H14.out.op, H14.out.s.zon⟩ (fun hHeld => ?_)
      have H15 := Lib.hid H14.out.drew
      clear H14
      generalize w14.drew = W0 at *
      refine Pl [0, 1, 2, 3, 4] ?_
      iterate 5 (refine Pd rfl (by intro w' hSw; first | exact yload 25 (.tmp 3) rfl rfl hSw.1 Tryz.underlying25 rfl (by kernel_rfl) | (have c5 := cell_of hSw.2 (i := 5) (v := .pointer (some ⟨eb, 0, none⟩)) rfl; go_simp; try with_reducible rfl)) ?_; simp only [Act.put, uA, uB, uC])
      refine Pn ?_
      refine ord_pair 5 9 rfl rfl (by kernel_rfl) (by rfl) (by rfl) (fun K hK => ?_) (fun K hK => ?_)
      · clear hHeld
        go_wp2_with fail
        refine (HA.out _ H15.out.s.eco).mono ?_
        rintro e w16 ⟨r, own', rfl, -, hrn, hE, hoo, hc⟩
        have H16 := Lib.hid (And.intro hrn (H15.out.turn hE hc hoo))
        clear hrn hE hoo hc
        go_wp2_with fail
        refine hK.out _ _ ⟨H16.out.2.op, H16.out.2.s.zon⟩ (fun hHeld => ?_)
        clear hK
        try simp only [Act.put, uA, uB, uC]
        refine Pl [6, 7, 8] ?_
        iterate 3 (refine Pc rfl ?_; simp only [Act.put, uA, uB, uC])
        refine Pn ?_
        refine ord_one 9 rfl (by kernel_rfl) (by rfl) (fun K hK => ?_)
        refine wp_balloc 48 rfl (Tryz.zeroValue48 _) (by decide) ?_
        intro w17 hn hb hsz
        have HB17 := Lib.hid (And.intro hn hb)
        have H17 := Lib.hid (H16.out.2.next hb)
        have hsz17 := Lib.hid hsz
        clear hn hb hHeld hsz
        refine hK.out _ _ ⟨H17.out.op, H17.out.s.zon⟩ (fun hHeld => ?_)
        clear hK
        try simp only [Act.put, uA, uB, uC]
        refine ord_one 10 rfl (by kernel_rfl) (by rfl) (fun K hK => ?_)
        refine wp_bstore 48 (.tmp 12) (.tmp 87) rfl w16.heap.size rfl (L := RepC (putX r o)) rfl HB17.out.1 rfl (by kernel_rfl) (RepC_one _) ?_
        intro w18 hn hc
        have H18 := Lib.hid (And.intro hn (H16.out.2.add (G' := fun k => ((k = w1.heap.size ∨ k = w2.heap.size) ∨ (Value.slice pv o.enc.length cv).ownBlock = some k) ∨ k = w16.heap.size) (chgOne (w := w16) HB17.out.2 hc (Nat.le_refl _)) (fun k hk => hk.imp id fun e => ⟨by omega, by have := lt_of_block hn; omega⟩) fun k hk => .inl hk))
        clear hn hc hHeld
        refine hK.out _ _ ⟨H18.out.2.op, H18.out.2.s.zon⟩ (fun hHeld => ?_)
        clear hK
        try simp only [Act.put, uA, uB, uC]
        refine Pl [11] ?_
        iterate 1 (refine Pc rfl ?_; simp only [Act.put, uA, uB, uC])
        refine Pn ?_
        clear hHeld
        refine wpAnyH_done (by kernel_rfl) ?_ _
        go_wp2_with fail
        go_meet
        exact ⟨w16.heap.size, r, own', rfl, H18.out.1, H16.out.1, H18.out.2⟩
      · refine wp_balloc 48 rfl (Tryz.zeroValue48 _) (by decide) ?_
        intro w16 hn hb hsz
        have H16 := Lib.hid (And.intro hn (H15.out.add (G' := fun k => ((k = w1.heap.size ∨ k = w2.heap.size) ∨ (Value.slice pv o.enc.length cv).ownBlock = some k) ∨ k = W0.heap.size) hb (fun k hk => hk.imp id fun e => ⟨by omega, by omega⟩) fun k hk => .inl hk))
        have Hl0 := Lib.hid (And.intro (lt_of_block H15.out.op) (lt_of_block H15.out.rep))
        clear hn hb hHeld hsz
        refine hK.out _ _ ⟨H16.out.2.op, H16.out.2.s.zon⟩ (fun hHeld => ?_)
        clear hK
        try simp only [Act.put, uA, uB, uC]
        refine ord_one 5 rfl (by kernel_rfl) (by rfl) (fun K hK => ?_)
        clear hHeld
        go_wp2_with fail
        refine (HA.out _ H16.out.2.s.eco).mono ?_
        rintro e w17 ⟨r, own', rfl, -, hrn, hE, hoo, hc⟩
        have H17 := Lib.hid (And.intro hrn (And.intro (H16.out.2.turn hE hc hoo) ((hc.block _ (lt_of_block H16.out.1) fun hh => hh (H16.out.2.s.gz _ (.inr rfl)).2.1).trans H16.out.1)))
        clear hrn hE hoo hc
        go_wp2_with fail
        refine hK.out _ _ ⟨H17.out.2.1.op, H17.out.2.1.s.zon⟩ (fun hHeld => ?_)
        clear hK
        try simp only [Act.put, uA, uB, uC]
        refine Pl [6, 7, 8] ?_
        iterate 3 (refine Pc rfl ?_; simp only [Act.put, uA, uB, uC])
        refine Pn ?_
        refine ord_one 10 rfl (by kernel_rfl) (by rfl) (fun K hK => ?_)
        refine wp_bstore 48 (.tmp 12) (.tmp 87) rfl W0.heap.size rfl (L := RepC (putX r o)) rfl H17.out.2.2 rfl (by kernel_rfl) (RepC_one _) ?_
        intro w18 hn hc
        have H18 := Lib.hid (And.intro hn (H17.out.2.1.hit hc (.inr rfl) (by have := Hl0.out.1; omega) (by have := Hl0.out.2; omega)))
        clear hn hc hHeld
        refine hK.out _ _ ⟨H18.out.2.op, H18.out.2.s.zon⟩ (fun hHeld => ?_)
        clear hK
        try simp only [Act.put, uA, uB, uC]
        refine Pl [11] ?_
        iterate 1 (refine Pc rfl ?_; simp only [Act.put, uA, uB, uC])
        refine Pn ?_
        clear hHeld
        refine wpAnyH_done (by kernel_rfl) ?_ _
        go_wp2_with fail
        go_meet
        exact ⟨W0.heap.size, r, own', rfl, H18.out.1, H17.out.1, H18.out.2⟩
    case rest =>
      obtain ⟨q, r, own', rfl, hq, hrn, hD⟩ := hcut
      have H15 := Lib.hid (And.intro hq (And.intro hrn hD))
      clear hq hrn hD H14 HA
      go_upto_region 17 with (fail)
      have hcz7 := cell_of H15.out.2.2.s.zon (i := 7) (v := .slice none 0 0) rfl
      have hcz0 := cell_of H15.out.2.2.s.zon (i := 0) (v := .int .i64 h.id) rfl
      refine g_start [17] (fun w' : World => w'.heap[w1.heap.size]? = some (.cells (OpL o).toArray 25 (0, 0)) ∧ w'.cell? ⟨z, 7, none⟩ = some (.slice none 0 0) ∧ w'.cell? ⟨z, 0, none⟩ = some (.int .i64 h.id)) (n := 18) (by kernel_rfl) rfl ⟨H15.out.2.2.op, hcz7, hcz0⟩ (fun hHeld => ?_)
      clear hcz7 hcz0
      have H16 := Lib.hid (show wc.drew.heap[q]? = some (.cells (RepC (putX r o)).toArray 48 (0, 0)) ∧ _ from And.intro H15.out.1 H15.out.2.2.drew)
      have Hrn := Lib.hid H15.out.2.1
      clear H15
      generalize wc.drew = W0 at *
      refine Gl [0, 1, 2, 3, 5, 6, 7, 8, 10] ?_
      iterate 9 (refine Gp rfl ?_; simp only [Act.put, uA, uB, uC])
      refine Gn ?_
      refine Gl [4, 9, 11] ?_
      iterate 3 (refine Gd rfl (by intro w' hSw; first | exact yload 25 (.tmp 3) rfl rfl hSw.1 Tryz.underlying25 rfl (by kernel_rfl) | (have c7 := hSw.2.1; have c0 := hSw.2.2; go_simp; try with_reducible rfl)) ?_; simp only [Act.put, uA, uB, uC])
      refine Gn ?_
      refine Gl [12] ?_
      refine Gd (v := .agg #[.int .i64 h.id, .int .i64 (n2 : Int), .int .i64 o.kind, .int .i64 o.client, .int .i64 o.seq, .string o.atK, .string o.atW, .string o.toK, .string o.toW, .int .i64 o.item, .int .i64 o.count, .int .i64 o.price, .bool o.buy, .int .i64 o.id]) rfl (by intro w' hSw; kernel_rfl) ?_
      simp only [Act.put, uA, uB, uC]
      refine Gn ?_
      refine g_one 13 rfl (by kernel_rfl) (by rfl) (fun K hK => ?_)
      go_wp2_with fail
      have hba := below_one W0 (.cells #[.int .i64 h.id, .int .i64 (n2 : Int), .int .i64 o.kind, .int .i64 o.client, .int .i64 o.seq, .string o.atK, .string o.atW, .string o.toK, .string o.toW, .int .i64 o.item, .int .i64 o.count, .int .i64 o.price, .bool o.buy, .int .i64 o.id] 120)
      refine hK.out _ _ ⟨(hba.block _ (lt_of_block hHeld.1)).trans hHeld.1, al_cell hHeld.2.1 _, al_cell hHeld.2.2 _⟩ (fun hHeld => ?_)
      clear hK
      have HX := Lib.hid (And.intro hba (new_block W0 (.cells #[.int .i64 h.id, .int .i64 (n2 : Int), .int .i64 o.kind, .int .i64 o.client, .int .i64 o.seq, .string o.atK, .string o.atW, .string o.toK, .string o.toW, .int .i64 o.item, .int .i64 o.count, .int .i64 o.price, .bool o.buy, .int .i64 o.id] 120)))
      clear hba
      generalize W0.alloc (.cells #[.int .i64 h.id, .int .i64 (n2 : Int), .int .i64 o.kind, .int .i64 o.client, .int .i64 o.seq, .string o.atK, .string o.atW, .string o.toK, .string o.toW, .int .i64 o.item, .int .i64 o.count, .int .i64 o.price, .bool o.buy, .int .i64 o.id] 120) = w17 at *
      try simp only [Act.put, uA, uB, uC]
      refine g_one 14 rfl (by kernel_rfl) (by rfl) (fun K hK => ?_)
      have hxx : Holds w17 14 (.slice (some ⟨W0.heap.size, 0, none⟩) 1 1) 1 [.int .i64 h.id, .int .i64 (n2 : Int), .int .i64 o.kind, .int .i64 o.client, .int .i64 o.seq, .string o.atK, .string o.atW, .string o.toK, .string o.toW, .int .i64 o.item, .int .i64 o.count, .int .i64 o.price, .bool o.buy, .int .i64 o.id] := ⟨rfl, some ⟨W0.heap.size, 0, none⟩, 1, rfl, fun e => (by cases e), fun a ha i u hu => by
        cases ha
        rw [add_zero]
        refine cell_of HX.out.2 ?_
        simpa using hu⟩
      refine wp_appP (.tmp 93) (.tmp 102) 54 rfl 120 i5 (.agg #[.int .i64 0, .int .i64 0, .int .i64 0, .int .i64 0, .int .i64 0, .string ⟨#[]⟩, .string ⟨#[]⟩, .string ⟨#[]⟩, .string ⟨#[]⟩, .int .i64 0, .int .i64 0, .int .i64 0, .bool false, .int .i64 0]) 14 144 Tryz.underlying54 HI5.out.1 HI5.out.2.1 HI5.out.2.2.1 HI5.out.2.2.2 rfl (by decide) (.slice none 0 0) 0 [] rfl (OwnR.nil _ _ _) (.slice (some ⟨W0.heap.size, 0, none⟩) 1 1) 1 _ rfl hxx (by intro v hv; simp only [List.mem_cons, List.not_mem_nil, or_false] at hv; rcases hv with rfl | rfl | rfl | rfl | rfl | rfl | rfl | rfl | rfl | rfl | rfl | rfl | rfl | rfl <;> rfl) (by decide) (by decide) ?_
      intro v3 w3 hown3 hgrow3 hloc3
      have hb3 : Below W0.heap.size W0 w3 := HX.out.1.trans ((Chg.of_grown hgrow3).below HX.out.1.size fun k hk e => by cases e)
      have hnew : ∀ k, v3.ownBlock = some k → W0.heap.size ≤ k ∧ k < w3.heap.size := fun k hk => ⟨by
        rcases hloc3 with e | ⟨g, e, hg⟩
        · rw [e] at hk
          cases hk
        · rw [e] at hk
          cases hk
          exact Nat.le_trans HX.out.1.size hg, OwnR.lt hown3 hk⟩
      obtain ⟨p3, q3, rfl⟩ := OwnR.shape hown3
      have H17 := Lib.hid (And.intro ((hb3.block _ (lt_of_block H16.out.1)).trans H16.out.1) (H16.out.2.add (G' := fun k => (((k = w1.heap.size ∨ k = w2.heap.size) ∨ (Value.slice pv o.enc.length cv).ownBlock = some k) ∨ k = q) ∨ (Value.slice p3 (0 + 1) q3).ownBlock = some k) hb3 (fun k hk => hk.imp id fun e => hnew k e) fun k hk => .inl hk))
      have HG := Lib.hid (fun k (hk : ((k = w1.heap.size ∨ k = w2.heap.size) ∨ (Value.slice pv o.enc.length cv).ownBlock = some k) ∨ k = q) (e : (Value.slice p3 (0 + 1) q3).ownBlock = some k) => (by have h1 := (hnew k e).1; have h2 := H16.out.2.s.flt (.inr (.inr (.inr (.inr hk)))); omega : False))
      have hz3 := H17.out.2.s.zon
      have hc7 := cell_of hz3 (i := 7) (v := .slice none 0 0) rfl
      have hc0 := cell_of hz3 (i := 0) (v := .int .i64 h.id) rfl
      have hf7 := frozen_of hz3 7
      clear hxx hown3 hgrow3 hloc3 hb3 hnew hz3 HX H16 hHeld
      refine hK.out _ _ ⟨H17.out.2.op, hc7, hc0⟩ (fun hHeld => ?_)
      clear hK
      try simp only [Act.put, uA, uB, uC]
      refine Gl [15, 16] ?_
      iterate 2 (refine Gp rfl ?_; simp only [Act.put, uA, uB, uC])
      refine Gn ?_
      clear hHeld
      refine g_end 17 rfl (by kernel_rfl) (by rfl) (by kernel_rfl) (fun K hK => ?_)
      go_wp2_with fail
      refine hK.out _ _ ?_
      clear hK
      try simp only [Act.put, uA, uB, uC]
      have hqz : q ≠ z := (H17.out.2.s.gz q (.inl (.inr rfl))).1
      have H18 := Lib.hid (And.intro (((Chg.setCell w3 ⟨z, 7, none⟩ (.slice p3 (0 + 1) q3)).block q (lt_of_block H17.out.1) hqz).trans H17.out.1) (H17.out.2.setG (ev' := .slice p3 (0 + 1) q3) (Chg.setCell w3 ⟨z, 7, none⟩ (.slice p3 (0 + 1) q3)) (set_block H17.out.2.s.zon 7 (.slice p3 (0 + 1) q3)) (fun k hk => .inr hk) (fun k hk => ⟨.inl hk, fun e => HG.out k hk e⟩) (.inl (.inl (.inl rfl))) (.inl (.inl (.inr rfl)))))
      clear hc7 hc0 hf7 hqz
      refine g_done (by kernel_rfl) ?_ _
      have HTi := Lib.hid (ztidies_calls H18.out.2.s Hx.out.2.2.2)
      clear H17 HG
      generalize w3.setCell ⟨z, 7, none⟩ (.slice p3 (0 + 1) q3) = w18 at *
      go_wp2_with fail
      refine HTi.out.mono ?_
      rintro e w19 ⟨rfl, hb⟩
      have H19 := Lib.hid (And.intro ((hb.block q (lt_of_block H18.out.1)).trans H18.out.1) (H18.out.2.next hb))
      clear hb HTi H18
      go_wp2_with (first
        | (refine bload rfl 48 (.tmp 12) rfl q rfl (L := RepC (putX r o)) H19.out.1 Tryz.underlying48 rfl (by kernel_rfl) ?_)
        | (refine bstore rfl 48 (.tmp 4) (.tmp 112) rfl w2.heap.size rfl (L := RepC (putX r o)) rfl H19.out.2.rep rfl (by kernel_rfl) (RepC_one _) ?_; intro w20 hn hc; have H20 := Lib.hid (And.intro hn (H19.out.2.s.hit hc H19.out.2.g4)); clear hn hc))
      refine bodyPost_ret (results_rw2 (p := 4) (u := 5) rfl _ _ w2.heap.size _ _ (0, 0) _ rfl H20.out.1 Tryz.underlying48 rfl (by kernel_rfl)) rfl ?_
      exact ⟨r, own', .slice p3 (0 + 1) q3, rfl, Hrn.out, H20.out.2.drop⟩
end Go.Proofs.YtogdfkilhpkloaaGreatDoor

namespace Go.Proofs.YtogdfkilhpkloaaGreatDoor
open Go.RowKit Go.Sat Go.Maps

def HeadL (h : HeadM) : List Value := [.int .i64 h.id, .string h.fr, .string h.tu, .int .i64 h.epoch, .int .i64 h.state]
set_option maxHeartbeats 1000000 in
theorem zlast_nil (w : World) : Calls Tryz.prog 16 #[.pointer none] w fun e w' => e = .returned (.int .i64 0) ∧ w' = w := by
  go_enter Tryz.func16, Tryz.ntmps16
  go_wp2_with fail
  go_ret
  exact ⟨rfl, rfl⟩
set_option maxHeartbeats 1000000 in
theorem zevents_nil (w : World) : Calls Tryz.prog 20 #[.pointer none] w fun e w' => e = .returned (.slice none 0 0) ∧ w' = w := by
  go_enter Tryz.func20, Tryz.ntmps20
  go_wp2_with fail
  go_ret
  exact ⟨rfl, rfl⟩
set_option maxHeartbeats 1000000 in
theorem zimage_nil (w : World) : Calls Tryz.prog 21 #[.pointer none] w fun e w' => e = .returned (.slice none 0 0) ∧ w' = w := by
  go_enter Tryz.func21, Tryz.ntmps21
  go_wp2_with fail
  go_ret
  exact ⟨rfl, rfl⟩
set_option maxHeartbeats 1000000 in
theorem zecon_nil (w : World) : Calls Tryz.prog 39 #[.pointer none] w fun e w' => e = .returned (.pointer none) ∧ w' = w := by
  go_enter Tryz.func39, Tryz.ntmps39
  go_wp2_with fail
  go_ret
  exact ⟨rfl, rfl⟩
set_option maxHeartbeats 1000000 in
theorem zdrop_nil (w : World) : Calls Tryz.prog 22 #[.pointer none] w fun e w' => e = .returned (.int .i64 1) ∧ w' = w := by
  go_enter Tryz.func22, Tryz.ntmps22
  go_wp2_with fail
  go_ret
  exact ⟨rfl, rfl⟩
set_option maxHeartbeats 1000000 in
theorem zship_nil (w : World) (i : Int) (p : Option Addr) (n c : Nat) : Calls Tryz.prog 19 #[.pointer none, .int .i64 i, .slice p n c] w fun e w' => e = .returned (.int .i64 1) ∧ w' = w := by
  go_enter Tryz.func19, Tryz.ntmps19
  go_wp2_with fail
  go_ret
  exact ⟨rfl, rfl⟩
set_option maxHeartbeats 1000000 in
theorem zentry_nil (w : World) (i : Int) : Calls Tryz.prog 36 #[.pointer none, .int .i64 i] w fun e w' => e = .returned (.tuple #[.slice none 0 0, .int .i64 7]) ∧ w' = w := by
  go_enter Tryz.func36, Tryz.ntmps36
  go_wp2_with fail
  go_ret2
  exact ⟨rfl, rfl⟩
set_option maxHeartbeats 2000000 in
theorem zset_nil (w : World) (h : HeadM) : Calls Tryz.prog 26 #[.pointer none, .agg (HeadL h).toArray] w fun e w' => e = .returned (.int .i64 1) ∧ Below w.heap.size w w' := by
  go_enter Tryz.func26, Tryz.ntmps26
  go_wp2_with (refine bbox rfl 35 (.tmp 1) rfl (L := (HeadL h)) rfl ?_; intro w2 hn1 hb1 hs1; have H2 := Lib.hid hb1; clear hn1 hb1 hs1)
  go_ret
  exact ⟨rfl, H2.out⟩
set_option maxHeartbeats 2000000 in
theorem zjoin_nil (w : World) (h : HeadM) (p : Option Addr) (n c : Nat) : Calls Tryz.prog 38 #[.pointer none, .agg (HeadL h).toArray, .slice p n c] w fun e w' => e = .returned (.int .i64 1) ∧ Below w.heap.size w w' := by
  go_enter Tryz.func38, Tryz.ntmps38
  go_wp2_with (refine bbox rfl 35 (.tmp 1) rfl (L := (HeadL h)) rfl ?_; intro w2 hn1 hb1 hs1; have H2 := Lib.hid hb1; clear hn1 hb1 hs1)
  go_ret
  exact ⟨rfl, H2.out⟩
set_option maxHeartbeats 2000000 in
theorem zcut_nil (w : World) (a b : ByteArray) : Calls Tryz.prog 37 #[.pointer none, .agg [.string a, .string b].toArray] w fun e w' => e = .returned (.slice none 0 0) ∧ Below w.heap.size w w' := by
  go_enter Tryz.func37, Tryz.ntmps37
  go_wp2_with (refine bbox rfl 27 (.tmp 1) rfl (L := [.string a, .string b]) rfl ?_; intro w2 hn1 hb1 hs1; have H2 := Lib.hid hb1; clear hn1 hb1 hs1)
  go_ret
  exact ⟨rfl, H2.out⟩
set_option maxRecDepth 100000 in
set_option maxHeartbeats 4000000 in
theorem zdo_nil (w : World) (o : OpM) : Calls Tryz.prog 17 #[.pointer none, .agg (OpL o).toArray] w fun e w' => e = .returned (.tuple #[.agg ReplyL.toArray, .int .i64 1]) ∧ Below w.heap.size w w' := by
  go_enter Tryz.func17, Tryz.ntmps17
  go_wp2_with (first
    | (refine bbox rfl 25 (.tmp 1) rfl (L := OpL o) rfl ?_; intro w2 hn1 hb1 hs1; have H2 := Lib.hid (And.intro hb1 hs1); clear hn1 hb1 hs1)
    | (refine balloc rfl 48 rfl (Tryz.zeroValue48 _) (by decide) ?_; intro w3 hn2 hb2 hs2; have H3 := Lib.hid (And.intro hn2 (H2.out.1.trans (hb2.mono H2.out.1.size))); clear hn2 hb2 hs2)
    | (refine bbuild rfl 48 #[] rfl (v := .agg ReplyL.toArray) (by kernel_rfl) ?_)
    | (refine bstore rfl 48 (.tmp 4) (.tmp 18) rfl w2.heap.size rfl (L := ReplyL) rfl H3.out.1 rfl (by kernel_rfl) ReplyL_one ?_; intro w4 hn hc; have H4 := Lib.hid (And.intro hn (chgOne H3.out.2 hc H2.out.1.size)); clear hn hc))
  refine bodyPost_ret (results_rw2 (p := 4) (u := 5) rfl _ _ w2.heap.size _ _ (0, 0) _ rfl H4.out.1 Tryz.underlying48 rfl (by kernel_rfl)) rfl ?_
  exact ⟨rfl, H4.out.2⟩
set_option maxRecDepth 100000 in
set_option maxHeartbeats 4000000 in
theorem zohead_nil (w : World) : Calls Tryz.prog 27 #[.pointer none] w fun e w' => e = .returned (.agg #[.int .i64 0, .string ⟨#[]⟩, .string ⟨#[]⟩, .int .i64 0, .int .i64 0]) ∧ Below w.heap.size w w' := by
  have hN := new_block w (.cells #[.int .i64 0, .string ⟨#[]⟩, .string ⟨#[]⟩, .int .i64 0, .int .i64 0] 35)
  have HB := Lib.hid (box_below w (.cells #[.int .i64 0, .string ⟨#[]⟩, .string ⟨#[]⟩, .int .i64 0, .int .i64 0] 35))
  go_enter Tryz.func27, Tryz.ntmps27
  go_wp2_with (refine bstoreAt rfl 35 (.tmp 2) (.tmp 5) rfl w.heap.size 0 rfl rfl [.int .i64 0, .string ⟨#[]⟩, .string ⟨#[]⟩, .int .i64 0, .int .i64 0] rfl hN (by simp) (by kernel_rfl) (by intro v hv; simp only [List.mem_cons, List.not_mem_nil, or_false] at hv; rcases hv with rfl | rfl | rfl | rfl | rfl <;> rfl) ?_; intro w2 h2 hc2; have H2 := Lib.hid (And.intro h2 hc2); clear h2 hc2)
  refine bodyPost_ret (results_cell_row rfl _ _ w.heap.size _ _ (0, 0) _ rfl H2.out.1 Tryz.underlying35 rfl (by kernel_rfl)) rfl ?_
  exact ⟨rfl, chgOne HB.out H2.out.2 (Nat.le_refl _)⟩
end Go.Proofs.YtogdfkilhpkloaaGreatDoor

namespace Go.Proofs.YtogdfkilhpkloaaGreatDoor
open Go.RowKit Go.Sat Go.Maps

set_option maxRecDepth 100000 in
set_option maxHeartbeats 8000000 in
theorem zset_calls {w : World} {z eb l : Nat} {h0 h : HeadM} {ev : Value} (hz : w.heap[z]? = some (ZoneO h0 eb l ev false)) (hw : h.wf) (r : Int) (hr : (h.is = false ∨ h.id ≠ h0.id) ∧ r = 1 ∨ (h.is = true ∧ h.id = h0.id ∧ h.epoch < h0.epoch ∧ r = 18)) :
    Calls Tryz.prog 26 #[.pointer (some ⟨z, 0, none⟩), .agg (HeadL h).toArray] w fun e w' => e = .returned (.int .i64 r) ∧ Below w.heap.size w w' := by
  have HI := Lib.hid (fun W => ishead_calls W h hw)
  have Hz := Lib.hid hz
  have Hr := Lib.hid hr
  clear hz hr hw
  go_enter Tryz.func26, Tryz.ntmps26
  go_upto_region 5 with (refine bbox rfl 35 (.tmp 1) rfl (L := HeadL h) rfl ?_; intro w2 hn1 hb1 hs1; have H2 := Lib.hid (And.intro hn1 (And.intro ((hb1.block _ (lt_of_block Hz.out)).trans Hz.out) hb1)); clear hn1 hb1 hs1; have c8 := cell_of H2.out.2.1 (i := 8) (v := .bool false) rfl)
  clear c8
  refine ord_start (fun w' : World => w'.heap[w.heap.size]? = some (.cells (HeadL h).toArray 35 (0, 0)) ∧ w'.heap[z]? = some (ZoneO h0 eb l ev false)) (n := 14) (by kernel_rfl) rfl ⟨H2.out.1, H2.out.2.1⟩ (fun hHeld => ?_)
  have HB := Lib.hid (show Below w.heap.size w w2.drew from H2.out.2.2.trans ⟨rfl, rfl, rfl, Nat.le_refl _, fun _ _ => rfl⟩)
  clear H2
  generalize w2.drew = w3 at *
  refine Pl [0] ?_
  refine Pd rfl (by intro w' hSw; exact yload 35 (.tmp 3) rfl rfl hSw.1 Tryz.underlying35 rfl (by kernel_rfl)) ?_
  simp only [Act.put, uA, uB, uC]
  refine Pn ?_
  refine ord_one 1 rfl (by kernel_rfl) (by rfl) (fun K hK => ?_)
  go_wp2_with fail
  refine (HI.out _).mono ?_
  rintro e w4 ⟨rfl, hb⟩
  have H4 := Lib.hid (And.intro (And.intro ((hb.block _ (lt_of_block hHeld.1)).trans hHeld.1) ((hb.block _ (lt_of_block hHeld.2)).trans hHeld.2)) (HB.out.trans (hb.mono HB.out.size)))
  clear hb hHeld HI HB
  cases his : h.is with
  | false =>
    have Hr1 := Lib.hid (show r = 1 from by rcases Hr.out with h1 | h1; exact h1.2; rw [his] at h1; cases h1.1)
    clear his
    go_wp2_with fail
    refine hK.out _ _ H4.out.1 (fun hHeld => ?_)
    clear hK
    try simp only [Act.put, uA, uB, uC]
    refine Pl [2, 3, 4, 5, 6, 7, 8, 9, 10, 11, 12, 13] ?_
    iterate 2 (refine Pc rfl ?_; simp only [Act.put, uA, uB, uC])
    iterate 8 (refine Ps rfl ?_; simp only [Act.put, uA, uB, uC])
    iterate 2 (refine Pc rfl ?_; simp only [Act.put, uA, uB, uC])
    refine Pn ?_
    clear hHeld
    refine wpAnyH_done (by kernel_rfl) ?_ _
    go_wp2_with fail
    go_ret
    exact ⟨by rw [Hr1.out]; rfl, H4.out.2⟩
  | true =>
    by_cases hid : h.id = h0.id
    · have hd : (h.id != h0.id) = false := by simp [hid]
      have Hr1 := Lib.hid (show h.epoch < h0.epoch ∧ r = 18 from by
        rcases Hr.out with h1 | h1
        · rcases h1.1 with h2 | h2
          · rw [his] at h2; cases h2
          · exact absurd hid h2
        · exact h1.2.2)
      clear his hid
      go_wp2_with fail
      refine hK.out _ _ H4.out.1 (fun hHeld => ?_)
      clear hK
      try simp only [Act.put, uA, uB, uC]
      refine Pl [2, 3, 4, 5, 6, 7, 8, 9, 10, 11, 12, 13] ?_
      iterate 12 (refine Pd rfl (by intro w' hSw; have c0 := cell_of hSw.1 (i := 0) (v := .int .i64 h.id) rfl; have d0 := cell_of hSw.2 (i := 0) (v := .int .i64 h0.id) rfl; go_simp; try with_reducible rfl) ?_; simp only [Act.put, uA, uB, uC])
      refine Pn ?_
      refine wpAnyH_done (by kernel_rfl) ?_ _
      clear hHeld hd
      go_upto_region 7 with (fail)
      refine ord_start (fun w' : World => w'.heap[w.heap.size]? = some (.cells (HeadL h).toArray 35 (0, 0)) ∧ w'.heap[z]? = some (ZoneO h0 eb l ev false)) (n := 9) (by kernel_rfl) rfl H4.out.1 (fun hHeld => ?_)
      have HB5 := Lib.hid (show Below w.heap.size w w4.drew from H4.out.2.trans ⟨rfl, rfl, rfl, Nat.le_refl _, fun _ _ => rfl⟩)
      clear H4
      generalize w4.drew = w5 at *
      have hlt : decide (h.epoch < h0.epoch) = true := by simpa using Hr1.out.1
      refine Pl [0, 1, 2, 3, 4, 5, 6, 7, 8] ?_
      iterate 9 (refine Pd rfl (by intro w' hSw; have c3 := cell_of hSw.1 (i := 3) (v := .int .i64 h.epoch) rfl; have d3 := cell_of hSw.2 (i := 3) (v := .int .i64 h0.epoch) rfl; go_simp; try with_reducible rfl) ?_; simp only [Act.put, uA, uB, uC])
      refine Pn ?_
      refine wpAnyH_done (by kernel_rfl) ?_ _
      clear hHeld
      go_wp2_with fail
      go_ret
      exact ⟨by rw [Hr1.out.2]; rfl, HB5.out⟩
    · have hd : (h.id != h0.id) = true := by simpa using hid
      have Hr1 := Lib.hid (show r = 1 from by
        rcases Hr.out with h1 | h1
        · exact h1.2
        · exact absurd h1.2.1 hid)
      clear his hid
      go_wp2_with fail
      refine hK.out _ _ H4.out.1 (fun hHeld => ?_)
      clear hK
      try simp only [Act.put, uA, uB, uC]
      refine Pl [2, 3, 4, 5, 6, 7, 8, 9, 10, 11, 12, 13] ?_
      iterate 12 (refine Pd rfl (by intro w' hSw; have c0 := cell_of hSw.1 (i := 0) (v := .int .i64 h.id) rfl; have d0 := cell_of hSw.2 (i := 0) (v := .int .i64 h0.id) rfl; go_simp; try with_reducible rfl) ?_; simp only [Act.put, uA, uB, uC])
      refine Pn ?_
      refine wpAnyH_done (by kernel_rfl) ?_ _
      clear hHeld
      go_wp2_with fail
      go_ret
      exact ⟨by rw [Hr1.out]; rfl, H4.out.2⟩
end Go.Proofs.YtogdfkilhpkloaaGreatDoor

namespace Go.Proofs.YtogdfkilhpkloaaGreatDoor
open Go.RowKit Go.Sat Go.Maps

def HeadM.wf2 (h : HeadM) : Prop := (wf64 h.id ∧ wf64 h.epoch ∧ wf64 h.state) ∧ strOk h.fr ∧ strOk h.tu
def HeadM.lits (h : HeadM) : List Lit := [.int .i64 h.id, .string h.fr.data.toList, .string h.tu.data.toList, .int .i64 h.epoch, .int .i64 h.state]
theorem head_lits (h : HeadM) (hw : h.wf2) : ∀ m, (∃ n, m = n + 2) → Tryz.prog.keyLits (m + 1) 35 (HeadL h) = some h.lits := by
  have hc : Tryz.prog.cellsOf 35 = 5 := by kernel_rfl
  have hcp : Tryz.prog.cellsOf 27 = 2 := by kernel_rfl
  have hc3 : Tryz.prog.cellsOf 3 = 1 := by kernel_rfl
  obtain ⟨⟨g1, g2, g3⟩, s1, s2⟩ := hw
  unfold wf64 at g1 g2 g3
  rintro m ⟨n, rfl⟩
  have hcs : Tryz.prog.cellsOf 9 = 1 := by kernel_rfl
  unfold strOk at s1 s2
  simp [HeadL, Program.keyLits, Tryz.underlying35, Tryz.underlying27, Tryz.underlying3, Tryz.underlying9, hc, hcp, hc3, hcs, g1, g2, g3, s1, s2, HeadM.lits]
  try (rw [if_pos (by decide)])
  try rfl
set_option maxRecDepth 100000 in
theorem head_eq (w : World) (x y : HeadM) (hx : x.wf2) (hy : y.wf2) : ∃ r, (Op.equalIn 10000 35 (.agg (HeadL x).toArray) (.agg (HeadL y).toArray)).run Tryz.prog w = .ok r w ∧ (r = true ↔ x.lits = y.lits) := by
  have hc : Tryz.prog.cellsOf 35 = 5 := by kernel_rfl
  have hn : ∃ n, Tryz.prog.types.size = n + 2 := ⟨Tryz.prog.types.size - 2, by kernel_rfl⟩
  have hf : ∀ z : HeadM, (Value.agg (HeadL z).toArray).formed Tryz.prog 35 = true := fun z => by simp [HeadL, Value.formed, Tryz.underlying35, hc]
  obtain ⟨r, hr, hiff⟩ := run_equalIn_deep (10000 - 3) 3 35 (by kernel_rfl) w _ _ (.agg (HeadL x).toArray) (.agg (HeadL y).toArray) _ _ (hf x) (hf y) (head_lits x hx _ hn) (head_lits y hy _ hn)
  have hr' : (Op.equalIn 10000 35 (.agg (HeadL x).toArray) (.agg (HeadL y).toArray)).run Tryz.prog w = .ok r w := hr
  exact ⟨r, hr', hiff⟩
theorem head_same (w : World) (h : HeadM) (hw : h.wf2) : (Op.equalIn 10000 35 (.agg (HeadL h).toArray) (.agg (HeadL h).toArray)).run Tryz.prog w = .ok true w := by
  obtain ⟨r, h1, h2⟩ := head_eq w h h hw hw
  obtain rfl : r = true := h2.2 rfl
  exact h1
theorem zone_range {w : World} {z eb l : Nat} {h : HeadM} {ev : Value} {dead : Bool} (hz : w.heap[z]? = some (ZoneO h eb l ev dead)) : w.rangeAt z 0 (HeadL h) := fun j v hj => by
  rw [Nat.zero_add]
  refine cell_of hz ?_
  unfold HeadL at hj
  match j, hj with
  | 0, hj => exact hj
  | 1, hj => exact hj
  | 2, hj => exact hj
  | 3, hj => exact hj
  | 4, hj => exact hj
  | n + 5, hj => simp at hj
theorem yloadR {P : Program} {o : Oper} {ev : Operand → Value} {w : World} (ty : TypeId) (x : Operand) (ho : o.op = .load ty x) {b k : Nat} (hx : ev x = .pointer (some ⟨b, k, none⟩)) {L : List Value} (hb : w.rangeAt b k L) {d : TypeDesc}
    (hu : P.underlying ty = some d) (hd : d.isRow = true) (hi : (P.info? ty).map (·.size) = some L.length) : (execOp ev o).run P w = .ok (.value (.agg L.toArray)) w := by
  unfold execOp
  simp only [ho, hx, Instr.loadAt, Instr.sureAddr, Sem.run_bind, Sem.run_pure, Result.andThen_ok, run_loadVar_mid w b k ty L d hb hu hd hi]
theorem yeql {P : Program} {o : Oper} {ev : Operand → Value} {w : World} (ty rt : TypeId) (x y : Operand) (ho : o.op = .binOp .eql ty x y rt) {a b : Array Value} (hx : ev x = .agg a) (hy : ev y = .agg b) {c : Bool} (hg : P.eqGuardType P.depth ty = false) (hr : (Op.equalIn 10000 ty (.agg a) (.agg b)).run P w = .ok c w) : (execOp ev o).run P w = .ok (.value (.bool c)) w := by
  unfold execOp
  simp only [ho, hx, hy]
  have hr2 : (Op.equalIn Op.maxDepth ty (.agg a) (.agg b)).run P w = .ok c w := hr
  simp [eqGuard, binOp, Op.equal, Sem.run_bind, hr2, hg, Result.andThen]
set_option maxRecDepth 100000 in
set_option maxHeartbeats 8000000 in
theorem zsetsame_calls {w : World} {z eb l : Nat} {h : HeadM} {ev : Value} (hz : w.heap[z]? = some (ZoneO h eb l ev false)) (hw : h.wf2) (hw1 : h.wf) (his : h.is = true) :
    Calls Tryz.prog 26 #[.pointer (some ⟨z, 0, none⟩), .agg (HeadL h).toArray] w fun e w' => e = .returned (.int .i64 0) ∧ Below w.heap.size w w' := by
  have HI := Lib.hid (fun W => ishead_calls W h hw1)
  rw [his] at HI
  have Hz := Lib.hid hz
  have Hq := Lib.hid (fun W => head_same W h hw)
  clear hz his hw hw1
  go_enter Tryz.func26, Tryz.ntmps26
  go_upto_region 5 with (refine bbox rfl 35 (.tmp 1) rfl (L := HeadL h) rfl ?_; intro w2 hn1 hb1 hs1; have H2 := Lib.hid (And.intro hn1 (And.intro ((hb1.block _ (lt_of_block Hz.out)).trans Hz.out) hb1)); clear hn1 hb1 hs1; have c8 := cell_of H2.out.2.1 (i := 8) (v := .bool false) rfl)
  clear c8
  refine ord_start (fun w' : World => w'.heap[w.heap.size]? = some (.cells (HeadL h).toArray 35 (0, 0)) ∧ w'.heap[z]? = some (ZoneO h eb l ev false)) (n := 14) (by kernel_rfl) rfl ⟨H2.out.1, H2.out.2.1⟩ (fun hHeld => ?_)
  have HB := Lib.hid (show Below w.heap.size w w2.drew from H2.out.2.2.trans ⟨rfl, rfl, rfl, Nat.le_refl _, fun _ _ => rfl⟩)
  clear H2
  generalize w2.drew = w3 at *
  refine Pl [0] ?_
  refine Pd rfl (by intro w' hSw; exact yload 35 (.tmp 3) rfl rfl hSw.1 Tryz.underlying35 rfl (by kernel_rfl)) ?_
  simp only [Act.put, uA, uB, uC]
  refine Pn ?_
  refine ord_one 1 rfl (by kernel_rfl) (by rfl) (fun K hK => ?_)
  go_wp2_with fail
  refine (HI.out _).mono ?_
  rintro e w4 ⟨rfl, hb⟩
  have H4 := Lib.hid (And.intro (And.intro ((hb.block _ (lt_of_block hHeld.1)).trans hHeld.1) ((hb.block _ (lt_of_block hHeld.2)).trans hHeld.2)) (HB.out.trans (hb.mono HB.out.size)))
  clear hb hHeld HI HB
  have hd : (h.id != h.id) = false := by simp
  go_wp2_with fail
  refine hK.out _ _ H4.out.1 (fun hHeld => ?_)
  clear hK
  try simp only [Act.put, uA, uB, uC]
  refine Pl [2, 3, 4, 5, 6, 7, 8, 9, 10, 11, 12, 13] ?_
  iterate 12 (refine Pd rfl (by intro w' hSw; have c0 := cell_of hSw.1 (i := 0) (v := .int .i64 h.id) rfl; have d0 := cell_of hSw.2 (i := 0) (v := .int .i64 h.id) rfl; go_simp; try with_reducible rfl) ?_; simp only [Act.put, uA, uB, uC])
  refine Pn ?_
  refine wpAnyH_done (by kernel_rfl) ?_ _
  clear hHeld hd
  go_upto_region 7 with (fail)
  refine ord_start (fun w' : World => w'.heap[w.heap.size]? = some (.cells (HeadL h).toArray 35 (0, 0)) ∧ w'.heap[z]? = some (ZoneO h eb l ev false)) (n := 9) (by kernel_rfl) rfl H4.out.1 (fun hHeld => ?_)
  have HB5 := Lib.hid (show Below w.heap.size w w4.drew from H4.out.2.trans ⟨rfl, rfl, rfl, Nat.le_refl _, fun _ _ => rfl⟩)
  clear H4
  generalize w4.drew = w5 at *
  have hlt : decide (h.epoch < h.epoch) = false := by simp
  refine Pl [0, 1, 2, 3, 4, 5, 6, 7, 8] ?_
  iterate 9 (refine Pd rfl (by intro w' hSw; have c3 := cell_of hSw.1 (i := 3) (v := .int .i64 h.epoch) rfl; have d3 := cell_of hSw.2 (i := 3) (v := .int .i64 h.epoch) rfl; go_simp; try with_reducible rfl) ?_; simp only [Act.put, uA, uB, uC])
  refine Pn ?_
  refine wpAnyH_done (by kernel_rfl) ?_ _
  have HS5 := Lib.hid hHeld
  clear hHeld hlt
  go_upto_region 9 with (fail)
  refine ord_start (fun w' : World => w'.heap[w.heap.size]? = some (.cells (HeadL h).toArray 35 (0, 0)) ∧ w'.heap[z]? = some (ZoneO h eb l ev false)) (n := 7) (by kernel_rfl) rfl HS5.out (fun hHeld => ?_)
  have HB6 := Lib.hid (show Below w.heap.size w w5.drew from HB5.out.trans ⟨rfl, rfl, rfl, Nat.le_refl _, fun _ _ => rfl⟩)
  clear HB5 HS5
  generalize w5.drew = w6 at *
  refine Pl [0, 1, 2, 3, 4, 5, 6] ?_
  iterate 7 (refine Pd rfl (by intro w' hSw; first | exact yload 35 (.tmp 3) rfl rfl hSw.1 Tryz.underlying35 rfl (by kernel_rfl) | exact yloadR 35 (.tmp 40) rfl rfl (zone_range hSw.2) Tryz.underlying35 rfl (by kernel_rfl) | exact yeql 35 35 (.tmp 37) (.tmp 41) rfl rfl rfl (by kernel_rfl) (Hq.out w') | (go_simp; try with_reducible rfl)) ?_; simp only [Act.put, uA, uB, uC])
  refine Pn ?_
  refine wpAnyH_done (by kernel_rfl) ?_ _
  clear hHeld
  go_wp2_with fail
  go_ret
  exact ⟨rfl, HB6.out⟩
end Go.Proofs.YtogdfkilhpkloaaGreatDoor

namespace Go.Proofs.YtogdfkilhpkloaaGreatDoor
open Go.RowKit Go.Sat Go.Maps

theorem zd_parts {h : HeadM} (hh : h.is = true) (img : Bs) (hi : img.length ≤ 4611686018427387904) : ∃ R1 R2 R3 R4 : Rd, Rd.num ⟨zdata h img, false⟩ = (h.id.toNat, R1) ∧ R1.bytes = (h.fr.data.toList, R2) ∧ R2.bytes = (h.tu.data.toList, R3) ∧ Rd.ints 2 R3 = ([h.epoch, h.state], R4) ∧ R4.bytes = (img, ⟨[], false⟩) := by
  obtain ⟨⟨i1, i2⟩, ⟨f1, f2⟩, ⟨e1, e2⟩, s1, s2⟩ := HeadM.ranges hh
  have hl : ∀ s : ByteArray, s.size ≤ 16 → s.data.toList.length ≤ 4611686018427387904 := fun s hs => by
    rw [str_len]
    omega
  refine ⟨⟨rowB h.fr.data.toList ++ (rowB h.tu.data.toList ++ (numI h.epoch ++ (numI h.state ++ rowB img))), false⟩, ⟨rowB h.tu.data.toList ++ (numI h.epoch ++ (numI h.state ++ rowB img)), false⟩, ⟨numI h.epoch ++ (numI h.state ++ rowB img), false⟩, ⟨rowB img, false⟩, ?_, Rd.bytes_of (hl _ f1) _ _, Rd.bytes_of (hl _ f2) _ _, ?_, ?_⟩
  · unfold zdata
    simp only [numsI, List.map_cons, List.map_nil, List.flatten_cons, List.flatten_nil, List.append_nil, List.append_assoc, numI_of ⟨(by omega : 0 ≤ h.id), (by omega : h.id ≤ 4611686018427387904)⟩]
  · simp only [Rd.ints, numI_of ⟨(by omega : 0 ≤ h.epoch), (by omega : h.epoch ≤ 4611686018427387904)⟩, numI_of ⟨(by omega : 0 ≤ h.state), (by omega : h.state ≤ 4611686018427387904)⟩, Int.toNat_of_nonneg (show 0 ≤ h.epoch by omega), Int.toNat_of_nonneg (show 0 ≤ h.state by omega)]
  · have := Rd.bytes_of hi [] false
    rwa [List.append_nil] at this

theorem bsA_toArr (s : ByteArray) : (⟨s.data.toList.toArray⟩ : ByteArray) = s := bsA_of s
/-- A zone that is being read. -/
def ZoneL (id : Int) (fr tu : ByteArray) (ep st : Int) (e : Value) (l : Nat) : List Value := [.int .i64 id, .string fr, .string tu, .int .i64 ep, .int .i64 st, e, .pointer (some ⟨l, 0, none⟩), .slice none 0 0, .bool false]
def RdzA (w : World) (rb k : Nat) : Prop := w.heap.size ≤ k ∧ k < rb
structure RdZ (w : World) (z rb : Nat) (L : List Value) (R : Rd) (W : World) : Prop where
  zon : W.heap[z]? = some (.cells L.toArray 101 (0, 0))
  rd : RdX (RdzA w rb) W rb R
  chg : Chg (fun k => k = z) w W
  lz : z < w.heap.size
  lr : w.heap.size ≤ rb
section
variable {w W W' : World} {z rb : Nat} {L : List Value} {R R' : Rd}
theorem RdZ.read (h : RdZ w z rb L R W) (hr : RdX (RdzA w rb) W' rb R') (hc : Chg (fun k => k = rb) W W') : RdZ w z rb L R' W' := by
  have l1 := h.lz
  have l2 := h.lr
  have h3 := h.chg.size
  exact ⟨(hc.block z (lt_of_block h.zon) (by omega)).trans h.zon, hr, ⟨hc.os.trans h.chg.os, hc.tape.trans h.chg.tape, hc.output.trans h.chg.output, Nat.le_trans h.chg.size hc.size, fun k hk hn => (hc.block k (by omega) (by omega)).trans (h.chg.block k hk hn)⟩, l1, l2⟩
theorem RdZ.next (h : RdZ w z rb L R W) (hb : Below W.heap.size W W') : RdZ w z rb L R W' :=
  ⟨(hb.block z (lt_of_block h.zon)).trans h.zon, h.rd.chg (Chg.of_below hb) (fun e => e) (fun _ _ e => e), h.chg.trans (Chg.of_below hb) (fun _ _ e => e.elim), h.lz, h.lr⟩
theorem RdZ.drew (h : RdZ w z rb L R W) : RdZ w z rb L R W.drew := h.next ⟨rfl, rfl, rfl, Nat.le_refl _, fun _ _ => rfl⟩
theorem RdZ.turn (h : RdZ w z rb L R W) {L' : List Value} (hc : Chg (fun k => k = z) W W') (hz : W'.heap[z]? = some (.cells L'.toArray 101 (0, 0))) : RdZ w z rb L' R W' := by
  have l1 := h.lz
  have l2 := h.lr
  exact ⟨hz, h.rd.chg hc (by omega) (fun k hk e => by have := hk.1; omega), h.chg.trans hc (fun _ _ e => e), l1, l2⟩
theorem RdZ.nums (h : RdZ w z rb L R W) {ps : List Addr} (hps : ∀ a ∈ ps, a.block = z) (ht : NumsTold (RdzA w rb) W rb R ps W') {zs : List Int} {R' : Rd} (hz : Rd.ints ps.length R = (zs, R')) {L' : List Value} (h1 : (putN W ps zs).heap[z]? = some (.cells L'.toArray 101 (0, 0))) : RdZ w z rb L' R' W' := by
  obtain ⟨hr, hc, hp⟩ := ht
  rw [hz] at hr hp
  have l1 := h.lz
  have l2 := h.lr
  have h3 := h.chg.size
  refine ⟨(hp z (lt_of_block h.zon) (by omega)).trans h1, hr, ⟨hc.os.trans h.chg.os, hc.tape.trans h.chg.tape, hc.output.trans h.chg.output, Nat.le_trans h.chg.size hc.size, fun k hk hn => (hc.block k (by omega) ?_).trans (h.chg.block k hk hn)⟩, l1, l2⟩
  rintro (e | ⟨a, ha, e⟩)
  · omega
  · exact hn (e.trans (hps a ha))
theorem RdZ.put (h : RdZ w z rb L R W) (i : Nat) (v : Value) : RdZ w z rb (L.set i v) R (W.setCell ⟨z, i, none⟩ v) := h.turn (Chg.setCell W ⟨z, i, none⟩ v) (set_blockL h.zon i v)
end
set_option maxRecDepth 100000 in
set_option maxHeartbeats 8000000 in
/-- What an economy's bytes are read as: PE; its blocks are B and behind. -/
theorem zreads_calls {PE : Nat → World → Nat → Prop} (hPE : ∀ B W W' eb, PE B W eb → (∀ k, B ≤ k → k < W.heap.size → W'.heap[k]? = W.heap[k]?) → W.heap.size ≤ W'.heap.size → PE B W' eb) {img : Bs}
    (hD : ∀ W v, HasB W v img → Calls Tryz.prog 41 #[v] W fun e w' => ∃ eb, e = .returned (.tuple #[.pointer (some ⟨eb, 0, none⟩), .int .i64 0]) ∧ PE W.heap.size w' eb ∧ Below W.heap.size W w')
    {w : World} {z l n c : Nat} {p : Option Addr} {h : HeadM} (hz : w.heap[z]? = some (.cells (ZoneL 0 ⟨#[]⟩ ⟨#[]⟩ 0 0 (.pointer none) l).toArray 101 (0, 0))) (hh : h.is = true) (hn : n = (zdata h img).length) (hlen : (zdata h img).length ≤ 140737488355328) (himg : img.length ≤ 4611686018427387904) (hx : HasB w (.slice p n c) (zdata h img)) :
    Calls Tryz.prog 68 #[.pointer (some ⟨z, 0, none⟩), .slice p n c] w fun e w' => ∃ eb B, e = .returned (.bool true) ∧ w'.heap[z]? = some (ZoneO h eb l (.slice none 0 0) false) ∧ w.heap.size ≤ B ∧ PE B w' eb ∧ Chg (fun k => k = z) w w' := by
  obtain ⟨R1, R2, R3, R4, e1, e2, e3, e4, e5⟩ := zd_parts hh img himg
  have hr := HeadM.ranges hh
  have HI := Lib.hid (fun W => ishead_calls W h ⟨by omega, by omega⟩)
  rw [hh] at HI
  have hid : ((h.id.toNat : Nat) : Int) = h.id := Int.toNat_of_nonneg (by omega)
  have Hnr := Lib.hid (newrdX_calls hx hlen)
  have Hz := Lib.hid hz
  have HR := Lib.hid (And.intro e1 (And.intro e2 (And.intro e3 (And.intro e4 (And.intro e5 hid)))))
  have HPE := Lib.hid hPE
  have HD := Lib.hid hD
  clear hz hx hlen himg hn e1 e2 e3 e4 e5 hid hr hPE hD hh
  obtain ⟨id, fr, tu, ep, st⟩ := h
  go_enter Tryz.func68, Tryz.ntmps68
  go_wp2_with fail
  refine Hnr.out.mono ?_
  rintro e w1 ⟨rb, rfl, hrd, hr1, hr2, hb⟩
  have HS1 := Lib.hid (show RdZ w z rb (ZoneL 0 ⟨#[]⟩ ⟨#[]⟩ 0 0 (.pointer none) l) ⟨zdata ⟨id, fr, tu, ep, st⟩ img, false⟩ w1 from ⟨(hb.block _ (lt_of_block Hz.out)).trans Hz.out, hrd, (Chg.of_below hb).mono (fun _ _ e => e.elim), lt_of_block Hz.out, hr1⟩)
  clear hrd hr1 hr2 hb Hnr
  have hnum : Calls Tryz.prog 137 #[.pointer (some ⟨rb, 0, none⟩)] w1 (NumX (RdzA w rb) w1 rb ⟨zdata ⟨id, fr, tu, ep, st⟩ img, false⟩) := by
    obtain ⟨_, _, _, h1, h2⟩ := HS1.out.rd
    exact numX_calls h1 h2
  unfold NumX at hnum
  rw [HR.out.1] at hnum
  have Hnum := Lib.hid hnum
  clear hnum
  go_wp2_with fail
  refine Hnum.out.mono ?_
  rintro e w2 ⟨rfl, hrd, hc⟩
  have HS2 := Lib.hid (HS1.out.read hrd hc)
  clear hrd hc Hnum HS1
  have hcast : (((⟨id, fr, tu, ep, st⟩ : HeadM).id.toNat : Nat) : Int) = id := HR.out.2.2.2.2.2
  rw [hcast]
  clear hcast
  have c0 := cell_of HS2.out.zon (i := 0) (v := .int .i64 0) rfl
  have f0 := frozen_of HS2.out.zon 0
  have HS3 := Lib.hid (HS2.out.put 0 (.int .i64 id))
  clear HS2
  go_upto_region 3 with (fail)
  try simp only [Act.put, uA, uB, uC]
  clear c0 f0
  generalize w2.setCell ⟨z, 0, none⟩ (.int .i64 id) = w3 at *
  have HL0 : (ZoneL 0 ⟨#[]⟩ ⟨#[]⟩ 0 0 (.pointer none) l).set 0 (.int .i64 id) = ZoneL id ⟨#[]⟩ ⟨#[]⟩ 0 0 (.pointer none) l := rfl
  rw [HL0] at HS3
  clear HL0
  refine ord_start (fun _ => True) (n := 12) (by kernel_rfl) rfl trivial (fun _ => ?_)
  have HS4 := Lib.hid HS3.out.drew
  clear HS3
  generalize w3.drew = w4 at *
  refine Pl [0, 1, 4] ?_
  iterate 3 (refine Pc rfl ?_; simp only [Act.put, uA, uB, uC])
  refine Pn ?_
  have hb1 := rbytesX_calls HS4.out.rd
  rw [HR.out.2.1] at hb1
  have Hb1 := Lib.hid hb1
  clear hb1
  refine ord_one 2 rfl (by kernel_rfl) (by rfl) (fun K hK => ?_)
  go_wp2_with fail
  refine Hb1.out.mono ?_
  rintro e w5 ⟨v1, rfl, hv1, hvn1, hrd, hc⟩
  have Hn1 := Lib.hid (show ∀ k, v1.ownBlock = some k → k ≠ z from fun k hk e => by have := hvn1 k hk; have := lt_of_block HS4.out.zon; omega)
  have HS5 := Lib.hid (And.intro (HS4.out.read hrd hc) (And.intro hv1 hvn1))
  have Hl5 := Lib.hid (And.intro HS4.out.rd.lt (lt_of_block HS4.out.zon))
  clear hrd hc hv1 hvn1 Hb1 HS4
  go_wp2_with fail
  refine hK.out _ _ trivial (fun _ => ?_)
  clear hK
  try simp only [Act.put, uA, uB, uC]
  refine ord_more (fun W => HasB W v1 fr.data.toList) HS5.out.2.1.has (fun _ _ => trivial) (fun hHeld => ?_)
  refine Pl [3] ?_
  refine Pd rfl (by intro w' hSw; have hcv := conv_str (P := Tryz.prog) (W := w') Tryz.underlying39 Tryz.underlying5 Tryz.underlying9 hSw; rw [bsA_toArr] at hcv; go_simp; try with_reducible rfl) ?_
  simp only [Act.put, uA, uB, uC]
  refine Pn ?_
  have hb1 := rbytesX_calls HS5.out.1.rd
  rw [HR.out.2.2.1] at hb1
  have Hb1 := Lib.hid hb1
  clear hb1
  refine ord_one 5 rfl (by kernel_rfl) (by rfl) (fun K hK => ?_)
  go_wp2_with fail
  refine Hb1.out.mono ?_
  rintro e w6 ⟨v2, rfl, hv2, hvn2, hrd, hc⟩
  have hv1 : HasB w6 v1 fr.data.toList := (hHeld.chg hc fun k hk e => by have := HS5.out.2.2 k hk; have := Hl5.out.1; omega)
  have Hn2 := Lib.hid (show ∀ k, v2.ownBlock = some k → k ≠ z from fun k hk e => by have := hvn2 k hk; have := lt_of_block HS5.out.1.zon; omega)
  have HS6 := Lib.hid (And.intro (HS5.out.1.read hrd hc) hv2.has)
  clear hrd hc hv2 hvn2 Hb1 HS5 Hl5 hHeld
  go_wp2_with fail
  refine hK.out _ _ hv1 (fun _ => ?_)
  clear hK
  try simp only [Act.put, uA, uB, uC]
  refine ord_more (fun W => HasB W v1 fr.data.toList ∧ HasB W v2 tu.data.toList) ⟨hv1, HS6.out.2⟩ (fun _ h => h.1) (fun hHeld => ?_)
  clear hv1
  refine Pl [6, 7, 8, 9, 10] ?_
  refine Pd rfl (by intro w' hSw; have hcv := conv_str (P := Tryz.prog) (W := w') Tryz.underlying39 Tryz.underlying5 Tryz.underlying9 hSw.2; rw [bsA_toArr] at hcv; go_simp; try with_reducible rfl) ?_
  simp only [Act.put, uA, uB, uC]
  iterate 4 (refine Pc rfl ?_; simp only [Act.put, uA, uB, uC])
  refine Pn ?_
  refine ord_one 11 rfl (by kernel_rfl) (by rfl) (fun K hK => ?_)
  refine wp_bstoreAt 27 (.tmp 26) (.tmp 23) rfl z 1 rfl (v := .agg #[.string fr, .string tu]) rfl [.string fr, .string tu] rfl HS6.out.1.zon (by show 1 + 2 ≤ 9; omega) (by kernel_rfl) (by intro v hv; simp only [List.mem_cons, List.not_mem_nil, or_false] at hv; rcases hv with rfl | rfl <;> rfl) ?_
  intro w7 hn hc
  have HS7 := Lib.hid (show RdZ w z rb (ZoneL id fr tu 0 0 (.pointer none) l) R3 w7 from HS6.out.1.turn hc hn)
  refine hK.out _ _ ⟨hHeld.1.chg hc Hn1.out, hHeld.2.chg hc Hn2.out⟩ (fun _ => ?_)
  clear hHeld hn hc HS6 Hn1 Hn2 hK
  try simp only [Act.put, uA, uB, uC]
  refine wpAnyH_done (by kernel_rfl) ?_ _
  go_upto_region 4 with (fail)
  try simp only [Act.put, uA, uB, uC]
  refine ord_start (fun _ => True) (n := 11) (by kernel_rfl) rfl trivial (fun _ => ?_)
  have HS8 := Lib.hid HS7.out.drew
  clear HS7
  generalize w7.drew = w8 at *
  refine Pl [0, 1, 2, 3, 4, 5, 6, 7, 8] ?_
  iterate 9 (refine Pc rfl ?_; simp only [Act.put, uA, uB, uC])
  refine Pn ?_
  refine ord_one 9 rfl (by kernel_rfl) (by rfl) (fun K hK => ?_)
  have hbo := box_below w8 (.cells #[.pointer (some ⟨z, 3, none⟩), .pointer (some ⟨z, 4, none⟩)] 205)
  have hno := new_block w8 (.cells #[.pointer (some ⟨z, 3, none⟩), .pointer (some ⟨z, 4, none⟩)] 205)
  have HS9 := Lib.hid (And.intro (HS8.out.next hbo) (And.intro hno (And.intro HS8.out.rd.lt (lt_of_block HS8.out.zon))))
  clear hbo hno HS8
  go_wp2_with fail
  refine hK.out _ _ trivial (fun _ => ?_)
  clear hK
  try simp only [Act.put, uA, uB, uC]
  generalize w8.alloc (.cells #[.pointer (some ⟨z, 3, none⟩), .pointer (some ⟨z, 4, none⟩)] 205) = w9 at *
  refine ord_one 10 rfl (by kernel_rfl) (by rfl) (fun K hK => ?_)
  have l1 := HS9.out.1.lz
  have l2 := HS9.out.1.lr
  have hrl := HS9.out.2.2.1
  have hzl := HS9.out.2.2.2
  have hps : ∀ a ∈ [(⟨z, 3, none⟩ : Addr), ⟨z, 4, none⟩], a.block = z := fun a ha => by
    simp only [List.mem_cons, List.not_mem_nil, or_false] at ha
    rcases ha with rfl | rfl <;> rfl
  have hpl : Places w9 rb [⟨z, 3, none⟩, ⟨z, 4, none⟩] := by
    refine ⟨fun a ha => ?_, fun a ha => ?_, fun a ha => ?_, fun a ha => ?_⟩
    · simp only [List.mem_cons, List.not_mem_nil, or_false] at ha
      rcases ha with rfl | rfl
      · exact ⟨0, cell_of HS9.out.1.zon (i := 3) rfl⟩
      · exact ⟨0, cell_of HS9.out.1.zon (i := 4) rfl⟩
    · simp only [List.mem_cons, List.not_mem_nil, or_false] at ha
      rcases ha with rfl | rfl
      · exact frozen_of HS9.out.1.zon 3
      · exact frozen_of HS9.out.1.zon 4
    · rw [hps a ha]
      omega
    · simp only [List.mem_cons, List.not_mem_nil, or_false] at ha
      rcases ha with rfl | rfl <;> rfl
  have hnu := rnums_calls HS9.out.1.rd (g := w8.heap.size) (c := 2) hpl (by simp) (fun i a hi => by
      match i, hi with
      | 0, hi => cases hi; exact cell_of HS9.out.2.1 (i := 0) rfl
      | 1, hi => cases hi; exact cell_of HS9.out.2.1 (i := 1) rfl
      | n + 2, hi => simp at hi) (by omega) (fun a ha => by
      rw [hps a ha]
      omega) (fun k hk => ⟨by have := hk.2; omega, fun a ha => by
      have := hk.1
      rw [hps a ha]
      omega⟩)
  have Hnu := Lib.hid (And.intro hnu hps)
  clear hnu hps hpl
  go_wp2_with fail
  refine Hnu.out.1.mono ?_
  rintro e w10 ⟨rfl, ht⟩
  have HS10 := Lib.hid (show RdZ w z rb (ZoneL id fr tu ep st (.pointer none) l) R4 w10 from HS9.out.1.nums Hnu.out.2 ht HR.out.2.2.2.1 (set_blockL (set_blockL HS9.out.1.zon 3 _) 4 _))
  clear ht Hnu HS9 l1 l2 hrl hzl
  go_wp2_with fail
  refine hK.out _ _ trivial (fun _ => ?_)
  clear hK
  try simp only [Act.put, uA, uB, uC]
  refine wpAnyH_done (by kernel_rfl) ?_ _
  have hb1 := rbytesX_calls HS10.out.rd
  rw [HR.out.2.2.2.2.1] at hb1
  have Hb1 := Lib.hid hb1
  clear hb1
  go_wp2_with fail
  refine Hb1.out.mono ?_
  rintro e w11 ⟨v3, rfl, hv3, hvn3, hrd, hc⟩
  have HS11 := Lib.hid (HS10.out.read hrd hc)
  have Hdec := Lib.hid (HD.out w11 v3 hv3.has)
  clear hrd hc hv3 hvn3 Hb1 HS10 HD
  go_wp2_with fail
  refine Hdec.out.mono ?_
  rintro e w12 ⟨eb, rfl, hP, hb⟩
  have HS12 := Lib.hid (HS11.out.next hb)
  have HP12 := Lib.hid (And.intro hP (And.intro HS11.out.chg.size HS12.out.lz))
  clear hP hb Hdec HS11
  have c5 := cell_of HS12.out.zon (i := 5) (v := .pointer none) rfl
  have f5 := frozen_of HS12.out.zon 5
  go_upto_region 7 with (fail)
  try simp only [Act.put, uA, uB, uC]
  clear c5 f5
  have HS13 := Lib.hid (show RdZ w z rb (ZoneL id fr tu ep st (.pointer (some ⟨eb, 0, none⟩)) l) ⟨[], false⟩ (w12.setCell ⟨z, 5, none⟩ (.pointer (some ⟨eb, 0, none⟩))) from HS12.out.put 5 _)
  have hsc : Chg (fun k => k = z) w12 (w12.setCell ⟨z, 5, none⟩ (.pointer (some ⟨eb, 0, none⟩))) := Chg.setCell w12 ⟨z, 5, none⟩ _
  have HP13 := Lib.hid (And.intro (HPE.out _ _ _ _ HP12.out.1 (fun k h1 h2 => hsc.block k h2 (by have := HP12.out.2.1; have := HP12.out.2.2; omega)) hsc.size) HP12.out.2.1)
  clear HS12 HP12 hsc
  generalize w12.setCell ⟨z, 5, none⟩ (.pointer (some ⟨eb, 0, none⟩)) = w13 at *
  have HW := Lib.hid (whole_calls HS13.out.rd.at.hd)
  rw [show (⟨[], false⟩ : Rd).whole = true from rfl] at HW
  go_wp2_with fail
  refine HW.out.mono ?_
  rintro e w14 ⟨rfl, rfl⟩
  clear HW
  have c0 := cell_of HS13.out.zon (i := 0) (v := .int .i64 id) rfl
  have c1 := cell_of HS13.out.zon (i := 1) (v := .string fr) rfl
  have c2 := cell_of HS13.out.zon (i := 2) (v := .string tu) rfl
  have c3 := cell_of HS13.out.zon (i := 3) (v := .int .i64 ep) rfl
  have c4 := cell_of HS13.out.zon (i := 4) (v := .int .i64 st) rfl
  go_wp2_with fail
  refine (HI.out _).mono ?_
  rintro e w15 ⟨rfl, hb⟩
  have HS15 := Lib.hid (HS13.out.next hb)
  have HP15 := Lib.hid (HPE.out _ _ _ _ HP13.out.1 (fun k _ h2 => hb.block k h2) hb.size)
  clear hb HI c0 c1 c2 c3 c4 HS13
  go_wp2_with fail
  go_ret
  exact ⟨eb, _, rfl, HS15.out.zon, HP13.out.2, HP15.out, HS15.out.chg⟩
end Go.Proofs.YtogdfkilhpkloaaGreatDoor

namespace Go.Proofs.YtogdfkilhpkloaaGreatDoor
open Go.RowKit Go.Sat Go.Maps

/-- The cells of events: of requests that stand behind number b. -/
def evL (id : Int) : Nat → List OpM → List Value
  | _, [] => []
  | b, o :: r => (.int .i64 id :: .int .i64 ((b + 1 : Nat) : Int) :: OpL o) ++ evL id (b + 1) r
theorem evL_snoc (id : Int) : ∀ (l : List OpM) (b : Nat) (o : OpM), evL id b (l ++ [o]) = evL id b l ++ (.int .i64 id :: .int .i64 ((b + 1 + l.length : Nat) : Int) :: OpL o)
  | [], b, o => by simp [evL]
  | x :: l, b, o => by
    have h := evL_snoc id l (b + 1) o
    show (.int .i64 id :: .int .i64 ((b + 1 : Nat) : Int) :: OpL x) ++ evL id (b + 1) (l ++ [o]) = _
    rw [h, show b + 1 + 1 + l.length = b + 1 + (x :: l).length by rw [List.length_cons]; omega]
    simp [evL]
/-- A zone's events. -/
def EvR (W : World) (h : HeadM) (b : Nat) (os : List OpM) (ev : Value) : Prop := if h.state = 3 then ev = .slice none 0 0 else OwnR W 120 14 ev os.length (evL h.id b os)
theorem EvR.nil (W : World) (h : HeadM) (b : Nat) : EvR W h b [] (.slice none 0 0) := by
  unfold EvR
  split
  · rfl
  · exact OwnR.nil _ _ _
theorem EvR.keep {W W' : World} {h : HeadM} {b : Nat} {os : List OpM} {ev : Value} (he : EvR W h b os ev) (hs : ∀ k, ev.ownBlock = some k → W'.heap[k]? = W.heap[k]?) : EvR W' h b os ev := by
  unfold EvR at *
  split
  · rename_i h3
    rwa [if_pos h3] at he
  · rename_i h3
    rw [if_neg h3] at he
    exact OwnR.keep he hs
/-- What is decoded: an economy of which Q says what it is, in blocks from B on. -/
def PEq (Q : EcoR → Prop) (B : Nat) (W : World) (eb : Nat) : Prop := ∃ vm sm tm am E own, EconIn W eb vm sm tm am E own ∧ (∀ k, own k ≠ none → B ≤ k) ∧ Q E
theorem PEq.keep {Q : EcoR → Prop} (B : Nat) (W W' : World) (eb : Nat) (h : PEq Q B W eb) (hs : ∀ k, B ≤ k → k < W.heap.size → W'.heap[k]? = W.heap[k]?) (hz : W.heap.size ≤ W'.heap.size) : PEq Q B W' eb := by
  obtain ⟨vm, sm, tm, am, E, own, hE, ho, hq⟩ := h
  exact ⟨vm, sm, tm, am, E, own, hE.keep (fun k hk => hs k (ho k hk) (hE.oLt k hk)) hz, ho, hq⟩
def DecTo (img : Bs) (Q : EcoR → Prop) : Prop := ∀ W v, HasB W v img → Calls Tryz.prog 41 #[v] W fun e w' => ∃ eb, e = .returned (.tuple #[.pointer (some ⟨eb, 0, none⟩), .int .i64 0]) ∧ PEq Q W.heap.size w' eb ∧ Below W.heap.size W w'
def AppTo (o : OpM) (Q Q' : EcoR → Prop) : Prop := ∀ W eb vm sm tm am E own, EconIn W eb vm sm tm am E own → Q E → Calls Tryz.prog 57 #[.pointer (some ⟨eb, 0, none⟩), .agg (OpL o).toArray] W fun e w' => ∃ v E' own', e = .returned v ∧ Q' E' ∧ EconIn w' eb vm sm tm am E' own' ∧ (∀ j, j < W.heap.size → own' j = own j) ∧ Chg (fun j => own j ≠ none) W w'
def PreTo (id : Int) (pre : ByteArray) : Prop := ∀ W, Calls Tryz.prog 44 #[.int .i64 id] W fun e w' => e = .returned (.string pre) ∧ w' = W
def OpenedZ (w w1 : World) (d : Nat) (h : HeadM) (pre : ByteArray) (D : DiskM) (M : LedM) (os : List OpM) (Q : EcoR → Prop) (F : Nat → Prop) (e : Ending) (w' : World) : Prop :=
  ∃ z E ev, e = .returned (.tuple #[.pointer (some ⟨z, 0, none⟩), .int .i64 0]) ∧ ZoneF w w' z d h pre D M E ev false F ∧ Q E ∧ EvR w' h M.base os ev ∧ Same F w1 w'
section
variable {w w1 W W' : World} {z d eb l vm sm tm am : Nat} {h : HeadM} {pre : ByteArray} {D D' : DiskM} {M M' : LedM} {E E' : EcoR} {own own' : Nat → Option (Nat × Bs)} {ev ev' : Value} {F G G' : Nat → Prop}
/-- The zone's events have grown. -/
theorem DoS.grow (hS : DoS w w1 z d eb l vm sm tm am h pre D M E own ev F G W) (hc : Chg (fun k => k = z ∨ ev.ownBlock = some k) W W') (hz : W'.heap[z]? = some (ZoneO h eb l ev' false)) (he : ∀ k, ev'.ownBlock = some k → ev.ownBlock = some k ∨ W.heap.size ≤ k ∧ k < W'.heap.size) : DoS w w1 z d eb l vm sm tm am h pre D M E own ev' F G W' := by
  have hw := hS.led.bel.size
  have hnew : ∀ k, W.heap.size ≤ k → k ≠ z ∧ own k = none ∧ ¬ F k ∧ ¬ G k := fun k hk => ⟨fun e => by have := hS.flt (.inr (.inl e)); omega, Classical.byContradiction fun hh => by have := hS.flt (.inr (.inr (.inl hh))); omega, fun e => by have := hS.flt (.inl e); omega, fun e => by have := hS.flt (.inr (.inr (.inr (.inr e)))); omega⟩
  have hne : ∀ k, own k ≠ none → ¬ (k = z ∨ ev.ownBlock = some k) := fun k hk e => by
    rcases e with e | e
    · rw [e] at hk; exact hk hS.nz
    · exact hk (hS.ne k e).2
  refine ⟨hS.led.move hc (fun k hk hs => ?_) (fun k hk => ?_), hz, hS.eco.keep (fun k hk => hc.block k (hS.eco.oLt k hk) (hne k hk)) hc.size, fun k hk => (hc.block k (hS.flt (.inl hk)) fun e => e.elim (hS.fz k hk).1 (hS.fz k hk).2.2.1).trans (hS.same k hk), fun k hk => ⟨(hS.fz k hk).1, (hS.fz k hk).2.1, fun e => ?_, (hS.fz k hk).2.2.2⟩, hS.nz, fun k hk => ?_, fun k hk => ⟨(hS.gz k hk).1, (hS.gz k hk).2.1, fun e => ?_⟩, hS.lz, hS.lo, fun k hk => ?_, hS.lg⟩
  · rcases hs with hs | hs
    · exact ⟨.inr (.inl hs), by rw [hs]; exact hS.lz⟩
    · exact ⟨.inr (.inr (.inr (.inl hs))), hS.le k hs⟩
  · rcases hk with hk | hk | hk | hk | hk
    · exact ⟨.inl (.inl hk), Nat.lt_of_lt_of_le (hS.flt (.inl hk)) hc.size⟩
    · exact ⟨.inl (.inr (.inl hk)), Nat.lt_of_lt_of_le (hS.flt (.inr (.inl hk))) hc.size⟩
    · exact ⟨.inl (.inr (.inr (.inl hk))), Nat.lt_of_lt_of_le (hS.flt (.inr (.inr (.inl hk)))) hc.size⟩
    · rcases he k hk with h1 | h1
      · exact ⟨.inl (.inr (.inr (.inr (.inl h1)))), Nat.lt_of_lt_of_le (hS.flt (.inr (.inr (.inr (.inl h1))))) hc.size⟩
      · exact ⟨.inr h1.1, h1.2⟩
    · exact ⟨.inl (.inr (.inr (.inr (.inr hk)))), Nat.lt_of_lt_of_le (hS.flt (.inr (.inr (.inr (.inr hk))))) hc.size⟩
  · rcases he k e with h1 | h1
    · exact (hS.fz k hk).2.2.1 h1
    · exact (hnew k h1.1).2.2.1 hk
  · rcases he k hk with h1 | h1
    · exact hS.ne k h1
    · exact ⟨(hnew k h1.1).1, (hnew k h1.1).2.1⟩
  · rcases he k e with h1 | h1
    · exact (hS.gz k hk).2.2 h1
    · exact (hnew k h1.1).2.2.2 hk
  · rcases he k hk with h1 | h1
    · exact hS.le k h1
    · omega
theorem DoS.zoneF (hS : DoS w w1 z d eb l vm sm tm am h pre D M E own ev F G W) : ZoneF w W z d h pre D M E ev false F :=
  ⟨eb, l, vm, sm, tm, am, own, hS.led.less fun k hk => by
    rcases hk with hk | hk | hk | hk
    · exact .inl hk
    · exact .inr (.inl hk)
    · exact .inr (.inr (.inl hk))
    · exact .inr (.inr (.inr (.inl hk))), hS.zon, hS.eco, fun k hk => ⟨(hS.fz k hk).1, (hS.fz k hk).2.1, (hS.fz k hk).2.2.1⟩, hS.nz, hS.ne, hS.lz, hS.lo, hS.le⟩
end
set_option maxRecDepth 100000 in
set_option maxHeartbeats 8000000 in
theorem zopen_calls {w w1 : World} {d : Nat} {D D' : DiskM} {M : LedM} {F : Nat → Prop} {h : HeadM} {pre : ByteArray} {img : Bs} {os : List OpM} (hS : St w w1 d D F) (hh : h.is = true) (hpre : PreTo h.id pre) (ho : ledOpen D (nm pre) = (D', 0, M)) (hdat : M.data = zdata h img) (hlen : (zdata h img).length ≤ 140737488355328) (himg : img.length ≤ 4611686018427387904)
    (hent : M.entries = os.map OpM.enc) (hos : ∀ o ∈ os, o.may = true ∧ o.enc.length ≤ 1099511627776) (hmany : os.length ≤ 1000000) (QE : Nat → EcoR → Prop) (hD : DecTo img (QE 0)) (hA : ∀ k o, os[k]? = some o → AppTo o (QE k) (QE (k + 1))) :
    Calls Tryz.prog 24 #[.pointer (some ⟨d, 0, none⟩), .int .i64 h.id] w1 (OpenedZ w w1 d h pre D' M os (QE os.length) F) := by
  have hr := HeadM.ranges hh
  have HO := Lib.hid (open_same hS ho)
  have Hpre := Lib.hid hpre
  have HM := Lib.hid (And.intro hdat (And.intro hent hos))
  have HR := Lib.hid (fun (w : World) (z l n c : Nat) (p : Option Addr) hz hn hx => zreads_calls (PE := PEq (QE 0)) PEq.keep (img := img) hD (w := w) (z := z) (l := l) (n := n) (c := c) (p := p) (h := h) hz hh hn hlen himg hx)
  have HA := Lib.hid hA
  have hlz : 1 ≤ (zdata h img).length := by
    unfold zdata
    have : ∀ z : Int, 0 ≤ z → z ≤ 4611686018427387904 → 1 ≤ (numsI [z]).length := fun z h1 h2 => by
      rcases Nat.eq_zero_or_pos (numsI [z]).length with e | e
      · have h3 := numI_of (z := z) ⟨h1, h2⟩ [] false
        rw [List.append_nil] at h3
        have h4 : numsI [z] = numI z := by simp [numsI]
        rw [h4] at e
        rw [List.eq_nil_of_length_eq_zero e] at h3
        have h5 : (Rd.num ⟨[], false⟩).2.bad = true := rfl
        rw [h3] at h5
        cases h5
      · exact e
    have := this h.id (by omega) (by omega)
    simp only [List.length_append]
    omega
  have hid1 : decide (h.id < 1) = false := by simp; omega
  have hid2 : decide (h.id > 1048576) = false := by simp; omega
  obtain ⟨i5, hi5, hz50, hz51, hz52⟩ := info_parts (show (Tryz.prog.info? 120).map (fun i => (i.zero, i.size, i.bytes)) = some (some (.agg #[.int .i64 0, .int .i64 0, .int .i64 0, .int .i64 0, .int .i64 0, .string ⟨#[]⟩, .string ⟨#[]⟩, .string ⟨#[]⟩, .string ⟨#[]⟩, .int .i64 0, .int .i64 0, .int .i64 0, .bool false, .int .i64 0]), 14, 144) by kernel_rfl)
  have HI5 := Lib.hid (And.intro hi5 (And.intro hz50 (And.intro hz51 hz52)))
  clear hi5 hz50 hz51 hz52
  clear hS hpre hdat hent hos hlen himg hD hA ho
  go_enter Tryz.func24, Tryz.ntmps24
  go_wp2_with fail
  refine (Hpre.out _).mono ?_
  rintro e w2 ⟨rfl, hw2⟩
  obtain rfl := hw2.symm
  clear hw2 Hpre
  go_wp2_with fail
  refine HO.out.mono ?_
  rintro e w3 ⟨l, rfl, hL, hsm⟩
  have H3 := Lib.hid (And.intro hL hsm)
  clear hL hsm HO
  have HB := Lib.hid (base_calls H3.out.1)
  rw [HM.out.1] at HB
  go_wp2_with fail
  refine HB.out.mono ?_
  rintro e w4 ⟨v, rfl, hv, hvn, hb⟩
  obtain ⟨pv, cv, rfl⟩ := hv.slice
  have H4 := Lib.hid (And.intro (H3.out.1.next hb) (And.intro (fun k hk => (H3.out.1.same hb k hk).trans (H3.out.2 k hk)) (And.intro hv.has hvn)))
  clear hv hvn hb HB H3
  have hle : ¬ ((zdata h img).length = 0) := by omega
  generalize hN : (zdata h img).length = N at *
  have HN := Lib.hid hN
  have hN0 : ((N : Int) == 0) = false := by simp; omega
  clear hN
  go_upto_region 7 with (fail)
  try simp only [Act.put, uA, uB, uC]
  go_cut [48] (fun s48 wx => s48 = .bool false ∧ wx = w4)
  case first =>
    cases hb0 : ((M.base : Int) == 0) <;> (go_wp2_with fail; go_meet; exact ⟨rfl, rfl⟩)
  case rest =>
    obtain ⟨rfl, hwx⟩ := hcut
    obtain rfl := hwx.symm
    go_upto_region 10 with (fail)
    have hno := new_block w4 (.cells (ZoneL 0 ⟨#[]⟩ ⟨#[]⟩ 0 0 (.pointer none) l).toArray 101)
    have hbo := box_below w4 (.cells (ZoneL 0 ⟨#[]⟩ ⟨#[]⟩ 0 0 (.pointer none) l).toArray 101)
    rw [show (.cells #[.int .i64 0, .string ⟨#[]⟩, .string ⟨#[]⟩, .int .i64 0, .int .i64 0, .pointer none, .pointer (some ⟨l, 0, none⟩), .slice none 0 0, .bool false] 101 : Obj) = .cells (ZoneL 0 ⟨#[]⟩ ⟨#[]⟩ 0 0 (.pointer none) l).toArray 101 from rfl]
    have hsz5 : w4.heap.size < (w4.alloc (.cells (ZoneL 0 ⟨#[]⟩ ⟨#[]⟩ 0 0 (.pointer none) l).toArray 101)).heap.size := by simp
    generalize w4.alloc (.cells (ZoneL 0 ⟨#[]⟩ ⟨#[]⟩ 0 0 (.pointer none) l).toArray 101) = w5 at *
    have HRd := Lib.hid (HR.out w5 w4.heap.size l N cv pv hno rfl (H4.out.2.2.1.below hbo))
    have H5 := Lib.hid (And.intro hbo hsz5)
    clear hno hbo hsz5 HR
    go_wp2_with fail
    refine HRd.out.mono ?_
    rintro e w6 ⟨eb, B, rfl, hz6, hB, ⟨vm, sm, tm, am, E, own, hE, hoB, hq⟩, hc⟩
    have hF4 := fun k (hk : F k) => H4.out.1.flt hk
    have H6 := Lib.hid (show DoS w w1 w4.heap.size d eb l vm sm tm am h pre D' M E own (.slice none 0 0) F NoF w6 from by
      have h5 := H5.out.2
      have hb6 : Below w4.heap.size w4 w6 := H5.out.1.trans (hc.below (Nat.le_of_lt h5) fun k hk e => by omega)
      have hwl := H4.out.1.bel.size
      have hnon : ∀ k, k < B → own k = none := fun k hk => Classical.byContradiction fun hh => by have := hoB k hh; omega
      refine ⟨H4.out.1.more hb6 fun k hk => ?_, hz6, hE, fun k hk => (hb6.block k (hF4 k hk)).trans (H4.out.2.1 k hk), fun k hk => ⟨by have := hF4 k hk; omega, hnon k (by have := hF4 k hk; omega), fun e => (by cases e), fun e => e⟩, hnon _ (by omega), fun k hk => (by cases hk), fun k hk => hk.elim, hwl, fun k hk => (by have := hoB k hk; omega), fun k hk => (by cases hk), fun k hk => hk.elim⟩
      rcases hk with hk | hk | hk | hk | hk
      · exact .inl hk
      · exact .inr ⟨by omega, by have := lt_of_block hz6; omega⟩
      · exact .inr ⟨by have := hoB k hk; omega, hE.oLt k hk⟩
      · cases hk
      · exact hk.elim)
    have Hq := Lib.hid hq
    clear hz6 hB hE hoB hq hc hF4 HRd H4 H5
    generalize w4.heap.size = z at *
    have hbas : M.base ≤ 1099511627776 := by have := H6.out.led.last; unfold LedM.last at this; omega
    have cz0 := cell_of H6.out.zon (i := 0) (v := .int .i64 h.id) rfl
    have cz5 := cell_of H6.out.zon (i := 5) (v := .pointer (some ⟨eb, 0, none⟩)) rfl
    have hlast : M.last = M.base + os.length := by unfold LedM.last; rw [HM.out.2.1, List.length_map]
    go_wp2_with fail
    clear cz0 cz5
    go_loopw [12] (fun i wr => ∃ (k : Nat) (E : EcoR) (own : Nat → Option (Nat × Bs)) (ev : Value), k ≤ os.length ∧ i = .int .i64 ((M.base : Int) + 1 + (k : Int)) ∧ DoS w w1 z d eb l vm sm tm am h pre D' M E own ev F NoF wr ∧ QE k E ∧ EvR wr h M.base (os.take k) ev) (fun i _ => M.base + 1 + os.length - (intOf i).toNat)
    case atStart => exact ⟨0, E, own, .slice none 0 0, Nat.zero_le _, by simp, H6.out, Hq.out, by rw [List.take_zero]; exact EvR.nil _ _ _⟩
    case round =>
      clear H6 Hq
      obtain ⟨k, E1, own1, ev, hk, rfl, hS, hq, hev⟩ := hrel
      have HL := Lib.hid (last_calls hS.led)
      rw [hlast] at HL
      have HS := Lib.hid (And.intro hS (And.intro hq hev))
      clear hS hq hev
      by_cases hlt : k < os.length
      · have ho := List.getElem?_eq_getElem hlt
        have hom := HM.out.2.2 os[k] (List.getElem_mem hlt)
        have htk : os.take (k + 1) = os.take k ++ [os[k]] := List.take_succ_eq_append_getElem hlt
        have hgE : k < M.entries.length := by rw [HM.out.2.1, List.length_map]; exact hlt
        have hge : M.entries[k] = os[k].enc := by simp [HM.out.2.1]
        generalize os[k] = o at *
        have HO := Lib.hid (And.intro ho (And.intro hom htk))
        have HAt := Lib.hid (show ∀ W, DoS w w1 z d eb l vm sm tm am h pre D' M E1 own1 ev F NoF W → Calls Tryz.prog 69 #[.pointer (some ⟨l, 0, none⟩), .int .i64 ((M.base : Int) + 1 + (k : Int))] W fun e w' => ∃ v, e = .returned (.tuple #[v, .int .i64 0]) ∧ Given W o.enc v w' from fun W hW => by
          have hat := at_yes hW.led k hgE
          rw [hge, show ((M.base + 1 + k : Nat) : Int) = (M.base : Int) + 1 + (k : Int) by omega] at hat
          exact hat)
        clear ho hom htk hgE hge
        have hdec : decide ((M.base : Int) + 1 + (k : Int) ≤ ((M.base + os.length : Nat) : Int)) = true := by simp; omega
        have hk2 : k ≤ 1000000 := by omega
        go_wp2_with fail
        refine HL.out.mono ?_
        rintro e wa ⟨rfl, q, rfl⟩
        have HSa := Lib.hid (show DoS w w1 z d eb l vm sm tm am h pre D' M E1 own1 ev F NoF (wr.drewN q) from HS.out.1.next ⟨rfl, rfl, rfl, Nat.le_refl _, fun _ _ => rfl⟩)
        have Hev := Lib.hid (And.intro HS.out.2.1 (HS.out.2.2.keep (W' := wr.drewN q) fun _ _ => rfl))
        clear HL HS
        generalize wr.drewN q = wa at *
        have HA1 := Lib.hid (HAt.out _ HSa.out)
        clear HAt
        go_wp2_with fail
        refine HA1.out.mono ?_
        rintro e wb ⟨v, rfl, hv, hvn, hb⟩
        obtain ⟨pw, cw, rfl⟩ := hv.slice
        have HSb := Lib.hid (HSa.out.next hb)
        have Hev2 := Lib.hid (And.intro Hev.out.1 (Hev.out.2.keep (W' := wb) fun j hj => hb.block j (HSa.out.flt (.inr (.inr (.inr (.inl hj)))))))
        have Hdc := Lib.hid (opdec_calls o.enc rfl hv.has HO.out.2.1.2)
        rw [show opDecV o.enc = .tuple #[.agg (OpL o).toArray, .int .i64 0] from by unfold opDecV; rw [opDec_enc HO.out.2.1.1]] at Hdc
        clear hv hvn hb HA1 HSa Hev
        go_wp2_with fail
        refine Hdc.out.mono ?_
        rintro e wc ⟨rfl, hb⟩
        have HSc := Lib.hid (HSb.out.next hb)
        have Hev3 := Lib.hid (And.intro Hev2.out.1 (Hev2.out.2.keep (W' := wc) fun j hj => hb.block j (HSb.out.flt (.inr (.inr (.inr (.inl hj)))))))
        clear hb Hdc HSb Hev2
        go_upto_region 20 with (first
          | (refine balloc rfl 25 rfl (Tryz.zeroValue25 _) (by decide) ?_; intro wd hn hb hs; have Hd := Lib.hid (And.intro hn hb); clear hn hb hs)
          | (refine bstore rfl 25 (.tmp 15) (.tmp 87) rfl wc.heap.size rfl (L := OpL o) rfl Hd.out.1 rfl (by kernel_rfl) (OpL_one _) ?_; intro we hn hc; have He := Lib.hid (And.intro hn (chgOne Hd.out.2 hc (Nat.le_refl _))); clear hn hc))
        try simp only [Act.put, uA, uB, uC]
        obtain ⟨ob, hob⟩ : ∃ ob, ob = wc.heap.size := ⟨_, rfl⟩
        have HSe := Lib.hid (And.intro (HSc.out.add (G' := fun j => j = ob) He.out.2 (fun j hj => .inr ⟨by omega, by have := lt_of_block He.out.1; omega⟩)) (show we.heap[ob]? = some (.cells (OpL o).toArray 25 (0, 0)) from by rw [hob]; exact He.out.1))
        have Hev4 := Lib.hid (And.intro Hev3.out.1 (Hev3.out.2.keep (W' := we) fun j hj => He.out.2.block j (HSc.out.flt (.inr (.inr (.inr (.inl hj)))))))
        rw [← hob]
        clear He Hd HSc Hev3 hob
        have HAp := Lib.hid (HA.out k o HO.out.1 we eb vm sm tm am E1 own1 HSe.out.1.eco Hev4.out.1)
        go_wp2_with (refine bload rfl 25 (.tmp 15) rfl ob rfl (L := OpL o) HSe.out.2 Tryz.underlying25 rfl (by kernel_rfl) ?_)
        refine HAp.out.mono ?_
        rintro e wf ⟨vr, E2, own2, rfl, hq2, hE2, hoo, hc⟩
        have HSf := Lib.hid (And.intro (HSe.out.1.turn hE2 hc hoo) (And.intro ((hc.block _ (lt_of_block HSe.out.2) fun hh => hh (HSe.out.1.gz _ rfl).2.1).trans HSe.out.2) hq2))
        have Hev5 := Lib.hid (Hev4.out.2.keep (W' := wf) fun j hj => hc.block j (HSe.out.1.flt (.inr (.inr (.inr (.inl hj))))) fun hh => hh (HSe.out.1.ne j hj).2)
        clear hq2 hE2 hoo hc HAp HSe Hev4
        have c4 := cell_of HSf.out.1.zon (i := 4) (v := .int .i64 h.state) rfl
        by_cases h3 : h.state = 3
        · rw [h3] at c4
          go_wp2_with fail
          go_round
          case rel => exact ⟨k + 1, E2, own2, ev, by omega, by go_num, HSf.out.1.drop, HSf.out.2.2, by have := Hev5.out; unfold EvR at *; rw [if_pos h3] at *; exact this⟩
          case measure => simp [intOf]; omega
        · have h3b : (h.state == 3) = false := by simpa using h3
          go_upto_region 22 with (fail)
          try simp only [Act.put, uA, uB, uC]
          have hown : OwnR wf 120 14 ev k (evL h.id M.base (os.take k)) := by
            have h := Hev5.out
            unfold EvR at h
            rw [if_neg h3, List.length_take, Nat.min_eq_left hk] at h
            exact h
          obtain ⟨pe, ce, rfl⟩ := OwnR.shape hown
          have cz7 := cell_of HSf.out.1.zon (i := 7) (v := .slice pe k ce) rfl
          clear c4
          refine g_start [13] (fun w' : World => w'.heap[ob]? = some (.cells (OpL o).toArray 25 (0, 0)) ∧ w'.cell? ⟨z, 7, none⟩ = some (.slice pe k ce)) (n := 14) (by kernel_rfl) rfl ⟨HSf.out.2.1, cz7⟩ (fun hHeld => ?_)
          clear cz7
          have HSg := Lib.hid (show DoS w w1 z d eb l vm sm tm am h pre D' M E2 own2 (.slice pe k ce) F (fun j => j = ob) wf.drew from HSf.out.1.next ⟨rfl, rfl, rfl, Nat.le_refl _, fun _ _ => rfl⟩)
          have Hown := Lib.hid (And.intro (show OwnR wf.drew 120 14 (.slice pe k ce) k (evL h.id M.base (os.take k)) from OwnR.keep hown fun _ _ => rfl) HSf.out.2.2)
          clear hown HSf Hev5
          generalize wf.drew = W0 at *
          refine Gl [0, 1, 2, 3, 5, 6] ?_
          iterate 6 (refine Gp rfl ?_; simp only [Act.put, uA, uB, uC])
          refine Gn ?_
          refine Gl [4, 7] ?_
          iterate 2 (refine Gd rfl (by intro w' hSw; first | exact yload 25 (.tmp 15) rfl rfl hSw.1 Tryz.underlying25 rfl (by kernel_rfl) | (have c7 := hSw.2; go_simp; try with_reducible rfl)) ?_; simp only [Act.put, uA, uB, uC])
          refine Gn ?_
          refine Gl [8] ?_
          refine Gd (v := .agg #[.int .i64 h.id, .int .i64 ((M.base : Int) + 1 + (k : Int)), .int .i64 o.kind, .int .i64 o.client, .int .i64 o.seq, .string o.atK, .string o.atW, .string o.toK, .string o.toW, .int .i64 o.item, .int .i64 o.count, .int .i64 o.price, .bool o.buy, .int .i64 o.id]) rfl (by intro w' hSw; kernel_rfl) ?_
          simp only [Act.put, uA, uB, uC]
          refine Gn ?_
          refine g_one 9 rfl (by kernel_rfl) (by rfl) (fun K hK => ?_)
          go_wp2_with fail
          have hba := below_one W0 (.cells #[.int .i64 h.id, .int .i64 ((M.base : Int) + 1 + (k : Int)), .int .i64 o.kind, .int .i64 o.client, .int .i64 o.seq, .string o.atK, .string o.atW, .string o.toK, .string o.toW, .int .i64 o.item, .int .i64 o.count, .int .i64 o.price, .bool o.buy, .int .i64 o.id] 120)
          refine hK.out _ _ ⟨(hba.block _ (lt_of_block hHeld.1)).trans hHeld.1, al_cell hHeld.2 _⟩ (fun hHeld => ?_)
          clear hK
          have HX := Lib.hid (And.intro hba (new_block W0 (.cells #[.int .i64 h.id, .int .i64 ((M.base : Int) + 1 + (k : Int)), .int .i64 o.kind, .int .i64 o.client, .int .i64 o.seq, .string o.atK, .string o.atW, .string o.toK, .string o.toW, .int .i64 o.item, .int .i64 o.count, .int .i64 o.price, .bool o.buy, .int .i64 o.id] 120)))
          clear hba
          generalize W0.alloc (.cells #[.int .i64 h.id, .int .i64 ((M.base : Int) + 1 + (k : Int)), .int .i64 o.kind, .int .i64 o.client, .int .i64 o.seq, .string o.atK, .string o.atW, .string o.toK, .string o.toW, .int .i64 o.item, .int .i64 o.count, .int .i64 o.price, .bool o.buy, .int .i64 o.id] 120) = w17 at *
          try simp only [Act.put, uA, uB, uC]
          refine g_one 10 rfl (by kernel_rfl) (by rfl) (fun K hK => ?_)
          have hxx : Holds w17 14 (.slice (some ⟨W0.heap.size, 0, none⟩) 1 1) 1 [.int .i64 h.id, .int .i64 ((M.base : Int) + 1 + (k : Int)), .int .i64 o.kind, .int .i64 o.client, .int .i64 o.seq, .string o.atK, .string o.atW, .string o.toK, .string o.toW, .int .i64 o.item, .int .i64 o.count, .int .i64 o.price, .bool o.buy, .int .i64 o.id] := ⟨rfl, some ⟨W0.heap.size, 0, none⟩, 1, rfl, fun e => (by cases e), fun a ha i u hu => by
            cases ha
            rw [add_zero]
            refine cell_of HX.out.2 ?_
            simpa using hu⟩
          have hown7 : OwnR w17 120 14 (.slice pe k ce) k (evL h.id M.base (os.take k)) := OwnR.keep Hown.out.1 fun j hj => HX.out.1.block j (OwnR.lt Hown.out.1 hj)
          refine wp_appP (.tmp 104) (.tmp 109) 54 rfl 120 i5 (.agg #[.int .i64 0, .int .i64 0, .int .i64 0, .int .i64 0, .int .i64 0, .string ⟨#[]⟩, .string ⟨#[]⟩, .string ⟨#[]⟩, .string ⟨#[]⟩, .int .i64 0, .int .i64 0, .int .i64 0, .bool false, .int .i64 0]) 14 144 Tryz.underlying54 HI5.out.1 HI5.out.2.1 HI5.out.2.2.1 HI5.out.2.2.2 rfl (by decide) (.slice pe k ce) k _ rfl hown7 (.slice (some ⟨W0.heap.size, 0, none⟩) 1 1) 1 _ rfl hxx (by intro v hv; simp only [List.mem_cons, List.not_mem_nil, or_false] at hv; rcases hv with rfl | rfl | rfl | rfl | rfl | rfl | rfl | rfl | rfl | rfl | rfl | rfl | rfl | rfl <;> rfl) (by unfold maxLen; omega) (by omega) ?_
          intro v3 w3 hown3 hgrow3 hloc3
          have hezn : (Value.slice pe k ce).ownBlock ≠ some z := fun e => (HSg.out.ne z e).1 rfl
          have heob : (Value.slice pe k ce).ownBlock ≠ some ob := fun e => (HSg.out.gz ob rfl).2.2 e
          have hz3 : w3.heap[z]? = some (ZoneO h eb l (.slice pe k ce) false) := grown_block hgrow3 ((HX.out.1.block z (lt_of_block HSg.out.zon)).trans HSg.out.zon) hezn
          have hob3 := grown_block hgrow3 hHeld.1 heob
          obtain ⟨p3, q3, rfl⟩ := OwnR.shape hown3
          have hc7 := cell_of hz3 (i := 7) (v := .slice pe k ce) rfl
          have hf7 := frozen_of hz3 7
          have hcc : Chg (fun j => j = z ∨ (Value.slice pe k ce).ownBlock = some j) W0 (w3.setCell ⟨z, 7, none⟩ (.slice p3 (k + 1) q3)) := (((Chg.of_below HX.out.1).mono (fun _ _ e => e.elim)).trans (Chg.of_grown hgrow3) (fun i _ e => .inr e.symm)).trans (Chg.setCell w3 ⟨z, 7, none⟩ _) (fun i _ e => .inl e)
          have hnz3 : ∀ j, (Value.slice p3 (k + 1) q3).ownBlock = some j → (Value.slice pe k ce).ownBlock = some j ∨ W0.heap.size ≤ j ∧ j < (w3.setCell ⟨z, 7, none⟩ (.slice p3 (k + 1) q3)).heap.size := fun j hj => by
            rcases hloc3 with e | ⟨g, e, hg⟩
            · exact .inl (by rw [← e]; exact hj)
            · refine .inr ⟨?_, ?_⟩
              · rw [e] at hj
                cases hj
                exact Nat.le_trans HX.out.1.size hg
              · exact Nat.lt_of_lt_of_le (OwnR.lt hown3 hj) (Chg.setCell w3 ⟨z, 7, none⟩ (.slice p3 (k + 1) q3)).size
          have HSh := Lib.hid (HSg.out.grow hcc (set_block hz3 7 (.slice p3 (k + 1) q3)) hnz3)
          have Hev6 := Lib.hid (show EvR (w3.setCell ⟨z, 7, none⟩ (.slice p3 (k + 1) q3)) h M.base (os.take (k + 1)) (.slice p3 (k + 1) q3) from by
            unfold EvR
            rw [if_neg h3, HO.out.2.2, evL_snoc, List.length_append, List.length_take, Nat.min_eq_left hk, show ((M.base + 1 + k : Nat) : Int) = (M.base : Int) + 1 + (k : Int) by omega]
            exact OwnR.keep hown3 fun j hj => set_other _ fun e => by
              have e2 : j = z := e
              subst e2
              rcases hnz3 j hj with h1 | h1
              · exact hezn h1
              · have := lt_of_block HSg.out.zon
                omega)
          clear hxx hown7 hown3 hgrow3 hloc3 hezn heob hz3 HX hHeld hcc hnz3 HSg
          refine hK.out _ _ ⟨hob3, hc7⟩ (fun hHeld => ?_)
          clear hK
          try simp only [Act.put, uA, uB, uC]
          refine Gl [11, 12] ?_
          iterate 2 (refine Gp rfl ?_; simp only [Act.put, uA, uB, uC])
          refine Gn ?_
          clear hHeld
          refine g_end 13 rfl (by kernel_rfl) (by rfl) (by kernel_rfl) (fun K hK => ?_)
          go_wp2_with fail
          refine hK.out _ _ ?_
          clear hK
          try simp only [Act.put, uA, uB, uC]
          refine g_done (by kernel_rfl) ?_ _
          clear hc7 hf7 hob3
          generalize w3.setCell ⟨z, 7, none⟩ (.slice p3 (k + 1) q3) = w18 at *
          go_wp2_with fail
          go_round
          case rel => exact ⟨k + 1, E2, own2, _, by omega, by go_num, HSh.out.drop, Hown.out.2, Hev6.out⟩
          case measure => simp [intOf]; omega
      · obtain rfl : k = os.length := by omega
        have hdec : decide ((M.base : Int) + 1 + (os.length : Int) ≤ ((M.base + os.length : Nat) : Int)) = false := by simp; omega
        go_wp2_with fail
        refine HL.out.mono ?_
        rintro e wa ⟨rfl, q, rfl⟩
        have HSa := Lib.hid (And.intro (show DoS w w1 z d eb l vm sm tm am h pre D' M E1 own1 ev F NoF (wr.drewN q) from HS.out.1.next ⟨rfl, rfl, rfl, Nat.le_refl _, fun _ _ => rfl⟩) (And.intro HS.out.2.1 (HS.out.2.2.keep (W' := wr.drewN q) fun _ _ => rfl)))
        clear HL HS
        generalize wr.drewN q = wa at *
        go_wp2_with fail
        go_ret2
        exact ⟨z, E1, ev, rfl, HSa.out.1.zoneF, HSa.out.2.1, by have := HSa.out.2.2; rwa [List.take_length] at this, HSa.out.1.same⟩
end Go.Proofs.YtogdfkilhpkloaaGreatDoor

namespace Go.Proofs.YtogdfkilhpkloaaGreatDoor
open Go.RowKit Go.Sat Go.Maps

/-- The word's cells. -/
def W7L (p : Option Addr) (c : Nat) : List Value := [.int .i64 7, .int .i64 3, .int .i64 2, .int .i64 1, .int .i64 4, .int .i64 0, .int .i64 0, .int .i64 0, .string ⟨#[]⟩, .string ⟨#[]⟩, .int .i64 0, .int .i64 0, .int .i64 0, .string ⟨#[]⟩, .string ⟨#[]⟩, .string ⟨#[]⟩, .string ⟨#[]⟩, .int .i64 0, .int .i64 0, .int .i64 0, .bool false, .int .i64 0, .int .i64 0, .int .i64 0, .int .i64 0, .int .i64 0, .int .i64 0, .int .i64 0, .int .i64 0, .int .i64 0, .slice none 0 0, .int .i64 0, .int .i64 0, .int .i64 0, .int .i64 0, .string ⟨#[]⟩, .slice p 4 c]
end Go.Proofs.YtogdfkilhpkloaaGreatDoor

namespace Go.Proofs.YtogdfkilhpkloaaGreatDoor
open Go.RowKit Go.Sat Go.Maps

def W0L : List Value := [.int .i64 0, .int .i64 0, .int .i64 0, .int .i64 0, .int .i64 0, .int .i64 0, .int .i64 0, .int .i64 0, .string ⟨#[]⟩, .string ⟨#[]⟩, .int .i64 0, .int .i64 0, .int .i64 0, .string ⟨#[]⟩, .string ⟨#[]⟩, .string ⟨#[]⟩, .string ⟨#[]⟩, .int .i64 0, .int .i64 0, .int .i64 0, .bool false, .int .i64 0, .int .i64 0, .int .i64 0, .int .i64 0, .int .i64 0, .int .i64 0, .int .i64 0, .int .i64 0, .int .i64 0, .slice none 0 0, .int .i64 0, .int .i64 0, .int .i64 0, .int .i64 0, .string ⟨#[]⟩, .slice none 0 0]
theorem chg_one {w w1 w2 : World} {b : Nat} (h : Below w.heap.size w w1) (hc : Chg (fun k => k = b) w1 w2) (hb : w.heap.size ≤ b) : Below w.heap.size w w2 :=
  (((Chg.of_below h).mono fun _ _ e => e.elim : Chg (fun k => k = b) w w1).trans hc fun _ _ e => e).below (Nat.le_refl _) fun k hk e => by omega
end Go.Proofs.YtogdfkilhpkloaaGreatDoor
