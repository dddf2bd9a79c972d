/- target: copies of the word that the law's known tells. Printed by mktf.py. target: Hear; a zone's Head and Last. Printed by mktg.py. The document's Encode of an economy of nothing; the law's none. Printed by mknoa.py. The law's none; what its known lays on the disk. What the law's known lays on its disk, behind a crash (plain). vault.Has; econ.At; a zone's Econ. satrapylaw15.known: a mint that lasts. satrapylaw15.heavyOps of one request. The law satrapylaw15.ZoneOfNothing: the walk. Arguments that are requests or heads. The law satrapylaw15.ZoneOld: the walk. Printed by mkzold.py. -/
import Derived.Test.YtogdfkilhpkloaaGreatDoorBA
import Derived.Test.YtogdfkilhpkloaaGreatDoorBH
import Derived.Test.YtogdfkilhpkloaaGreatDoorBM
import Derived.Test.YtogdfkilhpkloaaGreatDoorBN
namespace Go.Proofs.YtogdfkilhpkloaaGreatDoor
open Go.RowKit Go.Sat Go.Maps

def H3 : HeadM := ⟨3, ⟨#[]⟩, ⟨#[]⟩, 2, 3⟩
/-- Something else has turned: blocks of F that are new since w; what is new may be in F' too. -/
theorem ZoneF.move {w w1 w2 : World} {z d : Nat} {h : HeadM} {pre : ByteArray} {D : DiskM} {M : LedM} {E : EcoR} {ev : Value} {dead : Bool} {F F' S : Nat → Prop} (hZ : ZoneF w w1 z d h pre D M E ev dead F) (hc : Chg S w1 w2) (hS : ∀ k, k < w1.heap.size → S k → F k ∧ w.heap.size ≤ k) (hF : ∀ k, F' k → (F k ∨ w1.heap.size ≤ k) ∧ k < w2.heap.size) : ZoneF w w2 z d h pre D M E ev dead F' := by
  obtain ⟨eb, l, vm, sm, tm, am, own, hL, hz, hE, h1, h2, h3, h4, h5, h6⟩ := hZ
  have hzl := lt_of_block hz
  have hS' : ∀ k, k < w1.heap.size → S k → F k := fun k hk hs => (hS k hk hs).1
  have hel : ∀ k, ev.ownBlock = some k → k < w1.heap.size := fun k hk => hL.flt (.inr (.inr (.inr hk)))
  refine ⟨eb, l, vm, sm, tm, am, own, hL.move hc (fun k hk hs => ⟨.inl (hS' k hk hs), (hS k hk hs).2⟩) (fun k hk => ?_), (hc.block z hzl fun hs => (h1 z (hS' z hzl hs)).1 rfl).trans hz, hE.keep (fun k hk => hc.block k (hE.oLt k hk) fun hs => hk (h1 k (hS' k (hE.oLt k hk) hs)).2.1) hc.size, fun k hk => ?_, h2, h3, h4, h5, h6⟩
  · rcases hk with hk | rfl | hk | hk
    · exact ⟨(hF k hk).1.imp .inl id, (hF k hk).2⟩
    · exact ⟨.inl (.inr (.inl rfl)), Nat.lt_of_lt_of_le hzl hc.size⟩
    · exact ⟨.inl (.inr (.inr (.inl hk))), Nat.lt_of_lt_of_le (hE.oLt k hk) hc.size⟩
    · exact ⟨.inl (.inr (.inr (.inr hk))), Nat.lt_of_lt_of_le (hel k hk) hc.size⟩
  · rcases (hF k hk).1 with hk | hk
    · exact h1 k hk
    · refine ⟨by omega, Classical.byContradiction fun hh => ?_, fun e => ?_⟩
      · have := hE.oLt k hh
        omega
      · have := hel k e
        omega
/-- What stays while a piece is taken. -/
structure CopS (w1 : World) (tb b2 : Nat) (p : Option Addr) (c : Nat) (T : Obj) (W : World) : Prop where
  k : W.heap[w1.heap.size]? = some (.cells (W7L p c).toArray 70 (0, 0))
  z : W.heap[b2]? = some (.cells W0L.toArray 70 (0, 0))
  t : W.heap[tb]? = some T
  chg : Chg (fun k => k = tb) w1 W
  lt1 : tb < w1.heap.size
  lt2 : w1.heap.size < b2
theorem CopS.chg' {w1 : World} {tb b2 : Nat} {p : Option Addr} {c : Nat} {T T' : Obj} {W W' : World} {S : Nat → Prop} (h : CopS w1 tb b2 p c T W) (hc : Chg S W W') (h1 : ¬ S w1.heap.size) (h2 : ¬ S b2) (ht : W'.heap[tb]? = some T') (h3 : ∀ k, k < w1.heap.size → S k → k = tb) : CopS w1 tb b2 p c T' W' :=
  ⟨(hc.block _ (lt_of_block h.k) h1).trans h.k, (hc.block _ (lt_of_block h.z) h2).trans h.z, ht, h.chg.trans hc h3, h.lt1, h.lt2⟩
theorem CopS.next {w1 : World} {tb b2 : Nat} {p : Option Addr} {c : Nat} {T : Obj} {W W' : World} (h : CopS w1 tb b2 p c T W) (hb : Below W.heap.size W W') : CopS w1 tb b2 p c T W' :=
  h.chg' (Chg.of_below hb) (fun e => e.elim) (fun e => e.elim) ((hb.block tb (lt_of_block h.t)).trans h.t) fun _ _ e => e.elim
theorem CopS.set {w1 : World} {tb b2 : Nat} {p : Option Addr} {c : Nat} {T T' : Obj} {W W' : World} (h : CopS w1 tb b2 p c T W) (hc : Chg (fun k => k = tb) W W') (ht : W'.heap[tb]? = some T') : CopS w1 tb b2 p c T' W' := by
  have h1 := h.lt1
  have h2 := h.lt2
  exact h.chg' hc (by omega) (by omega) ht fun _ _ e => e
theorem CopS.own {w1 : World} {tb b2 pb : Nat} {p : Option Addr} {c : Nat} {T : Obj} {W W' : World} (h : CopS w1 tb b2 p c T W) (hc : Chg (fun k => k = pb) W W') (hp : w1.heap.size < pb) (hp2 : b2 < pb) : CopS w1 tb b2 p c T W' := by
  have h1 := h.lt1
  exact h.chg' hc (by omega) (by omega) ((hc.block tb (lt_of_block h.t) (by omega)).trans h.t) fun k hk e => by omega
end Go.Proofs.YtogdfkilhpkloaaGreatDoor

namespace Go.Proofs.YtogdfkilhpkloaaGreatDoor
open Go.RowKit Go.Sat Go.Maps

set_option maxRecDepth 100000 in
set_option maxHeartbeats 4000000 in
theorem zhead_calls {w : World} {z eb l : Nat} {h : HeadM} {ev : Value} {dead : Bool} (hz : w.heap[z]? = some (ZoneO h eb l ev dead)) : Calls Tryz.prog 27 #[.pointer (some ⟨z, 0, none⟩)] w fun e w' => e = .returned (.agg #[.int .i64 h.id, .string h.fr, .string h.tu, .int .i64 h.epoch, .int .i64 h.state]) ∧ Below w.heap.size w w' := by
  obtain ⟨id, fr, tu, ep, st⟩ := h
  have hN := new_block w (.cells #[.int .i64 0, .string ⟨#[]⟩, .string ⟨#[]⟩, .int .i64 0, .int .i64 0] 35)
  have hB := box_below w (.cells #[.int .i64 0, .string ⟨#[]⟩, .string ⟨#[]⟩, .int .i64 0, .int .i64 0] 35)
  have hz' := (hB.block z (lt_of_block hz)).trans hz
  have HB := Lib.hid hB
  have c0 := cell_of hz' (i := 0) (v := .int .i64 id) rfl
  have c1 := cell_of hz' (i := 1) (v := .string fr) rfl
  have c2 := cell_of hz' (i := 2) (v := .string tu) rfl
  have c3 := cell_of hz' (i := 3) (v := .int .i64 ep) rfl
  have c4 := cell_of hz' (i := 4) (v := .int .i64 st) rfl
  clear hz hB hz'
  dsimp only
  go_enter Tryz.func27, Tryz.ntmps27
  go_wp2_with (refine bstoreAt rfl 35 (.tmp 2) (.tmp 9) rfl w.heap.size 0 rfl rfl [.int .i64 id, .string fr, .string tu, .int .i64 ep, .int .i64 st] rfl hN (by simp) (by kernel_rfl) (by intro v hv; simp only [List.mem_cons, List.not_mem_nil, or_false] at hv; rcases hv with rfl | rfl | rfl | rfl | rfl <;> rfl) ?_; intro w2 h2 hc2; have H2 := Lib.hid (And.intro h2 hc2); clear h2 hc2)
  refine bodyPost_ret (results_cell_row rfl _ _ w.heap.size _ _ (0, 0) _ rfl H2.out.1 Tryz.underlying35 rfl (by kernel_rfl)) rfl ?_
  exact ⟨rfl, chg_one HB.out H2.out.2 (Nat.le_refl _)⟩
section
variable {w w1 : World} {z d : Nat} {h : HeadM} {pre : ByteArray} {D : DiskM} {M : LedM} {E : EcoR} {ev : Value} {dead : Bool} {F : Nat → Prop}
set_option maxHeartbeats 1000000 in
theorem zlast_calls (hZ : ZoneF w w1 z d h pre D M E ev dead F) {m : Nat} (hm : M.last = m) : Calls Tryz.prog 16 #[.pointer (some ⟨z, 0, none⟩)] w1 fun e w' => e = .returned (.int .i64 (m : Int)) ∧ ∃ q, w' = w1.drewN q := by
  obtain ⟨eb, l, vm, sm, tm, am, own, hL, hz, -⟩ := hZ
  have HL := Lib.hid (last_calls hL)
  rw [hm] at HL
  have c6 := cell_of hz (i := 6) (v := .pointer (some ⟨l, 0, none⟩)) rfl
  clear hL hz hm
  go_enter Tryz.func16, Tryz.ntmps16
  go_wp2_with fail
  refine HL.out.mono ?_
  rintro e w2 ⟨rfl, q, rfl⟩
  go_wp2_with fail
  go_ret
  exact ⟨rfl, q, rfl⟩
theorem ZoneF.next (hZ : ZoneF w w1 z d h pre D M E ev dead F) {w2 : World} (hb : Below w1.heap.size w1 w2) : ZoneF w w2 z d h pre D M E ev dead F :=
  hZ.move (Chg.of_below hb) (fun _ _ e => e.elim) fun k hk => ⟨.inl hk, by obtain ⟨_, _, _, _, _, _, _, hL, _⟩ := hZ; exact Nat.lt_of_lt_of_le (hL.flt (.inl hk)) hb.size⟩
theorem ZoneF.bel (hZ : ZoneF w w1 z d h pre D M E ev dead F) : Below w.heap.size w w1 := by
  obtain ⟨_, _, _, _, _, _, _, hL, _⟩ := hZ
  exact hL.bel
end
end Go.Proofs.YtogdfkilhpkloaaGreatDoor

namespace Go.Proofs.YtogdfkilhpkloaaGreatDoor
open Go.RowKit Go.Sat Go.Maps

set_option maxHeartbeats 2000000 in
theorem rnum0_calls (w : World) : Calls Tryz.prog 104 #[.int .i64 0] w (NewR w [0]) := by
  obtain ⟨i0, hi, hz0, hz1, hz2⟩ := info_parts (show (Tryz.prog.info? 5).map (fun i => (i.zero, i.size, i.bytes)) = some (some (.int .u8 0), 1, 1) by kernel_rfl)
  go_enter Tryz.func104, Tryz.ntmps104
  go_wp2_with fail
  go_loopw [3, 4] (fun n v wr => n = .int .u64 0 ∧ v = .slice none 0 0 ∧ wr = w) (fun _ _ _ => 0)
  case atStart => exact ⟨rfl, rfl, rfl⟩
  case round =>
    obtain ⟨rfl, rfl, rfl⟩ := hrel
    have hxx := lit_one wr 0
    go_wp2_with (at_builtin; refine wpList_app _ rfl (.tmp 22) (.tmp 25) 39 rfl 5 i0 (.int .u8 0) 1 1 Tryz.underlying39 hi hz0 hz1 hz2 rfl (by decide) (.slice none 0 0) 0 [] rfl (OwnR.nil _ _ _) (.slice (some ⟨wr.heap.size, 0, none⟩) 1 1) 1 _ rfl hxx (bytesV_one _) (by decide) (by decide) ?_; clear hxx; intro v3 w3 hown3 hgrow3 hloc3; have HX := Lib.hid (And.intro hown3 (And.intro hgrow3 hloc3)); clear hown3 hgrow3 hloc3)
    go_ret
    obtain ⟨hown, hgrow, hloc⟩ := HX.out
    refine ⟨v3, rfl, hown, fun j hj => ?_, (box_below wr _).trans ((Chg.of_grown hgrow).below (Below.size (box_below wr _)) fun k hk e => by cases e)⟩
    rcases hloc with e | ⟨g, e, hg⟩
    · rw [e] at hj
      cases hj
    · rw [e] at hj
      cases hj
      exact Nat.le_trans (Below.size (box_below wr _)) hg
theorem app_new {w W2 w3 : World} {v v3 : Value} (hb : Below w.heap.size w W2) (hn : ∀ j, v.ownBlock = some j → w.heap.size ≤ j) (hg : W2.grownBy w3 v.ownBlock) (hloc : v3.ownBlock = v.ownBlock ∨ ∃ g, v3.ownBlock = some g ∧ W2.heap.size ≤ g) : Below w.heap.size w w3 ∧ ∀ j, v3.ownBlock = some j → w.heap.size ≤ j := by
  refine ⟨hb.trans ((Chg.of_grown hg).below hb.size fun k hk e => ?_), fun j hj => ?_⟩
  · have := hn k e.symm
    omega
  · rcases hloc with e | ⟨g, e, hg⟩
    · exact hn j (by rw [← e]; exact hj)
    · rw [e] at hj
      cases hj
      exact Nat.le_trans hb.size hg
def REconO : Obj := .cells #[.slice none 0 0, .slice none 0 0, .slice none 0 0, .slice none 0 0] 108 (0, 0)
set_option maxRecDepth 100000 in
set_option maxHeartbeats 8000000 in
theorem renc0_calls {w : World} {b : Nat} (h : w.heap[b]? = some REconO) : Calls Tryz.prog 47 #[.pointer (some ⟨b, 0, none⟩)] w (NewR w [0, 0, 0, 0]) := by
  obtain ⟨i0, hi, hz0, hz1, hz2⟩ := info_parts (show (Tryz.prog.info? 5).map (fun i => (i.zero, i.size, i.bytes)) = some (some (.int .u8 0), 1, 1) by kernel_rfl)
  have H := Lib.hid h
  clear h
  have c0 := cell_of H.out (i := 0) (v := .slice none 0 0) rfl
  go_enter Tryz.func47, Tryz.ntmps47
  go_wp2_with fail
  refine (rnum0_calls _).mono ?_
  rintro e w1 ⟨v, rfl, hv, hvn, hb⟩
  obtain ⟨p1, k1, rfl, -⟩ := own_cap0 hv
  have H1 := Lib.hid (And.intro hv (And.intro hvn hb))
  clear hv hvn hb c0
  have c0 := cell_of ((H1.out.2.2.block _ (lt_of_block H.out)).trans H.out) (i := 0) (v := .slice none 0 0) rfl
  have c1 := cell_of ((H1.out.2.2.block _ (lt_of_block H.out)).trans H.out) (i := 1) (v := .slice none 0 0) rfl
  go_wp2_with fail
  go_loopw [3, 4] (fun v i wr => v = .slice p1 1 k1 ∧ i = .int .i64 0 ∧ wr = w1) (fun _ _ _ => 0)
  case atStart => exact ⟨rfl, rfl, rfl⟩
  case round =>
    obtain ⟨rfl, rfl, hwr⟩ := hrel
    obtain rfl : w1 = wr := hwr.symm
    go_wp2_with fail
    refine (rnum0_calls _).mono ?_
    rintro e u1 ⟨v, rfl, hv, hvn, hb⟩
    obtain ⟨q1, l1, rfl, -⟩ := own_cap0 hv
    have hown := ownB_far H1.out.1 hb
    have hbb := H1.out.2.2.trans (hb.mono H1.out.2.2.size)
    have hhas := hv.has
    clear hv hvn hb c1 c0
    go_wp2_with (at_builtin; refine wpList_app _ rfl (.tmp 52) (.tmp 58) 39 rfl 5 i0 (.int .u8 0) 1 1 Tryz.underlying39 hi hz0 hz1 hz2 rfl (by decide) (.slice p1 1 k1) 1 _ rfl hown (.slice q1 1 l1) 1 _ rfl hhas (bytesV_one _) (by decide) (by decide) ?_; intro v3 w3 hown3 hgrow3 hloc3; have HX := Lib.hid (And.intro (app_new hbb H1.out.2.1 hgrow3 hloc3) hown3); obtain ⟨p2, k2, rfl⟩ := OwnR.shape hown3; have H2 := Lib.hid (show OwnB w3 5 (.slice p2 2 k2) [0, 0] ∧ (∀ j, (Value.slice p2 2 k2).ownBlock = some j → w.heap.size ≤ j) ∧ Below w.heap.size w w3 from ⟨HX.out.2, HX.out.1.2, HX.out.1.1⟩); clear hown3 hgrow3 hloc3 hown hhas hbb HX)
    obtain ⟨w2, hw2⟩ : ∃ x, x = w3 := ⟨w3, rfl⟩
    rw [← hw2] at H2 ⊢
    clear hw2
    have c1 := cell_of ((H2.out.2.2.block _ (lt_of_block H.out)).trans H.out) (i := 1) (v := .slice none 0 0) rfl
    have c2 := cell_of ((H2.out.2.2.block _ (lt_of_block H.out)).trans H.out) (i := 2) (v := .slice none 0 0) rfl
    go_wp2_with fail
    go_loopw [3, 5] (fun v i wr => v = .slice p2 2 k2 ∧ i = .int .i64 0 ∧ wr = w2) (fun _ _ _ => 0)
    case atStart => exact ⟨rfl, rfl, rfl⟩
    case round =>
      obtain ⟨rfl, rfl, hwr⟩ := hrel
      obtain rfl : w2 = wr := hwr.symm
      go_wp2_with fail
      refine (rnum0_calls _).mono ?_
      rintro e u2 ⟨v, rfl, hv, hvn, hb⟩
      obtain ⟨q2, l2, rfl, -⟩ := own_cap0 hv
      have hown := ownB_far H2.out.1 hb
      have hbb := H2.out.2.2.trans (hb.mono H2.out.2.2.size)
      have hhas := hv.has
      clear hv hvn hb c2 c1
      go_wp2_with (at_builtin; refine wpList_app _ rfl (.tmp 105) (.tmp 111) 39 rfl 5 i0 (.int .u8 0) 1 1 Tryz.underlying39 hi hz0 hz1 hz2 rfl (by decide) (.slice p2 2 k2) 2 _ rfl hown (.slice q2 1 l2) 1 _ rfl hhas (bytesV_one _) (by decide) (by decide) ?_; intro v3 w3 hown3 hgrow3 hloc3; have HX := Lib.hid (And.intro (app_new hbb H2.out.2.1 hgrow3 hloc3) hown3); obtain ⟨p3, k3, rfl⟩ := OwnR.shape hown3; have H3 := Lib.hid (show OwnB w3 5 (.slice p3 3 k3) [0, 0, 0] ∧ (∀ j, (Value.slice p3 3 k3).ownBlock = some j → w.heap.size ≤ j) ∧ Below w.heap.size w w3 from ⟨HX.out.2, HX.out.1.2, HX.out.1.1⟩); clear hown3 hgrow3 hloc3 hown hhas hbb HX)
      obtain ⟨w3, hw3⟩ : ∃ x, x = w3 := ⟨w3, rfl⟩
      rw [← hw3] at H3 ⊢
      clear hw3
      have c2 := cell_of ((H3.out.2.2.block _ (lt_of_block H.out)).trans H.out) (i := 2) (v := .slice none 0 0) rfl
      have c3 := cell_of ((H3.out.2.2.block _ (lt_of_block H.out)).trans H.out) (i := 3) (v := .slice none 0 0) rfl
      go_wp2_with fail
      go_loopw [3, 8] (fun v i wr => v = .slice p3 3 k3 ∧ i = .int .i64 0 ∧ wr = w3) (fun _ _ _ => 0)
      case atStart => exact ⟨rfl, rfl, rfl⟩
      case round =>
        obtain ⟨rfl, rfl, hwr⟩ := hrel
        obtain rfl : w3 = wr := hwr.symm
        go_wp2_with fail
        refine (rnum0_calls _).mono ?_
        rintro e u3 ⟨v, rfl, hv, hvn, hb⟩
        obtain ⟨q3, l3, rfl, -⟩ := own_cap0 hv
        have hown := ownB_far H3.out.1 hb
        have hbb := H3.out.2.2.trans (hb.mono H3.out.2.2.size)
        have hhas := hv.has
        clear hv hvn hb c3 c2
        go_wp2_with (at_builtin; refine wpList_app _ rfl (.tmp 170) (.tmp 176) 39 rfl 5 i0 (.int .u8 0) 1 1 Tryz.underlying39 hi hz0 hz1 hz2 rfl (by decide) (.slice p3 3 k3) 3 _ rfl hown (.slice q3 1 l3) 1 _ rfl hhas (bytesV_one _) (by decide) (by decide) ?_; intro v3 w3 hown3 hgrow3 hloc3; have HX := Lib.hid (And.intro (app_new hbb H3.out.2.1 hgrow3 hloc3) hown3); obtain ⟨p4, k4, rfl⟩ := OwnR.shape hown3; have H4 := Lib.hid (show OwnB w3 5 (.slice p4 4 k4) [0, 0, 0, 0] ∧ (∀ j, (Value.slice p4 4 k4).ownBlock = some j → w.heap.size ≤ j) ∧ Below w.heap.size w w3 from ⟨HX.out.2, HX.out.1.2, HX.out.1.1⟩); clear hown3 hgrow3 hloc3 hown hhas hbb HX)
        obtain ⟨w4, hw4⟩ : ∃ x, x = w3 := ⟨w3, rfl⟩
        rw [← hw4] at H4 ⊢
        clear hw4
        have c3 := cell_of ((H4.out.2.2.block _ (lt_of_block H.out)).trans H.out) (i := 3) (v := .slice none 0 0) rfl
        go_wp2_with fail
        go_loopw [3, 12] (fun v i wr => v = .slice p4 4 k4 ∧ i = .int .i64 0 ∧ wr = w4) (fun _ _ _ => 0)
        case atStart => exact ⟨rfl, rfl, rfl⟩
        case round =>
          obtain ⟨rfl, rfl, hwr⟩ := hrel
          obtain rfl : w4 = wr := hwr.symm
          go_wp2_with fail
          go_ret
          exact ⟨_, rfl, H4.out.1, H4.out.2.1, H4.out.2.2⟩
end Go.Proofs.YtogdfkilhpkloaaGreatDoor

namespace Go.Proofs.YtogdfkilhpkloaaGreatDoor
open Go.RowKit Go.Sat Go.Maps

set_option maxHeartbeats 2000000 in
theorem none15_calls (w : World) : Calls Tryz.prog 13 #[] w (NewR w [0, 0, 0, 0]) := by
  have hN := new_block w REconO
  have HB := Lib.hid (box_below w REconO)
  have HE := Lib.hid (renc0_calls hN)
  unfold REconO at HE
  clear hN
  go_enter Tryz.func13, Tryz.ntmps13
  go_wp2_with fail
  refine HE.out.mono ?_
  rintro e w2 ⟨v, rfl, hv, hvn, hb⟩
  obtain ⟨p1, k1, rfl, -⟩ := own_cap0 hv
  have H1 := Lib.hid (And.intro hv (And.intro hvn hb))
  clear hv hvn hb
  go_wp2_with fail
  go_ret
  exact ⟨_, rfl, H1.out.1, fun j hj => Nat.le_trans (Below.size HB.out) (H1.out.2.1 j hj), HB.out.trans (H1.out.2.2.mono HB.out.size)⟩
/-- The head of the law's zone; the request. -/
def H1 : HeadM := ⟨1, ⟨#[]⟩, ⟨#[]⟩, 1, 1⟩
def O1 : OpM := ⟨1, 1, 1, ⟨#[97]⟩, ⟨#[120]⟩, ⟨#[]⟩, ⟨#[]⟩, 0, 5, 0, false, 0⟩
theorem tl0 : (⟨#[]⟩ : ByteArray).toList = [] := by
  unfold ByteArray.toList ByteArray.toList.loop
  rfl
theorem tlA : (⟨#[97]⟩ : ByteArray).toList = [97] := by
  unfold ByteArray.toList ByteArray.toList.loop ByteArray.toList.loop
  rfl
theorem isSpanN : isSpan ⟨#[]⟩ ⟨#[]⟩ = true := by
  unfold isSpan
  rw [tl0]
  rfl
theorem H1_is : H1.is = true := by
  show (decide (1 ≤ (1 : Int)) && decide ((1 : Int) ≤ 1048576) && isSpan ⟨#[]⟩ ⟨#[]⟩ && decide (1 ≤ (1 : Int)) && decide ((1 : Int) ≤ 1099511627776) && decide (1 ≤ (1 : Int)) && decide ((1 : Int) ≤ 3)) = true
  rw [isSpanN]
  rfl
theorem inSpan1 : inSpan H1.fr H1.tu O1.atK = true := by
  show inSpan ⟨#[]⟩ ⟨#[]⟩ ⟨#[97]⟩ = true
  unfold inSpan strLt
  rw [isSpanN, tl0, tlA]
  rfl
theorem O1_may : O1.may = true := by decide
theorem O1_wf : O1.wf := by
  refine ⟨⟨rfl, rfl, rfl⟩, ⟨?_, ?_, ?_, ?_⟩, rfl, rfl, rfl, rfl⟩ <;> (show _ ≤ maxLen; decide)
end Go.Proofs.YtogdfkilhpkloaaGreatDoor

namespace Go.Proofs.YtogdfkilhpkloaaGreatDoor
open Go.RowKit Go.Sat Go.Maps

theorem lies_crash {pre : Bs} {D : DiskM} {im : Option (Nat × Bs)} {es : List Bs} (h : Lies pre D im es) (k : Int) : Lies pre (D.crash k) im es := by
  have hw : ∀ b : Bs, DiskM.crashF k (whole b) = whole b := fun b => crash_whole b k
  refine ⟨?_, ?_, ?_⟩
  · rw [get_crash, h.log]
    split
    · rfl
    · show some (DiskM.crashF k _) = _
      rw [hw]
  · rw [get_crash, h.img]
    cases im with
    | none => rfl
    | some x => show some (DiskM.crashF k _) = some _; rw [hw]
  · rw [get_crash, h.sh]
    rfl
theorem zp1 : (nm (zpre 1)).length = 2 := by
  rw [nm_len]
  show (122 :: Lib.decDigits 1).toArray.size = 2
  rw [Lib.decDigits_one (by decide)]
  rfl
theorem zd1_len : (zdata H1 [0, 0, 0, 0]).length ≤ 1000 := by
  have h1 := numsI_len [H1.id]
  have h2 := numsI_len [H1.epoch, H1.state]
  have h3 := numB_nine (n := 0) (by decide)
  have h4 := numB_nine (n := 0 + 1 + 1 + 1 + 1) (by decide)
  unfold zdata rowB
  have e1 : H1.fr.data.toList = [] := rfl
  have e2 : H1.tu.data.toList = [] := rfl
  simp only [e1, e2, List.length_append, List.length_nil, List.length_cons] at *
  omega
theorem o1_len : O1.enc.length ≤ 1000 := by
  have h1 := numsI_len [O1.kind, O1.client, O1.seq]
  have h2 := numsI_len [O1.item, O1.count, O1.price, if O1.buy then 1 else 0, O1.id]
  have h3 := numB_nine (n := 0) (by decide)
  have h4 := numB_nine (n := 0 + 1) (by decide)
  unfold OpM.enc rowB
  have e1 : O1.atK.data.toList = [97] := rfl
  have e2 : O1.atW.data.toList = [120] := rfl
  have e3 : O1.toK.data.toList = [] := rfl
  have e4 : O1.toW.data.toList = [] := rfl
  simp only [e1, e2, e3, e4, List.length_append, List.length_nil, List.length_cons] at *
  omega
def I1 : Option (Nat × Bs) := some (0, zdata H1 [0, 0, 0, 0])
/-- What Make and Do lay; what an opening finds behind the crash. -/
theorem laid1 : ∃ D1, ledOpen (DiskM.fresh 262144) (nm (zpre 1)) = (DiskM.fresh 262144, 0, MM none []) ∧ ledWrite (nm (zpre 1)) (DiskM.fresh 262144) (MM none []) 0 (zdata H1 [0, 0, 0, 0]) = ⟨D1, MM I1 [], 0, 0⟩ ∧
    (D1.OK → ∃ D2, ledAppend (nm (zpre 1)) D1 (MM I1 []) O1.enc = ⟨D2, MM I1 [O1.enc], 1, 0⟩ ∧ ledOpen (D2.crash 0) (nm (zpre 1)) = (D2.crash 0, 0, MM I1 [O1.enc])) := by
  have hp : 1 ≤ (nm (zpre 1)).length ∧ (nm (zpre 1)).length ≤ 20 := by rw [zp1]; decide
  have hl := lies_new (nm (zpre 1)) 262144
  have hz := zd1_len
  have ho := o1_len
  obtain ⟨D1, h1, hL1, hT1, -⟩ := wri_lies (n := 0) (p := zdata H1 [0, 0, 0, 0]) hp (ok_fresh 262144 (by decide)) (tame_new (by decide)) hl (by decide) (by decide) (by omega) (by omega) (by decide)
  have hi : OkI I1 := ⟨by decide, by omega⟩
  have hf : Fits (baseOf I1) ([] ++ [O1.enc]) := ⟨by decide, fun e he => by
    simp only [List.nil_append, List.mem_singleton] at he
    rw [he]
    omega⟩
  refine ⟨D1, open_lies hp hl trivial ⟨by decide, by intro e h; cases h⟩, h1, fun hO => ?_⟩
  obtain ⟨D2, h2, hL2, hT2, -⟩ := app_lies (p := O1.enc) hp.2 hO hT1 hL1 hi hf (by omega) (by decide)
  exact ⟨D2, h2, open_lies hp (lies_crash hL2 0) hi hf⟩
end Go.Proofs.YtogdfkilhpkloaaGreatDoor

namespace Go.Proofs.YtogdfkilhpkloaaGreatDoor
open Go.RowKit Go.Sat Go.Maps

def ItL (x : It) : List Value := [.int .i64 x.a, .int .i64 x.b, .int .i64 x.c, .int .i64 x.d]
theorem ItL_one (x : It) : ∀ v ∈ ItL x, v.oneCell' = true := by
  intro v hv
  unfold ItL at hv
  simp only [List.mem_cons, List.not_mem_nil, or_false] at hv
  rcases hv with rfl | rfl | rfl | rfl <;> rfl
set_option maxRecDepth 100000 in
set_option maxHeartbeats 4000000 in
theorem vhas_calls {w : World} {vb pm bb : Nat} {V : List (Bs × It)} (h : VaultIn w vb pm bb V) (who : ByteArray) (hw : who.size ≤ maxLen) : Calls Tryz.prog 108 #[.pointer (some ⟨vb, 0, none⟩), .string who] w fun e w' => e = .returned (.agg (ItL (itsOf V who)).toArray) ∧ Below w.heap.size w w' := by
  have H := Lib.hid (And.intro h hw)
  clear h hw
  go_enter Tryz.func108, Tryz.ntmps108
  go_wp2_with (first
    | (refine balloc rfl 46 rfl (Tryz.zeroValue46 _) (by decide) ?_; intro w2 hn hb hs; have H2 := Lib.hid (And.intro hn (And.intro hb (H.out.1.keep (w' := w2) fun k hk => hb.block k (H.out.1.lt hk)))); clear hn hb hs; have c0 := cell_of H2.out.2.2.cells (i := 0) (v := .map (some pm)) rfl; have hl := itsOf_look H2.out.2.2 who H.out.2)
    | (refine bstore rfl 46 (.tmp 4) (.tmp 13) rfl w.heap.size rfl (L := ItL (itsOf V who)) rfl H2.out.1 rfl (by kernel_rfl) (ItL_one _) ?_; intro w3 hn hc; have H3 := Lib.hid (And.intro hn (chgOne H2.out.2.1 hc (Nat.le_refl _))); clear hn hc))
  refine bodyPost_ret (results_cell_row rfl _ _ w.heap.size _ _ (0, 0) _ rfl H3.out.1 Tryz.underlying46 rfl (by kernel_rfl)) rfl ?_
  exact ⟨rfl, H3.out.2⟩
set_option maxHeartbeats 1000000 in
theorem zecon_calls {w : World} {z eb l : Nat} {h : HeadM} {ev : Value} {dead : Bool} (hz : w.heap[z]? = some (ZoneO h eb l ev dead)) : Calls Tryz.prog 39 #[.pointer (some ⟨z, 0, none⟩)] w fun e w' => e = .returned (.pointer (some ⟨eb, 0, none⟩)) ∧ w' = w := by
  have c5 := cell_of hz (i := 5) (v := .pointer (some ⟨eb, 0, none⟩)) rfl
  clear hz
  go_enter Tryz.func39, Tryz.ntmps39
  go_wp2_with fail
  go_ret
  exact ⟨rfl, rfl⟩
set_option maxRecDepth 100000 in
set_option maxHeartbeats 4000000 in
theorem econAt_calls {w : World} {eb vm sm tm am : Nat} {E : EcoR} {own : Nat → Option (Nat × Bs)} (h : EconIn w eb vm sm tm am E own) (key who : ByteArray) (hk : key.size ≤ maxLen) (hw : who.size ≤ maxLen) {r : VRep} (hr : kget (nm key) E.vs = some r) :
    Calls Tryz.prog 49 #[.pointer (some ⟨eb, 0, none⟩), .agg #[.string key, .string who]] w fun e w' => e = .returned (.agg (ItL (itsOf r.V who)).toArray) ∧ Below w.heap.size w w' := by
  have H := Lib.hid (And.intro h (And.intro hk (And.intro hw hr)))
  clear h hk hw hr
  go_enter Tryz.func49, Tryz.ntmps49
  go_upto_region 3 with (first
    | (refine bbox rfl 23 (.tmp 1) rfl (L := [.string key, .string who]) rfl ?_; intro w2 hn1 hb1 hs1; have H2 := Lib.hid (And.intro hn1 (And.intro hb1 hs1)); clear hn1 hb1 hs1)
    | (refine balloc rfl 46 rfl (Tryz.zeroValue46 _) (by decide) ?_; intro w3 hn hb hs; have H3 := Lib.hid (And.intro hn (And.intro ((hb.block _ (lt_of_block H2.out.1)).trans H2.out.1) (And.intro (H2.out.2.1.trans (hb.mono H2.out.2.1.size)) H2.out.2.2))); clear hn hb hs))
  have hE := H.out.1.keep (w' := w3) (fun k hk => H3.out.2.2.1.block k (H.out.1.oLt k hk)) H3.out.2.2.1.size
  have HE := Lib.hid (hE.keep (w' := w3.drew) (fun _ _ => rfl) (Nat.le_refl _))
  refine ord_start (fun w' : World => w'.heap[w.heap.size]? = some (.cells #[.string key, .string who] 23 (0, 0)) ∧ w'.heap[eb]? = some (EconO vm sm tm am) ∧ VsIs w' vm E.vs) (n := 11) (by kernel_rfl) rfl ⟨H3.out.2.1, hE.cells, hE.vaults.keep rfl⟩ (fun hHeld => ?_)
  have H4 := Lib.hid (show w3.drew.heap[w2.heap.size]? = some (.cells (ItL It.zero).toArray 46 (0, 0)) ∧ Below w.heap.size w w3.drew from ⟨H3.out.1, H3.out.2.2.1.trans ⟨rfl, rfl, rfl, Nat.le_refl _, fun _ _ => rfl⟩⟩)
  have Hs2 := Lib.hid (show w.heap.size ≤ w2.heap.size from H2.out.2.1.size)
  have Hlt := Lib.hid (And.intro H3.out.2.2.2 (And.intro (lt_of_block hE.cells) (And.intro (H.out.1.oLt eb (by rw [H.out.1.oE]; simp)) (H.out.1.oLt vm (by rw [H.out.1.oV]; simp)))))
  clear hE H3 H2
  generalize w3.drew = w4 at *
  refine Pl [0, 1, 2, 3, 4, 5, 6, 7, 8] ?_
  iterate 9 (refine Pd rfl (by intro w' hSw; have p0 := cell_of hSw.1 (i := 0) (v := .string key) rfl; have p1 := cell_of hSw.1 (i := 1) (v := .string who) rfl; have e0 := cell_of hSw.2.1 (i := 0) (v := .map (some vm)) rfl; have hl := vs_look hSw.2.2 key H.out.2.1; rw [H.out.2.2.2] at hl; dsimp only at hl; go_simp; try with_reducible rfl) ?_; simp only [Act.put, uA, uB, uC])
  refine Pn ?_
  have Hv := Lib.hid (vhas_calls (HE.out.each _ (k_get_mem H.out.2.2.2)) who H.out.2.2.1)
  refine ord_one 9 rfl (by kernel_rfl) (by rfl) (fun K hK => ?_)
  go_wp2_with fail
  refine Hv.out.mono ?_
  rintro e w5 ⟨rfl, hb⟩
  have H5 := Lib.hid (And.intro ((hb.block _ (lt_of_block H4.out.1)).trans H4.out.1) (H4.out.2.trans (hb.mono H4.out.2.size)))
  have hS : w5.heap[w.heap.size]? = some (.cells #[.string key, .string who] 23 (0, 0)) ∧ w5.heap[eb]? = some (EconO vm sm tm am) ∧ VsIs w5 vm E.vs := ⟨(hb.block _ (lt_of_block hHeld.1)).trans hHeld.1, (hb.block _ (lt_of_block hHeld.2.1)).trans hHeld.2.1, hHeld.2.2.keep (hb.block _ hHeld.2.2.lt)⟩
  clear hb Hv hHeld H4 HE
  go_wp2_with fail
  refine hK.out _ _ hS (fun hHeld => ?_)
  clear hK hS
  try simp only [Act.put, uA, uB, uC]
  refine ord_one 10 rfl (by kernel_rfl) (by rfl) (fun K hK => ?_)
  refine wp_bstore 46 (.tmp 4) (.tmp 17) rfl w2.heap.size rfl (L := ItL (itsOf r.V who)) rfl H5.out.1 rfl (by kernel_rfl) (ItL_one _) ?_
  intro w6 hn hc
  have H6 := Lib.hid (And.intro hn (chgOne H5.out.2 hc Hs2.out))
  have hn1 : w.heap.size ≠ w2.heap.size := by have := Hlt.out.1; omega
  refine hK.out _ _ ⟨(hc.block _ (lt_of_block hHeld.1) hn1).trans hHeld.1, (hc.block _ (lt_of_block hHeld.2.1) (by have := Hlt.out.2.2.1; have := Hs2.out; omega)).trans hHeld.2.1, hHeld.2.2.keep (hc.block _ hHeld.2.2.lt (by have := Hlt.out.2.2.2; have := Hs2.out; omega))⟩ (fun hHeld2 => ?_)
  clear hK hn hc hHeld hHeld2
  refine wpAnyH_done (by kernel_rfl) ?_ _
  go_wp2_with fail
  refine bodyPost_ret (results_cell_row rfl _ _ w2.heap.size _ _ (0, 0) _ rfl H6.out.1 Tryz.underlying46 rfl (by kernel_rfl)) rfl ?_
  exact ⟨rfl, H6.out.2⟩
end Go.Proofs.YtogdfkilhpkloaaGreatDoor

namespace Go.Proofs.YtogdfkilhpkloaaGreatDoor
open Go.RowKit Go.Sat Go.Maps

theorem decTo0 : @DecTo [0, 0, 0, 0] (fun E => E = E0) := fun W v hv => (decode0_calls hv).mono fun e w' => by
  rintro ⟨eb, rfl, ⟨vm, sm, tm, am, own, hE, ho⟩, hb⟩
  exact ⟨eb, rfl, ⟨vm, sm, tm, am, E0, own, hE, ho, rfl⟩, hb⟩
def QO1 (E : EcoR) : Prop := ∃ r, kget (nm O1.atK) E.vs = some r ∧ itsOf r.V O1.atW = ⟨5, 0, 0, 0⟩
theorem put1_vs (r : VRep) (h : r.V = []) : ∃ r' : VRep, (putE E0 r O1).vs = [(nm O1.atK, r')] ∧ r'.V = [(nm O1.atW, ⟨5, 0, 0, 0⟩)] ∧ (tidyE (putE E0 r O1) (nm O1.atK)).vs = [(nm O1.atK, r')] := by
  obtain ⟨vb, pm, bb, V⟩ := r
  obtain rfl : V = [] := h
  exact ⟨⟨vb, pm, bb, [(nm O1.atW, ⟨5, 0, 0, 0⟩)]⟩, by kernel_rfl, rfl, by kernel_rfl⟩
theorem put1_len (r : VRep) (h : r.V = []) : ∀ p ∈ (putE E0 r O1).vs, p.2.V.length ≤ 1099511627776 := by
  obtain ⟨r', h1, h2, -⟩ := put1_vs r h
  intro p hp
  rw [h1, List.mem_singleton] at hp
  rw [hp, h2]
  decide
theorem q1_of (r : VRep) (h : r.V = []) (ss : List (Int × Sess)) : QO1 { tidyE (putE E0 r O1) (nm O1.atK) with ss := ss } := by
  obtain ⟨r', h1, h2, h3⟩ := put1_vs r h
  refine ⟨r', ?_, ?_⟩
  · show kget _ (tidyE (putE E0 r O1) (nm O1.atK)).vs = _
    rw [h3]
    kernel_rfl
  · unfold itsOf
    rw [h2]
    kernel_rfl
theorem appTo1 : AppTo O1 (fun E => E = E0) QO1 := fun W eb vm sm tm am E own hE hq => by
  subst hq
  refine (applymint_calls hE O1 O1_wf O1_may rfl rfl (by decide) (by decide) (fun r hr => by cases hr) (fun r hr _ => put1_len r (hr rfl))).mono ?_
  rintro e w' ⟨r, own', rfl, -, hr, hE', ho, hc⟩
  exact ⟨_, _, own', rfl, q1_of r (hr rfl) _, hE', ho, hc⟩
theorem preTo1 : PreTo 1 (zpre 1) := fun W => prefix_calls2 W 1 (by decide)
set_option maxRecDepth 100000 in
set_option maxHeartbeats 8000000 in
theorem known15_calls (w : World) : Calls Tryz.prog 15 #[] w (RetB true w) := by
  obtain ⟨D1, ho1, hw1, hrest⟩ := laid1
  have Hnew := Lib.hid (st_new (w := w) (w1 := w) 262144 (by decide) (by decide) (Below.refl _ _))
  have HN := Lib.hid (fun W => none15_calls W)
  have HM := Lib.hid (fun (W : World) (d : Nat) (p : Option Addr) (c : Nat) (hS : St w W d (DiskM.fresh 262144) NoF) (hx : HasB W (.slice p 4 c) [0, 0, 0, 0]) => make0_calls hS H1 H1_is 1 rfl (by decide) 0 (by decide) hx ho1 hw1 (by have := zd1_len; omega))
  have Hrest := Lib.hid hrest
  clear ho1 hw1 hrest
  go_enter Tryz.func15, Tryz.ntmps15
  go_wp2_with fail
  refine Hnew.out.mono ?_
  rintro e W1 ⟨d, rfl, hd⟩
  have Hd := Lib.hid (show St w W1 d (DiskM.fresh 262144) NoF from hd)
  clear hd Hnew
  go_wp2_with (refine bbuild rfl 35 #[(0, .const (.int .i64 1)), (2, .const (.int .i64 1)), (3, .const (.int .i64 1))] rfl (v := .agg #[.int .i64 H1.id, .string H1.fr, .string H1.tu, .int .i64 H1.epoch, .int .i64 H1.state]) (by kernel_rfl) ?_)
  refine (HN.out _).mono ?_
  rintro e W2 ⟨v, rfl, hv, hvn, hb⟩
  obtain ⟨pv, cv, rfl⟩ := hv.slice
  have HMk := Lib.hid (HM.out W2 d pv cv (Hd.out.next hb) hv.has)
  clear hv hvn hb HN HM Hd
  go_wp2_with fail
  refine HMk.out.mono ?_
  rintro e W3 ⟨z, rfl, hZ, -⟩
  have HZ := Lib.hid hZ
  have HZ0 := Lib.hid hZ.bel.size
  clear hZ HMk
  go_upto_region 6 with (first
    | (refine bbuild rfl 23 #[(0, .const (.string ⟨#[97]⟩)), (1, .const (.string ⟨#[120]⟩))] rfl (v := .agg #[.string O1.atK, .string O1.atW]) (by kernel_rfl) ?_)
    | (refine bbuild rfl 25 #[(0, .const (.int .i64 1)), (1, .const (.int .i64 1)), (2, .const (.int .i64 1)), (3, .tmp 27), (6, .const (.int .i64 5))] rfl (v := .agg (OpL O1).toArray) (by kernel_rfl) ?_)
    | (refine balloc rfl 25 rfl (Tryz.zeroValue25 _) (by decide) ?_; intro W5 hn hb hs; have H5 := Lib.hid (And.intro hn (And.intro (HZ.out.move (F' := fun k => k = W3.heap.size) (Chg.of_below hb) (fun _ _ e => e.elim) (fun k hk => ⟨.inr (by omega), by omega⟩)) hs)); clear hn hb hs HZ)
    | (refine bstore rfl 25 (.tmp 5) (.tmp 28) rfl W3.heap.size rfl rfl H5.out.1 rfl (by kernel_rfl) (OpL_one _) ?_; intro W6 hn hc; have H6 := Lib.hid (And.intro hn (H5.out.2.1.move (F' := fun k => k = W3.heap.size) hc (fun k _ e => ⟨e, by have := HZ0.out; omega⟩) fun k hk => ⟨.inl hk, by have := lt_of_block hn; omega⟩)); clear hn hc H5))
  try simp only [Act.put, uA, uB, uC]
  generalize W3.heap.size = ob at *
  obtain ⟨eb, l, vm, sm, tm, am, own, hS⟩ := H6.out.2.doS
  obtain ⟨D2, happ, hop⟩ := Hrest.out hS.led.okD
  have HDo := Lib.hid (domint_calls hS rfl ⟨by decide, by decide⟩ O1 inSpan1 O1_wf ⟨by decide, by decide⟩ O1_may rfl rfl (by decide) (by decide) (fun r hr => by cases hr) (fun r hr _ => put1_len r (hr rfl)) happ (by have := o1_len; omega) (by decide))
  have Hop := Lib.hid hop
  have Hf := Lib.hid (And.intro H6.out.1 (And.intro hS.led.bel (hS.led.flt (.inl rfl))))
  clear hS happ hop Hrest H6
  go_wp2_with (first
    | (refine bload rfl 25 (.tmp 5) rfl ob rfl (L := OpL O1) Hf.out.1 Tryz.underlying25 rfl (by kernel_rfl) ?_))
  refine HDo.out.mono ?_
  rintro e W7 ⟨r, own7, ev7, rfl, hr, hS⟩
  have H7 := Lib.hid (And.intro ((hS.same ob rfl).trans Hf.out.1) (hS.led.stF.less (F := fun k => k = ob) fun k hk => .inl hk))
  have Hw7 := Lib.hid (And.intro hS.led.bel.size (lt_of_block H7.out.1))
  clear hr hS HDo Hf
  go_upto_region 7 with (first
    | (refine balloc rfl 48 rfl (Tryz.zeroValue48 _) (by decide) ?_; intro W8 hn hb hs; have H8 := Lib.hid (And.intro hn (And.intro hb hs)); clear hn hb hs)
    | (refine bstore rfl 48 (.tmp 6) (.tmp 33) rfl W7.heap.size rfl (L := RepC (putX r O1)) rfl H8.out.1 rfl (by kernel_rfl) (RepC_one _) ?_; intro W9 hn hc; have H9 := Lib.hid (chgOne (w := W7) H8.out.2.1 hc (Nat.le_refl _)); clear hn hc H8))
  try simp only [Act.put, uA, uB, uC]
  have H10 := Lib.hid (And.intro ((H9.out.block _ (lt_of_block H7.out.1)).trans H7.out.1) (H7.out.2.next H9.out))
  clear H7 H9 Hw7
  have HCr := Lib.hid (st_crash H10.out.2 0 (by decide) (by decide))
  go_wp2_with fail
  refine HCr.out.mono ?_
  rintro e W11 ⟨rfl, hS, hsm⟩
  have HOp := Lib.hid (zopen_calls (os := [O1]) (img := [0, 0, 0, 0]) hS H1_is preTo1 Hop.out rfl (by have := zd1_len; omega) (by decide) rfl (fun o ho => by rw [List.mem_singleton] at ho; subst ho; exact ⟨O1_may, by have := o1_len; omega⟩) (by decide) (fun k E => if k = 0 then E = E0 else QO1 E) decTo0 (fun k o hk => by
    match k, hk with
    | 0, hk => cases hk; exact appTo1
    | n + 1, hk => simp at hk))
  have H11 := Lib.hid ((hsm ob rfl).trans H10.out.1)
  clear hS hsm HCr H10 Hop
  go_wp2_with fail
  refine HOp.out.mono ?_
  rintro e W12 ⟨z2, E2, ev2, rfl, hZ, hq, -, hsm⟩
  have H12 := Lib.hid (And.intro ((hsm ob rfl).trans H11.out) (And.intro hZ (show QO1 E2 from hq)))
  clear hZ hq hsm HOp H11
  go_upto_region 9 with (fail)
  try simp only [Act.put, uA, uB, uC]
  refine ord_start (fun W : World => W.heap[ob]? = some (.cells (OpL O1).toArray 25 (0, 0))) (n := 25) (by kernel_rfl) rfl H12.out.1 (fun hHeld => ?_)
  have H13 := Lib.hid (And.intro (H12.out.2.1.next (below_drew W12)) H12.out.2.2)
  clear H12
  generalize W12.drew = W13 at *
  refine Pl [0, 1, 2, 3, 4, 5, 6, 7, 8, 9, 10, 11] ?_
  iterate 12 (refine Pc rfl ?_; simp only [Act.put, uA, uB, uC])
  refine Pn ?_
  have HL := Lib.hid (zlast_calls (m := 1) H13.out.1 rfl)
  refine ord_one 12 rfl (by kernel_rfl) (by rfl) (fun K hK => ?_)
  go_wp2_with fail
  refine HL.out.mono ?_
  rintro e W14 ⟨rfl, q, rfl⟩
  have H14 := Lib.hid (And.intro (H13.out.1.next (below_drewN _ W13 q)) H13.out.2)
  have hH14 : (W13.drewN q).heap[ob]? = some (.cells (OpL O1).toArray 25 (0, 0)) := hHeld
  clear HL H13 hHeld
  generalize W13.drewN q = W14 at *
  go_wp2_with fail
  refine hK.out _ _ hH14 (fun hHeld => ?_)
  clear hK hH14
  try simp only [Act.put, uA, uB, uC]
  refine Pl [13, 14, 15, 16, 18] ?_
  iterate 5 (refine Pc rfl ?_; simp only [Act.put, uA, uB, uC])
  refine Pn ?_
  refine Pl [19, 21] ?_
  refine Pd (v := .agg #[.string O1.atK, .string O1.atW]) rfl (by intro w' hSw; have d3 := cell_of hSw (i := 3) (v := .string O1.atK) rfl; have d4 := cell_of hSw (i := 4) (v := .string O1.atW) rfl; go_simp; try with_reducible rfl) ?_
  simp only [Act.put, uA, uB, uC]
  refine Pd (v := .agg #[.int .i64 5, .int .i64 0, .int .i64 0, .int .i64 0]) rfl (by intro w' hSw; kernel_rfl) ?_
  simp only [Act.put, uA, uB, uC]
  refine Pn ?_
  obtain ⟨eb2, l2, vm2, sm2, tm2, am2, own2, hS2⟩ := H14.out.1.doS
  obtain ⟨r2, hr2, hi2⟩ := H14.out.2
  have HEc := Lib.hid (zecon_calls hS2.zon)
  have HAt := Lib.hid (econAt_calls hS2.eco O1.atK O1.atW (by decide) (by decide) hr2)
  rw [hi2] at HAt
  have HB14 := Lib.hid hS2.led.bel
  clear hS2 hr2 hi2 H14
  refine ord_one 17 rfl (by kernel_rfl) (by rfl) (fun K hK => ?_)
  go_wp2_with fail
  refine HEc.out.mono ?_
  rintro e W15 ⟨rfl, hw15⟩
  obtain rfl := hw15.symm
  go_wp2_with fail
  refine hK.out _ _ hHeld (fun _ => ?_)
  clear hK HEc
  try simp only [Act.put, uA, uB, uC]
  refine ord_one 20 rfl (by kernel_rfl) (by rfl) (fun K hK => ?_)
  go_wp2_with fail
  refine HAt.out.mono ?_
  rintro e W16 ⟨rfl, hb⟩
  have HB := Lib.hid (HB14.out.trans (hb.mono HB14.out.size))
  go_wp2_with fail
  refine hK.out _ _ ((hb.block _ (lt_of_block hHeld)).trans hHeld) (fun _ => ?_)
  clear hK hHeld hb HAt
  try simp only [Act.put, uA, uB, uC]
  refine Pl [22, 23, 24] ?_
  refine Pd (v := .bool true) rfl (by intro w' hSw; exact yeql 46 _ (.tmp 62) (.tmp 63) rfl rfl rfl (by kernel_rfl) (it_eq w' ⟨5, 0, 0, 0⟩ ⟨5, 0, 0, 0⟩ ⟨rfl, rfl, rfl, rfl⟩ ⟨rfl, rfl, rfl, rfl⟩)) ?_
  simp only [Act.put, uA, uB, uC]
  iterate 2 (refine Pc rfl ?_; simp only [Act.put, uA, uB, uC])
  refine Pn ?_
  refine wpAnyH_done (by kernel_rfl) ?_ _
  go_wp2_with fail
  go_ret
  exact ⟨rfl, HB.out⟩
end Go.Proofs.YtogdfkilhpkloaaGreatDoor

namespace Go.Proofs.YtogdfkilhpkloaaGreatDoor
open Go.RowKit Go.Sat Go.Maps
def hv1 (o : OpM) : Bool := decide (60 < o.atK.size) || decide (60 < o.atW.size) || decide (60 < o.toK.size) || decide (60 < o.toW.size)
set_option maxRecDepth 100000 in
set_option maxHeartbeats 4000000 in
theorem heavy1_calls {w : World} {g : Nat} {o : OpM} (hg : w.heap[g]? = some (.cells (OpL o).toArray 25 (0, 0))) (hs : o.atK.size ≤ 9223372036854775807 ∧ o.atW.size ≤ 9223372036854775807 ∧ o.toK.size ≤ 9223372036854775807 ∧ o.toW.size ≤ 9223372036854775807) :
    Calls Tryz.prog 10 #[.slice (some ⟨g, 0, none⟩) 1 1] w fun e w' => e = .returned (.bool (hv1 o)) ∧ w' = w := by
  have c3 := cell_of hg (i := 3) (v := .string o.atK) rfl
  have c4 := cell_of hg (i := 4) (v := .string o.atW) rfl
  have c5 := cell_of hg (i := 5) (v := .string o.toK) rfl
  have c6 := cell_of hg (i := 6) (v := .string o.toW) rfl
  obtain ⟨h1, h2, h3, h4⟩ := hs
  unfold hv1
  clear hg
  generalize o.atK = s1 at *
  generalize o.atW = s2 at *
  generalize o.toK = s3 at *
  generalize o.toW = s4 at *
  go_enter Tryz.func10, Tryz.ntmps10
  go_wp2_with fail
  go_loopw [3] (fun i wr => ∃ k : Nat, k ≤ 1 ∧ i = .int .i64 k ∧ wr = w ∧ (k = 1 → ¬ 60 < s1.size ∧ ¬ 60 < s2.size ∧ ¬ 60 < s3.size ∧ ¬ 60 < s4.size)) (fun i _ => 1 - (intOf i).toNat)
  case atStart => exact ⟨0, by omega, rfl, rfl, fun h => by omega⟩
  case round =>
    obtain ⟨k, hk, rfl, rfl, hx⟩ := hrel
    rcases (by omega : k = 0 ∨ k = 1) with rfl | rfl
    · clear hx
      by_cases e1 : 60 < s1.size
      · go_wp2_with fail
        go_ret
        exact ⟨by simp [e1], rfl⟩
      · by_cases e2 : 60 < s2.size
        · go_wp2_with fail
          go_ret
          exact ⟨by simp [e2], rfl⟩
        · by_cases e3 : 60 < s3.size
          · go_wp2_with fail
            go_ret
            exact ⟨by simp [e3], rfl⟩
          · by_cases e4 : 60 < s4.size
            · go_wp2_with fail
              go_ret
              exact ⟨by simp [e4], rfl⟩
            · go_wp2_with fail
              go_round
              case rel => exact ⟨1, by omega, by go_num, by trivial, fun _ => ⟨e1, e2, e3, e4⟩⟩
              case measure => simp [intOf]
    · obtain ⟨e1, e2, e3, e4⟩ := hx rfl
      go_wp2_with fail
      go_ret
      exact ⟨by simp [e1, e2, e3, e4], rfl⟩
end Go.Proofs.YtogdfkilhpkloaaGreatDoor

namespace Go.Proofs.YtogdfkilhpkloaaGreatDoor
open Go.RowKit Go.Sat Go.Maps

theorem beql {P : Program} {ops : Array Oper} {rest : List Oper} {op : Oper} {a : Act} {w : World} {Q : Exit → Act → World → Prop} (hw : Region.wanted op (yielded ops a.tmps) = true) (ty rt : TypeId) (x y : Operand) (ho : op.op = .binOp .eql ty x y rt) {A B : Array Value} (hx : a.eval x = .agg A) (hy : a.eval y = .agg B) {c : Bool} (hg : P.eqGuardType P.depth ty = false) (hr : (Op.equalIn 10000 ty (.agg A) (.agg B)).run P w = .ok c w) (h : wpList P ops Q rest (a.put op.dst (.bool c)) w) : wpList P ops Q (op :: rest) a w := by
  refine BigFrame.wpList_want hw fun K hK => ?_
  unfold Oper.wp
  simp only [yeql (ev := a.eval) ty rt x y ho hx hy hg hr]
  exact hK _ _ h
def H0 : HeadM := ⟨0, ⟨#[]⟩, ⟨#[]⟩, 0, 0⟩
theorem H0_wf2 : H0.wf2 := ⟨⟨rfl, rfl, rfl⟩, by show _ ≤ maxLen; decide, by show _ ≤ maxLen; decide⟩
theorem reply_lits : ∀ m, (∃ n, m = n + 2) → Tryz.prog.keyLits (m + 1) 48 ReplyL = some [.int .i64 0, .int .i64 0, .int .i64 0, .int .i64 0, .int .i64 0, .int .i64 0] := by
  have hc : Tryz.prog.cellsOf 48 = 6 := by kernel_rfl
  have hci : Tryz.prog.cellsOf 46 = 4 := by kernel_rfl
  have hce : Tryz.prog.cellsOf 31 = 1 := by kernel_rfl
  have hc3 : Tryz.prog.cellsOf 3 = 1 := by kernel_rfl
  have hg : (Lit.int .i64 0).wf = true := rfl
  rintro m ⟨n, rfl⟩
  simp [ReplyL, Program.keyLits, Tryz.underlying48, Tryz.underlying46, Tryz.underlying31, Tryz.underlying3, hc, hci, hce, hc3, hg, List.range_succ]
  try (rw [if_pos (by decide)])
  try rfl
set_option maxRecDepth 100000 in
theorem reply_same (w : World) : (Op.equalIn 10000 48 (.agg ReplyL.toArray) (.agg ReplyL.toArray)).run Tryz.prog w = .ok true w := by
  have hc : Tryz.prog.cellsOf 48 = 6 := by kernel_rfl
  have hn : ∃ n, Tryz.prog.types.size = n + 2 := ⟨Tryz.prog.types.size - 2, by kernel_rfl⟩
  have hf : (Value.agg ReplyL.toArray).formed Tryz.prog 48 = true := by simp [ReplyL, Value.formed, Tryz.underlying48, hc]
  obtain ⟨r, hr, hiff⟩ := run_equalIn_deep (10000 - 3) 3 48 (by kernel_rfl) w _ _ (.agg ReplyL.toArray) (.agg ReplyL.toArray) _ _ hf hf (reply_lits _ hn) (reply_lits _ hn)
  have hr' : (Op.equalIn 10000 48 (.agg ReplyL.toArray) (.agg ReplyL.toArray)).run Tryz.prog w = .ok r w := hr
  obtain rfl : r = true := hiff.2 rfl
  exact hr'
theorem op_laid (o : OpM) : List.foldl (fun (cs : Array Value) (x : Value × Nat) => cs.setIfInBounds x.snd x.fst) #[.int .i64 0, .int .i64 0, .int .i64 0, .string ⟨#[]⟩, .string ⟨#[]⟩, .string ⟨#[]⟩, .string ⟨#[]⟩, .int .i64 0, .int .i64 0, .int .i64 0, .bool false, .int .i64 0] (OpL o).zipIdx = (OpL o).toArray := by kernel_rfl
set_option maxRecDepth 100000 in
set_option maxHeartbeats 8000000 in
theorem znothing_walk (w : World) (o : OpM) (ho : o.atK.size ≤ 9223372036854775807 ∧ o.atW.size ≤ 9223372036854775807 ∧ o.toK.size ≤ 9223372036854775807 ∧ o.toW.size ≤ 9223372036854775807) (h : HeadM) : Calls Tryz.prog 9 #[.agg (OpL o).toArray, .agg (HeadL h).toArray] w (RetB true w) := by
  have Ho := Lib.hid ho
  clear ho
  go_enter Tryz.func9, Tryz.ntmps9
  go_upto_region 1 with (first
    | (refine bbox rfl 25 (.tmp 0) rfl (L := OpL o) rfl ?_; intro w2 hn hb hs; have H2 := Lib.hid (And.intro hn (And.intro hb hs)); clear hn hb hs)
    | (refine bbox rfl 35 (.tmp 1) rfl (L := HeadL h) rfl ?_; intro w3 hn hb hs; have H3 := Lib.hid (And.intro hn (And.intro ((hb.block _ (lt_of_block H2.out.1)).trans H2.out.1) (H2.out.2.1.trans (hb.mono H2.out.2.1.size)))); clear hn hb hs H2))
  try simp only [Act.put, uA, uB, uC]
  have hl12 : (OpL o).length = 12 := rfl
  go_wp2_with (refine bload rfl 25 (.tmp 2) rfl w.heap.size rfl (L := OpL o) H3.out.2.1 Tryz.underlying25 rfl (by kernel_rfl) ?_)
  clear hl12
  rw [op_laid]
  have HB4 := Lib.hid (box_below w3 (.cells (OpL o).toArray 25))
  refine (heavy1_calls (g := w3.heap.size) (o := o) (new_block w3 (.cells (OpL o).toArray 25)) Ho.out).mono ?_
  rintro e w4 ⟨rfl, hw4⟩
  have H4 := Lib.hid (show w4.heap[w2.heap.size]? = some (.cells (HeadL h).toArray 35 (0, 0)) ∧ w4.heap[w.heap.size]? = some (.cells (OpL o).toArray 25 (0, 0)) ∧ Below w.heap.size w w4 from by
    subst hw4
    exact ⟨(HB4.out.block _ (lt_of_block H3.out.1)).trans H3.out.1, (HB4.out.block _ (lt_of_block H3.out.2.1)).trans H3.out.2.1, H3.out.2.2.trans (HB4.out.mono H3.out.2.2.size)⟩)
  clear hw4 H3 HB4 Ho
  cases hv1 o with
  | true =>
    go_wp2_with fail
    go_ret
    exact ⟨rfl, H4.out.2.2⟩
  | false =>
    go_wp2_with (refine bload rfl 25 (.tmp 2) rfl w.heap.size rfl (L := OpL o) H4.out.2.1 Tryz.underlying25 rfl (by kernel_rfl) ?_)
    refine (zdo_nil w4 o).mono ?_
    rintro e w5 ⟨rfl, hb⟩
    have H5 := Lib.hid (And.intro ((hb.block _ (lt_of_block H4.out.1)).trans H4.out.1) (H4.out.2.2.trans (hb.mono H4.out.2.2.size)))
    clear hb H4
    go_wp2_with (first
      | (refine balloc rfl 48 rfl (Tryz.zeroValue48 _) (by decide) ?_; intro w6 hn hb hs; have H6 := Lib.hid (And.intro hn hb); clear hn hb hs)
      | (refine bstore rfl 48 (.tmp 6) (.tmp 18) rfl w5.heap.size rfl (L := ReplyL) rfl H6.out.1 rfl (by kernel_rfl) ReplyL_one ?_; intro w7 hn hc; have H7 := Lib.hid (And.intro hn (chgOne H6.out.2 hc (Nat.le_refl _))); clear hn hc H6))
    have H8 := Lib.hid (And.intro H7.out.1 (And.intro ((H7.out.2.block _ (lt_of_block H5.out.1)).trans H5.out.1) (H5.out.2.trans (H7.out.2.mono H5.out.2.size))))
    clear H5 H7
    refine (zentry_nil _ 1).mono ?_
    rintro e w8 ⟨rfl, hw8⟩
    obtain rfl := hw8.symm
    clear hw8
    go_upto_region 6 with (fail)
    go_upto_region 7 with (fail)
    simp only [List.append] at *
    try simp only [Act.put, uA, uB, uC]
    go_wp2_with fail
    refine (zohead_nil _).mono ?_
    rintro e w9 ⟨rfl, hb⟩
    have H9 := Lib.hid (And.intro ((hb.block _ (lt_of_block H8.out.1)).trans H8.out.1) (And.intro ((hb.block _ (lt_of_block H8.out.2.1)).trans H8.out.2.1) (H8.out.2.2.trans (hb.mono H8.out.2.2.size))))
    clear hb H8
    go_wp2_with (first
      | (refine bbuild rfl 35 #[] rfl (v := .agg (HeadL H0).toArray) (by kernel_rfl) ?_)
      | (refine beql rfl 35 _ (.tmp 26) (.tmp 27) rfl rfl rfl (by kernel_rfl) (head_same _ H0 H0_wf2) ?_))
    refine (zlast_nil _).mono ?_
    rintro e w10 ⟨rfl, hw10⟩
    obtain rfl := hw10.symm
    clear hw10
    have H10 := H9
    clear H9
    go_wp2_with (first
      | (refine bload rfl 48 (.tmp 6) rfl w5.heap.size rfl (L := ReplyL) H10.out.1 Tryz.underlying48 rfl (by kernel_rfl) ?_)
      | (refine bbuild rfl 48 #[] rfl (v := .agg ReplyL.toArray) (by kernel_rfl) ?_)
      | (refine beql rfl 48 _ (.tmp 35) (.tmp 36) rfl rfl rfl (by kernel_rfl) (reply_same _) ?_))
    refine (zevents_nil _).mono ?_
    rintro e w11 ⟨rfl, hw11⟩
    obtain rfl := hw11.symm
    clear hw11
    have H11 := H10
    clear H10
    go_wp2_with (first
      | (refine bload rfl 35 (.tmp 3) rfl w2.heap.size rfl (L := HeadL h) H11.out.2.1 Tryz.underlying35 rfl (by kernel_rfl) ?_))
    refine (zset_nil _ h).mono ?_
    rintro e w12 ⟨rfl, hb⟩
    have H12 := Lib.hid (And.intro ((hb.block _ (lt_of_block H11.out.1)).trans H11.out.1) (And.intro ((hb.block _ (lt_of_block H11.out.2.1)).trans H11.out.2.1) (H11.out.2.2.trans (hb.mono H11.out.2.2.size))))
    clear hb H11
    go_wp2_with fail
    refine (zship_nil _ 1 none 0 0).mono ?_
    rintro e w13 ⟨rfl, hw13⟩
    obtain rfl := hw13.symm
    clear hw13
    have H13 := H12
    clear H12
    go_wp2_with fail
    refine (zimage_nil _).mono ?_
    rintro e w14 ⟨rfl, hw14⟩
    obtain rfl := hw14.symm
    clear hw14
    have H14 := H13
    clear H13
    go_wp2_with fail
    refine (zecon_nil _).mono ?_
    rintro e w15 ⟨rfl, hw15⟩
    obtain rfl := hw15.symm
    clear hw15
    have H15 := H14
    clear H14
    have d1 := cell_of H15.out.2.1 (i := 1) (v := .string h.fr) rfl
    have d2 := cell_of H15.out.2.1 (i := 2) (v := .string h.tu) rfl
    go_wp2_with fail
    clear d1 d2
    refine (zcut_nil _ h.fr h.tu).mono ?_
    rintro e w16 ⟨rfl, hb⟩
    have H16 := Lib.hid (And.intro ((hb.block _ (lt_of_block H15.out.1)).trans H15.out.1) (And.intro ((hb.block _ (lt_of_block H15.out.2.1)).trans H15.out.2.1) (H15.out.2.2.trans (hb.mono H15.out.2.2.size))))
    clear hb H15
    go_wp2_with (first
      | (refine bload rfl 35 (.tmp 3) rfl w2.heap.size rfl (L := HeadL h) H16.out.2.1 Tryz.underlying35 rfl (by kernel_rfl) ?_))
    refine (zjoin_nil _ h none 0 0).mono ?_
    rintro e w17 ⟨rfl, hb⟩
    have H17 := Lib.hid (And.intro ((hb.block _ (lt_of_block H16.out.1)).trans H16.out.1) (And.intro ((hb.block _ (lt_of_block H16.out.2.1)).trans H16.out.2.1) (H16.out.2.2.trans (hb.mono H16.out.2.2.size))))
    clear hb H16
    go_wp2_with fail
    refine (zdrop_nil _).mono ?_
    rintro e w18 ⟨rfl, hw18⟩
    obtain rfl := hw18.symm
    clear hw18
    have H18 := H17
    clear H17
    go_wp2_with fail
    refine (known15_calls _).mono ?_
    rintro e w19 ⟨rfl, hb⟩
    have H19 := Lib.hid (And.intro ((hb.block _ (lt_of_block H18.out.1)).trans H18.out.1) (And.intro ((hb.block _ (lt_of_block H18.out.2.1)).trans H18.out.2.1) (H18.out.2.2.trans (hb.mono H18.out.2.2.size))))
    clear hb H18
    go_wp2_with fail
    go_ret
    exact ⟨rfl, H19.out.2.2⟩
end Go.Proofs.YtogdfkilhpkloaaGreatDoor

namespace Go.Proofs.YtogdfkilhpkloaaGreatDoor
open Go.RowKit Go.Sat Go.ChangeShapes Go.WideShapes Go.ChangeAt Go.Deep

set_option maxRecDepth 100000 in
theorem cell_int {W : World} {base : Nat} {x : Value} (h : Cell.okWide Tryz.prog W .any base 3 x) : ∃ z, x = .int .i64 z ∧ -9223372036854775808 ≤ z ∧ z ≤ 9223372036854775807 := by
  simp only [Cell.okWide, Tryz.underlying3] at h
  cases x <;> simp_all [Cell.ok]
  rename_i k z
  obtain ⟨e1, h⟩ := h
  subst e1
  unfold IntKind.has at h
  simp [IntKind.min, IntKind.max, IntKind.signed, IntKind.bits] at h
  omega
set_option maxRecDepth 100000 in
theorem cell_str {W : World} {base : Nat} {x : Value} (h : Cell.okWide Tryz.prog W .any base 9 x) : ∃ s : ByteArray, x = .string s ∧ s.size ≤ 9223372036854775807 := by
  simp only [Cell.okWide, Tryz.underlying9] at h
  cases x <;> simp_all [Cell.ok]
  have e : IntKind.i64.max = 9223372036854775807 := rfl
  omega
set_option maxRecDepth 100000 in
theorem cell_bool {W : World} {base : Nat} {x : Value} (h : Cell.okWide Tryz.prog W .any base 4 x) : ∃ s : Bool, x = .bool s := by
  simp only [Cell.okWide, Tryz.underlying4] at h
  cases x <;> simp_all [Cell.ok]
set_option maxRecDepth 100000 in
theorem int_arg {W : World} {base : Nat} {v : Value} (hv : Value.okWide Tryz.prog W .any base 3 v) : ∃ z, v = .int .i64 z ∧ -9223372036854775808 ≤ z ∧ z ≤ 9223372036854775807 := by
  simp only [Value.okWide, Tryz.underlying3] at hv
  exact cell_int hv
theorem list12 : ∀ {l : List Value}, l.length = 12 → ∃ x0 x1 x2 x3 x4 x5 x6 x7 x8 x9 x10 x11, l = [x0, x1, x2, x3, x4, x5, x6, x7, x8, x9, x10, x11]
  | [x0, x1, x2, x3, x4, x5, x6, x7, x8, x9, x10, x11], _ => ⟨x0, x1, x2, x3, x4, x5, x6, x7, x8, x9, x10, x11, rfl⟩
theorem list5 : ∀ {l : List Value}, l.length = 5 → ∃ x0 x1 x2 x3 x4, l = [x0, x1, x2, x3, x4]
  | [x0, x1, x2, x3, x4], _ => ⟨x0, x1, x2, x3, x4, rfl⟩
def OpM.fits (o : OpM) : Prop := (wf64 o.kind ∧ wf64 o.client ∧ wf64 o.seq) ∧ (o.atK.size ≤ 9223372036854775807 ∧ o.atW.size ≤ 9223372036854775807 ∧ o.toK.size ≤ 9223372036854775807 ∧ o.toW.size ≤ 9223372036854775807) ∧ wf64 o.item ∧ wf64 o.count ∧ wf64 o.price ∧ wf64 o.id
set_option maxRecDepth 100000 in
theorem op_arg {W : World} {base : Nat} {v : Value} (hv : Value.okWide Tryz.prog W .any base 25 v) : ∃ o : OpM, v = .agg (OpL o).toArray ∧ o.fits := by
  have h12 : Tryz.prog.cellsOf 25 = 12 := by kernel_rfl
  have hts : Tryz.prog.cellTypes Tryz.prog.depth 25 = some [3, 3, 3, 9, 9, 9, 9, 3, 3, 3, 4, 3] := by kernel_rfl
  simp only [Value.okWide, Tryz.underlying25] at hv
  obtain ⟨⟨l⟩, rfl, hsz, ts, h1, -, h3⟩ := hv
  rw [h12] at hsz
  rw [h1] at hts
  cases hts
  obtain ⟨x0, x1, x2, x3, x4, x5, x6, x7, x8, x9, x10, x11, rfl⟩ := list12 (by simpa using hsz)
  have g : ∀ (i : Nat) (u : Nat) (x : Value), [x0, x1, x2, x3, x4, x5, x6, x7, x8, x9, x10, x11].toArray[i]? = some x → [3, 3, 3, 9, 9, 9, 9, 3, 3, 3, 4, 3][i % 12]? = some u → Cell.okWide Tryz.prog W .any base u x := fun i u x hx hu => by
    obtain ⟨u', hu', hc⟩ := h3 i x hx
    have e : some u = some u' := hu.symm.trans hu'
    cases e
    exact hc
  obtain ⟨z0, rfl, a0, b0⟩ := cell_int (g 0 _ _ rfl rfl)
  obtain ⟨z1, rfl, a1, b1⟩ := cell_int (g 1 _ _ rfl rfl)
  obtain ⟨z2, rfl, a2, b2⟩ := cell_int (g 2 _ _ rfl rfl)
  obtain ⟨s3, rfl, b3⟩ := cell_str (g 3 _ _ rfl rfl)
  obtain ⟨s4, rfl, b4⟩ := cell_str (g 4 _ _ rfl rfl)
  obtain ⟨s5, rfl, b5⟩ := cell_str (g 5 _ _ rfl rfl)
  obtain ⟨s6, rfl, b6⟩ := cell_str (g 6 _ _ rfl rfl)
  obtain ⟨z7, rfl, a7, b7⟩ := cell_int (g 7 _ _ rfl rfl)
  obtain ⟨z8, rfl, a8, b8⟩ := cell_int (g 8 _ _ rfl rfl)
  obtain ⟨z9, rfl, a9, b9⟩ := cell_int (g 9 _ _ rfl rfl)
  obtain ⟨s10, rfl⟩ := cell_bool (g 10 _ _ rfl rfl)
  obtain ⟨z11, rfl, a11, b11⟩ := cell_int (g 11 _ _ rfl rfl)
  exact ⟨⟨z0, z1, z2, s3, s4, s5, s6, z7, z8, z9, s10, z11⟩, rfl, ⟨wf64_of ⟨a0, b0⟩, wf64_of ⟨a1, b1⟩, wf64_of ⟨a2, b2⟩⟩, ⟨b3, b4, b5, b6⟩, wf64_of ⟨a7, b7⟩, wf64_of ⟨a8, b8⟩, wf64_of ⟨a9, b9⟩, wf64_of ⟨a11, b11⟩⟩
def HeadM.fits (h : HeadM) : Prop := (wf64 h.id ∧ wf64 h.epoch ∧ wf64 h.state) ∧ h.fr.size ≤ 9223372036854775807 ∧ h.tu.size ≤ 9223372036854775807
set_option maxRecDepth 100000 in
theorem head_arg {W : World} {base : Nat} {v : Value} (hv : Value.okWide Tryz.prog W .any base 35 v) : ∃ h : HeadM, v = .agg (HeadL h).toArray ∧ h.fits := by
  have h5 : Tryz.prog.cellsOf 35 = 5 := by kernel_rfl
  have hts : Tryz.prog.cellTypes Tryz.prog.depth 35 = some [3, 9, 9, 3, 3] := by kernel_rfl
  simp only [Value.okWide, Tryz.underlying35] at hv
  obtain ⟨⟨l⟩, rfl, hsz, ts, h1, -, h3⟩ := hv
  rw [h5] at hsz
  rw [h1] at hts
  cases hts
  obtain ⟨x0, x1, x2, x3, x4, rfl⟩ := list5 (by simpa using hsz)
  have g : ∀ (i : Nat) (u : Nat) (x : Value), [x0, x1, x2, x3, x4].toArray[i]? = some x → [3, 9, 9, 3, 3][i % 5]? = some u → Cell.okWide Tryz.prog W .any base u x := fun i u x hx hu => by
    obtain ⟨u', hu', hc⟩ := h3 i x hx
    have e : some u = some u' := hu.symm.trans hu'
    cases e
    exact hc
  obtain ⟨z0, rfl, a0, b0⟩ := cell_int (g 0 _ _ rfl rfl)
  obtain ⟨s1, rfl, b1⟩ := cell_str (g 1 _ _ rfl rfl)
  obtain ⟨s2, rfl, b2⟩ := cell_str (g 2 _ _ rfl rfl)
  obtain ⟨z3, rfl, a3, b3⟩ := cell_int (g 3 _ _ rfl rfl)
  obtain ⟨z4, rfl, a4, b4⟩ := cell_int (g 4 _ _ rfl rfl)
  exact ⟨⟨z0, s1, s2, z3, z4⟩, rfl, ⟨wf64_of ⟨a0, b0⟩, wf64_of ⟨a3, b3⟩, wf64_of ⟨a4, b4⟩⟩, b1, b2⟩
end Go.Proofs.YtogdfkilhpkloaaGreatDoor

namespace Go.Proofs.YtogdfkilhpkloaaGreatDoor
open Go.RowKit Go.Sat Go.Maps

def H4 (e : Int) : HeadM := ⟨4, ⟨#[]⟩, ⟨#[]⟩, e, 1⟩
theorem H4_is {e : Int} (h : 1 ≤ e ∧ e ≤ 1099511627776) : (H4 e).is = true := by
  show (decide (1 ≤ (4 : Int)) && decide ((4 : Int) ≤ 1048576) && isSpan ⟨#[]⟩ ⟨#[]⟩ && decide (1 ≤ e) && decide (e ≤ 1099511627776) && decide (1 ≤ (1 : Int)) && decide ((1 : Int) ≤ 3)) = true
  rw [isSpanN, decide_eq_true h.1, decide_eq_true h.2]
  rfl
theorem H4_no {e : Int} (h : e < 1) : (H4 e).is = false := by
  show (decide (1 ≤ (4 : Int)) && decide ((4 : Int) ≤ 1048576) && isSpan ⟨#[]⟩ ⟨#[]⟩ && decide (1 ≤ e) && decide (e ≤ 1099511627776) && decide (1 ≤ (1 : Int)) && decide ((1 : Int) ≤ 3)) = false
  rw [isSpanN, decide_eq_false (show ¬ 1 ≤ e by omega)]
  rfl
theorem H4_wf2 {e : Int} (h : -9223372036854775808 ≤ e ∧ e ≤ 9223372036854775807) : (H4 e).wf2 := ⟨⟨rfl, wf64_of h, rfl⟩, (Nat.zero_le _ : 0 ≤ maxLen), (Nat.zero_le _ : 0 ≤ maxLen)⟩
theorem HI_wf (i e : Int) : (⟨i, ⟨#[]⟩, ⟨#[]⟩, e, 1⟩ : HeadM).wf := ⟨(Nat.zero_le _ : 0 ≤ 9223372036854775807), (Nat.zero_le _ : 0 ≤ 9223372036854775807)⟩
theorem zp4 : (nm (zpre 4)).length = 2 := by
  rw [nm_len]
  show (122 :: Lib.decDigits 4).toArray.size = 2
  rw [Lib.decDigits_one (by decide)]
  rfl
theorem zd4_len (e : Int) : (zdata (H4 e) [0, 0, 0, 0]).length ≤ 1000 := by
  have h1 := numsI_len [(H4 e).id]
  have h2 := numsI_len [(H4 e).epoch, (H4 e).state]
  have h3 := numB_nine (n := 0) (by decide)
  have h4 := numB_nine (n := 0 + 1 + 1 + 1 + 1) (by decide)
  unfold zdata rowB
  have e1 : (H4 e).fr.data.toList = [] := rfl
  have e2 : (H4 e).tu.data.toList = [] := rfl
  simp only [e1, e2, List.length_append, List.length_nil, List.length_cons] at *
  omega
theorem laid4 (e : Int) : ∃ D1, ledOpen (DiskM.fresh 262144) (nm (zpre 4)) = (DiskM.fresh 262144, 0, MM none []) ∧ ledWrite (nm (zpre 4)) (DiskM.fresh 262144) (MM none []) 0 (zdata (H4 e) [0, 0, 0, 0]) = ⟨D1, MM (some (0, zdata (H4 e) [0, 0, 0, 0])) [], 0, 0⟩ := by
  have hp : 1 ≤ (nm (zpre 4)).length ∧ (nm (zpre 4)).length ≤ 20 := by rw [zp4]; decide
  have hl := lies_new (nm (zpre 4)) 262144
  have hz := zd4_len e
  obtain ⟨D1, h1, -, -, -⟩ := wri_lies (n := 0) (p := zdata (H4 e) [0, 0, 0, 0]) hp (ok_fresh 262144 (by decide)) (tame_new (by decide)) hl (by decide) (by decide) (by omega) (by omega) (by decide)
  exact ⟨D1, open_lies hp hl trivial ⟨by decide, by intro e h; cases h⟩, h1⟩
set_option maxRecDepth 100000 in
set_option maxHeartbeats 8000000 in
theorem zold_walk (w : World) (e b i : Int) (he : -9223372036854775808 ≤ e ∧ e ≤ 9223372036854775807) (hb : -9223372036854775808 ≤ b ∧ b ≤ 9223372036854775807) (hi : -9223372036854775808 ≤ i ∧ i ≤ 9223372036854775807) : Calls Tryz.prog 5 #[.int .i64 e, .int .i64 b, .int .i64 i] w (RetB true w) := by
  by_cases g0 : e < 1
  · go_enter Tryz.func5, Tryz.ntmps5
    go_wp2_with fail
    refine (known15_calls _).mono ?_
    rintro e w2 ⟨rfl, hb2⟩
    have H2 := Lib.hid hb2
    clear hb2
    go_wp2_with fail
    go_ret
    exact ⟨rfl, H2.out⟩
  by_cases g1 : e > 1073741824
  · go_enter Tryz.func5, Tryz.ntmps5
    go_wp2_with fail
    refine (known15_calls _).mono ?_
    rintro e w2 ⟨rfl, hb2⟩
    have H2 := Lib.hid hb2
    clear hb2
    go_wp2_with fail
    go_ret
    exact ⟨rfl, H2.out⟩
  by_cases g2 : b < 0
  · go_enter Tryz.func5, Tryz.ntmps5
    go_wp2_with fail
    refine (known15_calls _).mono ?_
    rintro e w2 ⟨rfl, hb2⟩
    have H2 := Lib.hid hb2
    clear hb2
    go_wp2_with fail
    go_ret
    exact ⟨rfl, H2.out⟩
  by_cases g3 : b > 1073741824
  · go_enter Tryz.func5, Tryz.ntmps5
    go_wp2_with fail
    refine (known15_calls _).mono ?_
    rintro e w2 ⟨rfl, hb2⟩
    have H2 := Lib.hid hb2
    clear hb2
    go_wp2_with fail
    go_ret
    exact ⟨rfl, H2.out⟩
  by_cases g4 : i < 1
  · go_enter Tryz.func5, Tryz.ntmps5
    go_wp2_with fail
    refine (known15_calls _).mono ?_
    rintro e w2 ⟨rfl, hb2⟩
    have H2 := Lib.hid hb2
    clear hb2
    go_wp2_with fail
    go_ret
    exact ⟨rfl, H2.out⟩
  by_cases g5 : i > 1048576
  · go_enter Tryz.func5, Tryz.ntmps5
    go_wp2_with fail
    refine (known15_calls _).mono ?_
    rintro e w2 ⟨rfl, hb2⟩
    have H2 := Lib.hid hb2
    clear hb2
    go_wp2_with fail
    go_ret
    exact ⟨rfl, H2.out⟩
  obtain ⟨D1, ho1, hw1⟩ := laid4 e
  have Hnew := Lib.hid (st_new (w := w) (w1 := w) 262144 (by decide) (by decide) (Below.refl _ _))
  have HN := Lib.hid (fun W => none15_calls W)
  have HM := Lib.hid (fun (W : World) (d : Nat) (p : Option Addr) (c : Nat) (hS : St w W d (DiskM.fresh 262144) NoF) (hx : HasB W (.slice p 4 c) [0, 0, 0, 0]) => make0_calls hS (H4 e) (H4_is ⟨by omega, by omega⟩) 4 rfl (by decide) 0 (by decide) hx ho1 hw1 (by have := zd4_len e; omega))
  clear ho1 hw1
  go_enter Tryz.func5, Tryz.ntmps5
  go_wp2_with fail
  refine Hnew.out.mono ?_
  rintro x W1 ⟨d, rfl, hd⟩
  have Hd := Lib.hid (show St w W1 d (DiskM.fresh 262144) NoF from hd)
  clear hd Hnew
  go_wp2_with (refine bbuild rfl 35 #[(0, .const (.int .i64 4)), (2, .tmp 44), (3, .const (.int .i64 1))] rfl (v := .agg #[.int .i64 (H4 e).id, .string (H4 e).fr, .string (H4 e).tu, .int .i64 (H4 e).epoch, .int .i64 (H4 e).state]) (by kernel_rfl) ?_)
  refine (HN.out _).mono ?_
  rintro x W2 ⟨v, rfl, hv, hvn, hb2⟩
  obtain ⟨pv, cv, rfl⟩ := hv.slice
  have HMk := Lib.hid (HM.out W2 d pv cv (Hd.out.next hb2) hv.has)
  clear hv hvn hb2 HN HM Hd
  go_wp2_with fail
  refine HMk.out.mono ?_
  rintro x W3 ⟨z, rfl, hZ, -⟩
  obtain ⟨eb, l, vm, sm, tm, am, own, hS⟩ := hZ.doS
  have HFu := Lib.hid (st_fuse (hS.led.stF.less (F := fun k => k = z) fun k hk => .inr (.inl hk)) 0 (by decide) (by decide))
  have Hz := Lib.hid hS.zon
  clear hZ hS HMk
  go_wp2_with fail
  refine HFu.out.mono ?_
  rintro x W4 ⟨rfl, hS, hsm⟩
  have H4z := Lib.hid (And.intro ((hsm z rfl).trans Hz.out) hS.below)
  clear hS hsm HFu Hz
  have HSs := Lib.hid (fun (W : World) (hz : W.heap[z]? = some (ZoneO (H4 e) eb l (.slice none 0 0) false)) => zsetsame_calls hz (H4_wf2 ⟨by omega, by omega⟩) (HI_wf 4 e) (H4_is ⟨by omega, by omega⟩))
  go_wp2_with (refine bbuild rfl 35 #[(0, .const (.int .i64 4)), (2, .tmp 59), (3, .const (.int .i64 1))] rfl (v := .agg (HeadL (H4 e)).toArray) (by kernel_rfl) ?_)
  refine (HSs.out _ H4z.out.1).mono ?_
  rintro x W5 ⟨rfl, hb5⟩
  have H5 := Lib.hid (And.intro ((hb5.block _ (lt_of_block H4z.out.1)).trans H4z.out.1) (H4z.out.2.trans (hb5.mono H4z.out.2.size)))
  clear hb5 H4z
  go_upto_region 9 with (fail)
  try simp only [Act.put, uA, uB, uC]
  go_cut [12] (fun s12 wx => (∃ r : Int, s12 = .int .i64 r ∧ r = if e - 1 - b < 1 then 1 else 18) ∧ wx.heap[z]? = some (ZoneO (H4 e) eb l (.slice none 0 0) false) ∧ Below w.heap.size w wx)
  case first =>
    by_cases h1 : e - 1 - b < 1
    · have HO := Lib.hid (fun (W : World) (hz : W.heap[z]? = some (ZoneO (H4 e) eb l (.slice none 0 0) false)) => zset_calls hz (HI_wf 4 (e - 1 - b)) 1 (.inl ⟨.inl (H4_no h1), rfl⟩))
      go_wp2_with (refine bbuild rfl 35 #[(0, .const (.int .i64 4)), (2, .tmp 66), (3, .const (.int .i64 1))] rfl (v := .agg (HeadL (H4 (e - 1 - b))).toArray) (by kernel_rfl) ?_)
      refine (HO.out _ H5.out.1).mono ?_
      rintro x W6 ⟨rfl, hb6⟩
      have H6 := Lib.hid (And.intro ((hb6.block _ (lt_of_block H5.out.1)).trans H5.out.1) (H5.out.2.trans (hb6.mono H5.out.2.size)))
      clear hb6
      go_wp2_with fail
      go_meet
      exact ⟨⟨_, rfl, by rw [if_pos (by omega)]⟩, H6.out⟩
    · have HO := Lib.hid (fun (W : World) (hz : W.heap[z]? = some (ZoneO (H4 e) eb l (.slice none 0 0) false)) => zset_calls hz (HI_wf 4 (e - 1 - b)) 18 (.inr ⟨H4_is ⟨by omega, by omega⟩, rfl, (by show e - 1 - b < e; omega), rfl⟩))
      go_wp2_with (refine bbuild rfl 35 #[(0, .const (.int .i64 4)), (2, .tmp 66), (3, .const (.int .i64 1))] rfl (v := .agg (HeadL (H4 (e - 1 - b))).toArray) (by kernel_rfl) ?_)
      refine (HO.out _ H5.out.1).mono ?_
      rintro x W6 ⟨rfl, hb6⟩
      have H6 := Lib.hid (And.intro ((hb6.block _ (lt_of_block H5.out.1)).trans H5.out.1) (H5.out.2.trans (hb6.mono H5.out.2.size)))
      clear hb6
      go_wp2_with fail
      go_meet
      exact ⟨⟨_, rfl, by rw [if_neg (by omega)]⟩, H6.out⟩
  case rest =>
    obtain ⟨⟨r, rfl, hr⟩, hz6, hB6⟩ := hcut
    have H6 := Lib.hid (And.intro hz6 hB6)
    clear hz6 hB6 H5
    have Hr := Lib.hid hr
    clear hr
    go_upto_region 10 with (fail)
    try simp only [Act.put, uA, uB, uC]
    go_cut [13] (fun s13 wx => (i = 4 ∧ s13 = .int .i64 0 ∨ i ≠ 4 ∧ s13 = .int .i64 1) ∧ wx.heap[z]? = some (ZoneO (H4 e) eb l (.slice none 0 0) false) ∧ Below w.heap.size w wx)
    case first =>
      by_cases h4 : i = 4
      · subst h4
        go_wp2_with (refine bbuild rfl 35 #[(0, .tmp 70), (2, .tmp 71), (3, .const (.int .i64 1))] rfl (v := .agg (HeadL (H4 e)).toArray) (by kernel_rfl) ?_)
        refine (HSs.out _ H6.out.1).mono ?_
        rintro x W7 ⟨rfl, hb7⟩
        have H7 := Lib.hid (And.intro ((hb7.block _ (lt_of_block H6.out.1)).trans H6.out.1) (H6.out.2.trans (hb7.mono H6.out.2.size)))
        clear hb7
        go_wp2_with fail
        go_meet
        exact ⟨.inl ⟨by trivial, rfl⟩, H7.out⟩
      · have HO := Lib.hid (fun (W : World) (hz : W.heap[z]? = some (ZoneO (H4 e) eb l (.slice none 0 0) false)) => zset_calls hz (HI_wf i e) 1 (.inl ⟨.inr h4, rfl⟩))
        go_wp2_with (refine bbuild rfl 35 #[(0, .tmp 70), (2, .tmp 71), (3, .const (.int .i64 1))] rfl (v := .agg (HeadL ⟨i, ⟨#[]⟩, ⟨#[]⟩, e, 1⟩).toArray) (by kernel_rfl) ?_)
        refine (HO.out _ H6.out.1).mono ?_
        rintro x W7 ⟨rfl, hb7⟩
        have H7 := Lib.hid (And.intro ((hb7.block _ (lt_of_block H6.out.1)).trans H6.out.1) (H6.out.2.trans (hb7.mono H6.out.2.size)))
        clear hb7
        go_wp2_with fail
        go_meet
        exact ⟨.inr ⟨h4, rfl⟩, H7.out⟩
    case rest =>
      obtain ⟨h13, hz7, hB7⟩ := hcut
      have H7 := Lib.hid (And.intro hz7 hB7)
      clear hz7 hB7 H6 HSs
      have HD := Lib.hid (zhead_calls H7.out.1)
      have hr := Hr.out
      clear Hr
      by_cases h1 : e - 1 - b < 1
      · rw [if_pos h1] at hr
        subst hr
        rcases h13 with ⟨h4, rfl⟩ | ⟨h4, rfl⟩
        · subst h4
          go_wp2_with fail
          refine HD.out.mono ?_
          rintro x W9 ⟨rfl, hb9⟩
          have H9 := Lib.hid (H7.out.2.trans (hb9.mono H7.out.2.size))
          clear hb9 HD H7
          go_wp2_with (first
            | (refine bbuild rfl 35 #[(0, .const (.int .i64 4)), (2, .tmp 96), (3, .const (.int .i64 1))] rfl (v := .agg (HeadL (H4 e)).toArray) (by kernel_rfl) ?_)
            | (refine beql rfl 35 _ (.tmp 95) (.tmp 97) rfl rfl rfl (by kernel_rfl) (head_same _ (H4 e) (H4_wf2 ⟨by omega, by omega⟩)) ?_))
          refine (known15_calls _).mono ?_
          rintro x W10 ⟨rfl, hb10⟩
          have H10 := Lib.hid (H9.out.trans (hb10.mono H9.out.size))
          clear hb10 H9
          go_wp2_with fail
          go_ret
          exact ⟨rfl, H10.out⟩
        · have h4b : (i != 4) = true := by simpa using h4
          go_wp2_with fail
          refine HD.out.mono ?_
          rintro x W9 ⟨rfl, hb9⟩
          have H9 := Lib.hid (H7.out.2.trans (hb9.mono H7.out.2.size))
          clear hb9 HD H7
          go_wp2_with (first
            | (refine bbuild rfl 35 #[(0, .const (.int .i64 4)), (2, .tmp 96), (3, .const (.int .i64 1))] rfl (v := .agg (HeadL (H4 e)).toArray) (by kernel_rfl) ?_)
            | (refine beql rfl 35 _ (.tmp 95) (.tmp 97) rfl rfl rfl (by kernel_rfl) (head_same _ (H4 e) (H4_wf2 ⟨by omega, by omega⟩)) ?_))
          refine (known15_calls _).mono ?_
          rintro x W10 ⟨rfl, hb10⟩
          have H10 := Lib.hid (H9.out.trans (hb10.mono H9.out.size))
          clear hb10 H9
          go_wp2_with fail
          go_ret
          exact ⟨rfl, H10.out⟩
      · rw [if_neg h1] at hr
        subst hr
        rcases h13 with ⟨h4, rfl⟩ | ⟨h4, rfl⟩
        · subst h4
          go_wp2_with fail
          refine HD.out.mono ?_
          rintro x W9 ⟨rfl, hb9⟩
          have H9 := Lib.hid (H7.out.2.trans (hb9.mono H7.out.2.size))
          clear hb9 HD H7
          go_wp2_with (first
            | (refine bbuild rfl 35 #[(0, .const (.int .i64 4)), (2, .tmp 96), (3, .const (.int .i64 1))] rfl (v := .agg (HeadL (H4 e)).toArray) (by kernel_rfl) ?_)
            | (refine beql rfl 35 _ (.tmp 95) (.tmp 97) rfl rfl rfl (by kernel_rfl) (head_same _ (H4 e) (H4_wf2 ⟨by omega, by omega⟩)) ?_))
          refine (known15_calls _).mono ?_
          rintro x W10 ⟨rfl, hb10⟩
          have H10 := Lib.hid (H9.out.trans (hb10.mono H9.out.size))
          clear hb10 H9
          go_wp2_with fail
          go_ret
          exact ⟨rfl, H10.out⟩
        · have h4b : (i != 4) = true := by simpa using h4
          go_wp2_with fail
          refine HD.out.mono ?_
          rintro x W9 ⟨rfl, hb9⟩
          have H9 := Lib.hid (H7.out.2.trans (hb9.mono H7.out.2.size))
          clear hb9 HD H7
          go_wp2_with (first
            | (refine bbuild rfl 35 #[(0, .const (.int .i64 4)), (2, .tmp 96), (3, .const (.int .i64 1))] rfl (v := .agg (HeadL (H4 e)).toArray) (by kernel_rfl) ?_)
            | (refine beql rfl 35 _ (.tmp 95) (.tmp 97) rfl rfl rfl (by kernel_rfl) (head_same _ (H4 e) (H4_wf2 ⟨by omega, by omega⟩)) ?_))
          refine (known15_calls _).mono ?_
          rintro x W10 ⟨rfl, hb10⟩
          have H10 := Lib.hid (H9.out.trans (hb10.mono H9.out.size))
          clear hb10 H9
          go_wp2_with fail
          go_ret
          exact ⟨rfl, H10.out⟩
end Go.Proofs.YtogdfkilhpkloaaGreatDoor
