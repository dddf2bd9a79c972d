/- The document's journal: Open, over an empty disk. satrapylaw5: pair.open, start. The contracts of satrapylaw5.same and satrapylaw5.texts. satrapylaw5.known: the walk. What the laws of the journal have in common: masks, a crash, an opening beside. JournalGroups: the entries, and which group they say (plain). The contract of satrapylaw5.ints. JournalGroups: the lists of groups and of places beside the journal. JournalGroups: the walk. JournalGroups: the walk itself. -/
import Derived.Test.YtapfnehdgailmaaGreatQC
import Derived.Test.YtapfnehdgailmaaGreatQE
import Derived.Test.YtapfnehdgailmaaGreatQF
import Derived.Test.YtapfnehdgailmaaGreatQG
import Derived.Test.YtapfnehdgailmaaGreatQI
import Derived.Test.YtapfnehdgailmaaGreatQJ
import Derived.Test.YtapfnehdgailmaaGreatQL
namespace Go.Proofs.YtapfnehdgailmaaGreat
open Go.RowKit Go.Sat Go.Maps

/-- What an opening of the document's journal over an empty disk leaves. -/
def ROpen0 (w : World) (r : Nat) (own : Nat → Prop) (R : DiskM × Nat) (e : Ending) (w' : World) : Prop :=
  (∃ x, e = .returned (.tuple #[x, .int .i64 (R.2 : Int)]) ∧ (R.2 = 0 → ∃ j, x = .pointer (some ⟨j, 0, none⟩)) ∧ (R.2 ≠ 0 → x = .pointer none)) ∧ ∃ own', RefAt w' r R.1 own' ∧ Chg own w w' ∧ ∀ k, own' k → own k ∨ w.heap.size ≤ k

theorem ropen0_of {w : World} {r : Nat} {own : Nat → Prop} {R : DiskM × Nat} {e : Ending} {w' : World} (h : RStep w r own R e w') {x : Value} (h0 : R.2 = 0 → ∃ j, x = .pointer (some ⟨j, 0, none⟩)) (h1 : R.2 ≠ 0 → x = .pointer none) : ROpen0 w r own R (.returned (.tuple #[x, .int .i64 (R.2 : Int)])) w' :=
  ⟨⟨x, rfl, h0, h1⟩, h.2⟩

theorem wrap_grp {g : List Int} (h : isGrp g = true) : (∀ z ∈ g, -9223372036854775808 ≤ z ∧ z ≤ 9223372036854775807) ∧ g.length ≤ 7 := by
  obtain ⟨h1, h2⟩ := grp_bound h
  exact ⟨fun z hz => by have := h2 z hz; omega, h1⟩

set_option maxRecDepth 100000 in
set_option maxHeartbeats 16000000 in
theorem ropen0_calls {w : World} {r : Nat} {v : Value} {L : List RFile} {own : Nat → Prop} {D : DiskM} (h : RefIn w r v L own D) (hf : D.files = []) (pre : ByteArray) (hps : 1 ≤ pre.size ∧ pre.size ≤ 20) {nodes : List Int} {pn : Option Addr} {nn cn : Nat} (hx : HasI w (.slice pn nn cn) nodes) (hg : isGrp nodes = true) :
    Calls Tryz.prog 18 #[.pointer (some ⟨r, 0, none⟩), .string pre, .slice pn nn cn] w (ROpen0 w r own (D.save1 (logN (nm pre)) (frameN (fstB 0 0 nodes) ++ frameN (trmB 0 (-1))))) := by
  obtain ⟨i0, hi, hz0, hz1, hz2⟩ := info_parts (show (Tryz.prog.info? 3).map (fun i => (i.zero, i.size, i.bytes)) = some (some (.int .i64 0), 1, 8) by kernel_rfl)
  obtain ⟨hz, hl⟩ := wrap_grp hg
  have hn : nodes.length = nn := by obtain ⟨_, _, e⟩ := hx.slice; simp only [Value.slice.injEq] at e; exact e.2.1.symm
  have Hn := Lib.hid hn
  have hn7 : nn ≤ 7 := by omega
  have Hgr := Lib.hid (rgroup_calls hx (by omega))
  rw [hg] at Hgr
  have H := Lib.hid h
  have Hx := Lib.hid hx
  have Hz := Lib.hid hz
  have Hl := Lib.hid hl
  have Hno := Lib.hid (show ∀ n, Sat.get n D.files = none from fun n => by rw [hf]; rfl)
  have hpz1 := hps.1
  have hpz2 := hps.2
  have hsl : (sLog pre).size = pre.size + 4 := size_log pre
  have hssn : (sSnp pre).size = pre.size + 5 := size_snp pre
  have hs1 : (pre ++ (⟨#[45, 108, 111, 103, 126]⟩ : ByteArray)).size = pre.size + 5 := by simp [ByteArray.size_append]; rfl
  have hs2 : (pre ++ (⟨#[45, 115, 110, 97, 112, 126]⟩ : ByteArray)).size = pre.size + 6 := by simp [ByteArray.size_append]; rfl
  clear h hf hx hg hz hl hn
  go_enter Tryz.func18, Tryz.ntmps18
  go_wp2_with fail
  refine Hgr.out.mono ?_
  rintro e w1 ⟨rfl, q, rfl⟩
  have HB1 := Lib.hid (show Below w.heap.size w (w.drewN q) from ⟨rfl, rfl, rfl, Nat.le_refl _, fun _ _ => rfl⟩)
  generalize w.drewN q = w1 at *
  clear Hgr
  have hj1 := new_block w1 (.cells #[.int .i64 0, .int .i64 0, .slice none 0 0, .pointer (some ⟨r, 0, none⟩), .string pre, .int .i64 0, .int .i64 (-1), .slice none 0 0, .slice none 0 0, .bool false] 84)
  have hsz1 : (w1.alloc (.cells #[.int .i64 0, .int .i64 0, .slice none 0 0, .pointer (some ⟨r, 0, none⟩), .string pre, .int .i64 0, .int .i64 (-1), .slice none 0 0, .slice none 0 0, .bool false] 84)).heap.size = w1.heap.size + 1 := by simp
  have Hrow := Lib.hid (show OwnR ((w1.alloc (.cells #[.int .i64 0, .int .i64 0, .slice none 0 0, .pointer (some ⟨r, 0, none⟩), .string pre, .int .i64 0, .int .i64 (-1), .slice none 0 0, .slice none 0 0, .bool false] 84)).alloc (.cells #[] 3)) 3 1 (.slice (some ⟨w1.heap.size + 1, 0, none⟩) 0 0) 0 [] from by
    have := own_empty (w1.alloc (.cells #[.int .i64 0, .int .i64 0, .slice none 0 0, .pointer (some ⟨r, 0, none⟩), .string pre, .int .i64 0, .int .i64 (-1), .slice none 0 0, .slice none 0 0, .bool false] 84)) 3
    rwa [hsz1] at this)
  have HBE := Lib.hid (show Below w.heap.size w ((w1.alloc (.cells #[.int .i64 0, .int .i64 0, .slice none 0 0, .pointer (some ⟨r, 0, none⟩), .string pre, .int .i64 0, .int .i64 (-1), .slice none 0 0, .slice none 0 0, .bool false] 84)).alloc (.cells #[] 3)) from (HB1.out.alloc HB1.out.size _).alloc (by have := HB1.out.size; rw [hsz1]; omega) _)
  have HjE := Lib.hid (old_block (.cells #[] 3) hj1)
  have HszE := Lib.hid (show ((w1.alloc (.cells #[.int .i64 0, .int .i64 0, .slice none 0 0, .pointer (some ⟨r, 0, none⟩), .string pre, .int .i64 0, .int .i64 (-1), .slice none 0 0, .slice none 0 0, .bool false] 84)).alloc (.cells #[] 3)).heap.size = w1.heap.size + 2 from by simp)
  have Hxx := Lib.hid (show Holds ((w1.alloc (.cells #[.int .i64 0, .int .i64 0, .slice none 0 0, .pointer (some ⟨r, 0, none⟩), .string pre, .int .i64 0, .int .i64 (-1), .slice none 0 0, .slice none 0 0, .bool false] 84)).alloc (.cells #[] 3)) 1 (.slice pn nn cn) nn (nodes.map (Value.int .i64)) from by
    have := Holds.chg Hx.out (Chg.of_below HBE.out) fun _ _ => id
    rwa [Hn.out] at this)
  have Hs1 := Lib.hid HB1.out.size
  clear hj1 hsz1
  go_wp2_with (at_builtin; refine wpList_app _ rfl (.tmp 46) (.tmp 47) 38 rfl 3 i0 (.int .i64 0) 1 8 Tryz.underlying38 hi hz0 hz1 hz2 rfl (by decide) (.slice (some ⟨w1.heap.size + 1, 0, none⟩) 0 0) 0 _ rfl Hrow.out (.slice pn nn cn) nn _ rfl Hxx.out (fun u hu => by obtain ⟨z, -, rfl⟩ := List.mem_map.1 hu; rfl) (by unfold maxLen; omega) (by omega) ?_; intro v3 w3 hown3 hgrow3 hloc3; go_loud (rw [Nat.zero_add, List.nil_append] at hown3; have HB3 := Lib.hid (HBE.out.grown hgrow3 HBE.out.size fun k e => by (have e2 : w1.heap.size + 1 = k := Option.some.inj e; have := Hs1.out; omega)); have hj3 := (hgrow3.block w1.heap.size (by rw [HszE.out]; omega) fun e => by (have e2 : w1.heap.size = w1.heap.size + 1 := Option.some.inj e; omega)).trans HjE.out; have Hj3 := Lib.hid hj3; have c2 := cell_of hj3 (i := 2) rfl; have f2 := frozen_of hj3 2; have Hnew3 := Lib.hid (own_ge (B := w1.heap.size + 1) hloc3 (fun k hk => by (have e2 : w1.heap.size + 1 = k := Option.some.inj hk; omega)) (by rw [HszE.out]; omega)); have HO3 := Lib.hid hown3; obtain ⟨p3, q3, rfl⟩ := OwnR.shape hown3; clear hown3 hgrow3 hloc3 hj3))
  clear c2 f2
  have Hj5 := Lib.hid (show ((w3.setCell ⟨w1.heap.size, 2, none⟩ (.slice p3 nn q3)).alloc (.cells #[.string (pre ++ (⟨#[45, 108, 111, 103, 126]⟩ : ByteArray)), .string (pre ++ (⟨#[45, 115, 110, 97, 112, 126]⟩ : ByteArray))] 9)).heap[w1.heap.size]? = some (RJC r 0 0 (.slice p3 nn q3) pre 0 (-1) (.slice none 0 0) (.slice none 0 0) false) from by
    refine old_block _ ?_
    have := set_block Hj3.out 2 (.slice p3 nn q3)
    rw [show (#[Value.int IntKind.i64 0, .int .i64 0, .slice none 0 0, .pointer (some ⟨r, 0, none⟩), .string pre, .int .i64 0, .int .i64 (-1), .slice none 0 0, .slice none 0 0, .bool false] : Array Value).setIfInBounds 2 (.slice p3 nn q3) = #[.int .i64 0, .int .i64 0, .slice p3 nn q3, .pointer (some ⟨r, 0, none⟩), .string pre, .int .i64 0, .int .i64 (-1), .slice none 0 0, .slice none 0 0, .bool false] from rfl] at this
    exact this)
  have HB5s := Lib.hid (show Below w.heap.size w (w3.setCell ⟨w1.heap.size, 2, none⟩ (.slice p3 nn q3)) from (((Chg.of_below HB3.out).mono fun _ _ e => e.elim : Chg (fun k => k = w1.heap.size) w w3).trans (Chg.setCell w3 ⟨w1.heap.size, 2, none⟩ _) fun k _ e => e).below (Nat.le_refl _) fun k hk e => by have := Hs1.out; omega)
  have HB5 := Lib.hid (HB5s.out.alloc HB5s.out.size (.cells #[.string (pre ++ (⟨#[45, 108, 111, 103, 126]⟩ : ByteArray)), .string (pre ++ (⟨#[45, 115, 110, 97, 112, 126]⟩ : ByteArray))] 9))
  have Htx := Lib.hid (new_block (w3.setCell ⟨w1.heap.size, 2, none⟩ (.slice p3 nn q3)) (.cells #[.string (pre ++ (⟨#[45, 108, 111, 103, 126]⟩ : ByteArray)), .string (pre ++ (⟨#[45, 115, 110, 97, 112, 126]⟩ : ByteArray))] 9))
  have HI5 := Lib.hid (show HasI ((w3.setCell ⟨w1.heap.size, 2, none⟩ (.slice p3 nn q3)).alloc (.cells #[.string (pre ++ (⟨#[45, 108, 111, 103, 126]⟩ : ByteArray)), .string (pre ++ (⟨#[45, 115, 110, 97, 112, 126]⟩ : ByteArray))] 9)) (.slice p3 nn q3) nodes from by
    have h1 : OwnR (w3.setCell ⟨w1.heap.size, 2, none⟩ (.slice p3 nn q3)) 3 1 (.slice p3 nn q3) nn (nodes.map (Value.int .i64)) := HO3.out.keep fun k hk => set_other _ fun e => by have h2 := Hnew3.out k hk; have e2 : k = w1.heap.size := e; omega
    have h2 := OwnR.holds h1
    unfold HasI
    rw [Hn.out]
    exact Holds.chg h2 (Chg.alloc _ _) fun _ _ e => e)
  have Hss := Lib.hid (show (w3.setCell ⟨w1.heap.size, 2, none⟩ (.slice p3 nn q3)).heap.size = w3.heap.size from by simp [World.setCell])
  rw [Hss.out] at Htx
  clear Hrow HBE HjE HszE Hxx Hj3 HB3 Hnew3 HO3 HB5s Hss
  generalize hW5 : (w3.setCell ⟨w1.heap.size, 2, none⟩ (.slice p3 nn q3)).alloc (.cells #[.string (pre ++ (⟨#[45, 108, 111, 103, 126]⟩ : ByteArray)), .string (pre ++ (⟨#[45, 115, 110, 97, 112, 126]⟩ : ByteArray))] 9) = W5 at *
  clear hW5
  generalize w3.heap.size = ta at *
  generalize w1.heap.size = j at *
  go_loopw [10] (fun i wr => ∃ k : Nat, (k = 0 ∨ k = 1 ∨ k = 2) ∧ i = .int .i64 k ∧ Below W5.heap.size W5 wr) (fun i _ => 2 - (intOf i).toNat)
  case atStart => exact ⟨0, .inl rfl, rfl, Below.refl _ _⟩
  case round =>
    obtain ⟨k, hk, rfl, hb⟩ := hrel
    have HBr := Lib.hid hb
    have htx := (hb.block ta (lt_of_block Htx.out)).trans Htx.out
    have k0 := cell_of htx (i := 0) rfl
    have k1 := cell_of htx (i := 1) rfl
    have HRr := Lib.hid (H.out.below (HB5.out.trans (hb.mono HB5.out.size)))
    clear hb htx
    rcases hk with rfl | rfl | rfl
    · have Hrd := Lib.hid (rread_calls HRr.out (pre ++ (⟨#[45, 108, 111, 103, 126]⟩ : ByteArray)))
      rw [Hno.out] at Hrd
      go_wp2_with fail
      refine Hrd.out.mono ?_
      rintro e w6 ⟨v6, rfl, -, -, hb6⟩
      have HE := Lib.hid (HBr.out.trans (hb6.mono HBr.out.size))
      clear hb6 Hrd
      rw [show readE (none : Option FileM) = 7 from rfl]
      go_wp2_with fail
      go_roundw
      case rel => exact ⟨1, .inr (.inl rfl), by first | rfl | go_num, HE.out⟩
      case measure => simp [intOf]
    · have Hrd := Lib.hid (rread_calls HRr.out (pre ++ (⟨#[45, 115, 110, 97, 112, 126]⟩ : ByteArray)))
      rw [Hno.out] at Hrd
      go_wp2_with fail
      refine Hrd.out.mono ?_
      rintro e w6 ⟨v6, rfl, -, -, hb6⟩
      have HE := Lib.hid (HBr.out.trans (hb6.mono HBr.out.size))
      clear hb6 Hrd
      rw [show readE (none : Option FileM) = 7 from rfl]
      go_wp2_with fail
      go_roundw
      case rel => exact ⟨2, .inr (.inr rfl), by first | rfl | go_num, HE.out⟩
      case measure => simp [intOf]
    · clear k0 k1
      have Hlo := Lib.hid (rload_calls (HRr.out.below (below_one wr (.cells #[.int .i64 0, .int .i64 0, .slice none 0 0] 82))) (sSnp pre))
      rw [Hno.out] at Hlo
      have HBb := Lib.hid (below_one wr (.cells #[.int .i64 0, .int .i64 0, .slice none 0 0] 82))
      go_wp2_with fail
      refine Hlo.out.mono ?_
      rintro e w6 ⟨v6, rfl, -, -, hb6⟩
      rw [loadE_none]
      have HB6 := Lib.hid (HBb.out.trans (hb6.mono HBb.out.size))
      have HR6 := Lib.hid (HRr.out.below HB6.out)
      have Hrd := Lib.hid (rread_calls HR6.out (sLog pre))
      rw [Hno.out] at Hrd
      clear hb6 Hlo
      go_wp2_with fail
      refine Hrd.out.mono ?_
      rintro e w7 ⟨v7, rfl, -, -, hb7⟩
      rw [show readE (none : Option FileM) = 7 from rfl]
      have HB7 := Lib.hid (HBr.out.trans ((HB6.out.trans (hb7.mono HB6.out.size)).mono HBr.out.size))
      have hj7 := (HB7.out.block j (lt_of_block Hj5.out)).trans Hj5.out
      have c0 := cell_of hj7 (i := 0) rfl
      have Hj7 := Lib.hid hj7
      clear hb7 Hrd hj7
      go_wp2_with fail
      go_quiet (fail)
      go_wp2_with fail
      go_quiet (fail)
      go_wp2_with fail
      generalize hWQ : (World.drewN _ _) = WQ
      have HBq := Lib.hid (show Below w.heap.size w WQ from by
        rw [← hWQ]
        exact (HB5.out.trans (HB7.out.mono HB5.out.size)).trans ⟨rfl, rfl, rfl, Nat.le_refl _, fun _ _ => rfl⟩)
      have Hjq := Lib.hid (show WQ.heap[j]? = some (RJC r 0 0 (.slice p3 nn q3) pre 0 (-1) (.slice none 0 0) (.slice none 0 0) false) from by rw [← hWQ]; exact Hj7.out)
      have HIq := Lib.hid (show HasI WQ (.slice p3 nn q3) nodes from by
        rw [← hWQ]
        exact (Holds.chg HI5.out (Chg.of_below (HB7.out.trans ⟨rfl, rfl, rfl, Nat.le_refl _, fun _ _ => rfl⟩)) fun _ _ => id))
      clear hWQ c0
      have Han := Lib.hid (ranew_calls (H.out.below HBq.out) Hjq.out (fun ho => by have h1 := H.out.olt j ho; have h2 := Hs1.out; omega) HIq.out Hz.out (Nat.le_trans Hl.out (by decide)) (by decide) (by decide) (by decide) (by decide) hpz2)
      rw [show fstB0 0 0 nodes = fstB 0 0 nodes from fstB0_nat (n := 0) (by decide) 0 nodes] at Han
      generalize hR : D.save1 (logN (nm pre)) (frameN (fstB 0 0 nodes) ++ frameN (trmB 0 (-1))) = R at *
      clear hR
      obtain ⟨D9, e9⟩ := R
      by_cases he : e9 = 0
      · subst he
        go_wp2_with fail
        refine Han.out.mono ?_
        intro e w9 hT
        have HE := Lib.hid (ropen0_of (rstep_below HBq.out hT) (x := .pointer (some ⟨j, 0, none⟩)) (fun _ => ⟨j, rfl⟩) fun h => absurd rfl h)
        obtain ⟨rfl, -⟩ := hT
        clear Han
        go_wp2_with fail
        go_ret2
        exact HE.out
      · have hne : ((e9 : Int) != 0) = true := by simp; omega
        have He := Lib.hid he
        clear he
        go_wp2_with fail
        refine Han.out.mono ?_
        intro e w9 hT
        have HE := Lib.hid (ropen0_of (rstep_below HBq.out hT) (x := .pointer none) (fun h => absurd h He.out) fun _ => rfl)
        obtain ⟨rfl, -⟩ := hT
        clear Han
        go_wp2_with fail
        go_ret2
        exact HE.out
end Go.Proofs.YtapfnehdgailmaaGreat

namespace Go.Proofs.YtapfnehdgailmaaGreat
open Go.RowKit Go.Sat Go.Maps

/-- The row of a pair. -/
abbrev PairO (d r : Nat) (j x : Value) (over : Bool) : Obj := .cells #[.pointer (some ⟨d, 0, none⟩), .pointer (some ⟨r, 0, none⟩), j, x, .bool over] 47 (0, 0)
abbrev g012 : List Int := [0, 1, 2]
abbrev LitO : Obj := .cells #[.int .i64 0, .int .i64 1, .int .i64 2] 3 (0, 0)

theorem hasI_012 (W : World) : HasI (W.alloc LitO) (.slice (some ⟨W.heap.size, 0, none⟩) 3 3) g012 :=
  ⟨by simp, some ⟨W.heap.size, 0, none⟩, 3, rfl, fun e => (by cases e), fun a ha i u hu => by
    cases ha
    rw [add_zero]
    refine cell_of (new_block W _) ?_
    simpa using hu⟩

theorem refIn_move {w w' : World} {r : Nat} {D : DiskM} (h : RefIn w r (.slice none 0 0) [] (fun k => k = r) D) (hs : ∀ k, k = r → w'.heap[k]? = w.heap[k]?) (hl : r < w'.heap.size) : RefIn w' r (.slice none 0 0) [] (fun k => k = r) D where
  cells := (hs r rfl).trans h.cells
  row := OwnR.nil _ _ _
  files := h.files
  data := fun x hx => by cases hx
  or := rfl
  ov := fun k hk => by cases hk
  ob := fun x hx => by cases hx
  olt := fun k hk => by rw [hk]; exact hl
  ok := h.ok

/-- What a pair is behind its opening. -/
def Opened (w : World) (p d r room : Nat) (w' : World) : Prop :=
  ∃ j x, JouF w w' j d sA (diskJ0 room [97] g012) (JouM.none0 g012) (fun k => k = p) ∧ w'.heap[p]? = some (PairO d r (.pointer (some ⟨j, 0, none⟩)) (.pointer (some ⟨x, 0, none⟩)) false)

set_option maxRecDepth 100000 in
set_option maxHeartbeats 8000000 in
theorem popen_calls {w w1 : World} {d r p room : Nat} (h : St w w1 d (DiskM.fresh room) (fun k => k = p ∨ k = r)) (hR : RefIn w1 r (.slice none 0 0) [] (fun k => k = r) (DiskM.fresh room)) (hp : w1.heap[p]? = some (PairO d r (.pointer none) (.pointer none) false)) (hge : w.heap.size ≤ r ∧ w.heap.size ≤ p) (hpr : p ≠ r) (hr1 : 200 ≤ room) (hr2 : room ≤ 1048576) :
    Calls Tryz.prog 97 #[.pointer (some ⟨p, 0, none⟩)] w1 fun e w' => e = .returned (.bool true) ∧ Opened w p d r room w' := by
  have Hop := Lib.hid (jopen_calls (h.next (below_one w1 LitO)) (show (DiskM.fresh room).room ≤ 1048576 from hr2) sA (hasI_012 w1) (by simp))
  rw [show jouOpen (DiskM.fresh room) (nm sA) g012 = (diskJ0 room [97] g012, 0, JouM.none0 g012) from jopen_fresh hr1 (by omega) (pre := [97]) ⟨by decide, by decide⟩ (by rfl)] at Hop
  have Hro := Lib.hid (fun W (hW : RefIn W r (.slice none 0 0) [] (fun k => k = r) (DiskM.fresh room)) => show Calls Tryz.prog 18 #[.pointer (some ⟨r, 0, none⟩), .string sA, .slice (some ⟨W.heap.size, 0, none⟩) 3 3] (W.alloc LitO) (ROpen0 (W.alloc LitO) r (fun k => k = r) (diskJ0 room [97] g012, 0)) from by
    have := ropen0_calls (hW.below (below_one W LitO)) rfl sA ⟨by decide, by decide⟩ (hasI_012 W) (by rfl)
    rwa [show (DiskM.fresh room).save1 (logN (nm sA)) (frameN (fstB 0 0 g012) ++ frameN (trmB 0 (-1))) = (diskJ0 room [97] g012, 0) from save_fresh hr1 (by omega) (pre := [97]) ⟨by decide, by decide⟩ (by rfl)] at this)
  have HR := Lib.hid hR
  have Hge := Lib.hid hge
  have Hpr := Lib.hid hpr
  have Hp := Lib.hid hp
  have Hsa := Lib.hid (fun k (hk : k = p ∨ k = r) => h.flt hk)
  have hpa := old_block LitO hp
  have c0 := cell_of hp (i := 0) rfl
  clear h hR hp hge hpr hpa
  go_enter Tryz.func97, Tryz.ntmps97
  go_wp2_with fail
  refine Hop.out.mono ?_
  rintro e w2 ⟨hst, hs, hcase⟩
  rcases hcase with ⟨-, j, rfl, hj⟩ | ⟨hne, -⟩
  · have HJ := Lib.hid hj
    have Hp2 := Lib.hid ((hs p (.inl rfl)).trans (old_block LitO Hp.out))
    have hr2' : ∀ k, k = r → w2.heap[k]? = w1.heap[k]? := fun k hk => by
      rw [hk]
      exact (hs r (.inr rfl)).trans (alloc_was w1 LitO (Hsa.out r (.inr rfl)))
    have HR2 := Lib.hid (refIn_move HR.out hr2' (HJ.out.flt (.inr rfl)))
    have c1 := cell_of Hp2.out (i := 1) rfl
    clear hst hs hj hr2' Hop c0
    have Hro2 := Lib.hid (Hro.out w2 HR2.out)
    go_wp2_with fail
    refine Hro2.out.mono ?_
    rintro e w4 ⟨⟨x, rfl, hx, -⟩, own', -, hc4, -⟩
    obtain ⟨jx, rfl⟩ := hx rfl
    have hlr : r < (w2.alloc LitO).heap.size := Nat.lt_of_lt_of_le (HJ.out.flt (.inr rfl)) (below_one w2 LitO).size
    have HJ4 := Lib.hid (show JouF w w4 j d sA (diskJ0 room [97] g012) (JouM.none0 g012) (fun k => k = p) from (HJ.out.next (below_one w2 LitO)).move hc4 (fun k _ e => ⟨.inr e, by rw [e]; exact Hge.out.1⟩) fun k hk => ⟨.inl (.inl hk), by rw [hk]; exact Nat.lt_of_lt_of_le (Nat.lt_of_lt_of_le (HJ.out.flt (.inl rfl)) (below_one w2 LitO).size) hc4.size⟩)
    have hp4 := (hc4.block p (Nat.lt_of_lt_of_le (HJ.out.flt (.inl rfl)) (below_one w2 LitO).size) Hpr.out).trans (old_block LitO Hp2.out)
    have Hp4 := Lib.hid hp4
    have d2 := cell_of hp4 (i := 2) rfl
    have d3 := cell_of hp4 (i := 3) rfl
    have f2 := frozen_of hp4 2
    have f3 := frozen_of hp4 3
    have HJ5 := Lib.hid (show JouF w ((w4.setCell ⟨p, 2, none⟩ (.pointer (some ⟨j, 0, none⟩))).setCell ⟨p, 3, none⟩ (.pointer (some ⟨jx, 0, none⟩))) j d sA (diskJ0 room [97] g012) (JouM.none0 g012) (fun k => k = p) from HJ4.out.move (S := fun k => k = p) ((Chg.setCell w4 ⟨p, 2, none⟩ _).trans (Chg.setCell _ ⟨p, 3, none⟩ _) fun _ _ e => e) (fun k _ e => ⟨e, by rw [e]; exact Hge.out.2⟩) fun k hk => ⟨.inl hk, by rw [hk]; have := HJ4.out.flt (k := p) rfl; simpa [World.setCell] using this⟩)
    have Hp5 := Lib.hid (show ((w4.setCell ⟨p, 2, none⟩ (.pointer (some ⟨j, 0, none⟩))).setCell ⟨p, 3, none⟩ (.pointer (some ⟨jx, 0, none⟩))).heap[p]? = some (PairO d r (.pointer (some ⟨j, 0, none⟩)) (.pointer (some ⟨jx, 0, none⟩)) false) from by
      have h1 := set_block Hp4.out 2 (.pointer (some ⟨j, 0, none⟩))
      have h2 := set_block h1 3 (.pointer (some ⟨jx, 0, none⟩))
      simpa using h2)
    clear hx hc4 hp4 hlr Hro2 Hro c1
    go_wp2_with fail
    go_ret
    exact ⟨rfl, j, jx, HJ5.out, Hp5.out⟩
  · exact absurd rfl hne

set_option maxRecDepth 100000 in
set_option maxHeartbeats 8000000 in
theorem start_calls (w : World) (room : Nat) (hr1 : 200 ≤ room) (hr2 : room ≤ 1048576) :
    Calls Tryz.prog 21 #[.int .i64 (room : Int)] w fun e w' => ∃ p d r, e = .returned (.tuple #[.pointer (some ⟨p, 0, none⟩), .bool true]) ∧ Opened w p d r room w' ∧ w.heap.size ≤ p := by
  have Hnew := Lib.hid (st_new (w := w) (w1 := w) (room : Int) (by omega) (by omega) (Below.refl _ _))
  have Hrn := Lib.hid (fun W => rnew_calls W (room : Int) (by omega) (by omega))
  have Hpo := Lib.hid (fun W d r p a b c e f => popen_calls (w := w) (w1 := W) (d := d) (r := r) (p := p) a b c e f hr1 hr2)
  rw [Int.toNat_natCast] at Hnew
  go_enter Tryz.func21, Tryz.ntmps21
  go_wp2_with fail
  refine Hnew.out.mono ?_
  rintro e w2 ⟨d, rfl, hst⟩
  have HS2 := Lib.hid hst
  have Hr2 := Lib.hid (Hrn.out w2)
  rw [Int.toNat_natCast] at Hr2
  clear hst Hnew Hrn
  go_wp2_with fail
  refine Hr2.out.mono ?_
  rintro e w3 ⟨r, rfl, hR, hb3, hge3⟩
  have hrl := hR.olt r rfl
  have Hst := Lib.hid (show St w (w3.alloc (PairO d r (.pointer none) (.pointer none) false)) d (DiskM.fresh room) (fun k => k = w3.heap.size ∨ k = r) from HS2.out.move (Chg.of_below (hb3.trans ((below_one w3 _).mono hb3.size))) (fun _ _ h => h.elim) fun k hk => by
    have hs := hb3.size
    have hs2 : (w3.alloc (PairO d r (.pointer none) (.pointer none) false)).heap.size = w3.heap.size + 1 := by simp
    rcases hk with hk | hk
    · exact ⟨.inr (by omega), by omega⟩
    · exact ⟨.inr (by omega), by omega⟩)
  have HRb := Lib.hid (hR.below (below_one w3 (PairO d r (.pointer none) (.pointer none) false)))
  have Hge := Lib.hid (show w.heap.size ≤ r ∧ w.heap.size ≤ w3.heap.size from ⟨Nat.le_trans HS2.out.below.size hge3, Nat.le_trans HS2.out.below.size hb3.size⟩)
  have Hne := Lib.hid (show w3.heap.size ≠ r by omega)
  have Hop := Lib.hid (Hpo.out _ _ _ _ Hst.out HRb.out (new_block w3 _) Hge.out Hne.out)
  clear hR hb3 hge3 hrl Hr2
  go_wp2_with fail
  refine Hop.out.mono ?_
  rintro e w4 ⟨rfl, ho⟩
  have HO := Lib.hid ho
  clear ho Hop
  go_wp2_with fail
  go_ret2
  exact ⟨_, _, _, rfl, HO.out, Hge.out.2⟩
end Go.Proofs.YtapfnehdgailmaaGreat

namespace Go.Proofs.YtapfnehdgailmaaGreat
open Go.RowKit Go.Sat Go.Maps

set_option maxHeartbeats 1000000 in
theorem same5_calls {w : World} {x y : Value} {l m : Bs} (hx : HasB w x l) (hy : HasB w y m) (hl : l.length ≤ 140737488355328) (hm : m.length ≤ 140737488355328) :
    Calls Tryz.prog 33 #[x, y] w (SamePost w (l == m)) := by
  by_cases hlen : l.length = m.length
  · have ax := hx.at
    have ay := hy.at
    obtain ⟨px, cx, rfl⟩ := hx.slice
    obtain ⟨py, cy, rfl⟩ := hy.slice
    have hbne : ((l.length : Int) != (m.length : Int)) = false := by simp [hlen]
    have Hlen := Lib.hid hlen
    have Hax := Lib.hid ax
    have Hay := Lib.hid ay
    clear hx hy hlen ax ay
    generalize hlN : l.length = N at *
    generalize hmM : m.length = M at *
    have HlN := Lib.hid hlN
    have HmM := Lib.hid hmM
    clear hlN hmM
    go_enter Tryz.func33, Tryz.ntmps33
    go_wp2
    go_loopw [5] (fun i wr => ∃ k q : Nat, k ≤ N ∧ i = .int .i64 k ∧ l.take k = m.take k ∧ wr = w.drewN q) (fun i _ => N - (intOf i).toNat)
    case atStart => exact ⟨0, 0, Nat.zero_le _, rfl, rfl, rfl⟩
    case round =>
      obtain ⟨k, q, hk, rfl, htake, rfl⟩ := hrel
      have Htake := Lib.hid htake
      clear htake
      by_cases hlt : k < N
      · have hltM : k < M := by have := Hlen.out; omega
        have hkl : k < l.length := by rw [HlN.out]; exact hlt
        have hkm : k < m.length := by rw [HmM.out]; exact hltM
        have h1 : l[k]? = some l[k] := List.getElem?_eq_getElem hkl
        have h2 : m[k]? = some m[k] := List.getElem?_eq_getElem hkm
        rcases Hax.out with h | ⟨b, o, c, e1, hcx⟩
        · rw [h] at hkl
          simp at hkl
        rcases Hay.out with h | ⟨b2, o2, c2, e2, hcy⟩
        · rw [h] at hkm
          simp at hkm
        cases e1
        cases e2
        have hc1 := hcx k _ h1
        have hc2 := hcy k _ h2
        have Hnext := Lib.hid (fun e => take_eq_succ h1 h2 Htake.out e)
        have Hno := Lib.hid (fun e => ne_at h1 h2 e)
        clear hcx hcy h1 h2
        generalize l[k] = a at *
        generalize m[k] = b at *
        by_cases hab : a = b
        · have hd : ((a.toNat : Int) != (b.toNat : Int)) = false := by simp [hab]
          have Hab := Lib.hid hab
          clear hab hkl hkm
          go_wp2_with fail
          go_quiet (fail)
          go_wp2
          go_roundw
          case rel => exact ⟨k + 1, q + nq, by omega, by go_num, Hnext.out Hab.out, by first | rfl | rw [World.drewN_drewN]⟩
          case measure => simp [intOf]; omega
        · have hd : ((a.toNat : Int) != (b.toNat : Int)) = true := by
            simp only [bne_iff_ne, ne_eq, Int.natCast_inj]
            exact fun e => hab (UInt8.toNat.inj e)
          have Hab := Lib.hid hab
          clear hab hkl hkm
          go_wp2_with fail
          go_quiet (fail)
          go_wp2
          go_ret
          exact ⟨by rw [Hno.out Hab.out]; rfl, q + nq, by first | rfl | rw [World.drewN_drewN]⟩
      · go_wp2
        go_ret
        refine ⟨?_, q, rfl⟩
        have h1 := Htake.out
        rw [List.take_of_length_le (by rw [HlN.out]; omega), List.take_of_length_le (by rw [HmM.out]; have := Hlen.out; omega)] at h1
        simp [h1]
  · obtain ⟨px, cx, rfl⟩ := hx.slice
    obtain ⟨py, cy, rfl⟩ := hy.slice
    have hbne : ((l.length : Int) != (m.length : Int)) = true := by simp; omega
    have hres : (l == m) = false := by rw [beq_eq_false_iff_ne]; rintro rfl; exact hlen rfl
    rw [hres]
    clear hx hy hlen hres
    go_enter Tryz.func33, Tryz.ntmps33
    go_wp2
    go_ret
    exact ⟨rfl, 0, rfl⟩

end Go.Proofs.YtapfnehdgailmaaGreat

namespace Go.Proofs.YtapfnehdgailmaaGreat
open Go.RowKit Go.Sat Go.Maps

set_option maxRecDepth 100000 in
set_option maxHeartbeats 8000000 in
theorem known5_calls (w : World) : Calls Tryz.prog 20 #[] w fun e w' => e = .returned (.bool true) ∧ Below w.heap.size w w' := by
  have Hst := Lib.hid (start_calls w 65536 (by decide) (by decide))
  obtain ⟨D1, D2, hk1, hk2⟩ := known5
  have Hk1 := Lib.hid hk1
  have Hk2 := Lib.hid hk2
  clear hk1 hk2
  have kc := fun (w : World) (C : Array Value) (n c : Nat) => Lib.run_convert_bytes_const (P := Tryz.prog) w 22 5 C n c Tryz.underlying22 Tryz.underlying5
  go_enter Tryz.func20, Tryz.ntmps20
  go_wp2_with fail
  refine Hst.out.mono ?_
  rintro e w1 ⟨p, d, r, rfl, ⟨j, x, hJ, hp⟩, -⟩
  have HJ := Lib.hid hJ
  have Hp := Lib.hid hp
  have c2 := cell_of hp (i := 2) rfl
  clear hJ hp Hst
  have HJ3 := Lib.hid (show JouF w ((w1.alloc (.cells #[.int .u8 120] 5 (1, 2))).alloc (.cells #[.int .i64 1, .int .i64 0, .slice none 0 0, .slice none 0 0, .int .i64 2, .int .i64 1, .slice (some ⟨w1.heap.size, 0, none⟩) 1 1, .slice none 0 0] 50)) j d sA (diskJ0 65536 [97] g012) (JouM.none0 g012) (fun k => (k = p ∨ k = w1.heap.size) ∨ k = w1.heap.size + 1) from by
    have := (HJ.out.box (.cells #[.int .u8 120] 5 (1, 2))).box (.cells #[.int .i64 1, .int .i64 0, .slice none 0 0, .slice none 0 0, .int .i64 2, .int .i64 1, .slice (some ⟨w1.heap.size, 0, none⟩) 1 1, .slice none 0 0] 50)
    simpa using this)
  have hb1 : ((w1.alloc (.cells #[.int .u8 120] 5 (1, 2))).alloc (.cells #[.int .i64 1, .int .i64 0, .slice none 0 0, .slice none 0 0, .int .i64 2, .int .i64 1, .slice (some ⟨w1.heap.size, 0, none⟩) 1 1, .slice none 0 0] 50)).heap[w1.heap.size]? = some (.cells #[.int .u8 120] 5 (1, 2)) := old_block _ (new_block w1 _)
  have hb2 : ((w1.alloc (.cells #[.int .u8 120] 5 (1, 2))).alloc (.cells #[.int .i64 1, .int .i64 0, .slice none 0 0, .slice none 0 0, .int .i64 2, .int .i64 1, .slice (some ⟨w1.heap.size, 0, none⟩) 1 1, .slice none 0 0] 50)).heap[w1.heap.size + 1]? = some (.cells #[.int .i64 1, .int .i64 0, .slice none 0 0, .slice none 0 0, .int .i64 2, .int .i64 1, .slice (some ⟨w1.heap.size, 0, none⟩) 1 1, .slice none 0 0] 50) := by have := new_block (w1.alloc (.cells #[.int .u8 120] 5 (1, 2))) (.cells #[.int .i64 1, .int .i64 0, .slice none 0 0, .slice none 0 0, .int .i64 2, .int .i64 1, .slice (some ⟨w1.heap.size, 0, none⟩) 1 1, .slice none 0 0] 50); simpa using this
  have HEn := Lib.hid (show ∀ W, Below w.heap.size w W → Same (fun k => (k = p ∨ k = w1.heap.size) ∨ k = w1.heap.size + 1) ((w1.alloc (.cells #[.int .u8 120] 5 (1, 2))).alloc (.cells #[.int .i64 1, .int .i64 0, .slice none 0 0, .slice none 0 0, .int .i64 2, .int .i64 1, .slice (some ⟨w1.heap.size, 0, none⟩) 1 1, .slice none 0 0] 50)) W → EntsHas W (.slice (some ⟨w1.heap.size + 1, 0, none⟩) 2 2) [ke1, ke2] [(.slice none 0 0, .slice none 0 0), (.slice (some ⟨w1.heap.size, 0, none⟩) 1 1, .slice none 0 0)] from fun W _ hs => by
    have h1 := (hs w1.heap.size (.inl (.inr rfl))).trans hb1
    have h2 := (hs (w1.heap.size + 1) (.inr rfl)).trans hb2
    have hnil : ∀ l : List Value, l = [] → Holds W 1 (.slice none 0 0) 0 l := fun l e => by rw [e]; exact ⟨rfl, none, 0, rfl, fun _ => rfl, fun a ha => by cases ha⟩
    refine ⟨rfl, ⟨rfl, some ⟨w1.heap.size + 1, 0, none⟩, 2, rfl, fun e => (by cases e), fun a ha i u hu => ?_⟩, fun i e v he hv => ?_⟩
    · cases ha
      rw [add_zero]
      refine cell_of h2 ?_
      simpa [entsC, entC, ke1, ke2] using hu
    · match i, he, hv with
      | 0, he, hv =>
        cases he
        cases hv
        exact ⟨hnil _ rfl, hnil _ rfl, by decide, by decide⟩
      | 1, he, hv =>
        cases he
        cases hv
        refine ⟨⟨rfl, some ⟨w1.heap.size, 0, none⟩, 1, rfl, fun e => (by cases e), fun a ha i u hu => ?_⟩, hnil _ rfl, by decide, by decide⟩
        cases ha
        rw [add_zero]
        refine cell_of h1 ?_
        simpa [bytesV, ke2] using hu)
  have Hap := Lib.hid (jappend_calls HJ3.out HEn.out (by decide))
  rw [show jouAppend (nm sA) (diskJ0 65536 [97] g012) (JouM.none0 g012) [ke1, ke2] = ⟨D1, kM1, 0⟩ from Hk1.out] at Hap
  have Hp3 := Lib.hid (old_block (.cells #[.int .i64 1, .int .i64 0, .slice none 0 0, .slice none 0 0, .int .i64 2, .int .i64 1, .slice (some ⟨w1.heap.size, 0, none⟩) 1 1, .slice none 0 0] 50) (old_block (.cells #[.int .u8 120] 5 (1, 2)) Hp.out))
  clear hb1 hb2 HEn
  go_wp2_with fail
  refine Hap.out.mono ?_
  rintro e w2 ⟨rfl, hj2, hs2⟩
  have HJ4 := Lib.hid (hj2.less (F' := fun k => k = p) fun k hk => .inl (.inl hk))
  have Hp4 := Lib.hid ((hs2 p (.inl (.inl rfl))).trans Hp3.out)
  have d2 := cell_of Hp4.out (i := 2) rfl
  clear hj2 hs2 Hap c2
  have HJ5 := Lib.hid (HJ4.out.box (.cells #[.int .u8 115] 5 (1, 2)))
  have hb3 := new_block w2 (.cells #[.int .u8 115] 5 (1, 2))
  have Hco := Lib.hid (jcompact_calls HJ5.out (show kM1.entries.length ≤ 1000000 by decide) 1 (by decide) (pd := some ⟨w2.heap.size, 0, none⟩) (n := 1) (cd := 1) (b := [115]) rfl (by decide) fun W _ hs => ⟨rfl, some ⟨w2.heap.size, 0, none⟩, 1, rfl, fun e => (by cases e), fun a ha i u hu => by
    cases ha
    rw [add_zero]
    refine cell_of ((hs w2.heap.size (.inr rfl)).trans hb3) ?_
    simpa [bytesV] using hu⟩)
  rw [show jouCompact (nm sA) D1 kM1 1 [115] = ⟨D2, kM2, 0⟩ from Hk2.out] at Hco
  have Hp5 := Lib.hid (old_block (.cells #[.int .u8 115] 5 (1, 2)) Hp4.out)
  clear hb3
  go_wp2_with fail
  refine Hco.out.mono ?_
  rintro e w3 ⟨rfl, hj3, hs3⟩
  have HJ6 := Lib.hid hj3
  have Hp6 := Lib.hid ((hs3 p (.inl rfl)).trans Hp5.out)
  have e2 := cell_of Hp6.out (i := 2) rfl
  have Hba := Lib.hid (jbase_calls HJ6.out)
  clear hj3 hs3 Hco d2
  go_wp2_with fail
  refine Hba.out.mono ?_
  rintro e w4 ⟨rfl, q4, rfl⟩
  have HJ7 := Lib.hid (HJ6.out.drewN q4)
  have Hla := Lib.hid (jlast_calls HJ7.out)
  have e2 : (w3.drewN q4).cell? ⟨p, 2, none⟩ = some (.pointer (some ⟨j, 0, none⟩)) := e2
  rw [show ((kM2.number : Nat) : Int) = 1 from rfl, show kM2.term = 1 from rfl]
  go_wp2_with fail
  refine Hla.out.mono ?_
  rintro e w5 ⟨rfl, q5, rfl⟩
  rw [show ((kM2.last : Nat) : Int) = 2 from rfl, show kM2.lastT = 2 from rfl]
  have HJ8 := Lib.hid (HJ6.out.drewN (q4 + q5))
  have Hsn := Lib.hid (jsnap_calls HJ8.out)
  have e3 : ((w3.drewN q4).drewN q5).cell? ⟨p, 2, none⟩ = some (.pointer (some ⟨j, 0, none⟩)) := e2
  go_wp2_with fail
  refine Hsn.out.mono ?_
  rintro e w6 ⟨v, u, rfl, hv, -, -, hb6⟩
  have HB6 := Lib.hid (show Below w.heap.size w w6 from HJ8.out.bel.trans (hb6.mono HJ8.out.bel.size))
  have hv : OwnB w6 5 v [115] := hv
  have Hv := Lib.hid (show HasB (w6.alloc (.cells #[.int .u8 115] 5 (1, 2))) v [115] from (ownB_far hv (below_one w6 (.cells #[.int .u8 115] 5 (1, 2)))).has)
  obtain ⟨pv, cv, rfl, -⟩ := own_cap0 hv
  have Hl := Lib.hid (show HasB (w6.alloc (.cells #[.int .u8 115] 5 (1, 2))) (.slice (some ⟨w6.heap.size, 0, none⟩) 1 1) [115] from ⟨rfl, some ⟨w6.heap.size, 0, none⟩, 1, rfl, fun e => (by cases e), fun a ha i u hu => by
    cases ha
    rw [add_zero]
    refine cell_of (new_block w6 _) ?_
    simpa [bytesV] using hu⟩)
  have Hsm := Lib.hid (same5_calls Hv.out Hl.out (by decide) (by decide))
  have HB7 := Lib.hid (HB6.out.alloc HB6.out.size (.cells #[.int .u8 115] 5 (1, 2)))
  clear hv hb6 Hsn
  go_wp2_with fail
  refine Hsm.out.mono ?_
  rintro e w7 ⟨rfl, n7, rfl⟩
  have HB8 := Lib.hid (HB7.out.trans ⟨rfl, rfl, rfl, Nat.le_refl _, fun _ _ => rfl⟩ : Below w.heap.size w ((w6.alloc (.cells #[.int .u8 115] 5 (1, 2))).drewN n7))
  rw [show ((([115] : Bs) == [115]) : Bool) = true from rfl]
  clear Hsm
  go_wp2_with fail
  go_ret
  exact ⟨rfl, HB8.out⟩
end Go.Proofs.YtapfnehdgailmaaGreat

namespace Go.Proofs.YtapfnehdgailmaaGreat
open Go.RowKit Go.Sat Go.Maps

theorem mask_and (m : Nat) (hm : m ≤ 1073741823) (z : Int) : ∃ c : Nat, bits .and .i64 z (m : Int) = (c : Int) ∧ c ≤ m := by
  have h0 : (BitVec.ofInt 64 (m : Int)).toNat = m := by
    rw [BitVec.toNat_ofInt]
    omega
  have h : (BitVec.ofInt 64 z &&& BitVec.ofInt 64 (m : Int)).toNat ≤ m := by
    rw [BitVec.toNat_and]
    exact Nat.le_trans Nat.and_le_right (Nat.le_of_eq h0)
  refine ⟨(BitVec.ofInt 64 z &&& BitVec.ofInt 64 (m : Int)).toNat, ?_, h⟩
  show IntKind.i64.wrap (((BitVec.ofInt 64 z &&& BitVec.ofInt 64 (m : Int)).toNat : Nat) : Int) = _
  exact IntWalk.i64_in _ (by omega)
theorem mask_3 (z : Int) : ∃ c : Nat, bits .and .i64 z 3 = (c : Int) ∧ c ≤ 3 := mask_and 3 (by decide) z
theorem mask_1023 (z : Int) : ∃ c : Nat, bits .and .i64 z 1023 = (c : Int) ∧ c ≤ 1023 := mask_and 1023 (by decide) z

section
variable {w w1 : World} {j d : Nat} {D : DiskM} {M : JouM} {F : Nat → Prop} {room u : Nat} {g : List Int}

theorem Kept5.more (h : Kept5 room g M D u) {v : Nat} (hv : u ≤ v) : Kept5 room g M D v := ⟨h.ex, Nat.le_trans h.used hv, h.grp, h.alive⟩

end
end Go.Proofs.YtapfnehdgailmaaGreat

namespace Go.Proofs.YtapfnehdgailmaaGreat
open Go.RowKit Go.Sat Go.Maps

/-- The nodes 0 .. c. -/
def upTo (c : Nat) : List Int := (List.range (c + 1)).map fun i : Nat => (i : Int)
theorem upTo_len (c : Nat) : (upTo c).length = c + 1 := by simp [upTo]
theorem upTo_grp : ∀ c, c ≤ 3 → isGrp (upTo c) = true
  | 0, _ => by rfl
  | 1, _ => by rfl
  | 2, _ => by rfl
  | 3, _ => by rfl
  | n + 4, h => by omega
def gE (c : Nat) : Ent := ⟨1, 2, [], upTo c⟩
def gEnts : List Nat → List Ent
  | [] => []
  | c :: r => ke0 :: gE c :: gEnts r
where ke0 : Ent := ⟨1, 0, [], []⟩
theorem gEnts_len : ∀ cs, (gEnts cs).length = 2 * cs.length
  | [] => rfl
  | c :: r => by
    show (gEnts r).length + 1 + 1 = 2 * (r.length + 1)
    rw [gEnts_len r]
    omega
theorem gEnts_app : ∀ cs c, gEnts (cs ++ [c]) = gEnts cs ++ [gEnts.ke0, gE c]
  | [], _ => rfl
  | a :: r, c => by
    show gEnts.ke0 :: gE a :: gEnts (r ++ [c]) = _
    rw [gEnts_app r c]
    rfl
theorem gEnts_even : ∀ (cs : List Nat) (i : Nat), i < cs.length → (gEnts cs)[2 * i]? = some gEnts.ke0
  | [], _, h => by simp at h
  | _ :: _, 0, _ => rfl
  | a :: r, i + 1, h => by
    have := gEnts_even r i (by simpa using h)
    show (gEnts.ke0 :: gE a :: gEnts r)[2 * i + 2]? = _
    rw [List.getElem?_cons_succ, List.getElem?_cons_succ]
    exact this
theorem gEnts_odd : ∀ (cs : List Nat) (i : Nat) (c : Nat), cs[i]? = some c → (gEnts cs)[2 * i + 1]? = some (gE c)
  | [], _, _, h => by simp at h
  | _ :: _, 0, c, h => by
    simp only [List.getElem?_cons_zero, Option.some.injEq] at h
    rw [h]
    rfl
  | a :: r, i + 1, c, h => by
    have := gEnts_odd r i c (by simpa using h)
    show (gEnts.ke0 :: gE a :: gEnts r)[2 * i + 3]? = _
    rw [List.getElem?_cons_succ, List.getElem?_cons_succ]
    exact this
theorem gEnts_ok : ∀ cs, (∀ c ∈ cs, c ≤ 3) → ∀ e ∈ gEnts cs, isEnt e = true
  | [], _, e, he => by cases he
  | c :: r, h, e, he => by
    rcases List.mem_cons.1 he with rfl | he
    · rfl
    rcases List.mem_cons.1 he with rfl | he
    · have hc := h c (by simp)
      show (isTm 1 && (decide (([] : Bs) = []) && isGrp (upTo c))) = true
      rw [upTo_grp c hc]
      rfl
    · exact gEnts_ok r (fun x hx => h x (by simp [hx])) e he

def gM (cs : List Nat) : JouM := ⟨0, 0, [0, 1, 2], 0, -1, [], gEnts cs, false⟩
/-- The journal behind a cut. -/
def gCut (cs : List Nat) (m : Nat) : JouM := ⟨0, 0, [0, 1, 2], 0, -1, [], (gEnts cs).take m, false⟩
/-- The groups, and where they are said. -/
def gWant (cs : List Nat) : List (List Int) := [0, 1, 2] :: cs.map upTo
theorem gWant_len (cs : List Nat) : (gWant cs).length = cs.length + 1 := by simp [gWant]
theorem gWant_app (cs : List Nat) (c : Nat) : gWant (cs ++ [c]) = gWant cs ++ [upTo c] := by simp [gWant]

theorem gGrp (cs : List Nat) : ∀ (m k : Nat), k ≤ m → m ≤ 2 * cs.length → ∃ l, (gWant cs)[k / 2]? = some l ∧ (gCut cs m).grpIn k = (l, 2 * (k / 2))
  | m, 0, _, _ => ⟨[0, 1, 2], rfl, rfl⟩
  | m, k + 1, hk, hm => by
    have hek : (gCut cs m).entries[k]? = (gEnts cs)[k]? := List.getElem?_take_of_lt (by omega)
    rcases Nat.mod_two_eq_zero_or_one k with h2 | h2
    · obtain ⟨i, rfl⟩ : ∃ i, k = 2 * i := ⟨k / 2, by omega⟩
      obtain ⟨l, h3, h4⟩ := gGrp cs m (2 * i) (by omega) hm
      rw [gEnts_even cs i (by omega)] at hek
      rw [show (2 * i + 1) / 2 = 2 * i / 2 by omega]
      exact ⟨l, h3, (grpIn_no hek (by decide)).trans h4⟩
    · obtain ⟨i, rfl⟩ : ∃ i, k = 2 * i + 1 := ⟨k / 2, by omega⟩
      have hc : cs[i]? = some (cs[i]'(by omega)) := List.getElem?_eq_getElem _
      rw [gEnts_odd cs i _ hc] at hek
      have := grpIn_yes hek rfl
      refine ⟨upTo (cs[i]'(by omega)), ?_, ?_⟩
      · rw [show (2 * i + 1 + 1) / 2 = i + 1 by omega]
        show (_ :: cs.map upTo)[i + 1]? = _
        rw [List.getElem?_cons_succ, List.getElem?_map, hc]
        rfl
      · rw [this]
        show (upTo _, 0 + (2 * i + 1) + 1) = _
        rw [show 2 * ((2 * i + 1 + 1) / 2) = 0 + (2 * i + 1) + 1 by omega]
end Go.Proofs.YtapfnehdgailmaaGreat

namespace Go.Proofs.YtapfnehdgailmaaGreat
open Go.RowKit Go.Sat Go.Maps

theorem holds_drewN {w : World} {s n : Nat} {v : Value} {xs : List Value} (h : Holds w s v n xs) (q : Nat) : Holds (w.drewN q) s v n xs :=
  Holds.keep h fun _ _ => rfl

theorem take_eqG {α : Type} {l m : List α} {k : Nat} {x y : α} (hl : l[k]? = some x) (hm : m[k]? = some y) (h : l.take k = m.take k) (e : x = y) : l.take (k + 1) = m.take (k + 1) := by
  rw [List.take_add_one, List.take_add_one, hl, hm, h, e]
theorem ne_atG {α : Type} [BEq α] [LawfulBEq α] {l m : List α} {k : Nat} {x y : α} (hl : l[k]? = some x) (hm : m[k]? = some y) (e : x ≠ y) : (l == m) = false := by
  rw [beq_eq_false_iff_ne]
  rintro rfl
  rw [hl] at hm
  exact e (Option.some.inj hm)

set_option maxHeartbeats 1000000 in
theorem ints5_calls {w : World} {x y : Value} {l m : List Int} (hx : HasI w x l) (hy : HasI w y m) (hl : l.length ≤ 140737488355328) (hm : m.length ≤ 140737488355328) :
    Calls Tryz.prog 26 #[x, y] w (SamePost w (l == m)) := by
  by_cases hlen : l.length = m.length
  · have ax := hx.at
    have ay := hy.at
    obtain ⟨px, cx, rfl⟩ := hx.slice
    obtain ⟨py, cy, rfl⟩ := hy.slice
    have hbne : ((l.length : Int) != (m.length : Int)) = false := by simp [hlen]
    have Hlen := Lib.hid hlen
    have Hax := Lib.hid ax
    have Hay := Lib.hid ay
    clear hx hy hlen ax ay
    generalize hlN : l.length = N at *
    generalize hmM : m.length = M at *
    have HlN := Lib.hid hlN
    have HmM := Lib.hid hmM
    clear hlN hmM
    go_enter Tryz.func26, Tryz.ntmps26
    go_wp2
    go_loopw [5] (fun i wr => ∃ k q : Nat, k ≤ N ∧ i = .int .i64 k ∧ l.take k = m.take k ∧ wr = w.drewN q) (fun i _ => N - (intOf i).toNat)
    case atStart => exact ⟨0, 0, Nat.zero_le _, rfl, rfl, rfl⟩
    case round =>
      obtain ⟨k, q, hk, rfl, htake, rfl⟩ := hrel
      have Htake := Lib.hid htake
      clear htake
      by_cases hlt : k < N
      · have hltM : k < M := by have := Hlen.out; omega
        have hkl : k < l.length := by rw [HlN.out]; exact hlt
        have hkm : k < m.length := by rw [HmM.out]; exact hltM
        have h1 : l[k]? = some l[k] := List.getElem?_eq_getElem hkl
        have h2 : m[k]? = some m[k] := List.getElem?_eq_getElem hkm
        rcases Hax.out with h | ⟨b, o, c, e1, hcx⟩
        · rw [h] at hkl
          simp at hkl
        rcases Hay.out with h | ⟨b2, o2, c2, e2, hcy⟩
        · rw [h] at hkm
          simp at hkm
        cases e1
        cases e2
        have hc1 := hcx k _ h1
        have hc2 := hcy k _ h2
        have Hnext := Lib.hid (fun e => take_eqG h1 h2 Htake.out e)
        have Hno := Lib.hid (fun e => ne_atG h1 h2 e)
        clear hcx hcy h1 h2
        generalize l[k] = a at *
        generalize m[k] = b at *
        by_cases hab : a = b
        · subst hab
          clear hkl hkm
          go_wp2_with fail
          go_quiet (fail)
          go_wp2
          go_roundw
          case rel => exact ⟨k + 1, q + nq, by omega, by go_num, Hnext.out trivial, by first | rfl | rw [World.drewN_drewN]⟩
          case measure => simp [intOf]; omega
        · have hd : ((a != b) = true) := by simpa using hab
          have Hab := Lib.hid hab
          clear hab hkl hkm
          go_wp2_with fail
          go_quiet (fail)
          go_wp2
          go_ret
          exact ⟨by rw [Hno.out Hab.out]; rfl, q + nq, by first | rfl | rw [World.drewN_drewN]⟩
      · go_wp2
        go_ret
        refine ⟨?_, q, rfl⟩
        have h1 := Htake.out
        rw [List.take_of_length_le (by rw [HlN.out]; omega), List.take_of_length_le (by rw [HmM.out]; have := Hlen.out; omega)] at h1
        simp [h1]
  · obtain ⟨px, cx, rfl⟩ := hx.slice
    obtain ⟨py, cy, rfl⟩ := hy.slice
    have hbne : ((l.length : Int) != (m.length : Int)) = true := by simp; omega
    have hres : (l == m) = false := by rw [beq_eq_false_iff_ne]; rintro rfl; exact hlen rfl
    rw [hres]
    clear hx hy hlen hres
    go_enter Tryz.func26, Tryz.ntmps26
    go_wp2
    go_ret
    exact ⟨rfl, 0, rfl⟩
end Go.Proofs.YtapfnehdgailmaaGreat

namespace Go.Proofs.YtapfnehdgailmaaGreat
open Go.RowKit Go.Sat Go.Maps

def gF (p : Nat) (vw va : Value) (vs : List Value) (b : Nat) : Prop := b = p ∨ vw.ownBlock = some b ∨ va.ownBlock = some b ∨ ∃ v ∈ vs, v.ownBlock = some b
structure GRows (w W : World) (p : Nat) (vw va : Value) (vs : List Value) (ls : List (List Int)) (ks : List Int) : Prop where
  want : OwnR W 38 1 vw ls.length vs
  ats : OwnR W 3 1 va ks.length (intsV ks)
  rows : ∀ (i : Nat) v l, vs[i]? = some v → ls[i]? = some l → HasI W v l
  nw : ∀ b, vw.ownBlock = some b → va.ownBlock ≠ some b ∧ b ≠ p ∧ ∀ v ∈ vs, v.ownBlock ≠ some b
  na : ∀ b, va.ownBlock = some b → b ≠ p ∧ ∀ v ∈ vs, v.ownBlock ≠ some b
  new : ∀ b, gF p vw va vs b → w.heap.size ≤ b
  lt : ∀ b, gF p vw va vs b → b < W.heap.size

section
variable {w W W2 W3 : World} {p : Nat} {vw va vn vw' va' : Value} {vs : List Value} {ls : List (List Int)} {ks : List Int}

theorem GRows.keep (h : GRows w W p vw va vs ls ks) (hs : Same (gF p vw va vs) W W2) (hl : ∀ b, gF p vw va vs b → b < W2.heap.size) : GRows w W2 p vw va vs ls ks where
  want := h.want.keep fun k hk => hs k (.inr (.inl hk))
  ats := h.ats.keep fun k hk => hs k (.inr (.inr (.inl hk)))
  rows := fun i v l hv hl => Holds.keep (h.rows i v l hv hl) fun k hk => hs k (.inr (.inr (.inr ⟨v, List.mem_of_getElem? hv, hk⟩)))
  nw := h.nw
  na := h.na
  new := h.new
  lt := hl
theorem GRows.below (h : GRows w W p vw va vs ls ks) (hb : Below W.heap.size W W2) : GRows w W2 p vw va vs ls ks :=
  h.keep (fun k hk => hb.block k (h.lt k hk)) fun k hk => Nat.lt_of_lt_of_le (h.lt k hk) hb.size

/-- One more row of numbers. -/
theorem GRows.pushW {l : List Int} (h : GRows w W p vw va vs ls ks) (hg : W.grownBy W3 vw.ownBlock) (hloc : vw'.ownBlock = vw.ownBlock ∨ ∃ g, vw'.ownBlock = some g ∧ W.heap.size ≤ g) (hown : OwnR W3 38 1 vw' (ls.length + 1) (vs ++ [vn]))
    (hv : HasI W vn l) (hvn : ∀ b, vn.ownBlock = some b → w.heap.size ≤ b ∧ b < W.heap.size ∧ vw.ownBlock ≠ some b ∧ va.ownBlock ≠ some b) (hws : w.heap.size ≤ W.heap.size) : GRows w W3 p vw' va (vs ++ [vn]) (ls ++ [l]) ks := by
  have hc := Chg.of_grown hg
  have hcases : ∀ b, vw'.ownBlock = some b → vw.ownBlock = some b ∨ W.heap.size ≤ b := fun b hb => by
    rcases hloc with e | ⟨g, e, hg⟩
    · exact .inl (by rw [← e]; exact hb)
    · rw [e] at hb
      cases hb
      exact .inr hg
  refine ⟨by rw [List.length_append]; exact hown, h.ats.keep fun k hk => hc.block k (h.lt k (.inr (.inr (.inl hk)))) fun e => (h.nw k e.symm).1 hk, fun i v l' hv' hl' => ?_, fun b hb => ?_, fun b hb => ?_, fun b hb => ?_, fun b hb => ?_⟩
  · by_cases hi : i < vs.length
    · rw [List.getElem?_append_left hi] at hv'
      have hil : i < ls.length := by
        have := h.want.1
        rw [Nat.mul_one] at this
        omega
      rw [List.getElem?_append_left hil] at hl'
      exact Holds.chg (h.rows i v l' hv' hl') hc fun k hk e => (h.nw k e.symm).2.2 v (List.mem_of_getElem? hv') hk
    · have hlen : vs.length = ls.length := by have := h.want.1; rw [Nat.mul_one] at this; exact this
      have hi2 := (List.getElem?_eq_some_iff.1 hv').1
      rw [List.length_append, List.length_singleton] at hi2
      have hi3 : i = vs.length := by omega
      rw [hi3, List.getElem?_append_right (Nat.le_refl _), Nat.sub_self] at hv'
      rw [hi3, hlen, List.getElem?_append_right (Nat.le_refl _), Nat.sub_self] at hl'
      cases hv'
      cases hl'
      exact Holds.chg hv hc fun k hk e => (hvn k hk).2.2.1 e.symm
  · rcases hcases b hb with h1 | h1
    · refine ⟨(h.nw b h1).1, (h.nw b h1).2.1, fun v hv' => ?_⟩
      rcases List.mem_append.1 hv' with h2 | h2
      · exact (h.nw b h1).2.2 v h2
      · rw [List.mem_singleton.1 h2]
        exact fun e => (hvn b e).2.2.1 h1
    · refine ⟨fun e => by have := h.lt b (.inr (.inr (.inl e))); omega, fun e => by have := h.lt b (.inl e); omega, fun v hv' e => ?_⟩
      rcases List.mem_append.1 hv' with h2 | h2
      · have := h.lt b (.inr (.inr (.inr ⟨v, h2, e⟩)))
        omega
      · rw [List.mem_singleton.1 h2] at e
        have := (hvn b e).2.1
        omega
  · refine ⟨(h.na b hb).1, fun v hv' => ?_⟩
    rcases List.mem_append.1 hv' with h2 | h2
    · exact (h.na b hb).2 v h2
    · rw [List.mem_singleton.1 h2]
      exact fun e => (hvn b e).2.2.2 hb
  · rcases hb with hb | hb | hb | ⟨v, hv', hb⟩
    · exact h.new b (.inl hb)
    · rcases hcases b hb with h1 | h1
      · exact h.new b (.inr (.inl h1))
      · omega
    · exact h.new b (.inr (.inr (.inl hb)))
    · rcases List.mem_append.1 hv' with h2 | h2
      · exact h.new b (.inr (.inr (.inr ⟨v, h2, hb⟩)))
      · rw [List.mem_singleton.1 h2] at hb
        exact (hvn b hb).1
  · rcases hb with hb | hb | hb | ⟨v, hv', hb⟩
    · exact Nat.lt_of_lt_of_le (h.lt b (.inl hb)) hc.size
    · exact OwnR.lt hown hb
    · exact Nat.lt_of_lt_of_le (h.lt b (.inr (.inr (.inl hb)))) hc.size
    · rcases List.mem_append.1 hv' with h2 | h2
      · exact Nat.lt_of_lt_of_le (h.lt b (.inr (.inr (.inr ⟨v, h2, hb⟩)))) hc.size
      · rw [List.mem_singleton.1 h2] at hb
        exact Nat.lt_of_lt_of_le (hvn b hb).2.1 hc.size

/-- One more number. -/
theorem GRows.pushA {z : Int} (h : GRows w W p vw va vs ls ks) (hg : W.grownBy W3 va.ownBlock) (hloc : va'.ownBlock = va.ownBlock ∨ ∃ g, va'.ownBlock = some g ∧ W.heap.size ≤ g) (hown : OwnR W3 3 1 va' (ks.length + 1) (intsV ks ++ [.int .i64 z])) (hws : w.heap.size ≤ W.heap.size) : GRows w W3 p vw va' vs ls (ks ++ [z]) := by
  have hc := Chg.of_grown hg
  have hcases : ∀ b, va'.ownBlock = some b → va.ownBlock = some b ∨ W.heap.size ≤ b := fun b hb => by
    rcases hloc with e | ⟨g, e, hg⟩
    · exact .inl (by rw [← e]; exact hb)
    · rw [e] at hb
      cases hb
      exact .inr hg
  refine ⟨h.want.keep fun k hk => hc.block k (h.lt k (.inr (.inl hk))) fun e => (h.nw k hk).1 e.symm, by rw [List.length_append]; unfold intsV; rw [List.map_append]; exact hown, fun i v l hv hl => Holds.chg (h.rows i v l hv hl) hc fun k hk e => (h.na k e.symm).2 v (List.mem_of_getElem? hv) hk, fun b hb => ⟨fun e => ?_, (h.nw b hb).2⟩, fun b hb => ?_, fun b hb => ?_, fun b hb => ?_⟩
  · rcases hcases b e with h1 | h1
    · exact (h.nw b hb).1 h1
    · have := h.lt b (.inr (.inl hb))
      omega
  · rcases hcases b hb with h1 | h1
    · exact h.na b h1
    · exact ⟨fun e => by have := h.lt b (.inl e); omega, fun v hv e => by have := h.lt b (.inr (.inr (.inr ⟨v, hv, e⟩))); omega⟩
  · rcases hb with hb | hb | hb | hb
    · exact h.new b (.inl hb)
    · exact h.new b (.inr (.inl hb))
    · rcases hcases b hb with h1 | h1
      · exact h.new b (.inr (.inr (.inl h1)))
      · omega
    · exact h.new b (.inr (.inr (.inr hb)))
  · rcases hb with hb | hb | hb | hb
    · exact Nat.lt_of_lt_of_le (h.lt b (.inl hb)) hc.size
    · exact Nat.lt_of_lt_of_le (h.lt b (.inr (.inl hb))) hc.size
    · exact OwnR.lt hown hb
    · exact Nat.lt_of_lt_of_le (h.lt b (.inr (.inr (.inr hb)))) hc.size
end

/-- The places of k groups. -/
def gAt (k : Nat) : List Int := (List.range (k + 1)).map fun i => ((2 * i : Nat) : Int)
theorem gAt_succ (k : Nat) : gAt (k + 1) = gAt k ++ [((2 * (k + 1) : Nat) : Int)] := by
  unfold gAt
  rw [List.range_succ, List.map_append]
  rfl
theorem gAt_len (k : Nat) : (gAt k).length = k + 1 := by simp [gAt]
theorem gAt_at {k i : Nat} (h : i ≤ k) : (gAt k)[i]? = some ((2 * i : Nat) : Int) := by
  unfold gAt
  rw [List.getElem?_map, List.getElem?_range (by omega)]
  rfl

/-- Behind k rounds of the law's loop. -/
def GRel (w wr : World) (p d r k : Nat) (vw va : Value) : Prop :=
  ∃ cs j x o D u vs, cs.length = k ∧ (∀ c ∈ cs, c ≤ 3) ∧ JouF w wr j d sA D (gM cs) (gF p vw va vs) ∧ wr.heap[p]? = some (PairO d r (.pointer (some ⟨j, 0, none⟩)) x o) ∧ Kept5 1048576 g012 (gM cs) D u ∧ u ≤ 150 + 200 * k ∧ GRows w wr p vw va vs (gWant cs) (gAt k)
end Go.Proofs.YtapfnehdgailmaaGreat

namespace Go.Proofs.YtapfnehdgailmaaGreat
open Go.RowKit Go.Sat Go.Maps

theorem own_cellsG {w : World} {e : TypeId} {v : Value} {n : Nat} {xs : List Value} (h : OwnR w e 1 v n xs) (hn : 0 < n) : ∃ g c, v = .slice (some ⟨g, 0, none⟩) n c ∧ ∀ (i : Nat) u, xs[i]? = some u → w.cell? ⟨g, i, none⟩ = some u := by
  have hh := h.holds
  obtain ⟨_, ⟨rfl, h0⟩ | ⟨g, cap, cur, rfl, _⟩⟩ := h
  · omega
  · refine ⟨g, cap, rfl, fun i u hu => ?_⟩
    obtain ⟨_, p, c, e, _, hc⟩ := hh
    cases e
    have := hc _ rfl i u hu
    rwa [add_zero] at this

/-- The numbers below c. -/
def upIn (c : Nat) : List Int := (List.range c).map fun i : Nat => (i : Int)
theorem upIn_len (c : Nat) : (upIn c).length = c := by simp [upIn]
theorem upIn_succ (c : Nat) : upIn (c + 1) = upIn c ++ [(c : Int)] := by
  unfold upIn
  rw [List.range_succ, List.map_append]
  rfl
theorem upIn_up (c : Nat) : upIn (c + 1) = upTo c := rfl

theorem groups_app {cs : List Nat} {c : Nat} {D : DiskM} {u : Nat} (h : Kept5 1048576 g012 (gM cs) D u) (hc : c ≤ 3) (hl : cs.length ≤ 1000) (hu : u + 200 ≤ 1048576) :
    ∃ D', jouAppend [97] D (gM cs) [gEnts.ke0, gE c] = ⟨D', gM (cs ++ [c]), 0⟩ ∧ Kept5 1048576 g012 (gM (cs ++ [c])) D' (u + 200) := by
  have hall : ∀ e ∈ [gEnts.ke0, gE c], isEnt e = true := by
    have := gEnts_ok [c] (fun x hx => by rw [List.mem_singleton.1 hx]; exact hc)
    exact this
  have hlast : (gM cs).last = 2 * cs.length := by
    show 0 + (gEnts cs).length = _
    rw [gEnts_len, Nat.zero_add]
  have hlen : (recsB (entsB (gM cs).last [gEnts.ke0, gE c])).length ≤ 200 := by
    have h1 := recsB_le (c := 82) (entsB (gM cs).last [gEnts.ke0, gE c]) (ents_len2 (c := 36) _ _ (fun e he => ⟨hall e he, by
      rcases (show e = gEnts.ke0 ∨ e = gE c from by simpa using he) with rfl | rfl
      · decide
      · show 0 + 9 * (upTo c).length ≤ 36
        rw [upTo_len]
        omega⟩) (by rw [hlast]; show _ + 2 ≤ _; omega))
    rw [entsB_len] at h1
    exact Nat.le_trans h1 (show (82 + 12) * 2 ≤ 200 by decide)
  obtain ⟨D', h1, h2⟩ := app_go h (es := [gEnts.ke0, gE c]) (by simp) hall (by rw [hlast]; show _ + 2 ≤ _; omega) (.inr (by omega))
  have e : ({ gM cs with entries := (gM cs).entries ++ [gEnts.ke0, gE c] } : JouM) = gM (cs ++ [c]) := by
    unfold gM
    rw [gEnts_app]
  rw [e] at h1 h2
  exact ⟨D', h1, h2.more (by omega)⟩

theorem groups_cut {cs : List Nat} {D : DiskM} {u : Nat} {f : Nat} (h : Kept5 1048576 g012 (gM cs) D u) (hl : cs.length ≤ 1000) (h1 : 1 ≤ f) (h2 : f ≤ 2 * cs.length + 1) (hu : u + 22 ≤ 1048576) :
    ∃ D', jouCut [97] D (gM cs) (f : Int) = ⟨D', gCut cs (f - 1), 0⟩ := by
  have hlast : (gM cs).last = 2 * cs.length := by
    show 0 + (gEnts cs).length = _
    rw [gEnts_len, Nat.zero_add]
  by_cases hf : f ≤ 2 * cs.length
  · obtain ⟨D', h3, -⟩ := cut_go h (i := f) (show 0 < f from h1) (by omega) (by omega) hu
    exact ⟨D', h3⟩
  · refine ⟨D, (cut_past h (i := (f : Int)) (show (0 : Int) < f by omega) (by omega)).trans ?_⟩
    have e : gM cs = gCut cs (f - 1) := by
      unfold gM gCut
      rw [List.take_of_length_le (by rw [gEnts_len]; omega)]
    rw [← e]

section
variable {w W W3 : World} {j d p : Nat} {D : DiskM} {M : JouM} {vw va vn vw' va' : Value} {vs : List Value} {ls ls' : List (List Int)} {ks ks' : List Int}

theorem jg_W (hJ : JouF w W j d sA D M (fun k => gF p vw va vs k ∨ vn.ownBlock = some k)) (h : GRows w W p vw va vs ls ks) (hg : W.grownBy W3 vw.ownBlock) (hloc : vw'.ownBlock = vw.ownBlock ∨ ∃ g, vw'.ownBlock = some g ∧ W.heap.size ≤ g)
    (h3 : GRows w W3 p vw' va (vs ++ [vn]) ls' ks) : JouF w W3 j d sA D M (gF p vw' va (vs ++ [vn])) := by
  refine hJ.move (Chg.of_grown hg) (fun k _ e => ⟨.inl (.inr (.inl e.symm)), h.new k (.inr (.inl e.symm))⟩) fun k hk => ⟨?_, h3.lt k hk⟩
  rcases hk with hk | hk | hk | ⟨v, hv, hk⟩
  · exact .inl (.inl (.inl hk))
  · rcases hloc with e | ⟨g, e, hge⟩
    · exact .inl (.inl (.inr (.inl (e ▸ hk))))
    · rw [e] at hk
      cases hk
      exact .inr hge
  · exact .inl (.inl (.inr (.inr (.inl hk))))
  · rcases List.mem_append.1 hv with h2 | h2
    · exact .inl (.inl (.inr (.inr (.inr ⟨v, h2, hk⟩))))
    · rw [List.mem_singleton.1 h2] at hk
      exact .inl (.inr hk)
theorem jg_A (hJ : JouF w W j d sA D M (gF p vw va vs)) (h : GRows w W p vw va vs ls ks) (hg : W.grownBy W3 va.ownBlock) (hloc : va'.ownBlock = va.ownBlock ∨ ∃ g, va'.ownBlock = some g ∧ W.heap.size ≤ g)
    (h3 : GRows w W3 p vw va' vs ls ks') : JouF w W3 j d sA D M (gF p vw va' vs) := by
  refine hJ.move (Chg.of_grown hg) (fun k _ e => ⟨.inr (.inr (.inl e.symm)), h.new k (.inr (.inr (.inl e.symm)))⟩) fun k hk => ⟨?_, h3.lt k hk⟩
  rcases hk with hk | hk | hk | hk
  · exact .inl (.inl hk)
  · exact .inl (.inr (.inl hk))
  · rcases hloc with e | ⟨g, e, hge⟩
    · exact .inl (.inr (.inr (.inl (e ▸ hk))))
    · rw [e] at hk
      cases hk
      exact .inr hge
  · exact .inl (.inr (.inr (.inr hk)))
end

/-- One more group, and its place. -/
theorem g_push {w w2 w3 : World} {j d r p k m : Nat} {D : DiskM} {cs : List Nat} {vw va vn v3 x y : Value} {o : Bool} {vs : List Value} {wo : Nat} (hG : GRows w w2 p vw va vs (gWant cs) (gAt k)) (hJ : JouF w w2 j d sA D (gM (cs ++ [m])) (fun b => gF p vw va vs b ∨ vn.ownBlock = some b))
    (hp : w2.heap[p]? = some (PairO d r x y o)) (hv : OwnI w2 vn (upTo m)) (hvn : ∀ b, vn.ownBlock = some b → wo ≤ b) (hlt : ∀ b, gF p vw va vs b → b < wo) (hcl : cs.length = k) {xs : List Value}
    (ho : OwnR w3 38 1 v3 (k + 1 + 1) xs) (hxs : xs = vs ++ [vn]) (hg : (w2.alloc (.cells #[vn] 38)).grownBy w3 vw.ownBlock) (hl : v3.ownBlock = vw.ownBlock ∨ ∃ g, v3.ownBlock = some g ∧ (w2.alloc (.cells #[vn] 38)).heap.size ≤ g) (hwo : w.heap.size ≤ wo) :
    GRows w w3 p v3 va (vs ++ [vn]) (gWant (cs ++ [m])) (gAt k) ∧ JouF w w3 j d sA D (gM (cs ++ [m])) (gF p v3 va (vs ++ [vn])) ∧ w3.heap[p]? = some (PairO d r x y o) ∧ OwnR w3 3 1 va (k + 1) (intsV (gAt k)) := by
  subst hxs
  have hb := below_one w2 (.cells #[vn] 38)
  have hG4 : GRows w w3 p v3 va (vs ++ [vn]) (gWant cs ++ [upTo m]) (gAt k) := by
    refine GRows.pushW (hG.below hb) hg hl (by rw [gWant_len, hcl]; exact ho) (OwnI.has (ownI_far hv hb)) (fun b hb2 => ?_) (Nat.le_trans hJ.bel.size hb.size)
    have h1 := hvn b hb2
    refine ⟨by omega, Nat.lt_of_lt_of_le (OwnR.lt hv hb2) hb.size, fun e => ?_, fun e => ?_⟩
    · have := hlt b (.inr (.inl e))
      omega
    · have := hlt b (.inr (.inr (.inl e)))
      omega
  refine ⟨by rw [gWant_app]; exact hG4, jg_W (hJ.next hb) (hG.below hb) hg hl hG4, ((Chg.of_grown hg).block p (Nat.lt_of_lt_of_le (hG.lt p (.inl rfl)) hb.size) fun e => (hG.nw p e.symm).2.1 rfl).trans (old_block _ hp), ?_⟩
  have := hG4.ats
  rwa [gAt_len] at this
theorem g_pushA {w w3 w5 : World} {j d r p k : Nat} {D : DiskM} {cs : List Nat} {vw va v5 x y : Value} {o : Bool} {vs : List Value} {M : JouM} {z : Int} (hz : z = ((2 * (k + 1) : Nat) : Int)) (hG : GRows w w3 p vw va vs (gWant cs) (gAt k)) (hJ : JouF w w3 j d sA D M (gF p vw va vs))
    (hp : w3.heap[p]? = some (PairO d r x y o)) {xs : List Value} (hxs : xs = intsV (gAt k) ++ [.int .i64 z])
    (ho : OwnR w5 3 1 v5 (k + 1 + 1) xs) (hg : (w3.alloc (.cells #[.int .i64 z] 3)).grownBy w5 va.ownBlock) (hl : v5.ownBlock = va.ownBlock ∨ ∃ g, v5.ownBlock = some g ∧ (w3.alloc (.cells #[.int .i64 z] 3)).heap.size ≤ g) :
    GRows w w5 p vw v5 vs (gWant cs) (gAt (k + 1)) ∧ JouF w w5 j d sA D M (gF p vw v5 vs) ∧ w5.heap[p]? = some (PairO d r x y o) := by
  subst hz
  subst hxs
  have hb := below_one w3 (.cells #[.int .i64 ((2 * (k + 1) : Nat) : Int)] 3)
  have hG6 : GRows w w5 p vw v5 vs (gWant cs) (gAt (k + 1)) := by
    rw [gAt_succ]
    exact GRows.pushA (hG.below hb) hg hl (by rw [gAt_len]; exact ho) (Nat.le_trans hJ.bel.size hb.size)
  exact ⟨hG6, jg_A (hJ.next hb) (hG.below hb) hg hl hG6, ((Chg.of_grown hg).block p (Nat.lt_of_lt_of_le (hG.lt p (.inl rfl)) hb.size) fun e => (hG.na p e.symm).1 rfl).trans (old_block _ hp)⟩

/-- The first rows. -/
theorem grows_start {w w1 : World} {p : Nat} (hp : p < w1.heap.size) (hge : w.heap.size ≤ p) (hs : w.heap.size ≤ w1.heap.size) :
    GRows w (((w1.alloc LitO).alloc (.cells #[.slice (some ⟨w1.heap.size, 0, none⟩) 3 3] 38)).alloc (.cells #[.int .i64 0] 3)) p (.slice (some ⟨w1.heap.size + 1, 0, none⟩) 1 1) (.slice (some ⟨w1.heap.size + 2, 0, none⟩) 1 1) [.slice (some ⟨w1.heap.size, 0, none⟩) 3 3] (gWant []) (gAt 0) := by
  have b0 : (((w1.alloc LitO).alloc (.cells #[.slice (some ⟨w1.heap.size, 0, none⟩) 3 3] 38)).alloc (.cells #[.int .i64 0] 3)).heap[w1.heap.size]? = some LitO := old_block _ (old_block _ (new_block w1 _))
  have b1 : (((w1.alloc LitO).alloc (.cells #[.slice (some ⟨w1.heap.size, 0, none⟩) 3 3] 38)).alloc (.cells #[.int .i64 0] 3)).heap[w1.heap.size + 1]? = some (.cells #[.slice (some ⟨w1.heap.size, 0, none⟩) 3 3] 38) := by
    have := old_block (.cells #[.int .i64 0] 3) (new_block (w1.alloc LitO) (.cells #[.slice (some ⟨w1.heap.size, 0, none⟩) 3 3] 38))
    simpa using this
  have b2 : (((w1.alloc LitO).alloc (.cells #[.slice (some ⟨w1.heap.size, 0, none⟩) 3 3] 38)).alloc (.cells #[.int .i64 0] 3)).heap[w1.heap.size + 2]? = some (.cells #[.int .i64 0] 3) := by
    have := new_block ((w1.alloc LitO).alloc (.cells #[.slice (some ⟨w1.heap.size, 0, none⟩) 3 3] 38)) (.cells #[.int .i64 0] 3)
    simpa using this
  have hz : (((w1.alloc LitO).alloc (.cells #[.slice (some ⟨w1.heap.size, 0, none⟩) 3 3] 38)).alloc (.cells #[.int .i64 0] 3)).heap.size = w1.heap.size + 3 := by simp
  generalize ((w1.alloc LitO).alloc (.cells #[.slice (some ⟨w1.heap.size, 0, none⟩) 3 3] 38)).alloc (.cells #[.int .i64 0] 3) = W at *
  have hF : ∀ b, gF p (.slice (some ⟨w1.heap.size + 1, 0, none⟩) 1 1) (.slice (some ⟨w1.heap.size + 2, 0, none⟩) 1 1) [.slice (some ⟨w1.heap.size, 0, none⟩) 3 3] b → b = p ∨ (w1.heap.size ≤ b ∧ b < w1.heap.size + 3) := fun b hb => by
    rcases hb with hb | hb | hb | ⟨v, hv, hb⟩
    · exact .inl hb
    · have := Option.some.inj hb
      exact .inr (by dsimp only at this; omega)
    · have := Option.some.inj hb
      exact .inr (by dsimp only at this; omega)
    · rw [List.mem_singleton.1 hv] at hb
      have := Option.some.inj hb
      exact .inr (by dsimp only at this; omega)
  refine ⟨⟨rfl, .inr ⟨_, 1, _, rfl, b1, by decide, by decide, Nat.le_refl _, rfl⟩⟩, ⟨rfl, .inr ⟨_, 1, _, rfl, b2, by decide, by decide, by decide, rfl⟩⟩, fun i v l hv hl => ?_, fun b hb => ?_, fun b hb => ?_, fun b hb => ?_, fun b hb => ?_⟩
  · cases i with
    | zero =>
      cases hv
      cases hl
      exact ⟨rfl, some ⟨w1.heap.size, 0, none⟩, 3, rfl, fun e => (by cases e), fun a ha i u hu => by
        cases ha
        rw [add_zero]
        refine cell_of b0 ?_
        simpa using hu⟩
    | succ i => cases hv
  · have := Option.some.inj hb
    dsimp only at this
    subst this
    refine ⟨fun e => ?_, by omega, fun v hv e => ?_⟩
    · have := Option.some.inj e
      dsimp only at this
      omega
    · rw [List.mem_singleton.1 hv] at e
      have := Option.some.inj e
      dsimp only at this
      omega
  · have := Option.some.inj hb
    dsimp only at this
    subst this
    refine ⟨by omega, fun v hv e => ?_⟩
    rw [List.mem_singleton.1 hv] at e
    have := Option.some.inj e
    dsimp only at this
    omega
  · rcases hF b hb with h | h <;> omega
  · rcases hF b hb with h | h <;> omega

/-- The two entries that are handed in. -/
abbrev gLit (v : Value) : Obj := .cells #[.int .i64 1, .int .i64 0, .slice none 0 0, .slice none 0 0, .int .i64 1, .int .i64 2, .slice none 0 0, v] 50
theorem gHas {W0 W : World} {F : Nat → Prop} {p : Option Addr} {c n : Nat} (hv : OwnI W0 (.slice p (c + 1) n) (upTo c)) (hF1 : ∀ k, (Value.slice p (c + 1) n).ownBlock = some k → F k) (hF2 : F W0.heap.size) (hs : Same F (W0.alloc (gLit (.slice p (c + 1) n))) W) (hc : c ≤ 3) :
    EntsHas W (.slice (some ⟨W0.heap.size, 0, none⟩) 2 2) [gEnts.ke0, gE c] [(.slice none 0 0, .slice none 0 0), (.slice none 0 0, .slice p (c + 1) n)] := by
  have h2 := (hs W0.heap.size hF2).trans (new_block W0 _)
  have hnil : ∀ l : List Value, l = [] → Holds W 1 (.slice none 0 0) 0 l := fun l e => by rw [e]; exact ⟨rfl, none, 0, rfl, fun _ => rfl, fun a ha => by cases ha⟩
  refine ⟨rfl, ⟨rfl, some ⟨W0.heap.size, 0, none⟩, 2, rfl, fun e => (by cases e), fun a ha i u hu => ?_⟩, fun i e v he hv2 => ?_⟩
  · cases ha
    rw [add_zero]
    refine cell_of h2 ?_
    simpa [entsC, entC, gEnts.ke0, gE] using hu
  · match i, he, hv2 with
    | 0, he, hv2 =>
      cases he
      cases hv2
      exact ⟨hnil _ rfl, hnil _ rfl, by decide, by decide⟩
    | 1, he, hv2 =>
      cases he
      cases hv2
      refine ⟨hnil _ rfl, ?_, Nat.zero_le _, by show (upTo c).length ≤ _; rw [upTo_len]; omega⟩
      exact OwnI.has (OwnR.keep hv fun k hk => (hs k (hF1 k hk)).trans (alloc_was W0 _ (OwnR.lt hv hk)))
end Go.Proofs.YtapfnehdgailmaaGreat

namespace Go.Proofs.YtapfnehdgailmaaGreat
open Go.RowKit Go.Sat Go.Maps

set_option maxRecDepth 100000 in
set_option maxHeartbeats 16000000 in
theorem groups_walk {w : World} {p0 : Option Addr} {n c0 : Nat} {l : List Int} (hx : HasI w (.slice p0 n c0) l) (hl : l.length = n) (hn : n ≤ 17592186044416) (cut : Int) (hd1 : -9223372036854775808 ≤ cut) (hd2 : cut ≤ 9223372036854775807) :
    Calls Tryz.prog 4 #[.slice p0 n c0, .int .i64 cut] w (True3 w) := by
  by_cases hbig : 20 < n
  · have Hkn := Lib.hid (known5_calls w)
    clear hx
    go_enter Tryz.func4, Tryz.ntmps4
    go_wp2_with fail
    refine Hkn.out.mono ?_
    rintro e w1 ⟨rfl, hb⟩
    have Hb := Lib.hid hb
    clear hb
    go_wp2_with fail
    go_ret
    exact ⟨rfl, Hb.out⟩
  obtain ⟨i0, hi, hz0, hz1, hz2⟩ := info_parts (show (Tryz.prog.info? 3).map (fun i => (i.zero, i.size, i.bytes)) = some (some (.int .i64 0), 1, 8) by kernel_rfl)
  obtain ⟨i1, hi1, hz10, hz11, hz12⟩ := info_parts (show (Tryz.prog.info? 38).map (fun i => (i.zero, i.size, i.bytes)) = some (some (.slice none 0 0), 1, 24) by kernel_rfl)
  have Hst := Lib.hid (start_calls w 1048576 (by decide) (by decide))
  have Hx := Lib.hid hx.at
  have Hl := Lib.hid hl
  clear hx hl
  go_enter Tryz.func4, Tryz.ntmps4
  go_wp2_with fail
  refine Hst.out.mono ?_
  rintro e w1 ⟨p, d, r, rfl, ⟨j, x, hJ, hp⟩, hge⟩
  have Hge := Lib.hid hge
  have Hr := Lib.hid (show GRel w (((w1.alloc LitO).alloc (.cells #[.slice (some ⟨w1.heap.size, 0, none⟩) 3 3] 38)).alloc (.cells #[.int .i64 0] 3)) p d r 0 (.slice (some ⟨w1.heap.size + 1, 0, none⟩) 1 1) (.slice (some ⟨w1.heap.size + 2, 0, none⟩) 1 1) from by
    have hg := grows_start (w := w) (w1 := w1) (p := p) (lt_of_block hp) hge hJ.bel.size
    have hbl : Below w1.heap.size w1 (((w1.alloc LitO).alloc (.cells #[.slice (some ⟨w1.heap.size, 0, none⟩) 3 3] 38)).alloc (.cells #[.int .i64 0] 3)) := ((below_one w1 LitO).alloc (by simp) _).alloc (by simp; omega) _
    refine ⟨[], j, _, _, _, 150, _, rfl, fun c hc => (by cases hc), hJ.more hbl fun k hk => ?_, (hbl.block p (lt_of_block hp)).trans hp, keep_start (by rfl), by omega, hg⟩
    rcases hk with hk | hk | hk | ⟨v, hv, hk⟩
    · exact .inl hk
    · have := Option.some.inj hk
      dsimp only at this
      exact .inr (by simp; omega)
    · have := Option.some.inj hk
      dsimp only at this
      exact .inr (by simp; omega)
    · rw [List.mem_singleton.1 hv] at hk
      have := Option.some.inj hk
      dsimp only at this
      exact .inr (by simp; omega))
  clear hJ hp Hst hge
  go_wp2_with fail
  go_loopw [7, 8, 9] (fun vw va i wr => ∃ k : Nat, k ≤ n ∧ i = .int .i64 k ∧ ∃ vw' va', vw' = vw ∧ va' = va ∧ GRel w wr p d r k vw' va') (fun _ _ i _ => n - (intOf i).toNat)
  case atStart => exact ⟨0, Nat.zero_le _, rfl, _, _, rfl, rfl, Hr.out⟩
  case round =>
    clear Hr
    obtain ⟨k, hk, rfl, vw, va, rfl, rfl, cs, j, x, o, D, u, vs, hcl, hc3, hJ, hp, hK, hu, hG⟩ := hrel
    obtain ⟨wo, rfl⟩ : ∃ wo, wo = wr := ⟨_, rfl⟩
    by_cases hlt : k < n
    · rcases Hx.out with h | ⟨b, oo, cc, e1, hcx⟩
      · rw [h] at Hl
        have := Hl.out
        simp at this
        omega
      cases e1
      have hkl : k < l.length := by rw [Hl.out]; exact hlt
      have hcell := hcx k _ (List.getElem?_eq_getElem hkl)
      have hcell2 := (hJ.bel.cell (World.block_lt_of_cell? w _ hcell)).trans hcell
      generalize l[k] = z at *
      obtain ⟨m, hm, hm3⟩ := mask_3 z
      have HJ := Lib.hid hJ
      have Hp := Lib.hid hp
      have HK := Lib.hid hK
      have HG := Lib.hid hG
      have Hcl := Lib.hid hcl
      have Hc3 := Lib.hid hc3
      have Hu := Lib.hid hu
      clear hJ hp hK hG hcell hcx Hx hcl hc3 hu
      go_wp2_with fail
      go_loopw [10, 11] (fun nv i wr => ∃ (q : Nat) (v : Value), q ≤ m + 1 ∧ i = .int .i64 q ∧ v = nv ∧ OwnI wr v (upIn q) ∧ (∀ b, v.ownBlock = some b → wo.heap.size ≤ b) ∧ Below wo.heap.size wo wr) (fun _ i _ => m + 1 - (intOf i).toNat)
      case atStart => exact ⟨0, _, Nat.zero_le _, rfl, rfl, OwnR.nil _ _ _, fun b hb => (by cases hb), Below.refl _ _⟩
      case round =>
        obtain ⟨q, v, hq, rfl, rfl, hown, hnew, hbel⟩ := hrel
        have hcell3 := cell_far hcell2 hbel
        by_cases hqm : q ≤ m
        · have Hown := Lib.hid (show OwnR wr 3 1 v q (intsV (upIn q)) from by have := hown; unfold OwnI at this; rwa [upIn_len] at this)
          have Hnew := Lib.hid hnew
          have Hbel := Lib.hid hbel
          clear hown hnew hbel
          go_wp2_with (at_builtin; have hal := mark_own0 Hown.out (.cells #[.int .i64 (q : Int)] 3); have hxx := slit_one wr (.int .i64 (q : Int)) 3 (0, 0); refine wpList_app _ rfl (.tmp 46) (.tmp 48) 38 rfl 3 i0 (.int .i64 0) 1 8 Tryz.underlying38 hi hz0 hz1 hz2 rfl (by decide) v q _ rfl hal (.slice (some ⟨wr.heap.size, 0, none⟩) 1 1) 1 _ rfl hxx (by simp [Value.oneCell']) (by unfold maxLen; omega) (by omega) ?_; clear hal hxx; intro v4 w4 hown4 hgrow4 hloc4; have HE := Lib.hid (And.intro hown4 (And.intro hgrow4 hloc4)); clear hown4 hgrow4 hloc4)
          go_roundw
          case rel =>
            obtain ⟨ho, hg, hlc⟩ := HE.out
            have hsz := Hbel.out.size
            refine ⟨q + 1, v4, by omega, by go_num, rfl, ?_, fun b hb => ?_, ?_⟩
            · unfold OwnI
              rw [upIn_len, upIn_succ]
              unfold intsV
              rw [List.map_append]
              exact ho
            · rcases hlc with e | ⟨g, e, hgg⟩
              · exact Hnew.out b (e ▸ hb)
              · rw [e] at hb
                cases hb
                simp at hgg
                omega
            · refine (Hbel.out.trans ((below_one wr _).mono hsz)).trans ((Chg.of_grown hg).below (by simp; omega) fun b hb e => ?_)
              have := Hnew.out b e.symm
              omega
          case measure => simp [intOf]; omega
        · have hqe : q = m + 1 := by omega
          subst hqe
          have hqm2 : decide (((m + 1 : Nat) : Int) ≤ (m : Int)) = false := decide_eq_false (by omega)
          rw [upIn_up] at hown
          obtain ⟨pv, cv, hpv, -⟩ := own_capI hown
          rw [upTo_len] at hpv
          subst hpv
          have Hown := Lib.hid hown
          have Hnew := Lib.hid hnew
          have Hbel := Lib.hid hbel
          have hp2 := (hbel.block p (HG.out.lt p (.inl rfl))).trans Hp.out
          have c2 := cell_of hp2 (i := 2) rfl
          have Hp2 := Lib.hid hp2
          have HJ2 := Lib.hid (show JouF w (wr.alloc (gLit (.slice pv (m + 1) cv))) j d sA D (gM cs) (fun b => (gF p vw va vs b ∨ (Value.slice pv (m + 1) cv).ownBlock = some b) ∨ b = wr.heap.size) from by
            have h1 : JouF w wr j d sA D (gM cs) (fun b => gF p vw va vs b ∨ (Value.slice pv (m + 1) cv).ownBlock = some b) := HJ.out.more hbel fun b hb => hb.imp id fun e => ⟨hnew b e, OwnR.lt hown e⟩
            exact h1.box _)
          obtain ⟨D2, ha, hK2⟩ := groups_app (c := m) HK.out hm3 (by have := Hcl.out; omega) (by have := Hu.out; omega)
          have Hap := Lib.hid (jappend_calls (es := [gEnts.ke0, gE m]) HJ2.out (fun W _ hs => gHas hown (fun b hb => .inl (.inr hb)) (.inr rfl) hs hm3) (by decide))
          rw [show jouAppend (nm sA) D (gM cs) [gEnts.ke0, gE m] = ⟨D2, gM (cs ++ [m]), 0⟩ from ha] at Hap
          have HK2 := Lib.hid hK2
          clear hown hnew hbel hp2 ha hK2
          go_wp2_with fail
          refine Hap.out.mono ?_
          rintro e w2 ⟨rfl, hj2, hs2⟩
          have HJ3 := Lib.hid (hj2.less (F' := fun b => gF p vw va vs b ∨ (Value.slice pv (m + 1) cv).ownBlock = some b) fun b hb => .inl hb)
          have Hp3 := Lib.hid ((hs2 p (.inl (.inl (.inl rfl)))).trans (old_block _ Hp2.out))
          have Hv3 := Lib.hid (show OwnI w2 (.slice pv (m + 1) cv) (upTo m) from OwnR.keep Hown.out fun b hb => (hs2 b (.inl (.inr hb))).trans (alloc_was wr _ (OwnR.lt Hown.out hb)))
          have HG3 := Lib.hid (show GRows w w2 p vw va vs (gWant cs) (gAt k) from by
            have h1 := (HG.out.below Hbel.out).below (below_one wr (gLit (.slice pv (m + 1) cv)))
            exact h1.keep (fun b hb => hs2 b (.inl (.inl hb))) fun b hb => hj2.flt (.inl (.inl hb)))
          have Hsz := Lib.hid (show wo.heap.size ≤ wr.heap.size ∧ w.heap.size ≤ wo.heap.size from ⟨Hbel.out.size, HJ.out.bel.size⟩)
          have Hww := Lib.hid (show OwnR w2 38 1 vw (k + 1) vs from by
            have := HG3.out.want
            rwa [gWant_len, Hcl.out] at this)
          clear hj2 hs2 Hap c2 hcell3
          have hk20 : k ≤ 20 := by omega
          go_wp2_with (first | (at_builtin; have hal := mark_own0 Hww.out (.cells #[.slice pv (m + 1) cv] 38); have hxx := slit_one w2 (.slice pv (m + 1) cv) 38 (0, 0); refine wpList_app _ rfl (.tmp 60) (.tmp 62) 45 rfl 38 i1 (.slice none 0 0) 1 24 Tryz.underlying45 hi1 hz10 hz11 hz12 rfl (by decide) vw (k + 1) _ rfl hal (.slice (some ⟨w2.heap.size, 0, none⟩) 1 1) 1 _ rfl hxx (by simp [Value.oneCell']) (by unfold maxLen; omega) (by omega) ?_; clear hal hxx; intro v3 w3 hown3 hgrow3 hloc3; go_loud (have HE3 := Lib.hid (g_push HG3.out HJ3.out Hp3.out Hv3.out Hnew.out HG.out.lt Hcl.out hown3 rfl hgrow3 hloc3 Hsz.out.2); have Hat := Lib.hid HE3.out.2.2.2; clear hown3 hgrow3 hloc3 Hww HG3 HJ3 Hp3 Hv3)) | (at_builtin; have hal := mark_own0 Hat.out (.cells #[.int .i64 (2 * (k : Int) + 2)] 3); have hxx := slit_one w3 (.int .i64 (2 * (k : Int) + 2)) 3 (0, 0); refine wpList_app _ rfl (.tmp 64) (.tmp 68) 38 rfl 3 i0 (.int .i64 0) 1 8 Tryz.underlying38 hi hz0 hz1 hz2 rfl (by decide) va (k + 1) _ rfl hal (.slice (some ⟨w3.heap.size, 0, none⟩) 1 1) 1 _ rfl hxx (by simp [Value.oneCell']) (by unfold maxLen; omega) (by omega) ?_; clear hal hxx; intro v5 w5 hown5 hgrow5 hloc5; go_loud (have HE5 := Lib.hid (g_pushA (by omega) HE3.out.1 HE3.out.2.1 HE3.out.2.2.1 rfl hown5 hgrow5 hloc5); clear hown5 hgrow5 hloc5 Hat)))
          go_roundw
          case rel =>
            refine ⟨k + 1, by omega, by go_num, _, _, rfl, rfl, cs ++ [m], j, _, _, _, _, _, by rw [List.length_append, Hcl.out]; rfl, fun c hc => ?_, HE5.out.2.1, HE5.out.2.2, HK2.out, by have := Hu.out; omega, HE5.out.1⟩
            rcases List.mem_append.1 hc with h | h
            · exact Hc3.out c h
            · rw [List.mem_singleton.1 h]
              exact hm3
          case measure => simp [intOf]; omega
    · obtain rfl : k = n := by omega
      obtain ⟨c, hc, hc1⟩ := mask_1023 cut
      have hrem : Int.tmod (c : Int) (2 * (k : Int) + 1) = ((c % (2 * k + 1) : Nat) : Int) := rfl
      have hKK : c % (2 * k + 1) ≤ 2 * k := by have := Nat.mod_lt c (show 0 < 2 * k + 1 by omega); omega
      generalize c % (2 * k + 1) = K at *
      have hk20 : k ≤ 20 := by omega
      obtain ⟨f, hf⟩ : ∃ f, f = K + 1 := ⟨_, rfl⟩
      have hadd : IntKind.i64.wrap (1 + (K : Int)) = (f : Int) := by rw [IntWalk.i64_in _ (by omega)]; omega
      have hfs : IntKind.i64.wrap ((f : Int) - 1) = (K : Int) := by rw [IntWalk.i64_in _ (by omega)]; omega
      have HJ := Lib.hid hJ
      have Hp := Lib.hid hp
      have HG := Lib.hid hG
      have Hcl := Lib.hid hcl
      have c2 := cell_of hp (i := 2) rfl
      obtain ⟨D2, hcut⟩ := groups_cut (f := f) hK (by omega) (by omega) (by omega) (by omega)
      have Hcu := Lib.hid (jcut_calls hJ (f : Int) (by omega))
      rw [show f - 1 = K by omega] at hcut
      rw [show jouCut (nm sA) D (gM cs) (f : Int) = ⟨D2, gCut cs K, 0⟩ from hcut] at Hcu
      have Hf := Lib.hid hf
      clear hJ hp hK hG hcl hcut hu Hx hf
      go_wp2_with fail
      refine Hcu.out.mono ?_
      rintro e w2 ⟨rfl, hj2, hs2⟩
      have hG2 : GRows w w2 p vw va vs (gWant cs) (gAt k) := HG.out.keep hs2 fun b hb => hj2.flt hb
      have hp2 := (hs2 p (.inl rfl)).trans Hp.out
      obtain ⟨ga, ca, hva, hca⟩ := own_cellsG hG2.ats (by rw [gAt_len]; omega)
      obtain ⟨gw, cw, hvw, hcw⟩ := own_cellsG hG2.want (by rw [gWant_len]; omega)
      have hla := gAt_len k
      have hlw := gWant_len cs
      rw [hla] at hva
      rw [hlw, Hcl.out] at hvw
      subst hva
      subst hvw
      have HJ2 := Lib.hid hj2
      have Hp2 := Lib.hid hp2
      have HG2 := Lib.hid hG2
      have Hca := Lib.hid (fun (q : Nat) (h : q ≤ k) => hca q _ (by
        unfold intsV
        rw [List.getElem?_map, gAt_at h]
        rfl))
      have Hcw := Lib.hid hcw
      have d2 := cell_of hp2 (i := 2) rfl
      have Hnd := Lib.hid (jnodes_calls hj2)
      have hsub : IntKind.i64.wrap (((k + 1 : Nat) : Int) - 1) = (k : Int) := by rw [IntWalk.i64_in _ (by omega)]; omega
      clear hj2 hs2 hG2 hp2 Hcu c2 hca hcw hla hlw HG Hp HJ hrem
      go_wp2_with fail
      go_loop [13] (fun x => ∃ q : Nat, q ≤ k ∧ x = .int .i64 q ∧ K ≤ 2 * q + 1) (fun x => (intOf x).toNat)
      case atStart => exact ⟨k, Nat.le_refl _, by go_num, by omega⟩
      case round =>
        obtain ⟨q, hq, rfl, hqK⟩ := hrel
        have hcq := Hca.out q hq
        obtain ⟨z, hz⟩ : ∃ z : Int, z = ((2 * q : Nat) : Int) := ⟨_, rfl⟩
        rw [← hz] at hcq
        by_cases hge : K + 1 ≤ 2 * q
        · have hge2 : decide ((f : Int) ≤ z) = true := decide_eq_true (by have := Hf.out; omega)
          have Hz := Lib.hid hz
          clear hz
          go_wp2_with fail
          go_round
          case rel => exact ⟨q - 1, by omega, by go_num, by omega⟩
          case measure => simp [intOf]; omega
        · have hge2 : decide ((f : Int) ≤ z) = false := decide_eq_false (by have := Hf.out; omega)
          have hqe : K / 2 = q := by omega
          obtain ⟨lw, hlw, hgr⟩ := gGrp cs K K (Nat.le_refl _) (by rw [Hcl.out]; exact hKK)
          rw [hqe] at hlw hgr
          have hel : (gCut cs K).entries.length = K := by
            show ((gEnts cs).take K).length = K
            rw [List.length_take, gEnts_len, Hcl.out]
            omega
          have hlast : (gCut cs K).last = K := by
            show 0 + (gCut cs K).entries.length = K
            omega
          rw [hel, hgr] at Hnd
          have Hz := Lib.hid hz
          have Hlw := Lib.hid hlw
          have HL := Lib.hid hlast
          clear hz hel hgr hlw hlast
          go_wp2_with fail
          refine Hnd.out.mono ?_
          rintro e w3 ⟨v, rfl, hv, -, hb3⟩
          have HJ3 := Lib.hid (HJ2.out.next hb3)
          have Hp3 := Lib.hid ((hb3.block p (HG2.out.lt p (.inl rfl))).trans Hp2.out)
          have e2 := cell_of Hp3.out (i := 2) rfl
          have HG3 := Lib.hid (HG2.out.below hb3)
          have Hv3 := Lib.hid hv
          have hcq3 := cell_far hcq hb3
          obtain ⟨vq, hvq⟩ : ∃ vq, vs[q]? = some vq := ⟨_, List.getElem?_eq_getElem (by have := HG2.out.want.1; rw [gWant_len, Hcl.out, Nat.mul_one] at this; omega)⟩
          have hcw3 := cell_far (Hcw.out q vq hvq) hb3
          have hvh := HG3.out.rows q vq lw hvq Hlw.out
          have Hla := Lib.hid (jlast_calls HJ3.out)
          rw [HL.out] at Hla
          obtain ⟨pv, cv, rfl, hvl⟩ := own_capI hv
          have Hin := Lib.hid (fun n => ints5_calls (holds_drewN (OwnI.has hv) n) (holds_drewN hvh n))
          have HB3 := Lib.hid (HJ3.out.bel)
          clear hv hb3 hvh hcq Hnd
          go_wp2_with fail
          refine Hla.out.mono ?_
          rintro e w4 ⟨rfl, q4, rfl⟩
          have hlw : lw.length ≤ 140737488355328 := by
            rcases List.mem_cons.1 (List.mem_of_getElem? Hlw.out) with h | h
            · rw [h]
              decide
            · obtain ⟨c5, h6, h5⟩ := List.mem_map.1 h
              have hm5 : c5 ≤ 3 := hc3 c5 (by assumption)
              rw [← h5, upTo_len]
              omega
          have hcw4 : (w3.drewN q4).cell? ⟨gw, q, none⟩ = some vq := hcw3
          have e24 : (w3.drewN q4).cell? ⟨p, 2, none⟩ = some (.pointer (some ⟨j, 0, none⟩)) := e2
          have Hin2 := Lib.hid (Hin.out q4 hlw hlw)
          rw [show (lw == lw) = true from by simp] at Hin2
          go_wp2_with fail
          refine Hin2.out.mono ?_
          rintro e w5 ⟨rfl, q5, rfl⟩
          have hcq5 : (w3.drewN (q4 + q5)).cell? ⟨ga, q, none⟩ = some (.int .i64 (2 * (q : Int))) := by
            have h9 : (w3.drewN (q4 + q5)).cell? ⟨ga, q, none⟩ = some (.int .i64 z) := hcq3
            rw [h9, Hz.out]
            rfl
          have Hkn := Lib.hid (known5_calls (w3.drewN (q4 + q5)))
          clear hcw4 hcw3 hcq3 hqe hsub hge hge2 hc hc1
          go_wp2_with fail
          refine Hkn.out.mono ?_
          rintro e w6 ⟨rfl, hb6⟩
          have HE := Lib.hid ((HB3.out.trans (⟨rfl, rfl, rfl, Nat.le_refl _, fun _ _ => rfl⟩ : Below w.heap.size w3 (w3.drewN (q4 + q5)))).trans (hb6.mono HB3.out.size))
          clear hb6
          go_wp2_with fail
          go_ret
          exact ⟨rfl, HE.out⟩
end Go.Proofs.YtapfnehdgailmaaGreat
