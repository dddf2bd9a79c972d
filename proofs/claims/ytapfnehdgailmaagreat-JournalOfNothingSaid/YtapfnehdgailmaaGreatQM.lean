/- The document's journal: Open, over an empty disk. satrapylaw5: pair.open, start. The contracts of satrapylaw5.same and satrapylaw5.texts. satrapylaw5.known: the walk. What the laws of the journal have in common: masks, a crash, an opening beside. JournalVotes: what SetTerm does (plain), and the walk. An argument that is an entry. journal: what a nil Journal answers. journal: At of a nil journal. The contract of satrapylaw5.ints. The contract of satrapylaw5.entries. JournalOfNothing: the walk. JournalGroups: the entries, and which group they say (plain). JournalGroups: the lists of groups and of places beside the journal. JournalGroups: the walk. -/
import Derived.Lib.SmallJoins
import Derived.Test.YtapfnehdgailmaaGreatQA
import Derived.Test.YtapfnehdgailmaaGreatQB
import Derived.Test.YtapfnehdgailmaaGreatQC
import Derived.Test.YtapfnehdgailmaaGreatQD
import Derived.Test.YtapfnehdgailmaaGreatQE
import Derived.Test.YtapfnehdgailmaaGreatQF
import Derived.Test.YtapfnehdgailmaaGreatQG
import Derived.Test.YtapfnehdgailmaaGreatQI
import Derived.Test.YtapfnehdgailmaaGreatQJ
import Derived.Test.YtapfnehdgailmaaGreatQL
namespace Go.Proofs.YtapfnehdgailmaaGreat
open Go.RowKit Go.Sat Go.Maps

/-- What an opening of the document's journal over an empty disk leaves. -/
def ROpen0 (w : World) (r : Nat) (own : Nat → Prop) (R : DiskM × Nat) (e : Ending) (w' : World) : Prop :=
  (∃ x, e = .returned (.tuple #[x, .int .i64 (R.2 : Int)]) ∧ (R.2 = 0 → ∃ j, x = .pointer (some ⟨j, 0, none⟩)) ∧ (R.2 ≠ 0 → x = .pointer none)) ∧ ∃ own', RefAt w' r R.1 own' ∧ Chg own w w' ∧ ∀ k, own' k → own k ∨ w.heap.size ≤ k

theorem ropen0_of {w : World} {r : Nat} {own : Nat → Prop} {R : DiskM × Nat} {e : Ending} {w' : World} (h : RStep w r own R e w') {x : Value} (h0 : R.2 = 0 → ∃ j, x = .pointer (some ⟨j, 0, none⟩)) (h1 : R.2 ≠ 0 → x = .pointer none) : ROpen0 w r own R (.returned (.tuple #[x, .int .i64 (R.2 : Int)])) w' :=
  ⟨⟨x, rfl, h0, h1⟩, h.2⟩

theorem wrap_grp {g : List Int} (h : isGrp g = true) : (∀ z ∈ g, -9223372036854775808 ≤ z ∧ z ≤ 9223372036854775807) ∧ g.length ≤ 7 := by
  obtain ⟨h1, h2⟩ := grp_bound h
  exact ⟨fun z hz => by have := h2 z hz; omega, h1⟩

set_option maxRecDepth 100000 in
set_option maxHeartbeats 16000000 in
theorem ropen0_calls {w : World} {r : Nat} {v : Value} {L : List RFile} {own : Nat → Prop} {D : DiskM} (h : RefIn w r v L own D) (hf : D.files = []) (pre : ByteArray) (hps : 1 ≤ pre.size ∧ pre.size ≤ 20) {nodes : List Int} {pn : Option Addr} {nn cn : Nat} (hx : HasI w (.slice pn nn cn) nodes) (hg : isGrp nodes = true) :
    Calls Tryz.prog 18 #[.pointer (some ⟨r, 0, none⟩), .string pre, .slice pn nn cn] w (ROpen0 w r own (D.save1 (logN (nm pre)) (frameN (fstB 0 0 nodes) ++ frameN (trmB 0 (-1))))) := by
  obtain ⟨i0, hi, hz0, hz1, hz2⟩ := info_parts (show (Tryz.prog.info? 3).map (fun i => (i.zero, i.size, i.bytes)) = some (some (.int .i64 0), 1, 8) by kernel_rfl)
  obtain ⟨hz, hl⟩ := wrap_grp hg
  have hn : nodes.length = nn := by obtain ⟨_, _, e⟩ := hx.slice; simp only [Value.slice.injEq] at e; exact e.2.1.symm
  have Hn := Lib.hid hn
  have hn7 : nn ≤ 7 := by omega
  have Hgr := Lib.hid (rgroup_calls hx (by omega))
  rw [hg] at Hgr
  have H := Lib.hid h
  have Hx := Lib.hid hx
  have Hz := Lib.hid hz
  have Hl := Lib.hid hl
  have Hno := Lib.hid (show ∀ n, Sat.get n D.files = none from fun n => by rw [hf]; rfl)
  have hpz1 := hps.1
  have hpz2 := hps.2
  have hsl : (sLog pre).size = pre.size + 4 := size_log pre
  have hssn : (sSnp pre).size = pre.size + 5 := size_snp pre
  have hs1 : (pre ++ (⟨#[45, 108, 111, 103, 126]⟩ : ByteArray)).size = pre.size + 5 := by simp [ByteArray.size_append]; rfl
  have hs2 : (pre ++ (⟨#[45, 115, 110, 97, 112, 126]⟩ : ByteArray)).size = pre.size + 6 := by simp [ByteArray.size_append]; rfl
  clear h hf hx hg hz hl hn
  go_enter Tryz.func18, Tryz.ntmps18
  go_wp2_with fail
  refine Hgr.out.mono ?_
  rintro e w1 ⟨rfl, q, rfl⟩
  have HB1 := Lib.hid (show Below w.heap.size w (w.drewN q) from ⟨rfl, rfl, rfl, Nat.le_refl _, fun _ _ => rfl⟩)
  generalize w.drewN q = w1 at *
  clear Hgr
  have hj1 := new_block w1 (.cells #[.int .i64 0, .int .i64 0, .slice none 0 0, .pointer (some ⟨r, 0, none⟩), .string pre, .int .i64 0, .int .i64 (-1), .slice none 0 0, .slice none 0 0, .bool false] 84)
  have hsz1 : (w1.alloc (.cells #[.int .i64 0, .int .i64 0, .slice none 0 0, .pointer (some ⟨r, 0, none⟩), .string pre, .int .i64 0, .int .i64 (-1), .slice none 0 0, .slice none 0 0, .bool false] 84)).heap.size = w1.heap.size + 1 := by simp
  have Hrow := Lib.hid (show OwnR ((w1.alloc (.cells #[.int .i64 0, .int .i64 0, .slice none 0 0, .pointer (some ⟨r, 0, none⟩), .string pre, .int .i64 0, .int .i64 (-1), .slice none 0 0, .slice none 0 0, .bool false] 84)).alloc (.cells #[] 3)) 3 1 (.slice (some ⟨w1.heap.size + 1, 0, none⟩) 0 0) 0 [] from by
    have := own_empty (w1.alloc (.cells #[.int .i64 0, .int .i64 0, .slice none 0 0, .pointer (some ⟨r, 0, none⟩), .string pre, .int .i64 0, .int .i64 (-1), .slice none 0 0, .slice none 0 0, .bool false] 84)) 3
    rwa [hsz1] at this)
  have HBE := Lib.hid (show Below w.heap.size w ((w1.alloc (.cells #[.int .i64 0, .int .i64 0, .slice none 0 0, .pointer (some ⟨r, 0, none⟩), .string pre, .int .i64 0, .int .i64 (-1), .slice none 0 0, .slice none 0 0, .bool false] 84)).alloc (.cells #[] 3)) from (HB1.out.alloc HB1.out.size _).alloc (by have := HB1.out.size; rw [hsz1]; omega) _)
  have HjE := Lib.hid (old_block (.cells #[] 3) hj1)
  have HszE := Lib.hid (show ((w1.alloc (.cells #[.int .i64 0, .int .i64 0, .slice none 0 0, .pointer (some ⟨r, 0, none⟩), .string pre, .int .i64 0, .int .i64 (-1), .slice none 0 0, .slice none 0 0, .bool false] 84)).alloc (.cells #[] 3)).heap.size = w1.heap.size + 2 from by simp)
  have Hxx := Lib.hid (show Holds ((w1.alloc (.cells #[.int .i64 0, .int .i64 0, .slice none 0 0, .pointer (some ⟨r, 0, none⟩), .string pre, .int .i64 0, .int .i64 (-1), .slice none 0 0, .slice none 0 0, .bool false] 84)).alloc (.cells #[] 3)) 1 (.slice pn nn cn) nn (nodes.map (Value.int .i64)) from by
    have := Holds.chg Hx.out (Chg.of_below HBE.out) fun _ _ => id
    rwa [Hn.out] at this)
  have Hs1 := Lib.hid HB1.out.size
  clear hj1 hsz1
  go_wp2_with (at_builtin; refine wpList_app _ rfl (.tmp 46) (.tmp 47) 38 rfl 3 i0 (.int .i64 0) 1 8 Tryz.underlying38 hi hz0 hz1 hz2 rfl (by decide) (.slice (some ⟨w1.heap.size + 1, 0, none⟩) 0 0) 0 _ rfl Hrow.out (.slice pn nn cn) nn _ rfl Hxx.out (fun u hu => by obtain ⟨z, -, rfl⟩ := List.mem_map.1 hu; rfl) (by unfold maxLen; omega) (by omega) ?_; intro v3 w3 hown3 hgrow3 hloc3; go_loud (rw [Nat.zero_add, List.nil_append] at hown3; have HB3 := Lib.hid (HBE.out.grown hgrow3 HBE.out.size fun k e => by (have e2 : w1.heap.size + 1 = k := Option.some.inj e; have := Hs1.out; omega)); have hj3 := (hgrow3.block w1.heap.size (by rw [HszE.out]; omega) fun e => by (have e2 : w1.heap.size = w1.heap.size + 1 := Option.some.inj e; omega)).trans HjE.out; have Hj3 := Lib.hid hj3; have c2 := cell_of hj3 (i := 2) rfl; have f2 := frozen_of hj3 2; have Hnew3 := Lib.hid (own_ge (B := w1.heap.size + 1) hloc3 (fun k hk => by (have e2 : w1.heap.size + 1 = k := Option.some.inj hk; omega)) (by rw [HszE.out]; omega)); have HO3 := Lib.hid hown3; obtain ⟨p3, q3, rfl⟩ := OwnR.shape hown3; clear hown3 hgrow3 hloc3 hj3))
  clear c2 f2
  have Hj5 := Lib.hid (show ((w3.setCell ⟨w1.heap.size, 2, none⟩ (.slice p3 nn q3)).alloc (.cells #[.string (pre ++ (⟨#[45, 108, 111, 103, 126]⟩ : ByteArray)), .string (pre ++ (⟨#[45, 115, 110, 97, 112, 126]⟩ : ByteArray))] 9)).heap[w1.heap.size]? = some (RJC r 0 0 (.slice p3 nn q3) pre 0 (-1) (.slice none 0 0) (.slice none 0 0) false) from by
    refine old_block _ ?_
    have := set_block Hj3.out 2 (.slice p3 nn q3)
    rw [show (#[Value.int IntKind.i64 0, .int .i64 0, .slice none 0 0, .pointer (some ⟨r, 0, none⟩), .string pre, .int .i64 0, .int .i64 (-1), .slice none 0 0, .slice none 0 0, .bool false] : Array Value).setIfInBounds 2 (.slice p3 nn q3) = #[.int .i64 0, .int .i64 0, .slice p3 nn q3, .pointer (some ⟨r, 0, none⟩), .string pre, .int .i64 0, .int .i64 (-1), .slice none 0 0, .slice none 0 0, .bool false] from rfl] at this
    exact this)
  have HB5s := Lib.hid (show Below w.heap.size w (w3.setCell ⟨w1.heap.size, 2, none⟩ (.slice p3 nn q3)) from (((Chg.of_below HB3.out).mono fun _ _ e => e.elim : Chg (fun k => k = w1.heap.size) w w3).trans (Chg.setCell w3 ⟨w1.heap.size, 2, none⟩ _) fun k _ e => e).below (Nat.le_refl _) fun k hk e => by have := Hs1.out; omega)
  have HB5 := Lib.hid (HB5s.out.alloc HB5s.out.size (.cells #[.string (pre ++ (⟨#[45, 108, 111, 103, 126]⟩ : ByteArray)), .string (pre ++ (⟨#[45, 115, 110, 97, 112, 126]⟩ : ByteArray))] 9))
  have Htx := Lib.hid (new_block (w3.setCell ⟨w1.heap.size, 2, none⟩ (.slice p3 nn q3)) (.cells #[.string (pre ++ (⟨#[45, 108, 111, 103, 126]⟩ : ByteArray)), .string (pre ++ (⟨#[45, 115, 110, 97, 112, 126]⟩ : ByteArray))] 9))
  have HI5 := Lib.hid (show HasI ((w3.setCell ⟨w1.heap.size, 2, none⟩ (.slice p3 nn q3)).alloc (.cells #[.string (pre ++ (⟨#[45, 108, 111, 103, 126]⟩ : ByteArray)), .string (pre ++ (⟨#[45, 115, 110, 97, 112, 126]⟩ : ByteArray))] 9)) (.slice p3 nn q3) nodes from by
    have h1 : OwnR (w3.setCell ⟨w1.heap.size, 2, none⟩ (.slice p3 nn q3)) 3 1 (.slice p3 nn q3) nn (nodes.map (Value.int .i64)) := HO3.out.keep fun k hk => set_other _ fun e => by have h2 := Hnew3.out k hk; have e2 : k = w1.heap.size := e; omega
    have h2 := OwnR.holds h1
    unfold HasI
    rw [Hn.out]
    exact Holds.chg h2 (Chg.alloc _ _) fun _ _ e => e)
  have Hss := Lib.hid (show (w3.setCell ⟨w1.heap.size, 2, none⟩ (.slice p3 nn q3)).heap.size = w3.heap.size from by simp [World.setCell])
  rw [Hss.out] at Htx
  clear Hrow HBE HjE HszE Hxx Hj3 HB3 Hnew3 HO3 HB5s Hss
  generalize hW5 : (w3.setCell ⟨w1.heap.size, 2, none⟩ (.slice p3 nn q3)).alloc (.cells #[.string (pre ++ (⟨#[45, 108, 111, 103, 126]⟩ : ByteArray)), .string (pre ++ (⟨#[45, 115, 110, 97, 112, 126]⟩ : ByteArray))] 9) = W5 at *
  clear hW5
  generalize w3.heap.size = ta at *
  generalize w1.heap.size = j at *
  go_loopw [10] (fun i wr => ∃ k : Nat, (k = 0 ∨ k = 1 ∨ k = 2) ∧ i = .int .i64 k ∧ Below W5.heap.size W5 wr) (fun i _ => 2 - (intOf i).toNat)
  case atStart => exact ⟨0, .inl rfl, rfl, Below.refl _ _⟩
  case round =>
    obtain ⟨k, hk, rfl, hb⟩ := hrel
    have HBr := Lib.hid hb
    have htx := (hb.block ta (lt_of_block Htx.out)).trans Htx.out
    have k0 := cell_of htx (i := 0) rfl
    have k1 := cell_of htx (i := 1) rfl
    have HRr := Lib.hid (H.out.below (HB5.out.trans (hb.mono HB5.out.size)))
    clear hb htx
    rcases hk with rfl | rfl | rfl
    · have Hrd := Lib.hid (rread_calls HRr.out (pre ++ (⟨#[45, 108, 111, 103, 126]⟩ : ByteArray)))
      rw [Hno.out] at Hrd
      go_wp2_with fail
      refine Hrd.out.mono ?_
      rintro e w6 ⟨v6, rfl, -, -, hb6⟩
      have HE := Lib.hid (HBr.out.trans (hb6.mono HBr.out.size))
      clear hb6 Hrd
      rw [show readE (none : Option FileM) = 7 from rfl]
      go_wp2_with fail
      go_roundw
      case rel => exact ⟨1, .inr (.inl rfl), by first | rfl | go_num, HE.out⟩
      case measure => simp [intOf]
    · have Hrd := Lib.hid (rread_calls HRr.out (pre ++ (⟨#[45, 115, 110, 97, 112, 126]⟩ : ByteArray)))
      rw [Hno.out] at Hrd
      go_wp2_with fail
      refine Hrd.out.mono ?_
      rintro e w6 ⟨v6, rfl, -, -, hb6⟩
      have HE := Lib.hid (HBr.out.trans (hb6.mono HBr.out.size))
      clear hb6 Hrd
      rw [show readE (none : Option FileM) = 7 from rfl]
      go_wp2_with fail
      go_roundw
      case rel => exact ⟨2, .inr (.inr rfl), by first | rfl | go_num, HE.out⟩
      case measure => simp [intOf]
    · clear k0 k1
      have Hlo := Lib.hid (rload_calls (HRr.out.below (below_one wr (.cells #[.int .i64 0, .int .i64 0, .slice none 0 0] 82))) (sSnp pre))
      rw [Hno.out] at Hlo
      have HBb := Lib.hid (below_one wr (.cells #[.int .i64 0, .int .i64 0, .slice none 0 0] 82))
      go_wp2_with fail
      refine Hlo.out.mono ?_
      rintro e w6 ⟨v6, rfl, -, -, hb6⟩
      rw [loadE_none]
      have HB6 := Lib.hid (HBb.out.trans (hb6.mono HBb.out.size))
      have HR6 := Lib.hid (HRr.out.below HB6.out)
      have Hrd := Lib.hid (rread_calls HR6.out (sLog pre))
      rw [Hno.out] at Hrd
      clear hb6 Hlo
      go_wp2_with fail
      refine Hrd.out.mono ?_
      rintro e w7 ⟨v7, rfl, -, -, hb7⟩
      rw [show readE (none : Option FileM) = 7 from rfl]
      have HB7 := Lib.hid (HBr.out.trans ((HB6.out.trans (hb7.mono HB6.out.size)).mono HBr.out.size))
      have hj7 := (HB7.out.block j (lt_of_block Hj5.out)).trans Hj5.out
      have c0 := cell_of hj7 (i := 0) rfl
      have Hj7 := Lib.hid hj7
      clear hb7 Hrd hj7
      go_wp2_with fail
      go_quiet (fail)
      go_wp2_with fail
      go_quiet (fail)
      go_wp2_with fail
      generalize hWQ : (World.drewN _ _) = WQ
      have HBq := Lib.hid (show Below w.heap.size w WQ from by
        rw [← hWQ]
        exact (HB5.out.trans (HB7.out.mono HB5.out.size)).trans ⟨rfl, rfl, rfl, Nat.le_refl _, fun _ _ => rfl⟩)
      have Hjq := Lib.hid (show WQ.heap[j]? = some (RJC r 0 0 (.slice p3 nn q3) pre 0 (-1) (.slice none 0 0) (.slice none 0 0) false) from by rw [← hWQ]; exact Hj7.out)
      have HIq := Lib.hid (show HasI WQ (.slice p3 nn q3) nodes from by
        rw [← hWQ]
        exact (Holds.chg HI5.out (Chg.of_below (HB7.out.trans ⟨rfl, rfl, rfl, Nat.le_refl _, fun _ _ => rfl⟩)) fun _ _ => id))
      clear hWQ c0
      have Han := Lib.hid (ranew_calls (H.out.below HBq.out) Hjq.out (fun ho => by have h1 := H.out.olt j ho; have h2 := Hs1.out; omega) HIq.out Hz.out (Nat.le_trans Hl.out (by decide)) (by decide) (by decide) (by decide) (by decide) hpz2)
      rw [show fstB0 0 0 nodes = fstB 0 0 nodes from fstB0_nat (n := 0) (by decide) 0 nodes] at Han
      generalize hR : D.save1 (logN (nm pre)) (frameN (fstB 0 0 nodes) ++ frameN (trmB 0 (-1))) = R at *
      clear hR
      obtain ⟨D9, e9⟩ := R
      by_cases he : e9 = 0
      · subst he
        go_wp2_with fail
        refine Han.out.mono ?_
        intro e w9 hT
        have HE := Lib.hid (ropen0_of (rstep_below HBq.out hT) (x := .pointer (some ⟨j, 0, none⟩)) (fun _ => ⟨j, rfl⟩) fun h => absurd rfl h)
        obtain ⟨rfl, -⟩ := hT
        clear Han
        go_wp2_with fail
        go_ret2
        exact HE.out
      · have hne : ((e9 : Int) != 0) = true := by simp; omega
        have He := Lib.hid he
        clear he
        go_wp2_with fail
        refine Han.out.mono ?_
        intro e w9 hT
        have HE := Lib.hid (ropen0_of (rstep_below HBq.out hT) (x := .pointer none) (fun h => absurd h He.out) fun _ => rfl)
        obtain ⟨rfl, -⟩ := hT
        clear Han
        go_wp2_with fail
        go_ret2
        exact HE.out
end Go.Proofs.YtapfnehdgailmaaGreat

namespace Go.Proofs.YtapfnehdgailmaaGreat
open Go.RowKit Go.Sat Go.Maps

/-- The row of a pair. -/
abbrev PairO (d r : Nat) (j x : Value) (over : Bool) : Obj := .cells #[.pointer (some ⟨d, 0, none⟩), .pointer (some ⟨r, 0, none⟩), j, x, .bool over] 47 (0, 0)
abbrev g012 : List Int := [0, 1, 2]
abbrev LitO : Obj := .cells #[.int .i64 0, .int .i64 1, .int .i64 2] 3 (0, 0)

theorem hasI_012 (W : World) : HasI (W.alloc LitO) (.slice (some ⟨W.heap.size, 0, none⟩) 3 3) g012 :=
  ⟨by simp, some ⟨W.heap.size, 0, none⟩, 3, rfl, fun e => (by cases e), fun a ha i u hu => by
    cases ha
    rw [add_zero]
    refine cell_of (new_block W _) ?_
    simpa using hu⟩

theorem refIn_move {w w' : World} {r : Nat} {D : DiskM} (h : RefIn w r (.slice none 0 0) [] (fun k => k = r) D) (hs : ∀ k, k = r → w'.heap[k]? = w.heap[k]?) (hl : r < w'.heap.size) : RefIn w' r (.slice none 0 0) [] (fun k => k = r) D where
  cells := (hs r rfl).trans h.cells
  row := OwnR.nil _ _ _
  files := h.files
  data := fun x hx => by cases hx
  or := rfl
  ov := fun k hk => by cases hk
  ob := fun x hx => by cases hx
  olt := fun k hk => by rw [hk]; exact hl
  ok := h.ok

/-- What a pair is behind its opening. -/
def Opened (w : World) (p d r room : Nat) (w' : World) : Prop :=
  ∃ j x, JouF w w' j d sA (diskJ0 room [97] g012) (JouM.none0 g012) (fun k => k = p) ∧ w'.heap[p]? = some (PairO d r (.pointer (some ⟨j, 0, none⟩)) (.pointer (some ⟨x, 0, none⟩)) false)

set_option maxRecDepth 100000 in
set_option maxHeartbeats 8000000 in
theorem popen_calls {w w1 : World} {d r p room : Nat} (h : St w w1 d (DiskM.fresh room) (fun k => k = p ∨ k = r)) (hR : RefIn w1 r (.slice none 0 0) [] (fun k => k = r) (DiskM.fresh room)) (hp : w1.heap[p]? = some (PairO d r (.pointer none) (.pointer none) false)) (hge : w.heap.size ≤ r ∧ w.heap.size ≤ p) (hpr : p ≠ r) (hr1 : 200 ≤ room) (hr2 : room ≤ 1048576) :
    Calls Tryz.prog 97 #[.pointer (some ⟨p, 0, none⟩)] w1 fun e w' => e = .returned (.bool true) ∧ Opened w p d r room w' := by
  have Hop := Lib.hid (jopen_calls (h.next (below_one w1 LitO)) (show (DiskM.fresh room).room ≤ 1048576 from hr2) sA (hasI_012 w1) (by simp))
  rw [show jouOpen (DiskM.fresh room) (nm sA) g012 = (diskJ0 room [97] g012, 0, JouM.none0 g012) from jopen_fresh hr1 (by omega) (pre := [97]) ⟨by decide, by decide⟩ (by rfl)] at Hop
  have Hro := Lib.hid (fun W (hW : RefIn W r (.slice none 0 0) [] (fun k => k = r) (DiskM.fresh room)) => show Calls Tryz.prog 18 #[.pointer (some ⟨r, 0, none⟩), .string sA, .slice (some ⟨W.heap.size, 0, none⟩) 3 3] (W.alloc LitO) (ROpen0 (W.alloc LitO) r (fun k => k = r) (diskJ0 room [97] g012, 0)) from by
    have := ropen0_calls (hW.below (below_one W LitO)) rfl sA ⟨by decide, by decide⟩ (hasI_012 W) (by rfl)
    rwa [show (DiskM.fresh room).save1 (logN (nm sA)) (frameN (fstB 0 0 g012) ++ frameN (trmB 0 (-1))) = (diskJ0 room [97] g012, 0) from save_fresh hr1 (by omega) (pre := [97]) ⟨by decide, by decide⟩ (by rfl)] at this)
  have HR := Lib.hid hR
  have Hge := Lib.hid hge
  have Hpr := Lib.hid hpr
  have Hp := Lib.hid hp
  have Hsa := Lib.hid (fun k (hk : k = p ∨ k = r) => h.flt hk)
  have hpa := old_block LitO hp
  have c0 := cell_of hp (i := 0) rfl
  clear h hR hp hge hpr hpa
  go_enter Tryz.func97, Tryz.ntmps97
  go_wp2_with fail
  refine Hop.out.mono ?_
  rintro e w2 ⟨hst, hs, hcase⟩
  rcases hcase with ⟨-, j, rfl, hj⟩ | ⟨hne, -⟩
  · have HJ := Lib.hid hj
    have Hp2 := Lib.hid ((hs p (.inl rfl)).trans (old_block LitO Hp.out))
    have hr2' : ∀ k, k = r → w2.heap[k]? = w1.heap[k]? := fun k hk => by
      rw [hk]
      exact (hs r (.inr rfl)).trans (alloc_was w1 LitO (Hsa.out r (.inr rfl)))
    have HR2 := Lib.hid (refIn_move HR.out hr2' (HJ.out.flt (.inr rfl)))
    have c1 := cell_of Hp2.out (i := 1) rfl
    clear hst hs hj hr2' Hop c0
    have Hro2 := Lib.hid (Hro.out w2 HR2.out)
    go_wp2_with fail
    refine Hro2.out.mono ?_
    rintro e w4 ⟨⟨x, rfl, hx, -⟩, own', -, hc4, -⟩
    obtain ⟨jx, rfl⟩ := hx rfl
    have hlr : r < (w2.alloc LitO).heap.size := Nat.lt_of_lt_of_le (HJ.out.flt (.inr rfl)) (below_one w2 LitO).size
    have HJ4 := Lib.hid (show JouF w w4 j d sA (diskJ0 room [97] g012) (JouM.none0 g012) (fun k => k = p) from (HJ.out.next (below_one w2 LitO)).move hc4 (fun k _ e => ⟨.inr e, by rw [e]; exact Hge.out.1⟩) fun k hk => ⟨.inl (.inl hk), by rw [hk]; exact Nat.lt_of_lt_of_le (Nat.lt_of_lt_of_le (HJ.out.flt (.inl rfl)) (below_one w2 LitO).size) hc4.size⟩)
    have hp4 := (hc4.block p (Nat.lt_of_lt_of_le (HJ.out.flt (.inl rfl)) (below_one w2 LitO).size) Hpr.out).trans (old_block LitO Hp2.out)
    have Hp4 := Lib.hid hp4
    have d2 := cell_of hp4 (i := 2) rfl
    have d3 := cell_of hp4 (i := 3) rfl
    have f2 := frozen_of hp4 2
    have f3 := frozen_of hp4 3
    have HJ5 := Lib.hid (show JouF w ((w4.setCell ⟨p, 2, none⟩ (.pointer (some ⟨j, 0, none⟩))).setCell ⟨p, 3, none⟩ (.pointer (some ⟨jx, 0, none⟩))) j d sA (diskJ0 room [97] g012) (JouM.none0 g012) (fun k => k = p) from HJ4.out.move (S := fun k => k = p) ((Chg.setCell w4 ⟨p, 2, none⟩ _).trans (Chg.setCell _ ⟨p, 3, none⟩ _) fun _ _ e => e) (fun k _ e => ⟨e, by rw [e]; exact Hge.out.2⟩) fun k hk => ⟨.inl hk, by rw [hk]; have := HJ4.out.flt (k := p) rfl; simpa [World.setCell] using this⟩)
    have Hp5 := Lib.hid (show ((w4.setCell ⟨p, 2, none⟩ (.pointer (some ⟨j, 0, none⟩))).setCell ⟨p, 3, none⟩ (.pointer (some ⟨jx, 0, none⟩))).heap[p]? = some (PairO d r (.pointer (some ⟨j, 0, none⟩)) (.pointer (some ⟨jx, 0, none⟩)) false) from by
      have h1 := set_block Hp4.out 2 (.pointer (some ⟨j, 0, none⟩))
      have h2 := set_block h1 3 (.pointer (some ⟨jx, 0, none⟩))
      simpa using h2)
    clear hx hc4 hp4 hlr Hro2 Hro c1
    go_wp2_with fail
    go_ret
    exact ⟨rfl, j, jx, HJ5.out, Hp5.out⟩
  · exact absurd rfl hne

set_option maxRecDepth 100000 in
set_option maxHeartbeats 8000000 in
theorem start_calls (w : World) (room : Nat) (hr1 : 200 ≤ room) (hr2 : room ≤ 1048576) :
    Calls Tryz.prog 21 #[.int .i64 (room : Int)] w fun e w' => ∃ p d r, e = .returned (.tuple #[.pointer (some ⟨p, 0, none⟩), .bool true]) ∧ Opened w p d r room w' ∧ w.heap.size ≤ p := by
  have Hnew := Lib.hid (st_new (w := w) (w1 := w) (room : Int) (by omega) (by omega) (Below.refl _ _))
  have Hrn := Lib.hid (fun W => rnew_calls W (room : Int) (by omega) (by omega))
  have Hpo := Lib.hid (fun W d r p a b c e f => popen_calls (w := w) (w1 := W) (d := d) (r := r) (p := p) a b c e f hr1 hr2)
  rw [Int.toNat_natCast] at Hnew
  go_enter Tryz.func21, Tryz.ntmps21
  go_wp2_with fail
  refine Hnew.out.mono ?_
  rintro e w2 ⟨d, rfl, hst⟩
  have HS2 := Lib.hid hst
  have Hr2 := Lib.hid (Hrn.out w2)
  rw [Int.toNat_natCast] at Hr2
  clear hst Hnew Hrn
  go_wp2_with fail
  refine Hr2.out.mono ?_
  rintro e w3 ⟨r, rfl, hR, hb3, hge3⟩
  have hrl := hR.olt r rfl
  have Hst := Lib.hid (show St w (w3.alloc (PairO d r (.pointer none) (.pointer none) false)) d (DiskM.fresh room) (fun k => k = w3.heap.size ∨ k = r) from HS2.out.move (Chg.of_below (hb3.trans ((below_one w3 _).mono hb3.size))) (fun _ _ h => h.elim) fun k hk => by
    have hs := hb3.size
    have hs2 : (w3.alloc (PairO d r (.pointer none) (.pointer none) false)).heap.size = w3.heap.size + 1 := by simp
    rcases hk with hk | hk
    · exact ⟨.inr (by omega), by omega⟩
    · exact ⟨.inr (by omega), by omega⟩)
  have HRb := Lib.hid (hR.below (below_one w3 (PairO d r (.pointer none) (.pointer none) false)))
  have Hge := Lib.hid (show w.heap.size ≤ r ∧ w.heap.size ≤ w3.heap.size from ⟨Nat.le_trans HS2.out.below.size hge3, Nat.le_trans HS2.out.below.size hb3.size⟩)
  have Hne := Lib.hid (show w3.heap.size ≠ r by omega)
  have Hop := Lib.hid (Hpo.out _ _ _ _ Hst.out HRb.out (new_block w3 _) Hge.out Hne.out)
  clear hR hb3 hge3 hrl Hr2
  go_wp2_with fail
  refine Hop.out.mono ?_
  rintro e w4 ⟨rfl, ho⟩
  have HO := Lib.hid ho
  clear ho Hop
  go_wp2_with fail
  go_ret2
  exact ⟨_, _, _, rfl, HO.out, Hge.out.2⟩
end Go.Proofs.YtapfnehdgailmaaGreat

namespace Go.Proofs.YtapfnehdgailmaaGreat
open Go.RowKit Go.Sat Go.Maps

set_option maxHeartbeats 1000000 in
theorem same5_calls {w : World} {x y : Value} {l m : Bs} (hx : HasB w x l) (hy : HasB w y m) (hl : l.length ≤ 140737488355328) (hm : m.length ≤ 140737488355328) :
    Calls Tryz.prog 33 #[x, y] w (SamePost w (l == m)) := by
  by_cases hlen : l.length = m.length
  · have ax := hx.at
    have ay := hy.at
    obtain ⟨px, cx, rfl⟩ := hx.slice
    obtain ⟨py, cy, rfl⟩ := hy.slice
    have hbne : ((l.length : Int) != (m.length : Int)) = false := by simp [hlen]
    have Hlen := Lib.hid hlen
    have Hax := Lib.hid ax
    have Hay := Lib.hid ay
    clear hx hy hlen ax ay
    generalize hlN : l.length = N at *
    generalize hmM : m.length = M at *
    have HlN := Lib.hid hlN
    have HmM := Lib.hid hmM
    clear hlN hmM
    go_enter Tryz.func33, Tryz.ntmps33
    go_wp2
    go_loopw [5] (fun i wr => ∃ k q : Nat, k ≤ N ∧ i = .int .i64 k ∧ l.take k = m.take k ∧ wr = w.drewN q) (fun i _ => N - (intOf i).toNat)
    case atStart => exact ⟨0, 0, Nat.zero_le _, rfl, rfl, rfl⟩
    case round =>
      obtain ⟨k, q, hk, rfl, htake, rfl⟩ := hrel
      have Htake := Lib.hid htake
      clear htake
      by_cases hlt : k < N
      · have hltM : k < M := by have := Hlen.out; omega
        have hkl : k < l.length := by rw [HlN.out]; exact hlt
        have hkm : k < m.length := by rw [HmM.out]; exact hltM
        have h1 : l[k]? = some l[k] := List.getElem?_eq_getElem hkl
        have h2 : m[k]? = some m[k] := List.getElem?_eq_getElem hkm
        rcases Hax.out with h | ⟨b, o, c, e1, hcx⟩
        · rw [h] at hkl
          simp at hkl
        rcases Hay.out with h | ⟨b2, o2, c2, e2, hcy⟩
        · rw [h] at hkm
          simp at hkm
        cases e1
        cases e2
        have hc1 := hcx k _ h1
        have hc2 := hcy k _ h2
        have Hnext := Lib.hid (fun e => take_eq_succ h1 h2 Htake.out e)
        have Hno := Lib.hid (fun e => ne_at h1 h2 e)
        clear hcx hcy h1 h2
        generalize l[k] = a at *
        generalize m[k] = b at *
        by_cases hab : a = b
        · have hd : ((a.toNat : Int) != (b.toNat : Int)) = false := by simp [hab]
          have Hab := Lib.hid hab
          clear hab hkl hkm
          go_wp2_with fail
          go_quiet (fail)
          go_wp2
          go_roundw
          case rel => exact ⟨k + 1, q + nq, by omega, by go_num, Hnext.out Hab.out, by first | rfl | rw [World.drewN_drewN]⟩
          case measure => simp [intOf]; omega
        · have hd : ((a.toNat : Int) != (b.toNat : Int)) = true := by
            simp only [bne_iff_ne, ne_eq, Int.natCast_inj]
            exact fun e => hab (UInt8.toNat.inj e)
          have Hab := Lib.hid hab
          clear hab hkl hkm
          go_wp2_with fail
          go_quiet (fail)
          go_wp2
          go_ret
          exact ⟨by rw [Hno.out Hab.out]; rfl, q + nq, by first | rfl | rw [World.drewN_drewN]⟩
      · go_wp2
        go_ret
        refine ⟨?_, q, rfl⟩
        have h1 := Htake.out
        rw [List.take_of_length_le (by rw [HlN.out]; omega), List.take_of_length_le (by rw [HmM.out]; have := Hlen.out; omega)] at h1
        simp [h1]
  · obtain ⟨px, cx, rfl⟩ := hx.slice
    obtain ⟨py, cy, rfl⟩ := hy.slice
    have hbne : ((l.length : Int) != (m.length : Int)) = true := by simp; omega
    have hres : (l == m) = false := by rw [beq_eq_false_iff_ne]; rintro rfl; exact hlen rfl
    rw [hres]
    clear hx hy hlen hres
    go_enter Tryz.func33, Tryz.ntmps33
    go_wp2
    go_ret
    exact ⟨rfl, 0, rfl⟩

end Go.Proofs.YtapfnehdgailmaaGreat

namespace Go.Proofs.YtapfnehdgailmaaGreat
open Go.RowKit Go.Sat Go.Maps

set_option maxRecDepth 100000 in
set_option maxHeartbeats 8000000 in
theorem known5_calls (w : World) : Calls Tryz.prog 20 #[] w fun e w' => e = .returned (.bool true) ∧ Below w.heap.size w w' := by
  have Hst := Lib.hid (start_calls w 65536 (by decide) (by decide))
  obtain ⟨D1, D2, hk1, hk2⟩ := known5
  have Hk1 := Lib.hid hk1
  have Hk2 := Lib.hid hk2
  clear hk1 hk2
  have kc := fun (w : World) (C : Array Value) (n c : Nat) => Lib.run_convert_bytes_const (P := Tryz.prog) w 22 5 C n c Tryz.underlying22 Tryz.underlying5
  go_enter Tryz.func20, Tryz.ntmps20
  go_wp2_with fail
  refine Hst.out.mono ?_
  rintro e w1 ⟨p, d, r, rfl, ⟨j, x, hJ, hp⟩, -⟩
  have HJ := Lib.hid hJ
  have Hp := Lib.hid hp
  have c2 := cell_of hp (i := 2) rfl
  clear hJ hp Hst
  have HJ3 := Lib.hid (show JouF w ((w1.alloc (.cells #[.int .u8 120] 5 (1, 2))).alloc (.cells #[.int .i64 1, .int .i64 0, .slice none 0 0, .slice none 0 0, .int .i64 2, .int .i64 1, .slice (some ⟨w1.heap.size, 0, none⟩) 1 1, .slice none 0 0] 50)) j d sA (diskJ0 65536 [97] g012) (JouM.none0 g012) (fun k => (k = p ∨ k = w1.heap.size) ∨ k = w1.heap.size + 1) from by
    have := (HJ.out.box (.cells #[.int .u8 120] 5 (1, 2))).box (.cells #[.int .i64 1, .int .i64 0, .slice none 0 0, .slice none 0 0, .int .i64 2, .int .i64 1, .slice (some ⟨w1.heap.size, 0, none⟩) 1 1, .slice none 0 0] 50)
    simpa using this)
  have hb1 : ((w1.alloc (.cells #[.int .u8 120] 5 (1, 2))).alloc (.cells #[.int .i64 1, .int .i64 0, .slice none 0 0, .slice none 0 0, .int .i64 2, .int .i64 1, .slice (some ⟨w1.heap.size, 0, none⟩) 1 1, .slice none 0 0] 50)).heap[w1.heap.size]? = some (.cells #[.int .u8 120] 5 (1, 2)) := old_block _ (new_block w1 _)
  have hb2 : ((w1.alloc (.cells #[.int .u8 120] 5 (1, 2))).alloc (.cells #[.int .i64 1, .int .i64 0, .slice none 0 0, .slice none 0 0, .int .i64 2, .int .i64 1, .slice (some ⟨w1.heap.size, 0, none⟩) 1 1, .slice none 0 0] 50)).heap[w1.heap.size + 1]? = some (.cells #[.int .i64 1, .int .i64 0, .slice none 0 0, .slice none 0 0, .int .i64 2, .int .i64 1, .slice (some ⟨w1.heap.size, 0, none⟩) 1 1, .slice none 0 0] 50) := by have := new_block (w1.alloc (.cells #[.int .u8 120] 5 (1, 2))) (.cells #[.int .i64 1, .int .i64 0, .slice none 0 0, .slice none 0 0, .int .i64 2, .int .i64 1, .slice (some ⟨w1.heap.size, 0, none⟩) 1 1, .slice none 0 0] 50); simpa using this
  have HEn := Lib.hid (show ∀ W, Below w.heap.size w W → Same (fun k => (k = p ∨ k = w1.heap.size) ∨ k = w1.heap.size + 1) ((w1.alloc (.cells #[.int .u8 120] 5 (1, 2))).alloc (.cells #[.int .i64 1, .int .i64 0, .slice none 0 0, .slice none 0 0, .int .i64 2, .int .i64 1, .slice (some ⟨w1.heap.size, 0, none⟩) 1 1, .slice none 0 0] 50)) W → EntsHas W (.slice (some ⟨w1.heap.size + 1, 0, none⟩) 2 2) [ke1, ke2] [(.slice none 0 0, .slice none 0 0), (.slice (some ⟨w1.heap.size, 0, none⟩) 1 1, .slice none 0 0)] from fun W _ hs => by
    have h1 := (hs w1.heap.size (.inl (.inr rfl))).trans hb1
    have h2 := (hs (w1.heap.size + 1) (.inr rfl)).trans hb2
    have hnil : ∀ l : List Value, l = [] → Holds W 1 (.slice none 0 0) 0 l := fun l e => by rw [e]; exact ⟨rfl, none, 0, rfl, fun _ => rfl, fun a ha => by cases ha⟩
    refine ⟨rfl, ⟨rfl, some ⟨w1.heap.size + 1, 0, none⟩, 2, rfl, fun e => (by cases e), fun a ha i u hu => ?_⟩, fun i e v he hv => ?_⟩
    · cases ha
      rw [add_zero]
      refine cell_of h2 ?_
      simpa [entsC, entC, ke1, ke2] using hu
    · match i, he, hv with
      | 0, he, hv =>
        cases he
        cases hv
        exact ⟨hnil _ rfl, hnil _ rfl, by decide, by decide⟩
      | 1, he, hv =>
        cases he
        cases hv
        refine ⟨⟨rfl, some ⟨w1.heap.size, 0, none⟩, 1, rfl, fun e => (by cases e), fun a ha i u hu => ?_⟩, hnil _ rfl, by decide, by decide⟩
        cases ha
        rw [add_zero]
        refine cell_of h1 ?_
        simpa [bytesV, ke2] using hu)
  have Hap := Lib.hid (jappend_calls HJ3.out HEn.out (by decide))
  rw [show jouAppend (nm sA) (diskJ0 65536 [97] g012) (JouM.none0 g012) [ke1, ke2] = ⟨D1, kM1, 0⟩ from Hk1.out] at Hap
  have Hp3 := Lib.hid (old_block (.cells #[.int .i64 1, .int .i64 0, .slice none 0 0, .slice none 0 0, .int .i64 2, .int .i64 1, .slice (some ⟨w1.heap.size, 0, none⟩) 1 1, .slice none 0 0] 50) (old_block (.cells #[.int .u8 120] 5 (1, 2)) Hp.out))
  clear hb1 hb2 HEn
  go_wp2_with fail
  refine Hap.out.mono ?_
  rintro e w2 ⟨rfl, hj2, hs2⟩
  have HJ4 := Lib.hid (hj2.less (F' := fun k => k = p) fun k hk => .inl (.inl hk))
  have Hp4 := Lib.hid ((hs2 p (.inl (.inl rfl))).trans Hp3.out)
  have d2 := cell_of Hp4.out (i := 2) rfl
  clear hj2 hs2 Hap c2
  have HJ5 := Lib.hid (HJ4.out.box (.cells #[.int .u8 115] 5 (1, 2)))
  have hb3 := new_block w2 (.cells #[.int .u8 115] 5 (1, 2))
  have Hco := Lib.hid (jcompact_calls HJ5.out (show kM1.entries.length ≤ 1000000 by decide) 1 (by decide) (pd := some ⟨w2.heap.size, 0, none⟩) (n := 1) (cd := 1) (b := [115]) rfl (by decide) fun W _ hs => ⟨rfl, some ⟨w2.heap.size, 0, none⟩, 1, rfl, fun e => (by cases e), fun a ha i u hu => by
    cases ha
    rw [add_zero]
    refine cell_of ((hs w2.heap.size (.inr rfl)).trans hb3) ?_
    simpa [bytesV] using hu⟩)
  rw [show jouCompact (nm sA) D1 kM1 1 [115] = ⟨D2, kM2, 0⟩ from Hk2.out] at Hco
  have Hp5 := Lib.hid (old_block (.cells #[.int .u8 115] 5 (1, 2)) Hp4.out)
  clear hb3
  go_wp2_with fail
  refine Hco.out.mono ?_
  rintro e w3 ⟨rfl, hj3, hs3⟩
  have HJ6 := Lib.hid hj3
  have Hp6 := Lib.hid ((hs3 p (.inl rfl)).trans Hp5.out)
  have e2 := cell_of Hp6.out (i := 2) rfl
  have Hba := Lib.hid (jbase_calls HJ6.out)
  clear hj3 hs3 Hco d2
  go_wp2_with fail
  refine Hba.out.mono ?_
  rintro e w4 ⟨rfl, q4, rfl⟩
  have HJ7 := Lib.hid (HJ6.out.drewN q4)
  have Hla := Lib.hid (jlast_calls HJ7.out)
  have e2 : (w3.drewN q4).cell? ⟨p, 2, none⟩ = some (.pointer (some ⟨j, 0, none⟩)) := e2
  rw [show ((kM2.number : Nat) : Int) = 1 from rfl, show kM2.term = 1 from rfl]
  go_wp2_with fail
  refine Hla.out.mono ?_
  rintro e w5 ⟨rfl, q5, rfl⟩
  rw [show ((kM2.last : Nat) : Int) = 2 from rfl, show kM2.lastT = 2 from rfl]
  have HJ8 := Lib.hid (HJ6.out.drewN (q4 + q5))
  have Hsn := Lib.hid (jsnap_calls HJ8.out)
  have e3 : ((w3.drewN q4).drewN q5).cell? ⟨p, 2, none⟩ = some (.pointer (some ⟨j, 0, none⟩)) := e2
  go_wp2_with fail
  refine Hsn.out.mono ?_
  rintro e w6 ⟨v, u, rfl, hv, -, -, hb6⟩
  have HB6 := Lib.hid (show Below w.heap.size w w6 from HJ8.out.bel.trans (hb6.mono HJ8.out.bel.size))
  have hv : OwnB w6 5 v [115] := hv
  have Hv := Lib.hid (show HasB (w6.alloc (.cells #[.int .u8 115] 5 (1, 2))) v [115] from (ownB_far hv (below_one w6 (.cells #[.int .u8 115] 5 (1, 2)))).has)
  obtain ⟨pv, cv, rfl, -⟩ := own_cap0 hv
  have Hl := Lib.hid (show HasB (w6.alloc (.cells #[.int .u8 115] 5 (1, 2))) (.slice (some ⟨w6.heap.size, 0, none⟩) 1 1) [115] from ⟨rfl, some ⟨w6.heap.size, 0, none⟩, 1, rfl, fun e => (by cases e), fun a ha i u hu => by
    cases ha
    rw [add_zero]
    refine cell_of (new_block w6 _) ?_
    simpa [bytesV] using hu⟩)
  have Hsm := Lib.hid (same5_calls Hv.out Hl.out (by decide) (by decide))
  have HB7 := Lib.hid (HB6.out.alloc HB6.out.size (.cells #[.int .u8 115] 5 (1, 2)))
  clear hv hb6 Hsn
  go_wp2_with fail
  refine Hsm.out.mono ?_
  rintro e w7 ⟨rfl, n7, rfl⟩
  have HB8 := Lib.hid (HB7.out.trans ⟨rfl, rfl, rfl, Nat.le_refl _, fun _ _ => rfl⟩ : Below w.heap.size w ((w6.alloc (.cells #[.int .u8 115] 5 (1, 2))).drewN n7))
  rw [show ((([115] : Bs) == [115]) : Bool) = true from rfl]
  clear Hsm
  go_wp2_with fail
  go_ret
  exact ⟨rfl, HB8.out⟩
end Go.Proofs.YtapfnehdgailmaaGreat

namespace Go.Proofs.YtapfnehdgailmaaGreat
open Go.RowKit Go.Sat Go.Maps

theorem mask_and (m : Nat) (hm : m ≤ 1073741823) (z : Int) : ∃ c : Nat, bits .and .i64 z (m : Int) = (c : Int) ∧ c ≤ m := by
  have h0 : (BitVec.ofInt 64 (m : Int)).toNat = m := by
    rw [BitVec.toNat_ofInt]
    omega
  have h : (BitVec.ofInt 64 z &&& BitVec.ofInt 64 (m : Int)).toNat ≤ m := by
    rw [BitVec.toNat_and]
    exact Nat.le_trans Nat.and_le_right (Nat.le_of_eq h0)
  refine ⟨(BitVec.ofInt 64 z &&& BitVec.ofInt 64 (m : Int)).toNat, ?_, h⟩
  show IntKind.i64.wrap (((BitVec.ofInt 64 z &&& BitVec.ofInt 64 (m : Int)).toNat : Nat) : Int) = _
  exact IntWalk.i64_in _ (by omega)
theorem mask_3 (z : Int) : ∃ c : Nat, bits .and .i64 z 3 = (c : Int) ∧ c ≤ 3 := mask_and 3 (by decide) z
theorem mask_1023 (z : Int) : ∃ c : Nat, bits .and .i64 z 1023 = (c : Int) ∧ c ≤ 1023 := mask_and 1023 (by decide) z

section
variable {w w1 : World} {j d : Nat} {D : DiskM} {M : JouM} {F : Nat → Prop} {room u : Nat} {g : List Int}

theorem Kept5.roomOf (h : Kept5 room g M D u) : D.room = room := by
  obtain ⟨⟨ls, s, M0, rfl, -⟩, -⟩ := h
  rfl
theorem Kept5.more (h : Kept5 room g M D u) {v : Nat} (hv : u ≤ v) : Kept5 room g M D v := ⟨h.ex, Nat.le_trans h.used hv, h.grp, h.alive⟩

theorem jl_crash (hJ : JouF w w1 j d sA D M F) (hK : Kept5 room g M D u) (k : Int) (hk : -9223372036854775808 ≤ k) (hk' : k ≤ 9223372036854775807) :
    Calls Tryz.prog 28 #[.pointer (some ⟨d, 0, none⟩), .int .i64 k] w1 fun e w' => e = .returned (.tuple #[]) ∧ JouF w w' j d sA D M F ∧ Same F w1 w' := by
  have := jou_disk0 hJ (fun G hS => st_crash hS k hk hk')
  rwa [hK.crash k] at this

theorem jl_open (hJ : JouF w w1 j d sA D M F) (hK : Kept5 room g012 M D u) (hr : room ≤ 1048576) :
    Calls Tryz.prog 17 #[.pointer (some ⟨d, 0, none⟩), .string sA, .slice (some ⟨w1.heap.size, 0, none⟩) 3 3] (w1.alloc LitO) fun e w' => ∃ j', e = .returned (.tuple #[.pointer (some ⟨j', 0, none⟩), .int .i64 0]) ∧ JouF w w' j' d sA D M F ∧ Same F w1 w' := by
  have h := jopen_calls (hJ.stF.next (below_one w1 LitO)) (show D.room ≤ 1048576 by rw [hK.roomOf]; exact hr) sA (hasI_012 w1) (by simp)
  rw [show jouOpen D (nm sA) g012 = (D, 0, M) from hK.open] at h
  refine h.mono ?_
  rintro e w' ⟨-, hs, ⟨-, j', rfl, hj⟩ | ⟨hne, -⟩⟩
  · exact ⟨j', rfl, hj, fun k hk => (hs k hk).trans (alloc_was w1 LitO (hJ.flt hk))⟩
  · exact absurd rfl hne

/-- The pair's journal is another one. -/
theorem jl_setj {p r : Nat} {jv x : Value} {o : Bool} (hJ : JouF w w1 j d sA D M (fun k => k = p)) (hp : w1.heap[p]? = some (PairO d r jv x o)) (hge : w.heap.size ≤ p) (v : Value) :
    JouF w (w1.setCell ⟨p, 2, none⟩ v) j d sA D M (fun k => k = p) ∧ (w1.setCell ⟨p, 2, none⟩ v).heap[p]? = some (PairO d r v x o) := by
  refine ⟨hJ.move (S := fun k => k = p) (Chg.setCell w1 ⟨p, 2, none⟩ _) (fun k _ e => ⟨e, by rw [e]; exact hge⟩) fun k hk => ⟨.inl hk, by have := hJ.flt hk; simpa [World.setCell] using this⟩, ?_⟩
  have h1 := set_block hp 2 v
  simpa using h1
end
end Go.Proofs.YtapfnehdgailmaaGreat

namespace Go.Proofs.YtapfnehdgailmaaGreat
open Go.RowKit Go.Sat Go.Maps

theorem mayVote_true {M : JouM} {t v : Int} (h1 : M.now ≤ t) (h2 : t ≤ 1099511627776) (h3 : -1 ≤ v) (h4 : v < 7) (h5 : ¬ (t = M.now ∧ M.vote ≠ -1 ∧ v ≠ M.vote)) : M.mayVote t v = true := by
  unfold JouM.mayVote
  rw [decide_eq_true ⟨h1, h2, h3, h4⟩, decide_eq_false h5]
  rfl
theorem mayVote_false {M : JouM} {t v : Int} (h : t < M.now ∨ (t = M.now ∧ M.vote ≠ -1 ∧ v ≠ M.vote)) : M.mayVote t v = false := by
  unfold JouM.mayVote
  rcases h with h | h
  · rw [decide_eq_false (fun h2 => absurd h2.1 (by omega))]
    rfl
  · rw [decide_eq_true h]
    exact Bool.and_false _

theorem votes_good {M : JouM} {D : DiskM} {u : Nat} {g : List Int} {t v : Int} (h : Kept5 1048576 g M D u) (h0 : 0 ≤ M.now) (h1 : M.now ≤ t) (h2 : t ≤ 1099511627776) (h3 : -1 ≤ v) (h4 : v < 7) (h5 : ¬ (t = M.now ∧ M.vote ≠ -1 ∧ v ≠ M.vote)) (hu : u + 31 ≤ 1048576) :
    ∃ D' M', jouTerm [97] D M t v = ⟨D', M', 0⟩ ∧ Kept5 1048576 g M' D' (u + 31) ∧ M'.now = t ∧ M'.vote = v := by
  have hm := mayVote_true h1 h2 h3 h4 h5
  by_cases hs : t = M.now ∧ v = M.vote
  · exact ⟨D, M, term_same h hm hs, h.more (by omega), hs.1.symm, hs.2.symm⟩
  · obtain ⟨D', a, b⟩ := term_go h hm hs h0 hu
    exact ⟨D', _, a, b, rfl, rfl⟩

/-- Behind k rounds of the law's loop. -/
def VRel (w wr : World) (p d r k : Nat) (term vote : Int) : Prop :=
  ∃ j x o D M u, JouF w wr j d sA D M (fun b => b = p) ∧ wr.heap[p]? = some (PairO d r (.pointer (some ⟨j, 0, none⟩)) x o) ∧ Kept5 1048576 g012 M D u ∧ u ≤ 150 + 31 * k ∧ M.now = term ∧ M.vote = vote ∧ 0 ≤ term ∧ term ≤ 2 * k ∧ -1 ≤ vote ∧ vote ≤ 2

set_option maxRecDepth 100000 in
set_option maxHeartbeats 16000000 in
theorem votes_walk {w : World} {p0 : Option Addr} {n c : Nat} {l : List Int} (hx : HasI w (.slice p0 n c) l) (hl : l.length = n) (hn : n ≤ 17592186044416) (draw : Int) (hd1 : -9223372036854775808 ≤ draw) (hd2 : draw ≤ 9223372036854775807) :
    Calls Tryz.prog 5 #[.slice p0 n c, .int .i64 draw] w (True3 w) := by
  by_cases hbig : 40 < n
  · have Hkn := Lib.hid (known5_calls w)
    clear hx
    go_enter Tryz.func5, Tryz.ntmps5
    go_wp2_with fail
    refine Hkn.out.mono ?_
    rintro e w1 ⟨rfl, hb⟩
    have Hb := Lib.hid hb
    clear hb
    go_wp2_with fail
    go_ret
    exact ⟨rfl, Hb.out⟩
  have Hst := Lib.hid (start_calls w 1048576 (by decide) (by decide))
  have Hx := Lib.hid hx.at
  have Hl := Lib.hid hl
  clear hx hl
  go_enter Tryz.func5, Tryz.ntmps5
  go_wp2_with fail
  refine Hst.out.mono ?_
  rintro e w1 ⟨p, d, r, rfl, ⟨j, x, hJ, hp⟩, hge⟩
  have Hge := Lib.hid hge
  have Hr := Lib.hid (show VRel w w1 p d r 0 0 (-1) from ⟨j, _, _, _, _, 150, hJ, hp, keep_start (by rfl), by omega, rfl, rfl, by omega, by omega, by omega, by omega⟩)
  clear hJ hp Hst hge
  go_wp2_with fail
  go_loopw [7, 8, 9] (fun te vo i wr => ∃ (k : Nat) (term vote : Int), k ≤ n ∧ i = .int .i64 k ∧ te = .int .i64 term ∧ vo = .int .i64 vote ∧ VRel w wr p d r k term vote) (fun _ _ i _ => n - (intOf i).toNat)
  case atStart => exact ⟨0, 0, -1, Nat.zero_le _, rfl, rfl, rfl, Hr.out⟩
  case round =>
    clear Hr
    obtain ⟨k, term, vote, hk, rfl, rfl, rfl, j, x, o, D, M, u, hJ, hp, hK, hu, hM1, hM2, ht0, ht1, hv0, hv1⟩ := hrel
    by_cases hlt : k < n
    · rcases Hx.out with h | ⟨b, oo, cc, e1, hcx⟩
      · rw [h] at Hl
        have := Hl.out
        simp at this
        omega
      cases e1
      have hkl : k < l.length := by rw [Hl.out]; exact hlt
      have hcell := hcx k _ (List.getElem?_eq_getElem hkl)
      have hcell2 := (hJ.bel.cell (World.block_lt_of_cell? w _ hcell)).trans hcell
      generalize l[k] = z at *
      obtain ⟨m1, hm1, hb1⟩ := mask_3 z
      obtain ⟨m2, hm2, hb2⟩ := mask_3 (z / 4)
      obtain ⟨m3, hm3, hb3⟩ := mask_3 (z / 16)
      obtain ⟨t, ht⟩ : ∃ t, term + ((m1 : Int) - 1) = t := ⟨_, rfl⟩
      obtain ⟨v, hv⟩ : ∃ v, (m2 : Int) - 1 = v := ⟨_, rfl⟩
      have htb : -1 ≤ t ∧ t ≤ 2 * (k : Int) + 2 ∧ t ≤ term + 2 := by omega
      have hvb : -1 ≤ v ∧ v ≤ 2 := by omega
      have hk40 : k ≤ 40 := by omega
      have h64 : IntKind.i64.wrap (term + ((m1 : Int) - 1)) = t := by rw [ht]; exact IntWalk.i64_in _ (by omega)
      have HJ := Lib.hid hJ
      have Hp := Lib.hid hp
      have HK := Lib.hid hK
      have Hbel := Lib.hid hJ.bel
      have Hst := Lib.hid (jsetTerm_calls hJ t v (by omega) (by omega))
      have c2 := cell_of hp (i := 2) rfl
      have hblk := World.block_lt_of_cell? w _ hcell
      have hcell0 := hcell
      clear hJ hp hK hcell hcx Hx
      rcases Int.lt_trichotomy t term with hlt2 | heq | hgt
      · have hda : decide (t < term) = true := decide_eq_true hlt2
        have he := term_no HK.out (mayVote_false (M := M) (t := t) (v := v) (by omega))
        rw [show jouTerm (nm sA) D M t v = ⟨D, M, 1⟩ from he] at Hst
        have HK2 := Lib.hid (HK.out.more (show u ≤ u + 31 by omega))
        have hN := hM1
        have hV := hM2
        clear he
        go_wp2_with fail
        refine Hst.out.mono ?_
        rintro e w2 ⟨rfl, hj2, hs2⟩
        have HJ2 := Lib.hid hj2
        have hp2 := (hs2 p rfl).trans Hp.out
        have Hp2 := Lib.hid hp2
        have Hb2 := Lib.hid hj2.bel
        have d0 := cell_of hp2 (i := 0) rfl
        have d2 := cell_of hp2 (i := 2) rfl
        have hcell3 := (hj2.bel.cell hblk).trans hcell0
        have hm30 := hm3
        clear hj2 hs2 hp2 Hst c2 hcell2
        by_cases h3 : m3 = 0
        · have h30 : ((m3 : Int) == 0) = true := by simp [h3]
          clear h3
          have Hcr := Lib.hid (jl_crash HJ2.out HK2.out draw hd1 hd2)
          go_wp2_with fail
          refine Hcr.out.mono ?_
          rintro e w3 ⟨rfl, hj3, hs3⟩
          have HJ3 := Lib.hid hj3
          have hp3 := (hs3 p rfl).trans Hp2.out
          have Hp3 := Lib.hid (old_block LitO hp3)
          have e0 := cell_of hp3 (i := 0) rfl
          have Hop := Lib.hid (jl_open hj3 HK2.out (by decide))
          clear hj3 hs3 hp3 Hcr d0 d2 hcell3
          go_wp2_with fail
          refine Hop.out.mono ?_
          rintro e w4 ⟨j4, rfl, hj4, hs4⟩
          have hp4 := (hs4 p rfl).trans ((alloc_was w3 LitO (HJ3.out.flt rfl)).symm.trans Hp3.out)
          have f2 := frozen_of hp4 2
          obtain ⟨hj5, hp5⟩ := jl_setj hj4 hp4 Hge.out (.pointer (some ⟨j4, 0, none⟩))
          have HJ5 := Lib.hid hj5
          have Hp5 := Lib.hid hp5
          have g2 := cell_of hp5 (i := 2) rfl
          have h2 := cell_of hp4 (i := 2) rfl
          have Hte := Lib.hid (jterm_calls hj5)
          clear hj4 hs4 hp4 hj5 hp5 Hop e0
          go_wp2_with fail
          refine Hte.out.mono ?_
          rintro e w6 ⟨rfl, q, rfl⟩
          rw [hN, hV]
          go_wp2_with fail
          go_roundw
          case rel => exact ⟨k + 1, term, vote, by omega, by go_num, rfl, rfl, j4, _, _, _, _, _, HJ5.out.drewN q, Hp5.out, HK2.out, by omega, hN, hV, by omega, by omega, by omega, by omega⟩
          case measure => simp [intOf]; omega
        · have h30 : ((m3 : Int) == 0) = false := by simp; omega
          clear h3
          have Hte := Lib.hid (jterm_calls HJ2.out)
          go_wp2_with fail
          refine Hte.out.mono ?_
          rintro e w6 ⟨rfl, q, rfl⟩
          rw [hN, hV]
          go_wp2_with fail
          go_roundw
          case rel => exact ⟨k + 1, term, vote, by omega, by go_num, rfl, rfl, j, _, _, _, _, _, HJ2.out.drewN q, Hp2.out, HK2.out, by omega, hN, hV, by omega, by omega, by omega, by omega⟩
          case measure => simp [intOf]; omega
      · have hda : decide (t < term) = false := decide_eq_false (by omega)
        have hdb : (t == term) = true := by simp [heq]
        have hq1 : t ≤ term := by omega
        have hq2 : term ≤ t := by omega
        clear heq
        by_cases hv1 : vote = -1
        · have hv2 : (vote != -1) = false := by simp [hv1]
          have hq3 : vote ≤ -1 := by omega
          clear hv1
          obtain ⟨D2, M2, he, hK2, hN, hV⟩ := votes_good HK.out (by omega) (by omega) (by omega) (by omega) (by omega) (by omega) (by omega) (t := t) (v := v)
          rw [show jouTerm (nm sA) D M t v = ⟨D2, M2, 0⟩ from he] at Hst
          have HK2 := Lib.hid hK2
          clear he hK2
          go_wp2_with fail
          refine Hst.out.mono ?_
          rintro e w2 ⟨rfl, hj2, hs2⟩
          have HJ2 := Lib.hid hj2
          have hp2 := (hs2 p rfl).trans Hp.out
          have Hp2 := Lib.hid hp2
          have Hb2 := Lib.hid hj2.bel
          have d0 := cell_of hp2 (i := 0) rfl
          have d2 := cell_of hp2 (i := 2) rfl
          have hcell3 := (hj2.bel.cell hblk).trans hcell0
          have hm30 := hm3
          clear hj2 hs2 hp2 Hst c2 hcell2
          by_cases h3 : m3 = 0
          · have h30 : ((m3 : Int) == 0) = true := by simp [h3]
            clear h3
            have Hcr := Lib.hid (jl_crash HJ2.out HK2.out draw hd1 hd2)
            go_wp2_with fail
            refine Hcr.out.mono ?_
            rintro e w3 ⟨rfl, hj3, hs3⟩
            have HJ3 := Lib.hid hj3
            have hp3 := (hs3 p rfl).trans Hp2.out
            have Hp3 := Lib.hid (old_block LitO hp3)
            have e0 := cell_of hp3 (i := 0) rfl
            have Hop := Lib.hid (jl_open hj3 HK2.out (by decide))
            clear hj3 hs3 hp3 Hcr d0 d2 hcell3
            go_wp2_with fail
            refine Hop.out.mono ?_
            rintro e w4 ⟨j4, rfl, hj4, hs4⟩
            have hp4 := (hs4 p rfl).trans ((alloc_was w3 LitO (HJ3.out.flt rfl)).symm.trans Hp3.out)
            have f2 := frozen_of hp4 2
            obtain ⟨hj5, hp5⟩ := jl_setj hj4 hp4 Hge.out (.pointer (some ⟨j4, 0, none⟩))
            have HJ5 := Lib.hid hj5
            have Hp5 := Lib.hid hp5
            have g2 := cell_of hp5 (i := 2) rfl
            have h2 := cell_of hp4 (i := 2) rfl
            have Hte := Lib.hid (jterm_calls hj5)
            clear hj4 hs4 hp4 hj5 hp5 Hop e0
            go_wp2_with fail
            refine Hte.out.mono ?_
            rintro e w6 ⟨rfl, q, rfl⟩
            rw [hN, hV]
            go_wp2_with fail
            go_roundw
            case rel => exact ⟨k + 1, t, v, by omega, by go_num, rfl, rfl, j4, _, _, _, _, _, HJ5.out.drewN q, Hp5.out, HK2.out, by omega, hN, hV, by omega, by omega, by omega, by omega⟩
            case measure => simp [intOf]; omega
          · have h30 : ((m3 : Int) == 0) = false := by simp; omega
            clear h3
            have Hte := Lib.hid (jterm_calls HJ2.out)
            go_wp2_with fail
            refine Hte.out.mono ?_
            rintro e w6 ⟨rfl, q, rfl⟩
            rw [hN, hV]
            go_wp2_with fail
            go_roundw
            case rel => exact ⟨k + 1, t, v, by omega, by go_num, rfl, rfl, j, _, _, _, _, _, HJ2.out.drewN q, Hp2.out, HK2.out, by omega, hN, hV, by omega, by omega, by omega, by omega⟩
            case measure => simp [intOf]; omega
        · have hv2 : (vote != -1) = true := by simp [hv1]
          have hq3 : 0 ≤ vote := by omega
          clear hv1
          by_cases hv3 : v = vote
          · have hv4 : (v != vote) = false := by simp [hv3]
            have hq4 : v ≤ vote := by omega
            have hq5 : vote ≤ v := by omega
            clear hv3
            obtain ⟨D2, M2, he, hK2, hN, hV⟩ := votes_good HK.out (by omega) (by omega) (by omega) (by omega) (by omega) (by omega) (by omega) (t := t) (v := v)
            rw [show jouTerm (nm sA) D M t v = ⟨D2, M2, 0⟩ from he] at Hst
            have HK2 := Lib.hid hK2
            clear he hK2
            go_wp2_with fail
            refine Hst.out.mono ?_
            rintro e w2 ⟨rfl, hj2, hs2⟩
            have HJ2 := Lib.hid hj2
            have hp2 := (hs2 p rfl).trans Hp.out
            have Hp2 := Lib.hid hp2
            have Hb2 := Lib.hid hj2.bel
            have d0 := cell_of hp2 (i := 0) rfl
            have d2 := cell_of hp2 (i := 2) rfl
            have hcell3 := (hj2.bel.cell hblk).trans hcell0
            have hm30 := hm3
            clear hj2 hs2 hp2 Hst c2 hcell2
            by_cases h3 : m3 = 0
            · have h30 : ((m3 : Int) == 0) = true := by simp [h3]
              clear h3
              have Hcr := Lib.hid (jl_crash HJ2.out HK2.out draw hd1 hd2)
              go_wp2_with fail
              refine Hcr.out.mono ?_
              rintro e w3 ⟨rfl, hj3, hs3⟩
              have HJ3 := Lib.hid hj3
              have hp3 := (hs3 p rfl).trans Hp2.out
              have Hp3 := Lib.hid (old_block LitO hp3)
              have e0 := cell_of hp3 (i := 0) rfl
              have Hop := Lib.hid (jl_open hj3 HK2.out (by decide))
              clear hj3 hs3 hp3 Hcr d0 d2 hcell3
              go_wp2_with fail
              refine Hop.out.mono ?_
              rintro e w4 ⟨j4, rfl, hj4, hs4⟩
              have hp4 := (hs4 p rfl).trans ((alloc_was w3 LitO (HJ3.out.flt rfl)).symm.trans Hp3.out)
              have f2 := frozen_of hp4 2
              obtain ⟨hj5, hp5⟩ := jl_setj hj4 hp4 Hge.out (.pointer (some ⟨j4, 0, none⟩))
              have HJ5 := Lib.hid hj5
              have Hp5 := Lib.hid hp5
              have g2 := cell_of hp5 (i := 2) rfl
              have h2 := cell_of hp4 (i := 2) rfl
              have Hte := Lib.hid (jterm_calls hj5)
              clear hj4 hs4 hp4 hj5 hp5 Hop e0
              go_wp2_with fail
              refine Hte.out.mono ?_
              rintro e w6 ⟨rfl, q, rfl⟩
              rw [hN, hV]
              go_wp2_with fail
              go_roundw
              case rel => exact ⟨k + 1, t, v, by omega, by go_num, rfl, rfl, j4, _, _, _, _, _, HJ5.out.drewN q, Hp5.out, HK2.out, by omega, hN, hV, by omega, by omega, by omega, by omega⟩
              case measure => simp [intOf]; omega
            · have h30 : ((m3 : Int) == 0) = false := by simp; omega
              clear h3
              have Hte := Lib.hid (jterm_calls HJ2.out)
              go_wp2_with fail
              refine Hte.out.mono ?_
              rintro e w6 ⟨rfl, q, rfl⟩
              rw [hN, hV]
              go_wp2_with fail
              go_roundw
              case rel => exact ⟨k + 1, t, v, by omega, by go_num, rfl, rfl, j, _, _, _, _, _, HJ2.out.drewN q, Hp2.out, HK2.out, by omega, hN, hV, by omega, by omega, by omega, by omega⟩
              case measure => simp [intOf]; omega
          · have hv4 : (v != vote) = true := by simp [hv3]
            have he := term_no HK.out (mayVote_false (M := M) (t := t) (v := v) (by omega))
            rw [show jouTerm (nm sA) D M t v = ⟨D, M, 1⟩ from he] at Hst
            have HK2 := Lib.hid (HK.out.more (show u ≤ u + 31 by omega))
            have hN := hM1
            have hV := hM2
            clear he
            go_wp2_with fail
            refine Hst.out.mono ?_
            rintro e w2 ⟨rfl, hj2, hs2⟩
            have HJ2 := Lib.hid hj2
            have hp2 := (hs2 p rfl).trans Hp.out
            have Hp2 := Lib.hid hp2
            have Hb2 := Lib.hid hj2.bel
            have d0 := cell_of hp2 (i := 0) rfl
            have d2 := cell_of hp2 (i := 2) rfl
            have hcell3 := (hj2.bel.cell hblk).trans hcell0
            have hm30 := hm3
            clear hj2 hs2 hp2 Hst c2 hcell2
            by_cases h3 : m3 = 0
            · have h30 : ((m3 : Int) == 0) = true := by simp [h3]
              clear h3
              have Hcr := Lib.hid (jl_crash HJ2.out HK2.out draw hd1 hd2)
              go_wp2_with fail
              refine Hcr.out.mono ?_
              rintro e w3 ⟨rfl, hj3, hs3⟩
              have HJ3 := Lib.hid hj3
              have hp3 := (hs3 p rfl).trans Hp2.out
              have Hp3 := Lib.hid (old_block LitO hp3)
              have e0 := cell_of hp3 (i := 0) rfl
              have Hop := Lib.hid (jl_open hj3 HK2.out (by decide))
              clear hj3 hs3 hp3 Hcr d0 d2 hcell3
              go_wp2_with fail
              refine Hop.out.mono ?_
              rintro e w4 ⟨j4, rfl, hj4, hs4⟩
              have hp4 := (hs4 p rfl).trans ((alloc_was w3 LitO (HJ3.out.flt rfl)).symm.trans Hp3.out)
              have f2 := frozen_of hp4 2
              obtain ⟨hj5, hp5⟩ := jl_setj hj4 hp4 Hge.out (.pointer (some ⟨j4, 0, none⟩))
              have HJ5 := Lib.hid hj5
              have Hp5 := Lib.hid hp5
              have g2 := cell_of hp5 (i := 2) rfl
              have h2 := cell_of hp4 (i := 2) rfl
              have Hte := Lib.hid (jterm_calls hj5)
              clear hj4 hs4 hp4 hj5 hp5 Hop e0
              go_wp2_with fail
              refine Hte.out.mono ?_
              rintro e w6 ⟨rfl, q, rfl⟩
              rw [hN, hV]
              go_wp2_with fail
              go_roundw
              case rel => exact ⟨k + 1, term, vote, by omega, by go_num, rfl, rfl, j4, _, _, _, _, _, HJ5.out.drewN q, Hp5.out, HK2.out, by omega, hN, hV, by omega, by omega, by omega, by omega⟩
              case measure => simp [intOf]; omega
            · have h30 : ((m3 : Int) == 0) = false := by simp; omega
              clear h3
              have Hte := Lib.hid (jterm_calls HJ2.out)
              go_wp2_with fail
              refine Hte.out.mono ?_
              rintro e w6 ⟨rfl, q, rfl⟩
              rw [hN, hV]
              go_wp2_with fail
              go_roundw
              case rel => exact ⟨k + 1, term, vote, by omega, by go_num, rfl, rfl, j, _, _, _, _, _, HJ2.out.drewN q, Hp2.out, HK2.out, by omega, hN, hV, by omega, by omega, by omega, by omega⟩
              case measure => simp [intOf]; omega
      · have hda : decide (t < term) = false := decide_eq_false (by omega)
        have hdb : (t == term) = false := by simp; omega
        obtain ⟨D2, M2, he, hK2, hN, hV⟩ := votes_good HK.out (by omega) (by omega) (by omega) (by omega) (by omega) (by omega) (by omega) (t := t) (v := v)
        rw [show jouTerm (nm sA) D M t v = ⟨D2, M2, 0⟩ from he] at Hst
        have HK2 := Lib.hid hK2
        clear he hK2
        go_wp2_with fail
        refine Hst.out.mono ?_
        rintro e w2 ⟨rfl, hj2, hs2⟩
        have HJ2 := Lib.hid hj2
        have hp2 := (hs2 p rfl).trans Hp.out
        have Hp2 := Lib.hid hp2
        have Hb2 := Lib.hid hj2.bel
        have d0 := cell_of hp2 (i := 0) rfl
        have d2 := cell_of hp2 (i := 2) rfl
        have hcell3 := (hj2.bel.cell hblk).trans hcell0
        have hm30 := hm3
        clear hj2 hs2 hp2 Hst c2 hcell2
        by_cases h3 : m3 = 0
        · have h30 : ((m3 : Int) == 0) = true := by simp [h3]
          clear h3
          have Hcr := Lib.hid (jl_crash HJ2.out HK2.out draw hd1 hd2)
          go_wp2_with fail
          refine Hcr.out.mono ?_
          rintro e w3 ⟨rfl, hj3, hs3⟩
          have HJ3 := Lib.hid hj3
          have hp3 := (hs3 p rfl).trans Hp2.out
          have Hp3 := Lib.hid (old_block LitO hp3)
          have e0 := cell_of hp3 (i := 0) rfl
          have Hop := Lib.hid (jl_open hj3 HK2.out (by decide))
          clear hj3 hs3 hp3 Hcr d0 d2 hcell3
          go_wp2_with fail
          refine Hop.out.mono ?_
          rintro e w4 ⟨j4, rfl, hj4, hs4⟩
          have hp4 := (hs4 p rfl).trans ((alloc_was w3 LitO (HJ3.out.flt rfl)).symm.trans Hp3.out)
          have f2 := frozen_of hp4 2
          obtain ⟨hj5, hp5⟩ := jl_setj hj4 hp4 Hge.out (.pointer (some ⟨j4, 0, none⟩))
          have HJ5 := Lib.hid hj5
          have Hp5 := Lib.hid hp5
          have g2 := cell_of hp5 (i := 2) rfl
          have h2 := cell_of hp4 (i := 2) rfl
          have Hte := Lib.hid (jterm_calls hj5)
          clear hj4 hs4 hp4 hj5 hp5 Hop e0
          go_wp2_with fail
          refine Hte.out.mono ?_
          rintro e w6 ⟨rfl, q, rfl⟩
          rw [hN, hV]
          go_wp2_with fail
          go_roundw
          case rel => exact ⟨k + 1, t, v, by omega, by go_num, rfl, rfl, j4, _, _, _, _, _, HJ5.out.drewN q, Hp5.out, HK2.out, by omega, hN, hV, by omega, by omega, by omega, by omega⟩
          case measure => simp [intOf]; omega
        · have h30 : ((m3 : Int) == 0) = false := by simp; omega
          clear h3
          have Hte := Lib.hid (jterm_calls HJ2.out)
          go_wp2_with fail
          refine Hte.out.mono ?_
          rintro e w6 ⟨rfl, q, rfl⟩
          rw [hN, hV]
          go_wp2_with fail
          go_roundw
          case rel => exact ⟨k + 1, t, v, by omega, by go_num, rfl, rfl, j, _, _, _, _, _, HJ2.out.drewN q, Hp2.out, HK2.out, by omega, hN, hV, by omega, by omega, by omega, by omega⟩
          case measure => simp [intOf]; omega
    · have Hkn := Lib.hid (known5_calls wr)
      have HB := Lib.hid hJ.bel
      clear hJ hp hK
      go_wp2_with fail
      refine Hkn.out.mono ?_
      rintro e w2 ⟨rfl, hb⟩
      have Hb := Lib.hid (HB.out.trans (hb.mono HB.out.size))
      clear hb
      go_wp2_with fail
      go_ret
      exact ⟨rfl, Hb.out⟩
end Go.Proofs.YtapfnehdgailmaaGreat

namespace Go.Proofs.YtapfnehdgailmaaGreat
open Go.RowKit Go.Sat Go.ChangeShapes Go.WideShapes Go.ChangeAt Go.Deep

section
variable {H : Type} {enc : TypeId × Value → H} {W : World} {base : Nat}

set_option maxRecDepth 100000 in
theorem ent_arg {v : Value} {d : DataW H} {p : List MemPlace} (hv : Value.okWide Tryz.prog W .any base 50 v) (h : DataW.Trod enc Tryz.prog W 0 (fun _ => true) true 50 v d p) (hw : ∀ n ∈ d.weights Tryz.prog 50, n ≤ reachBytes) :
    ∃ t k p1 n1 c1 p2 n2 c2, v = .agg #[.int .i64 t, .int .i64 k, .slice p1 n1 c1, .slice p2 n2 c2] ∧ n1 ≤ 140737488355328 ∧ n2 ≤ 140737488355328 := by
  obtain ⟨v0, v1, v2, v3, y0, y1, y2, y3, n, rfl, rfl, -, h0, h1, h2, h3⟩ := Go.Joins.open_agg4 Tryz.underlying50 (by kernel_rfl) (by kernel_rfl) hv h
  obtain ⟨t, e0, -⟩ := DataW.trod_int Tryz.underlying3 h0
  obtain ⟨k, e1, -⟩ := DataW.trod_int Tryz.underlying3 h1
  obtain ⟨p1, n1, c1, e2⟩ := Go.Joins.slice_form Tryz.underlying22 h2
  obtain ⟨p2, n2, c2, e3⟩ := Go.Joins.slice_form Tryz.underlying38 h3
  simp only [List.cons.injEq, and_true] at e0 e1 e2 e3
  subst e0
  subst e1
  subst e2
  subst e3
  have hw2 : ∀ m ∈ y2.1.weights Tryz.prog 22, m ≤ reachBytes := fun m hm => hw m (by
    unfold DataW.weights
    rw [Tryz.underlying50]
    simp [DataW.weightsEach, hm])
  have hw3 : ∀ m ∈ y3.1.weights Tryz.prog 38, m ≤ reachBytes := fun m hm => hw m (by
    unfold DataW.weights
    rw [Tryz.underlying50]
    simp [DataW.weightsEach, hm])
  obtain ⟨l2, hb, hl⟩ := bytes_arg (d := y2.1) (ps := y2.2) h2 hw2
  obtain ⟨l3, -, hl3, hn3, -⟩ := ints_arg (d := y3.1) (ps := y3.2) h3 hw3
  obtain ⟨_, _, e⟩ := hb.slice
  simp only [Value.slice.injEq] at e
  exact ⟨t, k, p1, n1, c1, p2, n2, c2, rfl, by omega, by omega⟩
end
end Go.Proofs.YtapfnehdgailmaaGreat

namespace Go.Proofs.YtapfnehdgailmaaGreat
open Go.RowKit Go.Sat Go.Maps

set_option maxRecDepth 100000
theorem jnil_may (w : World) : Calls Tryz.prog 98 #[.pointer none] w fun e w' => e = .returned (.int .i64 1) ∧ w' = w := by
  go_enter Tryz.func98, Tryz.ntmps98
  go_wp2_with fail
  go_ret
  exact ⟨rfl, rfl⟩
theorem jnil_term (w : World) : Calls Tryz.prog 29 #[.pointer none] w fun e w' => e = .returned (.tuple #[.int .i64 0, .int .i64 0]) ∧ w' = w := by
  go_enter Tryz.func29, Tryz.ntmps29
  go_wp2_with fail
  go_ret2
  exact ⟨rfl, rfl⟩
theorem jnil_base (w : World) : Calls Tryz.prog 31 #[.pointer none] w fun e w' => e = .returned (.tuple #[.int .i64 0, .int .i64 0]) ∧ w' = w := by
  go_enter Tryz.func31, Tryz.ntmps31
  go_wp2_with fail
  go_ret2
  exact ⟨rfl, rfl⟩
theorem jnil_last (w : World) : Calls Tryz.prog 25 #[.pointer none] w fun e w' => e = .returned (.tuple #[.int .i64 0, .int .i64 0]) ∧ w' = w := by
  go_enter Tryz.func25, Tryz.ntmps25
  go_wp2_with fail
  go_ret2
  exact ⟨rfl, rfl⟩
theorem jnil_has (w : World) (i : Int) : Calls Tryz.prog 103 #[.pointer none, .int .i64 i] w fun e w' => e = .returned (.bool false) ∧ w' = w.drew := by
  go_enter Tryz.func103, Tryz.ntmps103
  go_wp2_with fail
  refine ord_start (fun W' : World => W' = w.drew) (n := 27) (by kernel_rfl) rfl rfl (fun hHeld => ?_)
  refine ord_take 0 (v := ?v960x0) rfl (by kernel_rfl) (by kernel_rfl) (by kernel_rfl) (fun _ _ _ h => h) (by rfl) (by assumption) ?y960x0 ?_
  case y960x0 => (intro W hSw; (try dsimp only at hSw); subst hSw; go_simp; try with_reducible rfl)
  simp only [Act.put, List.setIfInBounds_toArray, List.set_cons_zero, List.set_cons_succ]
  refine ord_take 1 (v := ?v960x1) rfl (by kernel_rfl) (by kernel_rfl) (by kernel_rfl) (fun _ _ _ h => h) (by rfl) (by assumption) ?y960x1 ?_
  case y960x1 => (intro W hSw; (try dsimp only at hSw); subst hSw; go_simp; try with_reducible rfl)
  simp only [Act.put, List.setIfInBounds_toArray, List.set_cons_zero, List.set_cons_succ]
  refine ord_take 2 (v := ?v960x2) rfl (by kernel_rfl) (by kernel_rfl) (by kernel_rfl) (fun _ _ _ h => h) (by rfl) (by assumption) ?y960x2 ?_
  case y960x2 => (intro W hSw; (try dsimp only at hSw); subst hSw; go_simp; try with_reducible rfl)
  simp only [Act.put, List.setIfInBounds_toArray, List.set_cons_zero, List.set_cons_succ]
  refine ord_skip 3 rfl (by kernel_rfl) (by kernel_rfl) (by kernel_rfl) (fun _ _ _ h => h) (by rfl) (by assumption) ?_
  simp only [Act.put, List.setIfInBounds_toArray, List.set_cons_zero, List.set_cons_succ]
  refine ord_skip 4 rfl (by kernel_rfl) (by kernel_rfl) (by kernel_rfl) (fun _ _ _ h => h) (by rfl) (by assumption) ?_
  simp only [Act.put, List.setIfInBounds_toArray, List.set_cons_zero, List.set_cons_succ]
  refine ord_skip 5 rfl (by kernel_rfl) (by kernel_rfl) (by kernel_rfl) (fun _ _ _ h => h) (by rfl) (by assumption) ?_
  simp only [Act.put, List.setIfInBounds_toArray, List.set_cons_zero, List.set_cons_succ]
  refine ord_skip 6 rfl (by kernel_rfl) (by kernel_rfl) (by kernel_rfl) (fun _ _ _ h => h) (by rfl) (by assumption) ?_
  simp only [Act.put, List.setIfInBounds_toArray, List.set_cons_zero, List.set_cons_succ]
  refine ord_skip 7 rfl (by kernel_rfl) (by kernel_rfl) (by kernel_rfl) (fun _ _ _ h => h) (by rfl) (by assumption) ?_
  simp only [Act.put, List.setIfInBounds_toArray, List.set_cons_zero, List.set_cons_succ]
  refine ord_skip 8 rfl (by kernel_rfl) (by kernel_rfl) (by kernel_rfl) (fun _ _ _ h => h) (by rfl) (by assumption) ?_
  simp only [Act.put, List.setIfInBounds_toArray, List.set_cons_zero, List.set_cons_succ]
  refine ord_skip 9 rfl (by kernel_rfl) (by kernel_rfl) (by kernel_rfl) (fun _ _ _ h => h) (by rfl) (by assumption) ?_
  simp only [Act.put, List.setIfInBounds_toArray, List.set_cons_zero, List.set_cons_succ]
  refine ord_take 10 (v := ?v960x10) rfl (by kernel_rfl) (by kernel_rfl) (by kernel_rfl) (fun _ _ _ h => h) (by rfl) (by assumption) ?y960x10 ?_
  case y960x10 => (intro W hSw; (try dsimp only at hSw); subst hSw; go_simp; try with_reducible rfl)
  simp only [Act.put, List.setIfInBounds_toArray, List.set_cons_zero, List.set_cons_succ]
  refine ord_take 11 (v := ?v960x11) rfl (by kernel_rfl) (by kernel_rfl) (by kernel_rfl) (fun _ _ _ h => h) (by rfl) (by assumption) ?y960x11 ?_
  case y960x11 => (intro W hSw; (try dsimp only at hSw); subst hSw; go_simp; try with_reducible rfl)
  simp only [Act.put, List.setIfInBounds_toArray, List.set_cons_zero, List.set_cons_succ]
  refine ord_skip 12 rfl (by kernel_rfl) (by kernel_rfl) (by kernel_rfl) (fun _ _ _ h => h) (by rfl) (by assumption) ?_
  simp only [Act.put, List.setIfInBounds_toArray, List.set_cons_zero, List.set_cons_succ]
  refine ord_skip 13 rfl (by kernel_rfl) (by kernel_rfl) (by kernel_rfl) (fun _ _ _ h => h) (by rfl) (by assumption) ?_
  simp only [Act.put, List.setIfInBounds_toArray, List.set_cons_zero, List.set_cons_succ]
  refine ord_skip 14 rfl (by kernel_rfl) (by kernel_rfl) (by kernel_rfl) (fun _ _ _ h => h) (by rfl) (by assumption) ?_
  simp only [Act.put, List.setIfInBounds_toArray, List.set_cons_zero, List.set_cons_succ]
  refine ord_skip 15 rfl (by kernel_rfl) (by kernel_rfl) (by kernel_rfl) (fun _ _ _ h => h) (by rfl) (by assumption) ?_
  simp only [Act.put, List.setIfInBounds_toArray, List.set_cons_zero, List.set_cons_succ]
  refine ord_skip 16 rfl (by kernel_rfl) (by kernel_rfl) (by kernel_rfl) (fun _ _ _ h => h) (by rfl) (by assumption) ?_
  simp only [Act.put, List.setIfInBounds_toArray, List.set_cons_zero, List.set_cons_succ]
  refine ord_skip 17 rfl (by kernel_rfl) (by kernel_rfl) (by kernel_rfl) (fun _ _ _ h => h) (by rfl) (by assumption) ?_
  simp only [Act.put, List.setIfInBounds_toArray, List.set_cons_zero, List.set_cons_succ]
  refine ord_skip 18 rfl (by kernel_rfl) (by kernel_rfl) (by kernel_rfl) (fun _ _ _ h => h) (by rfl) (by assumption) ?_
  simp only [Act.put, List.setIfInBounds_toArray, List.set_cons_zero, List.set_cons_succ]
  refine ord_skip 19 rfl (by kernel_rfl) (by kernel_rfl) (by kernel_rfl) (fun _ _ _ h => h) (by rfl) (by assumption) ?_
  simp only [Act.put, List.setIfInBounds_toArray, List.set_cons_zero, List.set_cons_succ]
  refine ord_skip 20 rfl (by kernel_rfl) (by kernel_rfl) (by kernel_rfl) (fun _ _ _ h => h) (by rfl) (by assumption) ?_
  simp only [Act.put, List.setIfInBounds_toArray, List.set_cons_zero, List.set_cons_succ]
  refine ord_skip 21 rfl (by kernel_rfl) (by kernel_rfl) (by kernel_rfl) (fun _ _ _ h => h) (by rfl) (by assumption) ?_
  simp only [Act.put, List.setIfInBounds_toArray, List.set_cons_zero, List.set_cons_succ]
  refine ord_skip 22 rfl (by kernel_rfl) (by kernel_rfl) (by kernel_rfl) (fun _ _ _ h => h) (by rfl) (by assumption) ?_
  simp only [Act.put, List.setIfInBounds_toArray, List.set_cons_zero, List.set_cons_succ]
  refine ord_skip 23 rfl (by kernel_rfl) (by kernel_rfl) (by kernel_rfl) (fun _ _ _ h => h) (by rfl) (by assumption) ?_
  simp only [Act.put, List.setIfInBounds_toArray, List.set_cons_zero, List.set_cons_succ]
  refine ord_skip 24 rfl (by kernel_rfl) (by kernel_rfl) (by kernel_rfl) (fun _ _ _ h => h) (by rfl) (by assumption) ?_
  simp only [Act.put, List.setIfInBounds_toArray, List.set_cons_zero, List.set_cons_succ]
  refine ord_take 25 (v := ?v960x25) rfl (by kernel_rfl) (by kernel_rfl) (by kernel_rfl) (fun _ _ _ h => h) (by rfl) (by assumption) ?y960x25 ?_
  case y960x25 => (intro W hSw; (try dsimp only at hSw); subst hSw; go_simp; try with_reducible rfl)
  simp only [Act.put, List.setIfInBounds_toArray, List.set_cons_zero, List.set_cons_succ]
  refine ord_take 26 (v := ?v960x26) rfl (by kernel_rfl) (by kernel_rfl) (by kernel_rfl) (fun _ _ _ h => h) (by rfl) (by assumption) ?y960x26 ?_
  case y960x26 => (intro W hSw; (try dsimp only at hSw); subst hSw; go_simp; try with_reducible rfl)
  simp only [Act.put, List.setIfInBounds_toArray, List.set_cons_zero, List.set_cons_succ]
  refine wpAnyH_done (by kernel_rfl) ?_ _
  go_wp2_with fail
  go_ret
  exact ⟨rfl, rfl⟩
theorem jnil_termAt (w : World) (i : Int) : Calls Tryz.prog 35 #[.pointer none, .int .i64 i] w fun e w' => e = .returned (.tuple #[.int .i64 0, .bool false]) ∧ ∃ q, w' = w.drewN q := by
  have H := Lib.hid (jnil_has w i)
  go_enter Tryz.func35, Tryz.ntmps35
  go_wp2_with fail
  refine H.out.mono ?_
  rintro e w' ⟨rfl, rfl⟩
  go_wp2_with fail
  go_ret2
  exact ⟨rfl, 1, rfl⟩
theorem jnil_nodes (w : World) : Calls Tryz.prog 24 #[.pointer none] w fun e w' => e = .returned (.tuple #[.slice none 0 0, .int .i64 0]) ∧ w' = w := by
  go_enter Tryz.func24, Tryz.ntmps24
  go_wp2_with fail
  go_ret2
  exact ⟨rfl, rfl⟩
theorem jnil_snapshot (w : World) : Calls Tryz.prog 32 #[.pointer none] w fun e w' => e = .returned (.tuple #[.slice none 0 0, .slice none 0 0]) ∧ w' = w := by
  go_enter Tryz.func32, Tryz.ntmps32
  go_wp2_with fail
  go_ret2
  exact ⟨rfl, rfl⟩
theorem jnil_append (w : World) (x : Value) : Calls Tryz.prog 22 #[.pointer none, x] w fun e w' => e = .returned (.int .i64 1) ∧ w' = w := by
  have H := Lib.hid (jnil_may w)
  go_enter Tryz.func22, Tryz.ntmps22
  go_wp2_with fail
  refine H.out.mono ?_
  rintro e w' ⟨rfl, rfl⟩
  go_wp2_with fail
  go_ret
  exact ⟨rfl, rfl⟩
theorem jnil_setTerm (w : World) (i k : Int) : Calls Tryz.prog 27 #[.pointer none, .int .i64 i, .int .i64 k] w fun e w' => e = .returned (.int .i64 1) ∧ w' = w := by
  have H := Lib.hid (jnil_may w)
  go_enter Tryz.func27, Tryz.ntmps27
  go_wp2_with fail
  refine H.out.mono ?_
  rintro e w' ⟨rfl, rfl⟩
  go_wp2_with fail
  go_ret
  exact ⟨rfl, rfl⟩
theorem jnil_cut (w : World) (i : Int) : Calls Tryz.prog 23 #[.pointer none, .int .i64 i] w fun e w' => e = .returned (.int .i64 1) ∧ w' = w := by
  have H := Lib.hid (jnil_may w)
  go_enter Tryz.func23, Tryz.ntmps23
  go_wp2_with fail
  refine H.out.mono ?_
  rintro e w' ⟨rfl, rfl⟩
  go_wp2_with fail
  go_ret
  exact ⟨rfl, rfl⟩
theorem jnil_compact (w : World) (i : Int) (x : Value) : Calls Tryz.prog 30 #[.pointer none, .int .i64 i, x] w fun e w' => e = .returned (.int .i64 1) ∧ w' = w := by
  have H := Lib.hid (jnil_may w)
  go_enter Tryz.func30, Tryz.ntmps30
  go_wp2_with fail
  refine H.out.mono ?_
  rintro e w' ⟨rfl, rfl⟩
  go_wp2_with fail
  go_ret
  exact ⟨rfl, rfl⟩
theorem jnil_install (w : World) (i k : Int) (x y : Value) : Calls Tryz.prog 38 #[.pointer none, .int .i64 i, .int .i64 k, x, y] w fun e w' => e = .returned (.int .i64 1) ∧ w' = w := by
  have H := Lib.hid (jnil_may w)
  go_enter Tryz.func38, Tryz.ntmps38
  go_wp2_with fail
  refine H.out.mono ?_
  rintro e w' ⟨rfl, rfl⟩
  go_wp2_with fail
  go_ret
  exact ⟨rfl, rfl⟩

set_option maxHeartbeats 2000000 in
theorem jnil_open (w : World) (s : ByteArray) (x : Value) : Calls Tryz.prog 17 #[.pointer none, .string s, x] w fun e w' => e = .returned (.tuple #[.pointer none, .int .i64 1]) ∧ w' = w := by
  go_enter Tryz.func17, Tryz.ntmps17
  go_wp2_with fail
  go_ret2
  exact ⟨rfl, rfl⟩
end Go.Proofs.YtapfnehdgailmaaGreat

namespace Go.Proofs.YtapfnehdgailmaaGreat
open Go.RowKit Go.Sat Go.Maps

set_option maxRecDepth 100000 in
set_option maxHeartbeats 4000000 in
theorem jnil_at (w1 : World) (i : Int) :
    Calls Tryz.prog 34 #[.pointer none, .int .i64 i] w1 fun r w' => r = .returned (.tuple #[.agg #[.int .i64 0, .int .i64 0, .slice none 0 0, .slice none 0 0], .int .i64 7]) ∧ Below w1.heap.size w1 w' := by
  have hb0 := below_one w1 (.cells #[.int .i64 0, .int .i64 0, .slice none 0 0, .slice none 0 0] 50)
  have Hha := Lib.hid (jnil_has (w1.alloc (.cells #[.int .i64 0, .int .i64 0, .slice none 0 0, .slice none 0 0] 50)) i)
  go_enter Tryz.func34, Tryz.ntmps34
  go_wp2_with fail
  refine Hha.out.mono ?_
  rintro r w2 ⟨rfl, rfl⟩
  have HB2 := Lib.hid (show Below w1.heap.size w1 ((w1.alloc (.cells #[.int .i64 0, .int .i64 0, .slice none 0 0, .slice none 0 0] 50)).drew) from hb0.trans ⟨rfl, rfl, rfl, by simp, fun _ _ => rfl⟩)
  have hR : ((w1.alloc (.cells #[.int .i64 0, .int .i64 0, .slice none 0 0, .slice none 0 0] 50)).drew).heap[w1.heap.size]? = some (.cells #[.int .i64 0, .int .i64 0, .slice none 0 0, .slice none 0 0] 50) := new_block w1 _
  generalize (w1.alloc (.cells #[.int .i64 0, .int .i64 0, .slice none 0 0, .slice none 0 0] 50)).drew = W at *
  have r0 := cell_of hR (i := 0) rfl
  have r1 := cell_of hR (i := 1) rfl
  have r2 := cell_of hR (i := 2) rfl
  have r3 := cell_of hR (i := 3) rfl
  have fr := frozen_of hR
  have HR := Lib.hid hR
  clear hb0 Hha hR
  go_wp2_with fail
  have hz : ((((W.setCell ⟨w1.heap.size, 0, none⟩ (.int .i64 0)).setCell ⟨w1.heap.size, 1, none⟩ (.int .i64 0)).setCell ⟨w1.heap.size, 2, none⟩ (.slice none 0 0)).setCell ⟨w1.heap.size, 3, none⟩ (.slice none 0 0)).heap[w1.heap.size]? = some (.cells #[.int .i64 0, .int .i64 0, .slice none 0 0, .slice none 0 0] 50) := by
    have h1 := set_block HR.out 0 (.int .i64 0)
    have h2 := set_block h1 1 (.int .i64 0)
    have h3 := set_block h2 2 (.slice none 0 0)
    have h4 := set_block h3 3 (.slice none 0 0)
    simpa using h4
  have hC : Chg (fun x => x = w1.heap.size) W ((((W.setCell ⟨w1.heap.size, 0, none⟩ (.int .i64 0)).setCell ⟨w1.heap.size, 1, none⟩ (.int .i64 0)).setCell ⟨w1.heap.size, 2, none⟩ (.slice none 0 0)).setCell ⟨w1.heap.size, 3, none⟩ (.slice none 0 0)) := (((Chg.setCell W ⟨w1.heap.size, 0, none⟩ _).trans (Chg.setCell _ ⟨w1.heap.size, 1, none⟩ _) fun _ _ e => e).trans (Chg.setCell _ ⟨w1.heap.size, 2, none⟩ _) fun _ _ e => e).trans (Chg.setCell _ ⟨w1.heap.size, 3, none⟩ _) fun _ _ e => e
  have HE := Lib.hid (show Below w1.heap.size w1 _ from HB2.out.trans (hC.below HB2.out.size fun k hk e => by omega))
  (try simp only [Exit.inBlock, Exit.then])
  refine bodyPost_ret (results_row2 rfl _ _ w1.heap.size _ _ (0, 0) _ rfl hz Tryz.underlying50 rfl (by kernel_rfl)) rfl ?_
  exact ⟨rfl, HE.out⟩

end Go.Proofs.YtapfnehdgailmaaGreat

namespace Go.Proofs.YtapfnehdgailmaaGreat
open Go.RowKit Go.Sat Go.Maps

theorem holds_drewN {w : World} {s n : Nat} {v : Value} {xs : List Value} (h : Holds w s v n xs) (q : Nat) : Holds (w.drewN q) s v n xs :=
  Holds.keep h fun _ _ => rfl

theorem take_eqG {α : Type} {l m : List α} {k : Nat} {x y : α} (hl : l[k]? = some x) (hm : m[k]? = some y) (h : l.take k = m.take k) (e : x = y) : l.take (k + 1) = m.take (k + 1) := by
  rw [List.take_add_one, List.take_add_one, hl, hm, h, e]
theorem ne_atG {α : Type} [BEq α] [LawfulBEq α] {l m : List α} {k : Nat} {x y : α} (hl : l[k]? = some x) (hm : m[k]? = some y) (e : x ≠ y) : (l == m) = false := by
  rw [beq_eq_false_iff_ne]
  rintro rfl
  rw [hl] at hm
  exact e (Option.some.inj hm)

set_option maxHeartbeats 1000000 in
theorem ints5_calls {w : World} {x y : Value} {l m : List Int} (hx : HasI w x l) (hy : HasI w y m) (hl : l.length ≤ 140737488355328) (hm : m.length ≤ 140737488355328) :
    Calls Tryz.prog 26 #[x, y] w (SamePost w (l == m)) := by
  by_cases hlen : l.length = m.length
  · have ax := hx.at
    have ay := hy.at
    obtain ⟨px, cx, rfl⟩ := hx.slice
    obtain ⟨py, cy, rfl⟩ := hy.slice
    have hbne : ((l.length : Int) != (m.length : Int)) = false := by simp [hlen]
    have Hlen := Lib.hid hlen
    have Hax := Lib.hid ax
    have Hay := Lib.hid ay
    clear hx hy hlen ax ay
    generalize hlN : l.length = N at *
    generalize hmM : m.length = M at *
    have HlN := Lib.hid hlN
    have HmM := Lib.hid hmM
    clear hlN hmM
    go_enter Tryz.func26, Tryz.ntmps26
    go_wp2
    go_loopw [5] (fun i wr => ∃ k q : Nat, k ≤ N ∧ i = .int .i64 k ∧ l.take k = m.take k ∧ wr = w.drewN q) (fun i _ => N - (intOf i).toNat)
    case atStart => exact ⟨0, 0, Nat.zero_le _, rfl, rfl, rfl⟩
    case round =>
      obtain ⟨k, q, hk, rfl, htake, rfl⟩ := hrel
      have Htake := Lib.hid htake
      clear htake
      by_cases hlt : k < N
      · have hltM : k < M := by have := Hlen.out; omega
        have hkl : k < l.length := by rw [HlN.out]; exact hlt
        have hkm : k < m.length := by rw [HmM.out]; exact hltM
        have h1 : l[k]? = some l[k] := List.getElem?_eq_getElem hkl
        have h2 : m[k]? = some m[k] := List.getElem?_eq_getElem hkm
        rcases Hax.out with h | ⟨b, o, c, e1, hcx⟩
        · rw [h] at hkl
          simp at hkl
        rcases Hay.out with h | ⟨b2, o2, c2, e2, hcy⟩
        · rw [h] at hkm
          simp at hkm
        cases e1
        cases e2
        have hc1 := hcx k _ h1
        have hc2 := hcy k _ h2
        have Hnext := Lib.hid (fun e => take_eqG h1 h2 Htake.out e)
        have Hno := Lib.hid (fun e => ne_atG h1 h2 e)
        clear hcx hcy h1 h2
        generalize l[k] = a at *
        generalize m[k] = b at *
        by_cases hab : a = b
        · subst hab
          clear hkl hkm
          go_wp2_with fail
          go_quiet (fail)
          go_wp2
          go_roundw
          case rel => exact ⟨k + 1, q + nq, by omega, by go_num, Hnext.out trivial, by first | rfl | rw [World.drewN_drewN]⟩
          case measure => simp [intOf]; omega
        · have hd : ((a != b) = true) := by simpa using hab
          have Hab := Lib.hid hab
          clear hab hkl hkm
          go_wp2_with fail
          go_quiet (fail)
          go_wp2
          go_ret
          exact ⟨by rw [Hno.out Hab.out]; rfl, q + nq, by first | rfl | rw [World.drewN_drewN]⟩
      · go_wp2
        go_ret
        refine ⟨?_, q, rfl⟩
        have h1 := Htake.out
        rw [List.take_of_length_le (by rw [HlN.out]; omega), List.take_of_length_le (by rw [HmM.out]; have := Hlen.out; omega)] at h1
        simp [h1]
  · obtain ⟨px, cx, rfl⟩ := hx.slice
    obtain ⟨py, cy, rfl⟩ := hy.slice
    have hbne : ((l.length : Int) != (m.length : Int)) = true := by simp; omega
    have hres : (l == m) = false := by rw [beq_eq_false_iff_ne]; rintro rfl; exact hlen rfl
    rw [hres]
    clear hx hy hlen hres
    go_enter Tryz.func26, Tryz.ntmps26
    go_wp2
    go_ret
    exact ⟨rfl, 0, rfl⟩
end Go.Proofs.YtapfnehdgailmaaGreat

namespace Go.Proofs.YtapfnehdgailmaaGreat
open Go.RowKit Go.Sat Go.Maps

def entEq (e f : Ent) : Bool := decide (e.term = f.term) && decide (e.kind = f.kind) && (e.data == f.data) && (e.nodes == f.nodes)
theorem entEq_refl (e : Ent) : entEq e e = true := by simp [entEq]
set_option maxRecDepth 100000 in
set_option maxHeartbeats 4000000 in
theorem entries5_calls {w : World} {e f : Ent} {v u : EV} (hv : EntHas w e v) (hu : EntHas w f u) :
    Calls Tryz.prog 37 #[entV e v, entV f u] w fun r w' => r = .returned (.bool (entEq e f)) ∧ Below w.heap.size w w' := by
  obtain ⟨t1, k1, da1, no1⟩ := e
  obtain ⟨t2, k2, da2, no2⟩ := f
  obtain ⟨v1, v2⟩ := v
  obtain ⟨u1, u2⟩ := u
  have hb := (below_one w (.cells #[.int .i64 t1, .int .i64 k1, v1, v2] 50)).alloc (by simp) (.cells #[.int .i64 t2, .int .i64 k2, u1, u2] 50)
  have hvb := hv.below hb
  have hub := hu.below hb
  have Hs := Lib.hid (same5_calls hvb.data hub.data (Nat.le_trans hvb.dl (by decide)) (Nat.le_trans hub.dl (by decide)))
  have Hi := Lib.hid (fun q => ints5_calls (holds_drewN hvb.nodes q) (holds_drewN hub.nodes q) (Nat.le_trans hvb.nl (by decide)) (Nat.le_trans hub.nl (by decide)))
  have HB := Lib.hid hb
  clear hb hv hu hvb hub
  unfold entV entEq
  dsimp only at Hs Hi ⊢
  by_cases h1 : t1 = t2
  · have d1 : (t1 == t2) = true := by simpa using h1
    rw [decide_eq_true h1]
    by_cases h2 : k1 = k2
    · have d2 : (k1 == k2) = true := by simpa using h2
      rw [decide_eq_true h2]
      subst h1
      subst h2
      cases h3 : da1 == da2 with
      | true =>
        rw [h3] at Hs
        go_enter Tryz.func37, Tryz.ntmps37
        go_wp2_with fail
        refine Hs.out.mono ?_
        rintro r w2 ⟨rfl, q, rfl⟩
        go_wp2_with fail
        refine (Hi.out q).mono ?_
        rintro r w3 ⟨rfl, q2, rfl⟩
        go_wp2_with fail
        go_ret
        exact ⟨by simp, HB.out.trans ⟨rfl, rfl, rfl, Nat.le_refl _, fun _ _ => rfl⟩⟩
      | false =>
        rw [h3] at Hs
        go_enter Tryz.func37, Tryz.ntmps37
        go_wp2_with fail
        refine Hs.out.mono ?_
        rintro r w2 ⟨rfl, q, rfl⟩
        go_wp2_with fail
        go_ret
        exact ⟨by simp, HB.out.trans ⟨rfl, rfl, rfl, Nat.le_refl _, fun _ _ => rfl⟩⟩
    · have d2 : (k1 == k2) = false := by simpa using h2
      rw [decide_eq_false h2]
      subst h1
      clear Hs Hi
      go_enter Tryz.func37, Tryz.ntmps37
      go_wp2_with fail
      go_ret
      exact ⟨by simp, HB.out.trans ⟨rfl, rfl, rfl, Nat.le_refl _, fun _ _ => rfl⟩⟩
  · have d1 : (t1 == t2) = false := by simpa using h1
    rw [decide_eq_false h1]
    clear Hs Hi
    go_enter Tryz.func37, Tryz.ntmps37
    go_wp2_with fail
    go_ret
    exact ⟨by simp, HB.out.trans ⟨rfl, rfl, rfl, Nat.le_refl _, fun _ _ => rfl⟩⟩
end Go.Proofs.YtapfnehdgailmaaGreat

namespace Go.Proofs.YtapfnehdgailmaaGreat
open Go.RowKit Go.Sat Go.Maps

theorem zeroHas (w : World) : EntHas w ⟨0, 0, [], []⟩ (.slice none 0 0, .slice none 0 0) :=
  ⟨⟨rfl, none, 0, rfl, fun _ => rfl, fun a ha => by cases ha⟩, ⟨rfl, none, 0, rfl, fun _ => rfl, fun a ha => by cases ha⟩, by decide, by decide⟩

set_option maxRecDepth 100000 in
set_option maxHeartbeats 16000000 in
theorem ofnothing_walk {w : World} (t k i : Int) {p1 p2 : Option Addr} {n1 c1 n2 c2 : Nat} (hn1 : n1 ≤ 140737488355328) (hn2 : n2 ≤ 140737488355328) {pn : Option Addr} {nn cn : Nat} {nodes : List Int} (hx : HasI w (.slice pn nn cn) nodes) (hl : nodes.length = nn) (hn : nn ≤ 17592186044416) :
    Calls Tryz.prog 7 #[.agg #[.int .i64 t, .int .i64 k, .slice p1 n1 c1, .slice p2 n2 c2], .int .i64 i, .slice pn nn cn] w (True3 w) := by
  have hw1 : IntKind.i64.wrap ((n1 : Int) + (n2 : Int)) = ((n1 + n2 : Nat) : Int) := by rw [IntWalk.i64_in _ (by omega)]; omega
  have hw2 : IntKind.i64.wrap (((n1 + n2 : Nat) : Int) + (nn : Int)) = ((n1 + n2 + nn : Nat) : Int) := by rw [IntWalk.i64_in _ (by omega)]; omega
  generalize hE : (Obj.cells #[.int .i64 t, .int .i64 k, .slice p1 n1 c1, .slice p2 n2 c2] 50) = E
  by_cases hbig : 1000 < n1 + n2 + nn
  · have hd : decide ((1000 : Int) < ((n1 + n2 + nn : Nat) : Int)) = true := decide_eq_true (by omega)
    subst hE
    have hb := below_one w (.cells #[.int .i64 t, .int .i64 k, .slice p1 n1 c1, .slice p2 n2 c2] 50)
    go_enter Tryz.func7, Tryz.ntmps7
    go_wp2_with fail
    go_ret
    exact ⟨rfl, hb⟩
  · have hd : decide ((1000 : Int) < ((n1 + n2 + nn : Nat) : Int)) = false := decide_eq_false (by omega)
    have hn40 : nodes.length ≤ 1099511627776 := by omega
    have hB0 := below_one w E
    have Hx := Lib.hid hx
    have HE0 := Lib.hid hE
    have Hh0 := Lib.hid (show HasI (w.alloc E) (.slice pn nn cn) nodes from Holds.chg hx (Chg.of_below hB0) fun _ _ => id)
    have HB0 := Lib.hid hB0
    clear hx hB0 hl
    subst hE
    go_enter Tryz.func7, Tryz.ntmps7
    go_wp2_with fail
    refine (jnil_term _).mono ?_
    rintro e w' ⟨rfl, rfl⟩
    go_wp2_with fail
    refine (jnil_base _).mono ?_
    rintro e w' ⟨rfl, rfl⟩
    go_wp2_with fail
    refine (jnil_last _).mono ?_
    rintro e w' ⟨rfl, rfl⟩
    go_wp2_with fail
    refine (jnil_at _ i).mono ?_
    rintro e w1 ⟨rfl, hb1⟩
    have HB1 := Lib.hid (HB0.out.trans (hb1.mono HB0.out.size))
    have Hh1 := Lib.hid (show HasI w1 (.slice pn nn cn) nodes from Holds.chg Hh0.out (Chg.of_below hb1) fun _ _ => id)
    have hE1 := (hb1.block w.heap.size (by simp)).trans (new_block w (.cells #[.int .i64 t, .int .i64 k, .slice p1 n1 c1, .slice p2 n2 c2] 50))
    clear hb1 Hh0
    have hxb := below_one w1 (.cells #[.int .i64 0, .int .i64 0, .slice none 0 0, .slice none 0 0] 50)
    have HBx := Lib.hid (HB1.out.trans (hxb.mono HB1.out.size))
    have Hhx := Lib.hid (show HasI (w1.alloc (.cells #[.int .i64 0, .int .i64 0, .slice none 0 0, .slice none 0 0] 50)) (.slice pn nn cn) nodes from Holds.chg Hh1.out (Chg.of_below hxb) fun _ _ => id)
    have Hex := Lib.hid (old_block (.cells #[.int .i64 0, .int .i64 0, .slice none 0 0, .slice none 0 0] 50) hE1)
    have Hzx := Lib.hid (new_block w1 (.cells #[.int .i64 0, .int .i64 0, .slice none 0 0, .slice none 0 0] 50))
    have hE1x := Lib.hid hE1
    clear hxb hE1
    go_wp2_with fail
    refine (jnil_termAt _ i).mono ?_
    rintro e w2 ⟨rfl, q2, rfl⟩
    have HB2 := Lib.hid (show Below w.heap.size w ((w1.alloc (.cells #[.int .i64 0, .int .i64 0, .slice none 0 0, .slice none 0 0] 50)).drewN q2) from HBx.out.trans ⟨rfl, rfl, rfl, Nat.le_refl _, fun _ _ => rfl⟩)
    have Hh2 := Lib.hid (holds_drewN Hhx.out q2)
    have Hex2 := Lib.hid (show ((w1.alloc (.cells #[.int .i64 0, .int .i64 0, .slice none 0 0, .slice none 0 0] 50)).drewN q2).heap[w.heap.size]? = some (.cells #[.int .i64 t, .int .i64 k, .slice p1 n1 c1, .slice p2 n2 c2] 50) from Hex.out)
    have Hzx2 := Lib.hid (show ((w1.alloc (.cells #[.int .i64 0, .int .i64 0, .slice none 0 0, .slice none 0 0] 50)).drewN q2).heap[w1.heap.size]? = some (.cells #[.int .i64 0, .int .i64 0, .slice none 0 0, .slice none 0 0] 50) from Hzx.out)
    have HZ := Lib.hid (show w.heap.size < w1.heap.size from by have := (Array.getElem?_eq_some_iff.1 Hex.out).1; have h2 := HB1.out.size; have := HB0.out.size; have h5 := (Array.getElem?_eq_some_iff.1 hE1x.out).1; omega)
    clear HBx Hhx Hex Hzx
    generalize (w1.alloc (.cells #[.int .i64 0, .int .i64 0, .slice none 0 0, .slice none 0 0] 50)).drewN q2 = W2 at *
    go_wp2_with fail
    refine (jnil_nodes _).mono ?_
    rintro e W2 ⟨rfl, rfl⟩
    go_wp2_with fail
    refine (jnil_snapshot _).mono ?_
    rintro e W2 ⟨rfl, rfl⟩
    go_wp2_with fail
    refine (jnil_open _ _ _).mono ?_
    rintro e W2 ⟨rfl, rfl⟩
    have hb3 := below_one W2 (.cells #[.int .i64 0] 3)
    have HB3 := Lib.hid (HB2.out.trans (hb3.mono HB2.out.size))
    have Hh3 := Lib.hid (show HasI (W2.alloc (.cells #[.int .i64 0] 3)) (.slice pn nn cn) nodes from Holds.chg Hh2.out (Chg.of_below hb3) fun _ _ => id)
    have Hex3 := Lib.hid (old_block (.cells #[.int .i64 0] 3) Hex2.out)
    have Hzx3 := Lib.hid (old_block (.cells #[.int .i64 0] 3) Hzx2.out)
    clear hb3 HB2 Hh2 Hex2 Hzx2
    generalize W2.alloc (.cells #[.int .i64 0] 3) = W3 at *
    have Hnew := Lib.hid (st_new (w := W3) (w1 := W3) 1000 (by decide) (by decide) (Below.refl _ _))
    go_wp2_with fail
    refine Hnew.out.mono ?_
    rintro e w4 ⟨d, rfl, hst⟩
    have Hop := Lib.hid (jopen_calls hst (show (DiskM.fresh 1000).room ≤ 1048576 by decide) sA (show HasI w4 (.slice pn nn cn) nodes from Holds.chg Hh3.out (Chg.of_below hst.below) fun _ _ => id) hn40)
    clear hst Hnew
    cases hg : isGrp nodes with
    | true =>
      rw [show (1000 : Int).toNat = 1000 from rfl, show jouOpen (DiskM.fresh 1000) (nm sA) nodes = (diskJ0 1000 [97] nodes, 0, JouM.none0 nodes) from jopen_fresh (by decide) (by decide) (pre := [97]) ⟨by decide, by decide⟩ hg] at Hop
      go_wp2_with fail
      refine Hop.out.mono ?_
      rintro e w5 ⟨hs5, -, HC⟩
      have hb5 := hs5.below
      have HB5 := Lib.hid ((show Below w.heap.size w W3 from HB3.out).trans (hb5.mono HB3.out.size))
      have Hh5 := Lib.hid (show HasI w5 (.slice pn nn cn) nodes from Holds.chg Hh3.out (Chg.of_below hb5) fun _ _ => id)
      have Hex5 := Lib.hid ((hb5.block w.heap.size (lt_of_block Hex3.out)).trans Hex3.out)
      have Hzx5 := Lib.hid ((hb5.block w1.heap.size (lt_of_block Hzx3.out)).trans Hzx3.out)
      obtain ⟨j5, rfl⟩ : ∃ j5, e = .returned (.tuple #[.pointer (some ⟨j5, 0, none⟩), .int .i64 0]) := by
        rcases HC with ⟨-, j', rfl, -⟩ | ⟨h, -⟩
        · exact ⟨_, rfl⟩
        · exact absurd rfl h
      clear HC
      clear hs5 hb5 HB3 Hh3 Hex3 Hzx3 Hop
      have Hgr := Lib.hid (rgroup_calls Hh5.out hn40)
      rw [hg] at Hgr
      go_wp2_with fail
      refine Hgr.out.mono ?_
      rintro e w6 ⟨rfl, q6, rfl⟩
      have HB6 := Lib.hid (show Below w.heap.size w (w5.drewN q6) from HB5.out.trans ⟨rfl, rfl, rfl, Nat.le_refl _, fun _ _ => rfl⟩)
      have hex6 : (w5.drewN q6).heap[w.heap.size]? = some (.cells #[.int .i64 t, .int .i64 k, .slice p1 n1 c1, .slice p2 n2 c2] 50) := Hex5.out
      have hzx6 : (w5.drewN q6).heap[w1.heap.size]? = some (.cells #[.int .i64 0, .int .i64 0, .slice none 0 0, .slice none 0 0] 50) := Hzx5.out
      clear Hh5 Hex5 Hzx5 HB5 Hgr
      generalize w5.drewN q6 = W6 at *
      have Hen := Lib.hid (entries5_calls (w := W6) (zeroHas W6) (zeroHas W6))
      rw [entEq_refl] at Hen
      unfold entV at Hen
      dsimp only at Hen
      have z0 := cell_of hzx6 (i := 0) rfl
      have z1 := cell_of hzx6 (i := 1) rfl
      have z2 := cell_of hzx6 (i := 2) rfl
      have z3 := cell_of hzx6 (i := 3) rfl
      have Hex6 := Lib.hid hex6
      clear hzx6 hex6
      go_wp2_with fail
      refine Hen.out.mono ?_
      rintro e w7 ⟨rfl, hb7⟩
      have HB7 := Lib.hid (HB6.out.trans (hb7.mono HB6.out.size))
      have hex7 := (hb7.block w.heap.size (lt_of_block Hex6.out)).trans Hex6.out
      have x0 := cell_of hex7 (i := 0) rfl
      have x1 := cell_of hex7 (i := 1) rfl
      have x2 := cell_of hex7 (i := 2) rfl
      have x3 := cell_of hex7 (i := 3) rfl
      have HB8 := Lib.hid (HB7.out.trans ((below_one w7 (.cells #[.int .i64 t, .int .i64 k, .slice p1 n1 c1, .slice p2 n2 c2] 50)).mono HB7.out.size))
      clear hb7 hex7 Hen z0 z1 z2 z3
      go_wp2_with fail
      refine (jnil_append _ _).mono ?_
      rintro e w8 ⟨rfl, rfl⟩
      clear x0 x1 x2 x3
      generalize w7.alloc (.cells #[.int .i64 t, .int .i64 k, .slice p1 n1 c1, .slice p2 n2 c2] 50) = W8 at *
      have Hkn := Lib.hid (known5_calls W8)
      go_wp2_with fail
      refine (jnil_setTerm _ 1 1).mono ?_
      rintro e w8 ⟨rfl, rfl⟩
      go_wp2_with fail
      refine (jnil_cut _ i).mono ?_
      rintro e w8 ⟨rfl, rfl⟩
      go_wp2_with fail
      refine (jnil_compact _ i _).mono ?_
      rintro e w8 ⟨rfl, rfl⟩
      go_wp2_with fail
      refine (jnil_install _ i 1 _ _).mono ?_
      rintro e w8 ⟨rfl, rfl⟩
      go_wp2_with fail
      refine Hkn.out.mono ?_
      rintro e w9 ⟨rfl, hb9⟩
      have HB9 := Lib.hid (HB8.out.trans (hb9.mono HB8.out.size))
      clear hb9
      go_wp2_with fail
      go_ret
      exact ⟨rfl, HB9.out⟩
    | false =>
      rw [show (1000 : Int).toNat = 1000 from rfl, show jouOpen (DiskM.fresh 1000) (nm sA) nodes = (DiskM.fresh 1000, 1, JouM.none0 nodes) from oj_arg (.inr (.inr hg))] at Hop
      go_wp2_with fail
      refine Hop.out.mono ?_
      rintro e w5 ⟨hs5, -, HC⟩
      have hb5 := hs5.below
      have HB5 := Lib.hid ((show Below w.heap.size w W3 from HB3.out).trans (hb5.mono HB3.out.size))
      have Hh5 := Lib.hid (show HasI w5 (.slice pn nn cn) nodes from Holds.chg Hh3.out (Chg.of_below hb5) fun _ _ => id)
      have Hex5 := Lib.hid ((hb5.block w.heap.size (lt_of_block Hex3.out)).trans Hex3.out)
      have Hzx5 := Lib.hid ((hb5.block w1.heap.size (lt_of_block Hzx3.out)).trans Hzx3.out)
      obtain rfl : e = .returned (.tuple #[.pointer none, .int .i64 1]) := by
        rcases HC with ⟨h, -⟩ | ⟨-, rfl⟩
        · cases h
        · rfl
      clear HC
      clear hs5 hb5 HB3 Hh3 Hex3 Hzx3 Hop
      have Hgr := Lib.hid (rgroup_calls Hh5.out hn40)
      rw [hg] at Hgr
      go_wp2_with fail
      refine Hgr.out.mono ?_
      rintro e w6 ⟨rfl, q6, rfl⟩
      have HB6 := Lib.hid (show Below w.heap.size w (w5.drewN q6) from HB5.out.trans ⟨rfl, rfl, rfl, Nat.le_refl _, fun _ _ => rfl⟩)
      have hex6 : (w5.drewN q6).heap[w.heap.size]? = some (.cells #[.int .i64 t, .int .i64 k, .slice p1 n1 c1, .slice p2 n2 c2] 50) := Hex5.out
      have hzx6 : (w5.drewN q6).heap[w1.heap.size]? = some (.cells #[.int .i64 0, .int .i64 0, .slice none 0 0, .slice none 0 0] 50) := Hzx5.out
      clear Hh5 Hex5 Hzx5 HB5 Hgr
      generalize w5.drewN q6 = W6 at *
      have Hen := Lib.hid (entries5_calls (w := W6) (zeroHas W6) (zeroHas W6))
      rw [entEq_refl] at Hen
      unfold entV at Hen
      dsimp only at Hen
      have z0 := cell_of hzx6 (i := 0) rfl
      have z1 := cell_of hzx6 (i := 1) rfl
      have z2 := cell_of hzx6 (i := 2) rfl
      have z3 := cell_of hzx6 (i := 3) rfl
      have Hex6 := Lib.hid hex6
      clear hzx6 hex6
      go_wp2_with fail
      refine Hen.out.mono ?_
      rintro e w7 ⟨rfl, hb7⟩
      have HB7 := Lib.hid (HB6.out.trans (hb7.mono HB6.out.size))
      have hex7 := (hb7.block w.heap.size (lt_of_block Hex6.out)).trans Hex6.out
      have x0 := cell_of hex7 (i := 0) rfl
      have x1 := cell_of hex7 (i := 1) rfl
      have x2 := cell_of hex7 (i := 2) rfl
      have x3 := cell_of hex7 (i := 3) rfl
      have HB8 := Lib.hid (HB7.out.trans ((below_one w7 (.cells #[.int .i64 t, .int .i64 k, .slice p1 n1 c1, .slice p2 n2 c2] 50)).mono HB7.out.size))
      clear hb7 hex7 Hen z0 z1 z2 z3
      go_wp2_with fail
      refine (jnil_append _ _).mono ?_
      rintro e w8 ⟨rfl, rfl⟩
      clear x0 x1 x2 x3
      generalize w7.alloc (.cells #[.int .i64 t, .int .i64 k, .slice p1 n1 c1, .slice p2 n2 c2] 50) = W8 at *
      have Hkn := Lib.hid (known5_calls W8)
      go_wp2_with fail
      refine (jnil_setTerm _ 1 1).mono ?_
      rintro e w8 ⟨rfl, rfl⟩
      go_wp2_with fail
      refine (jnil_cut _ i).mono ?_
      rintro e w8 ⟨rfl, rfl⟩
      go_wp2_with fail
      refine (jnil_compact _ i _).mono ?_
      rintro e w8 ⟨rfl, rfl⟩
      go_wp2_with fail
      refine (jnil_install _ i 1 _ _).mono ?_
      rintro e w8 ⟨rfl, rfl⟩
      go_wp2_with fail
      refine Hkn.out.mono ?_
      rintro e w9 ⟨rfl, hb9⟩
      have HB9 := Lib.hid (HB8.out.trans (hb9.mono HB8.out.size))
      clear hb9
      go_wp2_with fail
      go_ret
      exact ⟨rfl, HB9.out⟩
end Go.Proofs.YtapfnehdgailmaaGreat

namespace Go.Proofs.YtapfnehdgailmaaGreat
open Go.RowKit Go.Sat Go.Maps

/-- The nodes 0 .. c. -/
def upTo (c : Nat) : List Int := (List.range (c + 1)).map fun i : Nat => (i : Int)
theorem upTo_len (c : Nat) : (upTo c).length = c + 1 := by simp [upTo]
theorem upTo_grp : ∀ c, c ≤ 3 → isGrp (upTo c) = true
  | 0, _ => by rfl
  | 1, _ => by rfl
  | 2, _ => by rfl
  | 3, _ => by rfl
  | n + 4, h => by omega
def gE (c : Nat) : Ent := ⟨1, 2, [], upTo c⟩
def gEnts : List Nat → List Ent
  | [] => []
  | c :: r => ke0 :: gE c :: gEnts r
where ke0 : Ent := ⟨1, 0, [], []⟩
theorem gEnts_len : ∀ cs, (gEnts cs).length = 2 * cs.length
  | [] => rfl
  | c :: r => by
    show (gEnts r).length + 1 + 1 = 2 * (r.length + 1)
    rw [gEnts_len r]
    omega
theorem gEnts_app : ∀ cs c, gEnts (cs ++ [c]) = gEnts cs ++ [gEnts.ke0, gE c]
  | [], _ => rfl
  | a :: r, c => by
    show gEnts.ke0 :: gE a :: gEnts (r ++ [c]) = _
    rw [gEnts_app r c]
    rfl
theorem gEnts_even : ∀ (cs : List Nat) (i : Nat), i < cs.length → (gEnts cs)[2 * i]? = some gEnts.ke0
  | [], _, h => by simp at h
  | _ :: _, 0, _ => rfl
  | a :: r, i + 1, h => by
    have := gEnts_even r i (by simpa using h)
    show (gEnts.ke0 :: gE a :: gEnts r)[2 * i + 2]? = _
    rw [List.getElem?_cons_succ, List.getElem?_cons_succ]
    exact this
theorem gEnts_odd : ∀ (cs : List Nat) (i : Nat) (c : Nat), cs[i]? = some c → (gEnts cs)[2 * i + 1]? = some (gE c)
  | [], _, _, h => by simp at h
  | _ :: _, 0, c, h => by
    simp only [List.getElem?_cons_zero, Option.some.injEq] at h
    rw [h]
    rfl
  | a :: r, i + 1, c, h => by
    have := gEnts_odd r i c (by simpa using h)
    show (gEnts.ke0 :: gE a :: gEnts r)[2 * i + 3]? = _
    rw [List.getElem?_cons_succ, List.getElem?_cons_succ]
    exact this
theorem gEnts_ok : ∀ cs, (∀ c ∈ cs, c ≤ 3) → ∀ e ∈ gEnts cs, isEnt e = true
  | [], _, e, he => by cases he
  | c :: r, h, e, he => by
    rcases List.mem_cons.1 he with rfl | he
    · rfl
    rcases List.mem_cons.1 he with rfl | he
    · have hc := h c (by simp)
      show (isTm 1 && (decide (([] : Bs) = []) && isGrp (upTo c))) = true
      rw [upTo_grp c hc]
      rfl
    · exact gEnts_ok r (fun x hx => h x (by simp [hx])) e he

def gM (cs : List Nat) : JouM := ⟨0, 0, [0, 1, 2], 0, -1, [], gEnts cs, false⟩
/-- The journal behind a cut. -/
def gCut (cs : List Nat) (m : Nat) : JouM := ⟨0, 0, [0, 1, 2], 0, -1, [], (gEnts cs).take m, false⟩
/-- The groups, and where they are said. -/
def gWant (cs : List Nat) : List (List Int) := [0, 1, 2] :: cs.map upTo
theorem gWant_len (cs : List Nat) : (gWant cs).length = cs.length + 1 := by simp [gWant]
theorem gWant_app (cs : List Nat) (c : Nat) : gWant (cs ++ [c]) = gWant cs ++ [upTo c] := by simp [gWant]

theorem gGrp (cs : List Nat) : ∀ (m k : Nat), k ≤ m → m ≤ 2 * cs.length → ∃ l, (gWant cs)[k / 2]? = some l ∧ (gCut cs m).grpIn k = (l, 2 * (k / 2))
  | m, 0, _, _ => ⟨[0, 1, 2], rfl, rfl⟩
  | m, k + 1, hk, hm => by
    have hek : (gCut cs m).entries[k]? = (gEnts cs)[k]? := List.getElem?_take_of_lt (by omega)
    rcases Nat.mod_two_eq_zero_or_one k with h2 | h2
    · obtain ⟨i, rfl⟩ : ∃ i, k = 2 * i := ⟨k / 2, by omega⟩
      obtain ⟨l, h3, h4⟩ := gGrp cs m (2 * i) (by omega) hm
      rw [gEnts_even cs i (by omega)] at hek
      rw [show (2 * i + 1) / 2 = 2 * i / 2 by omega]
      exact ⟨l, h3, (grpIn_no hek (by decide)).trans h4⟩
    · obtain ⟨i, rfl⟩ : ∃ i, k = 2 * i + 1 := ⟨k / 2, by omega⟩
      have hc : cs[i]? = some (cs[i]'(by omega)) := List.getElem?_eq_getElem _
      rw [gEnts_odd cs i _ hc] at hek
      have := grpIn_yes hek rfl
      refine ⟨upTo (cs[i]'(by omega)), ?_, ?_⟩
      · rw [show (2 * i + 1 + 1) / 2 = i + 1 by omega]
        show (_ :: cs.map upTo)[i + 1]? = _
        rw [List.getElem?_cons_succ, List.getElem?_map, hc]
        rfl
      · rw [this]
        show (upTo _, 0 + (2 * i + 1) + 1) = _
        rw [show 2 * ((2 * i + 1 + 1) / 2) = 0 + (2 * i + 1) + 1 by omega]
end Go.Proofs.YtapfnehdgailmaaGreat

namespace Go.Proofs.YtapfnehdgailmaaGreat
open Go.RowKit Go.Sat Go.Maps

def gF (p : Nat) (vw va : Value) (vs : List Value) (b : Nat) : Prop := b = p ∨ vw.ownBlock = some b ∨ va.ownBlock = some b ∨ ∃ v ∈ vs, v.ownBlock = some b
structure GRows (w W : World) (p : Nat) (vw va : Value) (vs : List Value) (ls : List (List Int)) (ks : List Int) : Prop where
  want : OwnR W 38 1 vw ls.length vs
  ats : OwnR W 3 1 va ks.length (intsV ks)
  rows : ∀ (i : Nat) v l, vs[i]? = some v → ls[i]? = some l → HasI W v l
  nw : ∀ b, vw.ownBlock = some b → va.ownBlock ≠ some b ∧ b ≠ p ∧ ∀ v ∈ vs, v.ownBlock ≠ some b
  na : ∀ b, va.ownBlock = some b → b ≠ p ∧ ∀ v ∈ vs, v.ownBlock ≠ some b
  new : ∀ b, gF p vw va vs b → w.heap.size ≤ b
  lt : ∀ b, gF p vw va vs b → b < W.heap.size

section
variable {w W W2 W3 : World} {p : Nat} {vw va vn vw' va' : Value} {vs : List Value} {ls : List (List Int)} {ks : List Int}

theorem GRows.keep (h : GRows w W p vw va vs ls ks) (hs : Same (gF p vw va vs) W W2) (hl : ∀ b, gF p vw va vs b → b < W2.heap.size) : GRows w W2 p vw va vs ls ks where
  want := h.want.keep fun k hk => hs k (.inr (.inl hk))
  ats := h.ats.keep fun k hk => hs k (.inr (.inr (.inl hk)))
  rows := fun i v l hv hl => Holds.keep (h.rows i v l hv hl) fun k hk => hs k (.inr (.inr (.inr ⟨v, List.mem_of_getElem? hv, hk⟩)))
  nw := h.nw
  na := h.na
  new := h.new
  lt := hl
theorem GRows.below (h : GRows w W p vw va vs ls ks) (hb : Below W.heap.size W W2) : GRows w W2 p vw va vs ls ks :=
  h.keep (fun k hk => hb.block k (h.lt k hk)) fun k hk => Nat.lt_of_lt_of_le (h.lt k hk) hb.size

/-- One more row of numbers. -/
theorem GRows.pushW {l : List Int} (h : GRows w W p vw va vs ls ks) (hg : W.grownBy W3 vw.ownBlock) (hloc : vw'.ownBlock = vw.ownBlock ∨ ∃ g, vw'.ownBlock = some g ∧ W.heap.size ≤ g) (hown : OwnR W3 38 1 vw' (ls.length + 1) (vs ++ [vn]))
    (hv : HasI W vn l) (hvn : ∀ b, vn.ownBlock = some b → w.heap.size ≤ b ∧ b < W.heap.size ∧ vw.ownBlock ≠ some b ∧ va.ownBlock ≠ some b) (hws : w.heap.size ≤ W.heap.size) : GRows w W3 p vw' va (vs ++ [vn]) (ls ++ [l]) ks := by
  have hc := Chg.of_grown hg
  have hcases : ∀ b, vw'.ownBlock = some b → vw.ownBlock = some b ∨ W.heap.size ≤ b := fun b hb => by
    rcases hloc with e | ⟨g, e, hg⟩
    · exact .inl (by rw [← e]; exact hb)
    · rw [e] at hb
      cases hb
      exact .inr hg
  refine ⟨by rw [List.length_append]; exact hown, h.ats.keep fun k hk => hc.block k (h.lt k (.inr (.inr (.inl hk)))) fun e => (h.nw k e.symm).1 hk, fun i v l' hv' hl' => ?_, fun b hb => ?_, fun b hb => ?_, fun b hb => ?_, fun b hb => ?_⟩
  · by_cases hi : i < vs.length
    · rw [List.getElem?_append_left hi] at hv'
      have hil : i < ls.length := by
        have := h.want.1
        rw [Nat.mul_one] at this
        omega
      rw [List.getElem?_append_left hil] at hl'
      exact Holds.chg (h.rows i v l' hv' hl') hc fun k hk e => (h.nw k e.symm).2.2 v (List.mem_of_getElem? hv') hk
    · have hlen : vs.length = ls.length := by have := h.want.1; rw [Nat.mul_one] at this; exact this
      have hi2 := (List.getElem?_eq_some_iff.1 hv').1
      rw [List.length_append, List.length_singleton] at hi2
      have hi3 : i = vs.length := by omega
      rw [hi3, List.getElem?_append_right (Nat.le_refl _), Nat.sub_self] at hv'
      rw [hi3, hlen, List.getElem?_append_right (Nat.le_refl _), Nat.sub_self] at hl'
      cases hv'
      cases hl'
      exact Holds.chg hv hc fun k hk e => (hvn k hk).2.2.1 e.symm
  · rcases hcases b hb with h1 | h1
    · refine ⟨(h.nw b h1).1, (h.nw b h1).2.1, fun v hv' => ?_⟩
      rcases List.mem_append.1 hv' with h2 | h2
      · exact (h.nw b h1).2.2 v h2
      · rw [List.mem_singleton.1 h2]
        exact fun e => (hvn b e).2.2.1 h1
    · refine ⟨fun e => by have := h.lt b (.inr (.inr (.inl e))); omega, fun e => by have := h.lt b (.inl e); omega, fun v hv' e => ?_⟩
      rcases List.mem_append.1 hv' with h2 | h2
      · have := h.lt b (.inr (.inr (.inr ⟨v, h2, e⟩)))
        omega
      · rw [List.mem_singleton.1 h2] at e
        have := (hvn b e).2.1
        omega
  · refine ⟨(h.na b hb).1, fun v hv' => ?_⟩
    rcases List.mem_append.1 hv' with h2 | h2
    · exact (h.na b hb).2 v h2
    · rw [List.mem_singleton.1 h2]
      exact fun e => (hvn b e).2.2.2 hb
  · rcases hb with hb | hb | hb | ⟨v, hv', hb⟩
    · exact h.new b (.inl hb)
    · rcases hcases b hb with h1 | h1
      · exact h.new b (.inr (.inl h1))
      · omega
    · exact h.new b (.inr (.inr (.inl hb)))
    · rcases List.mem_append.1 hv' with h2 | h2
      · exact h.new b (.inr (.inr (.inr ⟨v, h2, hb⟩)))
      · rw [List.mem_singleton.1 h2] at hb
        exact (hvn b hb).1
  · rcases hb with hb | hb | hb | ⟨v, hv', hb⟩
    · exact Nat.lt_of_lt_of_le (h.lt b (.inl hb)) hc.size
    · exact OwnR.lt hown hb
    · exact Nat.lt_of_lt_of_le (h.lt b (.inr (.inr (.inl hb)))) hc.size
    · rcases List.mem_append.1 hv' with h2 | h2
      · exact Nat.lt_of_lt_of_le (h.lt b (.inr (.inr (.inr ⟨v, h2, hb⟩)))) hc.size
      · rw [List.mem_singleton.1 h2] at hb
        exact Nat.lt_of_lt_of_le (hvn b hb).2.1 hc.size

/-- One more number. -/
theorem GRows.pushA {z : Int} (h : GRows w W p vw va vs ls ks) (hg : W.grownBy W3 va.ownBlock) (hloc : va'.ownBlock = va.ownBlock ∨ ∃ g, va'.ownBlock = some g ∧ W.heap.size ≤ g) (hown : OwnR W3 3 1 va' (ks.length + 1) (intsV ks ++ [.int .i64 z])) (hws : w.heap.size ≤ W.heap.size) : GRows w W3 p vw va' vs ls (ks ++ [z]) := by
  have hc := Chg.of_grown hg
  have hcases : ∀ b, va'.ownBlock = some b → va.ownBlock = some b ∨ W.heap.size ≤ b := fun b hb => by
    rcases hloc with e | ⟨g, e, hg⟩
    · exact .inl (by rw [← e]; exact hb)
    · rw [e] at hb
      cases hb
      exact .inr hg
  refine ⟨h.want.keep fun k hk => hc.block k (h.lt k (.inr (.inl hk))) fun e => (h.nw k hk).1 e.symm, by rw [List.length_append]; unfold intsV; rw [List.map_append]; exact hown, fun i v l hv hl => Holds.chg (h.rows i v l hv hl) hc fun k hk e => (h.na k e.symm).2 v (List.mem_of_getElem? hv) hk, fun b hb => ⟨fun e => ?_, (h.nw b hb).2⟩, fun b hb => ?_, fun b hb => ?_, fun b hb => ?_⟩
  · rcases hcases b e with h1 | h1
    · exact (h.nw b hb).1 h1
    · have := h.lt b (.inr (.inl hb))
      omega
  · rcases hcases b hb with h1 | h1
    · exact h.na b h1
    · exact ⟨fun e => by have := h.lt b (.inl e); omega, fun v hv e => by have := h.lt b (.inr (.inr (.inr ⟨v, hv, e⟩))); omega⟩
  · rcases hb with hb | hb | hb | hb
    · exact h.new b (.inl hb)
    · exact h.new b (.inr (.inl hb))
    · rcases hcases b hb with h1 | h1
      · exact h.new b (.inr (.inr (.inl h1)))
      · omega
    · exact h.new b (.inr (.inr (.inr hb)))
  · rcases hb with hb | hb | hb | hb
    · exact Nat.lt_of_lt_of_le (h.lt b (.inl hb)) hc.size
    · exact Nat.lt_of_lt_of_le (h.lt b (.inr (.inl hb))) hc.size
    · exact OwnR.lt hown hb
    · exact Nat.lt_of_lt_of_le (h.lt b (.inr (.inr (.inr hb)))) hc.size
end

/-- The places of k groups. -/
def gAt (k : Nat) : List Int := (List.range (k + 1)).map fun i => ((2 * i : Nat) : Int)
theorem gAt_succ (k : Nat) : gAt (k + 1) = gAt k ++ [((2 * (k + 1) : Nat) : Int)] := by
  unfold gAt
  rw [List.range_succ, List.map_append]
  rfl
theorem gAt_len (k : Nat) : (gAt k).length = k + 1 := by simp [gAt]
theorem gAt_at {k i : Nat} (h : i ≤ k) : (gAt k)[i]? = some ((2 * i : Nat) : Int) := by
  unfold gAt
  rw [List.getElem?_map, List.getElem?_range (by omega)]
  rfl

/-- Behind k rounds of the law's loop. -/
def GRel (w wr : World) (p d r k : Nat) (vw va : Value) : Prop :=
  ∃ cs j x o D u vs, cs.length = k ∧ (∀ c ∈ cs, c ≤ 3) ∧ JouF w wr j d sA D (gM cs) (gF p vw va vs) ∧ wr.heap[p]? = some (PairO d r (.pointer (some ⟨j, 0, none⟩)) x o) ∧ Kept5 1048576 g012 (gM cs) D u ∧ u ≤ 150 + 200 * k ∧ GRows w wr p vw va vs (gWant cs) (gAt k)
end Go.Proofs.YtapfnehdgailmaaGreat

namespace Go.Proofs.YtapfnehdgailmaaGreat
open Go.RowKit Go.Sat Go.Maps

theorem own_cellsG {w : World} {e : TypeId} {v : Value} {n : Nat} {xs : List Value} (h : OwnR w e 1 v n xs) (hn : 0 < n) : ∃ g c, v = .slice (some ⟨g, 0, none⟩) n c ∧ ∀ (i : Nat) u, xs[i]? = some u → w.cell? ⟨g, i, none⟩ = some u := by
  have hh := h.holds
  obtain ⟨_, ⟨rfl, h0⟩ | ⟨g, cap, cur, rfl, _⟩⟩ := h
  · omega
  · refine ⟨g, cap, rfl, fun i u hu => ?_⟩
    obtain ⟨_, p, c, e, _, hc⟩ := hh
    cases e
    have := hc _ rfl i u hu
    rwa [add_zero] at this

/-- The numbers below c. -/
def upIn (c : Nat) : List Int := (List.range c).map fun i : Nat => (i : Int)
theorem upIn_len (c : Nat) : (upIn c).length = c := by simp [upIn]
theorem upIn_succ (c : Nat) : upIn (c + 1) = upIn c ++ [(c : Int)] := by
  unfold upIn
  rw [List.range_succ, List.map_append]
  rfl
theorem upIn_up (c : Nat) : upIn (c + 1) = upTo c := rfl

theorem groups_app {cs : List Nat} {c : Nat} {D : DiskM} {u : Nat} (h : Kept5 1048576 g012 (gM cs) D u) (hc : c ≤ 3) (hl : cs.length ≤ 1000) (hu : u + 200 ≤ 1048576) :
    ∃ D', jouAppend [97] D (gM cs) [gEnts.ke0, gE c] = ⟨D', gM (cs ++ [c]), 0⟩ ∧ Kept5 1048576 g012 (gM (cs ++ [c])) D' (u + 200) := by
  have hall : ∀ e ∈ [gEnts.ke0, gE c], isEnt e = true := by
    have := gEnts_ok [c] (fun x hx => by rw [List.mem_singleton.1 hx]; exact hc)
    exact this
  have hlast : (gM cs).last = 2 * cs.length := by
    show 0 + (gEnts cs).length = _
    rw [gEnts_len, Nat.zero_add]
  have hlen : (recsB (entsB (gM cs).last [gEnts.ke0, gE c])).length ≤ 200 := by
    have h1 := recsB_le (c := 82) (entsB (gM cs).last [gEnts.ke0, gE c]) (ents_len2 (c := 36) _ _ (fun e he => ⟨hall e he, by
      rcases (show e = gEnts.ke0 ∨ e = gE c from by simpa using he) with rfl | rfl
      · decide
      · show 0 + 9 * (upTo c).length ≤ 36
        rw [upTo_len]
        omega⟩) (by rw [hlast]; show _ + 2 ≤ _; omega))
    rw [entsB_len] at h1
    exact Nat.le_trans h1 (show (82 + 12) * 2 ≤ 200 by decide)
  obtain ⟨D', h1, h2⟩ := app_go h (es := [gEnts.ke0, gE c]) (by simp) hall (by rw [hlast]; show _ + 2 ≤ _; omega) (.inr (by omega))
  have e : ({ gM cs with entries := (gM cs).entries ++ [gEnts.ke0, gE c] } : JouM) = gM (cs ++ [c]) := by
    unfold gM
    rw [gEnts_app]
  rw [e] at h1 h2
  exact ⟨D', h1, h2.more (by omega)⟩

theorem groups_cut {cs : List Nat} {D : DiskM} {u : Nat} {f : Nat} (h : Kept5 1048576 g012 (gM cs) D u) (hl : cs.length ≤ 1000) (h1 : 1 ≤ f) (h2 : f ≤ 2 * cs.length + 1) (hu : u + 22 ≤ 1048576) :
    ∃ D', jouCut [97] D (gM cs) (f : Int) = ⟨D', gCut cs (f - 1), 0⟩ := by
  have hlast : (gM cs).last = 2 * cs.length := by
    show 0 + (gEnts cs).length = _
    rw [gEnts_len, Nat.zero_add]
  by_cases hf : f ≤ 2 * cs.length
  · obtain ⟨D', h3, -⟩ := cut_go h (i := f) (show 0 < f from h1) (by omega) (by omega) hu
    exact ⟨D', h3⟩
  · refine ⟨D, (cut_past h (i := (f : Int)) (show (0 : Int) < f by omega) (by omega)).trans ?_⟩
    have e : gM cs = gCut cs (f - 1) := by
      unfold gM gCut
      rw [List.take_of_length_le (by rw [gEnts_len]; omega)]
    rw [← e]

section
variable {w W W3 : World} {j d p : Nat} {D : DiskM} {M : JouM} {vw va vn vw' va' : Value} {vs : List Value} {ls ls' : List (List Int)} {ks ks' : List Int}

theorem jg_W (hJ : JouF w W j d sA D M (fun k => gF p vw va vs k ∨ vn.ownBlock = some k)) (h : GRows w W p vw va vs ls ks) (hg : W.grownBy W3 vw.ownBlock) (hloc : vw'.ownBlock = vw.ownBlock ∨ ∃ g, vw'.ownBlock = some g ∧ W.heap.size ≤ g)
    (h3 : GRows w W3 p vw' va (vs ++ [vn]) ls' ks) : JouF w W3 j d sA D M (gF p vw' va (vs ++ [vn])) := by
  refine hJ.move (Chg.of_grown hg) (fun k _ e => ⟨.inl (.inr (.inl e.symm)), h.new k (.inr (.inl e.symm))⟩) fun k hk => ⟨?_, h3.lt k hk⟩
  rcases hk with hk | hk | hk | ⟨v, hv, hk⟩
  · exact .inl (.inl (.inl hk))
  · rcases hloc with e | ⟨g, e, hge⟩
    · exact .inl (.inl (.inr (.inl (e ▸ hk))))
    · rw [e] at hk
      cases hk
      exact .inr hge
  · exact .inl (.inl (.inr (.inr (.inl hk))))
  · rcases List.mem_append.1 hv with h2 | h2
    · exact .inl (.inl (.inr (.inr (.inr ⟨v, h2, hk⟩))))
    · rw [List.mem_singleton.1 h2] at hk
      exact .inl (.inr hk)
theorem jg_A (hJ : JouF w W j d sA D M (gF p vw va vs)) (h : GRows w W p vw va vs ls ks) (hg : W.grownBy W3 va.ownBlock) (hloc : va'.ownBlock = va.ownBlock ∨ ∃ g, va'.ownBlock = some g ∧ W.heap.size ≤ g)
    (h3 : GRows w W3 p vw va' vs ls ks') : JouF w W3 j d sA D M (gF p vw va' vs) := by
  refine hJ.move (Chg.of_grown hg) (fun k _ e => ⟨.inr (.inr (.inl e.symm)), h.new k (.inr (.inr (.inl e.symm)))⟩) fun k hk => ⟨?_, h3.lt k hk⟩
  rcases hk with hk | hk | hk | hk
  · exact .inl (.inl hk)
  · exact .inl (.inr (.inl hk))
  · rcases hloc with e | ⟨g, e, hge⟩
    · exact .inl (.inr (.inr (.inl (e ▸ hk))))
    · rw [e] at hk
      cases hk
      exact .inr hge
  · exact .inl (.inr (.inr (.inr hk)))
end

/-- One more group, and its place. -/
theorem g_push {w w2 w3 : World} {j d r p k m : Nat} {D : DiskM} {cs : List Nat} {vw va vn v3 x y : Value} {o : Bool} {vs : List Value} {wo : Nat} (hG : GRows w w2 p vw va vs (gWant cs) (gAt k)) (hJ : JouF w w2 j d sA D (gM (cs ++ [m])) (fun b => gF p vw va vs b ∨ vn.ownBlock = some b))
    (hp : w2.heap[p]? = some (PairO d r x y o)) (hv : OwnI w2 vn (upTo m)) (hvn : ∀ b, vn.ownBlock = some b → wo ≤ b) (hlt : ∀ b, gF p vw va vs b → b < wo) (hcl : cs.length = k) {xs : List Value}
    (ho : OwnR w3 38 1 v3 (k + 1 + 1) xs) (hxs : xs = vs ++ [vn]) (hg : (w2.alloc (.cells #[vn] 38)).grownBy w3 vw.ownBlock) (hl : v3.ownBlock = vw.ownBlock ∨ ∃ g, v3.ownBlock = some g ∧ (w2.alloc (.cells #[vn] 38)).heap.size ≤ g) (hwo : w.heap.size ≤ wo) :
    GRows w w3 p v3 va (vs ++ [vn]) (gWant (cs ++ [m])) (gAt k) ∧ JouF w w3 j d sA D (gM (cs ++ [m])) (gF p v3 va (vs ++ [vn])) ∧ w3.heap[p]? = some (PairO d r x y o) ∧ OwnR w3 3 1 va (k + 1) (intsV (gAt k)) := by
  subst hxs
  have hb := below_one w2 (.cells #[vn] 38)
  have hG4 : GRows w w3 p v3 va (vs ++ [vn]) (gWant cs ++ [upTo m]) (gAt k) := by
    refine GRows.pushW (hG.below hb) hg hl (by rw [gWant_len, hcl]; exact ho) (OwnI.has (ownI_far hv hb)) (fun b hb2 => ?_) (Nat.le_trans hJ.bel.size hb.size)
    have h1 := hvn b hb2
    refine ⟨by omega, Nat.lt_of_lt_of_le (OwnR.lt hv hb2) hb.size, fun e => ?_, fun e => ?_⟩
    · have := hlt b (.inr (.inl e))
      omega
    · have := hlt b (.inr (.inr (.inl e)))
      omega
  refine ⟨by rw [gWant_app]; exact hG4, jg_W (hJ.next hb) (hG.below hb) hg hl hG4, ((Chg.of_grown hg).block p (Nat.lt_of_lt_of_le (hG.lt p (.inl rfl)) hb.size) fun e => (hG.nw p e.symm).2.1 rfl).trans (old_block _ hp), ?_⟩
  have := hG4.ats
  rwa [gAt_len] at this
theorem g_pushA {w w3 w5 : World} {j d r p k : Nat} {D : DiskM} {cs : List Nat} {vw va v5 x y : Value} {o : Bool} {vs : List Value} {M : JouM} {z : Int} (hz : z = ((2 * (k + 1) : Nat) : Int)) (hG : GRows w w3 p vw va vs (gWant cs) (gAt k)) (hJ : JouF w w3 j d sA D M (gF p vw va vs))
    (hp : w3.heap[p]? = some (PairO d r x y o)) {xs : List Value} (hxs : xs = intsV (gAt k) ++ [.int .i64 z])
    (ho : OwnR w5 3 1 v5 (k + 1 + 1) xs) (hg : (w3.alloc (.cells #[.int .i64 z] 3)).grownBy w5 va.ownBlock) (hl : v5.ownBlock = va.ownBlock ∨ ∃ g, v5.ownBlock = some g ∧ (w3.alloc (.cells #[.int .i64 z] 3)).heap.size ≤ g) :
    GRows w w5 p vw v5 vs (gWant cs) (gAt (k + 1)) ∧ JouF w w5 j d sA D M (gF p vw v5 vs) ∧ w5.heap[p]? = some (PairO d r x y o) := by
  subst hz
  subst hxs
  have hb := below_one w3 (.cells #[.int .i64 ((2 * (k + 1) : Nat) : Int)] 3)
  have hG6 : GRows w w5 p vw v5 vs (gWant cs) (gAt (k + 1)) := by
    rw [gAt_succ]
    exact GRows.pushA (hG.below hb) hg hl (by rw [gAt_len]; exact ho) (Nat.le_trans hJ.bel.size hb.size)
  exact ⟨hG6, jg_A (hJ.next hb) (hG.below hb) hg hl hG6, ((Chg.of_grown hg).block p (Nat.lt_of_lt_of_le (hG.lt p (.inl rfl)) hb.size) fun e => (hG.na p e.symm).1 rfl).trans (old_block _ hp)⟩

/-- The first rows. -/
theorem grows_start {w w1 : World} {p : Nat} (hp : p < w1.heap.size) (hge : w.heap.size ≤ p) (hs : w.heap.size ≤ w1.heap.size) :
    GRows w (((w1.alloc LitO).alloc (.cells #[.slice (some ⟨w1.heap.size, 0, none⟩) 3 3] 38)).alloc (.cells #[.int .i64 0] 3)) p (.slice (some ⟨w1.heap.size + 1, 0, none⟩) 1 1) (.slice (some ⟨w1.heap.size + 2, 0, none⟩) 1 1) [.slice (some ⟨w1.heap.size, 0, none⟩) 3 3] (gWant []) (gAt 0) := by
  have b0 : (((w1.alloc LitO).alloc (.cells #[.slice (some ⟨w1.heap.size, 0, none⟩) 3 3] 38)).alloc (.cells #[.int .i64 0] 3)).heap[w1.heap.size]? = some LitO := old_block _ (old_block _ (new_block w1 _))
  have b1 : (((w1.alloc LitO).alloc (.cells #[.slice (some ⟨w1.heap.size, 0, none⟩) 3 3] 38)).alloc (.cells #[.int .i64 0] 3)).heap[w1.heap.size + 1]? = some (.cells #[.slice (some ⟨w1.heap.size, 0, none⟩) 3 3] 38) := by
    have := old_block (.cells #[.int .i64 0] 3) (new_block (w1.alloc LitO) (.cells #[.slice (some ⟨w1.heap.size, 0, none⟩) 3 3] 38))
    simpa using this
  have b2 : (((w1.alloc LitO).alloc (.cells #[.slice (some ⟨w1.heap.size, 0, none⟩) 3 3] 38)).alloc (.cells #[.int .i64 0] 3)).heap[w1.heap.size + 2]? = some (.cells #[.int .i64 0] 3) := by
    have := new_block ((w1.alloc LitO).alloc (.cells #[.slice (some ⟨w1.heap.size, 0, none⟩) 3 3] 38)) (.cells #[.int .i64 0] 3)
    simpa using this
  have hz : (((w1.alloc LitO).alloc (.cells #[.slice (some ⟨w1.heap.size, 0, none⟩) 3 3] 38)).alloc (.cells #[.int .i64 0] 3)).heap.size = w1.heap.size + 3 := by simp
  generalize ((w1.alloc LitO).alloc (.cells #[.slice (some ⟨w1.heap.size, 0, none⟩) 3 3] 38)).alloc (.cells #[.int .i64 0] 3) = W at *
  have hF : ∀ b, gF p (.slice (some ⟨w1.heap.size + 1, 0, none⟩) 1 1) (.slice (some ⟨w1.heap.size + 2, 0, none⟩) 1 1) [.slice (some ⟨w1.heap.size, 0, none⟩) 3 3] b → b = p ∨ (w1.heap.size ≤ b ∧ b < w1.heap.size + 3) := fun b hb => by
    rcases hb with hb | hb | hb | ⟨v, hv, hb⟩
    · exact .inl hb
    · have := Option.some.inj hb
      exact .inr (by dsimp only at this; omega)
    · have := Option.some.inj hb
      exact .inr (by dsimp only at this; omega)
    · rw [List.mem_singleton.1 hv] at hb
      have := Option.some.inj hb
      exact .inr (by dsimp only at this; omega)
  refine ⟨⟨rfl, .inr ⟨_, 1, _, rfl, b1, by decide, by decide, Nat.le_refl _, rfl⟩⟩, ⟨rfl, .inr ⟨_, 1, _, rfl, b2, by decide, by decide, by decide, rfl⟩⟩, fun i v l hv hl => ?_, fun b hb => ?_, fun b hb => ?_, fun b hb => ?_, fun b hb => ?_⟩
  · cases i with
    | zero =>
      cases hv
      cases hl
      exact ⟨rfl, some ⟨w1.heap.size, 0, none⟩, 3, rfl, fun e => (by cases e), fun a ha i u hu => by
        cases ha
        rw [add_zero]
        refine cell_of b0 ?_
        simpa using hu⟩
    | succ i => cases hv
  · have := Option.some.inj hb
    dsimp only at this
    subst this
    refine ⟨fun e => ?_, by omega, fun v hv e => ?_⟩
    · have := Option.some.inj e
      dsimp only at this
      omega
    · rw [List.mem_singleton.1 hv] at e
      have := Option.some.inj e
      dsimp only at this
      omega
  · have := Option.some.inj hb
    dsimp only at this
    subst this
    refine ⟨by omega, fun v hv e => ?_⟩
    rw [List.mem_singleton.1 hv] at e
    have := Option.some.inj e
    dsimp only at this
    omega
  · rcases hF b hb with h | h <;> omega
  · rcases hF b hb with h | h <;> omega

/-- The two entries that are handed in. -/
abbrev gLit (v : Value) : Obj := .cells #[.int .i64 1, .int .i64 0, .slice none 0 0, .slice none 0 0, .int .i64 1, .int .i64 2, .slice none 0 0, v] 50
theorem gHas {W0 W : World} {F : Nat → Prop} {p : Option Addr} {c n : Nat} (hv : OwnI W0 (.slice p (c + 1) n) (upTo c)) (hF1 : ∀ k, (Value.slice p (c + 1) n).ownBlock = some k → F k) (hF2 : F W0.heap.size) (hs : Same F (W0.alloc (gLit (.slice p (c + 1) n))) W) (hc : c ≤ 3) :
    EntsHas W (.slice (some ⟨W0.heap.size, 0, none⟩) 2 2) [gEnts.ke0, gE c] [(.slice none 0 0, .slice none 0 0), (.slice none 0 0, .slice p (c + 1) n)] := by
  have h2 := (hs W0.heap.size hF2).trans (new_block W0 _)
  have hnil : ∀ l : List Value, l = [] → Holds W 1 (.slice none 0 0) 0 l := fun l e => by rw [e]; exact ⟨rfl, none, 0, rfl, fun _ => rfl, fun a ha => by cases ha⟩
  refine ⟨rfl, ⟨rfl, some ⟨W0.heap.size, 0, none⟩, 2, rfl, fun e => (by cases e), fun a ha i u hu => ?_⟩, fun i e v he hv2 => ?_⟩
  · cases ha
    rw [add_zero]
    refine cell_of h2 ?_
    simpa [entsC, entC, gEnts.ke0, gE] using hu
  · match i, he, hv2 with
    | 0, he, hv2 =>
      cases he
      cases hv2
      exact ⟨hnil _ rfl, hnil _ rfl, by decide, by decide⟩
    | 1, he, hv2 =>
      cases he
      cases hv2
      refine ⟨hnil _ rfl, ?_, Nat.zero_le _, by show (upTo c).length ≤ _; rw [upTo_len]; omega⟩
      exact OwnI.has (OwnR.keep hv fun k hk => (hs k (hF1 k hk)).trans (alloc_was W0 _ (OwnR.lt hv hk)))
end Go.Proofs.YtapfnehdgailmaaGreat
