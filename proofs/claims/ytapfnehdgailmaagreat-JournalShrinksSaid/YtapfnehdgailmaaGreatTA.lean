/- The document's journal: Open, over an empty disk. satrapylaw5: pair.open, start. The contracts of satrapylaw5.same and satrapylaw5.texts. satrapylaw5.known: the walk. What the laws of the journal have in common: masks, a crash, an opening beside. JournalShrinks: what the journal is (plain). The contract of satrapylaw5.ints. JournalShrinks: the walk. -/
import Derived.Test.YtapfnehdgailmaaGreatQC
import Derived.Test.YtapfnehdgailmaaGreatQE
import Derived.Test.YtapfnehdgailmaaGreatQF
import Derived.Test.YtapfnehdgailmaaGreatQG
import Derived.Test.YtapfnehdgailmaaGreatQI
import Derived.Test.YtapfnehdgailmaaGreatQJ
import Derived.Test.YtapfnehdgailmaaGreatQL
namespace Go.Proofs.YtapfnehdgailmaaGreat
open Go.RowKit Go.Sat Go.Maps

/-- What an opening of the document's journal over an empty disk leaves. -/
def ROpen0 (w : World) (r : Nat) (own : Nat → Prop) (R : DiskM × Nat) (e : Ending) (w' : World) : Prop :=
  (∃ x, e = .returned (.tuple #[x, .int .i64 (R.2 : Int)]) ∧ (R.2 = 0 → ∃ j, x = .pointer (some ⟨j, 0, none⟩)) ∧ (R.2 ≠ 0 → x = .pointer none)) ∧ ∃ own', RefAt w' r R.1 own' ∧ Chg own w w' ∧ ∀ k, own' k → own k ∨ w.heap.size ≤ k

theorem ropen0_of {w : World} {r : Nat} {own : Nat → Prop} {R : DiskM × Nat} {e : Ending} {w' : World} (h : RStep w r own R e w') {x : Value} (h0 : R.2 = 0 → ∃ j, x = .pointer (some ⟨j, 0, none⟩)) (h1 : R.2 ≠ 0 → x = .pointer none) : ROpen0 w r own R (.returned (.tuple #[x, .int .i64 (R.2 : Int)])) w' :=
  ⟨⟨x, rfl, h0, h1⟩, h.2⟩

theorem wrap_grp {g : List Int} (h : isGrp g = true) : (∀ z ∈ g, -9223372036854775808 ≤ z ∧ z ≤ 9223372036854775807) ∧ g.length ≤ 7 := by
  obtain ⟨h1, h2⟩ := grp_bound h
  exact ⟨fun z hz => by have := h2 z hz; omega, h1⟩

set_option maxRecDepth 100000 in
set_option maxHeartbeats 16000000 in
theorem ropen0_calls {w : World} {r : Nat} {v : Value} {L : List RFile} {own : Nat → Prop} {D : DiskM} (h : RefIn w r v L own D) (hf : D.files = []) (pre : ByteArray) (hps : 1 ≤ pre.size ∧ pre.size ≤ 20) {nodes : List Int} {pn : Option Addr} {nn cn : Nat} (hx : HasI w (.slice pn nn cn) nodes) (hg : isGrp nodes = true) :
    Calls Tryz.prog 18 #[.pointer (some ⟨r, 0, none⟩), .string pre, .slice pn nn cn] w (ROpen0 w r own (D.save1 (logN (nm pre)) (frameN (fstB 0 0 nodes) ++ frameN (trmB 0 (-1))))) := by
  obtain ⟨i0, hi, hz0, hz1, hz2⟩ := info_parts (show (Tryz.prog.info? 3).map (fun i => (i.zero, i.size, i.bytes)) = some (some (.int .i64 0), 1, 8) by kernel_rfl)
  obtain ⟨hz, hl⟩ := wrap_grp hg
  have hn : nodes.length = nn := by obtain ⟨_, _, e⟩ := hx.slice; simp only [Value.slice.injEq] at e; exact e.2.1.symm
  have Hn := Lib.hid hn
  have hn7 : nn ≤ 7 := by omega
  have Hgr := Lib.hid (rgroup_calls hx (by omega))
  rw [hg] at Hgr
  have H := Lib.hid h
  have Hx := Lib.hid hx
  have Hz := Lib.hid hz
  have Hl := Lib.hid hl
  have Hno := Lib.hid (show ∀ n, Sat.get n D.files = none from fun n => by rw [hf]; rfl)
  have hpz1 := hps.1
  have hpz2 := hps.2
  have hsl : (sLog pre).size = pre.size + 4 := size_log pre
  have hssn : (sSnp pre).size = pre.size + 5 := size_snp pre
  have hs1 : (pre ++ (⟨#[45, 108, 111, 103, 126]⟩ : ByteArray)).size = pre.size + 5 := by simp [ByteArray.size_append]; rfl
  have hs2 : (pre ++ (⟨#[45, 115, 110, 97, 112, 126]⟩ : ByteArray)).size = pre.size + 6 := by simp [ByteArray.size_append]; rfl
  clear h hf hx hg hz hl hn
  go_enter Tryz.func18, Tryz.ntmps18
  go_wp2_with fail
  refine Hgr.out.mono ?_
  rintro e w1 ⟨rfl, q, rfl⟩
  have HB1 := Lib.hid (show Below w.heap.size w (w.drewN q) from ⟨rfl, rfl, rfl, Nat.le_refl _, fun _ _ => rfl⟩)
  generalize w.drewN q = w1 at *
  clear Hgr
  have hj1 := new_block w1 (.cells #[.int .i64 0, .int .i64 0, .slice none 0 0, .pointer (some ⟨r, 0, none⟩), .string pre, .int .i64 0, .int .i64 (-1), .slice none 0 0, .slice none 0 0, .bool false] 84)
  have hsz1 : (w1.alloc (.cells #[.int .i64 0, .int .i64 0, .slice none 0 0, .pointer (some ⟨r, 0, none⟩), .string pre, .int .i64 0, .int .i64 (-1), .slice none 0 0, .slice none 0 0, .bool false] 84)).heap.size = w1.heap.size + 1 := by simp
  have Hrow := Lib.hid (show OwnR ((w1.alloc (.cells #[.int .i64 0, .int .i64 0, .slice none 0 0, .pointer (some ⟨r, 0, none⟩), .string pre, .int .i64 0, .int .i64 (-1), .slice none 0 0, .slice none 0 0, .bool false] 84)).alloc (.cells #[] 3)) 3 1 (.slice (some ⟨w1.heap.size + 1, 0, none⟩) 0 0) 0 [] from by
    have := own_empty (w1.alloc (.cells #[.int .i64 0, .int .i64 0, .slice none 0 0, .pointer (some ⟨r, 0, none⟩), .string pre, .int .i64 0, .int .i64 (-1), .slice none 0 0, .slice none 0 0, .bool false] 84)) 3
    rwa [hsz1] at this)
  have HBE := Lib.hid (show Below w.heap.size w ((w1.alloc (.cells #[.int .i64 0, .int .i64 0, .slice none 0 0, .pointer (some ⟨r, 0, none⟩), .string pre, .int .i64 0, .int .i64 (-1), .slice none 0 0, .slice none 0 0, .bool false] 84)).alloc (.cells #[] 3)) from (HB1.out.alloc HB1.out.size _).alloc (by have := HB1.out.size; rw [hsz1]; omega) _)
  have HjE := Lib.hid (old_block (.cells #[] 3) hj1)
  have HszE := Lib.hid (show ((w1.alloc (.cells #[.int .i64 0, .int .i64 0, .slice none 0 0, .pointer (some ⟨r, 0, none⟩), .string pre, .int .i64 0, .int .i64 (-1), .slice none 0 0, .slice none 0 0, .bool false] 84)).alloc (.cells #[] 3)).heap.size = w1.heap.size + 2 from by simp)
  have Hxx := Lib.hid (show Holds ((w1.alloc (.cells #[.int .i64 0, .int .i64 0, .slice none 0 0, .pointer (some ⟨r, 0, none⟩), .string pre, .int .i64 0, .int .i64 (-1), .slice none 0 0, .slice none 0 0, .bool false] 84)).alloc (.cells #[] 3)) 1 (.slice pn nn cn) nn (nodes.map (Value.int .i64)) from by
    have := Holds.chg Hx.out (Chg.of_below HBE.out) fun _ _ => id
    rwa [Hn.out] at this)
  have Hs1 := Lib.hid HB1.out.size
  clear hj1 hsz1
  go_wp2_with (at_builtin; refine wpList_app _ rfl (.tmp 46) (.tmp 47) 38 rfl 3 i0 (.int .i64 0) 1 8 Tryz.underlying38 hi hz0 hz1 hz2 rfl (by decide) (.slice (some ⟨w1.heap.size + 1, 0, none⟩) 0 0) 0 _ rfl Hrow.out (.slice pn nn cn) nn _ rfl Hxx.out (fun u hu => by obtain ⟨z, -, rfl⟩ := List.mem_map.1 hu; rfl) (by unfold maxLen; omega) (by omega) ?_; intro v3 w3 hown3 hgrow3 hloc3; go_loud (rw [Nat.zero_add, List.nil_append] at hown3; have HB3 := Lib.hid (HBE.out.grown hgrow3 HBE.out.size fun k e => by (have e2 : w1.heap.size + 1 = k := Option.some.inj e; have := Hs1.out; omega)); have hj3 := (hgrow3.block w1.heap.size (by rw [HszE.out]; omega) fun e => by (have e2 : w1.heap.size = w1.heap.size + 1 := Option.some.inj e; omega)).trans HjE.out; have Hj3 := Lib.hid hj3; have c2 := cell_of hj3 (i := 2) rfl; have f2 := frozen_of hj3 2; have Hnew3 := Lib.hid (own_ge (B := w1.heap.size + 1) hloc3 (fun k hk => by (have e2 : w1.heap.size + 1 = k := Option.some.inj hk; omega)) (by rw [HszE.out]; omega)); have HO3 := Lib.hid hown3; obtain ⟨p3, q3, rfl⟩ := OwnR.shape hown3; clear hown3 hgrow3 hloc3 hj3))
  clear c2 f2
  have Hj5 := Lib.hid (show ((w3.setCell ⟨w1.heap.size, 2, none⟩ (.slice p3 nn q3)).alloc (.cells #[.string (pre ++ (⟨#[45, 108, 111, 103, 126]⟩ : ByteArray)), .string (pre ++ (⟨#[45, 115, 110, 97, 112, 126]⟩ : ByteArray))] 9)).heap[w1.heap.size]? = some (RJC r 0 0 (.slice p3 nn q3) pre 0 (-1) (.slice none 0 0) (.slice none 0 0) false) from by
    refine old_block _ ?_
    have := set_block Hj3.out 2 (.slice p3 nn q3)
    rw [show (#[Value.int IntKind.i64 0, .int .i64 0, .slice none 0 0, .pointer (some ⟨r, 0, none⟩), .string pre, .int .i64 0, .int .i64 (-1), .slice none 0 0, .slice none 0 0, .bool false] : Array Value).setIfInBounds 2 (.slice p3 nn q3) = #[.int .i64 0, .int .i64 0, .slice p3 nn q3, .pointer (some ⟨r, 0, none⟩), .string pre, .int .i64 0, .int .i64 (-1), .slice none 0 0, .slice none 0 0, .bool false] from rfl] at this
    exact this)
  have HB5s := Lib.hid (show Below w.heap.size w (w3.setCell ⟨w1.heap.size, 2, none⟩ (.slice p3 nn q3)) from (((Chg.of_below HB3.out).mono fun _ _ e => e.elim : Chg (fun k => k = w1.heap.size) w w3).trans (Chg.setCell w3 ⟨w1.heap.size, 2, none⟩ _) fun k _ e => e).below (Nat.le_refl _) fun k hk e => by have := Hs1.out; omega)
  have HB5 := Lib.hid (HB5s.out.alloc HB5s.out.size (.cells #[.string (pre ++ (⟨#[45, 108, 111, 103, 126]⟩ : ByteArray)), .string (pre ++ (⟨#[45, 115, 110, 97, 112, 126]⟩ : ByteArray))] 9))
  have Htx := Lib.hid (new_block (w3.setCell ⟨w1.heap.size, 2, none⟩ (.slice p3 nn q3)) (.cells #[.string (pre ++ (⟨#[45, 108, 111, 103, 126]⟩ : ByteArray)), .string (pre ++ (⟨#[45, 115, 110, 97, 112, 126]⟩ : ByteArray))] 9))
  have HI5 := Lib.hid (show HasI ((w3.setCell ⟨w1.heap.size, 2, none⟩ (.slice p3 nn q3)).alloc (.cells #[.string (pre ++ (⟨#[45, 108, 111, 103, 126]⟩ : ByteArray)), .string (pre ++ (⟨#[45, 115, 110, 97, 112, 126]⟩ : ByteArray))] 9)) (.slice p3 nn q3) nodes from by
    have h1 : OwnR (w3.setCell ⟨w1.heap.size, 2, none⟩ (.slice p3 nn q3)) 3 1 (.slice p3 nn q3) nn (nodes.map (Value.int .i64)) := HO3.out.keep fun k hk => set_other _ fun e => by have h2 := Hnew3.out k hk; have e2 : k = w1.heap.size := e; omega
    have h2 := OwnR.holds h1
    unfold HasI
    rw [Hn.out]
    exact Holds.chg h2 (Chg.alloc _ _) fun _ _ e => e)
  have Hss := Lib.hid (show (w3.setCell ⟨w1.heap.size, 2, none⟩ (.slice p3 nn q3)).heap.size = w3.heap.size from by simp [World.setCell])
  rw [Hss.out] at Htx
  clear Hrow HBE HjE HszE Hxx Hj3 HB3 Hnew3 HO3 HB5s Hss
  generalize hW5 : (w3.setCell ⟨w1.heap.size, 2, none⟩ (.slice p3 nn q3)).alloc (.cells #[.string (pre ++ (⟨#[45, 108, 111, 103, 126]⟩ : ByteArray)), .string (pre ++ (⟨#[45, 115, 110, 97, 112, 126]⟩ : ByteArray))] 9) = W5 at *
  clear hW5
  generalize w3.heap.size = ta at *
  generalize w1.heap.size = j at *
  go_loopw [10] (fun i wr => ∃ k : Nat, (k = 0 ∨ k = 1 ∨ k = 2) ∧ i = .int .i64 k ∧ Below W5.heap.size W5 wr) (fun i _ => 2 - (intOf i).toNat)
  case atStart => exact ⟨0, .inl rfl, rfl, Below.refl _ _⟩
  case round =>
    obtain ⟨k, hk, rfl, hb⟩ := hrel
    have HBr := Lib.hid hb
    have htx := (hb.block ta (lt_of_block Htx.out)).trans Htx.out
    have k0 := cell_of htx (i := 0) rfl
    have k1 := cell_of htx (i := 1) rfl
    have HRr := Lib.hid (H.out.below (HB5.out.trans (hb.mono HB5.out.size)))
    clear hb htx
    rcases hk with rfl | rfl | rfl
    · have Hrd := Lib.hid (rread_calls HRr.out (pre ++ (⟨#[45, 108, 111, 103, 126]⟩ : ByteArray)))
      rw [Hno.out] at Hrd
      go_wp2_with fail
      refine Hrd.out.mono ?_
      rintro e w6 ⟨v6, rfl, -, -, hb6⟩
      have HE := Lib.hid (HBr.out.trans (hb6.mono HBr.out.size))
      clear hb6 Hrd
      rw [show readE (none : Option FileM) = 7 from rfl]
      go_wp2_with fail
      go_roundw
      case rel => exact ⟨1, .inr (.inl rfl), by first | rfl | go_num, HE.out⟩
      case measure => simp [intOf]
    · have Hrd := Lib.hid (rread_calls HRr.out (pre ++ (⟨#[45, 115, 110, 97, 112, 126]⟩ : ByteArray)))
      rw [Hno.out] at Hrd
      go_wp2_with fail
      refine Hrd.out.mono ?_
      rintro e w6 ⟨v6, rfl, -, -, hb6⟩
      have HE := Lib.hid (HBr.out.trans (hb6.mono HBr.out.size))
      clear hb6 Hrd
      rw [show readE (none : Option FileM) = 7 from rfl]
      go_wp2_with fail
      go_roundw
      case rel => exact ⟨2, .inr (.inr rfl), by first | rfl | go_num, HE.out⟩
      case measure => simp [intOf]
    · clear k0 k1
      have Hlo := Lib.hid (rload_calls (HRr.out.below (below_one wr (.cells #[.int .i64 0, .int .i64 0, .slice none 0 0] 82))) (sSnp pre))
      rw [Hno.out] at Hlo
      have HBb := Lib.hid (below_one wr (.cells #[.int .i64 0, .int .i64 0, .slice none 0 0] 82))
      go_wp2_with fail
      refine Hlo.out.mono ?_
      rintro e w6 ⟨v6, rfl, -, -, hb6⟩
      rw [loadE_none]
      have HB6 := Lib.hid (HBb.out.trans (hb6.mono HBb.out.size))
      have HR6 := Lib.hid (HRr.out.below HB6.out)
      have Hrd := Lib.hid (rread_calls HR6.out (sLog pre))
      rw [Hno.out] at Hrd
      clear hb6 Hlo
      go_wp2_with fail
      refine Hrd.out.mono ?_
      rintro e w7 ⟨v7, rfl, -, -, hb7⟩
      rw [show readE (none : Option FileM) = 7 from rfl]
      have HB7 := Lib.hid (HBr.out.trans ((HB6.out.trans (hb7.mono HB6.out.size)).mono HBr.out.size))
      have hj7 := (HB7.out.block j (lt_of_block Hj5.out)).trans Hj5.out
      have c0 := cell_of hj7 (i := 0) rfl
      have Hj7 := Lib.hid hj7
      clear hb7 Hrd hj7
      go_wp2_with fail
      go_quiet (fail)
      go_wp2_with fail
      go_quiet (fail)
      go_wp2_with fail
      generalize hWQ : (World.drewN _ _) = WQ
      have HBq := Lib.hid (show Below w.heap.size w WQ from by
        rw [← hWQ]
        exact (HB5.out.trans (HB7.out.mono HB5.out.size)).trans ⟨rfl, rfl, rfl, Nat.le_refl _, fun _ _ => rfl⟩)
      have Hjq := Lib.hid (show WQ.heap[j]? = some (RJC r 0 0 (.slice p3 nn q3) pre 0 (-1) (.slice none 0 0) (.slice none 0 0) false) from by rw [← hWQ]; exact Hj7.out)
      have HIq := Lib.hid (show HasI WQ (.slice p3 nn q3) nodes from by
        rw [← hWQ]
        exact (Holds.chg HI5.out (Chg.of_below (HB7.out.trans ⟨rfl, rfl, rfl, Nat.le_refl _, fun _ _ => rfl⟩)) fun _ _ => id))
      clear hWQ c0
      have Han := Lib.hid (ranew_calls (H.out.below HBq.out) Hjq.out (fun ho => by have h1 := H.out.olt j ho; have h2 := Hs1.out; omega) HIq.out Hz.out (Nat.le_trans Hl.out (by decide)) (by decide) (by decide) (by decide) (by decide) hpz2)
      rw [show fstB0 0 0 nodes = fstB 0 0 nodes from fstB0_nat (n := 0) (by decide) 0 nodes] at Han
      generalize hR : D.save1 (logN (nm pre)) (frameN (fstB 0 0 nodes) ++ frameN (trmB 0 (-1))) = R at *
      clear hR
      obtain ⟨D9, e9⟩ := R
      by_cases he : e9 = 0
      · subst he
        go_wp2_with fail
        refine Han.out.mono ?_
        intro e w9 hT
        have HE := Lib.hid (ropen0_of (rstep_below HBq.out hT) (x := .pointer (some ⟨j, 0, none⟩)) (fun _ => ⟨j, rfl⟩) fun h => absurd rfl h)
        obtain ⟨rfl, -⟩ := hT
        clear Han
        go_wp2_with fail
        go_ret2
        exact HE.out
      · have hne : ((e9 : Int) != 0) = true := by simp; omega
        have He := Lib.hid he
        clear he
        go_wp2_with fail
        refine Han.out.mono ?_
        intro e w9 hT
        have HE := Lib.hid (ropen0_of (rstep_below HBq.out hT) (x := .pointer none) (fun h => absurd h He.out) fun _ => rfl)
        obtain ⟨rfl, -⟩ := hT
        clear Han
        go_wp2_with fail
        go_ret2
        exact HE.out
end Go.Proofs.YtapfnehdgailmaaGreat

namespace Go.Proofs.YtapfnehdgailmaaGreat
open Go.RowKit Go.Sat Go.Maps

/-- The row of a pair. -/
abbrev PairO (d r : Nat) (j x : Value) (over : Bool) : Obj := .cells #[.pointer (some ⟨d, 0, none⟩), .pointer (some ⟨r, 0, none⟩), j, x, .bool over] 47 (0, 0)
abbrev g012 : List Int := [0, 1, 2]
abbrev LitO : Obj := .cells #[.int .i64 0, .int .i64 1, .int .i64 2] 3 (0, 0)

theorem hasI_012 (W : World) : HasI (W.alloc LitO) (.slice (some ⟨W.heap.size, 0, none⟩) 3 3) g012 :=
  ⟨by simp, some ⟨W.heap.size, 0, none⟩, 3, rfl, fun e => (by cases e), fun a ha i u hu => by
    cases ha
    rw [add_zero]
    refine cell_of (new_block W _) ?_
    simpa using hu⟩

theorem refIn_move {w w' : World} {r : Nat} {D : DiskM} (h : RefIn w r (.slice none 0 0) [] (fun k => k = r) D) (hs : ∀ k, k = r → w'.heap[k]? = w.heap[k]?) (hl : r < w'.heap.size) : RefIn w' r (.slice none 0 0) [] (fun k => k = r) D where
  cells := (hs r rfl).trans h.cells
  row := OwnR.nil _ _ _
  files := h.files
  data := fun x hx => by cases hx
  or := rfl
  ov := fun k hk => by cases hk
  ob := fun x hx => by cases hx
  olt := fun k hk => by rw [hk]; exact hl
  ok := h.ok

/-- What a pair is behind its opening. -/
def Opened (w : World) (p d r room : Nat) (w' : World) : Prop :=
  ∃ j x, JouF w w' j d sA (diskJ0 room [97] g012) (JouM.none0 g012) (fun k => k = p) ∧ w'.heap[p]? = some (PairO d r (.pointer (some ⟨j, 0, none⟩)) (.pointer (some ⟨x, 0, none⟩)) false)

set_option maxRecDepth 100000 in
set_option maxHeartbeats 8000000 in
theorem popen_calls {w w1 : World} {d r p room : Nat} (h : St w w1 d (DiskM.fresh room) (fun k => k = p ∨ k = r)) (hR : RefIn w1 r (.slice none 0 0) [] (fun k => k = r) (DiskM.fresh room)) (hp : w1.heap[p]? = some (PairO d r (.pointer none) (.pointer none) false)) (hge : w.heap.size ≤ r ∧ w.heap.size ≤ p) (hpr : p ≠ r) (hr1 : 200 ≤ room) (hr2 : room ≤ 1048576) :
    Calls Tryz.prog 97 #[.pointer (some ⟨p, 0, none⟩)] w1 fun e w' => e = .returned (.bool true) ∧ Opened w p d r room w' := by
  have Hop := Lib.hid (jopen_calls (h.next (below_one w1 LitO)) (show (DiskM.fresh room).room ≤ 1048576 from hr2) sA (hasI_012 w1) (by simp))
  rw [show jouOpen (DiskM.fresh room) (nm sA) g012 = (diskJ0 room [97] g012, 0, JouM.none0 g012) from jopen_fresh hr1 (by omega) (pre := [97]) ⟨by decide, by decide⟩ (by rfl)] at Hop
  have Hro := Lib.hid (fun W (hW : RefIn W r (.slice none 0 0) [] (fun k => k = r) (DiskM.fresh room)) => show Calls Tryz.prog 18 #[.pointer (some ⟨r, 0, none⟩), .string sA, .slice (some ⟨W.heap.size, 0, none⟩) 3 3] (W.alloc LitO) (ROpen0 (W.alloc LitO) r (fun k => k = r) (diskJ0 room [97] g012, 0)) from by
    have := ropen0_calls (hW.below (below_one W LitO)) rfl sA ⟨by decide, by decide⟩ (hasI_012 W) (by rfl)
    rwa [show (DiskM.fresh room).save1 (logN (nm sA)) (frameN (fstB 0 0 g012) ++ frameN (trmB 0 (-1))) = (diskJ0 room [97] g012, 0) from save_fresh hr1 (by omega) (pre := [97]) ⟨by decide, by decide⟩ (by rfl)] at this)
  have HR := Lib.hid hR
  have Hge := Lib.hid hge
  have Hpr := Lib.hid hpr
  have Hp := Lib.hid hp
  have Hsa := Lib.hid (fun k (hk : k = p ∨ k = r) => h.flt hk)
  have hpa := old_block LitO hp
  have c0 := cell_of hp (i := 0) rfl
  clear h hR hp hge hpr hpa
  go_enter Tryz.func97, Tryz.ntmps97
  go_wp2_with fail
  refine Hop.out.mono ?_
  rintro e w2 ⟨hst, hs, hcase⟩
  rcases hcase with ⟨-, j, rfl, hj⟩ | ⟨hne, -⟩
  · have HJ := Lib.hid hj
    have Hp2 := Lib.hid ((hs p (.inl rfl)).trans (old_block LitO Hp.out))
    have hr2' : ∀ k, k = r → w2.heap[k]? = w1.heap[k]? := fun k hk => by
      rw [hk]
      exact (hs r (.inr rfl)).trans (alloc_was w1 LitO (Hsa.out r (.inr rfl)))
    have HR2 := Lib.hid (refIn_move HR.out hr2' (HJ.out.flt (.inr rfl)))
    have c1 := cell_of Hp2.out (i := 1) rfl
    clear hst hs hj hr2' Hop c0
    have Hro2 := Lib.hid (Hro.out w2 HR2.out)
    go_wp2_with fail
    refine Hro2.out.mono ?_
    rintro e w4 ⟨⟨x, rfl, hx, -⟩, own', -, hc4, -⟩
    obtain ⟨jx, rfl⟩ := hx rfl
    have hlr : r < (w2.alloc LitO).heap.size := Nat.lt_of_lt_of_le (HJ.out.flt (.inr rfl)) (below_one w2 LitO).size
    have HJ4 := Lib.hid (show JouF w w4 j d sA (diskJ0 room [97] g012) (JouM.none0 g012) (fun k => k = p) from (HJ.out.next (below_one w2 LitO)).move hc4 (fun k _ e => ⟨.inr e, by rw [e]; exact Hge.out.1⟩) fun k hk => ⟨.inl (.inl hk), by rw [hk]; exact Nat.lt_of_lt_of_le (Nat.lt_of_lt_of_le (HJ.out.flt (.inl rfl)) (below_one w2 LitO).size) hc4.size⟩)
    have hp4 := (hc4.block p (Nat.lt_of_lt_of_le (HJ.out.flt (.inl rfl)) (below_one w2 LitO).size) Hpr.out).trans (old_block LitO Hp2.out)
    have Hp4 := Lib.hid hp4
    have d2 := cell_of hp4 (i := 2) rfl
    have d3 := cell_of hp4 (i := 3) rfl
    have f2 := frozen_of hp4 2
    have f3 := frozen_of hp4 3
    have HJ5 := Lib.hid (show JouF w ((w4.setCell ⟨p, 2, none⟩ (.pointer (some ⟨j, 0, none⟩))).setCell ⟨p, 3, none⟩ (.pointer (some ⟨jx, 0, none⟩))) j d sA (diskJ0 room [97] g012) (JouM.none0 g012) (fun k => k = p) from HJ4.out.move (S := fun k => k = p) ((Chg.setCell w4 ⟨p, 2, none⟩ _).trans (Chg.setCell _ ⟨p, 3, none⟩ _) fun _ _ e => e) (fun k _ e => ⟨e, by rw [e]; exact Hge.out.2⟩) fun k hk => ⟨.inl hk, by rw [hk]; have := HJ4.out.flt (k := p) rfl; simpa [World.setCell] using this⟩)
    have Hp5 := Lib.hid (show ((w4.setCell ⟨p, 2, none⟩ (.pointer (some ⟨j, 0, none⟩))).setCell ⟨p, 3, none⟩ (.pointer (some ⟨jx, 0, none⟩))).heap[p]? = some (PairO d r (.pointer (some ⟨j, 0, none⟩)) (.pointer (some ⟨jx, 0, none⟩)) false) from by
      have h1 := set_block Hp4.out 2 (.pointer (some ⟨j, 0, none⟩))
      have h2 := set_block h1 3 (.pointer (some ⟨jx, 0, none⟩))
      simpa using h2)
    clear hx hc4 hp4 hlr Hro2 Hro c1
    go_wp2_with fail
    go_ret
    exact ⟨rfl, j, jx, HJ5.out, Hp5.out⟩
  · exact absurd rfl hne

set_option maxRecDepth 100000 in
set_option maxHeartbeats 8000000 in
theorem start_calls (w : World) (room : Nat) (hr1 : 200 ≤ room) (hr2 : room ≤ 1048576) :
    Calls Tryz.prog 21 #[.int .i64 (room : Int)] w fun e w' => ∃ p d r, e = .returned (.tuple #[.pointer (some ⟨p, 0, none⟩), .bool true]) ∧ Opened w p d r room w' ∧ w.heap.size ≤ p := by
  have Hnew := Lib.hid (st_new (w := w) (w1 := w) (room : Int) (by omega) (by omega) (Below.refl _ _))
  have Hrn := Lib.hid (fun W => rnew_calls W (room : Int) (by omega) (by omega))
  have Hpo := Lib.hid (fun W d r p a b c e f => popen_calls (w := w) (w1 := W) (d := d) (r := r) (p := p) a b c e f hr1 hr2)
  rw [Int.toNat_natCast] at Hnew
  go_enter Tryz.func21, Tryz.ntmps21
  go_wp2_with fail
  refine Hnew.out.mono ?_
  rintro e w2 ⟨d, rfl, hst⟩
  have HS2 := Lib.hid hst
  have Hr2 := Lib.hid (Hrn.out w2)
  rw [Int.toNat_natCast] at Hr2
  clear hst Hnew Hrn
  go_wp2_with fail
  refine Hr2.out.mono ?_
  rintro e w3 ⟨r, rfl, hR, hb3, hge3⟩
  have hrl := hR.olt r rfl
  have Hst := Lib.hid (show St w (w3.alloc (PairO d r (.pointer none) (.pointer none) false)) d (DiskM.fresh room) (fun k => k = w3.heap.size ∨ k = r) from HS2.out.move (Chg.of_below (hb3.trans ((below_one w3 _).mono hb3.size))) (fun _ _ h => h.elim) fun k hk => by
    have hs := hb3.size
    have hs2 : (w3.alloc (PairO d r (.pointer none) (.pointer none) false)).heap.size = w3.heap.size + 1 := by simp
    rcases hk with hk | hk
    · exact ⟨.inr (by omega), by omega⟩
    · exact ⟨.inr (by omega), by omega⟩)
  have HRb := Lib.hid (hR.below (below_one w3 (PairO d r (.pointer none) (.pointer none) false)))
  have Hge := Lib.hid (show w.heap.size ≤ r ∧ w.heap.size ≤ w3.heap.size from ⟨Nat.le_trans HS2.out.below.size hge3, Nat.le_trans HS2.out.below.size hb3.size⟩)
  have Hne := Lib.hid (show w3.heap.size ≠ r by omega)
  have Hop := Lib.hid (Hpo.out _ _ _ _ Hst.out HRb.out (new_block w3 _) Hge.out Hne.out)
  clear hR hb3 hge3 hrl Hr2
  go_wp2_with fail
  refine Hop.out.mono ?_
  rintro e w4 ⟨rfl, ho⟩
  have HO := Lib.hid ho
  clear ho Hop
  go_wp2_with fail
  go_ret2
  exact ⟨_, _, _, rfl, HO.out, Hge.out.2⟩
end Go.Proofs.YtapfnehdgailmaaGreat

namespace Go.Proofs.YtapfnehdgailmaaGreat
open Go.RowKit Go.Sat Go.Maps

set_option maxHeartbeats 1000000 in
theorem same5_calls {w : World} {x y : Value} {l m : Bs} (hx : HasB w x l) (hy : HasB w y m) (hl : l.length ≤ 140737488355328) (hm : m.length ≤ 140737488355328) :
    Calls Tryz.prog 33 #[x, y] w (SamePost w (l == m)) := by
  by_cases hlen : l.length = m.length
  · have ax := hx.at
    have ay := hy.at
    obtain ⟨px, cx, rfl⟩ := hx.slice
    obtain ⟨py, cy, rfl⟩ := hy.slice
    have hbne : ((l.length : Int) != (m.length : Int)) = false := by simp [hlen]
    have Hlen := Lib.hid hlen
    have Hax := Lib.hid ax
    have Hay := Lib.hid ay
    clear hx hy hlen ax ay
    generalize hlN : l.length = N at *
    generalize hmM : m.length = M at *
    have HlN := Lib.hid hlN
    have HmM := Lib.hid hmM
    clear hlN hmM
    go_enter Tryz.func33, Tryz.ntmps33
    go_wp2
    go_loopw [5] (fun i wr => ∃ k q : Nat, k ≤ N ∧ i = .int .i64 k ∧ l.take k = m.take k ∧ wr = w.drewN q) (fun i _ => N - (intOf i).toNat)
    case atStart => exact ⟨0, 0, Nat.zero_le _, rfl, rfl, rfl⟩
    case round =>
      obtain ⟨k, q, hk, rfl, htake, rfl⟩ := hrel
      have Htake := Lib.hid htake
      clear htake
      by_cases hlt : k < N
      · have hltM : k < M := by have := Hlen.out; omega
        have hkl : k < l.length := by rw [HlN.out]; exact hlt
        have hkm : k < m.length := by rw [HmM.out]; exact hltM
        have h1 : l[k]? = some l[k] := List.getElem?_eq_getElem hkl
        have h2 : m[k]? = some m[k] := List.getElem?_eq_getElem hkm
        rcases Hax.out with h | ⟨b, o, c, e1, hcx⟩
        · rw [h] at hkl
          simp at hkl
        rcases Hay.out with h | ⟨b2, o2, c2, e2, hcy⟩
        · rw [h] at hkm
          simp at hkm
        cases e1
        cases e2
        have hc1 := hcx k _ h1
        have hc2 := hcy k _ h2
        have Hnext := Lib.hid (fun e => take_eq_succ h1 h2 Htake.out e)
        have Hno := Lib.hid (fun e => ne_at h1 h2 e)
        clear hcx hcy h1 h2
        generalize l[k] = a at *
        generalize m[k] = b at *
        by_cases hab : a = b
        · have hd : ((a.toNat : Int) != (b.toNat : Int)) = false := by simp [hab]
          have Hab := Lib.hid hab
          clear hab hkl hkm
          go_wp2_with fail
          go_quiet (fail)
          go_wp2
          go_roundw
          case rel => exact ⟨k + 1, q + nq, by omega, by go_num, Hnext.out Hab.out, by first | rfl | rw [World.drewN_drewN]⟩
          case measure => simp [intOf]; omega
        · have hd : ((a.toNat : Int) != (b.toNat : Int)) = true := by
            simp only [bne_iff_ne, ne_eq, Int.natCast_inj]
            exact fun e => hab (UInt8.toNat.inj e)
          have Hab := Lib.hid hab
          clear hab hkl hkm
          go_wp2_with fail
          go_quiet (fail)
          go_wp2
          go_ret
          exact ⟨by rw [Hno.out Hab.out]; rfl, q + nq, by first | rfl | rw [World.drewN_drewN]⟩
      · go_wp2
        go_ret
        refine ⟨?_, q, rfl⟩
        have h1 := Htake.out
        rw [List.take_of_length_le (by rw [HlN.out]; omega), List.take_of_length_le (by rw [HmM.out]; have := Hlen.out; omega)] at h1
        simp [h1]
  · obtain ⟨px, cx, rfl⟩ := hx.slice
    obtain ⟨py, cy, rfl⟩ := hy.slice
    have hbne : ((l.length : Int) != (m.length : Int)) = true := by simp; omega
    have hres : (l == m) = false := by rw [beq_eq_false_iff_ne]; rintro rfl; exact hlen rfl
    rw [hres]
    clear hx hy hlen hres
    go_enter Tryz.func33, Tryz.ntmps33
    go_wp2
    go_ret
    exact ⟨rfl, 0, rfl⟩

end Go.Proofs.YtapfnehdgailmaaGreat

namespace Go.Proofs.YtapfnehdgailmaaGreat
open Go.RowKit Go.Sat Go.Maps

set_option maxRecDepth 100000 in
set_option maxHeartbeats 8000000 in
theorem known5_calls (w : World) : Calls Tryz.prog 20 #[] w fun e w' => e = .returned (.bool true) ∧ Below w.heap.size w w' := by
  have Hst := Lib.hid (start_calls w 65536 (by decide) (by decide))
  obtain ⟨D1, D2, hk1, hk2⟩ := known5
  have Hk1 := Lib.hid hk1
  have Hk2 := Lib.hid hk2
  clear hk1 hk2
  have kc := fun (w : World) (C : Array Value) (n c : Nat) => Lib.run_convert_bytes_const (P := Tryz.prog) w 22 5 C n c Tryz.underlying22 Tryz.underlying5
  go_enter Tryz.func20, Tryz.ntmps20
  go_wp2_with fail
  refine Hst.out.mono ?_
  rintro e w1 ⟨p, d, r, rfl, ⟨j, x, hJ, hp⟩, -⟩
  have HJ := Lib.hid hJ
  have Hp := Lib.hid hp
  have c2 := cell_of hp (i := 2) rfl
  clear hJ hp Hst
  have HJ3 := Lib.hid (show JouF w ((w1.alloc (.cells #[.int .u8 120] 5 (1, 2))).alloc (.cells #[.int .i64 1, .int .i64 0, .slice none 0 0, .slice none 0 0, .int .i64 2, .int .i64 1, .slice (some ⟨w1.heap.size, 0, none⟩) 1 1, .slice none 0 0] 50)) j d sA (diskJ0 65536 [97] g012) (JouM.none0 g012) (fun k => (k = p ∨ k = w1.heap.size) ∨ k = w1.heap.size + 1) from by
    have := (HJ.out.box (.cells #[.int .u8 120] 5 (1, 2))).box (.cells #[.int .i64 1, .int .i64 0, .slice none 0 0, .slice none 0 0, .int .i64 2, .int .i64 1, .slice (some ⟨w1.heap.size, 0, none⟩) 1 1, .slice none 0 0] 50)
    simpa using this)
  have hb1 : ((w1.alloc (.cells #[.int .u8 120] 5 (1, 2))).alloc (.cells #[.int .i64 1, .int .i64 0, .slice none 0 0, .slice none 0 0, .int .i64 2, .int .i64 1, .slice (some ⟨w1.heap.size, 0, none⟩) 1 1, .slice none 0 0] 50)).heap[w1.heap.size]? = some (.cells #[.int .u8 120] 5 (1, 2)) := old_block _ (new_block w1 _)
  have hb2 : ((w1.alloc (.cells #[.int .u8 120] 5 (1, 2))).alloc (.cells #[.int .i64 1, .int .i64 0, .slice none 0 0, .slice none 0 0, .int .i64 2, .int .i64 1, .slice (some ⟨w1.heap.size, 0, none⟩) 1 1, .slice none 0 0] 50)).heap[w1.heap.size + 1]? = some (.cells #[.int .i64 1, .int .i64 0, .slice none 0 0, .slice none 0 0, .int .i64 2, .int .i64 1, .slice (some ⟨w1.heap.size, 0, none⟩) 1 1, .slice none 0 0] 50) := by have := new_block (w1.alloc (.cells #[.int .u8 120] 5 (1, 2))) (.cells #[.int .i64 1, .int .i64 0, .slice none 0 0, .slice none 0 0, .int .i64 2, .int .i64 1, .slice (some ⟨w1.heap.size, 0, none⟩) 1 1, .slice none 0 0] 50); simpa using this
  have HEn := Lib.hid (show ∀ W, Below w.heap.size w W → Same (fun k => (k = p ∨ k = w1.heap.size) ∨ k = w1.heap.size + 1) ((w1.alloc (.cells #[.int .u8 120] 5 (1, 2))).alloc (.cells #[.int .i64 1, .int .i64 0, .slice none 0 0, .slice none 0 0, .int .i64 2, .int .i64 1, .slice (some ⟨w1.heap.size, 0, none⟩) 1 1, .slice none 0 0] 50)) W → EntsHas W (.slice (some ⟨w1.heap.size + 1, 0, none⟩) 2 2) [ke1, ke2] [(.slice none 0 0, .slice none 0 0), (.slice (some ⟨w1.heap.size, 0, none⟩) 1 1, .slice none 0 0)] from fun W _ hs => by
    have h1 := (hs w1.heap.size (.inl (.inr rfl))).trans hb1
    have h2 := (hs (w1.heap.size + 1) (.inr rfl)).trans hb2
    have hnil : ∀ l : List Value, l = [] → Holds W 1 (.slice none 0 0) 0 l := fun l e => by rw [e]; exact ⟨rfl, none, 0, rfl, fun _ => rfl, fun a ha => by cases ha⟩
    refine ⟨rfl, ⟨rfl, some ⟨w1.heap.size + 1, 0, none⟩, 2, rfl, fun e => (by cases e), fun a ha i u hu => ?_⟩, fun i e v he hv => ?_⟩
    · cases ha
      rw [add_zero]
      refine cell_of h2 ?_
      simpa [entsC, entC, ke1, ke2] using hu
    · match i, he, hv with
      | 0, he, hv =>
        cases he
        cases hv
        exact ⟨hnil _ rfl, hnil _ rfl, by decide, by decide⟩
      | 1, he, hv =>
        cases he
        cases hv
        refine ⟨⟨rfl, some ⟨w1.heap.size, 0, none⟩, 1, rfl, fun e => (by cases e), fun a ha i u hu => ?_⟩, hnil _ rfl, by decide, by decide⟩
        cases ha
        rw [add_zero]
        refine cell_of h1 ?_
        simpa [bytesV, ke2] using hu)
  have Hap := Lib.hid (jappend_calls HJ3.out HEn.out (by decide))
  rw [show jouAppend (nm sA) (diskJ0 65536 [97] g012) (JouM.none0 g012) [ke1, ke2] = ⟨D1, kM1, 0⟩ from Hk1.out] at Hap
  have Hp3 := Lib.hid (old_block (.cells #[.int .i64 1, .int .i64 0, .slice none 0 0, .slice none 0 0, .int .i64 2, .int .i64 1, .slice (some ⟨w1.heap.size, 0, none⟩) 1 1, .slice none 0 0] 50) (old_block (.cells #[.int .u8 120] 5 (1, 2)) Hp.out))
  clear hb1 hb2 HEn
  go_wp2_with fail
  refine Hap.out.mono ?_
  rintro e w2 ⟨rfl, hj2, hs2⟩
  have HJ4 := Lib.hid (hj2.less (F' := fun k => k = p) fun k hk => .inl (.inl hk))
  have Hp4 := Lib.hid ((hs2 p (.inl (.inl rfl))).trans Hp3.out)
  have d2 := cell_of Hp4.out (i := 2) rfl
  clear hj2 hs2 Hap c2
  have HJ5 := Lib.hid (HJ4.out.box (.cells #[.int .u8 115] 5 (1, 2)))
  have hb3 := new_block w2 (.cells #[.int .u8 115] 5 (1, 2))
  have Hco := Lib.hid (jcompact_calls HJ5.out (show kM1.entries.length ≤ 1000000 by decide) 1 (by decide) (pd := some ⟨w2.heap.size, 0, none⟩) (n := 1) (cd := 1) (b := [115]) rfl (by decide) fun W _ hs => ⟨rfl, some ⟨w2.heap.size, 0, none⟩, 1, rfl, fun e => (by cases e), fun a ha i u hu => by
    cases ha
    rw [add_zero]
    refine cell_of ((hs w2.heap.size (.inr rfl)).trans hb3) ?_
    simpa [bytesV] using hu⟩)
  rw [show jouCompact (nm sA) D1 kM1 1 [115] = ⟨D2, kM2, 0⟩ from Hk2.out] at Hco
  have Hp5 := Lib.hid (old_block (.cells #[.int .u8 115] 5 (1, 2)) Hp4.out)
  clear hb3
  go_wp2_with fail
  refine Hco.out.mono ?_
  rintro e w3 ⟨rfl, hj3, hs3⟩
  have HJ6 := Lib.hid hj3
  have Hp6 := Lib.hid ((hs3 p (.inl rfl)).trans Hp5.out)
  have e2 := cell_of Hp6.out (i := 2) rfl
  have Hba := Lib.hid (jbase_calls HJ6.out)
  clear hj3 hs3 Hco d2
  go_wp2_with fail
  refine Hba.out.mono ?_
  rintro e w4 ⟨rfl, q4, rfl⟩
  have HJ7 := Lib.hid (HJ6.out.drewN q4)
  have Hla := Lib.hid (jlast_calls HJ7.out)
  have e2 : (w3.drewN q4).cell? ⟨p, 2, none⟩ = some (.pointer (some ⟨j, 0, none⟩)) := e2
  rw [show ((kM2.number : Nat) : Int) = 1 from rfl, show kM2.term = 1 from rfl]
  go_wp2_with fail
  refine Hla.out.mono ?_
  rintro e w5 ⟨rfl, q5, rfl⟩
  rw [show ((kM2.last : Nat) : Int) = 2 from rfl, show kM2.lastT = 2 from rfl]
  have HJ8 := Lib.hid (HJ6.out.drewN (q4 + q5))
  have Hsn := Lib.hid (jsnap_calls HJ8.out)
  have e3 : ((w3.drewN q4).drewN q5).cell? ⟨p, 2, none⟩ = some (.pointer (some ⟨j, 0, none⟩)) := e2
  go_wp2_with fail
  refine Hsn.out.mono ?_
  rintro e w6 ⟨v, u, rfl, hv, -, -, hb6⟩
  have HB6 := Lib.hid (show Below w.heap.size w w6 from HJ8.out.bel.trans (hb6.mono HJ8.out.bel.size))
  have hv : OwnB w6 5 v [115] := hv
  have Hv := Lib.hid (show HasB (w6.alloc (.cells #[.int .u8 115] 5 (1, 2))) v [115] from (ownB_far hv (below_one w6 (.cells #[.int .u8 115] 5 (1, 2)))).has)
  obtain ⟨pv, cv, rfl, -⟩ := own_cap0 hv
  have Hl := Lib.hid (show HasB (w6.alloc (.cells #[.int .u8 115] 5 (1, 2))) (.slice (some ⟨w6.heap.size, 0, none⟩) 1 1) [115] from ⟨rfl, some ⟨w6.heap.size, 0, none⟩, 1, rfl, fun e => (by cases e), fun a ha i u hu => by
    cases ha
    rw [add_zero]
    refine cell_of (new_block w6 _) ?_
    simpa [bytesV] using hu⟩)
  have Hsm := Lib.hid (same5_calls Hv.out Hl.out (by decide) (by decide))
  have HB7 := Lib.hid (HB6.out.alloc HB6.out.size (.cells #[.int .u8 115] 5 (1, 2)))
  clear hv hb6 Hsn
  go_wp2_with fail
  refine Hsm.out.mono ?_
  rintro e w7 ⟨rfl, n7, rfl⟩
  have HB8 := Lib.hid (HB7.out.trans ⟨rfl, rfl, rfl, Nat.le_refl _, fun _ _ => rfl⟩ : Below w.heap.size w ((w6.alloc (.cells #[.int .u8 115] 5 (1, 2))).drewN n7))
  rw [show ((([115] : Bs) == [115]) : Bool) = true from rfl]
  clear Hsm
  go_wp2_with fail
  go_ret
  exact ⟨rfl, HB8.out⟩
end Go.Proofs.YtapfnehdgailmaaGreat

namespace Go.Proofs.YtapfnehdgailmaaGreat
open Go.RowKit Go.Sat Go.Maps

theorem mask_and (m : Nat) (hm : m ≤ 1073741823) (z : Int) : ∃ c : Nat, bits .and .i64 z (m : Int) = (c : Int) ∧ c ≤ m := by
  have h0 : (BitVec.ofInt 64 (m : Int)).toNat = m := by
    rw [BitVec.toNat_ofInt]
    omega
  have h : (BitVec.ofInt 64 z &&& BitVec.ofInt 64 (m : Int)).toNat ≤ m := by
    rw [BitVec.toNat_and]
    exact Nat.le_trans Nat.and_le_right (Nat.le_of_eq h0)
  refine ⟨(BitVec.ofInt 64 z &&& BitVec.ofInt 64 (m : Int)).toNat, ?_, h⟩
  show IntKind.i64.wrap (((BitVec.ofInt 64 z &&& BitVec.ofInt 64 (m : Int)).toNat : Nat) : Int) = _
  exact IntWalk.i64_in _ (by omega)
theorem mask_1023 (z : Int) : ∃ c : Nat, bits .and .i64 z 1023 = (c : Int) ∧ c ≤ 1023 := mask_and 1023 (by decide) z

section
variable {w w1 : World} {j d : Nat} {D : DiskM} {M : JouM} {F : Nat → Prop} {room u : Nat} {g : List Int}

theorem Kept5.roomOf (h : Kept5 room g M D u) : D.room = room := by
  obtain ⟨⟨ls, s, M0, rfl, -⟩, -⟩ := h
  rfl
theorem jl_crash (hJ : JouF w w1 j d sA D M F) (hK : Kept5 room g M D u) (k : Int) (hk : -9223372036854775808 ≤ k) (hk' : k ≤ 9223372036854775807) :
    Calls Tryz.prog 28 #[.pointer (some ⟨d, 0, none⟩), .int .i64 k] w1 fun e w' => e = .returned (.tuple #[]) ∧ JouF w w' j d sA D M F ∧ Same F w1 w' := by
  have := jou_disk0 hJ (fun G hS => st_crash hS k hk hk')
  rwa [hK.crash k] at this

theorem jl_open (hJ : JouF w w1 j d sA D M F) (hK : Kept5 room g012 M D u) (hr : room ≤ 1048576) :
    Calls Tryz.prog 17 #[.pointer (some ⟨d, 0, none⟩), .string sA, .slice (some ⟨w1.heap.size, 0, none⟩) 3 3] (w1.alloc LitO) fun e w' => ∃ j', e = .returned (.tuple #[.pointer (some ⟨j', 0, none⟩), .int .i64 0]) ∧ JouF w w' j' d sA D M F ∧ Same F w1 w' := by
  have h := jopen_calls (hJ.stF.next (below_one w1 LitO)) (show D.room ≤ 1048576 by rw [hK.roomOf]; exact hr) sA (hasI_012 w1) (by simp)
  rw [show jouOpen D (nm sA) g012 = (D, 0, M) from hK.open] at h
  refine h.mono ?_
  rintro e w' ⟨-, hs, ⟨-, j', rfl, hj⟩ | ⟨hne, -⟩⟩
  · exact ⟨j', rfl, hj, fun k hk => (hs k hk).trans (alloc_was w1 LitO (hJ.flt hk))⟩
  · exact absurd rfl hne

/-- The pair's journal is another one. -/
theorem jl_setj {p r : Nat} {jv x : Value} {o : Bool} (hJ : JouF w w1 j d sA D M (fun k => k = p)) (hp : w1.heap[p]? = some (PairO d r jv x o)) (hge : w.heap.size ≤ p) (v : Value) :
    JouF w (w1.setCell ⟨p, 2, none⟩ v) j d sA D M (fun k => k = p) ∧ (w1.setCell ⟨p, 2, none⟩ v).heap[p]? = some (PairO d r v x o) := by
  refine ⟨hJ.move (S := fun k => k = p) (Chg.setCell w1 ⟨p, 2, none⟩ _) (fun k _ e => ⟨e, by rw [e]; exact hge⟩) fun k hk => ⟨.inl hk, by have := hJ.flt hk; simpa [World.setCell] using this⟩, ?_⟩
  have h1 := set_block hp 2 v
  simpa using h1
end
end Go.Proofs.YtapfnehdgailmaaGreat

namespace Go.Proofs.YtapfnehdgailmaaGreat
open Go.RowKit Go.Sat Go.Maps

def shE (i : Nat) : Ent := ⟨(i : Int), 1, [UInt8.ofNat i], []⟩
def shEs (n : Nat) : List Ent := (List.range n).map fun i => shE (i + 1)
def shM (n : Nat) : JouM := ⟨0, 0, [0, 1, 2], 0, -1, [], shEs n, false⟩
def shC (n k : Nat) (b : Bs) : JouM := ⟨k, (k : Int), [0, 1, 2], 0, -1, b, (shEs n).drop k, false⟩

theorem shEs_len (n : Nat) : (shEs n).length = n := by simp [shEs]
theorem shEs_succ (n : Nat) : shEs (n + 1) = shEs n ++ [shE (n + 1)] := by
  unfold shEs
  rw [List.range_succ, List.map_append]
  rfl
theorem shEs_at {n i : Nat} (h : i < n) : (shEs n)[i]? = some (shE (i + 1)) := by
  unfold shEs
  rw [List.getElem?_map, List.getElem?_range h]
  rfl
theorem shE_ok {i : Nat} (h : i ≤ 1000) : isEnt (shE i) = true := by
  have h1 : isTm (i : Int) = true := isTm_iff.2 ⟨by omega, by omega⟩
  show (isTm (i : Int) && decide (1 ≤ ([UInt8.ofNat i] : Bs).length ∧ ([UInt8.ofNat i] : Bs).length ≤ 65536 ∧ ([] : List Int) = [])) = true
  rw [h1]
  rfl
theorem shEs_mem {n : Nat} {e : Ent} (h : e ∈ shEs n) : ∃ i, 1 ≤ i ∧ i ≤ n ∧ e = shE i := by
  obtain ⟨i, hi, rfl⟩ := List.mem_map.1 h
  have := List.mem_range.1 hi
  exact ⟨i + 1, by omega, by omega, rfl⟩
theorem shM_last (n : Nat) : (shM n).last = n := by
  show 0 + (shEs n).length = n
  rw [shEs_len]
  omega
theorem shC_last {n k : Nat} (b : Bs) (h : k ≤ n) : (shC n k b).last = n := by
  show k + ((shEs n).drop k).length = n
  rw [List.length_drop, shEs_len]
  omega
theorem shM_term {n i : Nat} (h1 : 1 ≤ i) (h2 : i ≤ n) : (shM n).termAt (i : Int) = some (i : Int) := by
  unfold JouM.termAt
  rw [if_neg (show ¬ (i : Int) = (((shM n).number : Nat) : Int) from fun e => by have e2 : (i : Int) = 0 := e; omega), if_neg (show ¬ (i : Int) < (((shM n).number : Nat) : Int) from fun e => by have e2 : (i : Int) < 0 := e; omega)]
  have : ((i : Int) - (((shM n).number : Nat) : Int) - 1).toNat = i - 1 := by
    show ((i : Int) - 0 - 1).toNat = i - 1
    omega
  rw [this, show (shM n).entries = shEs n from rfl, shEs_at (by omega), show i - 1 + 1 = i by omega]
  rfl
theorem shM_grp (n : Nat) : ∀ k, (shM n).grpIn k = ([0, 1, 2], 0)
  | 0 => rfl
  | k + 1 => by
    by_cases hk : k < n
    · exact (grpIn_no (shEs_at hk) (show (1 : Int) ≠ 2 by decide)).trans (shM_grp n k)
    · unfold JouM.grpIn
      rw [show (shM n).entries[k]? = none from List.getElem?_eq_none (by show (shEs n).length ≤ k; rw [shEs_len]; omega)]
      exact shM_grp n k
theorem shC_lastT {n k : Nat} (b : Bs) (hk : k ≤ n) : (shC n k b).lastT = (n : Int) := by
  unfold JouM.lastT
  show (match ((shEs n).drop k).getLast? with | some e => e.term | none => (k : Int)) = _
  by_cases h : k = n
  · subst h
    rw [List.drop_of_length_le (by rw [shEs_len]; omega)]
    rfl
  · rw [List.getLast?_drop, if_neg (by rw [shEs_len]; omega)]
    obtain ⟨m, rfl⟩ : ∃ m, n = m + 1 := ⟨n - 1, by omega⟩
    rw [shEs_succ, List.getLast?_append]
    rfl
theorem shC_at {n k i : Nat} (b : Bs) (h1 : k < i) (h2 : i ≤ n) : (shC n k b).entries[((i : Int) - ((shC n k b).number : Int) - 1).toNat]? = some (shE i) := by
  have : ((i : Int) - (((shC n k b).number : Nat) : Int) - 1).toNat = i - k - 1 := by
    show ((i : Int) - (k : Int) - 1).toNat = i - k - 1
    omega
  rw [this]
  show ((shEs n).drop k)[i - k - 1]? = _
  rw [List.getElem?_drop, shEs_at (by omega), show k + (i - k - 1) + 1 = i by omega]

def shS (k : Nat) (b : Bs) : Snap := ⟨k, (k : Int), [0, 1, 2], b⟩
theorem shM_rebase {n k : Nat} (b : Bs) (h1 : 1 ≤ k) (h2 : k ≤ n) : (shM n).rebase (shS k b) = shC n k b := by
  unfold JouM.rebase
  rw [if_pos (show (shM n).number < (shS k b).number ∧ (shM n).termAt ((shS k b).number : Int) = some (shS k b).term from ⟨by show 0 < k; omega, shM_term h1 h2⟩)]
  rfl
theorem shC_ok {n k : Nat} {b : Bs} (h1 : 1 ≤ k) (h2 : k ≤ n) (hn : n ≤ 60) (hb : b.length ≤ 500) : (shC n k b).OK := by
  refine ⟨by rw [shC_last b h2]; omega, isTm_iff.2 ⟨by show (0 : Int) ≤ k; omega, by show (k : Int) ≤ _; omega⟩, by rfl, by rfl, ⟨show (-1 : Int) ≤ -1 by decide, show (-1 : Int) < 7 by decide⟩, by show b.length ≤ _; omega, fun e he => ?_⟩
  obtain ⟨i, h3, h4, rfl⟩ := shEs_mem (List.mem_of_mem_drop he)
  exact shE_ok (by omega)
theorem shC_rows {n k : Nat} {b : Bs} (h2 : k ≤ n) (hn : n ≤ 60) : (∀ l ∈ (shC n k b).rows, l.length ≤ 200) ∧ (shC n k b).rows.length ≤ 62 := by
  refine ⟨fun l hl => ?_, ?_⟩
  · rcases (show l = fstB k (k : Int) [0, 1, 2] ∨ l = trmB 0 (-1) ∨ l ∈ entsB k ((shEs n).drop k) from by simpa [JouM.rows, shC] using hl) with rfl | rfl | hl
    · unfold fstB grpB
      have a : (numB k).length ≤ 9 := numB_nine (by omega)
      have b := numI_len (k : Int)
      have c := numB_nine (n := ([0, 1, 2] : List Int).length) (by decide)
      have d := numsI_len [0, 1, 2]
      simp only [List.length_cons, List.length_append, List.length_nil] at c d ⊢
      omega
    · have := trmB_len 0 (-1)
      omega
    · have := ents_len2 (c := 1) k ((shEs n).drop k) (fun e he => by
        obtain ⟨i, h3, h4, rfl⟩ := shEs_mem (List.mem_of_mem_drop he)
        exact ⟨shE_ok (by omega), by show 1 + 9 * 0 ≤ 1; decide⟩) (by rw [List.length_drop, shEs_len]; omega) l hl
      omega
  · show (entsB k ((shEs n).drop k)).length + 1 + 1 ≤ 62
    rw [entsB_len, List.length_drop, shEs_len]
    omega

theorem sh_app {n : Nat} {D : DiskM} {u : Nat} (h : Kept5 1048576 [0, 1, 2] (shM n) D u) (hn : n < 60) (hu : u ≤ 150 + 60 * n) :
    ∃ D', jouAppend [97] D (shM n) [shE (n + 1)] = ⟨D', shM (n + 1), 0⟩ ∧ ∃ u', Kept5 1048576 [0, 1, 2] (shM (n + 1)) D' u' ∧ u' ≤ 150 + 60 * (n + 1) := by
  have hall : ∀ e ∈ [shE (n + 1)], isEnt e = true := fun e he => by rw [List.mem_singleton.1 he]; exact shE_ok (by omega)
  have hlen : (recsB (entsB (shM n).last [shE (n + 1)])).length ≤ 59 := by
    have h1 := recsB_le (c := 47) (entsB (shM n).last [shE (n + 1)]) (ents_len2 (c := 1) _ _ (fun e he => ⟨hall e he, by rw [List.mem_singleton.1 he]; show 1 + 9 * 0 ≤ 1; decide⟩) (by rw [shM_last]; show n + 1 ≤ _; omega))
    rw [entsB_len] at h1
    exact Nat.le_trans h1 (show (47 + 12) * 1 ≤ 59 by decide)
  obtain ⟨D', h1, h2⟩ := app_go h (by simp) hall (by rw [shM_last]; show n + 1 ≤ _; omega) (.inr (by omega))
  have e : ({ shM n with entries := (shM n).entries ++ [shE (n + 1)] } : JouM) = shM (n + 1) := by
    unfold shM
    rw [shEs_succ]
  rw [e] at h1 h2
  exact ⟨D', h1, _, h2, by omega⟩

theorem sh_go {n k : Nat} {b : Bs} {D : DiskM} {u : Nat} (h : Kept5 1048576 [0, 1, 2] (shM n) D u) (hn : n ≤ 60) (hu : u ≤ 150 + 60 * n) (h1 : 1 ≤ k) (h2 : k ≤ n) (hb : b.length ≤ 500) :
    ∃ D' u', jouCompact [97] D (shM n) (k : Int) b = ⟨D', shC n k b, 0⟩ ∧ Kept5 1048576 [0, 1, 2] (shC n k b) D' u' := by
  obtain ⟨hr, hrl⟩ := shC_rows (b := b) h2 hn
  have hrl2 := recsB_le (c := 200) (shC n k b).rows hr
  have hbl : (shS k b).bytes.length ≤ 700 := by
    unfold Snap.bytes shS snpB grpB rowB
    have a : (numB k).length ≤ 9 := numB_nine (by omega)
    have b1 := numI_len (k : Int)
    have c := numB_nine (n := ([0, 1, 2] : List Int).length) (by decide)
    have d := numsI_len [0, 1, 2]
    have f := numB_nine (n := b.length) (by omega)
    simp only [List.length_cons, List.length_append, List.length_nil] at c d f ⊢
    omega
  obtain ⟨D', h3, h4⟩ := goes_go h (s := shS k b) ⟨by show k ≤ _; omega, isTm_iff.2 ⟨by show (0 : Int) ≤ k; omega, by show (k : Int) ≤ _; omega⟩, by rfl, by show b.length ≤ _; omega⟩ (by exact h1) (by show b.length ≤ _; omega) (by omega) (by rw [shM_rebase b h1 h2]; exact shC_ok h1 h2 hn hb) (by decide) (by rw [shM_rebase b h1 h2]; exact fun l hl => Nat.le_trans (hr l hl) (by decide)) (by
    rw [shM_rebase b h1 h2]
    have : 212 * (shC n k b).rows.length ≤ 212 * 62 := Nat.mul_le_mul_left _ hrl
    omega)
  rw [shM_rebase b h1 h2] at h3 h4
  refine ⟨D', _, ?_, h4⟩
  rw [compact_go h (show 0 < k by omega) (by rw [shM_last]; exact h2) (by omega), shM_term h1 h2, shM_grp]
  exact h3
end Go.Proofs.YtapfnehdgailmaaGreat

namespace Go.Proofs.YtapfnehdgailmaaGreat
open Go.RowKit Go.Sat Go.Maps

theorem take_eqG {α : Type} {l m : List α} {k : Nat} {x y : α} (hl : l[k]? = some x) (hm : m[k]? = some y) (h : l.take k = m.take k) (e : x = y) : l.take (k + 1) = m.take (k + 1) := by
  rw [List.take_add_one, List.take_add_one, hl, hm, h, e]
theorem ne_atG {α : Type} [BEq α] [LawfulBEq α] {l m : List α} {k : Nat} {x y : α} (hl : l[k]? = some x) (hm : m[k]? = some y) (e : x ≠ y) : (l == m) = false := by
  rw [beq_eq_false_iff_ne]
  rintro rfl
  rw [hl] at hm
  exact e (Option.some.inj hm)

set_option maxHeartbeats 1000000 in
theorem ints5_calls {w : World} {x y : Value} {l m : List Int} (hx : HasI w x l) (hy : HasI w y m) (hl : l.length ≤ 140737488355328) (hm : m.length ≤ 140737488355328) :
    Calls Tryz.prog 26 #[x, y] w (SamePost w (l == m)) := by
  by_cases hlen : l.length = m.length
  · have ax := hx.at
    have ay := hy.at
    obtain ⟨px, cx, rfl⟩ := hx.slice
    obtain ⟨py, cy, rfl⟩ := hy.slice
    have hbne : ((l.length : Int) != (m.length : Int)) = false := by simp [hlen]
    have Hlen := Lib.hid hlen
    have Hax := Lib.hid ax
    have Hay := Lib.hid ay
    clear hx hy hlen ax ay
    generalize hlN : l.length = N at *
    generalize hmM : m.length = M at *
    have HlN := Lib.hid hlN
    have HmM := Lib.hid hmM
    clear hlN hmM
    go_enter Tryz.func26, Tryz.ntmps26
    go_wp2
    go_loopw [5] (fun i wr => ∃ k q : Nat, k ≤ N ∧ i = .int .i64 k ∧ l.take k = m.take k ∧ wr = w.drewN q) (fun i _ => N - (intOf i).toNat)
    case atStart => exact ⟨0, 0, Nat.zero_le _, rfl, rfl, rfl⟩
    case round =>
      obtain ⟨k, q, hk, rfl, htake, rfl⟩ := hrel
      have Htake := Lib.hid htake
      clear htake
      by_cases hlt : k < N
      · have hltM : k < M := by have := Hlen.out; omega
        have hkl : k < l.length := by rw [HlN.out]; exact hlt
        have hkm : k < m.length := by rw [HmM.out]; exact hltM
        have h1 : l[k]? = some l[k] := List.getElem?_eq_getElem hkl
        have h2 : m[k]? = some m[k] := List.getElem?_eq_getElem hkm
        rcases Hax.out with h | ⟨b, o, c, e1, hcx⟩
        · rw [h] at hkl
          simp at hkl
        rcases Hay.out with h | ⟨b2, o2, c2, e2, hcy⟩
        · rw [h] at hkm
          simp at hkm
        cases e1
        cases e2
        have hc1 := hcx k _ h1
        have hc2 := hcy k _ h2
        have Hnext := Lib.hid (fun e => take_eqG h1 h2 Htake.out e)
        have Hno := Lib.hid (fun e => ne_atG h1 h2 e)
        clear hcx hcy h1 h2
        generalize l[k] = a at *
        generalize m[k] = b at *
        by_cases hab : a = b
        · subst hab
          clear hkl hkm
          go_wp2_with fail
          go_quiet (fail)
          go_wp2
          go_roundw
          case rel => exact ⟨k + 1, q + nq, by omega, by go_num, Hnext.out trivial, by first | rfl | rw [World.drewN_drewN]⟩
          case measure => simp [intOf]; omega
        · have hd : ((a != b) = true) := by simpa using hab
          have Hab := Lib.hid hab
          clear hab hkl hkm
          go_wp2_with fail
          go_quiet (fail)
          go_wp2
          go_ret
          exact ⟨by rw [Hno.out Hab.out]; rfl, q + nq, by first | rfl | rw [World.drewN_drewN]⟩
      · go_wp2
        go_ret
        refine ⟨?_, q, rfl⟩
        have h1 := Htake.out
        rw [List.take_of_length_le (by rw [HlN.out]; omega), List.take_of_length_le (by rw [HmM.out]; have := Hlen.out; omega)] at h1
        simp [h1]
  · obtain ⟨px, cx, rfl⟩ := hx.slice
    obtain ⟨py, cy, rfl⟩ := hy.slice
    have hbne : ((l.length : Int) != (m.length : Int)) = true := by simp; omega
    have hres : (l == m) = false := by rw [beq_eq_false_iff_ne]; rintro rfl; exact hlen rfl
    rw [hres]
    clear hx hy hlen hres
    go_enter Tryz.func26, Tryz.ntmps26
    go_wp2
    go_ret
    exact ⟨rfl, 0, rfl⟩
end Go.Proofs.YtapfnehdgailmaaGreat

namespace Go.Proofs.YtapfnehdgailmaaGreat
open Go.RowKit Go.Sat Go.Maps

/-- An entry of one byte that is handed in. -/
abbrev shLit (w1 : World) (i : Nat) : Obj := .cells #[.int .i64 (i : Int), .int .i64 1, .slice (some ⟨w1.heap.size, 0, none⟩) 1 1, .slice none 0 0] 50
abbrev shByte (i : Nat) : Obj := .cells #[.int .u8 (i : Int)] 5
theorem byte_small {i : Nat} (h : i < 256) : bytesV [UInt8.ofNat i] = [.int .u8 (i : Int)] := by
  have : (UInt8.ofNat i).toNat = i := by
    rw [UInt8.toNat_ofNat']
    omega
  simp [bytesV, this]
theorem below_dr {B : Nat} (w : World) (q : Nat) : Below B w (w.drewN q) := ⟨rfl, rfl, rfl, Nat.le_refl _, fun _ _ => rfl⟩
theorem shByteHas (w : World) {i : Nat} (h : i < 256) (g : Nat) (hg : g = w.heap.size) : HasB (w.alloc (shByte i)) (.slice (some ⟨g, 0, none⟩) 1 1) [UInt8.ofNat i] := by
  subst hg
  exact ⟨rfl, some ⟨w.heap.size, 0, none⟩, 1, rfl, fun e => (by cases e), fun a ha k u hu => by
    cases ha
    rw [add_zero]
    refine cell_of (new_block w (shByte i)) ?_
    rw [byte_small h] at hu
    simpa using hu⟩
theorem shHas {w1 W : World} {F : Nat → Prop} {i : Nat} (hi : i < 256) (hF1 : F w1.heap.size) (hF2 : F (w1.heap.size + 1)) (hs : Same F ((w1.alloc (shByte i)).alloc (shLit w1 i)) W) :
    EntsHas W (.slice (some ⟨w1.heap.size + 1, 0, none⟩) 1 1) [shE i] [(.slice (some ⟨w1.heap.size, 0, none⟩) 1 1, .slice none 0 0)] := by
  have h1 := (hs w1.heap.size hF1).trans (old_block (shLit w1 i) (new_block w1 (shByte i)))
  have h2 : W.heap[w1.heap.size + 1]? = some (shLit w1 i) := (hs (w1.heap.size + 1) hF2).trans (by have := new_block (w1.alloc (shByte i)) (shLit w1 i); simpa using this)
  refine ⟨rfl, ⟨rfl, some ⟨w1.heap.size + 1, 0, none⟩, 1, rfl, fun e => (by cases e), fun a ha k u hu => ?_⟩, fun k e v he hv => ?_⟩
  · cases ha
    rw [add_zero]
    refine cell_of h2 ?_
    simpa [entsC, entC, shE] using hu
  · match k, he, hv with
    | 0, he, hv =>
      cases he
      cases hv
      refine ⟨⟨rfl, some ⟨w1.heap.size, 0, none⟩, 1, rfl, fun e => (by cases e), fun a ha k u hu => ?_⟩, ⟨rfl, none, 0, rfl, fun _ => rfl, fun a ha => by cases ha⟩, (by show 1 ≤ _; omega), Nat.zero_le _⟩
      cases ha
      rw [add_zero]
      refine cell_of h1 ?_
      have hu2 : (bytesV [UInt8.ofNat i])[k]? = some u := hu
      rw [byte_small hi] at hu2
      simpa using hu2

set_option maxRecDepth 100000 in
set_option maxHeartbeats 16000000 in
theorem shrinks_walk {w : World} (n : Int) (hn1 : -9223372036854775808 ≤ n) (hn2 : n ≤ 9223372036854775807) (att : Int) (ha1 : -9223372036854775808 ≤ att) (ha2 : att ≤ 9223372036854775807) {p0 : Option Addr} {nd c0 : Nat} {b : Bs} (hx : HasB w (.slice p0 nd c0) b) (hlb : b.length ≤ 140737488355328) (draw : Int) (hd1 : -9223372036854775808 ≤ draw) (hd2 : draw ≤ 9223372036854775807) :
    Calls Tryz.prog 6 #[.int .i64 n, .int .i64 att, .slice p0 nd c0, .int .i64 draw] w (True3 w) := by
  have hl : b.length = nd := by
    obtain ⟨_, _, e⟩ := hx.slice
    simp only [Value.slice.injEq] at e
    exact e.2.1.symm
  by_cases hbig : n < 1 ∨ 60 < n ∨ 500 < nd
  · have Hkn := Lib.hid (known5_calls w)
    clear hx
    by_cases hn : n < 1
    · have hd : decide (n < 1) = true := decide_eq_true hn
      go_enter Tryz.func6, Tryz.ntmps6
      go_wp2_with fail
      refine Hkn.out.mono ?_
      rintro e w1 ⟨rfl, hb⟩
      have Hb := Lib.hid hb
      clear hb
      go_wp2_with fail
      go_ret
      exact ⟨rfl, Hb.out⟩
    · have hd : decide (n < 1) = false := decide_eq_false hn
      by_cases hn3 : 60 < n
      · have hd3 : decide (60 < n) = true := decide_eq_true hn3
        go_enter Tryz.func6, Tryz.ntmps6
        go_wp2_with fail
        refine Hkn.out.mono ?_
        rintro e w1 ⟨rfl, hb⟩
        have Hb := Lib.hid hb
        clear hb
        go_wp2_with fail
        go_ret
        exact ⟨rfl, Hb.out⟩
      · have hd3 : decide (60 < n) = false := decide_eq_false hn3
        have hn4 : 500 < nd := by omega
        have hd4 : decide ((500 : Int) < (nd : Int)) = true := decide_eq_true (by omega)
        go_enter Tryz.func6, Tryz.ntmps6
        go_wp2_with fail
        refine Hkn.out.mono ?_
        rintro e w1 ⟨rfl, hb⟩
        have Hb := Lib.hid hb
        clear hb
        go_wp2_with fail
        go_ret
        exact ⟨rfl, Hb.out⟩
  obtain ⟨N, rfl⟩ : ∃ N : Nat, n = (N : Int) := ⟨n.toNat, by omega⟩
  have hN1 : 1 ≤ N := by omega
  have hN2 : N ≤ 60 := by omega
  have hnd : nd ≤ 500 := by omega
  have e1 : decide ((N : Int) < 1) = false := decide_eq_false (by omega)
  have e2 : decide ((60 : Int) < (N : Int)) = false := decide_eq_false (by omega)
  have e3 : decide ((500 : Int) < (nd : Int)) = false := decide_eq_false (by omega)
  have Hst := Lib.hid (start_calls w 1048576 (by decide) (by decide))
  have Hx := Lib.hid hx
  have Hl := Lib.hid hl
  clear hx hl hbig hn1 hn2
  go_enter Tryz.func6, Tryz.ntmps6
  go_wp2_with fail
  refine Hst.out.mono ?_
  rintro e w1 ⟨p, d, r, rfl, ⟨j, x, hJ, hp⟩, hge⟩
  have Hge := Lib.hid hge
  have HJ0 := Lib.hid hJ
  have Hp0 := Lib.hid hp
  clear hJ hp Hst hge e1 e2 e3
  go_wp2_with fail
  go_loopw [11] (fun i wr => ∃ (m : Nat) (D : DiskM) (u : Nat), m ≤ N ∧ i = .int .i64 ((m + 1 : Nat) : Int) ∧ JouF w wr j d sA D (shM m) (fun k => k = p) ∧ wr.heap[p]? = some (PairO d r (.pointer (some ⟨j, 0, none⟩)) (.pointer (some ⟨x, 0, none⟩)) false) ∧ Kept5 1048576 g012 (shM m) D u ∧ u ≤ 150 + 60 * m) (fun i _ => N + 1 - (intOf i).toNat)
  case atStart => exact ⟨0, _, 150, Nat.zero_le _, rfl, HJ0.out, Hp0.out, keep_start (by rfl), by omega⟩
  case round =>
    clear HJ0 Hp0
    obtain ⟨m, D, u, hm, rfl, hJ, hp, hK, hu⟩ := hrel
    by_cases hlt : m < N
    · have HJ := Lib.hid hJ
      have Hp := Lib.hid hp
      have c2 := cell_of hp (i := 2) rfl
      have hle : decide (((m + 1 : Nat) : Int) ≤ (N : Int)) = true := decide_eq_true (by omega)
      have HJ2 := Lib.hid (show JouF w ((wr.alloc (shByte (m + 1))).alloc (shLit wr (m + 1))) j d sA D (shM m) (fun k => (k = p ∨ k = wr.heap.size) ∨ k = wr.heap.size + 1) from by
        have := (hJ.box (shByte (m + 1))).box (shLit wr (m + 1))
        simpa using this)
      obtain ⟨D2, ha, u2, hK2, hu2⟩ := sh_app hK (show m < 60 by omega) hu
      have Hap := Lib.hid (jappend_calls (es := [shE (m + 1)]) HJ2.out (fun W _ hs => shHas (by omega) (.inl (.inr rfl)) (.inr rfl) hs) (by decide))
      rw [show jouAppend (nm sA) D (shM m) [shE (m + 1)] = ⟨D2, shM (m + 1), 0⟩ from ha] at Hap
      have HK2 := Lib.hid hK2
      have Hu2 := Lib.hid hu2
      clear hJ hp ha hK hu hK2 hu2
      go_wp2_with fail
      refine Hap.out.mono ?_
      rintro e w2 ⟨rfl, hj2, hs2⟩
      have HJ3 := Lib.hid (hj2.less (F' := fun k => k = p) fun k hk => .inl (.inl hk))
      have Hp3 := Lib.hid ((hs2 p (.inl (.inl rfl))).trans (old_block _ (old_block _ Hp.out)))
      clear hj2 hs2 Hap c2
      go_wp2_with fail
      go_roundw
      case rel => exact ⟨m + 1, D2, u2, by omega, by go_num, HJ3.out, Hp3.out, HK2.out, Hu2.out⟩
      case measure => simp [intOf]; omega
    · obtain rfl : m = N := by omega
      obtain ⟨c, hc, hc1⟩ := mask_1023 att
      have hrem : Int.tmod (c : Int) (m : Int) = ((c % m : Nat) : Int) := rfl
      have hQ : c % m < m := Nat.mod_lt c (by omega)
      generalize c % m = Q at *
      obtain ⟨K, hK1⟩ : ∃ K, K = Q + 1 := ⟨_, rfl⟩
      have hadd : IntKind.i64.wrap (1 + (Q : Int)) = (K : Int) := by rw [IntWalk.i64_in _ (by omega)]; omega
      have hK2 : 1 ≤ K := by omega
      have hK3 : K ≤ m := by omega
      have HJ := Lib.hid hJ
      have Hp := Lib.hid hp
      have c2 := cell_of hp (i := 2) rfl
      obtain ⟨D2, u2, hgo, hk2⟩ := sh_go (b := b) hK hN2 hu hK2 hK3 (by have := Hl.out; omega)
      have HK2 := Lib.hid hk2
      have Hco := Lib.hid (jcompact_calls (pd := p0) (n := nd) (cd := c0) (b := b) hJ (by show (shEs m).length ≤ _; rw [shEs_len]; omega) (K : Int) (by omega) Hl.out (by omega) fun W hb _ => Hx.out.below hb)
      rw [show jouCompact (nm sA) D (shM m) (K : Int) b = ⟨D2, shC m K b, 0⟩ from hgo] at Hco
      clear hJ hp hK hk2 hgo hu hK1 hQ
      go_wp2_with fail
      refine Hco.out.mono ?_
      rintro e w2 ⟨rfl, hj2, hs2⟩
      have HJ2 := Lib.hid hj2
      have hp2 := (hs2 p rfl).trans Hp.out
      have Hp2 := Lib.hid hp2
      have d2 := cell_of hp2 (i := 2) rfl
      have Hco2 := Lib.hid (jcompact_calls (pd := p0) (n := nd) (cd := c0) (b := b) hj2 (by show ((shEs m).drop K).length ≤ _; rw [List.length_drop, shEs_len]; omega) (K : Int) (by omega) Hl.out (by omega) fun W hb _ => Hx.out.below hb)
      rw [show jouCompact (nm sA) D2 (shC m K b) (K : Int) b = ⟨D2, shC m K b, 1⟩ from compact_no HK2.out (.inl (Int.le_refl _))] at Hco2
      clear hj2 hs2 hp2 Hco c2
      go_wp2_with fail
      refine Hco2.out.mono ?_
      rintro e w3 ⟨rfl, hj3, hs3⟩
      have HJ3 := Lib.hid hj3
      have hp3 := (hs3 p rfl).trans Hp2.out
      have Hp3 := Lib.hid hp3
      have d3 := cell_of hp3 (i := 2) rfl
      have Hcu := Lib.hid (jcut_calls hj3 (K : Int) (by omega))
      rw [show jouCut (nm sA) D2 (shC m K b) (K : Int) = ⟨D2, shC m K b, 1⟩ from cut_no HK2.out (Int.le_refl _)] at Hcu
      clear hj3 hs3 hp3 Hco2 d2 HJ2 Hp2
      go_wp2_with fail
      refine Hcu.out.mono ?_
      rintro e w4 ⟨rfl, hj4, hs4⟩
      have HJ4 := Lib.hid hj4
      have Hp4 := Lib.hid ((hs4 p rfl).trans Hp3.out)
      clear hj4 hs4 Hcu d3 HJ3 Hp3 hrem hc hc1 hadd
      go_wp2_with fail
      go_loopw [13] (fun i wr => ∃ (q j : Nat) (x : Value) (o : Bool) (D : DiskM) (u : Nat), q ≤ 2 ∧ i = .int .i64 q ∧ JouF w wr j d sA D (shC m K b) (fun k => k = p) ∧ wr.heap[p]? = some (PairO d r (.pointer (some ⟨j, 0, none⟩)) x o) ∧ Kept5 1048576 g012 (shC m K b) D u) (fun i _ => 2 - (intOf i).toNat)
      case atStart => exact ⟨0, j, _, _, D2, u2, by omega, rfl, HJ4.out, Hp4.out, HK2.out⟩
      case round =>
        clear HJ4 Hp4 HK2
        obtain ⟨q, j, x, o, D, u, hq, rfl, hJ, hp, hK⟩ := hrel
        obtain ⟨wo, rfl⟩ : ∃ wo, wo = wr := ⟨_, rfl⟩
        by_cases hlt2 : q < 2
        · have HJ := Lib.hid hJ
          have Hp := Lib.hid hp
          have HK := Lib.hid hK
          have c2 := cell_of hp (i := 2) rfl
          have Hba := Lib.hid (jbase_calls hJ)
          rw [show (((shC m K b).number : Nat) : Int) = (K : Int) from rfl, show (shC m K b).term = (K : Int) from rfl] at Hba
          have hlast := shC_last b hK3
          have hlastT := shC_lastT b hK3
          clear hJ hp hK
          go_wp2_with fail
          refine Hba.out.mono ?_
          rintro e w5 ⟨rfl, q5, rfl⟩
          have d2 : (wo.drewN q5).cell? ⟨p, 2, none⟩ = some (.pointer (some ⟨j, 0, none⟩)) := c2
          have Hla := Lib.hid (jlast_calls (HJ.out.drewN q5))
          rw [hlast, hlastT] at Hla
          clear hlast hlastT
          go_wp2_with fail
          refine Hla.out.mono ?_
          rintro e w6 ⟨rfl, q6, rfl⟩
          have e2 : ((wo.drewN q5).drewN q6).cell? ⟨p, 2, none⟩ = some (.pointer (some ⟨j, 0, none⟩)) := c2
          have Hsn := Lib.hid (jsnap_calls (HJ.out.drewN (q5 + q6)))
          go_wp2_with fail
          refine Hsn.out.mono ?_
          rintro e w7 ⟨v, g, rfl, hv, hg, -, hb7⟩
          have HB7 := Lib.hid (show Below wo.heap.size wo w7 from (⟨rfl, rfl, rfl, Nat.le_refl _, fun _ _ => rfl⟩ : Below wo.heap.size wo (wo.drewN (q5 + q6))).trans hb7)
          have hv : OwnB w7 5 v b := hv
          have hg : OwnI w7 g g012 := hg
          obtain ⟨pv, cv, rfl, -⟩ := own_cap0 hv
          obtain ⟨pg, cg, rfl, -⟩ := own_capI hg
          have Hsm := Lib.hid (same5_calls hv.has (Hx.out.below (HJ.out.bel.trans (HB7.out.mono HJ.out.bel.size))) hlb hlb)
          rw [show (b == b) = true from by simp] at Hsm
          have Hg := Lib.hid (fun n => (show HasI ((w7.drewN n).alloc LitO) (.slice pg 3 cg) g012 from OwnI.has (ownI_far (OwnR.keep hg fun _ _ => rfl : OwnI (w7.drewN n) _ _) (below_one _ LitO))))
          clear hv hg hb7 Hsn c2 d2 e2
          go_wp2_with fail
          refine Hsm.out.mono ?_
          rintro e w8 ⟨rfl, n8, rfl⟩
          have Hin := Lib.hid (ints5_calls (Hg.out n8) (hasI_012 (w7.drewN n8)) (by decide) (by decide))
          rw [show (g012 == g012) = true from rfl] at Hin
          clear Hsm
          go_wp2_with fail
          refine Hin.out.mono ?_
          rintro e w8 ⟨rfl, n9, rfl⟩
          have HBB := Lib.hid (show Below wo.heap.size wo (((w7.drewN n8).alloc LitO).drewN n9) from (HB7.out.trans ((⟨rfl, rfl, rfl, Nat.le_refl _, fun _ _ => rfl⟩ : Below wo.heap.size w7 (w7.drewN n8)))).trans (((below_one (w7.drewN n8) LitO).mono HB7.out.size).trans ⟨rfl, rfl, rfl, Nat.le_refl _, fun _ _ => rfl⟩))
          have HJB := Lib.hid (HJ.out.next HBB.out)
          have HpB := Lib.hid ((HBB.out.block p (HJ.out.flt rfl)).trans Hp.out)
          clear Hin Hg HB7 Hla Hba HJ Hp
          generalize ((w7.drewN n8).alloc LitO).drewN n9 = wB at *
          go_wp2_with fail
          go_loopw [20] (fun i wi => ∃ y : Nat, y ≤ m + 2 ∧ i = .int .i64 y ∧ Below wB.heap.size wB wi) (fun i _ => m + 2 - (intOf i).toNat)
          case atStart => exact ⟨0, by omega, rfl, Below.refl _ _⟩
          case round =>
            obtain ⟨y, hy, rfl, hbel⟩ := hrel
            by_cases hym : y ≤ m + 1
            · have hle : decide ((y : Int) ≤ (m : Int) + 1) = true := decide_eq_true (by omega)
              by_cases hyK : K < y
              · have hyK2 : decide ((K : Int) < (y : Int)) = true := decide_eq_true (by omega)
                by_cases hyM : y ≤ m
                · have hyM2 : decide ((y : Int) ≤ (m : Int)) = true := decide_eq_true (by omega)
                  have Hat := Lib.hid (jat_yes (HJB.out.next hbel) (y : Int) (by omega) (show (((shC m K b).number : Nat) : Int) < (y : Int) by show (K : Int) < y; omega) (shC_at b hyK hyM))
                  have Hbel := Lib.hid hbel
                  have hpw := (hbel.block p (HJB.out.flt rfl)).trans HpB.out
                  have g2 := cell_of hpw (i := 2) rfl
                  clear hbel hpw
                  go_wp2_with fail
                  refine Hat.out.mono ?_
                  rintro e w9 ⟨⟨v1, v2⟩, rfl, hea, -, hb9⟩
                  have HB9 := Lib.hid (Hbel.out.trans (hb9.mono Hbel.out.size))
                  obtain ⟨p1, c1, rfl⟩ : ∃ p1 c1, v1 = .slice p1 1 c1 := by
                    obtain ⟨p1, c1, e1, -⟩ := own_cap0 hea.data
                    exact ⟨p1, c1, e1⟩
                  obtain ⟨p2, c2, rfl⟩ : ∃ p2 c2, v2 = .slice p2 0 c2 := by
                    obtain ⟨p2, c2, e2, -⟩ := own_capI hea.nodes
                    exact ⟨p2, c2, e2⟩
                  have HB10 := Lib.hid (HB9.out.trans ((below_one w9 (.cells #[.int .i64 (y : Int), .int .i64 1, .slice p1 1 c1, .slice p2 0 c2] 50)).mono HB9.out.size))
                  have HB11 := Lib.hid (HB10.out.trans ((below_one _ (shByte y)).mono HB10.out.size))
                  have hda : OwnB w9 5 (.slice p1 1 c1) [UInt8.ofNat y] := hea.data
                  have Hsm := Lib.hid (same5_calls (HasB.below (HasB.below hda.has (below_one w9 (.cells #[.int .i64 (y : Int), .int .i64 1, .slice p1 1 c1, .slice p2 0 c2] 50))) (below_one _ (shByte y))) (shByteHas (w9.alloc (.cells #[.int .i64 (y : Int), .int .i64 1, .slice p1 1 c1, .slice p2 0 c2] 50)) (show y < 256 by omega) (w9.heap.size + 1) (by simp)) (show 1 ≤ 140737488355328 by decide) (show 1 ≤ 140737488355328 by decide))
                  rw [show ([UInt8.ofNat y] == [UInt8.ofNat y]) = true from by simp] at Hsm
                  unfold entV
                  dsimp only [shE]
                  clear hb9 Hat g2 hea hda hv hg hle hym
                  go_wp2_with fail
                  refine Hsm.out.mono ?_
                  rintro e w12 ⟨rfl, n12, rfl⟩
                  have HB12 := Lib.hid (HB11.out.trans (below_dr _ n12))
                  clear Hsm
                  go_wp2_with fail
                  go_roundw
                  case rel => exact ⟨y + 1, by omega, by go_num, HB12.out⟩
                  case measure => simp [intOf]; omega
                · have hyM2 : decide ((y : Int) ≤ (m : Int)) = false := decide_eq_false (by omega)
                  have hin : ¬ ((((shC m K b).number : Nat) : Int) < (y : Int) ∧ (y : Int) ≤ ((shC m K b).last : Int)) := by
                    rw [shC_last b hK3]
                    omega
                  have Hat := Lib.hid (jat_no (HJB.out.next hbel) (y : Int) (by omega) hin)
                  have Hbel := Lib.hid hbel
                  have hpw := (hbel.block p (HJB.out.flt rfl)).trans HpB.out
                  have g2 := cell_of hpw (i := 2) rfl
                  clear hbel hpw
                  go_wp2_with fail
                  refine Hat.out.mono ?_
                  rintro e w9 ⟨rfl, hb9⟩
                  have HB9 := Lib.hid (Hbel.out.trans (hb9.mono Hbel.out.size))
                  have HB10 := Lib.hid (HB9.out.trans ((below_one w9 (.cells #[.int .i64 0, .int .i64 0, .slice none 0 0, .slice none 0 0] 50)).mono HB9.out.size))
                  clear hb9 Hat g2
                  go_wp2_with fail
                  go_roundw
                  case rel => exact ⟨y + 1, by omega, by go_num, HB10.out⟩
                  case measure => simp [intOf]; omega
              · have hyK2 : decide ((K : Int) < (y : Int)) = false := decide_eq_false (by omega)
                have hin : ¬ ((((shC m K b).number : Nat) : Int) < (y : Int) ∧ (y : Int) ≤ ((shC m K b).last : Int)) := fun h => by
                  have h1 : (K : Int) < (y : Int) := h.1
                  omega
                have Hat := Lib.hid (jat_no (HJB.out.next hbel) (y : Int) (by omega) hin)
                have Hbel := Lib.hid hbel
                have hpw := (hbel.block p (HJB.out.flt rfl)).trans HpB.out
                have g2 := cell_of hpw (i := 2) rfl
                clear hbel hpw
                go_wp2_with fail
                refine Hat.out.mono ?_
                rintro e w9 ⟨rfl, hb9⟩
                have HB9 := Lib.hid (Hbel.out.trans (hb9.mono Hbel.out.size))
                have HB10 := Lib.hid (HB9.out.trans ((below_one w9 (.cells #[.int .i64 0, .int .i64 0, .slice none 0 0, .slice none 0 0] 50)).mono HB9.out.size))
                clear hb9 Hat g2
                go_wp2_with fail
                go_roundw
                case rel => exact ⟨y + 1, by omega, by go_num, HB10.out⟩
                case measure => simp [intOf]; omega
            · have hle : decide ((y : Int) ≤ (m : Int) + 1) = false := decide_eq_false (by omega)
              have HJ2 := Lib.hid (HJB.out.next hbel)
              have hp2 := (hbel.block p (HJB.out.flt rfl)).trans HpB.out
              have Hp2 := Lib.hid hp2
              have d0 := cell_of hp2 (i := 0) rfl
              have Hcr := Lib.hid (jl_crash HJ2.out HK.out draw hd1 hd2)
              clear hp2 hbel
              go_wp2_with fail
              refine Hcr.out.mono ?_
              rintro e w3 ⟨rfl, hj3, hs3⟩
              have HJ3 := Lib.hid hj3
              have hp3 := (hs3 p rfl).trans Hp2.out
              have Hp3 := Lib.hid (old_block LitO hp3)
              have e0 := cell_of hp3 (i := 0) rfl
              have Hop := Lib.hid (jl_open hj3 HK.out (by decide))
              clear hj3 hs3 hp3 Hcr d0
              go_wp2_with fail
              refine Hop.out.mono ?_
              rintro e w4 ⟨j4, rfl, hj4, hs4⟩
              have hp4 := (hs4 p rfl).trans ((alloc_was w3 LitO (HJ3.out.flt rfl)).symm.trans Hp3.out)
              have f2 := frozen_of hp4 2
              obtain ⟨hj5, hp5⟩ := jl_setj hj4 hp4 Hge.out (.pointer (some ⟨j4, 0, none⟩))
              have HJ5 := Lib.hid hj5
              have Hp5 := Lib.hid hp5
              have h2 := cell_of hp4 (i := 2) rfl
              clear hj4 hs4 hp4 hj5 hp5 Hop e0
              go_wp2_with fail
              go_roundw
              case rel => exact ⟨q + 1, j4, _, _, _, _, by omega, by go_num, HJ5.out, Hp5.out, HK.out⟩
              case measure => simp [intOf]; omega
        · have Hkn := Lib.hid (known5_calls wo)
          have HB := Lib.hid hJ.bel
          clear hJ hp hK
          go_wp2_with fail
          refine Hkn.out.mono ?_
          rintro e w2 ⟨rfl, hb⟩
          have Hb := Lib.hid (HB.out.trans (hb.mono HB.out.size))
          clear hb
          go_wp2_with fail
          go_ret
          exact ⟨rfl, Hb.out⟩
end Go.Proofs.YtapfnehdgailmaaGreat
