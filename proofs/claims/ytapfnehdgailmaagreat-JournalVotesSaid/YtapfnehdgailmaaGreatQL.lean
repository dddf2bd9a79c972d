/- The document's Whole (satrapyref4): a file is made to hold just these bytes. The document's journal: anew, of no entries. (Printed by mkrj4.py.) The document's journal: Group. The document's journal: Open, over an empty disk. satrapylaw5: pair.open, start. The contracts of satrapylaw5.same and satrapylaw5.texts. satrapylaw5.known: the walk. What the laws of the journal have in common: masks, a crash, an opening beside. JournalVotes: what SetTerm does (plain), and the walk. -/
import Derived.Test.YtapfnehdgailmaaGreatQC
import Derived.Test.YtapfnehdgailmaaGreatQD
import Derived.Test.YtapfnehdgailmaaGreatQE
import Derived.Test.YtapfnehdgailmaaGreatQG
import Derived.Test.YtapfnehdgailmaaGreatQH
import Derived.Test.YtapfnehdgailmaaGreatQI
import Derived.Test.YtapfnehdgailmaaGreatQJ
import Derived.Test.YtapfnehdgailmaaGreatQK
namespace Go.Proofs.YtapfnehdgailmaaGreat
open Go.RowKit Go.Sat Go.Maps

section
variable {w : World} {r : Nat} {v : Value} {L : List RFile} {own : Nat → Prop} {D : DiskM}

set_option maxRecDepth 100000 in
set_option maxHeartbeats 4000000 in
theorem rwhole_calls (h : RefIn w r v L own D) (s : ByteArray) (hs : s.size ≤ 9223372036854775000) {pb : Option Addr} {m cb : Nat} {l : Bs} (hl : HasB w (.slice pb m cb) l) (hlm : l.length ≤ 140737488355328) (hF : ∀ k, (Value.slice pb m cb).ownBlock = some k → ¬ own k ∧ k < w.heap.size) :
    Calls Tryz.prog 168 #[.pointer (some ⟨r, 0, none⟩), .string s, .slice pb m cb] w (RStep w r own (D.save1 (nm s) l)) := by
  have hsh : (s ++ (⟨#[126]⟩ : ByteArray)).size = s.size + 1 := by simp [ByteArray.size_append]; rfl
  have hst : RSt w w r own D (fun k => (Value.slice pb m cb).ownBlock = some k) := RSt.start h (Below.refl _ _) hF
  have Hth := Lib.hid (rst_has hst (s ++ (⟨#[126]⟩ : ByteArray)))
  rw [nm_shadow] at Hth
  have Hl := Lib.hid hl
  have Hlm := Lib.hid hlm
  clear hst h hl hlm hF
  cases hg : Sat.get (shadowN (nm s)) D.files with
  | none =>
    rw [hg] at Hth
    obtain ⟨D0, h0, hD⟩ : ∃ D0, D.save0 (nm s) = (D0, 0) ∧ D0 = D := ⟨D, by unfold DiskM.save0; rw [hg]; rfl, rfl⟩
    go_enter Tryz.func168, Tryz.ntmps168
    go_wp2_with fail
    refine Hth.out.mono ?_
    rintro e w3 ⟨rfl, hst3, hs3⟩
    rw [← hD] at hst3
    have Hst := Lib.hid hst3
    have Hv := Lib.hid (Hl.out.same hs3)
    clear hst3 hs3 Hth hD hg
    have Hap := Lib.hid (rst_step Hst.out (Re := D0.append (shadowN (nm s)) l) fun own v L hR hn => by
      have := rappend_calls hR (s ++ (⟨#[126]⟩ : ByteArray)) (by rw [hsh]; omega) (Hv.out) Hlm.out (fun _ k hk ho => hn k ho hk)
      rwa [nm_shadow] at this)
    cases h1 : DiskM.append D0 (shadowN (nm s)) l with
    | mk D1 e1 =>
      rw [h1] at Hap
      by_cases he1 : e1 = 0
      · subst he1
        go_wp2_with fail
        refine Hap.out.mono ?_
        rintro e w5 ⟨rfl, hst5, -⟩
        have Hst5 := Lib.hid (show RSt w w5 r own D1 (fun k => (Value.slice pb m cb).ownBlock = some k) from hst5)
        have Hsy := Lib.hid (rst_step Hst5.out (Re := D1.sync [shadowN (nm s)]) fun own v L hR hn => by
          have := rsync_calls hR (s ++ (⟨#[126]⟩ : ByteArray)) (by rw [hsh]; omega)
          rwa [nm_shadow] at this)
        clear hst5 Hap
        cases h2 : DiskM.sync D1 [shadowN (nm s)] with
        | mk D2 e2 =>
          rw [h2] at Hsy
          by_cases he2 : e2 = 0
          · subst he2
            have Hend := Lib.hid (save1_ren h0 h1 h2)
            clear h0 h1 h2
            go_wp2_with fail
            refine Hsy.out.mono ?_
            rintro e w6 ⟨rfl, hst6, -⟩
            have Hst6 := Lib.hid (show RSt w w6 r own D2 (fun k => (Value.slice pb m cb).ownBlock = some k) from hst6)
            have Hrn := Lib.hid (rst_step Hst6.out (Re := D2.rename (shadowN (nm s)) (nm s)) fun own v L hR hn => by
              have := rren_calls hR (s ++ (⟨#[126]⟩ : ByteArray)) s (by rw [hsh]; omega) (by omega)
              rwa [nm_shadow] at this)
            clear hst6 Hsy
            go_wp2_with fail
            refine Hrn.out.mono ?_
            rintro e w7 ⟨rfl, hst7, -⟩
            have HE := Lib.hid (show RStep w r own (D.save1 (nm s) l) (.returned (.int .i64 ((D2.rename (shadowN (nm s)) (nm s)).2 : Int))) w7 from by rw [Hend.out]; exact hst7.stop _)
            clear hst7 Hrn
            generalize (D2.rename (shadowN (nm s)) (nm s)).2 = e3 at *
            go_wp2_with fail
            go_ret
            exact HE.out
          · have hne : ((e2 : Int) == 0) = false := by simp; omega
            have Hend := Lib.hid (save1_syn h0 h1 h2 he2)
            clear h0 h1 h2 he2
            go_wp2_with fail
            refine Hsy.out.mono ?_
            rintro e w6 ⟨rfl, hst6, -⟩
            have HE := Lib.hid (show RStep w r own (D.save1 (nm s) l) (.returned (.int .i64 (e2 : Int))) w6 from by rw [Hend.out]; exact hst6.stop _)
            clear hst6 Hsy
            go_wp2_with fail
            go_ret
            exact HE.out
      · have hne : ((e1 : Int) == 0) = false := by simp; omega
        have Hend := Lib.hid (save1_app h0 h1 he1)
        clear h0 h1 he1
        go_wp2_with fail
        refine Hap.out.mono ?_
        rintro e w5 ⟨rfl, hst5, -⟩
        have HE := Lib.hid (show RStep w r own (D.save1 (nm s) l) (.returned (.int .i64 (e1 : Int))) w5 from by rw [Hend.out]; exact hst5.stop _)
        clear hst5 Hap
        go_wp2_with fail
        go_ret
        exact HE.out
  | some f =>
    rw [hg] at Hth
    cases h0 : D.save0 (nm s) with
    | mk D0 e0 =>
      have hz0 : DiskM.remove D [shadowN (nm s)] = (D0, e0) := by rw [← h0]; unfold DiskM.save0; rw [hg]; rfl
      have Hz0 := Lib.hid hz0
      clear hz0 hg
      go_enter Tryz.func168, Tryz.ntmps168
      go_wp2_with fail
      refine Hth.out.mono ?_
      rintro e w3 ⟨rfl, hst3, hs3⟩
      have Hrm := Lib.hid (rst_step hst3 (Re := D.remove [shadowN (nm s)]) fun own v L hR hn => by
        have := rrem_calls hR (s ++ (⟨#[126]⟩ : ByteArray)) (by rw [hsh]; omega)
        rwa [nm_shadow] at this)
      rw [Hz0.out] at Hrm
      have Hv3 := Lib.hid (Hl.out.same hs3)
      clear hst3 hs3 Hth
      by_cases he0 : e0 = 0
      · subst he0
        go_wp2_with fail
        refine Hrm.out.mono ?_
        rintro e w4 ⟨rfl, hst4, hs4⟩
        have Hst := Lib.hid (show RSt w w4 r own D0 (fun k => (Value.slice pb m cb).ownBlock = some k) from hst4)
        have Hv := Lib.hid (Hv3.out.same hs4)
        clear hst4 hs4 Hv3 Hrm Hz0
        have Hap := Lib.hid (rst_step Hst.out (Re := D0.append (shadowN (nm s)) l) fun own v L hR hn => by
          have := rappend_calls hR (s ++ (⟨#[126]⟩ : ByteArray)) (by rw [hsh]; omega) (Hv.out) Hlm.out (fun _ k hk ho => hn k ho hk)
          rwa [nm_shadow] at this)
        cases h1 : DiskM.append D0 (shadowN (nm s)) l with
        | mk D1 e1 =>
          rw [h1] at Hap
          by_cases he1 : e1 = 0
          · subst he1
            go_wp2_with fail
            refine Hap.out.mono ?_
            rintro e w5 ⟨rfl, hst5, -⟩
            have Hst5 := Lib.hid (show RSt w w5 r own D1 (fun k => (Value.slice pb m cb).ownBlock = some k) from hst5)
            have Hsy := Lib.hid (rst_step Hst5.out (Re := D1.sync [shadowN (nm s)]) fun own v L hR hn => by
              have := rsync_calls hR (s ++ (⟨#[126]⟩ : ByteArray)) (by rw [hsh]; omega)
              rwa [nm_shadow] at this)
            clear hst5 Hap
            cases h2 : DiskM.sync D1 [shadowN (nm s)] with
            | mk D2 e2 =>
              rw [h2] at Hsy
              by_cases he2 : e2 = 0
              · subst he2
                have Hend := Lib.hid (save1_ren h0 h1 h2)
                clear h0 h1 h2
                go_wp2_with fail
                refine Hsy.out.mono ?_
                rintro e w6 ⟨rfl, hst6, -⟩
                have Hst6 := Lib.hid (show RSt w w6 r own D2 (fun k => (Value.slice pb m cb).ownBlock = some k) from hst6)
                have Hrn := Lib.hid (rst_step Hst6.out (Re := D2.rename (shadowN (nm s)) (nm s)) fun own v L hR hn => by
                  have := rren_calls hR (s ++ (⟨#[126]⟩ : ByteArray)) s (by rw [hsh]; omega) (by omega)
                  rwa [nm_shadow] at this)
                clear hst6 Hsy
                go_wp2_with fail
                refine Hrn.out.mono ?_
                rintro e w7 ⟨rfl, hst7, -⟩
                have HE := Lib.hid (show RStep w r own (D.save1 (nm s) l) (.returned (.int .i64 ((D2.rename (shadowN (nm s)) (nm s)).2 : Int))) w7 from by rw [Hend.out]; exact hst7.stop _)
                clear hst7 Hrn
                generalize (D2.rename (shadowN (nm s)) (nm s)).2 = e3 at *
                go_wp2_with fail
                go_ret
                exact HE.out
              · have hne : ((e2 : Int) == 0) = false := by simp; omega
                have Hend := Lib.hid (save1_syn h0 h1 h2 he2)
                clear h0 h1 h2 he2
                go_wp2_with fail
                refine Hsy.out.mono ?_
                rintro e w6 ⟨rfl, hst6, -⟩
                have HE := Lib.hid (show RStep w r own (D.save1 (nm s) l) (.returned (.int .i64 (e2 : Int))) w6 from by rw [Hend.out]; exact hst6.stop _)
                clear hst6 Hsy
                go_wp2_with fail
                go_ret
                exact HE.out
          · have hne : ((e1 : Int) == 0) = false := by simp; omega
            have Hend := Lib.hid (save1_app h0 h1 he1)
            clear h0 h1 he1
            go_wp2_with fail
            refine Hap.out.mono ?_
            rintro e w5 ⟨rfl, hst5, -⟩
            have HE := Lib.hid (show RStep w r own (D.save1 (nm s) l) (.returned (.int .i64 (e1 : Int))) w5 from by rw [Hend.out]; exact hst5.stop _)
            clear hst5 Hap
            go_wp2_with fail
            go_ret
            exact HE.out
      · have hne : ((e0 : Int) != 0) = true := by simp; omega
        have Hend := Lib.hid (save1_rem (b := l) h0 he0)
        clear h0 he0
        go_wp2_with fail
        refine Hrm.out.mono ?_
        rintro e w4 ⟨rfl, hst4, -⟩
        have HE := Lib.hid (show RStep w r own (D.save1 (nm s) l) (.returned (.int .i64 (e0 : Int))) w4 from by rw [Hend.out]; exact hst4.stop _)
        clear hst4 Hrm
        go_wp2_with fail
        go_ret
        exact HE.out
end
end Go.Proofs.YtapfnehdgailmaaGreat

namespace Go.Proofs.YtapfnehdgailmaaGreat
open Go.RowKit Go.Sat Go.Maps

set_option maxRecDepth 100000 in
set_option maxHeartbeats 8000000 in
theorem ranew_calls {w : World} {j r : Nat} {v : Value} {L : List RFile} {own : Nat → Prop} {D : DiskM} (h : RefIn w r v L own D) {n t : Int} {pre : ByteArray} {now vote : Int} {dv : Value} {dead : Bool} {p : Option Addr} {m c : Nat} {g : List Int} (hc : w.heap[j]? = some (RJC r n t (.slice p m c) pre now vote dv (.slice none 0 0) dead)) (hj : ¬ own j) (hg : HasI w (.slice p m c) g) (hz : ∀ z ∈ g, -9223372036854775808 ≤ z ∧ z ≤ 9223372036854775807) (hl : g.length ≤ 1000) (hn : -9223372036854775808 ≤ n ∧ n ≤ 9223372036854775807) (ht : -9223372036854775808 ≤ t ∧ t ≤ 9223372036854775807) (hnow : -9223372036854775808 ≤ now ∧ now ≤ 9223372036854775807) (hvote : -9223372036854775808 ≤ vote ∧ vote ≤ 1099511627776) (hps : pre.size ≤ 20) :
    Calls Tryz.prog 93 #[.pointer (some ⟨j, 0, none⟩)] w (RStep w r own (D.save1 (logN (nm pre)) (frameN (fstB0 n t g) ++ frameN (trmB now vote)))) := by
  obtain ⟨i0, hi, hz0, hz1, hz2⟩ := info_parts (show (Tryz.prog.info? 5).map (fun i => (i.zero, i.size, i.bytes)) = some (some (.int .u8 0), 1, 1) by kernel_rfl)
  have hsl : (sLog pre).size = pre.size + 4 := size_log pre
  have H := Lib.hid h
  have Hj := Lib.hid hj
  have Hl1 := Lib.hid (show (frameN (fstB0 n t g)).length ≤ 100000 from by
    have h1 := grpB_len0 g hl
    have h2 := numI_len n
    have h3 := numI_len t
    have h4 : (fstB0 n t g).length ≤ 9100 := by unfold fstB0; simp only [List.length_cons, List.length_append]; omega
    have h5 := frame_len (fstB0 n t g)
    omega)
  have Hl2 := Lib.hid (show (frameN (trmB now vote)).length ≤ 100000 from by
    have h4 := trmB_len now vote
    have h5 := frame_len (trmB now vote)
    omega)
  have Hfi := Lib.hid (fun W (hb : Below w.heap.size w W) (hW : W.heap[j]? = some (RJC r n t (.slice p m c) pre now vote dv (.slice none 0 0) dead)) => rfirst_calls (w := W) hW (Holds.chg hg (Chg.of_below hb) fun _ _ => id) hz hl hn ht)
  have Htr := Lib.hid (fun W => rterms_calls W now vote hnow hvote)
  have Hjl := Lib.hid (lt_of_block hc)
  have Hc := Lib.hid hc
  clear h hj hg hz hl hn ht hnow hvote
  go_enter Tryz.func93, Tryz.ntmps93
  go_wp2_with fail
  refine ord_start (fun w' : World => w'.heap[j]? = some (RJC r n t (.slice p m c) pre now vote dv (.slice none 0 0) dead)) (n := 13) (by kernel_rfl) rfl (hc) (fun hHeld => ?_)
  have HB1 := Lib.hid (below_drew w)
  clear hc
  generalize w.drew = W1 at *
  refine ord_take 0 (v := ?v1x0) rfl (by kernel_rfl) (by kernel_rfl) (by kernel_rfl) (fun _ _ _ h => h) (by rfl) (by assumption) ?y1x0 ?_
  case y1x0 => (intro w hSw; have q5 := cell_of hSw (i := 5) rfl; have q6 := cell_of hSw (i := 6) rfl; go_simp; try with_reducible rfl)
  simp only [Act.put, List.setIfInBounds_toArray, List.set_cons_zero, List.set_cons_succ]
  refine ord_take 2 (v := ?v1x2) rfl (by kernel_rfl) (by kernel_rfl) (by kernel_rfl) (fun _ _ _ h => h) (by rfl) (by assumption) ?y1x2 ?_
  case y1x2 => (intro w hSw; have q5 := cell_of hSw (i := 5) rfl; have q6 := cell_of hSw (i := 6) rfl; go_simp; try with_reducible rfl)
  simp only [Act.put, List.setIfInBounds_toArray, List.set_cons_zero, List.set_cons_succ]
  refine ord_take 3 (v := ?v1x3) rfl (by kernel_rfl) (by kernel_rfl) (by kernel_rfl) (fun _ _ _ h => h) (by rfl) (by assumption) ?y1x3 ?_
  case y1x3 => (intro w hSw; have q5 := cell_of hSw (i := 5) rfl; have q6 := cell_of hSw (i := 6) rfl; go_simp; try with_reducible rfl)
  simp only [Act.put, List.setIfInBounds_toArray, List.set_cons_zero, List.set_cons_succ]
  refine ord_take 4 (v := ?v1x4) rfl (by kernel_rfl) (by kernel_rfl) (by kernel_rfl) (fun _ _ _ h => h) (by rfl) (by assumption) ?y1x4 ?_
  case y1x4 => (intro w hSw; have q5 := cell_of hSw (i := 5) rfl; have q6 := cell_of hSw (i := 6) rfl; go_simp; try with_reducible rfl)
  simp only [Act.put, List.setIfInBounds_toArray, List.set_cons_zero, List.set_cons_succ]
  refine ord_take 5 (v := ?v1x5) rfl (by kernel_rfl) (by kernel_rfl) (by kernel_rfl) (fun _ _ _ h => h) (by rfl) (by assumption) ?y1x5 ?_
  case y1x5 => (intro w hSw; have q5 := cell_of hSw (i := 5) rfl; have q6 := cell_of hSw (i := 6) rfl; go_simp; try with_reducible rfl)
  simp only [Act.put, List.setIfInBounds_toArray, List.set_cons_zero, List.set_cons_succ]
  refine ord_take 6 (v := ?v1x6) rfl (by kernel_rfl) (by kernel_rfl) (by kernel_rfl) (fun _ _ _ h => h) (by rfl) (by assumption) ?y1x6 ?_
  case y1x6 => (intro w hSw; have q5 := cell_of hSw (i := 5) rfl; have q6 := cell_of hSw (i := 6) rfl; go_simp; try with_reducible rfl)
  simp only [Act.put, List.setIfInBounds_toArray, List.set_cons_zero, List.set_cons_succ]
  refine ord_take 7 (v := ?v1x7) rfl (by kernel_rfl) (by kernel_rfl) (by kernel_rfl) (fun _ _ _ h => h) (by rfl) (by assumption) ?y1x7 ?_
  case y1x7 => (intro w hSw; have q5 := cell_of hSw (i := 5) rfl; have q6 := cell_of hSw (i := 6) rfl; go_simp; try with_reducible rfl)
  simp only [Act.put, List.setIfInBounds_toArray, List.set_cons_zero, List.set_cons_succ]
  refine ord_take 8 (v := ?v1x8) rfl (by kernel_rfl) (by kernel_rfl) (by kernel_rfl) (fun _ _ _ h => h) (by rfl) (by assumption) ?y1x8 ?_
  case y1x8 => (intro w hSw; have q5 := cell_of hSw (i := 5) rfl; have q6 := cell_of hSw (i := 6) rfl; go_simp; try with_reducible rfl)
  simp only [Act.put, List.setIfInBounds_toArray, List.set_cons_zero, List.set_cons_succ]
  refine ord_take 9 (v := ?v1x9) rfl (by kernel_rfl) (by kernel_rfl) (by kernel_rfl) (fun _ _ _ h => h) (by rfl) (by assumption) ?y1x9 ?_
  case y1x9 => (intro w hSw; have q5 := cell_of hSw (i := 5) rfl; have q6 := cell_of hSw (i := 6) rfl; go_simp; try with_reducible rfl)
  simp only [Act.put, List.setIfInBounds_toArray, List.set_cons_zero, List.set_cons_succ]
  refine ord_one 1 rfl (by kernel_rfl) (by rfl) (fun K hK => ?_)
  have Hf1 := Lib.hid (Hfi.out W1 HB1.out hHeld)
  go_wp2_with fail
  refine Hf1.out.mono ?_
  rintro e w2 ⟨u1, rfl, hu1, hn1, hb2⟩
  have Hj2 := Lib.hid ((hb2.block _ (lt_of_block hHeld)).trans hHeld)
  have HR2 := Lib.hid (show RowB w w2 u1 (frameN (fstB0 n t g)) from ⟨hu1, fun k hk => Nat.le_trans HB1.out.size (hn1 k hk), HB1.out.trans (hb2.mono HB1.out.size)⟩)
  obtain ⟨p1, c1, rfl, -⟩ := own_cap0 hu1
  clear hu1 hn1 hb2 Hf1
  generalize hL1 : (frameN (fstB0 n t g)).length = m1 at *
  have HL1 := Lib.hid hL1
  clear hL1
  go_wp2_with fail
  refine hK.out _ _ (Hj2.out) (fun hHeld => ?_)
  clear hK
  try simp only [Act.put, List.setIfInBounds_toArray, List.set_cons_zero, List.set_cons_succ]
  refine ord_one 10 rfl (by kernel_rfl) (by rfl) (fun K hK => ?_)
  have Ht1 := Lib.hid (Htr.out w2)
  go_wp2_with fail
  refine Ht1.out.mono ?_
  rintro e w3 ⟨u2, rfl, hu2, hn2, hb3⟩
  have Hj3 := Lib.hid ((hb3.block _ (lt_of_block hHeld)).trans hHeld)
  have HR3 := Lib.hid (HR2.out.next hb3)
  have HX3 := Lib.hid (OwnB.has hu2)
  obtain ⟨p2, c2, rfl, -⟩ := own_cap0 hu2
  clear hu2 hn2 hb3 Ht1
  generalize hL2 : (frameN (trmB now vote)).length = m2 at *
  have HL2 := Lib.hid hL2
  clear hL2
  go_wp2_with fail
  refine hK.out _ _ (Hj3.out) (fun hHeld => ?_)
  clear hK
  try simp only [Act.put, List.setIfInBounds_toArray, List.set_cons_zero, List.set_cons_succ]
  have hm1 := Hl1.out
  have hm2 := Hl2.out
  have Hrow := Lib.hid (show OwnR w3 5 1 (.slice p1 m1 c1) m1 (bytesV (frameN (fstB0 n t g))) by have := HR3.out.own; unfold OwnB at this; rwa [HL1.out] at this)
  have Hxx := Lib.hid (show Holds w3 1 (.slice p2 m2 c2) m2 (bytesV (frameN (trmB now vote))) by have := HX3.out; unfold HasB at this; rwa [HL2.out] at this)
  refine ord_one 11 rfl (by kernel_rfl) (by rfl) (fun K hK => ?_)
  refine wp_app (.tmp 6) (.tmp 15) 22 rfl 5 i0 (.int .u8 0) 1 1 Tryz.underlying22 hi hz0 hz1 hz2 rfl (by decide) (.slice p1 m1 c1) m1 _ rfl Hrow.out (.slice p2 m2 c2) m2 _ rfl Hxx.out (bytesV_one _) (by unfold maxLen; omega) (by omega) ?_
  intro v4 w4 hown4 hgrow4 hloc4
  have HR4 := Lib.hid (RowB.grown (x := frameN (trmB now vote)) HR3.out (by rw [HL1.out, HL2.out]; exact hown4) hgrow4 hloc4)
  have Hj4 := Lib.hid ((HR4.out.bel.block j Hjl.out).trans Hc.out)
  obtain ⟨p4, c4, rfl⟩ := OwnR.shape hown4
  clear hown4 hgrow4 hloc4
  refine hK.out _ _ (Hj4.out) (fun hHeld => ?_)
  clear hK
  try simp only [Act.put, List.setIfInBounds_toArray, List.set_cons_zero, List.set_cons_succ]
  refine ord_take 12 (v := ?v1x12) rfl (by kernel_rfl) (by kernel_rfl) (by kernel_rfl) (fun _ _ _ h => h) (by rfl) (by assumption) ?y1x12 ?_
  case y1x12 => (intro w hSw; (try dsimp only at hSw); go_simp; try with_reducible rfl)
  simp only [Act.put, List.setIfInBounds_toArray, List.set_cons_zero, List.set_cons_succ]
  refine wpAnyH_done (by kernel_rfl) ?_ _
  have d8 := cell_of Hj4.out (i := 8) rfl
  clear Htr Hfi
  go_wp2_with fail
  go_loopw [3, 4] (fun b i wr => b = .slice p4 (m1 + m2) c4 ∧ i = .int .i64 0 ∧ wr = w4) (fun _ _ _ => 0)
  case atStart => exact ⟨rfl, rfl, rfl⟩
  case round =>
    obtain ⟨rfl, rfl, rfl⟩ := hrel
    have hjr := Hj4.out
    go_wp2_with fail
    clear d8
    refine ord_start (fun w' : World => w'.heap[j]? = some (RJC r n t (.slice p m c) pre now vote dv (.slice none 0 0) dead)) (n := 12) (by kernel_rfl) rfl (hjr) (fun hHeld => ?_)
    have HBd := Lib.hid (show Below w.heap.size w wr.drew from HR4.out.bel.trans ((below_drew wr).mono HR4.out.bel.size))
    have HX := Lib.hid (show HasB wr.drew (.slice p4 (m1 + m2) c4) (frameN (fstB0 n t g) ++ frameN (trmB now vote)) from (HR4.out.next (below_drew wr)).own.has)
    have HN4 := Lib.hid (show ∀ k, (Value.slice p4 (m1 + m2) c4).ownBlock = some k → w.heap.size ≤ k ∧ k < wr.drew.heap.size from fun k hk => ⟨HR4.out.new k hk, OwnR.lt (HR4.out.next (below_drew wr)).own hk⟩)
    clear hjr
    generalize wr.drew = W5 at *
    refine ord_take 0 (v := ?v2x0) rfl (by kernel_rfl) (by kernel_rfl) (by kernel_rfl) (fun _ _ _ h => h) (by rfl) (by assumption) ?y2x0 ?_
    case y2x0 => (intro w hSw; have q3 := cell_of hSw (i := 3) rfl; have q4 := cell_of hSw (i := 4) rfl; go_simp; try with_reducible rfl)
    simp only [Act.put, List.setIfInBounds_toArray, List.set_cons_zero, List.set_cons_succ]
    refine ord_take 1 (v := ?v2x1) rfl (by kernel_rfl) (by kernel_rfl) (by kernel_rfl) (fun _ _ _ h => h) (by rfl) (by assumption) ?y2x1 ?_
    case y2x1 => (intro w hSw; have q3 := cell_of hSw (i := 3) rfl; have q4 := cell_of hSw (i := 4) rfl; go_simp; try with_reducible rfl)
    simp only [Act.put, List.setIfInBounds_toArray, List.set_cons_zero, List.set_cons_succ]
    refine ord_take 2 (v := ?v2x2) rfl (by kernel_rfl) (by kernel_rfl) (by kernel_rfl) (fun _ _ _ h => h) (by rfl) (by assumption) ?y2x2 ?_
    case y2x2 => (intro w hSw; have q3 := cell_of hSw (i := 3) rfl; have q4 := cell_of hSw (i := 4) rfl; go_simp; try with_reducible rfl)
    simp only [Act.put, List.setIfInBounds_toArray, List.set_cons_zero, List.set_cons_succ]
    refine ord_take 3 (v := ?v2x3) rfl (by kernel_rfl) (by kernel_rfl) (by kernel_rfl) (fun _ _ _ h => h) (by rfl) (by assumption) ?y2x3 ?_
    case y2x3 => (intro w hSw; have q3 := cell_of hSw (i := 3) rfl; have q4 := cell_of hSw (i := 4) rfl; go_simp; try with_reducible rfl)
    simp only [Act.put, List.setIfInBounds_toArray, List.set_cons_zero, List.set_cons_succ]
    refine ord_take 4 (v := ?v2x4) rfl (by kernel_rfl) (by kernel_rfl) (by kernel_rfl) (fun _ _ _ h => h) (by rfl) (by assumption) ?y2x4 ?_
    case y2x4 => (intro w hSw; have q3 := cell_of hSw (i := 3) rfl; have q4 := cell_of hSw (i := 4) rfl; go_simp; try with_reducible rfl)
    simp only [Act.put, List.setIfInBounds_toArray, List.set_cons_zero, List.set_cons_succ]
    refine ord_take 5 (v := ?v2x5) rfl (by kernel_rfl) (by kernel_rfl) (by kernel_rfl) (fun _ _ _ h => h) (by rfl) (by assumption) ?y2x5 ?_
    case y2x5 => (intro w hSw; have q3 := cell_of hSw (i := 3) rfl; have q4 := cell_of hSw (i := 4) rfl; go_simp; try with_reducible rfl)
    simp only [Act.put, List.setIfInBounds_toArray, List.set_cons_zero, List.set_cons_succ]
    refine ord_take 6 (v := ?v2x6) rfl (by kernel_rfl) (by kernel_rfl) (by kernel_rfl) (fun _ _ _ h => h) (by rfl) (by assumption) ?y2x6 ?_
    case y2x6 => (intro w hSw; have q3 := cell_of hSw (i := 3) rfl; have q4 := cell_of hSw (i := 4) rfl; go_simp; try with_reducible rfl)
    simp only [Act.put, List.setIfInBounds_toArray, List.set_cons_zero, List.set_cons_succ]
    refine ord_take 7 (v := ?v2x7) rfl (by kernel_rfl) (by kernel_rfl) (by kernel_rfl) (fun _ _ _ h => h) (by rfl) (by assumption) ?y2x7 ?_
    case y2x7 => (intro w hSw; have q3 := cell_of hSw (i := 3) rfl; have q4 := cell_of hSw (i := 4) rfl; go_simp; try with_reducible rfl)
    simp only [Act.put, List.setIfInBounds_toArray, List.set_cons_zero, List.set_cons_succ]
    refine ord_take 8 (v := ?v2x8) rfl (by kernel_rfl) (by kernel_rfl) (by kernel_rfl) (fun _ _ _ h => h) (by rfl) (by assumption) ?y2x8 ?_
    case y2x8 => (intro w hSw; (try dsimp only at hSw); go_simp; rw [if_neg (by omega)]; try with_reducible rfl)
    simp only [Act.put, List.setIfInBounds_toArray, List.set_cons_zero, List.set_cons_succ]
    refine ord_take 9 (v := ?v2x9) rfl (by kernel_rfl) (by kernel_rfl) (by kernel_rfl) (fun _ _ _ h => h) (by rfl) (by assumption) ?y2x9 ?_
    case y2x9 => (intro w hSw; (try dsimp only at hSw); go_simp; try with_reducible rfl)
    simp only [Act.put, List.setIfInBounds_toArray, List.set_cons_zero, List.set_cons_succ]
    refine ord_one 10 rfl (by kernel_rfl) (by rfl) (fun K hK => ?_)
    have Hwh := Lib.hid (rwhole_calls (H.out.below HBd.out) (sLog pre) (by rw [hsl]; omega) HX.out (by rw [List.length_append]; have h1 := Hl1.out; have h2 := Hl2.out; have h3 := HL1.out; have h4 := HL2.out; omega) fun k hk => ⟨fun ho => by have h1 := H.out.olt k ho; have h2 := (HN4.out k hk).1; omega, (HN4.out k hk).2⟩)
    rw [nm_log] at Hwh
    go_wp2_with fail
    refine Hwh.out.mono ?_
    intro e w6 hT
    have Hj6 := Lib.hid ((hT.2.choose_spec.2.1.block j (lt_of_block hHeld) Hj.out).trans hHeld)
    have HE := Lib.hid (rstep_below HBd.out hT)
    obtain ⟨rfl, -⟩ := hT
    clear Hwh
    go_wp2_with fail
    refine hK.out _ _ (Hj6.out) (fun hHeld => ?_)
    clear hK
    try simp only [Act.put, List.setIfInBounds_toArray, List.set_cons_zero, List.set_cons_succ]
    refine ord_take 11 (v := ?v2x11) rfl (by kernel_rfl) (by kernel_rfl) (by kernel_rfl) (fun _ _ _ h => h) (by rfl) (by assumption) ?y2x11 ?_
    case y2x11 => (intro w hSw; (try dsimp only at hSw); go_simp; try with_reducible rfl)
    simp only [Act.put, List.setIfInBounds_toArray, List.set_cons_zero, List.set_cons_succ]
    refine wpAnyH_done (by kernel_rfl) ?_ _
    go_wp2_with fail
    go_ret
    exact HE.out
end Go.Proofs.YtapfnehdgailmaaGreat

namespace Go.Proofs.YtapfnehdgailmaaGreat
open Go.RowKit Go.Sat Go.Maps

theorem drewN_two (w : World) (a b : Nat) : (w.drewN a).drewN b = w.drewN (a + b) := by
  simp [World.drewN, Nat.add_assoc]

set_option maxRecDepth 100000 in
set_option maxHeartbeats 8000000 in
theorem rgroup_calls {w : World} {p : Option Addr} {n c : Nat} {l : List Int} (h : HasI w (.slice p n c) l) (hl : l.length ≤ 1099511627776) :
    Calls Tryz.prog 36 #[.slice p n c] w fun e w' => e = .returned (.bool (isGrp l)) ∧ ∃ q, w' = w.drewN q := by
  have hn : l.length = n := by obtain ⟨_, _, e⟩ := h.slice; simp only [Value.slice.injEq] at e; exact e.2.1.symm
  rw [hn] at hl
  have H := Lib.hid h
  have Hn := Lib.hid hn
  clear h hn
  go_enter Tryz.func36, Tryz.ntmps36
  go_wp2_with fail
  go_loopw [3] (fun i wr => ∃ k q : Nat, k ≤ n ∧ i = .int .i64 k ∧ grpGo (-1) l = grpGo (prevI l k) (l.drop k) ∧ -1 ≤ prevI l k ∧ wr = w.drewN q) (fun i _ => n - (intOf i).toNat)
  case atStart => exact ⟨0, 0, Nat.zero_le _, rfl, rfl, Int.le_refl _, rfl⟩
  case round =>
    obtain ⟨k, q0, hk, rfl, hgo, hpv, hwr⟩ := hrel
    have Hwr := Lib.hid hwr
    have H2 := Lib.hid (show HasI wr (.slice p n c) l by rw [hwr]; exact Holds.chg H.out (Chg.of_below (⟨rfl, rfl, rfl, Nat.le_refl _, fun _ _ => rfl⟩ : Below w.heap.size w (w.drewN q0))) fun _ _ => id)
    clear hwr
    by_cases hlt : k < n
    · have hkl : k < l.length := by rw [Hn.out]; exact hlt
      have HB := Lib.hid (show ¬ (prevI l k < l[k] ∧ l[k] < 7) → isGrp l = false from fun hb => by
        unfold isGrp
        rw [hgo, List.drop_eq_getElem_cons hkl]
        unfold grpGo
        rw [decide_eq_false hb]
        rfl)
      have HG := Lib.hid (show prevI l k < l[k] ∧ l[k] < 7 → grpGo (-1) l = grpGo (prevI l (k + 1)) (l.drop (k + 1)) from fun hb => by
        rw [hgo, List.drop_eq_getElem_cons hkl, prev_succ hkl]
        show (decide _ && _) = _
        rw [decide_eq_true hb, Bool.true_and])
      have HP := Lib.hid (prev_succ hkl)
      rcases H2.out.at with h0 | ⟨b, o, c1, e1, hc⟩
      · rw [h0] at hkl
        simp at hkl
      rw [Hn.out] at e1
      simp only [Value.slice.injEq] at e1
      obtain ⟨rfl, -, rfl⟩ := e1
      have hck := hc k _ (List.getElem?_eq_getElem hkl)
      have Hcp := Lib.hid (show k ≠ 0 → wr.cell? ⟨b, o + (k - 1), none⟩ = some (.int .i64 (prevI l k)) from fun h0 => by
        have hk1 : k - 1 < l.length := by omega
        have := hc (k - 1) _ (List.getElem?_eq_getElem hk1)
        rw [this]
        unfold prevI
        rw [if_neg h0, List.getElem?_eq_getElem hk1]
        rfl)
      have Hp0 := Lib.hid (show k = 0 → prevI l k = -1 from fun h0 => by rw [h0]; rfl)
      have hki : (k : Int) < (n : Int) := by omega
      clear hc hgo
      generalize l[k] = x at *
      generalize prevI l k = q at *
      by_cases hx0 : x < 0
      · have HE := Lib.hid (HB.out (by omega))
        have hd0 : decide (x < 0) = true := by simpa using hx0
        go_wp2_with fail
        go_quiet (fail)
        go_wp2_with fail
        go_ret
        exact ⟨by rw [HE.out]; rfl, _, by rw [Hwr.out]; exact drewN_two _ _ _⟩
      · have hd0 : decide (x < 0) = false := by simpa using hx0
        by_cases hx7 : 7 ≤ x
        · have HE := Lib.hid (HB.out (by omega))
          have hd7 : decide (7 ≤ x) = true := by simpa using hx7
          go_wp2_with fail
          go_quiet (fail)
          go_wp2_with fail
          go_ret
          exact ⟨by rw [HE.out]; rfl, _, by rw [Hwr.out]; exact drewN_two _ _ _⟩
        · have hd7 : decide (7 ≤ x) = false := by simpa using hx7
          by_cases hk0 : k = 0
          · have HE := Lib.hid (HG.out (by rw [Hp0.out hk0]; omega))
            have hdk : decide ((0 : Int) < (k : Int)) = false := by simp; omega
            have hdk2 : decide (0 < k) = false := by simp; omega
            clear hk0
            go_wp2_with fail
            go_quiet (fail)
            go_wp2_with fail
            go_roundw
            case rel => exact ⟨k + 1, _, by omega, by go_num, HE.out, by rw [HP.out]; omega, by rw [Hwr.out]; exact drewN_two _ _ _⟩
            case measure => simp [intOf]; omega
          · have hcp := Hcp.out hk0
            have hk1 : (0 : Int) < (k : Int) := by omega
            have hdk : decide ((0 : Int) < (k : Int)) = true := by simp; omega
            have hdk2 : decide (0 < k) = true := by simp; omega
            have hw1 : IntKind.i64.wrap ((k : Int) - 1) = ((k - 1 : Nat) : Int) := by rw [IntWalk.i64_in _ (by omega)]; omega
            have hk1i : ((k - 1 : Nat) : Int) < (n : Int) := by omega
            have hk1n : k - 1 < n := by omega
            clear hk0
            by_cases hle : x ≤ q
            · have HE := Lib.hid (HB.out (by omega))
              have hdl : decide (x ≤ q) = true := by simpa using hle
              go_wp2_with fail
              go_quiet (fail)
              go_wp2_with fail
              go_ret
              exact ⟨by rw [HE.out]; rfl, _, by rw [Hwr.out]; exact drewN_two _ _ _⟩
            · have hdl : decide (x ≤ q) = false := by simpa using hle
              have HE := Lib.hid (HG.out (by omega))
              go_wp2_with fail
              go_quiet (fail)
              go_wp2_with fail
              go_roundw
              case rel => exact ⟨k + 1, _, by omega, by go_num, HE.out, by rw [HP.out]; omega, by rw [Hwr.out]; exact drewN_two _ _ _⟩
              case measure => simp [intOf]; omega
    · have hkn : k = n := by omega
      have hgl : grpGo (-1) l = true := by rw [hgo, List.drop_of_length_le (by rw [Hn.out]; omega)]; rfl
      have HE := Lib.hid (show isGrp l = decide (1 ≤ n ∧ n ≤ 7) from by unfold isGrp; rw [hgl, Hn.out, Bool.true_and])
      clear hgo hgl
      by_cases h1 : 1 ≤ n
      · have d1 : decide ((1 : Int) ≤ (n : Int)) = true := by simp; omega
        by_cases h7 : n ≤ 7
        · have d7 : decide ((n : Int) ≤ 7) = true := by simp; omega
          have HF := Lib.hid (show isGrp l = true from HE.out.trans (decide_eq_true ⟨h1, h7⟩))
          go_wp2_with fail
          go_ret
          exact ⟨by rw [HF.out]; rfl, _, Hwr.out⟩
        · have d7 : decide ((n : Int) ≤ 7) = false := by simp; omega
          have HF := Lib.hid (show isGrp l = false from HE.out.trans (decide_eq_false fun e => h7 e.2))
          go_wp2_with fail
          go_ret
          exact ⟨by rw [HF.out]; rfl, _, Hwr.out⟩
      · have d1 : decide ((1 : Int) ≤ (n : Int)) = false := by simp; omega
        have HF := Lib.hid (show isGrp l = false from HE.out.trans (decide_eq_false fun e => h1 e.1))
        go_wp2_with fail
        go_ret
        exact ⟨by rw [HF.out]; rfl, _, Hwr.out⟩
end Go.Proofs.YtapfnehdgailmaaGreat

namespace Go.Proofs.YtapfnehdgailmaaGreat
open Go.RowKit Go.Sat Go.Maps

/-- What an opening of the document's journal over an empty disk leaves. -/
def ROpen0 (w : World) (r : Nat) (own : Nat → Prop) (R : DiskM × Nat) (e : Ending) (w' : World) : Prop :=
  (∃ x, e = .returned (.tuple #[x, .int .i64 (R.2 : Int)]) ∧ (R.2 = 0 → ∃ j, x = .pointer (some ⟨j, 0, none⟩)) ∧ (R.2 ≠ 0 → x = .pointer none)) ∧ ∃ own', RefAt w' r R.1 own' ∧ Chg own w w' ∧ ∀ k, own' k → own k ∨ w.heap.size ≤ k

theorem ropen0_of {w : World} {r : Nat} {own : Nat → Prop} {R : DiskM × Nat} {e : Ending} {w' : World} (h : RStep w r own R e w') {x : Value} (h0 : R.2 = 0 → ∃ j, x = .pointer (some ⟨j, 0, none⟩)) (h1 : R.2 ≠ 0 → x = .pointer none) : ROpen0 w r own R (.returned (.tuple #[x, .int .i64 (R.2 : Int)])) w' :=
  ⟨⟨x, rfl, h0, h1⟩, h.2⟩

theorem wrap_grp {g : List Int} (h : isGrp g = true) : (∀ z ∈ g, -9223372036854775808 ≤ z ∧ z ≤ 9223372036854775807) ∧ g.length ≤ 7 := by
  obtain ⟨h1, h2⟩ := grp_bound h
  exact ⟨fun z hz => by have := h2 z hz; omega, h1⟩

set_option maxRecDepth 100000 in
set_option maxHeartbeats 16000000 in
theorem ropen0_calls {w : World} {r : Nat} {v : Value} {L : List RFile} {own : Nat → Prop} {D : DiskM} (h : RefIn w r v L own D) (hf : D.files = []) (pre : ByteArray) (hps : 1 ≤ pre.size ∧ pre.size ≤ 20) {nodes : List Int} {pn : Option Addr} {nn cn : Nat} (hx : HasI w (.slice pn nn cn) nodes) (hg : isGrp nodes = true) :
    Calls Tryz.prog 18 #[.pointer (some ⟨r, 0, none⟩), .string pre, .slice pn nn cn] w (ROpen0 w r own (D.save1 (logN (nm pre)) (frameN (fstB 0 0 nodes) ++ frameN (trmB 0 (-1))))) := by
  obtain ⟨i0, hi, hz0, hz1, hz2⟩ := info_parts (show (Tryz.prog.info? 3).map (fun i => (i.zero, i.size, i.bytes)) = some (some (.int .i64 0), 1, 8) by kernel_rfl)
  obtain ⟨hz, hl⟩ := wrap_grp hg
  have hn : nodes.length = nn := by obtain ⟨_, _, e⟩ := hx.slice; simp only [Value.slice.injEq] at e; exact e.2.1.symm
  have Hn := Lib.hid hn
  have hn7 : nn ≤ 7 := by omega
  have Hgr := Lib.hid (rgroup_calls hx (by omega))
  rw [hg] at Hgr
  have H := Lib.hid h
  have Hx := Lib.hid hx
  have Hz := Lib.hid hz
  have Hl := Lib.hid hl
  have Hno := Lib.hid (show ∀ n, Sat.get n D.files = none from fun n => by rw [hf]; rfl)
  have hpz1 := hps.1
  have hpz2 := hps.2
  have hsl : (sLog pre).size = pre.size + 4 := size_log pre
  have hssn : (sSnp pre).size = pre.size + 5 := size_snp pre
  have hs1 : (pre ++ (⟨#[45, 108, 111, 103, 126]⟩ : ByteArray)).size = pre.size + 5 := by simp [ByteArray.size_append]; rfl
  have hs2 : (pre ++ (⟨#[45, 115, 110, 97, 112, 126]⟩ : ByteArray)).size = pre.size + 6 := by simp [ByteArray.size_append]; rfl
  clear h hf hx hg hz hl hn
  go_enter Tryz.func18, Tryz.ntmps18
  go_wp2_with fail
  refine Hgr.out.mono ?_
  rintro e w1 ⟨rfl, q, rfl⟩
  have HB1 := Lib.hid (show Below w.heap.size w (w.drewN q) from ⟨rfl, rfl, rfl, Nat.le_refl _, fun _ _ => rfl⟩)
  generalize w.drewN q = w1 at *
  clear Hgr
  have hj1 := new_block w1 (.cells #[.int .i64 0, .int .i64 0, .slice none 0 0, .pointer (some ⟨r, 0, none⟩), .string pre, .int .i64 0, .int .i64 (-1), .slice none 0 0, .slice none 0 0, .bool false] 84)
  have hsz1 : (w1.alloc (.cells #[.int .i64 0, .int .i64 0, .slice none 0 0, .pointer (some ⟨r, 0, none⟩), .string pre, .int .i64 0, .int .i64 (-1), .slice none 0 0, .slice none 0 0, .bool false] 84)).heap.size = w1.heap.size + 1 := by simp
  have Hrow := Lib.hid (show OwnR ((w1.alloc (.cells #[.int .i64 0, .int .i64 0, .slice none 0 0, .pointer (some ⟨r, 0, none⟩), .string pre, .int .i64 0, .int .i64 (-1), .slice none 0 0, .slice none 0 0, .bool false] 84)).alloc (.cells #[] 3)) 3 1 (.slice (some ⟨w1.heap.size + 1, 0, none⟩) 0 0) 0 [] from by
    have := own_empty (w1.alloc (.cells #[.int .i64 0, .int .i64 0, .slice none 0 0, .pointer (some ⟨r, 0, none⟩), .string pre, .int .i64 0, .int .i64 (-1), .slice none 0 0, .slice none 0 0, .bool false] 84)) 3
    rwa [hsz1] at this)
  have HBE := Lib.hid (show Below w.heap.size w ((w1.alloc (.cells #[.int .i64 0, .int .i64 0, .slice none 0 0, .pointer (some ⟨r, 0, none⟩), .string pre, .int .i64 0, .int .i64 (-1), .slice none 0 0, .slice none 0 0, .bool false] 84)).alloc (.cells #[] 3)) from (HB1.out.alloc HB1.out.size _).alloc (by have := HB1.out.size; rw [hsz1]; omega) _)
  have HjE := Lib.hid (old_block (.cells #[] 3) hj1)
  have HszE := Lib.hid (show ((w1.alloc (.cells #[.int .i64 0, .int .i64 0, .slice none 0 0, .pointer (some ⟨r, 0, none⟩), .string pre, .int .i64 0, .int .i64 (-1), .slice none 0 0, .slice none 0 0, .bool false] 84)).alloc (.cells #[] 3)).heap.size = w1.heap.size + 2 from by simp)
  have Hxx := Lib.hid (show Holds ((w1.alloc (.cells #[.int .i64 0, .int .i64 0, .slice none 0 0, .pointer (some ⟨r, 0, none⟩), .string pre, .int .i64 0, .int .i64 (-1), .slice none 0 0, .slice none 0 0, .bool false] 84)).alloc (.cells #[] 3)) 1 (.slice pn nn cn) nn (nodes.map (Value.int .i64)) from by
    have := Holds.chg Hx.out (Chg.of_below HBE.out) fun _ _ => id
    rwa [Hn.out] at this)
  have Hs1 := Lib.hid HB1.out.size
  clear hj1 hsz1
  go_wp2_with (at_builtin; refine wpList_app _ rfl (.tmp 46) (.tmp 47) 38 rfl 3 i0 (.int .i64 0) 1 8 Tryz.underlying38 hi hz0 hz1 hz2 rfl (by decide) (.slice (some ⟨w1.heap.size + 1, 0, none⟩) 0 0) 0 _ rfl Hrow.out (.slice pn nn cn) nn _ rfl Hxx.out (fun u hu => by obtain ⟨z, -, rfl⟩ := List.mem_map.1 hu; rfl) (by unfold maxLen; omega) (by omega) ?_; intro v3 w3 hown3 hgrow3 hloc3; go_loud (rw [Nat.zero_add, List.nil_append] at hown3; have HB3 := Lib.hid (HBE.out.grown hgrow3 HBE.out.size fun k e => by (have e2 : w1.heap.size + 1 = k := Option.some.inj e; have := Hs1.out; omega)); have hj3 := (hgrow3.block w1.heap.size (by rw [HszE.out]; omega) fun e => by (have e2 : w1.heap.size = w1.heap.size + 1 := Option.some.inj e; omega)).trans HjE.out; have Hj3 := Lib.hid hj3; have c2 := cell_of hj3 (i := 2) rfl; have f2 := frozen_of hj3 2; have Hnew3 := Lib.hid (own_ge (B := w1.heap.size + 1) hloc3 (fun k hk => by (have e2 : w1.heap.size + 1 = k := Option.some.inj hk; omega)) (by rw [HszE.out]; omega)); have HO3 := Lib.hid hown3; obtain ⟨p3, q3, rfl⟩ := OwnR.shape hown3; clear hown3 hgrow3 hloc3 hj3))
  clear c2 f2
  have Hj5 := Lib.hid (show ((w3.setCell ⟨w1.heap.size, 2, none⟩ (.slice p3 nn q3)).alloc (.cells #[.string (pre ++ (⟨#[45, 108, 111, 103, 126]⟩ : ByteArray)), .string (pre ++ (⟨#[45, 115, 110, 97, 112, 126]⟩ : ByteArray))] 9)).heap[w1.heap.size]? = some (RJC r 0 0 (.slice p3 nn q3) pre 0 (-1) (.slice none 0 0) (.slice none 0 0) false) from by
    refine old_block _ ?_
    have := set_block Hj3.out 2 (.slice p3 nn q3)
    rw [show (#[Value.int IntKind.i64 0, .int .i64 0, .slice none 0 0, .pointer (some ⟨r, 0, none⟩), .string pre, .int .i64 0, .int .i64 (-1), .slice none 0 0, .slice none 0 0, .bool false] : Array Value).setIfInBounds 2 (.slice p3 nn q3) = #[.int .i64 0, .int .i64 0, .slice p3 nn q3, .pointer (some ⟨r, 0, none⟩), .string pre, .int .i64 0, .int .i64 (-1), .slice none 0 0, .slice none 0 0, .bool false] from rfl] at this
    exact this)
  have HB5s := Lib.hid (show Below w.heap.size w (w3.setCell ⟨w1.heap.size, 2, none⟩ (.slice p3 nn q3)) from (((Chg.of_below HB3.out).mono fun _ _ e => e.elim : Chg (fun k => k = w1.heap.size) w w3).trans (Chg.setCell w3 ⟨w1.heap.size, 2, none⟩ _) fun k _ e => e).below (Nat.le_refl _) fun k hk e => by have := Hs1.out; omega)
  have HB5 := Lib.hid (HB5s.out.alloc HB5s.out.size (.cells #[.string (pre ++ (⟨#[45, 108, 111, 103, 126]⟩ : ByteArray)), .string (pre ++ (⟨#[45, 115, 110, 97, 112, 126]⟩ : ByteArray))] 9))
  have Htx := Lib.hid (new_block (w3.setCell ⟨w1.heap.size, 2, none⟩ (.slice p3 nn q3)) (.cells #[.string (pre ++ (⟨#[45, 108, 111, 103, 126]⟩ : ByteArray)), .string (pre ++ (⟨#[45, 115, 110, 97, 112, 126]⟩ : ByteArray))] 9))
  have HI5 := Lib.hid (show HasI ((w3.setCell ⟨w1.heap.size, 2, none⟩ (.slice p3 nn q3)).alloc (.cells #[.string (pre ++ (⟨#[45, 108, 111, 103, 126]⟩ : ByteArray)), .string (pre ++ (⟨#[45, 115, 110, 97, 112, 126]⟩ : ByteArray))] 9)) (.slice p3 nn q3) nodes from by
    have h1 : OwnR (w3.setCell ⟨w1.heap.size, 2, none⟩ (.slice p3 nn q3)) 3 1 (.slice p3 nn q3) nn (nodes.map (Value.int .i64)) := HO3.out.keep fun k hk => set_other _ fun e => by have h2 := Hnew3.out k hk; have e2 : k = w1.heap.size := e; omega
    have h2 := OwnR.holds h1
    unfold HasI
    rw [Hn.out]
    exact Holds.chg h2 (Chg.alloc _ _) fun _ _ e => e)
  have Hss := Lib.hid (show (w3.setCell ⟨w1.heap.size, 2, none⟩ (.slice p3 nn q3)).heap.size = w3.heap.size from by simp [World.setCell])
  rw [Hss.out] at Htx
  clear Hrow HBE HjE HszE Hxx Hj3 HB3 Hnew3 HO3 HB5s Hss
  generalize hW5 : (w3.setCell ⟨w1.heap.size, 2, none⟩ (.slice p3 nn q3)).alloc (.cells #[.string (pre ++ (⟨#[45, 108, 111, 103, 126]⟩ : ByteArray)), .string (pre ++ (⟨#[45, 115, 110, 97, 112, 126]⟩ : ByteArray))] 9) = W5 at *
  clear hW5
  generalize w3.heap.size = ta at *
  generalize w1.heap.size = j at *
  go_loopw [10] (fun i wr => ∃ k : Nat, (k = 0 ∨ k = 1 ∨ k = 2) ∧ i = .int .i64 k ∧ Below W5.heap.size W5 wr) (fun i _ => 2 - (intOf i).toNat)
  case atStart => exact ⟨0, .inl rfl, rfl, Below.refl _ _⟩
  case round =>
    obtain ⟨k, hk, rfl, hb⟩ := hrel
    have HBr := Lib.hid hb
    have htx := (hb.block ta (lt_of_block Htx.out)).trans Htx.out
    have k0 := cell_of htx (i := 0) rfl
    have k1 := cell_of htx (i := 1) rfl
    have HRr := Lib.hid (H.out.below (HB5.out.trans (hb.mono HB5.out.size)))
    clear hb htx
    rcases hk with rfl | rfl | rfl
    · have Hrd := Lib.hid (rread_calls HRr.out (pre ++ (⟨#[45, 108, 111, 103, 126]⟩ : ByteArray)))
      rw [Hno.out] at Hrd
      go_wp2_with fail
      refine Hrd.out.mono ?_
      rintro e w6 ⟨v6, rfl, -, -, hb6⟩
      have HE := Lib.hid (HBr.out.trans (hb6.mono HBr.out.size))
      clear hb6 Hrd
      rw [show readE (none : Option FileM) = 7 from rfl]
      go_wp2_with fail
      go_roundw
      case rel => exact ⟨1, .inr (.inl rfl), by first | rfl | go_num, HE.out⟩
      case measure => simp [intOf]
    · have Hrd := Lib.hid (rread_calls HRr.out (pre ++ (⟨#[45, 115, 110, 97, 112, 126]⟩ : ByteArray)))
      rw [Hno.out] at Hrd
      go_wp2_with fail
      refine Hrd.out.mono ?_
      rintro e w6 ⟨v6, rfl, -, -, hb6⟩
      have HE := Lib.hid (HBr.out.trans (hb6.mono HBr.out.size))
      clear hb6 Hrd
      rw [show readE (none : Option FileM) = 7 from rfl]
      go_wp2_with fail
      go_roundw
      case rel => exact ⟨2, .inr (.inr rfl), by first | rfl | go_num, HE.out⟩
      case measure => simp [intOf]
    · clear k0 k1
      have Hlo := Lib.hid (rload_calls (HRr.out.below (below_one wr (.cells #[.int .i64 0, .int .i64 0, .slice none 0 0] 82))) (sSnp pre))
      rw [Hno.out] at Hlo
      have HBb := Lib.hid (below_one wr (.cells #[.int .i64 0, .int .i64 0, .slice none 0 0] 82))
      go_wp2_with fail
      refine Hlo.out.mono ?_
      rintro e w6 ⟨v6, rfl, -, -, hb6⟩
      rw [loadE_none]
      have HB6 := Lib.hid (HBb.out.trans (hb6.mono HBb.out.size))
      have HR6 := Lib.hid (HRr.out.below HB6.out)
      have Hrd := Lib.hid (rread_calls HR6.out (sLog pre))
      rw [Hno.out] at Hrd
      clear hb6 Hlo
      go_wp2_with fail
      refine Hrd.out.mono ?_
      rintro e w7 ⟨v7, rfl, -, -, hb7⟩
      rw [show readE (none : Option FileM) = 7 from rfl]
      have HB7 := Lib.hid (HBr.out.trans ((HB6.out.trans (hb7.mono HB6.out.size)).mono HBr.out.size))
      have hj7 := (HB7.out.block j (lt_of_block Hj5.out)).trans Hj5.out
      have c0 := cell_of hj7 (i := 0) rfl
      have Hj7 := Lib.hid hj7
      clear hb7 Hrd hj7
      go_wp2_with fail
      go_quiet (fail)
      go_wp2_with fail
      go_quiet (fail)
      go_wp2_with fail
      generalize hWQ : (World.drewN _ _) = WQ
      have HBq := Lib.hid (show Below w.heap.size w WQ from by
        rw [← hWQ]
        exact (HB5.out.trans (HB7.out.mono HB5.out.size)).trans ⟨rfl, rfl, rfl, Nat.le_refl _, fun _ _ => rfl⟩)
      have Hjq := Lib.hid (show WQ.heap[j]? = some (RJC r 0 0 (.slice p3 nn q3) pre 0 (-1) (.slice none 0 0) (.slice none 0 0) false) from by rw [← hWQ]; exact Hj7.out)
      have HIq := Lib.hid (show HasI WQ (.slice p3 nn q3) nodes from by
        rw [← hWQ]
        exact (Holds.chg HI5.out (Chg.of_below (HB7.out.trans ⟨rfl, rfl, rfl, Nat.le_refl _, fun _ _ => rfl⟩)) fun _ _ => id))
      clear hWQ c0
      have Han := Lib.hid (ranew_calls (H.out.below HBq.out) Hjq.out (fun ho => by have h1 := H.out.olt j ho; have h2 := Hs1.out; omega) HIq.out Hz.out (Nat.le_trans Hl.out (by decide)) (by decide) (by decide) (by decide) (by decide) hpz2)
      rw [show fstB0 0 0 nodes = fstB 0 0 nodes from fstB0_nat (n := 0) (by decide) 0 nodes] at Han
      generalize hR : D.save1 (logN (nm pre)) (frameN (fstB 0 0 nodes) ++ frameN (trmB 0 (-1))) = R at *
      clear hR
      obtain ⟨D9, e9⟩ := R
      by_cases he : e9 = 0
      · subst he
        go_wp2_with fail
        refine Han.out.mono ?_
        intro e w9 hT
        have HE := Lib.hid (ropen0_of (rstep_below HBq.out hT) (x := .pointer (some ⟨j, 0, none⟩)) (fun _ => ⟨j, rfl⟩) fun h => absurd rfl h)
        obtain ⟨rfl, -⟩ := hT
        clear Han
        go_wp2_with fail
        go_ret2
        exact HE.out
      · have hne : ((e9 : Int) != 0) = true := by simp; omega
        have He := Lib.hid he
        clear he
        go_wp2_with fail
        refine Han.out.mono ?_
        intro e w9 hT
        have HE := Lib.hid (ropen0_of (rstep_below HBq.out hT) (x := .pointer none) (fun h => absurd h He.out) fun _ => rfl)
        obtain ⟨rfl, -⟩ := hT
        clear Han
        go_wp2_with fail
        go_ret2
        exact HE.out
end Go.Proofs.YtapfnehdgailmaaGreat

namespace Go.Proofs.YtapfnehdgailmaaGreat
open Go.RowKit Go.Sat Go.Maps

/-- The row of a pair. -/
abbrev PairO (d r : Nat) (j x : Value) (over : Bool) : Obj := .cells #[.pointer (some ⟨d, 0, none⟩), .pointer (some ⟨r, 0, none⟩), j, x, .bool over] 47 (0, 0)
abbrev g012 : List Int := [0, 1, 2]
abbrev LitO : Obj := .cells #[.int .i64 0, .int .i64 1, .int .i64 2] 3 (0, 0)

theorem hasI_012 (W : World) : HasI (W.alloc LitO) (.slice (some ⟨W.heap.size, 0, none⟩) 3 3) g012 :=
  ⟨by simp, some ⟨W.heap.size, 0, none⟩, 3, rfl, fun e => (by cases e), fun a ha i u hu => by
    cases ha
    rw [add_zero]
    refine cell_of (new_block W _) ?_
    simpa using hu⟩

theorem refIn_move {w w' : World} {r : Nat} {D : DiskM} (h : RefIn w r (.slice none 0 0) [] (fun k => k = r) D) (hs : ∀ k, k = r → w'.heap[k]? = w.heap[k]?) (hl : r < w'.heap.size) : RefIn w' r (.slice none 0 0) [] (fun k => k = r) D where
  cells := (hs r rfl).trans h.cells
  row := OwnR.nil _ _ _
  files := h.files
  data := fun x hx => by cases hx
  or := rfl
  ov := fun k hk => by cases hk
  ob := fun x hx => by cases hx
  olt := fun k hk => by rw [hk]; exact hl
  ok := h.ok

/-- What a pair is behind its opening. -/
def Opened (w : World) (p d r room : Nat) (w' : World) : Prop :=
  ∃ j x, JouF w w' j d sA (diskJ0 room [97] g012) (JouM.none0 g012) (fun k => k = p) ∧ w'.heap[p]? = some (PairO d r (.pointer (some ⟨j, 0, none⟩)) (.pointer (some ⟨x, 0, none⟩)) false)

set_option maxRecDepth 100000 in
set_option maxHeartbeats 8000000 in
theorem popen_calls {w w1 : World} {d r p room : Nat} (h : St w w1 d (DiskM.fresh room) (fun k => k = p ∨ k = r)) (hR : RefIn w1 r (.slice none 0 0) [] (fun k => k = r) (DiskM.fresh room)) (hp : w1.heap[p]? = some (PairO d r (.pointer none) (.pointer none) false)) (hge : w.heap.size ≤ r ∧ w.heap.size ≤ p) (hpr : p ≠ r) (hr1 : 200 ≤ room) (hr2 : room ≤ 1048576) :
    Calls Tryz.prog 97 #[.pointer (some ⟨p, 0, none⟩)] w1 fun e w' => e = .returned (.bool true) ∧ Opened w p d r room w' := by
  have Hop := Lib.hid (jopen_calls (h.next (below_one w1 LitO)) (show (DiskM.fresh room).room ≤ 1048576 from hr2) sA (hasI_012 w1) (by simp))
  rw [show jouOpen (DiskM.fresh room) (nm sA) g012 = (diskJ0 room [97] g012, 0, JouM.none0 g012) from jopen_fresh hr1 (by omega) (pre := [97]) ⟨by decide, by decide⟩ (by rfl)] at Hop
  have Hro := Lib.hid (fun W (hW : RefIn W r (.slice none 0 0) [] (fun k => k = r) (DiskM.fresh room)) => show Calls Tryz.prog 18 #[.pointer (some ⟨r, 0, none⟩), .string sA, .slice (some ⟨W.heap.size, 0, none⟩) 3 3] (W.alloc LitO) (ROpen0 (W.alloc LitO) r (fun k => k = r) (diskJ0 room [97] g012, 0)) from by
    have := ropen0_calls (hW.below (below_one W LitO)) rfl sA ⟨by decide, by decide⟩ (hasI_012 W) (by rfl)
    rwa [show (DiskM.fresh room).save1 (logN (nm sA)) (frameN (fstB 0 0 g012) ++ frameN (trmB 0 (-1))) = (diskJ0 room [97] g012, 0) from save_fresh hr1 (by omega) (pre := [97]) ⟨by decide, by decide⟩ (by rfl)] at this)
  have HR := Lib.hid hR
  have Hge := Lib.hid hge
  have Hpr := Lib.hid hpr
  have Hp := Lib.hid hp
  have Hsa := Lib.hid (fun k (hk : k = p ∨ k = r) => h.flt hk)
  have hpa := old_block LitO hp
  have c0 := cell_of hp (i := 0) rfl
  clear h hR hp hge hpr hpa
  go_enter Tryz.func97, Tryz.ntmps97
  go_wp2_with fail
  refine Hop.out.mono ?_
  rintro e w2 ⟨hst, hs, hcase⟩
  rcases hcase with ⟨-, j, rfl, hj⟩ | ⟨hne, -⟩
  · have HJ := Lib.hid hj
    have Hp2 := Lib.hid ((hs p (.inl rfl)).trans (old_block LitO Hp.out))
    have hr2' : ∀ k, k = r → w2.heap[k]? = w1.heap[k]? := fun k hk => by
      rw [hk]
      exact (hs r (.inr rfl)).trans (heap_alloc_old w1 LitO (Hsa.out r (.inr rfl)))
    have HR2 := Lib.hid (refIn_move HR.out hr2' (HJ.out.flt (.inr rfl)))
    have c1 := cell_of Hp2.out (i := 1) rfl
    clear hst hs hj hr2' Hop c0
    have Hro2 := Lib.hid (Hro.out w2 HR2.out)
    go_wp2_with fail
    refine Hro2.out.mono ?_
    rintro e w4 ⟨⟨x, rfl, hx, -⟩, own', -, hc4, -⟩
    obtain ⟨jx, rfl⟩ := hx rfl
    have hlr : r < (w2.alloc LitO).heap.size := Nat.lt_of_lt_of_le (HJ.out.flt (.inr rfl)) (below_one w2 LitO).size
    have HJ4 := Lib.hid (show JouF w w4 j d sA (diskJ0 room [97] g012) (JouM.none0 g012) (fun k => k = p) from (HJ.out.next (below_one w2 LitO)).move hc4 (fun k _ e => ⟨.inr e, by rw [e]; exact Hge.out.1⟩) fun k hk => ⟨.inl (.inl hk), by rw [hk]; exact Nat.lt_of_lt_of_le (Nat.lt_of_lt_of_le (HJ.out.flt (.inl rfl)) (below_one w2 LitO).size) hc4.size⟩)
    have hp4 := (hc4.block p (Nat.lt_of_lt_of_le (HJ.out.flt (.inl rfl)) (below_one w2 LitO).size) Hpr.out).trans (old_block LitO Hp2.out)
    have Hp4 := Lib.hid hp4
    have d2 := cell_of hp4 (i := 2) rfl
    have d3 := cell_of hp4 (i := 3) rfl
    have f2 := frozen_of hp4 2
    have f3 := frozen_of hp4 3
    have HJ5 := Lib.hid (show JouF w ((w4.setCell ⟨p, 2, none⟩ (.pointer (some ⟨j, 0, none⟩))).setCell ⟨p, 3, none⟩ (.pointer (some ⟨jx, 0, none⟩))) j d sA (diskJ0 room [97] g012) (JouM.none0 g012) (fun k => k = p) from HJ4.out.move (S := fun k => k = p) ((Chg.setCell w4 ⟨p, 2, none⟩ _).trans (Chg.setCell _ ⟨p, 3, none⟩ _) fun _ _ e => e) (fun k _ e => ⟨e, by rw [e]; exact Hge.out.2⟩) fun k hk => ⟨.inl hk, by rw [hk]; have := HJ4.out.flt (k := p) rfl; simpa [World.setCell] using this⟩)
    have Hp5 := Lib.hid (show ((w4.setCell ⟨p, 2, none⟩ (.pointer (some ⟨j, 0, none⟩))).setCell ⟨p, 3, none⟩ (.pointer (some ⟨jx, 0, none⟩))).heap[p]? = some (PairO d r (.pointer (some ⟨j, 0, none⟩)) (.pointer (some ⟨jx, 0, none⟩)) false) from by
      have h1 := set_block Hp4.out 2 (.pointer (some ⟨j, 0, none⟩))
      have h2 := set_block h1 3 (.pointer (some ⟨jx, 0, none⟩))
      simpa using h2)
    clear hx hc4 hp4 hlr Hro2 Hro c1
    go_wp2_with fail
    go_ret
    exact ⟨rfl, j, jx, HJ5.out, Hp5.out⟩
  · exact absurd rfl hne

set_option maxRecDepth 100000 in
set_option maxHeartbeats 8000000 in
theorem start_calls (w : World) (room : Nat) (hr1 : 200 ≤ room) (hr2 : room ≤ 1048576) :
    Calls Tryz.prog 21 #[.int .i64 (room : Int)] w fun e w' => ∃ p d r, e = .returned (.tuple #[.pointer (some ⟨p, 0, none⟩), .bool true]) ∧ Opened w p d r room w' ∧ w.heap.size ≤ p := by
  have Hnew := Lib.hid (st_new (w := w) (w1 := w) (room : Int) (by omega) (by omega) (Below.refl _ _))
  have Hrn := Lib.hid (fun W => rnew_calls W (room : Int) (by omega) (by omega))
  have Hpo := Lib.hid (fun W d r p a b c e f => popen_calls (w := w) (w1 := W) (d := d) (r := r) (p := p) a b c e f hr1 hr2)
  rw [Int.toNat_natCast] at Hnew
  go_enter Tryz.func21, Tryz.ntmps21
  go_wp2_with fail
  refine Hnew.out.mono ?_
  rintro e w2 ⟨d, rfl, hst⟩
  have HS2 := Lib.hid hst
  have Hr2 := Lib.hid (Hrn.out w2)
  rw [Int.toNat_natCast] at Hr2
  clear hst Hnew Hrn
  go_wp2_with fail
  refine Hr2.out.mono ?_
  rintro e w3 ⟨r, rfl, hR, hb3, hge3⟩
  have hrl := hR.olt r rfl
  have Hst := Lib.hid (show St w (w3.alloc (PairO d r (.pointer none) (.pointer none) false)) d (DiskM.fresh room) (fun k => k = w3.heap.size ∨ k = r) from HS2.out.move (Chg.of_below (hb3.trans ((below_one w3 _).mono hb3.size))) (fun _ _ h => h.elim) fun k hk => by
    have hs := hb3.size
    have hs2 : (w3.alloc (PairO d r (.pointer none) (.pointer none) false)).heap.size = w3.heap.size + 1 := by simp
    rcases hk with hk | hk
    · exact ⟨.inr (by omega), by omega⟩
    · exact ⟨.inr (by omega), by omega⟩)
  have HRb := Lib.hid (hR.below (below_one w3 (PairO d r (.pointer none) (.pointer none) false)))
  have Hge := Lib.hid (show w.heap.size ≤ r ∧ w.heap.size ≤ w3.heap.size from ⟨Nat.le_trans HS2.out.below.size hge3, Nat.le_trans HS2.out.below.size hb3.size⟩)
  have Hne := Lib.hid (show w3.heap.size ≠ r by omega)
  have Hop := Lib.hid (Hpo.out _ _ _ _ Hst.out HRb.out (new_block w3 _) Hge.out Hne.out)
  clear hR hb3 hge3 hrl Hr2
  go_wp2_with fail
  refine Hop.out.mono ?_
  rintro e w4 ⟨rfl, ho⟩
  have HO := Lib.hid ho
  clear ho Hop
  go_wp2_with fail
  go_ret2
  exact ⟨_, _, _, rfl, HO.out, Hge.out.2⟩
end Go.Proofs.YtapfnehdgailmaaGreat

namespace Go.Proofs.YtapfnehdgailmaaGreat
open Go.RowKit Go.Sat Go.Maps

set_option maxHeartbeats 1000000 in
theorem same5_calls {w : World} {x y : Value} {l m : Bs} (hx : HasB w x l) (hy : HasB w y m) (hl : l.length ≤ 140737488355328) (hm : m.length ≤ 140737488355328) :
    Calls Tryz.prog 33 #[x, y] w (SamePost w (l == m)) := by
  by_cases hlen : l.length = m.length
  · have ax := hx.at
    have ay := hy.at
    obtain ⟨px, cx, rfl⟩ := hx.slice
    obtain ⟨py, cy, rfl⟩ := hy.slice
    have hbne : ((l.length : Int) != (m.length : Int)) = false := by simp [hlen]
    have Hlen := Lib.hid hlen
    have Hax := Lib.hid ax
    have Hay := Lib.hid ay
    clear hx hy hlen ax ay
    generalize hlN : l.length = N at *
    generalize hmM : m.length = M at *
    have HlN := Lib.hid hlN
    have HmM := Lib.hid hmM
    clear hlN hmM
    go_enter Tryz.func33, Tryz.ntmps33
    go_wp2
    go_loopw [5] (fun i wr => ∃ k q : Nat, k ≤ N ∧ i = .int .i64 k ∧ l.take k = m.take k ∧ wr = w.drewN q) (fun i _ => N - (intOf i).toNat)
    case atStart => exact ⟨0, 0, Nat.zero_le _, rfl, rfl, rfl⟩
    case round =>
      obtain ⟨k, q, hk, rfl, htake, rfl⟩ := hrel
      have Htake := Lib.hid htake
      clear htake
      by_cases hlt : k < N
      · have hltM : k < M := by have := Hlen.out; omega
        have hkl : k < l.length := by rw [HlN.out]; exact hlt
        have hkm : k < m.length := by rw [HmM.out]; exact hltM
        have h1 : l[k]? = some l[k] := List.getElem?_eq_getElem hkl
        have h2 : m[k]? = some m[k] := List.getElem?_eq_getElem hkm
        rcases Hax.out with h | ⟨b, o, c, e1, hcx⟩
        · rw [h] at hkl
          simp at hkl
        rcases Hay.out with h | ⟨b2, o2, c2, e2, hcy⟩
        · rw [h] at hkm
          simp at hkm
        cases e1
        cases e2
        have hc1 := hcx k _ h1
        have hc2 := hcy k _ h2
        have Hnext := Lib.hid (fun e => take_eq_succ h1 h2 Htake.out e)
        have Hno := Lib.hid (fun e => ne_at h1 h2 e)
        clear hcx hcy h1 h2
        generalize l[k] = a at *
        generalize m[k] = b at *
        by_cases hab : a = b
        · have hd : ((a.toNat : Int) != (b.toNat : Int)) = false := by simp [hab]
          have Hab := Lib.hid hab
          clear hab hkl hkm
          go_wp2_with fail
          go_quiet (fail)
          go_wp2
          go_roundw
          case rel => exact ⟨k + 1, q + nq, by omega, by go_num, Hnext.out Hab.out, by first | rfl | rw [World.drewN_drewN]⟩
          case measure => simp [intOf]; omega
        · have hd : ((a.toNat : Int) != (b.toNat : Int)) = true := by
            simp only [bne_iff_ne, ne_eq, Int.natCast_inj]
            exact fun e => hab (UInt8.toNat.inj e)
          have Hab := Lib.hid hab
          clear hab hkl hkm
          go_wp2_with fail
          go_quiet (fail)
          go_wp2
          go_ret
          exact ⟨by rw [Hno.out Hab.out]; rfl, q + nq, by first | rfl | rw [World.drewN_drewN]⟩
      · go_wp2
        go_ret
        refine ⟨?_, q, rfl⟩
        have h1 := Htake.out
        rw [List.take_of_length_le (by rw [HlN.out]; omega), List.take_of_length_le (by rw [HmM.out]; have := Hlen.out; omega)] at h1
        simp [h1]
  · obtain ⟨px, cx, rfl⟩ := hx.slice
    obtain ⟨py, cy, rfl⟩ := hy.slice
    have hbne : ((l.length : Int) != (m.length : Int)) = true := by simp; omega
    have hres : (l == m) = false := by rw [beq_eq_false_iff_ne]; rintro rfl; exact hlen rfl
    rw [hres]
    clear hx hy hlen hres
    go_enter Tryz.func33, Tryz.ntmps33
    go_wp2
    go_ret
    exact ⟨rfl, 0, rfl⟩

end Go.Proofs.YtapfnehdgailmaaGreat

namespace Go.Proofs.YtapfnehdgailmaaGreat
open Go.RowKit Go.Sat Go.Maps

set_option maxRecDepth 100000 in
set_option maxHeartbeats 8000000 in
theorem known5_calls (w : World) : Calls Tryz.prog 20 #[] w fun e w' => e = .returned (.bool true) ∧ Below w.heap.size w w' := by
  have Hst := Lib.hid (start_calls w 65536 (by decide) (by decide))
  obtain ⟨D1, D2, hk1, hk2⟩ := known5
  have Hk1 := Lib.hid hk1
  have Hk2 := Lib.hid hk2
  clear hk1 hk2
  have kc := fun (w : World) (C : Array Value) (n c : Nat) => Lib.run_convert_bytes_const (P := Tryz.prog) w 22 5 C n c Tryz.underlying22 Tryz.underlying5
  go_enter Tryz.func20, Tryz.ntmps20
  go_wp2_with fail
  refine Hst.out.mono ?_
  rintro e w1 ⟨p, d, r, rfl, ⟨j, x, hJ, hp⟩, -⟩
  have HJ := Lib.hid hJ
  have Hp := Lib.hid hp
  have c2 := cell_of hp (i := 2) rfl
  clear hJ hp Hst
  have HJ3 := Lib.hid (show JouF w ((w1.alloc (.cells #[.int .u8 120] 5 (1, 2))).alloc (.cells #[.int .i64 1, .int .i64 0, .slice none 0 0, .slice none 0 0, .int .i64 2, .int .i64 1, .slice (some ⟨w1.heap.size, 0, none⟩) 1 1, .slice none 0 0] 50)) j d sA (diskJ0 65536 [97] g012) (JouM.none0 g012) (fun k => (k = p ∨ k = w1.heap.size) ∨ k = w1.heap.size + 1) from by
    have := (HJ.out.box (.cells #[.int .u8 120] 5 (1, 2))).box (.cells #[.int .i64 1, .int .i64 0, .slice none 0 0, .slice none 0 0, .int .i64 2, .int .i64 1, .slice (some ⟨w1.heap.size, 0, none⟩) 1 1, .slice none 0 0] 50)
    simpa using this)
  have hb1 : ((w1.alloc (.cells #[.int .u8 120] 5 (1, 2))).alloc (.cells #[.int .i64 1, .int .i64 0, .slice none 0 0, .slice none 0 0, .int .i64 2, .int .i64 1, .slice (some ⟨w1.heap.size, 0, none⟩) 1 1, .slice none 0 0] 50)).heap[w1.heap.size]? = some (.cells #[.int .u8 120] 5 (1, 2)) := old_block _ (new_block w1 _)
  have hb2 : ((w1.alloc (.cells #[.int .u8 120] 5 (1, 2))).alloc (.cells #[.int .i64 1, .int .i64 0, .slice none 0 0, .slice none 0 0, .int .i64 2, .int .i64 1, .slice (some ⟨w1.heap.size, 0, none⟩) 1 1, .slice none 0 0] 50)).heap[w1.heap.size + 1]? = some (.cells #[.int .i64 1, .int .i64 0, .slice none 0 0, .slice none 0 0, .int .i64 2, .int .i64 1, .slice (some ⟨w1.heap.size, 0, none⟩) 1 1, .slice none 0 0] 50) := by have := new_block (w1.alloc (.cells #[.int .u8 120] 5 (1, 2))) (.cells #[.int .i64 1, .int .i64 0, .slice none 0 0, .slice none 0 0, .int .i64 2, .int .i64 1, .slice (some ⟨w1.heap.size, 0, none⟩) 1 1, .slice none 0 0] 50); simpa using this
  have HEn := Lib.hid (show ∀ W, Below w.heap.size w W → Same (fun k => (k = p ∨ k = w1.heap.size) ∨ k = w1.heap.size + 1) ((w1.alloc (.cells #[.int .u8 120] 5 (1, 2))).alloc (.cells #[.int .i64 1, .int .i64 0, .slice none 0 0, .slice none 0 0, .int .i64 2, .int .i64 1, .slice (some ⟨w1.heap.size, 0, none⟩) 1 1, .slice none 0 0] 50)) W → EntsHas W (.slice (some ⟨w1.heap.size + 1, 0, none⟩) 2 2) [ke1, ke2] [(.slice none 0 0, .slice none 0 0), (.slice (some ⟨w1.heap.size, 0, none⟩) 1 1, .slice none 0 0)] from fun W _ hs => by
    have h1 := (hs w1.heap.size (.inl (.inr rfl))).trans hb1
    have h2 := (hs (w1.heap.size + 1) (.inr rfl)).trans hb2
    have hnil : ∀ l : List Value, l = [] → Holds W 1 (.slice none 0 0) 0 l := fun l e => by rw [e]; exact ⟨rfl, none, 0, rfl, fun _ => rfl, fun a ha => by cases ha⟩
    refine ⟨rfl, ⟨rfl, some ⟨w1.heap.size + 1, 0, none⟩, 2, rfl, fun e => (by cases e), fun a ha i u hu => ?_⟩, fun i e v he hv => ?_⟩
    · cases ha
      rw [add_zero]
      refine cell_of h2 ?_
      simpa [entsC, entC, ke1, ke2] using hu
    · match i, he, hv with
      | 0, he, hv =>
        cases he
        cases hv
        exact ⟨hnil _ rfl, hnil _ rfl, by decide, by decide⟩
      | 1, he, hv =>
        cases he
        cases hv
        refine ⟨⟨rfl, some ⟨w1.heap.size, 0, none⟩, 1, rfl, fun e => (by cases e), fun a ha i u hu => ?_⟩, hnil _ rfl, by decide, by decide⟩
        cases ha
        rw [add_zero]
        refine cell_of h1 ?_
        simpa [bytesV, ke2] using hu)
  have Hap := Lib.hid (jappend_calls HJ3.out HEn.out (by decide))
  rw [show jouAppend (nm sA) (diskJ0 65536 [97] g012) (JouM.none0 g012) [ke1, ke2] = ⟨D1, kM1, 0⟩ from Hk1.out] at Hap
  have Hp3 := Lib.hid (old_block (.cells #[.int .i64 1, .int .i64 0, .slice none 0 0, .slice none 0 0, .int .i64 2, .int .i64 1, .slice (some ⟨w1.heap.size, 0, none⟩) 1 1, .slice none 0 0] 50) (old_block (.cells #[.int .u8 120] 5 (1, 2)) Hp.out))
  clear hb1 hb2 HEn
  go_wp2_with fail
  refine Hap.out.mono ?_
  rintro e w2 ⟨rfl, hj2, hs2⟩
  have HJ4 := Lib.hid (hj2.less (F' := fun k => k = p) fun k hk => .inl (.inl hk))
  have Hp4 := Lib.hid ((hs2 p (.inl (.inl rfl))).trans Hp3.out)
  have d2 := cell_of Hp4.out (i := 2) rfl
  clear hj2 hs2 Hap c2
  have HJ5 := Lib.hid (HJ4.out.box (.cells #[.int .u8 115] 5 (1, 2)))
  have hb3 := new_block w2 (.cells #[.int .u8 115] 5 (1, 2))
  have Hco := Lib.hid (jcompact_calls HJ5.out (show kM1.entries.length ≤ 1000000 by decide) 1 (by decide) (pd := some ⟨w2.heap.size, 0, none⟩) (n := 1) (cd := 1) (b := [115]) rfl (by decide) fun W _ hs => ⟨rfl, some ⟨w2.heap.size, 0, none⟩, 1, rfl, fun e => (by cases e), fun a ha i u hu => by
    cases ha
    rw [add_zero]
    refine cell_of ((hs w2.heap.size (.inr rfl)).trans hb3) ?_
    simpa [bytesV] using hu⟩)
  rw [show jouCompact (nm sA) D1 kM1 1 [115] = ⟨D2, kM2, 0⟩ from Hk2.out] at Hco
  have Hp5 := Lib.hid (old_block (.cells #[.int .u8 115] 5 (1, 2)) Hp4.out)
  clear hb3
  go_wp2_with fail
  refine Hco.out.mono ?_
  rintro e w3 ⟨rfl, hj3, hs3⟩
  have HJ6 := Lib.hid hj3
  have Hp6 := Lib.hid ((hs3 p (.inl rfl)).trans Hp5.out)
  have e2 := cell_of Hp6.out (i := 2) rfl
  have Hba := Lib.hid (jbase_calls HJ6.out)
  clear hj3 hs3 Hco d2
  go_wp2_with fail
  refine Hba.out.mono ?_
  rintro e w4 ⟨rfl, q4, rfl⟩
  have HJ7 := Lib.hid (HJ6.out.drewN q4)
  have Hla := Lib.hid (jlast_calls HJ7.out)
  have e2 : (w3.drewN q4).cell? ⟨p, 2, none⟩ = some (.pointer (some ⟨j, 0, none⟩)) := e2
  rw [show ((kM2.number : Nat) : Int) = 1 from rfl, show kM2.term = 1 from rfl]
  go_wp2_with fail
  refine Hla.out.mono ?_
  rintro e w5 ⟨rfl, q5, rfl⟩
  rw [show ((kM2.last : Nat) : Int) = 2 from rfl, show kM2.lastT = 2 from rfl]
  have HJ8 := Lib.hid (HJ6.out.drewN (q4 + q5))
  have Hsn := Lib.hid (jsnap_calls HJ8.out)
  have e3 : ((w3.drewN q4).drewN q5).cell? ⟨p, 2, none⟩ = some (.pointer (some ⟨j, 0, none⟩)) := e2
  go_wp2_with fail
  refine Hsn.out.mono ?_
  rintro e w6 ⟨v, u, rfl, hv, -, -, hb6⟩
  have HB6 := Lib.hid (show Below w.heap.size w w6 from HJ8.out.bel.trans (hb6.mono HJ8.out.bel.size))
  have hv : OwnB w6 5 v [115] := hv
  have Hv := Lib.hid (show HasB (w6.alloc (.cells #[.int .u8 115] 5 (1, 2))) v [115] from (ownB_far hv (below_one w6 (.cells #[.int .u8 115] 5 (1, 2)))).has)
  obtain ⟨pv, cv, rfl, -⟩ := own_cap0 hv
  have Hl := Lib.hid (show HasB (w6.alloc (.cells #[.int .u8 115] 5 (1, 2))) (.slice (some ⟨w6.heap.size, 0, none⟩) 1 1) [115] from ⟨rfl, some ⟨w6.heap.size, 0, none⟩, 1, rfl, fun e => (by cases e), fun a ha i u hu => by
    cases ha
    rw [add_zero]
    refine cell_of (new_block w6 _) ?_
    simpa [bytesV] using hu⟩)
  have Hsm := Lib.hid (same5_calls Hv.out Hl.out (by decide) (by decide))
  have HB7 := Lib.hid (HB6.out.alloc HB6.out.size (.cells #[.int .u8 115] 5 (1, 2)))
  clear hv hb6 Hsn
  go_wp2_with fail
  refine Hsm.out.mono ?_
  rintro e w7 ⟨rfl, n7, rfl⟩
  have HB8 := Lib.hid (HB7.out.trans ⟨rfl, rfl, rfl, Nat.le_refl _, fun _ _ => rfl⟩ : Below w.heap.size w ((w6.alloc (.cells #[.int .u8 115] 5 (1, 2))).drewN n7))
  rw [show ((([115] : Bs) == [115]) : Bool) = true from rfl]
  clear Hsm
  go_wp2_with fail
  go_ret
  exact ⟨rfl, HB8.out⟩
end Go.Proofs.YtapfnehdgailmaaGreat

namespace Go.Proofs.YtapfnehdgailmaaGreat
open Go.RowKit Go.Sat Go.Maps

theorem mask_and (m : Nat) (hm : m ≤ 1073741823) (z : Int) : ∃ c : Nat, bits .and .i64 z (m : Int) = (c : Int) ∧ c ≤ m := by
  have h0 : (BitVec.ofInt 64 (m : Int)).toNat = m := by
    rw [BitVec.toNat_ofInt]
    omega
  have h : (BitVec.ofInt 64 z &&& BitVec.ofInt 64 (m : Int)).toNat ≤ m := by
    rw [BitVec.toNat_and]
    exact Nat.le_trans Nat.and_le_right (Nat.le_of_eq h0)
  refine ⟨(BitVec.ofInt 64 z &&& BitVec.ofInt 64 (m : Int)).toNat, ?_, h⟩
  show IntKind.i64.wrap (((BitVec.ofInt 64 z &&& BitVec.ofInt 64 (m : Int)).toNat : Nat) : Int) = _
  exact IntWalk.i64_in _ (by omega)
theorem mask_3 (z : Int) : ∃ c : Nat, bits .and .i64 z 3 = (c : Int) ∧ c ≤ 3 := mask_and 3 (by decide) z
section
variable {w w1 : World} {j d : Nat} {D : DiskM} {M : JouM} {F : Nat → Prop} {room u : Nat} {g : List Int}

theorem Kept5.roomOf (h : Kept5 room g M D u) : D.room = room := by
  obtain ⟨⟨ls, s, M0, rfl, -⟩, -⟩ := h
  rfl
theorem Kept5.more (h : Kept5 room g M D u) {v : Nat} (hv : u ≤ v) : Kept5 room g M D v := ⟨h.ex, Nat.le_trans h.used hv, h.grp, h.alive⟩

theorem jl_crash (hJ : JouF w w1 j d sA D M F) (hK : Kept5 room g M D u) (k : Int) (hk : -9223372036854775808 ≤ k) (hk' : k ≤ 9223372036854775807) :
    Calls Tryz.prog 28 #[.pointer (some ⟨d, 0, none⟩), .int .i64 k] w1 fun e w' => e = .returned (.tuple #[]) ∧ JouF w w' j d sA D M F ∧ Same F w1 w' := by
  have := jou_disk0 hJ (fun G hS => st_crash hS k hk hk')
  rwa [hK.crash k] at this

theorem jl_open (hJ : JouF w w1 j d sA D M F) (hK : Kept5 room g012 M D u) (hr : room ≤ 1048576) :
    Calls Tryz.prog 17 #[.pointer (some ⟨d, 0, none⟩), .string sA, .slice (some ⟨w1.heap.size, 0, none⟩) 3 3] (w1.alloc LitO) fun e w' => ∃ j', e = .returned (.tuple #[.pointer (some ⟨j', 0, none⟩), .int .i64 0]) ∧ JouF w w' j' d sA D M F ∧ Same F w1 w' := by
  have h := jopen_calls (hJ.stF.next (below_one w1 LitO)) (show D.room ≤ 1048576 by rw [hK.roomOf]; exact hr) sA (hasI_012 w1) (by simp)
  rw [show jouOpen D (nm sA) g012 = (D, 0, M) from hK.open] at h
  refine h.mono ?_
  rintro e w' ⟨-, hs, ⟨-, j', rfl, hj⟩ | ⟨hne, -⟩⟩
  · exact ⟨j', rfl, hj, fun k hk => (hs k hk).trans (heap_alloc_old w1 LitO (hJ.flt hk))⟩
  · exact absurd rfl hne

/-- The pair's journal is another one. -/
theorem jl_setj {p r : Nat} {jv x : Value} {o : Bool} (hJ : JouF w w1 j d sA D M (fun k => k = p)) (hp : w1.heap[p]? = some (PairO d r jv x o)) (hge : w.heap.size ≤ p) (v : Value) :
    JouF w (w1.setCell ⟨p, 2, none⟩ v) j d sA D M (fun k => k = p) ∧ (w1.setCell ⟨p, 2, none⟩ v).heap[p]? = some (PairO d r v x o) := by
  refine ⟨hJ.move (S := fun k => k = p) (Chg.setCell w1 ⟨p, 2, none⟩ _) (fun k _ e => ⟨e, by rw [e]; exact hge⟩) fun k hk => ⟨.inl hk, by have := hJ.flt hk; simpa [World.setCell] using this⟩, ?_⟩
  have h1 := set_block hp 2 v
  simpa using h1
end
end Go.Proofs.YtapfnehdgailmaaGreat

namespace Go.Proofs.YtapfnehdgailmaaGreat
open Go.RowKit Go.Sat Go.Maps

theorem mayVote_true {M : JouM} {t v : Int} (h1 : M.now ≤ t) (h2 : t ≤ 1099511627776) (h3 : -1 ≤ v) (h4 : v < 7) (h5 : ¬ (t = M.now ∧ M.vote ≠ -1 ∧ v ≠ M.vote)) : M.mayVote t v = true := by
  unfold JouM.mayVote
  rw [decide_eq_true ⟨h1, h2, h3, h4⟩, decide_eq_false h5]
  rfl
theorem mayVote_false {M : JouM} {t v : Int} (h : t < M.now ∨ (t = M.now ∧ M.vote ≠ -1 ∧ v ≠ M.vote)) : M.mayVote t v = false := by
  unfold JouM.mayVote
  rcases h with h | h
  · rw [decide_eq_false (fun h2 => absurd h2.1 (by omega))]
    rfl
  · rw [decide_eq_true h]
    exact Bool.and_false _

theorem votes_good {M : JouM} {D : DiskM} {u : Nat} {g : List Int} {t v : Int} (h : Kept5 1048576 g M D u) (h0 : 0 ≤ M.now) (h1 : M.now ≤ t) (h2 : t ≤ 1099511627776) (h3 : -1 ≤ v) (h4 : v < 7) (h5 : ¬ (t = M.now ∧ M.vote ≠ -1 ∧ v ≠ M.vote)) (hu : u + 31 ≤ 1048576) :
    ∃ D' M', jouTerm [97] D M t v = ⟨D', M', 0⟩ ∧ Kept5 1048576 g M' D' (u + 31) ∧ M'.now = t ∧ M'.vote = v := by
  have hm := mayVote_true h1 h2 h3 h4 h5
  by_cases hs : t = M.now ∧ v = M.vote
  · exact ⟨D, M, term_same h hm hs, h.more (by omega), hs.1.symm, hs.2.symm⟩
  · obtain ⟨D', a, b⟩ := term_go h hm hs h0 hu
    exact ⟨D', _, a, b, rfl, rfl⟩

/-- Behind k rounds of the law's loop. -/
def VRel (w wr : World) (p d r k : Nat) (term vote : Int) : Prop :=
  ∃ j x o D M u, JouF w wr j d sA D M (fun b => b = p) ∧ wr.heap[p]? = some (PairO d r (.pointer (some ⟨j, 0, none⟩)) x o) ∧ Kept5 1048576 g012 M D u ∧ u ≤ 150 + 31 * k ∧ M.now = term ∧ M.vote = vote ∧ 0 ≤ term ∧ term ≤ 2 * k ∧ -1 ≤ vote ∧ vote ≤ 2

set_option maxRecDepth 100000 in
set_option maxHeartbeats 16000000 in
theorem votes_walk {w : World} {p0 : Option Addr} {n c : Nat} {l : List Int} (hx : HasI w (.slice p0 n c) l) (hl : l.length = n) (hn : n ≤ 17592186044416) (draw : Int) (hd1 : -9223372036854775808 ≤ draw) (hd2 : draw ≤ 9223372036854775807) :
    Calls Tryz.prog 5 #[.slice p0 n c, .int .i64 draw] w (True3 w) := by
  by_cases hbig : 40 < n
  · have Hkn := Lib.hid (known5_calls w)
    clear hx
    go_enter Tryz.func5, Tryz.ntmps5
    go_wp2_with fail
    refine Hkn.out.mono ?_
    rintro e w1 ⟨rfl, hb⟩
    have Hb := Lib.hid hb
    clear hb
    go_wp2_with fail
    go_ret
    exact ⟨rfl, Hb.out⟩
  have Hst := Lib.hid (start_calls w 1048576 (by decide) (by decide))
  have Hx := Lib.hid hx.at
  have Hl := Lib.hid hl
  clear hx hl
  go_enter Tryz.func5, Tryz.ntmps5
  go_wp2_with fail
  refine Hst.out.mono ?_
  rintro e w1 ⟨p, d, r, rfl, ⟨j, x, hJ, hp⟩, hge⟩
  have Hge := Lib.hid hge
  have Hr := Lib.hid (show VRel w w1 p d r 0 0 (-1) from ⟨j, _, _, _, _, 150, hJ, hp, keep_start (by rfl), by omega, rfl, rfl, by omega, by omega, by omega, by omega⟩)
  clear hJ hp Hst hge
  go_wp2_with fail
  go_loopw [7, 8, 9] (fun te vo i wr => ∃ (k : Nat) (term vote : Int), k ≤ n ∧ i = .int .i64 k ∧ te = .int .i64 term ∧ vo = .int .i64 vote ∧ VRel w wr p d r k term vote) (fun _ _ i _ => n - (intOf i).toNat)
  case atStart => exact ⟨0, 0, -1, Nat.zero_le _, rfl, rfl, rfl, Hr.out⟩
  case round =>
    clear Hr
    obtain ⟨k, term, vote, hk, rfl, rfl, rfl, j, x, o, D, M, u, hJ, hp, hK, hu, hM1, hM2, ht0, ht1, hv0, hv1⟩ := hrel
    by_cases hlt : k < n
    · rcases Hx.out with h | ⟨b, oo, cc, e1, hcx⟩
      · rw [h] at Hl
        have := Hl.out
        simp at this
        omega
      cases e1
      have hkl : k < l.length := by rw [Hl.out]; exact hlt
      have hcell := hcx k _ (List.getElem?_eq_getElem hkl)
      have hcell2 := (hJ.bel.cell (World.block_lt_of_cell? w _ hcell)).trans hcell
      generalize l[k] = z at *
      obtain ⟨m1, hm1, hb1⟩ := mask_3 z
      obtain ⟨m2, hm2, hb2⟩ := mask_3 (z / 4)
      obtain ⟨m3, hm3, hb3⟩ := mask_3 (z / 16)
      obtain ⟨t, ht⟩ : ∃ t, term + ((m1 : Int) - 1) = t := ⟨_, rfl⟩
      obtain ⟨v, hv⟩ : ∃ v, (m2 : Int) - 1 = v := ⟨_, rfl⟩
      have htb : -1 ≤ t ∧ t ≤ 2 * (k : Int) + 2 ∧ t ≤ term + 2 := by omega
      have hvb : -1 ≤ v ∧ v ≤ 2 := by omega
      have hk40 : k ≤ 40 := by omega
      have h64 : IntKind.i64.wrap (term + ((m1 : Int) - 1)) = t := by rw [ht]; exact IntWalk.i64_in _ (by omega)
      have HJ := Lib.hid hJ
      have Hp := Lib.hid hp
      have HK := Lib.hid hK
      have Hbel := Lib.hid hJ.bel
      have Hst := Lib.hid (jsetTerm_calls hJ t v (by omega) (by omega))
      have c2 := cell_of hp (i := 2) rfl
      have hblk := World.block_lt_of_cell? w _ hcell
      have hcell0 := hcell
      clear hJ hp hK hcell hcx Hx
      rcases Int.lt_trichotomy t term with hlt2 | heq | hgt
      · have hda : decide (t < term) = true := decide_eq_true hlt2
        have he := term_no HK.out (mayVote_false (M := M) (t := t) (v := v) (by omega))
        rw [show jouTerm (nm sA) D M t v = ⟨D, M, 1⟩ from he] at Hst
        have HK2 := Lib.hid (HK.out.more (show u ≤ u + 31 by omega))
        have hN := hM1
        have hV := hM2
        clear he
        go_wp2_with fail
        refine Hst.out.mono ?_
        rintro e w2 ⟨rfl, hj2, hs2⟩
        have HJ2 := Lib.hid hj2
        have hp2 := (hs2 p rfl).trans Hp.out
        have Hp2 := Lib.hid hp2
        have Hb2 := Lib.hid hj2.bel
        have d0 := cell_of hp2 (i := 0) rfl
        have d2 := cell_of hp2 (i := 2) rfl
        have hcell3 := (hj2.bel.cell hblk).trans hcell0
        have hm30 := hm3
        clear hj2 hs2 hp2 Hst c2 hcell2
        by_cases h3 : m3 = 0
        · have h30 : ((m3 : Int) == 0) = true := by simp [h3]
          clear h3
          have Hcr := Lib.hid (jl_crash HJ2.out HK2.out draw hd1 hd2)
          go_wp2_with fail
          refine Hcr.out.mono ?_
          rintro e w3 ⟨rfl, hj3, hs3⟩
          have HJ3 := Lib.hid hj3
          have hp3 := (hs3 p rfl).trans Hp2.out
          have Hp3 := Lib.hid (old_block LitO hp3)
          have e0 := cell_of hp3 (i := 0) rfl
          have Hop := Lib.hid (jl_open hj3 HK2.out (by decide))
          clear hj3 hs3 hp3 Hcr d0 d2 hcell3
          go_wp2_with fail
          refine Hop.out.mono ?_
          rintro e w4 ⟨j4, rfl, hj4, hs4⟩
          have hp4 := (hs4 p rfl).trans ((heap_alloc_old w3 LitO (HJ3.out.flt rfl)).symm.trans Hp3.out)
          have f2 := frozen_of hp4 2
          obtain ⟨hj5, hp5⟩ := jl_setj hj4 hp4 Hge.out (.pointer (some ⟨j4, 0, none⟩))
          have HJ5 := Lib.hid hj5
          have Hp5 := Lib.hid hp5
          have g2 := cell_of hp5 (i := 2) rfl
          have h2 := cell_of hp4 (i := 2) rfl
          have Hte := Lib.hid (jterm_calls hj5)
          clear hj4 hs4 hp4 hj5 hp5 Hop e0
          go_wp2_with fail
          refine Hte.out.mono ?_
          rintro e w6 ⟨rfl, q, rfl⟩
          rw [hN, hV]
          go_wp2_with fail
          go_roundw
          case rel => exact ⟨k + 1, term, vote, by omega, by go_num, rfl, rfl, j4, _, _, _, _, _, HJ5.out.drewN q, Hp5.out, HK2.out, by omega, hN, hV, by omega, by omega, by omega, by omega⟩
          case measure => simp [intOf]; omega
        · have h30 : ((m3 : Int) == 0) = false := by simp; omega
          clear h3
          have Hte := Lib.hid (jterm_calls HJ2.out)
          go_wp2_with fail
          refine Hte.out.mono ?_
          rintro e w6 ⟨rfl, q, rfl⟩
          rw [hN, hV]
          go_wp2_with fail
          go_roundw
          case rel => exact ⟨k + 1, term, vote, by omega, by go_num, rfl, rfl, j, _, _, _, _, _, HJ2.out.drewN q, Hp2.out, HK2.out, by omega, hN, hV, by omega, by omega, by omega, by omega⟩
          case measure => simp [intOf]; omega
      · have hda : decide (t < term) = false := decide_eq_false (by omega)
        have hdb : (t == term) = true := by simp [heq]
        have hq1 : t ≤ term := by omega
        have hq2 : term ≤ t := by omega
        clear heq
        by_cases hv1 : vote = -1
        · have hv2 : (vote != -1) = false := by simp [hv1]
          have hq3 : vote ≤ -1 := by omega
          clear hv1
          obtain ⟨D2, M2, he, hK2, hN, hV⟩ := votes_good HK.out (by omega) (by omega) (by omega) (by omega) (by omega) (by omega) (by omega) (t := t) (v := v)
          rw [show jouTerm (nm sA) D M t v = ⟨D2, M2, 0⟩ from he] at Hst
          have HK2 := Lib.hid hK2
          clear he hK2
          go_wp2_with fail
          refine Hst.out.mono ?_
          rintro e w2 ⟨rfl, hj2, hs2⟩
          have HJ2 := Lib.hid hj2
          have hp2 := (hs2 p rfl).trans Hp.out
          have Hp2 := Lib.hid hp2
          have Hb2 := Lib.hid hj2.bel
          have d0 := cell_of hp2 (i := 0) rfl
          have d2 := cell_of hp2 (i := 2) rfl
          have hcell3 := (hj2.bel.cell hblk).trans hcell0
          have hm30 := hm3
          clear hj2 hs2 hp2 Hst c2 hcell2
          by_cases h3 : m3 = 0
          · have h30 : ((m3 : Int) == 0) = true := by simp [h3]
            clear h3
            have Hcr := Lib.hid (jl_crash HJ2.out HK2.out draw hd1 hd2)
            go_wp2_with fail
            refine Hcr.out.mono ?_
            rintro e w3 ⟨rfl, hj3, hs3⟩
            have HJ3 := Lib.hid hj3
            have hp3 := (hs3 p rfl).trans Hp2.out
            have Hp3 := Lib.hid (old_block LitO hp3)
            have e0 := cell_of hp3 (i := 0) rfl
            have Hop := Lib.hid (jl_open hj3 HK2.out (by decide))
            clear hj3 hs3 hp3 Hcr d0 d2 hcell3
            go_wp2_with fail
            refine Hop.out.mono ?_
            rintro e w4 ⟨j4, rfl, hj4, hs4⟩
            have hp4 := (hs4 p rfl).trans ((heap_alloc_old w3 LitO (HJ3.out.flt rfl)).symm.trans Hp3.out)
            have f2 := frozen_of hp4 2
            obtain ⟨hj5, hp5⟩ := jl_setj hj4 hp4 Hge.out (.pointer (some ⟨j4, 0, none⟩))
            have HJ5 := Lib.hid hj5
            have Hp5 := Lib.hid hp5
            have g2 := cell_of hp5 (i := 2) rfl
            have h2 := cell_of hp4 (i := 2) rfl
            have Hte := Lib.hid (jterm_calls hj5)
            clear hj4 hs4 hp4 hj5 hp5 Hop e0
            go_wp2_with fail
            refine Hte.out.mono ?_
            rintro e w6 ⟨rfl, q, rfl⟩
            rw [hN, hV]
            go_wp2_with fail
            go_roundw
            case rel => exact ⟨k + 1, t, v, by omega, by go_num, rfl, rfl, j4, _, _, _, _, _, HJ5.out.drewN q, Hp5.out, HK2.out, by omega, hN, hV, by omega, by omega, by omega, by omega⟩
            case measure => simp [intOf]; omega
          · have h30 : ((m3 : Int) == 0) = false := by simp; omega
            clear h3
            have Hte := Lib.hid (jterm_calls HJ2.out)
            go_wp2_with fail
            refine Hte.out.mono ?_
            rintro e w6 ⟨rfl, q, rfl⟩
            rw [hN, hV]
            go_wp2_with fail
            go_roundw
            case rel => exact ⟨k + 1, t, v, by omega, by go_num, rfl, rfl, j, _, _, _, _, _, HJ2.out.drewN q, Hp2.out, HK2.out, by omega, hN, hV, by omega, by omega, by omega, by omega⟩
            case measure => simp [intOf]; omega
        · have hv2 : (vote != -1) = true := by simp [hv1]
          have hq3 : 0 ≤ vote := by omega
          clear hv1
          by_cases hv3 : v = vote
          · have hv4 : (v != vote) = false := by simp [hv3]
            have hq4 : v ≤ vote := by omega
            have hq5 : vote ≤ v := by omega
            clear hv3
            obtain ⟨D2, M2, he, hK2, hN, hV⟩ := votes_good HK.out (by omega) (by omega) (by omega) (by omega) (by omega) (by omega) (by omega) (t := t) (v := v)
            rw [show jouTerm (nm sA) D M t v = ⟨D2, M2, 0⟩ from he] at Hst
            have HK2 := Lib.hid hK2
            clear he hK2
            go_wp2_with fail
            refine Hst.out.mono ?_
            rintro e w2 ⟨rfl, hj2, hs2⟩
            have HJ2 := Lib.hid hj2
            have hp2 := (hs2 p rfl).trans Hp.out
            have Hp2 := Lib.hid hp2
            have Hb2 := Lib.hid hj2.bel
            have d0 := cell_of hp2 (i := 0) rfl
            have d2 := cell_of hp2 (i := 2) rfl
            have hcell3 := (hj2.bel.cell hblk).trans hcell0
            have hm30 := hm3
            clear hj2 hs2 hp2 Hst c2 hcell2
            by_cases h3 : m3 = 0
            · have h30 : ((m3 : Int) == 0) = true := by simp [h3]
              clear h3
              have Hcr := Lib.hid (jl_crash HJ2.out HK2.out draw hd1 hd2)
              go_wp2_with fail
              refine Hcr.out.mono ?_
              rintro e w3 ⟨rfl, hj3, hs3⟩
              have HJ3 := Lib.hid hj3
              have hp3 := (hs3 p rfl).trans Hp2.out
              have Hp3 := Lib.hid (old_block LitO hp3)
              have e0 := cell_of hp3 (i := 0) rfl
              have Hop := Lib.hid (jl_open hj3 HK2.out (by decide))
              clear hj3 hs3 hp3 Hcr d0 d2 hcell3
              go_wp2_with fail
              refine Hop.out.mono ?_
              rintro e w4 ⟨j4, rfl, hj4, hs4⟩
              have hp4 := (hs4 p rfl).trans ((heap_alloc_old w3 LitO (HJ3.out.flt rfl)).symm.trans Hp3.out)
              have f2 := frozen_of hp4 2
              obtain ⟨hj5, hp5⟩ := jl_setj hj4 hp4 Hge.out (.pointer (some ⟨j4, 0, none⟩))
              have HJ5 := Lib.hid hj5
              have Hp5 := Lib.hid hp5
              have g2 := cell_of hp5 (i := 2) rfl
              have h2 := cell_of hp4 (i := 2) rfl
              have Hte := Lib.hid (jterm_calls hj5)
              clear hj4 hs4 hp4 hj5 hp5 Hop e0
              go_wp2_with fail
              refine Hte.out.mono ?_
              rintro e w6 ⟨rfl, q, rfl⟩
              rw [hN, hV]
              go_wp2_with fail
              go_roundw
              case rel => exact ⟨k + 1, t, v, by omega, by go_num, rfl, rfl, j4, _, _, _, _, _, HJ5.out.drewN q, Hp5.out, HK2.out, by omega, hN, hV, by omega, by omega, by omega, by omega⟩
              case measure => simp [intOf]; omega
            · have h30 : ((m3 : Int) == 0) = false := by simp; omega
              clear h3
              have Hte := Lib.hid (jterm_calls HJ2.out)
              go_wp2_with fail
              refine Hte.out.mono ?_
              rintro e w6 ⟨rfl, q, rfl⟩
              rw [hN, hV]
              go_wp2_with fail
              go_roundw
              case rel => exact ⟨k + 1, t, v, by omega, by go_num, rfl, rfl, j, _, _, _, _, _, HJ2.out.drewN q, Hp2.out, HK2.out, by omega, hN, hV, by omega, by omega, by omega, by omega⟩
              case measure => simp [intOf]; omega
          · have hv4 : (v != vote) = true := by simp [hv3]
            have he := term_no HK.out (mayVote_false (M := M) (t := t) (v := v) (by omega))
            rw [show jouTerm (nm sA) D M t v = ⟨D, M, 1⟩ from he] at Hst
            have HK2 := Lib.hid (HK.out.more (show u ≤ u + 31 by omega))
            have hN := hM1
            have hV := hM2
            clear he
            go_wp2_with fail
            refine Hst.out.mono ?_
            rintro e w2 ⟨rfl, hj2, hs2⟩
            have HJ2 := Lib.hid hj2
            have hp2 := (hs2 p rfl).trans Hp.out
            have Hp2 := Lib.hid hp2
            have Hb2 := Lib.hid hj2.bel
            have d0 := cell_of hp2 (i := 0) rfl
            have d2 := cell_of hp2 (i := 2) rfl
            have hcell3 := (hj2.bel.cell hblk).trans hcell0
            have hm30 := hm3
            clear hj2 hs2 hp2 Hst c2 hcell2
            by_cases h3 : m3 = 0
            · have h30 : ((m3 : Int) == 0) = true := by simp [h3]
              clear h3
              have Hcr := Lib.hid (jl_crash HJ2.out HK2.out draw hd1 hd2)
              go_wp2_with fail
              refine Hcr.out.mono ?_
              rintro e w3 ⟨rfl, hj3, hs3⟩
              have HJ3 := Lib.hid hj3
              have hp3 := (hs3 p rfl).trans Hp2.out
              have Hp3 := Lib.hid (old_block LitO hp3)
              have e0 := cell_of hp3 (i := 0) rfl
              have Hop := Lib.hid (jl_open hj3 HK2.out (by decide))
              clear hj3 hs3 hp3 Hcr d0 d2 hcell3
              go_wp2_with fail
              refine Hop.out.mono ?_
              rintro e w4 ⟨j4, rfl, hj4, hs4⟩
              have hp4 := (hs4 p rfl).trans ((heap_alloc_old w3 LitO (HJ3.out.flt rfl)).symm.trans Hp3.out)
              have f2 := frozen_of hp4 2
              obtain ⟨hj5, hp5⟩ := jl_setj hj4 hp4 Hge.out (.pointer (some ⟨j4, 0, none⟩))
              have HJ5 := Lib.hid hj5
              have Hp5 := Lib.hid hp5
              have g2 := cell_of hp5 (i := 2) rfl
              have h2 := cell_of hp4 (i := 2) rfl
              have Hte := Lib.hid (jterm_calls hj5)
              clear hj4 hs4 hp4 hj5 hp5 Hop e0
              go_wp2_with fail
              refine Hte.out.mono ?_
              rintro e w6 ⟨rfl, q, rfl⟩
              rw [hN, hV]
              go_wp2_with fail
              go_roundw
              case rel => exact ⟨k + 1, term, vote, by omega, by go_num, rfl, rfl, j4, _, _, _, _, _, HJ5.out.drewN q, Hp5.out, HK2.out, by omega, hN, hV, by omega, by omega, by omega, by omega⟩
              case measure => simp [intOf]; omega
            · have h30 : ((m3 : Int) == 0) = false := by simp; omega
              clear h3
              have Hte := Lib.hid (jterm_calls HJ2.out)
              go_wp2_with fail
              refine Hte.out.mono ?_
              rintro e w6 ⟨rfl, q, rfl⟩
              rw [hN, hV]
              go_wp2_with fail
              go_roundw
              case rel => exact ⟨k + 1, term, vote, by omega, by go_num, rfl, rfl, j, _, _, _, _, _, HJ2.out.drewN q, Hp2.out, HK2.out, by omega, hN, hV, by omega, by omega, by omega, by omega⟩
              case measure => simp [intOf]; omega
      · have hda : decide (t < term) = false := decide_eq_false (by omega)
        have hdb : (t == term) = false := by simp; omega
        obtain ⟨D2, M2, he, hK2, hN, hV⟩ := votes_good HK.out (by omega) (by omega) (by omega) (by omega) (by omega) (by omega) (by omega) (t := t) (v := v)
        rw [show jouTerm (nm sA) D M t v = ⟨D2, M2, 0⟩ from he] at Hst
        have HK2 := Lib.hid hK2
        clear he hK2
        go_wp2_with fail
        refine Hst.out.mono ?_
        rintro e w2 ⟨rfl, hj2, hs2⟩
        have HJ2 := Lib.hid hj2
        have hp2 := (hs2 p rfl).trans Hp.out
        have Hp2 := Lib.hid hp2
        have Hb2 := Lib.hid hj2.bel
        have d0 := cell_of hp2 (i := 0) rfl
        have d2 := cell_of hp2 (i := 2) rfl
        have hcell3 := (hj2.bel.cell hblk).trans hcell0
        have hm30 := hm3
        clear hj2 hs2 hp2 Hst c2 hcell2
        by_cases h3 : m3 = 0
        · have h30 : ((m3 : Int) == 0) = true := by simp [h3]
          clear h3
          have Hcr := Lib.hid (jl_crash HJ2.out HK2.out draw hd1 hd2)
          go_wp2_with fail
          refine Hcr.out.mono ?_
          rintro e w3 ⟨rfl, hj3, hs3⟩
          have HJ3 := Lib.hid hj3
          have hp3 := (hs3 p rfl).trans Hp2.out
          have Hp3 := Lib.hid (old_block LitO hp3)
          have e0 := cell_of hp3 (i := 0) rfl
          have Hop := Lib.hid (jl_open hj3 HK2.out (by decide))
          clear hj3 hs3 hp3 Hcr d0 d2 hcell3
          go_wp2_with fail
          refine Hop.out.mono ?_
          rintro e w4 ⟨j4, rfl, hj4, hs4⟩
          have hp4 := (hs4 p rfl).trans ((heap_alloc_old w3 LitO (HJ3.out.flt rfl)).symm.trans Hp3.out)
          have f2 := frozen_of hp4 2
          obtain ⟨hj5, hp5⟩ := jl_setj hj4 hp4 Hge.out (.pointer (some ⟨j4, 0, none⟩))
          have HJ5 := Lib.hid hj5
          have Hp5 := Lib.hid hp5
          have g2 := cell_of hp5 (i := 2) rfl
          have h2 := cell_of hp4 (i := 2) rfl
          have Hte := Lib.hid (jterm_calls hj5)
          clear hj4 hs4 hp4 hj5 hp5 Hop e0
          go_wp2_with fail
          refine Hte.out.mono ?_
          rintro e w6 ⟨rfl, q, rfl⟩
          rw [hN, hV]
          go_wp2_with fail
          go_roundw
          case rel => exact ⟨k + 1, t, v, by omega, by go_num, rfl, rfl, j4, _, _, _, _, _, HJ5.out.drewN q, Hp5.out, HK2.out, by omega, hN, hV, by omega, by omega, by omega, by omega⟩
          case measure => simp [intOf]; omega
        · have h30 : ((m3 : Int) == 0) = false := by simp; omega
          clear h3
          have Hte := Lib.hid (jterm_calls HJ2.out)
          go_wp2_with fail
          refine Hte.out.mono ?_
          rintro e w6 ⟨rfl, q, rfl⟩
          rw [hN, hV]
          go_wp2_with fail
          go_roundw
          case rel => exact ⟨k + 1, t, v, by omega, by go_num, rfl, rfl, j, _, _, _, _, _, HJ2.out.drewN q, Hp2.out, HK2.out, by omega, hN, hV, by omega, by omega, by omega, by omega⟩
          case measure => simp [intOf]; omega
    · have Hkn := Lib.hid (known5_calls wr)
      have HB := Lib.hid hJ.bel
      clear hJ hp hK
      go_wp2_with fail
      refine Hkn.out.mono ?_
      rintro e w2 ⟨rfl, hb⟩
      have Hb := Lib.hid (HB.out.trans (hb.mono HB.out.size))
      clear hb
      go_wp2_with fail
      go_ret
      exact ⟨rfl, Hb.out⟩
end Go.Proofs.YtapfnehdgailmaaGreat
