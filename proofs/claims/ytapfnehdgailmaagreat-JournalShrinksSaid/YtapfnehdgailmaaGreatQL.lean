/- The document's disk: a file goes. (Its walk is printed by mkr3.py.) The document's disk: Remove. The document's disk: Rename. The document's disk: Crash. The document's disk: Copy. (Its walk is printed by mkr5.py.) The program's disk and the document's, side by side. The document's keep (satrapyref4): has, Load. The document's disk through several steps: what is set apart (F) stays as it was. The document's Whole (satrapyref4): a file is made to hold just these bytes. The document's journal: anew, of no entries. (Printed by mkrj4.py.) The document's journal: Group. -/
import Derived.Test.YtapfnehdgailmaaGreatQC
import Derived.Test.YtapfnehdgailmaaGreatQD
import Derived.Test.YtapfnehdgailmaaGreatQE
import Derived.Test.YtapfnehdgailmaaGreatQK
namespace Go.Sat
open Go Go.RowKit
/-- Three may come up. -/
theorem ord_three {P : Program} {l : List Oper} {Q : Exit → Act → World → Prop} {md : Region.Mode} {S : World → Prop} {fuel : Nat} {listed : Array Bool} {a : Act} {w : World} (i j k : Nat) {oi oj ok : Oper} {ri rj rk : List Oper} (hdi : l.drop i = oi :: ri) (hdj : l.drop j = oj :: rj) (hdk : l.drop k = ok :: rk) (hr : Region.ready md l.toArray listed = [i, j, k])
    (hwi : Region.wanted oi (yielded l.toArray a.tmps) = true) (hwj : Region.wanted oj (yielded l.toArray a.tmps) = true) (hwk : Region.wanted ok (yielded l.toArray a.tmps) = true)
    (hi : ∀ K : Act → World → Prop, Shut (∀ a w, S w → (S w → wpAnyH P md l.toArray Q S fuel (listed.setIfInBounds i true) a w) → K a w) → Oper.wp P oi a w K Q)
    (hj : ∀ K : Act → World → Prop, Shut (∀ a w, S w → (S w → wpAnyH P md l.toArray Q S fuel (listed.setIfInBounds j true) a w) → K a w) → Oper.wp P oj a w K Q)
    (hk : ∀ K : Act → World → Prop, Shut (∀ a w, S w → (S w → wpAnyH P md l.toArray Q S fuel (listed.setIfInBounds k true) a w) → K a w) → Oper.wp P ok a w K Q) : wpAnyH P md l.toArray Q S (fuel + 1) listed a w :=
  wpAnyH_ready hr (by simp) (AllReadyH.cons (ord_get hdi) (fun K hK => by rw [if_pos hwi]; exact hi K hK) (AllReadyH.cons (ord_get hdj) (fun K hK => by rw [if_pos hwj]; exact hj K hK) (AllReadyH.cons (ord_get hdk) (fun K hK => by rw [if_pos hwk]; exact hk K hK) AllReadyH.nil)))
end Go.Sat
namespace Go.Proofs.YtapfnehdgailmaaGreat
open Go.RowKit Go.Sat Go.Maps

section
variable {w : World} {r : Nat} {v : Value} {L : List RFile} {own : Nat → Prop} {D : DiskM}

theorem wrap_small {z : Int} (h0 : -9223372036854775808 ≤ z) (h1 : z ≤ 9223372036854775807) : IntKind.i64.wrap z = z := IntWalk.i64_in z ⟨h0, h1⟩

/-- What a step that answers nothing leaves. -/
def RGone (w : World) (r : Nat) (own : Nat → Prop) (D : DiskM) (e : Ending) (w' : World) : Prop :=
  e = .returned (.tuple #[]) ∧ ∃ own' v' L', RefIn w' r v' L' own' D ∧ Chg (fun k => k = r) w w' ∧ (∀ k, own k → own' k) ∧ ∀ k, own' k → own k ∨ w.heap.size ≤ k

set_option maxRecDepth 100000 in
set_option maxHeartbeats 8000000 in
theorem rremove_calls (h : RefIn w r v L own D) (s : ByteArray) :
    Calls Tryz.prog 161 #[.pointer (some ⟨r, 0, none⟩), .string s] w (RGone w r own { D with files := del (nm s) D.files }) := by
  have hsp := spot_calls h s
  rw [h.is] at hsp
  cases hg : Sat.get (nm s) D.files with
  | none =>
    rw [hg] at hsp
    have hD : ({ D with files := del (nm s) D.files } : DiskM) = D := by rw [del_none hg]
    rw [hD]
    have Hf := Lib.hid (fun q => show RGone w r own D (.returned (.tuple #[])) (w.drewN q) from ⟨rfl, own, v, L, h.below ⟨rfl, rfl, rfl, Nat.le_refl _, fun _ _ => rfl⟩, ⟨rfl, rfl, rfl, Nat.le_refl _, fun _ _ _ => rfl⟩, fun _ h => h, fun _ h => .inl h⟩)
    have Hsp := Lib.hid hsp
    clear h hsp hg hD
    go_enter Tryz.func161, Tryz.ntmps161
    go_wp2_with fail
    refine Hsp.out.mono ?_
    rintro e w3 ⟨rfl, q, rfl⟩
    go_wp2_with fail
    go_end0
    exact Hf.out q
  | some f =>
    rw [hg] at hsp
    obtain ⟨x, hx, hxn, rfl⟩ := h.hit hg
    have hN1 : spotN (nm s) (L.map RFile.n) < L.length := (List.getElem?_eq_some_iff.1 hx).1
    have hdel : del (nm s) D.files = (L.take (spotN (nm s) (L.map RFile.n)) ++ L.drop (spotN (nm s) (L.map RFile.n) + 1)).map RFile.key := by
      have h1 : isAt (nm s) (D.files.map (·.1)) = true := by rw [(spot_get (nm s) h.ok.srt).1, hg]; rfl
      rw [del_at (nm s) h.ok.srt h1, ← h.names, List.map_append, List.map_take, List.map_drop, ← h.files]
    obtain ⟨pv, cv, hgv⟩ := h.slice
    have hNc : L.length ≤ cv := by
      rcases h.at with h0 | ⟨g, c0, e, hc, -⟩
      · rw [h0]; exact Nat.zero_le _
      · rw [hgv] at e; cases e; exact hc
    have hfit := h.fit
    have hok := ok_del h.ok (nm s)
    generalize spotN (nm s) (L.map RFile.n) = i at *
    have Hc1 := Lib.hid (show ∀ W, Below w.heap.size w W → W.cell? ⟨r, 1, none⟩ = some (.slice pv L.length cv) from fun W hb => (h.below hb).c1.trans (by rw [hgv]))
    have Hfr := Lib.hid (show ∀ W, Below w.heap.size w W → W.frozen? ⟨r, 1, none⟩ = false from fun W hb => frozen_of (h.below hb).cells 1)
    have Hrow := Lib.hid (show ∀ W, Below w.heap.size w W → OwnR W 127 3 (.slice pv L.length cv) L.length (L.flatMap RFile.cells) from fun W hb => by rw [← hgv]; exact (h.below hb).row)
    have Hone := Lib.hid (cells_one h.core.one)
    have Hend := Lib.hid (show ∀ w7 v7, Below w.heap.size w w7 → OwnR w7 127 3 v7 (i + (L.length - (i + 1))) ((L.flatMap RFile.cells).take (i * 3) ++ (L.flatMap RFile.cells).drop ((i + 1) * 3)) → (∀ k, v7.ownBlock = some k → w.heap.size ≤ k) → RGone w r own { D with files := del (nm s) D.files } (.returned (.tuple #[])) (w7.setCell ⟨r, 1, none⟩ v7) from fun w7 v7 hb h7 hn7 => by
      have hlen' : (L.take i ++ L.drop (i + 1)).length = i + (L.length - (i + 1)) := by
        rw [List.length_append, List.length_take, List.length_drop]
        omega
      have hcore := (h.below hb).core.relist (v' := v7) (L' := L.take i ++ L.drop (i + 1)) (by rw [hlen', List.flatMap_append, cells_take, cells_drop]; exact h7) (fun x hx => by
        rcases List.mem_append.1 hx with hx | hx
        · exact .inl (List.mem_of_mem_take hx)
        · exact .inl (List.mem_of_mem_drop hx)) (fun k hk ho => by
          have h1 := hn7 k hk
          have h2 := h.olt k ho
          omega)
      exact ⟨rfl, _, _, _, hcore.full rfl rfl hdel hok, chg_below hb (chg_own (own := fun k => k = r) rfl), fun _ h => .inl h, fun k hk => hk.imp id (hn7 k)⟩)
    obtain ⟨iF, hFi, hF0, hF1, hF2⟩ := info_parts (show (Tryz.prog.info? 127).map (fun i => (i.zero, i.size, i.bytes)) = some (some (.agg #[.string ⟨#[]⟩, .slice none 0 0, .int .i64 0]), 3, 48) by kernel_rfl)
    have hs1 : ∀ W, (Instr.slice 116 (.slice pv L.length cv) none (some (.int .i64 (i : Int))) none).run Tryz.prog W = .ok (.slice pv i cv) W := fun W => run_upto W Tryz.underlying116 hFi pv _ cv i (by omega)
    have hs2 : ∀ W, (Instr.slice 116 (.slice pv L.length cv) (some (.int .i64 ((i : Int) + 1))) none none).run Tryz.prog W = .ok (.slice (if cv - (i + 1) = 0 then pv else pv.map fun x => x.add ((i + 1) * 3)) (L.length - (i + 1)) (cv - (i + 1))) W := fun W => by
      have := run_from_any (P := Tryz.prog) W Tryz.underlying116 hFi pv L.length cv (i + 1) (by omega) hNc
      rw [hF1] at this
      exact this
    have hwr : IntKind.i64.wrap ((i : Int) + 1) = (i : Int) + 1 := wrap_small (by omega) (by omega)
    have Hup := Lib.hid (show ∀ W, Below w.heap.size w W → Holds W 3 (.slice pv i cv) i ((L.flatMap RFile.cells).take (i * 3)) from fun W hb => Holds.upto (OwnR.holds (Hrow.out _ hb)) (by omega) cv)
    have Hfrom := Lib.hid (show ∀ W, Below w.heap.size w W → Holds W 3 (.slice (if cv - (i + 1) = 0 then pv else pv.map fun x => x.add ((i + 1) * 3)) (L.length - (i + 1)) (cv - (i + 1))) (L.length - (i + 1)) ((L.flatMap RFile.cells).drop ((i + 1) * 3)) from fun W hb => OwnR.cut_from (Hrow.out W hb) (by omega))
    generalize hpF : (if cv - (i + 1) = 0 then pv else pv.map fun x => x.add ((i + 1) * 3)) = pF at *
    have Hsp := Lib.hid hsp
    clear h hg hok hsp hdel hpF hx
    subst hgv
    generalize hN : L.length = N at *
    clear hN
    go_enter Tryz.func161, Tryz.ntmps161
    go_wp2_with fail
    refine Hsp.out.mono ?_
    rintro e w3 ⟨rfl, q, rfl⟩
    have X0 := Lib.hid (show Below w.heap.size w (w.drewN q).drew from ⟨rfl, rfl, rfl, Nat.le_refl _, fun _ _ => rfl⟩)
    go_wp2_with fail
    refine ord_start (fun _ : World => True) (n := 20) (by kernel_rfl) rfl trivial (fun _ => ?_)
    generalize (w.drewN q).drew = Wd at *
    refine ord_take 0 (v := ?v0x0) rfl (by kernel_rfl) (by kernel_rfl) (by kernel_rfl) (fun _ _ _ h => h) (by rfl) trivial ?y0x0 ?_
    case y0x0 => (intro w hSw; clear hSw; go_simp; try with_reducible rfl)
    simp only [Act.put, List.setIfInBounds_toArray, List.set_cons_zero, List.set_cons_succ]
    refine ord_take 2 (v := ?v0x2) rfl (by kernel_rfl) (by kernel_rfl) (by kernel_rfl) (fun _ _ _ h => h) (by rfl) trivial ?y0x2 ?_
    case y0x2 => (intro w hSw; clear hSw; go_simp; try with_reducible rfl)
    simp only [Act.put, List.setIfInBounds_toArray, List.set_cons_zero, List.set_cons_succ]
    refine ord_take 3 (v := ?v0x3) rfl (by kernel_rfl) (by kernel_rfl) (by kernel_rfl) (fun _ _ _ h => h) (by rfl) trivial ?y0x3 ?_
    case y0x3 => (intro w hSw; clear hSw; go_simp; try with_reducible rfl)
    simp only [Act.put, List.setIfInBounds_toArray, List.set_cons_zero, List.set_cons_succ]
    refine ord_take 4 (v := ?v0x4) rfl (by kernel_rfl) (by kernel_rfl) (by kernel_rfl) (fun _ _ _ h => h) (by rfl) trivial ?y0x4 ?_
    case y0x4 => (intro w hSw; clear hSw; go_simp; try with_reducible rfl)
    simp only [Act.put, List.setIfInBounds_toArray, List.set_cons_zero, List.set_cons_succ]
    refine ord_take 6 (v := ?v0x6) rfl (by kernel_rfl) (by kernel_rfl) (by kernel_rfl) (fun _ _ _ h => h) (by rfl) trivial ?y0x6 ?_
    case y0x6 => (intro w hSw; clear hSw; go_simp; try with_reducible rfl)
    simp only [Act.put, List.setIfInBounds_toArray, List.set_cons_zero, List.set_cons_succ]
    refine ord_take 9 (v := ?v0x9) rfl (by kernel_rfl) (by kernel_rfl) (by kernel_rfl) (fun _ _ _ h => h) (by rfl) trivial ?y0x9 ?_
    case y0x9 => (intro w hSw; clear hSw; go_simp; try with_reducible rfl)
    simp only [Act.put, List.setIfInBounds_toArray, List.set_cons_zero, List.set_cons_succ]
    refine ord_take 10 (v := ?v0x10) rfl (by kernel_rfl) (by kernel_rfl) (by kernel_rfl) (fun _ _ _ h => h) (by rfl) trivial ?y0x10 ?_
    case y0x10 => (intro w hSw; clear hSw; go_simp; try with_reducible rfl)
    simp only [Act.put, List.setIfInBounds_toArray, List.set_cons_zero, List.set_cons_succ]
    refine ord_take 11 (v := ?v0x11) rfl (by kernel_rfl) (by kernel_rfl) (by kernel_rfl) (fun _ _ _ h => h) (by rfl) trivial ?y0x11 ?_
    case y0x11 => (intro w hSw; clear hSw; go_simp; try with_reducible rfl)
    simp only [Act.put, List.setIfInBounds_toArray, List.set_cons_zero, List.set_cons_succ]
    refine ord_take 13 (v := ?v0x13) rfl (by kernel_rfl) (by kernel_rfl) (by kernel_rfl) (fun _ _ _ h => h) (by rfl) trivial ?y0x13 ?_
    case y0x13 => (intro w hSw; clear hSw; go_simp; try with_reducible rfl)
    simp only [Act.put, List.setIfInBounds_toArray, List.set_cons_zero, List.set_cons_succ]
    refine ord_take 14 (v := ?v0x14) rfl (by kernel_rfl) (by kernel_rfl) (by kernel_rfl) (fun _ _ _ h => h) (by rfl) trivial ?y0x14 ?_
    case y0x14 => (intro w hSw; clear hSw; go_simp; try with_reducible rfl)
    simp only [Act.put, List.setIfInBounds_toArray, List.set_cons_zero, List.set_cons_succ]
    refine ord_three 1 5 12 rfl rfl rfl (by kernel_rfl) (by rfl) (by rfl) (by rfl) (fun K hK => ?_) (fun K hK => ?_) (fun K hK => ?_)
    · go_wp2_with fail
      have X1 := Lib.hid (X0.out.alloc X0.out.size (.cells #[] 127))
      refine hK.out _ _ trivial (fun _ => ?_)
      clear hK
      try simp only [Act.put, List.setIfInBounds_toArray, List.set_cons_zero, List.set_cons_succ]
      refine ord_two 5 12 rfl rfl (by kernel_rfl) (by rfl) (by rfl) (fun K hK => ?_) (fun K hK => ?_)
      · have hc2 := Hc1.out _ X1.out
        go_wp2_with fail
        clear hc2
        refine hK.out _ _ trivial (fun _ => ?_)
        clear hK
        try simp only [Act.put, List.setIfInBounds_toArray, List.set_cons_zero, List.set_cons_succ]
        refine ord_take 7 (v := ?v2x7) rfl (by kernel_rfl) (by kernel_rfl) (by kernel_rfl) (fun _ _ _ h => h) (by rfl) trivial ?y2x7 ?_
        case y2x7 => (intro w hSw; clear hSw; go_simp; try with_reducible rfl)
        simp only [Act.put, List.setIfInBounds_toArray, List.set_cons_zero, List.set_cons_succ]
        refine ord_two 8 12 rfl rfl (by kernel_rfl) (by rfl) (by rfl) (fun K hK => ?_) (fun K hK => ?_)
        · have hown0 := own_emptyS Wd 127 3
          have hup := Hup.out _ X1.out
          refine wp_app (.tmp 14) (.tmp 20) 116 (by rfl) 127 iF _ 3 48 Tryz.underlying116 hFi hF0 hF1 hF2 rfl (by decide) (.slice (some ⟨Wd.heap.size, 0, none⟩) 0 0) 0 [] (by rfl) hown0 (.slice pv i cv) i _ (by rfl) hup (fun u hu => Hone.out u (List.mem_of_mem_take hu)) (by unfold maxLen; omega) (by omega) ?_
          clear hown0 hup
          intro v6 w6 hown6 hgrow6 hloc6
          have X6 := Lib.hid (X1.out.grown hgrow6 X1.out.size (fun j e => by have := X0.out.size; simp [Value.ownBlock] at e; omega))
          have hnew6 := own_ge (B := w.heap.size) hloc6 (fun k hk => by have := X0.out.size; simp [Value.ownBlock] at hk; omega) X1.out.size
          rw [Nat.zero_add, List.nil_append] at hown6
          obtain ⟨p6, c6, rfl⟩ := OwnR.shape hown6
          have Hown6 := Lib.hid hown6
          have Hnew6 := Lib.hid hnew6
          clear hgrow6 hloc6 hown6 hnew6
          refine hK.out _ _ trivial (fun _ => ?_)
          clear hK
          try simp only [Act.put, List.setIfInBounds_toArray, List.set_cons_zero, List.set_cons_succ]
          refine ord_one 12 rfl (by kernel_rfl) (by rfl) (fun K hK => ?_)
          have hc2 := Hc1.out _ X6.out
          go_wp2_with fail
          clear hc2
          refine hK.out _ _ trivial (fun _ => ?_)
          clear hK
          try simp only [Act.put, List.setIfInBounds_toArray, List.set_cons_zero, List.set_cons_succ]
          refine ord_take 15 (v := ?v4x15) rfl (by kernel_rfl) (by kernel_rfl) (by kernel_rfl) (fun _ _ _ h => h) (by rfl) trivial ?y4x15 ?_
          case y4x15 => (intro w hSw; clear hSw; go_simp; try with_reducible rfl)
          simp only [Act.put, List.setIfInBounds_toArray, List.set_cons_zero, List.set_cons_succ]
          refine ord_one 16 rfl (by kernel_rfl) (by rfl) (fun K hK => ?_)
          have hfrom := Hfrom.out _ X6.out
          refine wp_app (.tmp 21) (.tmp 28) 116 (by rfl) 127 iF _ 3 48 Tryz.underlying116 hFi hF0 hF1 hF2 rfl (by decide) (.slice p6 i c6) i _ (by rfl) Hown6.out (.slice pF (N - (i + 1)) (cv - (i + 1))) (N - (i + 1)) _ (by rfl) hfrom (fun u hu => Hone.out u (List.mem_of_mem_drop hu)) (by unfold maxLen; omega) (by omega) ?_
          clear hfrom
          intro v7 w7 hown7 hgrow7 hloc7
          have X7 := Lib.hid (X6.out.grown hgrow7 X6.out.size Hnew6.out)
          have hnew7 := own_ge (B := w.heap.size) hloc7 Hnew6.out X6.out.size
          obtain ⟨p7, c7, rfl⟩ := OwnR.shape hown7
          have Hend7 := Lib.hid (Hend.out w7 _ X7.out hown7 hnew7)
          clear hgrow7 hloc7 hown7 hnew7
          refine hK.out _ _ trivial (fun _ => ?_)
          clear hK
          try simp only [Act.put, List.setIfInBounds_toArray, List.set_cons_zero, List.set_cons_succ]
          refine ord_take 17 (v := ?v5x17) rfl (by kernel_rfl) (by kernel_rfl) (by kernel_rfl) (fun _ _ _ h => h) (by rfl) trivial ?y5x17 ?_
          case y5x17 => (intro w hSw; clear hSw; go_simp; try with_reducible rfl)
          simp only [Act.put, List.setIfInBounds_toArray, List.set_cons_zero, List.set_cons_succ]
          refine ord_take 18 (v := ?v5x18) rfl (by kernel_rfl) (by kernel_rfl) (by kernel_rfl) (fun _ _ _ h => h) (by rfl) trivial ?y5x18 ?_
          case y5x18 => (intro w hSw; clear hSw; go_simp; try with_reducible rfl)
          simp only [Act.put, List.setIfInBounds_toArray, List.set_cons_zero, List.set_cons_succ]
          refine ord_one 19 rfl (by kernel_rfl) (by rfl) (fun K hK => ?_)
          have hc2 := Hc1.out _ X7.out
          have hfz1 := Hfr.out _ X7.out
          go_wp2_with fail
          clear hc2 hfz1
          refine hK.out _ _ trivial (fun _ => ?_)
          clear hK
          try simp only [Act.put, List.setIfInBounds_toArray, List.set_cons_zero, List.set_cons_succ]
          refine wpAnyH_done (by kernel_rfl) ?_ _
          go_wp2_with fail
          go_end0
          exact Hend7.out
        · have hc2 := Hc1.out _ X1.out
          go_wp2_with fail
          clear hc2
          refine hK.out _ _ trivial (fun _ => ?_)
          clear hK
          try simp only [Act.put, List.setIfInBounds_toArray, List.set_cons_zero, List.set_cons_succ]
          refine ord_take 15 (v := ?v6x15) rfl (by kernel_rfl) (by kernel_rfl) (by kernel_rfl) (fun _ _ _ h => h) (by rfl) trivial ?y6x15 ?_
          case y6x15 => (intro w hSw; clear hSw; go_simp; try with_reducible rfl)
          simp only [Act.put, List.setIfInBounds_toArray, List.set_cons_zero, List.set_cons_succ]
          refine ord_one 8 rfl (by kernel_rfl) (by rfl) (fun K hK => ?_)
          have hown0 := own_emptyS Wd 127 3
          have hup := Hup.out _ X1.out
          refine wp_app (.tmp 14) (.tmp 20) 116 (by rfl) 127 iF _ 3 48 Tryz.underlying116 hFi hF0 hF1 hF2 rfl (by decide) (.slice (some ⟨Wd.heap.size, 0, none⟩) 0 0) 0 [] (by rfl) hown0 (.slice pv i cv) i _ (by rfl) hup (fun u hu => Hone.out u (List.mem_of_mem_take hu)) (by unfold maxLen; omega) (by omega) ?_
          clear hown0 hup
          intro v6 w6 hown6 hgrow6 hloc6
          have X6 := Lib.hid (X1.out.grown hgrow6 X1.out.size (fun j e => by have := X0.out.size; simp [Value.ownBlock] at e; omega))
          have hnew6 := own_ge (B := w.heap.size) hloc6 (fun k hk => by have := X0.out.size; simp [Value.ownBlock] at hk; omega) X1.out.size
          rw [Nat.zero_add, List.nil_append] at hown6
          obtain ⟨p6, c6, rfl⟩ := OwnR.shape hown6
          have Hown6 := Lib.hid hown6
          have Hnew6 := Lib.hid hnew6
          clear hgrow6 hloc6 hown6 hnew6
          refine hK.out _ _ trivial (fun _ => ?_)
          clear hK
          try simp only [Act.put, List.setIfInBounds_toArray, List.set_cons_zero, List.set_cons_succ]
          refine ord_one 16 rfl (by kernel_rfl) (by rfl) (fun K hK => ?_)
          have hfrom := Hfrom.out _ X6.out
          refine wp_app (.tmp 21) (.tmp 28) 116 (by rfl) 127 iF _ 3 48 Tryz.underlying116 hFi hF0 hF1 hF2 rfl (by decide) (.slice p6 i c6) i _ (by rfl) Hown6.out (.slice pF (N - (i + 1)) (cv - (i + 1))) (N - (i + 1)) _ (by rfl) hfrom (fun u hu => Hone.out u (List.mem_of_mem_drop hu)) (by unfold maxLen; omega) (by omega) ?_
          clear hfrom
          intro v7 w7 hown7 hgrow7 hloc7
          have X7 := Lib.hid (X6.out.grown hgrow7 X6.out.size Hnew6.out)
          have hnew7 := own_ge (B := w.heap.size) hloc7 Hnew6.out X6.out.size
          obtain ⟨p7, c7, rfl⟩ := OwnR.shape hown7
          have Hend7 := Lib.hid (Hend.out w7 _ X7.out hown7 hnew7)
          clear hgrow7 hloc7 hown7 hnew7
          refine hK.out _ _ trivial (fun _ => ?_)
          clear hK
          try simp only [Act.put, List.setIfInBounds_toArray, List.set_cons_zero, List.set_cons_succ]
          refine ord_take 17 (v := ?v8x17) rfl (by kernel_rfl) (by kernel_rfl) (by kernel_rfl) (fun _ _ _ h => h) (by rfl) trivial ?y8x17 ?_
          case y8x17 => (intro w hSw; clear hSw; go_simp; try with_reducible rfl)
          simp only [Act.put, List.setIfInBounds_toArray, List.set_cons_zero, List.set_cons_succ]
          refine ord_take 18 (v := ?v8x18) rfl (by kernel_rfl) (by kernel_rfl) (by kernel_rfl) (fun _ _ _ h => h) (by rfl) trivial ?y8x18 ?_
          case y8x18 => (intro w hSw; clear hSw; go_simp; try with_reducible rfl)
          simp only [Act.put, List.setIfInBounds_toArray, List.set_cons_zero, List.set_cons_succ]
          refine ord_one 19 rfl (by kernel_rfl) (by rfl) (fun K hK => ?_)
          have hc2 := Hc1.out _ X7.out
          have hfz1 := Hfr.out _ X7.out
          go_wp2_with fail
          clear hc2 hfz1
          refine hK.out _ _ trivial (fun _ => ?_)
          clear hK
          try simp only [Act.put, List.setIfInBounds_toArray, List.set_cons_zero, List.set_cons_succ]
          refine wpAnyH_done (by kernel_rfl) ?_ _
          go_wp2_with fail
          go_end0
          exact Hend7.out
      · have hc2 := Hc1.out _ X1.out
        go_wp2_with fail
        clear hc2
        refine hK.out _ _ trivial (fun _ => ?_)
        clear hK
        try simp only [Act.put, List.setIfInBounds_toArray, List.set_cons_zero, List.set_cons_succ]
        refine ord_take 15 (v := ?v9x15) rfl (by kernel_rfl) (by kernel_rfl) (by kernel_rfl) (fun _ _ _ h => h) (by rfl) trivial ?y9x15 ?_
        case y9x15 => (intro w hSw; clear hSw; go_simp; try with_reducible rfl)
        simp only [Act.put, List.setIfInBounds_toArray, List.set_cons_zero, List.set_cons_succ]
        refine ord_one 5 rfl (by kernel_rfl) (by rfl) (fun K hK => ?_)
        have hc2 := Hc1.out _ X1.out
        go_wp2_with fail
        clear hc2
        refine hK.out _ _ trivial (fun _ => ?_)
        clear hK
        try simp only [Act.put, List.setIfInBounds_toArray, List.set_cons_zero, List.set_cons_succ]
        refine ord_take 7 (v := ?v10x7) rfl (by kernel_rfl) (by kernel_rfl) (by kernel_rfl) (fun _ _ _ h => h) (by rfl) trivial ?y10x7 ?_
        case y10x7 => (intro w hSw; clear hSw; go_simp; try with_reducible rfl)
        simp only [Act.put, List.setIfInBounds_toArray, List.set_cons_zero, List.set_cons_succ]
        refine ord_one 8 rfl (by kernel_rfl) (by rfl) (fun K hK => ?_)
        have hown0 := own_emptyS Wd 127 3
        have hup := Hup.out _ X1.out
        refine wp_app (.tmp 14) (.tmp 20) 116 (by rfl) 127 iF _ 3 48 Tryz.underlying116 hFi hF0 hF1 hF2 rfl (by decide) (.slice (some ⟨Wd.heap.size, 0, none⟩) 0 0) 0 [] (by rfl) hown0 (.slice pv i cv) i _ (by rfl) hup (fun u hu => Hone.out u (List.mem_of_mem_take hu)) (by unfold maxLen; omega) (by omega) ?_
        clear hown0 hup
        intro v6 w6 hown6 hgrow6 hloc6
        have X6 := Lib.hid (X1.out.grown hgrow6 X1.out.size (fun j e => by have := X0.out.size; simp [Value.ownBlock] at e; omega))
        have hnew6 := own_ge (B := w.heap.size) hloc6 (fun k hk => by have := X0.out.size; simp [Value.ownBlock] at hk; omega) X1.out.size
        rw [Nat.zero_add, List.nil_append] at hown6
        obtain ⟨p6, c6, rfl⟩ := OwnR.shape hown6
        have Hown6 := Lib.hid hown6
        have Hnew6 := Lib.hid hnew6
        clear hgrow6 hloc6 hown6 hnew6
        refine hK.out _ _ trivial (fun _ => ?_)
        clear hK
        try simp only [Act.put, List.setIfInBounds_toArray, List.set_cons_zero, List.set_cons_succ]
        refine ord_one 16 rfl (by kernel_rfl) (by rfl) (fun K hK => ?_)
        have hfrom := Hfrom.out _ X6.out
        refine wp_app (.tmp 21) (.tmp 28) 116 (by rfl) 127 iF _ 3 48 Tryz.underlying116 hFi hF0 hF1 hF2 rfl (by decide) (.slice p6 i c6) i _ (by rfl) Hown6.out (.slice pF (N - (i + 1)) (cv - (i + 1))) (N - (i + 1)) _ (by rfl) hfrom (fun u hu => Hone.out u (List.mem_of_mem_drop hu)) (by unfold maxLen; omega) (by omega) ?_
        clear hfrom
        intro v7 w7 hown7 hgrow7 hloc7
        have X7 := Lib.hid (X6.out.grown hgrow7 X6.out.size Hnew6.out)
        have hnew7 := own_ge (B := w.heap.size) hloc7 Hnew6.out X6.out.size
        obtain ⟨p7, c7, rfl⟩ := OwnR.shape hown7
        have Hend7 := Lib.hid (Hend.out w7 _ X7.out hown7 hnew7)
        clear hgrow7 hloc7 hown7 hnew7
        refine hK.out _ _ trivial (fun _ => ?_)
        clear hK
        try simp only [Act.put, List.setIfInBounds_toArray, List.set_cons_zero, List.set_cons_succ]
        refine ord_take 17 (v := ?v12x17) rfl (by kernel_rfl) (by kernel_rfl) (by kernel_rfl) (fun _ _ _ h => h) (by rfl) trivial ?y12x17 ?_
        case y12x17 => (intro w hSw; clear hSw; go_simp; try with_reducible rfl)
        simp only [Act.put, List.setIfInBounds_toArray, List.set_cons_zero, List.set_cons_succ]
        refine ord_take 18 (v := ?v12x18) rfl (by kernel_rfl) (by kernel_rfl) (by kernel_rfl) (fun _ _ _ h => h) (by rfl) trivial ?y12x18 ?_
        case y12x18 => (intro w hSw; clear hSw; go_simp; try with_reducible rfl)
        simp only [Act.put, List.setIfInBounds_toArray, List.set_cons_zero, List.set_cons_succ]
        refine ord_one 19 rfl (by kernel_rfl) (by rfl) (fun K hK => ?_)
        have hc2 := Hc1.out _ X7.out
        have hfz1 := Hfr.out _ X7.out
        go_wp2_with fail
        clear hc2 hfz1
        refine hK.out _ _ trivial (fun _ => ?_)
        clear hK
        try simp only [Act.put, List.setIfInBounds_toArray, List.set_cons_zero, List.set_cons_succ]
        refine wpAnyH_done (by kernel_rfl) ?_ _
        go_wp2_with fail
        go_end0
        exact Hend7.out
    · have hc2 := Hc1.out _ X0.out
      go_wp2_with fail
      clear hc2
      refine hK.out _ _ trivial (fun _ => ?_)
      clear hK
      try simp only [Act.put, List.setIfInBounds_toArray, List.set_cons_zero, List.set_cons_succ]
      refine ord_take 7 (v := ?v13x7) rfl (by kernel_rfl) (by kernel_rfl) (by kernel_rfl) (fun _ _ _ h => h) (by rfl) trivial ?y13x7 ?_
      case y13x7 => (intro w hSw; clear hSw; go_simp; try with_reducible rfl)
      simp only [Act.put, List.setIfInBounds_toArray, List.set_cons_zero, List.set_cons_succ]
      refine ord_two 1 12 rfl rfl (by kernel_rfl) (by rfl) (by rfl) (fun K hK => ?_) (fun K hK => ?_)
      · go_wp2_with fail
        have X1 := Lib.hid (X0.out.alloc X0.out.size (.cells #[] 127))
        refine hK.out _ _ trivial (fun _ => ?_)
        clear hK
        try simp only [Act.put, List.setIfInBounds_toArray, List.set_cons_zero, List.set_cons_succ]
        refine ord_two 8 12 rfl rfl (by kernel_rfl) (by rfl) (by rfl) (fun K hK => ?_) (fun K hK => ?_)
        · have hown0 := own_emptyS Wd 127 3
          have hup := Hup.out _ X1.out
          refine wp_app (.tmp 14) (.tmp 20) 116 (by rfl) 127 iF _ 3 48 Tryz.underlying116 hFi hF0 hF1 hF2 rfl (by decide) (.slice (some ⟨Wd.heap.size, 0, none⟩) 0 0) 0 [] (by rfl) hown0 (.slice pv i cv) i _ (by rfl) hup (fun u hu => Hone.out u (List.mem_of_mem_take hu)) (by unfold maxLen; omega) (by omega) ?_
          clear hown0 hup
          intro v6 w6 hown6 hgrow6 hloc6
          have X6 := Lib.hid (X1.out.grown hgrow6 X1.out.size (fun j e => by have := X0.out.size; simp [Value.ownBlock] at e; omega))
          have hnew6 := own_ge (B := w.heap.size) hloc6 (fun k hk => by have := X0.out.size; simp [Value.ownBlock] at hk; omega) X1.out.size
          rw [Nat.zero_add, List.nil_append] at hown6
          obtain ⟨p6, c6, rfl⟩ := OwnR.shape hown6
          have Hown6 := Lib.hid hown6
          have Hnew6 := Lib.hid hnew6
          clear hgrow6 hloc6 hown6 hnew6
          refine hK.out _ _ trivial (fun _ => ?_)
          clear hK
          try simp only [Act.put, List.setIfInBounds_toArray, List.set_cons_zero, List.set_cons_succ]
          refine ord_one 12 rfl (by kernel_rfl) (by rfl) (fun K hK => ?_)
          have hc2 := Hc1.out _ X6.out
          go_wp2_with fail
          clear hc2
          refine hK.out _ _ trivial (fun _ => ?_)
          clear hK
          try simp only [Act.put, List.setIfInBounds_toArray, List.set_cons_zero, List.set_cons_succ]
          refine ord_take 15 (v := ?v16x15) rfl (by kernel_rfl) (by kernel_rfl) (by kernel_rfl) (fun _ _ _ h => h) (by rfl) trivial ?y16x15 ?_
          case y16x15 => (intro w hSw; clear hSw; go_simp; try with_reducible rfl)
          simp only [Act.put, List.setIfInBounds_toArray, List.set_cons_zero, List.set_cons_succ]
          refine ord_one 16 rfl (by kernel_rfl) (by rfl) (fun K hK => ?_)
          have hfrom := Hfrom.out _ X6.out
          refine wp_app (.tmp 21) (.tmp 28) 116 (by rfl) 127 iF _ 3 48 Tryz.underlying116 hFi hF0 hF1 hF2 rfl (by decide) (.slice p6 i c6) i _ (by rfl) Hown6.out (.slice pF (N - (i + 1)) (cv - (i + 1))) (N - (i + 1)) _ (by rfl) hfrom (fun u hu => Hone.out u (List.mem_of_mem_drop hu)) (by unfold maxLen; omega) (by omega) ?_
          clear hfrom
          intro v7 w7 hown7 hgrow7 hloc7
          have X7 := Lib.hid (X6.out.grown hgrow7 X6.out.size Hnew6.out)
          have hnew7 := own_ge (B := w.heap.size) hloc7 Hnew6.out X6.out.size
          obtain ⟨p7, c7, rfl⟩ := OwnR.shape hown7
          have Hend7 := Lib.hid (Hend.out w7 _ X7.out hown7 hnew7)
          clear hgrow7 hloc7 hown7 hnew7
          refine hK.out _ _ trivial (fun _ => ?_)
          clear hK
          try simp only [Act.put, List.setIfInBounds_toArray, List.set_cons_zero, List.set_cons_succ]
          refine ord_take 17 (v := ?v17x17) rfl (by kernel_rfl) (by kernel_rfl) (by kernel_rfl) (fun _ _ _ h => h) (by rfl) trivial ?y17x17 ?_
          case y17x17 => (intro w hSw; clear hSw; go_simp; try with_reducible rfl)
          simp only [Act.put, List.setIfInBounds_toArray, List.set_cons_zero, List.set_cons_succ]
          refine ord_take 18 (v := ?v17x18) rfl (by kernel_rfl) (by kernel_rfl) (by kernel_rfl) (fun _ _ _ h => h) (by rfl) trivial ?y17x18 ?_
          case y17x18 => (intro w hSw; clear hSw; go_simp; try with_reducible rfl)
          simp only [Act.put, List.setIfInBounds_toArray, List.set_cons_zero, List.set_cons_succ]
          refine ord_one 19 rfl (by kernel_rfl) (by rfl) (fun K hK => ?_)
          have hc2 := Hc1.out _ X7.out
          have hfz1 := Hfr.out _ X7.out
          go_wp2_with fail
          clear hc2 hfz1
          refine hK.out _ _ trivial (fun _ => ?_)
          clear hK
          try simp only [Act.put, List.setIfInBounds_toArray, List.set_cons_zero, List.set_cons_succ]
          refine wpAnyH_done (by kernel_rfl) ?_ _
          go_wp2_with fail
          go_end0
          exact Hend7.out
        · have hc2 := Hc1.out _ X1.out
          go_wp2_with fail
          clear hc2
          refine hK.out _ _ trivial (fun _ => ?_)
          clear hK
          try simp only [Act.put, List.setIfInBounds_toArray, List.set_cons_zero, List.set_cons_succ]
          refine ord_take 15 (v := ?v18x15) rfl (by kernel_rfl) (by kernel_rfl) (by kernel_rfl) (fun _ _ _ h => h) (by rfl) trivial ?y18x15 ?_
          case y18x15 => (intro w hSw; clear hSw; go_simp; try with_reducible rfl)
          simp only [Act.put, List.setIfInBounds_toArray, List.set_cons_zero, List.set_cons_succ]
          refine ord_one 8 rfl (by kernel_rfl) (by rfl) (fun K hK => ?_)
          have hown0 := own_emptyS Wd 127 3
          have hup := Hup.out _ X1.out
          refine wp_app (.tmp 14) (.tmp 20) 116 (by rfl) 127 iF _ 3 48 Tryz.underlying116 hFi hF0 hF1 hF2 rfl (by decide) (.slice (some ⟨Wd.heap.size, 0, none⟩) 0 0) 0 [] (by rfl) hown0 (.slice pv i cv) i _ (by rfl) hup (fun u hu => Hone.out u (List.mem_of_mem_take hu)) (by unfold maxLen; omega) (by omega) ?_
          clear hown0 hup
          intro v6 w6 hown6 hgrow6 hloc6
          have X6 := Lib.hid (X1.out.grown hgrow6 X1.out.size (fun j e => by have := X0.out.size; simp [Value.ownBlock] at e; omega))
          have hnew6 := own_ge (B := w.heap.size) hloc6 (fun k hk => by have := X0.out.size; simp [Value.ownBlock] at hk; omega) X1.out.size
          rw [Nat.zero_add, List.nil_append] at hown6
          obtain ⟨p6, c6, rfl⟩ := OwnR.shape hown6
          have Hown6 := Lib.hid hown6
          have Hnew6 := Lib.hid hnew6
          clear hgrow6 hloc6 hown6 hnew6
          refine hK.out _ _ trivial (fun _ => ?_)
          clear hK
          try simp only [Act.put, List.setIfInBounds_toArray, List.set_cons_zero, List.set_cons_succ]
          refine ord_one 16 rfl (by kernel_rfl) (by rfl) (fun K hK => ?_)
          have hfrom := Hfrom.out _ X6.out
          refine wp_app (.tmp 21) (.tmp 28) 116 (by rfl) 127 iF _ 3 48 Tryz.underlying116 hFi hF0 hF1 hF2 rfl (by decide) (.slice p6 i c6) i _ (by rfl) Hown6.out (.slice pF (N - (i + 1)) (cv - (i + 1))) (N - (i + 1)) _ (by rfl) hfrom (fun u hu => Hone.out u (List.mem_of_mem_drop hu)) (by unfold maxLen; omega) (by omega) ?_
          clear hfrom
          intro v7 w7 hown7 hgrow7 hloc7
          have X7 := Lib.hid (X6.out.grown hgrow7 X6.out.size Hnew6.out)
          have hnew7 := own_ge (B := w.heap.size) hloc7 Hnew6.out X6.out.size
          obtain ⟨p7, c7, rfl⟩ := OwnR.shape hown7
          have Hend7 := Lib.hid (Hend.out w7 _ X7.out hown7 hnew7)
          clear hgrow7 hloc7 hown7 hnew7
          refine hK.out _ _ trivial (fun _ => ?_)
          clear hK
          try simp only [Act.put, List.setIfInBounds_toArray, List.set_cons_zero, List.set_cons_succ]
          refine ord_take 17 (v := ?v20x17) rfl (by kernel_rfl) (by kernel_rfl) (by kernel_rfl) (fun _ _ _ h => h) (by rfl) trivial ?y20x17 ?_
          case y20x17 => (intro w hSw; clear hSw; go_simp; try with_reducible rfl)
          simp only [Act.put, List.setIfInBounds_toArray, List.set_cons_zero, List.set_cons_succ]
          refine ord_take 18 (v := ?v20x18) rfl (by kernel_rfl) (by kernel_rfl) (by kernel_rfl) (fun _ _ _ h => h) (by rfl) trivial ?y20x18 ?_
          case y20x18 => (intro w hSw; clear hSw; go_simp; try with_reducible rfl)
          simp only [Act.put, List.setIfInBounds_toArray, List.set_cons_zero, List.set_cons_succ]
          refine ord_one 19 rfl (by kernel_rfl) (by rfl) (fun K hK => ?_)
          have hc2 := Hc1.out _ X7.out
          have hfz1 := Hfr.out _ X7.out
          go_wp2_with fail
          clear hc2 hfz1
          refine hK.out _ _ trivial (fun _ => ?_)
          clear hK
          try simp only [Act.put, List.setIfInBounds_toArray, List.set_cons_zero, List.set_cons_succ]
          refine wpAnyH_done (by kernel_rfl) ?_ _
          go_wp2_with fail
          go_end0
          exact Hend7.out
      · have hc2 := Hc1.out _ X0.out
        go_wp2_with fail
        clear hc2
        refine hK.out _ _ trivial (fun _ => ?_)
        clear hK
        try simp only [Act.put, List.setIfInBounds_toArray, List.set_cons_zero, List.set_cons_succ]
        refine ord_take 15 (v := ?v21x15) rfl (by kernel_rfl) (by kernel_rfl) (by kernel_rfl) (fun _ _ _ h => h) (by rfl) trivial ?y21x15 ?_
        case y21x15 => (intro w hSw; clear hSw; go_simp; try with_reducible rfl)
        simp only [Act.put, List.setIfInBounds_toArray, List.set_cons_zero, List.set_cons_succ]
        refine ord_one 1 rfl (by kernel_rfl) (by rfl) (fun K hK => ?_)
        go_wp2_with fail
        have X1 := Lib.hid (X0.out.alloc X0.out.size (.cells #[] 127))
        refine hK.out _ _ trivial (fun _ => ?_)
        clear hK
        try simp only [Act.put, List.setIfInBounds_toArray, List.set_cons_zero, List.set_cons_succ]
        refine ord_one 8 rfl (by kernel_rfl) (by rfl) (fun K hK => ?_)
        have hown0 := own_emptyS Wd 127 3
        have hup := Hup.out _ X1.out
        refine wp_app (.tmp 14) (.tmp 20) 116 (by rfl) 127 iF _ 3 48 Tryz.underlying116 hFi hF0 hF1 hF2 rfl (by decide) (.slice (some ⟨Wd.heap.size, 0, none⟩) 0 0) 0 [] (by rfl) hown0 (.slice pv i cv) i _ (by rfl) hup (fun u hu => Hone.out u (List.mem_of_mem_take hu)) (by unfold maxLen; omega) (by omega) ?_
        clear hown0 hup
        intro v6 w6 hown6 hgrow6 hloc6
        have X6 := Lib.hid (X1.out.grown hgrow6 X1.out.size (fun j e => by have := X0.out.size; simp [Value.ownBlock] at e; omega))
        have hnew6 := own_ge (B := w.heap.size) hloc6 (fun k hk => by have := X0.out.size; simp [Value.ownBlock] at hk; omega) X1.out.size
        rw [Nat.zero_add, List.nil_append] at hown6
        obtain ⟨p6, c6, rfl⟩ := OwnR.shape hown6
        have Hown6 := Lib.hid hown6
        have Hnew6 := Lib.hid hnew6
        clear hgrow6 hloc6 hown6 hnew6
        refine hK.out _ _ trivial (fun _ => ?_)
        clear hK
        try simp only [Act.put, List.setIfInBounds_toArray, List.set_cons_zero, List.set_cons_succ]
        refine ord_one 16 rfl (by kernel_rfl) (by rfl) (fun K hK => ?_)
        have hfrom := Hfrom.out _ X6.out
        refine wp_app (.tmp 21) (.tmp 28) 116 (by rfl) 127 iF _ 3 48 Tryz.underlying116 hFi hF0 hF1 hF2 rfl (by decide) (.slice p6 i c6) i _ (by rfl) Hown6.out (.slice pF (N - (i + 1)) (cv - (i + 1))) (N - (i + 1)) _ (by rfl) hfrom (fun u hu => Hone.out u (List.mem_of_mem_drop hu)) (by unfold maxLen; omega) (by omega) ?_
        clear hfrom
        intro v7 w7 hown7 hgrow7 hloc7
        have X7 := Lib.hid (X6.out.grown hgrow7 X6.out.size Hnew6.out)
        have hnew7 := own_ge (B := w.heap.size) hloc7 Hnew6.out X6.out.size
        obtain ⟨p7, c7, rfl⟩ := OwnR.shape hown7
        have Hend7 := Lib.hid (Hend.out w7 _ X7.out hown7 hnew7)
        clear hgrow7 hloc7 hown7 hnew7
        refine hK.out _ _ trivial (fun _ => ?_)
        clear hK
        try simp only [Act.put, List.setIfInBounds_toArray, List.set_cons_zero, List.set_cons_succ]
        refine ord_take 17 (v := ?v24x17) rfl (by kernel_rfl) (by kernel_rfl) (by kernel_rfl) (fun _ _ _ h => h) (by rfl) trivial ?y24x17 ?_
        case y24x17 => (intro w hSw; clear hSw; go_simp; try with_reducible rfl)
        simp only [Act.put, List.setIfInBounds_toArray, List.set_cons_zero, List.set_cons_succ]
        refine ord_take 18 (v := ?v24x18) rfl (by kernel_rfl) (by kernel_rfl) (by kernel_rfl) (fun _ _ _ h => h) (by rfl) trivial ?y24x18 ?_
        case y24x18 => (intro w hSw; clear hSw; go_simp; try with_reducible rfl)
        simp only [Act.put, List.setIfInBounds_toArray, List.set_cons_zero, List.set_cons_succ]
        refine ord_one 19 rfl (by kernel_rfl) (by rfl) (fun K hK => ?_)
        have hc2 := Hc1.out _ X7.out
        have hfz1 := Hfr.out _ X7.out
        go_wp2_with fail
        clear hc2 hfz1
        refine hK.out _ _ trivial (fun _ => ?_)
        clear hK
        try simp only [Act.put, List.setIfInBounds_toArray, List.set_cons_zero, List.set_cons_succ]
        refine wpAnyH_done (by kernel_rfl) ?_ _
        go_wp2_with fail
        go_end0
        exact Hend7.out
    · have hc2 := Hc1.out _ X0.out
      go_wp2_with fail
      clear hc2
      refine hK.out _ _ trivial (fun _ => ?_)
      clear hK
      try simp only [Act.put, List.setIfInBounds_toArray, List.set_cons_zero, List.set_cons_succ]
      refine ord_take 15 (v := ?v25x15) rfl (by kernel_rfl) (by kernel_rfl) (by kernel_rfl) (fun _ _ _ h => h) (by rfl) trivial ?y25x15 ?_
      case y25x15 => (intro w hSw; clear hSw; go_simp; try with_reducible rfl)
      simp only [Act.put, List.setIfInBounds_toArray, List.set_cons_zero, List.set_cons_succ]
      refine ord_two 1 5 rfl rfl (by kernel_rfl) (by rfl) (by rfl) (fun K hK => ?_) (fun K hK => ?_)
      · go_wp2_with fail
        have X1 := Lib.hid (X0.out.alloc X0.out.size (.cells #[] 127))
        refine hK.out _ _ trivial (fun _ => ?_)
        clear hK
        try simp only [Act.put, List.setIfInBounds_toArray, List.set_cons_zero, List.set_cons_succ]
        refine ord_one 5 rfl (by kernel_rfl) (by rfl) (fun K hK => ?_)
        have hc2 := Hc1.out _ X1.out
        go_wp2_with fail
        clear hc2
        refine hK.out _ _ trivial (fun _ => ?_)
        clear hK
        try simp only [Act.put, List.setIfInBounds_toArray, List.set_cons_zero, List.set_cons_succ]
        refine ord_take 7 (v := ?v27x7) rfl (by kernel_rfl) (by kernel_rfl) (by kernel_rfl) (fun _ _ _ h => h) (by rfl) trivial ?y27x7 ?_
        case y27x7 => (intro w hSw; clear hSw; go_simp; try with_reducible rfl)
        simp only [Act.put, List.setIfInBounds_toArray, List.set_cons_zero, List.set_cons_succ]
        refine ord_one 8 rfl (by kernel_rfl) (by rfl) (fun K hK => ?_)
        have hown0 := own_emptyS Wd 127 3
        have hup := Hup.out _ X1.out
        refine wp_app (.tmp 14) (.tmp 20) 116 (by rfl) 127 iF _ 3 48 Tryz.underlying116 hFi hF0 hF1 hF2 rfl (by decide) (.slice (some ⟨Wd.heap.size, 0, none⟩) 0 0) 0 [] (by rfl) hown0 (.slice pv i cv) i _ (by rfl) hup (fun u hu => Hone.out u (List.mem_of_mem_take hu)) (by unfold maxLen; omega) (by omega) ?_
        clear hown0 hup
        intro v6 w6 hown6 hgrow6 hloc6
        have X6 := Lib.hid (X1.out.grown hgrow6 X1.out.size (fun j e => by have := X0.out.size; simp [Value.ownBlock] at e; omega))
        have hnew6 := own_ge (B := w.heap.size) hloc6 (fun k hk => by have := X0.out.size; simp [Value.ownBlock] at hk; omega) X1.out.size
        rw [Nat.zero_add, List.nil_append] at hown6
        obtain ⟨p6, c6, rfl⟩ := OwnR.shape hown6
        have Hown6 := Lib.hid hown6
        have Hnew6 := Lib.hid hnew6
        clear hgrow6 hloc6 hown6 hnew6
        refine hK.out _ _ trivial (fun _ => ?_)
        clear hK
        try simp only [Act.put, List.setIfInBounds_toArray, List.set_cons_zero, List.set_cons_succ]
        refine ord_one 16 rfl (by kernel_rfl) (by rfl) (fun K hK => ?_)
        have hfrom := Hfrom.out _ X6.out
        refine wp_app (.tmp 21) (.tmp 28) 116 (by rfl) 127 iF _ 3 48 Tryz.underlying116 hFi hF0 hF1 hF2 rfl (by decide) (.slice p6 i c6) i _ (by rfl) Hown6.out (.slice pF (N - (i + 1)) (cv - (i + 1))) (N - (i + 1)) _ (by rfl) hfrom (fun u hu => Hone.out u (List.mem_of_mem_drop hu)) (by unfold maxLen; omega) (by omega) ?_
        clear hfrom
        intro v7 w7 hown7 hgrow7 hloc7
        have X7 := Lib.hid (X6.out.grown hgrow7 X6.out.size Hnew6.out)
        have hnew7 := own_ge (B := w.heap.size) hloc7 Hnew6.out X6.out.size
        obtain ⟨p7, c7, rfl⟩ := OwnR.shape hown7
        have Hend7 := Lib.hid (Hend.out w7 _ X7.out hown7 hnew7)
        clear hgrow7 hloc7 hown7 hnew7
        refine hK.out _ _ trivial (fun _ => ?_)
        clear hK
        try simp only [Act.put, List.setIfInBounds_toArray, List.set_cons_zero, List.set_cons_succ]
        refine ord_take 17 (v := ?v29x17) rfl (by kernel_rfl) (by kernel_rfl) (by kernel_rfl) (fun _ _ _ h => h) (by rfl) trivial ?y29x17 ?_
        case y29x17 => (intro w hSw; clear hSw; go_simp; try with_reducible rfl)
        simp only [Act.put, List.setIfInBounds_toArray, List.set_cons_zero, List.set_cons_succ]
        refine ord_take 18 (v := ?v29x18) rfl (by kernel_rfl) (by kernel_rfl) (by kernel_rfl) (fun _ _ _ h => h) (by rfl) trivial ?y29x18 ?_
        case y29x18 => (intro w hSw; clear hSw; go_simp; try with_reducible rfl)
        simp only [Act.put, List.setIfInBounds_toArray, List.set_cons_zero, List.set_cons_succ]
        refine ord_one 19 rfl (by kernel_rfl) (by rfl) (fun K hK => ?_)
        have hc2 := Hc1.out _ X7.out
        have hfz1 := Hfr.out _ X7.out
        go_wp2_with fail
        clear hc2 hfz1
        refine hK.out _ _ trivial (fun _ => ?_)
        clear hK
        try simp only [Act.put, List.setIfInBounds_toArray, List.set_cons_zero, List.set_cons_succ]
        refine wpAnyH_done (by kernel_rfl) ?_ _
        go_wp2_with fail
        go_end0
        exact Hend7.out
      · have hc2 := Hc1.out _ X0.out
        go_wp2_with fail
        clear hc2
        refine hK.out _ _ trivial (fun _ => ?_)
        clear hK
        try simp only [Act.put, List.setIfInBounds_toArray, List.set_cons_zero, List.set_cons_succ]
        refine ord_take 7 (v := ?v30x7) rfl (by kernel_rfl) (by kernel_rfl) (by kernel_rfl) (fun _ _ _ h => h) (by rfl) trivial ?y30x7 ?_
        case y30x7 => (intro w hSw; clear hSw; go_simp; try with_reducible rfl)
        simp only [Act.put, List.setIfInBounds_toArray, List.set_cons_zero, List.set_cons_succ]
        refine ord_one 1 rfl (by kernel_rfl) (by rfl) (fun K hK => ?_)
        go_wp2_with fail
        have X1 := Lib.hid (X0.out.alloc X0.out.size (.cells #[] 127))
        refine hK.out _ _ trivial (fun _ => ?_)
        clear hK
        try simp only [Act.put, List.setIfInBounds_toArray, List.set_cons_zero, List.set_cons_succ]
        refine ord_one 8 rfl (by kernel_rfl) (by rfl) (fun K hK => ?_)
        have hown0 := own_emptyS Wd 127 3
        have hup := Hup.out _ X1.out
        refine wp_app (.tmp 14) (.tmp 20) 116 (by rfl) 127 iF _ 3 48 Tryz.underlying116 hFi hF0 hF1 hF2 rfl (by decide) (.slice (some ⟨Wd.heap.size, 0, none⟩) 0 0) 0 [] (by rfl) hown0 (.slice pv i cv) i _ (by rfl) hup (fun u hu => Hone.out u (List.mem_of_mem_take hu)) (by unfold maxLen; omega) (by omega) ?_
        clear hown0 hup
        intro v6 w6 hown6 hgrow6 hloc6
        have X6 := Lib.hid (X1.out.grown hgrow6 X1.out.size (fun j e => by have := X0.out.size; simp [Value.ownBlock] at e; omega))
        have hnew6 := own_ge (B := w.heap.size) hloc6 (fun k hk => by have := X0.out.size; simp [Value.ownBlock] at hk; omega) X1.out.size
        rw [Nat.zero_add, List.nil_append] at hown6
        obtain ⟨p6, c6, rfl⟩ := OwnR.shape hown6
        have Hown6 := Lib.hid hown6
        have Hnew6 := Lib.hid hnew6
        clear hgrow6 hloc6 hown6 hnew6
        refine hK.out _ _ trivial (fun _ => ?_)
        clear hK
        try simp only [Act.put, List.setIfInBounds_toArray, List.set_cons_zero, List.set_cons_succ]
        refine ord_one 16 rfl (by kernel_rfl) (by rfl) (fun K hK => ?_)
        have hfrom := Hfrom.out _ X6.out
        refine wp_app (.tmp 21) (.tmp 28) 116 (by rfl) 127 iF _ 3 48 Tryz.underlying116 hFi hF0 hF1 hF2 rfl (by decide) (.slice p6 i c6) i _ (by rfl) Hown6.out (.slice pF (N - (i + 1)) (cv - (i + 1))) (N - (i + 1)) _ (by rfl) hfrom (fun u hu => Hone.out u (List.mem_of_mem_drop hu)) (by unfold maxLen; omega) (by omega) ?_
        clear hfrom
        intro v7 w7 hown7 hgrow7 hloc7
        have X7 := Lib.hid (X6.out.grown hgrow7 X6.out.size Hnew6.out)
        have hnew7 := own_ge (B := w.heap.size) hloc7 Hnew6.out X6.out.size
        obtain ⟨p7, c7, rfl⟩ := OwnR.shape hown7
        have Hend7 := Lib.hid (Hend.out w7 _ X7.out hown7 hnew7)
        clear hgrow7 hloc7 hown7 hnew7
        refine hK.out _ _ trivial (fun _ => ?_)
        clear hK
        try simp only [Act.put, List.setIfInBounds_toArray, List.set_cons_zero, List.set_cons_succ]
        refine ord_take 17 (v := ?v33x17) rfl (by kernel_rfl) (by kernel_rfl) (by kernel_rfl) (fun _ _ _ h => h) (by rfl) trivial ?y33x17 ?_
        case y33x17 => (intro w hSw; clear hSw; go_simp; try with_reducible rfl)
        simp only [Act.put, List.setIfInBounds_toArray, List.set_cons_zero, List.set_cons_succ]
        refine ord_take 18 (v := ?v33x18) rfl (by kernel_rfl) (by kernel_rfl) (by kernel_rfl) (fun _ _ _ h => h) (by rfl) trivial ?y33x18 ?_
        case y33x18 => (intro w hSw; clear hSw; go_simp; try with_reducible rfl)
        simp only [Act.put, List.setIfInBounds_toArray, List.set_cons_zero, List.set_cons_succ]
        refine ord_one 19 rfl (by kernel_rfl) (by rfl) (fun K hK => ?_)
        have hc2 := Hc1.out _ X7.out
        have hfz1 := Hfr.out _ X7.out
        go_wp2_with fail
        clear hc2 hfz1
        refine hK.out _ _ trivial (fun _ => ?_)
        clear hK
        try simp only [Act.put, List.setIfInBounds_toArray, List.set_cons_zero, List.set_cons_succ]
        refine wpAnyH_done (by kernel_rfl) ?_ _
        go_wp2_with fail
        go_end0
        exact Hend7.out
end
end Go.Proofs.YtapfnehdgailmaaGreat

namespace Go.Proofs.YtapfnehdgailmaaGreat
open Go.RowKit Go.Sat Go.Maps

section
variable {w : World} {r : Nat} {v : Value} {L : List RFile} {own : Nat → Prop} {D : DiskM}

set_option maxRecDepth 100000 in
set_option maxHeartbeats 2000000 in
theorem rrem_calls (h : RefIn w r v L own D) (s : ByteArray) (hs : s.size ≤ 9223372036854775807) :
    Calls Tryz.prog 82 #[.pointer (some ⟨r, 0, none⟩), .string s] w (RStep w r own (D.remove [nm s])) := by
  have h1 : RefIn (w.alloc (.cells #[.string s] 9)) r v L own D := h.below ((Below.refl _ _).alloc (Nat.le_refl _) _)
  have hmay := rmay_calls h1 (some ⟨w.heap.size, 0, none⟩) [s] 1 (strs_one w s) (by simp) (by simpa using hs)
  simp only [List.map_cons, List.map_nil] at hmay
  have hE : D.remove [nm s] = D.each1 DiskM.gRemove (nm s) := each_one _ _ _
  rw [hE]
  by_cases hm : D.may [nm s] = 0
  · have hsp := spot_calls h1 s
    rw [h.is] at hsp
    rw [hm] at hmay
    cases hg : Sat.get (nm s) D.files with
    | none =>
      rw [hg] at hsp
      have hR : DiskM.each1 DiskM.gRemove D (nm s) = (D, 7) := by unfold DiskM.each1; rw [if_neg (by rw [hm]; simp), hg]
      rw [hR]
      have Hf := Lib.hid (fun q => rstep_same h (below_names w (.cells #[.string s] 9) q) 7)
      have Hmay := Lib.hid hmay
      have Hsp := Lib.hid hsp
      clear h h1 hmay hsp hm hR hg hE
      go_enter Tryz.func82, Tryz.ntmps82
      go_wp2_with fail
      refine Hmay.out.mono ?_
      rintro e w2 ⟨rfl, rfl⟩
      go_wp2_with fail
      refine Hsp.out.mono ?_
      rintro e w3 ⟨rfl, q, rfl⟩
      go_wp2_with fail
      go_ret
      exact Hf.out q
    | some f =>
      rw [hg] at hsp
      have hR : DiskM.each1 DiskM.gRemove D (nm s) = (DiskM.done { D with files := del (nm s) D.files }, 0) := by unfold DiskM.each1; rw [if_neg (by rw [hm]; simp), hg]; rfl
      rw [hR]
      have Hrm := Lib.hid (fun q => rremove_calls (h.below (below_names w (.cells #[.string s] 9) q)) s)
      have hfz := may_fuse hm
      have Hdid := Lib.hid (show ∀ q e w', RGone ((w.alloc (.cells #[.string s] 9)).drewN q) r own { D with files := del (nm s) D.files } e w' → Calls Tryz.prog 72 #[.pointer (some ⟨r, 0, none⟩)] w' (RStep w r own (DiskM.done { D with files := del (nm s) D.files }, 0)) from fun q e w' hgn => by
        obtain ⟨-, own', v', L', hin, hch, -, hx⟩ := hgn
        have hb := below_names w (.cells #[.string s] 9) q
        refine (rdid_calls hin hfz).mono fun e2 w2 h2 => ?_
        have hc2 : Chg own w w' := chg_below hb (hch.mono fun k _ e => by rw [e]; exact h.or)
        exact rstep_did hc2 (fun k hk => (hx k hk).imp id fun hh => Nat.le_trans hb.size hh) hc2.size h2)
      have Hmay := Lib.hid hmay
      have Hsp := Lib.hid hsp
      clear h h1 hmay hsp hm hR hg hE
      go_enter Tryz.func82, Tryz.ntmps82
      go_wp2_with fail
      refine Hmay.out.mono ?_
      rintro e w2 ⟨rfl, rfl⟩
      go_wp2_with fail
      refine Hsp.out.mono ?_
      rintro e w3 ⟨rfl, q, rfl⟩
      go_wp2_with fail
      refine (Hrm.out q).mono ?_
      intro e w4 h4
      have Hd := Lib.hid (Hdid.out q e w4 h4)
      obtain ⟨rfl, -⟩ := h4
      clear Hrm Hdid
      go_wp2_with fail
      refine Hd.out.mono ?_
      intro e w5 h5
      have HE := Lib.hid h5
      obtain ⟨rfl, -⟩ := h5
      go_wp2_with fail
      go_ret
      exact HE.out
  · have hR : DiskM.each1 DiskM.gRemove D (nm s) = (D, D.may [nm s]) := by unfold DiskM.each1; rw [if_pos hm]
    rw [hR]
    have Hf := Lib.hid (rstep_same h ((Below.refl _ _).alloc (Nat.le_refl _) (.cells #[.string s] 9)) (D.may [nm s]))
    have Hmay := Lib.hid hmay
    generalize D.may [nm s] = m at *
    have hne : ((m : Int) != 0) = true := by simp; omega
    clear h h1 hmay hR hE
    go_enter Tryz.func82, Tryz.ntmps82
    go_wp2_with fail
    refine Hmay.out.mono ?_
    rintro e w2 ⟨rfl, rfl⟩
    go_wp2_with fail
    go_ret
    exact Hf.out
end
end Go.Proofs.YtapfnehdgailmaaGreat

namespace Go.Proofs.YtapfnehdgailmaaGreat
open Go.RowKit Go.Sat Go.Maps

theorem put_del_same {α : Type} {L : List (Bs × α)} (h : Srt L) {n : Bs} {f : α} (hg : Sat.get n L = some f) : Sat.put n f (del n L) = L := by
  refine srt_ext (srt_put (srt_del h)) h fun m => ?_
  by_cases e : m = n
  · subst e
    rw [get_put_same (srt_del h), hg]
  · rw [get_put_other (srt_del h) f e, get_del_other h e]

section
variable {w : World} {r : Nat} {v : Value} {L : List RFile} {own : Nat → Prop} {D : DiskM}

set_option maxRecDepth 100000 in
set_option maxHeartbeats 4000000 in
theorem rren_calls (h : RefIn w r v L own D) (o s : ByteArray) (hso : o.size ≤ 9223372036854775807) (hss : s.size ≤ 9223372036854775807) :
    Calls Tryz.prog 199 #[.pointer (some ⟨r, 0, none⟩), .string o, .string s] w (RStep w r own (D.rename (nm o) (nm s))) := by
  have h1 : RefIn (w.alloc (.cells #[.string o, .string s] 9)) r v L own D := h.below ((Below.refl _ _).alloc (Nat.le_refl _) _)
  have hmay := rmay_calls h1 (some ⟨w.heap.size, 0, none⟩) [o, s] 2 (strs_two w o s) (by simp) (by simp; exact ⟨hso, hss⟩)
  simp only [List.map_cons, List.map_nil] at hmay
  by_cases hm : D.may [nm o, nm s] = 0
  · have hsp := spot_calls h1 o
    rw [h.is] at hsp
    rw [hm] at hmay
    cases hg : Sat.get (nm o) D.files with
    | none =>
      rw [hg] at hsp
      have hR : D.rename (nm o) (nm s) = (D, 7) := by unfold DiskM.rename; rw [if_neg (by rw [hm]; simp), hg]
      rw [hR]
      have Hf := Lib.hid (fun q => rstep_same h (below_names w (.cells #[.string o, .string s] 9) q) 7)
      have Hmay := Lib.hid hmay
      have Hsp := Lib.hid hsp
      clear h h1 hmay hsp hm hR hg
      go_enter Tryz.func199, Tryz.ntmps199
      go_wp2_with fail
      refine Hmay.out.mono ?_
      rintro e w2 ⟨rfl, rfl⟩
      go_wp2_with fail
      refine Hsp.out.mono ?_
      rintro e w3 ⟨rfl, q, rfl⟩
      go_wp2_with fail
      go_ret
      exact Hf.out q
    | some f =>
      rw [hg] at hsp
      have hR : D.rename (nm o) (nm s) = (DiskM.done { D with files := Sat.put (nm s) f (del (nm o) D.files) }, 0) := by unfold DiskM.rename; rw [if_neg (by rw [hm]; simp), hg]
      rw [hR]
      have hfz := may_fuse hm
      by_cases hos : nm o = nm s
      · have hb : (o.toList == s.toList) = true := by rw [ByteArray.toList_eq, ByteArray.toList_eq]; exact beq_iff_eq.2 hos
        have hD : ({ D with files := Sat.put (nm s) f (del (nm o) D.files) } : DiskM) = D := by rw [← hos, put_del_same h.ok.srt hg]
        rw [hD]
        have Hdid := Lib.hid (fun q => (rdid_calls (h.below (below_names w (.cells #[.string o, .string s] 9) q)) hfz).mono fun e2 w2 h2 =>
          rstep_did (own := own) (w := w) ((Chg.of_below (below_names w (.cells #[.string o, .string s] 9) q)).mono fun _ _ h => h.elim) (fun _ h => .inl h) (below_names w (.cells #[.string o, .string s] 9) q).size h2)
        have Hmay := Lib.hid hmay
        have Hsp := Lib.hid hsp
        clear h h1 hmay hsp hm hR hg hD hos
        go_enter Tryz.func199, Tryz.ntmps199
        go_wp2_with fail
        refine Hmay.out.mono ?_
        rintro e w2 ⟨rfl, rfl⟩
        go_wp2_with fail
        refine Hsp.out.mono ?_
        rintro e w3 ⟨rfl, q, rfl⟩
        go_wp2_with fail
        refine (Hdid.out q).mono ?_
        intro e w5 h5
        have HE := Lib.hid h5
        obtain ⟨rfl, -⟩ := h5
        go_wp2_with fail
        go_ret
        exact HE.out
      · have hb : (o.toList == s.toList) = false := by
          rw [ByteArray.toList_eq, ByteArray.toList_eq, beq_eq_false_iff_ne]
          exact hos
        obtain ⟨x, hx, hxn, rfl⟩ := h.hit hg
        have hN : spotN (nm o) (L.map RFile.n) < L.length := (List.getElem?_eq_some_iff.1 hx).1
        rcases h.at with h0 | ⟨g, c0, hgv, hlc, -⟩
        · rw [h0] at hN
          simp at hN
        have hgo : v.ownBlock = some g := by rw [hgv]; rfl
        generalize spotN (nm o) (L.map RFile.n) = i at *
        have Hcells := Lib.hid (show ∀ W, Below w.heap.size w W → W.cell? ⟨r, 1, none⟩ = some (.slice (some ⟨g, 0, none⟩) L.length c0) ∧ W.cell? ⟨g, i * 3, none⟩ = some (.string ⟨x.n.toArray⟩) ∧ W.cell? ⟨g, i * 3 + 1, none⟩ = some x.b ∧ W.cell? ⟨g, i * 3 + 2, none⟩ = some (.int .i64 (x.f.lasts : Int)) from fun W hb => by
          have hW := h.below hb
          have hc := hW.core.at hgo hx
          exact ⟨hW.c1.trans (by rw [hgv]), hc.1, hc.2.1, hc.2.2⟩)
        obtain ⟨px, cx, ex, -⟩ := own_slice (h.data x (List.mem_of_getElem? hx))
        rw [ex] at Hcells
        have H := Lib.hid h
        have Hok := Lib.hid (ok_rename h.ok hg (show okN (nm s) = true from List.all_eq_true.1 (may_zero hm).2 (nm s) (by simp)))
        have Hmay := Lib.hid hmay
        have Hsp := Lib.hid hsp
        clear h h1 hmay hsp hm hR hg hlc
        subst hgv
        go_enter Tryz.func199, Tryz.ntmps199
        go_wp2_with fail
        refine Hmay.out.mono ?_
        rintro e w2 ⟨rfl, rfl⟩
        go_wp2_with fail
        refine Hsp.out.mono ?_
        rintro e w3 ⟨rfl, q, rfl⟩
        have HbW := Lib.hid (below_names w (.cells #[.string o, .string s] 9) q)
        obtain ⟨hc1, hc2, hc3, hc4⟩ := Hcells.out _ HbW.out
        generalize (w.alloc (.cells #[.string o, .string s] 9)).drewN q = W at *
        have Hx := Lib.hid hx
        generalize hmx : x.f.data.length = mx at *
        generalize hla : x.f.lasts = la at *
        have Hmx := Lib.hid hmx
        have Hla := Lib.hid hla
        have Hhos := Lib.hid hos
        have Hex := Lib.hid ex
        clear hos hx hmx hla Hcells ex
        go_wp2_with fail
        have XF := Lib.hid (HbW.out.alloc HbW.out.size (.cells #[.string s, .slice px mx cx, .int .i64 (la : Int)] 127))
        have hfb0 : (W.alloc (.cells #[.string s, .slice px mx cx, .int .i64 (la : Int)] 127)).heap[W.heap.size]? = some (.cells #[.string s, .slice px mx cx, .int .i64 (la : Int)] 127 (0, 0)) := new_block W _
        have hfr0 : W.heap.size ≠ r := fun e => by have h1 := H.out.olt r H.out.or; have h2 := HbW.out.size; omega
        have hfl0 : W.heap.size < (W.alloc (.cells #[.string s, .slice px mx cx, .int .i64 (la : Int)] 127)).heap.size := by simp
        have Hfb0 := Lib.hid (And.intro hfb0 (And.intro hfr0 hfl0))
        clear hfb0 hfr0 hfl0
        generalize W.heap.size = fb at *
        have hinF := H.out.below XF.out
        generalize W.alloc (.cells #[.string s, .slice px mx cx, .int .i64 (la : Int)] 127) = Wf at *
        have Hrm1 := Lib.hid (rremove_calls hinF o)
        clear hinF hc1 hc2 hc3 hc4
        refine Hrm1.out.mono ?_
        rintro e w4 ⟨rfl, own4, v4, L4, hin4, hch4, hsub4, hx4⟩
        have Hr4 := Lib.hid (And.intro hch4 (And.intro hsub4 hx4))
        have Hrm2 := Lib.hid (rremove_calls hin4 s)
        clear hin4 hch4 hsub4 hx4 Hrm1
        go_wp2_with fail
        refine Hrm2.out.mono ?_
        rintro e w5 ⟨rfl, own5, v5, L5, hin5, hch5, hsub5, hx5⟩
        have hin5 : RefIn w5 r v5 L5 own5 { D with files := del (nm s) (del (nm o) D.files) } := hin5
        have hsp5 := spot_calls hin5 s
        have hg5 : Sat.get (nm s) (del (nm s) (del (nm o) D.files)) = none := get_del_same _ _
        rw [hin5.is, show Sat.get (nm s) ({ D with files := del (nm s) (del (nm o) D.files) } : DiskM).files = none from hg5] at hsp5
        have Hin5 := Lib.hid hin5
        have Hr5 := Lib.hid (And.intro hch5 (And.intro hsub5 hx5))
        have Hsp5 := Lib.hid hsp5
        have Hg5 := Lib.hid hg5
        clear hin5 hch5 hsub5 hx5 Hrm2 hsp5 hg5
        go_wp2_with fail
        refine Hsp5.out.mono ?_
        rintro e w6 ⟨rfl, q6, rfl⟩
        have hins := ins_at (nm s) x.f Hin5.out.ok.srt Hg5.out
        have hle : spotN (nm s) (L5.map RFile.n) ≤ L5.length := by have := spotN_le (nm s) (L5.map RFile.n); rwa [List.length_map] at this
        rw [← Hin5.out.names, Hin5.out.files] at hins
        generalize spotN (nm s) (L5.map RFile.n) = j at *
        have hbq : Below w5.heap.size w5 (w5.drewN q6) := ⟨rfl, rfl, rfl, Nat.le_refl _, fun _ _ => rfl⟩
        have Hinq := Lib.hid (Hin5.out.below hbq)
        obtain ⟨pv, cv, hgv⟩ := Hin5.out.slice
        have hNc : L5.length ≤ cv := by
          rcases Hin5.out.at with h0 | ⟨g, c0, e, hc, -⟩
          · rw [h0]; exact Nat.zero_le _
          · rw [hgv] at e; cases e; exact hc
        have hfit := Hin5.out.fit
        -- the new file's block and its row are as they were
        have hfq : (w5.drewN q6).heap[fb]? = some (.cells #[.string s, .slice px mx cx, .int .i64 (la : Int)] 127 (0, 0)) := by
          have h4 := Hr4.out.1.block fb Hfb0.out.2.2 Hfb0.out.2.1
          have h5 := Hr5.out.1.block fb (Nat.lt_of_lt_of_le Hfb0.out.2.2 Hr4.out.1.size) Hfb0.out.2.1
          exact h5.trans (h4.trans Hfb0.out.1)
        have hrow : OwnB (w5.drewN q6) 5 (.slice px mx cx) x.f.data ∧ ∀ k, (Value.slice px mx cx).ownBlock = some k → own5 k ∧ k ≠ r := by
          have hxm := List.mem_of_getElem? Hx.out
          have hinF := H.out.below XF.out
          have hob := H.out.ob x hxm
          have hda := hinF.data x hxm
          rw [Hex.out] at hob hda
          refine ⟨OwnR.keep hda fun k hk => ?_, fun k hk => ⟨Hr5.out.2.1 k (Hr4.out.2.1 k (hob k hk).1), (hob k hk).2.1⟩⟩
          have hk1 := hinF.olt k (hob k hk).1
          have h4 := Hr4.out.1.block k hk1 (hob k hk).2.1
          have h5 := Hr5.out.1.block k (Nat.lt_of_lt_of_le hk1 Hr4.out.1.size) (hob k hk).2.1
          exact h5.trans h4
        have hchq : Chg (fun k => k = r) w (w5.drewN q6) := by
          have h4 := chg_below (own := fun k => k = r) XF.out Hr4.out.1
          have h5 := h4.trans Hr5.out.1 fun _ _ h => h
          exact h5.trans ((Chg.of_below hbq).mono (T := fun _ => False) fun _ _ h => h) fun _ _ h => h.elim
        have hxq : ∀ k, own5 k → own k ∨ w.heap.size ≤ k := fun k hk => by
          rcases Hr5.out.2.2 k hk with h | h
          · rcases Hr4.out.2.2 k h with h | h
            · exact .inl h
            · exact .inr (Nat.le_trans XF.out.size h)
          · exact .inr (Nat.le_trans (Nat.le_trans XF.out.size Hr4.out.1.size) h)
        have Hq := Lib.hid (And.intro hfq (And.intro hrow (And.intro hchq hxq)))
        have Hins := Lib.hid hins
        clear hfq hrow hchq hxq hins Hr4 Hr5 Hin5 Hsp5 hbq XF
        generalize w5.drewN q6 = Wq at *
        subst hgv
        have hfbl : fb < Wq.heap.size := lt_of_block Hq.out.1
        have Hfb := Lib.hid (show ∀ W', Below Wq.heap.size Wq W' → W'.cell? ⟨fb, 0, none⟩ = some (.string s) ∧ W'.cell? ⟨fb, 1, none⟩ = some (.slice px mx cx) ∧ W'.cell? ⟨fb, 2, none⟩ = some (.int .i64 (la : Int)) from fun W' hb =>
          ⟨(hb.cell (p := ⟨fb, 0, none⟩) hfbl).trans (cell_of Hq.out.1 rfl), (hb.cell (p := ⟨fb, 1, none⟩) hfbl).trans (cell_of Hq.out.1 rfl), (hb.cell (p := ⟨fb, 2, none⟩) hfbl).trans (cell_of Hq.out.1 rfl)⟩)
        have Hc1 := Lib.hid (show ∀ W', Below Wq.heap.size Wq W' → W'.cell? ⟨r, 1, none⟩ = some (.slice pv L5.length cv) from fun W' hb => (Hinq.out.below hb).c1)
        have Hfr := Lib.hid (show ∀ W', Below Wq.heap.size Wq W' → W'.frozen? ⟨r, 1, none⟩ = false from fun W' hb => frozen_of (Hinq.out.below hb).cells 1)
        have Hrow := Lib.hid (show ∀ W', Below Wq.heap.size Wq W' → OwnR W' 127 3 (.slice pv L5.length cv) L5.length (L5.flatMap RFile.cells) from fun W' hb => (Hinq.out.below hb).row)
        have Hone := Lib.hid (cells_one Hinq.out.core.one)
        obtain ⟨iF, hFi, hF0, hF1, hF2⟩ := info_parts (show (Tryz.prog.info? 127).map (fun i => (i.zero, i.size, i.bytes)) = some (some (.agg #[.string ⟨#[]⟩, .slice none 0 0, .int .i64 0]), 3, 48) by kernel_rfl)
        have hs1 : ∀ W, (Instr.slice 116 (.slice pv L5.length cv) none (some (.int .i64 (j : Int))) none).run Tryz.prog W = .ok (.slice pv j cv) W := fun W => run_upto W Tryz.underlying116 hFi pv _ cv j (by omega)
        have hs2 : ∀ W, (Instr.slice 116 (.slice pv L5.length cv) (some (.int .i64 (j : Int))) none none).run Tryz.prog W = .ok (.slice (if cv - j = 0 then pv else pv.map fun x => x.add (j * 3)) (L5.length - j) (cv - j)) W := fun W => by
          have := run_from_any (P := Tryz.prog) W Tryz.underlying116 hFi pv L5.length cv j hle hNc
          rw [hF1] at this
          exact this
        have Hfrom := Lib.hid (show ∀ W', Below Wq.heap.size Wq W' → Holds W' 3 (.slice (if cv - j = 0 then pv else pv.map fun x => x.add (j * 3)) (L5.length - j) (cv - j)) (L5.length - j) ((L5.flatMap RFile.cells).drop (j * 3)) from fun W' hb => OwnR.cut_from (Hrow.out W' hb) hle)
        generalize hpF : (if cv - j = 0 then pv else pv.map fun x => x.add (j * 3)) = pF at *
        have X1 := Lib.hid ((Below.refl Wq.heap.size Wq).alloc (Nat.le_refl _) (.cells #[] 127))
        have hc1a := Hc1.out _ X1.out
        have Hup := Lib.hid (show Holds (Wq.alloc (.cells #[] 127)) 3 (.slice pv j cv) j ((L5.flatMap RFile.cells).take (j * 3)) from Holds.upto (OwnR.holds (Hrow.out _ X1.out)) hle cv)
        clear hpF
        generalize hN5 : L5.length = N at *
        have HN := Lib.hid hN5
        clear hN5
        go_wp2_with (first | (at_builtin; refine wpList_app (Wq.alloc (.cells #[] 127)) rfl (.tmp 56) (.tmp 62) 116 rfl 127 iF _ 3 48 Tryz.underlying116 hFi hF0 hF1 hF2 rfl (by decide) (.slice (some ⟨Wq.heap.size, 0, none⟩) 0 0) 0 [] rfl (own_emptyS Wq _ 3) (.slice pv j cv) j _ rfl Hup.out (fun u hu => Hone.out u (List.mem_of_mem_take hu)) (by unfold maxLen; omega) (by omega) ?_; intro v12 w12 hown12 hgrow12 hloc12; rw [Nat.zero_add, List.nil_append] at hown12; have hX := X1.out.grown hgrow12 X1.out.size (fun j e => by simp [Value.ownBlock] at e; omega); have hnew := own_ge (B := Wq.heap.size) hloc12 (fun k hk => by simp [Value.ownBlock] at hk; omega) X1.out.size; obtain ⟨p12, c12, rfl⟩ := OwnR.shape hown12; have X12 := Lib.hid (And.intro hX (And.intro hown12 hnew)); obtain ⟨hf1, hf2, hf3⟩ := Hfb.out _ X12.out.1; clear hown12 hgrow12 hloc12 hX hnew hc1a) | (at_builtin; refine wpList_app (w12.alloc (.cells #[.string s, .slice px mx cx, .int .i64 (la : Int)] 127)) rfl (.tmp 64) (.tmp 66) 116 rfl 127 iF _ 3 48 Tryz.underlying116 hFi hF0 hF1 hF2 rfl (by decide) (.slice p12 j c12) j _ rfl (OwnR.keep X12.out.2.1 fun j hj => alloc_was w12 _ (OwnR.lt X12.out.2.1 hj)) (.slice (some ⟨w12.heap.size, 0, none⟩) 1 1) 1 [.string s, .slice px mx cx, .int .i64 (la : Int)] rfl (holds_lit w12 #[.string s, .slice px mx cx, .int .i64 (la : Int)] _ 3 1 1 rfl rfl _ _) (fun u hu => by simp at hu; rcases hu with rfl | rfl | rfl <;> rfl) (by unfold maxLen; omega) (by omega) ?_; intro v13 w13 hown13 hgrow13 hloc13; have hXa := X12.out.1.alloc X12.out.1.size (.cells #[.string s, .slice px mx cx, .int .i64 (la : Int)] 127); have hX := hXa.grown hgrow13 hXa.size (fun j hj => X12.out.2.2 j hj); have hnew := own_ge (B := Wq.heap.size) hloc13 X12.out.2.2 hXa.size; obtain ⟨p13, c13, rfl⟩ := OwnR.shape hown13; have X13 := Lib.hid (And.intro hX (And.intro hown13 hnew)); have hc1b := Hc1.out _ X13.out.1; clear hown13 hgrow13 hloc13 hX hnew hXa hf1 hf2 hf3) | (at_builtin; refine wpList_app w13 rfl (.tmp 69) (.tmp 75) 116 rfl 127 iF _ 3 48 Tryz.underlying116 hFi hF0 hF1 hF2 rfl (by decide) (.slice p13 (j + 1) c13) (j + 1) _ rfl X13.out.2.1 (.slice pF (N - j) (cv - j)) (N - j) _ rfl (Hfrom.out w13 X13.out.1) (fun u hu => Hone.out u (List.mem_of_mem_drop hu)) (by unfold maxLen; omega) (by omega) ?_; intro v14 w14 hown14 hgrow14 hloc14; have hX := X13.out.1.grown hgrow14 X13.out.1.size (fun j hj => X13.out.2.2 j hj); have hnew := own_ge (B := Wq.heap.size) hloc14 X13.out.2.2 X13.out.1.size; obtain ⟨p14, c14, rfl⟩ := OwnR.shape hown14; have X14 := Lib.hid (And.intro hX (And.intro hown14 hnew)); have hc1c := Hc1.out _ X14.out.1; have hfrc := Hfr.out _ X14.out.1; clear hown14 hgrow14 hloc14 hX hnew hc1b))
        have hs14 := X14.out.1
        have hcore0 : RefCore w14 r (.slice pv N cv) L5 own5 D.room D.fuse := (Hinq.out.below hs14).core
        have es : Value.string s = encStr (nm s) := by rw [enc_str]; simp [nm]
        have hlen' : (L5.take j ++ (⟨nm s, .slice px mx cx, x.f⟩ : RFile) :: L5.drop j).length = j + 1 + (N - j) := by
          rw [List.length_append, List.length_take, List.length_cons, List.length_drop, HN.out]
          omega
        have hrow' : OwnR w14 127 3 (.slice p14 (j + 1 + (N - j)) c14) (L5.take j ++ (⟨nm s, .slice px mx cx, x.f⟩ : RFile) :: L5.drop j).length ((L5.take j ++ (⟨nm s, .slice px mx cx, x.f⟩ : RFile) :: L5.drop j).flatMap RFile.cells) := by
          rw [hlen', List.flatMap_append, List.flatMap_cons, cells_take, cells_drop, ← List.append_assoc]
          show OwnR w14 _ 3 _ _ (((L5.flatMap RFile.cells).take (j * 3) ++ [encStr (nm s), .slice px mx cx, .int .i64 (x.f.lasts : Int)]) ++ _)
          rw [← es, Hla.out]
          exact X14.out.2.1
        have hfresh : ∀ k, (Value.slice p14 (j + 1 + (N - j)) c14).ownBlock = some k → ¬ own5 k := fun k hk ho => by
          have h1 := X14.out.2.2 k hk
          have h2 := Hinq.out.olt k ho
          omega
        have hcore := hcore0.relist hrow' (fun y hy => by
          rcases List.mem_append.1 hy with hy | hy
          · exact .inl (List.mem_of_mem_take hy)
          · rcases List.mem_cons.1 hy with rfl | hy
            · exact .inr ⟨OwnR.keep Hq.out.2.1.1 fun k hk => hs14.block k (OwnR.lt Hq.out.2.1.1 hk), Hq.out.2.1.2⟩
            · exact .inl (List.mem_of_mem_drop hy)) hfresh
        have hF : Sat.put (nm s) x.f (del (nm o) D.files) = (L5.take j ++ (⟨nm s, .slice px mx cx, x.f⟩ : RFile) :: L5.drop j).map RFile.key := by
          have e1 : Sat.put (nm s) x.f (del (nm o) D.files) = ins (nm s, x.f) (del (nm s) (del (nm o) D.files)) := rfl
          have e2 : del (nm s) (del (nm o) D.files) = L5.map RFile.key := Hinq.out.files
          rw [e1, e2, Hins.out, List.map_append, List.map_cons, List.map_take, List.map_drop]
          rfl
        have hfin : RefIn (w14.setCell ⟨r, 1, none⟩ (.slice p14 (j + 1 + (N - j)) c14)) r (.slice p14 (j + 1 + (N - j)) c14) _ _ { D with files := Sat.put (nm s) x.f (del (nm o) D.files) } := hcore.full rfl rfl hF Hok.out
        have hc14 : Chg (fun k => k = r) w (w14.setCell ⟨r, 1, none⟩ (.slice p14 (j + 1 + (N - j)) c14)) :=
          (Hq.out.2.2.1.trans ((Chg.of_below hs14).mono (T := fun _ => False) fun _ _ h => h) fun _ _ h => h.elim).trans (chg_own (own := fun k => k = r) (w := w14) (a := ⟨r, 1, none⟩) rfl) fun _ _ h => h
        have hch14 : Chg own w (w14.setCell ⟨r, 1, none⟩ (.slice p14 (j + 1 + (N - j)) c14)) := hc14.mono fun k _ e => by rw [e]; exact H.out.or
        have hsz := Hq.out.2.2.1.size
        have hext : ∀ k, (own5 k ∨ (Value.slice p14 (j + 1 + (N - j)) c14).ownBlock = some k) → own k ∨ w.heap.size ≤ k := fun k hk => by
          rcases hk with hk | hk
          · exact Hq.out.2.2.2 k hk
          · exact .inr (Nat.le_trans hsz (X14.out.2.2 k hk))
        have Hdid := Lib.hid ((rdid_calls hfin hfz).mono fun e2 w2 h2 => rstep_did hch14 hext hch14.size h2)
        clear hs14 hcore0 es hlen' hrow' hfresh hcore hF hfin hc14 hch14 hsz hext
        refine Hdid.out.mono ?_
        intro e w15 h15
        have HE := Lib.hid h15
        obtain ⟨rfl, -⟩ := h15
        go_wp2_with fail
        go_ret
        exact HE.out
  · have hR : D.rename (nm o) (nm s) = (D, D.may [nm o, nm s]) := by unfold DiskM.rename; rw [if_pos hm]
    rw [hR]
    have Hf := Lib.hid (rstep_same h ((Below.refl _ _).alloc (Nat.le_refl _) (.cells #[.string o, .string s] 9)) (D.may [nm o, nm s]))
    have Hmay := Lib.hid hmay
    generalize D.may [nm o, nm s] = m at *
    have hne : ((m : Int) != 0) = true := by simp; omega
    clear h h1 hmay hR
    go_enter Tryz.func199, Tryz.ntmps199
    go_wp2_with fail
    refine Hmay.out.mono ?_
    rintro e w2 ⟨rfl, rfl⟩
    go_wp2_with fail
    go_ret
    exact Hf.out
end
end Go.Proofs.YtapfnehdgailmaaGreat

namespace Go.Proofs.YtapfnehdgailmaaGreat
open Go.RowKit Go.Sat Go.Maps

section
variable {w : World} {r : Nat} {v : Value} {L : List RFile} {own : Nat → Prop} {D : DiskM}

theorem RefCore.left {room : Nat} {fuse : Option Nat} (h : RefCore w r v L own room fuse) (f : Option Nat) : RefCore (w.setCell ⟨r, 2, none⟩ (.int .i64 (leftOf f))) r v L own room f where
  cells := set_block h.cells 2 _
  row := h.row.keep fun k hk => set_other _ (h.ov k hk).2
  data := fun x hx => OwnR.keep (h.data x hx) fun k hk => set_other _ (h.ob x hx k hk).2.1
  or := h.or
  ov := h.ov
  ob := h.ob
  olt := fun k hk => by
    have := h.olt k hk
    simpa [World.setCell] using this

end
end Go.Proofs.YtapfnehdgailmaaGreat

namespace Go.Proofs.YtapfnehdgailmaaGreat
open Go.RowKit Go.Sat Go.Maps

section
variable {w : World} {r : Nat} {v : Value} {L : List RFile} {own : Nat → Prop} {D : DiskM}

/-- Behind k rounds: the copy so far. -/
structure RCopy (w W : World) (r2 : Nat) (v2 : Value) (L : List RFile) (D : DiskM) (k : Nat) (M : List RFile) (own2 : Nat → Prop) : Prop where
  core : RefCore W r2 v2 M own2 D.room none
  keys : M.map RFile.key = (L.take k).map RFile.key
  new : ∀ j, own2 j → w.heap.size ≤ j
  bel : Below w.heap.size w W

theorem RCopy.len {W : World} {r2 : Nat} {v2 : Value} {k : Nat} {M : List RFile} {own2 : Nat → Prop} (h : RCopy w W r2 v2 L D k M own2) (hk : k ≤ L.length) : M.length = k := by
  have := congrArg List.length h.keys
  rw [List.length_map, List.length_map, List.length_take, Nat.min_eq_left hk] at this
  exact this

end
end Go.Proofs.YtapfnehdgailmaaGreat

namespace Go.Proofs.YtapfnehdgailmaaGreat
open Go.RowKit Go.Sat Go.Maps

/-- Both lie in what is new since w; neither has what is the other's. -/
def Pair (w w1 : World) (d : Nat) (D : DiskM) (r : Nat) (R : DiskM) : Prop := ∃ own v L, St w w1 d D own ∧ RefIn w1 r v L own R ∧ ∀ k, own k → w.heap.size ≤ k

section
variable {w w1 : World} {d : Nat} {D : DiskM} {r : Nat} {R : DiskM}

theorem Pair.bel (h : Pair w w1 d D r R) : Below w.heap.size w w1 := let ⟨_, _, _, hS, _, _⟩ := h; hS.below
theorem Pair.okD (h : Pair w w1 d D r R) : D.OK := let ⟨_, _, _, hS, _, _⟩ := h; hS.ok
theorem Pair.next (h : Pair w w1 d D r R) {w2 : World} (hb : Below w1.heap.size w1 w2) : Pair w w2 d D r R := by
  obtain ⟨own, v, L, hS, hR, hn⟩ := h
  exact ⟨own, v, L, hS.next hb, hR.below hb, hn⟩
theorem Pair.alloc (h : Pair w w1 d D r R) (o : Obj) : Pair w (w1.alloc o) d D r R := h.next ((Below.refl _ _).alloc (Nat.le_refl _) o)
theorem Pair.drewN (h : Pair w w1 d D r R) (n : Nat) : Pair w (w1.drewN n) d D r R := h.next ⟨rfl, rfl, rfl, Nat.le_refl _, fun _ _ => rfl⟩

theorem RefIn.same {w2 : World} {own : Nat → Prop} {v : Value} {L : List RFile} (h : RefIn w1 r v L own R) (hS : St w w2 d D own) (hs : Same own w1 w2) : RefIn w2 r v L own R where
  cells := (hs r h.or).trans h.cells
  row := h.row.keep fun k hk => hs k (h.ov k hk).1
  files := h.files
  data := fun x hx => OwnR.keep (h.data x hx) fun k hk => hs k (h.ob x hx k hk).1
  or := h.or
  ov := h.ov
  ob := h.ob
  olt := fun _ hk => hS.flt hk
  ok := h.ok

end
end Go.Proofs.YtapfnehdgailmaaGreat

namespace Go.Proofs.YtapfnehdgailmaaGreat
open Go.RowKit Go.Sat Go.Maps

section
variable {w : World} {r : Nat} {v : Value} {L : List RFile} {own : Nat → Prop} {D : DiskM}

theorem rhas_calls (h : RefIn w r v L own D) (s : ByteArray) :
    Calls Tryz.prog 198 #[.pointer (some ⟨r, 0, none⟩), .string s] w fun e w' => e = .returned (.bool (Sat.get (nm s) D.files).isSome) ∧ Below w.heap.size w w' := by
  have H := Lib.hid (rread_calls h s)
  clear h
  cases hg : Sat.get (nm s) D.files with
  | none =>
    rw [hg] at H
    go_enter Tryz.func198, Tryz.ntmps198
    go_wp2_with fail
    refine H.out.mono ?_
    rintro e w' ⟨v, rfl, -, -, hb⟩
    have Hf := Lib.hid hb
    clear hb
    go_wp2_with fail
    go_ret
    exact ⟨rfl, Hf.out⟩
  | some f =>
    rw [hg] at H
    go_enter Tryz.func198, Tryz.ntmps198
    go_wp2_with fail
    refine H.out.mono ?_
    rintro e w' ⟨v, rfl, -, -, hb⟩
    have Hf := Lib.hid hb
    clear hb
    go_wp2_with fail
    go_ret
    exact ⟨rfl, Hf.out⟩

def RGotL (w : World) (o : Option FileM) (e : Ending) (w' : World) : Prop :=
  ∃ v, e = .returned (.tuple #[v, .int .i64 (loadE o : Int)]) ∧ OwnB w' 5 v (loadB o) ∧ (∀ k, v.ownBlock = some k → w.heap.size ≤ k) ∧ Below w.heap.size w w'

theorem rload_calls (h : RefIn w r v L own D) (s : ByteArray) :
    Calls Tryz.prog 83 #[.pointer (some ⟨r, 0, none⟩), .string s] w (RGotL w (Sat.get (nm s) D.files)) := by
  have hln := data_len h.ok (nm s)
  have H := Lib.hid (rread_calls h s)
  clear h
  cases hg : Sat.get (nm s) D.files with
  | none =>
    rw [hg] at H
    clear hln
    go_enter Tryz.func83, Tryz.ntmps83
    go_wp2_with fail
    refine H.out.mono ?_
    rintro e w2 ⟨v, rfl, -, -, hb⟩
    have Hf := Lib.hid (show RGotL w none (.returned (.tuple #[.slice none 0 0, .int .i64 7])) w2 from ⟨.slice none 0 0, by rw [loadE_none]; rfl, by rw [loadB_none]; exact OwnR.nil _ _ _, fun k hk => (by cases hk), hb⟩)
    clear hb
    go_wp2_with fail
    go_ret2
    exact Hf.out
  | some f =>
    rw [hg] at H hln
    go_enter Tryz.func83, Tryz.ntmps83
    go_wp2_with fail
    refine H.out.mono ?_
    rintro e w2 ⟨v, rfl, hv, -, hb⟩
    obtain ⟨p, c, rfl, hnc⟩ := own_slice hv
    have H1 := Lib.hid (rone_calls hv.has hnc (by omega))
    have Hb := Lib.hid hb
    have hE := loadE_some f
    have hB := loadB_some f
    generalize dataOf (some f) = b at *
    generalize hN : b.length = N at *
    clear hv hb hnc hln
    go_wp2_with fail
    refine H1.out.mono ?_
    rintro e w3 ⟨v, rfl, hv, hn, hb3⟩
    have hb4 := Hb.out.trans (hb3.mono Hb.out.size)
    by_cases he : oneE b = 0
    · have Hf := Lib.hid (show RGotL w (some f) (.returned (.tuple #[v, .int .i64 0])) w3 from ⟨v, by rw [hE, if_pos he]; rfl, by rw [hB]; exact hv, fun k hk => Nat.le_trans Hb.out.size (hn k hk), hb4⟩)
      rw [he]
      clear hv hn hb3 hb4
      go_wp2_with fail
      go_ret2
      exact Hf.out
    · have Hf := Lib.hid (show RGotL w (some f) (.returned (.tuple #[.slice none 0 0, .int .i64 3])) w3 from ⟨.slice none 0 0, by rw [hE, if_neg he]; rfl, by rw [hB]; unfold oneB; rw [if_neg he]; exact OwnR.nil _ _ _, fun k hk => (by cases hk), hb4⟩)
      have hne : ((oneE b : Int) != 0) = true := by simp; omega
      generalize oneE b = E at *
      clear hv hn hb3 hb4
      go_wp2_with fail
      go_ret2
      exact Hf.out
end
end Go.Proofs.YtapfnehdgailmaaGreat

namespace Go.Proofs.YtapfnehdgailmaaGreat
open Go.RowKit Go.Sat Go.Maps

def RSt (w0 w1 : World) (r : Nat) (own0 : Nat → Prop) (D : DiskM) (F : Nat → Prop) : Prop :=
  ∃ own v L, RefIn w1 r v L own D ∧ Chg own0 w0 w1 ∧ (∀ k, own k → (own0 k ∨ w0.heap.size ≤ k) ∧ ¬ F k) ∧ ∀ k, F k → k < w1.heap.size

section
variable {w w0 w1 w2 : World} {r : Nat} {v : Value} {L : List RFile} {own own0 : Nat → Prop} {D : DiskM} {F : Nat → Prop}

theorem RSt.start (h : RefIn w r v L own D) (hb : Below w.heap.size w w1) (hF : ∀ k, F k → ¬ own k ∧ k < w1.heap.size) : RSt w w1 r own D F :=
  ⟨own, v, L, h.below hb, (Chg.of_below hb).mono fun _ _ h => h.elim, fun k hk => ⟨.inl hk, fun hf => (hF k hf).1 hk⟩, fun k hk => (hF k hk).2⟩

theorem RSt.ok (h : RSt w0 w1 r own0 D F) : D.OK := let ⟨_, _, _, hR, _⟩ := h; hR.ok
theorem RSt.flt (h : RSt w0 w1 r own0 D F) {k : Nat} (hk : F k) : k < w1.heap.size := let ⟨_, _, _, _, _, _, hF⟩ := h; hF k hk

theorem RSt.next (h : RSt w0 w1 r own0 D F) (hb : Below w1.heap.size w1 w2) : RSt w0 w2 r own0 D F := by
  obtain ⟨own, v, L, hR, hc, hx, hF⟩ := h
  exact ⟨own, v, L, hR.below hb, hc.trans (Chg.of_below hb) fun _ _ h => h.elim, hx, fun k hk => Nat.lt_of_lt_of_le (hF k hk) hb.size⟩

theorem RSt.same (h : RSt w0 w1 r own0 D F) (hb : Below w1.heap.size w1 w2) : Same F w1 w2 := fun _ hk => hb.block _ (h.flt hk)

/-- Something new is set apart too. -/
theorem RSt.apart {F' : Nat → Prop} (h : RSt w0 w1 r own0 D F) (hb : Below w1.heap.size w1 w2) (hF' : ∀ k, F' k → F k ∨ (w1.heap.size ≤ k ∧ k < w2.heap.size)) : RSt w0 w2 r own0 D F' := by
  obtain ⟨own, v, L, hR, hc, hx, hF⟩ := h
  refine ⟨own, v, L, hR.below hb, hc.trans (Chg.of_below hb) fun _ _ h => h.elim, fun k hk => ⟨(hx k hk).1, fun hf => ?_⟩, fun k hk => ?_⟩
  · rcases hF' k hf with h | h
    · exact (hx k hk).2 h
    · have := hR.olt k hk
      omega
  · rcases hF' k hk with h | h
    · exact Nat.lt_of_lt_of_le (hF k h) hb.size
    · exact h.2

theorem rst_step {P : Program} {f : FuncId} {args : Array Value} {Re : DiskM × Nat} (h : RSt w0 w1 r own0 D F) (hx : ∀ own v L, RefIn w1 r v L own D → (∀ k, own k → ¬ F k) → Calls P f args w1 (RStep w1 r own Re)) :
    Calls P f args w1 fun e w' => e = .returned (.int .i64 (Re.2 : Int)) ∧ RSt w0 w' r own0 Re.1 F ∧ Same F w1 w' := by
  obtain ⟨own, v, L, hR, hc, hown, hF⟩ := h
  refine (hx own v L hR fun k hk => (hown k hk).2).mono ?_
  rintro e w' ⟨rfl, own', ⟨v', L', hR'⟩, hc', he⟩
  refine ⟨rfl, ⟨own', v', L', hR', hc.trans hc' fun i hi ho => ?_, fun k hk => ?_, fun k hk => Nat.lt_of_lt_of_le (hF k hk) hc'.size⟩, fun k hk => hc'.block k (hF k hk) fun ho => (hown k ho).2 hk⟩
  · rcases (hown i ho).1 with h | h
    · exact h
    · omega
  · rcases he k hk with h | h
    · exact hown k h
    · exact ⟨.inr (Nat.le_trans hc.size h), fun hf => by have := hF k hf; omega⟩

theorem RSt.stop (h : RSt w0 w1 r own0 D F) (k : Nat) : RStep w0 r own0 (D, k) (.returned (.int .i64 (k : Int))) w1 := by
  obtain ⟨own, v, L, hR, hc, hx, -⟩ := h
  exact ⟨rfl, own, ⟨v, L, hR⟩, hc, fun k hk => (hx k hk).1⟩

theorem rst_has (h : RSt w0 w1 r own0 D F) (s : ByteArray) :
    Calls Tryz.prog 198 #[.pointer (some ⟨r, 0, none⟩), .string s] w1 fun e w' => e = .returned (.bool (Sat.get (nm s) D.files).isSome) ∧ RSt w0 w' r own0 D F ∧ Same F w1 w' := by
  have h0 := h
  obtain ⟨own, v, L, hR, -⟩ := h
  exact (rhas_calls hR s).mono fun e w' ⟨he, hb⟩ => ⟨he, h0.next hb, h0.same hb⟩

theorem rstep_below {w' : World} {R : DiskM × Nat} {e : Ending} {w'' : World} (hb : Below w.heap.size w w') (h : RStep w' r own R e w'') : RStep w r own R e w'' := by
  obtain ⟨he, own', hR, hc, hx⟩ := h
  exact ⟨he, own', hR, chg_below hb hc, fun k hk => (hx k hk).imp id fun h => Nat.le_trans hb.size h⟩
end
end Go.Proofs.YtapfnehdgailmaaGreat

namespace Go.Proofs.YtapfnehdgailmaaGreat
open Go.RowKit Go.Sat Go.Maps

section
variable {w : World} {r : Nat} {v : Value} {L : List RFile} {own : Nat → Prop} {D : DiskM}

set_option maxRecDepth 100000 in
set_option maxHeartbeats 4000000 in
theorem rwhole_calls (h : RefIn w r v L own D) (s : ByteArray) (hs : s.size ≤ 9223372036854775000) {pb : Option Addr} {m cb : Nat} {l : Bs} (hl : HasB w (.slice pb m cb) l) (hlm : l.length ≤ 140737488355328) (hF : ∀ k, (Value.slice pb m cb).ownBlock = some k → ¬ own k ∧ k < w.heap.size) :
    Calls Tryz.prog 168 #[.pointer (some ⟨r, 0, none⟩), .string s, .slice pb m cb] w (RStep w r own (D.save1 (nm s) l)) := by
  have hsh : (s ++ (⟨#[126]⟩ : ByteArray)).size = s.size + 1 := by simp [ByteArray.size_append]; rfl
  have hst : RSt w w r own D (fun k => (Value.slice pb m cb).ownBlock = some k) := RSt.start h (Below.refl _ _) hF
  have Hth := Lib.hid (rst_has hst (s ++ (⟨#[126]⟩ : ByteArray)))
  rw [nm_shadow] at Hth
  have Hl := Lib.hid hl
  have Hlm := Lib.hid hlm
  clear hst h hl hlm hF
  cases hg : Sat.get (shadowN (nm s)) D.files with
  | none =>
    rw [hg] at Hth
    obtain ⟨D0, h0, hD⟩ : ∃ D0, D.save0 (nm s) = (D0, 0) ∧ D0 = D := ⟨D, by unfold DiskM.save0; rw [hg]; rfl, rfl⟩
    go_enter Tryz.func168, Tryz.ntmps168
    go_wp2_with fail
    refine Hth.out.mono ?_
    rintro e w3 ⟨rfl, hst3, hs3⟩
    rw [← hD] at hst3
    have Hst := Lib.hid hst3
    have Hv := Lib.hid (Hl.out.same hs3)
    clear hst3 hs3 Hth hD hg
    have Hap := Lib.hid (rst_step Hst.out (Re := D0.append (shadowN (nm s)) l) fun own v L hR hn => by
      have := rappend_calls hR (s ++ (⟨#[126]⟩ : ByteArray)) (by rw [hsh]; omega) (Hv.out) Hlm.out (fun _ k hk ho => hn k ho hk)
      rwa [nm_shadow] at this)
    cases h1 : DiskM.append D0 (shadowN (nm s)) l with
    | mk D1 e1 =>
      rw [h1] at Hap
      by_cases he1 : e1 = 0
      · subst he1
        go_wp2_with fail
        refine Hap.out.mono ?_
        rintro e w5 ⟨rfl, hst5, -⟩
        have Hst5 := Lib.hid (show RSt w w5 r own D1 (fun k => (Value.slice pb m cb).ownBlock = some k) from hst5)
        have Hsy := Lib.hid (rst_step Hst5.out (Re := D1.sync [shadowN (nm s)]) fun own v L hR hn => by
          have := rsync_calls hR (s ++ (⟨#[126]⟩ : ByteArray)) (by rw [hsh]; omega)
          rwa [nm_shadow] at this)
        clear hst5 Hap
        cases h2 : DiskM.sync D1 [shadowN (nm s)] with
        | mk D2 e2 =>
          rw [h2] at Hsy
          by_cases he2 : e2 = 0
          · subst he2
            have Hend := Lib.hid (save1_ren h0 h1 h2)
            clear h0 h1 h2
            go_wp2_with fail
            refine Hsy.out.mono ?_
            rintro e w6 ⟨rfl, hst6, -⟩
            have Hst6 := Lib.hid (show RSt w w6 r own D2 (fun k => (Value.slice pb m cb).ownBlock = some k) from hst6)
            have Hrn := Lib.hid (rst_step Hst6.out (Re := D2.rename (shadowN (nm s)) (nm s)) fun own v L hR hn => by
              have := rren_calls hR (s ++ (⟨#[126]⟩ : ByteArray)) s (by rw [hsh]; omega) (by omega)
              rwa [nm_shadow] at this)
            clear hst6 Hsy
            go_wp2_with fail
            refine Hrn.out.mono ?_
            rintro e w7 ⟨rfl, hst7, -⟩
            have HE := Lib.hid (show RStep w r own (D.save1 (nm s) l) (.returned (.int .i64 ((D2.rename (shadowN (nm s)) (nm s)).2 : Int))) w7 from by rw [Hend.out]; exact hst7.stop _)
            clear hst7 Hrn
            generalize (D2.rename (shadowN (nm s)) (nm s)).2 = e3 at *
            go_wp2_with fail
            go_ret
            exact HE.out
          · have hne : ((e2 : Int) == 0) = false := by simp; omega
            have Hend := Lib.hid (save1_syn h0 h1 h2 he2)
            clear h0 h1 h2 he2
            go_wp2_with fail
            refine Hsy.out.mono ?_
            rintro e w6 ⟨rfl, hst6, -⟩
            have HE := Lib.hid (show RStep w r own (D.save1 (nm s) l) (.returned (.int .i64 (e2 : Int))) w6 from by rw [Hend.out]; exact hst6.stop _)
            clear hst6 Hsy
            go_wp2_with fail
            go_ret
            exact HE.out
      · have hne : ((e1 : Int) == 0) = false := by simp; omega
        have Hend := Lib.hid (save1_app h0 h1 he1)
        clear h0 h1 he1
        go_wp2_with fail
        refine Hap.out.mono ?_
        rintro e w5 ⟨rfl, hst5, -⟩
        have HE := Lib.hid (show RStep w r own (D.save1 (nm s) l) (.returned (.int .i64 (e1 : Int))) w5 from by rw [Hend.out]; exact hst5.stop _)
        clear hst5 Hap
        go_wp2_with fail
        go_ret
        exact HE.out
  | some f =>
    rw [hg] at Hth
    cases h0 : D.save0 (nm s) with
    | mk D0 e0 =>
      have hz0 : DiskM.remove D [shadowN (nm s)] = (D0, e0) := by rw [← h0]; unfold DiskM.save0; rw [hg]; rfl
      have Hz0 := Lib.hid hz0
      clear hz0 hg
      go_enter Tryz.func168, Tryz.ntmps168
      go_wp2_with fail
      refine Hth.out.mono ?_
      rintro e w3 ⟨rfl, hst3, hs3⟩
      have Hrm := Lib.hid (rst_step hst3 (Re := D.remove [shadowN (nm s)]) fun own v L hR hn => by
        have := rrem_calls hR (s ++ (⟨#[126]⟩ : ByteArray)) (by rw [hsh]; omega)
        rwa [nm_shadow] at this)
      rw [Hz0.out] at Hrm
      have Hv3 := Lib.hid (Hl.out.same hs3)
      clear hst3 hs3 Hth
      by_cases he0 : e0 = 0
      · subst he0
        go_wp2_with fail
        refine Hrm.out.mono ?_
        rintro e w4 ⟨rfl, hst4, hs4⟩
        have Hst := Lib.hid (show RSt w w4 r own D0 (fun k => (Value.slice pb m cb).ownBlock = some k) from hst4)
        have Hv := Lib.hid (Hv3.out.same hs4)
        clear hst4 hs4 Hv3 Hrm Hz0
        have Hap := Lib.hid (rst_step Hst.out (Re := D0.append (shadowN (nm s)) l) fun own v L hR hn => by
          have := rappend_calls hR (s ++ (⟨#[126]⟩ : ByteArray)) (by rw [hsh]; omega) (Hv.out) Hlm.out (fun _ k hk ho => hn k ho hk)
          rwa [nm_shadow] at this)
        cases h1 : DiskM.append D0 (shadowN (nm s)) l with
        | mk D1 e1 =>
          rw [h1] at Hap
          by_cases he1 : e1 = 0
          · subst he1
            go_wp2_with fail
            refine Hap.out.mono ?_
            rintro e w5 ⟨rfl, hst5, -⟩
            have Hst5 := Lib.hid (show RSt w w5 r own D1 (fun k => (Value.slice pb m cb).ownBlock = some k) from hst5)
            have Hsy := Lib.hid (rst_step Hst5.out (Re := D1.sync [shadowN (nm s)]) fun own v L hR hn => by
              have := rsync_calls hR (s ++ (⟨#[126]⟩ : ByteArray)) (by rw [hsh]; omega)
              rwa [nm_shadow] at this)
            clear hst5 Hap
            cases h2 : DiskM.sync D1 [shadowN (nm s)] with
            | mk D2 e2 =>
              rw [h2] at Hsy
              by_cases he2 : e2 = 0
              · subst he2
                have Hend := Lib.hid (save1_ren h0 h1 h2)
                clear h0 h1 h2
                go_wp2_with fail
                refine Hsy.out.mono ?_
                rintro e w6 ⟨rfl, hst6, -⟩
                have Hst6 := Lib.hid (show RSt w w6 r own D2 (fun k => (Value.slice pb m cb).ownBlock = some k) from hst6)
                have Hrn := Lib.hid (rst_step Hst6.out (Re := D2.rename (shadowN (nm s)) (nm s)) fun own v L hR hn => by
                  have := rren_calls hR (s ++ (⟨#[126]⟩ : ByteArray)) s (by rw [hsh]; omega) (by omega)
                  rwa [nm_shadow] at this)
                clear hst6 Hsy
                go_wp2_with fail
                refine Hrn.out.mono ?_
                rintro e w7 ⟨rfl, hst7, -⟩
                have HE := Lib.hid (show RStep w r own (D.save1 (nm s) l) (.returned (.int .i64 ((D2.rename (shadowN (nm s)) (nm s)).2 : Int))) w7 from by rw [Hend.out]; exact hst7.stop _)
                clear hst7 Hrn
                generalize (D2.rename (shadowN (nm s)) (nm s)).2 = e3 at *
                go_wp2_with fail
                go_ret
                exact HE.out
              · have hne : ((e2 : Int) == 0) = false := by simp; omega
                have Hend := Lib.hid (save1_syn h0 h1 h2 he2)
                clear h0 h1 h2 he2
                go_wp2_with fail
                refine Hsy.out.mono ?_
                rintro e w6 ⟨rfl, hst6, -⟩
                have HE := Lib.hid (show RStep w r own (D.save1 (nm s) l) (.returned (.int .i64 (e2 : Int))) w6 from by rw [Hend.out]; exact hst6.stop _)
                clear hst6 Hsy
                go_wp2_with fail
                go_ret
                exact HE.out
          · have hne : ((e1 : Int) == 0) = false := by simp; omega
            have Hend := Lib.hid (save1_app h0 h1 he1)
            clear h0 h1 he1
            go_wp2_with fail
            refine Hap.out.mono ?_
            rintro e w5 ⟨rfl, hst5, -⟩
            have HE := Lib.hid (show RStep w r own (D.save1 (nm s) l) (.returned (.int .i64 (e1 : Int))) w5 from by rw [Hend.out]; exact hst5.stop _)
            clear hst5 Hap
            go_wp2_with fail
            go_ret
            exact HE.out
      · have hne : ((e0 : Int) != 0) = true := by simp; omega
        have Hend := Lib.hid (save1_rem (b := l) h0 he0)
        clear h0 he0
        go_wp2_with fail
        refine Hrm.out.mono ?_
        rintro e w4 ⟨rfl, hst4, -⟩
        have HE := Lib.hid (show RStep w r own (D.save1 (nm s) l) (.returned (.int .i64 (e0 : Int))) w4 from by rw [Hend.out]; exact hst4.stop _)
        clear hst4 Hrm
        go_wp2_with fail
        go_ret
        exact HE.out
end
end Go.Proofs.YtapfnehdgailmaaGreat

namespace Go.Proofs.YtapfnehdgailmaaGreat
open Go.RowKit Go.Sat Go.Maps

set_option maxRecDepth 100000 in
set_option maxHeartbeats 8000000 in
theorem ranew_calls {w : World} {j r : Nat} {v : Value} {L : List RFile} {own : Nat → Prop} {D : DiskM} (h : RefIn w r v L own D) {n t : Int} {pre : ByteArray} {now vote : Int} {dv : Value} {dead : Bool} {p : Option Addr} {m c : Nat} {g : List Int} (hc : w.heap[j]? = some (RJC r n t (.slice p m c) pre now vote dv (.slice none 0 0) dead)) (hj : ¬ own j) (hg : HasI w (.slice p m c) g) (hz : ∀ z ∈ g, -9223372036854775808 ≤ z ∧ z ≤ 9223372036854775807) (hl : g.length ≤ 1000) (hn : -9223372036854775808 ≤ n ∧ n ≤ 9223372036854775807) (ht : -9223372036854775808 ≤ t ∧ t ≤ 9223372036854775807) (hnow : -9223372036854775808 ≤ now ∧ now ≤ 9223372036854775807) (hvote : -9223372036854775808 ≤ vote ∧ vote ≤ 1099511627776) (hps : pre.size ≤ 20) :
    Calls Tryz.prog 93 #[.pointer (some ⟨j, 0, none⟩)] w (RStep w r own (D.save1 (logN (nm pre)) (frameN (fstB0 n t g) ++ frameN (trmB now vote)))) := by
  obtain ⟨i0, hi, hz0, hz1, hz2⟩ := info_parts (show (Tryz.prog.info? 5).map (fun i => (i.zero, i.size, i.bytes)) = some (some (.int .u8 0), 1, 1) by kernel_rfl)
  have hsl : (sLog pre).size = pre.size + 4 := size_log pre
  have H := Lib.hid h
  have Hj := Lib.hid hj
  have Hl1 := Lib.hid (show (frameN (fstB0 n t g)).length ≤ 100000 from by
    have h1 := grpB_len0 g hl
    have h2 := numI_len n
    have h3 := numI_len t
    have h4 : (fstB0 n t g).length ≤ 9100 := by unfold fstB0; simp only [List.length_cons, List.length_append]; omega
    have h5 := frame_len (fstB0 n t g)
    omega)
  have Hl2 := Lib.hid (show (frameN (trmB now vote)).length ≤ 100000 from by
    have h4 := trmB_len now vote
    have h5 := frame_len (trmB now vote)
    omega)
  have Hfi := Lib.hid (fun W (hb : Below w.heap.size w W) (hW : W.heap[j]? = some (RJC r n t (.slice p m c) pre now vote dv (.slice none 0 0) dead)) => rfirst_calls (w := W) hW (Holds.chg hg (Chg.of_below hb) fun _ _ => id) hz hl hn ht)
  have Htr := Lib.hid (fun W => rterms_calls W now vote hnow hvote)
  have Hjl := Lib.hid (lt_of_block hc)
  have Hc := Lib.hid hc
  clear h hj hg hz hl hn ht hnow hvote
  go_enter Tryz.func93, Tryz.ntmps93
  go_wp2_with fail
  refine ord_start (fun w' : World => w'.heap[j]? = some (RJC r n t (.slice p m c) pre now vote dv (.slice none 0 0) dead)) (n := 13) (by kernel_rfl) rfl (hc) (fun hHeld => ?_)
  have HB1 := Lib.hid (below_drew w)
  clear hc
  generalize w.drew = W1 at *
  refine ord_take 0 (v := ?v1x0) rfl (by kernel_rfl) (by kernel_rfl) (by kernel_rfl) (fun _ _ _ h => h) (by rfl) (by assumption) ?y1x0 ?_
  case y1x0 => (intro w hSw; have q5 := cell_of hSw (i := 5) rfl; have q6 := cell_of hSw (i := 6) rfl; go_simp; try with_reducible rfl)
  simp only [Act.put, List.setIfInBounds_toArray, List.set_cons_zero, List.set_cons_succ]
  refine ord_take 2 (v := ?v1x2) rfl (by kernel_rfl) (by kernel_rfl) (by kernel_rfl) (fun _ _ _ h => h) (by rfl) (by assumption) ?y1x2 ?_
  case y1x2 => (intro w hSw; have q5 := cell_of hSw (i := 5) rfl; have q6 := cell_of hSw (i := 6) rfl; go_simp; try with_reducible rfl)
  simp only [Act.put, List.setIfInBounds_toArray, List.set_cons_zero, List.set_cons_succ]
  refine ord_take 3 (v := ?v1x3) rfl (by kernel_rfl) (by kernel_rfl) (by kernel_rfl) (fun _ _ _ h => h) (by rfl) (by assumption) ?y1x3 ?_
  case y1x3 => (intro w hSw; have q5 := cell_of hSw (i := 5) rfl; have q6 := cell_of hSw (i := 6) rfl; go_simp; try with_reducible rfl)
  simp only [Act.put, List.setIfInBounds_toArray, List.set_cons_zero, List.set_cons_succ]
  refine ord_take 4 (v := ?v1x4) rfl (by kernel_rfl) (by kernel_rfl) (by kernel_rfl) (fun _ _ _ h => h) (by rfl) (by assumption) ?y1x4 ?_
  case y1x4 => (intro w hSw; have q5 := cell_of hSw (i := 5) rfl; have q6 := cell_of hSw (i := 6) rfl; go_simp; try with_reducible rfl)
  simp only [Act.put, List.setIfInBounds_toArray, List.set_cons_zero, List.set_cons_succ]
  refine ord_take 5 (v := ?v1x5) rfl (by kernel_rfl) (by kernel_rfl) (by kernel_rfl) (fun _ _ _ h => h) (by rfl) (by assumption) ?y1x5 ?_
  case y1x5 => (intro w hSw; have q5 := cell_of hSw (i := 5) rfl; have q6 := cell_of hSw (i := 6) rfl; go_simp; try with_reducible rfl)
  simp only [Act.put, List.setIfInBounds_toArray, List.set_cons_zero, List.set_cons_succ]
  refine ord_take 6 (v := ?v1x6) rfl (by kernel_rfl) (by kernel_rfl) (by kernel_rfl) (fun _ _ _ h => h) (by rfl) (by assumption) ?y1x6 ?_
  case y1x6 => (intro w hSw; have q5 := cell_of hSw (i := 5) rfl; have q6 := cell_of hSw (i := 6) rfl; go_simp; try with_reducible rfl)
  simp only [Act.put, List.setIfInBounds_toArray, List.set_cons_zero, List.set_cons_succ]
  refine ord_take 7 (v := ?v1x7) rfl (by kernel_rfl) (by kernel_rfl) (by kernel_rfl) (fun _ _ _ h => h) (by rfl) (by assumption) ?y1x7 ?_
  case y1x7 => (intro w hSw; have q5 := cell_of hSw (i := 5) rfl; have q6 := cell_of hSw (i := 6) rfl; go_simp; try with_reducible rfl)
  simp only [Act.put, List.setIfInBounds_toArray, List.set_cons_zero, List.set_cons_succ]
  refine ord_take 8 (v := ?v1x8) rfl (by kernel_rfl) (by kernel_rfl) (by kernel_rfl) (fun _ _ _ h => h) (by rfl) (by assumption) ?y1x8 ?_
  case y1x8 => (intro w hSw; have q5 := cell_of hSw (i := 5) rfl; have q6 := cell_of hSw (i := 6) rfl; go_simp; try with_reducible rfl)
  simp only [Act.put, List.setIfInBounds_toArray, List.set_cons_zero, List.set_cons_succ]
  refine ord_take 9 (v := ?v1x9) rfl (by kernel_rfl) (by kernel_rfl) (by kernel_rfl) (fun _ _ _ h => h) (by rfl) (by assumption) ?y1x9 ?_
  case y1x9 => (intro w hSw; have q5 := cell_of hSw (i := 5) rfl; have q6 := cell_of hSw (i := 6) rfl; go_simp; try with_reducible rfl)
  simp only [Act.put, List.setIfInBounds_toArray, List.set_cons_zero, List.set_cons_succ]
  refine ord_one 1 rfl (by kernel_rfl) (by rfl) (fun K hK => ?_)
  have Hf1 := Lib.hid (Hfi.out W1 HB1.out hHeld)
  go_wp2_with fail
  refine Hf1.out.mono ?_
  rintro e w2 ⟨u1, rfl, hu1, hn1, hb2⟩
  have Hj2 := Lib.hid ((hb2.block _ (lt_of_block hHeld)).trans hHeld)
  have HR2 := Lib.hid (show RowB w w2 u1 (frameN (fstB0 n t g)) from ⟨hu1, fun k hk => Nat.le_trans HB1.out.size (hn1 k hk), HB1.out.trans (hb2.mono HB1.out.size)⟩)
  obtain ⟨p1, c1, rfl, -⟩ := own_cap0 hu1
  clear hu1 hn1 hb2 Hf1
  generalize hL1 : (frameN (fstB0 n t g)).length = m1 at *
  have HL1 := Lib.hid hL1
  clear hL1
  go_wp2_with fail
  refine hK.out _ _ (Hj2.out) (fun hHeld => ?_)
  clear hK
  try simp only [Act.put, List.setIfInBounds_toArray, List.set_cons_zero, List.set_cons_succ]
  refine ord_one 10 rfl (by kernel_rfl) (by rfl) (fun K hK => ?_)
  have Ht1 := Lib.hid (Htr.out w2)
  go_wp2_with fail
  refine Ht1.out.mono ?_
  rintro e w3 ⟨u2, rfl, hu2, hn2, hb3⟩
  have Hj3 := Lib.hid ((hb3.block _ (lt_of_block hHeld)).trans hHeld)
  have HR3 := Lib.hid (HR2.out.next hb3)
  have HX3 := Lib.hid (OwnB.has hu2)
  obtain ⟨p2, c2, rfl, -⟩ := own_cap0 hu2
  clear hu2 hn2 hb3 Ht1
  generalize hL2 : (frameN (trmB now vote)).length = m2 at *
  have HL2 := Lib.hid hL2
  clear hL2
  go_wp2_with fail
  refine hK.out _ _ (Hj3.out) (fun hHeld => ?_)
  clear hK
  try simp only [Act.put, List.setIfInBounds_toArray, List.set_cons_zero, List.set_cons_succ]
  have hm1 := Hl1.out
  have hm2 := Hl2.out
  have Hrow := Lib.hid (show OwnR w3 5 1 (.slice p1 m1 c1) m1 (bytesV (frameN (fstB0 n t g))) by have := HR3.out.own; unfold OwnB at this; rwa [HL1.out] at this)
  have Hxx := Lib.hid (show Holds w3 1 (.slice p2 m2 c2) m2 (bytesV (frameN (trmB now vote))) by have := HX3.out; unfold HasB at this; rwa [HL2.out] at this)
  refine ord_one 11 rfl (by kernel_rfl) (by rfl) (fun K hK => ?_)
  refine wp_app (.tmp 6) (.tmp 15) 22 rfl 5 i0 (.int .u8 0) 1 1 Tryz.underlying22 hi hz0 hz1 hz2 rfl (by decide) (.slice p1 m1 c1) m1 _ rfl Hrow.out (.slice p2 m2 c2) m2 _ rfl Hxx.out (bytesV_one _) (by unfold maxLen; omega) (by omega) ?_
  intro v4 w4 hown4 hgrow4 hloc4
  have HR4 := Lib.hid (RowB.grown (x := frameN (trmB now vote)) HR3.out (by rw [HL1.out, HL2.out]; exact hown4) hgrow4 hloc4)
  have Hj4 := Lib.hid ((HR4.out.bel.block j Hjl.out).trans Hc.out)
  obtain ⟨p4, c4, rfl⟩ := OwnR.shape hown4
  clear hown4 hgrow4 hloc4
  refine hK.out _ _ (Hj4.out) (fun hHeld => ?_)
  clear hK
  try simp only [Act.put, List.setIfInBounds_toArray, List.set_cons_zero, List.set_cons_succ]
  refine ord_take 12 (v := ?v1x12) rfl (by kernel_rfl) (by kernel_rfl) (by kernel_rfl) (fun _ _ _ h => h) (by rfl) (by assumption) ?y1x12 ?_
  case y1x12 => (intro w hSw; (try dsimp only at hSw); go_simp; try with_reducible rfl)
  simp only [Act.put, List.setIfInBounds_toArray, List.set_cons_zero, List.set_cons_succ]
  refine wpAnyH_done (by kernel_rfl) ?_ _
  have d8 := cell_of Hj4.out (i := 8) rfl
  clear Htr Hfi
  go_wp2_with fail
  go_loopw [3, 4] (fun b i wr => b = .slice p4 (m1 + m2) c4 ∧ i = .int .i64 0 ∧ wr = w4) (fun _ _ _ => 0)
  case atStart => exact ⟨rfl, rfl, rfl⟩
  case round =>
    obtain ⟨rfl, rfl, rfl⟩ := hrel
    have hjr := Hj4.out
    go_wp2_with fail
    clear d8
    refine ord_start (fun w' : World => w'.heap[j]? = some (RJC r n t (.slice p m c) pre now vote dv (.slice none 0 0) dead)) (n := 12) (by kernel_rfl) rfl (hjr) (fun hHeld => ?_)
    have HBd := Lib.hid (show Below w.heap.size w wr.drew from HR4.out.bel.trans ((below_drew wr).mono HR4.out.bel.size))
    have HX := Lib.hid (show HasB wr.drew (.slice p4 (m1 + m2) c4) (frameN (fstB0 n t g) ++ frameN (trmB now vote)) from (HR4.out.next (below_drew wr)).own.has)
    have HN4 := Lib.hid (show ∀ k, (Value.slice p4 (m1 + m2) c4).ownBlock = some k → w.heap.size ≤ k ∧ k < wr.drew.heap.size from fun k hk => ⟨HR4.out.new k hk, OwnR.lt (HR4.out.next (below_drew wr)).own hk⟩)
    clear hjr
    generalize wr.drew = W5 at *
    refine ord_take 0 (v := ?v2x0) rfl (by kernel_rfl) (by kernel_rfl) (by kernel_rfl) (fun _ _ _ h => h) (by rfl) (by assumption) ?y2x0 ?_
    case y2x0 => (intro w hSw; have q3 := cell_of hSw (i := 3) rfl; have q4 := cell_of hSw (i := 4) rfl; go_simp; try with_reducible rfl)
    simp only [Act.put, List.setIfInBounds_toArray, List.set_cons_zero, List.set_cons_succ]
    refine ord_take 1 (v := ?v2x1) rfl (by kernel_rfl) (by kernel_rfl) (by kernel_rfl) (fun _ _ _ h => h) (by rfl) (by assumption) ?y2x1 ?_
    case y2x1 => (intro w hSw; have q3 := cell_of hSw (i := 3) rfl; have q4 := cell_of hSw (i := 4) rfl; go_simp; try with_reducible rfl)
    simp only [Act.put, List.setIfInBounds_toArray, List.set_cons_zero, List.set_cons_succ]
    refine ord_take 2 (v := ?v2x2) rfl (by kernel_rfl) (by kernel_rfl) (by kernel_rfl) (fun _ _ _ h => h) (by rfl) (by assumption) ?y2x2 ?_
    case y2x2 => (intro w hSw; have q3 := cell_of hSw (i := 3) rfl; have q4 := cell_of hSw (i := 4) rfl; go_simp; try with_reducible rfl)
    simp only [Act.put, List.setIfInBounds_toArray, List.set_cons_zero, List.set_cons_succ]
    refine ord_take 3 (v := ?v2x3) rfl (by kernel_rfl) (by kernel_rfl) (by kernel_rfl) (fun _ _ _ h => h) (by rfl) (by assumption) ?y2x3 ?_
    case y2x3 => (intro w hSw; have q3 := cell_of hSw (i := 3) rfl; have q4 := cell_of hSw (i := 4) rfl; go_simp; try with_reducible rfl)
    simp only [Act.put, List.setIfInBounds_toArray, List.set_cons_zero, List.set_cons_succ]
    refine ord_take 4 (v := ?v2x4) rfl (by kernel_rfl) (by kernel_rfl) (by kernel_rfl) (fun _ _ _ h => h) (by rfl) (by assumption) ?y2x4 ?_
    case y2x4 => (intro w hSw; have q3 := cell_of hSw (i := 3) rfl; have q4 := cell_of hSw (i := 4) rfl; go_simp; try with_reducible rfl)
    simp only [Act.put, List.setIfInBounds_toArray, List.set_cons_zero, List.set_cons_succ]
    refine ord_take 5 (v := ?v2x5) rfl (by kernel_rfl) (by kernel_rfl) (by kernel_rfl) (fun _ _ _ h => h) (by rfl) (by assumption) ?y2x5 ?_
    case y2x5 => (intro w hSw; have q3 := cell_of hSw (i := 3) rfl; have q4 := cell_of hSw (i := 4) rfl; go_simp; try with_reducible rfl)
    simp only [Act.put, List.setIfInBounds_toArray, List.set_cons_zero, List.set_cons_succ]
    refine ord_take 6 (v := ?v2x6) rfl (by kernel_rfl) (by kernel_rfl) (by kernel_rfl) (fun _ _ _ h => h) (by rfl) (by assumption) ?y2x6 ?_
    case y2x6 => (intro w hSw; have q3 := cell_of hSw (i := 3) rfl; have q4 := cell_of hSw (i := 4) rfl; go_simp; try with_reducible rfl)
    simp only [Act.put, List.setIfInBounds_toArray, List.set_cons_zero, List.set_cons_succ]
    refine ord_take 7 (v := ?v2x7) rfl (by kernel_rfl) (by kernel_rfl) (by kernel_rfl) (fun _ _ _ h => h) (by rfl) (by assumption) ?y2x7 ?_
    case y2x7 => (intro w hSw; have q3 := cell_of hSw (i := 3) rfl; have q4 := cell_of hSw (i := 4) rfl; go_simp; try with_reducible rfl)
    simp only [Act.put, List.setIfInBounds_toArray, List.set_cons_zero, List.set_cons_succ]
    refine ord_take 8 (v := ?v2x8) rfl (by kernel_rfl) (by kernel_rfl) (by kernel_rfl) (fun _ _ _ h => h) (by rfl) (by assumption) ?y2x8 ?_
    case y2x8 => (intro w hSw; (try dsimp only at hSw); go_simp; rw [if_neg (by omega)]; try with_reducible rfl)
    simp only [Act.put, List.setIfInBounds_toArray, List.set_cons_zero, List.set_cons_succ]
    refine ord_take 9 (v := ?v2x9) rfl (by kernel_rfl) (by kernel_rfl) (by kernel_rfl) (fun _ _ _ h => h) (by rfl) (by assumption) ?y2x9 ?_
    case y2x9 => (intro w hSw; (try dsimp only at hSw); go_simp; try with_reducible rfl)
    simp only [Act.put, List.setIfInBounds_toArray, List.set_cons_zero, List.set_cons_succ]
    refine ord_one 10 rfl (by kernel_rfl) (by rfl) (fun K hK => ?_)
    have Hwh := Lib.hid (rwhole_calls (H.out.below HBd.out) (sLog pre) (by rw [hsl]; omega) HX.out (by rw [List.length_append]; have h1 := Hl1.out; have h2 := Hl2.out; have h3 := HL1.out; have h4 := HL2.out; omega) fun k hk => ⟨fun ho => by have h1 := H.out.olt k ho; have h2 := (HN4.out k hk).1; omega, (HN4.out k hk).2⟩)
    rw [nm_log] at Hwh
    go_wp2_with fail
    refine Hwh.out.mono ?_
    intro e w6 hT
    have Hj6 := Lib.hid ((hT.2.choose_spec.2.1.block j (lt_of_block hHeld) Hj.out).trans hHeld)
    have HE := Lib.hid (rstep_below HBd.out hT)
    obtain ⟨rfl, -⟩ := hT
    clear Hwh
    go_wp2_with fail
    refine hK.out _ _ (Hj6.out) (fun hHeld => ?_)
    clear hK
    try simp only [Act.put, List.setIfInBounds_toArray, List.set_cons_zero, List.set_cons_succ]
    refine ord_take 11 (v := ?v2x11) rfl (by kernel_rfl) (by kernel_rfl) (by kernel_rfl) (fun _ _ _ h => h) (by rfl) (by assumption) ?y2x11 ?_
    case y2x11 => (intro w hSw; (try dsimp only at hSw); go_simp; try with_reducible rfl)
    simp only [Act.put, List.setIfInBounds_toArray, List.set_cons_zero, List.set_cons_succ]
    refine wpAnyH_done (by kernel_rfl) ?_ _
    go_wp2_with fail
    go_ret
    exact HE.out
end Go.Proofs.YtapfnehdgailmaaGreat

namespace Go.Proofs.YtapfnehdgailmaaGreat
open Go.RowKit Go.Sat Go.Maps

theorem drewN_twoR (w : World) (a b : Nat) : (w.drewN a).drewN b = w.drewN (a + b) := by
  simp [World.drewN, Nat.add_assoc]

set_option maxRecDepth 100000 in
set_option maxHeartbeats 8000000 in
theorem rgroup_calls {w : World} {p : Option Addr} {n c : Nat} {l : List Int} (h : HasI w (.slice p n c) l) (hl : l.length ≤ 1099511627776) :
    Calls Tryz.prog 36 #[.slice p n c] w fun e w' => e = .returned (.bool (isGrp l)) ∧ ∃ q, w' = w.drewN q := by
  have hn : l.length = n := by obtain ⟨_, _, e⟩ := h.slice; simp only [Value.slice.injEq] at e; exact e.2.1.symm
  rw [hn] at hl
  have H := Lib.hid h
  have Hn := Lib.hid hn
  clear h hn
  go_enter Tryz.func36, Tryz.ntmps36
  go_wp2_with fail
  go_loopw [3] (fun i wr => ∃ k q : Nat, k ≤ n ∧ i = .int .i64 k ∧ grpGo (-1) l = grpGo (prevI l k) (l.drop k) ∧ -1 ≤ prevI l k ∧ wr = w.drewN q) (fun i _ => n - (intOf i).toNat)
  case atStart => exact ⟨0, 0, Nat.zero_le _, rfl, rfl, Int.le_refl _, rfl⟩
  case round =>
    obtain ⟨k, q0, hk, rfl, hgo, hpv, hwr⟩ := hrel
    have Hwr := Lib.hid hwr
    have H2 := Lib.hid (show HasI wr (.slice p n c) l by rw [hwr]; exact Holds.chg H.out (Chg.of_below (⟨rfl, rfl, rfl, Nat.le_refl _, fun _ _ => rfl⟩ : Below w.heap.size w (w.drewN q0))) fun _ _ => id)
    clear hwr
    by_cases hlt : k < n
    · have hkl : k < l.length := by rw [Hn.out]; exact hlt
      have HB := Lib.hid (show ¬ (prevI l k < l[k] ∧ l[k] < 7) → isGrp l = false from fun hb => by
        unfold isGrp
        rw [hgo, List.drop_eq_getElem_cons hkl]
        unfold grpGo
        rw [decide_eq_false hb]
        rfl)
      have HG := Lib.hid (show prevI l k < l[k] ∧ l[k] < 7 → grpGo (-1) l = grpGo (prevI l (k + 1)) (l.drop (k + 1)) from fun hb => by
        rw [hgo, List.drop_eq_getElem_cons hkl, prev_succ hkl]
        show (decide _ && _) = _
        rw [decide_eq_true hb, Bool.true_and])
      have HP := Lib.hid (prev_succ hkl)
      rcases H2.out.at with h0 | ⟨b, o, c1, e1, hc⟩
      · rw [h0] at hkl
        simp at hkl
      rw [Hn.out] at e1
      simp only [Value.slice.injEq] at e1
      obtain ⟨rfl, -, rfl⟩ := e1
      have hck := hc k _ (List.getElem?_eq_getElem hkl)
      have Hcp := Lib.hid (show k ≠ 0 → wr.cell? ⟨b, o + (k - 1), none⟩ = some (.int .i64 (prevI l k)) from fun h0 => by
        have hk1 : k - 1 < l.length := by omega
        have := hc (k - 1) _ (List.getElem?_eq_getElem hk1)
        rw [this]
        unfold prevI
        rw [if_neg h0, List.getElem?_eq_getElem hk1]
        rfl)
      have Hp0 := Lib.hid (show k = 0 → prevI l k = -1 from fun h0 => by rw [h0]; rfl)
      have hki : (k : Int) < (n : Int) := by omega
      clear hc hgo
      generalize l[k] = x at *
      generalize prevI l k = q at *
      by_cases hx0 : x < 0
      · have HE := Lib.hid (HB.out (by omega))
        have hd0 : decide (x < 0) = true := by simpa using hx0
        go_wp2_with fail
        go_quiet (fail)
        go_wp2_with fail
        go_ret
        exact ⟨by rw [HE.out]; rfl, _, by rw [Hwr.out]; exact drewN_twoR _ _ _⟩
      · have hd0 : decide (x < 0) = false := by simpa using hx0
        by_cases hx7 : 7 ≤ x
        · have HE := Lib.hid (HB.out (by omega))
          have hd7 : decide (7 ≤ x) = true := by simpa using hx7
          go_wp2_with fail
          go_quiet (fail)
          go_wp2_with fail
          go_ret
          exact ⟨by rw [HE.out]; rfl, _, by rw [Hwr.out]; exact drewN_twoR _ _ _⟩
        · have hd7 : decide (7 ≤ x) = false := by simpa using hx7
          by_cases hk0 : k = 0
          · have HE := Lib.hid (HG.out (by rw [Hp0.out hk0]; omega))
            have hdk : decide ((0 : Int) < (k : Int)) = false := by simp; omega
            have hdk2 : decide (0 < k) = false := by simp; omega
            clear hk0
            go_wp2_with fail
            go_quiet (fail)
            go_wp2_with fail
            go_roundw
            case rel => exact ⟨k + 1, _, by omega, by go_num, HE.out, by rw [HP.out]; omega, by rw [Hwr.out]; exact drewN_twoR _ _ _⟩
            case measure => simp [intOf]; omega
          · have hcp := Hcp.out hk0
            have hk1 : (0 : Int) < (k : Int) := by omega
            have hdk : decide ((0 : Int) < (k : Int)) = true := by simp; omega
            have hdk2 : decide (0 < k) = true := by simp; omega
            have hw1 : IntKind.i64.wrap ((k : Int) - 1) = ((k - 1 : Nat) : Int) := by rw [IntWalk.i64_in _ (by omega)]; omega
            have hk1i : ((k - 1 : Nat) : Int) < (n : Int) := by omega
            have hk1n : k - 1 < n := by omega
            clear hk0
            by_cases hle : x ≤ q
            · have HE := Lib.hid (HB.out (by omega))
              have hdl : decide (x ≤ q) = true := by simpa using hle
              go_wp2_with fail
              go_quiet (fail)
              go_wp2_with fail
              go_ret
              exact ⟨by rw [HE.out]; rfl, _, by rw [Hwr.out]; exact drewN_twoR _ _ _⟩
            · have hdl : decide (x ≤ q) = false := by simpa using hle
              have HE := Lib.hid (HG.out (by omega))
              go_wp2_with fail
              go_quiet (fail)
              go_wp2_with fail
              go_roundw
              case rel => exact ⟨k + 1, _, by omega, by go_num, HE.out, by rw [HP.out]; omega, by rw [Hwr.out]; exact drewN_twoR _ _ _⟩
              case measure => simp [intOf]; omega
    · have hkn : k = n := by omega
      have hgl : grpGo (-1) l = true := by rw [hgo, List.drop_of_length_le (by rw [Hn.out]; omega)]; rfl
      have HE := Lib.hid (show isGrp l = decide (1 ≤ n ∧ n ≤ 7) from by unfold isGrp; rw [hgl, Hn.out, Bool.true_and])
      clear hgo hgl
      by_cases h1 : 1 ≤ n
      · have d1 : decide ((1 : Int) ≤ (n : Int)) = true := by simp; omega
        by_cases h7 : n ≤ 7
        · have d7 : decide ((n : Int) ≤ 7) = true := by simp; omega
          have HF := Lib.hid (show isGrp l = true from HE.out.trans (decide_eq_true ⟨h1, h7⟩))
          go_wp2_with fail
          go_ret
          exact ⟨by rw [HF.out]; rfl, _, Hwr.out⟩
        · have d7 : decide ((n : Int) ≤ 7) = false := by simp; omega
          have HF := Lib.hid (show isGrp l = false from HE.out.trans (decide_eq_false fun e => h7 e.2))
          go_wp2_with fail
          go_ret
          exact ⟨by rw [HF.out]; rfl, _, Hwr.out⟩
      · have d1 : decide ((1 : Int) ≤ (n : Int)) = false := by simp; omega
        have HF := Lib.hid (show isGrp l = false from HE.out.trans (decide_eq_false fun e => h1 e.1))
        go_wp2_with fail
        go_ret
        exact ⟨by rw [HF.out]; rfl, _, Hwr.out⟩
end Go.Proofs.YtapfnehdgailmaaGreat
