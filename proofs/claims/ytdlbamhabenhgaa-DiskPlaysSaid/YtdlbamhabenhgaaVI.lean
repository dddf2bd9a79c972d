/- The document's disk: a file goes. (Its walk is printed by mkr3.py.) The document's disk: Remove. -/
import Derived.Test.YtdlbamhabenhgaaVH
namespace Go.Sat
open Go Go.RowKit
/-- Three may come up. -/
theorem ord_three {P : Program} {l : List Oper} {Q : Exit → Act → World → Prop} {md : Region.Mode} {S : World → Prop} {fuel : Nat} {listed : Array Bool} {a : Act} {w : World} (i j k : Nat) {oi oj ok : Oper} {ri rj rk : List Oper} (hdi : l.drop i = oi :: ri) (hdj : l.drop j = oj :: rj) (hdk : l.drop k = ok :: rk) (hr : Region.ready md l.toArray listed = [i, j, k])
    (hwi : Region.wanted oi (yielded l.toArray a.tmps) = true) (hwj : Region.wanted oj (yielded l.toArray a.tmps) = true) (hwk : Region.wanted ok (yielded l.toArray a.tmps) = true)
    (hi : ∀ K : Act → World → Prop, Shut (∀ a w, S w → (S w → wpAnyH P md l.toArray Q S fuel (listed.setIfInBounds i true) a w) → K a w) → Oper.wp P oi a w K Q)
    (hj : ∀ K : Act → World → Prop, Shut (∀ a w, S w → (S w → wpAnyH P md l.toArray Q S fuel (listed.setIfInBounds j true) a w) → K a w) → Oper.wp P oj a w K Q)
    (hk : ∀ K : Act → World → Prop, Shut (∀ a w, S w → (S w → wpAnyH P md l.toArray Q S fuel (listed.setIfInBounds k true) a w) → K a w) → Oper.wp P ok a w K Q) : wpAnyH P md l.toArray Q S (fuel + 1) listed a w :=
  wpAnyH_ready hr (by simp) (AllReadyH.cons (ord_get hdi) (fun K hK => by rw [if_pos hwi]; exact hi K hK) (AllReadyH.cons (ord_get hdj) (fun K hK => by rw [if_pos hwj]; exact hj K hK) (AllReadyH.cons (ord_get hdk) (fun K hK => by rw [if_pos hwk]; exact hk K hK) AllReadyH.nil)))
end Go.Sat
namespace Go.Proofs.Ytdlbamhabenhgaa
open Go.RowKit Go.Sat Go.Maps

section
variable {w : World} {r : Nat} {v : Value} {L : List RFile} {own : Nat → Prop} {D : DiskM}

theorem wrap_small {z : Int} (h0 : -9223372036854775808 ≤ z) (h1 : z ≤ 9223372036854775807) : IntKind.i64.wrap z = z := IntWalk.i64_in z ⟨h0, h1⟩

/-- What a step that answers nothing leaves. -/
def RGone (w : World) (r : Nat) (own : Nat → Prop) (D : DiskM) (e : Ending) (w' : World) : Prop :=
  e = .returned (.tuple #[]) ∧ ∃ own' v' L', RefIn w' r v' L' own' D ∧ Chg (fun k => k = r) w w' ∧ (∀ k, own k → own' k) ∧ ∀ k, own' k → own k ∨ w.heap.size ≤ k

set_option maxRecDepth 100000 in
set_option maxHeartbeats 8000000 in
theorem rremove_calls (h : RefIn w r v L own D) (s : ByteArray) :
    Calls Try.prog 85 #[.pointer (some ⟨r, 0, none⟩), .string s] w (RGone w r own { D with files := del (nm s) D.files }) := by
  have hsp := spot_calls h s
  rw [h.is] at hsp
  cases hg : Sat.get (nm s) D.files with
  | none =>
    rw [hg] at hsp
    have hD : ({ D with files := del (nm s) D.files } : DiskM) = D := by rw [del_none hg]
    rw [hD]
    have Hf := Lib.hid (fun q => show RGone w r own D (.returned (.tuple #[])) (w.drewN q) from ⟨rfl, own, v, L, h.below ⟨rfl, rfl, rfl, Nat.le_refl _, fun _ _ => rfl⟩, ⟨rfl, rfl, rfl, Nat.le_refl _, fun _ _ _ => rfl⟩, fun _ h => h, fun _ h => .inl h⟩)
    have Hsp := Lib.hid hsp
    clear h hsp hg hD
    go_enter Try.func85, Try.ntmps85
    go_wp2_with fail
    refine Hsp.out.mono ?_
    rintro e w3 ⟨rfl, q, rfl⟩
    go_wp2_with fail
    go_end0
    exact Hf.out q
  | some f =>
    rw [hg] at hsp
    obtain ⟨x, hx, hxn, rfl⟩ := h.hit hg
    have hN1 : spotN (nm s) (L.map RFile.n) < L.length := (List.getElem?_eq_some_iff.1 hx).1
    have hdel : del (nm s) D.files = (L.take (spotN (nm s) (L.map RFile.n)) ++ L.drop (spotN (nm s) (L.map RFile.n) + 1)).map RFile.key := by
      have h1 : isAt (nm s) (D.files.map (·.1)) = true := by rw [(spot_get (nm s) h.ok.srt).1, hg]; rfl
      rw [del_at (nm s) h.ok.srt h1, ← h.names, List.map_append, List.map_take, List.map_drop, ← h.files]
    obtain ⟨pv, cv, hgv⟩ := h.slice
    have hNc : L.length ≤ cv := by
      rcases h.at with h0 | ⟨g, c0, e, hc, -⟩
      · rw [h0]; exact Nat.zero_le _
      · rw [hgv] at e; cases e; exact hc
    have hfit := h.fit
    have hok := ok_del h.ok (nm s)
    generalize spotN (nm s) (L.map RFile.n) = i at *
    have Hc1 := Lib.hid (show ∀ W, Below w.heap.size w W → W.cell? ⟨r, 1, none⟩ = some (.slice pv L.length cv) from fun W hb => (h.below hb).c1.trans (by rw [hgv]))
    have Hfr := Lib.hid (show ∀ W, Below w.heap.size w W → W.frozen? ⟨r, 1, none⟩ = false from fun W hb => frozen_of (h.below hb).cells 1)
    have Hrow := Lib.hid (show ∀ W, Below w.heap.size w W → OwnR W 96 3 (.slice pv L.length cv) L.length (L.flatMap RFile.cells) from fun W hb => by rw [← hgv]; exact (h.below hb).row)
    have Hone := Lib.hid (cells_one h.core.one)
    have Hend := Lib.hid (show ∀ w7 v7, Below w.heap.size w w7 → OwnR w7 96 3 v7 (i + (L.length - (i + 1))) ((L.flatMap RFile.cells).take (i * 3) ++ (L.flatMap RFile.cells).drop ((i + 1) * 3)) → (∀ k, v7.ownBlock = some k → w.heap.size ≤ k) → RGone w r own { D with files := del (nm s) D.files } (.returned (.tuple #[])) (w7.setCell ⟨r, 1, none⟩ v7) from fun w7 v7 hb h7 hn7 => by
      have hlen' : (L.take i ++ L.drop (i + 1)).length = i + (L.length - (i + 1)) := by
        rw [List.length_append, List.length_take, List.length_drop]
        omega
      have hcore := (h.below hb).core.relist (v' := v7) (L' := L.take i ++ L.drop (i + 1)) (by rw [hlen', List.flatMap_append, cells_take, cells_drop]; exact h7) (fun x hx => by
        rcases List.mem_append.1 hx with hx | hx
        · exact .inl (List.mem_of_mem_take hx)
        · exact .inl (List.mem_of_mem_drop hx)) (fun k hk ho => by
          have h1 := hn7 k hk
          have h2 := h.olt k ho
          omega)
      exact ⟨rfl, _, _, _, hcore.full rfl rfl hdel hok, chg_below hb (chg_own (own := fun k => k = r) rfl), fun _ h => .inl h, fun k hk => hk.imp id (hn7 k)⟩)
    obtain ⟨iF, hFi, hF0, hF1, hF2⟩ := info_parts (show (Try.prog.info? 96).map (fun i => (i.zero, i.size, i.bytes)) = some (some (.agg #[.string ⟨#[]⟩, .slice none 0 0, .int .i64 0]), 3, 48) by kernel_rfl)
    have hs1 : ∀ W, (Instr.slice 92 (.slice pv L.length cv) none (some (.int .i64 (i : Int))) none).run Try.prog W = .ok (.slice pv i cv) W := fun W => run_upto W Try.underlying92 hFi pv _ cv i (by omega)
    have hs2 : ∀ W, (Instr.slice 92 (.slice pv L.length cv) (some (.int .i64 ((i : Int) + 1))) none none).run Try.prog W = .ok (.slice (if cv - (i + 1) = 0 then pv else pv.map fun x => x.add ((i + 1) * 3)) (L.length - (i + 1)) (cv - (i + 1))) W := fun W => by
      have := run_from_any (P := Try.prog) W Try.underlying92 hFi pv L.length cv (i + 1) (by omega) hNc
      rw [hF1] at this
      exact this
    have hwr : IntKind.i64.wrap ((i : Int) + 1) = (i : Int) + 1 := wrap_small (by omega) (by omega)
    have Hup := Lib.hid (show ∀ W, Below w.heap.size w W → Holds W 3 (.slice pv i cv) i ((L.flatMap RFile.cells).take (i * 3)) from fun W hb => Holds.upto (OwnR.holds (Hrow.out _ hb)) (by omega) cv)
    have Hfrom := Lib.hid (show ∀ W, Below w.heap.size w W → Holds W 3 (.slice (if cv - (i + 1) = 0 then pv else pv.map fun x => x.add ((i + 1) * 3)) (L.length - (i + 1)) (cv - (i + 1))) (L.length - (i + 1)) ((L.flatMap RFile.cells).drop ((i + 1) * 3)) from fun W hb => OwnR.cut_from (Hrow.out W hb) (by omega))
    generalize hpF : (if cv - (i + 1) = 0 then pv else pv.map fun x => x.add ((i + 1) * 3)) = pF at *
    have Hsp := Lib.hid hsp
    clear h hg hok hsp hdel hpF hx
    subst hgv
    generalize hN : L.length = N at *
    clear hN
    go_enter Try.func85, Try.ntmps85
    go_wp2_with fail
    refine Hsp.out.mono ?_
    rintro e w3 ⟨rfl, q, rfl⟩
    have X0 := Lib.hid (show Below w.heap.size w (w.drewN q).drew from ⟨rfl, rfl, rfl, Nat.le_refl _, fun _ _ => rfl⟩)
    go_wp2_with fail
    refine ord_start (fun _ : World => True) (n := 20) (by kernel_rfl) rfl trivial (fun _ => ?_)
    generalize (w.drewN q).drew = Wd at *
    refine ord_take 0 (v := ?v0x0) rfl (by kernel_rfl) (by kernel_rfl) (by kernel_rfl) (fun _ _ _ h => h) (by rfl) trivial ?y0x0 ?_
    case y0x0 => (intro w hSw; clear hSw; go_simp; try with_reducible rfl)
    simp only [Act.put, List.setIfInBounds_toArray, List.set_cons_zero, List.set_cons_succ]
    refine ord_take 2 (v := ?v0x2) rfl (by kernel_rfl) (by kernel_rfl) (by kernel_rfl) (fun _ _ _ h => h) (by rfl) trivial ?y0x2 ?_
    case y0x2 => (intro w hSw; clear hSw; go_simp; try with_reducible rfl)
    simp only [Act.put, List.setIfInBounds_toArray, List.set_cons_zero, List.set_cons_succ]
    refine ord_take 3 (v := ?v0x3) rfl (by kernel_rfl) (by kernel_rfl) (by kernel_rfl) (fun _ _ _ h => h) (by rfl) trivial ?y0x3 ?_
    case y0x3 => (intro w hSw; clear hSw; go_simp; try with_reducible rfl)
    simp only [Act.put, List.setIfInBounds_toArray, List.set_cons_zero, List.set_cons_succ]
    refine ord_take 4 (v := ?v0x4) rfl (by kernel_rfl) (by kernel_rfl) (by kernel_rfl) (fun _ _ _ h => h) (by rfl) trivial ?y0x4 ?_
    case y0x4 => (intro w hSw; clear hSw; go_simp; try with_reducible rfl)
    simp only [Act.put, List.setIfInBounds_toArray, List.set_cons_zero, List.set_cons_succ]
    refine ord_take 6 (v := ?v0x6) rfl (by kernel_rfl) (by kernel_rfl) (by kernel_rfl) (fun _ _ _ h => h) (by rfl) trivial ?y0x6 ?_
    case y0x6 => (intro w hSw; clear hSw; go_simp; try with_reducible rfl)
    simp only [Act.put, List.setIfInBounds_toArray, List.set_cons_zero, List.set_cons_succ]
    refine ord_take 9 (v := ?v0x9) rfl (by kernel_rfl) (by kernel_rfl) (by kernel_rfl) (fun _ _ _ h => h) (by rfl) trivial ?y0x9 ?_
    case y0x9 => (intro w hSw; clear hSw; go_simp; try with_reducible rfl)
    simp only [Act.put, List.setIfInBounds_toArray, List.set_cons_zero, List.set_cons_succ]
    refine ord_take 10 (v := ?v0x10) rfl (by kernel_rfl) (by kernel_rfl) (by kernel_rfl) (fun _ _ _ h => h) (by rfl) trivial ?y0x10 ?_
    case y0x10 => (intro w hSw; clear hSw; go_simp; try with_reducible rfl)
    simp only [Act.put, List.setIfInBounds_toArray, List.set_cons_zero, List.set_cons_succ]
    refine ord_take 11 (v := ?v0x11) rfl (by kernel_rfl) (by kernel_rfl) (by kernel_rfl) (fun _ _ _ h => h) (by rfl) trivial ?y0x11 ?_
    case y0x11 => (intro w hSw; clear hSw; go_simp; try with_reducible rfl)
    simp only [Act.put, List.setIfInBounds_toArray, List.set_cons_zero, List.set_cons_succ]
    refine ord_take 13 (v := ?v0x13) rfl (by kernel_rfl) (by kernel_rfl) (by kernel_rfl) (fun _ _ _ h => h) (by rfl) trivial ?y0x13 ?_
    case y0x13 => (intro w hSw; clear hSw; go_simp; try with_reducible rfl)
    simp only [Act.put, List.setIfInBounds_toArray, List.set_cons_zero, List.set_cons_succ]
    refine ord_take 14 (v := ?v0x14) rfl (by kernel_rfl) (by kernel_rfl) (by kernel_rfl) (fun _ _ _ h => h) (by rfl) trivial ?y0x14 ?_
    case y0x14 => (intro w hSw; clear hSw; go_simp; try with_reducible rfl)
    simp only [Act.put, List.setIfInBounds_toArray, List.set_cons_zero, List.set_cons_succ]
    refine ord_three 1 5 12 rfl rfl rfl (by kernel_rfl) (by rfl) (by rfl) (by rfl) (fun K hK => ?_) (fun K hK => ?_) (fun K hK => ?_)
    · go_wp2_with fail
      have X1 := Lib.hid (X0.out.alloc X0.out.size (.cells #[] 96))
      refine hK.out _ _ trivial (fun _ => ?_)
      clear hK
      try simp only [Act.put, List.setIfInBounds_toArray, List.set_cons_zero, List.set_cons_succ]
      refine ord_two 5 12 rfl rfl (by kernel_rfl) (by rfl) (by rfl) (fun K hK => ?_) (fun K hK => ?_)
      · have hc2 := Hc1.out _ X1.out
        go_wp2_with fail
        clear hc2
        refine hK.out _ _ trivial (fun _ => ?_)
        clear hK
        try simp only [Act.put, List.setIfInBounds_toArray, List.set_cons_zero, List.set_cons_succ]
        refine ord_take 7 (v := ?v2x7) rfl (by kernel_rfl) (by kernel_rfl) (by kernel_rfl) (fun _ _ _ h => h) (by rfl) trivial ?y2x7 ?_
        case y2x7 => (intro w hSw; clear hSw; go_simp; try with_reducible rfl)
        simp only [Act.put, List.setIfInBounds_toArray, List.set_cons_zero, List.set_cons_succ]
        refine ord_two 8 12 rfl rfl (by kernel_rfl) (by rfl) (by rfl) (fun K hK => ?_) (fun K hK => ?_)
        · have hown0 := own_emptyS Wd 96 3
          have hup := Hup.out _ X1.out
          refine wp_app (.tmp 14) (.tmp 20) 92 (by rfl) 96 iF _ 3 48 Try.underlying92 hFi hF0 hF1 hF2 rfl (by decide) (.slice (some ⟨Wd.heap.size, 0, none⟩) 0 0) 0 [] (by rfl) hown0 (.slice pv i cv) i _ (by rfl) hup (fun u hu => Hone.out u (List.mem_of_mem_take hu)) (by unfold maxLen; omega) (by omega) ?_
          clear hown0 hup
          intro v6 w6 hown6 hgrow6 hloc6
          have X6 := Lib.hid (X1.out.grown hgrow6 X1.out.size (fun j e => by have := X0.out.size; simp [Value.ownBlock] at e; omega))
          have hnew6 := own_ge (B := w.heap.size) hloc6 (fun k hk => by have := X0.out.size; simp [Value.ownBlock] at hk; omega) X1.out.size
          rw [Nat.zero_add, List.nil_append] at hown6
          obtain ⟨p6, c6, rfl⟩ := OwnR.shape hown6
          have Hown6 := Lib.hid hown6
          have Hnew6 := Lib.hid hnew6
          clear hgrow6 hloc6 hown6 hnew6
          refine hK.out _ _ trivial (fun _ => ?_)
          clear hK
          try simp only [Act.put, List.setIfInBounds_toArray, List.set_cons_zero, List.set_cons_succ]
          refine ord_one 12 rfl (by kernel_rfl) (by rfl) (fun K hK => ?_)
          have hc2 := Hc1.out _ X6.out
          go_wp2_with fail
          clear hc2
          refine hK.out _ _ trivial (fun _ => ?_)
          clear hK
          try simp only [Act.put, List.setIfInBounds_toArray, List.set_cons_zero, List.set_cons_succ]
          refine ord_take 15 (v := ?v4x15) rfl (by kernel_rfl) (by kernel_rfl) (by kernel_rfl) (fun _ _ _ h => h) (by rfl) trivial ?y4x15 ?_
          case y4x15 => (intro w hSw; clear hSw; go_simp; try with_reducible rfl)
          simp only [Act.put, List.setIfInBounds_toArray, List.set_cons_zero, List.set_cons_succ]
          refine ord_one 16 rfl (by kernel_rfl) (by rfl) (fun K hK => ?_)
          have hfrom := Hfrom.out _ X6.out
          refine wp_app (.tmp 21) (.tmp 28) 92 (by rfl) 96 iF _ 3 48 Try.underlying92 hFi hF0 hF1 hF2 rfl (by decide) (.slice p6 i c6) i _ (by rfl) Hown6.out (.slice pF (N - (i + 1)) (cv - (i + 1))) (N - (i + 1)) _ (by rfl) hfrom (fun u hu => Hone.out u (List.mem_of_mem_drop hu)) (by unfold maxLen; omega) (by omega) ?_
          clear hfrom
          intro v7 w7 hown7 hgrow7 hloc7
          have X7 := Lib.hid (X6.out.grown hgrow7 X6.out.size Hnew6.out)
          have hnew7 := own_ge (B := w.heap.size) hloc7 Hnew6.out X6.out.size
          obtain ⟨p7, c7, rfl⟩ := OwnR.shape hown7
          have Hend7 := Lib.hid (Hend.out w7 _ X7.out hown7 hnew7)
          clear hgrow7 hloc7 hown7 hnew7
          refine hK.out _ _ trivial (fun _ => ?_)
          clear hK
          try simp only [Act.put, List.setIfInBounds_toArray, List.set_cons_zero, List.set_cons_succ]
          refine ord_take 17 (v := ?v5x17) rfl (by kernel_rfl) (by kernel_rfl) (by kernel_rfl) (fun _ _ _ h => h) (by rfl) trivial ?y5x17 ?_
          case y5x17 => (intro w hSw; clear hSw; go_simp; try with_reducible rfl)
          simp only [Act.put, List.setIfInBounds_toArray, List.set_cons_zero, List.set_cons_succ]
          refine ord_take 18 (v := ?v5x18) rfl (by kernel_rfl) (by kernel_rfl) (by kernel_rfl) (fun _ _ _ h => h) (by rfl) trivial ?y5x18 ?_
          case y5x18 => (intro w hSw; clear hSw; go_simp; try with_reducible rfl)
          simp only [Act.put, List.setIfInBounds_toArray, List.set_cons_zero, List.set_cons_succ]
          refine ord_one 19 rfl (by kernel_rfl) (by rfl) (fun K hK => ?_)
          have hc2 := Hc1.out _ X7.out
          have hfz1 := Hfr.out _ X7.out
          go_wp2_with fail
          clear hc2 hfz1
          refine hK.out _ _ trivial (fun _ => ?_)
          clear hK
          try simp only [Act.put, List.setIfInBounds_toArray, List.set_cons_zero, List.set_cons_succ]
          refine wpAnyH_done (by kernel_rfl) ?_ _
          go_wp2_with fail
          go_end0
          exact Hend7.out
        · have hc2 := Hc1.out _ X1.out
          go_wp2_with fail
          clear hc2
          refine hK.out _ _ trivial (fun _ => ?_)
          clear hK
          try simp only [Act.put, List.setIfInBounds_toArray, List.set_cons_zero, List.set_cons_succ]
          refine ord_take 15 (v := ?v6x15) rfl (by kernel_rfl) (by kernel_rfl) (by kernel_rfl) (fun _ _ _ h => h) (by rfl) trivial ?y6x15 ?_
          case y6x15 => (intro w hSw; clear hSw; go_simp; try with_reducible rfl)
          simp only [Act.put, List.setIfInBounds_toArray, List.set_cons_zero, List.set_cons_succ]
          refine ord_one 8 rfl (by kernel_rfl) (by rfl) (fun K hK => ?_)
          have hown0 := own_emptyS Wd 96 3
          have hup := Hup.out _ X1.out
          refine wp_app (.tmp 14) (.tmp 20) 92 (by rfl) 96 iF _ 3 48 Try.underlying92 hFi hF0 hF1 hF2 rfl (by decide) (.slice (some ⟨Wd.heap.size, 0, none⟩) 0 0) 0 [] (by rfl) hown0 (.slice pv i cv) i _ (by rfl) hup (fun u hu => Hone.out u (List.mem_of_mem_take hu)) (by unfold maxLen; omega) (by omega) ?_
          clear hown0 hup
          intro v6 w6 hown6 hgrow6 hloc6
          have X6 := Lib.hid (X1.out.grown hgrow6 X1.out.size (fun j e => by have := X0.out.size; simp [Value.ownBlock] at e; omega))
          have hnew6 := own_ge (B := w.heap.size) hloc6 (fun k hk => by have := X0.out.size; simp [Value.ownBlock] at hk; omega) X1.out.size
          rw [Nat.zero_add, List.nil_append] at hown6
          obtain ⟨p6, c6, rfl⟩ := OwnR.shape hown6
          have Hown6 := Lib.hid hown6
          have Hnew6 := Lib.hid hnew6
          clear hgrow6 hloc6 hown6 hnew6
          refine hK.out _ _ trivial (fun _ => ?_)
          clear hK
          try simp only [Act.put, List.setIfInBounds_toArray, List.set_cons_zero, List.set_cons_succ]
          refine ord_one 16 rfl (by kernel_rfl) (by rfl) (fun K hK => ?_)
          have hfrom := Hfrom.out _ X6.out
          refine wp_app (.tmp 21) (.tmp 28) 92 (by rfl) 96 iF _ 3 48 Try.underlying92 hFi hF0 hF1 hF2 rfl (by decide) (.slice p6 i c6) i _ (by rfl) Hown6.out (.slice pF (N - (i + 1)) (cv - (i + 1))) (N - (i + 1)) _ (by rfl) hfrom (fun u hu => Hone.out u (List.mem_of_mem_drop hu)) (by unfold maxLen; omega) (by omega) ?_
          clear hfrom
          intro v7 w7 hown7 hgrow7 hloc7
          have X7 := Lib.hid (X6.out.grown hgrow7 X6.out.size Hnew6.out)
          have hnew7 := own_ge (B := w.heap.size) hloc7 Hnew6.out X6.out.size
          obtain ⟨p7, c7, rfl⟩ := OwnR.shape hown7
          have Hend7 := Lib.hid (Hend.out w7 _ X7.out hown7 hnew7)
          clear hgrow7 hloc7 hown7 hnew7
          refine hK.out _ _ trivial (fun _ => ?_)
          clear hK
          try simp only [Act.put, List.setIfInBounds_toArray, List.set_cons_zero, List.set_cons_succ]
          refine ord_take 17 (v := ?v8x17) rfl (by kernel_rfl) (by kernel_rfl) (by kernel_rfl) (fun _ _ _ h => h) (by rfl) trivial ?y8x17 ?_
          case y8x17 => (intro w hSw; clear hSw; go_simp; try with_reducible rfl)
          simp only [Act.put, List.setIfInBounds_toArray, List.set_cons_zero, List.set_cons_succ]
          refine ord_take 18 (v := ?v8x18) rfl (by kernel_rfl) (by kernel_rfl) (by kernel_rfl) (fun _ _ _ h => h) (by rfl) trivial ?y8x18 ?_
          case y8x18 => (intro w hSw; clear hSw; go_simp; try with_reducible rfl)
          simp only [Act.put, List.setIfInBounds_toArray, List.set_cons_zero, List.set_cons_succ]
          refine ord_one 19 rfl (by kernel_rfl) (by rfl) (fun K hK => ?_)
          have hc2 := Hc1.out _ X7.out
          have hfz1 := Hfr.out _ X7.out
          go_wp2_with fail
          clear hc2 hfz1
          refine hK.out _ _ trivial (fun _ => ?_)
          clear hK
          try simp only [Act.put, List.setIfInBounds_toArray, List.set_cons_zero, List.set_cons_succ]
          refine wpAnyH_done (by kernel_rfl) ?_ _
          go_wp2_with fail
          go_end0
          exact Hend7.out
      · have hc2 := Hc1.out _ X1.out
        go_wp2_with fail
        clear hc2
        refine hK.out _ _ trivial (fun _ => ?_)
        clear hK
        try simp only [Act.put, List.setIfInBounds_toArray, List.set_cons_zero, List.set_cons_succ]
        refine ord_take 15 (v := ?v9x15) rfl (by kernel_rfl) (by kernel_rfl) (by kernel_rfl) (fun _ _ _ h => h) (by rfl) trivial ?y9x15 ?_
        case y9x15 => (intro w hSw; clear hSw; go_simp; try with_reducible rfl)
        simp only [Act.put, List.setIfInBounds_toArray, List.set_cons_zero, List.set_cons_succ]
        refine ord_one 5 rfl (by kernel_rfl) (by rfl) (fun K hK => ?_)
        have hc2 := Hc1.out _ X1.out
        go_wp2_with fail
        clear hc2
        refine hK.out _ _ trivial (fun _ => ?_)
        clear hK
        try simp only [Act.put, List.setIfInBounds_toArray, List.set_cons_zero, List.set_cons_succ]
        refine ord_take 7 (v := ?v10x7) rfl (by kernel_rfl) (by kernel_rfl) (by kernel_rfl) (fun _ _ _ h => h) (by rfl) trivial ?y10x7 ?_
        case y10x7 => (intro w hSw; clear hSw; go_simp; try with_reducible rfl)
        simp only [Act.put, List.setIfInBounds_toArray, List.set_cons_zero, List.set_cons_succ]
        refine ord_one 8 rfl (by kernel_rfl) (by rfl) (fun K hK => ?_)
        have hown0 := own_emptyS Wd 96 3
        have hup := Hup.out _ X1.out
        refine wp_app (.tmp 14) (.tmp 20) 92 (by rfl) 96 iF _ 3 48 Try.underlying92 hFi hF0 hF1 hF2 rfl (by decide) (.slice (some ⟨Wd.heap.size, 0, none⟩) 0 0) 0 [] (by rfl) hown0 (.slice pv i cv) i _ (by rfl) hup (fun u hu => Hone.out u (List.mem_of_mem_take hu)) (by unfold maxLen; omega) (by omega) ?_
        clear hown0 hup
        intro v6 w6 hown6 hgrow6 hloc6
        have X6 := Lib.hid (X1.out.grown hgrow6 X1.out.size (fun j e => by have := X0.out.size; simp [Value.ownBlock] at e; omega))
        have hnew6 := own_ge (B := w.heap.size) hloc6 (fun k hk => by have := X0.out.size; simp [Value.ownBlock] at hk; omega) X1.out.size
        rw [Nat.zero_add, List.nil_append] at hown6
        obtain ⟨p6, c6, rfl⟩ := OwnR.shape hown6
        have Hown6 := Lib.hid hown6
        have Hnew6 := Lib.hid hnew6
        clear hgrow6 hloc6 hown6 hnew6
        refine hK.out _ _ trivial (fun _ => ?_)
        clear hK
        try simp only [Act.put, List.setIfInBounds_toArray, List.set_cons_zero, List.set_cons_succ]
        refine ord_one 16 rfl (by kernel_rfl) (by rfl) (fun K hK => ?_)
        have hfrom := Hfrom.out _ X6.out
        refine wp_app (.tmp 21) (.tmp 28) 92 (by rfl) 96 iF _ 3 48 Try.underlying92 hFi hF0 hF1 hF2 rfl (by decide) (.slice p6 i c6) i _ (by rfl) Hown6.out (.slice pF (N - (i + 1)) (cv - (i + 1))) (N - (i + 1)) _ (by rfl) hfrom (fun u hu => Hone.out u (List.mem_of_mem_drop hu)) (by unfold maxLen; omega) (by omega) ?_
        clear hfrom
        intro v7 w7 hown7 hgrow7 hloc7
        have X7 := Lib.hid (X6.out.grown hgrow7 X6.out.size Hnew6.out)
        have hnew7 := own_ge (B := w.heap.size) hloc7 Hnew6.out X6.out.size
        obtain ⟨p7, c7, rfl⟩ := OwnR.shape hown7
        have Hend7 := Lib.hid (Hend.out w7 _ X7.out hown7 hnew7)
        clear hgrow7 hloc7 hown7 hnew7
        refine hK.out _ _ trivial (fun _ => ?_)
        clear hK
        try simp only [Act.put, List.setIfInBounds_toArray, List.set_cons_zero, List.set_cons_succ]
        refine ord_take 17 (v := ?v12x17) rfl (by kernel_rfl) (by kernel_rfl) (by kernel_rfl) (fun _ _ _ h => h) (by rfl) trivial ?y12x17 ?_
        case y12x17 => (intro w hSw; clear hSw; go_simp; try with_reducible rfl)
        simp only [Act.put, List.setIfInBounds_toArray, List.set_cons_zero, List.set_cons_succ]
        refine ord_take 18 (v := ?v12x18) rfl (by kernel_rfl) (by kernel_rfl) (by kernel_rfl) (fun _ _ _ h => h) (by rfl) trivial ?y12x18 ?_
        case y12x18 => (intro w hSw; clear hSw; go_simp; try with_reducible rfl)
        simp only [Act.put, List.setIfInBounds_toArray, List.set_cons_zero, List.set_cons_succ]
        refine ord_one 19 rfl (by kernel_rfl) (by rfl) (fun K hK => ?_)
        have hc2 := Hc1.out _ X7.out
        have hfz1 := Hfr.out _ X7.out
        go_wp2_with fail
        clear hc2 hfz1
        refine hK.out _ _ trivial (fun _ => ?_)
        clear hK
        try simp only [Act.put, List.setIfInBounds_toArray, List.set_cons_zero, List.set_cons_succ]
        refine wpAnyH_done (by kernel_rfl) ?_ _
        go_wp2_with fail
        go_end0
        exact Hend7.out
    · have hc2 := Hc1.out _ X0.out
      go_wp2_with fail
      clear hc2
      refine hK.out _ _ trivial (fun _ => ?_)
      clear hK
      try simp only [Act.put, List.setIfInBounds_toArray, List.set_cons_zero, List.set_cons_succ]
      refine ord_take 7 (v := ?v13x7) rfl (by kernel_rfl) (by kernel_rfl) (by kernel_rfl) (fun _ _ _ h => h) (by rfl) trivial ?y13x7 ?_
      case y13x7 => (intro w hSw; clear hSw; go_simp; try with_reducible rfl)
      simp only [Act.put, List.setIfInBounds_toArray, List.set_cons_zero, List.set_cons_succ]
      refine ord_two 1 12 rfl rfl (by kernel_rfl) (by rfl) (by rfl) (fun K hK => ?_) (fun K hK => ?_)
      · go_wp2_with fail
        have X1 := Lib.hid (X0.out.alloc X0.out.size (.cells #[] 96))
        refine hK.out _ _ trivial (fun _ => ?_)
        clear hK
        try simp only [Act.put, List.setIfInBounds_toArray, List.set_cons_zero, List.set_cons_succ]
        refine ord_two 8 12 rfl rfl (by kernel_rfl) (by rfl) (by rfl) (fun K hK => ?_) (fun K hK => ?_)
        · have hown0 := own_emptyS Wd 96 3
          have hup := Hup.out _ X1.out
          refine wp_app (.tmp 14) (.tmp 20) 92 (by rfl) 96 iF _ 3 48 Try.underlying92 hFi hF0 hF1 hF2 rfl (by decide) (.slice (some ⟨Wd.heap.size, 0, none⟩) 0 0) 0 [] (by rfl) hown0 (.slice pv i cv) i _ (by rfl) hup (fun u hu => Hone.out u (List.mem_of_mem_take hu)) (by unfold maxLen; omega) (by omega) ?_
          clear hown0 hup
          intro v6 w6 hown6 hgrow6 hloc6
          have X6 := Lib.hid (X1.out.grown hgrow6 X1.out.size (fun j e => by have := X0.out.size; simp [Value.ownBlock] at e; omega))
          have hnew6 := own_ge (B := w.heap.size) hloc6 (fun k hk => by have := X0.out.size; simp [Value.ownBlock] at hk; omega) X1.out.size
          rw [Nat.zero_add, List.nil_append] at hown6
          obtain ⟨p6, c6, rfl⟩ := OwnR.shape hown6
          have Hown6 := Lib.hid hown6
          have Hnew6 := Lib.hid hnew6
          clear hgrow6 hloc6 hown6 hnew6
          refine hK.out _ _ trivial (fun _ => ?_)
          clear hK
          try simp only [Act.put, List.setIfInBounds_toArray, List.set_cons_zero, List.set_cons_succ]
          refine ord_one 12 rfl (by kernel_rfl) (by rfl) (fun K hK => ?_)
          have hc2 := Hc1.out _ X6.out
          go_wp2_with fail
          clear hc2
          refine hK.out _ _ trivial (fun _ => ?_)
          clear hK
          try simp only [Act.put, List.setIfInBounds_toArray, List.set_cons_zero, List.set_cons_succ]
          refine ord_take 15 (v := ?v16x15) rfl (by kernel_rfl) (by kernel_rfl) (by kernel_rfl) (fun _ _ _ h => h) (by rfl) trivial ?y16x15 ?_
          case y16x15 => (intro w hSw; clear hSw; go_simp; try with_reducible rfl)
          simp only [Act.put, List.setIfInBounds_toArray, List.set_cons_zero, List.set_cons_succ]
          refine ord_one 16 rfl (by kernel_rfl) (by rfl) (fun K hK => ?_)
          have hfrom := Hfrom.out _ X6.out
          refine wp_app (.tmp 21) (.tmp 28) 92 (by rfl) 96 iF _ 3 48 Try.underlying92 hFi hF0 hF1 hF2 rfl (by decide) (.slice p6 i c6) i _ (by rfl) Hown6.out (.slice pF (N - (i + 1)) (cv - (i + 1))) (N - (i + 1)) _ (by rfl) hfrom (fun u hu => Hone.out u (List.mem_of_mem_drop hu)) (by unfold maxLen; omega) (by omega) ?_
          clear hfrom
          intro v7 w7 hown7 hgrow7 hloc7
          have X7 := Lib.hid (X6.out.grown hgrow7 X6.out.size Hnew6.out)
          have hnew7 := own_ge (B := w.heap.size) hloc7 Hnew6.out X6.out.size
          obtain ⟨p7, c7, rfl⟩ := OwnR.shape hown7
          have Hend7 := Lib.hid (Hend.out w7 _ X7.out hown7 hnew7)
          clear hgrow7 hloc7 hown7 hnew7
          refine hK.out _ _ trivial (fun _ => ?_)
          clear hK
          try simp only [Act.put, List.setIfInBounds_toArray, List.set_cons_zero, List.set_cons_succ]
          refine ord_take 17 (v := ?v17x17) rfl (by kernel_rfl) (by kernel_rfl) (by kernel_rfl) (fun _ _ _ h => h) (by rfl) trivial ?y17x17 ?_
          case y17x17 => (intro w hSw; clear hSw; go_simp; try with_reducible rfl)
          simp only [Act.put, List.setIfInBounds_toArray, List.set_cons_zero, List.set_cons_succ]
          refine ord_take 18 (v := ?v17x18) rfl (by kernel_rfl) (by kernel_rfl) (by kernel_rfl) (fun _ _ _ h => h) (by rfl) trivial ?y17x18 ?_
          case y17x18 => (intro w hSw; clear hSw; go_simp; try with_reducible rfl)
          simp only [Act.put, List.setIfInBounds_toArray, List.set_cons_zero, List.set_cons_succ]
          refine ord_one 19 rfl (by kernel_rfl) (by rfl) (fun K hK => ?_)
          have hc2 := Hc1.out _ X7.out
          have hfz1 := Hfr.out _ X7.out
          go_wp2_with fail
          clear hc2 hfz1
          refine hK.out _ _ trivial (fun _ => ?_)
          clear hK
          try simp only [Act.put, List.setIfInBounds_toArray, List.set_cons_zero, List.set_cons_succ]
          refine wpAnyH_done (by kernel_rfl) ?_ _
          go_wp2_with fail
          go_end0
          exact Hend7.out
        · have hc2 := Hc1.out _ X1.out
          go_wp2_with fail
          clear hc2
          refine hK.out _ _ trivial (fun _ => ?_)
          clear hK
          try simp only [Act.put, List.setIfInBounds_toArray, List.set_cons_zero, List.set_cons_succ]
          refine ord_take 15 (v := ?v18x15) rfl (by kernel_rfl) (by kernel_rfl) (by kernel_rfl) (fun _ _ _ h => h) (by rfl) trivial ?y18x15 ?_
          case y18x15 => (intro w hSw; clear hSw; go_simp; try with_reducible rfl)
          simp only [Act.put, List.setIfInBounds_toArray, List.set_cons_zero, List.set_cons_succ]
          refine ord_one 8 rfl (by kernel_rfl) (by rfl) (fun K hK => ?_)
          have hown0 := own_emptyS Wd 96 3
          have hup := Hup.out _ X1.out
          refine wp_app (.tmp 14) (.tmp 20) 92 (by rfl) 96 iF _ 3 48 Try.underlying92 hFi hF0 hF1 hF2 rfl (by decide) (.slice (some ⟨Wd.heap.size, 0, none⟩) 0 0) 0 [] (by rfl) hown0 (.slice pv i cv) i _ (by rfl) hup (fun u hu => Hone.out u (List.mem_of_mem_take hu)) (by unfold maxLen; omega) (by omega) ?_
          clear hown0 hup
          intro v6 w6 hown6 hgrow6 hloc6
          have X6 := Lib.hid (X1.out.grown hgrow6 X1.out.size (fun j e => by have := X0.out.size; simp [Value.ownBlock] at e; omega))
          have hnew6 := own_ge (B := w.heap.size) hloc6 (fun k hk => by have := X0.out.size; simp [Value.ownBlock] at hk; omega) X1.out.size
          rw [Nat.zero_add, List.nil_append] at hown6
          obtain ⟨p6, c6, rfl⟩ := OwnR.shape hown6
          have Hown6 := Lib.hid hown6
          have Hnew6 := Lib.hid hnew6
          clear hgrow6 hloc6 hown6 hnew6
          refine hK.out _ _ trivial (fun _ => ?_)
          clear hK
          try simp only [Act.put, List.setIfInBounds_toArray, List.set_cons_zero, List.set_cons_succ]
          refine ord_one 16 rfl (by kernel_rfl) (by rfl) (fun K hK => ?_)
          have hfrom := Hfrom.out _ X6.out
          refine wp_app (.tmp 21) (.tmp 28) 92 (by rfl) 96 iF _ 3 48 Try.underlying92 hFi hF0 hF1 hF2 rfl (by decide) (.slice p6 i c6) i _ (by rfl) Hown6.out (.slice pF (N - (i + 1)) (cv - (i + 1))) (N - (i + 1)) _ (by rfl) hfrom (fun u hu => Hone.out u (List.mem_of_mem_drop hu)) (by unfold maxLen; omega) (by omega) ?_
          clear hfrom
          intro v7 w7 hown7 hgrow7 hloc7
          have X7 := Lib.hid (X6.out.grown hgrow7 X6.out.size Hnew6.out)
          have hnew7 := own_ge (B := w.heap.size) hloc7 Hnew6.out X6.out.size
          obtain ⟨p7, c7, rfl⟩ := OwnR.shape hown7
          have Hend7 := Lib.hid (Hend.out w7 _ X7.out hown7 hnew7)
          clear hgrow7 hloc7 hown7 hnew7
          refine hK.out _ _ trivial (fun _ => ?_)
          clear hK
          try simp only [Act.put, List.setIfInBounds_toArray, List.set_cons_zero, List.set_cons_succ]
          refine ord_take 17 (v := ?v20x17) rfl (by kernel_rfl) (by kernel_rfl) (by kernel_rfl) (fun _ _ _ h => h) (by rfl) trivial ?y20x17 ?_
          case y20x17 => (intro w hSw; clear hSw; go_simp; try with_reducible rfl)
          simp only [Act.put, List.setIfInBounds_toArray, List.set_cons_zero, List.set_cons_succ]
          refine ord_take 18 (v := ?v20x18) rfl (by kernel_rfl) (by kernel_rfl) (by kernel_rfl) (fun _ _ _ h => h) (by rfl) trivial ?y20x18 ?_
          case y20x18 => (intro w hSw; clear hSw; go_simp; try with_reducible rfl)
          simp only [Act.put, List.setIfInBounds_toArray, List.set_cons_zero, List.set_cons_succ]
          refine ord_one 19 rfl (by kernel_rfl) (by rfl) (fun K hK => ?_)
          have hc2 := Hc1.out _ X7.out
          have hfz1 := Hfr.out _ X7.out
          go_wp2_with fail
          clear hc2 hfz1
          refine hK.out _ _ trivial (fun _ => ?_)
          clear hK
          try simp only [Act.put, List.setIfInBounds_toArray, List.set_cons_zero, List.set_cons_succ]
          refine wpAnyH_done (by kernel_rfl) ?_ _
          go_wp2_with fail
          go_end0
          exact Hend7.out
      · have hc2 := Hc1.out _ X0.out
        go_wp2_with fail
        clear hc2
        refine hK.out _ _ trivial (fun _ => ?_)
        clear hK
        try simp only [Act.put, List.setIfInBounds_toArray, List.set_cons_zero, List.set_cons_succ]
        refine ord_take 15 (v := ?v21x15) rfl (by kernel_rfl) (by kernel_rfl) (by kernel_rfl) (fun _ _ _ h => h) (by rfl) trivial ?y21x15 ?_
        case y21x15 => (intro w hSw; clear hSw; go_simp; try with_reducible rfl)
        simp only [Act.put, List.setIfInBounds_toArray, List.set_cons_zero, List.set_cons_succ]
        refine ord_one 1 rfl (by kernel_rfl) (by rfl) (fun K hK => ?_)
        go_wp2_with fail
        have X1 := Lib.hid (X0.out.alloc X0.out.size (.cells #[] 96))
        refine hK.out _ _ trivial (fun _ => ?_)
        clear hK
        try simp only [Act.put, List.setIfInBounds_toArray, List.set_cons_zero, List.set_cons_succ]
        refine ord_one 8 rfl (by kernel_rfl) (by rfl) (fun K hK => ?_)
        have hown0 := own_emptyS Wd 96 3
        have hup := Hup.out _ X1.out
        refine wp_app (.tmp 14) (.tmp 20) 92 (by rfl) 96 iF _ 3 48 Try.underlying92 hFi hF0 hF1 hF2 rfl (by decide) (.slice (some ⟨Wd.heap.size, 0, none⟩) 0 0) 0 [] (by rfl) hown0 (.slice pv i cv) i _ (by rfl) hup (fun u hu => Hone.out u (List.mem_of_mem_take hu)) (by unfold maxLen; omega) (by omega) ?_
        clear hown0 hup
        intro v6 w6 hown6 hgrow6 hloc6
        have X6 := Lib.hid (X1.out.grown hgrow6 X1.out.size (fun j e => by have := X0.out.size; simp [Value.ownBlock] at e; omega))
        have hnew6 := own_ge (B := w.heap.size) hloc6 (fun k hk => by have := X0.out.size; simp [Value.ownBlock] at hk; omega) X1.out.size
        rw [Nat.zero_add, List.nil_append] at hown6
        obtain ⟨p6, c6, rfl⟩ := OwnR.shape hown6
        have Hown6 := Lib.hid hown6
        have Hnew6 := Lib.hid hnew6
        clear hgrow6 hloc6 hown6 hnew6
        refine hK.out _ _ trivial (fun _ => ?_)
        clear hK
        try simp only [Act.put, List.setIfInBounds_toArray, List.set_cons_zero, List.set_cons_succ]
        refine ord_one 16 rfl (by kernel_rfl) (by rfl) (fun K hK => ?_)
        have hfrom := Hfrom.out _ X6.out
        refine wp_app (.tmp 21) (.tmp 28) 92 (by rfl) 96 iF _ 3 48 Try.underlying92 hFi hF0 hF1 hF2 rfl (by decide) (.slice p6 i c6) i _ (by rfl) Hown6.out (.slice pF (N - (i + 1)) (cv - (i + 1))) (N - (i + 1)) _ (by rfl) hfrom (fun u hu => Hone.out u (List.mem_of_mem_drop hu)) (by unfold maxLen; omega) (by omega) ?_
        clear hfrom
        intro v7 w7 hown7 hgrow7 hloc7
        have X7 := Lib.hid (X6.out.grown hgrow7 X6.out.size Hnew6.out)
        have hnew7 := own_ge (B := w.heap.size) hloc7 Hnew6.out X6.out.size
        obtain ⟨p7, c7, rfl⟩ := OwnR.shape hown7
        have Hend7 := Lib.hid (Hend.out w7 _ X7.out hown7 hnew7)
        clear hgrow7 hloc7 hown7 hnew7
        refine hK.out _ _ trivial (fun _ => ?_)
        clear hK
        try simp only [Act.put, List.setIfInBounds_toArray, List.set_cons_zero, List.set_cons_succ]
        refine ord_take 17 (v := ?v24x17) rfl (by kernel_rfl) (by kernel_rfl) (by kernel_rfl) (fun _ _ _ h => h) (by rfl) trivial ?y24x17 ?_
        case y24x17 => (intro w hSw; clear hSw; go_simp; try with_reducible rfl)
        simp only [Act.put, List.setIfInBounds_toArray, List.set_cons_zero, List.set_cons_succ]
        refine ord_take 18 (v := ?v24x18) rfl (by kernel_rfl) (by kernel_rfl) (by kernel_rfl) (fun _ _ _ h => h) (by rfl) trivial ?y24x18 ?_
        case y24x18 => (intro w hSw; clear hSw; go_simp; try with_reducible rfl)
        simp only [Act.put, List.setIfInBounds_toArray, List.set_cons_zero, List.set_cons_succ]
        refine ord_one 19 rfl (by kernel_rfl) (by rfl) (fun K hK => ?_)
        have hc2 := Hc1.out _ X7.out
        have hfz1 := Hfr.out _ X7.out
        go_wp2_with fail
        clear hc2 hfz1
        refine hK.out _ _ trivial (fun _ => ?_)
        clear hK
        try simp only [Act.put, List.setIfInBounds_toArray, List.set_cons_zero, List.set_cons_succ]
        refine wpAnyH_done (by kernel_rfl) ?_ _
        go_wp2_with fail
        go_end0
        exact Hend7.out
    · have hc2 := Hc1.out _ X0.out
      go_wp2_with fail
      clear hc2
      refine hK.out _ _ trivial (fun _ => ?_)
      clear hK
      try simp only [Act.put, List.setIfInBounds_toArray, List.set_cons_zero, List.set_cons_succ]
      refine ord_take 15 (v := ?v25x15) rfl (by kernel_rfl) (by kernel_rfl) (by kernel_rfl) (fun _ _ _ h => h) (by rfl) trivial ?y25x15 ?_
      case y25x15 => (intro w hSw; clear hSw; go_simp; try with_reducible rfl)
      simp only [Act.put, List.setIfInBounds_toArray, List.set_cons_zero, List.set_cons_succ]
      refine ord_two 1 5 rfl rfl (by kernel_rfl) (by rfl) (by rfl) (fun K hK => ?_) (fun K hK => ?_)
      · go_wp2_with fail
        have X1 := Lib.hid (X0.out.alloc X0.out.size (.cells #[] 96))
        refine hK.out _ _ trivial (fun _ => ?_)
        clear hK
        try simp only [Act.put, List.setIfInBounds_toArray, List.set_cons_zero, List.set_cons_succ]
        refine ord_one 5 rfl (by kernel_rfl) (by rfl) (fun K hK => ?_)
        have hc2 := Hc1.out _ X1.out
        go_wp2_with fail
        clear hc2
        refine hK.out _ _ trivial (fun _ => ?_)
        clear hK
        try simp only [Act.put, List.setIfInBounds_toArray, List.set_cons_zero, List.set_cons_succ]
        refine ord_take 7 (v := ?v27x7) rfl (by kernel_rfl) (by kernel_rfl) (by kernel_rfl) (fun _ _ _ h => h) (by rfl) trivial ?y27x7 ?_
        case y27x7 => (intro w hSw; clear hSw; go_simp; try with_reducible rfl)
        simp only [Act.put, List.setIfInBounds_toArray, List.set_cons_zero, List.set_cons_succ]
        refine ord_one 8 rfl (by kernel_rfl) (by rfl) (fun K hK => ?_)
        have hown0 := own_emptyS Wd 96 3
        have hup := Hup.out _ X1.out
        refine wp_app (.tmp 14) (.tmp 20) 92 (by rfl) 96 iF _ 3 48 Try.underlying92 hFi hF0 hF1 hF2 rfl (by decide) (.slice (some ⟨Wd.heap.size, 0, none⟩) 0 0) 0 [] (by rfl) hown0 (.slice pv i cv) i _ (by rfl) hup (fun u hu => Hone.out u (List.mem_of_mem_take hu)) (by unfold maxLen; omega) (by omega) ?_
        clear hown0 hup
        intro v6 w6 hown6 hgrow6 hloc6
        have X6 := Lib.hid (X1.out.grown hgrow6 X1.out.size (fun j e => by have := X0.out.size; simp [Value.ownBlock] at e; omega))
        have hnew6 := own_ge (B := w.heap.size) hloc6 (fun k hk => by have := X0.out.size; simp [Value.ownBlock] at hk; omega) X1.out.size
        rw [Nat.zero_add, List.nil_append] at hown6
        obtain ⟨p6, c6, rfl⟩ := OwnR.shape hown6
        have Hown6 := Lib.hid hown6
        have Hnew6 := Lib.hid hnew6
        clear hgrow6 hloc6 hown6 hnew6
        refine hK.out _ _ trivial (fun _ => ?_)
        clear hK
        try simp only [Act.put, List.setIfInBounds_toArray, List.set_cons_zero, List.set_cons_succ]
        refine ord_one 16 rfl (by kernel_rfl) (by rfl) (fun K hK => ?_)
        have hfrom := Hfrom.out _ X6.out
        refine wp_app (.tmp 21) (.tmp 28) 92 (by rfl) 96 iF _ 3 48 Try.underlying92 hFi hF0 hF1 hF2 rfl (by decide) (.slice p6 i c6) i _ (by rfl) Hown6.out (.slice pF (N - (i + 1)) (cv - (i + 1))) (N - (i + 1)) _ (by rfl) hfrom (fun u hu => Hone.out u (List.mem_of_mem_drop hu)) (by unfold maxLen; omega) (by omega) ?_
        clear hfrom
        intro v7 w7 hown7 hgrow7 hloc7
        have X7 := Lib.hid (X6.out.grown hgrow7 X6.out.size Hnew6.out)
        have hnew7 := own_ge (B := w.heap.size) hloc7 Hnew6.out X6.out.size
        obtain ⟨p7, c7, rfl⟩ := OwnR.shape hown7
        have Hend7 := Lib.hid (Hend.out w7 _ X7.out hown7 hnew7)
        clear hgrow7 hloc7 hown7 hnew7
        refine hK.out _ _ trivial (fun _ => ?_)
        clear hK
        try simp only [Act.put, List.setIfInBounds_toArray, List.set_cons_zero, List.set_cons_succ]
        refine ord_take 17 (v := ?v29x17) rfl (by kernel_rfl) (by kernel_rfl) (by kernel_rfl) (fun _ _ _ h => h) (by rfl) trivial ?y29x17 ?_
        case y29x17 => (intro w hSw; clear hSw; go_simp; try with_reducible rfl)
        simp only [Act.put, List.setIfInBounds_toArray, List.set_cons_zero, List.set_cons_succ]
        refine ord_take 18 (v := ?v29x18) rfl (by kernel_rfl) (by kernel_rfl) (by kernel_rfl) (fun _ _ _ h => h) (by rfl) trivial ?y29x18 ?_
        case y29x18 => (intro w hSw; clear hSw; go_simp; try with_reducible rfl)
        simp only [Act.put, List.setIfInBounds_toArray, List.set_cons_zero, List.set_cons_succ]
        refine ord_one 19 rfl (by kernel_rfl) (by rfl) (fun K hK => ?_)
        have hc2 := Hc1.out _ X7.out
        have hfz1 := Hfr.out _ X7.out
        go_wp2_with fail
        clear hc2 hfz1
        refine hK.out _ _ trivial (fun _ => ?_)
        clear hK
        try simp only [Act.put, List.setIfInBounds_toArray, List.set_cons_zero, List.set_cons_succ]
        refine wpAnyH_done (by kernel_rfl) ?_ _
        go_wp2_with fail
        go_end0
        exact Hend7.out
      · have hc2 := Hc1.out _ X0.out
        go_wp2_with fail
        clear hc2
        refine hK.out _ _ trivial (fun _ => ?_)
        clear hK
        try simp only [Act.put, List.setIfInBounds_toArray, List.set_cons_zero, List.set_cons_succ]
        refine ord_take 7 (v := ?v30x7) rfl (by kernel_rfl) (by kernel_rfl) (by kernel_rfl) (fun _ _ _ h => h) (by rfl) trivial ?y30x7 ?_
        case y30x7 => (intro w hSw; clear hSw; go_simp; try with_reducible rfl)
        simp only [Act.put, List.setIfInBounds_toArray, List.set_cons_zero, List.set_cons_succ]
        refine ord_one 1 rfl (by kernel_rfl) (by rfl) (fun K hK => ?_)
        go_wp2_with fail
        have X1 := Lib.hid (X0.out.alloc X0.out.size (.cells #[] 96))
        refine hK.out _ _ trivial (fun _ => ?_)
        clear hK
        try simp only [Act.put, List.setIfInBounds_toArray, List.set_cons_zero, List.set_cons_succ]
        refine ord_one 8 rfl (by kernel_rfl) (by rfl) (fun K hK => ?_)
        have hown0 := own_emptyS Wd 96 3
        have hup := Hup.out _ X1.out
        refine wp_app (.tmp 14) (.tmp 20) 92 (by rfl) 96 iF _ 3 48 Try.underlying92 hFi hF0 hF1 hF2 rfl (by decide) (.slice (some ⟨Wd.heap.size, 0, none⟩) 0 0) 0 [] (by rfl) hown0 (.slice pv i cv) i _ (by rfl) hup (fun u hu => Hone.out u (List.mem_of_mem_take hu)) (by unfold maxLen; omega) (by omega) ?_
        clear hown0 hup
        intro v6 w6 hown6 hgrow6 hloc6
        have X6 := Lib.hid (X1.out.grown hgrow6 X1.out.size (fun j e => by have := X0.out.size; simp [Value.ownBlock] at e; omega))
        have hnew6 := own_ge (B := w.heap.size) hloc6 (fun k hk => by have := X0.out.size; simp [Value.ownBlock] at hk; omega) X1.out.size
        rw [Nat.zero_add, List.nil_append] at hown6
        obtain ⟨p6, c6, rfl⟩ := OwnR.shape hown6
        have Hown6 := Lib.hid hown6
        have Hnew6 := Lib.hid hnew6
        clear hgrow6 hloc6 hown6 hnew6
        refine hK.out _ _ trivial (fun _ => ?_)
        clear hK
        try simp only [Act.put, List.setIfInBounds_toArray, List.set_cons_zero, List.set_cons_succ]
        refine ord_one 16 rfl (by kernel_rfl) (by rfl) (fun K hK => ?_)
        have hfrom := Hfrom.out _ X6.out
        refine wp_app (.tmp 21) (.tmp 28) 92 (by rfl) 96 iF _ 3 48 Try.underlying92 hFi hF0 hF1 hF2 rfl (by decide) (.slice p6 i c6) i _ (by rfl) Hown6.out (.slice pF (N - (i + 1)) (cv - (i + 1))) (N - (i + 1)) _ (by rfl) hfrom (fun u hu => Hone.out u (List.mem_of_mem_drop hu)) (by unfold maxLen; omega) (by omega) ?_
        clear hfrom
        intro v7 w7 hown7 hgrow7 hloc7
        have X7 := Lib.hid (X6.out.grown hgrow7 X6.out.size Hnew6.out)
        have hnew7 := own_ge (B := w.heap.size) hloc7 Hnew6.out X6.out.size
        obtain ⟨p7, c7, rfl⟩ := OwnR.shape hown7
        have Hend7 := Lib.hid (Hend.out w7 _ X7.out hown7 hnew7)
        clear hgrow7 hloc7 hown7 hnew7
        refine hK.out _ _ trivial (fun _ => ?_)
        clear hK
        try simp only [Act.put, List.setIfInBounds_toArray, List.set_cons_zero, List.set_cons_succ]
        refine ord_take 17 (v := ?v33x17) rfl (by kernel_rfl) (by kernel_rfl) (by kernel_rfl) (fun _ _ _ h => h) (by rfl) trivial ?y33x17 ?_
        case y33x17 => (intro w hSw; clear hSw; go_simp; try with_reducible rfl)
        simp only [Act.put, List.setIfInBounds_toArray, List.set_cons_zero, List.set_cons_succ]
        refine ord_take 18 (v := ?v33x18) rfl (by kernel_rfl) (by kernel_rfl) (by kernel_rfl) (fun _ _ _ h => h) (by rfl) trivial ?y33x18 ?_
        case y33x18 => (intro w hSw; clear hSw; go_simp; try with_reducible rfl)
        simp only [Act.put, List.setIfInBounds_toArray, List.set_cons_zero, List.set_cons_succ]
        refine ord_one 19 rfl (by kernel_rfl) (by rfl) (fun K hK => ?_)
        have hc2 := Hc1.out _ X7.out
        have hfz1 := Hfr.out _ X7.out
        go_wp2_with fail
        clear hc2 hfz1
        refine hK.out _ _ trivial (fun _ => ?_)
        clear hK
        try simp only [Act.put, List.setIfInBounds_toArray, List.set_cons_zero, List.set_cons_succ]
        refine wpAnyH_done (by kernel_rfl) ?_ _
        go_wp2_with fail
        go_end0
        exact Hend7.out
end
end Go.Proofs.Ytdlbamhabenhgaa

namespace Go.Proofs.Ytdlbamhabenhgaa
open Go.RowKit Go.Sat Go.Maps

section
variable {w : World} {r : Nat} {v : Value} {L : List RFile} {own : Nat → Prop} {D : DiskM}

set_option maxRecDepth 100000 in
set_option maxHeartbeats 2000000 in
theorem rrem_calls (h : RefIn w r v L own D) (s : ByteArray) (hs : s.size ≤ 9223372036854775807) :
    Calls Try.prog 67 #[.pointer (some ⟨r, 0, none⟩), .string s] w (RStep w r own (D.remove [nm s])) := by
  have h1 : RefIn (w.alloc (.cells #[.string s] 9)) r v L own D := h.below ((Below.refl _ _).alloc (Nat.le_refl _) _)
  have hmay := rmay_calls h1 (some ⟨w.heap.size, 0, none⟩) [s] 1 (strs_one w s) (by simp) (by simpa using hs)
  simp only [List.map_cons, List.map_nil] at hmay
  have hE : D.remove [nm s] = D.each1 DiskM.gRemove (nm s) := each_one _ _ _
  rw [hE]
  by_cases hm : D.may [nm s] = 0
  · have hsp := spot_calls h1 s
    rw [h.is] at hsp
    rw [hm] at hmay
    cases hg : Sat.get (nm s) D.files with
    | none =>
      rw [hg] at hsp
      have hR : DiskM.each1 DiskM.gRemove D (nm s) = (D, 7) := by unfold DiskM.each1; rw [if_neg (by rw [hm]; simp), hg]
      rw [hR]
      have Hf := Lib.hid (fun q => rstep_same h (below_names w (.cells #[.string s] 9) q) 7)
      have Hmay := Lib.hid hmay
      have Hsp := Lib.hid hsp
      clear h h1 hmay hsp hm hR hg hE
      go_enter Try.func67, Try.ntmps67
      go_wp2_with fail
      refine Hmay.out.mono ?_
      rintro e w2 ⟨rfl, rfl⟩
      go_wp2_with fail
      refine Hsp.out.mono ?_
      rintro e w3 ⟨rfl, q, rfl⟩
      go_wp2_with fail
      go_ret
      exact Hf.out q
    | some f =>
      rw [hg] at hsp
      have hR : DiskM.each1 DiskM.gRemove D (nm s) = (DiskM.done { D with files := del (nm s) D.files }, 0) := by unfold DiskM.each1; rw [if_neg (by rw [hm]; simp), hg]; rfl
      rw [hR]
      have Hrm := Lib.hid (fun q => rremove_calls (h.below (below_names w (.cells #[.string s] 9) q)) s)
      have hfz := may_fuse hm
      have Hdid := Lib.hid (show ∀ q e w', RGone ((w.alloc (.cells #[.string s] 9)).drewN q) r own { D with files := del (nm s) D.files } e w' → Calls Try.prog 76 #[.pointer (some ⟨r, 0, none⟩)] w' (RStep w r own (DiskM.done { D with files := del (nm s) D.files }, 0)) from fun q e w' hgn => by
        obtain ⟨-, own', v', L', hin, hch, -, hx⟩ := hgn
        have hb := below_names w (.cells #[.string s] 9) q
        refine (rdid_calls hin hfz).mono fun e2 w2 h2 => ?_
        have hc2 : Chg own w w' := chg_below hb (hch.mono fun k _ e => by rw [e]; exact h.or)
        exact rstep_did hc2 (fun k hk => (hx k hk).imp id fun hh => Nat.le_trans hb.size hh) hc2.size h2)
      have Hmay := Lib.hid hmay
      have Hsp := Lib.hid hsp
      clear h h1 hmay hsp hm hR hg hE
      go_enter Try.func67, Try.ntmps67
      go_wp2_with fail
      refine Hmay.out.mono ?_
      rintro e w2 ⟨rfl, rfl⟩
      go_wp2_with fail
      refine Hsp.out.mono ?_
      rintro e w3 ⟨rfl, q, rfl⟩
      go_wp2_with fail
      refine (Hrm.out q).mono ?_
      intro e w4 h4
      have Hd := Lib.hid (Hdid.out q e w4 h4)
      obtain ⟨rfl, -⟩ := h4
      clear Hrm Hdid
      go_wp2_with fail
      refine Hd.out.mono ?_
      intro e w5 h5
      have HE := Lib.hid h5
      obtain ⟨rfl, -⟩ := h5
      go_wp2_with fail
      go_ret
      exact HE.out
  · have hR : DiskM.each1 DiskM.gRemove D (nm s) = (D, D.may [nm s]) := by unfold DiskM.each1; rw [if_pos hm]
    rw [hR]
    have Hf := Lib.hid (rstep_same h ((Below.refl _ _).alloc (Nat.le_refl _) (.cells #[.string s] 9)) (D.may [nm s]))
    have Hmay := Lib.hid hmay
    generalize D.may [nm s] = m at *
    have hne : ((m : Int) != 0) = true := by simp; omega
    clear h h1 hmay hR hE
    go_enter Try.func67, Try.ntmps67
    go_wp2_with fail
    refine Hmay.out.mono ?_
    rintro e w2 ⟨rfl, rfl⟩
    go_wp2_with fail
    go_ret
    exact Hf.out
end
end Go.Proofs.Ytdlbamhabenhgaa
