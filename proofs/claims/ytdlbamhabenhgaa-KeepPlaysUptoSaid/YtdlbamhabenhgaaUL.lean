/- The document's disk: Copy. (Its walk is printed by mkr5.py.) The contract of Truncate. The program's disk and the document's, side by side. The document's check sum (satrapyref1.Sum) is the program's. The document's Four and FromFour. The document's Encode (satrapyref2). The document's order of a record's checks comes to the same (plain laws). -/
import Derived.Test.YtdlbamhabenhgaaUD
import Derived.Test.YtdlbamhabenhgaaUE
import Derived.Test.YtdlbamhabenhgaaUF
import Derived.Test.YtdlbamhabenhgaaUK
namespace Go.Proofs.Ytdlbamhabenhgaa
open Go.RowKit Go.Sat Go.Maps

section
variable {w : World} {r : Nat} {v : Value} {L : List RFile} {own : Nat → Prop} {D : DiskM}

/-- Behind k rounds: the copy so far. -/
structure RCopy (w W : World) (r2 : Nat) (v2 : Value) (L : List RFile) (D : DiskM) (k : Nat) (M : List RFile) (own2 : Nat → Prop) : Prop where
  core : RefCore W r2 v2 M own2 D.room none
  keys : M.map RFile.key = (L.take k).map RFile.key
  new : ∀ j, own2 j → w.heap.size ≤ j
  bel : Below w.heap.size w W

theorem RCopy.len {W : World} {r2 : Nat} {v2 : Value} {k : Nat} {M : List RFile} {own2 : Nat → Prop} (h : RCopy w W r2 v2 L D k M own2) (hk : k ≤ L.length) : M.length = k := by
  have := congrArg List.length h.keys
  rw [List.length_map, List.length_map, List.length_take, Nat.min_eq_left hk] at this
  exact this

theorem ok_copy {D : DiskM} (h : D.OK) : D.copy.OK := { h with fuse := fun _ e => by cases e }

set_option maxRecDepth 100000 in
set_option maxHeartbeats 8000000 in
theorem rcopy_calls (h : RefIn w r v L own D) :
    Calls Try.prog 34 #[.pointer (some ⟨r, 0, none⟩)] w fun e w' => ∃ r2 v2 L2 own2, e = .returned (.pointer (some ⟨r2, 0, none⟩)) ∧ RefIn w' r2 v2 L2 own2 D.copy ∧ (∀ k, own2 k → w.heap.size ≤ k) ∧ Below w.heap.size w w' := by
  have hfit := h.fit
  have H := Lib.hid h
  have Hat := Lib.hid h.at
  obtain ⟨pv, cv, hgv⟩ := h.slice
  have c0 := h.c0
  have c1 := h.c1.trans (by rw [hgv])
  have hrlt : r < w.heap.size := h.olt r h.or
  clear h
  subst hgv
  generalize hN : L.length = N at *
  have HN := Lib.hid hN
  clear hN
  obtain ⟨i0, hi, hz0, hz1, hz2⟩ := info_parts (show (Try.prog.info? 5).map (fun i => (i.zero, i.size, i.bytes)) = some (some (.int .u8 0), 1, 1) by kernel_rfl)
  obtain ⟨iF, hFi, hF0, hF1, hF2⟩ := info_parts (show (Try.prog.info? 96).map (fun i => (i.zero, i.size, i.bytes)) = some (some (.agg #[.string ⟨#[]⟩, .slice none 0 0, .int .i64 0]), 3, 48) by kernel_rfl)
  go_enter Try.func34, Try.ntmps34
  go_wp2_with fail
  have hst : RCopy w (w.alloc (.cells #[.int .i64 (D.room : Int), .slice none 0 0, .int .i64 (-1)] 94)) w.heap.size (.slice none 0 0) L D 0 [] (fun j => j = w.heap.size) :=
    ⟨⟨new_block w _, OwnR.nil _ _ _, fun x hx => (by cases hx), rfl, fun k hk => (by cases hk), fun x hx => (by cases hx), fun k hk => by rw [hk]; simp⟩, rfl, fun j hj => by rw [hj]; exact Nat.le_refl _, (Below.refl _ _).alloc (Nat.le_refl _) _⟩
  have Hst := Lib.hid hst
  clear hst c0
  generalize hr2 : w.heap.size = r2 at *
  go_loopw [4] (fun i W => ∃ (k : Nat) (v2 : Value) (M : List RFile) (own2 : Nat → Prop), k ≤ N ∧ i = .int .i64 k ∧ RCopy w W r2 v2 L D k M own2) (fun i _ => N - (intOf i).toNat)
  case atStart => exact ⟨0, _, _, _, Nat.zero_le _, rfl, Hst.out⟩
  case round =>
    obtain ⟨k, v2, M, own2, hk, rfl, hr⟩ := hrel
    clear Hst
    by_cases hlt : k < N
    · have hkl : k < L.length := by rw [HN.out]; exact hlt
      obtain ⟨x, hx⟩ : ∃ x, L[k]? = some x := ⟨_, List.getElem?_eq_getElem hkl⟩
      have hM : M.length = k := hr.len (by omega)
      rcases Hat.out with h0 | ⟨g, c1', e1, -, -⟩
      · rw [h0] at hkl
        simp at hkl
      cases e1
      obtain ⟨pb, cb, eb, hbc⟩ := own_slice (H.out.data x (List.mem_of_getElem? hx))
      have hin := H.out.below hr.bel
      have hc1 : wr.cell? ⟨r, 1, none⟩ = some (.slice (some ⟨g, 0, none⟩) N cv) := hin.c1
      obtain ⟨hc2, hc3, hc4⟩ := hin.core.at rfl hx
      rw [eb] at hc3
      rw [enc_str] at hc2
      have hlm := H.out.len_le hx
      have hdat := (hin.data x (List.mem_of_getElem? hx)).has
      rw [eb] at hdat
      have Hx := Lib.hid hx
      have Hr := Lib.hid hr
      have HM := Lib.hid hM
      obtain ⟨p2, c2, e2⟩ := hr.core.row.shape
      rw [hM] at e2
      subst e2
      generalize hnn : x.n = nn at *
      generalize hmm : x.f.data.length = m at *
      generalize hla : x.f.lasts = la at *
      have Hnn := Lib.hid (And.intro hnn (And.intro hmm hla))
      have hE : OwnR ((wr.alloc (.cells #[.string ⟨nn.toArray⟩, .slice pb m cb, .int .i64 (la : Int)] 96)).alloc (.cells #[] 5)) 5 1 (.slice (some ⟨wr.heap.size + 1, 0, none⟩) 0 0) 0 [] := by
        have := own_empty (wr.alloc (.cells #[.string ⟨nn.toArray⟩, .slice pb m cb, .int .i64 (la : Int)] 96)) 5
        rw [World.size_alloc] at this
        exact this
      have hXg : Below wr.heap.size wr ((wr.alloc (.cells #[.string ⟨nn.toArray⟩, .slice pb m cb, .int .i64 (la : Int)] 96)).alloc (.cells #[] 5)) := ((Below.refl _ _).alloc (Nat.le_refl _) _).alloc (by simp) _
      have hDg : Holds ((wr.alloc (.cells #[.string ⟨nn.toArray⟩, .slice pb m cb, .int .i64 (la : Int)] 96)).alloc (.cells #[] 5)) 1 (.slice pb m cb) m (bytesV x.f.data) := by
        have h := hdat.below hXg
        unfold HasB at h
        rw [hmm] at h
        exact h
      have hFg : ((wr.alloc (.cells #[.string ⟨nn.toArray⟩, .slice pb m cb, .int .i64 (la : Int)] 96)).alloc (.cells #[] 5)).heap[wr.heap.size]? = some (.cells #[.string ⟨nn.toArray⟩, .slice pb m cb, .int .i64 (la : Int)] 96 (0, 0)) := old_block _ (new_block wr _)
      have HG := Lib.hid (And.intro hE (And.intro hXg (And.intro hDg hFg)))
      clear hE hXg hDg hFg hdat hin hr hx hM hnn hmm hla eb
      go_wp2_with (at_builtin; refine wpList_app _ rfl (.tmp 28) (.tmp 30) 23 rfl 5 i0 (.int .u8 0) 1 1 Try.underlying23 hi hz0 hz1 hz2 rfl (by decide) (.slice (some ⟨wr.heap.size + 1, 0, none⟩) 0 0) 0 [] rfl HG.out.1 (.slice pb m cb) m (bytesV x.f.data) rfl HG.out.2.2.1 (bytesV_one _) (by unfold maxLen; omega) (by omega) ?_; intro v12 w12 hown12 hgrow12 hloc12; rw [Nat.zero_add, List.nil_append] at hown12; have hX := HG.out.2.1.grown hgrow12 HG.out.2.1.size (fun j e => by simp [Value.ownBlock] at e; omega); have hnew := own_ge (B := wr.heap.size + 1) hloc12 (fun k hk => by simp [Value.ownBlock] at hk; omega) (by simp); have hF12 := grown_block hgrow12 HG.out.2.2.2 (by simp [Value.ownBlock]); obtain ⟨p12, c12, rfl⟩ := OwnR.shape hown12; have X12 := Lib.hid (And.intro hX (And.intro hown12 (And.intro hnew hF12))); have hcf := cell_of (i := 1) (v := .slice pb m cb) hF12 rfl; have hff := frozen_of hF12 1; clear hown12 hgrow12 hloc12 hX hnew hF12)
      clear hcf hff hc1 hc2 hc3 hc4 HG
      have hfbR : ∀ j, own2 j → j < wr.heap.size := Hr.out.core.olt
      have hsS : wr.heap.size < (w12.setCell ⟨wr.heap.size, 1, none⟩ (.slice p12 m c12)).heap.size := by
        have := lt_of_block X12.out.2.2.2
        simpa [World.setCell] using this
      have hfS : (w12.setCell ⟨wr.heap.size, 1, none⟩ (.slice p12 m c12)).heap[wr.heap.size]? = some (.cells #[.string ⟨nn.toArray⟩, .slice p12 m c12, .int .i64 (la : Int)] 96 (0, 0)) := set_block X12.out.2.2.2 1 _
      have hkS : ∀ j, j < wr.heap.size → (w12.setCell ⟨wr.heap.size, 1, none⟩ (.slice p12 m c12)).heap[j]? = wr.heap[j]? := fun j hj => (set_other _ (Nat.ne_of_lt hj)).trans (X12.out.1.block j hj)
      have hdS : OwnB (w12.setCell ⟨wr.heap.size, 1, none⟩ (.slice p12 m c12)) 5 (.slice p12 m c12) x.f.data := by
        have h := X12.out.2.1
        refine OwnR.keep (show OwnB w12 5 (.slice p12 m c12) x.f.data from by unfold OwnB; rw [Hnn.out.2.1]; exact h) fun j hj => set_other _ (by have := X12.out.2.2.1 j hj; show j ≠ wr.heap.size; omega)
      have hnS : ∀ j, (Value.slice p12 m c12).ownBlock = some j → wr.heap.size < j := fun j hj => X12.out.2.2.1 j hj
      have hchS : Chg (fun _ => False) w (w12.setCell ⟨wr.heap.size, 1, none⟩ (.slice p12 m c12)) := by
        have h1 := Chg.of_below Hr.out.bel
        have h2 := h1.trans (Chg.of_below X12.out.1) fun _ _ h => h
        exact h2.trans (Chg.setCell w12 ⟨wr.heap.size, 1, none⟩ (.slice p12 m c12)) fun j hj e => by
          have e : j = wr.heap.size := e
          have := Hr.out.bel.size
          omega
      have HS := Lib.hid (And.intro hfbR (And.intro hsS (And.intro hfS (And.intro hkS (And.intro hdS (And.intro hnS hchS))))))
      clear hfbR hsS hfS hkS hdS hnS hchS X12
      generalize w12.setCell ⟨wr.heap.size, 1, none⟩ (.slice p12 m c12) = Ws at *
      generalize hfb : wr.heap.size = fb at *
      have hcS : RefCore Ws r2 (.slice p2 k c2) M own2 D.room none := Hr.out.core.keep (by rw [hfb]; exact Nat.le_of_lt HS.out.2.1) fun j hj => HS.out.2.2.2.1 j (HS.out.1 j hj)
      have HcS := Lib.hid hcS
      have Hc2 := Lib.hid (show ∀ W', Below Ws.heap.size Ws W' → W'.cell? ⟨r2, 1, none⟩ = some (.slice p2 k c2) from fun W' hb => (hcS.keep (w' := W') hb.size fun j hj => hb.block j (hcS.olt j hj)).c1)
      have Hrow2 := Lib.hid (show ∀ W', Below Ws.heap.size Ws W' → OwnR W' 96 3 (.slice p2 k c2) k (M.flatMap RFile.cells) from fun W' hb => by
        have := (hcS.keep (w' := W') hb.size fun j hj => hb.block j (hcS.olt j hj)).row
        rwa [HM.out] at this)
      have Hf3 := Lib.hid (show ∀ W', Below Ws.heap.size Ws W' → W'.cell? ⟨fb, 0, none⟩ = some (.string ⟨nn.toArray⟩) ∧ W'.cell? ⟨fb, 1, none⟩ = some (.slice p12 m c12) ∧ W'.cell? ⟨fb, 2, none⟩ = some (.int .i64 (la : Int)) from fun W' hb =>
        have hf := (hb.block fb HS.out.2.1).trans HS.out.2.2.1
        ⟨cell_of hf rfl, cell_of hf rfl, cell_of hf rfl⟩)
      have Hend := Lib.hid (show ∀ Wd w6 v6, Below Ws.heap.size Ws Wd → OwnR w6 96 3 v6 (k + 1) (M.flatMap RFile.cells ++ [.string ⟨nn.toArray⟩, .slice p12 m c12, .int .i64 (la : Int)]) → (Wd.alloc (.cells #[.string ⟨nn.toArray⟩, .slice p12 m c12, .int .i64 (la : Int)] 96)).grownBy w6 (Value.slice p2 k c2).ownBlock →
          (v6.ownBlock = (Value.slice p2 k c2).ownBlock ∨ ∃ g, v6.ownBlock = some g ∧ (Wd.alloc (.cells #[.string ⟨nn.toArray⟩, .slice p12 m c12, .int .i64 (la : Int)] 96)).heap.size ≤ g) →
          (w6.cell? ⟨fb, 0, none⟩ = some (.string ⟨nn.toArray⟩) ∧ w6.cell? ⟨fb, 1, none⟩ = some (.slice p12 m c12) ∧ w6.cell? ⟨fb, 2, none⟩ = some (.int .i64 (la : Int))) ∧
          w6.cell? ⟨r2, 1, none⟩ = some (.slice p2 k c2) ∧ w6.frozen? ⟨r2, 1, none⟩ = false ∧
          ((w6.setCell ⟨r2, 1, none⟩ v6).cell? ⟨fb, 0, none⟩ = some (.string ⟨nn.toArray⟩) ∧ (w6.setCell ⟨r2, 1, none⟩ v6).cell? ⟨fb, 1, none⟩ = some (.slice p12 m c12) ∧ (w6.setCell ⟨r2, 1, none⟩ v6).cell? ⟨fb, 2, none⟩ = some (.int .i64 (la : Int))) ∧
          RCopy w (w6.setCell ⟨r2, 1, none⟩ v6) r2 v6 L D (k + 1) (M ++ [⟨nn, .slice p12 m c12, x.f⟩]) (fun j => own2 j ∨ v6.ownBlock = some j ∨ (Value.slice p12 m c12).ownBlock = some j) from fun Wd w6 v6 hbd hown hgrow hloc => by
        have hr2o := HcS.out.or
        have hr2l := HS.out.1 r2 hr2o
        have hSl := HS.out.2.1
        have hdl := hbd.size
        have hal : (Wd.alloc (.cells #[.string ⟨nn.toArray⟩, .slice p12 m c12, .int .i64 (la : Int)] 96)).heap.size = Wd.heap.size + 1 := World.size_alloc _ _
        have hv2 : ∀ j, (Value.slice p2 k c2).ownBlock = some j → own2 j ∧ j ≠ r2 := HcS.out.ov
        have hkeep : ∀ j, j < Ws.heap.size → (Value.slice p2 k c2).ownBlock ≠ some j → w6.heap[j]? = Ws.heap[j]? := fun j hj hne => by
          have h1 := hgrow.block j (by omega) (fun e => hne e.symm)
          exact h1.trans ((show (Wd.alloc (.cells #[.string ⟨nn.toArray⟩, .slice p12 m c12, .int .i64 (la : Int)] 96)).heap[j]? = Wd.heap[j]? from Below.block ((Below.refl _ _).alloc (Nat.le_refl _) _) j (by omega)).trans (hbd.block j hj))
        have hfb6 : w6.heap[fb]? = some (.cells #[.string ⟨nn.toArray⟩, .slice p12 m c12, .int .i64 (la : Int)] 96 (0, 0)) := (hkeep fb hSl fun e => by have := HS.out.1 fb (hv2 fb e).1; omega).trans HS.out.2.2.1
        have hr26 : w6.heap[r2]? = some (.cells #[.int .i64 (D.room : Int), .slice p2 k c2, .int .i64 (leftOf none)] 94 (0, 0)) := (hkeep r2 (by omega) fun e => (hv2 r2 e).2 rfl).trans HcS.out.cells
        have hz6 : (w6.setCell ⟨r2, 1, none⟩ v6).heap[fb]? = some (.cells #[.string ⟨nn.toArray⟩, .slice p12 m c12, .int .i64 (la : Int)] 96 (0, 0)) := (set_other _ (show fb ≠ r2 by omega)).trans hfb6
        have hv6 : ∀ j, v6.ownBlock = some j → j ≠ r2 ∧ j ≠ fb ∧ ((Value.slice p2 k c2).ownBlock = some j ∨ Ws.heap.size < j + 1 ∧ Wd.heap.size < j) ∧ w.heap.size ≤ j := fun j hj => by
          have hwb := Hr.out.bel.size
          rcases hloc with e | ⟨g', e, hg'⟩
          · rw [e] at hj
            have h1 := hv2 j hj
            have h2 := HS.out.1 j h1.1
            exact ⟨h1.2, by omega, .inl hj, Hr.out.new j h1.1⟩
          · rw [e] at hj
            cases hj
            exact ⟨by omega, by omega, .inr ⟨by omega, by omega⟩, by omega⟩
        have h12 : ∀ j, (Value.slice p12 m c12).ownBlock = some j → j < Ws.heap.size := fun j hj => OwnR.lt HS.out.2.2.2.2.1 hj
        have hn12 := HS.out.2.2.2.2.2.1
        refine ⟨⟨cell_of hfb6 rfl, cell_of hfb6 rfl, cell_of hfb6 rfl⟩, cell_of hr26 rfl, frozen_of hr26 1, ⟨cell_of hz6 rfl, cell_of hz6 rfl, cell_of hz6 rfl⟩, ⟨⟨?_, ?_, ?_, .inl hr2o, ?_, ?_, ?_⟩, ?_, ?_, ?_⟩⟩
        · exact set_block hr26 1 v6
        · have hl : (M ++ [(⟨nn, .slice p12 m c12, x.f⟩ : RFile)]).length = k + 1 := by rw [List.length_append, HM.out]; rfl
          rw [hl, List.flatMap_append]
          have hc : [(⟨nn, .slice p12 m c12, x.f⟩ : RFile)].flatMap RFile.cells = [.string ⟨nn.toArray⟩, .slice p12 m c12, .int .i64 (la : Int)] := by
            show [encStr nn, .slice p12 m c12, .int .i64 (x.f.lasts : Int)] = _
            rw [enc_str, Hnn.out.2.2]
          rw [hc]
          exact hown.keep fun j hj => set_other _ (hv6 j hj).1
        · intro y hy
          rcases List.mem_append.1 hy with hy | hy
          · refine OwnR.keep (HcS.out.data y hy) fun j hj => ?_
            have h1 := HcS.out.ob y hy j hj
            have h2 := HS.out.1 j h1.1
            exact (set_other _ h1.2.1).trans (hkeep j (by omega) h1.2.2)
          · obtain rfl : y = _ := by simpa using hy
            refine OwnR.keep HS.out.2.2.2.2.1 fun j hj => ?_
            have h1 := hn12 j hj
            have h2 := h12 j hj
            exact (set_other _ (show j ≠ r2 by omega)).trans (hkeep j h2 fun e => by have := HS.out.1 j (hv2 j e).1; omega)
        · exact fun j hj => ⟨.inr (.inl hj), (hv6 j hj).1⟩
        · intro y hy j hj
          rcases List.mem_append.1 hy with hy | hy
          · have h1 := HcS.out.ob y hy j hj
            have h2 := HS.out.1 j h1.1
            refine ⟨.inl h1.1, h1.2.1, fun e => ?_⟩
            rcases (hv6 j e).2.2.1 with h | h
            · exact h1.2.2 h
            · omega
          · obtain rfl : y = _ := by simpa using hy
            have h1 := hn12 j hj
            have h2 := h12 j hj
            refine ⟨.inr (.inr hj), by omega, fun e => ?_⟩
            rcases (hv6 j e).2.2.1 with h | h
            · have := HS.out.1 j (hv2 j h).1
              omega
            · omega
        · intro j hj
          have h6 : Ws.heap.size < w6.heap.size := by have := hgrow.size; omega
          have hlt : j < w6.heap.size := by
            rcases hj with hj | hj | hj
            · have := HS.out.1 j hj
              omega
            · exact hown.lt hj
            · have := h12 j hj
              omega
          simpa [World.setCell] using hlt
        · rw [List.map_append, Hr.out.keys]
          have h4 : L.take (k + 1) = L.take k ++ [x] := by rw [List.take_add_one, Hx.out]; rfl
          rw [h4, List.map_append]
          congr 1
          show [(nn, x.f)] = [(x.n, x.f)]
          rw [Hnn.out.1]
        · intro j hj
          rcases hj with hj | hj | hj
          · exact Hr.out.new j hj
          · exact (hv6 j hj).2.2.2
          · have := hn12 j hj
            have := Hr.out.bel.size
            omega
        · have h1 := HS.out.2.2.2.2.2.2.trans (Chg.of_below hbd) fun _ _ h => h
          have h2 := h1.trans (Chg.alloc Wd (.cells #[.string ⟨nn.toArray⟩, .slice p12 m c12, .int .i64 (la : Int)] 96)) fun _ _ h => h
          have h3 := h2.trans (Chg.of_grown hgrow) fun j hj e => by
            have := Hr.out.new j (hv2 j e.symm).1
            omega
          have h4 := h3.trans (Chg.setCell w6 ⟨r2, 1, none⟩ v6) fun j hj e => by
            have e : j = r2 := e
            have := Hr.out.new r2 hr2o
            omega
          exact h4.below (Nat.le_refl _) fun _ _ h => h)
      clear hcS
      have X0 := Lib.hid (show Below Ws.heap.size Ws Ws.drew from ⟨rfl, rfl, rfl, Nat.le_refl _, fun _ _ => rfl⟩)
      have hS := Hf3.out _ X0.out
      refine ord_start (fun W' : World => W'.cell? ⟨fb, 0, none⟩ = some (.string ⟨nn.toArray⟩) ∧ W'.cell? ⟨fb, 1, none⟩ = some (.slice p12 m c12) ∧ W'.cell? ⟨fb, 2, none⟩ = some (.int .i64 (la : Int))) (n := 11) (by kernel_rfl) rfl hS (fun hHeld => ?_)
      clear hS
      generalize Ws.drew = Wd at *
      refine ord_take 0 (v := ?v0x0) rfl (by kernel_rfl) (by kernel_rfl) (by kernel_rfl) (fun _ _ _ h => h) (by rfl) (by assumption) ?y0x0 ?_
      case y0x0 => (intro w hSw; (try dsimp only at hSw); (try obtain ⟨hSw1, hSw2, hSw3⟩ := hSw); go_simp; try with_reducible rfl)
      simp only [Act.put, List.setIfInBounds_toArray, List.set_cons_zero, List.set_cons_succ]
      refine ord_take 1 (v := ?v0x1) rfl (by kernel_rfl) (by kernel_rfl) (by kernel_rfl) (fun _ _ _ h => h) (by rfl) (by assumption) ?y0x1 ?_
      case y0x1 => (intro w hSw; (try dsimp only at hSw); (try obtain ⟨hSw1, hSw2, hSw3⟩ := hSw); go_simp; try with_reducible rfl)
      simp only [Act.put, List.setIfInBounds_toArray, List.set_cons_zero, List.set_cons_succ]
      refine ord_take 2 (v := ?v0x2) rfl (by kernel_rfl) (by kernel_rfl) (by kernel_rfl) (fun _ _ _ h => h) (by rfl) (by assumption) ?y0x2 ?_
      case y0x2 => (intro w hSw; (try dsimp only at hSw); (try obtain ⟨hSw1, hSw2, hSw3⟩ := hSw); go_simp; try with_reducible rfl)
      simp only [Act.put, List.setIfInBounds_toArray, List.set_cons_zero, List.set_cons_succ]
      refine ord_take 3 (v := ?v0x3) rfl (by kernel_rfl) (by kernel_rfl) (by kernel_rfl) (fun _ _ _ h => h) (by rfl) (by assumption) ?y0x3 ?_
      case y0x3 => (intro w hSw; (try dsimp only at hSw); (try obtain ⟨hSw1, hSw2, hSw3⟩ := hSw); go_simp; try with_reducible rfl)
      simp only [Act.put, List.setIfInBounds_toArray, List.set_cons_zero, List.set_cons_succ]
      refine ord_take 5 (v := ?v0x5) rfl (by kernel_rfl) (by kernel_rfl) (by kernel_rfl) (fun _ _ _ h => h) (by rfl) (by assumption) ?y0x5 ?_
      case y0x5 => (intro w hSw; (try dsimp only at hSw); (try obtain ⟨hSw1, hSw2, hSw3⟩ := hSw); go_simp; try with_reducible rfl)
      simp only [Act.put, List.setIfInBounds_toArray, List.set_cons_zero, List.set_cons_succ]
      refine ord_two 4 6 rfl rfl (by kernel_rfl) (by rfl) (by rfl) (fun K hK => ?_) (fun K hK => ?_)
      · have hc2 := Hc2.out _ X0.out
        go_wp2_with fail
        clear hc2
        refine hK.out _ _ (Hf3.out _ X0.out) (fun hHeld => ?_)
        clear hK
        try simp only [Act.put, List.setIfInBounds_toArray, List.set_cons_zero, List.set_cons_succ]
        refine ord_one 6 rfl (by kernel_rfl) (by rfl) (fun K hK => ?_)
        go_wp2_with fail
        have X1 := Lib.hid (X0.out.alloc X0.out.size (.cells #[.string ⟨nn.toArray⟩, .slice p12 m c12, .int .i64 (la : Int)] 96))
        refine hK.out _ _ (Hf3.out _ X1.out) (fun hHeld => ?_)
        clear hK
        try simp only [Act.put, List.setIfInBounds_toArray, List.set_cons_zero, List.set_cons_succ]
        refine ord_one 7 rfl (by kernel_rfl) (by rfl) (fun K hK => ?_)
        have hown2 := Hrow2.out _ X1.out
        refine wp_app (.tmp 37) (.tmp 39) 92 (by rfl) 96 iF _ 3 48 Try.underlying92 hFi hF0 hF1 hF2 rfl (by decide) (.slice p2 k c2) k _ (by rfl) hown2 (.slice (some ⟨Wd.heap.size, 0, none⟩) 1 1) 1 [.string ⟨nn.toArray⟩, .slice p12 m c12, .int .i64 (la : Int)] (by rfl) (holds_lit Wd #[.string ⟨nn.toArray⟩, .slice p12 m c12, .int .i64 (la : Int)] _ 3 1 1 rfl rfl _ _) (fun u hu => by simp at hu; rcases hu with rfl | rfl | rfl <;> rfl) (by unfold maxLen; omega) (by omega) ?_
        intro v6 w6 hown6 hgrow6 hloc6
        obtain ⟨p6, c6, rfl⟩ := OwnR.shape hown6
        have Hend6 := Lib.hid (Hend.out Wd w6 (.slice p6 (k + 1) c6) X0.out hown6 hgrow6 hloc6)
        clear hown2 hown6 hgrow6 hloc6
        obtain ⟨X6a, hq0⟩ := Hend6.out
        refine hK.out _ _ (X6a) (fun hHeld => ?_)
        clear hK
        try simp only [Act.put, List.setIfInBounds_toArray, List.set_cons_zero, List.set_cons_succ]
        refine ord_take 8 (v := ?v1x8) rfl (by kernel_rfl) (by kernel_rfl) (by kernel_rfl) (fun _ _ _ h => h) (by rfl) (by assumption) ?y1x8 ?_
        case y1x8 => (intro w hSw; (try dsimp only at hSw); (try obtain ⟨hSw1, hSw2, hSw3⟩ := hSw); go_simp; try with_reducible rfl)
        simp only [Act.put, List.setIfInBounds_toArray, List.set_cons_zero, List.set_cons_succ]
        refine ord_take 9 (v := ?v1x9) rfl (by kernel_rfl) (by kernel_rfl) (by kernel_rfl) (fun _ _ _ h => h) (by rfl) (by assumption) ?y1x9 ?_
        case y1x9 => (intro w hSw; (try dsimp only at hSw); (try obtain ⟨hSw1, hSw2, hSw3⟩ := hSw); go_simp; try with_reducible rfl)
        simp only [Act.put, List.setIfInBounds_toArray, List.set_cons_zero, List.set_cons_succ]
        refine ord_one 10 rfl (by kernel_rfl) (by rfl) (fun K hK => ?_)
        obtain ⟨hq1, hq2, hq3, hq4⟩ := hq0
        go_wp2_with fail
        refine hK.out _ _ (hq3) (fun hHeld => ?_)
        clear hK
        try simp only [Act.put, List.setIfInBounds_toArray, List.set_cons_zero, List.set_cons_succ]
        refine wpAnyH_done (by kernel_rfl) ?_ _
        clear hHeld hq1 hq2 hq3
        go_wp2_with fail
        go_roundw
        case rel => exact ⟨k + 1, _, _, _, by omega, by go_num, hq4⟩
        case measure => simp [intOf]; omega
      · go_wp2_with fail
        have X1 := Lib.hid (X0.out.alloc X0.out.size (.cells #[.string ⟨nn.toArray⟩, .slice p12 m c12, .int .i64 (la : Int)] 96))
        refine hK.out _ _ (Hf3.out _ X1.out) (fun hHeld => ?_)
        clear hK
        try simp only [Act.put, List.setIfInBounds_toArray, List.set_cons_zero, List.set_cons_succ]
        refine ord_one 4 rfl (by kernel_rfl) (by rfl) (fun K hK => ?_)
        have hc2 := Hc2.out _ X1.out
        go_wp2_with fail
        clear hc2
        refine hK.out _ _ (Hf3.out _ X1.out) (fun hHeld => ?_)
        clear hK
        try simp only [Act.put, List.setIfInBounds_toArray, List.set_cons_zero, List.set_cons_succ]
        refine ord_one 7 rfl (by kernel_rfl) (by rfl) (fun K hK => ?_)
        have hown2 := Hrow2.out _ X1.out
        refine wp_app (.tmp 37) (.tmp 39) 92 (by rfl) 96 iF _ 3 48 Try.underlying92 hFi hF0 hF1 hF2 rfl (by decide) (.slice p2 k c2) k _ (by rfl) hown2 (.slice (some ⟨Wd.heap.size, 0, none⟩) 1 1) 1 [.string ⟨nn.toArray⟩, .slice p12 m c12, .int .i64 (la : Int)] (by rfl) (holds_lit Wd #[.string ⟨nn.toArray⟩, .slice p12 m c12, .int .i64 (la : Int)] _ 3 1 1 rfl rfl _ _) (fun u hu => by simp at hu; rcases hu with rfl | rfl | rfl <;> rfl) (by unfold maxLen; omega) (by omega) ?_
        intro v6 w6 hown6 hgrow6 hloc6
        obtain ⟨p6, c6, rfl⟩ := OwnR.shape hown6
        have Hend6 := Lib.hid (Hend.out Wd w6 (.slice p6 (k + 1) c6) X0.out hown6 hgrow6 hloc6)
        clear hown2 hown6 hgrow6 hloc6
        obtain ⟨X6a, hq0⟩ := Hend6.out
        refine hK.out _ _ (X6a) (fun hHeld => ?_)
        clear hK
        try simp only [Act.put, List.setIfInBounds_toArray, List.set_cons_zero, List.set_cons_succ]
        refine ord_take 8 (v := ?v2x8) rfl (by kernel_rfl) (by kernel_rfl) (by kernel_rfl) (fun _ _ _ h => h) (by rfl) (by assumption) ?y2x8 ?_
        case y2x8 => (intro w hSw; (try dsimp only at hSw); (try obtain ⟨hSw1, hSw2, hSw3⟩ := hSw); go_simp; try with_reducible rfl)
        simp only [Act.put, List.setIfInBounds_toArray, List.set_cons_zero, List.set_cons_succ]
        refine ord_take 9 (v := ?v2x9) rfl (by kernel_rfl) (by kernel_rfl) (by kernel_rfl) (fun _ _ _ h => h) (by rfl) (by assumption) ?y2x9 ?_
        case y2x9 => (intro w hSw; (try dsimp only at hSw); (try obtain ⟨hSw1, hSw2, hSw3⟩ := hSw); go_simp; try with_reducible rfl)
        simp only [Act.put, List.setIfInBounds_toArray, List.set_cons_zero, List.set_cons_succ]
        refine ord_one 10 rfl (by kernel_rfl) (by rfl) (fun K hK => ?_)
        obtain ⟨hq1, hq2, hq3, hq4⟩ := hq0
        go_wp2_with fail
        refine hK.out _ _ (hq3) (fun hHeld => ?_)
        clear hK
        try simp only [Act.put, List.setIfInBounds_toArray, List.set_cons_zero, List.set_cons_succ]
        refine wpAnyH_done (by kernel_rfl) ?_ _
        clear hHeld hq1 hq2 hq3
        go_wp2_with fail
        go_roundw
        case rel => exact ⟨k + 1, _, _, _, by omega, by go_num, hq4⟩
        case measure => simp [intOf]; omega
    · have hkN : k = N := by omega
      subst hkN
      have hLt : L.take k = L := List.take_of_length_le (by rw [HN.out]; exact Nat.le_refl _)
      have hfiles : D.copy.files = M.map RFile.key := by
        rw [hr.keys, hLt]
        exact H.out.files
      have hfin : RefIn wr r2 v2 M own2 D.copy := hr.core.full rfl rfl hfiles (ok_copy H.out.ok)
      have hc1 : wr.cell? ⟨r, 1, none⟩ = some (.slice pv k cv) := (H.out.below hr.bel).c1
      have Hf := Lib.hid (show ∃ r2' v2 L2 own2, Ending.returned (.pointer (some ⟨r2, 0, none⟩)) = .returned (.pointer (some ⟨r2', 0, none⟩)) ∧ RefIn wr r2' v2 L2 own2 D.copy ∧ (∀ k, own2 k → w.heap.size ≤ k) ∧ Below w.heap.size w wr from ⟨_, _, _, _, rfl, hfin, hr.new, hr.bel⟩)
      clear hr hfin hfiles hLt
      go_wp2_with fail
      go_ret
      exact Hf.out
end
end Go.Proofs.Ytdlbamhabenhgaa

namespace Go.Sat
open Go.RowKit
theorem own_cut {w : World} {e : TypeId} {p : Option Addr} {n c : Nat} {l : Bs} (h : OwnB w e (.slice p n c) l) {y : Nat} (hy : y ≤ l.length) : OwnB w e (.slice p y y) (l.take y) := by
  have hl : (l.take y).length = y := by rw [List.length_take]; omega
  unfold OwnB
  rw [hl]
  refine ⟨by rw [bytesV_len, hl]; omega, ?_⟩
  rcases h.2 with ⟨e1, hn⟩ | ⟨g, cap, cur, e1, hg, hnc, hcm, hcs, ht⟩
  · cases e1
    have hy0 : y = 0 := by omega
    subst hy0
    exact .inl ⟨rfl, rfl⟩
  · cases e1
    refine .inr ⟨g, y, cur, rfl, hg, Nat.le_refl _, by omega, by omega, ?_⟩
    rw [bytesV_take, ← ht, List.take_take]
    congr 1
    omega
end Go.Sat

namespace Go.Proofs.Ytdlbamhabenhgaa
open Go.RowKit Go.Sat Go.Maps

theorem ok_trunc {D : DiskM} (h : D.OK) {n : Bs} {f : FileM} (hg : Sat.get n D.files = some f) (k : Nat) : DiskM.OK { D with files := put n ⟨f.data.take k, min f.lasts k⟩ D.files } where
  srt := srt_put h.srt
  room := h.room
  used := by
    show sumBy DiskM.size (put n _ D.files) ≤ D.room
    rw [sum_put]
    have h1 : D.used = DiskM.size f + sumBy DiskM.size (del n D.files) := sum_del h.srt hg
    have := h.used
    simp only [DiskM.size, List.length_take] at h1 ⊢
    omega
  count := by
    show (put n _ D.files).length ≤ 4096
    rw [len_put]
    have := len_del h.srt hg
    have := h.count
    omega
  names p hp := by
    rcases mem_put.1 hp with rfl | ⟨hp, _⟩
    · exact (h.names (n, f) (get_mem hg) : okN n = true)
    · exact h.names p hp
  lasts p hp := by
    rcases mem_put.1 hp with rfl | ⟨hp, _⟩
    · have h1 : f.lasts ≤ f.data.length := h.lasts (n, f) (get_mem hg)
      show min f.lasts k ≤ (f.data.take k).length
      rw [List.length_take]
      omega
    · exact h.lasts p hp
  fuse := h.fuse

section
variable {w : World} {d m : Nat} {left : Int} {L : List (Bs × FRep)} {own : Own} {D : DiskM}

set_option maxRecDepth 100000 in
set_option maxHeartbeats 2000000 in
theorem trunc_bad (h : DiskIn w d m left L own D) (o : ByteArray) (hso : o.size ≤ 9223372036854775807) (z : Int) (hm : D.may [nm o] ≠ 0) :
    Calls Try.prog 37 #[.pointer (some ⟨d, 0, none⟩), .string o, .int .i64 z] w (After w d own (D, D.may [nm o])) := by
  have h1 := h.chg (Chg.alloc w (.cells #[.string o] 9)) (fun k hk => hk.elim)
  have hc := may_calls h1 _ [o] 1 (strs_one w o) (by simp) (by simpa using hso)
  simp only [List.map_cons, List.map_nil] at hc
  have Hfin := Lib.hid (show After w d own (D, D.may [nm o]) (.returned (.int .i64 (D.may [nm o] : Int))) (w.alloc (.cells #[.string o] 9)) from
    ⟨own, rfl, ⟨m, left, L, h1⟩, (Chg.alloc w _).mono fun _ _ h => h.elim, ext_refl _ _⟩)
  generalize D.may [nm o] = e0 at *
  have hne : ((e0 : Int) != 0) = true := by simp; omega
  have Hc := Lib.hid hc
  clear h hc h1
  go_enter Try.func37, Try.ntmps37
  go_wp2_with fail
  refine Hc.out.mono ?_
  rintro e w' ⟨rfl, rfl⟩
  go_wp2_with fail
  go_ret
  exact Hfin.out

set_option maxRecDepth 100000 in
set_option maxHeartbeats 2000000 in
theorem trunc_none (h : DiskIn w d m left L own D) (o : ByteArray) (hso : o.size ≤ 9223372036854775807) (z : Int) (hm : D.may [nm o] = 0) (hg : Sat.get (nm o) L = none) :
    Calls Try.prog 37 #[.pointer (some ⟨d, 0, none⟩), .string o, .int .i64 z] w (After w d own (D, 7)) := by
  have h1 := h.chg (Chg.alloc w (.cells #[.string o] 9)) (fun k hk => hk.elim)
  have hc := may_calls h1 _ [o] 1 (strs_one w o) (by simp) (by simpa using hso)
  simp only [List.map_cons, List.map_nil, hm] at hc
  have hlook := run_look_none _ keyLaw Try.underlying9 Try.underlying74 (zeroFile _) FRep.fb h1.map hso hg
  have hc1 := h1.c1
  have Hfin := Lib.hid (show After w d own (D, 7) (.returned (.int .i64 (7 : Int))) (w.alloc (.cells #[.string o] 9)) from
    ⟨own, rfl, ⟨m, left, L, h1⟩, (Chg.alloc w _).mono fun _ _ h => h.elim, ext_refl _ _⟩)
  have Hc := Lib.hid hc
  have Hlook := Lib.hid hlook
  have Hc1 := Lib.hid hc1
  clear h hc h1 hlook hc1
  generalize hw0 : w.alloc (.cells #[.string o] 9) = w0 at *
  go_enter Try.func37, Try.ntmps37
  go_wp2_with fail
  have hlook := Hlook.out
  have hc1 := Hc1.out
  refine Hc.out.mono ?_
  rintro e w' ⟨rfl, rfl⟩
  clear hw0
  go_wp2_with fail
  go_ret
  exact Hfin.out
set_option maxRecDepth 100000 in
set_option maxHeartbeats 4000000 in
theorem trunc_some (h : DiskIn w d m left L own D) (o : ByteArray) (hso : o.size ≤ 9223372036854775807) (z : Int) (hz : -9223372036854775808 ≤ z) (hz' : z ≤ 9223372036854775807) (hm : D.may [nm o] = 0) {r : FRep} (hg : Sat.get (nm o) L = some r) :
    Calls Try.prog 37 #[.pointer (some ⟨d, 0, none⟩), .string o, .int .i64 z] w (After w d own (if z < 0 ∨ (r.f.data.length : Int) < z then (D, 1) else (DiskM.done { D with files := put (nm o) ⟨r.f.data.take z.toNat, min r.f.lasts z.toNat⟩ D.files }, 0))) := by
  have h1 := h.chg (Chg.alloc w (.cells #[.string o] 9)) (fun k hk => hk.elim)
  have hc := may_calls h1 _ [o] 1 (strs_one w o) (by simp) (by simpa using hso)
  simp only [List.map_cons, List.map_nil, hm] at hc
  have hlook := run_look_some _ keyLaw Try.underlying9 Try.underlying74 (zeroFile _) FRep.fb h1.map hso hg
  have hc1 := h1.c1
  have hkey := WideMaps.keyOf_string_mk Try.underlying9 hso
  have hzf := may_zero hm
  have hgD : Sat.get (nm o) D.files = some r.f := by rw [h.get, hg]; rfl
  have hr := h1.fileAt hg
  have hlm : r.f.data.length ≤ 1073741824 := by
    have h5 : DiskM.size r.f ≤ D.used := le_sum h.ok.srt hgD
    have h6 := h.ok.used
    have h7 := h.ok.room
    unfold DiskM.size at h5
    omega
  obtain ⟨pv, cv, ev, hmc⟩ : ∃ p c, r.v = .slice p r.f.data.length c ∧ r.f.data.length ≤ c := by
    rcases hr.row.2 with ⟨e, hn⟩ | ⟨g, cap, cur, e, _, hnc, _⟩
    · exact ⟨none, 0, by rw [e, hn], by omega⟩
    · exact ⟨_, cap, e, hnc⟩
  have hcA := cell_of (i := 0) hr.cells rfl
  have hcB := cell_of (i := 1) hr.cells rfl
  have hfA := frozen_of hr.cells 0
  have hfB := frozen_of hr.cells 1
  rw [ev] at hcA
  by_cases hb : z < 0 ∨ (r.f.data.length : Int) < z
  · rw [if_pos hb]
    have Hfin := Lib.hid (show After w d own (D, 1) (.returned (.int .i64 ((1 : Nat) : Int))) (w.alloc (.cells #[.string o] 9)) from
      ⟨own, rfl, ⟨m, left, L, h1⟩, (Chg.alloc w _).mono fun _ _ h => h.elim, ext_refl _ _⟩)
    have Hc := Lib.hid hc
    generalize r.f.data.length = M at *
    clear h h1 hc hm hzf hg hgD hr hfA hfB ev
    generalize hw0 : w.alloc (.cells #[.string o] 9) = w0 at *
    by_cases hz0 : z < 0
    · go_enter Try.func37, Try.ntmps37
      go_wp2_with fail
      refine Hc.out.mono ?_
      rintro e w' ⟨rfl, rfl⟩
      clear hw0
      go_wp2_with fail
      go_ret
      exact Hfin.out
    · obtain ⟨y, rfl⟩ : ∃ y : Nat, z = (y : Int) := ⟨z.toNat, by omega⟩
      have hMy : M < y := by omega
      go_enter Try.func37, Try.ntmps37
      go_wp2_with fail
      refine Hc.out.mono ?_
      rintro e w' ⟨rfl, rfl⟩
      clear hw0
      go_wp2_with fail
      go_ret
      exact Hfin.out
  · rw [if_neg hb]
    obtain ⟨y, rfl⟩ : ∃ y : Nat, z = (y : Int) := ⟨z.toNat, by omega⟩
    rw [Int.toNat_natCast]
    have hyM : y ≤ r.f.data.length := by omega
    have hrow : OwnB (w.alloc (.cells #[.string o] 9)) 5 (.slice pv y y) (r.f.data.take y) := Go.Sat.own_cut (by rw [← ev]; exact hr.row) hyM
    have hof : own r.fb = some (2, nm o) := hr.ob
    have hog : ∀ g, (Value.slice pv y y).ownBlock = some g → own g = some (3, nm o) := fun g hgk => hr.og g (by rw [ev, ownBlock_slice pv _ _ y y]; exact hgk)
    have hv2 : OwnB (((w.alloc (.cells #[.string o] 9)).setCell ⟨r.fb, 0, none⟩ (.slice pv y y)).setCell ⟨r.fb, 1, none⟩ (.int .i64 ((min r.f.lasts y : Nat) : Int))) 5 (.slice pv y y) (r.f.data.take y) := OwnB.keep hrow fun k hk => by
      have hne : k ≠ r.fb := fun e => by
        have h1 := hog k hk
        rw [e, hof] at h1
        simp at h1
      exact (set_other _ hne).trans (set_other _ hne)
    obtain ⟨own', h4, hx⟩ := h1.upd hg (f' := ⟨r.f.data.take y, min r.f.lasts y⟩) (v' := .slice pv y y) (w' := ((w.alloc (.cells #[.string o] 9)).setCell ⟨r.fb, 0, none⟩ (.slice pv y y)).setCell ⟨r.fb, 1, none⟩ (.int .i64 ((min r.f.lasts y : Nat) : Int)))
      (by simp [World.setCell]) (fun k _ hne _ => (set_other _ hne).trans (set_other _ hne)) (set_block (set_block hr.cells 0 _) 1 _) hv2
      (fun g hgk => .inl (by rw [ev, ownBlock_slice pv _ _ y y]; exact hgk)) (ok_trunc h.ok hgD y)
    have hchg : Chg (Has own) w (((w.alloc (.cells #[.string o] 9)).setCell ⟨r.fb, 0, none⟩ (.slice pv y y)).setCell ⟨r.fb, 1, none⟩ (.int .i64 ((min r.f.lasts y : Nat) : Int))) := by
      have ho : Has own r.fb := by unfold Has; rw [hof]; simp
      refine (((Chg.alloc w _).mono (T := Has own) fun _ _ h => h.elim).trans (Chg.setCell _ ⟨r.fb, 0, none⟩ _) fun k _ e => ?_).trans (Chg.setCell _ ⟨r.fb, 1, none⟩ _) fun k _ e => ?_
      · rw [show k = r.fb from e]; exact ho
      · rw [show k = r.fb from e]; exact ho
    have hdone := done_calls h4 hzf.1
    have Hdone := Lib.hid hdone
    have Hchg := Lib.hid hchg
    have Hx := Lib.hid hx
    have Hsz := Lib.hid (Chg.alloc w (.cells #[.string o] 9)).size
    have Hod := Lib.hid (has_d h1)
    have Hc := Lib.hid hc
    obtain ⟨i0, hi, _⟩ := info_parts (show (Try.prog.info? 5).map (fun i => (i.zero, i.size, i.bytes)) = some (some (.int .u8 0), 1, 1) by kernel_rfl)
    have hsl : ∀ W, (Instr.slice 23 (.slice pv r.f.data.length cv) none (some (.int .i64 (y : Int))) (some (.int .i64 (y : Int)))).run Try.prog W = .ok (.slice pv y y) W := fun W => run_cut W Try.underlying23 hi pv _ cv y (by omega)
    have hmin : min (r.f.lasts : Int) (y : Int) = ((min r.f.lasts y : Nat) : Int) := by omega
    generalize hMM : r.f.data.length = M at *
    generalize r.f.lasts = la at *
    clear h h1 hc hm hzf hg hgD hr ev hrow hof hog hv2 h4 hx hchg hdone hMM
    generalize hw0 : w.alloc (.cells #[.string o] 9) = w0 at *
    go_enter Try.func37, Try.ntmps37
    go_wp2_with fail
    refine Hc.out.mono ?_
    rintro e w' ⟨rfl, rfl⟩
    clear hw0
    go_wp2_with fail
    refine Hdone.out.mono ?_
    rintro e w5 ⟨rfl, hd5, hc5⟩
    go_wp2_with fail
    go_ret
    exact ⟨own', rfl, hd5, Hchg.out.trans hc5 fun i _ e => by rw [e]; exact Hod.out, fun k hk => Hx.out k (Nat.lt_of_lt_of_le hk Hsz.out)⟩

/-- **Truncate.** -/
theorem trunc_calls (h : DiskAt w d D own) (o : ByteArray) (hso : o.size ≤ 9223372036854775807) (z : Int) (hz : -9223372036854775808 ≤ z) (hz' : z ≤ 9223372036854775807) :
    Calls Try.prog 37 #[.pointer (some ⟨d, 0, none⟩), .string o, .int .i64 z] w (After w d own (D.truncate (nm o) z)) := by
  obtain ⟨m, left, L, h⟩ := h
  unfold DiskM.truncate
  by_cases hm : D.may [nm o] = 0
  · rw [if_neg (by simpa using hm), h.get]
    cases hg : Sat.get (nm o) L with
    | none => exact trunc_none h o hso z hm hg
    | some r => exact trunc_some h o hso z hz hz' hm hg
  · rw [if_pos (by simpa using hm)]
    exact trunc_bad h o hso z hm
end

theorem st_trunc {w w1 : World} {d : Nat} {D : DiskM} {F : Nat → Prop} (h : St w w1 d D F) (s : ByteArray) (hss : s.size ≤ 9223372036854775807) (z : Int) (hz : -9223372036854775808 ≤ z) (hz' : z ≤ 9223372036854775807) :
    Calls Try.prog 37 #[.pointer (some ⟨d, 0, none⟩), .string s, .int .i64 z] w1 (Told w d F w1 (D.truncate (nm s) z)) := by
  obtain ⟨own, hd, hb, hnn, hF⟩ := h
  refine (trunc_calls hd s hss z hz hz').mono ?_
  rintro e w' ⟨own', rfl, hd', hc, hx⟩
  exact ⟨rfl, St.step hb hnn hF hd' hc hx⟩
end Go.Proofs.Ytdlbamhabenhgaa

namespace Go.Proofs.Ytdlbamhabenhgaa
open Go.RowKit Go.Sat Go.Maps

/-- Both lie in what is new since w; neither has what is the other's. -/
def Pair (w w1 : World) (d : Nat) (D : DiskM) (r : Nat) (R : DiskM) : Prop := ∃ own v L, St w w1 d D own ∧ RefIn w1 r v L own R ∧ ∀ k, own k → w.heap.size ≤ k

section
variable {w w1 : World} {d : Nat} {D : DiskM} {r : Nat} {R : DiskM}

theorem Pair.bel (h : Pair w w1 d D r R) : Below w.heap.size w w1 := let ⟨_, _, _, hS, _, _⟩ := h; hS.below
theorem Pair.okD (h : Pair w w1 d D r R) : D.OK := let ⟨_, _, _, hS, _, _⟩ := h; hS.ok
theorem Pair.okR (h : Pair w w1 d D r R) : R.OK := let ⟨_, _, _, _, hR, _⟩ := h; hR.ok
theorem Pair.next (h : Pair w w1 d D r R) {w2 : World} (hb : Below w1.heap.size w1 w2) : Pair w w2 d D r R := by
  obtain ⟨own, v, L, hS, hR, hn⟩ := h
  exact ⟨own, v, L, hS.next hb, hR.below hb, hn⟩
theorem Pair.alloc (h : Pair w w1 d D r R) (o : Obj) : Pair w (w1.alloc o) d D r R := h.next ((Below.refl _ _).alloc (Nat.le_refl _) o)
theorem Pair.drewN (h : Pair w w1 d D r R) (n : Nat) : Pair w (w1.drewN n) d D r R := h.next ⟨rfl, rfl, rfl, Nat.le_refl _, fun _ _ => rfl⟩

theorem RefIn.same {w2 : World} {own : Nat → Prop} {v : Value} {L : List RFile} (h : RefIn w1 r v L own R) (hS : St w w2 d D own) (hs : Same own w1 w2) : RefIn w2 r v L own R where
  cells := (hs r h.or).trans h.cells
  row := h.row.keep fun k hk => hs k (h.ov k hk).1
  files := h.files
  data := fun x hx => OwnR.keep (h.data x hx) fun k hk => hs k (h.ob x hx k hk).1
  or := h.or
  ov := h.ov
  ob := h.ob
  olt := fun _ hk => hS.flt hk
  ok := h.ok

/-- A thing done with the program's disk. -/
theorem pair_disk {P : Program} {f : FuncId} {args : Array Value} {Re : DiskM × Nat} (h : Pair w w1 d D r R) (hx : ∀ own, St w w1 d D own → Calls P f args w1 (Told w d own w1 Re)) :
    Calls P f args w1 fun e w' => e = .returned (.int .i64 (Re.2 : Int)) ∧ Pair w w' d Re.1 r R := by
  obtain ⟨own, v, L, hS, hR, hn⟩ := h
  refine (hx own hS).mono ?_
  rintro e w' ⟨rfl, hS', hs⟩
  exact ⟨rfl, own, v, L, hS', hR.same hS' hs, hn⟩

theorem pair_disk0 {P : Program} {f : FuncId} {args : Array Value} {D' : DiskM} (h : Pair w w1 d D r R) (hx : ∀ own, St w w1 d D own → Calls P f args w1 (Told0 w d own w1 D')) :
    Calls P f args w1 fun e w' => e = .returned (.tuple #[]) ∧ Pair w w' d D' r R := by
  obtain ⟨own, v, L, hS, hR, hn⟩ := h
  refine (hx own hS).mono ?_
  rintro e w' ⟨rfl, hS', hs⟩
  exact ⟨rfl, own, v, L, hS', hR.same hS' hs, hn⟩

theorem Pair.moved {w' : World} {own own' : Nat → Prop} {v' : Value} {L' : List RFile} {R' : DiskM} (hS : St w w1 d D own) (hn : ∀ k, own k → w.heap.size ≤ k) (hR' : RefIn w' r v' L' own' R') (hc : Chg own w1 w') (hx : ∀ k, own' k → own k ∨ w1.heap.size ≤ k) : Pair w w' d D r R' := by
  refine ⟨own', v', L', hS.move hc (fun k _ hk => ⟨hk, hn k hk⟩) (fun k hk => ⟨hx k hk, hR'.olt k hk⟩), hR', fun k hk => ?_⟩
  rcases hx k hk with h | h
  · exact hn k h
  · exact Nat.le_trans hS.below.size h

/-- A thing done with the document's disk. -/
theorem pair_ref {P : Program} {f : FuncId} {args : Array Value} {Re : DiskM × Nat} (h : Pair w w1 d D r R) (hx : ∀ own v L, RefIn w1 r v L own R → (∀ k, own k → w.heap.size ≤ k) → Calls P f args w1 (RStep w1 r own Re)) :
    Calls P f args w1 fun e w' => e = .returned (.int .i64 (Re.2 : Int)) ∧ Pair w w' d D r Re.1 := by
  obtain ⟨own, v, L, hS, hR, hn⟩ := h
  refine (hx own v L hR hn).mono ?_
  rintro e w' ⟨rfl, own', ⟨v', L', hR'⟩, hc, hext⟩
  exact ⟨rfl, Pair.moved hS hn hR' hc hext⟩

theorem pair_rfuse (h : Pair w w1 d D r R) (n : Int) (hn0 : -9223372036854775808 ≤ n) (hn : n ≤ 9223372036854775807) :
    Calls Try.prog 45 #[.pointer (some ⟨r, 0, none⟩), .int .i64 n] w1 fun e w' => e = .returned (.tuple #[]) ∧ Pair w w' d D r (R.setFuse n) := by
  obtain ⟨own, v, L, hS, hR, hb⟩ := h
  refine (rfuse_calls hR n hn hn0).mono ?_
  rintro e w' ⟨rfl, hR', hc⟩
  exact ⟨rfl, Pair.moved hS hb hR' hc fun _ h => .inl h⟩

theorem pair_rcrash (h : Pair w w1 d D r R) (n : Int) (hn0 : -9223372036854775808 ≤ n) (hn : n ≤ 9223372036854775807) :
    Calls Try.prog 44 #[.pointer (some ⟨r, 0, none⟩), .int .i64 n] w1 fun e w' => e = .returned (.tuple #[]) ∧ Pair w w' d D r (R.crash n) := by
  obtain ⟨own, v, L, hS, hR, hb⟩ := h
  refine (rcrash_calls hR n hn0 hn).mono ?_
  rintro e w' ⟨rfl, own', v', L', hR', hc, hx⟩
  exact ⟨rfl, Pair.moved hS hb hR' hc hx⟩

theorem pair_rread (h : Pair w w1 d D r R) (s : ByteArray) :
    Calls Try.prog 48 #[.pointer (some ⟨r, 0, none⟩), .string s] w1 fun e w' => ∃ v, e = .returned (.tuple #[v, .int .i64 (readE (Sat.get (nm s) R.files))]) ∧ OwnB w' 5 v (dataOf (Sat.get (nm s) R.files)) ∧ (∀ k, v.ownBlock = some k → w1.heap.size ≤ k) ∧ Below w1.heap.size w1 w' ∧ Pair w w' d D r R := by
  have h0 := h
  obtain ⟨own, v, L, hS, hR, hb⟩ := h
  refine (rread_calls hR s).mono ?_
  rintro e w' ⟨v', rfl, hv, hn, hbl⟩
  exact ⟨v', rfl, hv, hn, hbl, h0.next hbl⟩

theorem pair_read (h : Pair w w1 d D r R) (s : ByteArray) (hs : s.size ≤ 9223372036854775807) :
    Calls Try.prog 19 #[.pointer (some ⟨d, 0, none⟩), .string s] w1 fun e w' => ∃ v, e = .returned (.tuple #[v, .int .i64 (readE (Sat.get (nm s) D.files))]) ∧ OwnB w' 5 v (dataOf (Sat.get (nm s) D.files)) ∧ (∀ k, v.ownBlock = some k → w1.heap.size ≤ k) ∧ Below w1.heap.size w1 w' ∧ Pair w w' d D r R := by
  have h0 := h
  obtain ⟨own, v, L, hS, hR, hb⟩ := h
  refine (st_read hS s hs).mono ?_
  rintro e w' ⟨v', rfl, hv, hn, hbl, -⟩
  exact ⟨v', rfl, hv, hn, hbl, h0.next hbl⟩

theorem pair_list (h : Pair w w1 d D r R) :
    Calls Try.prog 28 #[.pointer (some ⟨d, 0, none⟩)] w1 fun e w' => ∃ v, e = .returned v ∧ OwnN w' v (namesOf D) ∧ (∀ k, v.ownBlock = some k → w1.heap.size ≤ k) ∧ Below w1.heap.size w1 w' ∧ Pair w w' d D r R := by
  have h0 := h
  obtain ⟨own, v, L, hS, hR, hb⟩ := h
  refine (st_list hS).mono ?_
  rintro e w' ⟨v', rfl, hv, hn, hbl, -⟩
  exact ⟨v', rfl, hv, hn, hbl, h0.next hbl⟩

theorem pair_rlist (h : Pair w w1 d D r R) :
    Calls Try.prog 47 #[.pointer (some ⟨r, 0, none⟩)] w1 fun e w' => ∃ v, e = .returned v ∧ OwnN w' v (namesOf R) ∧ (∀ k, v.ownBlock = some k → w1.heap.size ≤ k) ∧ Below w1.heap.size w1 w' ∧ Pair w w' d D r R := by
  have h0 := h
  obtain ⟨own, v, L, hS, hR, hb⟩ := h
  refine (rlist_calls hR).mono ?_
  rintro e w' ⟨v', rfl, hv, hn, hbl⟩
  exact ⟨v', rfl, hv, hn, hbl, h0.next hbl⟩

/-- Both are new. -/
theorem pair_new (h : St w w1 d D NoF) (n : Int) (h0 : 0 ≤ n) (h1 : n ≤ 1073741824) :
    Calls Try.prog 32 #[.int .i64 n] w1 fun e w' => ∃ r, e = .returned (.tuple #[.pointer (some ⟨r, 0, none⟩), .int .i64 0]) ∧ Pair w w' d D r (DiskM.fresh n.toNat) := by
  refine (rnew_calls w1 n h0 h1).mono ?_
  rintro e w' ⟨r, rfl, hR, hb, hr⟩
  have hc : Chg NoF w1 w' := (Chg.of_below hb).mono fun _ _ h => h
  exact ⟨r, rfl, _, _, _, h.move hc (fun _ _ h => h.elim) (fun k hk => ⟨.inr (by rw [hk]; exact hr), hR.olt k hk⟩), hR, fun k hk => by rw [hk]; exact Nat.le_trans h.below.size hr⟩
end
end Go.Proofs.Ytdlbamhabenhgaa

namespace Go.Proofs.Ytdlbamhabenhgaa
open Go.RowKit Go.Sat Go.Maps

theorem xor_range (a b : Int) (h1 : 0 ≤ a) (h2 : a < 4294967296) (h3 : 0 ≤ b) (h4 : b < 4294967296) : 0 ≤ bits .xor .u32 a b ∧ bits .xor .u32 a b < 4294967296 := by
  rw [u32_xor a b h1 h2 h3 h4]
  have : a.toNat ^^^ b.toNat < 2 ^ 32 := Nat.xor_lt_two_pow (by omega) (by omega)
  omega

theorem and_one (z : Int) (h1 : 0 ≤ z) (h2 : z < 4294967296) : bits .and .u32 z 1 = 0 ∨ bits .and .u32 z 1 = 1 := by
  rw [u32_and z 1 h1 h2 (by decide) (by decide)]
  have : z.toNat &&& (1 : Int).toNat = z.toNat % 2 := Nat.and_one_is_mod _
  rw [this]
  omega

theorem bitF_one {z : Int} (h : bits .and .u32 z 1 = 1) : bitF z = bits .xor .u32 (z / 2) 3988292384 := by
  unfold bitF
  rw [h]
  congr 1

theorem bitF_zero {z : Int} (h1 : 0 ≤ z) (h2 : z < 4294967296) (h : bits .and .u32 z 1 = 0) : bitF z = z / 2 := by
  unfold bitF
  rw [h]
  have e : bits .and .u32 3988292384 (-0 % 4294967296) = 0 := by decide
  rw [e, u32_xor (z / 2) 0 (by omega) (by omega) (by decide) (by decide)]
  have : (z / 2).toNat ^^^ (0 : Int).toNat = (z / 2).toNat := Nat.xor_zero _
  rw [this]
  omega

theorem bitF_range {z : Int} (h1 : 0 ≤ z) (h2 : z < 4294967296) : 0 ≤ bitF z ∧ bitF z < 4294967296 := by
  rcases and_one z h1 h2 with h | h
  · rw [bitF_zero h1 h2 h]; omega
  · rw [bitF_one h]; exact xor_range _ _ (by omega) (by omega) (by decide) (by decide)

theorem iterF_range {z : Int} (h1 : 0 ≤ z) (h2 : z < 4294967296) : ∀ k, 0 ≤ iterF k z ∧ iterF k z < 4294967296
  | 0 => ⟨h1, h2⟩
  | k + 1 => bitF_range (iterF_range h1 h2 k).1 (iterF_range h1 h2 k).2

theorem byteF_range {z : Int} (h1 : 0 ≤ z) (h2 : z < 4294967296) (c : UInt8) : 0 ≤ byteF z c ∧ byteF z c < 4294967296 := by
  have hc : c.toNat < 256 := c.toNat_lt
  have := xor_range z (c.toNat : Int) h1 h2 (by omega) (by omega)
  exact iterF_range this.1 this.2 8

theorem rowF_range {z : Int} (h1 : 0 ≤ z) (h2 : z < 4294967296) (l : Bs) : 0 ≤ rowF z l ∧ rowF z l < 4294967296 := by
  induction l generalizing z with
  | nil => exact ⟨h1, h2⟩
  | cons c r ih => exact ih (byteF_range h1 h2 c).1 (byteF_range h1 h2 c).2

set_option maxRecDepth 100000 in
set_option maxHeartbeats 4000000 in
theorem rsum_calls {w : World} {p : Option Addr} {m c : Nat} {l : Bs} (hx : HasB w (.slice p m c) l) (hl : l.length ≤ 140737488355328) :
    Calls Try.prog 89 #[.slice p m c] w (fun e w' => e = .returned (.int .u32 (sumF l)) ∧ w' = w) := by
  have hm : m = l.length := (bytes_in hx).1
  have Hat := Lib.hid hx.at
  have Hm := Lib.hid hm.symm
  have hmm : m ≤ 140737488355328 := by omega
  clear hx hm hl
  go_enter Try.func89, Try.ntmps89
  go_wp2_with fail
  go_loop [3, 4] (fun v i => ∃ j : Nat, j ≤ m ∧ i = .int .i64 j ∧ v = .int .u32 (rowF 4294967295 (l.take j))) (fun _ i => m - (intOf i).toNat)
  case atStart => exact ⟨0, Nat.zero_le _, rfl, rfl⟩
  case round =>
    obtain ⟨j, hj, rfl, rfl⟩ := hrel
    by_cases hlj : j < m
    · have hljl : j < l.length := by rw [Hm.out]; exact hlj
      have Hbt := Lib.hid (rowF_take 4294967295 l hljl)
      rcases Hat.out with h | ⟨b2, o2, c2, e1, hcx⟩
      · rw [h] at hljl
        simp at hljl
      rw [Hm.out] at e1
      cases e1
      have hcb := hcx j _ (List.getElem?_eq_getElem hljl)
      have hry := rowF_range (z := 4294967295) (by decide) (by decide) (l.take j)
      generalize l[j] = cc at *
      generalize rowF 4294967295 (l.take j) = y at *
      have hcc : cc.toNat < 256 := cc.toNat_lt
      clear hcx
      go_wp2_with fail
      have HB := Lib.hid (show byteF y cc = iterF 8 (bits .xor .u32 y (cc.toNat : Int)) from rfl)
      have hz0r := xor_range y (cc.toNat : Int) hry.1 hry.2 (by omega) (by omega)
      generalize bits .xor .u32 y (cc.toNat : Int) = z0 at *
      go_loop [3, 5] (fun v i => ∃ q : Nat, q ≤ 8 ∧ i = .int .i64 q ∧ v = .int .u32 (iterF q z0)) (fun _ i => 8 - (intOf i).toNat)
      case atStart => exact ⟨0, Nat.zero_le _, rfl, rfl⟩
      case round =>
        obtain ⟨q, hq, rfl, rfl⟩ := hrel
        by_cases hlq : q < 8
        · have Hit := Lib.hid (show iterF (q + 1) z0 = bitF (iterF q z0) from rfl)
          have hrq := iterF_range hz0r.1 hz0r.2 q
          generalize iterF q z0 = z at *
          rcases and_one z hrq.1 hrq.2 with hb | hb
          · have Hbf := Lib.hid (bitF_zero hrq.1 hrq.2 hb)
            go_wp2_with fail
            go_round
            case rel => exact ⟨q + 1, by omega, by go_num, by rw [Hit.out, Hbf.out]⟩
            case measure => simp [intOf]; omega
          · have Hbf := Lib.hid (bitF_one hb)
            go_wp2_with fail
            go_round
            case rel => exact ⟨q + 1, by omega, by go_num, by rw [Hit.out, Hbf.out]⟩
            case measure => simp [intOf]; omega
        · have hq8 : q = 8 := by omega
          subst hq8
          go_wp2_with fail
          go_round
          case rel => exact ⟨j + 1, by omega, by go_num, by rw [Hbt.out, HB.out]⟩
          case measure => simp [intOf]; omega
    · have hjm : j = m := by omega
      have hlk : l.take j = l := List.take_of_length_le (by rw [Hm.out]; omega)
      rw [hlk]
      clear hlk
      have He := Lib.hid (show sumF l = bits .xor .u32 IntKind.u32.max (rowF 4294967295 l) from rfl)
      generalize rowF 4294967295 l = x at *
      go_wp2_with fail
      go_ret
      exact ⟨by rw [He.out]; rfl, rfl⟩
end Go.Proofs.Ytdlbamhabenhgaa

namespace Go.Proofs.Ytdlbamhabenhgaa
open Go.RowKit Go.Sat Go.Maps

/-- What a function hands back that lays its bytes anew, in a block of one's own. -/
def NewO (w : World) (l : Bs) (e : Ending) (w' : World) : Prop := ∃ v, e = .returned v ∧ OwnB w' 5 v l ∧ (∀ k, v.ownBlock = some k → w.heap.size ≤ k) ∧ Below w.heap.size w w'

theorem own_lit {w : World} (cs : Array Value) (l : Bs) (e : TypeId) (h : cs.toList = bytesV l) (n : Nat) (hn : n = l.length) (hm : n ≤ maxLen) : OwnB (w.alloc (.cells cs e)) e (.slice (some ⟨w.heap.size, 0, none⟩) n n) l := by
  subst hn
  refine ⟨by rw [bytesV_len, Nat.mul_one], .inr ⟨_, _, cs, rfl, new_block w _, Nat.le_refl _, ?_, ?_, ?_⟩⟩
  · exact hm
  · have := congrArg List.length h
    rw [bytesV_len] at this
    simpa using Nat.le_of_eq this.symm
  · rw [h, ← bytesV_len l, Nat.mul_one, List.take_length]

set_option maxRecDepth 100000 in
set_option maxHeartbeats 4000000 in
theorem rfour_calls {w : World} (v : Nat) (h1 : v < 4294967296) :
    Calls Try.prog 88 #[.int .u32 (v : Int)] w (NewO w (fourN v)) := by
  have hfin : NewO w (fourN v) (.returned (.slice (some ⟨w.heap.size, 0, none⟩) 4 4)) (w.alloc (.cells #[.int .u8 ((v : Int) % 256), .int .u8 ((v : Int) / 256 % 256), .int .u8 ((v : Int) / 65536 % 256), .int .u8 ((v : Int) / 16777216)] 5)) :=
    ⟨_, rfl, own_lit _ (fourN v) _ (by
      simp only [fourN, bytesV, List.map_cons, List.map_nil, UInt8.toNat_ofNat']
      have e1 : (v : Int) / 16777216 = ((v / 16777216 % 256 : Nat) : Int) := by omega
      have e2 : (v : Int) % 256 = ((v % 256 : Nat) : Int) := by omega
      have e3 : (v : Int) / 256 % 256 = ((v / 256 % 256 : Nat) : Int) := by omega
      have e4 : (v : Int) / 65536 % 256 = ((v / 65536 % 256 : Nat) : Int) := by omega
      rw [e1, e2, e3, e4]) 4 rfl (by decide), fun k hk => (by cases hk; exact Nat.le_refl _), (Below.refl _ _).alloc (Nat.le_refl _) _⟩
  have Hfin := Lib.hid hfin
  clear hfin
  go_enter Try.func88, Try.ntmps88
  go_wp2_with fail
  go_ret
  exact Hfin.out

set_option maxRecDepth 100000 in
set_option maxHeartbeats 4000000 in
theorem rfromFour_calls {w : World} {b o n c : Nat} {a0 a1 a2 a3 : UInt8} (hn : 4 ≤ n) (h0 : w.cell? ⟨b, o, none⟩ = some (.int .u8 (a0.toNat : Int))) (h1 : w.cell? ⟨b, o + 1, none⟩ = some (.int .u8 (a1.toNat : Int)))
    (h2 : w.cell? ⟨b, o + 2, none⟩ = some (.int .u8 (a2.toNat : Int))) (h3 : w.cell? ⟨b, o + 3, none⟩ = some (.int .u8 (a3.toNat : Int))) :
    Calls Try.prog 98 #[.slice (some ⟨b, o, none⟩) n c] w (fun e w' => e = .returned (.int .u32 (ofFour a0 a1 a2 a3 : Int)) ∧ ∃ q, w' = w.drewN q) := by
  have l0 := a0.toNat_lt
  have l1 := a1.toNat_lt
  have l2 := a2.toNat_lt
  have l3 := a3.toNat_lt
  have i0 : (0 : Int) < (n : Int) := by omega
  have i1 : (1 : Int) < (n : Int) := by omega
  have i2 : (2 : Int) < (n : Int) := by omega
  have i3 : (3 : Int) < (n : Int) := by omega
  have hF := or_four l0 l1 l2 l3
  have HF := Lib.hid (show bits .or .u32 (bits .or .u32 (bits .or .u32 (a0.toNat : Int) ((a1.toNat : Int) * 256)) ((a2.toNat : Int) * 65536)) ((a3.toNat : Int) * 16777216) = (ofFour a0 a1 a2 a3 : Int) from hF)
  clear hF
  generalize ofFour a0 a1 a2 a3 = r at *
  generalize a0.toNat = x0 at *
  generalize a1.toNat = x1 at *
  generalize a2.toNat = x2 at *
  generalize a3.toNat = x3 at *
  go_enter Try.func98, Try.ntmps98
  go_wp2_with fail
  go_quiet (fail)
  go_wp2
  go_ret
  exact ⟨by rw [← HF.out]; rfl, _, rfl⟩
theorem rfour_at {w : World} {p : Option Addr} {n c : Nat} {b : Bs} (h : HasB w (.slice p n c) b) (h4 : 4 ≤ b.length) :
    Calls Try.prog 98 #[.slice p n c] w (fun e w' => e = .returned (.int .u32 (fourAt b : Int)) ∧ ∃ q, w' = w.drewN q) := by
  have h1 := h.at
  obtain ⟨p', c', e⟩ := h.slice
  cases e
  rcases h1 with e | ⟨g, o, c2, e, hc⟩
  · rw [e] at h4
    simp at h4
  · cases e
    have hb : ∀ i, i < b.length → b[i]? = some (b.getD i 0) := fun i hi => by simp [List.getD, List.getElem?_eq_getElem hi]
    exact rfromFour_calls h4 (by simpa using hc 0 _ (hb 0 (by omega))) (hc 1 _ (hb 1 (by omega))) (hc 2 _ (hb 2 (by omega))) (hc 3 _ (hb 3 (by omega)))

end Go.Proofs.Ytdlbamhabenhgaa

namespace Go.Proofs.Ytdlbamhabenhgaa
open Go.RowKit Go.Sat Go.Maps

theorem ownB_keep {w w' : World} {v : Value} {l : Bs} (h : OwnB w 5 v l) (hb : Below w.heap.size w w') : OwnB w' 5 v l := OwnB.keep h fun k hk => hb.block k (OwnR.lt h hk)

set_option maxRecDepth 100000 in
set_option maxHeartbeats 4000000 in
theorem renc_calls {w : World} {p : Option Addr} {m c : Nat} {l : Bs} (hx : HasB w (.slice p m c) l) (hl : l.length ≤ 1048576) :
    Calls Try.prog 71 #[.slice p m c] w fun e w' => ∃ v, e = .returned (.tuple #[v, .int .i64 0]) ∧ OwnB w' 5 v (frameN l) ∧ (∀ k, v.ownBlock = some k → w.heap.size ≤ k) ∧ Below w.heap.size w w' := by
  have hml : m = l.length := (bytes_in hx).1
  have hm : m ≤ 1048576 := by omega
  have Hx := Lib.hid hx
  have Hml := Lib.hid hml
  have Hf1 := Lib.hid (rfour_calls (w := w) m (by omega))
  obtain ⟨i0, hi, hz0, hz1, hz2⟩ := info_parts (show (Try.prog.info? 5).map (fun i => (i.zero, i.size, i.bytes)) = some (some (.int .u8 0), 1, 1) by kernel_rfl)
  clear hx hml hl
  go_enter Try.func71, Try.ntmps71
  go_wp2_with fail
  refine Hf1.out.mono ?_
  rintro e w1 ⟨v1, rfl, ho1, hn1, hb1⟩
  obtain ⟨p1, c1, rfl⟩ := OwnR.shape ho1
  have Ho1 := Lib.hid (And.intro ho1 (And.intro hn1 hb1))
  have Hs1 := Lib.hid (rsum_calls (p := p1) (m := 4) (c := c1) ho1.has (by rw [show (fourN m).length = 4 from rfl]; decide))
  rw [show (fourN m).length = 4 from rfl]
  clear ho1 hn1 hb1 Hf1
  go_wp2_with fail
  refine Hs1.out.mono ?_
  rintro e w2 ⟨rfl, rfl⟩
  rw [sumF_nat]
  have Hf2 := Lib.hid (rfour_calls (w := w2) (sumN (fourN m)) (sumN_lt _))
  have hhd : headN l.length = fourN m ++ fourN (sumN (fourN m)) := by rw [← Hml.out]; rfl
  have Hhd := Lib.hid hhd
  generalize sumN (fourN m) = q at *
  clear hhd Hs1
  go_wp2_with fail
  refine Hf2.out.mono ?_
  rintro e w3 ⟨v2, rfl, ho2, hn2, hb2⟩
  obtain ⟨p2, c2, rfl⟩ := OwnR.shape ho2
  have X3 := Lib.hid (Ho1.out.2.2.trans (hb2.mono Ho1.out.2.2.size))
  have hown1 : OwnR w3 5 1 (.slice p1 4 c1) 4 (bytesV (fourN m)) := ownB_keep Ho1.out.1 hb2
  have Hown1 := Lib.hid hown1
  have H2 := Lib.hid (show Holds w3 1 (.slice p2 4 c2) 4 (bytesV (fourN q)) from ho2.has)
  have Hxs := Lib.hid (show ∀ W, Below w.heap.size w W → Holds W 1 (.slice p m c) m (bytesV l) from fun W hb => by
    have h := Hx.out.below hb
    unfold HasB at h
    rw [← Hml.out] at h
    exact h)
  rw [show (fourN q).length = 4 from rfl]
  clear ho2 hn2 hb2 hown1 Hf2
  go_wp2_with (first | (at_builtin; refine wpList_app w3 rfl (.tmp 12) (.tmp 15) 23 rfl 5 i0 (.int .u8 0) 1 1 Try.underlying23 hi hz0 hz1 hz2 rfl (by decide) (.slice p1 4 c1) 4 _ rfl Hown1.out (.slice p2 4 c2) 4 _ rfl H2.out (bytesV_one _) (by decide) (by decide) ?_; intro v12 w12 hown12 hgrow12 hloc12; have hX := X3.out.grown hgrow12 X3.out.size (fun j e => Ho1.out.2.1 j e); have hnew := own_ge (B := w.heap.size) hloc12 Ho1.out.2.1 X3.out.size; obtain ⟨p12, c12, rfl⟩ := OwnR.shape hown12; have X12 := Lib.hid (And.intro hX (And.intro hown12 hnew)); clear hown12 hgrow12 hloc12 hX hnew) | (at_builtin; refine wpList_app w12 rfl (.tmp 17) (.tmp 18) 23 rfl 5 i0 (.int .u8 0) 1 1 Try.underlying23 hi hz0 hz1 hz2 rfl (by decide) (.slice p12 8 c12) 8 _ rfl X12.out.2.1 (.slice p m c) m _ rfl (Hxs.out _ X12.out.1) (bytesV_one _) (by unfold maxLen; omega) (by omega) ?_; intro v13 w13 hown13 hgrow13 hloc13; have hX := X12.out.1.grown hgrow13 X12.out.1.size (fun j e => X12.out.2.2 j e); have hnew := own_ge (B := w.heap.size) hloc13 X12.out.2.2 X12.out.1.size; obtain ⟨p13, c13, rfl⟩ := OwnR.shape hown13; have X13 := Lib.hid (And.intro hX (And.intro hown13 hnew)); clear hown13 hgrow13 hloc13 hX hnew))
  have ho13 : OwnB w13 5 (.slice p13 (8 + m) c13) (headN l.length ++ l) := by
    unfold OwnB
    rw [Hhd.out, bytesV_app, bytesV_app, List.length_append, List.length_append, show (fourN m).length = 4 from rfl, show (fourN q).length = 4 from rfl, ← Hml.out]
    exact X13.out.2.1
  have hl13 : (headN l.length ++ l).length = 8 + m := by rw [List.length_append, head_len, ← Hml.out]
  have Hs2 := Lib.hid (rsum_calls (p := p13) (m := 8 + m) (c := c13) ho13.has (by rw [hl13]; omega))
  have Ho13 := Lib.hid ho13
  have Hl13 := Lib.hid hl13
  have Hfr := Lib.hid (show frameN l = (headN l.length ++ l) ++ fourN (sumN (headN l.length ++ l)) from rfl)
  clear ho13 hl13
  generalize headN l.length ++ l = Y at *
  refine Hs2.out.mono ?_
  rintro e w14 ⟨rfl, rfl⟩
  rw [sumF_nat]
  have Hf3 := Lib.hid (rfour_calls (w := w14) (sumN Y) (sumN_lt _))
  generalize sumN Y = q2 at *
  clear Hs2
  go_wp2_with fail
  refine Hf3.out.mono ?_
  rintro e w15 ⟨v15, rfl, ho15, hn15, hb15⟩
  obtain ⟨p15, c15, rfl⟩ := OwnR.shape ho15
  have X15 := Lib.hid (X13.out.1.trans (hb15.mono X13.out.1.size))
  have hown13 : OwnR w15 5 1 (.slice p13 (8 + m) c13) (8 + m) (bytesV Y) := by
    have h := ownB_keep Ho13.out hb15
    unfold OwnB at h
    rw [Hl13.out] at h
    exact h
  have Hown13 := Lib.hid hown13
  have H15 := Lib.hid (show Holds w15 1 (.slice p15 4 c15) 4 (bytesV (fourN q2)) from ho15.has)
  rw [show (fourN q2).length = 4 from rfl]
  clear ho15 hn15 hb15 hown13 Hf3
  go_wp2_with (at_builtin; refine wpList_app w15 rfl (.tmp 20) (.tmp 23) 23 rfl 5 i0 (.int .u8 0) 1 1 Try.underlying23 hi hz0 hz1 hz2 rfl (by decide) (.slice p13 (8 + m) c13) (8 + m) _ rfl Hown13.out (.slice p15 4 c15) 4 _ rfl H15.out (bytesV_one _) (by unfold maxLen; omega) (by omega) ?_; intro v16 w16 hown16 hgrow16 hloc16; have hX := X15.out.grown hgrow16 X15.out.size (fun j e => X13.out.2.2 j e); have hnew := own_ge (B := w.heap.size) hloc16 X13.out.2.2 X15.out.size; obtain ⟨p16, c16, rfl⟩ := OwnR.shape hown16; have X16 := Lib.hid (And.intro hX (And.intro hown16 hnew)); clear hown16 hgrow16 hloc16 hX hnew)
  go_ret2
  refine ⟨_, rfl, ?_, X16.out.2.2, X16.out.1⟩
  unfold OwnB
  rw [Hfr.out, List.length_append, Hl13.out, show (fourN q2).length = 4 from rfl, bytesV_app]
  exact X16.out.2.1
end Go.Proofs.Ytdlbamhabenhgaa

namespace Go.Proofs.Ytdlbamhabenhgaa
open Go.RowKit Go.Sat Go.Maps

theorem four_inv (a0 a1 a2 a3 : UInt8) : fourN (ofFour a0 a1 a2 a3) = [a0, a1, a2, a3] := by
  have l0 := a0.toNat_lt
  have l1 := a1.toNat_lt
  have l2 := a2.toNat_lt
  have l3 := a3.toNat_lt
  have e : ∀ (n : Nat) (a : UInt8), n % 256 = a.toNat → UInt8.ofNat n = a := fun n a h => by
    apply UInt8.toNat_inj.1
    rw [UInt8.toNat_ofNat']
    exact h
  unfold fourN ofFour
  rw [e _ a0 (by omega), e _ a1 (by omega), e _ a2 (by omega), e _ a3 (by omega)]

theorem fourAt_inv {b : Bs} (h : 4 ≤ b.length) : fourN (fourAt b) = b.take 4 := by
  match b, h with
  | a0 :: a1 :: a2 :: a3 :: r, _ => exact four_inv a0 a1 a2 a3

theorem four_inj {m n : Nat} (hm : m < 4294967296) (hn : n < 4294967296) (h : fourN m = fourN n) : m = n := by
  have e1 := fourAt_four m hm []
  have e2 := fourAt_four n hn []
  rw [h] at e1
  omega

/-- The head is right: both ways of looking. -/
theorem head_iff {b : Bs} (h : 8 ≤ b.length) : b.take 8 = headN (fourAt b) ↔ fourAt (b.drop 4) = sumN (b.take 4) := by
  have h1 := fourAt_inv (b := b) (by omega)
  have h2 := fourAt_inv (b := b.drop 4) (by rw [List.length_drop]; omega)
  have e8 : b.take 8 = b.take 4 ++ (b.drop 4).take 4 := by rw [← List.take_add]
  have eh : headN (fourAt b) = b.take 4 ++ fourN (sumN (b.take 4)) := by
    show fourN (fourAt b) ++ fourN (sumN (fourN (fourAt b))) = _
    rw [h1]
  rw [e8, eh, List.append_cancel_left_eq, ← h2]
  exact ⟨fun e => four_inj (fourAt_lt _) (sumN_lt _) e, fun e => by rw [e]⟩
end Go.Proofs.Ytdlbamhabenhgaa
