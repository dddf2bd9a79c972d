/- The document's disk: Rename. The document's disk: Crash. -/
import Derived.Test.YtdlbamhabenhgaaVI
namespace Go.Proofs.Ytdlbamhabenhgaa
open Go.RowKit Go.Sat Go.Maps

theorem put_del_same {α : Type} {L : List (Bs × α)} (h : Srt L) {n : Bs} {f : α} (hg : Sat.get n L = some f) : Sat.put n f (del n L) = L := by
  refine srt_ext (srt_put (srt_del h)) h fun m => ?_
  by_cases e : m = n
  · subst e
    rw [get_put_same (srt_del h), hg]
  · rw [get_put_other (srt_del h) f e, get_del_other h e]

theorem below_names2 (w : World) (o s : ByteArray) (q : Nat) : Below w.heap.size w ((w.alloc (.cells #[.string o, .string s] 9)).drewN q) := below_names w _ q

section
variable {w : World} {r : Nat} {v : Value} {L : List RFile} {own : Nat → Prop} {D : DiskM}

set_option maxRecDepth 100000 in
set_option maxHeartbeats 4000000 in
theorem rren_calls (h : RefIn w r v L own D) (o s : ByteArray) (hso : o.size ≤ 9223372036854775807) (hss : s.size ≤ 9223372036854775807) :
    Calls Try.prog 66 #[.pointer (some ⟨r, 0, none⟩), .string o, .string s] w (RStep w r own (D.rename (nm o) (nm s))) := by
  have h1 : RefIn (w.alloc (.cells #[.string o, .string s] 9)) r v L own D := h.below ((Below.refl _ _).alloc (Nat.le_refl _) _)
  have hmay := rmay_calls h1 (some ⟨w.heap.size, 0, none⟩) [o, s] 2 (strs_two w o s) (by simp) (by simp; exact ⟨hso, hss⟩)
  simp only [List.map_cons, List.map_nil] at hmay
  by_cases hm : D.may [nm o, nm s] = 0
  · have hsp := spot_calls h1 o
    rw [h.is] at hsp
    rw [hm] at hmay
    cases hg : Sat.get (nm o) D.files with
    | none =>
      rw [hg] at hsp
      have hR : D.rename (nm o) (nm s) = (D, 7) := by unfold DiskM.rename; rw [if_neg (by rw [hm]; simp), hg]
      rw [hR]
      have Hf := Lib.hid (fun q => rstep_same h (below_names w (.cells #[.string o, .string s] 9) q) 7)
      have Hmay := Lib.hid hmay
      have Hsp := Lib.hid hsp
      clear h h1 hmay hsp hm hR hg
      go_enter Try.func66, Try.ntmps66
      go_wp2_with fail
      refine Hmay.out.mono ?_
      rintro e w2 ⟨rfl, rfl⟩
      go_wp2_with fail
      refine Hsp.out.mono ?_
      rintro e w3 ⟨rfl, q, rfl⟩
      go_wp2_with fail
      go_ret
      exact Hf.out q
    | some f =>
      rw [hg] at hsp
      have hR : D.rename (nm o) (nm s) = (DiskM.done { D with files := Sat.put (nm s) f (del (nm o) D.files) }, 0) := by unfold DiskM.rename; rw [if_neg (by rw [hm]; simp), hg]
      rw [hR]
      have hfz := may_fuse hm
      by_cases hos : nm o = nm s
      · have hb : (o.toList == s.toList) = true := by rw [ByteArray.toList_eq, ByteArray.toList_eq]; exact beq_iff_eq.2 hos
        have hD : ({ D with files := Sat.put (nm s) f (del (nm o) D.files) } : DiskM) = D := by rw [← hos, put_del_same h.ok.srt hg]
        rw [hD]
        have Hdid := Lib.hid (fun q => (rdid_calls (h.below (below_names w (.cells #[.string o, .string s] 9) q)) hfz).mono fun e2 w2 h2 =>
          rstep_did (own := own) (w := w) ((Chg.of_below (below_names w (.cells #[.string o, .string s] 9) q)).mono fun _ _ h => h.elim) (fun _ h => .inl h) (below_names w (.cells #[.string o, .string s] 9) q).size h2)
        have Hmay := Lib.hid hmay
        have Hsp := Lib.hid hsp
        clear h h1 hmay hsp hm hR hg hD hos
        go_enter Try.func66, Try.ntmps66
        go_wp2_with fail
        refine Hmay.out.mono ?_
        rintro e w2 ⟨rfl, rfl⟩
        go_wp2_with fail
        refine Hsp.out.mono ?_
        rintro e w3 ⟨rfl, q, rfl⟩
        go_wp2_with fail
        refine (Hdid.out q).mono ?_
        intro e w5 h5
        have HE := Lib.hid h5
        obtain ⟨rfl, -⟩ := h5
        go_wp2_with fail
        go_ret
        exact HE.out
      · have hb : (o.toList == s.toList) = false := by
          rw [ByteArray.toList_eq, ByteArray.toList_eq, beq_eq_false_iff_ne]
          exact hos
        obtain ⟨x, hx, hxn, rfl⟩ := h.hit hg
        have hN : spotN (nm o) (L.map RFile.n) < L.length := (List.getElem?_eq_some_iff.1 hx).1
        rcases h.at with h0 | ⟨g, c0, hgv, hlc, -⟩
        · rw [h0] at hN
          simp at hN
        have hgo : v.ownBlock = some g := by rw [hgv]; rfl
        generalize spotN (nm o) (L.map RFile.n) = i at *
        have Hcells := Lib.hid (show ∀ W, Below w.heap.size w W → W.cell? ⟨r, 1, none⟩ = some (.slice (some ⟨g, 0, none⟩) L.length c0) ∧ W.cell? ⟨g, i * 3, none⟩ = some (.string ⟨x.n.toArray⟩) ∧ W.cell? ⟨g, i * 3 + 1, none⟩ = some x.b ∧ W.cell? ⟨g, i * 3 + 2, none⟩ = some (.int .i64 (x.f.lasts : Int)) from fun W hb => by
          have hW := h.below hb
          have hc := hW.core.at hgo hx
          exact ⟨hW.c1.trans (by rw [hgv]), hc.1, hc.2.1, hc.2.2⟩)
        obtain ⟨px, cx, ex, -⟩ := own_slice (h.data x (List.mem_of_getElem? hx))
        rw [ex] at Hcells
        have H := Lib.hid h
        have Hok := Lib.hid (ok_rename h.ok hg (show okN (nm s) = true from List.all_eq_true.1 (may_zero hm).2 (nm s) (by simp)))
        have Hmay := Lib.hid hmay
        have Hsp := Lib.hid hsp
        clear h h1 hmay hsp hm hR hg hlc
        subst hgv
        go_enter Try.func66, Try.ntmps66
        go_wp2_with fail
        refine Hmay.out.mono ?_
        rintro e w2 ⟨rfl, rfl⟩
        go_wp2_with fail
        refine Hsp.out.mono ?_
        rintro e w3 ⟨rfl, q, rfl⟩
        have HbW := Lib.hid (below_names w (.cells #[.string o, .string s] 9) q)
        obtain ⟨hc1, hc2, hc3, hc4⟩ := Hcells.out _ HbW.out
        generalize (w.alloc (.cells #[.string o, .string s] 9)).drewN q = W at *
        have Hx := Lib.hid hx
        generalize hmx : x.f.data.length = mx at *
        generalize hla : x.f.lasts = la at *
        have Hmx := Lib.hid hmx
        have Hla := Lib.hid hla
        have Hhos := Lib.hid hos
        have Hex := Lib.hid ex
        clear hos hx hmx hla Hcells ex
        go_wp2_with fail
        have XF := Lib.hid (HbW.out.alloc HbW.out.size (.cells #[.string s, .slice px mx cx, .int .i64 (la : Int)] 96))
        have hfb0 : (W.alloc (.cells #[.string s, .slice px mx cx, .int .i64 (la : Int)] 96)).heap[W.heap.size]? = some (.cells #[.string s, .slice px mx cx, .int .i64 (la : Int)] 96 (0, 0)) := new_block W _
        have hfr0 : W.heap.size ≠ r := fun e => by have h1 := H.out.olt r H.out.or; have h2 := HbW.out.size; omega
        have hfl0 : W.heap.size < (W.alloc (.cells #[.string s, .slice px mx cx, .int .i64 (la : Int)] 96)).heap.size := by simp
        have Hfb0 := Lib.hid (And.intro hfb0 (And.intro hfr0 hfl0))
        clear hfb0 hfr0 hfl0
        generalize W.heap.size = fb at *
        have hinF := H.out.below XF.out
        generalize W.alloc (.cells #[.string s, .slice px mx cx, .int .i64 (la : Int)] 96) = Wf at *
        have Hrm1 := Lib.hid (rremove_calls hinF o)
        clear hinF hc1 hc2 hc3 hc4
        refine Hrm1.out.mono ?_
        rintro e w4 ⟨rfl, own4, v4, L4, hin4, hch4, hsub4, hx4⟩
        have Hr4 := Lib.hid (And.intro hch4 (And.intro hsub4 hx4))
        have Hrm2 := Lib.hid (rremove_calls hin4 s)
        clear hin4 hch4 hsub4 hx4 Hrm1
        go_wp2_with fail
        refine Hrm2.out.mono ?_
        rintro e w5 ⟨rfl, own5, v5, L5, hin5, hch5, hsub5, hx5⟩
        have hin5 : RefIn w5 r v5 L5 own5 { D with files := del (nm s) (del (nm o) D.files) } := hin5
        have hsp5 := spot_calls hin5 s
        have hg5 : Sat.get (nm s) (del (nm s) (del (nm o) D.files)) = none := get_del_same _ _
        rw [hin5.is, show Sat.get (nm s) ({ D with files := del (nm s) (del (nm o) D.files) } : DiskM).files = none from hg5] at hsp5
        have Hin5 := Lib.hid hin5
        have Hr5 := Lib.hid (And.intro hch5 (And.intro hsub5 hx5))
        have Hsp5 := Lib.hid hsp5
        have Hg5 := Lib.hid hg5
        clear hin5 hch5 hsub5 hx5 Hrm2 hsp5 hg5
        go_wp2_with fail
        refine Hsp5.out.mono ?_
        rintro e w6 ⟨rfl, q6, rfl⟩
        have hins := ins_at (nm s) x.f Hin5.out.ok.srt Hg5.out
        have hle : spotN (nm s) (L5.map RFile.n) ≤ L5.length := by have := spotN_le (nm s) (L5.map RFile.n); rwa [List.length_map] at this
        rw [← Hin5.out.names, Hin5.out.files] at hins
        generalize spotN (nm s) (L5.map RFile.n) = j at *
        have hbq : Below w5.heap.size w5 (w5.drewN q6) := ⟨rfl, rfl, rfl, Nat.le_refl _, fun _ _ => rfl⟩
        have Hinq := Lib.hid (Hin5.out.below hbq)
        obtain ⟨pv, cv, hgv⟩ := Hin5.out.slice
        have hNc : L5.length ≤ cv := by
          rcases Hin5.out.at with h0 | ⟨g, c0, e, hc, -⟩
          · rw [h0]; exact Nat.zero_le _
          · rw [hgv] at e; cases e; exact hc
        have hfit := Hin5.out.fit
        -- the new file's block and its row are as they were
        have hfq : (w5.drewN q6).heap[fb]? = some (.cells #[.string s, .slice px mx cx, .int .i64 (la : Int)] 96 (0, 0)) := by
          have h4 := Hr4.out.1.block fb Hfb0.out.2.2 Hfb0.out.2.1
          have h5 := Hr5.out.1.block fb (Nat.lt_of_lt_of_le Hfb0.out.2.2 Hr4.out.1.size) Hfb0.out.2.1
          exact h5.trans (h4.trans Hfb0.out.1)
        have hrow : OwnB (w5.drewN q6) 5 (.slice px mx cx) x.f.data ∧ ∀ k, (Value.slice px mx cx).ownBlock = some k → own5 k ∧ k ≠ r := by
          have hxm := List.mem_of_getElem? Hx.out
          have hinF := H.out.below XF.out
          have hob := H.out.ob x hxm
          have hda := hinF.data x hxm
          rw [Hex.out] at hob hda
          refine ⟨OwnR.keep hda fun k hk => ?_, fun k hk => ⟨Hr5.out.2.1 k (Hr4.out.2.1 k (hob k hk).1), (hob k hk).2.1⟩⟩
          have hk1 := hinF.olt k (hob k hk).1
          have h4 := Hr4.out.1.block k hk1 (hob k hk).2.1
          have h5 := Hr5.out.1.block k (Nat.lt_of_lt_of_le hk1 Hr4.out.1.size) (hob k hk).2.1
          exact h5.trans h4
        have hchq : Chg (fun k => k = r) w (w5.drewN q6) := by
          have h4 := chg_below (own := fun k => k = r) XF.out Hr4.out.1
          have h5 := h4.trans Hr5.out.1 fun _ _ h => h
          exact h5.trans ((Chg.of_below hbq).mono (T := fun _ => False) fun _ _ h => h) fun _ _ h => h.elim
        have hxq : ∀ k, own5 k → own k ∨ w.heap.size ≤ k := fun k hk => by
          rcases Hr5.out.2.2 k hk with h | h
          · rcases Hr4.out.2.2 k h with h | h
            · exact .inl h
            · exact .inr (Nat.le_trans XF.out.size h)
          · exact .inr (Nat.le_trans (Nat.le_trans XF.out.size Hr4.out.1.size) h)
        have Hq := Lib.hid (And.intro hfq (And.intro hrow (And.intro hchq hxq)))
        have Hins := Lib.hid hins
        clear hfq hrow hchq hxq hins Hr4 Hr5 Hin5 Hsp5 hbq XF
        generalize w5.drewN q6 = Wq at *
        subst hgv
        have hfbl : fb < Wq.heap.size := lt_of_block Hq.out.1
        have Hfb := Lib.hid (show ∀ W', Below Wq.heap.size Wq W' → W'.cell? ⟨fb, 0, none⟩ = some (.string s) ∧ W'.cell? ⟨fb, 1, none⟩ = some (.slice px mx cx) ∧ W'.cell? ⟨fb, 2, none⟩ = some (.int .i64 (la : Int)) from fun W' hb =>
          ⟨(hb.cell (p := ⟨fb, 0, none⟩) hfbl).trans (cell_of Hq.out.1 rfl), (hb.cell (p := ⟨fb, 1, none⟩) hfbl).trans (cell_of Hq.out.1 rfl), (hb.cell (p := ⟨fb, 2, none⟩) hfbl).trans (cell_of Hq.out.1 rfl)⟩)
        have Hc1 := Lib.hid (show ∀ W', Below Wq.heap.size Wq W' → W'.cell? ⟨r, 1, none⟩ = some (.slice pv L5.length cv) from fun W' hb => (Hinq.out.below hb).c1)
        have Hfr := Lib.hid (show ∀ W', Below Wq.heap.size Wq W' → W'.frozen? ⟨r, 1, none⟩ = false from fun W' hb => frozen_of (Hinq.out.below hb).cells 1)
        have Hrow := Lib.hid (show ∀ W', Below Wq.heap.size Wq W' → OwnR W' 96 3 (.slice pv L5.length cv) L5.length (L5.flatMap RFile.cells) from fun W' hb => (Hinq.out.below hb).row)
        have Hone := Lib.hid (cells_one Hinq.out.core.one)
        obtain ⟨iF, hFi, hF0, hF1, hF2⟩ := info_parts (show (Try.prog.info? 96).map (fun i => (i.zero, i.size, i.bytes)) = some (some (.agg #[.string ⟨#[]⟩, .slice none 0 0, .int .i64 0]), 3, 48) by kernel_rfl)
        have hs1 : ∀ W, (Instr.slice 92 (.slice pv L5.length cv) none (some (.int .i64 (j : Int))) none).run Try.prog W = .ok (.slice pv j cv) W := fun W => run_upto W Try.underlying92 hFi pv _ cv j (by omega)
        have hs2 : ∀ W, (Instr.slice 92 (.slice pv L5.length cv) (some (.int .i64 (j : Int))) none none).run Try.prog W = .ok (.slice (if cv - j = 0 then pv else pv.map fun x => x.add (j * 3)) (L5.length - j) (cv - j)) W := fun W => by
          have := run_from_any (P := Try.prog) W Try.underlying92 hFi pv L5.length cv j hle hNc
          rw [hF1] at this
          exact this
        have Hfrom := Lib.hid (show ∀ W', Below Wq.heap.size Wq W' → Holds W' 3 (.slice (if cv - j = 0 then pv else pv.map fun x => x.add (j * 3)) (L5.length - j) (cv - j)) (L5.length - j) ((L5.flatMap RFile.cells).drop (j * 3)) from fun W' hb => OwnR.cut_from (Hrow.out W' hb) hle)
        generalize hpF : (if cv - j = 0 then pv else pv.map fun x => x.add (j * 3)) = pF at *
        have X1 := Lib.hid ((Below.refl Wq.heap.size Wq).alloc (Nat.le_refl _) (.cells #[] 96))
        have hc1a := Hc1.out _ X1.out
        have Hup := Lib.hid (show Holds (Wq.alloc (.cells #[] 96)) 3 (.slice pv j cv) j ((L5.flatMap RFile.cells).take (j * 3)) from Holds.upto (OwnR.holds (Hrow.out _ X1.out)) hle cv)
        clear hpF
        generalize hN5 : L5.length = N at *
        have HN := Lib.hid hN5
        clear hN5
        go_wp2_with (first | (at_builtin; refine wpList_app (Wq.alloc (.cells #[] 96)) rfl (.tmp 56) (.tmp 62) 92 rfl 96 iF _ 3 48 Try.underlying92 hFi hF0 hF1 hF2 rfl (by decide) (.slice (some ⟨Wq.heap.size, 0, none⟩) 0 0) 0 [] rfl (own_emptyS Wq _ 3) (.slice pv j cv) j _ rfl Hup.out (fun u hu => Hone.out u (List.mem_of_mem_take hu)) (by unfold maxLen; omega) (by omega) ?_; intro v12 w12 hown12 hgrow12 hloc12; rw [Nat.zero_add, List.nil_append] at hown12; have hX := X1.out.grown hgrow12 X1.out.size (fun j e => by simp [Value.ownBlock] at e; omega); have hnew := own_ge (B := Wq.heap.size) hloc12 (fun k hk => by simp [Value.ownBlock] at hk; omega) X1.out.size; obtain ⟨p12, c12, rfl⟩ := OwnR.shape hown12; have X12 := Lib.hid (And.intro hX (And.intro hown12 hnew)); obtain ⟨hf1, hf2, hf3⟩ := Hfb.out _ X12.out.1; clear hown12 hgrow12 hloc12 hX hnew hc1a) | (at_builtin; refine wpList_app (w12.alloc (.cells #[.string s, .slice px mx cx, .int .i64 (la : Int)] 96)) rfl (.tmp 64) (.tmp 66) 92 rfl 96 iF _ 3 48 Try.underlying92 hFi hF0 hF1 hF2 rfl (by decide) (.slice p12 j c12) j _ rfl (OwnR.keep X12.out.2.1 fun j hj => heap_alloc_old w12 _ (OwnR.lt X12.out.2.1 hj)) (.slice (some ⟨w12.heap.size, 0, none⟩) 1 1) 1 [.string s, .slice px mx cx, .int .i64 (la : Int)] rfl (holds_lit w12 #[.string s, .slice px mx cx, .int .i64 (la : Int)] _ 3 1 1 rfl rfl _ _) (fun u hu => by simp at hu; rcases hu with rfl | rfl | rfl <;> rfl) (by unfold maxLen; omega) (by omega) ?_; intro v13 w13 hown13 hgrow13 hloc13; have hXa := X12.out.1.alloc X12.out.1.size (.cells #[.string s, .slice px mx cx, .int .i64 (la : Int)] 96); have hX := hXa.grown hgrow13 hXa.size (fun j hj => X12.out.2.2 j hj); have hnew := own_ge (B := Wq.heap.size) hloc13 X12.out.2.2 hXa.size; obtain ⟨p13, c13, rfl⟩ := OwnR.shape hown13; have X13 := Lib.hid (And.intro hX (And.intro hown13 hnew)); have hc1b := Hc1.out _ X13.out.1; clear hown13 hgrow13 hloc13 hX hnew hXa hf1 hf2 hf3) | (at_builtin; refine wpList_app w13 rfl (.tmp 69) (.tmp 75) 92 rfl 96 iF _ 3 48 Try.underlying92 hFi hF0 hF1 hF2 rfl (by decide) (.slice p13 (j + 1) c13) (j + 1) _ rfl X13.out.2.1 (.slice pF (N - j) (cv - j)) (N - j) _ rfl (Hfrom.out w13 X13.out.1) (fun u hu => Hone.out u (List.mem_of_mem_drop hu)) (by unfold maxLen; omega) (by omega) ?_; intro v14 w14 hown14 hgrow14 hloc14; have hX := X13.out.1.grown hgrow14 X13.out.1.size (fun j hj => X13.out.2.2 j hj); have hnew := own_ge (B := Wq.heap.size) hloc14 X13.out.2.2 X13.out.1.size; obtain ⟨p14, c14, rfl⟩ := OwnR.shape hown14; have X14 := Lib.hid (And.intro hX (And.intro hown14 hnew)); have hc1c := Hc1.out _ X14.out.1; have hfrc := Hfr.out _ X14.out.1; clear hown14 hgrow14 hloc14 hX hnew hc1b))
        have hs14 := X14.out.1
        have hcore0 : RefCore w14 r (.slice pv N cv) L5 own5 D.room D.fuse := (Hinq.out.below hs14).core
        have es : Value.string s = encStr (nm s) := by rw [enc_str]; simp [nm]
        have hlen' : (L5.take j ++ (⟨nm s, .slice px mx cx, x.f⟩ : RFile) :: L5.drop j).length = j + 1 + (N - j) := by
          rw [List.length_append, List.length_take, List.length_cons, List.length_drop, HN.out]
          omega
        have hrow' : OwnR w14 96 3 (.slice p14 (j + 1 + (N - j)) c14) (L5.take j ++ (⟨nm s, .slice px mx cx, x.f⟩ : RFile) :: L5.drop j).length ((L5.take j ++ (⟨nm s, .slice px mx cx, x.f⟩ : RFile) :: L5.drop j).flatMap RFile.cells) := by
          rw [hlen', List.flatMap_append, List.flatMap_cons, cells_take, cells_drop, ← List.append_assoc]
          show OwnR w14 _ 3 _ _ (((L5.flatMap RFile.cells).take (j * 3) ++ [encStr (nm s), .slice px mx cx, .int .i64 (x.f.lasts : Int)]) ++ _)
          rw [← es, Hla.out]
          exact X14.out.2.1
        have hfresh : ∀ k, (Value.slice p14 (j + 1 + (N - j)) c14).ownBlock = some k → ¬ own5 k := fun k hk ho => by
          have h1 := X14.out.2.2 k hk
          have h2 := Hinq.out.olt k ho
          omega
        have hcore := hcore0.relist hrow' (fun y hy => by
          rcases List.mem_append.1 hy with hy | hy
          · exact .inl (List.mem_of_mem_take hy)
          · rcases List.mem_cons.1 hy with rfl | hy
            · exact .inr ⟨OwnR.keep Hq.out.2.1.1 fun k hk => hs14.block k (OwnR.lt Hq.out.2.1.1 hk), Hq.out.2.1.2⟩
            · exact .inl (List.mem_of_mem_drop hy)) hfresh
        have hF : Sat.put (nm s) x.f (del (nm o) D.files) = (L5.take j ++ (⟨nm s, .slice px mx cx, x.f⟩ : RFile) :: L5.drop j).map RFile.key := by
          have e1 : Sat.put (nm s) x.f (del (nm o) D.files) = ins (nm s, x.f) (del (nm s) (del (nm o) D.files)) := rfl
          have e2 : del (nm s) (del (nm o) D.files) = L5.map RFile.key := Hinq.out.files
          rw [e1, e2, Hins.out, List.map_append, List.map_cons, List.map_take, List.map_drop]
          rfl
        have hfin : RefIn (w14.setCell ⟨r, 1, none⟩ (.slice p14 (j + 1 + (N - j)) c14)) r (.slice p14 (j + 1 + (N - j)) c14) _ _ { D with files := Sat.put (nm s) x.f (del (nm o) D.files) } := hcore.full rfl rfl hF Hok.out
        have hc14 : Chg (fun k => k = r) w (w14.setCell ⟨r, 1, none⟩ (.slice p14 (j + 1 + (N - j)) c14)) :=
          (Hq.out.2.2.1.trans ((Chg.of_below hs14).mono (T := fun _ => False) fun _ _ h => h) fun _ _ h => h.elim).trans (chg_own (own := fun k => k = r) (w := w14) (a := ⟨r, 1, none⟩) rfl) fun _ _ h => h
        have hch14 : Chg own w (w14.setCell ⟨r, 1, none⟩ (.slice p14 (j + 1 + (N - j)) c14)) := hc14.mono fun k _ e => by rw [e]; exact H.out.or
        have hsz := Hq.out.2.2.1.size
        have hext : ∀ k, (own5 k ∨ (Value.slice p14 (j + 1 + (N - j)) c14).ownBlock = some k) → own k ∨ w.heap.size ≤ k := fun k hk => by
          rcases hk with hk | hk
          · exact Hq.out.2.2.2 k hk
          · exact .inr (Nat.le_trans hsz (X14.out.2.2 k hk))
        have Hdid := Lib.hid ((rdid_calls hfin hfz).mono fun e2 w2 h2 => rstep_did hch14 hext hch14.size h2)
        clear hs14 hcore0 es hlen' hrow' hfresh hcore hF hfin hc14 hch14 hsz hext
        refine Hdid.out.mono ?_
        intro e w15 h15
        have HE := Lib.hid h15
        obtain ⟨rfl, -⟩ := h15
        go_wp2_with fail
        go_ret
        exact HE.out
  · have hR : D.rename (nm o) (nm s) = (D, D.may [nm o, nm s]) := by unfold DiskM.rename; rw [if_pos hm]
    rw [hR]
    have Hf := Lib.hid (rstep_same h ((Below.refl _ _).alloc (Nat.le_refl _) (.cells #[.string o, .string s] 9)) (D.may [nm o, nm s]))
    have Hmay := Lib.hid hmay
    generalize D.may [nm o, nm s] = m at *
    have hne : ((m : Int) != 0) = true := by simp; omega
    clear h h1 hmay hR
    go_enter Try.func66, Try.ntmps66
    go_wp2_with fail
    refine Hmay.out.mono ?_
    rintro e w2 ⟨rfl, rfl⟩
    go_wp2_with fail
    go_ret
    exact Hf.out
end
end Go.Proofs.Ytdlbamhabenhgaa

namespace Go.Proofs.Ytdlbamhabenhgaa
open Go.RowKit Go.Sat Go.Maps

section
variable {w : World} {r : Nat} {v : Value} {L : List RFile} {own : Nat → Prop} {D : DiskM}

theorem RefCore.left {room : Nat} {fuse : Option Nat} (h : RefCore w r v L own room fuse) (f : Option Nat) : RefCore (w.setCell ⟨r, 2, none⟩ (.int .i64 (leftOf f))) r v L own room f where
  cells := set_block h.cells 2 _
  row := h.row.keep fun k hk => set_other _ (h.ov k hk).2
  data := fun x hx => OwnR.keep (h.data x hx) fun k hk => set_other _ (h.ob x hx k hk).2.1
  or := h.or
  ov := h.ov
  ob := h.ob
  olt := fun k hk => by
    have := h.olt k hk
    simpa [World.setCell] using this

def crashK (k : Int) (x : RFile) : Bs × FileM := (x.n, DiskM.crashF k x.f)

/-- Behind k rounds. -/
structure RCrash (w W : World) (r : Nat) (v : Value) (L : List RFile) (own : Nat → Prop) (D : DiskM) (dr : Int) (k : Nat) (M : List RFile) (own' : Nat → Prop) : Prop where
  core : RefCore W r v M own' D.room D.fuse
  len : M.length = L.length
  rest : M.drop k = L.drop k
  done : (M.take k).map RFile.key = (L.take k).map (crashK dr)
  chg : Chg own w W
  ext : ∀ j, own' j → own j ∨ w.heap.size ≤ j

set_option maxRecDepth 100000 in
set_option maxHeartbeats 4000000 in
theorem rcrash_calls (h : RefIn w r v L own D) (dr : Int) (h0 : -9223372036854775808 ≤ dr) (h1 : dr ≤ 9223372036854775807) :
    Calls Try.prog 44 #[.pointer (some ⟨r, 0, none⟩), .int .i64 dr] w fun e w' => e = .returned (.tuple #[]) ∧ ∃ own' v' L', RefIn w' r v' L' own' (D.crash dr) ∧ Chg own w w' ∧ ∀ k, own' k → own k ∨ w.heap.size ≤ k := by
  have hfit := h.fit
  have H := Lib.hid h
  obtain ⟨pv, cv, hgv⟩ := h.slice
  have Hat := Lib.hid h.at
  have hlen : ∀ (k : Nat) (x : RFile), L[k]? = some x → x.f.data.length ≤ 1073741824 ∧ x.f.lasts ≤ x.f.data.length := fun k x hx => ⟨h.len_le hx, by
    have hm : x.key ∈ D.files := by rw [h.files]; exact List.mem_map_of_mem (List.mem_of_getElem? hx)
    exact h.ok.lasts x.key hm⟩
  have Hlen := Lib.hid hlen
  obtain ⟨dn, hdn⟩ : ∃ dn : Nat, max 0 dr = (dn : Int) := ⟨(max 0 dr).toNat, by omega⟩
  have hdn' : (max 0 dr).toNat = dn := by omega
  have hdm : dn ≤ 9223372036854775807 := by omega
  have Hdn := Lib.hid hdn'
  have c1 := h.c1.trans (by rw [hgv])
  clear h hlen hdn'
  subst hgv
  generalize hN : L.length = N at *
  have HN := Lib.hid hN
  clear hN
  go_enter Try.func44, Try.ntmps44
  go_wp2_with fail
  go_loopw [4] (fun i W => ∃ (k : Nat) (M : List RFile) (own' : Nat → Prop), k ≤ N ∧ i = .int .i64 k ∧ RCrash w W r (.slice pv N cv) L own D dr k M own') (fun i _ => N - (intOf i).toNat)
  case atStart => exact ⟨0, L, own, Nat.zero_le _, rfl, ⟨H.out.core, rfl, rfl, rfl, Chg.refl _ _, fun _ h => .inl h⟩⟩
  case round =>
    obtain ⟨k, M, own', hk, rfl, hr⟩ := hrel
    by_cases hlt : k < N
    · have hkl : k < L.length := by rw [HN.out]; exact hlt
      obtain ⟨x, hx⟩ : ∃ x, L[k]? = some x := ⟨_, List.getElem?_eq_getElem hkl⟩
      have hMk : M[k]? = some x := by
        have h2 := congrArg (fun l => l[0]?) hr.rest
        simp only [List.getElem?_drop, Nat.add_zero] at h2
        rw [h2, hx]
      rcases Hat.out with h0 | ⟨g, c1', e1, -, -⟩
      · rw [h0] at hkl
        simp at hkl
      cases e1
      have hcells := hr.core.at rfl hMk
      obtain ⟨-, hc2, hc3⟩ := hcells
      have hc1 := hr.core.c1
      obtain ⟨pb, cb, eb, hbc⟩ := own_slice (hr.core.data x (List.mem_of_getElem? hMk))
      rw [eb] at hc2
      obtain ⟨hl1, hl2⟩ := Hlen.out k x hx
      have Hr := Lib.hid hr
      have Hx := Lib.hid (And.intro hx hMk)
      have Heb := Lib.hid eb
      clear hr hx hMk eb
      generalize hmx : x.f.data.length = mx at *
      generalize hla : x.f.lasts = la at *
      have Hmx := Lib.hid hmx
      have Hla := Lib.hid hla
      clear hmx hla
      obtain ⟨u, hu⟩ : ∃ u : Nat, mx - la = u := ⟨_, rfl⟩
      have huI : ((mx : Int) - (la : Int)) = (u : Int) := by omega
      go_wp2_with fail
      go_quiet (fail)
      -- region 6
      have hbs : Below wr.heap.size wr (wr.drewN nq) := ⟨rfl, rfl, rfl, Nat.le_refl _, fun _ _ => rfl⟩
      have hr := Hr.out
      have hcore : RefCore (wr.drewN nq) r (.slice (some ⟨g, 0, none⟩) N cv) M own' D.room D.fuse := hr.core.keep (Nat.le_refl _) fun _ _ => rfl
      have hchs : Chg own w (wr.drewN nq) := hr.chg.trans ((Chg.of_below hbs).mono (T := fun _ => False) fun _ _ h => h) fun _ _ h => h.elim
      have hst0 : DiskM.stays x.f dr = la + dn % (u + 1) := by
        unfold DiskM.stays
        rw [Hdn.out, Hmx.out, Hla.out, hu]
      obtain ⟨st, hst⟩ : ∃ st, la + dn % (u + 1) = st := ⟨_, rfl⟩
      have hmod := Nat.mod_lt dn (show 0 < u + 1 by omega)
      have hstm : st ≤ mx := by omega
      rw [hst] at hst0
      have Hst := Lib.hid (And.intro hst0 hst)
      have Hcore := Lib.hid hcore
      have Hchs := Lib.hid hchs
      have Hext := Lib.hid hr.ext
      clear hr hcore hchs hbs hc1 hc2 hc3
      have hsz : wr.heap.size = (wr.drewN nq).heap.size := rfl
      generalize wr.drewN nq = Ws at *
      clear hsz
      have Hcl := Lib.hid (show ∀ W', Below Ws.heap.size Ws W' → W'.cell? ⟨g, k * 3 + 1, none⟩ = some (.slice pb mx cb) ∧ W'.cell? ⟨g, k * 3 + 2, none⟩ = some (.int .i64 (la : Int)) ∧ W'.frozen? ⟨g, k * 3 + 1, none⟩ = false ∧ W'.frozen? ⟨g, k * 3 + 2, none⟩ = false from fun W' hb => by
        have hW := Hcore.out.keep (w' := W') hb.size fun j hj => hb.block j (Hcore.out.olt j hj)
        have h3 := hW.at rfl Hx.out.2
        exact ⟨h3.2.1.trans (by rw [Heb.out]), h3.2.2.trans (by rw [Hla.out]), hW.free rfl _, hW.free rfl _⟩)
      have Hxd := Lib.hid (show ∀ W', Below Ws.heap.size Ws W' → Holds W' 1 (.slice pb st cb) st (bytesV (x.f.data.take st)) from fun W' hb => by
        have hW := Hcore.out.keep (w' := W') hb.size fun j hj => hb.block j (Hcore.out.olt j hj)
        have hd := (hW.data x (List.mem_of_getElem? Hx.out.2)).has
        rw [Heb.out] at hd
        have hc := HasB.cut hd (k := st) (by rw [Hmx.out]; exact hstm) cb
        unfold HasB at hc
        rw [List.length_take, Hmx.out, Nat.min_eq_left hstm] at hc
        exact hc)
      have Hend := Lib.hid (show ∀ w7 v7, Below Ws.heap.size Ws w7 → OwnR w7 5 1 v7 st (bytesV (x.f.data.take st)) → (∀ j, v7.ownBlock = some j → Ws.heap.size ≤ j) →
          (w7.setCell ⟨g, k * 3 + 1, none⟩ v7).cell? ⟨g, k * 3 + 1, none⟩ = some v7 ∧ (w7.setCell ⟨g, k * 3 + 1, none⟩ v7).cell? ⟨g, k * 3 + 2, none⟩ = some (.int .i64 (la : Int)) ∧ (w7.setCell ⟨g, k * 3 + 1, none⟩ v7).frozen? ⟨g, k * 3 + 2, none⟩ = false ∧ (w7.setCell ⟨g, k * 3 + 1, none⟩ v7).cell? ⟨r, 1, none⟩ = some (.slice (some ⟨g, 0, none⟩) N cv) ∧
          RCrash w ((w7.setCell ⟨g, k * 3 + 1, none⟩ v7).setCell ⟨g, k * 3 + 2, none⟩ (.int .i64 (st : Int))) r (.slice (some ⟨g, 0, none⟩) N cv) L own D dr (k + 1) (M.set k ⟨x.n, v7, ⟨x.f.data.take st, st⟩⟩) (fun j => own' j ∨ v7.ownBlock = some j) from fun w7 v7 hb h7 hn7 => by
        have hlt7 : (x.f.data.take st).length = st := by rw [List.length_take, Hmx.out, Nat.min_eq_left hstm]
        have hd7 : OwnB w7 5 v7 (x.f.data.take st) := by unfold OwnB; rw [hlt7]; exact h7
        have hW := Hcore.out.keep (w' := w7) hb.size fun j hj => hb.block j (Hcore.out.olt j hj)
        have hgo := (Hcore.out.ov g rfl).1
        have hkM : k < M.length := (List.getElem?_eq_some_iff.1 Hx.out.2).1
        have h1 := hW.store (g := g) rfl Hx.out.2 1 (by omega) v7 ⟨x.n, v7, ⟨x.f.data.take st, x.f.lasts⟩⟩ rfl (own' := fun j => own' j ∨ v7.ownBlock = some j) (fun _ h => .inl h) hd7
          (fun j hj => ⟨.inr hj, fun e => by have := Hcore.out.olt r Hcore.out.or; have := hn7 j hj; omega, fun e => by have := Hcore.out.olt g hgo; have := hn7 j hj; omega⟩)
          (fun j hj => by
            rcases hj with hj | hj
            · exact hW.olt j hj
            · exact OwnR.lt h7 hj)
        have hi1 : (M.set k ⟨x.n, v7, ⟨x.f.data.take st, x.f.lasts⟩⟩)[k]? = some ⟨x.n, v7, ⟨x.f.data.take st, x.f.lasts⟩⟩ := List.getElem?_set_self hkM
        have hm1 := List.mem_of_getElem? hi1
        have hd1 := h1.data _ hm1
        have ho1 := h1.ob _ hm1
        have h2 := h1.store (g := g) rfl hi1 2 (by omega) (.int .i64 (st : Int)) ⟨x.n, v7, ⟨x.f.data.take st, st⟩⟩ rfl (fun _ h => h) hd1 (fun j hj => ⟨.inr hj, (ho1 j hj).2.1, fun e => (ho1 j hj).2.2 (by rw [e]; rfl)⟩) h1.olt
        rw [List.set_set] at h2
        have hat := h1.at rfl hi1
        refine ⟨hat.2.1, hat.2.2.trans (by rw [← Hla.out]), h1.free rfl _, h1.c1, ?_⟩
        have hr := Hr.out
        have hxg : ∀ j, own' j → own j ∨ w.heap.size ≤ j := Hext.out
        have hgw : own g ∨ w.heap.size ≤ g := hxg g hgo
        have hch1 : Chg own w (w7.setCell ⟨g, k * 3 + 1, none⟩ v7) := (Hchs.out.trans ((Chg.of_below hb).mono (T := fun _ => False) fun _ _ h => h) fun _ _ h => h.elim).trans (Chg.setCell w7 ⟨g, k * 3 + 1, none⟩ v7) fun j hj e => by
          have e : j = g := e
          rcases hgw with h | h
          · rw [e]; exact h
          · omega
        have hch2 := hch1.trans (Chg.setCell (w7.setCell ⟨g, k * 3 + 1, none⟩ v7) ⟨g, k * 3 + 2, none⟩ (.int .i64 (st : Int))) (fun j hj e => by
          have e : j = g := e
          rcases hgw with h | h
          · rw [e]; exact h
          · omega)
        refine ⟨h2, by rw [List.length_set]; exact hr.len, ?_, ?_, hch2, fun j hj => ?_⟩
        · rw [List.drop_set_of_lt (by omega)]
          have h3 := congrArg (List.drop 1) hr.rest
          rw [List.drop_drop, List.drop_drop] at h3
          exact h3
        · have h4 : (L.take (k + 1)).map (crashK dr) = (L.take k).map (crashK dr) ++ [crashK dr x] := by rw [List.take_add_one, Hx.out.1, List.map_append]; rfl
          have h5 : (M.set k ⟨x.n, v7, ⟨x.f.data.take st, st⟩⟩).take (k + 1) = M.take k ++ [⟨x.n, v7, ⟨x.f.data.take st, st⟩⟩] := by
            rw [List.take_add_one, List.getElem?_set_self hkM, List.take_set_of_le (Nat.le_refl _)]
            rfl
          rw [h4, h5, List.map_append, hr.done]
          congr 1
          show [(x.n, (⟨x.f.data.take st, st⟩ : FileM))] = [(x.n, DiskM.crashF dr x.f)]
          unfold DiskM.crashF
          rw [Hst.out.1]
        · rcases hj with hj | hj
          · exact hxg j hj
          · exact .inr (Nat.le_trans Hchs.out.size (hn7 j hj)))
      obtain ⟨i0, hi, hz0, hz1, hz2⟩ := info_parts (show (Try.prog.info? 5).map (fun i => (i.zero, i.size, i.bytes)) = some (some (.int .u8 0), 1, 1) by kernel_rfl)
      have hsl : ∀ W, (Instr.slice 23 (.slice pb mx cb) none (some (.int .i64 (st : Int))) none).run Try.prog W = .ok (.slice pb st cb) W := fun W => run_upto W Try.underlying23 hi pb _ cb st (by omega)
      have hwr1 : IntKind.i64.wrap ((u : Int) + 1) = (u : Int) + 1 := wrap_small (by omega) (by omega)
      obtain ⟨dm, hdm2⟩ : ∃ dm, dn % (u + 1) = dm := ⟨_, rfl⟩
      have htm : (dn : Int).tmod ((u : Int) + 1) = (dm : Int) := by rw [← hdm2]; rfl
      have hne0 : ((u : Int) + 1 = 0) = False := by simp; omega
      have hadd : (la : Int) + (dm : Int) = (st : Int) := by omega
      have hwr2 : IntKind.i64.wrap ((la : Int) + (dm : Int)) = (st : Int) := by rw [hadd]; exact wrap_small (by omega) (by omega)
      have hwr3 : IntKind.i64.wrap (st : Int) = (st : Int) := wrap_small (by omega) (by omega)
      clear Hr hst hmod hdm2
      go_wp2_with fail
      have X0 := Lib.hid (show Below Ws.heap.size Ws Ws.drew from ⟨rfl, rfl, rfl, Nat.le_refl _, fun _ _ => rfl⟩)
      have hS := (Hcl.out _ X0.out).2.1
      refine ord_start (fun W' : World => W'.cell? ⟨g, k * 3 + 2, none⟩ = some (.int .i64 (la : Int))) (n := 20) (by kernel_rfl) rfl hS (fun hHeld => ?_)
      clear hS
      generalize Ws.drew = Wd at *
      refine ord_take 0 (v := ?v0x0) rfl (by kernel_rfl) (by kernel_rfl) (by kernel_rfl) (fun _ _ _ h => h) (by rfl) (by assumption) ?y0x0 ?_
      case y0x0 => (intro w hSw; (try dsimp only at hSw); go_simp; try with_reducible rfl)
      simp only [Act.put, List.setIfInBounds_toArray, List.set_cons_zero, List.set_cons_succ]
      refine ord_take 2 (v := ?v0x2) rfl (by kernel_rfl) (by kernel_rfl) (by kernel_rfl) (fun _ _ _ h => h) (by rfl) (by assumption) ?y0x2 ?_
      case y0x2 => (intro w hSw; (try dsimp only at hSw); go_simp; try with_reducible rfl)
      simp only [Act.put, List.setIfInBounds_toArray, List.set_cons_zero, List.set_cons_succ]
      refine ord_take 3 (v := ?v0x3) rfl (by kernel_rfl) (by kernel_rfl) (by kernel_rfl) (fun _ _ _ h => h) (by rfl) (by assumption) ?y0x3 ?_
      case y0x3 => (intro w hSw; (try dsimp only at hSw); go_simp; try with_reducible rfl)
      simp only [Act.put, List.setIfInBounds_toArray, List.set_cons_zero, List.set_cons_succ]
      refine ord_take 4 (v := ?v0x4) rfl (by kernel_rfl) (by kernel_rfl) (by kernel_rfl) (fun _ _ _ h => h) (by rfl) (by assumption) ?y0x4 ?_
      case y0x4 => (intro w hSw; (try dsimp only at hSw); go_simp; try with_reducible rfl)
      simp only [Act.put, List.setIfInBounds_toArray, List.set_cons_zero, List.set_cons_succ]
      refine ord_take 6 (v := ?v0x6) rfl (by kernel_rfl) (by kernel_rfl) (by kernel_rfl) (fun _ _ _ h => h) (by rfl) (by assumption) ?y0x6 ?_
      case y0x6 => (intro w hSw; (try dsimp only at hSw); go_simp; try with_reducible rfl)
      simp only [Act.put, List.setIfInBounds_toArray, List.set_cons_zero, List.set_cons_succ]
      refine ord_take 7 (v := ?v0x7) rfl (by kernel_rfl) (by kernel_rfl) (by kernel_rfl) (fun _ _ _ h => h) (by rfl) (by assumption) ?y0x7 ?_
      case y0x7 => (intro w hSw; (try dsimp only at hSw); go_simp; try with_reducible rfl)
      simp only [Act.put, List.setIfInBounds_toArray, List.set_cons_zero, List.set_cons_succ]
      refine ord_take 8 (v := ?v0x8) rfl (by kernel_rfl) (by kernel_rfl) (by kernel_rfl) (fun _ _ _ h => h) (by rfl) (by assumption) ?y0x8 ?_
      case y0x8 => (intro w hSw; (try dsimp only at hSw); go_simp; try with_reducible rfl)
      simp only [Act.put, List.setIfInBounds_toArray, List.set_cons_zero, List.set_cons_succ]
      refine ord_take 9 (v := ?v0x9) rfl (by kernel_rfl) (by kernel_rfl) (by kernel_rfl) (fun _ _ _ h => h) (by rfl) (by assumption) ?y0x9 ?_
      case y0x9 => (intro w hSw; (try dsimp only at hSw); go_simp; try with_reducible rfl)
      simp only [Act.put, List.setIfInBounds_toArray, List.set_cons_zero, List.set_cons_succ]
      refine ord_take 10 (v := ?v0x10) rfl (by kernel_rfl) (by kernel_rfl) (by kernel_rfl) (fun _ _ _ h => h) (by rfl) (by assumption) ?y0x10 ?_
      case y0x10 => (intro w hSw; (try dsimp only at hSw); go_simp; try with_reducible rfl)
      simp only [Act.put, List.setIfInBounds_toArray, List.set_cons_zero, List.set_cons_succ]
      refine ord_take 11 (v := ?v0x11) rfl (by kernel_rfl) (by kernel_rfl) (by kernel_rfl) (fun _ _ _ h => h) (by rfl) (by assumption) ?y0x11 ?_
      case y0x11 => (intro w hSw; (try dsimp only at hSw); go_simp; try with_reducible rfl)
      simp only [Act.put, List.setIfInBounds_toArray, List.set_cons_zero, List.set_cons_succ]
      refine ord_take 12 (v := ?v0x12) rfl (by kernel_rfl) (by kernel_rfl) (by kernel_rfl) (fun _ _ _ h => h) (by rfl) (by assumption) ?y0x12 ?_
      case y0x12 => (intro w hSw; (try dsimp only at hSw); go_simp; try with_reducible rfl)
      simp only [Act.put, List.setIfInBounds_toArray, List.set_cons_zero, List.set_cons_succ]
      refine ord_take 13 (v := ?v0x13) rfl (by kernel_rfl) (by kernel_rfl) (by kernel_rfl) (fun _ _ _ h => h) (by rfl) (by assumption) ?y0x13 ?_
      case y0x13 => (intro w hSw; (try dsimp only at hSw); go_simp; try with_reducible rfl)
      simp only [Act.put, List.setIfInBounds_toArray, List.set_cons_zero, List.set_cons_succ]
      refine ord_take 14 (v := ?v0x14) rfl (by kernel_rfl) (by kernel_rfl) (by kernel_rfl) (fun _ _ _ h => h) (by rfl) (by assumption) ?y0x14 ?_
      case y0x14 => (intro w hSw; (try dsimp only at hSw); go_simp; try with_reducible rfl)
      simp only [Act.put, List.setIfInBounds_toArray, List.set_cons_zero, List.set_cons_succ]
      refine ord_two 1 5 rfl rfl (by kernel_rfl) (by rfl) (by rfl) (fun K hK => ?_) (fun K hK => ?_)
      · go_wp2_with fail
        have X1 := Lib.hid (X0.out.alloc X0.out.size (.cells #[] 5))
        refine hK.out _ _ ((Hcl.out _ X1.out).2.1) (fun hHeld => ?_)
        clear hK
        try simp only [Act.put, List.setIfInBounds_toArray, List.set_cons_zero, List.set_cons_succ]
        refine ord_one 5 rfl (by kernel_rfl) (by rfl) (fun K hK => ?_)
        have hc2 := (Hcl.out _ X1.out).1
        go_wp2_with fail
        clear hc2
        refine hK.out _ _ ((Hcl.out _ X1.out).2.1) (fun hHeld => ?_)
        clear hK
        try simp only [Act.put, List.setIfInBounds_toArray, List.set_cons_zero, List.set_cons_succ]
        refine ord_take 15 (v := ?v1x15) rfl (by kernel_rfl) (by kernel_rfl) (by kernel_rfl) (fun _ _ _ h => h) (by rfl) (by assumption) ?y1x15 ?_
        case y1x15 => (intro w hSw; (try dsimp only at hSw); go_simp; try with_reducible rfl)
        simp only [Act.put, List.setIfInBounds_toArray, List.set_cons_zero, List.set_cons_succ]
        refine ord_one 16 rfl (by kernel_rfl) (by rfl) (fun K hK => ?_)
        have hown0 := own_empty Wd 5
        have hxd := Hxd.out _ X1.out
        refine wp_app (.tmp 35) (.tmp 49) 23 (by rfl) 5 i0 (.int .u8 0) 1 1 Try.underlying23 hi hz0 hz1 hz2 rfl (by decide) (.slice (some ⟨Wd.heap.size, 0, none⟩) 0 0) 0 [] (by rfl) hown0 (.slice pb st cb) st _ (by rfl) hxd (bytesV_one _) (by unfold maxLen; omega) (by omega) ?_
        clear hown0 hxd
        intro v6 w6 hown6 hgrow6 hloc6
        have X6 := Lib.hid (X1.out.grown hgrow6 X1.out.size (fun j e => by have := X0.out.size; simp [Value.ownBlock] at e; omega))
        have hnew6 := own_ge (B := Ws.heap.size) hloc6 (fun k hk => by have := X0.out.size; simp [Value.ownBlock] at hk; omega) X1.out.size
        rw [Nat.zero_add, List.nil_append] at hown6
        obtain ⟨p6, c6, rfl⟩ := OwnR.shape hown6
        have Hend6 := Lib.hid (Hend.out w6 (.slice p6 st c6) X6.out hown6 hnew6)
        clear hgrow6 hloc6 hown6 hnew6
        refine hK.out _ _ ((Hcl.out _ X6.out).2.1) (fun hHeld => ?_)
        clear hK
        try simp only [Act.put, List.setIfInBounds_toArray, List.set_cons_zero, List.set_cons_succ]
        refine ord_take 17 (v := ?v1x17) rfl (by kernel_rfl) (by kernel_rfl) (by kernel_rfl) (fun _ _ _ h => h) (by rfl) (by assumption) ?y1x17 ?_
        case y1x17 => (intro w hSw; (try dsimp only at hSw); go_simp; try with_reducible rfl)
        simp only [Act.put, List.setIfInBounds_toArray, List.set_cons_zero, List.set_cons_succ]
        refine ord_take 18 (v := ?v1x18) rfl (by kernel_rfl) (by kernel_rfl) (by kernel_rfl) (fun _ _ _ h => h) (by rfl) (by assumption) ?y1x18 ?_
        case y1x18 => (intro w hSw; (try dsimp only at hSw); go_simp; try with_reducible rfl)
        simp only [Act.put, List.setIfInBounds_toArray, List.set_cons_zero, List.set_cons_succ]
        refine ord_one 19 rfl (by kernel_rfl) (by rfl) (fun K hK => ?_)
        obtain ⟨hc1, hc2, hfz1, hfz2⟩ := Hcl.out _ X6.out
        go_wp2_with fail
        have hcs : (w6.setCell ⟨g, k * 3 + 1, none⟩ (.slice p6 st c6)).cell? ⟨g, k * 3 + 2, none⟩ = some (.int .i64 (la : Int)) := (World.cell?_setCell_other _ _ _ _ (by simp)).trans hc2
        clear hc1 hc2 hfz1 hfz2
        refine hK.out _ _ (hcs) (fun hHeld => ?_)
        clear hK
        try simp only [Act.put, List.setIfInBounds_toArray, List.set_cons_zero, List.set_cons_succ]
        refine wpAnyH_done (by kernel_rfl) ?_ _
        clear hHeld
        obtain ⟨hq1, hq2, hq3, hq4, hq5⟩ := Hend6.out
        clear Hend6
        go_wp2_with fail
        go_roundw
        case rel => exact ⟨k + 1, _, _, by omega, by go_num, hq5⟩
        case measure => simp [intOf]; omega
      · have hc2 := (Hcl.out _ X0.out).1
        go_wp2_with fail
        clear hc2
        refine hK.out _ _ ((Hcl.out _ X0.out).2.1) (fun hHeld => ?_)
        clear hK
        try simp only [Act.put, List.setIfInBounds_toArray, List.set_cons_zero, List.set_cons_succ]
        refine ord_take 15 (v := ?v2x15) rfl (by kernel_rfl) (by kernel_rfl) (by kernel_rfl) (fun _ _ _ h => h) (by rfl) (by assumption) ?y2x15 ?_
        case y2x15 => (intro w hSw; (try dsimp only at hSw); go_simp; try with_reducible rfl)
        simp only [Act.put, List.setIfInBounds_toArray, List.set_cons_zero, List.set_cons_succ]
        refine ord_one 1 rfl (by kernel_rfl) (by rfl) (fun K hK => ?_)
        go_wp2_with fail
        have X1 := Lib.hid (X0.out.alloc X0.out.size (.cells #[] 5))
        refine hK.out _ _ ((Hcl.out _ X1.out).2.1) (fun hHeld => ?_)
        clear hK
        try simp only [Act.put, List.setIfInBounds_toArray, List.set_cons_zero, List.set_cons_succ]
        refine ord_one 16 rfl (by kernel_rfl) (by rfl) (fun K hK => ?_)
        have hown0 := own_empty Wd 5
        have hxd := Hxd.out _ X1.out
        refine wp_app (.tmp 35) (.tmp 49) 23 (by rfl) 5 i0 (.int .u8 0) 1 1 Try.underlying23 hi hz0 hz1 hz2 rfl (by decide) (.slice (some ⟨Wd.heap.size, 0, none⟩) 0 0) 0 [] (by rfl) hown0 (.slice pb st cb) st _ (by rfl) hxd (bytesV_one _) (by unfold maxLen; omega) (by omega) ?_
        clear hown0 hxd
        intro v6 w6 hown6 hgrow6 hloc6
        have X6 := Lib.hid (X1.out.grown hgrow6 X1.out.size (fun j e => by have := X0.out.size; simp [Value.ownBlock] at e; omega))
        have hnew6 := own_ge (B := Ws.heap.size) hloc6 (fun k hk => by have := X0.out.size; simp [Value.ownBlock] at hk; omega) X1.out.size
        rw [Nat.zero_add, List.nil_append] at hown6
        obtain ⟨p6, c6, rfl⟩ := OwnR.shape hown6
        have Hend6 := Lib.hid (Hend.out w6 (.slice p6 st c6) X6.out hown6 hnew6)
        clear hgrow6 hloc6 hown6 hnew6
        refine hK.out _ _ ((Hcl.out _ X6.out).2.1) (fun hHeld => ?_)
        clear hK
        try simp only [Act.put, List.setIfInBounds_toArray, List.set_cons_zero, List.set_cons_succ]
        refine ord_take 17 (v := ?v2x17) rfl (by kernel_rfl) (by kernel_rfl) (by kernel_rfl) (fun _ _ _ h => h) (by rfl) (by assumption) ?y2x17 ?_
        case y2x17 => (intro w hSw; (try dsimp only at hSw); go_simp; try with_reducible rfl)
        simp only [Act.put, List.setIfInBounds_toArray, List.set_cons_zero, List.set_cons_succ]
        refine ord_take 18 (v := ?v2x18) rfl (by kernel_rfl) (by kernel_rfl) (by kernel_rfl) (fun _ _ _ h => h) (by rfl) (by assumption) ?y2x18 ?_
        case y2x18 => (intro w hSw; (try dsimp only at hSw); go_simp; try with_reducible rfl)
        simp only [Act.put, List.setIfInBounds_toArray, List.set_cons_zero, List.set_cons_succ]
        refine ord_one 19 rfl (by kernel_rfl) (by rfl) (fun K hK => ?_)
        obtain ⟨hc1, hc2, hfz1, hfz2⟩ := Hcl.out _ X6.out
        go_wp2_with fail
        have hcs : (w6.setCell ⟨g, k * 3 + 1, none⟩ (.slice p6 st c6)).cell? ⟨g, k * 3 + 2, none⟩ = some (.int .i64 (la : Int)) := (World.cell?_setCell_other _ _ _ _ (by simp)).trans hc2
        clear hc1 hc2 hfz1 hfz2
        refine hK.out _ _ (hcs) (fun hHeld => ?_)
        clear hK
        try simp only [Act.put, List.setIfInBounds_toArray, List.set_cons_zero, List.set_cons_succ]
        refine wpAnyH_done (by kernel_rfl) ?_ _
        clear hHeld
        obtain ⟨hq1, hq2, hq3, hq4, hq5⟩ := Hend6.out
        clear Hend6
        go_wp2_with fail
        go_roundw
        case rel => exact ⟨k + 1, _, _, by omega, by go_num, hq5⟩
        case measure => simp [intOf]; omega
    · have hkN : k = N := by omega
      subst hkN
      have hMt : M.take k = M := List.take_of_length_le (by rw [hr.len, HN.out]; exact Nat.le_refl _)
      have hLt : L.take k = L := List.take_of_length_le (by rw [HN.out]; exact Nat.le_refl _)
      have hfiles : (D.crash dr).files = M.map RFile.key := by
        have h3 := hr.done
        rw [hMt, hLt] at h3
        rw [h3]
        show mp (DiskM.crashF dr) D.files = _
        rw [H.out.files]
        unfold mp
        rw [List.map_map]
        rfl
      have hfin : RefIn (wr.setCell ⟨r, 2, none⟩ (.int .i64 (-1))) r (.slice pv k cv) M own' (D.crash dr) := (hr.core.left none).full rfl rfl hfiles (ok_crash H.out.ok dr)
      have hrw : own r ∨ w.heap.size ≤ r := .inl H.out.or
      have hch : Chg own w (wr.setCell ⟨r, 2, none⟩ (.int .i64 (-1))) := hr.chg.trans (Chg.setCell wr ⟨r, 2, none⟩ (.int .i64 (-1))) fun j _ e => by
        have e : j = r := e
        rw [e]
        exact H.out.or
      have Hf := Lib.hid (show ∃ own'' v' L', RefIn (wr.setCell ⟨r, 2, none⟩ (.int .i64 (-1))) r v' L' own'' (D.crash dr) ∧ Chg own w (wr.setCell ⟨r, 2, none⟩ (.int .i64 (-1))) ∧ ∀ j, own'' j → own j ∨ w.heap.size ≤ j from ⟨_, _, _, hfin, hch, hr.ext⟩)
      have hc1 := hr.core.c1
      have hc2 : wr.cell? ⟨r, 2, none⟩ = some (.int .i64 (leftOf D.fuse)) := cell_of hr.core.cells rfl
      have hfz := frozen_of hr.core.cells 2
      clear hr hfin hch hfiles hMt hLt
      go_wp2_with fail
      go_end0
      exact ⟨rfl, Hf.out⟩
end
end Go.Proofs.Ytdlbamhabenhgaa
