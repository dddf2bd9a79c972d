/- The contract of keep.Save: the walk. -/
import Derived.Test.YtdlbamhabenhgaaSave
namespace Go.Proofs.Ytdlbamhabenhgaa
open Go.RowKit Go.Sat Go.Maps

set_option maxRecDepth 100000 in
set_option maxHeartbeats 4000000 in
theorem save_calls {w w1 : World} {d : Nat} {D : DiskM} {F : Nat → Prop} (h : St w w1 d D F) (s : ByteArray) (hs : s.size ≤ 9223372036854775807) {p : Option Addr} {n c : Nat} {ls : List Bs} (hx : RowsAt w1 (.slice p n c) ls) (hn : n ≤ 140737488355328) (hl : ls.flatten.length ≤ 1048576) :
    Calls Try.prog 25 #[.pointer (some ⟨d, 0, none⟩), .string s, .slice p n c] w1 (Told w d F w1 (D.save (nm s) ls.flatten)) := by
  have hsz : (nm s).length = s.size := nm_len s
  by_cases hnm : (nm s).length < 1 ∨ 60 < (nm s).length
  · have hM : D.save (nm s) ls.flatten = (D, 1) := by unfold DiskM.save; rw [if_pos hnm]
    rw [hM]
    have Hfin := Lib.hid (show Told w d F w1 (D, 1) (.returned (.int .i64 1)) w1 from ⟨rfl, h, fun _ _ => rfl⟩)
    rw [hsz] at hnm
    generalize hzz : s.size = z at *
    clear hM h hx
    have hd1 : (decide ((z : Int) < 1) || decide (60 < (z : Int))) = true := by simp; omega
    by_cases hz : z < 1
    · have hz0 : z = 0 := by omega
      subst hz0
      go_enter Try.func25, Try.ntmps25
      go_wp2_with fail
      go_ret
      exact Hfin.out
    · have hz6 : 60 < z := by omega
      go_enter Try.func25, Try.ntmps25
      go_wp2_with fail
      go_ret
      exact Hfin.out
  · have hM : D.save (nm s) ls.flatten = DiskM.save1 D (nm s) (frameN ls.flatten) := by unfold DiskM.save; rw [if_neg hnm]
    rw [hM]
    have He := Lib.hid (enc_calls hx hn hl)
    have Hst := Lib.hid h
    rw [hsz] at hnm
    have hsh : (s ++ (⟨#[126]⟩ : ByteArray)).size = s.size + 1 := by simp [ByteArray.size_append]; rfl
    generalize hz : s.size = z at *
    have Hl := Lib.hid hl
    clear hM h hx hl
    go_enter Try.func25, Try.ntmps25
    go_wp2_with fail
    refine He.out.mono ?_
    rintro e w2 ⟨v, rfl, hv, hnew, hb⟩
    have hvl : ∀ k, v.ownBlock = some k → k < w2.heap.size := fun k hk => hv.lt (by simp [frameN, headN, fourN]) hk
    have hst2 : St w w2 d D (Fv F v) := Hst.out.move (S := fun _ => False) (Chg.of_below hb) (fun _ _ h => h.elim) fun k hk => by
      rcases hk with hk | hk
      · exact ⟨.inl hk, Nat.lt_of_lt_of_le (Hst.out.flt hk) hb.size⟩
      · exact ⟨.inr (hnew k hk), hvl k hk⟩
    have hsame2 : Same (fun k => F k) w1 w2 := same_below Hst.out hb
    have Hth := Lib.hid (there_calls hst2 (s ++ (⟨#[126]⟩ : ByteArray)) (by rw [hsh]; omega))
    rw [nm_shadow] at Hth
    have Hv := Lib.hid hv
    have Hs2 := Lib.hid hsame2
    have Hst2 := Lib.hid hst2
    clear hv hnew hb hvl hst2 hsame2
    go_wp2_with fail
    refine Hth.out.mono ?_
    rintro e w3 ⟨rfl, hb3, hst3⟩
    obtain ⟨pv, cv, rfl⟩ := Hv.out.slice
    generalize hmv : (frameN ls.flatten).length = mv at *
    have Hst := Lib.hid hst3
    have Hs := Lib.hid (Hs2.out.trans (same_below (Hst2.out.less fun _ hk => .inl hk) hb3))
    have Hv := Lib.hid (Hv.out.below hb3)
    clear hb3 hst3
    cases hg : Sat.get (shadowN (nm s)) D.files with
    | none =>
      have h0 : D.save0 (nm s) = (D, 0) := by unfold DiskM.save0; rw [hg]; rfl
      clear Hth
      have hap := st_append (Hst.out.alloc (.cells #[.slice pv mv cv] 23)) (s ++ (⟨#[126]⟩ : ByteArray)) (.slice (some ⟨w3.heap.size, 0, none⟩) 1 1) [frameN ls.flatten] (rows_one (v := .slice pv mv cv) Hv.out 23 (0, 0) _ 1 rfl (Nat.le_refl _)) (by simp) (by rw [List.flatten_cons, List.flatten_nil, List.append_nil, frame_len]; have := Hl.out; omega) (by rw [hsh]; omega)
      rw [nm_shadow, List.flatten_cons, List.flatten_nil, List.append_nil] at hap
      have Hsa := Lib.hid (Hs.out.trans (same_below (F := F) (Hst.out.less fun _ hk => .inl hk) ((Below.refl w3.heap.size w3).alloc (Nat.le_refl _) (.cells #[.slice pv mv cv] 23))))
      cases h1 : DiskM.append D (shadowN (nm s)) (frameN ls.flatten) with
      | mk D1 e1 =>
        rw [h1] at hap
        have Hap := Lib.hid hap
        by_cases he1 : e1 = 0
        · subst he1
          clear hap
          go_wp2_with fail
          refine Hap.out.mono ?_
          rintro e w5 ⟨rfl, hst5, hs5⟩
          have hst5 : St w w5 d D1 (Fv F (.slice pv mv cv)) := hst5
          have hsy := st_sync hst5 [s ++ (⟨#[126]⟩ : ByteArray)] w5.heap.size 1 rfl (0, 0) (by simp) (by simp [hsh]; omega)
          rw [show [s ++ (⟨#[126]⟩ : ByteArray)].map nm = [shadowN (nm s)] from by rw [List.map_cons, nm_shadow, List.map_nil]] at hsy
          have Hsb := Lib.hid (Hsa.out.trans (Same.trans (fun k hk => hs5 k (.inl hk)) (same_below (F := F) (hst5.less fun _ hk => .inl hk) ((Below.refl w5.heap.size w5).alloc (Nat.le_refl _) (.cells #[.string (s ++ (⟨#[126]⟩ : ByteArray))] 9)))))
          clear hs5 hst5
          cases h2 : DiskM.sync D1 [shadowN (nm s)] with
          | mk D2 e2 =>
            rw [h2] at hsy
            have Hsy := Lib.hid hsy
            by_cases he2 : e2 = 0
            · subst he2
              clear hsy
              go_wp2_with fail
              refine Hsy.out.mono ?_
              rintro e w6 ⟨rfl, hst6, hs6⟩
              have hst6 : St w w6 d D2 (Fv F (.slice pv mv cv)) := hst6
              have hrn := st_rename hst6 (s ++ (⟨#[126]⟩ : ByteArray)) s (by rw [hsh]; omega) (by omega)
              rw [nm_shadow, ← save1_ren h0 h1 h2] at hrn
              have Hrn := Lib.hid hrn
              have Hsc := Lib.hid (Hsb.out.trans (fun k hk => hs6 k (.inl hk)))
              clear hrn hs6 hst6
              go_wp2_with fail
              refine Hrn.out.mono ?_
              intro e w7 hT
              have hE := save_end Hsc.out hT
              obtain ⟨rfl, -⟩ := hT
              have HE := Lib.hid hE
              clear hE
              go_wp2_with fail
              go_ret
              exact HE.out
            · have hne : ((e2 : Int) != 0) = true := by simp; omega
              clear hsy
              go_wp2_with fail
              refine Hsy.out.mono ?_
              intro e w6 hT
              have hE : Told w d F w1 (D.save1 (nm s) (frameN ls.flatten)) e w6 := by rw [save1_syn h0 h1 h2 he2]; exact save_end Hsb.out hT
              obtain ⟨rfl, -⟩ := hT
              have HE := Lib.hid hE
              clear hE
              go_wp2_with fail
              go_ret
              exact HE.out
        · have hne : ((e1 : Int) != 0) = true := by simp; omega
          clear hap
          go_wp2_with fail
          refine Hap.out.mono ?_
          intro e w5 hT
          have hE : Told w d F w1 (D.save1 (nm s) (frameN ls.flatten)) e w5 := by rw [save1_app h0 h1 he1]; exact save_end Hsa.out hT
          obtain ⟨rfl, -⟩ := hT
          have HE := Lib.hid hE
          clear hE
          go_wp2_with fail
          go_ret
          exact HE.out
    | some f =>
      have hrm := st_remove Hst.out [s ++ (⟨#[126]⟩ : ByteArray)] w3.heap.size 1 rfl (0, 0) (by simp) (by simp [hsh]; omega)
      rw [show [s ++ (⟨#[126]⟩ : ByteArray)].map nm = [shadowN (nm s)] from by rw [List.map_cons, nm_shadow, List.map_nil]] at hrm
      have Hsr := Lib.hid (Hs.out.trans (same_below (Hst.out.less fun _ hk => .inl hk) ((Below.refl w3.heap.size w3).alloc (Nat.le_refl _) (.cells #[.string (s ++ (⟨#[126]⟩ : ByteArray))] 9))))
      cases h0 : D.save0 (nm s) with
      | mk D0 e0 =>
        have hz0 : DiskM.remove D [shadowN (nm s)] = (D0, e0) := by rw [← h0]; unfold DiskM.save0; rw [hg]; rfl
        rw [hz0] at hrm
        have Hrm := Lib.hid hrm
        clear hrm
        by_cases he0 : e0 = 0
        · subst he0
          go_wp2_with fail
          refine Hrm.out.mono ?_
          rintro e w4 ⟨rfl, hst4, hs4⟩
          have Hst4 := Lib.hid (show St w w4 d D0 (Fv F (.slice pv mv cv)) from hst4)
          have Hv4 := Lib.hid ((Hv.out.below ((Below.refl w3.heap.size w3).alloc (Nat.le_refl _) (.cells #[.string (s ++ (⟨#[126]⟩ : ByteArray))] 9))).same fun k hk => hs4 k (.inr hk))
          have Hs4 := Lib.hid (Hsr.out.trans (fun k hk => hs4 k (.inl hk)))
          clear Hst Hv Hs Hsr hst4 hs4
          have Hst := Hst4
          have Hv := Hv4
          have Hs := Hs4
          clear Hst4 Hv4 Hs4
          have hap := st_append (Hst.out.alloc (.cells #[.slice pv mv cv] 23)) (s ++ (⟨#[126]⟩ : ByteArray)) (.slice (some ⟨w4.heap.size, 0, none⟩) 1 1) [frameN ls.flatten] (rows_one (v := .slice pv mv cv) Hv.out 23 (0, 0) _ 1 rfl (Nat.le_refl _)) (by simp) (by rw [List.flatten_cons, List.flatten_nil, List.append_nil, frame_len]; have := Hl.out; omega) (by rw [hsh]; omega)
          rw [nm_shadow, List.flatten_cons, List.flatten_nil, List.append_nil] at hap
          have Hsa := Lib.hid (Hs.out.trans (same_below (F := F) (Hst.out.less fun _ hk => .inl hk) ((Below.refl w4.heap.size w4).alloc (Nat.le_refl _) (.cells #[.slice pv mv cv] 23))))
          cases h1 : DiskM.append D0 (shadowN (nm s)) (frameN ls.flatten) with
          | mk D1 e1 =>
            rw [h1] at hap
            have Hap := Lib.hid hap
            by_cases he1 : e1 = 0
            · subst he1
              clear hap
              go_wp2_with fail
              refine Hap.out.mono ?_
              rintro e w5 ⟨rfl, hst5, hs5⟩
              have hst5 : St w w5 d D1 (Fv F (.slice pv mv cv)) := hst5
              have hsy := st_sync hst5 [s ++ (⟨#[126]⟩ : ByteArray)] w5.heap.size 1 rfl (0, 0) (by simp) (by simp [hsh]; omega)
              rw [show [s ++ (⟨#[126]⟩ : ByteArray)].map nm = [shadowN (nm s)] from by rw [List.map_cons, nm_shadow, List.map_nil]] at hsy
              have Hsb := Lib.hid (Hsa.out.trans (Same.trans (fun k hk => hs5 k (.inl hk)) (same_below (F := F) (hst5.less fun _ hk => .inl hk) ((Below.refl w5.heap.size w5).alloc (Nat.le_refl _) (.cells #[.string (s ++ (⟨#[126]⟩ : ByteArray))] 9)))))
              clear hs5 hst5
              cases h2 : DiskM.sync D1 [shadowN (nm s)] with
              | mk D2 e2 =>
                rw [h2] at hsy
                have Hsy := Lib.hid hsy
                by_cases he2 : e2 = 0
                · subst he2
                  clear hsy
                  go_wp2_with fail
                  refine Hsy.out.mono ?_
                  rintro e w6 ⟨rfl, hst6, hs6⟩
                  have hst6 : St w w6 d D2 (Fv F (.slice pv mv cv)) := hst6
                  have hrn := st_rename hst6 (s ++ (⟨#[126]⟩ : ByteArray)) s (by rw [hsh]; omega) (by omega)
                  rw [nm_shadow, ← save1_ren h0 h1 h2] at hrn
                  have Hrn := Lib.hid hrn
                  have Hsc := Lib.hid (Hsb.out.trans (fun k hk => hs6 k (.inl hk)))
                  clear hrn hs6 hst6
                  go_wp2_with fail
                  refine Hrn.out.mono ?_
                  intro e w7 hT
                  have hE := save_end Hsc.out hT
                  obtain ⟨rfl, -⟩ := hT
                  have HE := Lib.hid hE
                  clear hE
                  go_wp2_with fail
                  go_ret
                  exact HE.out
                · have hne : ((e2 : Int) != 0) = true := by simp; omega
                  clear hsy
                  go_wp2_with fail
                  refine Hsy.out.mono ?_
                  intro e w6 hT
                  have hE : Told w d F w1 (D.save1 (nm s) (frameN ls.flatten)) e w6 := by rw [save1_syn h0 h1 h2 he2]; exact save_end Hsb.out hT
                  obtain ⟨rfl, -⟩ := hT
                  have HE := Lib.hid hE
                  clear hE
                  go_wp2_with fail
                  go_ret
                  exact HE.out
            · have hne : ((e1 : Int) != 0) = true := by simp; omega
              clear hap
              go_wp2_with fail
              refine Hap.out.mono ?_
              intro e w5 hT
              have hE : Told w d F w1 (D.save1 (nm s) (frameN ls.flatten)) e w5 := by rw [save1_app h0 h1 he1]; exact save_end Hsa.out hT
              obtain ⟨rfl, -⟩ := hT
              have HE := Lib.hid hE
              clear hE
              go_wp2_with fail
              go_ret
              exact HE.out
        · have hne : ((e0 : Int) != 0) = true := by simp; omega
          go_wp2_with fail
          refine Hrm.out.mono ?_
          intro e w4 hT
          have hE : Told w d F w1 (D.save1 (nm s) (frameN ls.flatten)) e w4 := by rw [save1_rem h0 he0]; exact save_end Hsr.out hT
          obtain ⟨rfl, -⟩ := hT
          have HE := Lib.hid hE
          clear hE
          go_wp2_with fail
          go_ret
          exact HE.out
end Go.Proofs.Ytdlbamhabenhgaa
