/- The contract of keep.Clear: the walk. -/
import Derived.Test.YtdlbamhabenhgaaClear
namespace Go.Proofs.Ytdlbamhabenhgaa
open Go.RowKit Go.Sat Go.Maps

set_option maxRecDepth 100000 in
set_option maxHeartbeats 4000000 in
theorem clear_calls {w w1 : World} {d : Nat} {D : DiskM} {F : Nat → Prop} (h : St w w1 d D F) (s : ByteArray) {p : Option Addr} {n c : Nat} {stay : List Bs} (hx : HasN w1 (.slice p n c) stay) (hn : stay.length ≤ 140737488355328)
    (hF : ∀ k, (Value.slice p n c).ownBlock = some k → F k ∨ k < w.heap.size) :
    Calls Try.prog 38 #[.pointer (some ⟨d, 0, none⟩), .string s, .slice p n c] w1 (Told w d F w1 (D.clear (nm s) stay)) := by
  have Hst := Lib.hid h
  have Hl := Lib.hid (st_list h)
  have Hx := Lib.hid hx
  have HF := Lib.hid hF
  have hcount := h.ok.count
  have Hnames := Lib.hid h.ok.names
  clear h hx hF
  unfold DiskM.clear
  have hnl : (namesOf D).length ≤ 4096 := by unfold namesOf; rw [List.length_map]; exact hcount
  have hno : ∀ x ∈ namesOf D, x.length ≤ 64 := by
    intro x hx
    obtain ⟨q, hq, rfl⟩ := List.mem_map.1 hx
    exact (okN_string (Hnames.out q hq)).2
  have Hno := Lib.hid hno
  clear Hnames hno hcount
  generalize hns : namesOf D = ns at *
  have Hns := Lib.hid hns
  generalize hN : ns.length = N at *
  have HN := Lib.hid hN
  clear hns hN
  go_enter Try.func38, Try.ntmps38
  go_wp2_with fail
  refine Hl.out.mono ?_
  rintro e w2 ⟨v, rfl, hv, hnew, hb, hst⟩
  rw [Hns.out] at hv
  have hv' : HasN w2 v ns := OwnR.holds hv
  obtain ⟨pv, cv, rfl⟩ := hv'.slice
  have hvl : N ≠ 0 → ∀ k, (Value.slice pv ns.length cv).ownBlock = some k → k < w2.heap.size := fun hne k hk => by
    rcases hv'.at with rfl | ⟨b, o, c', e, hc⟩
    · exact absurd HN.out.symm hne
    · have hlt : 0 < ns.length := by rw [HN.out]; omega
      have h1 := World.block_lt_of_cell? w2 _ (hc 0 ns[0] (List.getElem?_eq_getElem hlt))
      rw [e] at hk
      cases hk
      exact h1
  rw [HN.out] at hv' hvl
  have hst2 : St w w2 d D (fun k => F k ∨ (N ≠ 0 ∧ (Value.slice pv N cv).ownBlock = some k)) := Hst.out.move (S := fun _ => False) (Chg.of_below hb) (fun _ _ h => h.elim) fun k hk => by
    rcases hk with hk | ⟨hne, hk⟩
    · exact ⟨.inl hk, Nat.lt_of_lt_of_le (Hst.out.flt hk) hb.size⟩
    · exact ⟨.inr (hnew k (by rw [HN.out]; exact hk)), hvl hne k hk⟩
  have Hs2 := Lib.hid (same_below Hst.out hb : Same F w1 w2)
  have Hv := Lib.hid hv'
  have Hst2 := Lib.hid hst2
  clear hv hv' hnew hb hst hvl hst2
  rw [HN.out]
  go_wp2_with fail
  go_loopw [15] (fun i wr => ∃ (k : Nat) (Dk : DiskM), k ≤ N ∧ i = .int .i64 k ∧ St w wr d Dk (fun k => F k ∨ (N ≠ 0 ∧ (Value.slice pv N cv).ownBlock = some k)) ∧ Same (fun k => F k ∨ (N ≠ 0 ∧ (Value.slice pv N cv).ownBlock = some k)) w2 wr ∧ DiskM.clearL (nm s) stay D ns = DiskM.clearL (nm s) stay Dk (ns.drop k)) (fun i _ => N - (intOf i).toNat)
  case atStart => exact ⟨0, D, Nat.zero_le _, rfl, Hst2.out, fun _ _ => rfl, rfl⟩
  case round =>
    obtain ⟨k, Dk, hk, rfl, hr, hsame, hcl⟩ := hrel
    by_cases hlt : k < N
    · have hkl : k < ns.length := by rw [HN.out]; exact hlt
      rw [List.drop_eq_getElem_cons hkl] at hcl
      rcases Hv.out.at with h0 | ⟨b, o, c1, e1, hc⟩
      · rw [h0] at hkl
        simp at hkl
      rw [HN.out] at e1
      cases e1
      have hcw := (World.cell?_of_block (a := ⟨b, o + k, none⟩) (hsame b (.inr ⟨by omega, rfl⟩))).trans (hc k _ (List.getElem?_eq_getElem hkl))
      rw [enc_str] at hcw
      have hx64 := Hno.out _ (List.getElem_mem hkl)
      generalize ns[k] = x at *
      have hxs : (⟨x.toArray⟩ : ByteArray).size ≤ 9223372036854775807 := by
        have : (⟨x.toArray⟩ : ByteArray).size = x.length := by rw [← nm_len, nm_str]
        omega
      have hstay : HasN wr (.slice p n c) stay := by
        refine Hx.out.same fun k hk => ?_
        rcases HF.out k hk with h | h
        · exact (hsame k (.inl h)).trans (Hs2.out k h)
        · exact (hr.below.block k h).trans (Hst.out.below.block k h).symm
      have hCon := contains_calls hstay (by omega) x
      have hPre := prefix_calls wr x s
      have Hr := Lib.hid hr
      have Hsame := Lib.hid hsame
      have Hcl := Lib.hid hcl
      clear hr hsame hcl hstay hc hkl
      cases hp : (nm s).isPrefixOf x with
      | false =>
        rw [hp] at hPre
        have HPre := Lib.hid hPre
        clear hPre hCon
        go_wp2_with fail
        refine HPre.out.mono ?_
        rintro e w3 ⟨rfl, rfl⟩
        go_wp2_with fail
        go_roundw
        case rel => exact ⟨k + 1, Dk, by omega, by go_num, Hr.out, Hsame.out, Hcl.out.trans (DiskM.clearL_skip (by unfold skipN; rw [hp]; rfl))⟩
        case measure => simp [intOf]; omega
      | true =>
        rw [hp] at hPre
        have HPre := Lib.hid hPre
        clear hPre
        cases hcn : stay.contains x with
        | true =>
          rw [hcn] at hCon
          have HCon := Lib.hid hCon
          clear hCon
          go_wp2_with fail
          refine HPre.out.mono ?_
          rintro e w3 ⟨rfl, rfl⟩
          go_wp2_with fail
          refine HCon.out.mono ?_
          rintro e w3 ⟨rfl, rfl⟩
          go_wp2_with fail
          go_roundw
          case rel => exact ⟨k + 1, Dk, by omega, by go_num, Hr.out, Hsame.out, Hcl.out.trans (DiskM.clearL_skip (by unfold skipN; rw [hcn]; simp))⟩
          case measure => simp [intOf]; omega
        | false =>
          rw [hcn] at hCon
          have HCon := Lib.hid hCon
          have hskip : skipN (nm s) stay x = false := by unfold skipN; rw [hp, hcn]; rfl
          clear hCon
          have hrm := st_remove Hr.out [(⟨x.toArray⟩ : ByteArray)] wr.heap.size 1 rfl (0, 0) (by simp) (by simpa using hxs)
          rw [show [(⟨x.toArray⟩ : ByteArray)].map nm = [x] from by rw [List.map_cons, nm_str, List.map_nil]] at hrm
          cases hz : DiskM.remove Dk [x] with
          | mk D1 e1 =>
            rw [hz] at hrm
            have Hrm := Lib.hid hrm
            have Hsa := Lib.hid (Hsame.out.trans (same_below Hr.out ((Below.refl wr.heap.size wr).alloc (Nat.le_refl _) (.cells #[.string ⟨x.toArray⟩] 9))))
            clear hrm
            by_cases he : e1 = 0
            · subst he
              go_wp2_with fail
              refine HPre.out.mono ?_
              rintro e w3 ⟨rfl, rfl⟩
              go_wp2_with fail
              refine HCon.out.mono ?_
              rintro e w3 ⟨rfl, rfl⟩
              go_wp2_with fail
              refine Hrm.out.mono ?_
              rintro e w3 ⟨rfl, hst3, hs3⟩
              have Hst3 := Lib.hid (show St w w3 d D1 _ from hst3)
              have Hs3 := Lib.hid (Hsa.out.trans hs3)
              clear hst3 hs3
              go_wp2_with fail
              go_roundw
              case rel => exact ⟨k + 1, D1, by omega, by go_num, Hst3.out, Hs3.out, Hcl.out.trans (DiskM.clearL_go hskip hz)⟩
              case measure => simp [intOf]; omega
            · have hne : ((e1 : Int) != 0) = true := by simp; omega
              go_wp2_with fail
              refine HPre.out.mono ?_
              rintro e w3 ⟨rfl, rfl⟩
              go_wp2_with fail
              refine HCon.out.mono ?_
              rintro e w3 ⟨rfl, rfl⟩
              go_wp2_with fail
              refine Hrm.out.mono ?_
              rintro e w3 ⟨rfl, hst3, hs3⟩
              have Hf := Lib.hid (show Told w d F w1 (DiskM.clearL (nm s) stay D ns) (.returned (.int .i64 (e1 : Int))) w3 from by
                rw [Hcl.out, DiskM.clearL_err hskip hz he]
                exact ⟨rfl, St.less hst3 fun _ hk => .inl hk, fun k hk => (hs3 k (.inl hk)).trans ((Hsa.out k (.inl hk)).trans (Hs2.out k hk))⟩)
              clear hst3 hs3
              go_wp2_with fail
              go_ret
              exact Hf.out
    · have Hf := Lib.hid (show Told w d F w1 (DiskM.clearL (nm s) stay D ns) (.returned (.int .i64 0)) wr from by
        rw [hcl, List.drop_of_length_le (by rw [HN.out]; omega)]
        exact ⟨rfl, hr.less fun _ hk => .inl hk, fun k hk => (hsame k (.inl hk)).trans (Hs2.out k hk)⟩)
      clear hr hsame hcl
      go_wp2_with fail
      go_ret
      exact Hf.out
end Go.Proofs.Ytdlbamhabenhgaa
