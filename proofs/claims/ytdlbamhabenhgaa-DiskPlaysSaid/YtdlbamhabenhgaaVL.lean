/- The document's Decode (satrapyref2): the walk. The document's One (satrapyref2). The document's keep (satrapyref4): has, Load. The document's disk through several steps: what is set apart (F) stays as it was. The document's Whole (satrapyref4): a file is made to hold just these bytes. The document's Save (satrapyref4). The document's Clear (satrapyref4). The program's disk and the document's, side by side, and blocks (F) that neither has. Arguments that are slices of structs of one-cell fields, and slices of texts. What a script of satrapylaw4 is, as the form reads it. -/
import Derived.Deep.Fields
import Derived.Deep.Strs
import Derived.Test.YtdlbamhabenhgaaVA
import Derived.Test.YtdlbamhabenhgaaVE
import Derived.Test.YtdlbamhabenhgaaVF
import Derived.Test.YtdlbamhabenhgaaVK
namespace Go.Proofs.Ytdlbamhabenhgaa
open Go.RowKit Go.Sat Go.Maps

theorem quiet_drew {P : Program} {f : FuncId} {args : Array Value} {w : World} {n : Nat} {v : Value} (h : Calls P f args (w.drewN n) fun e w' => e = .returned v ∧ ∃ q, w' = (w.drewN n).drewN q) : Calls P f args (w.drewN n) fun e w'' => e = .returned v ∧ ∃ m, w'' = w.drewN m :=
  h.mono fun _ _ ⟨he, q, hq⟩ => ⟨he, n + q, by rw [hq, World.drewN_drewN]⟩

/-- 'x[l:h]'. -/
theorem run_window {P : Program} (W : World) (t e : TypeId) (ht : P.underlying t = some (.slice e)) (hz : ∀ w, (Go.sizeOf e).run P w = .ok 1 w) (b o len cap l h : Nat) (hlh : l ≤ h) (hh : h ≤ cap) (hl : l < cap) :
    (Instr.slice t (.slice (some ⟨b, o, none⟩) len cap) (some (.int .i64 (l : Int))) (some (.int .i64 (h : Int))) none).run P W = .ok (.slice (some ⟨b, o + l, none⟩) (h - l) (cap - l)) W := by
  have ht' : P.underlying t = some (.slice (P.elem t)) := by simp [Program.elem, ht]
  have he : P.elem t = e := by simp [Program.elem, ht]
  rw [run_slice_lh W t _ _ _ ht' .i64 .i64 _ _ (by omega) (by omega) (by omega), he, hz]
  have hne : ¬ cap = l := by omega
  by_cases h0 : l = 0
  · subst h0
    simp [Result.andThen, sliced, Addr.add, hne]
  · simp [Result.andThen, sliced, Addr.add, hne, h0]

theorem below_drewN (w : World) (n : Nat) : Below w.heap.size w (w.drewN n) := ⟨rfl, rfl, rfl, Nat.le_refl _, fun _ _ => rfl⟩

theorem below_dn {w W : World} (h : Below w.heap.size w W) (n : Nat) : Below w.heap.size w (W.drewN n) := h.trans ⟨rfl, rfl, rfl, Nat.le_refl _, fun _ _ => rfl⟩

set_option maxRecDepth 100000 in
set_option maxHeartbeats 4000000 in
theorem rdec_calls {w : World} {p : Option Addr} {n c : Nat} {b : Bs} (h : HasB w (.slice p n c) b) (hnc : n ≤ c) (hl : b.length ≤ 140737488355328) :
    Calls Try.prog 91 #[.slice p n c] w (Decoded w b) := by
  have hn : n = b.length := (bytes_in h).1
  subst hn
  obtain ⟨i0, hi, hz0, hz1, hz2⟩ := info_parts (show (Try.prog.info? 5).map (fun i => (i.zero, i.size, i.bytes)) = some (some (.int .u8 0), 1, 1) by kernel_rfl)
  by_cases h8 : b.length < 8
  · have Hfin := Lib.hid (decoded_bad (w := w) (w' := w) (b := b) (k := 2) (by unfold decE; rw [if_pos h8]) (by decide) (Below.refl _ _))
    generalize hN : b.length = N at *
    clear hN h
    go_enter Try.func91, Try.ntmps91
    go_wp2_with fail
    go_ret3
    exact Hfin.out
  · have hpos : 0 < b.length := by omega
    rcases h.at with e | ⟨g, o, c2, e, -⟩
    · rw [e] at hpos
      simp at hpos
    cases e
    have H4 := Lib.hid (fun (W : World) (hb : Below w.heap.size w W) => rfour_at (HasB.from (h.below hb) (k := 4) (by omega) (c - 4)) (by rw [List.length_drop]; omega))
    have HS := Lib.hid (fun (W : World) (hb : Below w.heap.size w W) => rsum_calls (HasB.cut (h.below hb) (k := 4) (by omega) c) (by rw [List.length_take]; omega))
    have hs1 : ∀ W, (Instr.slice 23 (.slice (some ⟨g, o, none⟩) b.length c) (some (.int .i64 4)) none none).run Try.prog W = .ok (.slice (some ⟨g, o + 4, none⟩) (b.length - 4) (c - 4)) W := fun W => run_from W Try.underlying23 hi hz1 g o b.length c 4 (by omega) hnc (by omega)
    have hs2 : ∀ W, (Instr.slice 23 (.slice (some ⟨g, o, none⟩) b.length c) none (some (.int .i64 4)) none).run Try.prog W = .ok (.slice (some ⟨g, o, none⟩) 4 c) W := fun W => run_upto W Try.underlying23 hi _ _ c 4 (by omega)
    by_cases hh : fourAt (b.drop 4) = sumN (b.take 4)
    · have hhead := (head_iff (b := b) (by omega)).2 hh
      have heq : ((fourAt (b.drop 4) : Int) != sumF (b.take 4)) = false := by rw [sumF_nat]; simp; omega
      have HF := Lib.hid (fun (W : World) (hb : Below w.heap.size w W) => rfour_at (h.below hb) (by omega))
      by_cases hm : 1048576 < fourAt b
      · have Hfin := Lib.hid (fun W => decoded_bad (w := w) (w' := W) (b := b) (k := 5) (by unfold decE; rw [if_neg h8, if_neg (by simpa using hhead), if_pos hm]) (by decide))
        have hlt := fourAt_lt b
        generalize fourAt (b.drop 4) = x at *
        generalize sumF (b.take 4) = y at *
        generalize fourAt b = z at *
        generalize b.length = N at *
        clear h hh hhead
        go_enter Try.func91, Try.ntmps91
        go_wp2_with fail
        go_quiet ((first | (go_at_call 98; refine quiet_drew (H4.out _ (below_drewN _ _))) | (go_at_call 89; refine Calls.quiet_of_same (HS.out _ (below_drewN _ _)))))
        go_wp2_with fail
        refine (HF.out _ (below_drewN _ _)).mono ?_
        rintro e w2 ⟨rfl, q2, rfl⟩
        go_wp2_with fail
        go_ret3
        exact Hfin.out _ (below_drewN _ _)
      · by_cases hd : b.length < fourAt b + 12
        · have Hfin := Lib.hid (fun W => decoded_bad (w := w) (w' := W) (b := b) (k := 2) (by unfold decE; rw [if_neg h8, if_neg (by simpa using hhead), if_neg hm, if_pos hd]) (by decide))
          have hlt := fourAt_lt b
          generalize fourAt (b.drop 4) = x at *
          generalize sumF (b.take 4) = y at *
          generalize fourAt b = z at *
          generalize b.length = N at *
          clear h hh hhead
          go_enter Try.func91, Try.ntmps91
          go_wp2_with fail
          go_quiet ((first | (go_at_call 98; refine quiet_drew (H4.out _ (below_drewN _ _))) | (go_at_call 89; refine Calls.quiet_of_same (HS.out _ (below_drewN _ _)))))
          go_wp2_with fail
          refine (HF.out _ (below_drewN _ _)).mono ?_
          rintro e w2 ⟨rfl, q2, rfl⟩
          go_wp2_with fail
          go_ret3
          exact Hfin.out _ (below_drewN _ _)
        · have hlt := fourAt_lt b
          have H8 := Lib.hid (fun (W : World) (hb : Below w.heap.size w W) => rfour_at (HasB.from (h.below hb) (k := 8 + fourAt b) (by omega) (c - (8 + fourAt b))) (by rw [List.length_drop]; omega))
          have HS8 := Lib.hid (fun (W : World) (hb : Below w.heap.size w W) => rsum_calls (HasB.cut (h.below hb) (k := 8 + fourAt b) (by omega) c) (by rw [List.length_take]; omega))
          have HxW := Lib.hid (show ∀ W, Below w.heap.size w W → Holds W 1 (.slice (some ⟨g, o + 8, none⟩) (fourAt b) (c - 8)) (fourAt b) (bytesV ((b.drop 8).take (fourAt b))) from fun W hb => by
            have h2 := HasB.cut (HasB.from (h.below hb) (k := 8) (by omega) (c - 8)) (k := fourAt b) (by rw [List.length_drop]; omega) (c - 8)
            unfold HasB at h2
            rw [List.length_take, List.length_drop, Nat.min_eq_left (by omega)] at h2
            exact h2)
          have hs3 : ∀ W, (Instr.slice 23 (.slice (some ⟨g, o, none⟩) b.length c) (some (.int .i64 (8 + (fourAt b : Int)))) none none).run Try.prog W = .ok (.slice (some ⟨g, o + (8 + fourAt b), none⟩) (b.length - (8 + fourAt b)) (c - (8 + fourAt b))) W := fun W => by
            have := run_from (P := Try.prog) W Try.underlying23 hi hz1 g o b.length c (8 + fourAt b) (by omega) hnc (by omega)
            rwa [show ((8 + fourAt b : Nat) : Int) = 8 + (fourAt b : Int) by omega] at this
          have hs4 : ∀ W, (Instr.slice 23 (.slice (some ⟨g, o, none⟩) b.length c) none (some (.int .i64 (8 + (fourAt b : Int)))) none).run Try.prog W = .ok (.slice (some ⟨g, o, none⟩) (8 + fourAt b) c) W := fun W => by
            have := run_upto (P := Try.prog) W Try.underlying23 hi (some ⟨g, o, none⟩) b.length c (8 + fourAt b) (by omega)
            rwa [show ((8 + fourAt b : Nat) : Int) = 8 + (fourAt b : Int) by omega] at this
          have hs5 : ∀ W, (Instr.slice 23 (.slice (some ⟨g, o, none⟩) b.length c) (some (.int .i64 8)) (some (.int .i64 (8 + (fourAt b : Int)))) none).run Try.prog W = .ok (.slice (some ⟨g, o + 8, none⟩) (fourAt b) (c - 8)) W := fun W => by
            have := run_window (P := Try.prog) W 23 5 Try.underlying23 (fun w => by simp [sizeOf, typeInfo, hi, hz1]) g o b.length c 8 (8 + fourAt b) (by omega) (by omega) (by omega)
            rwa [show ((8 + fourAt b : Nat) : Int) = 8 + (fourAt b : Int) by omega, Nat.add_sub_cancel_left] at this
          have hwr : IntKind.i64.wrap (8 + (fourAt b : Int)) = 8 + (fourAt b : Int) := IntWalk.i64_in _ ⟨by omega, by omega⟩
          have hwr2 : IntKind.i64.wrap (12 + (fourAt b : Int)) = 12 + (fourAt b : Int) := IntWalk.i64_in _ ⟨by omega, by omega⟩
          by_cases hs : fourAt (b.drop (8 + fourAt b)) = sumN (b.take (8 + fourAt b))
          · have hE : decE b = 0 := by unfold decE; rw [if_neg h8, if_neg (by simpa using hhead), if_neg hm, if_neg hd, if_neg (by simpa using hs)]
            have Hfin := Lib.hid (show ∀ v W, OwnR W 5 1 v (fourAt b) (bytesV ((b.drop 8).take (fourAt b))) → (∀ k, v.ownBlock = some k → w.heap.size ≤ k) → Below w.heap.size w W → Decoded w b (.returned (.tuple #[v, .int .i64 (12 + (fourAt b : Int)), .int .i64 0])) W from fun v W ho hn hb =>
              ⟨v, by unfold decL; rw [hE, if_pos rfl, show ((fourAt b + 12 : Nat) : Int) = 12 + (fourAt b : Int) by omega]; rfl, by
                unfold decB
                rw [if_pos hE]
                unfold OwnB
                rw [List.length_take, List.length_drop, Nat.min_eq_left (by omega)]
                exact ho, hn, hb⟩)
            have heq2 : ((fourAt (b.drop (8 + fourAt b)) : Int) != sumF (b.take (8 + fourAt b))) = false := by rw [sumF_nat]; simp; omega
            generalize fourAt (b.drop (8 + fourAt b)) = x2 at *
            generalize sumF (b.take (8 + fourAt b)) = y2 at *
            generalize fourAt (b.drop 4) = x at *
            generalize sumF (b.take 4) = y at *
            generalize hz : fourAt b = z at *
            generalize b.length = N at *
            clear h hh hhead hs hE hz
            go_enter Try.func91, Try.ntmps91
            go_wp2_with fail
            go_quiet ((first | (go_at_call 98; refine quiet_drew (H4.out _ (below_drewN _ _))) | (go_at_call 89; refine Calls.quiet_of_same (HS.out _ (below_drewN _ _)))))
            go_wp2_with fail
            refine (HF.out _ (below_drewN _ _)).mono ?_
            rintro e w2 ⟨rfl, q2, hq2⟩
            have HbX := Lib.hid (show Below w.heap.size w w2 by rw [hq2]; exact below_dn (below_drewN _ _) _)
            clear hq2
            go_wp2_with fail
            go_quiet ((first | (go_at_call 98; refine quiet_drew (H8.out _ (below_dn HbX.out _))) | (go_at_call 89; refine Calls.quiet_of_same (HS8.out _ (below_dn HbX.out _)))))
            have HbY := Lib.hid (below_dn HbX.out nq)
            generalize w2.drewN nq = w5 at *
            have HbZ := Lib.hid (HbY.out.alloc HbY.out.size (.cells #[] 5))
            go_wp2_with (at_builtin; refine wpList_app (w5.alloc (.cells #[] 5)) rfl (.tmp 37) (.tmp 41) 23 rfl 5 i0 (.int .u8 0) 1 1 Try.underlying23 hi hz0 hz1 hz2 rfl (by decide) (.slice (some ⟨w5.heap.size, 0, none⟩) 0 0) 0 [] rfl (own_empty w5 _) (.slice (some ⟨g, o + 8, none⟩) z (c - 8)) z _ rfl (HxW.out _ HbZ.out) (bytesV_one _) (by unfold maxLen; omega) (by omega) ?_; intro v12 w12 hown12 hgrow12 hloc12; rw [Nat.zero_add, List.nil_append] at hown12; have hX := HbZ.out.grown hgrow12 HbZ.out.size (fun j e => by have := HbY.out.size; simp [Value.ownBlock] at e; omega); have hnew := own_ge (B := w.heap.size) hloc12 (fun k hk => by have := HbY.out.size; simp [Value.ownBlock] at hk; omega) HbZ.out.size; have X12 := Lib.hid (And.intro hX (And.intro hown12 hnew)); clear hown12 hgrow12 hloc12 hX hnew)
            go_ret3
            exact Hfin.out _ _ X12.out.2.1 X12.out.2.2 X12.out.1
          · have Hfin := Lib.hid (fun W => decoded_bad (w := w) (w' := W) (b := b) (k := 4) (by unfold decE; rw [if_neg h8, if_neg (by simpa using hhead), if_neg hm, if_neg hd, if_pos hs]) (by decide))
            have heq2 : ((fourAt (b.drop (8 + fourAt b)) : Int) != sumF (b.take (8 + fourAt b))) = true := by rw [sumF_nat]; simp; omega
            generalize fourAt (b.drop (8 + fourAt b)) = x2 at *
            generalize sumF (b.take (8 + fourAt b)) = y2 at *
            generalize fourAt (b.drop 4) = x at *
            generalize sumF (b.take 4) = y at *
            generalize fourAt b = z at *
            generalize b.length = N at *
            clear h hh hhead hs
            go_enter Try.func91, Try.ntmps91
            go_wp2_with fail
            go_quiet ((first | (go_at_call 98; refine quiet_drew (H4.out _ (below_drewN _ _))) | (go_at_call 89; refine Calls.quiet_of_same (HS.out _ (below_drewN _ _)))))
            go_wp2_with fail
            refine (HF.out _ (below_drewN _ _)).mono ?_
            rintro e w2 ⟨rfl, q2, hq2⟩
            have HbX := Lib.hid (show Below w.heap.size w w2 by rw [hq2]; exact below_dn (below_drewN _ _) _)
            clear hq2
            go_wp2_with fail
            go_quiet ((first | (go_at_call 98; refine quiet_drew (H8.out _ (below_dn HbX.out _))) | (go_at_call 89; refine Calls.quiet_of_same (HS8.out _ (below_dn HbX.out _)))))
            go_wp2_with fail
            go_ret3
            exact Hfin.out _ (below_dn HbX.out _)
    · have Hfin := Lib.hid (fun W => decoded_bad (w := w) (w' := W) (b := b) (k := 4) (by unfold decE; rw [if_neg h8, if_pos (fun e => hh ((head_iff (by omega)).1 e))]) (by decide))
      have hne : ((fourAt (b.drop 4) : Int) != sumF (b.take 4)) = true := by rw [sumF_nat]; simp; omega
      generalize fourAt (b.drop 4) = x at *
      generalize sumF (b.take 4) = y at *
      generalize b.length = N at *
      clear h hh
      go_enter Try.func91, Try.ntmps91
      go_wp2_with fail
      go_quiet ((first | (go_at_call 98; refine quiet_drew (H4.out _ (below_drewN _ _))) | (go_at_call 89; refine Calls.quiet_of_same (HS.out _ (below_drewN _ _)))))
      go_wp2
      go_ret3
      exact Hfin.out _ (below_drewN _ _)
end Go.Proofs.Ytdlbamhabenhgaa

namespace Go.Proofs.Ytdlbamhabenhgaa
open Go.RowKit Go.Sat Go.Maps

set_option maxRecDepth 100000 in
set_option maxHeartbeats 1000000 in
theorem rone_calls {w : World} {p : Option Addr} {n c : Nat} {b : Bs} (h : HasB w (.slice p n c) b) (hnc : n ≤ c) (hl : b.length ≤ 140737488355328) :
    Calls Try.prog 73 #[.slice p n c] w (OneOf w b) := by
  have hn : n = b.length := (bytes_in h).1
  subst hn
  have Hd := Lib.hid (rdec_calls h hnc hl)
  have hdl : decL b ≤ 4294967307 := by
    have := fourAt_lt b
    unfold decL
    split <;> omega
  clear h
  go_enter Try.func73, Try.ntmps73
  go_wp2_with fail
  refine Hd.out.mono ?_
  rintro e w1 ⟨v, rfl, hv, hn1, hb1⟩
  by_cases he : decE b = 0
  · by_cases hL : decL b = b.length
    · have hE : oneE b = 0 := by unfold oneE; rw [if_pos he, if_pos hL]
      have Hfin := Lib.hid (show OneOf w b (.returned (.tuple #[v, .int .i64 0])) w1 from ⟨v, by rw [hE]; rfl, by unfold oneB; rw [if_pos hE]; exact hv, hn1, hb1⟩)
      rw [he, hL]
      generalize b.length = N at *
      clear hv hn1 hb1 he hL hE hdl
      go_wp2_with fail
      go_ret2
      exact Hfin.out
    · have Hfin := Lib.hid (one_nil (w := w) (w' := w1) (b := b) (k := 3) (by unfold oneE; rw [if_pos he, if_neg hL]) (by decide) hb1)
      have hne : ((decL b : Int) != (b.length : Int)) = true := by
        simp only [bne_iff_ne, ne_eq, Int.natCast_inj]
        exact hL
      rw [he]
      generalize decL b = M at *
      generalize b.length = N at *
      clear hv hn1 hb1 he hL
      go_wp2_with fail
      go_ret2
      exact Hfin.out
  · have hE : oneE b = decE b := by unfold oneE; rw [if_neg he]
    have Hfin := Lib.hid (one_nil (w := w) (w' := w1) (b := b) (k := decE b) hE he hb1)
    have hne : ((decE b : Int) == 0) = false := by simp; omega
    have hne2 : ((decE b : Int) != 0) = true := by simp; omega
    generalize decE b = E at *
    generalize decL b = M at *
    generalize b.length = N at *
    clear hv hn1 hb1 hE
    go_wp2_with fail
    go_ret2
    exact Hfin.out
end Go.Proofs.Ytdlbamhabenhgaa

namespace Go.Proofs.Ytdlbamhabenhgaa
open Go.RowKit Go.Sat Go.Maps

section
variable {w : World} {r : Nat} {v : Value} {L : List RFile} {own : Nat → Prop} {D : DiskM}

theorem rhas_calls (h : RefIn w r v L own D) (s : ByteArray) :
    Calls Try.prog 90 #[.pointer (some ⟨r, 0, none⟩), .string s] w fun e w' => e = .returned (.bool (Sat.get (nm s) D.files).isSome) ∧ Below w.heap.size w w' := by
  have H := Lib.hid (rread_calls h s)
  clear h
  cases hg : Sat.get (nm s) D.files with
  | none =>
    rw [hg] at H
    go_enter Try.func90, Try.ntmps90
    go_wp2_with fail
    refine H.out.mono ?_
    rintro e w' ⟨v, rfl, -, -, hb⟩
    have Hf := Lib.hid hb
    clear hb
    go_wp2_with fail
    go_ret
    exact ⟨rfl, Hf.out⟩
  | some f =>
    rw [hg] at H
    go_enter Try.func90, Try.ntmps90
    go_wp2_with fail
    refine H.out.mono ?_
    rintro e w' ⟨v, rfl, -, -, hb⟩
    have Hf := Lib.hid hb
    clear hb
    go_wp2_with fail
    go_ret
    exact ⟨rfl, Hf.out⟩

def RGotL (w : World) (o : Option FileM) (e : Ending) (w' : World) : Prop :=
  ∃ v, e = .returned (.tuple #[v, .int .i64 (loadE o : Int)]) ∧ OwnB w' 5 v (loadB o) ∧ (∀ k, v.ownBlock = some k → w.heap.size ≤ k) ∧ Below w.heap.size w w'

theorem rload_calls (h : RefIn w r v L own D) (s : ByteArray) :
    Calls Try.prog 42 #[.pointer (some ⟨r, 0, none⟩), .string s] w (RGotL w (Sat.get (nm s) D.files)) := by
  have hln := data_len h.ok (nm s)
  have H := Lib.hid (rread_calls h s)
  clear h
  cases hg : Sat.get (nm s) D.files with
  | none =>
    rw [hg] at H
    clear hln
    go_enter Try.func42, Try.ntmps42
    go_wp2_with fail
    refine H.out.mono ?_
    rintro e w2 ⟨v, rfl, -, -, hb⟩
    have Hf := Lib.hid (show RGotL w none (.returned (.tuple #[.slice none 0 0, .int .i64 7])) w2 from ⟨.slice none 0 0, by rw [loadE_none]; rfl, by rw [loadB_none]; exact OwnR.nil _ _ _, fun k hk => (by cases hk), hb⟩)
    clear hb
    go_wp2_with fail
    go_ret2
    exact Hf.out
  | some f =>
    rw [hg] at H hln
    go_enter Try.func42, Try.ntmps42
    go_wp2_with fail
    refine H.out.mono ?_
    rintro e w2 ⟨v, rfl, hv, -, hb⟩
    obtain ⟨p, c, rfl, hnc⟩ := own_slice hv
    have H1 := Lib.hid (rone_calls hv.has hnc (by omega))
    have Hb := Lib.hid hb
    have hE := loadE_some f
    have hB := loadB_some f
    generalize dataOf (some f) = b at *
    generalize hN : b.length = N at *
    clear hv hb hnc hln
    go_wp2_with fail
    refine H1.out.mono ?_
    rintro e w3 ⟨v, rfl, hv, hn, hb3⟩
    have hb4 := Hb.out.trans (hb3.mono Hb.out.size)
    by_cases he : oneE b = 0
    · have Hf := Lib.hid (show RGotL w (some f) (.returned (.tuple #[v, .int .i64 0])) w3 from ⟨v, by rw [hE, if_pos he]; rfl, by rw [hB]; exact hv, fun k hk => Nat.le_trans Hb.out.size (hn k hk), hb4⟩)
      rw [he]
      clear hv hn hb3 hb4
      go_wp2_with fail
      go_ret2
      exact Hf.out
    · have Hf := Lib.hid (show RGotL w (some f) (.returned (.tuple #[.slice none 0 0, .int .i64 3])) w3 from ⟨.slice none 0 0, by rw [hE, if_neg he]; rfl, by rw [hB]; unfold oneB; rw [if_neg he]; exact OwnR.nil _ _ _, fun k hk => (by cases hk), hb4⟩)
      have hne : ((oneE b : Int) != 0) = true := by simp; omega
      generalize oneE b = E at *
      clear hv hn hb3 hb4
      go_wp2_with fail
      go_ret2
      exact Hf.out
end
end Go.Proofs.Ytdlbamhabenhgaa

namespace Go.Proofs.Ytdlbamhabenhgaa
open Go.RowKit Go.Sat Go.Maps

def RSt (w0 w1 : World) (r : Nat) (own0 : Nat → Prop) (D : DiskM) (F : Nat → Prop) : Prop :=
  ∃ own v L, RefIn w1 r v L own D ∧ Chg own0 w0 w1 ∧ (∀ k, own k → (own0 k ∨ w0.heap.size ≤ k) ∧ ¬ F k) ∧ ∀ k, F k → k < w1.heap.size

section
variable {w w0 w1 w2 : World} {r : Nat} {v : Value} {L : List RFile} {own own0 : Nat → Prop} {D : DiskM} {F : Nat → Prop}

theorem RSt.start (h : RefIn w r v L own D) (hb : Below w.heap.size w w1) (hF : ∀ k, F k → ¬ own k ∧ k < w1.heap.size) : RSt w w1 r own D F :=
  ⟨own, v, L, h.below hb, (Chg.of_below hb).mono fun _ _ h => h.elim, fun k hk => ⟨.inl hk, fun hf => (hF k hf).1 hk⟩, fun k hk => (hF k hk).2⟩

theorem RSt.ok (h : RSt w0 w1 r own0 D F) : D.OK := let ⟨_, _, _, hR, _⟩ := h; hR.ok
theorem RSt.flt (h : RSt w0 w1 r own0 D F) {k : Nat} (hk : F k) : k < w1.heap.size := let ⟨_, _, _, _, _, _, hF⟩ := h; hF k hk

theorem RSt.next (h : RSt w0 w1 r own0 D F) (hb : Below w1.heap.size w1 w2) : RSt w0 w2 r own0 D F := by
  obtain ⟨own, v, L, hR, hc, hx, hF⟩ := h
  exact ⟨own, v, L, hR.below hb, hc.trans (Chg.of_below hb) fun _ _ h => h.elim, hx, fun k hk => Nat.lt_of_lt_of_le (hF k hk) hb.size⟩

theorem RSt.same (h : RSt w0 w1 r own0 D F) (hb : Below w1.heap.size w1 w2) : Same F w1 w2 := fun _ hk => hb.block _ (h.flt hk)

/-- Something new is set apart too. -/
theorem RSt.apart {F' : Nat → Prop} (h : RSt w0 w1 r own0 D F) (hb : Below w1.heap.size w1 w2) (hF' : ∀ k, F' k → F k ∨ (w1.heap.size ≤ k ∧ k < w2.heap.size)) : RSt w0 w2 r own0 D F' := by
  obtain ⟨own, v, L, hR, hc, hx, hF⟩ := h
  refine ⟨own, v, L, hR.below hb, hc.trans (Chg.of_below hb) fun _ _ h => h.elim, fun k hk => ⟨(hx k hk).1, fun hf => ?_⟩, fun k hk => ?_⟩
  · rcases hF' k hf with h | h
    · exact (hx k hk).2 h
    · have := hR.olt k hk
      omega
  · rcases hF' k hk with h | h
    · exact Nat.lt_of_lt_of_le (hF k h) hb.size
    · exact h.2

theorem rst_step {P : Program} {f : FuncId} {args : Array Value} {Re : DiskM × Nat} (h : RSt w0 w1 r own0 D F) (hx : ∀ own v L, RefIn w1 r v L own D → (∀ k, own k → ¬ F k) → Calls P f args w1 (RStep w1 r own Re)) :
    Calls P f args w1 fun e w' => e = .returned (.int .i64 (Re.2 : Int)) ∧ RSt w0 w' r own0 Re.1 F ∧ Same F w1 w' := by
  obtain ⟨own, v, L, hR, hc, hown, hF⟩ := h
  refine (hx own v L hR fun k hk => (hown k hk).2).mono ?_
  rintro e w' ⟨rfl, own', ⟨v', L', hR'⟩, hc', he⟩
  refine ⟨rfl, ⟨own', v', L', hR', hc.trans hc' fun i hi ho => ?_, fun k hk => ?_, fun k hk => Nat.lt_of_lt_of_le (hF k hk) hc'.size⟩, fun k hk => hc'.block k (hF k hk) fun ho => (hown k ho).2 hk⟩
  · rcases (hown i ho).1 with h | h
    · exact h
    · omega
  · rcases he k hk with h | h
    · exact hown k h
    · exact ⟨.inr (Nat.le_trans hc.size h), fun hf => by have := hF k hf; omega⟩

theorem RSt.stop (h : RSt w0 w1 r own0 D F) (k : Nat) : RStep w0 r own0 (D, k) (.returned (.int .i64 (k : Int))) w1 := by
  obtain ⟨own, v, L, hR, hc, hx, -⟩ := h
  exact ⟨rfl, own, ⟨v, L, hR⟩, hc, fun k hk => (hx k hk).1⟩

theorem rst_has (h : RSt w0 w1 r own0 D F) (s : ByteArray) :
    Calls Try.prog 90 #[.pointer (some ⟨r, 0, none⟩), .string s] w1 fun e w' => e = .returned (.bool (Sat.get (nm s) D.files).isSome) ∧ RSt w0 w' r own0 D F ∧ Same F w1 w' := by
  have h0 := h
  obtain ⟨own, v, L, hR, -⟩ := h
  exact (rhas_calls hR s).mono fun e w' ⟨he, hb⟩ => ⟨he, h0.next hb, h0.same hb⟩

theorem rstep_below {w' : World} {R : DiskM × Nat} {e : Ending} {w'' : World} (hb : Below w.heap.size w w') (h : RStep w' r own R e w'') : RStep w r own R e w'' := by
  obtain ⟨he, own', hR, hc, hx⟩ := h
  exact ⟨he, own', hR, chg_below hb hc, fun k hk => (hx k hk).imp id fun h => Nat.le_trans hb.size h⟩
end
end Go.Proofs.Ytdlbamhabenhgaa

namespace Go.Proofs.Ytdlbamhabenhgaa
open Go.RowKit Go.Sat Go.Maps

section
variable {w : World} {r : Nat} {v : Value} {L : List RFile} {own : Nat → Prop} {D : DiskM}

set_option maxRecDepth 100000 in
set_option maxHeartbeats 4000000 in
theorem rwhole_calls (h : RefIn w r v L own D) (s : ByteArray) (hs : s.size ≤ 9223372036854775000) {pb : Option Addr} {m cb : Nat} {l : Bs} (hl : HasB w (.slice pb m cb) l) (hlm : l.length ≤ 140737488355328) (hF : ∀ k, (Value.slice pb m cb).ownBlock = some k → ¬ own k ∧ k < w.heap.size) :
    Calls Try.prog 72 #[.pointer (some ⟨r, 0, none⟩), .string s, .slice pb m cb] w (RStep w r own (D.save1 (nm s) l)) := by
  have hsh : (s ++ (⟨#[126]⟩ : ByteArray)).size = s.size + 1 := by simp [ByteArray.size_append]; rfl
  have hst : RSt w w r own D (fun k => (Value.slice pb m cb).ownBlock = some k) := RSt.start h (Below.refl _ _) hF
  have Hth := Lib.hid (rst_has hst (s ++ (⟨#[126]⟩ : ByteArray)))
  rw [nm_shadow] at Hth
  have Hl := Lib.hid hl
  have Hlm := Lib.hid hlm
  clear hst h hl hlm hF
  cases hg : Sat.get (shadowN (nm s)) D.files with
  | none =>
    rw [hg] at Hth
    obtain ⟨D0, h0, hD⟩ : ∃ D0, D.save0 (nm s) = (D0, 0) ∧ D0 = D := ⟨D, by unfold DiskM.save0; rw [hg]; rfl, rfl⟩
    go_enter Try.func72, Try.ntmps72
    go_wp2_with fail
    refine Hth.out.mono ?_
    rintro e w3 ⟨rfl, hst3, hs3⟩
    rw [← hD] at hst3
    have Hst := Lib.hid hst3
    have Hv := Lib.hid (Hl.out.same hs3)
    clear hst3 hs3 Hth hD hg
    have Hap := Lib.hid (rst_step Hst.out (Re := D0.append (shadowN (nm s)) l) fun own v L hR hn => by
      have := rappend_calls hR (s ++ (⟨#[126]⟩ : ByteArray)) (by rw [hsh]; omega) (Hv.out) Hlm.out (fun _ k hk ho => hn k ho hk)
      rwa [nm_shadow] at this)
    cases h1 : DiskM.append D0 (shadowN (nm s)) l with
    | mk D1 e1 =>
      rw [h1] at Hap
      by_cases he1 : e1 = 0
      · subst he1
        go_wp2_with fail
        refine Hap.out.mono ?_
        rintro e w5 ⟨rfl, hst5, -⟩
        have Hst5 := Lib.hid (show RSt w w5 r own D1 (fun k => (Value.slice pb m cb).ownBlock = some k) from hst5)
        have Hsy := Lib.hid (rst_step Hst5.out (Re := D1.sync [shadowN (nm s)]) fun own v L hR hn => by
          have := rsync_calls hR (s ++ (⟨#[126]⟩ : ByteArray)) (by rw [hsh]; omega)
          rwa [nm_shadow] at this)
        clear hst5 Hap
        cases h2 : DiskM.sync D1 [shadowN (nm s)] with
        | mk D2 e2 =>
          rw [h2] at Hsy
          by_cases he2 : e2 = 0
          · subst he2
            have Hend := Lib.hid (save1_ren h0 h1 h2)
            clear h0 h1 h2
            go_wp2_with fail
            refine Hsy.out.mono ?_
            rintro e w6 ⟨rfl, hst6, -⟩
            have Hst6 := Lib.hid (show RSt w w6 r own D2 (fun k => (Value.slice pb m cb).ownBlock = some k) from hst6)
            have Hrn := Lib.hid (rst_step Hst6.out (Re := D2.rename (shadowN (nm s)) (nm s)) fun own v L hR hn => by
              have := rren_calls hR (s ++ (⟨#[126]⟩ : ByteArray)) s (by rw [hsh]; omega) (by omega)
              rwa [nm_shadow] at this)
            clear hst6 Hsy
            go_wp2_with fail
            refine Hrn.out.mono ?_
            rintro e w7 ⟨rfl, hst7, -⟩
            have HE := Lib.hid (show RStep w r own (D.save1 (nm s) l) (.returned (.int .i64 ((D2.rename (shadowN (nm s)) (nm s)).2 : Int))) w7 from by rw [Hend.out]; exact hst7.stop _)
            clear hst7 Hrn
            generalize (D2.rename (shadowN (nm s)) (nm s)).2 = e3 at *
            go_wp2_with fail
            go_ret
            exact HE.out
          · have hne : ((e2 : Int) == 0) = false := by simp; omega
            have Hend := Lib.hid (save1_syn h0 h1 h2 he2)
            clear h0 h1 h2 he2
            go_wp2_with fail
            refine Hsy.out.mono ?_
            rintro e w6 ⟨rfl, hst6, -⟩
            have HE := Lib.hid (show RStep w r own (D.save1 (nm s) l) (.returned (.int .i64 (e2 : Int))) w6 from by rw [Hend.out]; exact hst6.stop _)
            clear hst6 Hsy
            go_wp2_with fail
            go_ret
            exact HE.out
      · have hne : ((e1 : Int) == 0) = false := by simp; omega
        have Hend := Lib.hid (save1_app h0 h1 he1)
        clear h0 h1 he1
        go_wp2_with fail
        refine Hap.out.mono ?_
        rintro e w5 ⟨rfl, hst5, -⟩
        have HE := Lib.hid (show RStep w r own (D.save1 (nm s) l) (.returned (.int .i64 (e1 : Int))) w5 from by rw [Hend.out]; exact hst5.stop _)
        clear hst5 Hap
        go_wp2_with fail
        go_ret
        exact HE.out
  | some f =>
    rw [hg] at Hth
    cases h0 : D.save0 (nm s) with
    | mk D0 e0 =>
      have hz0 : DiskM.remove D [shadowN (nm s)] = (D0, e0) := by rw [← h0]; unfold DiskM.save0; rw [hg]; rfl
      have Hz0 := Lib.hid hz0
      clear hz0 hg
      go_enter Try.func72, Try.ntmps72
      go_wp2_with fail
      refine Hth.out.mono ?_
      rintro e w3 ⟨rfl, hst3, hs3⟩
      have Hrm := Lib.hid (rst_step hst3 (Re := D.remove [shadowN (nm s)]) fun own v L hR hn => by
        have := rrem_calls hR (s ++ (⟨#[126]⟩ : ByteArray)) (by rw [hsh]; omega)
        rwa [nm_shadow] at this)
      rw [Hz0.out] at Hrm
      have Hv3 := Lib.hid (Hl.out.same hs3)
      clear hst3 hs3 Hth
      by_cases he0 : e0 = 0
      · subst he0
        go_wp2_with fail
        refine Hrm.out.mono ?_
        rintro e w4 ⟨rfl, hst4, hs4⟩
        have Hst := Lib.hid (show RSt w w4 r own D0 (fun k => (Value.slice pb m cb).ownBlock = some k) from hst4)
        have Hv := Lib.hid (Hv3.out.same hs4)
        clear hst4 hs4 Hv3 Hrm Hz0
        have Hap := Lib.hid (rst_step Hst.out (Re := D0.append (shadowN (nm s)) l) fun own v L hR hn => by
          have := rappend_calls hR (s ++ (⟨#[126]⟩ : ByteArray)) (by rw [hsh]; omega) (Hv.out) Hlm.out (fun _ k hk ho => hn k ho hk)
          rwa [nm_shadow] at this)
        cases h1 : DiskM.append D0 (shadowN (nm s)) l with
        | mk D1 e1 =>
          rw [h1] at Hap
          by_cases he1 : e1 = 0
          · subst he1
            go_wp2_with fail
            refine Hap.out.mono ?_
            rintro e w5 ⟨rfl, hst5, -⟩
            have Hst5 := Lib.hid (show RSt w w5 r own D1 (fun k => (Value.slice pb m cb).ownBlock = some k) from hst5)
            have Hsy := Lib.hid (rst_step Hst5.out (Re := D1.sync [shadowN (nm s)]) fun own v L hR hn => by
              have := rsync_calls hR (s ++ (⟨#[126]⟩ : ByteArray)) (by rw [hsh]; omega)
              rwa [nm_shadow] at this)
            clear hst5 Hap
            cases h2 : DiskM.sync D1 [shadowN (nm s)] with
            | mk D2 e2 =>
              rw [h2] at Hsy
              by_cases he2 : e2 = 0
              · subst he2
                have Hend := Lib.hid (save1_ren h0 h1 h2)
                clear h0 h1 h2
                go_wp2_with fail
                refine Hsy.out.mono ?_
                rintro e w6 ⟨rfl, hst6, -⟩
                have Hst6 := Lib.hid (show RSt w w6 r own D2 (fun k => (Value.slice pb m cb).ownBlock = some k) from hst6)
                have Hrn := Lib.hid (rst_step Hst6.out (Re := D2.rename (shadowN (nm s)) (nm s)) fun own v L hR hn => by
                  have := rren_calls hR (s ++ (⟨#[126]⟩ : ByteArray)) s (by rw [hsh]; omega) (by omega)
                  rwa [nm_shadow] at this)
                clear hst6 Hsy
                go_wp2_with fail
                refine Hrn.out.mono ?_
                rintro e w7 ⟨rfl, hst7, -⟩
                have HE := Lib.hid (show RStep w r own (D.save1 (nm s) l) (.returned (.int .i64 ((D2.rename (shadowN (nm s)) (nm s)).2 : Int))) w7 from by rw [Hend.out]; exact hst7.stop _)
                clear hst7 Hrn
                generalize (D2.rename (shadowN (nm s)) (nm s)).2 = e3 at *
                go_wp2_with fail
                go_ret
                exact HE.out
              · have hne : ((e2 : Int) == 0) = false := by simp; omega
                have Hend := Lib.hid (save1_syn h0 h1 h2 he2)
                clear h0 h1 h2 he2
                go_wp2_with fail
                refine Hsy.out.mono ?_
                rintro e w6 ⟨rfl, hst6, -⟩
                have HE := Lib.hid (show RStep w r own (D.save1 (nm s) l) (.returned (.int .i64 (e2 : Int))) w6 from by rw [Hend.out]; exact hst6.stop _)
                clear hst6 Hsy
                go_wp2_with fail
                go_ret
                exact HE.out
          · have hne : ((e1 : Int) == 0) = false := by simp; omega
            have Hend := Lib.hid (save1_app h0 h1 he1)
            clear h0 h1 he1
            go_wp2_with fail
            refine Hap.out.mono ?_
            rintro e w5 ⟨rfl, hst5, -⟩
            have HE := Lib.hid (show RStep w r own (D.save1 (nm s) l) (.returned (.int .i64 (e1 : Int))) w5 from by rw [Hend.out]; exact hst5.stop _)
            clear hst5 Hap
            go_wp2_with fail
            go_ret
            exact HE.out
      · have hne : ((e0 : Int) != 0) = true := by simp; omega
        have Hend := Lib.hid (save1_rem (b := l) h0 he0)
        clear h0 he0
        go_wp2_with fail
        refine Hrm.out.mono ?_
        rintro e w4 ⟨rfl, hst4, -⟩
        have HE := Lib.hid (show RStep w r own (D.save1 (nm s) l) (.returned (.int .i64 (e0 : Int))) w4 from by rw [Hend.out]; exact hst4.stop _)
        clear hst4 Hrm
        go_wp2_with fail
        go_ret
        exact HE.out
end
end Go.Proofs.Ytdlbamhabenhgaa

namespace Go.Proofs.Ytdlbamhabenhgaa
open Go.RowKit Go.Sat Go.Maps

section
variable {w : World} {r : Nat} {v : Value} {L : List RFile} {own : Nat → Prop} {D : DiskM}

set_option maxRecDepth 100000 in
set_option maxHeartbeats 1000000 in
theorem rsave_calls (h : RefIn w r v L own D) (s : ByteArray) (hs : s.size ≤ 9223372036854775000) {p : Option Addr} {m c : Nat} {l : Bs} (hx : HasB w (.slice p m c) l) (hl : l.length ≤ 1048576) :
    Calls Try.prog 41 #[.pointer (some ⟨r, 0, none⟩), .string s, .slice p m c] w (RStep w r own (D.save (nm s) l)) := by
  have hsz : (nm s).length = s.size := nm_len s
  by_cases hnm : (nm s).length < 1 ∨ 60 < (nm s).length
  · have hM : D.save (nm s) l = (D, 1) := by unfold DiskM.save; rw [if_pos hnm]
    rw [hM]
    have Hfin := Lib.hid (rstep_same h (Below.refl _ _) 1)
    rw [hsz] at hnm
    generalize hzz : s.size = z at *
    clear hM h hx
    have hd1 : (decide ((z : Int) < 1) || decide (60 < (z : Int))) = true := by simp; omega
    by_cases hz : z < 1
    · have hz0 : z = 0 := by omega
      subst hz0
      go_enter Try.func41, Try.ntmps41
      go_wp2_with fail
      go_ret
      exact Hfin.out
    · have hz6 : 60 < z := by omega
      go_enter Try.func41, Try.ntmps41
      go_wp2_with fail
      go_ret
      exact Hfin.out
  · have hM : D.save (nm s) l = D.save1 (nm s) (frameN l) := by unfold DiskM.save; rw [if_neg hnm]
    rw [hM]
    have He := Lib.hid (renc_calls hx hl)
    have Hh := Lib.hid h
    have Hs := Lib.hid hs
    rw [hsz] at hnm
    generalize hz : s.size = z at *
    have Hz := Lib.hid hz
    have hfl : (frameN l).length ≤ 140737488355328 := by rw [frame_len]; omega
    have Hfl := Lib.hid hfl
    clear hM h hx hl hs hfl
    go_enter Try.func41, Try.ntmps41
    go_wp2_with fail
    refine He.out.mono ?_
    rintro e w2 ⟨v2, rfl, hv, hnew, hb⟩
    obtain ⟨p2, c2, rfl⟩ := hv.slice
    have Hw := Lib.hid ((rwhole_calls (Hh.out.below hb) s (by rw [Hz.out]; exact Hs.out) hv.has Hfl.out (fun k hk => ⟨fun ho => by have h1 := hnew k hk; have h2 := Hh.out.olt k ho; omega, OwnR.lt hv hk⟩)).mono fun e w' h => rstep_below hb h)
    clear hv hnew hb He
    go_wp2_with fail
    refine Hw.out.mono ?_
    intro e w3 h3
    have HE := Lib.hid h3
    obtain ⟨rfl, -⟩ := h3
    generalize (D.save1 (nm s) (frameN l)).2 = e3 at *
    go_wp2_with fail
    go_ret
    exact HE.out
end
end Go.Proofs.Ytdlbamhabenhgaa

namespace Go.Proofs.Ytdlbamhabenhgaa
open Go.RowKit Go.Sat Go.Maps

theorem cut_prefix (x : Bs) (s : ByteArray) : (((⟨x.toArray⟩ : ByteArray).extract 0 s.size).toList == s.toList) = (nm s).isPrefixOf x := by
  rw [ByteArray.toList_eq, ByteArray.toList_eq]
  have e : ((⟨x.toArray⟩ : ByteArray).extract 0 s.size).data.toList = x.take (nm s).length := by rw [nm_len]; simp
  rw [e, Bool.eq_iff_iff, beq_iff_eq, List.isPrefixOf_iff_prefix, List.prefix_iff_eq_take]
  exact eq_comm

theorem contains_snoc {l : List Bs} {k : Nat} {y : Bs} (h : l[k]? = some y) (x : Bs) : (l.take (k + 1)).contains x = ((l.take k).contains x || (y == x)) := by
  rw [List.take_add_one, h, Bool.eq_iff_iff, List.contains_iff_mem, Bool.or_eq_true, List.contains_iff_mem, beq_iff_eq, List.mem_append]
  simp only [Option.toList_some, List.mem_singleton]
  constructor
  · rintro (h | h)
    · exact .inl h
    · exact .inr h.symm
  · rintro (h | h)
    · exact .inl h
    · exact .inr h.symm

section
variable {w : World} {r : Nat} {v : Value} {L : List RFile} {own : Nat → Prop} {D : DiskM}

set_option maxRecDepth 100000 in
set_option maxHeartbeats 4000000 in
theorem rclear_calls (h : RefIn w r v L own D) (s : ByteArray) (hsz : s.size ≤ 9223372036854775807) {p : Option Addr} {n c : Nat} {stay : List Bs} (hx : ∀ W, Chg own w W → HasN W (.slice p n c) stay) (hn : stay.length ≤ 140737488355328) :
    Calls Try.prog 43 #[.pointer (some ⟨r, 0, none⟩), .string s, .slice p n c] w (RStep w r own (D.clear (nm s) stay)) := by
  have Hl := Lib.hid (rlist_calls h)
  have Hx := Lib.hid hx
  have H := Lib.hid h
  have hcount := h.ok.count
  have Hnames := Lib.hid h.ok.names
  have hnn : stay.length = n := by
    obtain ⟨p', c', e⟩ := (hx w (Chg.refl _ _)).slice
    cases e
    rfl
  have Hnn := Lib.hid hnn
  clear h hx
  unfold DiskM.clear
  have hnl : (namesOf D).length ≤ 4096 := by unfold namesOf; rw [List.length_map]; exact hcount
  have hno : ∀ x ∈ namesOf D, x.length ≤ 64 := by
    intro x hx
    obtain ⟨q, hq, rfl⟩ := List.mem_map.1 hx
    exact (okN_string (Hnames.out q hq)).2
  have Hno := Lib.hid hno
  clear Hnames hno hcount
  generalize hns : namesOf D = ns at *
  have Hns := Lib.hid hns
  generalize hN : ns.length = N at *
  have HN := Lib.hid hN
  rw [hnn] at hn
  clear hns hN hnn
  go_enter Try.func43, Try.ntmps43
  go_wp2_with fail
  refine Hl.out.mono ?_
  rintro e w2 ⟨v, rfl, hv, hnew, hb⟩
  rw [Hns.out] at hv
  have hv' : HasN w2 v ns := OwnR.holds hv
  have hlt : ∀ k, v.ownBlock = some k → k < w2.heap.size := fun k hk => OwnR.lt hv hk
  obtain ⟨pv, cv, rfl⟩ := hv'.slice
  have hst2 : RSt w w2 r own D (fun k => (Value.slice pv N cv).ownBlock = some k) := RSt.start H.out hb fun k hk => by
    rw [← HN.out] at hk
    exact ⟨fun ho => by have h1 := hnew k hk; have h2 := H.out.olt k ho; omega, hlt k hk⟩
  rw [HN.out] at hv'
  have Hv := Lib.hid hv'
  have Hst2 := Lib.hid hst2
  clear hv hv' hnew hb hst2 hlt Hl
  rw [HN.out]
  go_wp2_with fail
  go_loopw [8, 9, 10, 11] (fun i _ _ _ wr => ∃ (k : Nat) (Dk : DiskM), k ≤ N ∧ i = .int .i64 k ∧ RSt w wr r own Dk (fun k => (Value.slice pv N cv).ownBlock = some k) ∧ Same (fun k => (Value.slice pv N cv).ownBlock = some k) w2 wr ∧ DiskM.clearL (nm s) stay D ns = DiskM.clearL (nm s) stay Dk (ns.drop k)) (fun i _ _ _ _ => N - (intOf i).toNat)
  case atStart => exact ⟨0, D, Nat.zero_le _, rfl, Hst2.out, fun _ _ => rfl, rfl⟩
  case round =>
    obtain ⟨k, Dk, hk, rfl, hr, hsame, hcl⟩ := hrel
    by_cases hlt : k < N
    · have hkl : k < ns.length := by rw [HN.out]; exact hlt
      rw [List.drop_eq_getElem_cons hkl] at hcl
      rcases (Hv.out.same hsame).at with h0 | ⟨b, o, c1, e1, hc⟩
      · rw [h0] at hkl
        simp at hkl
      rw [HN.out] at e1
      cases e1
      have hcw := hc k _ (List.getElem?_eq_getElem hkl)
      rw [enc_str] at hcw
      have hx64 := Hno.out _ (List.getElem_mem hkl)
      generalize ns[k] = x at *
      have hxs : (⟨x.toArray⟩ : ByteArray).size = x.length := by rw [← nm_len, nm_str]
      have hstay : HasN wr (.slice p n c) stay := by
        obtain ⟨own1, v1, L1, hR, hch, -⟩ := hr
        exact Hx.out wr hch
      have Hr := Lib.hid hr
      have Hsame := Lib.hid hsame
      have Hcl := Lib.hid hcl
      have Hstay := Lib.hid hstay
      clear hr hsame hcl hstay hc hkl
      have hss : (nm s).length = s.size := nm_len s
      by_cases hsh : x.length < s.size
      · have hd : decide (((⟨x.toArray⟩ : ByteArray).size : Int) < (s.size : Int)) = true := by rw [hxs]; simp; exact hsh
        have hd2 : decide ((⟨x.toArray⟩ : ByteArray).size < s.size) = true := by rw [hxs]; simp; exact hsh
        have hskip : skipN (nm s) stay x = true := by
          unfold skipN
          cases hp : (nm s).isPrefixOf x with
          | false => rfl
          | true => have := (List.isPrefixOf_iff_prefix.1 hp).length_le; omega
        have Hskip := Lib.hid hskip
        clear hskip
        go_wp2_with fail
        go_roundw
        case rel => exact ⟨k + 1, Dk, by omega, by go_num, Hr.out, Hsame.out, Hcl.out.trans (DiskM.clearL_skip Hskip.out)⟩
        case measure => simp [intOf]; omega
      · have hd : decide (((⟨x.toArray⟩ : ByteArray).size : Int) < (s.size : Int)) = false := by rw [hxs]; simp; omega
        have hd2 : decide ((⟨x.toArray⟩ : ByteArray).size < s.size) = false := by rw [hxs]; simp; omega
        have hcut := cut_prefix x s
        cases hp : (nm s).isPrefixOf x with
        | false =>
          rw [hp] at hcut
          have Hskip := Lib.hid (show skipN (nm s) stay x = true by unfold skipN; rw [hp]; rfl)
          clear hp
          go_wp2_with fail
          go_roundw
          case rel => exact ⟨k + 1, Dk, by omega, by go_num, Hr.out, Hsame.out, Hcl.out.trans (DiskM.clearL_skip Hskip.out)⟩
          case measure => simp [intOf]; omega
        | true =>
          rw [hp] at hcut
          have Hp := Lib.hid hp
          clear hp
          obtain ⟨wo, rfl⟩ : ∃ wo : World, wo = wr := ⟨_, rfl⟩
          go_wp2_with fail
          go_loopw [9, 10] (fun b i wi => ∃ (j q : Nat), j ≤ n ∧ i = .int .i64 j ∧ b = .bool ((stay.take j).contains x) ∧ wi = wo.drewN q) (fun _ i _ => n - (intOf i).toNat)
          case atStart => exact ⟨0, 0, Nat.zero_le _, rfl, rfl, rfl⟩
          case round =>
            obtain ⟨j, q, hj, rfl, rfl, rfl⟩ := hrel
            by_cases hjn : j < n
            · have hjl : j < stay.length := by rw [Hnn.out]; exact hjn
              have hy := List.getElem?_eq_getElem hjl
              rcases Hstay.out.at with h0 | ⟨b2, o2, c2, e2, hc2⟩
              · rw [h0] at hjl
                simp at hjl
              rw [Hnn.out] at e2
              cases e2
              have hcy := hc2 j _ hy
              rw [enc_str] at hcy
              have hsn := contains_snoc hy x
              generalize stay[j] = y at *
              have Hsn := Lib.hid hsn
              clear hsn hc2 hjl hy
              cases hb0 : (stay.take j).contains x with
              | true =>
                have Hb0 := Lib.hid hb0
                clear hb0
                go_wp2_with fail
                go_quiet (fail)
                go_wp2
                go_roundw
                case rel => exact ⟨j + 1, q + nq, by omega, by go_num, by rw [Hsn.out, Hb0.out]; rfl, by first | rfl | rw [World.drewN_drewN]⟩
                case measure => simp [intOf]; omega
              | false =>
                have Hb0 := Lib.hid hb0
                clear hb0
                go_wp2_with fail
                go_quiet (fail)
                go_wp2
                go_roundw
                case rel => exact ⟨j + 1, q + nq, by omega, by go_num, by rw [Hsn.out, Hb0.out]; rfl, by first | rfl | rw [World.drewN_drewN]⟩
                case measure => simp [intOf]; omega
            · have hsj : stay.take j = stay := List.take_of_length_le (by rw [Hnn.out]; omega)
              rw [hsj]
              have hdq : Below wo.heap.size wo (wo.drewN q) := ⟨rfl, rfl, rfl, Nat.le_refl _, fun _ _ => rfl⟩
              have Hrq := Lib.hid (Hr.out.next hdq)
              have Hsq := Lib.hid (Hsame.out.trans (Hr.out.same hdq))
              clear hsj hdq
              cases hcn : stay.contains x with
              | true =>
                have Hskip := Lib.hid (show skipN (nm s) stay x = true by unfold skipN; rw [hcn]; simp)
                clear hcn
                go_wp2_with fail
                go_roundw
                case rel => exact ⟨k + 1, Dk, by omega, by go_num, Hrq.out, Hsq.out, Hcl.out.trans (DiskM.clearL_skip Hskip.out)⟩
                case measure => simp [intOf]; omega
              | false =>
                have Hskip := Lib.hid (show skipN (nm s) stay x = false by unfold skipN; rw [Hp.out, hcn]; rfl)
                have Hrm := Lib.hid (rst_step Hrq.out (Re := Dk.remove [x]) fun own v L hR hn => by
                  have := rrem_calls hR ⟨x.toArray⟩ (by rw [hxs]; omega)
                  rwa [nm_str] at this)
                clear hcn
                cases hz : DiskM.remove Dk [x] with
                | mk D1 e1 =>
                  rw [hz] at Hrm
                  by_cases he : e1 = 0
                  · subst he
                    have Hend := Lib.hid (DiskM.clearL_go (r := ns.drop (k + 1)) Hskip.out hz)
                    clear hz
                    go_wp2_with fail
                    refine Hrm.out.mono ?_
                    rintro e w3 ⟨rfl, hst3, hs3⟩
                    have Hst3 := Lib.hid (show RSt w w3 r own D1 _ from hst3)
                    have Hs3 := Lib.hid (Hsq.out.trans hs3)
                    clear hst3 hs3
                    go_wp2_with fail
                    go_roundw
                    case rel => exact ⟨k + 1, D1, by omega, by go_num, Hst3.out, Hs3.out, Hcl.out.trans Hend.out⟩
                    case measure => simp [intOf]; omega
                  · have hne : ((e1 : Int) != 0) = true := by simp; omega
                    have Hend := Lib.hid (DiskM.clearL_err (r := ns.drop (k + 1)) Hskip.out hz he)
                    clear hz he
                    go_wp2_with fail
                    refine Hrm.out.mono ?_
                    rintro e w3 ⟨rfl, hst3, -⟩
                    have Hf := Lib.hid (show RStep w r own (DiskM.clearL (nm s) stay D ns) (.returned (.int .i64 (e1 : Int))) w3 from by
                      rw [Hcl.out, Hend.out]
                      exact hst3.stop _)
                    clear hst3
                    go_wp2_with fail
                    go_ret
                    exact Hf.out
    · have Hf := Lib.hid (show RStep w r own (DiskM.clearL (nm s) stay D ns) (.returned (.int .i64 0)) wr from by
        rw [hcl, List.drop_of_length_le (by rw [HN.out]; omega)]
        exact hr.stop 0)
      clear hr hsame hcl
      go_wp2_with fail
      go_ret
      exact Hf.out
end
end Go.Proofs.Ytdlbamhabenhgaa

namespace Go.Proofs.Ytdlbamhabenhgaa
open Go.RowKit Go.Sat Go.Maps

def PairF (w w1 : World) (d : Nat) (D : DiskM) (r : Nat) (R : DiskM) (F : Nat → Prop) : Prop :=
  ∃ own v L, St w w1 d D (fun k => own k ∨ F k) ∧ RefIn w1 r v L own R ∧ (∀ k, own k → w.heap.size ≤ k ∧ ¬ F k) ∧ ∀ k, F k → k < w1.heap.size

section
variable {w w1 w2 : World} {d : Nat} {D : DiskM} {r : Nat} {R : DiskM} {F F' : Nat → Prop}

theorem PairF.bel (h : PairF w w1 d D r R F) : Below w.heap.size w w1 := let ⟨_, _, _, hS, _⟩ := h; hS.below
theorem PairF.okD (h : PairF w w1 d D r R F) : D.OK := let ⟨_, _, _, hS, _⟩ := h; hS.ok
theorem PairF.flt (h : PairF w w1 d D r R F) {k : Nat} (hk : F k) : k < w1.heap.size := let ⟨_, _, _, _, _, _, hF⟩ := h; hF k hk
theorem PairF.pair (h : PairF w w1 d D r R F) : Pair w w1 d D r R := by
  obtain ⟨own, v, L, hS, hR, hn, -⟩ := h
  exact ⟨own, v, L, hS.less fun _ hk => .inl hk, hR, fun k hk => (hn k hk).1⟩
theorem Pair.apart (h : Pair w w1 d D r R) : PairF w w1 d D r R NoF := by
  obtain ⟨own, v, L, hS, hR, hn⟩ := h
  exact ⟨own, v, L, hS.less fun _ hk => hk.elim id fun h => h.elim, hR, fun k hk => ⟨hn k hk, fun h => h⟩, fun _ h => h.elim⟩

/-- Something else has turned: blocks of F that are new since w; what is new may be in F' too. -/
theorem PairF.move {S : Nat → Prop} (h : PairF w w1 d D r R F) (hc : Chg S w1 w2) (hS : ∀ k, k < w1.heap.size → S k → F k ∧ w.heap.size ≤ k) (hF : ∀ k, F' k → (F k ∨ w1.heap.size ≤ k) ∧ k < w2.heap.size) : PairF w w2 d D r R F' := by
  obtain ⟨own, v, L, hSt, hR, hn, hl⟩ := h
  refine ⟨own, v, L, hSt.move hc (fun k hk hs => ⟨.inr (hS k hk hs).1, (hS k hk hs).2⟩) (fun k hk => ?_), hR.keep hc.size fun k hk => hc.block k (hR.olt k hk) fun hs => (hn k hk).2 (hS k (hR.olt k hk) hs).1, fun k hk => ⟨(hn k hk).1, fun hf => ?_⟩, fun k hk => (hF k hk).2⟩
  · rcases hk with hk | hk
    · exact ⟨.inl (.inl hk), Nat.lt_of_lt_of_le (hR.olt k hk) hc.size⟩
    · exact ⟨(hF k hk).1.imp .inr id, (hF k hk).2⟩
  · rcases (hF k hf).1 with h | h
    · exact (hn k hk).2 h
    · have := hR.olt k hk
      omega

theorem PairF.next (h : PairF w w1 d D r R F) (hb : Below w1.heap.size w1 w2) : PairF w w2 d D r R F :=
  h.move (Chg.of_below hb) (fun _ _ h => h.elim) fun _ hk => ⟨.inl hk, Nat.lt_of_lt_of_le (h.flt hk) hb.size⟩
theorem PairF.same (h : PairF w w1 d D r R F) (hb : Below w1.heap.size w1 w2) : Same F w1 w2 := fun _ hk => hb.block _ (h.flt hk)
theorem PairF.less (h : PairF w w1 d D r R F) (hF : ∀ k, F' k → F k) : PairF w w1 d D r R F' :=
  h.move (Chg.refl _ _ : Chg (fun _ => False) w1 w1) (fun _ _ h => h.elim) fun _ hk => ⟨.inl (hF _ hk), h.flt (hF _ hk)⟩

/-- A new block is set apart. -/
theorem PairF.box (h : PairF w w1 d D r R F) (o : Obj) : PairF w (w1.alloc o) d D r R (fun k => F k ∨ k = w1.heap.size) :=
  h.move (Chg.of_below ((Below.refl _ _).alloc (Nat.le_refl _) o)) (fun _ _ h => h.elim) fun k hk => by
    rcases hk with hk | hk
    · have := h.flt hk
      exact ⟨.inl hk, by simp; omega⟩
    · exact ⟨.inr (by omega), by simp; omega⟩

/-- A thing done with the program's disk. -/
theorem pairf_disk {P : Program} {f : FuncId} {args : Array Value} {Re : DiskM × Nat} {wc : World} (h : PairF w w1 d D r R F) (hb : Below w1.heap.size w1 wc) (hx : ∀ G, St w w1 d D G → Calls P f args wc (Told w d G wc Re)) :
    Calls P f args wc fun e w' => e = .returned (.int .i64 (Re.2 : Int)) ∧ PairF w w' d Re.1 r R F ∧ Same F w1 w' := by
  obtain ⟨own, v, L, hS, hR, hn, hl⟩ := h
  refine (hx _ hS).mono ?_
  rintro e w' ⟨rfl, hS', hs⟩
  refine ⟨rfl, ⟨own, v, L, hS', ?_, hn, fun k hk => hS'.flt (.inr hk)⟩, fun k hk => (hs k (.inr hk)).trans (hb.block k (hl k hk))⟩
  exact RefIn.same (hR.below hb) (hS'.less fun _ hk => .inl hk) fun k hk => hs k (.inl hk)

theorem pairf_disk0 {P : Program} {f : FuncId} {args : Array Value} {D' : DiskM} {wc : World} (h : PairF w w1 d D r R F) (hb : Below w1.heap.size w1 wc) (hx : ∀ G, St w w1 d D G → Calls P f args wc (Told0 w d G wc D')) :
    Calls P f args wc fun e w' => e = .returned (.tuple #[]) ∧ PairF w w' d D' r R F ∧ Same F w1 w' := by
  obtain ⟨own, v, L, hS, hR, hn, hl⟩ := h
  refine (hx _ hS).mono ?_
  rintro e w' ⟨rfl, hS', hs⟩
  refine ⟨rfl, ⟨own, v, L, hS', ?_, hn, fun k hk => hS'.flt (.inr hk)⟩, fun k hk => (hs k (.inr hk)).trans (hb.block k (hl k hk))⟩
  exact RefIn.same (hR.below hb) (hS'.less fun _ hk => .inl hk) fun k hk => hs k (.inl hk)

theorem PairF.moved {w' : World} {own own' : Nat → Prop} {v' : Value} {L' : List RFile} {R' : DiskM} (hS : St w w1 d D (fun k => own k ∨ F k)) (hn : ∀ k, own k → w.heap.size ≤ k ∧ ¬ F k) (hl : ∀ k, F k → k < w1.heap.size) (hR' : RefIn w' r v' L' own' R') (hc : Chg own w1 w') (hx : ∀ k, own' k → own k ∨ w1.heap.size ≤ k) : PairF w w' d D r R' F ∧ Same F w1 w' := by
  refine ⟨⟨own', v', L', hS.move hc (fun k _ hk => ⟨.inl hk, (hn k hk).1⟩) (fun k hk => ?_), hR', fun k hk => ?_, fun k hk => Nat.lt_of_lt_of_le (hl k hk) hc.size⟩, fun k hk => hc.block k (hl k hk) fun ho => (hn k ho).2 hk⟩
  · rcases hk with hk | hk
    · exact ⟨(hx k hk).imp .inl id, hR'.olt k hk⟩
    · exact ⟨.inl (.inr hk), Nat.lt_of_lt_of_le (hl k hk) hc.size⟩
  · rcases hx k hk with h | h
    · exact hn k h
    · exact ⟨Nat.le_trans hS.below.size h, fun hf => by have := hl k hf; omega⟩

/-- A thing done with the document's disk. -/
theorem pairf_ref {P : Program} {f : FuncId} {args : Array Value} {Re : DiskM × Nat} (h : PairF w w1 d D r R F) (hx : ∀ own v L, RefIn w1 r v L own R → (∀ k, own k → w.heap.size ≤ k ∧ ¬ F k) → Calls P f args w1 (RStep w1 r own Re)) :
    Calls P f args w1 fun e w' => e = .returned (.int .i64 (Re.2 : Int)) ∧ PairF w w' d D r Re.1 F ∧ Same F w1 w' := by
  obtain ⟨own, v, L, hS, hR, hn, hl⟩ := h
  refine (hx own v L hR hn).mono ?_
  rintro e w' ⟨rfl, own', ⟨v', L', hR'⟩, hc, hext⟩
  exact ⟨rfl, PairF.moved hS hn hl hR' hc hext⟩

theorem pairf_rfuse (h : PairF w w1 d D r R F) (n : Int) (hn0 : -9223372036854775808 ≤ n) (hn : n ≤ 9223372036854775807) :
    Calls Try.prog 45 #[.pointer (some ⟨r, 0, none⟩), .int .i64 n] w1 fun e w' => e = .returned (.tuple #[]) ∧ PairF w w' d D r (R.setFuse n) F ∧ Same F w1 w' := by
  obtain ⟨own, v, L, hS, hR, hb, hl⟩ := h
  refine (rfuse_calls hR n hn hn0).mono ?_
  rintro e w' ⟨rfl, hR', hc⟩
  exact ⟨rfl, PairF.moved hS hb hl hR' hc fun _ h => .inl h⟩

theorem pairf_rcrash (h : PairF w w1 d D r R F) (n : Int) (hn0 : -9223372036854775808 ≤ n) (hn : n ≤ 9223372036854775807) :
    Calls Try.prog 44 #[.pointer (some ⟨r, 0, none⟩), .int .i64 n] w1 fun e w' => e = .returned (.tuple #[]) ∧ PairF w w' d D r (R.crash n) F ∧ Same F w1 w' := by
  obtain ⟨own, v, L, hS, hR, hb, hl⟩ := h
  refine (rcrash_calls hR n hn0 hn).mono ?_
  rintro e w' ⟨rfl, own', v', L', hR', hc, hx⟩
  exact ⟨rfl, PairF.moved hS hb hl hR' hc hx⟩
end
end Go.Proofs.Ytdlbamhabenhgaa

namespace Go.Proofs.Ytdlbamhabenhgaa
open Go.RowKit Go.Sat Go.ChangeShapes Go.WideShapes Go.ChangeAt Go.Deep

section
variable {H : Type} {enc : TypeId × Value → H} {P : Program} {W : World}

theorem bulk_pos (d : DataW H) : 1 ≤ Rows.uptoBulk d := by
  cases d with
  | lit l => cases l <;> simp [Rows.uptoBulk]
  | _ => simp [Rows.uptoBulk]
theorem bulk_mem {d : DataW H} : ∀ {l : List (DataW H)}, d ∈ l → Rows.uptoBulk d ≤ Rows.uptoBulkAll l
  | [], h => by simp at h
  | x :: r, h => by
    simp only [Rows.uptoBulkAll]
    rcases List.mem_cons.1 h with rfl | h
    · omega
    · have := bulk_mem h
      omega
theorem bulk_len : ∀ l : List (DataW H), l.length ≤ Rows.uptoBulkAll l
  | [] => Nat.zero_le _
  | x :: r => by
    have h1 := bulk_len r
    have h2 := bulk_pos x
    simp only [Rows.uptoBulkAll, List.length_cons]
    omega
theorem bulk_slice (l r : List (DataW H)) : Rows.uptoBulkAll l ≤ Rows.uptoBulk (.slice l r) := by simp only [Rows.uptoBulk]; omega
theorem bulk_agg (l : List (DataW H)) : Rows.uptoBulkAll l ≤ Rows.uptoBulk (.agg l) := by simp only [Rows.uptoBulk]; omega

theorem slice_bulk {t e : TypeId} {fuel : Nat} {a : Option Addr} {len cap : Nat} {d : DataW H} {ps : List MemPlace} (ht : P.underlying t = some (.slice e)) (hf : DataW.trod enc P W 0 (fun _ => true) true fuel t [.slice a len cap] = some (d, ps)) : len ≤ Rows.uptoBulk d := by
  rcases open_slice ht hf with ⟨hcs, -⟩ | ⟨x, l, c, m, n, D, Pl, hcs, -, hl, hm, hmm, hd, hi⟩
  · simp only [List.cons.injEq, Value.slice.injEq, and_true] at hcs
    omega
  · simp only [List.cons.injEq, Value.slice.injEq, and_true] at hcs
    obtain ⟨rfl, rfl, rfl⟩ := hcs
    obtain ⟨rfl, -⟩ := Prod.mk.inj hd
    have h1 := bulk_len ((List.range len).map D)
    have h2 := bulk_slice ((List.range len).map D) ((List.range (m - len)).map fun j => D (len + j))
    rw [List.length_map, List.length_range] at h1
    omega

/-- What field j of element i of a slice of records is; B bounds its weights, K its bulk. -/
def FieldAt (enc : TypeId × Value → H) (P : Program) (W : World) (B K : Nat) (a : Addr) (t : TypeId) : Prop :=
  ∃ (v : Value) (fuel : Nat) (d : DataW H) (ps : List MemPlace), W.cell? a = some v ∧ DataW.trod enc P W 0 (fun _ => true) true fuel t [v] = some (d, ps) ∧ (∀ m ∈ d.weights P t, m ≤ B) ∧ Rows.uptoBulk d ≤ K

theorem open_recs {t e : TypeId} {fs : Array Field} {fuel : Nat} {a : Option Addr} {len cap B : Nat} {d : DataW H} {ps : List MemPlace} (ht : P.underlying t = some (.slice e)) (he : P.underlying e = some (.struct fs))
    (hone : oneCellFields P fs = true) (hC : P.cellsOf e = fs.size) (hf : DataW.trod enc P W 0 (fun _ => true) true fuel t [.slice a len cap] = some (d, ps)) (hw : ∀ n ∈ d.weights P t, n ≤ B) :
    (a = none ∧ len = 0) ∨ ∃ x, a = some x ∧ len * P.bytesOf e ≤ B ∧ ∀ i, i < len → ∀ j f, fs[j]? = some f → FieldAt enc P W B (Rows.uptoBulk d) (x.add (i * fs.size + j)) f.type := by
  rcases open_slice ht hf with ⟨hcs, -⟩ | ⟨x, l, c, m, n, D, Pl, hcs, -, hl, hm, hmm, hd, hi⟩
  · simp only [List.cons.injEq, Value.slice.injEq, and_true] at hcs
    exact .inl ⟨hcs.1, hcs.2.1⟩
  · simp only [List.cons.injEq, Value.slice.injEq, and_true] at hcs
    obtain ⟨rfl, rfl, rfl⟩ := hcs
    obtain ⟨rfl, -⟩ := Prod.mk.inj hd
    have hlm : len ≤ m := by rw [hmm]; split <;> omega
    have hb := weights_head ht hw
    simp only [List.length_map, List.length_range] at hb
    refine .inr ⟨x, rfl, Nat.le_trans (Nat.mul_le_mul_right _ (Nat.le_add_right _ _)) hb, fun i hil j f hj => ?_⟩
    obtain ⟨cs', hc, ht'⟩ := hi i (by omega)
    rw [hC] at hc
    obtain ⟨_, hcl, hat⟩ := World.cells?_some hc
    obtain ⟨ys, n', -, hy, -, hyl, hfld⟩ := DataW.trod_struct he ht'
    obtain ⟨hD, -⟩ := Prod.mk.inj hy
    have hjl : j < fs.size := (Array.getElem?_eq_some_iff.1 hj).1
    obtain ⟨ho, hk⟩ := hone_of hone j f hj
    have h1 := hfld j f hj
    rw [ho, hk, List.drop_eq_getElem_cons (show j < cs'.length by omega), List.take_succ_cons, List.take_zero, List.getElem?_eq_getElem (show j < ys.length by omega)] at h1
    have hcell := hat j hjl
    rw [Go.Deep.add_add, List.getElem?_eq_getElem (show j < cs'.length by omega)] at hcell
    have hin : D i ∈ (List.range len).map D := List.mem_map.2 ⟨i, List.mem_range.2 hil, rfl⟩
    have hyj : (ys.map (·.1))[j]? = some (ys[j]'(by omega)).1 := by
      rw [List.getElem?_map, List.getElem?_eq_getElem (show j < ys.length by omega)]
      rfl
    refine ⟨_, n', (ys[j]'(by omega)).1, (ys[j]'(by omega)).2, hcell, h1, fun k hk => ?_, ?_⟩
    rotate_left
    · have k1 := bulk_mem (List.mem_of_getElem? hyj)
      have k2 := bulk_agg (ys.map (·.1))
      have k3 := bulk_mem hin
      have k4 := bulk_slice ((List.range len).map D) ((List.range (m - len)).map fun j => D (len + j))
      rw [hD] at k3
      omega
    refine weights_elem ht hw hin k ?_
    rw [hD]
    simp only [DataW.weights, he]
    refine DataW.weights_mem_each (j := j) (t := f.type) (d := (ys[j]'(by omega)).1) ?_ hyj k hk
    rw [List.getElem?_map, Array.getElem?_toList, hj]
    rfl

theorem field_int {a : Addr} {t : TypeId} {k : IntKind} {B K : Nat} (ht : P.underlying t = some (.int k)) (h : FieldAt enc P W B K a t) : ∃ n, W.cell? a = some (.int k n) ∧ (Lit.int k n).wf = true := by
  obtain ⟨v, fuel, d, ps, hc, htr, -⟩ := h
  obtain ⟨n, e, -, hwf⟩ := DataW.trod_int ht htr
  cases e
  exact ⟨n, hc, hwf⟩

theorem field_string {a : Addr} {t : TypeId} {B K : Nat} (ht : P.underlying t = some .string) (h : FieldAt enc P W B K a t) : ∃ s : ByteArray, W.cell? a = some (.string s) ∧ s.size ≤ B ∧ s.size ≤ K := by
  obtain ⟨v, fuel, d, ps, hc, htr, hw, hk⟩ := h
  obtain ⟨s, e, hd, -⟩ := DataW.trod_string ht htr
  cases e
  obtain ⟨rfl, -⟩ := Prod.mk.inj hd
  have h1 := hw s.data.toList.length (by simp [DataW.weights])
  rw [Array.length_toList] at h1
  simp only [Rows.uptoBulk, Array.length_toList] at hk
  exact ⟨s, hc, h1, Nat.le_of_succ_le hk⟩

theorem field_bool {a : Addr} {t : TypeId} {B K : Nat} (ht : P.underlying t = some .bool) (h : FieldAt enc P W B K a t) : ∃ b, W.cell? a = some (.bool b) := by
  obtain ⟨v, fuel, d, ps, hc, htr, -⟩ := h
  obtain ⟨b, e, -⟩ := DataW.trod_bool ht htr
  cases e
  exact ⟨b, hc⟩
end

section
variable {H : Type} {enc : TypeId × Value → H} {W : World}

theorem trod_slice_one {P : Program} {t e : TypeId} {fuel : Nat} {v : Value} {x : DataW H × List MemPlace} (ht : P.underlying t = some (.slice e)) (h : DataW.trod enc P W 0 (fun _ => true) true fuel t [v] = some x) : ∃ a len cap, v = .slice a len cap := by
  rcases open_slice ht h with ⟨hcs, -⟩ | ⟨a, len, cap, _, _, _, _, hcs, -⟩ <;> (simp only [List.cons.injEq, and_true] at hcs; exact ⟨_, _, _, hcs⟩)

theorem field_bytes {a : Addr} {K : Nat} (h : FieldAt enc Try.prog W reachBytes K a 23) : ∃ p n c l, W.cell? a = some (.slice p n c) ∧ HasB W (.slice p n c) l ∧ l.length ≤ 140737488355328 ∧ l.length ≤ K := by
  obtain ⟨v, fuel, d, ps, hc, htr, hw, hk⟩ := h
  obtain ⟨p, n, c, rfl⟩ := trod_slice_one Try.underlying23 htr
  obtain ⟨l, hl, hn⟩ := bytes_arg htr hw
  have h1 := slice_bulk Try.underlying23 htr
  obtain ⟨p', c', e⟩ := hl.slice
  cases e
  exact ⟨p, _, c, l, hc, hl, hn, Nat.le_trans h1 hk⟩

/-- A []string. -/
theorem texts_arg {fuel : Nat} {d : DataW H} {ps : List MemPlace} {a : Option Addr} {len cap : Nat} (hf : DataW.trod enc Try.prog W 0 (fun _ => true) true fuel 40 [.slice a len cap] = some (d, ps)) (hw : ∀ n ∈ d.weights Try.prog 40, n ≤ reachBytes) :
    ∃ l, HasN W (.slice a len cap) l ∧ (l.length ≤ 8796093022208 ∧ l.length ≤ Rows.uptoBulk d) ∧ ∀ x ∈ l, x.length ≤ 140737488355328 ∧ x.length ≤ Rows.uptoBulk d := by
  have hbk := slice_bulk Try.underlying40 hf
  rcases open_strs Try.underlying40 Try.underlying9 (by kernel_rfl) hf with ⟨hcs, -⟩ | ⟨x, l, c, m, Sx, hcs, -, hl, hm, hmm, hd, hcell⟩
  · simp only [List.cons.injEq, Value.slice.injEq, and_true] at hcs
    obtain ⟨rfl, rfl, rfl⟩ := hcs
    exact ⟨[], ⟨by simp, none, 0, rfl, fun _ => rfl, fun a ha => by cases ha⟩, by simp, by simp⟩
  · simp only [List.cons.injEq, Value.slice.injEq, and_true] at hcs
    obtain ⟨rfl, rfl, rfl⟩ := hcs
    obtain ⟨rfl, -⟩ := Prod.mk.inj hd
    have hlm : len ≤ m := by rw [hmm]; split <;> omega
    have hb := weights_head Try.underlying40 hw
    rw [show Try.prog.bytesOf 9 = 16 by kernel_rfl] at hb
    simp only [List.length_map, List.length_range] at hb
    unfold reachBytes at hb
    have hS : ∀ i, i < len → (Sx i).size ≤ 140737488355328 ∧ (Sx i).size ≤ Rows.uptoBulk (.slice ((List.range len).map fun i => DataW.lit (H := H) (.string (Sx i).data.toList)) ((List.range (m - len)).map fun j => .lit (.string (Sx (len + j)).data.toList))) := fun i hi => by
      have hin : DataW.lit (H := H) (.string (Sx i).data.toList) ∈ (List.range len).map fun i => DataW.lit (H := H) (.string (Sx i).data.toList) := List.mem_map.2 ⟨i, List.mem_range.2 hi, rfl⟩
      have h1 := weights_elem Try.underlying40 hw hin (Sx i).data.toList.length (by simp [DataW.weights])
      have h2 := bulk_mem hin
      have h3 := bulk_slice ((List.range len).map fun i => DataW.lit (H := H) (.string (Sx i).data.toList)) ((List.range (m - len)).map fun j => .lit (.string (Sx (len + j)).data.toList))
      simp only [Rows.uptoBulk, Array.length_toList] at h2
      rw [Array.length_toList] at h1
      exact ⟨Nat.le_trans h1 (by unfold reachBytes; decide), Nat.le_trans (Nat.le_of_succ_le h2) h3⟩
    refine ⟨(List.range len).map fun i => nm (Sx i), ⟨by simp, some x, cap, by simp, fun e => (by cases e), fun a ha i u hu => ?_⟩, ⟨by rw [List.length_map, List.length_range]; omega, by rw [List.length_map, List.length_range]; exact hbk⟩, fun y hy => ?_⟩
    · cases ha
      rw [List.map_map] at hu
      rw [List.getElem?_map, Option.map_eq_some_iff] at hu
      obtain ⟨j, hj, rfl⟩ := hu
      have hil : i < len := by
        have := (List.getElem?_eq_some_iff.1 hj).1
        simpa using this
      have hji : j = i := by
        obtain ⟨_, e⟩ := List.getElem?_eq_some_iff.1 hj
        simpa using e.symm
      subst hji
      rw [(hcell j (by omega)).1]
      simp [encStr, nm]
    · obtain ⟨i, hi, rfl⟩ := List.mem_map.1 hy
      rw [nm_len]
      exact hS i (List.mem_range.1 hi)

theorem field_texts {a : Addr} {K : Nat} (h : FieldAt enc Try.prog W reachBytes K a 40) : ∃ p n c l, W.cell? a = some (.slice p n c) ∧ HasN W (.slice p n c) l ∧ (l.length ≤ 8796093022208 ∧ l.length ≤ K) ∧ ∀ x ∈ l, x.length ≤ 140737488355328 ∧ x.length ≤ K := by
  obtain ⟨v, fuel, d, ps, hc, htr, hw, hk⟩ := h
  obtain ⟨p, n, c, rfl⟩ := trod_slice_one Try.underlying40 htr
  obtain ⟨l, hl, hn, hx⟩ := texts_arg htr hw
  exact ⟨p, n, c, l, hc, hl, ⟨hn.1, Nat.le_trans hn.2 hk⟩, fun x h => ⟨(hx x h).1, Nat.le_trans (hx x h).2 hk⟩⟩
end
end Go.Proofs.Ytdlbamhabenhgaa

namespace Go.Proofs.Ytdlbamhabenhgaa
open Go.RowKit Go.Sat Go.ChangeShapes Go.WideShapes Go.ChangeAt Go.Deep

structure Step4 where
  kind : Int
  n : Int
  name : ByteArray
  pa : Option Addr
  na : Nat
  ca : Nat
  pb : Option Addr
  nb : Nat
  cb : Nat
  ps : Option Addr
  ns : Nat
  cs : Nat
  a : Bs
  b : Bs
  stay : List Bs

structure Step4At (K : Nat) (w : World) (g j : Nat) (s : Step4) : Prop where
  ck : w.cell? ⟨g, j, none⟩ = some (.int .i64 s.kind)
  cn : w.cell? ⟨g, j + 1, none⟩ = some (.int .i64 s.n)
  cm : w.cell? ⟨g, j + 2, none⟩ = some (.string s.name)
  c3 : w.cell? ⟨g, j + 3, none⟩ = some (.slice s.pa s.na s.ca)
  c4 : w.cell? ⟨g, j + 4, none⟩ = some (.slice s.pb s.nb s.cb)
  c5 : w.cell? ⟨g, j + 5, none⟩ = some (.slice s.ps s.ns s.cs)
  ha : HasB w (.slice s.pa s.na s.ca) s.a
  hb : HasB w (.slice s.pb s.nb s.cb) s.b
  hs : HasN w (.slice s.ps s.ns s.cs) s.stay
  ok : (-9223372036854775808 ≤ s.kind ∧ s.kind ≤ 9223372036854775807) ∧ (-9223372036854775808 ≤ s.n ∧ s.n ≤ 9223372036854775807) ∧ s.name.size ≤ K ∧ s.a.length ≤ K ∧ s.b.length ≤ K ∧ s.stay.length ≤ K ∧ ∀ x ∈ s.stay, x.length ≤ K

def Steps4 (K : Nat) (w : World) (p : Option Addr) (n : Nat) (l : List Step4) : Prop := l.length = n ∧ (l = [] ∨ ∃ g o, p = some ⟨g, o, none⟩ ∧ ∀ i s, l[i]? = some s → Step4At K w g (o + i * 6) s)

section
variable {H : Type} {enc : TypeId × Value → H} {W : World}

theorem step4_field {g o i j K : Nat} {t : TypeId} (h : FieldAt enc Try.prog W reachBytes K ((⟨g, o, none⟩ : Addr).add (i * 6 + j)) t) : FieldAt enc Try.prog W reachBytes K ⟨g, o + i * 6 + j, none⟩ t := by
  have e : (⟨g, o, none⟩ : Addr).add (i * 6 + j) = ⟨g, o + i * 6 + j, none⟩ := by unfold Addr.add; split <;> simp_all <;> omega
  rwa [e] at h

theorem steps4_arg {fuel : Nat} {d : DataW H} {ps : List MemPlace} {a : Option Addr} {len cap : Nat} (hf : DataW.trod enc Try.prog W 0 (fun _ => true) true fuel 63 [.slice a len cap] = some (d, ps)) (hw : ∀ n ∈ d.weights Try.prog 63, n ≤ reachBytes) :
    ∃ l, Steps4 (Rows.uptoBulk d) W a len l ∧ len ≤ 140737488355328 ∧ len ≤ Rows.uptoBulk d := by
  have hbk := slice_bulk Try.underlying63 hf
  rcases open_recs Try.underlying63 Try.underlying66 (by kernel_rfl) (by kernel_rfl) hf hw with ⟨rfl, rfl⟩ | ⟨x, rfl, hlen, hel⟩
  · exact ⟨[], ⟨rfl, .inl rfl⟩, by decide, hbk⟩
  · rw [show Try.prog.bytesOf 66 = 104 by kernel_rfl] at hlen
    have hlen' : len ≤ 140737488355328 := by unfold reachBytes at hlen; omega
    by_cases h0 : len = 0
    · subst h0
      exact ⟨[], ⟨rfl, .inl rfl⟩, hlen', hbk⟩
    obtain ⟨g, o, sp⟩ := x
    have hsp : sp = none := by
      obtain ⟨v, _, _, _, hc, -⟩ := hel 0 (by omega) 0 _ rfl
      have := World.cell?_spot hc
      simpa [Addr.add] using this
    subst hsp
    have hall : ∀ i, i < len → ∃ s : Step4, Step4At (Rows.uptoBulk d) W g (o + i * 6) s := fun i hi => by
      obtain ⟨k, ck, wk⟩ := field_int Try.underlying3 (step4_field (hel i hi 0 _ rfl))
      obtain ⟨n, cn, wn⟩ := field_int Try.underlying3 (step4_field (hel i hi 1 _ rfl))
      obtain ⟨m, cm, wm⟩ := field_string Try.underlying9 (step4_field (hel i hi 2 _ rfl))
      obtain ⟨pa, na, ca, la, c3, ha, wa⟩ := field_bytes (step4_field (hel i hi 3 _ rfl))
      obtain ⟨pb, nb, cb, lb, c4, hb, wb⟩ := field_bytes (step4_field (hel i hi 4 _ rfl))
      obtain ⟨p5, n5, c5, l5, c55, hs, ws, wx⟩ := field_texts (step4_field (hel i hi 5 _ rfl))
      have b1 := bounds_i64 wk
      have b2 := bounds_i64 wn
      exact ⟨⟨k, n, m, pa, na, ca, pb, nb, cb, p5, n5, c5, la, lb, l5⟩, ⟨ck, cn, cm, c3, c4, c55, ha, hb, hs, ⟨⟨b1.1, b1.2⟩, ⟨b2.1, b2.2⟩, wm.2, wa.2, wb.2, ws.2, fun x h => (wx x h).2⟩⟩⟩
    have inh : Inhabited Step4 := ⟨⟨0, 0, ⟨#[]⟩, none, 0, 0, none, 0, 0, none, 0, 0, [], [], []⟩⟩
    obtain ⟨f, hfn⟩ := choose_lt hall
    refine ⟨(List.range len).map f, ⟨by simp, .inr ⟨g, o, rfl, fun i s hs => ?_⟩⟩, hlen', hbk⟩
    rw [List.getElem?_map, Option.map_eq_some_iff] at hs
    obtain ⟨j, hj, rfl⟩ := hs
    obtain ⟨hj1, hj2⟩ := List.getElem?_eq_some_iff.1 hj
    have hji : j = i := by simpa using hj2.symm
    subst hji
    exact hfn j (by simpa using hj1)
end
end Go.Proofs.Ytdlbamhabenhgaa
