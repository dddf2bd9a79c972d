/- The document's Decode (satrapyref2): the walk. The document's One (satrapyref2). The document's keep (satrapyref4): has, Load. The document's disk through several steps: what is set apart (F) stays as it was. The document's Whole (satrapyref4): a file is made to hold just these bytes. The document's Save (satrapyref4). The document's Clear (satrapyref4). The program's disk and the document's, side by side, and blocks (F) that neither has. The contract of satrapylaw4.heavy, where what the script holds is small. KeepPlays: what the walk takes. -/
import Derived.Test.YtdlbamhabenhgaaUD
import Derived.Test.YtdlbamhabenhgaaUE
import Derived.Test.YtdlbamhabenhgaaUF
import Derived.Test.YtdlbamhabenhgaaUG
import Derived.Test.YtdlbamhabenhgaaUL
namespace Go.Proofs.Ytdlbamhabenhgaa
open Go.RowKit Go.Sat Go.Maps

theorem quiet_drew {P : Program} {f : FuncId} {args : Array Value} {w : World} {n : Nat} {v : Value} (h : Calls P f args (w.drewN n) fun e w' => e = .returned v ∧ ∃ q, w' = (w.drewN n).drewN q) : Calls P f args (w.drewN n) fun e w'' => e = .returned v ∧ ∃ m, w'' = w.drewN m :=
  h.mono fun _ _ ⟨he, q, hq⟩ => ⟨he, n + q, by rw [hq, World.drewN_drewN]⟩

/-- 'x[l:h]'. -/
theorem run_window {P : Program} (W : World) (t e : TypeId) (ht : P.underlying t = some (.slice e)) (hz : ∀ w, (Go.sizeOf e).run P w = .ok 1 w) (b o len cap l h : Nat) (hlh : l ≤ h) (hh : h ≤ cap) (hl : l < cap) :
    (Instr.slice t (.slice (some ⟨b, o, none⟩) len cap) (some (.int .i64 (l : Int))) (some (.int .i64 (h : Int))) none).run P W = .ok (.slice (some ⟨b, o + l, none⟩) (h - l) (cap - l)) W := by
  have ht' : P.underlying t = some (.slice (P.elem t)) := by simp [Program.elem, ht]
  have he : P.elem t = e := by simp [Program.elem, ht]
  rw [run_slice_lh W t _ _ _ ht' .i64 .i64 _ _ (by omega) (by omega) (by omega), he, hz]
  have hne : ¬ cap = l := by omega
  by_cases h0 : l = 0
  · subst h0
    simp [Result.andThen, sliced, Addr.add, hne]
  · simp [Result.andThen, sliced, Addr.add, hne, h0]

theorem below_drewN (w : World) (n : Nat) : Below w.heap.size w (w.drewN n) := ⟨rfl, rfl, rfl, Nat.le_refl _, fun _ _ => rfl⟩

theorem below_dn {w W : World} (h : Below w.heap.size w W) (n : Nat) : Below w.heap.size w (W.drewN n) := h.trans ⟨rfl, rfl, rfl, Nat.le_refl _, fun _ _ => rfl⟩

set_option maxRecDepth 100000 in
set_option maxHeartbeats 4000000 in
theorem rdec_calls {w : World} {p : Option Addr} {n c : Nat} {b : Bs} (h : HasB w (.slice p n c) b) (hnc : n ≤ c) (hl : b.length ≤ 140737488355328) :
    Calls Try.prog 91 #[.slice p n c] w (Decoded w b) := by
  have hn : n = b.length := (bytes_in h).1
  subst hn
  obtain ⟨i0, hi, hz0, hz1, hz2⟩ := info_parts (show (Try.prog.info? 5).map (fun i => (i.zero, i.size, i.bytes)) = some (some (.int .u8 0), 1, 1) by kernel_rfl)
  by_cases h8 : b.length < 8
  · have Hfin := Lib.hid (decoded_bad (w := w) (w' := w) (b := b) (k := 2) (by unfold decE; rw [if_pos h8]) (by decide) (Below.refl _ _))
    generalize hN : b.length = N at *
    clear hN h
    go_enter Try.func91, Try.ntmps91
    go_wp2_with fail
    go_ret3
    exact Hfin.out
  · have hpos : 0 < b.length := by omega
    rcases h.at with e | ⟨g, o, c2, e, -⟩
    · rw [e] at hpos
      simp at hpos
    cases e
    have H4 := Lib.hid (fun (W : World) (hb : Below w.heap.size w W) => rfour_at (HasB.from (h.below hb) (k := 4) (by omega) (c - 4)) (by rw [List.length_drop]; omega))
    have HS := Lib.hid (fun (W : World) (hb : Below w.heap.size w W) => rsum_calls (HasB.cut (h.below hb) (k := 4) (by omega) c) (by rw [List.length_take]; omega))
    have hs1 : ∀ W, (Instr.slice 23 (.slice (some ⟨g, o, none⟩) b.length c) (some (.int .i64 4)) none none).run Try.prog W = .ok (.slice (some ⟨g, o + 4, none⟩) (b.length - 4) (c - 4)) W := fun W => run_from W Try.underlying23 hi hz1 g o b.length c 4 (by omega) hnc (by omega)
    have hs2 : ∀ W, (Instr.slice 23 (.slice (some ⟨g, o, none⟩) b.length c) none (some (.int .i64 4)) none).run Try.prog W = .ok (.slice (some ⟨g, o, none⟩) 4 c) W := fun W => run_upto W Try.underlying23 hi _ _ c 4 (by omega)
    by_cases hh : fourAt (b.drop 4) = sumN (b.take 4)
    · have hhead := (head_iff (b := b) (by omega)).2 hh
      have heq : ((fourAt (b.drop 4) : Int) != sumF (b.take 4)) = false := by rw [sumF_nat]; simp; omega
      have HF := Lib.hid (fun (W : World) (hb : Below w.heap.size w W) => rfour_at (h.below hb) (by omega))
      by_cases hm : 1048576 < fourAt b
      · have Hfin := Lib.hid (fun W => decoded_bad (w := w) (w' := W) (b := b) (k := 5) (by unfold decE; rw [if_neg h8, if_neg (by simpa using hhead), if_pos hm]) (by decide))
        have hlt := fourAt_lt b
        generalize fourAt (b.drop 4) = x at *
        generalize sumF (b.take 4) = y at *
        generalize fourAt b = z at *
        generalize b.length = N at *
        clear h hh hhead
        go_enter Try.func91, Try.ntmps91
        go_wp2_with fail
        go_quiet ((first | (go_at_call 98; refine quiet_drew (H4.out _ (below_drewN _ _))) | (go_at_call 89; refine Calls.quiet_of_same (HS.out _ (below_drewN _ _)))))
        go_wp2_with fail
        refine (HF.out _ (below_drewN _ _)).mono ?_
        rintro e w2 ⟨rfl, q2, rfl⟩
        go_wp2_with fail
        go_ret3
        exact Hfin.out _ (below_drewN _ _)
      · by_cases hd : b.length < fourAt b + 12
        · have Hfin := Lib.hid (fun W => decoded_bad (w := w) (w' := W) (b := b) (k := 2) (by unfold decE; rw [if_neg h8, if_neg (by simpa using hhead), if_neg hm, if_pos hd]) (by decide))
          have hlt := fourAt_lt b
          generalize fourAt (b.drop 4) = x at *
          generalize sumF (b.take 4) = y at *
          generalize fourAt b = z at *
          generalize b.length = N at *
          clear h hh hhead
          go_enter Try.func91, Try.ntmps91
          go_wp2_with fail
          go_quiet ((first | (go_at_call 98; refine quiet_drew (H4.out _ (below_drewN _ _))) | (go_at_call 89; refine Calls.quiet_of_same (HS.out _ (below_drewN _ _)))))
          go_wp2_with fail
          refine (HF.out _ (below_drewN _ _)).mono ?_
          rintro e w2 ⟨rfl, q2, rfl⟩
          go_wp2_with fail
          go_ret3
          exact Hfin.out _ (below_drewN _ _)
        · have hlt := fourAt_lt b
          have H8 := Lib.hid (fun (W : World) (hb : Below w.heap.size w W) => rfour_at (HasB.from (h.below hb) (k := 8 + fourAt b) (by omega) (c - (8 + fourAt b))) (by rw [List.length_drop]; omega))
          have HS8 := Lib.hid (fun (W : World) (hb : Below w.heap.size w W) => rsum_calls (HasB.cut (h.below hb) (k := 8 + fourAt b) (by omega) c) (by rw [List.length_take]; omega))
          have HxW := Lib.hid (show ∀ W, Below w.heap.size w W → Holds W 1 (.slice (some ⟨g, o + 8, none⟩) (fourAt b) (c - 8)) (fourAt b) (bytesV ((b.drop 8).take (fourAt b))) from fun W hb => by
            have h2 := HasB.cut (HasB.from (h.below hb) (k := 8) (by omega) (c - 8)) (k := fourAt b) (by rw [List.length_drop]; omega) (c - 8)
            unfold HasB at h2
            rw [List.length_take, List.length_drop, Nat.min_eq_left (by omega)] at h2
            exact h2)
          have hs3 : ∀ W, (Instr.slice 23 (.slice (some ⟨g, o, none⟩) b.length c) (some (.int .i64 (8 + (fourAt b : Int)))) none none).run Try.prog W = .ok (.slice (some ⟨g, o + (8 + fourAt b), none⟩) (b.length - (8 + fourAt b)) (c - (8 + fourAt b))) W := fun W => by
            have := run_from (P := Try.prog) W Try.underlying23 hi hz1 g o b.length c (8 + fourAt b) (by omega) hnc (by omega)
            rwa [show ((8 + fourAt b : Nat) : Int) = 8 + (fourAt b : Int) by omega] at this
          have hs4 : ∀ W, (Instr.slice 23 (.slice (some ⟨g, o, none⟩) b.length c) none (some (.int .i64 (8 + (fourAt b : Int)))) none).run Try.prog W = .ok (.slice (some ⟨g, o, none⟩) (8 + fourAt b) c) W := fun W => by
            have := run_upto (P := Try.prog) W Try.underlying23 hi (some ⟨g, o, none⟩) b.length c (8 + fourAt b) (by omega)
            rwa [show ((8 + fourAt b : Nat) : Int) = 8 + (fourAt b : Int) by omega] at this
          have hs5 : ∀ W, (Instr.slice 23 (.slice (some ⟨g, o, none⟩) b.length c) (some (.int .i64 8)) (some (.int .i64 (8 + (fourAt b : Int)))) none).run Try.prog W = .ok (.slice (some ⟨g, o + 8, none⟩) (fourAt b) (c - 8)) W := fun W => by
            have := run_window (P := Try.prog) W 23 5 Try.underlying23 (fun w => by simp [sizeOf, typeInfo, hi, hz1]) g o b.length c 8 (8 + fourAt b) (by omega) (by omega) (by omega)
            rwa [show ((8 + fourAt b : Nat) : Int) = 8 + (fourAt b : Int) by omega, Nat.add_sub_cancel_left] at this
          have hwr : IntKind.i64.wrap (8 + (fourAt b : Int)) = 8 + (fourAt b : Int) := IntWalk.i64_in _ ⟨by omega, by omega⟩
          have hwr2 : IntKind.i64.wrap (12 + (fourAt b : Int)) = 12 + (fourAt b : Int) := IntWalk.i64_in _ ⟨by omega, by omega⟩
          by_cases hs : fourAt (b.drop (8 + fourAt b)) = sumN (b.take (8 + fourAt b))
          · have hE : decE b = 0 := by unfold decE; rw [if_neg h8, if_neg (by simpa using hhead), if_neg hm, if_neg hd, if_neg (by simpa using hs)]
            have Hfin := Lib.hid (show ∀ v W, OwnR W 5 1 v (fourAt b) (bytesV ((b.drop 8).take (fourAt b))) → (∀ k, v.ownBlock = some k → w.heap.size ≤ k) → Below w.heap.size w W → Decoded w b (.returned (.tuple #[v, .int .i64 (12 + (fourAt b : Int)), .int .i64 0])) W from fun v W ho hn hb =>
              ⟨v, by unfold decL; rw [hE, if_pos rfl, show ((fourAt b + 12 : Nat) : Int) = 12 + (fourAt b : Int) by omega]; rfl, by
                unfold decB
                rw [if_pos hE]
                unfold OwnB
                rw [List.length_take, List.length_drop, Nat.min_eq_left (by omega)]
                exact ho, hn, hb⟩)
            have heq2 : ((fourAt (b.drop (8 + fourAt b)) : Int) != sumF (b.take (8 + fourAt b))) = false := by rw [sumF_nat]; simp; omega
            generalize fourAt (b.drop (8 + fourAt b)) = x2 at *
            generalize sumF (b.take (8 + fourAt b)) = y2 at *
            generalize fourAt (b.drop 4) = x at *
            generalize sumF (b.take 4) = y at *
            generalize hz : fourAt b = z at *
            generalize b.length = N at *
            clear h hh hhead hs hE hz
            go_enter Try.func91, Try.ntmps91
            go_wp2_with fail
            go_quiet ((first | (go_at_call 98; refine quiet_drew (H4.out _ (below_drewN _ _))) | (go_at_call 89; refine Calls.quiet_of_same (HS.out _ (below_drewN _ _)))))
            go_wp2_with fail
            refine (HF.out _ (below_drewN _ _)).mono ?_
            rintro e w2 ⟨rfl, q2, hq2⟩
            have HbX := Lib.hid (show Below w.heap.size w w2 by rw [hq2]; exact below_dn (below_drewN _ _) _)
            clear hq2
            go_wp2_with fail
            go_quiet ((first | (go_at_call 98; refine quiet_drew (H8.out _ (below_dn HbX.out _))) | (go_at_call 89; refine Calls.quiet_of_same (HS8.out _ (below_dn HbX.out _)))))
            have HbY := Lib.hid (below_dn HbX.out nq)
            generalize w2.drewN nq = w5 at *
            have HbZ := Lib.hid (HbY.out.alloc HbY.out.size (.cells #[] 5))
            go_wp2_with (at_builtin; refine wpList_app (w5.alloc (.cells #[] 5)) rfl (.tmp 37) (.tmp 41) 23 rfl 5 i0 (.int .u8 0) 1 1 Try.underlying23 hi hz0 hz1 hz2 rfl (by decide) (.slice (some ⟨w5.heap.size, 0, none⟩) 0 0) 0 [] rfl (own_empty w5 _) (.slice (some ⟨g, o + 8, none⟩) z (c - 8)) z _ rfl (HxW.out _ HbZ.out) (bytesV_one _) (by unfold maxLen; omega) (by omega) ?_; intro v12 w12 hown12 hgrow12 hloc12; rw [Nat.zero_add, List.nil_append] at hown12; have hX := HbZ.out.grown hgrow12 HbZ.out.size (fun j e => by have := HbY.out.size; simp [Value.ownBlock] at e; omega); have hnew := own_ge (B := w.heap.size) hloc12 (fun k hk => by have := HbY.out.size; simp [Value.ownBlock] at hk; omega) HbZ.out.size; have X12 := Lib.hid (And.intro hX (And.intro hown12 hnew)); clear hown12 hgrow12 hloc12 hX hnew)
            go_ret3
            exact Hfin.out _ _ X12.out.2.1 X12.out.2.2 X12.out.1
          · have Hfin := Lib.hid (fun W => decoded_bad (w := w) (w' := W) (b := b) (k := 4) (by unfold decE; rw [if_neg h8, if_neg (by simpa using hhead), if_neg hm, if_neg hd, if_pos hs]) (by decide))
            have heq2 : ((fourAt (b.drop (8 + fourAt b)) : Int) != sumF (b.take (8 + fourAt b))) = true := by rw [sumF_nat]; simp; omega
            generalize fourAt (b.drop (8 + fourAt b)) = x2 at *
            generalize sumF (b.take (8 + fourAt b)) = y2 at *
            generalize fourAt (b.drop 4) = x at *
            generalize sumF (b.take 4) = y at *
            generalize fourAt b = z at *
            generalize b.length = N at *
            clear h hh hhead hs
            go_enter Try.func91, Try.ntmps91
            go_wp2_with fail
            go_quiet ((first | (go_at_call 98; refine quiet_drew (H4.out _ (below_drewN _ _))) | (go_at_call 89; refine Calls.quiet_of_same (HS.out _ (below_drewN _ _)))))
            go_wp2_with fail
            refine (HF.out _ (below_drewN _ _)).mono ?_
            rintro e w2 ⟨rfl, q2, hq2⟩
            have HbX := Lib.hid (show Below w.heap.size w w2 by rw [hq2]; exact below_dn (below_drewN _ _) _)
            clear hq2
            go_wp2_with fail
            go_quiet ((first | (go_at_call 98; refine quiet_drew (H8.out _ (below_dn HbX.out _))) | (go_at_call 89; refine Calls.quiet_of_same (HS8.out _ (below_dn HbX.out _)))))
            go_wp2_with fail
            go_ret3
            exact Hfin.out _ (below_dn HbX.out _)
    · have Hfin := Lib.hid (fun W => decoded_bad (w := w) (w' := W) (b := b) (k := 4) (by unfold decE; rw [if_neg h8, if_pos (fun e => hh ((head_iff (by omega)).1 e))]) (by decide))
      have hne : ((fourAt (b.drop 4) : Int) != sumF (b.take 4)) = true := by rw [sumF_nat]; simp; omega
      generalize fourAt (b.drop 4) = x at *
      generalize sumF (b.take 4) = y at *
      generalize b.length = N at *
      clear h hh
      go_enter Try.func91, Try.ntmps91
      go_wp2_with fail
      go_quiet ((first | (go_at_call 98; refine quiet_drew (H4.out _ (below_drewN _ _))) | (go_at_call 89; refine Calls.quiet_of_same (HS.out _ (below_drewN _ _)))))
      go_wp2
      go_ret3
      exact Hfin.out _ (below_drewN _ _)
end Go.Proofs.Ytdlbamhabenhgaa

namespace Go.Proofs.Ytdlbamhabenhgaa
open Go.RowKit Go.Sat Go.Maps

set_option maxRecDepth 100000 in
set_option maxHeartbeats 1000000 in
theorem rone_calls {w : World} {p : Option Addr} {n c : Nat} {b : Bs} (h : HasB w (.slice p n c) b) (hnc : n ≤ c) (hl : b.length ≤ 140737488355328) :
    Calls Try.prog 73 #[.slice p n c] w (OneOf w b) := by
  have hn : n = b.length := (bytes_in h).1
  subst hn
  have Hd := Lib.hid (rdec_calls h hnc hl)
  have hdl : decL b ≤ 4294967307 := by
    have := fourAt_lt b
    unfold decL
    split <;> omega
  clear h
  go_enter Try.func73, Try.ntmps73
  go_wp2_with fail
  refine Hd.out.mono ?_
  rintro e w1 ⟨v, rfl, hv, hn1, hb1⟩
  by_cases he : decE b = 0
  · by_cases hL : decL b = b.length
    · have hE : oneE b = 0 := by unfold oneE; rw [if_pos he, if_pos hL]
      have Hfin := Lib.hid (show OneOf w b (.returned (.tuple #[v, .int .i64 0])) w1 from ⟨v, by rw [hE]; rfl, by unfold oneB; rw [if_pos hE]; exact hv, hn1, hb1⟩)
      rw [he, hL]
      generalize b.length = N at *
      clear hv hn1 hb1 he hL hE hdl
      go_wp2_with fail
      go_ret2
      exact Hfin.out
    · have Hfin := Lib.hid (one_nil (w := w) (w' := w1) (b := b) (k := 3) (by unfold oneE; rw [if_pos he, if_neg hL]) (by decide) hb1)
      have hne : ((decL b : Int) != (b.length : Int)) = true := by
        simp only [bne_iff_ne, ne_eq, Int.natCast_inj]
        exact hL
      rw [he]
      generalize decL b = M at *
      generalize b.length = N at *
      clear hv hn1 hb1 he hL
      go_wp2_with fail
      go_ret2
      exact Hfin.out
  · have hE : oneE b = decE b := by unfold oneE; rw [if_neg he]
    have Hfin := Lib.hid (one_nil (w := w) (w' := w1) (b := b) (k := decE b) hE he hb1)
    have hne : ((decE b : Int) == 0) = false := by simp; omega
    have hne2 : ((decE b : Int) != 0) = true := by simp; omega
    generalize decE b = E at *
    generalize decL b = M at *
    generalize b.length = N at *
    clear hv hn1 hb1 hE
    go_wp2_with fail
    go_ret2
    exact Hfin.out
end Go.Proofs.Ytdlbamhabenhgaa

namespace Go.Proofs.Ytdlbamhabenhgaa
open Go.RowKit Go.Sat Go.Maps

section
variable {w : World} {r : Nat} {v : Value} {L : List RFile} {own : Nat → Prop} {D : DiskM}

theorem rhas_calls (h : RefIn w r v L own D) (s : ByteArray) :
    Calls Try.prog 90 #[.pointer (some ⟨r, 0, none⟩), .string s] w fun e w' => e = .returned (.bool (Sat.get (nm s) D.files).isSome) ∧ Below w.heap.size w w' := by
  have H := Lib.hid (rread_calls h s)
  clear h
  cases hg : Sat.get (nm s) D.files with
  | none =>
    rw [hg] at H
    go_enter Try.func90, Try.ntmps90
    go_wp2_with fail
    refine H.out.mono ?_
    rintro e w' ⟨v, rfl, -, -, hb⟩
    have Hf := Lib.hid hb
    clear hb
    go_wp2_with fail
    go_ret
    exact ⟨rfl, Hf.out⟩
  | some f =>
    rw [hg] at H
    go_enter Try.func90, Try.ntmps90
    go_wp2_with fail
    refine H.out.mono ?_
    rintro e w' ⟨v, rfl, -, -, hb⟩
    have Hf := Lib.hid hb
    clear hb
    go_wp2_with fail
    go_ret
    exact ⟨rfl, Hf.out⟩

def RGotL (w : World) (o : Option FileM) (e : Ending) (w' : World) : Prop :=
  ∃ v, e = .returned (.tuple #[v, .int .i64 (loadE o : Int)]) ∧ OwnB w' 5 v (loadB o) ∧ (∀ k, v.ownBlock = some k → w.heap.size ≤ k) ∧ Below w.heap.size w w'

theorem rload_calls (h : RefIn w r v L own D) (s : ByteArray) :
    Calls Try.prog 42 #[.pointer (some ⟨r, 0, none⟩), .string s] w (RGotL w (Sat.get (nm s) D.files)) := by
  have hln := data_len h.ok (nm s)
  have H := Lib.hid (rread_calls h s)
  clear h
  cases hg : Sat.get (nm s) D.files with
  | none =>
    rw [hg] at H
    clear hln
    go_enter Try.func42, Try.ntmps42
    go_wp2_with fail
    refine H.out.mono ?_
    rintro e w2 ⟨v, rfl, -, -, hb⟩
    have Hf := Lib.hid (show RGotL w none (.returned (.tuple #[.slice none 0 0, .int .i64 7])) w2 from ⟨.slice none 0 0, by rw [loadE_none]; rfl, by rw [loadB_none]; exact OwnR.nil _ _ _, fun k hk => (by cases hk), hb⟩)
    clear hb
    go_wp2_with fail
    go_ret2
    exact Hf.out
  | some f =>
    rw [hg] at H hln
    go_enter Try.func42, Try.ntmps42
    go_wp2_with fail
    refine H.out.mono ?_
    rintro e w2 ⟨v, rfl, hv, -, hb⟩
    obtain ⟨p, c, rfl, hnc⟩ := own_slice hv
    have H1 := Lib.hid (rone_calls hv.has hnc (by omega))
    have Hb := Lib.hid hb
    have hE := loadE_some f
    have hB := loadB_some f
    generalize dataOf (some f) = b at *
    generalize hN : b.length = N at *
    clear hv hb hnc hln
    go_wp2_with fail
    refine H1.out.mono ?_
    rintro e w3 ⟨v, rfl, hv, hn, hb3⟩
    have hb4 := Hb.out.trans (hb3.mono Hb.out.size)
    by_cases he : oneE b = 0
    · have Hf := Lib.hid (show RGotL w (some f) (.returned (.tuple #[v, .int .i64 0])) w3 from ⟨v, by rw [hE, if_pos he]; rfl, by rw [hB]; exact hv, fun k hk => Nat.le_trans Hb.out.size (hn k hk), hb4⟩)
      rw [he]
      clear hv hn hb3 hb4
      go_wp2_with fail
      go_ret2
      exact Hf.out
    · have Hf := Lib.hid (show RGotL w (some f) (.returned (.tuple #[.slice none 0 0, .int .i64 3])) w3 from ⟨.slice none 0 0, by rw [hE, if_neg he]; rfl, by rw [hB]; unfold oneB; rw [if_neg he]; exact OwnR.nil _ _ _, fun k hk => (by cases hk), hb4⟩)
      have hne : ((oneE b : Int) != 0) = true := by simp; omega
      generalize oneE b = E at *
      clear hv hn hb3 hb4
      go_wp2_with fail
      go_ret2
      exact Hf.out
end
end Go.Proofs.Ytdlbamhabenhgaa

namespace Go.Proofs.Ytdlbamhabenhgaa
open Go.RowKit Go.Sat Go.Maps

def RSt (w0 w1 : World) (r : Nat) (own0 : Nat → Prop) (D : DiskM) (F : Nat → Prop) : Prop :=
  ∃ own v L, RefIn w1 r v L own D ∧ Chg own0 w0 w1 ∧ (∀ k, own k → (own0 k ∨ w0.heap.size ≤ k) ∧ ¬ F k) ∧ ∀ k, F k → k < w1.heap.size

section
variable {w w0 w1 w2 : World} {r : Nat} {v : Value} {L : List RFile} {own own0 : Nat → Prop} {D : DiskM} {F : Nat → Prop}

theorem RSt.start (h : RefIn w r v L own D) (hb : Below w.heap.size w w1) (hF : ∀ k, F k → ¬ own k ∧ k < w1.heap.size) : RSt w w1 r own D F :=
  ⟨own, v, L, h.below hb, (Chg.of_below hb).mono fun _ _ h => h.elim, fun k hk => ⟨.inl hk, fun hf => (hF k hf).1 hk⟩, fun k hk => (hF k hk).2⟩

theorem RSt.ok (h : RSt w0 w1 r own0 D F) : D.OK := let ⟨_, _, _, hR, _⟩ := h; hR.ok
theorem RSt.flt (h : RSt w0 w1 r own0 D F) {k : Nat} (hk : F k) : k < w1.heap.size := let ⟨_, _, _, _, _, _, hF⟩ := h; hF k hk

theorem RSt.next (h : RSt w0 w1 r own0 D F) (hb : Below w1.heap.size w1 w2) : RSt w0 w2 r own0 D F := by
  obtain ⟨own, v, L, hR, hc, hx, hF⟩ := h
  exact ⟨own, v, L, hR.below hb, hc.trans (Chg.of_below hb) fun _ _ h => h.elim, hx, fun k hk => Nat.lt_of_lt_of_le (hF k hk) hb.size⟩

theorem RSt.same (h : RSt w0 w1 r own0 D F) (hb : Below w1.heap.size w1 w2) : Same F w1 w2 := fun _ hk => hb.block _ (h.flt hk)

/-- Something new is set apart too. -/
theorem RSt.apart {F' : Nat → Prop} (h : RSt w0 w1 r own0 D F) (hb : Below w1.heap.size w1 w2) (hF' : ∀ k, F' k → F k ∨ (w1.heap.size ≤ k ∧ k < w2.heap.size)) : RSt w0 w2 r own0 D F' := by
  obtain ⟨own, v, L, hR, hc, hx, hF⟩ := h
  refine ⟨own, v, L, hR.below hb, hc.trans (Chg.of_below hb) fun _ _ h => h.elim, fun k hk => ⟨(hx k hk).1, fun hf => ?_⟩, fun k hk => ?_⟩
  · rcases hF' k hf with h | h
    · exact (hx k hk).2 h
    · have := hR.olt k hk
      omega
  · rcases hF' k hk with h | h
    · exact Nat.lt_of_lt_of_le (hF k h) hb.size
    · exact h.2

theorem rst_step {P : Program} {f : FuncId} {args : Array Value} {Re : DiskM × Nat} (h : RSt w0 w1 r own0 D F) (hx : ∀ own v L, RefIn w1 r v L own D → (∀ k, own k → ¬ F k) → Calls P f args w1 (RStep w1 r own Re)) :
    Calls P f args w1 fun e w' => e = .returned (.int .i64 (Re.2 : Int)) ∧ RSt w0 w' r own0 Re.1 F ∧ Same F w1 w' := by
  obtain ⟨own, v, L, hR, hc, hown, hF⟩ := h
  refine (hx own v L hR fun k hk => (hown k hk).2).mono ?_
  rintro e w' ⟨rfl, own', ⟨v', L', hR'⟩, hc', he⟩
  refine ⟨rfl, ⟨own', v', L', hR', hc.trans hc' fun i hi ho => ?_, fun k hk => ?_, fun k hk => Nat.lt_of_lt_of_le (hF k hk) hc'.size⟩, fun k hk => hc'.block k (hF k hk) fun ho => (hown k ho).2 hk⟩
  · rcases (hown i ho).1 with h | h
    · exact h
    · omega
  · rcases he k hk with h | h
    · exact hown k h
    · exact ⟨.inr (Nat.le_trans hc.size h), fun hf => by have := hF k hf; omega⟩

theorem RSt.stop (h : RSt w0 w1 r own0 D F) (k : Nat) : RStep w0 r own0 (D, k) (.returned (.int .i64 (k : Int))) w1 := by
  obtain ⟨own, v, L, hR, hc, hx, -⟩ := h
  exact ⟨rfl, own, ⟨v, L, hR⟩, hc, fun k hk => (hx k hk).1⟩

theorem rst_has (h : RSt w0 w1 r own0 D F) (s : ByteArray) :
    Calls Try.prog 90 #[.pointer (some ⟨r, 0, none⟩), .string s] w1 fun e w' => e = .returned (.bool (Sat.get (nm s) D.files).isSome) ∧ RSt w0 w' r own0 D F ∧ Same F w1 w' := by
  have h0 := h
  obtain ⟨own, v, L, hR, -⟩ := h
  exact (rhas_calls hR s).mono fun e w' ⟨he, hb⟩ => ⟨he, h0.next hb, h0.same hb⟩

theorem rstep_below {w' : World} {R : DiskM × Nat} {e : Ending} {w'' : World} (hb : Below w.heap.size w w') (h : RStep w' r own R e w'') : RStep w r own R e w'' := by
  obtain ⟨he, own', hR, hc, hx⟩ := h
  exact ⟨he, own', hR, chg_below hb hc, fun k hk => (hx k hk).imp id fun h => Nat.le_trans hb.size h⟩
end
end Go.Proofs.Ytdlbamhabenhgaa

namespace Go.Proofs.Ytdlbamhabenhgaa
open Go.RowKit Go.Sat Go.Maps

section
variable {w : World} {r : Nat} {v : Value} {L : List RFile} {own : Nat → Prop} {D : DiskM}

set_option maxRecDepth 100000 in
set_option maxHeartbeats 4000000 in
theorem rwhole_calls (h : RefIn w r v L own D) (s : ByteArray) (hs : s.size ≤ 9223372036854775000) {pb : Option Addr} {m cb : Nat} {l : Bs} (hl : HasB w (.slice pb m cb) l) (hlm : l.length ≤ 140737488355328) (hF : ∀ k, (Value.slice pb m cb).ownBlock = some k → ¬ own k ∧ k < w.heap.size) :
    Calls Try.prog 72 #[.pointer (some ⟨r, 0, none⟩), .string s, .slice pb m cb] w (RStep w r own (D.save1 (nm s) l)) := by
  have hsh : (s ++ (⟨#[126]⟩ : ByteArray)).size = s.size + 1 := by simp [ByteArray.size_append]; rfl
  have hst : RSt w w r own D (fun k => (Value.slice pb m cb).ownBlock = some k) := RSt.start h (Below.refl _ _) hF
  have Hth := Lib.hid (rst_has hst (s ++ (⟨#[126]⟩ : ByteArray)))
  rw [nm_shadow] at Hth
  have Hl := Lib.hid hl
  have Hlm := Lib.hid hlm
  clear hst h hl hlm hF
  cases hg : Sat.get (shadowN (nm s)) D.files with
  | none =>
    rw [hg] at Hth
    obtain ⟨D0, h0, hD⟩ : ∃ D0, D.save0 (nm s) = (D0, 0) ∧ D0 = D := ⟨D, by unfold DiskM.save0; rw [hg]; rfl, rfl⟩
    go_enter Try.func72, Try.ntmps72
    go_wp2_with fail
    refine Hth.out.mono ?_
    rintro e w3 ⟨rfl, hst3, hs3⟩
    rw [← hD] at hst3
    have Hst := Lib.hid hst3
    have Hv := Lib.hid (Hl.out.same hs3)
    clear hst3 hs3 Hth hD hg
    have Hap := Lib.hid (rst_step Hst.out (Re := D0.append (shadowN (nm s)) l) fun own v L hR hn => by
      have := rappend_calls hR (s ++ (⟨#[126]⟩ : ByteArray)) (by rw [hsh]; omega) (Hv.out) Hlm.out (fun _ k hk ho => hn k ho hk)
      rwa [nm_shadow] at this)
    cases h1 : DiskM.append D0 (shadowN (nm s)) l with
    | mk D1 e1 =>
      rw [h1] at Hap
      by_cases he1 : e1 = 0
      · subst he1
        go_wp2_with fail
        refine Hap.out.mono ?_
        rintro e w5 ⟨rfl, hst5, -⟩
        have Hst5 := Lib.hid (show RSt w w5 r own D1 (fun k => (Value.slice pb m cb).ownBlock = some k) from hst5)
        have Hsy := Lib.hid (rst_step Hst5.out (Re := D1.sync [shadowN (nm s)]) fun own v L hR hn => by
          have := rsync_calls hR (s ++ (⟨#[126]⟩ : ByteArray)) (by rw [hsh]; omega)
          rwa [nm_shadow] at this)
        clear hst5 Hap
        cases h2 : DiskM.sync D1 [shadowN (nm s)] with
        | mk D2 e2 =>
          rw [h2] at Hsy
          by_cases he2 : e2 = 0
          · subst he2
            have Hend := Lib.hid (save1_ren h0 h1 h2)
            clear h0 h1 h2
            go_wp2_with fail
            refine Hsy.out.mono ?_
            rintro e w6 ⟨rfl, hst6, -⟩
            have Hst6 := Lib.hid (show RSt w w6 r own D2 (fun k => (Value.slice pb m cb).ownBlock = some k) from hst6)
            have Hrn := Lib.hid (rst_step Hst6.out (Re := D2.rename (shadowN (nm s)) (nm s)) fun own v L hR hn => by
              have := rren_calls hR (s ++ (⟨#[126]⟩ : ByteArray)) s (by rw [hsh]; omega) (by omega)
              rwa [nm_shadow] at this)
            clear hst6 Hsy
            go_wp2_with fail
            refine Hrn.out.mono ?_
            rintro e w7 ⟨rfl, hst7, -⟩
            have HE := Lib.hid (show RStep w r own (D.save1 (nm s) l) (.returned (.int .i64 ((D2.rename (shadowN (nm s)) (nm s)).2 : Int))) w7 from by rw [Hend.out]; exact hst7.stop _)
            clear hst7 Hrn
            generalize (D2.rename (shadowN (nm s)) (nm s)).2 = e3 at *
            go_wp2_with fail
            go_ret
            exact HE.out
          · have hne : ((e2 : Int) == 0) = false := by simp; omega
            have Hend := Lib.hid (save1_syn h0 h1 h2 he2)
            clear h0 h1 h2 he2
            go_wp2_with fail
            refine Hsy.out.mono ?_
            rintro e w6 ⟨rfl, hst6, -⟩
            have HE := Lib.hid (show RStep w r own (D.save1 (nm s) l) (.returned (.int .i64 (e2 : Int))) w6 from by rw [Hend.out]; exact hst6.stop _)
            clear hst6 Hsy
            go_wp2_with fail
            go_ret
            exact HE.out
      · have hne : ((e1 : Int) == 0) = false := by simp; omega
        have Hend := Lib.hid (save1_app h0 h1 he1)
        clear h0 h1 he1
        go_wp2_with fail
        refine Hap.out.mono ?_
        rintro e w5 ⟨rfl, hst5, -⟩
        have HE := Lib.hid (show RStep w r own (D.save1 (nm s) l) (.returned (.int .i64 (e1 : Int))) w5 from by rw [Hend.out]; exact hst5.stop _)
        clear hst5 Hap
        go_wp2_with fail
        go_ret
        exact HE.out
  | some f =>
    rw [hg] at Hth
    cases h0 : D.save0 (nm s) with
    | mk D0 e0 =>
      have hz0 : DiskM.remove D [shadowN (nm s)] = (D0, e0) := by rw [← h0]; unfold DiskM.save0; rw [hg]; rfl
      have Hz0 := Lib.hid hz0
      clear hz0 hg
      go_enter Try.func72, Try.ntmps72
      go_wp2_with fail
      refine Hth.out.mono ?_
      rintro e w3 ⟨rfl, hst3, hs3⟩
      have Hrm := Lib.hid (rst_step hst3 (Re := D.remove [shadowN (nm s)]) fun own v L hR hn => by
        have := rrem_calls hR (s ++ (⟨#[126]⟩ : ByteArray)) (by rw [hsh]; omega)
        rwa [nm_shadow] at this)
      rw [Hz0.out] at Hrm
      have Hv3 := Lib.hid (Hl.out.same hs3)
      clear hst3 hs3 Hth
      by_cases he0 : e0 = 0
      · subst he0
        go_wp2_with fail
        refine Hrm.out.mono ?_
        rintro e w4 ⟨rfl, hst4, hs4⟩
        have Hst := Lib.hid (show RSt w w4 r own D0 (fun k => (Value.slice pb m cb).ownBlock = some k) from hst4)
        have Hv := Lib.hid (Hv3.out.same hs4)
        clear hst4 hs4 Hv3 Hrm Hz0
        have Hap := Lib.hid (rst_step Hst.out (Re := D0.append (shadowN (nm s)) l) fun own v L hR hn => by
          have := rappend_calls hR (s ++ (⟨#[126]⟩ : ByteArray)) (by rw [hsh]; omega) (Hv.out) Hlm.out (fun _ k hk ho => hn k ho hk)
          rwa [nm_shadow] at this)
        cases h1 : DiskM.append D0 (shadowN (nm s)) l with
        | mk D1 e1 =>
          rw [h1] at Hap
          by_cases he1 : e1 = 0
          · subst he1
            go_wp2_with fail
            refine Hap.out.mono ?_
            rintro e w5 ⟨rfl, hst5, -⟩
            have Hst5 := Lib.hid (show RSt w w5 r own D1 (fun k => (Value.slice pb m cb).ownBlock = some k) from hst5)
            have Hsy := Lib.hid (rst_step Hst5.out (Re := D1.sync [shadowN (nm s)]) fun own v L hR hn => by
              have := rsync_calls hR (s ++ (⟨#[126]⟩ : ByteArray)) (by rw [hsh]; omega)
              rwa [nm_shadow] at this)
            clear hst5 Hap
            cases h2 : DiskM.sync D1 [shadowN (nm s)] with
            | mk D2 e2 =>
              rw [h2] at Hsy
              by_cases he2 : e2 = 0
              · subst he2
                have Hend := Lib.hid (save1_ren h0 h1 h2)
                clear h0 h1 h2
                go_wp2_with fail
                refine Hsy.out.mono ?_
                rintro e w6 ⟨rfl, hst6, -⟩
                have Hst6 := Lib.hid (show RSt w w6 r own D2 (fun k => (Value.slice pb m cb).ownBlock = some k) from hst6)
                have Hrn := Lib.hid (rst_step Hst6.out (Re := D2.rename (shadowN (nm s)) (nm s)) fun own v L hR hn => by
                  have := rren_calls hR (s ++ (⟨#[126]⟩ : ByteArray)) s (by rw [hsh]; omega) (by omega)
                  rwa [nm_shadow] at this)
                clear hst6 Hsy
                go_wp2_with fail
                refine Hrn.out.mono ?_
                rintro e w7 ⟨rfl, hst7, -⟩
                have HE := Lib.hid (show RStep w r own (D.save1 (nm s) l) (.returned (.int .i64 ((D2.rename (shadowN (nm s)) (nm s)).2 : Int))) w7 from by rw [Hend.out]; exact hst7.stop _)
                clear hst7 Hrn
                generalize (D2.rename (shadowN (nm s)) (nm s)).2 = e3 at *
                go_wp2_with fail
                go_ret
                exact HE.out
              · have hne : ((e2 : Int) == 0) = false := by simp; omega
                have Hend := Lib.hid (save1_syn h0 h1 h2 he2)
                clear h0 h1 h2 he2
                go_wp2_with fail
                refine Hsy.out.mono ?_
                rintro e w6 ⟨rfl, hst6, -⟩
                have HE := Lib.hid (show RStep w r own (D.save1 (nm s) l) (.returned (.int .i64 (e2 : Int))) w6 from by rw [Hend.out]; exact hst6.stop _)
                clear hst6 Hsy
                go_wp2_with fail
                go_ret
                exact HE.out
          · have hne : ((e1 : Int) == 0) = false := by simp; omega
            have Hend := Lib.hid (save1_app h0 h1 he1)
            clear h0 h1 he1
            go_wp2_with fail
            refine Hap.out.mono ?_
            rintro e w5 ⟨rfl, hst5, -⟩
            have HE := Lib.hid (show RStep w r own (D.save1 (nm s) l) (.returned (.int .i64 (e1 : Int))) w5 from by rw [Hend.out]; exact hst5.stop _)
            clear hst5 Hap
            go_wp2_with fail
            go_ret
            exact HE.out
      · have hne : ((e0 : Int) != 0) = true := by simp; omega
        have Hend := Lib.hid (save1_rem (b := l) h0 he0)
        clear h0 he0
        go_wp2_with fail
        refine Hrm.out.mono ?_
        rintro e w4 ⟨rfl, hst4, -⟩
        have HE := Lib.hid (show RStep w r own (D.save1 (nm s) l) (.returned (.int .i64 (e0 : Int))) w4 from by rw [Hend.out]; exact hst4.stop _)
        clear hst4 Hrm
        go_wp2_with fail
        go_ret
        exact HE.out
end
end Go.Proofs.Ytdlbamhabenhgaa

namespace Go.Proofs.Ytdlbamhabenhgaa
open Go.RowKit Go.Sat Go.Maps

section
variable {w : World} {r : Nat} {v : Value} {L : List RFile} {own : Nat → Prop} {D : DiskM}

set_option maxRecDepth 100000 in
set_option maxHeartbeats 1000000 in
theorem rsave_calls (h : RefIn w r v L own D) (s : ByteArray) (hs : s.size ≤ 9223372036854775000) {p : Option Addr} {m c : Nat} {l : Bs} (hx : HasB w (.slice p m c) l) (hl : l.length ≤ 1048576) :
    Calls Try.prog 41 #[.pointer (some ⟨r, 0, none⟩), .string s, .slice p m c] w (RStep w r own (D.save (nm s) l)) := by
  have hsz : (nm s).length = s.size := nm_len s
  by_cases hnm : (nm s).length < 1 ∨ 60 < (nm s).length
  · have hM : D.save (nm s) l = (D, 1) := by unfold DiskM.save; rw [if_pos hnm]
    rw [hM]
    have Hfin := Lib.hid (rstep_same h (Below.refl _ _) 1)
    rw [hsz] at hnm
    generalize hzz : s.size = z at *
    clear hM h hx
    have hd1 : (decide ((z : Int) < 1) || decide (60 < (z : Int))) = true := by simp; omega
    by_cases hz : z < 1
    · have hz0 : z = 0 := by omega
      subst hz0
      go_enter Try.func41, Try.ntmps41
      go_wp2_with fail
      go_ret
      exact Hfin.out
    · have hz6 : 60 < z := by omega
      go_enter Try.func41, Try.ntmps41
      go_wp2_with fail
      go_ret
      exact Hfin.out
  · have hM : D.save (nm s) l = D.save1 (nm s) (frameN l) := by unfold DiskM.save; rw [if_neg hnm]
    rw [hM]
    have He := Lib.hid (renc_calls hx hl)
    have Hh := Lib.hid h
    have Hs := Lib.hid hs
    rw [hsz] at hnm
    generalize hz : s.size = z at *
    have Hz := Lib.hid hz
    have hfl : (frameN l).length ≤ 140737488355328 := by rw [frame_len]; omega
    have Hfl := Lib.hid hfl
    clear hM h hx hl hs hfl
    go_enter Try.func41, Try.ntmps41
    go_wp2_with fail
    refine He.out.mono ?_
    rintro e w2 ⟨v2, rfl, hv, hnew, hb⟩
    obtain ⟨p2, c2, rfl⟩ := hv.slice
    have Hw := Lib.hid ((rwhole_calls (Hh.out.below hb) s (by rw [Hz.out]; exact Hs.out) hv.has Hfl.out (fun k hk => ⟨fun ho => by have h1 := hnew k hk; have h2 := Hh.out.olt k ho; omega, OwnR.lt hv hk⟩)).mono fun e w' h => rstep_below hb h)
    clear hv hnew hb He
    go_wp2_with fail
    refine Hw.out.mono ?_
    intro e w3 h3
    have HE := Lib.hid h3
    obtain ⟨rfl, -⟩ := h3
    generalize (D.save1 (nm s) (frameN l)).2 = e3 at *
    go_wp2_with fail
    go_ret
    exact HE.out
end
end Go.Proofs.Ytdlbamhabenhgaa

namespace Go.Proofs.Ytdlbamhabenhgaa
open Go.RowKit Go.Sat Go.Maps

theorem cut_prefix (x : Bs) (s : ByteArray) : (((⟨x.toArray⟩ : ByteArray).extract 0 s.size).toList == s.toList) = (nm s).isPrefixOf x := by
  rw [ByteArray.toList_eq, ByteArray.toList_eq]
  have e : ((⟨x.toArray⟩ : ByteArray).extract 0 s.size).data.toList = x.take (nm s).length := by rw [nm_len]; simp
  rw [e, Bool.eq_iff_iff, beq_iff_eq, List.isPrefixOf_iff_prefix, List.prefix_iff_eq_take]
  exact eq_comm

theorem contains_snoc {l : List Bs} {k : Nat} {y : Bs} (h : l[k]? = some y) (x : Bs) : (l.take (k + 1)).contains x = ((l.take k).contains x || (y == x)) := by
  rw [List.take_add_one, h, Bool.eq_iff_iff, List.contains_iff_mem, Bool.or_eq_true, List.contains_iff_mem, beq_iff_eq, List.mem_append]
  simp only [Option.toList_some, List.mem_singleton]
  constructor
  · rintro (h | h)
    · exact .inl h
    · exact .inr h.symm
  · rintro (h | h)
    · exact .inl h
    · exact .inr h.symm

section
variable {w : World} {r : Nat} {v : Value} {L : List RFile} {own : Nat → Prop} {D : DiskM}

set_option maxRecDepth 100000 in
set_option maxHeartbeats 4000000 in
theorem rclear_calls (h : RefIn w r v L own D) (s : ByteArray) (hsz : s.size ≤ 9223372036854775807) {p : Option Addr} {n c : Nat} {stay : List Bs} (hx : ∀ W, Chg own w W → HasN W (.slice p n c) stay) (hn : stay.length ≤ 140737488355328) :
    Calls Try.prog 43 #[.pointer (some ⟨r, 0, none⟩), .string s, .slice p n c] w (RStep w r own (D.clear (nm s) stay)) := by
  have Hl := Lib.hid (rlist_calls h)
  have Hx := Lib.hid hx
  have H := Lib.hid h
  have hcount := h.ok.count
  have Hnames := Lib.hid h.ok.names
  have hnn : stay.length = n := by
    obtain ⟨p', c', e⟩ := (hx w (Chg.refl _ _)).slice
    cases e
    rfl
  have Hnn := Lib.hid hnn
  clear h hx
  unfold DiskM.clear
  have hnl : (namesOf D).length ≤ 4096 := by unfold namesOf; rw [List.length_map]; exact hcount
  have hno : ∀ x ∈ namesOf D, x.length ≤ 64 := by
    intro x hx
    obtain ⟨q, hq, rfl⟩ := List.mem_map.1 hx
    exact (okN_string (Hnames.out q hq)).2
  have Hno := Lib.hid hno
  clear Hnames hno hcount
  generalize hns : namesOf D = ns at *
  have Hns := Lib.hid hns
  generalize hN : ns.length = N at *
  have HN := Lib.hid hN
  rw [hnn] at hn
  clear hns hN hnn
  go_enter Try.func43, Try.ntmps43
  go_wp2_with fail
  refine Hl.out.mono ?_
  rintro e w2 ⟨v, rfl, hv, hnew, hb⟩
  rw [Hns.out] at hv
  have hv' : HasN w2 v ns := OwnR.holds hv
  have hlt : ∀ k, v.ownBlock = some k → k < w2.heap.size := fun k hk => OwnR.lt hv hk
  obtain ⟨pv, cv, rfl⟩ := hv'.slice
  have hst2 : RSt w w2 r own D (fun k => (Value.slice pv N cv).ownBlock = some k) := RSt.start H.out hb fun k hk => by
    rw [← HN.out] at hk
    exact ⟨fun ho => by have h1 := hnew k hk; have h2 := H.out.olt k ho; omega, hlt k hk⟩
  rw [HN.out] at hv'
  have Hv := Lib.hid hv'
  have Hst2 := Lib.hid hst2
  clear hv hv' hnew hb hst2 hlt Hl
  rw [HN.out]
  go_wp2_with fail
  go_loopw [8, 9, 10, 11] (fun i _ _ _ wr => ∃ (k : Nat) (Dk : DiskM), k ≤ N ∧ i = .int .i64 k ∧ RSt w wr r own Dk (fun k => (Value.slice pv N cv).ownBlock = some k) ∧ Same (fun k => (Value.slice pv N cv).ownBlock = some k) w2 wr ∧ DiskM.clearL (nm s) stay D ns = DiskM.clearL (nm s) stay Dk (ns.drop k)) (fun i _ _ _ _ => N - (intOf i).toNat)
  case atStart => exact ⟨0, D, Nat.zero_le _, rfl, Hst2.out, fun _ _ => rfl, rfl⟩
  case round =>
    obtain ⟨k, Dk, hk, rfl, hr, hsame, hcl⟩ := hrel
    by_cases hlt : k < N
    · have hkl : k < ns.length := by rw [HN.out]; exact hlt
      rw [List.drop_eq_getElem_cons hkl] at hcl
      rcases (Hv.out.same hsame).at with h0 | ⟨b, o, c1, e1, hc⟩
      · rw [h0] at hkl
        simp at hkl
      rw [HN.out] at e1
      cases e1
      have hcw := hc k _ (List.getElem?_eq_getElem hkl)
      rw [enc_str] at hcw
      have hx64 := Hno.out _ (List.getElem_mem hkl)
      generalize ns[k] = x at *
      have hxs : (⟨x.toArray⟩ : ByteArray).size = x.length := by rw [← nm_len, nm_str]
      have hstay : HasN wr (.slice p n c) stay := by
        obtain ⟨own1, v1, L1, hR, hch, -⟩ := hr
        exact Hx.out wr hch
      have Hr := Lib.hid hr
      have Hsame := Lib.hid hsame
      have Hcl := Lib.hid hcl
      have Hstay := Lib.hid hstay
      clear hr hsame hcl hstay hc hkl
      have hss : (nm s).length = s.size := nm_len s
      by_cases hsh : x.length < s.size
      · have hd : decide (((⟨x.toArray⟩ : ByteArray).size : Int) < (s.size : Int)) = true := by rw [hxs]; simp; exact hsh
        have hd2 : decide ((⟨x.toArray⟩ : ByteArray).size < s.size) = true := by rw [hxs]; simp; exact hsh
        have hskip : skipN (nm s) stay x = true := by
          unfold skipN
          cases hp : (nm s).isPrefixOf x with
          | false => rfl
          | true => have := (List.isPrefixOf_iff_prefix.1 hp).length_le; omega
        have Hskip := Lib.hid hskip
        clear hskip
        go_wp2_with fail
        go_roundw
        case rel => exact ⟨k + 1, Dk, by omega, by go_num, Hr.out, Hsame.out, Hcl.out.trans (DiskM.clearL_skip Hskip.out)⟩
        case measure => simp [intOf]; omega
      · have hd : decide (((⟨x.toArray⟩ : ByteArray).size : Int) < (s.size : Int)) = false := by rw [hxs]; simp; omega
        have hd2 : decide ((⟨x.toArray⟩ : ByteArray).size < s.size) = false := by rw [hxs]; simp; omega
        have hcut := cut_prefix x s
        cases hp : (nm s).isPrefixOf x with
        | false =>
          rw [hp] at hcut
          have Hskip := Lib.hid (show skipN (nm s) stay x = true by unfold skipN; rw [hp]; rfl)
          clear hp
          go_wp2_with fail
          go_roundw
          case rel => exact ⟨k + 1, Dk, by omega, by go_num, Hr.out, Hsame.out, Hcl.out.trans (DiskM.clearL_skip Hskip.out)⟩
          case measure => simp [intOf]; omega
        | true =>
          rw [hp] at hcut
          have Hp := Lib.hid hp
          clear hp
          obtain ⟨wo, rfl⟩ : ∃ wo : World, wo = wr := ⟨_, rfl⟩
          go_wp2_with fail
          go_loopw [9, 10] (fun b i wi => ∃ (j q : Nat), j ≤ n ∧ i = .int .i64 j ∧ b = .bool ((stay.take j).contains x) ∧ wi = wo.drewN q) (fun _ i _ => n - (intOf i).toNat)
          case atStart => exact ⟨0, 0, Nat.zero_le _, rfl, rfl, rfl⟩
          case round =>
            obtain ⟨j, q, hj, rfl, rfl, rfl⟩ := hrel
            by_cases hjn : j < n
            · have hjl : j < stay.length := by rw [Hnn.out]; exact hjn
              have hy := List.getElem?_eq_getElem hjl
              rcases Hstay.out.at with h0 | ⟨b2, o2, c2, e2, hc2⟩
              · rw [h0] at hjl
                simp at hjl
              rw [Hnn.out] at e2
              cases e2
              have hcy := hc2 j _ hy
              rw [enc_str] at hcy
              have hsn := contains_snoc hy x
              generalize stay[j] = y at *
              have Hsn := Lib.hid hsn
              clear hsn hc2 hjl hy
              cases hb0 : (stay.take j).contains x with
              | true =>
                have Hb0 := Lib.hid hb0
                clear hb0
                go_wp2_with fail
                go_quiet (fail)
                go_wp2
                go_roundw
                case rel => exact ⟨j + 1, q + nq, by omega, by go_num, by rw [Hsn.out, Hb0.out]; rfl, by first | rfl | rw [World.drewN_drewN]⟩
                case measure => simp [intOf]; omega
              | false =>
                have Hb0 := Lib.hid hb0
                clear hb0
                go_wp2_with fail
                go_quiet (fail)
                go_wp2
                go_roundw
                case rel => exact ⟨j + 1, q + nq, by omega, by go_num, by rw [Hsn.out, Hb0.out]; rfl, by first | rfl | rw [World.drewN_drewN]⟩
                case measure => simp [intOf]; omega
            · have hsj : stay.take j = stay := List.take_of_length_le (by rw [Hnn.out]; omega)
              rw [hsj]
              have hdq : Below wo.heap.size wo (wo.drewN q) := ⟨rfl, rfl, rfl, Nat.le_refl _, fun _ _ => rfl⟩
              have Hrq := Lib.hid (Hr.out.next hdq)
              have Hsq := Lib.hid (Hsame.out.trans (Hr.out.same hdq))
              clear hsj hdq
              cases hcn : stay.contains x with
              | true =>
                have Hskip := Lib.hid (show skipN (nm s) stay x = true by unfold skipN; rw [hcn]; simp)
                clear hcn
                go_wp2_with fail
                go_roundw
                case rel => exact ⟨k + 1, Dk, by omega, by go_num, Hrq.out, Hsq.out, Hcl.out.trans (DiskM.clearL_skip Hskip.out)⟩
                case measure => simp [intOf]; omega
              | false =>
                have Hskip := Lib.hid (show skipN (nm s) stay x = false by unfold skipN; rw [Hp.out, hcn]; rfl)
                have Hrm := Lib.hid (rst_step Hrq.out (Re := Dk.remove [x]) fun own v L hR hn => by
                  have := rrem_calls hR ⟨x.toArray⟩ (by rw [hxs]; omega)
                  rwa [nm_str] at this)
                clear hcn
                cases hz : DiskM.remove Dk [x] with
                | mk D1 e1 =>
                  rw [hz] at Hrm
                  by_cases he : e1 = 0
                  · subst he
                    have Hend := Lib.hid (DiskM.clearL_go (r := ns.drop (k + 1)) Hskip.out hz)
                    clear hz
                    go_wp2_with fail
                    refine Hrm.out.mono ?_
                    rintro e w3 ⟨rfl, hst3, hs3⟩
                    have Hst3 := Lib.hid (show RSt w w3 r own D1 _ from hst3)
                    have Hs3 := Lib.hid (Hsq.out.trans hs3)
                    clear hst3 hs3
                    go_wp2_with fail
                    go_roundw
                    case rel => exact ⟨k + 1, D1, by omega, by go_num, Hst3.out, Hs3.out, Hcl.out.trans Hend.out⟩
                    case measure => simp [intOf]; omega
                  · have hne : ((e1 : Int) != 0) = true := by simp; omega
                    have Hend := Lib.hid (DiskM.clearL_err (r := ns.drop (k + 1)) Hskip.out hz he)
                    clear hz he
                    go_wp2_with fail
                    refine Hrm.out.mono ?_
                    rintro e w3 ⟨rfl, hst3, -⟩
                    have Hf := Lib.hid (show RStep w r own (DiskM.clearL (nm s) stay D ns) (.returned (.int .i64 (e1 : Int))) w3 from by
                      rw [Hcl.out, Hend.out]
                      exact hst3.stop _)
                    clear hst3
                    go_wp2_with fail
                    go_ret
                    exact Hf.out
    · have Hf := Lib.hid (show RStep w r own (DiskM.clearL (nm s) stay D ns) (.returned (.int .i64 0)) wr from by
        rw [hcl, List.drop_of_length_le (by rw [HN.out]; omega)]
        exact hr.stop 0)
      clear hr hsame hcl
      go_wp2_with fail
      go_ret
      exact Hf.out
end
end Go.Proofs.Ytdlbamhabenhgaa

namespace Go.Proofs.Ytdlbamhabenhgaa
open Go.RowKit Go.Sat Go.Maps

def PairF (w w1 : World) (d : Nat) (D : DiskM) (r : Nat) (R : DiskM) (F : Nat → Prop) : Prop :=
  ∃ own v L, St w w1 d D (fun k => own k ∨ F k) ∧ RefIn w1 r v L own R ∧ (∀ k, own k → w.heap.size ≤ k ∧ ¬ F k) ∧ ∀ k, F k → k < w1.heap.size

section
variable {w w1 w2 : World} {d : Nat} {D : DiskM} {r : Nat} {R : DiskM} {F F' : Nat → Prop}

theorem PairF.bel (h : PairF w w1 d D r R F) : Below w.heap.size w w1 := let ⟨_, _, _, hS, _⟩ := h; hS.below
theorem PairF.okD (h : PairF w w1 d D r R F) : D.OK := let ⟨_, _, _, hS, _⟩ := h; hS.ok
theorem PairF.flt (h : PairF w w1 d D r R F) {k : Nat} (hk : F k) : k < w1.heap.size := let ⟨_, _, _, _, _, _, hF⟩ := h; hF k hk
theorem PairF.pair (h : PairF w w1 d D r R F) : Pair w w1 d D r R := by
  obtain ⟨own, v, L, hS, hR, hn, -⟩ := h
  exact ⟨own, v, L, hS.less fun _ hk => .inl hk, hR, fun k hk => (hn k hk).1⟩
theorem Pair.apart (h : Pair w w1 d D r R) : PairF w w1 d D r R NoF := by
  obtain ⟨own, v, L, hS, hR, hn⟩ := h
  exact ⟨own, v, L, hS.less fun _ hk => hk.elim id fun h => h.elim, hR, fun k hk => ⟨hn k hk, fun h => h⟩, fun _ h => h.elim⟩

/-- Something else has turned: blocks of F that are new since w; what is new may be in F' too. -/
theorem PairF.move {S : Nat → Prop} (h : PairF w w1 d D r R F) (hc : Chg S w1 w2) (hS : ∀ k, k < w1.heap.size → S k → F k ∧ w.heap.size ≤ k) (hF : ∀ k, F' k → (F k ∨ w1.heap.size ≤ k) ∧ k < w2.heap.size) : PairF w w2 d D r R F' := by
  obtain ⟨own, v, L, hSt, hR, hn, hl⟩ := h
  refine ⟨own, v, L, hSt.move hc (fun k hk hs => ⟨.inr (hS k hk hs).1, (hS k hk hs).2⟩) (fun k hk => ?_), hR.keep hc.size fun k hk => hc.block k (hR.olt k hk) fun hs => (hn k hk).2 (hS k (hR.olt k hk) hs).1, fun k hk => ⟨(hn k hk).1, fun hf => ?_⟩, fun k hk => (hF k hk).2⟩
  · rcases hk with hk | hk
    · exact ⟨.inl (.inl hk), Nat.lt_of_lt_of_le (hR.olt k hk) hc.size⟩
    · exact ⟨(hF k hk).1.imp .inr id, (hF k hk).2⟩
  · rcases (hF k hf).1 with h | h
    · exact (hn k hk).2 h
    · have := hR.olt k hk
      omega

theorem PairF.next (h : PairF w w1 d D r R F) (hb : Below w1.heap.size w1 w2) : PairF w w2 d D r R F :=
  h.move (Chg.of_below hb) (fun _ _ h => h.elim) fun _ hk => ⟨.inl hk, Nat.lt_of_lt_of_le (h.flt hk) hb.size⟩
theorem PairF.same (h : PairF w w1 d D r R F) (hb : Below w1.heap.size w1 w2) : Same F w1 w2 := fun _ hk => hb.block _ (h.flt hk)
theorem PairF.less (h : PairF w w1 d D r R F) (hF : ∀ k, F' k → F k) : PairF w w1 d D r R F' :=
  h.move (Chg.refl _ _ : Chg (fun _ => False) w1 w1) (fun _ _ h => h.elim) fun _ hk => ⟨.inl (hF _ hk), h.flt (hF _ hk)⟩

/-- A new block is set apart. -/
theorem PairF.box (h : PairF w w1 d D r R F) (o : Obj) : PairF w (w1.alloc o) d D r R (fun k => F k ∨ k = w1.heap.size) :=
  h.move (Chg.of_below ((Below.refl _ _).alloc (Nat.le_refl _) o)) (fun _ _ h => h.elim) fun k hk => by
    rcases hk with hk | hk
    · have := h.flt hk
      exact ⟨.inl hk, by simp; omega⟩
    · exact ⟨.inr (by omega), by simp; omega⟩

/-- A thing done with the program's disk. -/
theorem pairf_disk {P : Program} {f : FuncId} {args : Array Value} {Re : DiskM × Nat} {wc : World} (h : PairF w w1 d D r R F) (hb : Below w1.heap.size w1 wc) (hx : ∀ G, St w w1 d D G → Calls P f args wc (Told w d G wc Re)) :
    Calls P f args wc fun e w' => e = .returned (.int .i64 (Re.2 : Int)) ∧ PairF w w' d Re.1 r R F ∧ Same F w1 w' := by
  obtain ⟨own, v, L, hS, hR, hn, hl⟩ := h
  refine (hx _ hS).mono ?_
  rintro e w' ⟨rfl, hS', hs⟩
  refine ⟨rfl, ⟨own, v, L, hS', ?_, hn, fun k hk => hS'.flt (.inr hk)⟩, fun k hk => (hs k (.inr hk)).trans (hb.block k (hl k hk))⟩
  exact RefIn.same (hR.below hb) (hS'.less fun _ hk => .inl hk) fun k hk => hs k (.inl hk)

theorem pairf_disk0 {P : Program} {f : FuncId} {args : Array Value} {D' : DiskM} {wc : World} (h : PairF w w1 d D r R F) (hb : Below w1.heap.size w1 wc) (hx : ∀ G, St w w1 d D G → Calls P f args wc (Told0 w d G wc D')) :
    Calls P f args wc fun e w' => e = .returned (.tuple #[]) ∧ PairF w w' d D' r R F ∧ Same F w1 w' := by
  obtain ⟨own, v, L, hS, hR, hn, hl⟩ := h
  refine (hx _ hS).mono ?_
  rintro e w' ⟨rfl, hS', hs⟩
  refine ⟨rfl, ⟨own, v, L, hS', ?_, hn, fun k hk => hS'.flt (.inr hk)⟩, fun k hk => (hs k (.inr hk)).trans (hb.block k (hl k hk))⟩
  exact RefIn.same (hR.below hb) (hS'.less fun _ hk => .inl hk) fun k hk => hs k (.inl hk)

theorem PairF.moved {w' : World} {own own' : Nat → Prop} {v' : Value} {L' : List RFile} {R' : DiskM} (hS : St w w1 d D (fun k => own k ∨ F k)) (hn : ∀ k, own k → w.heap.size ≤ k ∧ ¬ F k) (hl : ∀ k, F k → k < w1.heap.size) (hR' : RefIn w' r v' L' own' R') (hc : Chg own w1 w') (hx : ∀ k, own' k → own k ∨ w1.heap.size ≤ k) : PairF w w' d D r R' F ∧ Same F w1 w' := by
  refine ⟨⟨own', v', L', hS.move hc (fun k _ hk => ⟨.inl hk, (hn k hk).1⟩) (fun k hk => ?_), hR', fun k hk => ?_, fun k hk => Nat.lt_of_lt_of_le (hl k hk) hc.size⟩, fun k hk => hc.block k (hl k hk) fun ho => (hn k ho).2 hk⟩
  · rcases hk with hk | hk
    · exact ⟨(hx k hk).imp .inl id, hR'.olt k hk⟩
    · exact ⟨.inl (.inr hk), Nat.lt_of_lt_of_le (hl k hk) hc.size⟩
  · rcases hx k hk with h | h
    · exact hn k h
    · exact ⟨Nat.le_trans hS.below.size h, fun hf => by have := hl k hf; omega⟩

/-- A thing done with the document's disk. -/
theorem pairf_ref {P : Program} {f : FuncId} {args : Array Value} {Re : DiskM × Nat} (h : PairF w w1 d D r R F) (hx : ∀ own v L, RefIn w1 r v L own R → (∀ k, own k → w.heap.size ≤ k ∧ ¬ F k) → Calls P f args w1 (RStep w1 r own Re)) :
    Calls P f args w1 fun e w' => e = .returned (.int .i64 (Re.2 : Int)) ∧ PairF w w' d D r Re.1 F ∧ Same F w1 w' := by
  obtain ⟨own, v, L, hS, hR, hn, hl⟩ := h
  refine (hx own v L hR hn).mono ?_
  rintro e w' ⟨rfl, own', ⟨v', L', hR'⟩, hc, hext⟩
  exact ⟨rfl, PairF.moved hS hn hl hR' hc hext⟩

theorem pairf_rfuse (h : PairF w w1 d D r R F) (n : Int) (hn0 : -9223372036854775808 ≤ n) (hn : n ≤ 9223372036854775807) :
    Calls Try.prog 45 #[.pointer (some ⟨r, 0, none⟩), .int .i64 n] w1 fun e w' => e = .returned (.tuple #[]) ∧ PairF w w' d D r (R.setFuse n) F ∧ Same F w1 w' := by
  obtain ⟨own, v, L, hS, hR, hb, hl⟩ := h
  refine (rfuse_calls hR n hn hn0).mono ?_
  rintro e w' ⟨rfl, hR', hc⟩
  exact ⟨rfl, PairF.moved hS hb hl hR' hc fun _ h => .inl h⟩

theorem pairf_rcrash (h : PairF w w1 d D r R F) (n : Int) (hn0 : -9223372036854775808 ≤ n) (hn : n ≤ 9223372036854775807) :
    Calls Try.prog 44 #[.pointer (some ⟨r, 0, none⟩), .int .i64 n] w1 fun e w' => e = .returned (.tuple #[]) ∧ PairF w w' d D r (R.crash n) F ∧ Same F w1 w' := by
  obtain ⟨own, v, L, hS, hR, hb, hl⟩ := h
  refine (rcrash_calls hR n hn0 hn).mono ?_
  rintro e w' ⟨rfl, own', v', L', hR', hc, hx⟩
  exact ⟨rfl, PairF.moved hS hb hl hR' hc hx⟩
end
end Go.Proofs.Ytdlbamhabenhgaa

namespace Go.Proofs.Ytdlbamhabenhgaa
open Go.RowKit Go.Sat Go.Maps

def Light4 (l : List Step4) (hv : Bool) : Prop := hv = false → ∀ i s, i < 80 → l[i]? = some s → s.a.length + s.b.length ≤ 5000

def HeavyTold4 (w : World) (l : List Step4) (e : Ending) (w' : World) : Prop := ∃ hv, e = .returned (.bool hv) ∧ Light4 l hv ∧ ∃ q, w' = w.drewN q

set_option maxRecDepth 100000 in
set_option maxHeartbeats 2000000 in
theorem heavy4_calls {w : World} {K : Nat} {p : Option Addr} {n c : Nat} {l : List Step4} (hx : Steps4 K w p n l) (hK : K ≤ 1048576) (hn : n ≤ 1048576) :
    Calls Try.prog 40 #[.slice p n c] w (HeavyTold4 w l) := by
  have Hx := Lib.hid hx
  clear hx
  go_enter Try.func40, Try.ntmps40
  go_wp2_with fail
  go_loopw [3, 4, 5] (fun a i _ wr => ∃ k x q : Nat, k ≤ n ∧ k ≤ 80 ∧ i = .int .i64 k ∧ a = .int .i64 x ∧ x ≤ 5000 ∧ (∀ i s, i < k → l[i]? = some s → s.a.length + s.b.length ≤ x) ∧ wr = w.drewN q) (fun _ i _ _ => n - (intOf i).toNat)
  case atStart => exact ⟨0, 0, 0, Nat.zero_le _, by omega, rfl, rfl, by omega, fun i s h => by omega, rfl⟩
  case round =>
    obtain ⟨k, x, q, hk, hk8, rfl, rfl, hx5, hall, rfl⟩ := hrel
    have Hall := Lib.hid hall
    clear hall
    by_cases hlt : k < n
    · by_cases h80 : k < 80
      · have hlen := Hx.out.1
        have hkl : k < l.length := by omega
        obtain ⟨s, hs⟩ : ∃ s, l[k]? = some s := ⟨_, List.getElem?_eq_getElem hkl⟩
        rcases Hx.out.2 with h0 | ⟨g, o, rfl, hat⟩
        · rw [h0] at hkl
          simp at hkl
        have hst := hat k s hs
        obtain ⟨-, -, ok1, ok2, ok3, ok4, ok5⟩ := hst.ok
        have c2 := hst.cm
        have c3 := hst.c3
        have c4 := hst.c4
        have c5 := hst.c5
        have hna : s.na = s.a.length := by obtain ⟨_, _, e⟩ := hst.ha.slice; simp only [Value.slice.injEq] at e; exact e.2.1
        have hnb : s.nb = s.b.length := by obtain ⟨_, _, e⟩ := hst.hb.slice; simp only [Value.slice.injEq] at e; exact e.2.1
        have hns : s.ns = s.stay.length := by obtain ⟨_, _, e⟩ := hst.hs.slice; simp only [Value.slice.injEq] at e; exact e.2.1
        have Hstay := Lib.hid hst.hs
        have Hs := Lib.hid hs
        have Hok5 := Lib.hid ok5
        have Hna := Lib.hid hna
        have Hnb := Lib.hid hnb
        have Hns := Lib.hid hns
        rw [← hna] at ok2
        rw [← hnb] at ok3
        rw [← hns] at ok4
        have hna1 : s.na ≤ 1048576 := by omega
        have hnb1 : s.nb ≤ 1048576 := by omega
        have hnm1 : s.name.size ≤ 1048576 := by omega
        have hns1 : s.ns ≤ 1048576 := by omega
        clear hst hat hs hkl hna hnb hns ok5 hlen ok1 ok2 ok3 ok4
        generalize hNa : s.na = na at *
        generalize hNb : s.nb = nb at *
        generalize hNs : s.ns = ns at *
        generalize hNm : s.name.size = nm at *
        have HNa := Lib.hid hNa
        have HNb := Lib.hid hNb
        have HNs := Lib.hid hNs
        clear hNa hNb hNs
        go_wp2_with fail
        go_quiet (fail)
        go_wp2_with fail
        rw [World.drewN_drewN]
        go_loopw [3, 5] (fun a i wr => ∃ j y q : Nat, j ≤ ns ∧ i = .int .i64 j ∧ a = .int .i64 y ∧ x + 5 + na + nb + nm ≤ y ∧ y ≤ x + 5 + na + nb + nm + j * 1048578 ∧ wr = w.drewN q) (fun _ i _ => ns - (intOf i).toNat)
        case atStart => exact ⟨0, x + 5 + na + nb + nm, _, Nat.zero_le _, rfl, by go_num, Nat.le_refl _, by omega, rfl⟩
        case round =>
          obtain ⟨j, y, q', hj, rfl, rfl, hy1, hy2, rfl⟩ := hrel
          by_cases hjn : j < ns
          · have hjl : j < s.stay.length := by rw [← Hns.out]; exact hjn
            have hz := List.getElem?_eq_getElem hjl
            have hzl := Hok5.out _ (List.getElem_mem hjl)
            rcases Hstay.out.at with h0 | ⟨b2, o2, cc2, e2, hc2⟩
            · rw [h0] at hjl
              simp at hjl
            have hcz := hc2 j _ hz
            rw [enc_str] at hcz
            simp only [Value.slice.injEq] at e2
            have c5' := c5
            rw [e2.1] at c5'
            generalize s.stay[j] = z at *
            have hzs : (⟨z.toArray⟩ : ByteArray).size ≤ 1048576 := by
              have : (⟨z.toArray⟩ : ByteArray).size = z.length := by rw [← nm_len, nm_str]
              omega
            generalize hzz : (⟨z.toArray⟩ : ByteArray).size = zs at *
            clear hc2 hz hzl hjl e2 c5
            go_wp2_with fail
            go_roundw
            case rel => exact ⟨j + 1, y + 2 + zs, q', by omega, by go_num, by go_num, by omega, by omega, rfl⟩
            case measure => simp [intOf]; omega
          · by_cases hy5 : y ≤ 5000
            · have Hnext := Lib.hid (show ∀ i t, i < k + 1 → l[i]? = some t → t.a.length + t.b.length ≤ y from fun i t hi ht => by
                by_cases hik : i < k
                · have := Hall.out i t hik ht
                  omega
                · obtain rfl : i = k := by omega
                  rw [Hs.out] at ht
                  cases ht
                  rw [← Hna.out, ← Hnb.out]
                  omega)
              go_wp2_with fail
              go_roundw
              case rel => exact ⟨k + 1, y, q', by omega, by omega, by go_num, rfl, hy5, Hnext.out, rfl⟩
              case measure => simp [intOf]; omega
            · go_wp2_with fail
              go_ret
              exact ⟨true, rfl, (fun h => by cases h), q', rfl⟩
      · obtain rfl : k = 80 := by omega
        have Hf := Lib.hid (show Light4 l false from fun _ i s hi hs => Nat.le_trans (Hall.out i s hi hs) hx5)
        go_wp2_with fail
        go_ret
        exact ⟨false, rfl, Hf.out, q, rfl⟩
    · have Hf := Lib.hid (show Light4 l false from fun _ i s hi hs => by
        have h1 := (List.getElem?_eq_some_iff.1 hs).1
        have h2 := Hx.out.1
        exact Nat.le_trans (Hall.out i s (by omega) hs) hx5)
      go_wp2_with fail
      go_ret
      exact ⟨false, rfl, Hf.out, q, rfl⟩
end Go.Proofs.Ytdlbamhabenhgaa

namespace Go.Proofs.Ytdlbamhabenhgaa
open Go.RowKit Go.Sat Go.Maps

/-- A block, and what a value lies in. -/
def BxV (bx : Nat) (v : Value) (k : Nat) : Prop := k = bx ∨ v.ownBlock = some k

section
variable {w w1 w2 : World} {d : Nat} {D : DiskM} {r : Nat} {R : DiskM} {F : Nat → Prop} {bx : Nat}

theorem PairF.app {v v' : Value} {e : TypeId} {size n : Nat} {xs : List Value} (h : PairF w w1 d D r R (BxV bx v)) (hv : ∀ k, v.ownBlock = some k → w.heap.size ≤ k ∧ k ≠ bx) (hg : w1.grownBy w2 v.ownBlock) (hloc : v'.ownBlock = v.ownBlock ∨ ∃ g, v'.ownBlock = some g ∧ w1.heap.size ≤ g) (hown : OwnR w2 e size v' n xs) :
    PairF w w2 d D r R (BxV bx v') ∧ (∀ k, v'.ownBlock = some k → w.heap.size ≤ k ∧ k ≠ bx) ∧ w2.heap[bx]? = w1.heap[bx]? := by
  have hbx := h.flt (k := bx) (.inl rfl)
  have hnew : ∀ k, v'.ownBlock = some k → v.ownBlock = some k ∨ w1.heap.size ≤ k := fun k hk => by
    rcases hloc with e | ⟨g, e, hge⟩
    · exact .inl (e ▸ hk)
    · rw [hk] at e
      cases e
      exact .inr hge
  refine ⟨h.move (Chg.of_grown hg) (fun k _ hs => ⟨.inr hs.symm, (hv k hs.symm).1⟩) (fun k hk => ?_), fun k hk => ?_, hg.block bx hbx fun e => (hv bx e.symm).2 rfl⟩
  · rcases hk with rfl | hk
    · exact ⟨.inl (.inl rfl), Nat.lt_of_lt_of_le hbx hg.size⟩
    · exact ⟨(hnew k hk).imp .inr id, OwnR.lt hown hk⟩
  · rcases hnew k hk with h1 | h1
    · exact hv k h1
    · exact ⟨Nat.le_trans h.bel.size h1, by omega⟩

theorem pairf_load (h : PairF w w1 d D r R F) (s : ByteArray) (hs : s.size ≤ 9223372036854775807) :
    Calls Try.prog 26 #[.pointer (some ⟨d, 0, none⟩), .string s] w1 (RGotL w1 (Sat.get (nm s) D.files)) := by
  obtain ⟨own, v, L, hS, -⟩ := h
  refine (load_calls hS s hs).mono ?_
  rintro e w' ⟨v, rfl, hv, hn, hb, -⟩
  exact ⟨v, rfl, hv, hn, hb⟩

theorem pairf_rload (h : PairF w w1 d D r R F) (s : ByteArray) :
    Calls Try.prog 42 #[.pointer (some ⟨r, 0, none⟩), .string s] w1 (RGotL w1 (Sat.get (nm s) R.files)) := by
  obtain ⟨own, v, L, -, hR, -⟩ := h
  exact rload_calls hR s

theorem loadB_len (h : D.OK) (n : Bs) : (loadB (Sat.get n D.files)).length ≤ 140737488355328 := by
  have h1 := data_len h n
  unfold loadB oneB decB
  split
  · split
    · split
      · simp only [List.length_take, List.length_drop]
        omega
      · simp
    · simp
  · simp

/-- The blocks of a box are as they were. -/
theorem box_same {w1 w2 : World} {o : Obj} (hs : Same F w1 w2) (hF : F bx) (hb : w1.heap[bx]? = some o) : w2.heap[bx]? = some o := (hs bx hF).trans hb

theorem HasB.far {w w1 : World} {v : Value} {l : Bs} (h : HasB w v l) (hb : Below w.heap.size w w1) : HasB w1 v l := h.below hb
theorem HasN.far {w w1 : World} {v : Value} {l : List Bs} (h : HasN w v l) (hb : Below w.heap.size w w1) : HasN w1 v l := Holds.chg h (Chg.of_below hb) fun _ _ => id

theorem chg_bel {w w1 w2 : World} {own : Nat → Prop} (hb : Below w.heap.size w w1) (hc : Chg own w1 w2) (ho : ∀ k, own k → w.heap.size ≤ k) : Below w.heap.size w w2 :=
  hb.trans (hc.below hb.size fun k hk h => by have := ho k h; omega)

/-- Save, Clear, Append of the program's. -/
theorem pairf_save (h : PairF w w1 d D r R F) (s : ByteArray) (hs : s.size ≤ 9223372036854775807) {p : Option Addr} {n c : Nat} {ls : List Bs} (hx : RowsAt w1 (.slice p n c) ls) (hn : n ≤ 140737488355328) (hl : ls.flatten.length ≤ 1048576) :
    Calls Try.prog 25 #[.pointer (some ⟨d, 0, none⟩), .string s, .slice p n c] w1 fun e w' => e = .returned (.int .i64 ((D.save (nm s) ls.flatten).2 : Int)) ∧ PairF w w' d (D.save (nm s) ls.flatten).1 r R F ∧ Same F w1 w' :=
  pairf_disk h (Below.refl _ _) fun _ hS => save_calls hS s hs hx hn hl
theorem pairf_rsave (h : PairF w w1 d D r R F) (s : ByteArray) (hs : s.size ≤ 9223372036854775000) {p : Option Addr} {m c : Nat} {l : Bs} (hx : HasB w1 (.slice p m c) l) (hl : l.length ≤ 1048576) :
    Calls Try.prog 41 #[.pointer (some ⟨r, 0, none⟩), .string s, .slice p m c] w1 fun e w' => e = .returned (.int .i64 ((R.save (nm s) l).2 : Int)) ∧ PairF w w' d D r (R.save (nm s) l).1 F ∧ Same F w1 w' :=
  pairf_ref h fun _ _ _ hR _ => rsave_calls hR s hs hx hl
theorem pairf_clear (h : PairF w w1 d D r R F) (s : ByteArray) {p : Option Addr} {n c : Nat} {stay : List Bs} (hx : HasN w (.slice p n c) stay) (hn : stay.length ≤ 140737488355328) :
    Calls Try.prog 38 #[.pointer (some ⟨d, 0, none⟩), .string s, .slice p n c] w1 fun e w' => e = .returned (.int .i64 ((D.clear (nm s) stay).2 : Int)) ∧ PairF w w' d (D.clear (nm s) stay).1 r R F ∧ Same F w1 w' :=
  pairf_disk h (Below.refl _ _) fun _ hS => clear_calls hS s (fun _ hb _ => hx.far hb) hn
theorem pairf_rclear (h : PairF w w1 d D r R F) (s : ByteArray) (hs : s.size ≤ 9223372036854775807) {p : Option Addr} {n c : Nat} {stay : List Bs} (hx : HasN w (.slice p n c) stay) (hn : stay.length ≤ 140737488355328) :
    Calls Try.prog 43 #[.pointer (some ⟨r, 0, none⟩), .string s, .slice p n c] w1 fun e w' => e = .returned (.int .i64 ((R.clear (nm s) stay).2 : Int)) ∧ PairF w w' d D r (R.clear (nm s) stay).1 F ∧ Same F w1 w' := by
  have hb := h.bel
  exact pairf_ref h fun _ _ _ hR ho => rclear_calls hR s hs (fun W hc => hx.far (chg_bel hb hc fun k hk => (ho k hk).1)) hn
theorem pairf_append (h : PairF w w1 d D r R F) (s : ByteArray) (x : Value) (ls : List Bs) (hx : RowsAt w1 x ls) (hn : ls.length ≤ 140737488355328) (hl : ls.flatten.length ≤ 140737488355328) (hsz : s.size ≤ 9223372036854775807) :
    Calls Try.prog 16 #[.pointer (some ⟨d, 0, none⟩), .string s, x] w1 fun e w' => e = .returned (.int .i64 ((D.append (nm s) ls.flatten).2 : Int)) ∧ PairF w w' d (D.append (nm s) ls.flatten).1 r R F ∧ Same F w1 w' :=
  pairf_disk h (Below.refl _ _) fun _ hS => st_append hS s x ls hx hn hl hsz
theorem pairf_rappend (h : PairF w w1 d D r R F) (s : ByteArray) (hs : s.size ≤ 9223372036854775807) {p : Option Addr} {m c : Nat} {l : Bs} (hx : HasB w (.slice p m c) l) (hl : l.length ≤ 140737488355328) :
    Calls Try.prog 46 #[.pointer (some ⟨r, 0, none⟩), .string s, .slice p m c] w1 fun e w' => e = .returned (.int .i64 ((R.append (nm s) l).2 : Int)) ∧ PairF w w' d D r (R.append (nm s) l).1 F ∧ Same F w1 w' := by
  have hb := h.bel
  exact pairf_ref h fun _ _ _ hR ho => rappend_calls hR s hs (HasB.below hx hb) hl fun hne k hk hok => by
    have h1 := HasB.lt hx hne hk
    have h2 := (ho k hok).1
    omega
end
end Go.Proofs.Ytdlbamhabenhgaa
