/- The document's disk: Append. (Its walk is printed by mkr2.py.) The document's disk: Append onto a file that is not there. (Its walk is printed by mkr2.py.) The document's disk: Append, whole. -/
import Derived.Test.YtdlbamhabenhgaaVG
namespace Go.Proofs.Ytdlbamhabenhgaa
open Go.RowKit Go.Sat Go.Maps

section
variable {w : World} {r : Nat} {v : Value} {L : List RFile} {own : Nat → Prop} {D : DiskM}

theorem RefIn.fit (h : RefIn w r v L own D) : L.length ≤ 4096 := by rw [h.len]; exact h.ok.count

set_option maxRecDepth 100000 in
set_option maxHeartbeats 4000000 in
/-- No room. -/
theorem rappend_full (h : RefIn w r v L own D) (s : ByteArray) (hs : s.size ≤ 9223372036854775807) {pb : Option Addr} {m cb : Nat} (hm2 : m ≤ 140737488355328) (hm : D.may [nm s] = 0)
    (hf : D.room < D.used + m ∨ (Sat.get (nm s) D.files = none ∧ 4096 ≤ D.files.length)) :
    Calls Try.prog 46 #[.pointer (some ⟨r, 0, none⟩), .string s, .slice pb m cb] w (RStep w r own (D, 6)) := by
  have h1 : RefIn (w.alloc (.cells #[.string s] 9)) r v L own D := h.below ((Below.refl _ _).alloc (Nat.le_refl _) _)
  have hmay := rmay_calls h1 (some ⟨w.heap.size, 0, none⟩) [s] 1 (strs_one w s) (by simp) (by simpa using hs)
  simp only [List.map_cons, List.map_nil] at hmay
  have hsp := spot_calls h1 s
  rw [h.is] at hsp
  rw [hm] at hmay
  have Hf := Lib.hid (fun W hb => rstep_same h (w' := W) hb 6)
  have HU := Lib.hid (fun W hb => rused_calls (h.below (w' := W) hb))
  obtain ⟨pv, cv, rfl⟩ := h.slice
  have Hcells := Lib.hid (show ∀ W, Below w.heap.size w W → W.cell? ⟨r, 0, none⟩ = some (.int .i64 (D.room : Int)) ∧ W.cell? ⟨r, 1, none⟩ = some (.slice pv L.length cv) from fun W hb => ⟨(h.below hb).c0, (h.below hb).c1⟩)
  have hub : D.used ≤ 1073741824 := Nat.le_trans h.ok.used h.ok.room
  have hrb := h.ok.room
  have hfit := h.fit
  rw [← h.len] at hf
  generalize spotN (nm s) (L.map RFile.n) = i at *
  clear h h1
  generalize D.used = U at *
  generalize D.room = R at *
  generalize L.length = N at *
  by_cases hA : R < U + m
  · have hd1 : decide ((R : Int) < (U : Int) + (m : Int)) = true := by simp; omega
    have hd2 : decide (R < U + m) = true := by simpa using hA
    clear hf hm
    have Hmay := Lib.hid hmay
    have Hsp := Lib.hid hsp
    clear hmay hsp
    go_enter Try.func46, Try.ntmps46
    go_wp2_with fail
    refine Hmay.out.mono ?_
    rintro e w2 ⟨rfl, rfl⟩
    go_wp2_with fail
    refine Hsp.out.mono ?_
    rintro e w3 ⟨rfl, q, rfl⟩
    have HbW := Lib.hid (below_names w (.cells #[.string s] 9) q)
    have Hused := Lib.hid (fun n => HU.out _ (HbW.out.trans (show Below _ _ (((w.alloc (.cells #[.string s] 9)).drewN q).drewN n) from ⟨rfl, rfl, rfl, Nat.le_refl _, fun _ _ => rfl⟩)))
    obtain ⟨hc0, hc1⟩ := Hcells.out _ HbW.out
    generalize (w.alloc (.cells #[.string s] 9)).drewN q = W at *
    go_wp2_with fail
    go_quiet ((go_at_call 68; refine Calls.quiet_of_same (Hused.out _)))
    clear hc0 hc1
    go_wp2_with fail
    go_ret
    exact Hf.out _ (HbW.out.trans ⟨rfl, rfl, rfl, Nat.le_refl _, fun _ _ => rfl⟩)
  · obtain ⟨hg, h4⟩ : Sat.get (nm s) D.files = none ∧ 4096 ≤ N := by
      rcases hf with hf | hf
      · exact absurd hf hA
      · exact hf
    rw [hg] at hsp
    have hN : N = 4096 := by omega
    subst hN
    have hd1 : decide ((R : Int) < (U : Int) + (m : Int)) = false := by simp; omega
    have hd2 : decide (R < U + m) = false := by simpa using hA
    clear hf hm hg
    have Hmay := Lib.hid hmay
    have Hsp := Lib.hid hsp
    clear hmay hsp
    go_enter Try.func46, Try.ntmps46
    go_wp2_with fail
    refine Hmay.out.mono ?_
    rintro e w2 ⟨rfl, rfl⟩
    go_wp2_with fail
    refine Hsp.out.mono ?_
    rintro e w3 ⟨rfl, q, rfl⟩
    have HbW := Lib.hid (below_names w (.cells #[.string s] 9) q)
    have Hused := Lib.hid (fun n => HU.out _ (HbW.out.trans (show Below _ _ (((w.alloc (.cells #[.string s] 9)).drewN q).drewN n) from ⟨rfl, rfl, rfl, Nat.le_refl _, fun _ _ => rfl⟩)))
    obtain ⟨hc0, hc1⟩ := Hcells.out _ HbW.out
    generalize (w.alloc (.cells #[.string s] 9)).drewN q = W at *
    go_wp2_with fail
    go_quiet ((go_at_call 68; refine Calls.quiet_of_same (Hused.out _)))
    clear hc0 hc1
    go_wp2_with fail
    go_ret
    exact Hf.out _ (HbW.out.trans ⟨rfl, rfl, rfl, Nat.le_refl _, fun _ _ => rfl⟩)
/-- Behind the row that was laid anew: it is written, and the fuse burns on. -/
theorem rapp_end {W w7 : World} {own1 : Nat → Prop} {g i : Nat} {x : RFile} {v7 : Value} {d7 : Bs} {F : List (Bs × FileM)} (hc : RefCore W r v L own1 D.room D.fuse) (hg : v.ownBlock = some g) (hx : L[i]? = some x) (hb : Below W.heap.size W w7) (h7 : OwnB w7 5 v7 d7) (hn7 : ∀ k, v7.ownBlock = some k → W.heap.size ≤ k)
    (hF : F = (L.set i ⟨x.n, v7, ⟨d7, x.f.lasts⟩⟩).map RFile.key) (hok : DiskM.OK { D with files := F }) (hch : Chg own w W) (hx1 : ∀ k, own1 k → own k ∨ w.heap.size ≤ k) (hfz : D.fuse ≠ some 0) :
    Calls Try.prog 76 #[.pointer (some ⟨r, 0, none⟩)] (w7.setCell ⟨g, i * 3 + 1, none⟩ v7) (RStep w r own (DiskM.done { D with files := F }, 0)) := by
  have hk : RefCore w7 r v L own1 D.room D.fuse := hc.keep hb.size fun k hk => hb.block k (hc.olt k hk)
  have hgo := (hc.ov g hg).1
  have hs := hk.store hg hx 1 (by omega) v7 ⟨x.n, v7, ⟨d7, x.f.lasts⟩⟩ rfl (own' := fun k => own1 k ∨ v7.ownBlock = some k) (fun _ h => .inl h) h7
    (fun k hk => ⟨.inr hk, fun e => by have := hc.olt r hc.or; have := hn7 k hk; omega, fun e => by have := hc.olt g hgo; have := hn7 k hk; omega⟩)
    (fun k h => by
      rcases h with h | h
      · exact hk.olt k h
      · exact OwnR.lt h7 h)
  have hin : RefIn (w7.setCell ⟨g, i * 3 + 1, none⟩ v7) r v (L.set i ⟨x.n, v7, ⟨d7, x.f.lasts⟩⟩) (fun k => own1 k ∨ v7.ownBlock = some k) { D with files := F } := hs.full rfl rfl hF hok
  have hsz := hch.size
  have hch2 : Chg own w (w7.setCell ⟨g, i * 3 + 1, none⟩ v7) := by
    refine (hch.trans ((Chg.of_below hb).mono (T := fun _ => False) fun _ _ h => h) fun _ _ h => h.elim).trans (Chg.setCell w7 ⟨g, i * 3 + 1, none⟩ v7) fun k hk e => ?_
    have e : k = g := e
    rcases hx1 g hgo with h | h
    · rw [e]; exact h
    · omega
  refine (rdid_calls hin hfz).mono ?_
  intro e w8 h8
  refine rstep_did hch2 (fun k hk => ?_) hch2.size h8
  rcases hk with hk | hk
  · exact hx1 k hk
  · exact .inr (Nat.le_trans hsz (hn7 k hk))

set_option maxRecDepth 100000 in
set_option maxHeartbeats 8000000 in
/-- The file is there. -/
theorem rappend_is (h : RefIn w r v L own D) (s : ByteArray) (hs : s.size ≤ 9223372036854775807) {pb : Option Addr} {m cb : Nat} {l : Bs} (hl : HasB w (.slice pb m cb) l) (hm : D.may [nm s] = 0) {f : FileM} (hg : Sat.get (nm s) D.files = some f) (hroom : D.used + m ≤ D.room)
    (hok : DiskM.OK { D with files := put (nm s) ⟨f.data ++ l, f.lasts⟩ D.files }) :
    Calls Try.prog 46 #[.pointer (some ⟨r, 0, none⟩), .string s, .slice pb m cb] w (RStep w r own (DiskM.done { D with files := put (nm s) ⟨f.data ++ l, f.lasts⟩ D.files }, 0)) := by
  have hml : m = l.length := (bytes_in hl).1
  have h1 : RefIn (w.alloc (.cells #[.string s] 9)) r v L own D := h.below ((Below.refl _ _).alloc (Nat.le_refl _) _)
  have hmay := rmay_calls h1 (some ⟨w.heap.size, 0, none⟩) [s] 1 (strs_one w s) (by simp) (by simpa using hs)
  simp only [List.map_cons, List.map_nil] at hmay
  have hsp := spot_calls h1 s
  rw [h.is, hg] at hsp
  rw [hm] at hmay
  have HU := Lib.hid (fun W hb => rused_calls (h.below (w' := W) hb))
  obtain ⟨x, hx, hxn, rfl⟩ := h.hit hg
  have hlm := h.len_le hx
  have hxm := List.mem_of_getElem? hx
  have hN : spotN (nm s) (L.map RFile.n) < L.length := (List.getElem?_eq_some_iff.1 hx).1
  rcases h.at with h0 | ⟨g, c0, hgv, hlc, -⟩
  · rw [h0] at hN
    simp at hN
  have hgo : v.ownBlock = some g := by rw [hgv]; rfl
  have hub : D.used ≤ 1073741824 := Nat.le_trans h.ok.used h.ok.room
  have hrb := h.ok.room
  have hput := fun v' => h.put hg ⟨x.n, v', ⟨x.f.data ++ l, x.f.lasts⟩⟩ hxn
  have hfz := may_fuse hm
  obtain ⟨px, cx, ex, hxc⟩ := own_slice (h.data x hxm)
  generalize spotN (nm s) (L.map RFile.n) = i at *
  have Hcells := Lib.hid (show ∀ W, Below w.heap.size w W → W.cell? ⟨r, 0, none⟩ = some (.int .i64 (D.room : Int)) ∧ W.cell? ⟨r, 1, none⟩ = some (.slice (some ⟨g, 0, none⟩) L.length c0) from fun W hb => ⟨(h.below hb).c0, (h.below hb).c1.trans (by rw [hgv])⟩)
  have Hcells2 := Lib.hid (show ∀ W, Below w.heap.size w W → W.cell? ⟨r, 1, none⟩ = some (.slice (some ⟨g, 0, none⟩) L.length c0) ∧ W.cell? ⟨g, i * 3 + 1, none⟩ = some (.slice px x.f.data.length cx) ∧ W.frozen? ⟨g, i * 3 + 1, none⟩ = false from fun W hb => by
    have hW := h.below hb
    exact ⟨hW.c1.trans (by rw [hgv]), (hW.core.at hgo hx).2.1.trans (by rw [ex]), hW.core.free hgo _⟩)
  have Hxd := Lib.hid (show ∀ W, Below w.heap.size w W → Holds W 1 (.slice px x.f.data.length cx) x.f.data.length (bytesV x.f.data) from fun W hb => by
    have hW := ((h.below hb).data x hxm).has
    rw [ex] at hW
    exact hW)
  have Hld := Lib.hid (show ∀ W, Below w.heap.size w W → Holds W 1 (.slice pb m cb) m (bytesV l) from fun W hb => by
    have hW := hl.below hb
    unfold HasB at hW
    rw [← hml] at hW
    exact hW)
  have Hend := Lib.hid (show ∀ w7 v7, Below w.heap.size w w7 → OwnB w7 5 v7 (x.f.data ++ l) → (∀ k, v7.ownBlock = some k → w.heap.size ≤ k) → Calls Try.prog 76 #[.pointer (some ⟨r, 0, none⟩)] (w7.setCell ⟨g, i * 3 + 1, none⟩ v7) (RStep w r own (DiskM.done { D with files := put (nm s) ⟨x.f.data ++ l, x.f.lasts⟩ D.files }, 0)) from
    fun w7 v7 hb h7 hn7 => rapp_end h.core hgo hx hb h7 hn7 (hput v7) hok (Chg.refl _ _) (fun _ h => .inl h) hfz)
  have Hgr := Lib.hid (show r ≠ g from (h.ov g hgo).2.symm)
  have Hlen := Lib.hid (show (x.f.data ++ l).length = x.f.data.length + m from by rw [List.length_append, hml])
  obtain ⟨i0, hi, hz0, hz1, hz2⟩ := info_parts (show (Try.prog.info? 5).map (fun i => (i.zero, i.size, i.bytes)) = some (some (.int .u8 0), 1, 1) by kernel_rfl)
  clear h h1 hm hg hok hx hxm hput hgo ex hml hxc hl hlc hfz
  subst hgv
  generalize hxl : x.f.data.length = mx at *
  have hd1 : decide ((D.room : Int) < (D.used : Int) + (m : Int)) = false := by simp; omega
  have hd2 : decide (D.room < D.used + m) = false := by simp; omega
  generalize D.used = U at *
  generalize hRoom : D.room = R at *
  have Hmay := Lib.hid hmay
  have Hsp := Lib.hid hsp
  clear hmay hsp
  go_enter Try.func46, Try.ntmps46
  go_wp2_with fail
  refine Hmay.out.mono ?_
  rintro e w2 ⟨rfl, rfl⟩
  go_wp2_with fail
  refine Hsp.out.mono ?_
  rintro e w3 ⟨rfl, q, rfl⟩
  have HbW := Lib.hid (below_names w (.cells #[.string s] 9) q)
  have Hused := Lib.hid (fun n => HU.out _ (HbW.out.trans (show Below _ _ (((w.alloc (.cells #[.string s] 9)).drewN q).drewN n) from ⟨rfl, rfl, rfl, Nat.le_refl _, fun _ _ => rfl⟩)))
  obtain ⟨hc0, hc1⟩ := Hcells.out _ HbW.out
  generalize (w.alloc (.cells #[.string s] 9)).drewN q = W at *
  go_wp2_with fail
  go_quiet ((go_at_call 68; refine Calls.quiet_of_same (Hused.out _)))
  clear hc0 hc1
  go_wp2_with fail
  have X0 := Lib.hid (show Below w.heap.size w (W.drewN nq).drew from HbW.out.trans ⟨rfl, rfl, rfl, Nat.le_refl _, fun _ _ => rfl⟩)
  have hS := (Hcells2.out _ X0.out).1
  refine ord_start (fun W' : World => W'.cell? ⟨r, 1, none⟩ = some (.slice (some ⟨g, 0, none⟩) L.length c0)) (n := 20) (by kernel_rfl) rfl hS (fun hHeld => ?_)
  clear hS
  generalize (W.drewN nq).drew = Wd at *
  refine ord_take 0 (v := ?v1x0) rfl (by kernel_rfl) (by kernel_rfl) (by kernel_rfl) (fun _ _ _ h => h) (by rfl) (by assumption) ?y1x0 ?_
  case y1x0 => (intro w hSw; (try dsimp only at hSw); go_simp; try with_reducible rfl)
  simp only [Act.put, List.setIfInBounds_toArray, List.set_cons_zero, List.set_cons_succ]
  refine ord_take 1 (v := ?v1x1) rfl (by kernel_rfl) (by kernel_rfl) (by kernel_rfl) (fun _ _ _ h => h) (by rfl) (by assumption) ?y1x1 ?_
  case y1x1 => (intro w hSw; (try dsimp only at hSw); go_simp; try with_reducible rfl)
  simp only [Act.put, List.setIfInBounds_toArray, List.set_cons_zero, List.set_cons_succ]
  refine ord_take 2 (v := ?v1x2) rfl (by kernel_rfl) (by kernel_rfl) (by kernel_rfl) (fun _ _ _ h => h) (by rfl) (by assumption) ?y1x2 ?_
  case y1x2 => (intro w hSw; (try dsimp only at hSw); go_simp; try with_reducible rfl)
  simp only [Act.put, List.setIfInBounds_toArray, List.set_cons_zero, List.set_cons_succ]
  refine ord_take 3 (v := ?v1x3) rfl (by kernel_rfl) (by kernel_rfl) (by kernel_rfl) (fun _ _ _ h => h) (by rfl) (by assumption) ?y1x3 ?_
  case y1x3 => (intro w hSw; (try dsimp only at hSw); go_simp; try with_reducible rfl)
  simp only [Act.put, List.setIfInBounds_toArray, List.set_cons_zero, List.set_cons_succ]
  refine ord_take 4 (v := ?v1x4) rfl (by kernel_rfl) (by kernel_rfl) (by kernel_rfl) (fun _ _ _ h => h) (by rfl) (by assumption) ?y1x4 ?_
  case y1x4 => (intro w hSw; (try dsimp only at hSw); go_simp; try with_reducible rfl)
  simp only [Act.put, List.setIfInBounds_toArray, List.set_cons_zero, List.set_cons_succ]
  refine ord_take 6 (v := ?v1x6) rfl (by kernel_rfl) (by kernel_rfl) (by kernel_rfl) (fun _ _ _ h => h) (by rfl) (by assumption) ?y1x6 ?_
  case y1x6 => (intro w hSw; (try dsimp only at hSw); go_simp; try with_reducible rfl)
  simp only [Act.put, List.setIfInBounds_toArray, List.set_cons_zero, List.set_cons_succ]
  refine ord_take 7 (v := ?v1x7) rfl (by kernel_rfl) (by kernel_rfl) (by kernel_rfl) (fun _ _ _ h => h) (by rfl) (by assumption) ?y1x7 ?_
  case y1x7 => (intro w hSw; (try dsimp only at hSw); go_simp; try with_reducible rfl)
  simp only [Act.put, List.setIfInBounds_toArray, List.set_cons_zero, List.set_cons_succ]
  refine ord_take 8 (v := ?v1x8) rfl (by kernel_rfl) (by kernel_rfl) (by kernel_rfl) (fun _ _ _ h => h) (by rfl) (by assumption) ?y1x8 ?_
  case y1x8 => (intro w hSw; (try dsimp only at hSw); go_simp; try with_reducible rfl)
  simp only [Act.put, List.setIfInBounds_toArray, List.set_cons_zero, List.set_cons_succ]
  refine ord_take 9 (v := ?v1x9) rfl (by kernel_rfl) (by kernel_rfl) (by kernel_rfl) (fun _ _ _ h => h) (by rfl) (by assumption) ?y1x9 ?_
  case y1x9 => (intro w hSw; (try dsimp only at hSw); go_simp; try with_reducible rfl)
  simp only [Act.put, List.setIfInBounds_toArray, List.set_cons_zero, List.set_cons_succ]
  refine ord_take 10 (v := ?v1x10) rfl (by kernel_rfl) (by kernel_rfl) (by kernel_rfl) (fun _ _ _ h => h) (by rfl) (by assumption) ?y1x10 ?_
  case y1x10 => (intro w hSw; (try dsimp only at hSw); go_simp; try with_reducible rfl)
  simp only [Act.put, List.setIfInBounds_toArray, List.set_cons_zero, List.set_cons_succ]
  refine ord_take 11 (v := ?v1x11) rfl (by kernel_rfl) (by kernel_rfl) (by kernel_rfl) (fun _ _ _ h => h) (by rfl) (by assumption) ?y1x11 ?_
  case y1x11 => (intro w hSw; (try dsimp only at hSw); go_simp; try with_reducible rfl)
  simp only [Act.put, List.setIfInBounds_toArray, List.set_cons_zero, List.set_cons_succ]
  refine ord_take 12 (v := ?v1x12) rfl (by kernel_rfl) (by kernel_rfl) (by kernel_rfl) (fun _ _ _ h => h) (by rfl) (by assumption) ?y1x12 ?_
  case y1x12 => (intro w hSw; (try dsimp only at hSw); go_simp; try with_reducible rfl)
  simp only [Act.put, List.setIfInBounds_toArray, List.set_cons_zero, List.set_cons_succ]
  refine ord_take 15 (v := ?v1x15) rfl (by kernel_rfl) (by kernel_rfl) (by kernel_rfl) (fun _ _ _ h => h) (by rfl) (by assumption) ?y1x15 ?_
  case y1x15 => (intro w hSw; (try dsimp only at hSw); go_simp; try with_reducible rfl)
  simp only [Act.put, List.setIfInBounds_toArray, List.set_cons_zero, List.set_cons_succ]
  refine ord_two 5 13 rfl rfl (by kernel_rfl) (by rfl) (by rfl) (fun K hK => ?_) (fun K hK => ?_)
  · go_wp2_with fail
    have X1 := Lib.hid (X0.out.alloc X0.out.size (.cells #[] 5))
    refine hK.out _ _ ((Hcells2.out _ X1.out).1) (fun hHeld => ?_)
    clear hK
    try simp only [Act.put, List.setIfInBounds_toArray, List.set_cons_zero, List.set_cons_succ]
    refine ord_one 13 rfl (by kernel_rfl) (by rfl) (fun K hK => ?_)
    have hc2 := (Hcells2.out _ X1.out).2.1
    go_wp2_with fail
    clear hc2
    refine hK.out _ _ ((Hcells2.out _ X1.out).1) (fun hHeld => ?_)
    clear hK
    try simp only [Act.put, List.setIfInBounds_toArray, List.set_cons_zero, List.set_cons_succ]
    refine ord_one 14 rfl (by kernel_rfl) (by rfl) (fun K hK => ?_)
    have hown0 := own_empty Wd 5
    have hxd := Hxd.out _ X1.out
    refine wp_app (.tmp 77) (.tmp 85) 23 (by rfl) 5 i0 (.int .u8 0) 1 1 Try.underlying23 hi hz0 hz1 hz2 rfl (by decide) (.slice (some ⟨Wd.heap.size, 0, none⟩) 0 0) 0 [] (by rfl) hown0 (.slice px mx cx) mx _ (by rfl) hxd (bytesV_one _) (by unfold maxLen; omega) (by omega) ?_
    clear hown0 hxd
    intro v6 w6 hown6 hgrow6 hloc6
    have X6 := Lib.hid (X1.out.grown hgrow6 X1.out.size (fun j e => by have := X0.out.size; simp [Value.ownBlock] at e; omega))
    have hnew6 := own_ge (B := w.heap.size) hloc6 (fun k hk => by have := X0.out.size; simp [Value.ownBlock] at hk; omega) X1.out.size
    rw [Nat.zero_add, List.nil_append] at hown6
    obtain ⟨p6, c6, rfl⟩ := OwnR.shape hown6
    have Hown6 := Lib.hid hown6
    have Hnew6 := Lib.hid hnew6
    clear hgrow6 hloc6 hown6 hnew6
    refine hK.out _ _ ((Hcells2.out _ X6.out).1) (fun hHeld => ?_)
    clear hK
    try simp only [Act.put, List.setIfInBounds_toArray, List.set_cons_zero, List.set_cons_succ]
    refine ord_one 16 rfl (by kernel_rfl) (by rfl) (fun K hK => ?_)
    have hld := Hld.out _ X6.out
    refine wp_app (.tmp 86) (.tmp 87) 23 (by rfl) 5 i0 (.int .u8 0) 1 1 Try.underlying23 hi hz0 hz1 hz2 rfl (by decide) (.slice p6 mx c6) mx _ (by rfl) Hown6.out (.slice pb m cb) m _ (by rfl) hld (bytesV_one _) (by unfold maxLen; omega) (by omega) ?_
    clear hld
    intro v7 w7 hown7 hgrow7 hloc7
    have X7 := Lib.hid (X6.out.grown hgrow7 X6.out.size Hnew6.out)
    have hnew7 := own_ge (B := w.heap.size) hloc7 Hnew6.out X6.out.size
    obtain ⟨p7, c7, rfl⟩ := OwnR.shape hown7
    rw [← bytesV_app] at hown7
    have Hend7 := Lib.hid (Hend.out w7 (.slice p7 (mx + m) c7) X7.out (by unfold OwnB; rw [Hlen.out]; exact hown7) hnew7)
    clear hgrow7 hloc7 hown7 hnew7
    refine hK.out _ _ ((Hcells2.out _ X7.out).1) (fun hHeld => ?_)
    clear hK
    try simp only [Act.put, List.setIfInBounds_toArray, List.set_cons_zero, List.set_cons_succ]
    refine ord_take 17 (v := ?v2x17) rfl (by kernel_rfl) (by kernel_rfl) (by kernel_rfl) (fun _ _ _ h => h) (by rfl) (by assumption) ?y2x17 ?_
    case y2x17 => (intro w hSw; (try dsimp only at hSw); go_simp; try with_reducible rfl)
    simp only [Act.put, List.setIfInBounds_toArray, List.set_cons_zero, List.set_cons_succ]
    refine ord_take 18 (v := ?v2x18) rfl (by kernel_rfl) (by kernel_rfl) (by kernel_rfl) (fun _ _ _ h => h) (by rfl) (by assumption) ?y2x18 ?_
    case y2x18 => (intro w hSw; (try dsimp only at hSw); go_simp; try with_reducible rfl)
    simp only [Act.put, List.setIfInBounds_toArray, List.set_cons_zero, List.set_cons_succ]
    refine ord_one 19 rfl (by kernel_rfl) (by rfl) (fun K hK => ?_)
    obtain ⟨hc1, hc2, hfz1⟩ := Hcells2.out _ X7.out
    go_wp2_with fail
    have hcs : (w7.setCell ⟨g, i * 3 + 1, none⟩ (.slice p7 (mx + m) c7)).cell? ⟨r, 1, none⟩ = some (.slice (some ⟨g, 0, none⟩) L.length c0) := (World.cell?_of_block (set_other _ Hgr.out)).trans hc1
    clear hc1 hc2 hfz1
    refine hK.out _ _ (hcs) (fun hHeld => ?_)
    clear hK
    try simp only [Act.put, List.setIfInBounds_toArray, List.set_cons_zero, List.set_cons_succ]
    refine wpAnyH_done (by kernel_rfl) ?_ _
    clear hHeld
    go_wp2_with fail
    refine Hend7.out.mono ?_
    intro e w8 hE
    have HE := Lib.hid hE
    obtain ⟨rfl, -⟩ := hE
    go_wp2_with fail
    go_ret
    exact HE.out
  · have hc2 := (Hcells2.out _ X0.out).2.1
    go_wp2_with fail
    clear hc2
    refine hK.out _ _ ((Hcells2.out _ X0.out).1) (fun hHeld => ?_)
    clear hK
    try simp only [Act.put, List.setIfInBounds_toArray, List.set_cons_zero, List.set_cons_succ]
    refine ord_one 5 rfl (by kernel_rfl) (by rfl) (fun K hK => ?_)
    go_wp2_with fail
    have X1 := Lib.hid (X0.out.alloc X0.out.size (.cells #[] 5))
    refine hK.out _ _ ((Hcells2.out _ X1.out).1) (fun hHeld => ?_)
    clear hK
    try simp only [Act.put, List.setIfInBounds_toArray, List.set_cons_zero, List.set_cons_succ]
    refine ord_one 14 rfl (by kernel_rfl) (by rfl) (fun K hK => ?_)
    have hown0 := own_empty Wd 5
    have hxd := Hxd.out _ X1.out
    refine wp_app (.tmp 77) (.tmp 85) 23 (by rfl) 5 i0 (.int .u8 0) 1 1 Try.underlying23 hi hz0 hz1 hz2 rfl (by decide) (.slice (some ⟨Wd.heap.size, 0, none⟩) 0 0) 0 [] (by rfl) hown0 (.slice px mx cx) mx _ (by rfl) hxd (bytesV_one _) (by unfold maxLen; omega) (by omega) ?_
    clear hown0 hxd
    intro v6 w6 hown6 hgrow6 hloc6
    have X6 := Lib.hid (X1.out.grown hgrow6 X1.out.size (fun j e => by have := X0.out.size; simp [Value.ownBlock] at e; omega))
    have hnew6 := own_ge (B := w.heap.size) hloc6 (fun k hk => by have := X0.out.size; simp [Value.ownBlock] at hk; omega) X1.out.size
    rw [Nat.zero_add, List.nil_append] at hown6
    obtain ⟨p6, c6, rfl⟩ := OwnR.shape hown6
    have Hown6 := Lib.hid hown6
    have Hnew6 := Lib.hid hnew6
    clear hgrow6 hloc6 hown6 hnew6
    refine hK.out _ _ ((Hcells2.out _ X6.out).1) (fun hHeld => ?_)
    clear hK
    try simp only [Act.put, List.setIfInBounds_toArray, List.set_cons_zero, List.set_cons_succ]
    refine ord_one 16 rfl (by kernel_rfl) (by rfl) (fun K hK => ?_)
    have hld := Hld.out _ X6.out
    refine wp_app (.tmp 86) (.tmp 87) 23 (by rfl) 5 i0 (.int .u8 0) 1 1 Try.underlying23 hi hz0 hz1 hz2 rfl (by decide) (.slice p6 mx c6) mx _ (by rfl) Hown6.out (.slice pb m cb) m _ (by rfl) hld (bytesV_one _) (by unfold maxLen; omega) (by omega) ?_
    clear hld
    intro v7 w7 hown7 hgrow7 hloc7
    have X7 := Lib.hid (X6.out.grown hgrow7 X6.out.size Hnew6.out)
    have hnew7 := own_ge (B := w.heap.size) hloc7 Hnew6.out X6.out.size
    obtain ⟨p7, c7, rfl⟩ := OwnR.shape hown7
    rw [← bytesV_app] at hown7
    have Hend7 := Lib.hid (Hend.out w7 (.slice p7 (mx + m) c7) X7.out (by unfold OwnB; rw [Hlen.out]; exact hown7) hnew7)
    clear hgrow7 hloc7 hown7 hnew7
    refine hK.out _ _ ((Hcells2.out _ X7.out).1) (fun hHeld => ?_)
    clear hK
    try simp only [Act.put, List.setIfInBounds_toArray, List.set_cons_zero, List.set_cons_succ]
    refine ord_take 17 (v := ?v3x17) rfl (by kernel_rfl) (by kernel_rfl) (by kernel_rfl) (fun _ _ _ h => h) (by rfl) (by assumption) ?y3x17 ?_
    case y3x17 => (intro w hSw; (try dsimp only at hSw); go_simp; try with_reducible rfl)
    simp only [Act.put, List.setIfInBounds_toArray, List.set_cons_zero, List.set_cons_succ]
    refine ord_take 18 (v := ?v3x18) rfl (by kernel_rfl) (by kernel_rfl) (by kernel_rfl) (fun _ _ _ h => h) (by rfl) (by assumption) ?y3x18 ?_
    case y3x18 => (intro w hSw; (try dsimp only at hSw); go_simp; try with_reducible rfl)
    simp only [Act.put, List.setIfInBounds_toArray, List.set_cons_zero, List.set_cons_succ]
    refine ord_one 19 rfl (by kernel_rfl) (by rfl) (fun K hK => ?_)
    obtain ⟨hc1, hc2, hfz1⟩ := Hcells2.out _ X7.out
    go_wp2_with fail
    have hcs : (w7.setCell ⟨g, i * 3 + 1, none⟩ (.slice p7 (mx + m) c7)).cell? ⟨r, 1, none⟩ = some (.slice (some ⟨g, 0, none⟩) L.length c0) := (World.cell?_of_block (set_other _ Hgr.out)).trans hc1
    clear hc1 hc2 hfz1
    refine hK.out _ _ (hcs) (fun hHeld => ?_)
    clear hK
    try simp only [Act.put, List.setIfInBounds_toArray, List.set_cons_zero, List.set_cons_succ]
    refine wpAnyH_done (by kernel_rfl) ?_ _
    clear hHeld
    go_wp2_with fail
    refine Hend7.out.mono ?_
    intro e w8 hE
    have HE := Lib.hid hE
    obtain ⟨rfl, -⟩ := hE
    go_wp2_with fail
    go_ret
    exact HE.out
end
end Go.Proofs.Ytdlbamhabenhgaa

namespace Go.Sat
open Go Go.RowKit
theorem own_emptyS (w : World) (e : TypeId) (size : Nat) : OwnR (w.alloc (.cells #[] e)) e size (.slice (some ⟨w.heap.size, 0, none⟩) 0 0) 0 [] :=
  ⟨by simp, .inr ⟨_, 0, #[], rfl, new_block w _, Nat.le_refl _, Nat.zero_le _, by simp, by simp⟩⟩
theorem holds_lit (w : World) (cs : Array Value) (xs : List Value) (size n c : Nat) (hl : cs.toList = xs) (hx : xs.length = n * size) (e : TypeId) (fr : Nat × Nat) : Holds (w.alloc (.cells cs e fr)) size (.slice (some ⟨w.heap.size, 0, none⟩) n c) n xs := by
  refine ⟨hx, some ⟨w.heap.size, 0, none⟩, c, rfl, fun e => (by cases e), fun a ha i u hu => ?_⟩
  cases ha
  rw [add_zero]
  refine cell_of (new_block w _) ?_
  rw [← hl] at hu
  simpa using hu
end Go.Sat
namespace Go.Proofs.Ytdlbamhabenhgaa
open Go.RowKit Go.Sat Go.Maps

theorem has_void {w w' : World} {v : Value} {l : Bs} (h : HasB w v l) (hl : l = []) : HasB w' v l := by
  subst hl
  obtain ⟨hl, p, c, e, h0, -⟩ := h
  exact ⟨hl, p, c, e, h0, fun a ha i u hu => by simp [bytesV] at hu⟩

section
variable {w : World} {r : Nat} {v : Value} {L : List RFile} {own : Nat → Prop} {D : DiskM}

def nilF (n : Bs) : RFile := ⟨n, .slice none 0 0, ⟨[], 0⟩⟩

theorem new_cells (L : List RFile) (i : Nat) (n : Bs) : (L.take i ++ nilF n :: L.drop i).flatMap RFile.cells = ((L.flatMap RFile.cells).take (i * 3) ++ (nilF n).cells) ++ (L.flatMap RFile.cells).drop (i * 3) := by
  rw [List.flatMap_append, List.flatMap_cons, cells_take, cells_drop, List.append_assoc]

theorem RefIn.putn (h : RefIn w r v L own D) {n : Bs} (hg : Sat.get n D.files = none) (v' : Value) (f : FileM) : Sat.put n f D.files = ((L.take (spotN n (L.map RFile.n)) ++ nilF n :: L.drop (spotN n (L.map RFile.n))).set (spotN n (L.map RFile.n)) ⟨n, v', f⟩).map RFile.key := by
  have hle : spotN n (L.map RFile.n) ≤ L.length := by have := spotN_le n (L.map RFile.n); rwa [List.length_map] at this
  have h1 : Sat.put n f D.files = ins (n, f) D.files := by unfold Sat.put; rw [del_none hg]
  rw [h1, ins_at n f h.ok.srt hg, ← h.names, h.files]
  generalize spotN n (L.map RFile.n) = i at *
  rw [List.set_append_right _ _ (by rw [List.length_take]; omega), List.length_take, Nat.min_eq_left hle, Nat.sub_self, List.set_cons_zero, List.map_append, List.map_cons, List.map_take, List.map_drop]
  rfl

set_option maxRecDepth 100000 in
set_option maxHeartbeats 8000000 in
/-- The file is not there. -/
theorem rappend_new (h : RefIn w r v L own D) (s : ByteArray) (hs : s.size ≤ 9223372036854775807) {pb : Option Addr} {m cb : Nat} {l : Bs} (hl : HasB w (.slice pb m cb) l) (hno : l ≠ [] → ∀ k, (Value.slice pb m cb).ownBlock = some k → ¬ own k) (hm : D.may [nm s] = 0) (hg : Sat.get (nm s) D.files = none) (hroom : D.used + m ≤ D.room) (hcnt : D.files.length < 4096)
    (hok : DiskM.OK { D with files := put (nm s) ⟨[] ++ l, 0⟩ D.files }) :
    Calls Try.prog 46 #[.pointer (some ⟨r, 0, none⟩), .string s, .slice pb m cb] w (RStep w r own (DiskM.done { D with files := put (nm s) ⟨[] ++ l, 0⟩ D.files }, 0)) := by
  have hml : m = l.length := (bytes_in hl).1
  have h1 : RefIn (w.alloc (.cells #[.string s] 9)) r v L own D := h.below ((Below.refl _ _).alloc (Nat.le_refl _) _)
  have hmay := rmay_calls h1 (some ⟨w.heap.size, 0, none⟩) [s] 1 (strs_one w s) (by simp) (by simpa using hs)
  simp only [List.map_cons, List.map_nil] at hmay
  have hsp := spot_calls h1 s
  rw [h.is, hg] at hsp
  rw [hm] at hmay
  have HU := Lib.hid (fun W hb => rused_calls (h.below (w' := W) hb))
  have hub : D.used ≤ 1073741824 := Nat.le_trans h.ok.used h.ok.room
  have hrb := h.ok.room
  have hput := fun v' => h.putn hg v' ⟨[] ++ l, 0⟩
  have hfz := may_fuse hm
  rw [← h.len] at hcnt
  have hle : spotN (nm s) (L.map RFile.n) ≤ L.length := by have := spotN_le (nm s) (L.map RFile.n); rwa [List.length_map] at this
  obtain ⟨pv, cv, hgv⟩ := h.slice
  have hNc : L.length ≤ cv := by
    rcases h.at with h0 | ⟨g, c0, e, hc, -⟩
    · rw [h0]; exact Nat.zero_le _
    · rw [hgv] at e; cases e; exact hc
  generalize spotN (nm s) (L.map RFile.n) = i at *
  have Hcells := Lib.hid (show ∀ W, Below w.heap.size w W → W.cell? ⟨r, 0, none⟩ = some (.int .i64 (D.room : Int)) ∧ W.cell? ⟨r, 1, none⟩ = some (.slice pv L.length cv) from fun W hb => ⟨(h.below hb).c0, (h.below hb).c1.trans (by rw [hgv])⟩)
  have Hfr := Lib.hid (show ∀ W, Below w.heap.size w W → W.frozen? ⟨r, 1, none⟩ = false from fun W hb => frozen_of (h.below hb).cells 1)
  have Hrow := Lib.hid (show ∀ W, Below w.heap.size w W → OwnR W 96 3 (.slice pv L.length cv) L.length (L.flatMap RFile.cells) from fun W hb => by rw [← hgv]; exact (h.below hb).row)
  have Hone := Lib.hid (cells_one h.core.one)
  have Hl := Lib.hid hl
  have Hml := Lib.hid hml
  have Hno := Lib.hid hno
  have Hput := Lib.hid hput
  have Hok := Lib.hid hok
  have Hfz := Lib.hid hfz
  have H := Lib.hid h
  obtain ⟨i0, hi, hz0, hz1, hz2⟩ := info_parts (show (Try.prog.info? 5).map (fun i => (i.zero, i.size, i.bytes)) = some (some (.int .u8 0), 1, 1) by kernel_rfl)
  obtain ⟨iF, hFi, hF0, hF1, hF2⟩ := info_parts (show (Try.prog.info? 96).map (fun i => (i.zero, i.size, i.bytes)) = some (some (.agg #[.string ⟨#[]⟩, .slice none 0 0, .int .i64 0]), 3, 48) by kernel_rfl)
  have hs1 : ∀ W, (Instr.slice 92 (.slice pv L.length cv) none (some (.int .i64 (i : Int))) none).run Try.prog W = .ok (.slice pv i cv) W := fun W => run_upto W Try.underlying92 hFi pv _ cv i (by omega)
  have hs2 : ∀ W, (Instr.slice 92 (.slice pv L.length cv) (some (.int .i64 (i : Int))) none none).run Try.prog W = .ok (.slice (if cv - i = 0 then pv else pv.map fun x => x.add (i * 3)) (L.length - i) (cv - i)) W := fun W => by
    have := run_from_any (P := Try.prog) W Try.underlying92 hFi pv L.length cv i hle hNc
    rw [hF1] at this
    exact this
  have Hfrom := Lib.hid (show ∀ W, Below w.heap.size w W → Holds W 3 (.slice (if cv - i = 0 then pv else pv.map fun x => x.add (i * 3)) (L.length - i) (cv - i)) (L.length - i) ((L.flatMap RFile.cells).drop (i * 3)) from fun W hb => OwnR.cut_from (Hrow.out W hb) hle)
  generalize hpF : (if cv - i = 0 then pv else pv.map fun x => x.add (i * 3)) = pF at *
  clear h h1 hm hg hok hput hml hl hfz hno hpF
  subst hgv
  have hd1 : decide ((D.room : Int) < (D.used : Int) + (m : Int)) = false := by simp; omega
  have hd2 : decide (D.room < D.used + m) = false := by simp; omega
  generalize hU : D.used = U at *
  generalize hN : L.length = N at *
  have HN := Lib.hid hN
  clear hN hU
  have Hmay := Lib.hid hmay
  have Hsp := Lib.hid hsp
  clear hmay hsp
  go_enter Try.func46, Try.ntmps46
  go_wp2_with fail
  refine Hmay.out.mono ?_
  rintro e w2 ⟨rfl, rfl⟩
  go_wp2_with fail
  refine Hsp.out.mono ?_
  rintro e w3 ⟨rfl, q, rfl⟩
  have HbW := Lib.hid (below_names w (.cells #[.string s] 9) q)
  have Hused := Lib.hid (fun n => HU.out _ (HbW.out.trans (show Below _ _ (((w.alloc (.cells #[.string s] 9)).drewN q).drewN n) from ⟨rfl, rfl, rfl, Nat.le_refl _, fun _ _ => rfl⟩)))
  obtain ⟨hc0, hc1⟩ := Hcells.out _ HbW.out
  generalize (w.alloc (.cells #[.string s] 9)).drewN q = W at *
  go_wp2_with fail
  go_quiet ((go_at_call 68; refine Calls.quiet_of_same (Hused.out _)))
  clear hc0 hc1
  have X0 := Lib.hid (show Below w.heap.size w (W.drewN nq) from HbW.out.trans ⟨rfl, rfl, rfl, Nat.le_refl _, fun _ _ => rfl⟩)
  generalize W.drewN nq = Wq at *
  have X1 := Lib.hid (X0.out.alloc X0.out.size (.cells #[] 96))
  have hc1a := (Hcells.out _ X1.out).2
  have Hup := Lib.hid (show Holds (Wq.alloc (.cells #[] 96)) 3 (.slice pv i cv) i ((L.flatMap RFile.cells).take (i * 3)) from Holds.upto (OwnR.holds (Hrow.out _ X1.out)) hle cv)
  go_wp2_with (first | (at_builtin; refine wpList_app (Wq.alloc (.cells #[] 96)) rfl (.tmp 48) (.tmp 54) 92 rfl 96 iF _ 3 48 Try.underlying92 hFi hF0 hF1 hF2 rfl (by decide) (.slice (some ⟨Wq.heap.size, 0, none⟩) 0 0) 0 [] rfl (own_emptyS Wq _ 3) (.slice pv i cv) i _ rfl Hup.out (fun u hu => Hone.out u (List.mem_of_mem_take hu)) (by unfold maxLen; omega) (by omega) ?_; intro v12 w12 hown12 hgrow12 hloc12; rw [Nat.zero_add, List.nil_append] at hown12; have hX := X1.out.grown hgrow12 X1.out.size (fun j e => by have := X0.out.size; simp [Value.ownBlock] at e; omega); have hnew := own_ge (B := w.heap.size) hloc12 (fun k hk => by have := X0.out.size; simp [Value.ownBlock] at hk; omega) X1.out.size; obtain ⟨p12, c12, rfl⟩ := OwnR.shape hown12; have X12 := Lib.hid (And.intro hX (And.intro hown12 hnew)); clear hown12 hgrow12 hloc12 hX hnew hc1a) | (at_builtin; refine wpList_app (w12.alloc (.cells #[.string s, .slice none 0 0, .int .i64 0] 96)) rfl (.tmp 56) (.tmp 59) 92 rfl 96 iF _ 3 48 Try.underlying92 hFi hF0 hF1 hF2 rfl (by decide) (.slice p12 i c12) i _ rfl (OwnR.keep X12.out.2.1 fun j hj => heap_alloc_old w12 _ (OwnR.lt X12.out.2.1 hj)) (.slice (some ⟨w12.heap.size, 0, none⟩) 1 1) 1 [.string s, .slice none 0 0, .int .i64 0] rfl (holds_lit w12 #[.string s, .slice none 0 0, .int .i64 0] _ 3 1 1 rfl rfl _ _) (fun u hu => by simp at hu; rcases hu with rfl | rfl | rfl <;> rfl) (by unfold maxLen; omega) (by omega) ?_; intro v13 w13 hown13 hgrow13 hloc13; have hXa := X12.out.1.alloc X12.out.1.size (.cells #[.string s, .slice none 0 0, .int .i64 0] 96); have hX := hXa.grown hgrow13 hXa.size (fun j hj => X12.out.2.2 j hj); have hnew := own_ge (B := w.heap.size) hloc13 X12.out.2.2 hXa.size; obtain ⟨p13, c13, rfl⟩ := OwnR.shape hown13; have X13 := Lib.hid (And.intro hX (And.intro hown13 hnew)); have hc1b := (Hcells.out _ X13.out.1).2; clear hown13 hgrow13 hloc13 hX hnew hXa) | (at_builtin; refine wpList_app w13 rfl (.tmp 62) (.tmp 68) 92 rfl 96 iF _ 3 48 Try.underlying92 hFi hF0 hF1 hF2 rfl (by decide) (.slice p13 (i + 1) c13) (i + 1) _ rfl X13.out.2.1 (.slice pF (N - i) (cv - i)) (N - i) _ rfl (Hfrom.out w13 X13.out.1) (fun u hu => Hone.out u (List.mem_of_mem_drop hu)) (by unfold maxLen; omega) (by omega) ?_; intro v14 w14 hown14 hgrow14 hloc14; have hX := X13.out.1.grown hgrow14 X13.out.1.size (fun j hj => X13.out.2.2 j hj); have hnew := own_ge (B := w.heap.size) hloc14 X13.out.2.2 X13.out.1.size; obtain ⟨p14, c14, rfl⟩ := OwnR.shape hown14; have X14 := Lib.hid (And.intro hX (And.intro hown14 hnew)); have hc1c := (Hcells.out _ X14.out.1).2; have hfrc := Hfr.out _ X14.out.1; clear hown14 hgrow14 hloc14 hX hnew hc1b))
  clear hc1c hfrc
  have hrow := X14.out.2.1
  have hcore0 := (H.out.below X14.out.1).core
  have es : Value.string s = encStr (nm s) := by rw [enc_str]; simp [nm]
  have hlen' : (L.take i ++ nilF (nm s) :: L.drop i).length = i + 1 + (N - i) := by
    rw [List.length_append, List.length_take, List.length_cons, List.length_drop, HN.out]
    omega
  have hrow' : OwnR w14 96 3 (.slice p14 (i + 1 + (N - i)) c14) (L.take i ++ nilF (nm s) :: L.drop i).length ((L.take i ++ nilF (nm s) :: L.drop i).flatMap RFile.cells) := by
    rw [new_cells, hlen']
    show OwnR w14 _ 3 _ _ (((L.flatMap RFile.cells).take (i * 3) ++ [encStr (nm s), .slice none 0 0, .int .i64 0]) ++ _)
    rw [← es]
    exact hrow
  have hfresh : ∀ k, (Value.slice p14 (i + 1 + (N - i)) c14).ownBlock = some k → ¬ own k := fun k hk ho => by
    have h1 := X14.out.2.2 k hk
    have h2 := H.out.olt k ho
    omega
  have hcore := hcore0.relist hrow' (fun x hx => by
    rcases List.mem_append.1 hx with hx | hx
    · exact .inl (List.mem_of_mem_take hx)
    · rcases List.mem_cons.1 hx with rfl | hx
      · exact .inr ⟨OwnR.nil _ _ _, fun k hk => by cases hk⟩
      · exact .inl (List.mem_of_mem_drop hx)) hfresh
  have hld : HasB (w14.setCell ⟨r, 1, none⟩ (.slice p14 (i + 1 + (N - i)) c14)) (.slice pb m cb) l := by
    by_cases hl0 : l = []
    · exact has_void Hl.out hl0
    · exact Hl.out.same fun k hk => by
        have h1 := Hl.out.lt hl0 hk
        have h2 : k ≠ r := fun e => Hno.out hl0 k hk (by rw [e]; exact H.out.or)
        exact (set_other _ h2).trans (X14.out.1.block k h1)
  have hch : Chg own w (w14.setCell ⟨r, 1, none⟩ (.slice p14 (i + 1 + (N - i)) c14)) := chg_below X14.out.1 (chg_own H.out.or)
  have hx1 : ∀ k, (own k ∨ (Value.slice p14 (i + 1 + (N - i)) c14).ownBlock = some k) → own k ∨ w.heap.size ≤ k := fun k hk => hk.imp id (X14.out.2.2 k)
  have hxi : (L.take i ++ nilF (nm s) :: L.drop i)[i]? = some (nilF (nm s)) := by
    rw [List.getElem?_append_right (by rw [List.length_take]; omega), List.length_take, HN.out, Nat.min_eq_left hle, Nat.sub_self]
    rfl
  obtain ⟨g, rfl⟩ : ∃ g, p14 = some ⟨g, 0, none⟩ := by
    rcases hrow.2 with ⟨e, hn⟩ | ⟨g', cap, cur, e, _⟩
    · omega
    · cases e
      exact ⟨g', rfl⟩
  have Hgr := Lib.hid (show r ≠ g from (hcore.ov g rfl).2.symm)
  have Hcore := Lib.hid hcore
  have Hcells2 := Lib.hid (show ∀ W, Below (w14.setCell ⟨r, 1, none⟩ (.slice (some ⟨g, 0, none⟩) (i + 1 + (N - i)) c14)).heap.size (w14.setCell ⟨r, 1, none⟩ (.slice (some ⟨g, 0, none⟩) (i + 1 + (N - i)) c14)) W → W.cell? ⟨r, 1, none⟩ = some (.slice (some ⟨g, 0, none⟩) (i + 1 + (N - i)) c14) ∧ W.cell? ⟨g, i * 3 + 1, none⟩ = some (.slice none 0 0) ∧ W.frozen? ⟨g, i * 3 + 1, none⟩ = false from fun W hb => by
    have hW := hcore.keep (w' := W) hb.size fun k hk => hb.block k (hcore.olt k hk)
    exact ⟨hW.c1, (hW.at rfl hxi).2.1, hW.free rfl _⟩)
  have Hxd := Lib.hid (fun (W : World) (_ : Below (w14.setCell ⟨r, 1, none⟩ (.slice (some ⟨g, 0, none⟩) (i + 1 + (N - i)) c14)).heap.size (w14.setCell ⟨r, 1, none⟩ (.slice (some ⟨g, 0, none⟩) (i + 1 + (N - i)) c14)) W) => (show Holds W 1 (.slice none 0 0) 0 (bytesV []) from ⟨rfl, none, 0, rfl, fun _ => rfl, fun a ha => by cases ha⟩))
  have Hld := Lib.hid (fun (W : World) (hb : Below (w14.setCell ⟨r, 1, none⟩ (.slice (some ⟨g, 0, none⟩) (i + 1 + (N - i)) c14)).heap.size (w14.setCell ⟨r, 1, none⟩ (.slice (some ⟨g, 0, none⟩) (i + 1 + (N - i)) c14)) W) => (show Holds W 1 (.slice pb m cb) m (bytesV l) from by
    have hW := hld.below hb
    unfold HasB at hW
    rw [← Hml.out] at hW
    exact hW))
  have Hend := Lib.hid (fun (w7 : World) (v7 : Value) (hb : Below (w14.setCell ⟨r, 1, none⟩ (.slice (some ⟨g, 0, none⟩) (i + 1 + (N - i)) c14)).heap.size (w14.setCell ⟨r, 1, none⟩ (.slice (some ⟨g, 0, none⟩) (i + 1 + (N - i)) c14)) w7) (h7 : OwnB w7 5 v7 ([] ++ l)) (hn7 : ∀ k, v7.ownBlock = some k → (w14.setCell ⟨r, 1, none⟩ (.slice (some ⟨g, 0, none⟩) (i + 1 + (N - i)) c14)).heap.size ≤ k) => rapp_end (D := D) hcore rfl hxi hb h7 hn7 (Hput.out v7) Hok.out hch hx1 Hfz.out)
  have Hlen := Lib.hid (show ([] ++ l : Bs).length = m from by rw [List.nil_append, Hml.out])
  clear hrow hcore0 es hlen' hrow' hfresh hcore hld hch hx1 hxi Hcore X0 X1 X12 X13 X14 Hup
  generalize w14.setCell ⟨r, 1, none⟩ (.slice (some ⟨g, 0, none⟩) (i + 1 + (N - i)) c14) = Ws at *
  generalize hM : i + 1 + (N - i) = M at *
  have hiM : i < M := by omega
  clear hM
  obtain ⟨hc1d, -, -⟩ := Hcells2.out _ (Below.refl _ _)
  go_wp2_with fail
  clear hc1d
  have X0 := Lib.hid (show Below Ws.heap.size Ws Ws.drew from ⟨rfl, rfl, rfl, Nat.le_refl _, fun _ _ => rfl⟩)
  have hS := (Hcells2.out _ X0.out).1
  refine ord_start (fun W' : World => W'.cell? ⟨r, 1, none⟩ = some (.slice (some ⟨g, 0, none⟩) M c14)) (n := 20) (by kernel_rfl) rfl hS (fun hHeld => ?_)
  clear hS
  generalize Ws.drew = Wd at *
  refine ord_take 0 (v := ?v4x0) rfl (by kernel_rfl) (by kernel_rfl) (by kernel_rfl) (fun _ _ _ h => h) (by rfl) (by assumption) ?y4x0 ?_
  case y4x0 => (intro w hSw; (try dsimp only at hSw); go_simp; try with_reducible rfl)
  simp only [Act.put, List.setIfInBounds_toArray, List.set_cons_zero, List.set_cons_succ]
  refine ord_take 1 (v := ?v4x1) rfl (by kernel_rfl) (by kernel_rfl) (by kernel_rfl) (fun _ _ _ h => h) (by rfl) (by assumption) ?y4x1 ?_
  case y4x1 => (intro w hSw; (try dsimp only at hSw); go_simp; try with_reducible rfl)
  simp only [Act.put, List.setIfInBounds_toArray, List.set_cons_zero, List.set_cons_succ]
  refine ord_take 2 (v := ?v4x2) rfl (by kernel_rfl) (by kernel_rfl) (by kernel_rfl) (fun _ _ _ h => h) (by rfl) (by assumption) ?y4x2 ?_
  case y4x2 => (intro w hSw; (try dsimp only at hSw); go_simp; try with_reducible rfl)
  simp only [Act.put, List.setIfInBounds_toArray, List.set_cons_zero, List.set_cons_succ]
  refine ord_take 3 (v := ?v4x3) rfl (by kernel_rfl) (by kernel_rfl) (by kernel_rfl) (fun _ _ _ h => h) (by rfl) (by assumption) ?y4x3 ?_
  case y4x3 => (intro w hSw; (try dsimp only at hSw); go_simp; try with_reducible rfl)
  simp only [Act.put, List.setIfInBounds_toArray, List.set_cons_zero, List.set_cons_succ]
  refine ord_take 4 (v := ?v4x4) rfl (by kernel_rfl) (by kernel_rfl) (by kernel_rfl) (fun _ _ _ h => h) (by rfl) (by assumption) ?y4x4 ?_
  case y4x4 => (intro w hSw; (try dsimp only at hSw); go_simp; try with_reducible rfl)
  simp only [Act.put, List.setIfInBounds_toArray, List.set_cons_zero, List.set_cons_succ]
  refine ord_take 6 (v := ?v4x6) rfl (by kernel_rfl) (by kernel_rfl) (by kernel_rfl) (fun _ _ _ h => h) (by rfl) (by assumption) ?y4x6 ?_
  case y4x6 => (intro w hSw; (try dsimp only at hSw); go_simp; try with_reducible rfl)
  simp only [Act.put, List.setIfInBounds_toArray, List.set_cons_zero, List.set_cons_succ]
  refine ord_take 7 (v := ?v4x7) rfl (by kernel_rfl) (by kernel_rfl) (by kernel_rfl) (fun _ _ _ h => h) (by rfl) (by assumption) ?y4x7 ?_
  case y4x7 => (intro w hSw; (try dsimp only at hSw); go_simp; try with_reducible rfl)
  simp only [Act.put, List.setIfInBounds_toArray, List.set_cons_zero, List.set_cons_succ]
  refine ord_take 8 (v := ?v4x8) rfl (by kernel_rfl) (by kernel_rfl) (by kernel_rfl) (fun _ _ _ h => h) (by rfl) (by assumption) ?y4x8 ?_
  case y4x8 => (intro w hSw; (try dsimp only at hSw); go_simp; try with_reducible rfl)
  simp only [Act.put, List.setIfInBounds_toArray, List.set_cons_zero, List.set_cons_succ]
  refine ord_take 9 (v := ?v4x9) rfl (by kernel_rfl) (by kernel_rfl) (by kernel_rfl) (fun _ _ _ h => h) (by rfl) (by assumption) ?y4x9 ?_
  case y4x9 => (intro w hSw; (try dsimp only at hSw); go_simp; try with_reducible rfl)
  simp only [Act.put, List.setIfInBounds_toArray, List.set_cons_zero, List.set_cons_succ]
  refine ord_take 10 (v := ?v4x10) rfl (by kernel_rfl) (by kernel_rfl) (by kernel_rfl) (fun _ _ _ h => h) (by rfl) (by assumption) ?y4x10 ?_
  case y4x10 => (intro w hSw; (try dsimp only at hSw); go_simp; try with_reducible rfl)
  simp only [Act.put, List.setIfInBounds_toArray, List.set_cons_zero, List.set_cons_succ]
  refine ord_take 11 (v := ?v4x11) rfl (by kernel_rfl) (by kernel_rfl) (by kernel_rfl) (fun _ _ _ h => h) (by rfl) (by assumption) ?y4x11 ?_
  case y4x11 => (intro w hSw; (try dsimp only at hSw); go_simp; try with_reducible rfl)
  simp only [Act.put, List.setIfInBounds_toArray, List.set_cons_zero, List.set_cons_succ]
  refine ord_take 12 (v := ?v4x12) rfl (by kernel_rfl) (by kernel_rfl) (by kernel_rfl) (fun _ _ _ h => h) (by rfl) (by assumption) ?y4x12 ?_
  case y4x12 => (intro w hSw; (try dsimp only at hSw); go_simp; try with_reducible rfl)
  simp only [Act.put, List.setIfInBounds_toArray, List.set_cons_zero, List.set_cons_succ]
  refine ord_take 15 (v := ?v4x15) rfl (by kernel_rfl) (by kernel_rfl) (by kernel_rfl) (fun _ _ _ h => h) (by rfl) (by assumption) ?y4x15 ?_
  case y4x15 => (intro w hSw; (try dsimp only at hSw); go_simp; try with_reducible rfl)
  simp only [Act.put, List.setIfInBounds_toArray, List.set_cons_zero, List.set_cons_succ]
  refine ord_two 5 13 rfl rfl (by kernel_rfl) (by rfl) (by rfl) (fun K hK => ?_) (fun K hK => ?_)
  · go_wp2_with fail
    have X1 := Lib.hid (X0.out.alloc X0.out.size (.cells #[] 5))
    refine hK.out _ _ ((Hcells2.out _ X1.out).1) (fun hHeld => ?_)
    clear hK
    try simp only [Act.put, List.setIfInBounds_toArray, List.set_cons_zero, List.set_cons_succ]
    refine ord_one 13 rfl (by kernel_rfl) (by rfl) (fun K hK => ?_)
    have hc2 := (Hcells2.out _ X1.out).2.1
    go_wp2_with fail
    clear hc2
    refine hK.out _ _ ((Hcells2.out _ X1.out).1) (fun hHeld => ?_)
    clear hK
    try simp only [Act.put, List.setIfInBounds_toArray, List.set_cons_zero, List.set_cons_succ]
    refine ord_one 14 rfl (by kernel_rfl) (by rfl) (fun K hK => ?_)
    have hown0 := own_empty Wd 5
    have hxd := Hxd.out _ X1.out
    refine wp_app (.tmp 77) (.tmp 85) 23 (by rfl) 5 i0 (.int .u8 0) 1 1 Try.underlying23 hi hz0 hz1 hz2 rfl (by decide) (.slice (some ⟨Wd.heap.size, 0, none⟩) 0 0) 0 [] (by rfl) hown0 (.slice none 0 0) 0 _ (by rfl) hxd (bytesV_one _) (by unfold maxLen; omega) (by omega) ?_
    clear hown0 hxd
    intro v6 w6 hown6 hgrow6 hloc6
    have X6 := Lib.hid (X1.out.grown hgrow6 X1.out.size (fun j e => by have := X0.out.size; simp [Value.ownBlock] at e; omega))
    have hnew6 := own_ge (B := Ws.heap.size) hloc6 (fun k hk => by have := X0.out.size; simp [Value.ownBlock] at hk; omega) X1.out.size
    rw [Nat.zero_add, List.nil_append] at hown6
    obtain ⟨p6, c6, rfl⟩ := OwnR.shape hown6
    have Hown6 := Lib.hid hown6
    have Hnew6 := Lib.hid hnew6
    clear hgrow6 hloc6 hown6 hnew6
    refine hK.out _ _ ((Hcells2.out _ X6.out).1) (fun hHeld => ?_)
    clear hK
    try simp only [Act.put, List.setIfInBounds_toArray, List.set_cons_zero, List.set_cons_succ]
    refine ord_one 16 rfl (by kernel_rfl) (by rfl) (fun K hK => ?_)
    have hld := Hld.out _ X6.out
    refine wp_app (.tmp 86) (.tmp 87) 23 (by rfl) 5 i0 (.int .u8 0) 1 1 Try.underlying23 hi hz0 hz1 hz2 rfl (by decide) (.slice p6 0 c6) 0 _ (by rfl) Hown6.out (.slice pb m cb) m _ (by rfl) hld (bytesV_one _) (by unfold maxLen; omega) (by omega) ?_
    clear hld
    intro v7 w7 hown7 hgrow7 hloc7
    have X7 := Lib.hid (X6.out.grown hgrow7 X6.out.size Hnew6.out)
    have hnew7 := own_ge (B := Ws.heap.size) hloc7 Hnew6.out X6.out.size
    rw [Nat.zero_add] at hown7
    obtain ⟨p7, c7, rfl⟩ := OwnR.shape hown7
    rw [← bytesV_app] at hown7
    have Hend7 := Lib.hid (Hend.out w7 (.slice p7 m c7) X7.out (by unfold OwnB; rw [Hlen.out]; exact hown7) hnew7)
    clear hgrow7 hloc7 hown7 hnew7
    refine hK.out _ _ ((Hcells2.out _ X7.out).1) (fun hHeld => ?_)
    clear hK
    try simp only [Act.put, List.setIfInBounds_toArray, List.set_cons_zero, List.set_cons_succ]
    refine ord_take 17 (v := ?v5x17) rfl (by kernel_rfl) (by kernel_rfl) (by kernel_rfl) (fun _ _ _ h => h) (by rfl) (by assumption) ?y5x17 ?_
    case y5x17 => (intro w hSw; (try dsimp only at hSw); go_simp; try with_reducible rfl)
    simp only [Act.put, List.setIfInBounds_toArray, List.set_cons_zero, List.set_cons_succ]
    refine ord_take 18 (v := ?v5x18) rfl (by kernel_rfl) (by kernel_rfl) (by kernel_rfl) (fun _ _ _ h => h) (by rfl) (by assumption) ?y5x18 ?_
    case y5x18 => (intro w hSw; (try dsimp only at hSw); go_simp; try with_reducible rfl)
    simp only [Act.put, List.setIfInBounds_toArray, List.set_cons_zero, List.set_cons_succ]
    refine ord_one 19 rfl (by kernel_rfl) (by rfl) (fun K hK => ?_)
    obtain ⟨hc1, hc2, hfz1⟩ := Hcells2.out _ X7.out
    go_wp2_with fail
    have hcs : (w7.setCell ⟨g, i * 3 + 1, none⟩ (.slice p7 m c7)).cell? ⟨r, 1, none⟩ = some (.slice (some ⟨g, 0, none⟩) M c14) := (World.cell?_of_block (set_other _ Hgr.out)).trans hc1
    clear hc1 hc2 hfz1
    refine hK.out _ _ (hcs) (fun hHeld => ?_)
    clear hK
    try simp only [Act.put, List.setIfInBounds_toArray, List.set_cons_zero, List.set_cons_succ]
    refine wpAnyH_done (by kernel_rfl) ?_ _
    clear hHeld
    go_wp2_with fail
    refine Hend7.out.mono ?_
    intro e w8 hE
    have HE := Lib.hid hE
    obtain ⟨rfl, -⟩ := hE
    go_wp2_with fail
    go_ret
    exact HE.out
  · have hc2 := (Hcells2.out _ X0.out).2.1
    go_wp2_with fail
    clear hc2
    refine hK.out _ _ ((Hcells2.out _ X0.out).1) (fun hHeld => ?_)
    clear hK
    try simp only [Act.put, List.setIfInBounds_toArray, List.set_cons_zero, List.set_cons_succ]
    refine ord_one 5 rfl (by kernel_rfl) (by rfl) (fun K hK => ?_)
    go_wp2_with fail
    have X1 := Lib.hid (X0.out.alloc X0.out.size (.cells #[] 5))
    refine hK.out _ _ ((Hcells2.out _ X1.out).1) (fun hHeld => ?_)
    clear hK
    try simp only [Act.put, List.setIfInBounds_toArray, List.set_cons_zero, List.set_cons_succ]
    refine ord_one 14 rfl (by kernel_rfl) (by rfl) (fun K hK => ?_)
    have hown0 := own_empty Wd 5
    have hxd := Hxd.out _ X1.out
    refine wp_app (.tmp 77) (.tmp 85) 23 (by rfl) 5 i0 (.int .u8 0) 1 1 Try.underlying23 hi hz0 hz1 hz2 rfl (by decide) (.slice (some ⟨Wd.heap.size, 0, none⟩) 0 0) 0 [] (by rfl) hown0 (.slice none 0 0) 0 _ (by rfl) hxd (bytesV_one _) (by unfold maxLen; omega) (by omega) ?_
    clear hown0 hxd
    intro v6 w6 hown6 hgrow6 hloc6
    have X6 := Lib.hid (X1.out.grown hgrow6 X1.out.size (fun j e => by have := X0.out.size; simp [Value.ownBlock] at e; omega))
    have hnew6 := own_ge (B := Ws.heap.size) hloc6 (fun k hk => by have := X0.out.size; simp [Value.ownBlock] at hk; omega) X1.out.size
    rw [Nat.zero_add, List.nil_append] at hown6
    obtain ⟨p6, c6, rfl⟩ := OwnR.shape hown6
    have Hown6 := Lib.hid hown6
    have Hnew6 := Lib.hid hnew6
    clear hgrow6 hloc6 hown6 hnew6
    refine hK.out _ _ ((Hcells2.out _ X6.out).1) (fun hHeld => ?_)
    clear hK
    try simp only [Act.put, List.setIfInBounds_toArray, List.set_cons_zero, List.set_cons_succ]
    refine ord_one 16 rfl (by kernel_rfl) (by rfl) (fun K hK => ?_)
    have hld := Hld.out _ X6.out
    refine wp_app (.tmp 86) (.tmp 87) 23 (by rfl) 5 i0 (.int .u8 0) 1 1 Try.underlying23 hi hz0 hz1 hz2 rfl (by decide) (.slice p6 0 c6) 0 _ (by rfl) Hown6.out (.slice pb m cb) m _ (by rfl) hld (bytesV_one _) (by unfold maxLen; omega) (by omega) ?_
    clear hld
    intro v7 w7 hown7 hgrow7 hloc7
    have X7 := Lib.hid (X6.out.grown hgrow7 X6.out.size Hnew6.out)
    have hnew7 := own_ge (B := Ws.heap.size) hloc7 Hnew6.out X6.out.size
    rw [Nat.zero_add] at hown7
    obtain ⟨p7, c7, rfl⟩ := OwnR.shape hown7
    rw [← bytesV_app] at hown7
    have Hend7 := Lib.hid (Hend.out w7 (.slice p7 m c7) X7.out (by unfold OwnB; rw [Hlen.out]; exact hown7) hnew7)
    clear hgrow7 hloc7 hown7 hnew7
    refine hK.out _ _ ((Hcells2.out _ X7.out).1) (fun hHeld => ?_)
    clear hK
    try simp only [Act.put, List.setIfInBounds_toArray, List.set_cons_zero, List.set_cons_succ]
    refine ord_take 17 (v := ?v6x17) rfl (by kernel_rfl) (by kernel_rfl) (by kernel_rfl) (fun _ _ _ h => h) (by rfl) (by assumption) ?y6x17 ?_
    case y6x17 => (intro w hSw; (try dsimp only at hSw); go_simp; try with_reducible rfl)
    simp only [Act.put, List.setIfInBounds_toArray, List.set_cons_zero, List.set_cons_succ]
    refine ord_take 18 (v := ?v6x18) rfl (by kernel_rfl) (by kernel_rfl) (by kernel_rfl) (fun _ _ _ h => h) (by rfl) (by assumption) ?y6x18 ?_
    case y6x18 => (intro w hSw; (try dsimp only at hSw); go_simp; try with_reducible rfl)
    simp only [Act.put, List.setIfInBounds_toArray, List.set_cons_zero, List.set_cons_succ]
    refine ord_one 19 rfl (by kernel_rfl) (by rfl) (fun K hK => ?_)
    obtain ⟨hc1, hc2, hfz1⟩ := Hcells2.out _ X7.out
    go_wp2_with fail
    have hcs : (w7.setCell ⟨g, i * 3 + 1, none⟩ (.slice p7 m c7)).cell? ⟨r, 1, none⟩ = some (.slice (some ⟨g, 0, none⟩) M c14) := (World.cell?_of_block (set_other _ Hgr.out)).trans hc1
    clear hc1 hc2 hfz1
    refine hK.out _ _ (hcs) (fun hHeld => ?_)
    clear hK
    try simp only [Act.put, List.setIfInBounds_toArray, List.set_cons_zero, List.set_cons_succ]
    refine wpAnyH_done (by kernel_rfl) ?_ _
    clear hHeld
    go_wp2_with fail
    refine Hend7.out.mono ?_
    intro e w8 hE
    have HE := Lib.hid hE
    obtain ⟨rfl, -⟩ := hE
    go_wp2_with fail
    go_ret
    exact HE.out
end
end Go.Proofs.Ytdlbamhabenhgaa

namespace Go.Proofs.Ytdlbamhabenhgaa
open Go.RowKit Go.Sat Go.Maps

section
variable {w : World} {r : Nat} {v : Value} {L : List RFile} {own : Nat → Prop} {D : DiskM}

set_option maxRecDepth 100000 in
theorem rappend_calls (h : RefIn w r v L own D) (s : ByteArray) (hs : s.size ≤ 9223372036854775807) {pb : Option Addr} {m cb : Nat} {l : Bs} (hl : HasB w (.slice pb m cb) l) (hlm : l.length ≤ 140737488355328) (hno : l ≠ [] → ∀ k, (Value.slice pb m cb).ownBlock = some k → ¬ own k) :
    Calls Try.prog 46 #[.pointer (some ⟨r, 0, none⟩), .string s, .slice pb m cb] w (RStep w r own (D.append (nm s) l)) := by
  have hml : m = l.length := (bytes_in hl).1
  by_cases hm : D.may [nm s] = 0
  · by_cases hf : D.full (nm s) l = true
    · have hR : D.append (nm s) l = (D, 6) := by unfold DiskM.append; rw [if_neg (by rw [hm]; simp), if_pos hf]
      rw [hR]
      refine rappend_full h s hs (by omega) hm ?_
      unfold DiskM.full at hf
      rw [Bool.or_eq_true, Bool.and_eq_true, decide_eq_true_eq, decide_eq_true_eq, Option.isNone_iff_eq_none] at hf
      rw [hml]
      exact hf
    · have hf0 : D.full (nm s) l = false := by simpa using hf
      have hok := ok_append h.ok hm hf0
      have hR : D.append (nm s) l = (DiskM.done { D with files := put (nm s) ⟨(D.cur (nm s)).data ++ l, (D.cur (nm s)).lasts⟩ D.files }, 0) := by unfold DiskM.append; rw [if_neg (by rw [hm]; simp), if_neg hf]
      rw [hR]
      unfold DiskM.full at hf
      rw [Bool.or_eq_true, Bool.and_eq_true, decide_eq_true_eq, decide_eq_true_eq, Option.isNone_iff_eq_none, not_or] at hf
      have hroom : D.used + m ≤ D.room := by omega
      cases hg : Sat.get (nm s) D.files with
      | some f =>
        have hc : D.cur (nm s) = f := by unfold DiskM.cur; rw [hg]; rfl
        rw [hc] at hok ⊢
        exact rappend_is h s hs hl hm hg hroom hok
      | none =>
        have hc : D.cur (nm s) = ⟨[], 0⟩ := by unfold DiskM.cur; rw [hg]; rfl
        rw [hc] at hok ⊢
        exact rappend_new h s hs hl hno hm hg hroom (Nat.lt_of_not_le fun h4 => hf.2 ⟨hg, h4⟩) hok
  · have hR : D.append (nm s) l = (D, D.may [nm s]) := by unfold DiskM.append; rw [if_pos hm]
    rw [hR]
    have h1 : RefIn (w.alloc (.cells #[.string s] 9)) r v L own D := h.below ((Below.refl _ _).alloc (Nat.le_refl _) _)
    have hmay := rmay_calls h1 (some ⟨w.heap.size, 0, none⟩) [s] 1 (strs_one w s) (by simp) (by simpa using hs)
    simp only [List.map_cons, List.map_nil] at hmay
    have Hf := Lib.hid (rstep_same h ((Below.refl _ _).alloc (Nat.le_refl _) (.cells #[.string s] 9)) (D.may [nm s]))
    have Hmay := Lib.hid hmay
    generalize D.may [nm s] = e0 at *
    have hne : ((e0 : Int) != 0) = true := by simp; omega
    clear h h1 hmay hR hl
    go_enter Try.func46, Try.ntmps46
    go_wp2_with fail
    refine Hmay.out.mono ?_
    rintro e w2 ⟨rfl, rfl⟩
    go_wp2_with fail
    go_ret
    exact Hf.out
end
end Go.Proofs.Ytdlbamhabenhgaa
