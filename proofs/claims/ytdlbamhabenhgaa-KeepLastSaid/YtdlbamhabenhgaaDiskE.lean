/- The contract of Rename. -/
import Derived.Test.YtdlbamhabenhgaaSt
namespace Go.Proofs.Ytdlbamhabenhgaa
open Go.RowKit Go.Sat Go.Maps

theorem ok_rename {D : DiskM} (h : D.OK) {o n : Bs} {f : FileM} (hg : Sat.get o D.files = some f) (hn : okN n = true) : DiskM.OK { D with files := put n f (del o D.files) } where
  srt := srt_put (srt_del h.srt)
  room := h.room
  used := by
    show sumBy DiskM.size (put n f (del o D.files)) ≤ D.room
    have h1 : D.used = DiskM.size f + sumBy DiskM.size (del o D.files) := sum_del h.srt hg
    have h2 := h.used
    rw [sum_put]
    cases hg2 : Sat.get n (del o D.files) with
    | none => rw [del_none hg2]; omega
    | some f2 =>
      have h3 : sumBy DiskM.size (del o D.files) = DiskM.size f2 + sumBy DiskM.size (del n (del o D.files)) := sum_del (srt_del h.srt) hg2
      omega
  count := by
    show (put n f (del o D.files)).length ≤ 4096
    have h1 := len_del h.srt hg
    have h2 := len_del_le n (del o D.files)
    have h3 := h.count
    rw [len_put]
    omega
  names p hp := by
    rcases mem_put.1 hp with rfl | ⟨hp, _⟩
    · exact hn
    · exact h.names p (mem_del.1 hp).1
  lasts p hp := by
    rcases mem_put.1 hp with rfl | ⟨hp, _⟩
    · exact h.lasts (o, f) (get_mem hg)
    · exact h.lasts p (mem_del.1 hp).1
  fuse := h.fuse

section
variable {w : World} {d m : Nat} {left : Int} {L : List (Bs × FRep)} {own : Own} {D : DiskM}

theorem ren_file (h : DiskIn w d m left L own D) {o n : Bs} {r : FRep} (hg : Sat.get o L = some r) {w' : World} (hs : w.heap.size ≤ w'.heap.size) (hb : ∀ k, k < w.heap.size → k ≠ m → w'.heap[k]? = w.heap[k]?)
    (hm : ∃ q, w'.ownsMap Try.prog 9 ptrR m q (dm fbD (put n r (del o L)))) (hn : okN n = true) :
    ∃ own', DiskIn w' d m left (put n r (del o L)) own' { D with files := put n r.f (del o D.files) } ∧ Ext w own own' := by
  refine h.remap (L' := put n r (del o L)) hs hb hm (srt_put (srt_del h.srt)) rfl rfl (by rw [mp_put, mp_del, ← h.files]) (ok_rename h.ok (by rw [h.get, hg]; rfl) hn) (fun p hp => ?_) (fun p hp q hq e => ?_)
  · rcases mem_put.1 hp with rfl | ⟨hp, _⟩
    · exact ⟨_, get_mem hg, rfl⟩
    · exact ⟨p, (mem_del.1 hp).1, rfl⟩
  · have hr := h.fileAt hg
    have other : ∀ p, p ∈ del o L → p.2.fb = r.fb → False := fun p hp e => by
      have h1 := (h.file p (mem_del.1 hp).1).ob
      rw [e, hr.ob] at h1
      exact (mem_del.1 hp).2 (by simpa using h1.symm)
    rcases mem_put.1 hp with rfl | ⟨hp, _⟩
    · rcases mem_put.1 hq with rfl | ⟨hq, _⟩
      · rfl
      · exact (other q hq e.symm).elim
    · rcases mem_put.1 hq with rfl | ⟨hq, _⟩
      · exact (other p hp e).elim
      · have h1 := (h.file p (mem_del.1 hp).1).ob
        have h2 := (h.file q (mem_del.1 hq).1).ob
        rw [e, h2] at h1
        exact key_uniq h.srt (mem_del.1 hp).1 (mem_del.1 hq).1 (by simpa using h1.symm)

theorem strs_two (w : World) (o s : ByteArray) : StrsAt (w.alloc (.cells #[.string o, .string s] 9)) (some ⟨w.heap.size, 0, none⟩) [o, s] := strs_new w [o, s] _ rfl _ (0, 0)

set_option maxRecDepth 100000 in
set_option maxHeartbeats 2000000 in
theorem rename_bad (h : DiskIn w d m left L own D) (o s : ByteArray) (hso : o.size ≤ 9223372036854775807) (hss : s.size ≤ 9223372036854775807) (hm : D.may [nm o, nm s] ≠ 0) :
    Calls Try.prog 29 #[.pointer (some ⟨d, 0, none⟩), .string o, .string s] w (After w d own (D, D.may [nm o, nm s])) := by
  have h1 := h.chg (Chg.alloc w (.cells #[.string o, .string s] 9)) (fun k hk => hk.elim)
  have hc := may_calls h1 _ [o, s] 2 (strs_two w o s) (by simp) (by simp; exact ⟨hso, hss⟩)
  simp only [List.map_cons, List.map_nil] at hc
  have Hfin := Lib.hid (show After w d own (D, D.may [nm o, nm s]) (.returned (.int .i64 (D.may [nm o, nm s] : Int))) (w.alloc (.cells #[.string o, .string s] 9)) from
    ⟨own, rfl, ⟨m, left, L, h1⟩, (Chg.alloc w _).mono fun _ _ h => h.elim, ext_refl _ _⟩)
  generalize D.may [nm o, nm s] = e0 at *
  have hne : ((e0 : Int) != 0) = true := by simp; omega
  have Hc := Lib.hid hc
  clear h hc h1
  go_enter Try.func29, Try.ntmps29
  go_wp2_with fail
  refine Hc.out.mono ?_
  rintro e w' ⟨rfl, rfl⟩
  go_wp2_with fail
  go_ret
  exact Hfin.out

set_option maxRecDepth 100000 in
set_option maxHeartbeats 2000000 in
theorem rename_none (h : DiskIn w d m left L own D) (o s : ByteArray) (hso : o.size ≤ 9223372036854775807) (hss : s.size ≤ 9223372036854775807) (hm : D.may [nm o, nm s] = 0) (hg : Sat.get (nm o) L = none) :
    Calls Try.prog 29 #[.pointer (some ⟨d, 0, none⟩), .string o, .string s] w (After w d own (D, 7)) := by
  have h1 := h.chg (Chg.alloc w (.cells #[.string o, .string s] 9)) (fun k hk => hk.elim)
  have hc := may_calls h1 _ [o, s] 2 (strs_two w o s) (by simp) (by simp; exact ⟨hso, hss⟩)
  simp only [List.map_cons, List.map_nil, hm] at hc
  have hlook := run_look_none _ keyLaw Try.underlying9 Try.underlying74 (zeroFile _) FRep.fb h1.map hso hg
  have hc1 := h1.c1
  have Hfin := Lib.hid (show After w d own (D, 7) (.returned (.int .i64 (7 : Int))) (w.alloc (.cells #[.string o, .string s] 9)) from
    ⟨own, rfl, ⟨m, left, L, h1⟩, (Chg.alloc w _).mono fun _ _ h => h.elim, ext_refl _ _⟩)
  have Hc := Lib.hid hc
  have Hlook := Lib.hid hlook
  have Hc1 := Lib.hid hc1
  clear h hc h1 hlook hc1
  generalize hw0 : w.alloc (.cells #[.string o, .string s] 9) = w0 at *
  go_enter Try.func29, Try.ntmps29
  go_wp2_with fail
  have hlook := Hlook.out
  have hc1 := Hc1.out
  refine Hc.out.mono ?_
  rintro e w' ⟨rfl, rfl⟩
  clear hw0
  go_wp2_with fail
  go_ret
  exact Hfin.out

set_option maxRecDepth 100000 in
set_option maxHeartbeats 4000000 in
theorem rename_some (h : DiskIn w d m left L own D) (o s : ByteArray) (hso : o.size ≤ 9223372036854775807) (hss : s.size ≤ 9223372036854775807) (hm : D.may [nm o, nm s] = 0) {r : FRep} (hg : Sat.get (nm o) L = some r) :
    Calls Try.prog 29 #[.pointer (some ⟨d, 0, none⟩), .string o, .string s] w (After w d own (DiskM.done { D with files := put (nm s) r.f (del (nm o) D.files) }, 0)) := by
  have h1 := h.chg (Chg.alloc w (.cells #[.string o, .string s] 9)) (fun k hk => hk.elim)
  have hc := may_calls h1 _ [o, s] 2 (strs_two w o s) (by simp) (by simp; exact ⟨hso, hss⟩)
  simp only [List.map_cons, List.map_nil, hm] at hc
  have hlook := run_look_some _ keyLaw Try.underlying9 Try.underlying74 (zeroFile _) FRep.fb h1.map hso hg
  have hc1 := h1.c1
  have hkey := WideMaps.keyOf_string_mk Try.underlying9 hso
  have hkey2 := WideMaps.keyOf_string_mk Try.underlying9 hss
  have hz := may_zero hm
  have hfu := hz.1
  have hokn : okN (nm s) = true := by
    have := hz.2
    simp at this
    exact this.2
  have hN : L.length < maxLen := by
    have h3 := h.ok.count
    rw [h.len] at h3
    unfold maxLen
    omega
  have Hw := Lib.hid (Chg.alloc w (.cells #[.string o, .string s] 9))
  have H1 := Lib.hid h1
  have Hc := Lib.hid hc
  have Hlook := Lib.hid hlook
  have Hc1 := Lib.hid hc1
  have Hok := Lib.hid hokn
  have Hfu := Lib.hid hfu
  have Hg := Lib.hid hg
  have hmap := h1.map
  have Hmap := Lib.hid hmap
  clear h hc h1 hlook hc1 hz hokn hm hg hmap hfu
  generalize hw0 : w.alloc (.cells #[.string o, .string s] 9) = w0 at *
  go_enter Try.func29, Try.ntmps29
  go_wp2_with fail
  have hlook := Hlook.out
  have hc1 := Hc1.out
  refine Hc.out.mono ?_
  rintro e w' ⟨rfl, rfl⟩
  clear hw0
  go_wp2_with (first | (at_delete; refine wpList_delete_own _ rfl _ _ 74 9 rfl 78 keyLaw Try.underlying74 ptrR m L.length (dm fbD L) rfl Hmap.out _ _ rfl hkey ?_; intro w1 hown1 hturn1; have hcA := cell_of (i := 1) (grown_block hturn1.grown H1.out.cells (fun e => H1.out.ne_of H1.out.od H1.out.om (by simp) (by cases e; rfl))) rfl; have Hf := Lib.hid (And.intro hown1 hturn1); clear hown1 hturn1) | (at_mapUpdate; refine wpList_mapUpdate_own _ rfl _ _ _ 74 rfl 9 78 keyLaw Try.underlying74 ptrR m L.length _ rfl Hf.out.1 hN _ _ _ rfl rfl hkey2 (.held r.fb) [] rfl ?_; intro w3 hown3 hg3; have Hg3 := Lib.hid (And.intro hown3 hg3); clear hown3 hg3))
  obtain ⟨hown1, hturn1⟩ := Hf.out
  obtain ⟨hown3, hg3⟩ := Hg3.out
  have hg1 := hturn1.grown
  have hb : ∀ k, k < w0.heap.size → k ≠ m → w3.heap[k]? = w0.heap[k]? := fun k hk hkm => by
    have := hg1.size
    rw [hg3.block k (by omega) (by intro e; cases e; exact hkm rfl), hg1.block k hk (by intro e; cases e; exact hkm rfl)]
  rw [show (.held r.fb : DataW Nat) = fbD r from rfl, dm_del, dm_put] at hown3
  obtain ⟨own', h4, hx⟩ := ren_file H1.out Hg.out (w' := w3) (n := nm s) (Nat.le_trans hg1.size hg3.size) hb ⟨_, hown3⟩ Hok.out
  have hchg : Chg (Has own) w w3 := (Hw.out.mono (T := Has own) fun _ _ h => h.elim).trans (((Chg.of_grown hg1).trans (Chg.of_grown hg3) fun _ _ h => h).mono fun k _ e => by cases e; exact has_m H1.out) fun _ _ h => h
  have hdone := done_calls h4 Hfu.out
  have Hdone := Lib.hid hdone
  have Hchg := Lib.hid hchg
  have Hx := Lib.hid hx
  have hsz := Hw.out.size
  have Hsz := Lib.hid hsz
  have Hod := Lib.hid (has_d H1.out)
  clear hown1 hturn1 hown3 hg3 hg1 hb h4 hx hchg hdone hsz
  refine Hdone.out.mono ?_
  rintro e w5 ⟨rfl, hd5, hc5⟩
  go_wp2_with fail
  go_ret
  exact ⟨own', rfl, hd5, Hchg.out.trans hc5 fun i _ e => by rw [e]; exact Hod.out, fun k hk => Hx.out k (Nat.lt_of_lt_of_le hk Hsz.out)⟩

/-- **Rename.** -/
theorem rename_calls (h : DiskAt w d D own) (o s : ByteArray) (hso : o.size ≤ 9223372036854775807) (hss : s.size ≤ 9223372036854775807) :
    Calls Try.prog 29 #[.pointer (some ⟨d, 0, none⟩), .string o, .string s] w (After w d own (D.rename (nm o) (nm s))) := by
  obtain ⟨m, left, L, h⟩ := h
  unfold DiskM.rename
  by_cases hm : D.may [nm o, nm s] = 0
  · rw [if_neg (by simpa using hm), h.get]
    cases hg : Sat.get (nm o) L with
    | none => exact rename_none h o s hso hss hm hg
    | some r => exact rename_some h o s hso hss hm hg
  · rw [if_pos (by simpa using hm)]
    exact rename_bad h o s hso hss hm
end

theorem st_rename {w w1 : World} {d : Nat} {D : DiskM} {F : Nat → Prop} (h : St w w1 d D F) (o s : ByteArray) (hso : o.size ≤ 9223372036854775807) (hss : s.size ≤ 9223372036854775807) :
    Calls Try.prog 29 #[.pointer (some ⟨d, 0, none⟩), .string o, .string s] w1 (Told w d F w1 (D.rename (nm o) (nm s))) := by
  obtain ⟨own, hd, hb, hnn, hF⟩ := h
  refine (rename_calls hd o s hso hss).mono ?_
  rintro e w' ⟨own', rfl, hd', hc, hx⟩
  exact ⟨rfl, St.step hb hnn hF hd' hc hx⟩
end Go.Proofs.Ytdlbamhabenhgaa
