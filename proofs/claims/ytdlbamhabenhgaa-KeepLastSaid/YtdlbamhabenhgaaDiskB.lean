/- The contract of Append. -/
import Derived.Test.YtdlbamhabenhgaaDiskU
import Derived.Test.YtdlbamhabenhgaaBytes
namespace Go.Proofs.Ytdlbamhabenhgaa
open Go.RowKit Go.Sat Go.Maps

/-- What a call of one of the five leaves. -/
def After (w : World) (d : Nat) (own : Own) (r : DiskM × Nat) (e : Ending) (w' : World) : Prop :=
  ∃ own', e = .returned (.int .i64 (r.2 : Int)) ∧ DiskAt w' d r.1 own' ∧ Chg (Has own) w w' ∧ Ext w own own'

theorem strs_one (w : World) (s : ByteArray) : StrsAt (w.alloc (.cells #[.string s] 9)) (some ⟨w.heap.size, 0, none⟩) [s] := by
  refine .inr ⟨_, _, rfl, fun i u hu => ?_⟩
  have hi : i = 0 := by
    have := (List.getElem?_eq_some_iff.1 hu).1
    simp at this
    exact this
  subst hi
  simp at hu
  subst hu
  exact cell_of (new_block w _) rfl

theorem ext_refl (w : World) (own : Own) : Ext w own own := fun _ _ h => h

section
variable {w : World} {d m : Nat} {left : Int} {L : List (Bs × FRep)} {own : Own} {D : DiskM}

set_option maxHeartbeats 400000 in
theorem append_bad (h : DiskIn w d m left L own D) (s : ByteArray) (x : Value) (hsz : s.size ≤ 9223372036854775807) (hm : D.may [nm s] ≠ 0) :
    Calls Try.prog 16 #[.pointer (some ⟨d, 0, none⟩), .string s, x] w (After w d own (D, D.may [nm s])) := by
  have h1 := h.chg (Chg.alloc w (.cells #[.string s] 9)) (fun k hk => hk.elim)
  have hc := may_calls h1 _ [s] 1 (strs_one w s) (by simp) (by simpa using hsz)
  simp only [List.map_cons, List.map_nil] at hc
  generalize hk : D.may [nm s] = k at hm hc ⊢
  have hne : ((k : Int) != 0) = true := by simp; exact hm
  have H1 := Lib.hid h1
  have Hc := Lib.hid hc
  clear h hc h1 hm hk
  go_enter Try.func16, Try.ntmps16
  go_wp2_with fail
  refine Hc.out.mono ?_
  rintro e w' ⟨rfl, rfl⟩
  go_wp2_with fail
  go_ret
  exact ⟨own, rfl, ⟨m, left, L, H1.out⟩, (Chg.alloc w _).mono (fun _ _ h => h.elim), ext_refl _ _⟩

/-- The disk lies there still; nothing that was there has turned. -/
def Still (w0 : World) (d m : Nat) (left : Int) (L : List (Bs × FRep)) (own : Own) (D : DiskM) (w : World) : Prop := DiskIn w d m left L own D ∧ Below w0.heap.size w0 w

theorem still_below {w0 w1 w2 : World} (h : Still w0 d m left L own D w1) (hb : Below w1.heap.size w1 w2) : Still w0 d m left L own D w2 :=
  ⟨h.1.chg (Chg.of_below hb) (fun _ hk => hk.elim), h.2.trans (hb.mono h.2.size)⟩

theorem rows_below {w w1 : World} {x : Value} {ls : List Bs} (h : RowsAt w x ls) (hb : Below w.heap.size w w1) : RowsAt w1 x ls := by
  obtain ⟨p, c, rfl, hc, hP⟩ := h
  refine ⟨p, c, rfl, hc, fun hne => ?_⟩
  obtain ⟨b, o, vs, rfl, h1, h2, h3⟩ := hP hne
  have hold : ∀ a v, w.cell? a = some v → w1.cell? a = some v := fun a v hv => (hb.cell (World.block_lt_of_cell? w a hv)).trans hv
  refine ⟨b, o, vs, rfl, h1, fun i v hv => hold _ _ (h2 i v hv), fun i v l hv hl => ?_⟩
  obtain ⟨p, cap, rfl, h0, hcs⟩ := h3 i v l hv hl
  exact ⟨p, cap, rfl, h0, fun a ha j x hx => hold _ _ (hcs a ha j x hx)⟩

theorem below2 {S : Nat → Prop} {w w0 w2 : World} (h : Below w.heap.size w w0) (k : Below w0.heap.size w0 w2) : Chg S w w2 :=
  ((Chg.of_below h).trans (Chg.of_below k) fun _ _ h => h).mono fun _ _ h => h.elim

set_option maxRecDepth 100000 in
set_option maxHeartbeats 1000000 in
theorem append_full (h : DiskIn w d m left L own D) (s : ByteArray) (x : Value) (ls : List Bs) (hx : RowsAt w x ls) (hn : ls.length ≤ 140737488355328) (hl : ls.flatten.length ≤ 140737488355328) (hsz : s.size ≤ 9223372036854775807) (hm : D.may [nm s] = 0)
    (hf : D.room < D.used + ls.flatten.length) :
    Calls Try.prog 16 #[.pointer (some ⟨d, 0, none⟩), .string s, x] w (After w d own (D, 6)) := by
  have hb0 := (Below.refl w.heap.size w).alloc (Nat.le_refl _) (.cells #[.string s] 9)
  have h1 := h.chg (Chg.alloc w (.cells #[.string s] 9)) (fun k hk => hk.elim)
  have hc := may_calls h1 _ [s] 1 (strs_one w s) (by simp) (by simpa using hsz)
  simp only [List.map_cons, List.map_nil, hm] at hc
  have hj := join_calls (rows_below hx hb0) hn hl
  have H1 := Lib.hid h1
  have Hc := Lib.hid hc
  have Hj := Lib.hid hj
  have Hb0 := Lib.hid hb0
  have hr := h.ok.room
  have hu := h.ok.used
  clear h hc h1 hm hj hx hb0
  go_enter Try.func16, Try.ntmps16
  go_wp2_with fail
  refine Hc.out.mono ?_
  rintro e w' ⟨rfl, rfl⟩
  go_wp2_with fail
  refine Hj.out.mono ?_
  rintro e w1 ⟨b, rfl, hb, hbel⟩
  obtain ⟨pb, cb, rfl⟩ := HasB.slice hb
  clear hb
  have h2 := H1.out.chg (Chg.of_below hbel) (fun k hk => hk.elim)
  have hc1 := h2.c1
  have hc0 := h2.c0
  obtain ⟨fv, hlook⟩ := run_look_any w1 keyLaw Try.underlying9 Try.underlying74 (zeroFile w1) FRep.fb h2.map hsz
  have HS : Still (w.alloc (.cells #[.string s] 9)) d m left L own D w1.drew := still_below ⟨h2, hbel⟩ ((Below.refl _ _).drew)
  have HU := fun W (h : Still (w.alloc (.cells #[.string s] 9)) d m left L own D W) => used_walk h.1
  generalize hR : D.room = R at hf hr hu hc0
  generalize hU : D.used = U at hf hu HU
  generalize ls.flatten.length = n at *
  have hgt : decide ((R : Int) - (U : Int) < (n : Int)) = true := by simp; omega
  have hsub : IntKind.i64.wrap ((R : Int) - (U : Int)) = (R : Int) - (U : Int) := IntWalk.i64_in _ (by omega)
  have HR := Lib.hid hR
  have HUU := Lib.hid hU
  clear hR hU hf h2 hbel
  generalize hw0 : w.alloc (.cells #[.string s] 9) = w0 at *
  have Hw0 := Lib.hid hw0
  clear hw0
  go_wp2_with fail
  obtain ⟨ι, F, hne, hF0, hFS, hFall⟩ := classOf _ HS
  have fc0 : ∀ n, (F n).cell? ⟨d, 0, none⟩ = some (.int .i64 (R : Int)) := fun n => by rw [(hFS n).1.c0, HR.out]
  have HFS := Lib.hid hFS
  have HFall := Lib.hid hFall
  clear hFS hFall
  refine wp_region_class F (by kernel_rfl) (by kernel_rfl) hF0 ?_
  repeat (go_big_quiet_step ((go_at_call 21; refine (HU _ (HFS.out _)).mono ?_; rintro e w2 ⟨rfl, hb2⟩; exact ⟨rfl, HFall.out _ (still_below (HFS.out _) hb2)⟩)))
  refine wpQuiet_nil ?_
  rintro _ ⟨q, rfl⟩
  have HS2 := HFS.out q
  clear HFS HFall hF0 fc0
  generalize F q = w2 at HS2 ⊢
  go_wp2
  go_ret
  exact ⟨own, rfl, ⟨m, left, L, HS2.1⟩, below2 Hb0.out HS2.2, ext_refl _ _⟩

theorem may_zero {D : DiskM} {ns : List Bs} (h : D.may ns = 0) : D.fuse ≠ some 0 ∧ ns.all okN = true := by
  unfold DiskM.may at h
  split at h
  · cases h
  · rename_i h1
    refine ⟨h1, ?_⟩
    split at h
    · assumption
    · cases h

theorem ok_append {D : DiskM} (h : D.OK) {n b : Bs} (hm : D.may [n] = 0) (hf : D.full n b = false) : DiskM.OK { D with files := put n ⟨(D.cur n).data ++ b, (D.cur n).lasts⟩ D.files } := by
  have hn : okN n = true := by simpa using (may_zero hm).2
  simp only [DiskM.full, Bool.or_eq_false_iff, decide_eq_false_iff_not, Bool.and_eq_false_iff] at hf
  obtain ⟨h1, h2⟩ := hf
  have hcur : ∀ f, Sat.get n D.files = some f → D.cur n = f := fun f hg => by simp [DiskM.cur, hg]
  have hcur0 : Sat.get n D.files = none → D.cur n = ⟨[], 0⟩ := fun hg => by simp [DiskM.cur, hg]
  refine ⟨srt_put h.srt, h.room, ?_, ?_, ?_, ?_, h.fuse⟩
  · show sumBy DiskM.size (put n _ D.files) ≤ D.room
    rw [sum_put]
    have hu : D.used = DiskM.size (D.cur n) + sumBy DiskM.size (del n D.files) := by
      cases hg : Sat.get n D.files with
      | none => rw [hcur0 hg, del_none hg]; simp [DiskM.used, DiskM.size]
      | some f => rw [hcur f hg]; exact sum_del h.srt hg
    simp only [DiskM.size, List.length_append] at hu ⊢
    omega
  · show (put n _ D.files).length ≤ 4096
    rw [len_put]
    cases hg : Sat.get n D.files with
    | none =>
      rw [hg] at h2
      simp at h2
      rw [del_none hg]
      omega
    | some f =>
      have := len_del h.srt hg
      have := h.count
      omega
  · intro p hp
    rcases mem_put.1 hp with rfl | ⟨hp, _⟩
    · exact hn
    · exact h.names p hp
  · intro p hp
    rcases mem_put.1 hp with rfl | ⟨hp, _⟩
    · cases hg : Sat.get n D.files with
      | none => rw [hcur0 hg]; simp
      | some f =>
        rw [hcur f hg]
        have : f.lasts ≤ f.data.length := h.lasts _ (get_mem hg)
        simp only [List.length_append]
        omega
    · exact h.lasts p hp

theorem len_run {W : World} (h : DiskIn W d m left L own D) (ty : TypeId) : (Builtin.len_ #[74] ty #[.map (some m)]).run Try.prog W = .ok (.int .i64 (L.length : Int)) W := by
  have := h.map.len Try.underlying74 ty
  rwa [dm_size] at this

set_option maxRecDepth 100000 in
set_option maxHeartbeats 2000000 in
theorem append_count (h : DiskIn w d m left L own D) (s : ByteArray) (x : Value) (ls : List Bs) (hx : RowsAt w x ls) (hn : ls.length ≤ 140737488355328) (hl : ls.flatten.length ≤ 140737488355328) (hsz : s.size ≤ 9223372036854775807) (hm : D.may [nm s] = 0)
    (hf : D.used + ls.flatten.length ≤ D.room) (hg : Sat.get (nm s) L = none) (hcount : 4096 ≤ L.length) :
    Calls Try.prog 16 #[.pointer (some ⟨d, 0, none⟩), .string s, x] w (After w d own (D, 6)) := by
  have hb0 := (Below.refl w.heap.size w).alloc (Nat.le_refl _) (.cells #[.string s] 9)
  have h1 := h.chg (Chg.alloc w (.cells #[.string s] 9)) (fun k hk => hk.elim)
  have hc := may_calls h1 _ [s] 1 (strs_one w s) (by simp) (by simpa using hsz)
  simp only [List.map_cons, List.map_nil, hm] at hc
  have hj := join_calls (rows_below hx hb0) hn hl
  have hr := h.ok.room
  have hLc : L.length ≤ 4096 := by rw [← h.len]; exact h.ok.count
  have H1 := Lib.hid h1
  have Hc := Lib.hid hc
  have Hj := Lib.hid hj
  have Hb0 := Lib.hid hb0
  clear h hc h1 hm hj hx hb0
  go_enter Try.func16, Try.ntmps16
  go_wp2_with fail
  refine Hc.out.mono ?_
  rintro e w' ⟨rfl, rfl⟩
  go_wp2_with fail
  refine Hj.out.mono ?_
  rintro e w1 ⟨b, rfl, hb, hbel⟩
  obtain ⟨pb, cb, rfl⟩ := HasB.slice hb
  clear hb
  have h2 := H1.out.chg (Chg.of_below hbel) (fun k hk => hk.elim)
  have hc1 := h2.c1
  have hlook := run_look_none w1 keyLaw Try.underlying9 Try.underlying74 (zeroFile w1) FRep.fb h2.map hsz hg
  have HS : Still w1 d m left L own D w1.drew := still_below ⟨h2, Below.refl _ _⟩ ((Below.refl _ _).drew)
  have HU := fun W (h : Still w1 d m left L own D W) => used_walk h.1
  generalize hR : D.room = R at hf hr
  generalize hU : D.used = U at hf HU
  generalize hlen : L.length = N at hcount hLc
  generalize ls.flatten.length = n at *
  have hgt : decide ((R : Int) - (U : Int) < (n : Int)) = false := by simp; omega
  have hsub : IntKind.i64.wrap ((R : Int) - (U : Int)) = (R : Int) - (U : Int) := IntWalk.i64_in _ (by omega)
  have hcnt : decide ((4096 : Int) ≤ (N : Int)) = true := by simp; omega
  have HR := Lib.hid hR
  have Hlen := Lib.hid hlen
  have Hbel := Lib.hid hbel
  have Hg := Lib.hid hg
  clear hR hU hf h2 hbel hg hlen hcount
  go_wp2_with fail
  obtain ⟨ι, F, hne, hF0, hFS, hFall⟩ := classOf _ HS
  have fc0 : ∀ n, (F n).cell? ⟨d, 0, none⟩ = some (.int .i64 (R : Int)) := fun n => by rw [(hFS n).1.c0, HR.out]
  have fc1 : ∀ n, (F n).cell? ⟨d, 1, none⟩ = some (.map (some m)) := fun n => (hFS n).1.c1
  have fl : ∀ n ty, (Builtin.len_ #[74] ty #[.map (some m)]).run Try.prog (F n) = .ok (.int .i64 (N : Int)) (F n) := fun n ty => by rw [len_run (hFS n).1 ty, Hlen.out]
  have HFS := Lib.hid hFS
  have HFall := Lib.hid hFall
  clear hFS hFall HS
  refine wp_region_class F (by kernel_rfl) (by kernel_rfl) hF0 ?_
  repeat (go_big_quiet_step ((go_at_call 21; refine (HU _ (HFS.out _)).mono ?_; rintro e w2 ⟨rfl, hb2⟩; exact ⟨rfl, HFall.out _ (still_below (HFS.out _) hb2)⟩)))
  refine wpQuiet_nil ?_
  rintro _ ⟨q, rfl⟩
  have HS2 := HFS.out q
  clear HFS HFall hF0 fc0 fc1 fl hlook hc1
  generalize F q = w2 at HS2 ⊢
  go_wp2
  go_ret
  exact ⟨own, rfl, ⟨m, left, L, HS2.1⟩, (below2 (S := Has own) Hb0.out Hbel.out).trans ((Chg.of_below HS2.2).mono (T := Has own) fun _ _ h => h.elim) fun _ _ h => h, ext_refl _ _⟩

set_option maxRecDepth 100000 in
set_option maxHeartbeats 2000000 in
theorem append_old (h : DiskIn w d m left L own D) (s : ByteArray) (x : Value) (ls : List Bs) (hx : RowsAt w x ls) (hn : ls.length ≤ 140737488355328) (hl : ls.flatten.length ≤ 140737488355328) (hsz : s.size ≤ 9223372036854775807) (hm : D.may [nm s] = 0)
    (hf : D.full (nm s) ls.flatten = false) (r : FRep) (hg : Sat.get (nm s) L = some r) :
    Calls Try.prog 16 #[.pointer (some ⟨d, 0, none⟩), .string s, x] w (After w d own (DiskM.done { D with files := put (nm s) ⟨r.f.data ++ ls.flatten, r.f.lasts⟩ D.files }, 0)) := by
  have hb0 := (Below.refl w.heap.size w).alloc (Nat.le_refl _) (.cells #[.string s] 9)
  have h1 := h.chg (Chg.alloc w (.cells #[.string s] 9)) (fun k hk => hk.elim)
  have hc := may_calls h1 _ [s] 1 (strs_one w s) (by simp) (by simpa using hsz)
  simp only [List.map_cons, List.map_nil, hm] at hc
  have hj := join_calls (rows_below hx hb0) hn hl
  have hcur : D.cur (nm s) = r.f := by simp [DiskM.cur, h.get, hg]
  have hok := ok_append h.ok hm hf
  rw [hcur] at hok
  have hfu := (may_zero hm).1
  have hfit : D.used + ls.flatten.length ≤ D.room := by
    simp only [DiskM.full, Bool.or_eq_false_iff, decide_eq_false_iff_not] at hf
    omega
  have hrl : r.f.data.length ≤ D.used := by rw [h.used]; exact le_sum (f := fun r : FRep => r.f.data.length) h.srt hg
  have H1 := Lib.hid h1
  have Hc := Lib.hid hc
  have Hj := Lib.hid hj
  have Hb0 := Lib.hid hb0
  have Hok := Lib.hid hok
  have Hfu := Lib.hid hfu
  have hr := h.ok.room
  clear h hc h1 hm hj hx hb0 hok hcur hf hfu
  go_enter Try.func16, Try.ntmps16
  go_wp2_with fail
  refine Hc.out.mono ?_
  rintro e w' ⟨rfl, rfl⟩
  go_wp2_with fail
  refine Hj.out.mono ?_
  rintro e w1 ⟨b, rfl, hb, hbel⟩
  have Hb := Lib.hid hb
  obtain ⟨pb, cb, rfl⟩ := HasB.slice hb
  clear hb
  have h2 := H1.out.chg (Chg.of_below hbel) (fun k hk => hk.elim)
  have hc1 := h2.c1
  have hc0 := h2.c0
  have hlook := run_look_some w1 keyLaw Try.underlying9 Try.underlying74 (zeroFile w1) FRep.fb h2.map hsz hg
  have HS0 : Still w1 d m left L own D w1 := ⟨h2, Below.refl _ _⟩
  have HS : Still w1 d m left L own D w1.drew := still_below HS0 ((Below.refl _ _).drew)
  have HU := fun W (h : Still w1 d m left L own D W) => used_walk h.1
  have Hbel := Lib.hid hbel
  generalize hR : D.room = R at hfit hr hc0
  generalize hU : D.used = U at hfit HU hrl
  generalize hnl : ls.flatten.length = n at *
  have hgt : decide ((R : Int) - (U : Int) < (n : Int)) = false := by simp; omega
  have hsub : IntKind.i64.wrap ((R : Int) - (U : Int)) = (R : Int) - (U : Int) := IntWalk.i64_in _ (by omega)
  have HR := Lib.hid hR
  have HUU := Lib.hid hU
  have Hnl := Lib.hid hnl
  have Hg := Lib.hid hg
  clear hR hU h2 hbel hnl hg
  go_wp2_with fail
  obtain ⟨ι, F, hne, hF0, hFS, hFall⟩ := classOf _ HS
  have fc0 : ∀ n, (F n).cell? ⟨d, 0, none⟩ = some (.int .i64 (R : Int)) := fun n => by rw [(hFS n).1.c0, HR.out]
  have HFS := Lib.hid hFS
  have HFall := Lib.hid hFall
  clear hFS hFall
  refine wp_region_class F (by kernel_rfl) (by kernel_rfl) hF0 ?_
  repeat (go_big_quiet_step ((go_at_call 21; refine (HU _ (HFS.out _)).mono ?_; rintro e w2 ⟨rfl, hb2⟩; exact ⟨rfl, HFall.out _ (still_below (HFS.out _) hb2)⟩)))
  refine wpQuiet_nil ?_
  rintro _ ⟨q, rfl⟩
  have HS2 := HFS.out q
  clear HFS HFall hF0 fc0 hlook hc1 hc0 HS
  generalize F q = w2 at HS2 ⊢
  have hfile := HS2.1.fileAt Hg.out
  have hcell : w2.cell? ⟨r.fb, 0, none⟩ = some r.v := cell_of hfile.cells rfl
  obtain ⟨i0, hi, hz0, hz1, hz2⟩ := info_parts (show (Try.prog.info? 5).map (fun i => (i.zero, i.size, i.bytes)) = some (some (.int .u8 0), 1, 1) by kernel_rfl)
  have hrow := hfile.row
  have hbw : HasB w2 (.slice pb n cb) ls.flatten := HasB.below Hb.out HS2.2
  unfold HasB at hbw
  rw [Hnl.out] at hbw
  obtain ⟨p1, c1, hv⟩ := OwnB.slice hrow
  have hblk : ∀ k, r.v.ownBlock = some k → k ≠ r.fb := fun k hk => HS2.1.ne_of (hfile.og k hk) hfile.ob (by simp)
  have HS3 := Lib.hid HS2
  have Hfile := Lib.hid hfile
  have Hv := Lib.hid hv
  have Hbw := Lib.hid hbw
  have Hrow := Lib.hid hrow
  have Hblk := Lib.hid hblk
  clear hfile hv hrow hbw hblk HS2
  go_wp2_with (first | (at_builtin; refine wpList_app w2 rfl (.tmp 61) (.tmp 62) 23 rfl 5 i0 (.int .u8 0) 1 1 Try.underlying23 hi hz0 hz1 hz2 rfl (by decide) r.v r.f.data.length (bytesV r.f.data) rfl Hrow.out (.slice pb n cb) n (bytesV ls.flatten) rfl Hbw.out (bytesV_one _) (by unfold maxLen; omega) (by omega) ?_; intro v' w3 hown' hgrow hloc; obtain ⟨p2, c2, rfl⟩ := OwnR.shape hown'; have hb3 := grown_block hgrow Hfile.out.cells (fun e => Hblk.out _ e rfl); have hc3 := cell_of (i := 0) hb3 rfl; have hf3 := frozen_of hb3 0; have Hg3 := Lib.hid (And.intro hown' (And.intro hgrow (And.intro hloc hb3))); clear hown' hgrow hloc hb3))
  obtain ⟨hown', hgrow, hloc, hb3⟩ := Hg3.out
  have h2 := HS3.out.1
  have hfb := lt_of_block Hfile.out.cells
  have hnv : ∀ k, (Value.slice p2 (r.f.data.length + n) c2).ownBlock = some k → k ≠ r.fb := fun k hk => by
    rcases hloc with e | ⟨g, e, hge⟩
    · exact Hblk.out k (by rw [← e]; exact hk)
    · rw [e] at hk
      cases hk
      omega
  obtain ⟨own', h4, hext⟩ := h2.upd (w' := w3.setCell ⟨r.fb, 0, none⟩ (.slice p2 (r.f.data.length + n) c2)) (f' := ⟨r.f.data ++ ls.flatten, r.f.lasts⟩) (v' := .slice p2 (r.f.data.length + n) c2) Hg.out
    (by simpa [World.setCell] using hgrow.size) (fun k hk h1 h2 => (set_other _ h1).trans (hgrow.block k hk h2)) (by rw [set_block hb3]; simp)
    (by
      have e1 : (r.f.data ++ ls.flatten).length = r.f.data.length + n := by rw [List.length_append, Hnl.out]
      unfold OwnB
      rw [e1, bytesV_app]
      exact OwnR.keep hown' fun k hk => set_other _ (hnv k hk))
    (fun g hgv => by
      rcases hloc with e | ⟨g', e, hge⟩
      · exact .inl (by rw [← e]; exact hgv)
      · rw [e] at hgv
        cases hgv
        exact .inr hge) Hok.out
  refine (done_calls h4 Hfu.out).mono ?_
  rintro e w5 ⟨rfl, hd5, hc5⟩
  have hchg : Chg (Has own) w w5 := by
    have hod : Has own d := by unfold Has; rw [h2.od]; simp
    have hob : Has own r.fb := by unfold Has; rw [Hfile.out.ob]; simp
    have hog : ∀ g, r.v.ownBlock = some g → Has own g := fun g hgv => by unfold Has; rw [Hfile.out.og g hgv]; simp
    have k1 : Chg (Has own) w w1 := below2 Hb0.out Hbel.out
    have k2 : Chg (Has own) w w2 := k1.trans ((Chg.of_below HS3.out.2).mono (T := Has own) fun _ _ h => h.elim) fun _ _ h => h
    have k3 : Chg (Has own) w w3 := k2.trans (Chg.of_grown hgrow) fun i _ e => hog i e.symm
    have c4 : Chg (Has own) w (w3.setCell ⟨r.fb, 0, none⟩ (.slice p2 (r.f.data.length + n) c2)) := k3.trans (Chg.setCell w3 ⟨r.fb, 0, none⟩ (.slice p2 (r.f.data.length + n) c2)) fun i _ e => by rw [e]; exact hob
    exact c4.trans hc5 fun i _ e => by rw [e]; exact hod
  clear hown' hgrow hloc hb3 h2 h4 hfb hnv hc3 hf3
  have Hx := Lib.hid hext
  clear hext
  go_wp2_with fail
  go_ret
  exact ⟨own', rfl, hd5, hchg, fun k hk => Hx.out k (Nat.lt_of_lt_of_le hk (Nat.le_trans (below2 (S := fun _ => False) Hb0.out Hbel.out).size HS3.out.2.size))⟩
theorem new_has {w2 w3 : World} {o : Obj} (h : DiskIn w2 d m left L own D) {v : Value} {l : Bs} (hv : HasB w2 v l) (hg : (w2.alloc o).grownBy w3 (some m)) : HasB w3 v l := by
  obtain ⟨es, clock, hm, _⟩ := h.map
  have hc : Chg (fun k => k = m) w2 w3 := ((Chg.alloc w2 _).mono (T := fun k => k = m) fun _ _ h => h.elim).trans (Chg.of_grown hg) fun i _ e => by simpa using e
  exact Holds.chg2 hv hc fun a u hu _ => no_cell_map hm hu

set_option maxRecDepth 100000 in
set_option maxHeartbeats 2000000 in
theorem append_new (h : DiskIn w d m left L own D) (s : ByteArray) (x : Value) (ls : List Bs) (hx : RowsAt w x ls) (hn : ls.length ≤ 140737488355328) (hl : ls.flatten.length ≤ 140737488355328) (hsz : s.size ≤ 9223372036854775807) (hm : D.may [nm s] = 0)
    (hf : D.full (nm s) ls.flatten = false) (hg : Sat.get (nm s) L = none) :
    Calls Try.prog 16 #[.pointer (some ⟨d, 0, none⟩), .string s, x] w (After w d own (DiskM.done { D with files := put (nm s) ⟨ls.flatten, 0⟩ D.files }, 0)) := by
  have hb0 := (Below.refl w.heap.size w).alloc (Nat.le_refl _) (.cells #[.string s] 9)
  have h1 := h.chg (Chg.alloc w (.cells #[.string s] 9)) (fun k hk => hk.elim)
  have hc := may_calls h1 _ [s] 1 (strs_one w s) (by simp) (by simpa using hsz)
  simp only [List.map_cons, List.map_nil, hm] at hc
  have hj := join_calls (rows_below hx hb0) hn hl
  have hcur : D.cur (nm s) = ⟨[], 0⟩ := by simp [DiskM.cur, h.get, hg]
  have hok := ok_append h.ok hm hf
  rw [hcur] at hok
  simp only [List.nil_append] at hok
  have hfu := (may_zero hm).1
  have hfc : D.used + ls.flatten.length ≤ D.room ∧ L.length < 4096 := by
    simp only [DiskM.full, Bool.or_eq_false_iff, decide_eq_false_iff_not, h.get, hg, h.len, Option.map_none, Option.isNone_none, Bool.true_and] at hf
    omega
  obtain ⟨hfit, hcount⟩ := hfc
  have hr := h.ok.room
  have H1 := Lib.hid h1
  have Hc := Lib.hid hc
  have Hj := Lib.hid hj
  have Hb0 := Lib.hid hb0
  have Hok := Lib.hid hok
  have Hfu := Lib.hid hfu
  clear h hc h1 hm hj hx hb0 hok hcur hf hfu
  go_enter Try.func16, Try.ntmps16
  go_wp2_with fail
  refine Hc.out.mono ?_
  rintro e w' ⟨rfl, rfl⟩
  go_wp2_with fail
  refine Hj.out.mono ?_
  rintro e w1 ⟨b, rfl, hb, hbel⟩
  have Hb := Lib.hid hb
  obtain ⟨pb, cb, rfl⟩ := HasB.slice hb
  clear hb
  have h2 := H1.out.chg (Chg.of_below hbel) (fun k hk => hk.elim)
  have hc1 := h2.c1
  have hlook := run_look_none w1 keyLaw Try.underlying9 Try.underlying74 (zeroFile w1) FRep.fb h2.map hsz hg
  have HS : Still w1 d m left L own D w1.drew := still_below ⟨h2, Below.refl _ _⟩ ((Below.refl _ _).drew)
  have HU := fun W (h : Still w1 d m left L own D W) => used_walk h.1
  generalize hR : D.room = R at hfit hr
  generalize hU : D.used = U at hfit HU
  generalize hlen : L.length = N at hcount
  generalize hnl : ls.flatten.length = n at *
  have hgt : decide ((R : Int) - (U : Int) < (n : Int)) = false := by simp; omega
  have hsub : IntKind.i64.wrap ((R : Int) - (U : Int)) = (R : Int) - (U : Int) := IntWalk.i64_in _ (by omega)
  have hcnt : decide ((4096 : Int) ≤ (N : Int)) = false := by simp; omega
  have HR := Lib.hid hR
  have Hlen := Lib.hid hlen
  have Hbel := Lib.hid hbel
  have Hg := Lib.hid hg
  have Hnl := Lib.hid hnl
  clear hR hU h2 hbel hg hlen hnl
  go_wp2_with fail
  obtain ⟨ι, F, hne, hF0, hFS, hFall⟩ := classOf _ HS
  have fc0 : ∀ n, (F n).cell? ⟨d, 0, none⟩ = some (.int .i64 (R : Int)) := fun n => by rw [(hFS n).1.c0, HR.out]
  have fc1 : ∀ n, (F n).cell? ⟨d, 1, none⟩ = some (.map (some m)) := fun n => (hFS n).1.c1
  have fl : ∀ n ty, (Builtin.len_ #[74] ty #[.map (some m)]).run Try.prog (F n) = .ok (.int .i64 (N : Int)) (F n) := fun n ty => by rw [len_run (hFS n).1 ty, Hlen.out]
  have HFS := Lib.hid hFS
  have HFall := Lib.hid hFall
  clear hFS hFall HS
  refine wp_region_class F (by kernel_rfl) (by kernel_rfl) hF0 ?_
  repeat (go_big_quiet_step ((go_at_call 21; refine (HU _ (HFS.out _)).mono ?_; rintro e w2 ⟨rfl, hb2⟩; exact ⟨rfl, HFall.out _ (still_below (HFS.out _) hb2)⟩)))
  refine wpQuiet_nil ?_
  rintro _ ⟨q, rfl⟩
  have HS2 := HFS.out q
  clear HFS HFall hF0 fc0 fc1 fl hlook hc1 HU
  generalize F q = w2 at HS2 ⊢
  have hc1 := HS2.1.c1
  have hdl := HS2.1.dlt
  have hN : L.length < maxLen := by rw [Hlen.out]; unfold maxLen; omega
  have hmap := HS2.1.map.alloc (.cells #[.slice none 0 0, .int .i64 0] 80)
  have HS3 := Lib.hid HS2
  have Hmap := Lib.hid hmap
  clear HS2 hmap
  obtain ⟨i0, hi, hz0, hz1, hz2⟩ := info_parts (show (Try.prog.info? 5).map (fun i => (i.zero, i.size, i.bytes)) = some (some (.int .u8 0), 1, 1) by kernel_rfl)
  go_wp2_with (first | (at_mapUpdate; refine wpList_mapUpdate_own _ rfl _ _ _ 74 rfl 9 78 keyLaw Try.underlying74 ptrR m L.length (dm fbD L) rfl Hmap.out hN _ _ _ rfl rfl (WideMaps.keyOf_string_mk Try.underlying9 hsz) (.held w2.heap.size) [] rfl ?_; intro w3 hown3 hg3; have hfb3 := grown_block hg3 (new_block w2 _) (by intro e; have h9 := HS3.out.1.mlt; cases e; omega); have hc3 := cell_of (i := 0) hfb3 rfl; have Hg3 := Lib.hid (And.intro hown3 (And.intro hg3 hfb3)); clear hown3 hg3 hfb3) | (at_builtin; have hbw := new_has HS3.out.1 (HasB.below Hb.out HS3.out.2) Hg3.out.2.1; unfold HasB at hbw; rw [Hnl.out] at hbw; refine wpList_app w3 rfl (.tmp 61) (.tmp 62) 23 rfl 5 i0 (.int .u8 0) 1 1 Try.underlying23 hi hz0 hz1 hz2 rfl (by decide) (.slice none 0 0) 0 [] rfl (OwnR.nil _ _ _) (.slice pb n cb) n (bytesV ls.flatten) rfl hbw (bytesV_one _) (by unfold maxLen; omega) (by omega) ?_; clear hbw; intro v' w4 hown' hgrow hloc; obtain ⟨p2, c2, rfl⟩ := OwnR.shape hown'; have hb4 := grown_block hgrow Hg3.out.2.2 (by intro e; cases e); have hc4 := cell_of (i := 0) hb4 rfl; have hf4 := frozen_of hb4 0; have Hg4 := Lib.hid (And.intro hown' (And.intro hgrow (And.intro hloc hb4))); clear hown' hgrow hloc hb4))
  obtain ⟨hown3, hg3, _⟩ := Hg3.out
  obtain ⟨hown', hgrow, hloc, hb4⟩ := Hg4.out
  have h2 := HS3.out.1
  have hs3 : w2.heap.size + 1 ≤ w3.heap.size := by
    have := hg3.size
    simpa using this
  have hs4 := hgrow.size
  have hnv : ∀ k, (Value.slice p2 (0 + n) c2).ownBlock = some k → w2.heap.size ≤ k ∧ k ≠ w2.heap.size := fun k hk => by
    rcases hloc with e | ⟨g, e, hge⟩
    · rw [e] at hk
      cases hk
    · rw [e] at hk
      cases hk
      omega
  have hold : ∀ k, k < w2.heap.size → k ≠ m → w4.heap[k]? = w2.heap[k]? := fun k hk hkm => by
    rw [hgrow.block k (by omega) (by intro e; cases e), hg3.block k (by simp; omega) (by intro e; cases e; exact hkm rfl)]
    exact heap_alloc_old w2 _ hk
  obtain ⟨own', h4, hext⟩ := h2.add (w' := w4.setCell ⟨w2.heap.size, 0, none⟩ (.slice p2 (0 + n) c2)) (r := ⟨w2.heap.size, .slice p2 (0 + n) c2, ⟨ls.flatten, 0⟩⟩) Hg.out
    (by simp [World.setCell]; omega) (fun k hk hkm => (set_other _ (by simp; omega)).trans (hold k hk hkm))
    ⟨_, (hown3.kept hgrow (by intro e; cases e)).setCell (by have := h2.mlt; simp; omega) _⟩ (by rw [set_block hb4]; simp) (Nat.le_refl _)
    (by
      have e1 : ls.flatten.length = 0 + n := by rw [Hnl.out, Nat.zero_add]
      unfold OwnB
      show OwnR _ _ _ _ ls.flatten.length _
      rw [e1]
      exact OwnR.keep hown' fun k hk => set_other _ (hnv k hk).2)
    hnv Hok.out
  have hchg : Chg (Has own) w (w4.setCell ⟨w2.heap.size, 0, none⟩ (.slice p2 (0 + n) c2)) := by
    have hom : Has own m := by unfold Has; rw [h2.om]; simp
    have k1 : Chg (Has own) w w1 := below2 Hb0.out Hbel.out
    have k2 : Chg (Has own) w w2 := k1.trans ((Chg.of_below HS3.out.2).mono (T := Has own) fun _ _ h => h.elim) fun _ _ h => h
    have k4 : Chg (fun k => k = m) w2 w4 := ⟨by rw [hgrow.os, hg3.os]; rfl, by rw [hgrow.tape, hg3.tape]; rfl, by rw [hgrow.output, hg3.output]; rfl, by omega, hold⟩
    have k5 : Chg (fun k => k = m ∨ w2.heap.size ≤ k) w2 (w4.setCell ⟨w2.heap.size, 0, none⟩ (.slice p2 (0 + n) c2)) := (k4.mono (T := fun k => k = m ∨ w2.heap.size ≤ k) fun _ _ h => .inl h).trans (Chg.setCell w4 _ _) fun i _ e => .inr (by rw [e]; exact Nat.le_refl _)
    have hs2 := k2.size
    exact k2.trans k5 fun i hi e => by
      rcases e with e | e
      · rw [e]; exact hom
      · omega
  have hod : Has own d := by unfold Has; rw [h2.od]; simp
  have hsz2 := Nat.le_trans (below2 (S := fun _ => False) Hb0.out Hbel.out).size HS3.out.2.size
  simp only [Nat.zero_add] at h4 hchg
  have hdone := done_calls h4 Hfu.out
  have Hdone := Lib.hid hdone
  have Hchg := Lib.hid hchg
  have Hx := Lib.hid hext
  have Hod := Lib.hid hod
  have Hsz := Lib.hid hsz2
  clear hown3 hg3 hown' hgrow hloc hb4 h2 hs3 hs4 hnv hold h4 hext hchg hod hsz2 hdone hc3 hc4 hf4
  refine Hdone.out.mono ?_
  rintro e w5 ⟨rfl, hd5, hc5⟩
  go_wp2_with fail
  go_ret
  exact ⟨own', rfl, hd5, Hchg.out.trans hc5 fun i _ e => by rw [e]; exact Hod.out, fun k hk => Hx.out k (Nat.lt_of_lt_of_le hk Hsz.out)⟩

/-- **Append.** -/
theorem append_calls (h : DiskAt w d D own) (s : ByteArray) (x : Value) (ls : List Bs) (hx : RowsAt w x ls) (hn : ls.length ≤ 140737488355328) (hl : ls.flatten.length ≤ 140737488355328) (hsz : s.size ≤ 9223372036854775807) :
    Calls Try.prog 16 #[.pointer (some ⟨d, 0, none⟩), .string s, x] w (After w d own (D.append (nm s) ls.flatten)) := by
  obtain ⟨m, left, L, h⟩ := h
  unfold DiskM.append
  by_cases hm : D.may [nm s] = 0
  · rw [if_neg (by simpa using hm)]
    by_cases hf : D.full (nm s) ls.flatten = true
    · rw [if_pos hf]
      by_cases hr : D.room < D.used + ls.flatten.length
      · exact append_full h s x ls hx hn hl hsz hm hr
      · simp only [DiskM.full, hr, decide_false, Bool.false_or, Bool.and_eq_true, Option.isNone_iff_eq_none, decide_eq_true_eq, h.get, h.len, Option.map_eq_none_iff] at hf
        exact append_count h s x ls hx hn hl hsz hm (by omega) hf.1 hf.2
    · rw [if_neg hf]
      have hf' : D.full (nm s) ls.flatten = false := by simpa using hf
      cases hg : Sat.get (nm s) L with
      | none =>
        have hcur : D.cur (nm s) = ⟨[], 0⟩ := by simp [DiskM.cur, h.get, hg]
        rw [hcur]
        exact append_new h s x ls hx hn hl hsz hm hf' hg
      | some r =>
        have hcur : D.cur (nm s) = r.f := by simp [DiskM.cur, h.get, hg]
        rw [hcur]
        exact append_old h s x ls hx hn hl hsz hm hf' r hg
  · rw [if_pos (by simpa using hm)]
    exact append_bad h s x hsz hm
end
end Go.Proofs.Ytdlbamhabenhgaa
