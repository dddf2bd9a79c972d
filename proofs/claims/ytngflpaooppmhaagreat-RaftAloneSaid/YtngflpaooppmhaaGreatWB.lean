/- The contract of Append. The contracts of each, Sync, Remove. The contracts of Read, Fuse, Crash. A disk that a law has made itself: the contracts in the form in which a law meets them. The contract of satrapylaw3.same. The contract of satrapylaw3.known: it is true. DiskKeeps: the walk. The contract of octet.Sum. The contracts of frame's small functions: four, fromFour, headOf. The contracts of frame.headOf and frame.Encode. octet.Join: what it hands back lies in a block of its own. The contract of frame.Encode. -/
import Derived.Laws.BitsAllLaws
import Derived.Lib.SlBytesConst
import Derived.Test.YtngflpaooppmhaaGreatWA
namespace Go.Proofs.YtngflpaooppmhaaGreat
open Go.RowKit Go.Sat Go.Maps

/-- What a call of one of the five leaves. -/
def After (w : World) (d : Nat) (own : Own) (r : DiskM × Nat) (e : Ending) (w' : World) : Prop :=
  ∃ own', e = .returned (.int .i64 (r.2 : Int)) ∧ DiskAt w' d r.1 own' ∧ Chg (Has own) w w' ∧ Ext w own own'

theorem strs_one (w : World) (s : ByteArray) : StrsAt (w.alloc (.cells #[.string s] 9)) (some ⟨w.heap.size, 0, none⟩) [s] := by
  refine .inr ⟨_, _, rfl, fun i u hu => ?_⟩
  have hi : i = 0 := by
    have := (List.getElem?_eq_some_iff.1 hu).1
    simp at this
    exact this
  subst hi
  simp at hu
  subst hu
  exact cell_of (new_block w _) rfl

theorem ext_refl (w : World) (own : Own) : Ext w own own := fun _ _ h => h

section
variable {w : World} {d m : Nat} {left : Int} {L : List (Bs × FRep)} {own : Own} {D : DiskM}

set_option maxHeartbeats 400000 in
theorem append_bad (h : DiskIn w d m left L own D) (s : ByteArray) (x : Value) (hsz : s.size ≤ 9223372036854775807) (hm : D.may [nm s] ≠ 0) :
    Calls Tryz.prog 108 #[.pointer (some ⟨d, 0, none⟩), .string s, x] w (After w d own (D, D.may [nm s])) := by
  have h1 := h.chg (Chg.alloc w (.cells #[.string s] 9)) (fun k hk => hk.elim)
  have hc := may_calls h1 _ [s] 1 (strs_one w s) (by simp) (by simpa using hsz)
  simp only [List.map_cons, List.map_nil] at hc
  generalize hk : D.may [nm s] = k at hm hc ⊢
  have hne : ((k : Int) != 0) = true := by simp; exact hm
  have H1 := Lib.hid h1
  have Hc := Lib.hid hc
  clear h hc h1 hm hk
  go_enter Tryz.func108, Tryz.ntmps108
  go_wp2_with fail
  refine Hc.out.mono ?_
  rintro e w' ⟨rfl, rfl⟩
  go_wp2_with fail
  go_ret
  exact ⟨own, rfl, ⟨m, left, L, H1.out⟩, (Chg.alloc w _).mono (fun _ _ h => h.elim), ext_refl _ _⟩

/-- The disk lies there still; nothing that was there has turned. -/
def Still (w0 : World) (d m : Nat) (left : Int) (L : List (Bs × FRep)) (own : Own) (D : DiskM) (w : World) : Prop := DiskIn w d m left L own D ∧ Below w0.heap.size w0 w

theorem still_below {w0 w1 w2 : World} (h : Still w0 d m left L own D w1) (hb : Below w1.heap.size w1 w2) : Still w0 d m left L own D w2 :=
  ⟨h.1.chg (Chg.of_below hb) (fun _ hk => hk.elim), h.2.trans (hb.mono h.2.size)⟩

theorem rows_below {w w1 : World} {x : Value} {ls : List Bs} (h : RowsAt w x ls) (hb : Below w.heap.size w w1) : RowsAt w1 x ls := by
  obtain ⟨p, c, rfl, hc, hP⟩ := h
  refine ⟨p, c, rfl, hc, fun hne => ?_⟩
  obtain ⟨b, o, vs, rfl, h1, h2, h3⟩ := hP hne
  have hold : ∀ a v, w.cell? a = some v → w1.cell? a = some v := fun a v hv => (hb.cell (World.block_lt_of_cell? w a hv)).trans hv
  refine ⟨b, o, vs, rfl, h1, fun i v hv => hold _ _ (h2 i v hv), fun i v l hv hl => ?_⟩
  obtain ⟨p, cap, rfl, h0, hcs⟩ := h3 i v l hv hl
  exact ⟨p, cap, rfl, h0, fun a ha j x hx => hold _ _ (hcs a ha j x hx)⟩

theorem below2 {S : Nat → Prop} {w w0 w2 : World} (h : Below w.heap.size w w0) (k : Below w0.heap.size w0 w2) : Chg S w w2 :=
  ((Chg.of_below h).trans (Chg.of_below k) fun _ _ h => h).mono fun _ _ h => h.elim

set_option maxRecDepth 100000 in
set_option maxHeartbeats 1000000 in
theorem append_full (h : DiskIn w d m left L own D) (s : ByteArray) (x : Value) (ls : List Bs) (hx : RowsAt w x ls) (hn : ls.length ≤ 140737488355328) (hl : ls.flatten.length ≤ 140737488355328) (hsz : s.size ≤ 9223372036854775807) (hm : D.may [nm s] = 0)
    (hf : D.room < D.used + ls.flatten.length) :
    Calls Tryz.prog 108 #[.pointer (some ⟨d, 0, none⟩), .string s, x] w (After w d own (D, 6)) := by
  have hb0 := (Below.refl w.heap.size w).alloc (Nat.le_refl _) (.cells #[.string s] 9)
  have h1 := h.chg (Chg.alloc w (.cells #[.string s] 9)) (fun k hk => hk.elim)
  have hc := may_calls h1 _ [s] 1 (strs_one w s) (by simp) (by simpa using hsz)
  simp only [List.map_cons, List.map_nil, hm] at hc
  have hj := join_calls (rows_below hx hb0) hn hl
  have H1 := Lib.hid h1
  have Hc := Lib.hid hc
  have Hj := Lib.hid hj
  have Hb0 := Lib.hid hb0
  have hr := h.ok.room
  have hu := h.ok.used
  clear h hc h1 hm hj hx hb0
  go_enter Tryz.func108, Tryz.ntmps108
  go_wp2_with fail
  refine Hc.out.mono ?_
  rintro e w' ⟨rfl, rfl⟩
  go_wp2_with fail
  refine Hj.out.mono ?_
  rintro e w1 ⟨b, rfl, hb, hbel⟩
  obtain ⟨pb, cb, rfl⟩ := HasB.slice hb
  clear hb
  have h2 := H1.out.chg (Chg.of_below hbel) (fun k hk => hk.elim)
  have hc1 := h2.c1
  have hc0 := h2.c0
  obtain ⟨fv, hlook⟩ := run_look_any w1 keyLaw Tryz.underlying9 Tryz.underlying60 (zeroFile w1) FRep.fb h2.map hsz
  have HS : Still (w.alloc (.cells #[.string s] 9)) d m left L own D w1.drew := still_below ⟨h2, hbel⟩ ((Below.refl _ _).drew)
  have HU := fun W (h : Still (w.alloc (.cells #[.string s] 9)) d m left L own D W) => used_walk h.1
  generalize hR : D.room = R at hf hr hu hc0
  generalize hU : D.used = U at hf hu HU
  generalize ls.flatten.length = n at *
  have hgt : decide ((R : Int) - (U : Int) < (n : Int)) = true := by simp; omega
  have hsub : IntKind.i64.wrap ((R : Int) - (U : Int)) = (R : Int) - (U : Int) := IntWalk.i64_in _ (by omega)
  have HR := Lib.hid hR
  have HUU := Lib.hid hU
  clear hR hU hf h2 hbel
  generalize hw0 : w.alloc (.cells #[.string s] 9) = w0 at *
  have Hw0 := Lib.hid hw0
  clear hw0
  go_wp2_with fail
  obtain ⟨ι, F, hne, hF0, hFS, hFall⟩ := classOf _ HS
  have fc0 : ∀ n, (F n).cell? ⟨d, 0, none⟩ = some (.int .i64 (R : Int)) := fun n => by rw [(hFS n).1.c0, HR.out]
  have HFS := Lib.hid hFS
  have HFall := Lib.hid hFall
  clear hFS hFall
  refine wp_region_class F (by kernel_rfl) (by kernel_rfl) hF0 ?_
  repeat (go_big_quiet_step ((go_at_call 133; refine (HU _ (HFS.out _)).mono ?_; rintro e w2 ⟨rfl, hb2⟩; exact ⟨rfl, HFall.out _ (still_below (HFS.out _) hb2)⟩)))
  refine wpQuiet_nil ?_
  rintro _ ⟨q, rfl⟩
  have HS2 := HFS.out q
  clear HFS HFall hF0 fc0
  generalize F q = w2 at HS2 ⊢
  go_wp2
  go_ret
  exact ⟨own, rfl, ⟨m, left, L, HS2.1⟩, below2 Hb0.out HS2.2, ext_refl _ _⟩

theorem may_zero {D : DiskM} {ns : List Bs} (h : D.may ns = 0) : D.fuse ≠ some 0 ∧ ns.all okN = true := by
  unfold DiskM.may at h
  split at h
  · cases h
  · rename_i h1
    refine ⟨h1, ?_⟩
    split at h
    · assumption
    · cases h

theorem ok_append {D : DiskM} (h : D.OK) {n b : Bs} (hm : D.may [n] = 0) (hf : D.full n b = false) : DiskM.OK { D with files := put n ⟨(D.cur n).data ++ b, (D.cur n).lasts⟩ D.files } := by
  have hn : okN n = true := by simpa using (may_zero hm).2
  simp only [DiskM.full, Bool.or_eq_false_iff, decide_eq_false_iff_not, Bool.and_eq_false_iff] at hf
  obtain ⟨h1, h2⟩ := hf
  have hcur : ∀ f, Sat.get n D.files = some f → D.cur n = f := fun f hg => by simp [DiskM.cur, hg]
  have hcur0 : Sat.get n D.files = none → D.cur n = ⟨[], 0⟩ := fun hg => by simp [DiskM.cur, hg]
  refine ⟨srt_put h.srt, h.room, ?_, ?_, ?_, ?_, h.fuse⟩
  · show sumBy DiskM.size (put n _ D.files) ≤ D.room
    rw [sum_put]
    have hu : D.used = DiskM.size (D.cur n) + sumBy DiskM.size (del n D.files) := by
      cases hg : Sat.get n D.files with
      | none => rw [hcur0 hg, del_none hg]; simp [DiskM.used, DiskM.size]
      | some f => rw [hcur f hg]; exact sum_del h.srt hg
    simp only [DiskM.size, List.length_append] at hu ⊢
    omega
  · show (put n _ D.files).length ≤ 4096
    rw [len_put]
    cases hg : Sat.get n D.files with
    | none =>
      rw [hg] at h2
      simp at h2
      rw [del_none hg]
      omega
    | some f =>
      have := len_del h.srt hg
      have := h.count
      omega
  · intro p hp
    rcases mem_put.1 hp with rfl | ⟨hp, _⟩
    · exact hn
    · exact h.names p hp
  · intro p hp
    rcases mem_put.1 hp with rfl | ⟨hp, _⟩
    · cases hg : Sat.get n D.files with
      | none => rw [hcur0 hg]; simp
      | some f =>
        rw [hcur f hg]
        have : f.lasts ≤ f.data.length := h.lasts _ (get_mem hg)
        simp only [List.length_append]
        omega
    · exact h.lasts p hp

theorem len_run {W : World} (h : DiskIn W d m left L own D) (ty : TypeId) : (Builtin.len_ #[60] ty #[.map (some m)]).run Tryz.prog W = .ok (.int .i64 (L.length : Int)) W := by
  have := h.map.len Tryz.underlying60 ty
  rwa [dm_size] at this

set_option maxRecDepth 100000 in
set_option maxHeartbeats 2000000 in
theorem append_count (h : DiskIn w d m left L own D) (s : ByteArray) (x : Value) (ls : List Bs) (hx : RowsAt w x ls) (hn : ls.length ≤ 140737488355328) (hl : ls.flatten.length ≤ 140737488355328) (hsz : s.size ≤ 9223372036854775807) (hm : D.may [nm s] = 0)
    (hf : D.used + ls.flatten.length ≤ D.room) (hg : Sat.get (nm s) L = none) (hcount : 4096 ≤ L.length) :
    Calls Tryz.prog 108 #[.pointer (some ⟨d, 0, none⟩), .string s, x] w (After w d own (D, 6)) := by
  have hb0 := (Below.refl w.heap.size w).alloc (Nat.le_refl _) (.cells #[.string s] 9)
  have h1 := h.chg (Chg.alloc w (.cells #[.string s] 9)) (fun k hk => hk.elim)
  have hc := may_calls h1 _ [s] 1 (strs_one w s) (by simp) (by simpa using hsz)
  simp only [List.map_cons, List.map_nil, hm] at hc
  have hj := join_calls (rows_below hx hb0) hn hl
  have hr := h.ok.room
  have hLc : L.length ≤ 4096 := by rw [← h.len]; exact h.ok.count
  have H1 := Lib.hid h1
  have Hc := Lib.hid hc
  have Hj := Lib.hid hj
  have Hb0 := Lib.hid hb0
  clear h hc h1 hm hj hx hb0
  go_enter Tryz.func108, Tryz.ntmps108
  go_wp2_with fail
  refine Hc.out.mono ?_
  rintro e w' ⟨rfl, rfl⟩
  go_wp2_with fail
  refine Hj.out.mono ?_
  rintro e w1 ⟨b, rfl, hb, hbel⟩
  obtain ⟨pb, cb, rfl⟩ := HasB.slice hb
  clear hb
  have h2 := H1.out.chg (Chg.of_below hbel) (fun k hk => hk.elim)
  have hc1 := h2.c1
  have hlook := run_look_none w1 keyLaw Tryz.underlying9 Tryz.underlying60 (zeroFile w1) FRep.fb h2.map hsz hg
  have HS : Still w1 d m left L own D w1.drew := still_below ⟨h2, Below.refl _ _⟩ ((Below.refl _ _).drew)
  have HU := fun W (h : Still w1 d m left L own D W) => used_walk h.1
  generalize hR : D.room = R at hf hr
  generalize hU : D.used = U at hf HU
  generalize hlen : L.length = N at hcount hLc
  generalize ls.flatten.length = n at *
  have hgt : decide ((R : Int) - (U : Int) < (n : Int)) = false := by simp; omega
  have hsub : IntKind.i64.wrap ((R : Int) - (U : Int)) = (R : Int) - (U : Int) := IntWalk.i64_in _ (by omega)
  have hcnt : decide ((4096 : Int) ≤ (N : Int)) = true := by simp; omega
  have HR := Lib.hid hR
  have Hlen := Lib.hid hlen
  have Hbel := Lib.hid hbel
  have Hg := Lib.hid hg
  clear hR hU hf h2 hbel hg hlen hcount
  go_wp2_with fail
  obtain ⟨ι, F, hne, hF0, hFS, hFall⟩ := classOf _ HS
  have fc0 : ∀ n, (F n).cell? ⟨d, 0, none⟩ = some (.int .i64 (R : Int)) := fun n => by rw [(hFS n).1.c0, HR.out]
  have fc1 : ∀ n, (F n).cell? ⟨d, 1, none⟩ = some (.map (some m)) := fun n => (hFS n).1.c1
  have fl : ∀ n ty, (Builtin.len_ #[60] ty #[.map (some m)]).run Tryz.prog (F n) = .ok (.int .i64 (N : Int)) (F n) := fun n ty => by rw [len_run (hFS n).1 ty, Hlen.out]
  have HFS := Lib.hid hFS
  have HFall := Lib.hid hFall
  clear hFS hFall HS
  refine wp_region_class F (by kernel_rfl) (by kernel_rfl) hF0 ?_
  repeat (go_big_quiet_step ((go_at_call 133; refine (HU _ (HFS.out _)).mono ?_; rintro e w2 ⟨rfl, hb2⟩; exact ⟨rfl, HFall.out _ (still_below (HFS.out _) hb2)⟩)))
  refine wpQuiet_nil ?_
  rintro _ ⟨q, rfl⟩
  have HS2 := HFS.out q
  clear HFS HFall hF0 fc0 fc1 fl hlook hc1
  generalize F q = w2 at HS2 ⊢
  go_wp2
  go_ret
  exact ⟨own, rfl, ⟨m, left, L, HS2.1⟩, (below2 (S := Has own) Hb0.out Hbel.out).trans ((Chg.of_below HS2.2).mono (T := Has own) fun _ _ h => h.elim) fun _ _ h => h, ext_refl _ _⟩

set_option maxRecDepth 100000 in
set_option maxHeartbeats 2000000 in
theorem append_old (h : DiskIn w d m left L own D) (s : ByteArray) (x : Value) (ls : List Bs) (hx : RowsAt w x ls) (hn : ls.length ≤ 140737488355328) (hl : ls.flatten.length ≤ 140737488355328) (hsz : s.size ≤ 9223372036854775807) (hm : D.may [nm s] = 0)
    (hf : D.full (nm s) ls.flatten = false) (r : FRep) (hg : Sat.get (nm s) L = some r) :
    Calls Tryz.prog 108 #[.pointer (some ⟨d, 0, none⟩), .string s, x] w (After w d own (DiskM.done { D with files := put (nm s) ⟨r.f.data ++ ls.flatten, r.f.lasts⟩ D.files }, 0)) := by
  have hb0 := (Below.refl w.heap.size w).alloc (Nat.le_refl _) (.cells #[.string s] 9)
  have h1 := h.chg (Chg.alloc w (.cells #[.string s] 9)) (fun k hk => hk.elim)
  have hc := may_calls h1 _ [s] 1 (strs_one w s) (by simp) (by simpa using hsz)
  simp only [List.map_cons, List.map_nil, hm] at hc
  have hj := join_calls (rows_below hx hb0) hn hl
  have hcur : D.cur (nm s) = r.f := by simp [DiskM.cur, h.get, hg]
  have hok := ok_append h.ok hm hf
  rw [hcur] at hok
  have hfu := (may_zero hm).1
  have hfit : D.used + ls.flatten.length ≤ D.room := by
    simp only [DiskM.full, Bool.or_eq_false_iff, decide_eq_false_iff_not] at hf
    omega
  have hrl : r.f.data.length ≤ D.used := by rw [h.used]; exact le_sum (f := fun r : FRep => r.f.data.length) h.srt hg
  have H1 := Lib.hid h1
  have Hc := Lib.hid hc
  have Hj := Lib.hid hj
  have Hb0 := Lib.hid hb0
  have Hok := Lib.hid hok
  have Hfu := Lib.hid hfu
  have hr := h.ok.room
  clear h hc h1 hm hj hx hb0 hok hcur hf hfu
  go_enter Tryz.func108, Tryz.ntmps108
  go_wp2_with fail
  refine Hc.out.mono ?_
  rintro e w' ⟨rfl, rfl⟩
  go_wp2_with fail
  refine Hj.out.mono ?_
  rintro e w1 ⟨b, rfl, hb, hbel⟩
  have Hb := Lib.hid hb
  obtain ⟨pb, cb, rfl⟩ := HasB.slice hb
  clear hb
  have h2 := H1.out.chg (Chg.of_below hbel) (fun k hk => hk.elim)
  have hc1 := h2.c1
  have hc0 := h2.c0
  have hlook := run_look_some w1 keyLaw Tryz.underlying9 Tryz.underlying60 (zeroFile w1) FRep.fb h2.map hsz hg
  have HS0 : Still w1 d m left L own D w1 := ⟨h2, Below.refl _ _⟩
  have HS : Still w1 d m left L own D w1.drew := still_below HS0 ((Below.refl _ _).drew)
  have HU := fun W (h : Still w1 d m left L own D W) => used_walk h.1
  have Hbel := Lib.hid hbel
  generalize hR : D.room = R at hfit hr hc0
  generalize hU : D.used = U at hfit HU hrl
  generalize hnl : ls.flatten.length = n at *
  have hgt : decide ((R : Int) - (U : Int) < (n : Int)) = false := by simp; omega
  have hsub : IntKind.i64.wrap ((R : Int) - (U : Int)) = (R : Int) - (U : Int) := IntWalk.i64_in _ (by omega)
  have HR := Lib.hid hR
  have HUU := Lib.hid hU
  have Hnl := Lib.hid hnl
  have Hg := Lib.hid hg
  clear hR hU h2 hbel hnl hg
  go_wp2_with fail
  obtain ⟨ι, F, hne, hF0, hFS, hFall⟩ := classOf _ HS
  have fc0 : ∀ n, (F n).cell? ⟨d, 0, none⟩ = some (.int .i64 (R : Int)) := fun n => by rw [(hFS n).1.c0, HR.out]
  have HFS := Lib.hid hFS
  have HFall := Lib.hid hFall
  clear hFS hFall
  refine wp_region_class F (by kernel_rfl) (by kernel_rfl) hF0 ?_
  repeat (go_big_quiet_step ((go_at_call 133; refine (HU _ (HFS.out _)).mono ?_; rintro e w2 ⟨rfl, hb2⟩; exact ⟨rfl, HFall.out _ (still_below (HFS.out _) hb2)⟩)))
  refine wpQuiet_nil ?_
  rintro _ ⟨q, rfl⟩
  have HS2 := HFS.out q
  clear HFS HFall hF0 fc0 hlook hc1 hc0 HS
  generalize F q = w2 at HS2 ⊢
  have hfile := HS2.1.fileAt Hg.out
  have hcell : w2.cell? ⟨r.fb, 0, none⟩ = some r.v := cell_of hfile.cells rfl
  obtain ⟨i0, hi, hz0, hz1, hz2⟩ := info_parts (show (Tryz.prog.info? 5).map (fun i => (i.zero, i.size, i.bytes)) = some (some (.int .u8 0), 1, 1) by kernel_rfl)
  have hrow := hfile.row
  have hbw : HasB w2 (.slice pb n cb) ls.flatten := HasB.below Hb.out HS2.2
  unfold HasB at hbw
  rw [Hnl.out] at hbw
  obtain ⟨p1, c1, hv⟩ := OwnB.slice hrow
  have hblk : ∀ k, r.v.ownBlock = some k → k ≠ r.fb := fun k hk => HS2.1.ne_of (hfile.og k hk) hfile.ob (by simp)
  have HS3 := Lib.hid HS2
  have Hfile := Lib.hid hfile
  have Hv := Lib.hid hv
  have Hbw := Lib.hid hbw
  have Hrow := Lib.hid hrow
  have Hblk := Lib.hid hblk
  clear hfile hv hrow hbw hblk HS2
  go_wp2_with (first | (at_builtin; refine wpList_app w2 rfl (.tmp 61) (.tmp 62) 23 rfl 5 i0 (.int .u8 0) 1 1 Tryz.underlying23 hi hz0 hz1 hz2 rfl (by decide) r.v r.f.data.length (bytesV r.f.data) rfl Hrow.out (.slice pb n cb) n (bytesV ls.flatten) rfl Hbw.out (bytesV_one _) (by unfold maxLen; omega) (by omega) ?_; intro v' w3 hown' hgrow hloc; obtain ⟨p2, c2, rfl⟩ := OwnR.shape hown'; have hb3 := grown_block hgrow Hfile.out.cells (fun e => Hblk.out _ e rfl); have hc3 := cell_of (i := 0) hb3 rfl; have hf3 := frozen_of hb3 0; have Hg3 := Lib.hid (And.intro hown' (And.intro hgrow (And.intro hloc hb3))); clear hown' hgrow hloc hb3))
  obtain ⟨hown', hgrow, hloc, hb3⟩ := Hg3.out
  have h2 := HS3.out.1
  have hfb := lt_of_block Hfile.out.cells
  have hnv : ∀ k, (Value.slice p2 (r.f.data.length + n) c2).ownBlock = some k → k ≠ r.fb := fun k hk => by
    rcases hloc with e | ⟨g, e, hge⟩
    · exact Hblk.out k (by rw [← e]; exact hk)
    · rw [e] at hk
      cases hk
      omega
  obtain ⟨own', h4, hext⟩ := h2.upd (w' := w3.setCell ⟨r.fb, 0, none⟩ (.slice p2 (r.f.data.length + n) c2)) (f' := ⟨r.f.data ++ ls.flatten, r.f.lasts⟩) (v' := .slice p2 (r.f.data.length + n) c2) Hg.out
    (by simpa [World.setCell] using hgrow.size) (fun k hk h1 h2 => (set_other _ h1).trans (hgrow.block k hk h2)) (by rw [set_block hb3]; simp)
    (by
      have e1 : (r.f.data ++ ls.flatten).length = r.f.data.length + n := by rw [List.length_append, Hnl.out]
      unfold OwnB
      rw [e1, bytesV_app]
      exact OwnR.keep hown' fun k hk => set_other _ (hnv k hk))
    (fun g hgv => by
      rcases hloc with e | ⟨g', e, hge⟩
      · exact .inl (by rw [← e]; exact hgv)
      · rw [e] at hgv
        cases hgv
        exact .inr hge) Hok.out
  refine (done_calls h4 Hfu.out).mono ?_
  rintro e w5 ⟨rfl, hd5, hc5⟩
  have hchg : Chg (Has own) w w5 := by
    have hod : Has own d := by unfold Has; rw [h2.od]; simp
    have hob : Has own r.fb := by unfold Has; rw [Hfile.out.ob]; simp
    have hog : ∀ g, r.v.ownBlock = some g → Has own g := fun g hgv => by unfold Has; rw [Hfile.out.og g hgv]; simp
    have k1 : Chg (Has own) w w1 := below2 Hb0.out Hbel.out
    have k2 : Chg (Has own) w w2 := k1.trans ((Chg.of_below HS3.out.2).mono (T := Has own) fun _ _ h => h.elim) fun _ _ h => h
    have k3 : Chg (Has own) w w3 := k2.trans (Chg.of_grown hgrow) fun i _ e => hog i e.symm
    have c4 : Chg (Has own) w (w3.setCell ⟨r.fb, 0, none⟩ (.slice p2 (r.f.data.length + n) c2)) := k3.trans (Chg.setCell w3 ⟨r.fb, 0, none⟩ (.slice p2 (r.f.data.length + n) c2)) fun i _ e => by rw [e]; exact hob
    exact c4.trans hc5 fun i _ e => by rw [e]; exact hod
  clear hown' hgrow hloc hb3 h2 h4 hfb hnv hc3 hf3
  have Hx := Lib.hid hext
  clear hext
  go_wp2_with fail
  go_ret
  exact ⟨own', rfl, hd5, hchg, fun k hk => Hx.out k (Nat.lt_of_lt_of_le hk (Nat.le_trans (below2 (S := fun _ => False) Hb0.out Hbel.out).size HS3.out.2.size))⟩
theorem new_has {w2 w3 : World} {o : Obj} (h : DiskIn w2 d m left L own D) {v : Value} {l : Bs} (hv : HasB w2 v l) (hg : (w2.alloc o).grownBy w3 (some m)) : HasB w3 v l := by
  obtain ⟨es, clock, hm, _⟩ := h.map
  have hc : Chg (fun k => k = m) w2 w3 := ((Chg.alloc w2 _).mono (T := fun k => k = m) fun _ _ h => h.elim).trans (Chg.of_grown hg) fun i _ e => by simpa using e
  exact Holds.chg2 hv hc fun a u hu _ => no_cell_map hm hu

set_option maxRecDepth 100000 in
set_option maxHeartbeats 2000000 in
theorem append_new (h : DiskIn w d m left L own D) (s : ByteArray) (x : Value) (ls : List Bs) (hx : RowsAt w x ls) (hn : ls.length ≤ 140737488355328) (hl : ls.flatten.length ≤ 140737488355328) (hsz : s.size ≤ 9223372036854775807) (hm : D.may [nm s] = 0)
    (hf : D.full (nm s) ls.flatten = false) (hg : Sat.get (nm s) L = none) :
    Calls Tryz.prog 108 #[.pointer (some ⟨d, 0, none⟩), .string s, x] w (After w d own (DiskM.done { D with files := put (nm s) ⟨ls.flatten, 0⟩ D.files }, 0)) := by
  have hb0 := (Below.refl w.heap.size w).alloc (Nat.le_refl _) (.cells #[.string s] 9)
  have h1 := h.chg (Chg.alloc w (.cells #[.string s] 9)) (fun k hk => hk.elim)
  have hc := may_calls h1 _ [s] 1 (strs_one w s) (by simp) (by simpa using hsz)
  simp only [List.map_cons, List.map_nil, hm] at hc
  have hj := join_calls (rows_below hx hb0) hn hl
  have hcur : D.cur (nm s) = ⟨[], 0⟩ := by simp [DiskM.cur, h.get, hg]
  have hok := ok_append h.ok hm hf
  rw [hcur] at hok
  simp only [List.nil_append] at hok
  have hfu := (may_zero hm).1
  have hfc : D.used + ls.flatten.length ≤ D.room ∧ L.length < 4096 := by
    simp only [DiskM.full, Bool.or_eq_false_iff, decide_eq_false_iff_not, h.get, hg, h.len, Option.map_none, Option.isNone_none, Bool.true_and] at hf
    omega
  obtain ⟨hfit, hcount⟩ := hfc
  have hr := h.ok.room
  have H1 := Lib.hid h1
  have Hc := Lib.hid hc
  have Hj := Lib.hid hj
  have Hb0 := Lib.hid hb0
  have Hok := Lib.hid hok
  have Hfu := Lib.hid hfu
  clear h hc h1 hm hj hx hb0 hok hcur hf hfu
  go_enter Tryz.func108, Tryz.ntmps108
  go_wp2_with fail
  refine Hc.out.mono ?_
  rintro e w' ⟨rfl, rfl⟩
  go_wp2_with fail
  refine Hj.out.mono ?_
  rintro e w1 ⟨b, rfl, hb, hbel⟩
  have Hb := Lib.hid hb
  obtain ⟨pb, cb, rfl⟩ := HasB.slice hb
  clear hb
  have h2 := H1.out.chg (Chg.of_below hbel) (fun k hk => hk.elim)
  have hc1 := h2.c1
  have hlook := run_look_none w1 keyLaw Tryz.underlying9 Tryz.underlying60 (zeroFile w1) FRep.fb h2.map hsz hg
  have HS : Still w1 d m left L own D w1.drew := still_below ⟨h2, Below.refl _ _⟩ ((Below.refl _ _).drew)
  have HU := fun W (h : Still w1 d m left L own D W) => used_walk h.1
  generalize hR : D.room = R at hfit hr
  generalize hU : D.used = U at hfit HU
  generalize hlen : L.length = N at hcount
  generalize hnl : ls.flatten.length = n at *
  have hgt : decide ((R : Int) - (U : Int) < (n : Int)) = false := by simp; omega
  have hsub : IntKind.i64.wrap ((R : Int) - (U : Int)) = (R : Int) - (U : Int) := IntWalk.i64_in _ (by omega)
  have hcnt : decide ((4096 : Int) ≤ (N : Int)) = false := by simp; omega
  have HR := Lib.hid hR
  have Hlen := Lib.hid hlen
  have Hbel := Lib.hid hbel
  have Hg := Lib.hid hg
  have Hnl := Lib.hid hnl
  clear hR hU h2 hbel hg hlen hnl
  go_wp2_with fail
  obtain ⟨ι, F, hne, hF0, hFS, hFall⟩ := classOf _ HS
  have fc0 : ∀ n, (F n).cell? ⟨d, 0, none⟩ = some (.int .i64 (R : Int)) := fun n => by rw [(hFS n).1.c0, HR.out]
  have fc1 : ∀ n, (F n).cell? ⟨d, 1, none⟩ = some (.map (some m)) := fun n => (hFS n).1.c1
  have fl : ∀ n ty, (Builtin.len_ #[60] ty #[.map (some m)]).run Tryz.prog (F n) = .ok (.int .i64 (N : Int)) (F n) := fun n ty => by rw [len_run (hFS n).1 ty, Hlen.out]
  have HFS := Lib.hid hFS
  have HFall := Lib.hid hFall
  clear hFS hFall HS
  refine wp_region_class F (by kernel_rfl) (by kernel_rfl) hF0 ?_
  repeat (go_big_quiet_step ((go_at_call 133; refine (HU _ (HFS.out _)).mono ?_; rintro e w2 ⟨rfl, hb2⟩; exact ⟨rfl, HFall.out _ (still_below (HFS.out _) hb2)⟩)))
  refine wpQuiet_nil ?_
  rintro _ ⟨q, rfl⟩
  have HS2 := HFS.out q
  clear HFS HFall hF0 fc0 fc1 fl hlook hc1 HU
  generalize F q = w2 at HS2 ⊢
  have hc1 := HS2.1.c1
  have hdl := HS2.1.dlt
  have hN : L.length < maxLen := by rw [Hlen.out]; unfold maxLen; omega
  have hmap := HS2.1.map.alloc (.cells #[.slice none 0 0, .int .i64 0] 147)
  have HS3 := Lib.hid HS2
  have Hmap := Lib.hid hmap
  clear HS2 hmap
  obtain ⟨i0, hi, hz0, hz1, hz2⟩ := info_parts (show (Tryz.prog.info? 5).map (fun i => (i.zero, i.size, i.bytes)) = some (some (.int .u8 0), 1, 1) by kernel_rfl)
  go_wp2_with (first | (at_mapUpdate; refine wpList_mapUpdate_own _ rfl _ _ _ 60 rfl 9 145 keyLaw Tryz.underlying60 ptrR m L.length (dm fbD L) rfl Hmap.out hN _ _ _ rfl rfl (WideMaps.keyOf_string_mk Tryz.underlying9 hsz) (.held w2.heap.size) [] rfl ?_; intro w3 hown3 hg3; have hfb3 := grown_block hg3 (new_block w2 _) (by intro e; have h9 := HS3.out.1.mlt; cases e; omega); have hc3 := cell_of (i := 0) hfb3 rfl; have Hg3 := Lib.hid (And.intro hown3 (And.intro hg3 hfb3)); clear hown3 hg3 hfb3) | (at_builtin; have hbw := new_has HS3.out.1 (HasB.below Hb.out HS3.out.2) Hg3.out.2.1; unfold HasB at hbw; rw [Hnl.out] at hbw; refine wpList_app w3 rfl (.tmp 61) (.tmp 62) 23 rfl 5 i0 (.int .u8 0) 1 1 Tryz.underlying23 hi hz0 hz1 hz2 rfl (by decide) (.slice none 0 0) 0 [] rfl (OwnR.nil _ _ _) (.slice pb n cb) n (bytesV ls.flatten) rfl hbw (bytesV_one _) (by unfold maxLen; omega) (by omega) ?_; clear hbw; intro v' w4 hown' hgrow hloc; obtain ⟨p2, c2, rfl⟩ := OwnR.shape hown'; have hb4 := grown_block hgrow Hg3.out.2.2 (by intro e; cases e); have hc4 := cell_of (i := 0) hb4 rfl; have hf4 := frozen_of hb4 0; have Hg4 := Lib.hid (And.intro hown' (And.intro hgrow (And.intro hloc hb4))); clear hown' hgrow hloc hb4))
  obtain ⟨hown3, hg3, _⟩ := Hg3.out
  obtain ⟨hown', hgrow, hloc, hb4⟩ := Hg4.out
  have h2 := HS3.out.1
  have hs3 : w2.heap.size + 1 ≤ w3.heap.size := by
    have := hg3.size
    simpa using this
  have hs4 := hgrow.size
  have hnv : ∀ k, (Value.slice p2 (0 + n) c2).ownBlock = some k → w2.heap.size ≤ k ∧ k ≠ w2.heap.size := fun k hk => by
    rcases hloc with e | ⟨g, e, hge⟩
    · rw [e] at hk
      cases hk
    · rw [e] at hk
      cases hk
      omega
  have hold : ∀ k, k < w2.heap.size → k ≠ m → w4.heap[k]? = w2.heap[k]? := fun k hk hkm => by
    rw [hgrow.block k (by omega) (by intro e; cases e), hg3.block k (by simp; omega) (by intro e; cases e; exact hkm rfl)]
    exact heap_alloc_old w2 _ hk
  obtain ⟨own', h4, hext⟩ := h2.add (w' := w4.setCell ⟨w2.heap.size, 0, none⟩ (.slice p2 (0 + n) c2)) (r := ⟨w2.heap.size, .slice p2 (0 + n) c2, ⟨ls.flatten, 0⟩⟩) Hg.out
    (by simp [World.setCell]; omega) (fun k hk hkm => (set_other _ (by simp; omega)).trans (hold k hk hkm))
    ⟨_, (hown3.kept hgrow (by intro e; cases e)).setCell (by have := h2.mlt; simp; omega) _⟩ (by rw [set_block hb4]; simp) (Nat.le_refl _)
    (by
      have e1 : ls.flatten.length = 0 + n := by rw [Hnl.out, Nat.zero_add]
      unfold OwnB
      show OwnR _ _ _ _ ls.flatten.length _
      rw [e1]
      exact OwnR.keep hown' fun k hk => set_other _ (hnv k hk).2)
    hnv Hok.out
  have hchg : Chg (Has own) w (w4.setCell ⟨w2.heap.size, 0, none⟩ (.slice p2 (0 + n) c2)) := by
    have hom : Has own m := by unfold Has; rw [h2.om]; simp
    have k1 : Chg (Has own) w w1 := below2 Hb0.out Hbel.out
    have k2 : Chg (Has own) w w2 := k1.trans ((Chg.of_below HS3.out.2).mono (T := Has own) fun _ _ h => h.elim) fun _ _ h => h
    have k4 : Chg (fun k => k = m) w2 w4 := ⟨by rw [hgrow.os, hg3.os]; rfl, by rw [hgrow.tape, hg3.tape]; rfl, by rw [hgrow.output, hg3.output]; rfl, by omega, hold⟩
    have k5 : Chg (fun k => k = m ∨ w2.heap.size ≤ k) w2 (w4.setCell ⟨w2.heap.size, 0, none⟩ (.slice p2 (0 + n) c2)) := (k4.mono (T := fun k => k = m ∨ w2.heap.size ≤ k) fun _ _ h => .inl h).trans (Chg.setCell w4 _ _) fun i _ e => .inr (by rw [e]; exact Nat.le_refl _)
    have hs2 := k2.size
    exact k2.trans k5 fun i hi e => by
      rcases e with e | e
      · rw [e]; exact hom
      · omega
  have hod : Has own d := by unfold Has; rw [h2.od]; simp
  have hsz2 := Nat.le_trans (below2 (S := fun _ => False) Hb0.out Hbel.out).size HS3.out.2.size
  simp only [Nat.zero_add] at h4 hchg
  have hdone := done_calls h4 Hfu.out
  have Hdone := Lib.hid hdone
  have Hchg := Lib.hid hchg
  have Hx := Lib.hid hext
  have Hod := Lib.hid hod
  have Hsz := Lib.hid hsz2
  clear hown3 hg3 hown' hgrow hloc hb4 h2 hs3 hs4 hnv hold h4 hext hchg hod hsz2 hdone hc3 hc4 hf4
  refine Hdone.out.mono ?_
  rintro e w5 ⟨rfl, hd5, hc5⟩
  go_wp2_with fail
  go_ret
  exact ⟨own', rfl, hd5, Hchg.out.trans hc5 fun i _ e => by rw [e]; exact Hod.out, fun k hk => Hx.out k (Nat.lt_of_lt_of_le hk Hsz.out)⟩

/-- **Append.** -/
theorem append_calls (h : DiskAt w d D own) (s : ByteArray) (x : Value) (ls : List Bs) (hx : RowsAt w x ls) (hn : ls.length ≤ 140737488355328) (hl : ls.flatten.length ≤ 140737488355328) (hsz : s.size ≤ 9223372036854775807) :
    Calls Tryz.prog 108 #[.pointer (some ⟨d, 0, none⟩), .string s, x] w (After w d own (D.append (nm s) ls.flatten)) := by
  obtain ⟨m, left, L, h⟩ := h
  unfold DiskM.append
  by_cases hm : D.may [nm s] = 0
  · rw [if_neg (by simpa using hm)]
    by_cases hf : D.full (nm s) ls.flatten = true
    · rw [if_pos hf]
      by_cases hr : D.room < D.used + ls.flatten.length
      · exact append_full h s x ls hx hn hl hsz hm hr
      · simp only [DiskM.full, hr, decide_false, Bool.false_or, Bool.and_eq_true, Option.isNone_iff_eq_none, decide_eq_true_eq, h.get, h.len, Option.map_eq_none_iff] at hf
        exact append_count h s x ls hx hn hl hsz hm (by omega) hf.1 hf.2
    · rw [if_neg hf]
      have hf' : D.full (nm s) ls.flatten = false := by simpa using hf
      cases hg : Sat.get (nm s) L with
      | none =>
        have hcur : D.cur (nm s) = ⟨[], 0⟩ := by simp [DiskM.cur, h.get, hg]
        rw [hcur]
        exact append_new h s x ls hx hn hl hsz hm hf' hg
      | some r =>
        have hcur : D.cur (nm s) = r.f := by simp [DiskM.cur, h.get, hg]
        rw [hcur]
        exact append_old h s x ls hx hn hl hsz hm hf' r hg
  · rw [if_pos (by simpa using hm)]
    exact append_bad h s x hsz hm
end
end Go.Proofs.YtngflpaooppmhaaGreat

namespace Go.Proofs.YtngflpaooppmhaaGreat
open Go.RowKit Go.Sat Go.Maps

/-- What a thing done with a file leaves. -/
def Did (W : World) (d : Nat) (own : Own) (D : DiskM) (e : Ending) (w' : World) : Prop :=
  ∃ own', e = .returned (.tuple #[]) ∧ DiskAt w' d D own' ∧ Chg (Has own) W w' ∧ Ext W own own'

theorem ok_sync {D : DiskM} (h : D.OK) {n : Bs} {f : FileM} (hg : Sat.get n D.files = some f) : DiskM.OK { D with files := DiskM.gSync n f D.files } where
  srt := srt_put h.srt
  room := h.room
  used := by
    show sumBy DiskM.size (put n _ D.files) ≤ D.room
    rw [sum_put]
    have h1 : D.used = DiskM.size f + sumBy DiskM.size (del n D.files) := sum_del h.srt hg
    have := h.used
    simp only [DiskM.size] at h1 ⊢
    omega
  count := by
    show (put n _ D.files).length ≤ 4096
    rw [len_put]
    have := len_del h.srt hg
    have := h.count
    omega
  names p hp := by
    rcases mem_put.1 hp with rfl | ⟨hp, _⟩
    · exact (h.names (n, f) (get_mem hg) : okN n = true)
    · exact h.names p hp
  lasts p hp := by
    rcases mem_put.1 hp with rfl | ⟨hp, _⟩
    · exact Nat.le_refl _
    · exact h.lasts p hp
  fuse := h.fuse

theorem ok_del {D : DiskM} (h : D.OK) (n : Bs) : DiskM.OK { D with files := del n D.files } where
  srt := srt_del h.srt
  room := h.room
  used := by
    show sumBy DiskM.size (del n D.files) ≤ D.room
    cases hg : Sat.get n D.files with
    | none => rw [del_none hg]; exact h.used
    | some f =>
      have h1 : D.used = DiskM.size f + sumBy DiskM.size (del n D.files) := sum_del h.srt hg
      have := h.used
      omega
  count := Nat.le_trans (len_del_le _ _) h.count
  names p hp := h.names p (mem_del.1 hp).1
  lasts p hp := h.lasts p (mem_del.1 hp).1
  fuse := h.fuse

section
variable {w : World} {d m : Nat} {left : Int} {L : List (Bs × FRep)} {own : Own} {D : DiskM}

theorem has_d (h : DiskIn w d m left L own D) : Has own d := by unfold Has; rw [h.od]; simp
theorem has_m (h : DiskIn w d m left L own D) : Has own m := by unfold Has; rw [h.om]; simp
theorem has_f (h : DiskIn w d m left L own D) {n : Bs} {r : FRep} (hg : Sat.get n L = some r) : Has own r.fb := by unfold Has; rw [(h.fileAt hg).ob]; simp

set_option maxHeartbeats 400000 in
theorem sync1_calls (h : DiskIn w d m left L own D) (s : ByteArray) {r : FRep} (hg : Sat.get (nm s) L = some r) :
    Calls Tryz.prog 131 #[.string s, .pointer (some ⟨r.fb, 0, none⟩)] w (Did w d own { D with files := DiskM.gSync (nm s) r.f D.files }) := by
  have hf := h.fileAt hg
  have hc := cell_of (i := 0) hf.cells rfl
  have hc1 := cell_of (i := 1) hf.cells rfl
  have hz := frozen_of hf.cells 1
  obtain ⟨p, c, hv⟩ := OwnB.slice hf.row
  have hdl : r.f.data.length ≤ 1073741824 := by
    have := h.ok.used
    have := h.ok.room
    have : r.f.data.length ≤ D.used := by rw [h.used]; exact le_sum (f := fun r : FRep => r.f.data.length) h.srt hg
    omega
  have hfin : Did w d own { D with files := DiskM.gSync (nm s) r.f D.files } (.returned (.tuple #[])) (w.setCell ⟨r.fb, 1, none⟩ (.int .i64 (r.f.data.length : Int))) := by
    have hne : ∀ k, r.v.ownBlock = some k → k ≠ r.fb := fun k hk => h.ne_of (hf.og k hk) hf.ob (by simp)
    obtain ⟨own', h4, hx⟩ := h.upd (w' := w.setCell ⟨r.fb, 1, none⟩ (.int .i64 (r.f.data.length : Int))) (v' := r.v) (f' := ⟨r.f.data, r.f.data.length⟩) hg (by simp [World.setCell]) (fun k _ hk _ => set_other _ hk)
      (by rw [set_block hf.cells]; simp) (hf.row.keep fun k hk => set_other _ (hne k hk)) (fun g hgv => .inl hgv) (ok_sync h.ok (by rw [h.get, hg]; rfl))
    exact ⟨own', rfl, ⟨m, left, _, h4⟩, (Chg.setCell w _ _).mono fun k _ e => by rw [e]; exact has_f h hg, hx⟩
  rw [hv] at hc
  have Hfin := Lib.hid hfin
  clear hfin h hg hf hv
  generalize r.f.data.length = n at *
  go_enter Tryz.func131, Tryz.ntmps131
  go_wp2
  go_end0
  exact Hfin.out

set_option maxHeartbeats 400000 in
theorem remove1_calls (h : DiskIn w d m left L own D) (s : ByteArray) (hs : s.size ≤ 9223372036854775807) {r : FRep} (_hg : Sat.get (nm s) L = some r) (cb : Nat) (hcb : w.cell? ⟨cb, 0, none⟩ = some (.pointer (some ⟨d, 0, none⟩))) :
    Calls Tryz.prog 97 #[.string s, .pointer (some ⟨r.fb, 0, none⟩), .pointer (some ⟨cb, 0, none⟩)] w (Did w d own { D with files := DiskM.gRemove (nm s) r.f D.files }) := by
  have hc1 := h.c1
  have hkey := WideMaps.keyOf_string_mk Tryz.underlying9 hs
  have hdel : ∀ w', w'.ownsMap Tryz.prog 9 ptrR m L.length ((dm fbD L).del (.string s.data.toList)) → w.mapTurned w' m → Did w d own { D with files := DiskM.gRemove (nm s) r.f D.files } (.returned (.tuple #[])) w' := by
    intro w' hown ht
    rw [dm_del] at hown
    have hg' := ht.grown
    obtain ⟨own', h4, hx⟩ := h.remap (w' := w') (L' := del (nm s) L) (D' := { D with files := del (nm s) D.files }) hg'.size (fun k hk hkm => hg'.block k hk (by intro e; cases e; exact hkm rfl)) ⟨_, hown⟩ (srt_del h.srt) rfl rfl
      (by rw [mp_del, ← h.files]) (ok_del h.ok _) (fun p hp => ⟨p, (mem_del.1 hp).1, rfl⟩) (fun p hp q hq e => by
        have h1 := h.file p (mem_del.1 hp).1
        have h2 := h.file q (mem_del.1 hq).1
        have h3 := h1.ob
        rw [e, h2.ob] at h3
        exact key_uniq h.srt (mem_del.1 hp).1 (mem_del.1 hq).1 (by simpa using h3.symm))
    exact ⟨own', rfl, ⟨m, left, _, h4⟩, (Chg.of_grown hg').mono fun k _ e => by cases e; exact has_m h, hx⟩
  have hown := h.map
  have Hdel := Lib.hid hdel
  clear hdel h _hg
  go_enter Tryz.func97, Tryz.ntmps97
  go_wp2_with (first | (at_delete; refine wpList_delete_own _ rfl _ _ 60 9 rfl 145 keyLaw Tryz.underlying60 ptrR m L.length (dm fbD L) rfl hown _ _ rfl hkey ?_; intro w1 hown1 hturn1; have Hf := Lib.hid (Hdel.out _ hown1 hturn1); clear hown1 hturn1))
  go_end0
  exact Hf.out

theorem each_append (g : Bs → FileM → List (Bs × FileM) → List (Bs × FileM)) (D : DiskM) (l r : List Bs) (h : (D.each g l).2 = 0) : D.each g (l ++ r) = (D.each g l).1.each g r := by
  induction l generalizing D with
  | nil => rfl
  | cons n l ih =>
    simp only [List.cons_append, DiskM.each] at h ⊢
    by_cases h1 : (DiskM.each1 g D n).2 = 0
    · rw [if_pos h1] at h ⊢
      rw [if_pos h1]
      exact ih _ h
    · rw [if_neg h1] at h
      exact absurd h h1

/-- What has been done with the first k names. -/
def EachRel (w : World) (d : Nat) (own : Own) (D : DiskM) (g : Bs → FileM → List (Bs × FileM) → List (Bs × FileM)) (ns : List Bs) (k : Nat) (wr : World) : Prop :=
  ∃ own' m left L, DiskIn wr d m left L own' (D.each g (ns.take k)).1 ∧ (D.each g (ns.take k)).2 = 0 ∧ Chg (Has own) w wr ∧ Ext w own own'

/-- The function that each is handed: what it does with a file, whatever the world (but for what it has captured). -/
def DoesAt (fv : Value) (g : Bs → FileM → List (Bs × FileM) → List (Bs × FileM)) (d : Nat) (w : World) (own : Own) : Prop :=
  (fv = .func (.func 131) #[] #[] ∧ g = DiskM.gSync) ∨
  ∃ cb, fv = .func (.func 97) #[] #[.pointer (some ⟨cb, 0, none⟩)] ∧ g = DiskM.gRemove ∧ w.cell? ⟨cb, 0, none⟩ = some (.pointer (some ⟨d, 0, none⟩)) ∧ own cb = none

theorem each_round {w wr : World} {g : Bs → FileM → List (Bs × FileM) → List (Bs × FileM)} {ns : List Bs} {k : Nat} {n : Bs} (hr : EachRel w d own D g ns k wr) (hn : ns[k]? = some n) :
    ∃ D', D.each g ns = (if (DiskM.each1 g D' n).2 = 0 then (DiskM.each1 g D' n).1.each g (ns.drop (k + 1)) else DiskM.each1 g D' n) ∧ (D.each g (ns.take k)).1 = D' ∧
      ((DiskM.each1 g D' n).2 = 0 → D.each g (ns.take (k + 1)) = DiskM.each1 g D' n) := by
  obtain ⟨own', m, left, L, _, h0, _⟩ := hr
  refine ⟨_, ?_, rfl, fun h1 => ?_⟩
  · have hk : k < ns.length := (List.getElem?_eq_some_iff.1 hn).1
    have hnk : ns[k] = n := (List.getElem?_eq_some_iff.1 hn).2
    have e1 : ns = ns.take k ++ n :: ns.drop (k + 1) := by rw [← hnk, ← List.drop_eq_getElem_cons hk, List.take_append_drop]
    have e2 : D.each g ns = D.each g (ns.take k ++ n :: ns.drop (k + 1)) := by rw [← e1]
    rw [e2, each_append g D _ _ h0]
    rfl
  · have hk : k < ns.length := (List.getElem?_eq_some_iff.1 hn).1
    have hnk : ns[k] = n := (List.getElem?_eq_some_iff.1 hn).2
    rw [List.take_succ_eq_append_getElem hk, each_append g D _ _ h0, hnk]
    simp only [DiskM.each, if_pos h1]
    exact Prod.ext rfl h1.symm

theorem chg_ext {w wr w2 : World} {own own' : Own} (h : Chg (Has own) w wr) (hx : Ext w own own') (k : Chg (Has own') wr w2) : Chg (Has own) w w2 :=
  h.trans k fun i hi t ho => t (hx i hi ho)
theorem ext_trans {w wr : World} {own own' own2 : Own} (hs : w.heap.size ≤ wr.heap.size) (h : Ext w own own') (k : Ext wr own' own2) : Ext w own own2 := fun i hi ho => k i (Nat.lt_of_lt_of_le hi hs) (h i hi ho)

theorem each1_bad {g : Bs → FileM → List (Bs × FileM) → List (Bs × FileM)} {D : DiskM} {n : Bs} (h : D.may [n] ≠ 0) : DiskM.each1 g D n = (D, D.may [n]) := by
  unfold DiskM.each1
  rw [if_pos h]
theorem each1_none {g : Bs → FileM → List (Bs × FileM) → List (Bs × FileM)} {D : DiskM} {n : Bs} (h : D.may [n] = 0) (hg : Sat.get n D.files = none) : DiskM.each1 g D n = (D, 7) := by
  unfold DiskM.each1
  rw [if_neg (by simpa using h), hg]
theorem each1_some {g : Bs → FileM → List (Bs × FileM) → List (Bs × FileM)} {D : DiskM} {n : Bs} {f : FileM} (h : D.may [n] = 0) (hg : Sat.get n D.files = some f) : DiskM.each1 g D n = (DiskM.done { D with files := g n f D.files }, 0) := by
  unfold DiskM.each1
  rw [if_neg (by simpa using h), hg]

/-- A round that errs. -/
theorem each_errs {w wr : World} {g : Bs → FileM → List (Bs × FileM) → List (Bs × FileM)} {ns : List Bs} {k : Nat} {n : Bs} {D' : DiskM} {e : Nat} {o : Obj} (hr : EachRel w d own D g ns k wr) (hn : ns[k]? = some n)
    (hD : (D.each g (ns.take k)).1 = D') (h1 : DiskM.each1 g D' n = (D', e)) (he : e ≠ 0) : After w d own (D.each g ns) (.returned (.int .i64 (e : Int))) (wr.alloc o) := by
  obtain ⟨D2, h2, h3, _⟩ := each_round hr hn
  rw [hD] at h3
  subst h3
  rw [h1, if_neg he] at h2
  obtain ⟨own', m, left, L, hd, h0, hc, hx⟩ := hr
  rw [hD] at hd
  rw [h2]
  exact ⟨own', rfl, ⟨m, left, L, hd.chg (Chg.alloc wr o) fun _ h => h.elim⟩, hc.trans ((Chg.alloc wr o).mono (T := Has own) fun _ _ h => h.elim) fun _ _ h => h, hx⟩

/-- A round that goes well. -/
theorem each_next {w wr w3 : World} {g : Bs → FileM → List (Bs × FileM) → List (Bs × FileM)} {ns : List Bs} {k : Nat} {n : Bs} {D' D2 : DiskM} {own2 : Own} (hr : EachRel w d own D g ns k wr) (hn : ns[k]? = some n)
    (hD : (D.each g (ns.take k)).1 = D') (h1 : DiskM.each1 g D' n = (D2, 0)) (hd : DiskAt w3 d D2 own2) (hc : Chg (Has own) w w3) (hx : Ext w own own2) : EachRel w d own D g ns (k + 1) w3 := by
  obtain ⟨D3, _, h3, h4⟩ := each_round hr hn
  rw [hD] at h3
  subst h3
  have h5 := h4 (by rw [h1])
  obtain ⟨m, left, L, hd⟩ := hd
  exact ⟨own2, m, left, L, by rw [h5, h1]; exact hd, by rw [h5, h1], hc, hx⟩

set_option maxRecDepth 100000 in
set_option maxHeartbeats 4000000 in
theorem each_calls (h : DiskAt w d D own) (p : Option Addr) (ss : List ByteArray) (c : Nat) (hs : StrsAt w p ss) (hm : ss.length ≤ 140737488355328) (hsz : ∀ s ∈ ss, s.size ≤ 9223372036854775807) (hpo : ∀ a, p = some a → own a.block = none)
    (fv : Value) (g : Bs → FileM → List (Bs × FileM) → List (Bs × FileM)) (hfv : DoesAt fv g d w own) :
    Calls Tryz.prog 96 #[.pointer (some ⟨d, 0, none⟩), .slice p ss.length c, fv] w (After w d own (D.each g (ss.map nm))) := by
  obtain ⟨m0, left0, L0, h⟩ := h
  have hstart : EachRel w d own D g (ss.map nm) 0 w := ⟨own, m0, left0, L0, by simpa [DiskM.each] using h, by simp [DiskM.each], Chg.refl _ _, ext_refl _ _⟩
  clear h
  have Hpo := Lib.hid hpo
  have Hsz := Lib.hid hsz
  have Hs := Lib.hid hs
  clear hpo hsz hs
  rcases hfv with ⟨rfl, rfl⟩ | ⟨cb, rfl, rfl, hcb, hco⟩
  · go_enter Tryz.func96, Tryz.ntmps96
    go_wp2
    go_loopw [15] (fun i wr => ∃ k : Nat, k ≤ ss.length ∧ i = .int .i64 k ∧ EachRel w d own D DiskM.gSync (ss.map nm) k wr) (fun i _ => ss.length - (intOf i).toNat)
    case atStart => exact ⟨0, Nat.zero_le _, rfl, hstart⟩
    case round =>
      clear hstart
      obtain ⟨k, hk, rfl, hrel⟩ := hrel
      by_cases hlt : k < ss.length
      · have hss : ss[k]? = some ss[k] := List.getElem?_eq_getElem hlt
        have hsk : ss[k].size ≤ 9223372036854775807 := Hsz.out _ (List.getElem_mem hlt)
        have hnk : (ss.map nm)[k]? = some (nm ss[k]) := by simp [hlt]
        have hrel0 := hrel
        obtain ⟨own', m, left, L, hd, h0, hc, hx⟩ := hrel
        generalize hD : (D.each DiskM.gSync ((ss.map nm).take k)).1 = D' at *
        have hcell : ∃ b o, p = some ⟨b, o, none⟩ ∧ wr.cell? ⟨b, o + k, none⟩ = some (.string ss[k]) := by
          rcases Hs.out with h | ⟨b, o, rfl, hcs⟩
          · rw [h] at hlt
            simp at hlt
          · refine ⟨b, o, rfl, hc.cell (hcs k _ hss) ?_⟩
            intro hh
            exact hh (Hpo.out ⟨b, o, none⟩ rfl)
        obtain ⟨b, o, rfl, hcell⟩ := hcell
        generalize ss[k] = s at *
        have h1 := hd.chg (Chg.alloc wr (.cells #[.string s] 9)) (fun k hk => hk.elim)
        have hmay := may_calls h1 _ [s] 1 (strs_one wr s) (by simp) (by simpa using hsk)
        simp only [List.map_cons, List.map_nil] at hmay
        have Hrel := Lib.hid hrel0
        have Hnk := Lib.hid hnk
        have HD := Lib.hid hD
        have Hc := Lib.hid hc
        have Hx := Lib.hid hx
        have H0 := Lib.hid h0
        clear hrel0 hnk hD hc hx hss h0
        by_cases hmz : D'.may [nm s] = 0
        · rw [hmz] at hmay
          have hc1 := h1.c1
          cases hg : Sat.get (nm s) L with
          | none =>
            have hlook := run_look_none _ keyLaw Tryz.underlying9 Tryz.underlying60 (zeroFile _) FRep.fb h1.map hsk hg
            have hfin := each_errs (o := .cells #[.string s] 9) Hrel.out Hnk.out HD.out (each1_none (g := DiskM.gSync) hmz (by rw [hd.get, hg]; rfl)) (by decide)
            have Hfin := Lib.hid hfin
            have Hmay := Lib.hid hmay
            clear hfin hmay h1 hd hg hmz
            go_wp2_with fail
            refine Hmay.out.mono ?_
            rintro e w' ⟨rfl, rfl⟩
            go_wp2_with fail
            go_ret
            exact Hfin.out
          | some r =>
            have hlook := run_look_some _ keyLaw Tryz.underlying9 Tryz.underlying60 (zeroFile _) FRep.fb h1.map hsk hg
            have hdo := sync1_calls h1 s hg
            have hnext := fun w3 own2 => each_next (w3 := w3) (own2 := own2) Hrel.out Hnk.out HD.out (each1_some (g := DiskM.gSync) hmz (by rw [hd.get, hg]; rfl))
            have hfu := (may_zero hmz).1
            have Hmay := Lib.hid hmay
            have Hdo := Lib.hid hdo
            have Hnext := Lib.hid hnext
            have Hfu := Lib.hid hfu
            clear hmay h1 hd hg hmz hdo hnext hfu
            go_wp2_with fail
            refine Hmay.out.mono ?_
            rintro e w' ⟨rfl, rfl⟩
            go_wp2_with fail
            refine Hdo.out.mono ?_
            rintro e w2 ⟨own2, rfl, ⟨m2, left2, L2, hd2⟩, hc2, hx2⟩
            have hdone := done_calls hd2 Hfu.out
            have hod : Has own2 d := has_d hd2
            have hcc := chg_ext Hc.out Hx.out (((Chg.alloc wr _).mono (T := Has own') fun _ _ h => h.elim).trans hc2 fun _ _ h => h)
            have hxx := ext_trans Hc.out.size Hx.out (fun i hi ho => hx2 i (by simp; omega) ho)
            have Hdone := Lib.hid hdone
            have Hod := Lib.hid hod
            have Hcc := Lib.hid hcc
            have Hxx := Lib.hid hxx
            clear hdone hod hcc hxx hd2 hc2 hx2
            go_wp2_with fail
            refine Hdone.out.mono ?_
            rintro e w3 ⟨rfl, hd3, hc3⟩
            have hrel3 := Hnext.out _ _ hd3 (chg_ext Hcc.out Hxx.out (hc3.mono fun i _ e => by rw [e]; exact Hod.out)) Hxx.out
            have Hrel3 := Lib.hid hrel3
            clear hd3 hc3 hrel3
            go_wp2_with fail
            go_roundw
            case rel => exact ⟨k + 1, by omega, by go_num, Hrel3.out⟩
            case measure => simp [intOf]; omega
        · have hfin := each_errs (o := .cells #[.string s] 9) Hrel.out Hnk.out HD.out (each1_bad (g := DiskM.gSync) hmz) hmz
          generalize D'.may [nm s] = e at *
          have hne : ((e : Int) != 0) = true := by simp; exact hmz
          have Hfin := Lib.hid hfin
          have Hmay := Lib.hid hmay
          clear hfin hmay h1 hd hmz
          go_wp2_with fail
          refine Hmay.out.mono ?_
          rintro e w' ⟨rfl, rfl⟩
          go_wp2_with fail
          go_ret
          exact Hfin.out
      · have hke : k = ss.length := by omega
        obtain ⟨own', m, left, L, hd, h0, hc, hx⟩ := hrel
        rw [List.take_of_length_le (by simp; omega)] at hd h0
        have Hd := Lib.hid hd
        have H0 := Lib.hid h0
        have Hc := Lib.hid hc
        have Hx := Lib.hid hx
        clear hd h0 hc hx hke
        go_wp2_with fail
        go_ret
        exact ⟨own', by rw [H0.out]; rfl, ⟨m, left, L, Hd.out⟩, Hc.out, Hx.out⟩
  · have Hcb := Lib.hid hcb
    have Hco := Lib.hid hco
    clear hcb hco
    go_enter Tryz.func96, Tryz.ntmps96
    go_wp2
    go_loopw [15] (fun i wr => ∃ k : Nat, k ≤ ss.length ∧ i = .int .i64 k ∧ EachRel w d own D DiskM.gRemove (ss.map nm) k wr) (fun i _ => ss.length - (intOf i).toNat)
    case atStart => exact ⟨0, Nat.zero_le _, rfl, hstart⟩
    case round =>
      clear hstart
      obtain ⟨k, hk, rfl, hrel⟩ := hrel
      by_cases hlt : k < ss.length
      · have hss : ss[k]? = some ss[k] := List.getElem?_eq_getElem hlt
        have hsk : ss[k].size ≤ 9223372036854775807 := Hsz.out _ (List.getElem_mem hlt)
        have hnk : (ss.map nm)[k]? = some (nm ss[k]) := by simp [hlt]
        have hrel0 := hrel
        obtain ⟨own', m, left, L, hd, h0, hc, hx⟩ := hrel
        generalize hD : (D.each DiskM.gRemove ((ss.map nm).take k)).1 = D' at *
        have hcell : ∃ b o, p = some ⟨b, o, none⟩ ∧ wr.cell? ⟨b, o + k, none⟩ = some (.string ss[k]) := by
          rcases Hs.out with h | ⟨b, o, rfl, hcs⟩
          · rw [h] at hlt
            simp at hlt
          · refine ⟨b, o, rfl, hc.cell (hcs k _ hss) ?_⟩
            intro hh
            exact hh (Hpo.out ⟨b, o, none⟩ rfl)
        obtain ⟨b, o, rfl, hcell⟩ := hcell
        generalize ss[k] = s at *
        have h1 := hd.chg (Chg.alloc wr (.cells #[.string s] 9)) (fun k hk => hk.elim)
        have hmay := may_calls h1 _ [s] 1 (strs_one wr s) (by simp) (by simpa using hsk)
        simp only [List.map_cons, List.map_nil] at hmay
        have hcb1 : (wr.alloc (.cells #[.string s] 9)).cell? ⟨cb, 0, none⟩ = some (.pointer (some ⟨d, 0, none⟩)) :=
          (Chg.alloc wr _).cell (hc.cell Hcb.out fun hh => hh Hco.out) fun h => h
        have Hrel := Lib.hid hrel0
        have Hnk := Lib.hid hnk
        have HD := Lib.hid hD
        have Hc := Lib.hid hc
        have Hx := Lib.hid hx
        have H0 := Lib.hid h0
        clear hrel0 hnk hD hc hx hss h0
        by_cases hmz : D'.may [nm s] = 0
        · rw [hmz] at hmay
          have hc1 := h1.c1
          cases hg : Sat.get (nm s) L with
          | none =>
            have hlook := run_look_none _ keyLaw Tryz.underlying9 Tryz.underlying60 (zeroFile _) FRep.fb h1.map hsk hg
            have hfin := each_errs (o := .cells #[.string s] 9) Hrel.out Hnk.out HD.out (each1_none (g := DiskM.gRemove) hmz (by rw [hd.get, hg]; rfl)) (by decide)
            have Hfin := Lib.hid hfin
            have Hmay := Lib.hid hmay
            clear hfin hmay h1 hd hg hmz hcb1
            go_wp2_with fail
            refine Hmay.out.mono ?_
            rintro e w' ⟨rfl, rfl⟩
            go_wp2_with fail
            go_ret
            exact Hfin.out
          | some r =>
            have hlook := run_look_some _ keyLaw Tryz.underlying9 Tryz.underlying60 (zeroFile _) FRep.fb h1.map hsk hg
            have hdo := remove1_calls h1 s hsk hg cb hcb1
            have hnext := fun w3 own2 => each_next (w3 := w3) (own2 := own2) Hrel.out Hnk.out HD.out (each1_some (g := DiskM.gRemove) hmz (by rw [hd.get, hg]; rfl))
            have hfu := (may_zero hmz).1
            have Hmay := Lib.hid hmay
            have Hdo := Lib.hid hdo
            have Hnext := Lib.hid hnext
            have Hfu := Lib.hid hfu
            clear hmay h1 hd hg hmz hdo hnext hfu hcb1
            go_wp2_with fail
            refine Hmay.out.mono ?_
            rintro e w' ⟨rfl, rfl⟩
            go_wp2_with fail
            refine Hdo.out.mono ?_
            rintro e w2 ⟨own2, rfl, ⟨m2, left2, L2, hd2⟩, hc2, hx2⟩
            have hdone := done_calls hd2 Hfu.out
            have hod : Has own2 d := has_d hd2
            have hcc := chg_ext Hc.out Hx.out (((Chg.alloc wr _).mono (T := Has own') fun _ _ h => h.elim).trans hc2 fun _ _ h => h)
            have hxx := ext_trans Hc.out.size Hx.out (fun i hi ho => hx2 i (by simp; omega) ho)
            have Hdone := Lib.hid hdone
            have Hod := Lib.hid hod
            have Hcc := Lib.hid hcc
            have Hxx := Lib.hid hxx
            clear hdone hod hcc hxx hd2 hc2 hx2
            go_wp2_with fail
            refine Hdone.out.mono ?_
            rintro e w3 ⟨rfl, hd3, hc3⟩
            have hrel3 := Hnext.out _ _ hd3 (chg_ext Hcc.out Hxx.out (hc3.mono fun i _ e => by rw [e]; exact Hod.out)) Hxx.out
            have Hrel3 := Lib.hid hrel3
            clear hd3 hc3 hrel3
            go_wp2_with fail
            go_roundw
            case rel => exact ⟨k + 1, by omega, by go_num, Hrel3.out⟩
            case measure => simp [intOf]; omega
        · have hfin := each_errs (o := .cells #[.string s] 9) Hrel.out Hnk.out HD.out (each1_bad (g := DiskM.gRemove) hmz) hmz
          generalize D'.may [nm s] = e at *
          have hne : ((e : Int) != 0) = true := by simp; exact hmz
          have Hfin := Lib.hid hfin
          have Hmay := Lib.hid hmay
          clear hfin hmay h1 hd hmz hcb1
          go_wp2_with fail
          refine Hmay.out.mono ?_
          rintro e w' ⟨rfl, rfl⟩
          go_wp2_with fail
          go_ret
          exact Hfin.out
      · have hke : k = ss.length := by omega
        obtain ⟨own', m, left, L, hd, h0, hc, hx⟩ := hrel
        rw [List.take_of_length_le (by simp; omega)] at hd h0
        have Hd := Lib.hid hd
        have H0 := Lib.hid h0
        have Hc := Lib.hid hc
        have Hx := Lib.hid hx
        clear hd h0 hc hx hke
        go_wp2_with fail
        go_ret
        exact ⟨own', by rw [H0.out]; rfl, ⟨m, left, L, Hd.out⟩, Hc.out, Hx.out⟩

set_option maxHeartbeats 400000 in
/-- **Sync.** -/
theorem sync_calls (h : DiskAt w d D own) (p : Option Addr) (ss : List ByteArray) (c : Nat) (hs : StrsAt w p ss) (hm : ss.length ≤ 140737488355328) (hsz : ∀ s ∈ ss, s.size ≤ 9223372036854775807) (hpo : ∀ a, p = some a → own a.block = none) :
    Calls Tryz.prog 104 #[.pointer (some ⟨d, 0, none⟩), .slice p ss.length c] w (After w d own (D.sync (ss.map nm))) := by
  have he := each_calls h p ss c hs hm hsz hpo (.func (.func 131) #[] #[]) DiskM.gSync (.inl ⟨rfl, rfl⟩)
  have He := Lib.hid he
  clear he h hs hm hsz hpo
  go_enter Tryz.func104, Tryz.ntmps104
  go_wp2_with fail
  refine He.out.mono ?_
  rintro e w' ⟨own', rfl, hd, hc, hx⟩
  have Hf := Lib.hid (And.intro hd (And.intro hc hx))
  clear hd hc hx
  go_wp2_with fail
  go_ret
  exact ⟨own', rfl, Hf.out⟩

set_option maxHeartbeats 400000 in
/-- **Remove.** -/
theorem remove_calls (h : DiskAt w d D own) (p : Option Addr) (ss : List ByteArray) (c : Nat) (hs : StrsAt w p ss) (hm : ss.length ≤ 140737488355328) (hsz : ∀ s ∈ ss, s.size ≤ 9223372036854775807) (hpo : ∀ a, p = some a → own a.block = none) :
    Calls Tryz.prog 55 #[.pointer (some ⟨d, 0, none⟩), .slice p ss.length c] w (After w d own (D.remove (ss.map nm))) := by
  have hnone : own w.heap.size = none := by
    obtain ⟨m, left, L, h⟩ := h
    cases ho : own w.heap.size with
    | none => rfl
    | some t => have := h.olt _ t ho; omega
  have h1 := h.chg (Chg.alloc w (.cells #[.pointer (some ⟨d, 0, none⟩)] 25)) (fun _ h => h.elim)
  have hs1 : StrsAt (w.alloc (.cells #[.pointer (some ⟨d, 0, none⟩)] 25)) p ss := by
    rcases hs with h | ⟨b, o, rfl, hc⟩
    · exact .inl h
    · exact .inr ⟨b, o, rfl, fun i s hi => (Chg.alloc w _).cell (hc i s hi) fun h => h⟩
  have he := each_calls h1 p ss c hs1 hm hsz hpo (.func (.func 97) #[] #[.pointer (some ⟨w.heap.size, 0, none⟩)]) DiskM.gRemove (.inr ⟨_, rfl, rfl, cell_of (new_block w _) rfl, hnone⟩)
  have He := Lib.hid he
  clear he h hs hm hsz hpo h1 hs1 hnone
  go_enter Tryz.func55, Tryz.ntmps55
  go_wp2_with fail
  refine He.out.mono ?_
  rintro e w' ⟨own', rfl, hd, hc, hx⟩
  have hc' : Chg (Has own) w w' := ((Chg.alloc w _).mono (T := Has own) fun _ _ h => h.elim).trans hc fun _ _ h => h
  have hx' : Ext w own own' := fun k hk ho => hx k (by simp; omega) ho
  have Hf := Lib.hid (And.intro hd (And.intro hc' hx'))
  clear hd hc hx hc' hx'
  go_wp2_with fail
  go_ret
  exact ⟨own', rfl, Hf.out⟩
end
end Go.Proofs.YtngflpaooppmhaaGreat

namespace Go.Sat
open Go.RowKit
/-- 'x[:k:k]'. -/
theorem run_cut {P : Program} (w : World) {t e : TypeId} {i : TypeInfo} (ht : P.underlying t = some (.slice e)) (hi : P.info? e = some i) (a : Option Addr) (len cap k : Nat) (h : k ≤ cap) :
    (Instr.slice t (.slice a len cap) none (some (.int .i64 (k : Int))) (some (.int .i64 (k : Int)))).run P w = .ok (.slice a k k) w := by
  have h1 : (Instr.sliceBound (.int .i64 (k : Int)) cap .slice3Acap).run P w = .ok k w := by
    rw [run_sliceBound _ _ _ _ _ (by omega) (by omega)]
    simp
  have h2 : (Instr.sliceBound (.int .i64 (k : Int)) k .slice3B).run P w = .ok k w := by
    rw [run_sliceBound _ _ _ _ _ (by omega) (by omega)]
    simp
  have h3 : (if k = 0 then a else a.map fun x => x.add (0 * i.size)) = a := by
    split
    · rfl
    · cases a <;> simp [Addr.add]
  simp only [Nat.zero_mul] at h3
  simp [Instr.slice, run_underlying ht, Instr.sliceBounds, h1, h2, sizeOf, typeInfo, hi, Result.andThen, h3]

theorem OwnR.cut {w : World} {e : TypeId} {p : Option Addr} {n c : Nat} {xs : List Value} (h : OwnR w e 1 (.slice p n c) n xs) {k : Nat} (hk : k ≤ n) : OwnR w e 1 (.slice p k k) k (xs.take k) := by
  obtain ⟨hl, h⟩ := h
  refine ⟨by rw [List.length_take]; omega, ?_⟩
  rcases h with ⟨e1, h0⟩ | ⟨g, cap, cur, e1, hg, hnc, hcm, hcs, ht⟩
  · cases e1
    have : k = 0 := by omega
    subst this
    exact .inl ⟨rfl, rfl⟩
  · cases e1
    refine .inr ⟨g, k, cur, rfl, hg, Nat.le_refl _, by omega, by omega, ?_⟩
    rw [← ht, List.take_take, Nat.mul_one, Nat.mul_one, Nat.min_eq_left hk]

end Go.Sat

namespace Go.Proofs.YtngflpaooppmhaaGreat
open Go.RowKit Go.Sat Go.Maps

section
variable {w : World} {d m : Nat} {left : Int} {L : List (Bs × FRep)} {own : Own} {D : DiskM}

theorem data_le (h : DiskIn w d m left L own D) {n : Bs} {r : FRep} (hg : Sat.get n L = some r) : r.f.data.length ≤ 1073741824 := by
  have := h.ok.used
  have := h.ok.room
  have : r.f.data.length ≤ D.used := by rw [h.used]; exact le_sum (f := fun r : FRep => r.f.data.length) h.srt hg
  omega

/-! ### Read -/
def dataOf (o : Option FileM) : Bs := (o.map FileM.data).getD []
def readE (o : Option FileM) : Int := if o.isSome then 0 else 7

/-- What Read leaves: the bytes in a new row, or the error. -/
def ReadPost (w : World) (o : Option FileM) (e : Ending) (w' : World) : Prop :=
  ∃ v, e = .returned (.tuple #[v, .int .i64 (readE o)]) ∧ OwnB w' 5 v (dataOf o) ∧ (∀ k, v.ownBlock = some k → w.heap.size ≤ k) ∧ Below w.heap.size w w'

set_option maxHeartbeats 400000 in
theorem read_calls (h : DiskAt w d D own) (s : ByteArray) (hs : s.size ≤ 9223372036854775807) :
    Calls Tryz.prog 54 #[.pointer (some ⟨d, 0, none⟩), .string s] w (ReadPost w (Sat.get (nm s) D.files)) := by
  obtain ⟨m, left, L, h⟩ := h
  have hc1 := h.c1
  rw [h.get]
  cases hg : Sat.get (nm s) L with
  | none =>
    have hlook := run_look_none w keyLaw Tryz.underlying9 Tryz.underlying60 (zeroFile w) FRep.fb h.map hs hg
    clear h hg
    go_enter Tryz.func54, Tryz.ntmps54
    go_wp2
    go_ret2
    exact ⟨_, rfl, OwnR.nil _ _ _, fun k hk => (by cases hk), Below.refl _ _⟩
  | some r =>
    have hlook := run_look_some w keyLaw Tryz.underlying9 Tryz.underlying60 (zeroFile w) FRep.fb h.map hs hg
    have hf := h.fileAt hg
    have hc := cell_of (i := 0) hf.cells rfl
    have hcl := clone_calls hf.row.has (by have := data_le h hg; omega)
    have Hcl := Lib.hid hcl
    clear h hg hf hcl
    go_enter Tryz.func54, Tryz.ntmps54
    go_wp2_with fail
    refine Hcl.out.mono ?_
    rintro e w' ⟨v, rfl, hv, hn, hb⟩
    have Hv := Lib.hid (And.intro hv (And.intro hn hb))
    clear hv hn hb
    go_wp2_with fail
    go_ret2
    exact ⟨_, rfl, Hv.out⟩

/-! ### Fuse -/
/-! ### Crash -/
/-- The files of which those that 'rest' names are still to come. -/
def part (rest : Lit → Bool) (k : Int) (fs : List (Bs × FileM)) : List (Bs × FileM) := fs.map fun p => (p.1, if rest (.string p.1) then p.2 else DiskM.crashF k p.2)

theorem own_none (h : DiskIn w d m left L own D) {k : Nat} (hk : w.heap.size ≤ k) : own k = none := by
  cases ho : own k with
  | none => rfl
  | some t => have := h.olt _ t ho; omega

end
end Go.Proofs.YtngflpaooppmhaaGreat

namespace Go.Proofs.YtngflpaooppmhaaGreat
open Go.RowKit Go.Sat Go.Maps

/-- In w1, d is a disk that keeps D, all of it new since w, none of it in F; nothing that was there in w has turned. -/
def St (w w1 : World) (d : Nat) (D : DiskM) (F : Nat → Prop) : Prop :=
  ∃ own, DiskAt w1 d D own ∧ Below w.heap.size w w1 ∧ (∀ k, k < w.heap.size ∨ F k → own k = none) ∧ ∀ k, F k → k < w1.heap.size

def NoF : Nat → Prop := fun _ => False

theorem St.below {w w1 : World} {d : Nat} {D : DiskM} {F : Nat → Prop} (h : St w w1 d D F) : Below w.heap.size w w1 := let ⟨_, _, h, _⟩ := h; h
theorem St.ok {w w1 : World} {d : Nat} {D : DiskM} {F : Nat → Prop} (h : St w w1 d D F) : D.OK := let ⟨_, ⟨_, _, _, h⟩, _⟩ := h; h.ok

/-- Something else has turned: blocks of F that are new since w; what is new may be in F' too. -/
theorem St.move {w w1 w2 : World} {d : Nat} {D : DiskM} {F F' S : Nat → Prop} (h : St w w1 d D F) (hc : Chg S w1 w2) (hS : ∀ k, k < w1.heap.size → S k → F k ∧ w.heap.size ≤ k) (hF : ∀ k, F' k → (F k ∨ w1.heap.size ≤ k) ∧ k < w2.heap.size) : St w w2 d D F' := by
  obtain ⟨own, hd, hb1, hn, hl⟩ := h
  have hon : ∀ k, w1.heap.size ≤ k → own k = none := fun k hk => by
    obtain ⟨m, left, L, hd⟩ := hd
    exact own_none hd hk
  refine ⟨own, hd.chg (hc.mono (T := fun k => S k ∧ k < w1.heap.size) fun k hk hs => ⟨hs, hk⟩) (fun k hs => hn k (.inr (hS k hs.2 hs.1).1)), ?_, fun k hk => ?_, fun k hk => (hF k hk).2⟩
  · exact ((Chg.of_below hb1).trans hc fun i hi hs => by
      have h1 := (hS i (Nat.lt_of_lt_of_le hi hb1.size) hs).2
      omega).below (Nat.le_refl _) fun _ _ => id
  · rcases hk with hk | hk
    · exact hn k (.inl hk)
    · rcases (hF k hk).1 with h1 | h1
      · exact hn k (.inr h1)
      · exact hon k h1

theorem St.next {w w1 w2 : World} {d : Nat} {D : DiskM} {F : Nat → Prop} (h : St w w1 d D F) (hb : Below w1.heap.size w1 w2) : St w w2 d D F :=
  h.move (Chg.of_below hb) (fun _ _ h => h.elim) fun k hk => ⟨.inl hk, by obtain ⟨_, _, _, _, hl⟩ := h; exact Nat.lt_of_lt_of_le (hl k hk) hb.size⟩
theorem St.alloc {w w1 : World} {d : Nat} {D : DiskM} {F : Nat → Prop} (h : St w w1 d D F) (o : Obj) : St w (w1.alloc o) d D F := h.next ((Below.refl _ _).alloc (Nat.le_refl _) o)
theorem St.drewN {w w1 : World} {d : Nat} {D : DiskM} {F : Nat → Prop} (h : St w w1 d D F) (n : Nat) : St w (w1.drewN n) d D F := h.next ⟨rfl, rfl, rfl, Nat.le_refl _, fun _ _ => rfl⟩
theorem St.noF {w w1 : World} {d : Nat} {D : DiskM} {F : Nat → Prop} (h : St w w1 d D F) : St w w1 d D NoF := h.move (S := fun _ => False) (Chg.refl _ _) (fun _ _ h => h.elim) fun _ h => h.elim

/-- What a step keeps. -/
def Same (F : Nat → Prop) (w1 w2 : World) : Prop := ∀ k, F k → w2.heap[k]? = w1.heap[k]?

theorem St.step {w w1 w2 : World} {d : Nat} {own own' : Own} {D' : DiskM} {F : Nat → Prop} (hb : Below w.heap.size w w1) (hn : ∀ k, k < w.heap.size ∨ F k → own k = none) (hl : ∀ k, F k → k < w1.heap.size) (hd : DiskAt w2 d D' own') (hc : Chg (Has own) w1 w2) (hx : Ext w1 own own') :
    St w w2 d D' F ∧ Same F w1 w2 := by
  refine ⟨⟨own', hd, ((Chg.of_below hb).trans hc fun i hi hh => (hh (hn i (.inl hi))).elim).below (Nat.le_refl _) fun _ _ => id, fun k hk => ?_, fun k hk => Nat.lt_of_lt_of_le (hl k hk) hc.size⟩, fun k hk => hc.block k (hl k hk) fun hh => hh (hn k (.inr hk))⟩
  rcases hk with h1 | h1
  · exact hx k (Nat.lt_of_lt_of_le h1 hb.size) (hn k (.inl h1))
  · exact hx k (hl k h1) (hn k (.inr h1))

theorem HasB.old {w w1 : World} {v : Value} {l : Bs} (h : HasB w v l) (hb : Below w.heap.size w w1) : HasB w1 v l := h.below hb

/-- What a call of one of the five tells, and what there is behind it. -/
def Told (w : World) (d : Nat) (F : Nat → Prop) (w1 : World) (r : DiskM × Nat) (e : Ending) (w' : World) : Prop := e = .returned (.int .i64 (r.2 : Int)) ∧ St w w' d r.1 F ∧ Same F w1 w'
section
variable {w w1 : World} {d : Nat} {D : DiskM} {F : Nat → Prop}

theorem st_new (n : Int) (h0 : 0 ≤ n) (h1 : n ≤ 1073741824) (hb : Below w.heap.size w w1) :
    Calls Tryz.prog 6 #[.int .i64 n] w1 fun e w' => ∃ d, e = .returned (.tuple #[.pointer (some ⟨d, 0, none⟩), .int .i64 0]) ∧ St w w' d (DiskM.fresh n.toNat) NoF := by
  refine (new_calls n w1 h0 h1).mono ?_
  rintro e w' ⟨d, own, rfl, hd, hc, hn⟩
  exact ⟨d, rfl, own, hd, ((Chg.of_below hb).trans hc fun _ _ h => h).below (Nat.le_refl _) fun _ _ => id, fun k hk => by
    rcases hk with hk | hk
    · exact hn k (Nat.lt_of_lt_of_le hk hb.size)
    · exact hk.elim, fun _ h => h.elim⟩

theorem st_append (h : St w w1 d D F) (s : ByteArray) (x : Value) (ls : List Bs) (hx : RowsAt w1 x ls) (hn : ls.length ≤ 140737488355328) (hl : ls.flatten.length ≤ 140737488355328) (hsz : s.size ≤ 9223372036854775807) :
    Calls Tryz.prog 108 #[.pointer (some ⟨d, 0, none⟩), .string s, x] w1 (Told w d F w1 (D.append (nm s) ls.flatten)) := by
  obtain ⟨own, hd, hb, hnn, hF⟩ := h
  refine (append_calls hd s x ls hx hn hl hsz).mono ?_
  rintro e w' ⟨own', rfl, hd', hc, hx⟩
  exact ⟨rfl, St.step hb hnn hF hd' hc hx⟩

theorem own_new {own : Own} (h : DiskAt w1 d D own) {k : Nat} (hk : w1.heap.size ≤ k) : own k = none := by
  obtain ⟨m, left, L, h⟩ := h
  exact own_none h hk

theorem strs_new (w : World) (ss : List ByteArray) (g : Nat) (hg : g = w.heap.size) (e : TypeId) (fr : Nat × Nat) : StrsAt (w.alloc (.cells (ss.map Value.string).toArray e fr)) (some ⟨g, 0, none⟩) ss := by
  subst hg
  refine .inr ⟨_, _, rfl, fun i u hu => ?_⟩
  refine cell_of (new_block w _) ?_
  simp [hu]

/-- Sync of names that have just been laid. -/
theorem st_sync (h : St w w1 d D F) (ss : List ByteArray) (g c : Nat) (hg : g = w1.heap.size) (fr : Nat × Nat) (hm : ss.length ≤ 140737488355328) (hsz : ∀ s ∈ ss, s.size ≤ 9223372036854775807) :
    Calls Tryz.prog 104 #[.pointer (some ⟨d, 0, none⟩), .slice (some ⟨g, 0, none⟩) ss.length c] (w1.alloc (.cells (ss.map Value.string).toArray 9 fr)) (Told w d F (w1.alloc (.cells (ss.map Value.string).toArray 9 fr)) (D.sync (ss.map nm))) := by
  obtain ⟨own, hd, hb, hnn, hF⟩ := h
  have hd1 := hd.chg (Chg.alloc w1 (.cells (ss.map Value.string).toArray 9 fr)) (fun _ h => h.elim)
  refine (sync_calls hd1 (some ⟨g, 0, none⟩) ss c (strs_new w1 ss g hg _ fr) hm hsz (fun a ha => by cases ha; exact own_new hd (by rw [hg]; exact Nat.le_refl _))).mono ?_
  rintro e w' ⟨own', rfl, hd', hc, hx⟩
  exact ⟨rfl, St.step (hb.alloc hb.size _) hnn (fun k hk => by have := hF k hk; simp; omega) hd' hc hx⟩

theorem st_remove (h : St w w1 d D F) (ss : List ByteArray) (g c : Nat) (hg : g = w1.heap.size) (fr : Nat × Nat) (hm : ss.length ≤ 140737488355328) (hsz : ∀ s ∈ ss, s.size ≤ 9223372036854775807) :
    Calls Tryz.prog 55 #[.pointer (some ⟨d, 0, none⟩), .slice (some ⟨g, 0, none⟩) ss.length c] (w1.alloc (.cells (ss.map Value.string).toArray 9 fr)) (Told w d F (w1.alloc (.cells (ss.map Value.string).toArray 9 fr)) (D.remove (ss.map nm))) := by
  obtain ⟨own, hd, hb, hnn, hF⟩ := h
  have hd1 := hd.chg (Chg.alloc w1 (.cells (ss.map Value.string).toArray 9 fr)) (fun _ h => h.elim)
  refine (remove_calls hd1 (some ⟨g, 0, none⟩) ss c (strs_new w1 ss g hg _ fr) hm hsz (fun a ha => by cases ha; exact own_new hd (by rw [hg]; exact Nat.le_refl _))).mono ?_
  rintro e w' ⟨own', rfl, hd', hc, hx⟩
  exact ⟨rfl, St.step (hb.alloc hb.size _) hnn (fun k hk => by have := hF k hk; simp; omega) hd' hc hx⟩

def GotB (w : World) (d : Nat) (D : DiskM) (F : Nat → Prop) (w1 : World) (o : Option FileM) (e : Ending) (w' : World) : Prop :=
  ∃ v, e = .returned (.tuple #[v, .int .i64 (readE o)]) ∧ OwnB w' 5 v (dataOf o) ∧ (∀ k, v.ownBlock = some k → w1.heap.size ≤ k) ∧ Below w1.heap.size w1 w' ∧ St w w' d D F

theorem st_read (h : St w w1 d D F) (s : ByteArray) (hs : s.size ≤ 9223372036854775807) :
    Calls Tryz.prog 54 #[.pointer (some ⟨d, 0, none⟩), .string s] w1 (GotB w d D F w1 (Sat.get (nm s) D.files)) := by
  have h0 := h
  obtain ⟨own, hd, hb, hnn, hF⟩ := h
  refine (read_calls hd s hs).mono ?_
  rintro e w' ⟨v, rfl, hv, hn, hb'⟩
  exact ⟨v, rfl, hv, hn, hb', h0.next hb'⟩

end

/-! ### What a law lays itself -/
theorem has_lit {w : World} {e : TypeId} {fr : Nat × Nat} (cs : Array Value) (l : Bs) (g n c : Nat) (hg : g = w.heap.size) (hn : n = l.length) (h : cs.toList = bytesV l) : HasB (w.alloc (.cells cs e fr)) (.slice (some ⟨g, 0, none⟩) n c) l := by
  subst hg
  subst hn
  refine ⟨by simp [bytesV], some ⟨w.heap.size, 0, none⟩, c, rfl, fun e => (by cases e), fun a ha i u hu => ?_⟩
  cases ha
  rw [add_zero]
  refine cell_of (new_block w _) ?_
  rw [← h] at hu
  simpa using hu

theorem has_alloc {w : World} {v : Value} {l : Bs} (h : HasB w v l) (o : Obj) : HasB (w.alloc o) v l := h.chg (Chg.alloc w o) fun _ _ => id

/-- A list of one row, in a new block. -/
theorem rows_one {w : World} {v : Value} {l : Bs} (h : HasB w v l) (e : TypeId) (fr : Nat × Nat) (g c : Nat) (hg : g = w.heap.size) (hc : 1 ≤ c) : RowsAt (w.alloc (.cells #[v] e fr)) (.slice (some ⟨g, 0, none⟩) 1 c) [l] := by
  subst hg
  refine ⟨_, c, rfl, by simpa using hc, fun _ => ⟨_, _, [v], rfl, rfl, fun i u hu => ?_, fun i u m hu hm => ?_⟩⟩
  · rw [add_zero]
    refine cell_of (new_block w _) ?_
    simpa using hu
  · have hi : i = 0 := by
      have := (List.getElem?_eq_some_iff.1 hu).1
      simpa using this
    subst hi
    simp at hu hm
    subst hu
    subst hm
    exact (has_alloc h _).kit
end Go.Proofs.YtngflpaooppmhaaGreat

namespace Go.Sat
open Go.RowKit
theorem HasB.at {w : World} {v : Value} {l : Bs} (h : HasB w v l) : l = [] ∨ ∃ b o c, v = .slice (some ⟨b, o, none⟩) l.length c ∧ ∀ i x, l[i]? = some x → w.cell? ⟨b, o + i, none⟩ = some (.int .u8 (x.toNat : Int)) := by
  obtain ⟨p, c, rfl, h0, hc⟩ := h.kit
  cases p with
  | none => exact .inl (h0 rfl)
  | some a =>
    cases l with
    | nil => exact .inl rfl
    | cons x r =>
      obtain ⟨b, o, sp⟩ := a
      have h1 := hc _ rfl 0 x (by simp)
      have hsp : sp = none := by
        have := World.cell?_spot h1
        simpa [Addr.add] using this
      subst hsp
      refine .inr ⟨b, o, c, rfl, fun i y hy => ?_⟩
      have h2 := hc _ rfl i y hy
      have e : (⟨b, o, none⟩ : Addr).add i = ⟨b, o + i, none⟩ := by unfold Addr.add; split <;> simp_all
      rw [← e]
      exact h2
end Go.Sat

namespace Go.Proofs.YtngflpaooppmhaaGreat
open Go.RowKit Go.Sat Go.Maps

theorem take_eq_succ {l m : Bs} {k : Nat} {x y : UInt8} (hl : l[k]? = some x) (hm : m[k]? = some y) (h : l.take k = m.take k) (e : x = y) : l.take (k + 1) = m.take (k + 1) := by
  rw [List.take_add_one, List.take_add_one, hl, hm, h, e]

theorem ne_at {l m : Bs} {k : Nat} {x y : UInt8} (hl : l[k]? = some x) (hm : m[k]? = some y) (e : x ≠ y) : (l == m) = false := by
  rw [beq_eq_false_iff_ne]
  rintro rfl
  rw [hl] at hm
  exact e (Option.some.inj hm)

def SamePost (w : World) (b : Bool) (e : Ending) (w' : World) : Prop := e = .returned (.bool b) ∧ ∃ n, w' = w.drewN n

end Go.Proofs.YtngflpaooppmhaaGreat

namespace Go.Proofs.YtngflpaooppmhaaGreat
open Go.RowKit Go.Sat Go.Maps

def True3 (w : World) (e : Ending) (w' : World) : Prop := e = .returned (.bool true) ∧ Below w.heap.size w w'

def sA : ByteArray := ⟨#[97]⟩
def b5 : Bs := [49, 50, 51, 52, 53]
def b3 : Bs := [54, 55, 56]
def b6 : Bs := [49, 50, 51, 52, 53, 54]
def K0 : DiskM := DiskM.fresh 100
def K1 : DiskM := (K0.append [97] b5).1
def K2 : DiskM := (K1.sync [[97]]).1
def K3 : DiskM := (K2.append [97] b3).1

theorem k1 : (K0.append (nm sA) [b5].flatten) = (K1, 0) := by rfl
theorem k2 : (K1.sync ([sA].map nm)) = (K2, 0) := by rfl
theorem k3 : (K2.append (nm sA) [b3].flatten) = (K3, 0) := by rfl
theorem k4 : Sat.get (nm sA) (K3.crash 1).files = some ⟨b6, 6⟩ := by rfl

end Go.Proofs.YtngflpaooppmhaaGreat

namespace Go.Sat
open Go.RowKit
theorem Holds.cut {w : World} {p : Option Addr} {n c : Nat} {xs : List Value} (h : Holds w 1 (.slice p n c) n xs) {k : Nat} (hk : k ≤ n) (c' : Nat) : Holds w 1 (.slice p k c') k (xs.take k) := by
  obtain ⟨hl, p', cap, e, h0, hc⟩ := h
  cases e
  refine ⟨by rw [List.length_take]; omega, p, c', rfl, fun e => ?_, fun a ha i u hu => hc a ha i u ?_⟩
  · have := h0 e
    omega
  · rw [List.getElem?_take] at hu
    split at hu
    · exact hu
    · cases hu

theorem HasB.cut {w : World} {p : Option Addr} {n c : Nat} {l : Bs} (h : HasB w (.slice p n c) l) {k : Nat} (hk : k ≤ l.length) (c' : Nat) : HasB w (.slice p k c') (l.take k) := by
  obtain ⟨p', c2, e⟩ := h.slice
  cases e
  unfold HasB at h ⊢
  have e1 : (l.take k).length = k := by rw [List.length_take]; omega
  rw [e1, bytesV_take]
  exact Holds.cut h hk c'

/-- 'x[:k]'. -/
theorem run_upto {P : Program} (w : World) {t e : TypeId} {i : TypeInfo} (ht : P.underlying t = some (.slice e)) (hi : P.info? e = some i) (a : Option Addr) (len cap k : Nat) (h : k ≤ cap) :
    (Instr.slice t (.slice a len cap) none (some (.int .i64 (k : Int))) none).run P w = .ok (.slice a k cap) w := by
  have h1 : (Instr.sliceBound (.int .i64 (k : Int)) cap .sliceAcap).run P w = .ok k w := by
    rw [run_sliceBound _ _ _ _ _ (by omega) (by omega)]
    simp
  have h3 : (if cap = 0 then a else a.map fun x => x.add (0 * i.size)) = a := by
    split
    · rfl
    · cases a <;> simp [Addr.add]
  simp only [Nat.zero_mul] at h3
  simp [Instr.slice, run_underlying ht, Instr.sliceBounds, h1, sizeOf, typeInfo, hi, Result.andThen, h3]

theorem OwnB.shape {w : World} {e : TypeId} {v : Value} {l : Bs} (h : OwnB w e v l) : v = .slice none 0 0 ∨ ∃ g c, v = .slice (some ⟨g, 0, none⟩) l.length c := by
  rcases h.2 with ⟨rfl, _⟩ | ⟨g, cap, cur, rfl, _⟩
  · exact .inl rfl
  · exact .inr ⟨g, cap, rfl⟩
end Go.Sat

namespace Go.Proofs.YtngflpaooppmhaaGreat
open Go.RowKit Go.Sat Go.Maps

/-- How a row of a list of rows is met. -/
theorem RowsAt.row {w : World} {p : Option Addr} {n c : Nat} {ls : List Bs} (h : RowsAt w (.slice p n c) ls) {k : Nat} (hk : k < ls.length) :
    n = ls.length ∧ ∃ b o v, p = some ⟨b, o, none⟩ ∧ w.cell? ⟨b, o + k, none⟩ = some v ∧ HasB w v ls[k] := by
  obtain ⟨p', c', e, hc, hP⟩ := h
  cases e
  have hne : ls ≠ [] := fun e => by rw [e] at hk; simp at hk
  obtain ⟨b, o, vs, rfl, h1, h2, h3⟩ := hP hne
  have hkv : k < vs.length := by rw [h1]; exact hk
  have e1 : (⟨b, o, none⟩ : Addr).add k = ⟨b, o + k, none⟩ := by unfold Addr.add; split <;> simp_all
  refine ⟨rfl, b, o, vs[k], rfl, ?_, HasB.of_kit (h3 k _ _ (List.getElem?_eq_getElem hkv) (List.getElem?_eq_getElem hk))⟩
  rw [← e1]
  exact h2 k _ (List.getElem?_eq_getElem hkv)

theorem RowsAt.len {w : World} {p : Option Addr} {n c : Nat} {ls : List Bs} (h : RowsAt w (.slice p n c) ls) : n = ls.length := by
  obtain ⟨p', c', e, _⟩ := h
  cases e
  rfl

/-! ### The disk behind k rounds -/
theorem flat_take {ls : List Bs} {k : Nat} (hk : k < ls.length) : (ls.take (k + 1)).flatten = (ls.take k).flatten ++ ls[k] := by
  rw [List.take_succ_eq_append_getElem hk, List.flatten_append]
  simp

theorem flat_take_le (ls : List Bs) (k : Nat) : (ls.take k).flatten.length ≤ ls.flatten.length := by
  conv => rhs; rw [← List.take_append_drop k ls, List.flatten_append, List.length_append]
  omega

end Go.Proofs.YtngflpaooppmhaaGreat

namespace Go.Proofs.YtngflpaooppmhaaGreat
open Go.RowKit Go.Sat Go.Maps

/-- One bit of the check sum; one byte; bytes. -/
def bitF (z : Int) : Int := bits .xor .u32 (z / 2) (bits .and .u32 3988292384 (-bits .and .u32 z 1 % 4294967296))
def iterF : Nat → Int → Int
  | 0, z => z
  | k + 1, z => bitF (iterF k z)
def byteF (v : Int) (c : UInt8) : Int := iterF 8 (bits .xor .u32 v (c.toNat : Int))
def rowF (v : Int) (l : Bs) : Int := l.foldl byteF v
def rowsF (ls : List Bs) : Int := ls.foldl rowF 4294967295

theorem rowF_take (v : Int) (l : Bs) {j : Nat} (hj : j < l.length) : rowF v (l.take (j + 1)) = byteF (rowF v (l.take j)) l[j] := by
  rw [List.take_succ_eq_append_getElem hj]
  simp only [rowF, List.foldl_append, List.foldl_cons, List.foldl_nil]

theorem rowsF_take (ls : List Bs) {k : Nat} (hk : k < ls.length) : rowsF (ls.take (k + 1)) = rowF (rowsF (ls.take k)) ls[k] := by
  rw [List.take_succ_eq_append_getElem hk]
  simp only [rowsF, List.foldl_append, List.foldl_cons, List.foldl_nil]

theorem rowsF_flat (ls : List Bs) : rowsF ls = rowF 4294967295 ls.flatten := by
  unfold rowsF rowF
  rw [List.foldl_flatten]

def sumF (l : Bs) : Int := bits .xor .u32 IntKind.u32.max (rowF 4294967295 l)

set_option maxRecDepth 100000 in
set_option maxHeartbeats 4000000 in
theorem sum_calls {w : World} {p : Option Addr} {n c : Nat} {ls : List Bs} (hx : RowsAt w (.slice p n c) ls) (hn : n ≤ 140737488355328) (hrow : ∀ l ∈ ls, l.length ≤ 140737488355328) :
    Calls Tryz.prog 139 #[.slice p n c] w (fun e w' => e = .returned (.int .u32 (sumF ls.flatten)) ∧ w' = w) := by
  have hnl := RowsAt.len hx
  have Hx := Lib.hid hx
  have Hrow := Lib.hid hrow
  have Hnl := Lib.hid hnl
  clear hx hrow hnl
  go_enter Tryz.func139, Tryz.ntmps139
  go_wp2_with fail
  go_loop [3, 10] (fun v i => ∃ k : Nat, k ≤ n ∧ i = .int .i64 k ∧ v = .int .u32 (rowsF (ls.take k))) (fun _ i => n - (intOf i).toNat)
  case atStart => exact ⟨0, Nat.zero_le _, rfl, rfl⟩
  case round =>
    obtain ⟨k, hk, rfl, rfl⟩ := hrel
    by_cases hlt : k < n
    · have hltl : k < ls.length := by rw [← Hnl.out]; exact hlt
      have Hrw := Lib.hid (rowsF_take ls hltl)
      obtain ⟨-, b, o, v, rfl, hcell, hv⟩ := RowsAt.row Hx.out hltl
      have hrl := Hrow.out _ (List.getElem_mem hltl)
      generalize hl : ls[k] = l at *
      have Hat := Lib.hid hv.at
      obtain ⟨pv, cv, rfl⟩ := hv.slice
      generalize hm : l.length = m at *
      generalize rowsF (ls.take k) = x at *
      have Hm := Lib.hid hm
      clear hv hm hl
      go_wp2_with fail
      go_loop [3, 16] (fun v i => ∃ j : Nat, j ≤ m ∧ i = .int .i64 j ∧ v = .int .u32 (rowF x (l.take j))) (fun _ i => m - (intOf i).toNat)
      case atStart => exact ⟨0, Nat.zero_le _, rfl, rfl⟩
      case round =>
        obtain ⟨j, hj, rfl, rfl⟩ := hrel
        by_cases hlj : j < m
        · have hljl : j < l.length := by rw [Hm.out]; exact hlj
          have Hbt := Lib.hid (rowF_take x l hljl)
          rcases Hat.out with h | ⟨b2, o2, c2, e1, hcx⟩
          · rw [h] at hljl
            simp at hljl
          cases e1
          have hcb := hcx j _ (List.getElem?_eq_getElem hljl)
          generalize l[j] = cc at *
          generalize rowF x (l.take j) = y at *
          have hcc : cc.toNat < 256 := cc.toNat_lt
          clear hcx
          go_wp2_with fail
          have HB := Lib.hid (show byteF y cc = iterF 8 (bits .xor .u32 y (cc.toNat : Int)) from rfl)
          generalize bits .xor .u32 y (cc.toNat : Int) = z0 at *
          go_loop [3, 24] (fun v i => ∃ q : Nat, q ≤ 8 ∧ i = .int .i64 q ∧ v = .int .u32 (iterF q z0)) (fun _ i => 8 - (intOf i).toNat)
          case atStart => exact ⟨0, Nat.zero_le _, rfl, rfl⟩
          case round =>
            obtain ⟨q, hq, rfl, rfl⟩ := hrel
            by_cases hlq : q < 8
            · have Hit := Lib.hid (show iterF (q + 1) z0 = bitF (iterF q z0) from rfl)
              generalize iterF q z0 = z at *
              go_wp2_with fail
              go_round
              case rel => exact ⟨q + 1, by omega, by go_num, by rw [Hit.out]; rfl⟩
              case measure => simp [intOf]; omega
            · have hq8 : q = 8 := by omega
              subst hq8
              go_wp2_with fail
              go_round
              case rel => exact ⟨j + 1, by omega, by go_num, by rw [Hbt.out, HB.out]⟩
              case measure => simp [intOf]; omega
        · have hjm : j = m := by omega
          have hlk : l.take j = l := List.take_of_length_le (by rw [Hm.out]; omega)
          rw [hlk]
          clear hlk
          go_wp2_with fail
          go_round
          case rel => exact ⟨k + 1, by omega, by go_num, by rw [Hrw.out]⟩
          case measure => simp [intOf]; omega
    · have hlk : ls.take k = ls := List.take_of_length_le (by have := Hnl.out; omega)
      rw [hlk]
      clear hlk
      have He := Lib.hid (show sumF ls.flatten = bits .xor .u32 IntKind.u32.max (rowsF ls) by rw [rowsF_flat]; rfl)
      generalize rowsF ls = x at *
      go_wp2_with fail
      go_ret
      exact ⟨by rw [He.out]; rfl, rfl⟩
end Go.Proofs.YtngflpaooppmhaaGreat

namespace Go.Proofs.YtngflpaooppmhaaGreat
open Go.RowKit Go.Sat Go.Maps

/-- A number in four bytes. -/
def fourN (n : Nat) : Bs := [UInt8.ofNat n, UInt8.ofNat (n / 256), UInt8.ofNat (n / 65536), UInt8.ofNat (n / 16777216)]

/-- What a function hands back that lays its bytes anew. -/
def NewB (w : World) (l : Bs) (e : Ending) (w' : World) : Prop := ∃ v, e = .returned v ∧ HasB w' v l ∧ Below w.heap.size w w'

set_option maxRecDepth 100000 in
set_option maxHeartbeats 4000000 in
theorem four_calls {w : World} (v : Nat) (h1 : v < 4294967296) :
    Calls Tryz.prog 142 #[.int .u32 (v : Int)] w (NewB w (fourN v)) := by
  have hfin : NewB w (fourN v) (.returned (.slice (some ⟨w.heap.size, 0, none⟩) 4 4)) (w.alloc (.cells #[.int .u8 ((v : Int) % 256), .int .u8 ((v : Int) / 256 % 256), .int .u8 ((v : Int) / 65536 % 256), .int .u8 ((v : Int) / 16777216)] 5)) :=
    ⟨_, rfl, has_lit _ (fourN v) _ _ 4 rfl rfl (by
      simp only [fourN, bytesV, List.map_cons, List.map_nil, UInt8.toNat_ofNat']
      have e1 : (v : Int) / 16777216 = ((v / 16777216 % 256 : Nat) : Int) := by omega
      have e2 : (v : Int) % 256 = ((v % 256 : Nat) : Int) := by omega
      have e3 : (v : Int) / 256 % 256 = ((v / 256 % 256 : Nat) : Int) := by omega
      have e4 : (v : Int) / 65536 % 256 = ((v / 65536 % 256 : Nat) : Int) := by omega
      rw [e1, e2, e3, e4]), (Below.refl _ _).alloc (Nat.le_refl _) _⟩
  have Hfin := Lib.hid hfin
  clear hfin
  go_enter Tryz.func142, Tryz.ntmps142
  go_wp2_with fail
  go_ret
  exact Hfin.out

theorem or_add (k a b : Nat) (h : a < 2 ^ k) : (a ||| b * 2 ^ k) = a + b * 2 ^ k := by
  have := Nat.two_pow_add_eq_or_of_lt h b
  rw [Nat.or_comm, Nat.mul_comm b, ← this, Nat.add_comm]

theorem or_four {x0 x1 x2 x3 : Nat} (l0 : x0 < 2 ^ 8) (l1 : x1 < 2 ^ 8) (l2 : x2 < 2 ^ 8) (l3 : x3 < 2 ^ 8) :
    bits .or .u32 (bits .or .u32 (bits .or .u32 (x0 : Int) ((x1 : Int) * 256)) ((x2 : Int) * 65536)) ((x3 : Int) * 16777216) = ((x0 + x1 * 256 + x2 * 65536 + x3 * 16777216 : Nat) : Int) := by
  have e1 : (x1 : Int) * 256 = ((x1 * 2 ^ 8 : Nat) : Int) := by omega
  have e2 : (x2 : Int) * 65536 = ((x2 * 2 ^ 16 : Nat) : Int) := by omega
  have e3 : (x3 : Int) * 16777216 = ((x3 * 2 ^ 24 : Nat) : Int) := by omega
  rw [e1, e2, e3, u32_or_nat _ _ (by omega) (by omega), or_add 8 x0 x1 (by omega), u32_or_nat _ _ (by omega) (by omega), or_add 16 _ x2 (by omega), u32_or_nat _ _ (by omega) (by omega), or_add 24 _ x3 (by omega)]

/-- The number of four bytes. -/
def ofFour (a0 a1 a2 a3 : UInt8) : Nat := a0.toNat + a1.toNat * 256 + a2.toNat * 65536 + a3.toNat * 16777216

theorem of_four (n : Nat) (h : n < 4294967296) : ofFour (UInt8.ofNat n) (UInt8.ofNat (n / 256)) (UInt8.ofNat (n / 65536)) (UInt8.ofNat (n / 16777216)) = n := by
  simp only [ofFour, UInt8.toNat_ofNat']
  omega

set_option maxRecDepth 100000 in
set_option maxHeartbeats 4000000 in
theorem fromFour_calls {w : World} {b o n c : Nat} {a0 a1 a2 a3 : UInt8} (hn : 4 ≤ n) (h0 : w.cell? ⟨b, o, none⟩ = some (.int .u8 (a0.toNat : Int))) (h1 : w.cell? ⟨b, o + 1, none⟩ = some (.int .u8 (a1.toNat : Int)))
    (h2 : w.cell? ⟨b, o + 2, none⟩ = some (.int .u8 (a2.toNat : Int))) (h3 : w.cell? ⟨b, o + 3, none⟩ = some (.int .u8 (a3.toNat : Int))) :
    Calls Tryz.prog 136 #[.slice (some ⟨b, o, none⟩) n c] w (fun e w' => e = .returned (.int .u32 (ofFour a0 a1 a2 a3 : Int)) ∧ ∃ q, w' = w.drewN q) := by
  have l0 := a0.toNat_lt
  have l1 := a1.toNat_lt
  have l2 := a2.toNat_lt
  have l3 := a3.toNat_lt
  have i0 : (0 : Int) < (n : Int) := by omega
  have i1 : (1 : Int) < (n : Int) := by omega
  have i2 : (2 : Int) < (n : Int) := by omega
  have i3 : (3 : Int) < (n : Int) := by omega
  have hF := or_four l0 l1 l2 l3
  have HF := Lib.hid (show bits .or .u32 (bits .or .u32 (bits .or .u32 (a0.toNat : Int) ((a1.toNat : Int) * 256)) ((a2.toNat : Int) * 65536)) ((a3.toNat : Int) * 16777216) = (ofFour a0 a1 a2 a3 : Int) from hF)
  clear hF
  generalize ofFour a0 a1 a2 a3 = r at *
  generalize a0.toNat = x0 at *
  generalize a1.toNat = x1 at *
  generalize a2.toNat = x2 at *
  generalize a3.toNat = x3 at *
  go_enter Tryz.func136, Tryz.ntmps136
  go_wp2_with fail
  go_quiet (fail)
  go_wp2
  go_ret
  exact ⟨by rw [← HF.out]; rfl, _, rfl⟩
end Go.Proofs.YtngflpaooppmhaaGreat

namespace Go.Proofs.YtngflpaooppmhaaGreat
open Go.RowKit Go.Sat Go.Maps

def sumN (l : Bs) : Nat := (sumF l).toNat

theorem sumF_range (l : Bs) : 0 ≤ sumF l ∧ sumF l < 4294967296 := by
  unfold sumF bits
  rw [IntKind.wrap_u32]
  omega

theorem sumF_nat (l : Bs) : sumF l = (sumN l : Int) := by
  have := (sumF_range l).1
  unfold sumN
  omega

theorem sumN_lt (l : Bs) : sumN l < 4294967296 := by
  have := sumF_range l
  unfold sumN
  omega

/-- A list of two rows, in a new block. -/
theorem rows_two {w : World} {v1 v2 : Value} {l1 l2 : Bs} (h1 : HasB w v1 l1) (h2 : HasB w v2 l2) (e : TypeId) (fr : Nat × Nat) (g c : Nat) (hg : g = w.heap.size) (hc : 2 ≤ c) : RowsAt (w.alloc (.cells #[v1, v2] e fr)) (.slice (some ⟨g, 0, none⟩) 2 c) [l1, l2] := by
  subst hg
  refine ⟨_, c, rfl, by simpa using hc, fun _ => ⟨_, _, [v1, v2], rfl, rfl, fun i u hu => ?_, fun i u m hu hm => ?_⟩⟩
  · have e1 : (⟨w.heap.size, 0, none⟩ : Addr).add i = ⟨w.heap.size, i, none⟩ := by unfold Addr.add; split <;> simp_all
    rw [e1]
    refine cell_of (new_block w _) ?_
    simpa using hu
  · have hi : i < 2 := by
      have := (List.getElem?_eq_some_iff.1 hu).1
      simpa using this
    have : i = 0 ∨ i = 1 := by omega
    rcases this with rfl | rfl
    · simp at hu hm
      subst hu
      subst hm
      exact (has_alloc h1 _).kit
    · simp at hu hm
      subst hu
      subst hm
      exact (has_alloc h2 _).kit

theorem below_al (w : World) (o : Obj) : Below w.heap.size w (w.alloc o) := (Below.refl _ _).alloc (Nat.le_refl _) o
theorem below_to {w w1 w2 : World} (h : Below w.heap.size w w1) (k : Below w1.heap.size w1 w2) : Below w.heap.size w w2 := h.trans (k.mono h.size)

def headN (n : Nat) : Bs := fourN n ++ fourN (sumN (fourN n))

set_option maxRecDepth 100000 in
set_option maxHeartbeats 4000000 in
theorem head_calls {w : World} (n : Nat) (h : n < 4294967296) :
    Calls Tryz.prog 138 #[.int .u32 (n : Int)] w (NewB w (headN n)) := by
  have Hf := Lib.hid (fun w => four_calls (w := w) n h)
  go_enter Tryz.func138, Tryz.ntmps138
  go_wp2_with fail
  refine (Hf.out _).mono ?_
  rintro e w1 ⟨v1, rfl, hv1, hb1⟩
  have V1 := Lib.hid hv1
  have B1 := Lib.hid hb1
  clear hv1 hb1
  go_wp2_with fail
  refine (Hf.out _).mono ?_
  rintro e w2 ⟨v2, rfl, hv2, hb2⟩
  have V2 := Lib.hid hv2
  have B2 := Lib.hid hb2
  obtain ⟨p2, c2, rfl⟩ := hv2.slice
  clear hv2 hb2
  go_wp2_with fail
  refine (sum_calls (rows_one V2.out 23 (0, 0) _ 1 rfl (Nat.le_refl _)) (by decide) (by simp [fourN])).mono ?_
  rintro e w3 ⟨rfl, rfl⟩
  rw [show [fourN n].flatten = fourN n by simp, sumF_nat]
  have Hg := Lib.hid (fun w => four_calls (w := w) (sumN (fourN n)) (sumN_lt _))
  have Hh := Lib.hid (show headN n = fourN n ++ fourN (sumN (fourN n)) from rfl)
  generalize sumN (fourN n) = q at *
  go_wp2_with fail
  refine (Hg.out _).mono ?_
  rintro e w4 ⟨v4, rfl, hv4, hb4⟩
  have B2' := below_to B1.out (below_to B2.out (below_to (below_al _ _) hb4))
  have V1' := V1.out.below (below_to B2.out (below_to (below_al _ _) hb4))
  obtain ⟨p1, c1, rfl⟩ := V1.out.slice
  obtain ⟨p4, c4, rfl⟩ := hv4.slice
  have hj := join_calls (rows_two V1' hv4 23 (0, 0) _ 2 rfl (Nat.le_refl _)) (by simp) (by simp [fourN])
  have Hj := Lib.hid hj
  have BB := Lib.hid B2'
  clear hj V1' B2' hv4 hb4
  go_wp2_with fail
  refine Hj.out.mono ?_
  rintro e w5 ⟨v5, rfl, hv5, hb5⟩
  have Hfin := Lib.hid (show NewB w (headN n) (.returned v5) w5 from ⟨v5, rfl, by rw [Hh.out]; simpa using hv5, below_to BB.out (below_to (below_al _ _) hb5)⟩)
  clear hv5 hb5
  go_wp2_with fail
  go_ret
  exact Hfin.out
end Go.Proofs.YtngflpaooppmhaaGreat

namespace Go.Proofs.YtngflpaooppmhaaGreat
open Go.RowKit Go.Sat

theorem fresh_ge {B : Nat} {w : World} {v : Value} {l : Bs} (h : Lib.FreshBytes B w v l) : ∀ k, v.ownBlock = some k → B ≤ k := by
  obtain ⟨g, cap, zs, rfl, h1, _⟩ := h
  intro k hk
  cases hk
  exact h1

/-- bytes.Join of rows, with nothing between them. -/
theorem bjoin_new {w : World} {x : Value} {ls : List Bs} (h : RowsAt w x ls) (hn : ls.length ≤ 140737488355328) (hl : ls.flatten.length ≤ 140737488355328) :
    Calls Tryz.prog 141 #[x, .slice none 0 0] w fun e w' => ∃ v, e = .returned v ∧ HasB w' v ls.flatten ∧ (∀ k, v.ownBlock = some k → w.heap.size ≤ k) ∧ Below w.heap.size w w' := by
  obtain ⟨p, c, rfl, hc, hQ⟩ := h
  cases ls with
  | nil =>
    refine (Tryz.bytes_Join_none p c (.slice none 0 0) w).mono ?_
    rintro e w' ⟨rfl, rfl⟩
    refine ⟨_, rfl, ?_, fun k hk => (by simp [Value.ownBlock] at hk; omega), (Below.refl _ _).alloc (Nat.le_refl _) _⟩
    exact HasB.of_kit ⟨_, _, rfl, fun e => (by cases e), fun a ha i x hx => by simp at hx⟩
  | cons l0 r =>
    obtain ⟨b, o, vs, rfl, hP⟩ := hQ (by simp)
    cases r with
    | nil =>
      obtain ⟨p0, c0, l0', e0, hcell, hp0, hcs⟩ := hP.get 0 (by simp)
      simp at e0
      subst e0
      have hcell' : w.cell? ⟨b, o, none⟩ = some (.slice p0 l0.length c0) := by simpa [Addr.add] using hcell
      by_cases h0 : l0.length = 0
      · have hl0 : l0 = [] := List.eq_nil_of_length_eq_zero h0
        subst hl0
        refine (Tryz.bytes_Join_one_empty b o c p0 c0 (.slice none 0 0) w hcell').mono ?_
        rintro e w' ⟨rfl, rfl⟩
        exact ⟨_, rfl, HasB.of_kit ⟨none, 0, rfl, fun _ => rfl, fun a ha => (by cases ha)⟩, fun k hk => (by cases hk), Below.refl _ _⟩
      · obtain ⟨a0, rfl⟩ : ∃ a, p0 = some a := by
          cases p0 with
          | none => exact absurd (by rw [hp0 rfl]; rfl) h0
          | some a => exact ⟨a, rfl⟩
        refine (Tryz.bytes_Join_one b o c a0 c0 l0 (.slice none 0 0) w hcell' (hcs a0 rfl) (by omega) (by simpa using hl)).mono ?_
        rintro e w' ⟨v, rfl, hf, hb⟩
        exact ⟨v, rfl, by simpa using fresh_has hf, fresh_ge hf, hb⟩
    | cons l1 r =>
      have hsep : Lib.HoldsBytes w (.slice none 0 0) [] := ⟨none, 0, rfl, fun _ => rfl, fun a ha => (by cases ha)⟩
      refine (Tryz.bytes_Join_many b o _ c vs (l0 :: l1 :: r) (.slice none 0 0) [] w rfl (by simp) hP hc hsep hn (by rw [← flat_len]; simpa using hl)).mono ?_
      rintro e w' ⟨v, rfl, hf, hb⟩
      rw [join_flat] at hf
      exact ⟨v, rfl, fresh_has hf, fresh_ge hf, hb⟩

set_option maxHeartbeats 400000 in
/-- octet.Join. -/
theorem join_new {w : World} {x : Value} {ls : List Bs} (h : RowsAt w x ls) (hn : ls.length ≤ 140737488355328) (hl : ls.flatten.length ≤ 140737488355328) :
    Calls Tryz.prog 132 #[x] w fun e w' => ∃ v, e = .returned v ∧ HasB w' v ls.flatten ∧ (∀ k, v.ownBlock = some k → w.heap.size ≤ k) ∧ Below w.heap.size w w' := by
  have hj := bjoin_new h hn hl
  obtain ⟨p, c, rfl, hc, hP⟩ := h
  have Hj := Lib.hid hj
  clear hj hP
  go_enter Tryz.func132, Tryz.ntmps132
  go_wp2_with fail
  refine Hj.out.mono ?_
  rintro e w' ⟨v, rfl, hv, hw, hb⟩
  go_wp2_with fail
  go_ret
  exact ⟨v, rfl, hv, hw, hb⟩

end Go.Proofs.YtngflpaooppmhaaGreat

namespace Go.Proofs.YtngflpaooppmhaaGreat
open Go.RowKit Go.Sat Go.Maps

/-- A record of bytes. -/
def frameN (l : Bs) : Bs := (headN l.length ++ l) ++ fourN (sumN (headN l.length ++ l))

theorem lens_take (ls : List Bs) {k : Nat} (hk : k < ls.length) : (ls.take (k + 1)).flatten.length = (ls.take k).flatten.length + ls[k].length := by
  rw [flat_take hk, List.length_append]

set_option maxRecDepth 100000 in
set_option maxHeartbeats 4000000 in
theorem enc_calls {w : World} {p : Option Addr} {n c : Nat} {ls : List Bs} (hx : RowsAt w (.slice p n c) ls) (hn : n ≤ 140737488355328) (hl : ls.flatten.length ≤ 1048576) :
    Calls Tryz.prog 134 #[.slice p n c] w (fun e w' => ∃ v, e = .returned (.tuple #[v, .int .i64 0]) ∧ HasB w' v (frameN ls.flatten) ∧ (∀ k, v.ownBlock = some k → w.heap.size ≤ k) ∧ Below w.heap.size w w') := by
  have hnl := RowsAt.len hx
  have Hx := Lib.hid hx
  have Hl := Lib.hid hl
  have Hnl := Lib.hid hnl
  clear hx hl hnl
  go_enter Tryz.func134, Tryz.ntmps134
  go_wp2_with fail
  go_loop [4, 10] (fun a i => ∃ k : Nat, k ≤ n ∧ i = .int .i64 k ∧ a = .int .i64 (((ls.take k).flatten.length : Nat) : Int) ∧ (ls.take k).flatten.length ≤ 1048576) (fun _ i => n - (intOf i).toNat)
  case atStart => exact ⟨0, Nat.zero_le _, rfl, by simp, by simp⟩
  case round =>
    obtain ⟨k, hk, rfl, rfl, hck⟩ := hrel
    by_cases hlt : k < n
    · have hltl : k < ls.length := by rw [← Hnl.out]; exact hlt
      have hct := lens_take ls hltl
      have hle := flat_take_le ls (k + 1)
      obtain ⟨-, b, o, v, rfl, hcell, hv⟩ := RowsAt.row Hx.out hltl
      obtain ⟨pv, cv, rfl⟩ := hv.slice
      have hc8 : (ls.take (k + 1)).flatten.length ≤ 1048576 := by have := Hl.out; omega
      have hsum : (ls.take k).flatten.length + ls[k].length ≤ 1048576 := by omega
      have Hct := Lib.hid hct
      have Hc8 := Lib.hid hc8
      clear hv hct hle hc8
      generalize ls[k].length = m at *
      generalize (ls.take k).flatten.length = C at *
      go_wp2_with fail
      go_round
      case rel => exact ⟨k + 1, by omega, by go_num, by rw [Hct.out]; go_num, Hc8.out⟩
      case measure => simp [intOf]; omega
    · have hls : ls.take k = ls := List.take_of_length_le (by have := Hnl.out; omega)
      rw [hls] at hck ⊢
      have hkn : k = n := by omega
      have Hhd := Lib.hid (fun w => head_calls (w := w) ls.flatten.length (by have := Hl.out; omega))
      have HFr := Lib.hid (show frameN ls.flatten = (headN ls.flatten.length ++ ls.flatten) ++ fourN (sumN (headN ls.flatten.length ++ ls.flatten)) from rfl)
      have Hjn := Lib.hid (fun (W : World) (hb : Below w.heap.size w W) => join_calls (rows_below Hx.out hb) (by rw [← Hnl.out]; omega) (by have := Hl.out; omega))
      generalize hX : ls.flatten = X at *
      have HX := Lib.hid hX
      clear hX
      generalize hC : X.length = C at *
      have hhl : (headN C).length = 8 := rfl
      generalize headN C = hd at *
      have HC := Lib.hid hC
      have Hhl := Lib.hid hhl
      clear hls hC hhl
      go_wp2_with fail
      refine (Hhd.out _).mono ?_
      rintro e w1 ⟨v1, rfl, hv1, hb1⟩
      have V1 := Lib.hid hv1
      have B1 := Lib.hid hb1
      have Hj := Lib.hid (Hjn.out _ hb1)
      clear hv1 hb1
      go_wp2_with fail
      refine Hj.out.mono ?_
      rintro e w2 ⟨v2, rfl, hv2, hb2⟩
      have hh1 := V1.out.below hb2
      obtain ⟨p1, c1, rfl⟩ := hh1.slice
      obtain ⟨p2, c2, rfl⟩ := hv2.slice
      have hj := join_calls (rows_two hh1 hv2 23 (0, 0) _ 2 rfl (Nat.le_refl _)) (by simp) (by simp [Hhl.out, HC.out]; omega)
      rw [show [hd, X].flatten = hd ++ X by simp] at hj
      have e1 := Hhl.out
      have e2 := HC.out
      rw [e1, e2] at hj
      rw [e1, e2]
      have Hj2 := Lib.hid hj
      have B2 := Lib.hid (below_to B1.out (below_to hb2 (below_al w2 (.cells #[.slice p1 8 c1, .slice p2 C c2] 23))))
      clear hj hh1 hv2 hb2 Hj e1 e2
      go_wp2_with fail
      refine Hj2.out.mono ?_
      rintro e w3 ⟨v3, rfl, hv3, hb3⟩
      have V3 := Lib.hid hv3
      have B3 := Lib.hid (below_to B2.out hb3)
      have hlb : (hd ++ X).length ≤ 1048584 := by rw [List.length_append, Hhl.out, HC.out]; omega
      have HLb := Lib.hid hlb
      generalize hY : hd ++ X = Y at *
      obtain ⟨p3, c3, rfl⟩ := hv3.slice
      clear hv3 hb3 hY hlb
      have hlY := HLb.out
      generalize hD : Y.length = yl at *
      have HD := Lib.hid hD
      clear hD
      go_wp2_with fail
      refine (sum_calls (rows_one V3.out 23 (0, 0) _ 1 rfl (Nat.le_refl _)) (by decide) (by simp [HD.out]; omega)).mono ?_
      rintro e w4 ⟨rfl, rfl⟩
      rw [show [Y].flatten = Y by simp, sumF_nat]
      have Hg := Lib.hid (fun w => four_calls (w := w) (sumN Y) (sumN_lt _))
      generalize sumN Y = q at *
      go_wp2_with fail
      refine (Hg.out _).mono ?_
      rintro e w5 ⟨v5, rfl, hv5, hb5⟩
      have V3' := V3.out.below (below_to (below_al _ _) hb5)
      obtain ⟨p5, c5, rfl⟩ := hv5.slice
      have hj := join_new (rows_two V3' hv5 23 (0, 0) _ 2 rfl (Nat.le_refl _)) (by simp) (by simp [fourN, HD.out]; omega)
      rw [show [Y, fourN q].flatten = Y ++ fourN q by simp, show (fourN q).length = 4 from rfl] at hj
      have B5 := Lib.hid (below_to B3.out (below_to (below_al _ _) hb5))
      rw [show (fourN q).length = 4 from rfl]
      have Hj3 := Lib.hid hj
      clear hj V3' hv5 hb5
      go_wp2_with fail
      refine Hj3.out.mono ?_
      rintro e w6 ⟨v6, rfl, hv6, hw6, hb6⟩
      have V6 := Lib.hid (And.intro hv6 (And.intro (fun k hk => Nat.le_trans B5.out.size (Nat.le_trans (below_al w5 _).size (hw6 k hk)) : ∀ k, v6.ownBlock = some k → w.heap.size ≤ k) (below_to B5.out (below_to (below_al _ _) hb6))))
      clear hv6 hw6 hb6
      go_wp2_with fail
      go_ret2
      exact ⟨v6, rfl, by rw [HX.out, HFr.out]; exact V6.out.1, V6.out.2.1, V6.out.2.2⟩
end Go.Proofs.YtngflpaooppmhaaGreat
