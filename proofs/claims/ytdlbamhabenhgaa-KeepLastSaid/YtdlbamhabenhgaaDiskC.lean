/- The contracts of each, Sync, Remove. -/
import Derived.Test.YtdlbamhabenhgaaDiskB
namespace Go.Proofs.Ytdlbamhabenhgaa
open Go.RowKit Go.Sat Go.Maps

/-- What a thing done with a file leaves. -/
def Did (W : World) (d : Nat) (own : Own) (D : DiskM) (e : Ending) (w' : World) : Prop :=
  ∃ own', e = .returned (.tuple #[]) ∧ DiskAt w' d D own' ∧ Chg (Has own) W w' ∧ Ext W own own'

theorem ok_sync {D : DiskM} (h : D.OK) {n : Bs} {f : FileM} (hg : Sat.get n D.files = some f) : DiskM.OK { D with files := DiskM.gSync n f D.files } where
  srt := srt_put h.srt
  room := h.room
  used := by
    show sumBy DiskM.size (put n _ D.files) ≤ D.room
    rw [sum_put]
    have h1 : D.used = DiskM.size f + sumBy DiskM.size (del n D.files) := sum_del h.srt hg
    have := h.used
    simp only [DiskM.size] at h1 ⊢
    omega
  count := by
    show (put n _ D.files).length ≤ 4096
    rw [len_put]
    have := len_del h.srt hg
    have := h.count
    omega
  names p hp := by
    rcases mem_put.1 hp with rfl | ⟨hp, _⟩
    · exact (h.names (n, f) (get_mem hg) : okN n = true)
    · exact h.names p hp
  lasts p hp := by
    rcases mem_put.1 hp with rfl | ⟨hp, _⟩
    · exact Nat.le_refl _
    · exact h.lasts p hp
  fuse := h.fuse

theorem ok_del {D : DiskM} (h : D.OK) (n : Bs) : DiskM.OK { D with files := del n D.files } where
  srt := srt_del h.srt
  room := h.room
  used := by
    show sumBy DiskM.size (del n D.files) ≤ D.room
    cases hg : Sat.get n D.files with
    | none => rw [del_none hg]; exact h.used
    | some f =>
      have h1 : D.used = DiskM.size f + sumBy DiskM.size (del n D.files) := sum_del h.srt hg
      have := h.used
      omega
  count := Nat.le_trans (len_del_le _ _) h.count
  names p hp := h.names p (mem_del.1 hp).1
  lasts p hp := h.lasts p (mem_del.1 hp).1
  fuse := h.fuse

section
variable {w : World} {d m : Nat} {left : Int} {L : List (Bs × FRep)} {own : Own} {D : DiskM}

theorem has_d (h : DiskIn w d m left L own D) : Has own d := by unfold Has; rw [h.od]; simp
theorem has_m (h : DiskIn w d m left L own D) : Has own m := by unfold Has; rw [h.om]; simp
theorem has_f (h : DiskIn w d m left L own D) {n : Bs} {r : FRep} (hg : Sat.get n L = some r) : Has own r.fb := by unfold Has; rw [(h.fileAt hg).ob]; simp

set_option maxHeartbeats 400000 in
theorem sync1_calls (h : DiskIn w d m left L own D) (s : ByteArray) {r : FRep} (hg : Sat.get (nm s) L = some r) :
    Calls Try.prog 53 #[.string s, .pointer (some ⟨r.fb, 0, none⟩)] w (Did w d own { D with files := DiskM.gSync (nm s) r.f D.files }) := by
  have hf := h.fileAt hg
  have hc := cell_of (i := 0) hf.cells rfl
  have hc1 := cell_of (i := 1) hf.cells rfl
  have hz := frozen_of hf.cells 1
  obtain ⟨p, c, hv⟩ := OwnB.slice hf.row
  have hdl : r.f.data.length ≤ 1073741824 := by
    have := h.ok.used
    have := h.ok.room
    have : r.f.data.length ≤ D.used := by rw [h.used]; exact le_sum (f := fun r : FRep => r.f.data.length) h.srt hg
    omega
  have hfin : Did w d own { D with files := DiskM.gSync (nm s) r.f D.files } (.returned (.tuple #[])) (w.setCell ⟨r.fb, 1, none⟩ (.int .i64 (r.f.data.length : Int))) := by
    have hne : ∀ k, r.v.ownBlock = some k → k ≠ r.fb := fun k hk => h.ne_of (hf.og k hk) hf.ob (by simp)
    obtain ⟨own', h4, hx⟩ := h.upd (w' := w.setCell ⟨r.fb, 1, none⟩ (.int .i64 (r.f.data.length : Int))) (v' := r.v) (f' := ⟨r.f.data, r.f.data.length⟩) hg (by simp [World.setCell]) (fun k _ hk _ => set_other _ hk)
      (by rw [set_block hf.cells]; simp) (hf.row.keep fun k hk => set_other _ (hne k hk)) (fun g hgv => .inl hgv) (ok_sync h.ok (by rw [h.get, hg]; rfl))
    exact ⟨own', rfl, ⟨m, left, _, h4⟩, (Chg.setCell w _ _).mono fun k _ e => by rw [e]; exact has_f h hg, hx⟩
  rw [hv] at hc
  have Hfin := Lib.hid hfin
  clear hfin h hg hf hv
  generalize r.f.data.length = n at *
  go_enter Try.func53, Try.ntmps53
  go_wp2
  go_end0
  exact Hfin.out

set_option maxHeartbeats 400000 in
theorem remove1_calls (h : DiskIn w d m left L own D) (s : ByteArray) (hs : s.size ≤ 9223372036854775807) {r : FRep} (_hg : Sat.get (nm s) L = some r) (cb : Nat) (hcb : w.cell? ⟨cb, 0, none⟩ = some (.pointer (some ⟨d, 0, none⟩))) :
    Calls Try.prog 55 #[.string s, .pointer (some ⟨r.fb, 0, none⟩), .pointer (some ⟨cb, 0, none⟩)] w (Did w d own { D with files := DiskM.gRemove (nm s) r.f D.files }) := by
  have hc1 := h.c1
  have hkey := WideMaps.keyOf_string_mk Try.underlying9 hs
  have hdel : ∀ w', w'.ownsMap Try.prog 9 ptrR m L.length ((dm fbD L).del (.string s.data.toList)) → w.mapTurned w' m → Did w d own { D with files := DiskM.gRemove (nm s) r.f D.files } (.returned (.tuple #[])) w' := by
    intro w' hown ht
    rw [dm_del] at hown
    have hg' := ht.grown
    obtain ⟨own', h4, hx⟩ := h.remap (w' := w') (L' := del (nm s) L) (D' := { D with files := del (nm s) D.files }) hg'.size (fun k hk hkm => hg'.block k hk (by intro e; cases e; exact hkm rfl)) ⟨_, hown⟩ (srt_del h.srt) rfl rfl
      (by rw [mp_del, ← h.files]) (ok_del h.ok _) (fun p hp => ⟨p, (mem_del.1 hp).1, rfl⟩) (fun p hp q hq e => by
        have h1 := h.file p (mem_del.1 hp).1
        have h2 := h.file q (mem_del.1 hq).1
        have h3 := h1.ob
        rw [e, h2.ob] at h3
        exact key_uniq h.srt (mem_del.1 hp).1 (mem_del.1 hq).1 (by simpa using h3.symm))
    exact ⟨own', rfl, ⟨m, left, _, h4⟩, (Chg.of_grown hg').mono fun k _ e => by cases e; exact has_m h, hx⟩
  have hown := h.map
  have Hdel := Lib.hid hdel
  clear hdel h _hg
  go_enter Try.func55, Try.ntmps55
  go_wp2_with (first | (at_delete; refine wpList_delete_own _ rfl _ _ 74 9 rfl 78 keyLaw Try.underlying74 ptrR m L.length (dm fbD L) rfl hown _ _ rfl hkey ?_; intro w1 hown1 hturn1; have Hf := Lib.hid (Hdel.out _ hown1 hturn1); clear hown1 hturn1))
  go_end0
  exact Hf.out

theorem each_append (g : Bs → FileM → List (Bs × FileM) → List (Bs × FileM)) (D : DiskM) (l r : List Bs) (h : (D.each g l).2 = 0) : D.each g (l ++ r) = (D.each g l).1.each g r := by
  induction l generalizing D with
  | nil => rfl
  | cons n l ih =>
    simp only [List.cons_append, DiskM.each] at h ⊢
    by_cases h1 : (DiskM.each1 g D n).2 = 0
    · rw [if_pos h1] at h ⊢
      rw [if_pos h1]
      exact ih _ h
    · rw [if_neg h1] at h
      exact absurd h h1

theorem each_stop (g : Bs → FileM → List (Bs × FileM) → List (Bs × FileM)) (D : DiskM) (n : Bs) (r : List Bs) (h : (DiskM.each1 g D n).2 ≠ 0) : D.each g (n :: r) = DiskM.each1 g D n := by
  simp only [DiskM.each, if_neg h]

/-- What has been done with the first k names. -/
def EachRel (w : World) (d : Nat) (own : Own) (D : DiskM) (g : Bs → FileM → List (Bs × FileM) → List (Bs × FileM)) (ns : List Bs) (k : Nat) (wr : World) : Prop :=
  ∃ own' m left L, DiskIn wr d m left L own' (D.each g (ns.take k)).1 ∧ (D.each g (ns.take k)).2 = 0 ∧ Chg (Has own) w wr ∧ Ext w own own'

/-- The function that each is handed: what it does with a file, whatever the world (but for what it has captured). -/
def DoesAt (fv : Value) (g : Bs → FileM → List (Bs × FileM) → List (Bs × FileM)) (d : Nat) (w : World) (own : Own) : Prop :=
  (fv = .func (.func 53) #[] #[] ∧ g = DiskM.gSync) ∨
  ∃ cb, fv = .func (.func 55) #[] #[.pointer (some ⟨cb, 0, none⟩)] ∧ g = DiskM.gRemove ∧ w.cell? ⟨cb, 0, none⟩ = some (.pointer (some ⟨d, 0, none⟩)) ∧ own cb = none

theorem each_round {w wr : World} {g : Bs → FileM → List (Bs × FileM) → List (Bs × FileM)} {ns : List Bs} {k : Nat} {n : Bs} (hr : EachRel w d own D g ns k wr) (hn : ns[k]? = some n) :
    ∃ D', D.each g ns = (if (DiskM.each1 g D' n).2 = 0 then (DiskM.each1 g D' n).1.each g (ns.drop (k + 1)) else DiskM.each1 g D' n) ∧ (D.each g (ns.take k)).1 = D' ∧
      ((DiskM.each1 g D' n).2 = 0 → D.each g (ns.take (k + 1)) = DiskM.each1 g D' n) := by
  obtain ⟨own', m, left, L, _, h0, _⟩ := hr
  refine ⟨_, ?_, rfl, fun h1 => ?_⟩
  · have hk : k < ns.length := (List.getElem?_eq_some_iff.1 hn).1
    have hnk : ns[k] = n := (List.getElem?_eq_some_iff.1 hn).2
    have e1 : ns = ns.take k ++ n :: ns.drop (k + 1) := by rw [← hnk, ← List.drop_eq_getElem_cons hk, List.take_append_drop]
    have e2 : D.each g ns = D.each g (ns.take k ++ n :: ns.drop (k + 1)) := by rw [← e1]
    rw [e2, each_append g D _ _ h0]
    rfl
  · have hk : k < ns.length := (List.getElem?_eq_some_iff.1 hn).1
    have hnk : ns[k] = n := (List.getElem?_eq_some_iff.1 hn).2
    rw [List.take_succ_eq_append_getElem hk, each_append g D _ _ h0, hnk]
    simp only [DiskM.each, if_pos h1]
    exact Prod.ext rfl h1.symm

theorem chg_ext {w wr w2 : World} {own own' : Own} (h : Chg (Has own) w wr) (hx : Ext w own own') (k : Chg (Has own') wr w2) : Chg (Has own) w w2 :=
  h.trans k fun i hi t ho => t (hx i hi ho)
theorem ext_trans {w wr : World} {own own' own2 : Own} (hs : w.heap.size ≤ wr.heap.size) (h : Ext w own own') (k : Ext wr own' own2) : Ext w own own2 := fun i hi ho => k i (Nat.lt_of_lt_of_le hi hs) (h i hi ho)

theorem each1_bad {g : Bs → FileM → List (Bs × FileM) → List (Bs × FileM)} {D : DiskM} {n : Bs} (h : D.may [n] ≠ 0) : DiskM.each1 g D n = (D, D.may [n]) := by
  unfold DiskM.each1
  rw [if_pos h]
theorem each1_none {g : Bs → FileM → List (Bs × FileM) → List (Bs × FileM)} {D : DiskM} {n : Bs} (h : D.may [n] = 0) (hg : Sat.get n D.files = none) : DiskM.each1 g D n = (D, 7) := by
  unfold DiskM.each1
  rw [if_neg (by simpa using h), hg]
theorem each1_some {g : Bs → FileM → List (Bs × FileM) → List (Bs × FileM)} {D : DiskM} {n : Bs} {f : FileM} (h : D.may [n] = 0) (hg : Sat.get n D.files = some f) : DiskM.each1 g D n = (DiskM.done { D with files := g n f D.files }, 0) := by
  unfold DiskM.each1
  rw [if_neg (by simpa using h), hg]

/-- A round that errs. -/
theorem each_errs {w wr : World} {g : Bs → FileM → List (Bs × FileM) → List (Bs × FileM)} {ns : List Bs} {k : Nat} {n : Bs} {D' : DiskM} {e : Nat} {o : Obj} (hr : EachRel w d own D g ns k wr) (hn : ns[k]? = some n)
    (hD : (D.each g (ns.take k)).1 = D') (h1 : DiskM.each1 g D' n = (D', e)) (he : e ≠ 0) : After w d own (D.each g ns) (.returned (.int .i64 (e : Int))) (wr.alloc o) := by
  obtain ⟨D2, h2, h3, _⟩ := each_round hr hn
  rw [hD] at h3
  subst h3
  rw [h1, if_neg he] at h2
  obtain ⟨own', m, left, L, hd, h0, hc, hx⟩ := hr
  rw [hD] at hd
  rw [h2]
  exact ⟨own', rfl, ⟨m, left, L, hd.chg (Chg.alloc wr o) fun _ h => h.elim⟩, hc.trans ((Chg.alloc wr o).mono (T := Has own) fun _ _ h => h.elim) fun _ _ h => h, hx⟩

/-- A round that goes well. -/
theorem each_next {w wr w3 : World} {g : Bs → FileM → List (Bs × FileM) → List (Bs × FileM)} {ns : List Bs} {k : Nat} {n : Bs} {D' D2 : DiskM} {own2 : Own} (hr : EachRel w d own D g ns k wr) (hn : ns[k]? = some n)
    (hD : (D.each g (ns.take k)).1 = D') (h1 : DiskM.each1 g D' n = (D2, 0)) (hd : DiskAt w3 d D2 own2) (hc : Chg (Has own) w w3) (hx : Ext w own own2) : EachRel w d own D g ns (k + 1) w3 := by
  obtain ⟨D3, _, h3, h4⟩ := each_round hr hn
  rw [hD] at h3
  subst h3
  have h5 := h4 (by rw [h1])
  obtain ⟨m, left, L, hd⟩ := hd
  exact ⟨own2, m, left, L, by rw [h5, h1]; exact hd, by rw [h5, h1], hc, hx⟩

set_option maxRecDepth 100000 in
set_option maxHeartbeats 4000000 in
theorem each_calls (h : DiskAt w d D own) (p : Option Addr) (ss : List ByteArray) (c : Nat) (hs : StrsAt w p ss) (hm : ss.length ≤ 140737488355328) (hsz : ∀ s ∈ ss, s.size ≤ 9223372036854775807) (hpo : ∀ a, p = some a → own a.block = none)
    (fv : Value) (g : Bs → FileM → List (Bs × FileM) → List (Bs × FileM)) (hfv : DoesAt fv g d w own) :
    Calls Try.prog 52 #[.pointer (some ⟨d, 0, none⟩), .slice p ss.length c, fv] w (After w d own (D.each g (ss.map nm))) := by
  obtain ⟨m0, left0, L0, h⟩ := h
  have hstart : EachRel w d own D g (ss.map nm) 0 w := ⟨own, m0, left0, L0, by simpa [DiskM.each] using h, by simp [DiskM.each], Chg.refl _ _, ext_refl _ _⟩
  clear h
  have Hpo := Lib.hid hpo
  have Hsz := Lib.hid hsz
  have Hs := Lib.hid hs
  clear hpo hsz hs
  rcases hfv with ⟨rfl, rfl⟩ | ⟨cb, rfl, rfl, hcb, hco⟩
  · go_enter Try.func52, Try.ntmps52
    go_wp2
    go_loopw [15] (fun i wr => ∃ k : Nat, k ≤ ss.length ∧ i = .int .i64 k ∧ EachRel w d own D DiskM.gSync (ss.map nm) k wr) (fun i _ => ss.length - (intOf i).toNat)
    case atStart => exact ⟨0, Nat.zero_le _, rfl, hstart⟩
    case round =>
      clear hstart
      obtain ⟨k, hk, rfl, hrel⟩ := hrel
      by_cases hlt : k < ss.length
      · have hss : ss[k]? = some ss[k] := List.getElem?_eq_getElem hlt
        have hsk : ss[k].size ≤ 9223372036854775807 := Hsz.out _ (List.getElem_mem hlt)
        have hnk : (ss.map nm)[k]? = some (nm ss[k]) := by simp [hlt]
        have hrel0 := hrel
        obtain ⟨own', m, left, L, hd, h0, hc, hx⟩ := hrel
        generalize hD : (D.each DiskM.gSync ((ss.map nm).take k)).1 = D' at *
        have hcell : ∃ b o, p = some ⟨b, o, none⟩ ∧ wr.cell? ⟨b, o + k, none⟩ = some (.string ss[k]) := by
          rcases Hs.out with h | ⟨b, o, rfl, hcs⟩
          · rw [h] at hlt
            simp at hlt
          · refine ⟨b, o, rfl, hc.cell (hcs k _ hss) ?_⟩
            intro hh
            exact hh (Hpo.out ⟨b, o, none⟩ rfl)
        obtain ⟨b, o, rfl, hcell⟩ := hcell
        generalize ss[k] = s at *
        have h1 := hd.chg (Chg.alloc wr (.cells #[.string s] 9)) (fun k hk => hk.elim)
        have hmay := may_calls h1 _ [s] 1 (strs_one wr s) (by simp) (by simpa using hsk)
        simp only [List.map_cons, List.map_nil] at hmay
        have Hrel := Lib.hid hrel0
        have Hnk := Lib.hid hnk
        have HD := Lib.hid hD
        have Hc := Lib.hid hc
        have Hx := Lib.hid hx
        have H0 := Lib.hid h0
        clear hrel0 hnk hD hc hx hss h0
        by_cases hmz : D'.may [nm s] = 0
        · rw [hmz] at hmay
          have hc1 := h1.c1
          cases hg : Sat.get (nm s) L with
          | none =>
            have hlook := run_look_none _ keyLaw Try.underlying9 Try.underlying74 (zeroFile _) FRep.fb h1.map hsk hg
            have hfin := each_errs (o := .cells #[.string s] 9) Hrel.out Hnk.out HD.out (each1_none (g := DiskM.gSync) hmz (by rw [hd.get, hg]; rfl)) (by decide)
            have Hfin := Lib.hid hfin
            have Hmay := Lib.hid hmay
            clear hfin hmay h1 hd hg hmz
            go_wp2_with fail
            refine Hmay.out.mono ?_
            rintro e w' ⟨rfl, rfl⟩
            go_wp2_with fail
            go_ret
            exact Hfin.out
          | some r =>
            have hlook := run_look_some _ keyLaw Try.underlying9 Try.underlying74 (zeroFile _) FRep.fb h1.map hsk hg
            have hdo := sync1_calls h1 s hg
            have hnext := fun w3 own2 => each_next (w3 := w3) (own2 := own2) Hrel.out Hnk.out HD.out (each1_some (g := DiskM.gSync) hmz (by rw [hd.get, hg]; rfl))
            have hfu := (may_zero hmz).1
            have Hmay := Lib.hid hmay
            have Hdo := Lib.hid hdo
            have Hnext := Lib.hid hnext
            have Hfu := Lib.hid hfu
            clear hmay h1 hd hg hmz hdo hnext hfu
            go_wp2_with fail
            refine Hmay.out.mono ?_
            rintro e w' ⟨rfl, rfl⟩
            go_wp2_with fail
            refine Hdo.out.mono ?_
            rintro e w2 ⟨own2, rfl, ⟨m2, left2, L2, hd2⟩, hc2, hx2⟩
            have hdone := done_calls hd2 Hfu.out
            have hod : Has own2 d := has_d hd2
            have hcc := chg_ext Hc.out Hx.out (((Chg.alloc wr _).mono (T := Has own') fun _ _ h => h.elim).trans hc2 fun _ _ h => h)
            have hxx := ext_trans Hc.out.size Hx.out (fun i hi ho => hx2 i (by simp; omega) ho)
            have Hdone := Lib.hid hdone
            have Hod := Lib.hid hod
            have Hcc := Lib.hid hcc
            have Hxx := Lib.hid hxx
            clear hdone hod hcc hxx hd2 hc2 hx2
            go_wp2_with fail
            refine Hdone.out.mono ?_
            rintro e w3 ⟨rfl, hd3, hc3⟩
            have hrel3 := Hnext.out _ _ hd3 (chg_ext Hcc.out Hxx.out (hc3.mono fun i _ e => by rw [e]; exact Hod.out)) Hxx.out
            have Hrel3 := Lib.hid hrel3
            clear hd3 hc3 hrel3
            go_wp2_with fail
            go_roundw
            case rel => exact ⟨k + 1, by omega, by go_num, Hrel3.out⟩
            case measure => simp [intOf]; omega
        · have hfin := each_errs (o := .cells #[.string s] 9) Hrel.out Hnk.out HD.out (each1_bad (g := DiskM.gSync) hmz) hmz
          generalize D'.may [nm s] = e at *
          have hne : ((e : Int) != 0) = true := by simp; exact hmz
          have Hfin := Lib.hid hfin
          have Hmay := Lib.hid hmay
          clear hfin hmay h1 hd hmz
          go_wp2_with fail
          refine Hmay.out.mono ?_
          rintro e w' ⟨rfl, rfl⟩
          go_wp2_with fail
          go_ret
          exact Hfin.out
      · have hke : k = ss.length := by omega
        obtain ⟨own', m, left, L, hd, h0, hc, hx⟩ := hrel
        rw [List.take_of_length_le (by simp; omega)] at hd h0
        have Hd := Lib.hid hd
        have H0 := Lib.hid h0
        have Hc := Lib.hid hc
        have Hx := Lib.hid hx
        clear hd h0 hc hx hke
        go_wp2_with fail
        go_ret
        exact ⟨own', by rw [H0.out]; rfl, ⟨m, left, L, Hd.out⟩, Hc.out, Hx.out⟩
  · have Hcb := Lib.hid hcb
    have Hco := Lib.hid hco
    clear hcb hco
    go_enter Try.func52, Try.ntmps52
    go_wp2
    go_loopw [15] (fun i wr => ∃ k : Nat, k ≤ ss.length ∧ i = .int .i64 k ∧ EachRel w d own D DiskM.gRemove (ss.map nm) k wr) (fun i _ => ss.length - (intOf i).toNat)
    case atStart => exact ⟨0, Nat.zero_le _, rfl, hstart⟩
    case round =>
      clear hstart
      obtain ⟨k, hk, rfl, hrel⟩ := hrel
      by_cases hlt : k < ss.length
      · have hss : ss[k]? = some ss[k] := List.getElem?_eq_getElem hlt
        have hsk : ss[k].size ≤ 9223372036854775807 := Hsz.out _ (List.getElem_mem hlt)
        have hnk : (ss.map nm)[k]? = some (nm ss[k]) := by simp [hlt]
        have hrel0 := hrel
        obtain ⟨own', m, left, L, hd, h0, hc, hx⟩ := hrel
        generalize hD : (D.each DiskM.gRemove ((ss.map nm).take k)).1 = D' at *
        have hcell : ∃ b o, p = some ⟨b, o, none⟩ ∧ wr.cell? ⟨b, o + k, none⟩ = some (.string ss[k]) := by
          rcases Hs.out with h | ⟨b, o, rfl, hcs⟩
          · rw [h] at hlt
            simp at hlt
          · refine ⟨b, o, rfl, hc.cell (hcs k _ hss) ?_⟩
            intro hh
            exact hh (Hpo.out ⟨b, o, none⟩ rfl)
        obtain ⟨b, o, rfl, hcell⟩ := hcell
        generalize ss[k] = s at *
        have h1 := hd.chg (Chg.alloc wr (.cells #[.string s] 9)) (fun k hk => hk.elim)
        have hmay := may_calls h1 _ [s] 1 (strs_one wr s) (by simp) (by simpa using hsk)
        simp only [List.map_cons, List.map_nil] at hmay
        have hcb1 : (wr.alloc (.cells #[.string s] 9)).cell? ⟨cb, 0, none⟩ = some (.pointer (some ⟨d, 0, none⟩)) :=
          (Chg.alloc wr _).cell (hc.cell Hcb.out fun hh => hh Hco.out) fun h => h
        have Hrel := Lib.hid hrel0
        have Hnk := Lib.hid hnk
        have HD := Lib.hid hD
        have Hc := Lib.hid hc
        have Hx := Lib.hid hx
        have H0 := Lib.hid h0
        clear hrel0 hnk hD hc hx hss h0
        by_cases hmz : D'.may [nm s] = 0
        · rw [hmz] at hmay
          have hc1 := h1.c1
          cases hg : Sat.get (nm s) L with
          | none =>
            have hlook := run_look_none _ keyLaw Try.underlying9 Try.underlying74 (zeroFile _) FRep.fb h1.map hsk hg
            have hfin := each_errs (o := .cells #[.string s] 9) Hrel.out Hnk.out HD.out (each1_none (g := DiskM.gRemove) hmz (by rw [hd.get, hg]; rfl)) (by decide)
            have Hfin := Lib.hid hfin
            have Hmay := Lib.hid hmay
            clear hfin hmay h1 hd hg hmz hcb1
            go_wp2_with fail
            refine Hmay.out.mono ?_
            rintro e w' ⟨rfl, rfl⟩
            go_wp2_with fail
            go_ret
            exact Hfin.out
          | some r =>
            have hlook := run_look_some _ keyLaw Try.underlying9 Try.underlying74 (zeroFile _) FRep.fb h1.map hsk hg
            have hdo := remove1_calls h1 s hsk hg cb hcb1
            have hnext := fun w3 own2 => each_next (w3 := w3) (own2 := own2) Hrel.out Hnk.out HD.out (each1_some (g := DiskM.gRemove) hmz (by rw [hd.get, hg]; rfl))
            have hfu := (may_zero hmz).1
            have Hmay := Lib.hid hmay
            have Hdo := Lib.hid hdo
            have Hnext := Lib.hid hnext
            have Hfu := Lib.hid hfu
            clear hmay h1 hd hg hmz hdo hnext hfu hcb1
            go_wp2_with fail
            refine Hmay.out.mono ?_
            rintro e w' ⟨rfl, rfl⟩
            go_wp2_with fail
            refine Hdo.out.mono ?_
            rintro e w2 ⟨own2, rfl, ⟨m2, left2, L2, hd2⟩, hc2, hx2⟩
            have hdone := done_calls hd2 Hfu.out
            have hod : Has own2 d := has_d hd2
            have hcc := chg_ext Hc.out Hx.out (((Chg.alloc wr _).mono (T := Has own') fun _ _ h => h.elim).trans hc2 fun _ _ h => h)
            have hxx := ext_trans Hc.out.size Hx.out (fun i hi ho => hx2 i (by simp; omega) ho)
            have Hdone := Lib.hid hdone
            have Hod := Lib.hid hod
            have Hcc := Lib.hid hcc
            have Hxx := Lib.hid hxx
            clear hdone hod hcc hxx hd2 hc2 hx2
            go_wp2_with fail
            refine Hdone.out.mono ?_
            rintro e w3 ⟨rfl, hd3, hc3⟩
            have hrel3 := Hnext.out _ _ hd3 (chg_ext Hcc.out Hxx.out (hc3.mono fun i _ e => by rw [e]; exact Hod.out)) Hxx.out
            have Hrel3 := Lib.hid hrel3
            clear hd3 hc3 hrel3
            go_wp2_with fail
            go_roundw
            case rel => exact ⟨k + 1, by omega, by go_num, Hrel3.out⟩
            case measure => simp [intOf]; omega
        · have hfin := each_errs (o := .cells #[.string s] 9) Hrel.out Hnk.out HD.out (each1_bad (g := DiskM.gRemove) hmz) hmz
          generalize D'.may [nm s] = e at *
          have hne : ((e : Int) != 0) = true := by simp; exact hmz
          have Hfin := Lib.hid hfin
          have Hmay := Lib.hid hmay
          clear hfin hmay h1 hd hmz hcb1
          go_wp2_with fail
          refine Hmay.out.mono ?_
          rintro e w' ⟨rfl, rfl⟩
          go_wp2_with fail
          go_ret
          exact Hfin.out
      · have hke : k = ss.length := by omega
        obtain ⟨own', m, left, L, hd, h0, hc, hx⟩ := hrel
        rw [List.take_of_length_le (by simp; omega)] at hd h0
        have Hd := Lib.hid hd
        have H0 := Lib.hid h0
        have Hc := Lib.hid hc
        have Hx := Lib.hid hx
        clear hd h0 hc hx hke
        go_wp2_with fail
        go_ret
        exact ⟨own', by rw [H0.out]; rfl, ⟨m, left, L, Hd.out⟩, Hc.out, Hx.out⟩

set_option maxHeartbeats 400000 in
/-- **Sync.** -/
theorem sync_calls (h : DiskAt w d D own) (p : Option Addr) (ss : List ByteArray) (c : Nat) (hs : StrsAt w p ss) (hm : ss.length ≤ 140737488355328) (hsz : ∀ s ∈ ss, s.size ≤ 9223372036854775807) (hpo : ∀ a, p = some a → own a.block = none) :
    Calls Try.prog 17 #[.pointer (some ⟨d, 0, none⟩), .slice p ss.length c] w (After w d own (D.sync (ss.map nm))) := by
  have he := each_calls h p ss c hs hm hsz hpo (.func (.func 53) #[] #[]) DiskM.gSync (.inl ⟨rfl, rfl⟩)
  have He := Lib.hid he
  clear he h hs hm hsz hpo
  go_enter Try.func17, Try.ntmps17
  go_wp2_with fail
  refine He.out.mono ?_
  rintro e w' ⟨own', rfl, hd, hc, hx⟩
  have Hf := Lib.hid (And.intro hd (And.intro hc hx))
  clear hd hc hx
  go_wp2_with fail
  go_ret
  exact ⟨own', rfl, Hf.out⟩

set_option maxHeartbeats 400000 in
/-- **Remove.** -/
theorem remove_calls (h : DiskAt w d D own) (p : Option Addr) (ss : List ByteArray) (c : Nat) (hs : StrsAt w p ss) (hm : ss.length ≤ 140737488355328) (hsz : ∀ s ∈ ss, s.size ≤ 9223372036854775807) (hpo : ∀ a, p = some a → own a.block = none) :
    Calls Try.prog 23 #[.pointer (some ⟨d, 0, none⟩), .slice p ss.length c] w (After w d own (D.remove (ss.map nm))) := by
  have hnone : own w.heap.size = none := by
    obtain ⟨m, left, L, h⟩ := h
    cases ho : own w.heap.size with
    | none => rfl
    | some t => have := h.olt _ t ho; omega
  have h1 := h.chg (Chg.alloc w (.cells #[.pointer (some ⟨d, 0, none⟩)] 25)) (fun _ h => h.elim)
  have hs1 : StrsAt (w.alloc (.cells #[.pointer (some ⟨d, 0, none⟩)] 25)) p ss := by
    rcases hs with h | ⟨b, o, rfl, hc⟩
    · exact .inl h
    · exact .inr ⟨b, o, rfl, fun i s hi => (Chg.alloc w _).cell (hc i s hi) fun h => h⟩
  have he := each_calls h1 p ss c hs1 hm hsz hpo (.func (.func 55) #[] #[.pointer (some ⟨w.heap.size, 0, none⟩)]) DiskM.gRemove (.inr ⟨_, rfl, rfl, cell_of (new_block w _) rfl, hnone⟩)
  have He := Lib.hid he
  clear he h hs hm hsz hpo h1 hs1 hnone
  go_enter Try.func23, Try.ntmps23
  go_wp2_with fail
  refine He.out.mono ?_
  rintro e w' ⟨own', rfl, hd, hc, hx⟩
  have hc' : Chg (Has own) w w' := ((Chg.alloc w _).mono (T := Has own) fun _ _ h => h.elim).trans hc fun _ _ h => h
  have hx' : Ext w own own' := fun k hk ho => hx k (by simp; omega) ho
  have Hf := Lib.hid (And.intro hd (And.intro hc' hx'))
  clear hd hc hx hc' hx'
  go_wp2_with fail
  go_ret
  exact ⟨own', rfl, Hf.out⟩
end
end Go.Proofs.Ytdlbamhabenhgaa
