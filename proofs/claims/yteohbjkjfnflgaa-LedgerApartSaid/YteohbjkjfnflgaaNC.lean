/- The contracts of each, Sync, Remove. The contracts of Read, Fuse, Crash. A disk that a law has made itself: the contracts in the form in which a law meets them. The contract of satrapylaw3.same. The contract of satrapylaw3.known: it is true. DiskKeeps: the walk. -/
import Derived.Lib.SlBytesConst
import Derived.Test.YteohbjkjfnflgaaNB
namespace Go.Proofs.Yteohbjkjfnflgaa
open Go.RowKit Go.Sat Go.Maps

/-- What a thing done with a file leaves. -/
def Did (W : World) (d : Nat) (own : Own) (D : DiskM) (e : Ending) (w' : World) : Prop :=
  ∃ own', e = .returned (.tuple #[]) ∧ DiskAt w' d D own' ∧ Chg (Has own) W w' ∧ Ext W own own'

theorem ok_sync {D : DiskM} (h : D.OK) {n : Bs} {f : FileM} (hg : Sat.get n D.files = some f) : DiskM.OK { D with files := DiskM.gSync n f D.files } where
  srt := srt_put h.srt
  room := h.room
  used := by
    show sumBy DiskM.size (put n _ D.files) ≤ D.room
    rw [sum_put]
    have h1 : D.used = DiskM.size f + sumBy DiskM.size (del n D.files) := sum_del h.srt hg
    have := h.used
    simp only [DiskM.size] at h1 ⊢
    omega
  count := by
    show (put n _ D.files).length ≤ 4096
    rw [len_put]
    have := len_del h.srt hg
    have := h.count
    omega
  names p hp := by
    rcases mem_put.1 hp with rfl | ⟨hp, _⟩
    · exact (h.names (n, f) (get_mem hg) : okN n = true)
    · exact h.names p hp
  lasts p hp := by
    rcases mem_put.1 hp with rfl | ⟨hp, _⟩
    · exact Nat.le_refl _
    · exact h.lasts p hp
  fuse := h.fuse

theorem ok_del {D : DiskM} (h : D.OK) (n : Bs) : DiskM.OK { D with files := del n D.files } where
  srt := srt_del h.srt
  room := h.room
  used := by
    show sumBy DiskM.size (del n D.files) ≤ D.room
    cases hg : Sat.get n D.files with
    | none => rw [del_none hg]; exact h.used
    | some f =>
      have h1 : D.used = DiskM.size f + sumBy DiskM.size (del n D.files) := sum_del h.srt hg
      have := h.used
      omega
  count := Nat.le_trans (len_del_le _ _) h.count
  names p hp := h.names p (mem_del.1 hp).1
  lasts p hp := h.lasts p (mem_del.1 hp).1
  fuse := h.fuse

section
variable {w : World} {d m : Nat} {left : Int} {L : List (Bs × FRep)} {own : Own} {D : DiskM}

theorem has_d (h : DiskIn w d m left L own D) : Has own d := by unfold Has; rw [h.od]; simp
theorem has_m (h : DiskIn w d m left L own D) : Has own m := by unfold Has; rw [h.om]; simp
theorem has_f (h : DiskIn w d m left L own D) {n : Bs} {r : FRep} (hg : Sat.get n L = some r) : Has own r.fb := by unfold Has; rw [(h.fileAt hg).ob]; simp

set_option maxHeartbeats 400000 in
theorem sync1_calls (h : DiskIn w d m left L own D) (s : ByteArray) {r : FRep} (hg : Sat.get (nm s) L = some r) :
    Calls Try.prog 55 #[.string s, .pointer (some ⟨r.fb, 0, none⟩)] w (Did w d own { D with files := DiskM.gSync (nm s) r.f D.files }) := by
  have hf := h.fileAt hg
  have hc := cell_of (i := 0) hf.cells rfl
  have hc1 := cell_of (i := 1) hf.cells rfl
  have hz := frozen_of hf.cells 1
  obtain ⟨p, c, hv⟩ := OwnB.slice hf.row
  have hdl : r.f.data.length ≤ 1073741824 := by
    have := h.ok.used
    have := h.ok.room
    have : r.f.data.length ≤ D.used := by rw [h.used]; exact le_sum (f := fun r : FRep => r.f.data.length) h.srt hg
    omega
  have hfin : Did w d own { D with files := DiskM.gSync (nm s) r.f D.files } (.returned (.tuple #[])) (w.setCell ⟨r.fb, 1, none⟩ (.int .i64 (r.f.data.length : Int))) := by
    have hne : ∀ k, r.v.ownBlock = some k → k ≠ r.fb := fun k hk => h.ne_of (hf.og k hk) hf.ob (by simp)
    obtain ⟨own', h4, hx⟩ := h.upd (w' := w.setCell ⟨r.fb, 1, none⟩ (.int .i64 (r.f.data.length : Int))) (v' := r.v) (f' := ⟨r.f.data, r.f.data.length⟩) hg (by simp [World.setCell]) (fun k _ hk _ => set_other _ hk)
      (by rw [set_block hf.cells]; simp) (hf.row.keep fun k hk => set_other _ (hne k hk)) (fun g hgv => .inl hgv) (ok_sync h.ok (by rw [h.get, hg]; rfl))
    exact ⟨own', rfl, ⟨m, left, _, h4⟩, (Chg.setCell w _ _).mono fun k _ e => by rw [e]; exact has_f h hg, hx⟩
  rw [hv] at hc
  have Hfin := Lib.hid hfin
  clear hfin h hg hf hv
  generalize r.f.data.length = n at *
  go_enter Try.func55, Try.ntmps55
  go_wp2
  go_end0
  exact Hfin.out

set_option maxHeartbeats 400000 in
theorem remove1_calls (h : DiskIn w d m left L own D) (s : ByteArray) (hs : s.size ≤ 9223372036854775807) {r : FRep} (_hg : Sat.get (nm s) L = some r) (cb : Nat) (hcb : w.cell? ⟨cb, 0, none⟩ = some (.pointer (some ⟨d, 0, none⟩))) :
    Calls Try.prog 65 #[.string s, .pointer (some ⟨r.fb, 0, none⟩), .pointer (some ⟨cb, 0, none⟩)] w (Did w d own { D with files := DiskM.gRemove (nm s) r.f D.files }) := by
  have hc1 := h.c1
  have hkey := WideMaps.keyOf_string_mk Try.underlying9 hs
  have hdel : ∀ w', w'.ownsMap Try.prog 9 ptrR m L.length ((dm fbD L).del (.string s.data.toList)) → w.mapTurned w' m → Did w d own { D with files := DiskM.gRemove (nm s) r.f D.files } (.returned (.tuple #[])) w' := by
    intro w' hown ht
    rw [dm_del] at hown
    have hg' := ht.grown
    obtain ⟨own', h4, hx⟩ := h.remap (w' := w') (L' := del (nm s) L) (D' := { D with files := del (nm s) D.files }) hg'.size (fun k hk hkm => hg'.block k hk (by intro e; cases e; exact hkm rfl)) ⟨_, hown⟩ (srt_del h.srt) rfl rfl
      (by rw [mp_del, ← h.files]) (ok_del h.ok _) (fun p hp => ⟨p, (mem_del.1 hp).1, rfl⟩) (fun p hp q hq e => by
        have h1 := h.file p (mem_del.1 hp).1
        have h2 := h.file q (mem_del.1 hq).1
        have h3 := h1.ob
        rw [e, h2.ob] at h3
        exact key_uniq h.srt (mem_del.1 hp).1 (mem_del.1 hq).1 (by simpa using h3.symm))
    exact ⟨own', rfl, ⟨m, left, _, h4⟩, (Chg.of_grown hg').mono fun k _ e => by cases e; exact has_m h, hx⟩
  have hown := h.map
  have Hdel := Lib.hid hdel
  clear hdel h _hg
  go_enter Try.func65, Try.ntmps65
  go_wp2_with (first | (at_delete; refine wpList_delete_own _ rfl _ _ 52 9 rfl 71 keyLaw Try.underlying52 ptrR m L.length (dm fbD L) rfl hown _ _ rfl hkey ?_; intro w1 hown1 hturn1; have Hf := Lib.hid (Hdel.out _ hown1 hturn1); clear hown1 hturn1))
  go_end0
  exact Hf.out

theorem each_append (g : Bs → FileM → List (Bs × FileM) → List (Bs × FileM)) (D : DiskM) (l r : List Bs) (h : (D.each g l).2 = 0) : D.each g (l ++ r) = (D.each g l).1.each g r := by
  induction l generalizing D with
  | nil => rfl
  | cons n l ih =>
    simp only [List.cons_append, DiskM.each] at h ⊢
    by_cases h1 : (DiskM.each1 g D n).2 = 0
    · rw [if_pos h1] at h ⊢
      rw [if_pos h1]
      exact ih _ h
    · rw [if_neg h1] at h
      exact absurd h h1

theorem each_stop (g : Bs → FileM → List (Bs × FileM) → List (Bs × FileM)) (D : DiskM) (n : Bs) (r : List Bs) (h : (DiskM.each1 g D n).2 ≠ 0) : D.each g (n :: r) = DiskM.each1 g D n := by
  simp only [DiskM.each, if_neg h]

/-- What has been done with the first k names. -/
def EachRel (w : World) (d : Nat) (own : Own) (D : DiskM) (g : Bs → FileM → List (Bs × FileM) → List (Bs × FileM)) (ns : List Bs) (k : Nat) (wr : World) : Prop :=
  ∃ own' m left L, DiskIn wr d m left L own' (D.each g (ns.take k)).1 ∧ (D.each g (ns.take k)).2 = 0 ∧ Chg (Has own) w wr ∧ Ext w own own'

/-- The function that each is handed: what it does with a file, whatever the world (but for what it has captured). -/
def DoesAt (fv : Value) (g : Bs → FileM → List (Bs × FileM) → List (Bs × FileM)) (d : Nat) (w : World) (own : Own) : Prop :=
  (fv = .func (.func 55) #[] #[] ∧ g = DiskM.gSync) ∨
  ∃ cb, fv = .func (.func 65) #[] #[.pointer (some ⟨cb, 0, none⟩)] ∧ g = DiskM.gRemove ∧ w.cell? ⟨cb, 0, none⟩ = some (.pointer (some ⟨d, 0, none⟩)) ∧ own cb = none

theorem each_round {w wr : World} {g : Bs → FileM → List (Bs × FileM) → List (Bs × FileM)} {ns : List Bs} {k : Nat} {n : Bs} (hr : EachRel w d own D g ns k wr) (hn : ns[k]? = some n) :
    ∃ D', D.each g ns = (if (DiskM.each1 g D' n).2 = 0 then (DiskM.each1 g D' n).1.each g (ns.drop (k + 1)) else DiskM.each1 g D' n) ∧ (D.each g (ns.take k)).1 = D' ∧
      ((DiskM.each1 g D' n).2 = 0 → D.each g (ns.take (k + 1)) = DiskM.each1 g D' n) := by
  obtain ⟨own', m, left, L, _, h0, _⟩ := hr
  refine ⟨_, ?_, rfl, fun h1 => ?_⟩
  · have hk : k < ns.length := (List.getElem?_eq_some_iff.1 hn).1
    have hnk : ns[k] = n := (List.getElem?_eq_some_iff.1 hn).2
    have e1 : ns = ns.take k ++ n :: ns.drop (k + 1) := by rw [← hnk, ← List.drop_eq_getElem_cons hk, List.take_append_drop]
    have e2 : D.each g ns = D.each g (ns.take k ++ n :: ns.drop (k + 1)) := by rw [← e1]
    rw [e2, each_append g D _ _ h0]
    rfl
  · have hk : k < ns.length := (List.getElem?_eq_some_iff.1 hn).1
    have hnk : ns[k] = n := (List.getElem?_eq_some_iff.1 hn).2
    rw [List.take_succ_eq_append_getElem hk, each_append g D _ _ h0, hnk]
    simp only [DiskM.each, if_pos h1]
    exact Prod.ext rfl h1.symm

theorem chg_ext {w wr w2 : World} {own own' : Own} (h : Chg (Has own) w wr) (hx : Ext w own own') (k : Chg (Has own') wr w2) : Chg (Has own) w w2 :=
  h.trans k fun i hi t ho => t (hx i hi ho)
theorem ext_trans {w wr : World} {own own' own2 : Own} (hs : w.heap.size ≤ wr.heap.size) (h : Ext w own own') (k : Ext wr own' own2) : Ext w own own2 := fun i hi ho => k i (Nat.lt_of_lt_of_le hi hs) (h i hi ho)

theorem each1_bad {g : Bs → FileM → List (Bs × FileM) → List (Bs × FileM)} {D : DiskM} {n : Bs} (h : D.may [n] ≠ 0) : DiskM.each1 g D n = (D, D.may [n]) := by
  unfold DiskM.each1
  rw [if_pos h]
theorem each1_none {g : Bs → FileM → List (Bs × FileM) → List (Bs × FileM)} {D : DiskM} {n : Bs} (h : D.may [n] = 0) (hg : Sat.get n D.files = none) : DiskM.each1 g D n = (D, 7) := by
  unfold DiskM.each1
  rw [if_neg (by simpa using h), hg]
theorem each1_some {g : Bs → FileM → List (Bs × FileM) → List (Bs × FileM)} {D : DiskM} {n : Bs} {f : FileM} (h : D.may [n] = 0) (hg : Sat.get n D.files = some f) : DiskM.each1 g D n = (DiskM.done { D with files := g n f D.files }, 0) := by
  unfold DiskM.each1
  rw [if_neg (by simpa using h), hg]

/-- A round that errs. -/
theorem each_errs {w wr : World} {g : Bs → FileM → List (Bs × FileM) → List (Bs × FileM)} {ns : List Bs} {k : Nat} {n : Bs} {D' : DiskM} {e : Nat} {o : Obj} (hr : EachRel w d own D g ns k wr) (hn : ns[k]? = some n)
    (hD : (D.each g (ns.take k)).1 = D') (h1 : DiskM.each1 g D' n = (D', e)) (he : e ≠ 0) : After w d own (D.each g ns) (.returned (.int .i64 (e : Int))) (wr.alloc o) := by
  obtain ⟨D2, h2, h3, _⟩ := each_round hr hn
  rw [hD] at h3
  subst h3
  rw [h1, if_neg he] at h2
  obtain ⟨own', m, left, L, hd, h0, hc, hx⟩ := hr
  rw [hD] at hd
  rw [h2]
  exact ⟨own', rfl, ⟨m, left, L, hd.chg (Chg.alloc wr o) fun _ h => h.elim⟩, hc.trans ((Chg.alloc wr o).mono (T := Has own) fun _ _ h => h.elim) fun _ _ h => h, hx⟩

/-- A round that goes well. -/
theorem each_next {w wr w3 : World} {g : Bs → FileM → List (Bs × FileM) → List (Bs × FileM)} {ns : List Bs} {k : Nat} {n : Bs} {D' D2 : DiskM} {own2 : Own} (hr : EachRel w d own D g ns k wr) (hn : ns[k]? = some n)
    (hD : (D.each g (ns.take k)).1 = D') (h1 : DiskM.each1 g D' n = (D2, 0)) (hd : DiskAt w3 d D2 own2) (hc : Chg (Has own) w w3) (hx : Ext w own own2) : EachRel w d own D g ns (k + 1) w3 := by
  obtain ⟨D3, _, h3, h4⟩ := each_round hr hn
  rw [hD] at h3
  subst h3
  have h5 := h4 (by rw [h1])
  obtain ⟨m, left, L, hd⟩ := hd
  exact ⟨own2, m, left, L, by rw [h5, h1]; exact hd, by rw [h5, h1], hc, hx⟩

set_option maxRecDepth 100000 in
set_option maxHeartbeats 4000000 in
theorem each_calls (h : DiskAt w d D own) (p : Option Addr) (ss : List ByteArray) (c : Nat) (hs : StrsAt w p ss) (hm : ss.length ≤ 140737488355328) (hsz : ∀ s ∈ ss, s.size ≤ 9223372036854775807) (hpo : ∀ a, p = some a → own a.block = none)
    (fv : Value) (g : Bs → FileM → List (Bs × FileM) → List (Bs × FileM)) (hfv : DoesAt fv g d w own) :
    Calls Try.prog 54 #[.pointer (some ⟨d, 0, none⟩), .slice p ss.length c, fv] w (After w d own (D.each g (ss.map nm))) := by
  obtain ⟨m0, left0, L0, h⟩ := h
  have hstart : EachRel w d own D g (ss.map nm) 0 w := ⟨own, m0, left0, L0, by simpa [DiskM.each] using h, by simp [DiskM.each], Chg.refl _ _, ext_refl _ _⟩
  clear h
  have Hpo := Lib.hid hpo
  have Hsz := Lib.hid hsz
  have Hs := Lib.hid hs
  clear hpo hsz hs
  rcases hfv with ⟨rfl, rfl⟩ | ⟨cb, rfl, rfl, hcb, hco⟩
  · go_enter Try.func54, Try.ntmps54
    go_wp2
    go_loopw [15] (fun i wr => ∃ k : Nat, k ≤ ss.length ∧ i = .int .i64 k ∧ EachRel w d own D DiskM.gSync (ss.map nm) k wr) (fun i _ => ss.length - (intOf i).toNat)
    case atStart => exact ⟨0, Nat.zero_le _, rfl, hstart⟩
    case round =>
      clear hstart
      obtain ⟨k, hk, rfl, hrel⟩ := hrel
      by_cases hlt : k < ss.length
      · have hss : ss[k]? = some ss[k] := List.getElem?_eq_getElem hlt
        have hsk : ss[k].size ≤ 9223372036854775807 := Hsz.out _ (List.getElem_mem hlt)
        have hnk : (ss.map nm)[k]? = some (nm ss[k]) := by simp [hlt]
        have hrel0 := hrel
        obtain ⟨own', m, left, L, hd, h0, hc, hx⟩ := hrel
        generalize hD : (D.each DiskM.gSync ((ss.map nm).take k)).1 = D' at *
        have hcell : ∃ b o, p = some ⟨b, o, none⟩ ∧ wr.cell? ⟨b, o + k, none⟩ = some (.string ss[k]) := by
          rcases Hs.out with h | ⟨b, o, rfl, hcs⟩
          · rw [h] at hlt
            simp at hlt
          · refine ⟨b, o, rfl, hc.cell (hcs k _ hss) ?_⟩
            intro hh
            exact hh (Hpo.out ⟨b, o, none⟩ rfl)
        obtain ⟨b, o, rfl, hcell⟩ := hcell
        generalize ss[k] = s at *
        have h1 := hd.chg (Chg.alloc wr (.cells #[.string s] 9)) (fun k hk => hk.elim)
        have hmay := may_calls h1 _ [s] 1 (strs_one wr s) (by simp) (by simpa using hsk)
        simp only [List.map_cons, List.map_nil] at hmay
        have Hrel := Lib.hid hrel0
        have Hnk := Lib.hid hnk
        have HD := Lib.hid hD
        have Hc := Lib.hid hc
        have Hx := Lib.hid hx
        have H0 := Lib.hid h0
        clear hrel0 hnk hD hc hx hss h0
        by_cases hmz : D'.may [nm s] = 0
        · rw [hmz] at hmay
          have hc1 := h1.c1
          cases hg : Sat.get (nm s) L with
          | none =>
            have hlook := run_look_none _ keyLaw Try.underlying9 Try.underlying52 (zeroFile _) FRep.fb h1.map hsk hg
            have hfin := each_errs (o := .cells #[.string s] 9) Hrel.out Hnk.out HD.out (each1_none (g := DiskM.gSync) hmz (by rw [hd.get, hg]; rfl)) (by decide)
            have Hfin := Lib.hid hfin
            have Hmay := Lib.hid hmay
            clear hfin hmay h1 hd hg hmz
            go_wp2_with fail
            refine Hmay.out.mono ?_
            rintro e w' ⟨rfl, rfl⟩
            go_wp2_with fail
            go_ret
            exact Hfin.out
          | some r =>
            have hlook := run_look_some _ keyLaw Try.underlying9 Try.underlying52 (zeroFile _) FRep.fb h1.map hsk hg
            have hdo := sync1_calls h1 s hg
            have hnext := fun w3 own2 => each_next (w3 := w3) (own2 := own2) Hrel.out Hnk.out HD.out (each1_some (g := DiskM.gSync) hmz (by rw [hd.get, hg]; rfl))
            have hfu := (may_zero hmz).1
            have Hmay := Lib.hid hmay
            have Hdo := Lib.hid hdo
            have Hnext := Lib.hid hnext
            have Hfu := Lib.hid hfu
            clear hmay h1 hd hg hmz hdo hnext hfu
            go_wp2_with fail
            refine Hmay.out.mono ?_
            rintro e w' ⟨rfl, rfl⟩
            go_wp2_with fail
            refine Hdo.out.mono ?_
            rintro e w2 ⟨own2, rfl, ⟨m2, left2, L2, hd2⟩, hc2, hx2⟩
            have hdone := done_calls hd2 Hfu.out
            have hod : Has own2 d := has_d hd2
            have hcc := chg_ext Hc.out Hx.out (((Chg.alloc wr _).mono (T := Has own') fun _ _ h => h.elim).trans hc2 fun _ _ h => h)
            have hxx := ext_trans Hc.out.size Hx.out (fun i hi ho => hx2 i (by simp; omega) ho)
            have Hdone := Lib.hid hdone
            have Hod := Lib.hid hod
            have Hcc := Lib.hid hcc
            have Hxx := Lib.hid hxx
            clear hdone hod hcc hxx hd2 hc2 hx2
            go_wp2_with fail
            refine Hdone.out.mono ?_
            rintro e w3 ⟨rfl, hd3, hc3⟩
            have hrel3 := Hnext.out _ _ hd3 (chg_ext Hcc.out Hxx.out (hc3.mono fun i _ e => by rw [e]; exact Hod.out)) Hxx.out
            have Hrel3 := Lib.hid hrel3
            clear hd3 hc3 hrel3
            go_wp2_with fail
            go_roundw
            case rel => exact ⟨k + 1, by omega, by go_num, Hrel3.out⟩
            case measure => simp [intOf]; omega
        · have hfin := each_errs (o := .cells #[.string s] 9) Hrel.out Hnk.out HD.out (each1_bad (g := DiskM.gSync) hmz) hmz
          generalize D'.may [nm s] = e at *
          have hne : ((e : Int) != 0) = true := by simp; exact hmz
          have Hfin := Lib.hid hfin
          have Hmay := Lib.hid hmay
          clear hfin hmay h1 hd hmz
          go_wp2_with fail
          refine Hmay.out.mono ?_
          rintro e w' ⟨rfl, rfl⟩
          go_wp2_with fail
          go_ret
          exact Hfin.out
      · have hke : k = ss.length := by omega
        obtain ⟨own', m, left, L, hd, h0, hc, hx⟩ := hrel
        rw [List.take_of_length_le (by simp; omega)] at hd h0
        have Hd := Lib.hid hd
        have H0 := Lib.hid h0
        have Hc := Lib.hid hc
        have Hx := Lib.hid hx
        clear hd h0 hc hx hke
        go_wp2_with fail
        go_ret
        exact ⟨own', by rw [H0.out]; rfl, ⟨m, left, L, Hd.out⟩, Hc.out, Hx.out⟩
  · have Hcb := Lib.hid hcb
    have Hco := Lib.hid hco
    clear hcb hco
    go_enter Try.func54, Try.ntmps54
    go_wp2
    go_loopw [15] (fun i wr => ∃ k : Nat, k ≤ ss.length ∧ i = .int .i64 k ∧ EachRel w d own D DiskM.gRemove (ss.map nm) k wr) (fun i _ => ss.length - (intOf i).toNat)
    case atStart => exact ⟨0, Nat.zero_le _, rfl, hstart⟩
    case round =>
      clear hstart
      obtain ⟨k, hk, rfl, hrel⟩ := hrel
      by_cases hlt : k < ss.length
      · have hss : ss[k]? = some ss[k] := List.getElem?_eq_getElem hlt
        have hsk : ss[k].size ≤ 9223372036854775807 := Hsz.out _ (List.getElem_mem hlt)
        have hnk : (ss.map nm)[k]? = some (nm ss[k]) := by simp [hlt]
        have hrel0 := hrel
        obtain ⟨own', m, left, L, hd, h0, hc, hx⟩ := hrel
        generalize hD : (D.each DiskM.gRemove ((ss.map nm).take k)).1 = D' at *
        have hcell : ∃ b o, p = some ⟨b, o, none⟩ ∧ wr.cell? ⟨b, o + k, none⟩ = some (.string ss[k]) := by
          rcases Hs.out with h | ⟨b, o, rfl, hcs⟩
          · rw [h] at hlt
            simp at hlt
          · refine ⟨b, o, rfl, hc.cell (hcs k _ hss) ?_⟩
            intro hh
            exact hh (Hpo.out ⟨b, o, none⟩ rfl)
        obtain ⟨b, o, rfl, hcell⟩ := hcell
        generalize ss[k] = s at *
        have h1 := hd.chg (Chg.alloc wr (.cells #[.string s] 9)) (fun k hk => hk.elim)
        have hmay := may_calls h1 _ [s] 1 (strs_one wr s) (by simp) (by simpa using hsk)
        simp only [List.map_cons, List.map_nil] at hmay
        have hcb1 : (wr.alloc (.cells #[.string s] 9)).cell? ⟨cb, 0, none⟩ = some (.pointer (some ⟨d, 0, none⟩)) :=
          (Chg.alloc wr _).cell (hc.cell Hcb.out fun hh => hh Hco.out) fun h => h
        have Hrel := Lib.hid hrel0
        have Hnk := Lib.hid hnk
        have HD := Lib.hid hD
        have Hc := Lib.hid hc
        have Hx := Lib.hid hx
        have H0 := Lib.hid h0
        clear hrel0 hnk hD hc hx hss h0
        by_cases hmz : D'.may [nm s] = 0
        · rw [hmz] at hmay
          have hc1 := h1.c1
          cases hg : Sat.get (nm s) L with
          | none =>
            have hlook := run_look_none _ keyLaw Try.underlying9 Try.underlying52 (zeroFile _) FRep.fb h1.map hsk hg
            have hfin := each_errs (o := .cells #[.string s] 9) Hrel.out Hnk.out HD.out (each1_none (g := DiskM.gRemove) hmz (by rw [hd.get, hg]; rfl)) (by decide)
            have Hfin := Lib.hid hfin
            have Hmay := Lib.hid hmay
            clear hfin hmay h1 hd hg hmz hcb1
            go_wp2_with fail
            refine Hmay.out.mono ?_
            rintro e w' ⟨rfl, rfl⟩
            go_wp2_with fail
            go_ret
            exact Hfin.out
          | some r =>
            have hlook := run_look_some _ keyLaw Try.underlying9 Try.underlying52 (zeroFile _) FRep.fb h1.map hsk hg
            have hdo := remove1_calls h1 s hsk hg cb hcb1
            have hnext := fun w3 own2 => each_next (w3 := w3) (own2 := own2) Hrel.out Hnk.out HD.out (each1_some (g := DiskM.gRemove) hmz (by rw [hd.get, hg]; rfl))
            have hfu := (may_zero hmz).1
            have Hmay := Lib.hid hmay
            have Hdo := Lib.hid hdo
            have Hnext := Lib.hid hnext
            have Hfu := Lib.hid hfu
            clear hmay h1 hd hg hmz hdo hnext hfu hcb1
            go_wp2_with fail
            refine Hmay.out.mono ?_
            rintro e w' ⟨rfl, rfl⟩
            go_wp2_with fail
            refine Hdo.out.mono ?_
            rintro e w2 ⟨own2, rfl, ⟨m2, left2, L2, hd2⟩, hc2, hx2⟩
            have hdone := done_calls hd2 Hfu.out
            have hod : Has own2 d := has_d hd2
            have hcc := chg_ext Hc.out Hx.out (((Chg.alloc wr _).mono (T := Has own') fun _ _ h => h.elim).trans hc2 fun _ _ h => h)
            have hxx := ext_trans Hc.out.size Hx.out (fun i hi ho => hx2 i (by simp; omega) ho)
            have Hdone := Lib.hid hdone
            have Hod := Lib.hid hod
            have Hcc := Lib.hid hcc
            have Hxx := Lib.hid hxx
            clear hdone hod hcc hxx hd2 hc2 hx2
            go_wp2_with fail
            refine Hdone.out.mono ?_
            rintro e w3 ⟨rfl, hd3, hc3⟩
            have hrel3 := Hnext.out _ _ hd3 (chg_ext Hcc.out Hxx.out (hc3.mono fun i _ e => by rw [e]; exact Hod.out)) Hxx.out
            have Hrel3 := Lib.hid hrel3
            clear hd3 hc3 hrel3
            go_wp2_with fail
            go_roundw
            case rel => exact ⟨k + 1, by omega, by go_num, Hrel3.out⟩
            case measure => simp [intOf]; omega
        · have hfin := each_errs (o := .cells #[.string s] 9) Hrel.out Hnk.out HD.out (each1_bad (g := DiskM.gRemove) hmz) hmz
          generalize D'.may [nm s] = e at *
          have hne : ((e : Int) != 0) = true := by simp; exact hmz
          have Hfin := Lib.hid hfin
          have Hmay := Lib.hid hmay
          clear hfin hmay h1 hd hmz hcb1
          go_wp2_with fail
          refine Hmay.out.mono ?_
          rintro e w' ⟨rfl, rfl⟩
          go_wp2_with fail
          go_ret
          exact Hfin.out
      · have hke : k = ss.length := by omega
        obtain ⟨own', m, left, L, hd, h0, hc, hx⟩ := hrel
        rw [List.take_of_length_le (by simp; omega)] at hd h0
        have Hd := Lib.hid hd
        have H0 := Lib.hid h0
        have Hc := Lib.hid hc
        have Hx := Lib.hid hx
        clear hd h0 hc hx hke
        go_wp2_with fail
        go_ret
        exact ⟨own', by rw [H0.out]; rfl, ⟨m, left, L, Hd.out⟩, Hc.out, Hx.out⟩

set_option maxHeartbeats 400000 in
/-- **Sync.** -/
theorem sync_calls (h : DiskAt w d D own) (p : Option Addr) (ss : List ByteArray) (c : Nat) (hs : StrsAt w p ss) (hm : ss.length ≤ 140737488355328) (hsz : ∀ s ∈ ss, s.size ≤ 9223372036854775807) (hpo : ∀ a, p = some a → own a.block = none) :
    Calls Try.prog 31 #[.pointer (some ⟨d, 0, none⟩), .slice p ss.length c] w (After w d own (D.sync (ss.map nm))) := by
  have he := each_calls h p ss c hs hm hsz hpo (.func (.func 55) #[] #[]) DiskM.gSync (.inl ⟨rfl, rfl⟩)
  have He := Lib.hid he
  clear he h hs hm hsz hpo
  go_enter Try.func31, Try.ntmps31
  go_wp2_with fail
  refine He.out.mono ?_
  rintro e w' ⟨own', rfl, hd, hc, hx⟩
  have Hf := Lib.hid (And.intro hd (And.intro hc hx))
  clear hd hc hx
  go_wp2_with fail
  go_ret
  exact ⟨own', rfl, Hf.out⟩

set_option maxHeartbeats 400000 in
/-- **Remove.** -/
theorem remove_calls (h : DiskAt w d D own) (p : Option Addr) (ss : List ByteArray) (c : Nat) (hs : StrsAt w p ss) (hm : ss.length ≤ 140737488355328) (hsz : ∀ s ∈ ss, s.size ≤ 9223372036854775807) (hpo : ∀ a, p = some a → own a.block = none) :
    Calls Try.prog 47 #[.pointer (some ⟨d, 0, none⟩), .slice p ss.length c] w (After w d own (D.remove (ss.map nm))) := by
  have hnone : own w.heap.size = none := by
    obtain ⟨m, left, L, h⟩ := h
    cases ho : own w.heap.size with
    | none => rfl
    | some t => have := h.olt _ t ho; omega
  have h1 := h.chg (Chg.alloc w (.cells #[.pointer (some ⟨d, 0, none⟩)] 24)) (fun _ h => h.elim)
  have hs1 : StrsAt (w.alloc (.cells #[.pointer (some ⟨d, 0, none⟩)] 24)) p ss := by
    rcases hs with h | ⟨b, o, rfl, hc⟩
    · exact .inl h
    · exact .inr ⟨b, o, rfl, fun i s hi => (Chg.alloc w _).cell (hc i s hi) fun h => h⟩
  have he := each_calls h1 p ss c hs1 hm hsz hpo (.func (.func 65) #[] #[.pointer (some ⟨w.heap.size, 0, none⟩)]) DiskM.gRemove (.inr ⟨_, rfl, rfl, cell_of (new_block w _) rfl, hnone⟩)
  have He := Lib.hid he
  clear he h hs hm hsz hpo h1 hs1 hnone
  go_enter Try.func47, Try.ntmps47
  go_wp2_with fail
  refine He.out.mono ?_
  rintro e w' ⟨own', rfl, hd, hc, hx⟩
  have hc' : Chg (Has own) w w' := ((Chg.alloc w _).mono (T := Has own) fun _ _ h => h.elim).trans hc fun _ _ h => h
  have hx' : Ext w own own' := fun k hk ho => hx k (by simp; omega) ho
  have Hf := Lib.hid (And.intro hd (And.intro hc' hx'))
  clear hd hc hx hc' hx'
  go_wp2_with fail
  go_ret
  exact ⟨own', rfl, Hf.out⟩
end
end Go.Proofs.Yteohbjkjfnflgaa

namespace Go.Sat
open Go.RowKit
/-- 'x[:k:k]'. -/
theorem run_cut {P : Program} (w : World) {t e : TypeId} {i : TypeInfo} (ht : P.underlying t = some (.slice e)) (hi : P.info? e = some i) (a : Option Addr) (len cap k : Nat) (h : k ≤ cap) :
    (Instr.slice t (.slice a len cap) none (some (.int .i64 (k : Int))) (some (.int .i64 (k : Int)))).run P w = .ok (.slice a k k) w := by
  have h1 : (Instr.sliceBound (.int .i64 (k : Int)) cap .slice3Acap).run P w = .ok k w := by
    rw [run_sliceBound _ _ _ _ _ (by omega) (by omega)]
    simp
  have h2 : (Instr.sliceBound (.int .i64 (k : Int)) k .slice3B).run P w = .ok k w := by
    rw [run_sliceBound _ _ _ _ _ (by omega) (by omega)]
    simp
  have h3 : (if k = 0 then a else a.map fun x => x.add (0 * i.size)) = a := by
    split
    · rfl
    · cases a <;> simp [Addr.add]
  simp only [Nat.zero_mul] at h3
  simp [Instr.slice, run_underlying ht, Instr.sliceBounds, h1, h2, sizeOf, typeInfo, hi, Result.andThen, h3]

theorem OwnR.cut {w : World} {e : TypeId} {p : Option Addr} {n c : Nat} {xs : List Value} (h : OwnR w e 1 (.slice p n c) n xs) {k : Nat} (hk : k ≤ n) : OwnR w e 1 (.slice p k k) k (xs.take k) := by
  obtain ⟨hl, h⟩ := h
  refine ⟨by rw [List.length_take]; omega, ?_⟩
  rcases h with ⟨e1, h0⟩ | ⟨g, cap, cur, e1, hg, hnc, hcm, hcs, ht⟩
  · cases e1
    have : k = 0 := by omega
    subst this
    exact .inl ⟨rfl, rfl⟩
  · cases e1
    refine .inr ⟨g, k, cur, rfl, hg, Nat.le_refl _, by omega, by omega, ?_⟩
    rw [← ht, List.take_take, Nat.mul_one, Nat.mul_one, Nat.min_eq_left hk]

theorem OwnR.cap_le {w : World} {e : TypeId} {p : Option Addr} {n c : Nat} {xs : List Value} (h : OwnR w e 1 (.slice p n c) n xs) : n ≤ c ∧ c ≤ maxLen := by
  rcases h.2 with ⟨e1, h0⟩ | ⟨g, cap, cur, e1, hg, hnc, hcm, hcs, ht⟩
  · cases e1
    exact ⟨Nat.le_refl _, Nat.zero_le _⟩
  · cases e1
    exact ⟨hnc, hcm⟩

theorem grown_set (w : World) (a : Addr) (u : Value) : w.grownBy (w.setCell a u) (some a.block) :=
  ⟨rfl, rfl, rfl, by simp [World.setCell], fun k _ hne => Below.heap_setCell _ _ _ _ fun e => hne (by rw [e])⟩
end Go.Sat

namespace Go.Proofs.Yteohbjkjfnflgaa
open Go.RowKit Go.Sat Go.Maps

section
variable {w : World} {d m : Nat} {left : Int} {L : List (Bs × FRep)} {own : Own} {D : DiskM}

theorem data_le (h : DiskIn w d m left L own D) {n : Bs} {r : FRep} (hg : Sat.get n L = some r) : r.f.data.length ≤ 1073741824 := by
  have := h.ok.used
  have := h.ok.room
  have : r.f.data.length ≤ D.used := by rw [h.used]; exact le_sum (f := fun r : FRep => r.f.data.length) h.srt hg
  omega

/-! ### Read -/
def dataOf (o : Option FileM) : Bs := (o.map FileM.data).getD []
def readE (o : Option FileM) : Int := if o.isSome then 0 else 7

/-- What Read leaves: the bytes in a new row, or the error. -/
def ReadPost (w : World) (o : Option FileM) (e : Ending) (w' : World) : Prop :=
  ∃ v, e = .returned (.tuple #[v, .int .i64 (readE o)]) ∧ OwnB w' 5 v (dataOf o) ∧ (∀ k, v.ownBlock = some k → w.heap.size ≤ k) ∧ Below w.heap.size w w'

set_option maxHeartbeats 400000 in
theorem read_calls (h : DiskAt w d D own) (s : ByteArray) (hs : s.size ≤ 9223372036854775807) :
    Calls Try.prog 20 #[.pointer (some ⟨d, 0, none⟩), .string s] w (ReadPost w (Sat.get (nm s) D.files)) := by
  obtain ⟨m, left, L, h⟩ := h
  have hc1 := h.c1
  rw [h.get]
  cases hg : Sat.get (nm s) L with
  | none =>
    have hlook := run_look_none w keyLaw Try.underlying9 Try.underlying52 (zeroFile w) FRep.fb h.map hs hg
    clear h hg
    go_enter Try.func20, Try.ntmps20
    go_wp2
    go_ret2
    exact ⟨_, rfl, OwnR.nil _ _ _, fun k hk => (by cases hk), Below.refl _ _⟩
  | some r =>
    have hlook := run_look_some w keyLaw Try.underlying9 Try.underlying52 (zeroFile w) FRep.fb h.map hs hg
    have hf := h.fileAt hg
    have hc := cell_of (i := 0) hf.cells rfl
    have hcl := clone_calls hf.row.has (by have := data_le h hg; omega)
    have Hcl := Lib.hid hcl
    clear h hg hf hcl
    go_enter Try.func20, Try.ntmps20
    go_wp2_with fail
    refine Hcl.out.mono ?_
    rintro e w' ⟨v, rfl, hv, hn, hb⟩
    have Hv := Lib.hid (And.intro hv (And.intro hn hb))
    clear hv hn hb
    go_wp2_with fail
    go_ret2
    exact ⟨_, rfl, Hv.out⟩

/-! ### Fuse -/
theorem ok_fuse {D : DiskM} (h : D.OK) (n : Int) (hn : n ≤ 9223372036854775807) : (D.setFuse n).OK where
  srt := h.srt
  room := h.room
  used := h.used
  count := h.count
  names := h.names
  lasts := h.lasts
  fuse k hk := by
    simp only [DiskM.setFuse] at hk
    split at hk
    · cases hk
    · cases hk
      omega

theorem setTop (h : DiskIn w d m left L own D) {w' : World} {left' : Int} {D' : DiskM} (hs : w.heap.size ≤ w'.heap.size) (hb : ∀ k, k ≠ d → w'.heap[k]? = w.heap[k]?) (_hroom : D'.room = D.room) (hfiles : D'.files = D.files)
    (hc : w'.heap[d]? = some (.cells #[.int .i64 (D'.room : Int), .map (some m), .bool D'.fuse.isSome, .int .i64 left'] 54 (0, 0))) (hl : ∀ k, D'.fuse = some k → left' = (k : Int)) (hok : D'.OK) : DiskIn w' d m left' L own D' := by
  have keep : ∀ k t, own k = some t → t ≠ (0, []) → w'.heap[k]? = w.heap[k]? := fun k t hk ht => hb k fun e => by
    rw [e, h.od] at hk
    exact ht (Option.some.inj hk).symm
  refine ⟨hc, hl, ?_, by rw [hfiles]; exact h.files, h.srt, fun p hp => ?_, h.od, h.om, fun j t hj => Nat.lt_of_lt_of_le (h.olt j t hj) hs, hok⟩
  · obtain ⟨es, clock, hm, rest⟩ := h.map
    exact ⟨es, clock, (keep m _ h.om (by simp)).trans hm, rest⟩
  · have hp' := h.file p hp
    exact ⟨(keep _ _ hp'.ob (by simp)).trans hp'.cells, hp'.ob, hp'.row.keep fun g hg => keep _ _ (hp'.og g hg) (by simp), hp'.og⟩

set_option maxHeartbeats 400000 in
theorem fuse_calls (h : DiskAt w d D own) (n : Int) (hn : n ≤ 9223372036854775807) (hn0 : -9223372036854775808 ≤ n) :
    Calls Try.prog 16 #[.pointer (some ⟨d, 0, none⟩), .int .i64 n] w (Did w d own (D.setFuse n)) := by
  obtain ⟨m, left, L, h⟩ := h
  have hc2 := h.c2
  have hc3 := h.c3
  have hf2 := frozen_of h.cells 2
  have hf3 := frozen_of h.cells 3
  have hfin : ∀ (b : Bool) (l : Int), b = (D.setFuse n).fuse.isSome → (∀ k, (D.setFuse n).fuse = some k → l = (k : Int)) → Did w d own (D.setFuse n) (.returned (.tuple #[])) ((w.setCell ⟨d, 2, none⟩ (.bool b)).setCell ⟨d, 3, none⟩ (.int .i64 l)) := by
    intro b l hb hl
    refine ⟨own, rfl, ⟨m, l, L, setTop h (by simp [World.setCell]) (fun k hk => (set_other _ hk).trans (set_other _ hk)) rfl rfl ?_ hl (ok_fuse h.ok n hn)⟩, ?_, ext_refl _ _⟩
    · rw [set_block (set_block h.cells 2 _) 3, ← hb]
      simp [DiskM.setFuse]
    · exact ((Chg.setCell w ⟨d, 2, none⟩ _).trans (Chg.setCell _ ⟨d, 3, none⟩ _) fun _ _ e => e).mono fun k _ e => by rw [e]; exact has_d h
  have Hfin := Lib.hid hfin
  clear hfin h
  by_cases hp : 0 ≤ n
  · have hd : decide (0 ≤ n) = true := by simpa using hp
    go_enter Try.func16, Try.ntmps16
    go_wp2
    go_end0
    refine Hfin.out _ _ ?_ ?_
    · simp [DiskM.setFuse]; omega
    · intro k hk
      simp only [DiskM.setFuse, if_neg (show ¬ n < 0 by omega), Option.some.injEq] at hk
      omega
  · have hd : decide (0 ≤ n) = false := by simpa using hp
    have hp' : n < 0 := by omega
    go_enter Try.func16, Try.ntmps16
    go_wp2
    go_end0
    refine Hfin.out _ _ ?_ ?_
    · simp [DiskM.setFuse, hp']
    · intro k hk
      simp only [DiskM.setFuse, if_pos hp'] at hk
      cases hk

/-! ### Crash -/
/-- The files of which those that 'rest' names are still to come. -/
def part (rest : Lit → Bool) (k : Int) (fs : List (Bs × FileM)) : List (Bs × FileM) := fs.map fun p => (p.1, if rest (.string p.1) then p.2 else DiskM.crashF k p.2)

theorem part_srt {rest : Lit → Bool} {k : Int} {fs : List (Bs × FileM)} (h : Srt fs) : Srt (part rest k fs) := by
  unfold Srt part
  rw [List.pairwise_map]
  exact h

theorem part_get (rest : Lit → Bool) (k : Int) (n : Bs) (fs : List (Bs × FileM)) : Sat.get n (part rest k fs) = (Sat.get n fs).map fun f => if rest (.string n) then f else DiskM.crashF k f := by
  unfold part Sat.get
  rw [List.find?_map]
  cases hf : List.find? ((fun p : Bs × FileM => p.1 == n) ∘ fun p : Bs × FileM => (p.1, if rest (.string p.1) then p.2 else DiskM.crashF k p.2)) fs with
  | none =>
    have : List.find? (fun p : Bs × FileM => p.1 == n) fs = none := hf
    rw [this]
    rfl
  | some p =>
    have h1 : List.find? (fun p : Bs × FileM => p.1 == n) fs = some p := hf
    have h2 := List.find?_some h1
    simp only [beq_iff_eq] at h2
    rw [h1]
    simp [h2]

theorem part_step {rest : Lit → Bool} {k : Int} {fs : List (Bs × FileM)} (h : Srt fs) {n : Bs} {f : FileM} (hg : Sat.get n fs = some f) :
    put n (DiskM.crashF k f) (part rest k fs) = part (fun z => rest z && !z.sameKey (.string n)) k fs := by
  refine srt_ext (srt_put (part_srt h)) (part_srt h) fun j => ?_
  by_cases hj : j = n
  · subst hj
    rw [get_put_same (part_srt h), part_get, hg, sk]
    simp
  · rw [get_put_other (part_srt h) _ hj, part_get, part_get]
    have : (Lit.string j).sameKey (.string n) = false := by rw [sk]; simpa using hj
    rw [this]
    simp

theorem part_all {rest : Lit → Bool} {k : Int} {fs : List (Bs × FileM)} (h : ∀ p ∈ fs, rest (.string p.1) = true) : part rest k fs = fs := by
  unfold part
  conv => rhs; rw [← List.map_id fs]
  refine List.map_congr_left fun p hp => ?_
  rw [h p hp]
  rfl

theorem part_none {rest : Lit → Bool} {k : Int} {fs : List (Bs × FileM)} (h : ∀ z, rest z = false) : part rest k fs = mp (DiskM.crashF k) fs := by
  unfold part mp
  refine List.map_congr_left fun p _ => ?_
  rw [h]
  rfl

theorem stays_le (f : FileM) (k : Int) (h : f.lasts ≤ f.data.length) : f.lasts ≤ DiskM.stays f k ∧ DiskM.stays f k ≤ f.data.length := by
  unfold DiskM.stays
  have := Nat.mod_lt (max 0 k).toNat (show 0 < f.data.length - f.lasts + 1 by omega)
  omega

theorem ok_part {D : DiskM} (h : D.OK) (rest : Lit → Bool) (k : Int) : DiskM.OK { D with files := part rest k D.files } where
  srt := part_srt h.srt
  room := h.room
  used := by
    refine Nat.le_trans ?_ h.used
    show sumBy DiskM.size (part rest k D.files) ≤ sumBy DiskM.size D.files
    have hl := h.lasts
    generalize D.files = fs at hl
    induction fs with
    | nil => exact Nat.le_refl _
    | cons p r ih =>
      have h1 := ih fun q hq => hl q (by simp [hq])
      have h2 := hl p (by simp)
      simp only [part, List.map_cons, sumBy, List.sum_cons] at h1 ⊢
      have h3 : DiskM.size (if rest (.string p.1) then p.2 else DiskM.crashF k p.2) ≤ DiskM.size p.2 := by
        split
        · exact Nat.le_refl _
        · simp only [DiskM.size, DiskM.crashF, List.length_take]
          omega
      omega
  count := by
    show (part rest k D.files).length ≤ 4096
    simp only [part, List.length_map]
    exact h.count
  names p hp := by
    obtain ⟨q, hq, rfl⟩ := List.mem_map.1 hp
    exact h.names q hq
  lasts p hp := by
    obtain ⟨q, hq, rfl⟩ := List.mem_map.1 hp
    have h1 := h.lasts q hq
    show FileM.lasts (if rest (.string q.1) then q.2 else DiskM.crashF k q.2) ≤ (if rest (.string q.1) then q.2 else DiskM.crashF k q.2).data.length
    split
    · exact h1
    · have := stays_le q.2 k h1
      simp only [DiskM.crashF, List.length_take]
      omega
  fuse := h.fuse

theorem ok_crash {D : DiskM} (h : D.OK) (k : Int) : (D.crash k).OK := by
  have := ok_part h (fun _ => false) k
  rw [part_none fun _ => rfl] at this
  exact ⟨this.srt, this.room, this.used, this.count, this.names, this.lasts, fun j hj => by simp [DiskM.crash] at hj⟩

theorem own_none (h : DiskIn w d m left L own D) {k : Nat} (hk : w.heap.size ≤ k) : own k = none := by
  cases ho : own k with
  | none => rfl
  | some t => have := h.olt _ t ho; omega

/-- The loop of Crash. -/
structure CrashRel (w : World) (d m : Nat) (left : Int) (L : List (Bs × FRep)) (own : Own) (D : DiskM) (k : Int) (wr : World) : Prop where
  ex : ∃ rest cnt L' own', wr.ranges Try.prog 9 ptrR m w.heap.size L.length (dm fbD L) rest cnt ∧ DiskIn wr d m left L' own' { D with files := part rest k D.files } ∧ mp FRep.fb L' = mp FRep.fb L ∧ Chg (Has own) w wr ∧ Ext w own own' ∧ own' w.heap.size = none

set_option maxRecDepth 100000 in
set_option maxHeartbeats 2000000 in
theorem crash_walk (h : DiskIn w d m left L own D) (k : Int) (hk : -9223372036854775808 ≤ k) (hk' : k ≤ 9223372036854775807) :
    Calls Try.prog 17 #[.pointer (some ⟨d, 0, none⟩), .int .i64 k] w (Did w d own (D.crash k)) := by
  have h1 := h.c1
  have hown := h.map
  have hsrt := h.srt
  have hokD := h.ok
  have hL : Hid (DiskIn w d m left L own D) := h
  clear h
  go_enter Try.func17, Try.ntmps17
  go_wp2_with (first | (at_range; refine wpList_range_own _ rfl _ 52 rfl 9 71 keyLaw Try.underlying52 ptrR m L.length (dm fbD L) rfl hown ?_; intro w0 hrg0 hg0 hs0))
  go_frame
  go_loopw [5] (fun _ wr => CrashRel w d m left L own D k wr) (fun _ wr => wr.rangeLeft m w.heap.size)
  case atStart =>
    refine ⟨_, _, L, own, hrg0, ?_, rfl, (Chg.of_grown hg0).mono (fun _ _ e => by cases e), ext_refl _ _, own_none hL.out (Nat.le_refl _)⟩
    have hd := hL.out.chg (Chg.of_grown hg0) (fun _ e => by cases e)
    have e1 : part (Maps.has (dm fbD L)) k D.files = D.files := part_all fun p hp => by
      rw [hL.out.files] at hp
      obtain ⟨q, hq, rfl⟩ := List.mem_map.1 hp
      show Maps.has (dm fbD L) (.string q.1) = true
      rw [dm_has, get_of_mem hsrt hq]
      rfl
    rw [e1]
    exact hd
  case round =>
    obtain ⟨rest, cnt, L', own', hrg, hd, hfb, hc, hx, hit⟩ := hrel.ex
    clear hrg0 hg0 hs0 hown hrel
    go_wp2_with (first | (at_next; refine wpList_next_ptr _ rfl _ rfl 9 Try.underlying9 keyLaw FRep.fb L m w.heap.size L.length _ _ rfl hrg ?_ ?_))
    · intro hl
      rw [part_none hl] at hd
      have hc2 := hd.c2
      have hf2 := frozen_of hd.cells 2
      have hfin : Did w d own (D.crash k) (.returned (.tuple #[])) (wr.setCell ⟨d, 2, none⟩ (.bool false)) := by
        refine ⟨own', rfl, ⟨m, left, L', setTop hd (D' := D.crash k) (by simp [World.setCell]) (fun _ hk => set_other _ hk) rfl rfl ?_ (fun j hj => by simp [DiskM.crash] at hj) (ok_crash hokD k)⟩, ?_, hx⟩
        · rw [set_block hd.cells]
          simp [DiskM.crash]
        · exact chg_ext hc hx ((Chg.setCell wr ⟨d, 2, none⟩ _).mono fun _ _ e => by rw [e]; exact has_d hd)
      have Hfin := Lib.hid hfin
      clear hfin hd hc hx hfb hl hrg hokD hsrt hit
      go_wp2
      go_end0
      exact Hfin.out
    · intro s x w1 cnt1 hgt hl hs hrg1 hlt hg1 hs1 hen
      -- the file as it lies now
      have hnot : ∀ j, some j = some w.heap.size → own' j = none := fun j e => by
        cases e
        exact hit
      have hd1 := hd.chg (Chg.of_grown hg1) hnot
      obtain ⟨r, hgr, hfbr⟩ : ∃ r, Sat.get (nm s) L' = some r ∧ r.fb = x.fb := by
        have e1 : (Sat.get (nm s) L').map FRep.fb = some x.fb := by
          rw [← mp_get, hfb, mp_get, show Sat.get (nm s) L = some x from hgt]
          rfl
        exact Option.map_eq_some_iff.1 e1
      have hgf : Sat.get (nm s) D.files = some x.f := by rw [hL.out.files, mp_get, show Sat.get (nm s) L = some x from hgt]; rfl
      have hrf : r.f = x.f := by
        have e1 : (Sat.get (nm s) L').map FRep.f = some x.f := by
          rw [← mp_get, ← hd.files, part_get, hgf]
          simp only [Option.map_some, show rest (.string (nm s)) = true from hl, if_true]
        rw [hgr] at e1
        exact Option.some.inj e1
      have hf1 := hd1.fileAt hgr
      have hcells := hf1.cells
      rw [hrf, hfbr] at hcells
      obtain ⟨p, c, hv⟩ := OwnB.slice hf1.row
      have hcap := OwnR.cap_le (by have := hf1.row; unfold OwnB at this; rw [hv] at this; exact this)
      rw [hrf] at hv hcap
      have hlast : x.f.lasts ≤ x.f.data.length := hokD.lasts _ (get_mem hgf)
      have hlen := data_le hd1 hgr
      rw [hrf] at hlen
      have hst := stays_le x.f k hlast
      rw [hv] at hcells
      have hc0 := cell_of (i := 0) hcells rfl
      have hc1 := cell_of (i := 1) hcells rfl
      have hz0 := frozen_of hcells 0
      have hz1 := frozen_of hcells 1
      have hstays : DiskM.stays x.f k = x.f.lasts + (max 0 k).toNat % (x.f.data.length - x.f.lasts + 1) := rfl
      have hend : ∀ nq, CrashRel w d m left L own D k (((w1.drewN nq).setCell ⟨x.fb, 0, none⟩ (.slice p (DiskM.stays x.f k) (DiskM.stays x.f k))).setCell ⟨x.fb, 1, none⟩ (.int .i64 ((DiskM.stays x.f k : Nat) : Int))) ∧
          (((w1.drewN nq).setCell ⟨x.fb, 0, none⟩ (.slice p (DiskM.stays x.f k) (DiskM.stays x.f k))).setCell ⟨x.fb, 1, none⟩ (.int .i64 ((DiskM.stays x.f k : Nat) : Int))).rangeLeft m w.heap.size < wr.rangeLeft m w.heap.size := by
        intro nq
        have hd2 : DiskIn (w1.drewN nq) d m left L' own' { D with files := part rest k D.files } := hd1.keep (Nat.le_refl _) fun _ _ => rfl
        have hcells2 : (w1.drewN nq).heap[x.fb]? = some (.cells #[.slice p x.f.data.length c, .int .i64 (x.f.lasts : Int)] 73 (0, 0)) := hcells
        have hrow : OwnR (w1.drewN nq) 5 1 (.slice p x.f.data.length c) x.f.data.length (bytesV x.f.data) := by
          have := (hd2.fileAt hgr).row
          rw [hrf, hv] at this
          exact this
        have hown : own' x.fb = some (2, nm s) := by
          have := hf1.ob
          rw [hfbr] at this
          exact this
        have hne : ∀ g, (Value.slice p (DiskM.stays x.f k) (DiskM.stays x.f k)).ownBlock = some g → g ≠ x.fb := fun g hgv => by
          have e1 : r.v.ownBlock = some g := by rw [hv, ownBlock_slice p _ _ (DiskM.stays x.f k) (DiskM.stays x.f k)]; exact hgv
          exact hd2.ne_of ((hd2.fileAt hgr).og g e1) hown (by simp)
        have hlen2 : (x.f.data.take (DiskM.stays x.f k)).length = DiskM.stays x.f k := by rw [List.length_take]; omega
        have hmfb : m ≠ x.fb := hd2.ne_of hd2.om hown (by simp)
        have hifb : w.heap.size ≠ x.fb := fun e => by rw [e, hown] at hit; cases hit
        obtain ⟨own'', h4, hx4⟩ := hd2.upd (w' := ((w1.drewN nq).setCell ⟨x.fb, 0, none⟩ (.slice p (DiskM.stays x.f k) (DiskM.stays x.f k))).setCell ⟨x.fb, 1, none⟩ (.int .i64 ((DiskM.stays x.f k : Nat) : Int)))
          (v' := .slice p (DiskM.stays x.f k) (DiskM.stays x.f k)) (f' := DiskM.crashF k x.f) hgr (by simp [World.setCell]) (fun j _ hj _ => by rw [hfbr] at hj; exact (set_other _ hj).trans (set_other _ hj))
          (by rw [hfbr, set_block (set_block hcells2 0 _) 1]; simp [DiskM.crashF])
          (by
            unfold OwnB
            show OwnR _ _ _ _ (x.f.data.take (DiskM.stays x.f k)).length _
            rw [hlen2]
            show OwnR _ _ _ _ _ (bytesV (x.f.data.take (DiskM.stays x.f k)))
            rw [bytesV_take]
            exact OwnR.keep (hrow.cut hst.2) fun g hgv => (set_other _ (hne g hgv)).trans (set_other _ (hne g hgv)))
          (fun g hgv => .inl (by rw [hv, ownBlock_slice p _ _ (DiskM.stays x.f k) (DiskM.stays x.f k)]; exact hgv))
          (by
            show DiskM.OK { D with files := put (nm s) (DiskM.crashF k x.f) (part rest k D.files) }
            rw [part_step hokD.srt hgf]
            exact ok_part hokD _ k)
        have h5 : DiskIn (((w1.drewN nq).setCell ⟨x.fb, 0, none⟩ (.slice p (DiskM.stays x.f k) (DiskM.stays x.f k))).setCell ⟨x.fb, 1, none⟩ (.int .i64 ((DiskM.stays x.f k : Nat) : Int))) d m left (put (nm s) ⟨r.fb, .slice p (DiskM.stays x.f k) (DiskM.stays x.f k), DiskM.crashF k x.f⟩ L') own''
            { D with files := part (fun z => rest z && !z.sameKey (.string (nm s))) k D.files } := by
          rw [← part_step hokD.srt hgf]
          exact h4
        have g1 := grown_set (w1.drewN nq) ⟨x.fb, 0, none⟩ (.slice p (DiskM.stays x.f k) (DiskM.stays x.f k))
        have g2 := grown_set ((w1.drewN nq).setCell ⟨x.fb, 0, none⟩ (.slice p (DiskM.stays x.f k) (DiskM.stays x.f k))) ⟨x.fb, 1, none⟩ (.int .i64 ((DiskM.stays x.f k : Nat) : Int))
        have hrg2 : (w1.drewN nq).ranges Try.prog 9 ptrR m w.heap.size L.length (dm fbD L) (fun z => rest z && !z.sameKey (.string s.data.toList)) cnt1 := hrg1
        have hrg3 := (hrg2.kept g1 (by simpa using hmfb) (by simpa using hifb)).kept g2 (by simpa using hmfb) (by simpa using hifb)
        refine ⟨⟨_, _, _, own'', hrg3, h5, ?_, ?_, ?_, ?_⟩, ?_⟩
        · rw [mp_put, put_same (mp_srt hd2.srt) (by rw [mp_get, hgr]; rfl), hfb]
        · have c1 : Chg (fun j => j = x.fb ∨ j = w.heap.size) wr w1 := (Chg.of_grown hg1).mono fun j _ e => .inr (by cases e; rfl)
          have c2 : Chg (fun j => j = x.fb ∨ j = w.heap.size) wr (w1.drewN nq) := ⟨c1.os, c1.tape, c1.output, c1.size, c1.block⟩
          have c3 := (c2.trans (Chg.of_grown g1) fun j _ e => .inl (by cases e; rfl)).trans (Chg.of_grown g2) fun j _ e => .inl (by cases e; rfl)
          refine hc.trans c3 fun i hi e => ?_
          rcases e with e | e
          · intro ho
            have := hx i hi ho
            rw [e, hown] at this
            cases this
          · omega
        · exact ext_trans (Nat.le_trans hc.size hg1.size) hx hx4
        · exact hx4 _ (by have := hrg1.lt; exact this) hit
        · rw [hrg3.left_eq, hrg.left_eq]
          exact hlt
      have Hend := Lib.hid hend
      have Hst := Lib.hid hst
      have Hstays := Lib.hid hstays
      clear hend hd hd1 hgr hfbr hgf hrf hv hcells hc hx hit hg1 hrg1 hlt hrg hfb hf1 hgt hl hs hs1 hst hstays hsrt hokD hnot
      generalize x.f.data.length = n at *
      generalize x.f.lasts = l at *
      have e6 : wrap64 ((l : Int) + max 0 k % ((n : Int) - (l : Int) + 1)) = ((DiskM.stays x.f k : Nat) : Int) := by
        rw [Hstays.out]
        have e1 : ((n : Int) - (l : Int) + 1) = ((n - l + 1 : Nat) : Int) := by omega
        have e2 : max 0 k = (((max 0 k).toNat : Nat) : Int) := by omega
        have e3 : max 0 k % ((n : Int) - (l : Int) + 1) = (((max 0 k).toNat % (n - l + 1) : Nat) : Int) := by rw [e1, Int.natCast_emod, ← e2]
        have h5 := Nat.mod_lt (max 0 k).toNat (show 0 < n - l + 1 by omega)
        rw [e3, IntWalk.wrap64_in _ ⟨by omega, by omega⟩]
        omega
      have hsl : ∀ W, (Instr.slice 33 (.slice p n c) none (some (.int .i64 ((DiskM.stays x.f k : Nat) : Int))) (some (.int .i64 ((DiskM.stays x.f k : Nat) : Int)))).run Try.prog W = .ok (.slice p (DiskM.stays x.f k) (DiskM.stays x.f k)) W := fun W => by
        obtain ⟨i0, hi, _⟩ := info_parts (show (Try.prog.info? 5).map (fun i => (i.zero, i.size, i.bytes)) = some (some (.int .u8 0), 1, 1) by kernel_rfl)
        exact run_cut W Try.underlying33 hi p n c _ (by have := Hst.out; omega)
      have He6 := Lib.hid e6
      clear e6
      generalize DiskM.stays x.f k = st at *
      go_wp2_with fail
      go_quiet (fail)
      rw [He6.out]
      go_wp2_with fail
      go_roundw
      case rel => exact (Hend.out nq).1
      case measure => exact (Hend.out nq).2
end
end Go.Proofs.Yteohbjkjfnflgaa

namespace Go.Proofs.Yteohbjkjfnflgaa
open Go.RowKit Go.Sat Go.Maps

/-- In w1, d is a disk that keeps D, all of it new since w, none of it in F; nothing that was there in w has turned. -/
def St (w w1 : World) (d : Nat) (D : DiskM) (F : Nat → Prop) : Prop :=
  ∃ own, DiskAt w1 d D own ∧ Below w.heap.size w w1 ∧ (∀ k, k < w.heap.size ∨ F k → own k = none) ∧ ∀ k, F k → k < w1.heap.size

def NoF : Nat → Prop := fun _ => False

theorem St.below {w w1 : World} {d : Nat} {D : DiskM} {F : Nat → Prop} (h : St w w1 d D F) : Below w.heap.size w w1 := let ⟨_, _, h, _⟩ := h; h
theorem St.ok {w w1 : World} {d : Nat} {D : DiskM} {F : Nat → Prop} (h : St w w1 d D F) : D.OK := let ⟨_, ⟨_, _, _, h⟩, _⟩ := h; h.ok

/-- Something else has turned: blocks of F that are new since w; what is new may be in F' too. -/
theorem St.move {w w1 w2 : World} {d : Nat} {D : DiskM} {F F' S : Nat → Prop} (h : St w w1 d D F) (hc : Chg S w1 w2) (hS : ∀ k, k < w1.heap.size → S k → F k ∧ w.heap.size ≤ k) (hF : ∀ k, F' k → (F k ∨ w1.heap.size ≤ k) ∧ k < w2.heap.size) : St w w2 d D F' := by
  obtain ⟨own, hd, hb1, hn, hl⟩ := h
  have hon : ∀ k, w1.heap.size ≤ k → own k = none := fun k hk => by
    obtain ⟨m, left, L, hd⟩ := hd
    exact own_none hd hk
  refine ⟨own, hd.chg (hc.mono (T := fun k => S k ∧ k < w1.heap.size) fun k hk hs => ⟨hs, hk⟩) (fun k hs => hn k (.inr (hS k hs.2 hs.1).1)), ?_, fun k hk => ?_, fun k hk => (hF k hk).2⟩
  · exact ((Chg.of_below hb1).trans hc fun i hi hs => by
      have h1 := (hS i (Nat.lt_of_lt_of_le hi hb1.size) hs).2
      omega).below (Nat.le_refl _) fun _ _ => id
  · rcases hk with hk | hk
    · exact hn k (.inl hk)
    · rcases (hF k hk).1 with h1 | h1
      · exact hn k (.inr h1)
      · exact hon k h1

theorem St.next {w w1 w2 : World} {d : Nat} {D : DiskM} {F : Nat → Prop} (h : St w w1 d D F) (hb : Below w1.heap.size w1 w2) : St w w2 d D F :=
  h.move (Chg.of_below hb) (fun _ _ h => h.elim) fun k hk => ⟨.inl hk, by obtain ⟨_, _, _, _, hl⟩ := h; exact Nat.lt_of_lt_of_le (hl k hk) hb.size⟩
theorem St.alloc {w w1 : World} {d : Nat} {D : DiskM} {F : Nat → Prop} (h : St w w1 d D F) (o : Obj) : St w (w1.alloc o) d D F := h.next ((Below.refl _ _).alloc (Nat.le_refl _) o)
theorem St.drewN {w w1 : World} {d : Nat} {D : DiskM} {F : Nat → Prop} (h : St w w1 d D F) (n : Nat) : St w (w1.drewN n) d D F := h.next ⟨rfl, rfl, rfl, Nat.le_refl _, fun _ _ => rfl⟩
theorem St.noF {w w1 : World} {d : Nat} {D : DiskM} {F : Nat → Prop} (h : St w w1 d D F) : St w w1 d D NoF := h.move (S := fun _ => False) (Chg.refl _ _) (fun _ _ h => h.elim) fun _ h => h.elim

/-- What a step keeps. -/
def Same (F : Nat → Prop) (w1 w2 : World) : Prop := ∀ k, F k → w2.heap[k]? = w1.heap[k]?

theorem St.step {w w1 w2 : World} {d : Nat} {own own' : Own} {D' : DiskM} {F : Nat → Prop} (hb : Below w.heap.size w w1) (hn : ∀ k, k < w.heap.size ∨ F k → own k = none) (hl : ∀ k, F k → k < w1.heap.size) (hd : DiskAt w2 d D' own') (hc : Chg (Has own) w1 w2) (hx : Ext w1 own own') :
    St w w2 d D' F ∧ Same F w1 w2 := by
  refine ⟨⟨own', hd, ((Chg.of_below hb).trans hc fun i hi hh => (hh (hn i (.inl hi))).elim).below (Nat.le_refl _) fun _ _ => id, fun k hk => ?_, fun k hk => Nat.lt_of_lt_of_le (hl k hk) hc.size⟩, fun k hk => hc.block k (hl k hk) fun hh => hh (hn k (.inr hk))⟩
  rcases hk with h1 | h1
  · exact hx k (Nat.lt_of_lt_of_le h1 hb.size) (hn k (.inl h1))
  · exact hx k (hl k h1) (hn k (.inr h1))

theorem HasB.old {w w1 : World} {v : Value} {l : Bs} (h : HasB w v l) (hb : Below w.heap.size w w1) : HasB w1 v l := h.below hb

/-- What a call of one of the five tells, and what there is behind it. -/
def Told (w : World) (d : Nat) (F : Nat → Prop) (w1 : World) (r : DiskM × Nat) (e : Ending) (w' : World) : Prop := e = .returned (.int .i64 (r.2 : Int)) ∧ St w w' d r.1 F ∧ Same F w1 w'
def Told0 (w : World) (d : Nat) (F : Nat → Prop) (w1 : World) (D : DiskM) (e : Ending) (w' : World) : Prop := e = .returned (.tuple #[]) ∧ St w w' d D F ∧ Same F w1 w'

section
variable {w w1 : World} {d : Nat} {D : DiskM} {F : Nat → Prop}

theorem st_new (n : Int) (h0 : 0 ≤ n) (h1 : n ≤ 1073741824) (hb : Below w.heap.size w w1) :
    Calls Try.prog 10 #[.int .i64 n] w1 fun e w' => ∃ d, e = .returned (.tuple #[.pointer (some ⟨d, 0, none⟩), .int .i64 0]) ∧ St w w' d (DiskM.fresh n.toNat) NoF := by
  refine (new_calls n w1 h0 h1).mono ?_
  rintro e w' ⟨d, own, rfl, hd, hc, hn⟩
  exact ⟨d, rfl, own, hd, ((Chg.of_below hb).trans hc fun _ _ h => h).below (Nat.le_refl _) fun _ _ => id, fun k hk => by
    rcases hk with hk | hk
    · exact hn k (Nat.lt_of_lt_of_le hk hb.size)
    · exact hk.elim, fun _ h => h.elim⟩

theorem st_append (h : St w w1 d D F) (s : ByteArray) (x : Value) (ls : List Bs) (hx : RowsAt w1 x ls) (hn : ls.length ≤ 140737488355328) (hl : ls.flatten.length ≤ 140737488355328) (hsz : s.size ≤ 9223372036854775807) :
    Calls Try.prog 29 #[.pointer (some ⟨d, 0, none⟩), .string s, x] w1 (Told w d F w1 (D.append (nm s) ls.flatten)) := by
  obtain ⟨own, hd, hb, hnn, hF⟩ := h
  refine (append_calls hd s x ls hx hn hl hsz).mono ?_
  rintro e w' ⟨own', rfl, hd', hc, hx⟩
  exact ⟨rfl, St.step hb hnn hF hd' hc hx⟩

theorem own_new {own : Own} (h : DiskAt w1 d D own) {k : Nat} (hk : w1.heap.size ≤ k) : own k = none := by
  obtain ⟨m, left, L, h⟩ := h
  exact own_none h hk

theorem strs_new (w : World) (ss : List ByteArray) (g : Nat) (hg : g = w.heap.size) (e : TypeId) (fr : Nat × Nat) : StrsAt (w.alloc (.cells (ss.map Value.string).toArray e fr)) (some ⟨g, 0, none⟩) ss := by
  subst hg
  refine .inr ⟨_, _, rfl, fun i u hu => ?_⟩
  refine cell_of (new_block w _) ?_
  simp [hu]

/-- Sync of names that have just been laid. -/
theorem st_sync (h : St w w1 d D F) (ss : List ByteArray) (g c : Nat) (hg : g = w1.heap.size) (fr : Nat × Nat) (hm : ss.length ≤ 140737488355328) (hsz : ∀ s ∈ ss, s.size ≤ 9223372036854775807) :
    Calls Try.prog 31 #[.pointer (some ⟨d, 0, none⟩), .slice (some ⟨g, 0, none⟩) ss.length c] (w1.alloc (.cells (ss.map Value.string).toArray 9 fr)) (Told w d F (w1.alloc (.cells (ss.map Value.string).toArray 9 fr)) (D.sync (ss.map nm))) := by
  obtain ⟨own, hd, hb, hnn, hF⟩ := h
  have hd1 := hd.chg (Chg.alloc w1 (.cells (ss.map Value.string).toArray 9 fr)) (fun _ h => h.elim)
  refine (sync_calls hd1 (some ⟨g, 0, none⟩) ss c (strs_new w1 ss g hg _ fr) hm hsz (fun a ha => by cases ha; exact own_new hd (by rw [hg]; exact Nat.le_refl _))).mono ?_
  rintro e w' ⟨own', rfl, hd', hc, hx⟩
  exact ⟨rfl, St.step (hb.alloc hb.size _) hnn (fun k hk => by have := hF k hk; simp; omega) hd' hc hx⟩

theorem st_remove (h : St w w1 d D F) (ss : List ByteArray) (g c : Nat) (hg : g = w1.heap.size) (fr : Nat × Nat) (hm : ss.length ≤ 140737488355328) (hsz : ∀ s ∈ ss, s.size ≤ 9223372036854775807) :
    Calls Try.prog 47 #[.pointer (some ⟨d, 0, none⟩), .slice (some ⟨g, 0, none⟩) ss.length c] (w1.alloc (.cells (ss.map Value.string).toArray 9 fr)) (Told w d F (w1.alloc (.cells (ss.map Value.string).toArray 9 fr)) (D.remove (ss.map nm))) := by
  obtain ⟨own, hd, hb, hnn, hF⟩ := h
  have hd1 := hd.chg (Chg.alloc w1 (.cells (ss.map Value.string).toArray 9 fr)) (fun _ h => h.elim)
  refine (remove_calls hd1 (some ⟨g, 0, none⟩) ss c (strs_new w1 ss g hg _ fr) hm hsz (fun a ha => by cases ha; exact own_new hd (by rw [hg]; exact Nat.le_refl _))).mono ?_
  rintro e w' ⟨own', rfl, hd', hc, hx⟩
  exact ⟨rfl, St.step (hb.alloc hb.size _) hnn (fun k hk => by have := hF k hk; simp; omega) hd' hc hx⟩

theorem st_crash (h : St w w1 d D F) (k : Int) (hk : -9223372036854775808 ≤ k) (hk' : k ≤ 9223372036854775807) :
    Calls Try.prog 17 #[.pointer (some ⟨d, 0, none⟩), .int .i64 k] w1 (Told0 w d F w1 (D.crash k)) := by
  obtain ⟨own, ⟨m, left, L, hd⟩, hb, hnn, hF⟩ := h
  refine (crash_walk hd k hk hk').mono ?_
  rintro e w' ⟨own', rfl, hd', hc, hx⟩
  exact ⟨rfl, St.step hb hnn hF hd' hc hx⟩

theorem st_fuse (h : St w w1 d D F) (n : Int) (hn0 : -9223372036854775808 ≤ n) (hn : n ≤ 9223372036854775807) :
    Calls Try.prog 16 #[.pointer (some ⟨d, 0, none⟩), .int .i64 n] w1 (Told0 w d F w1 (D.setFuse n)) := by
  obtain ⟨own, hd, hb, hnn, hF⟩ := h
  refine (fuse_calls hd n hn hn0).mono ?_
  rintro e w' ⟨own', rfl, hd', hc, hx⟩
  exact ⟨rfl, St.step hb hnn hF hd' hc hx⟩

def GotB (w : World) (d : Nat) (D : DiskM) (F : Nat → Prop) (w1 : World) (o : Option FileM) (e : Ending) (w' : World) : Prop :=
  ∃ v, e = .returned (.tuple #[v, .int .i64 (readE o)]) ∧ OwnB w' 5 v (dataOf o) ∧ (∀ k, v.ownBlock = some k → w1.heap.size ≤ k) ∧ Below w1.heap.size w1 w' ∧ St w w' d D F

theorem st_read (h : St w w1 d D F) (s : ByteArray) (hs : s.size ≤ 9223372036854775807) :
    Calls Try.prog 20 #[.pointer (some ⟨d, 0, none⟩), .string s] w1 (GotB w d D F w1 (Sat.get (nm s) D.files)) := by
  have h0 := h
  obtain ⟨own, hd, hb, hnn, hF⟩ := h
  refine (read_calls hd s hs).mono ?_
  rintro e w' ⟨v, rfl, hv, hn, hb'⟩
  exact ⟨v, rfl, hv, hn, hb', h0.next hb'⟩

theorem st_used (h : St w w1 d D F) :
    Calls Try.prog 53 #[.pointer (some ⟨d, 0, none⟩)] w1 fun e w' => e = .returned (.int .i64 (D.used : Int)) ∧ Below w1.heap.size w1 w' ∧ St w w' d D F := by
  have h0 := h
  obtain ⟨own, ⟨m, left, L, hd⟩, hb, hnn, hF⟩ := h
  refine (used_walk hd).mono ?_
  rintro e w' ⟨rfl, hb'⟩
  exact ⟨rfl, hb', h0.next hb'⟩
end

/-! ### What a law lays itself -/
theorem has_lit {w : World} {e : TypeId} {fr : Nat × Nat} (cs : Array Value) (l : Bs) (g n c : Nat) (hg : g = w.heap.size) (hn : n = l.length) (h : cs.toList = bytesV l) : HasB (w.alloc (.cells cs e fr)) (.slice (some ⟨g, 0, none⟩) n c) l := by
  subst hg
  subst hn
  refine ⟨by simp [bytesV], some ⟨w.heap.size, 0, none⟩, c, rfl, fun e => (by cases e), fun a ha i u hu => ?_⟩
  cases ha
  rw [add_zero]
  refine cell_of (new_block w _) ?_
  rw [← h] at hu
  simpa using hu

theorem has_alloc {w : World} {v : Value} {l : Bs} (h : HasB w v l) (o : Obj) : HasB (w.alloc o) v l := h.chg (Chg.alloc w o) fun _ _ => id

/-- A list of one row, in a new block. -/
theorem rows_one {w : World} {v : Value} {l : Bs} (h : HasB w v l) (e : TypeId) (fr : Nat × Nat) (g c : Nat) (hg : g = w.heap.size) (hc : 1 ≤ c) : RowsAt (w.alloc (.cells #[v] e fr)) (.slice (some ⟨g, 0, none⟩) 1 c) [l] := by
  subst hg
  refine ⟨_, c, rfl, by simpa using hc, fun _ => ⟨_, _, [v], rfl, rfl, fun i u hu => ?_, fun i u m hu hm => ?_⟩⟩
  · rw [add_zero]
    refine cell_of (new_block w _) ?_
    simpa using hu
  · have hi : i = 0 := by
      have := (List.getElem?_eq_some_iff.1 hu).1
      simpa using this
    subst hi
    simp at hu hm
    subst hu
    subst hm
    exact (has_alloc h _).kit
end Go.Proofs.Yteohbjkjfnflgaa

namespace Go.Sat
open Go.RowKit
theorem HasB.at {w : World} {v : Value} {l : Bs} (h : HasB w v l) : l = [] ∨ ∃ b o c, v = .slice (some ⟨b, o, none⟩) l.length c ∧ ∀ i x, l[i]? = some x → w.cell? ⟨b, o + i, none⟩ = some (.int .u8 (x.toNat : Int)) := by
  obtain ⟨p, c, rfl, h0, hc⟩ := h.kit
  cases p with
  | none => exact .inl (h0 rfl)
  | some a =>
    cases l with
    | nil => exact .inl rfl
    | cons x r =>
      obtain ⟨b, o, sp⟩ := a
      have h1 := hc _ rfl 0 x (by simp)
      have hsp : sp = none := by
        have := World.cell?_spot h1
        simpa [Addr.add] using this
      subst hsp
      refine .inr ⟨b, o, c, rfl, fun i y hy => ?_⟩
      have h2 := hc _ rfl i y hy
      have e : (⟨b, o, none⟩ : Addr).add i = ⟨b, o + i, none⟩ := by unfold Addr.add; split <;> simp_all
      rw [← e]
      exact h2
end Go.Sat

namespace Go.Proofs.Yteohbjkjfnflgaa
open Go.RowKit Go.Sat Go.Maps

theorem take_eq_succ {l m : Bs} {k : Nat} {x y : UInt8} (hl : l[k]? = some x) (hm : m[k]? = some y) (h : l.take k = m.take k) (e : x = y) : l.take (k + 1) = m.take (k + 1) := by
  rw [List.take_add_one, List.take_add_one, hl, hm, h, e]

theorem ne_at {l m : Bs} {k : Nat} {x y : UInt8} (hl : l[k]? = some x) (hm : m[k]? = some y) (e : x ≠ y) : (l == m) = false := by
  rw [beq_eq_false_iff_ne]
  rintro rfl
  rw [hl] at hm
  exact e (Option.some.inj hm)

def SamePost (w : World) (b : Bool) (e : Ending) (w' : World) : Prop := e = .returned (.bool b) ∧ ∃ n, w' = w.drewN n

end Go.Proofs.Yteohbjkjfnflgaa

namespace Go.Proofs.Yteohbjkjfnflgaa
open Go.RowKit Go.Sat Go.Maps

def True3 (w : World) (e : Ending) (w' : World) : Prop := e = .returned (.bool true) ∧ Below w.heap.size w w'

def sA : ByteArray := ⟨#[97]⟩
def b5 : Bs := [49, 50, 51, 52, 53]
def b3 : Bs := [54, 55, 56]
def b6 : Bs := [49, 50, 51, 52, 53, 54]
def K0 : DiskM := DiskM.fresh 100
def K1 : DiskM := (K0.append [97] b5).1
def K2 : DiskM := (K1.sync [[97]]).1
def K3 : DiskM := (K2.append [97] b3).1

theorem k1 : (K0.append (nm sA) [b5].flatten) = (K1, 0) := by rfl
theorem k2 : (K1.sync ([sA].map nm)) = (K2, 0) := by rfl
theorem k3 : (K2.append (nm sA) [b3].flatten) = (K3, 0) := by rfl
theorem k4 : Sat.get (nm sA) (K3.crash 1).files = some ⟨b6, 6⟩ := by rfl

end Go.Proofs.Yteohbjkjfnflgaa

namespace Go.Sat
open Go.RowKit
theorem Holds.cut {w : World} {p : Option Addr} {n c : Nat} {xs : List Value} (h : Holds w 1 (.slice p n c) n xs) {k : Nat} (hk : k ≤ n) (c' : Nat) : Holds w 1 (.slice p k c') k (xs.take k) := by
  obtain ⟨hl, p', cap, e, h0, hc⟩ := h
  cases e
  refine ⟨by rw [List.length_take]; omega, p, c', rfl, fun e => ?_, fun a ha i u hu => hc a ha i u ?_⟩
  · have := h0 e
    omega
  · rw [List.getElem?_take] at hu
    split at hu
    · exact hu
    · cases hu

theorem HasB.cut {w : World} {p : Option Addr} {n c : Nat} {l : Bs} (h : HasB w (.slice p n c) l) {k : Nat} (hk : k ≤ l.length) (c' : Nat) : HasB w (.slice p k c') (l.take k) := by
  obtain ⟨p', c2, e⟩ := h.slice
  cases e
  unfold HasB at h ⊢
  have e1 : (l.take k).length = k := by rw [List.length_take]; omega
  rw [e1, bytesV_take]
  exact Holds.cut h hk c'

/-- 'x[:k]'. -/
theorem run_upto {P : Program} (w : World) {t e : TypeId} {i : TypeInfo} (ht : P.underlying t = some (.slice e)) (hi : P.info? e = some i) (a : Option Addr) (len cap k : Nat) (h : k ≤ cap) :
    (Instr.slice t (.slice a len cap) none (some (.int .i64 (k : Int))) none).run P w = .ok (.slice a k cap) w := by
  have h1 : (Instr.sliceBound (.int .i64 (k : Int)) cap .sliceAcap).run P w = .ok k w := by
    rw [run_sliceBound _ _ _ _ _ (by omega) (by omega)]
    simp
  have h3 : (if cap = 0 then a else a.map fun x => x.add (0 * i.size)) = a := by
    split
    · rfl
    · cases a <;> simp [Addr.add]
  simp only [Nat.zero_mul] at h3
  simp [Instr.slice, run_underlying ht, Instr.sliceBounds, h1, sizeOf, typeInfo, hi, Result.andThen, h3]

theorem OwnB.shape {w : World} {e : TypeId} {v : Value} {l : Bs} (h : OwnB w e v l) : v = .slice none 0 0 ∨ ∃ g c, v = .slice (some ⟨g, 0, none⟩) l.length c := by
  rcases h.2 with ⟨rfl, _⟩ | ⟨g, cap, cur, rfl, _⟩
  · exact .inl rfl
  · exact .inr ⟨g, cap, rfl⟩
end Go.Sat

namespace Go.Proofs.Yteohbjkjfnflgaa
open Go.RowKit Go.Sat Go.Maps

/-- What a law looks at: of each row one more than its bytes. -/
def cost (ls : List Bs) : Nat := (ls.map fun l => 1 + l.length).sum

theorem cost_take (ls : List Bs) (k : Nat) (hk : k < ls.length) : cost (ls.take (k + 1)) = cost (ls.take k) + 1 + ls[k].length := by
  rw [List.take_succ_eq_append_getElem hk]
  simp only [cost, List.map_append, List.map_cons, List.map_nil, List.sum_append, List.sum_cons, List.sum_nil]
  omega

theorem cost_flat (ls : List Bs) : cost ls = ls.length + ls.flatten.length := by
  induction ls with
  | nil => rfl
  | cons a r ih =>
    simp only [cost, List.map_cons, List.sum_cons, List.flatten_cons, List.length_append, List.length_cons] at ih ⊢
    omega

/-- How a row of a list of rows is met. -/
theorem RowsAt.row {w : World} {p : Option Addr} {n c : Nat} {ls : List Bs} (h : RowsAt w (.slice p n c) ls) {k : Nat} (hk : k < ls.length) :
    n = ls.length ∧ ∃ b o v, p = some ⟨b, o, none⟩ ∧ w.cell? ⟨b, o + k, none⟩ = some v ∧ HasB w v ls[k] := by
  obtain ⟨p', c', e, hc, hP⟩ := h
  cases e
  have hne : ls ≠ [] := fun e => by rw [e] at hk; simp at hk
  obtain ⟨b, o, vs, rfl, h1, h2, h3⟩ := hP hne
  have hkv : k < vs.length := by rw [h1]; exact hk
  have e1 : (⟨b, o, none⟩ : Addr).add k = ⟨b, o + k, none⟩ := by unfold Addr.add; split <;> simp_all
  refine ⟨rfl, b, o, vs[k], rfl, ?_, HasB.of_kit (h3 k _ _ (List.getElem?_eq_getElem hkv) (List.getElem?_eq_getElem hk))⟩
  rw [← e1]
  exact h2 k _ (List.getElem?_eq_getElem hkv)

theorem RowsAt.len {w : World} {p : Option Addr} {n c : Nat} {ls : List Bs} (h : RowsAt w (.slice p n c) ls) : n = ls.length := by
  obtain ⟨p', c', e, _⟩ := h
  cases e
  rfl

/-! ### The disk behind k rounds -/
def fN : Bs := [102]
def keepsD (ls : List Bs) (sy k : Nat) : DiskM := ⟨1048576, if k = 0 then [] else [(fN, ⟨(ls.take k).flatten, (ls.take (min k sy)).flatten.length⟩)], none⟩
def keepsM (ls : List Bs) (sy k : Nat) : DiskM := ⟨1048576, [(fN, ⟨(ls.take (k + 1)).flatten, (ls.take (min k sy)).flatten.length⟩)], none⟩

theorem flat_take {ls : List Bs} {k : Nat} (hk : k < ls.length) : (ls.take (k + 1)).flatten = (ls.take k).flatten ++ ls[k] := by
  rw [List.take_succ_eq_append_getElem hk, List.flatten_append]
  simp

theorem flat_take_le (ls : List Bs) (k : Nat) : (ls.take k).flatten.length ≤ ls.flatten.length := by
  conv => rhs; rw [← List.take_append_drop k ls, List.flatten_append, List.length_append]
  omega

theorem keeps_append {ls : List Bs} (sy : Nat) {k : Nat} (hk : k < ls.length) (hl : ls.flatten.length ≤ 8000) : (keepsD ls sy k).append fN [ls[k]].flatten = (keepsM ls sy k, 0) := by
  have h1 := flat_take hk
  have h2 := flat_take_le ls (k + 1)
  rw [h1, List.length_append] at h2
  have h3 : (ls.take k).flatten.length + ls[k].length ≤ 8000 := by omega
  have h4 : [ls[k]].flatten = ls[k] := by simp
  rw [h4]
  have hm : (keepsD ls sy k).may [fN] = 0 := rfl
  unfold DiskM.append
  rw [if_neg (by rw [hm]; simp)]
  by_cases h0 : k = 0
  · subst h0
    have hf : (keepsD ls sy 0).full fN ls[0] = false := by
      have : ¬ (1048576 < 0 + ls[0].length) := by omega
      simp only [DiskM.full, keepsD, if_true, DiskM.used, sumBy, Sat.get, List.map_nil, List.sum_nil, decide_eq_false this]
      simp
    rw [if_neg (by rw [hf]; simp)]
    simp only [keepsD, keepsM, if_true, DiskM.done, DiskM.cur, Sat.get, put, del, h1]
    simp
    rfl
  · have hf : (keepsD ls sy k).full fN ls[k] = false := by
      have : ¬ (1048576 < (ls.take k).flatten.length + 0 + ls[k].length) := by omega
      simp only [DiskM.full, keepsD, if_neg h0, DiskM.used, sumBy, Sat.get, List.map_cons, List.map_nil, List.sum_cons, List.sum_nil, DiskM.size, decide_eq_false this]
      simp [fN]
    rw [if_neg (by rw [hf]; simp)]
    simp only [keepsD, keepsM, if_neg h0, DiskM.done, DiskM.cur, Sat.get, put, del, h1]
    simp [fN, ins]

theorem keeps_sync {ls : List Bs} {sy k : Nat} (hs : k < sy) : (keepsM ls sy k).sync [fN] = (keepsD ls sy (k + 1), 0) := by
  have e1 : min (k + 1) sy = k + 1 := by omega
  simp only [DiskM.sync, DiskM.each, DiskM.each1, keepsM, keepsD, e1]
  simp [DiskM.may, fN, okN, Sat.get, DiskM.done, DiskM.gSync, put, del, ins]

theorem keeps_stay {ls : List Bs} {sy k : Nat} (hs : sy ≤ k) : keepsM ls sy k = keepsD ls sy (k + 1) := by
  have e1 : min (k + 1) sy = min k sy := by omega
  simp only [keepsM, keepsD, e1]
  simp

theorem keeps_get0 (ls : List Bs) (sy : Nat) (dr : Int) : Sat.get fN ((keepsD ls sy 0).crash dr).files = none := rfl
theorem keeps_get {ls : List Bs} {sy k : Nat} (dr : Int) (h0 : k ≠ 0) : Sat.get fN ((keepsD ls sy k).crash dr).files = some (DiskM.crashF dr ⟨(ls.take k).flatten, (ls.take (min k sy)).flatten.length⟩) := by
  simp only [DiskM.crash, keepsD, if_neg h0, mp_get]
  rfl
end Go.Proofs.Yteohbjkjfnflgaa
