/- The contracts of each, Sync, Remove. The contracts of Read, Fuse, Crash. A disk that a law has made itself: the contracts in the form in which a law meets them. The contract of satrapylaw3.same. The contract of satrapylaw3.known: it is true. DiskKeeps: the walk. The contract of octet.Sum. The contracts of frame's small functions: four, fromFour, headOf. The contracts of frame.headOf and frame.Encode. octet.Join: what it hands back lies in a block of its own. The contract of frame.Encode. The contracts of bytes.Equal, frame.Decode, frame.One. A region that draws its order, walked in an order that is named: what yields is taken first, one operation at a time; what is not wanted is passed by; what works on the world comes up alone. The contracts of octet's Reader. The contracts of octet's Reader: Num, Bytes, Whole, NewReader. The contracts of octet's Writer. -/
import Derived.Deep.DrawnRows
import Derived.Deep.RegionHeld3
import Derived.Laws.BitsAllLaws
import Derived.Lib.SlBytesConst
import Derived.Test.YtapfnehdgailmaaGreatQA
namespace Go.Proofs.YtapfnehdgailmaaGreat
open Go.RowKit Go.Sat Go.Maps

/-- What a thing done with a file leaves. -/
def Did (W : World) (d : Nat) (own : Own) (D : DiskM) (e : Ending) (w' : World) : Prop :=
  ∃ own', e = .returned (.tuple #[]) ∧ DiskAt w' d D own' ∧ Chg (Has own) W w' ∧ Ext W own own'

theorem ok_sync {D : DiskM} (h : D.OK) {n : Bs} {f : FileM} (hg : Sat.get n D.files = some f) : DiskM.OK { D with files := DiskM.gSync n f D.files } where
  srt := srt_put h.srt
  room := h.room
  used := by
    show sumBy DiskM.size (put n _ D.files) ≤ D.room
    rw [sum_put]
    have h1 : D.used = DiskM.size f + sumBy DiskM.size (del n D.files) := sum_del h.srt hg
    have := h.used
    simp only [DiskM.size] at h1 ⊢
    omega
  count := by
    show (put n _ D.files).length ≤ 4096
    rw [len_put]
    have := len_del h.srt hg
    have := h.count
    omega
  names p hp := by
    rcases mem_put.1 hp with rfl | ⟨hp, _⟩
    · exact (h.names (n, f) (get_mem hg) : okN n = true)
    · exact h.names p hp
  lasts p hp := by
    rcases mem_put.1 hp with rfl | ⟨hp, _⟩
    · exact Nat.le_refl _
    · exact h.lasts p hp
  fuse := h.fuse

theorem ok_del {D : DiskM} (h : D.OK) (n : Bs) : DiskM.OK { D with files := del n D.files } where
  srt := srt_del h.srt
  room := h.room
  used := by
    show sumBy DiskM.size (del n D.files) ≤ D.room
    cases hg : Sat.get n D.files with
    | none => rw [del_none hg]; exact h.used
    | some f =>
      have h1 : D.used = DiskM.size f + sumBy DiskM.size (del n D.files) := sum_del h.srt hg
      have := h.used
      omega
  count := Nat.le_trans (len_del_le _ _) h.count
  names p hp := h.names p (mem_del.1 hp).1
  lasts p hp := h.lasts p (mem_del.1 hp).1
  fuse := h.fuse

section
variable {w : World} {d m : Nat} {left : Int} {L : List (Bs × FRep)} {own : Own} {D : DiskM}

theorem has_d (h : DiskIn w d m left L own D) : Has own d := by unfold Has; rw [h.od]; simp
theorem has_m (h : DiskIn w d m left L own D) : Has own m := by unfold Has; rw [h.om]; simp
theorem has_f (h : DiskIn w d m left L own D) {n : Bs} {r : FRep} (hg : Sat.get n L = some r) : Has own r.fb := by unfold Has; rw [(h.fileAt hg).ob]; simp

set_option maxHeartbeats 400000 in
theorem sync1_calls (h : DiskIn w d m left L own D) (s : ByteArray) {r : FRep} (hg : Sat.get (nm s) L = some r) :
    Calls Tryz.prog 182 #[.string s, .pointer (some ⟨r.fb, 0, none⟩)] w (Did w d own { D with files := DiskM.gSync (nm s) r.f D.files }) := by
  have hf := h.fileAt hg
  have hc := cell_of (i := 0) hf.cells rfl
  have hc1 := cell_of (i := 1) hf.cells rfl
  have hz := frozen_of hf.cells 1
  obtain ⟨p, c, hv⟩ := OwnB.slice hf.row
  have hdl : r.f.data.length ≤ 1073741824 := by
    have := h.ok.used
    have := h.ok.room
    have : r.f.data.length ≤ D.used := by rw [h.used]; exact le_sum (f := fun r : FRep => r.f.data.length) h.srt hg
    omega
  have hfin : Did w d own { D with files := DiskM.gSync (nm s) r.f D.files } (.returned (.tuple #[])) (w.setCell ⟨r.fb, 1, none⟩ (.int .i64 (r.f.data.length : Int))) := by
    have hne : ∀ k, r.v.ownBlock = some k → k ≠ r.fb := fun k hk => h.ne_of (hf.og k hk) hf.ob (by simp)
    obtain ⟨own', h4, hx⟩ := h.upd (w' := w.setCell ⟨r.fb, 1, none⟩ (.int .i64 (r.f.data.length : Int))) (v' := r.v) (f' := ⟨r.f.data, r.f.data.length⟩) hg (by simp [World.setCell]) (fun k _ hk _ => set_other _ hk)
      (by rw [set_block hf.cells]; simp) (hf.row.keep fun k hk => set_other _ (hne k hk)) (fun g hgv => .inl hgv) (ok_sync h.ok (by rw [h.get, hg]; rfl))
    exact ⟨own', rfl, ⟨m, left, _, h4⟩, (Chg.setCell w _ _).mono fun k _ e => by rw [e]; exact has_f h hg, hx⟩
  rw [hv] at hc
  have Hfin := Lib.hid hfin
  clear hfin h hg hf hv
  generalize r.f.data.length = n at *
  go_enter Tryz.func182, Tryz.ntmps182
  go_wp2
  go_end0
  exact Hfin.out

set_option maxHeartbeats 400000 in
theorem remove1_calls (h : DiskIn w d m left L own D) (s : ByteArray) (hs : s.size ≤ 9223372036854775807) {r : FRep} (_hg : Sat.get (nm s) L = some r) (cb : Nat) (hcb : w.cell? ⟨cb, 0, none⟩ = some (.pointer (some ⟨d, 0, none⟩))) :
    Calls Tryz.prog 147 #[.string s, .pointer (some ⟨r.fb, 0, none⟩), .pointer (some ⟨cb, 0, none⟩)] w (Did w d own { D with files := DiskM.gRemove (nm s) r.f D.files }) := by
  have hc1 := h.c1
  have hkey := WideMaps.keyOf_string_mk Tryz.underlying9 hs
  have hdel : ∀ w', w'.ownsMap Tryz.prog 9 ptrR m L.length ((dm fbD L).del (.string s.data.toList)) → w.mapTurned w' m → Did w d own { D with files := DiskM.gRemove (nm s) r.f D.files } (.returned (.tuple #[])) w' := by
    intro w' hown ht
    rw [dm_del] at hown
    have hg' := ht.grown
    obtain ⟨own', h4, hx⟩ := h.remap (w' := w') (L' := del (nm s) L) (D' := { D with files := del (nm s) D.files }) hg'.size (fun k hk hkm => hg'.block k hk (by intro e; cases e; exact hkm rfl)) ⟨_, hown⟩ (srt_del h.srt) rfl rfl
      (by rw [mp_del, ← h.files]) (ok_del h.ok _) (fun p hp => ⟨p, (mem_del.1 hp).1, rfl⟩) (fun p hp q hq e => by
        have h1 := h.file p (mem_del.1 hp).1
        have h2 := h.file q (mem_del.1 hq).1
        have h3 := h1.ob
        rw [e, h2.ob] at h3
        exact key_uniq h.srt (mem_del.1 hp).1 (mem_del.1 hq).1 (by simpa using h3.symm))
    exact ⟨own', rfl, ⟨m, left, _, h4⟩, (Chg.of_grown hg').mono fun k _ e => by cases e; exact has_m h, hx⟩
  have hown := h.map
  have Hdel := Lib.hid hdel
  clear hdel h _hg
  go_enter Tryz.func147, Tryz.ntmps147
  go_wp2_with (first | (at_delete; refine wpList_delete_own _ rfl _ _ 113 9 rfl 121 keyLaw Tryz.underlying113 ptrR m L.length (dm fbD L) rfl hown _ _ rfl hkey ?_; intro w1 hown1 hturn1; have Hf := Lib.hid (Hdel.out _ hown1 hturn1); clear hown1 hturn1))
  go_end0
  exact Hf.out

theorem each_append (g : Bs → FileM → List (Bs × FileM) → List (Bs × FileM)) (D : DiskM) (l r : List Bs) (h : (D.each g l).2 = 0) : D.each g (l ++ r) = (D.each g l).1.each g r := by
  induction l generalizing D with
  | nil => rfl
  | cons n l ih =>
    simp only [List.cons_append, DiskM.each] at h ⊢
    by_cases h1 : (DiskM.each1 g D n).2 = 0
    · rw [if_pos h1] at h ⊢
      rw [if_pos h1]
      exact ih _ h
    · rw [if_neg h1] at h
      exact absurd h h1

/-- What has been done with the first k names. -/
def EachRel (w : World) (d : Nat) (own : Own) (D : DiskM) (g : Bs → FileM → List (Bs × FileM) → List (Bs × FileM)) (ns : List Bs) (k : Nat) (wr : World) : Prop :=
  ∃ own' m left L, DiskIn wr d m left L own' (D.each g (ns.take k)).1 ∧ (D.each g (ns.take k)).2 = 0 ∧ Chg (Has own) w wr ∧ Ext w own own'

/-- The function that each is handed: what it does with a file, whatever the world (but for what it has captured). -/
def DoesAt (fv : Value) (g : Bs → FileM → List (Bs × FileM) → List (Bs × FileM)) (d : Nat) (w : World) (own : Own) : Prop :=
  (fv = .func (.func 182) #[] #[] ∧ g = DiskM.gSync) ∨
  ∃ cb, fv = .func (.func 147) #[] #[.pointer (some ⟨cb, 0, none⟩)] ∧ g = DiskM.gRemove ∧ w.cell? ⟨cb, 0, none⟩ = some (.pointer (some ⟨d, 0, none⟩)) ∧ own cb = none

theorem each_round {w wr : World} {g : Bs → FileM → List (Bs × FileM) → List (Bs × FileM)} {ns : List Bs} {k : Nat} {n : Bs} (hr : EachRel w d own D g ns k wr) (hn : ns[k]? = some n) :
    ∃ D', D.each g ns = (if (DiskM.each1 g D' n).2 = 0 then (DiskM.each1 g D' n).1.each g (ns.drop (k + 1)) else DiskM.each1 g D' n) ∧ (D.each g (ns.take k)).1 = D' ∧
      ((DiskM.each1 g D' n).2 = 0 → D.each g (ns.take (k + 1)) = DiskM.each1 g D' n) := by
  obtain ⟨own', m, left, L, _, h0, _⟩ := hr
  refine ⟨_, ?_, rfl, fun h1 => ?_⟩
  · have hk : k < ns.length := (List.getElem?_eq_some_iff.1 hn).1
    have hnk : ns[k] = n := (List.getElem?_eq_some_iff.1 hn).2
    have e1 : ns = ns.take k ++ n :: ns.drop (k + 1) := by rw [← hnk, ← List.drop_eq_getElem_cons hk, List.take_append_drop]
    have e2 : D.each g ns = D.each g (ns.take k ++ n :: ns.drop (k + 1)) := by rw [← e1]
    rw [e2, each_append g D _ _ h0]
    rfl
  · have hk : k < ns.length := (List.getElem?_eq_some_iff.1 hn).1
    have hnk : ns[k] = n := (List.getElem?_eq_some_iff.1 hn).2
    rw [List.take_succ_eq_append_getElem hk, each_append g D _ _ h0, hnk]
    simp only [DiskM.each, if_pos h1]
    exact Prod.ext rfl h1.symm

theorem chg_ext {w wr w2 : World} {own own' : Own} (h : Chg (Has own) w wr) (hx : Ext w own own') (k : Chg (Has own') wr w2) : Chg (Has own) w w2 :=
  h.trans k fun i hi t ho => t (hx i hi ho)
theorem ext_trans {w wr : World} {own own' own2 : Own} (hs : w.heap.size ≤ wr.heap.size) (h : Ext w own own') (k : Ext wr own' own2) : Ext w own own2 := fun i hi ho => k i (Nat.lt_of_lt_of_le hi hs) (h i hi ho)

theorem each1_bad {g : Bs → FileM → List (Bs × FileM) → List (Bs × FileM)} {D : DiskM} {n : Bs} (h : D.may [n] ≠ 0) : DiskM.each1 g D n = (D, D.may [n]) := by
  unfold DiskM.each1
  rw [if_pos h]
theorem each1_none {g : Bs → FileM → List (Bs × FileM) → List (Bs × FileM)} {D : DiskM} {n : Bs} (h : D.may [n] = 0) (hg : Sat.get n D.files = none) : DiskM.each1 g D n = (D, 7) := by
  unfold DiskM.each1
  rw [if_neg (by simpa using h), hg]
theorem each1_some {g : Bs → FileM → List (Bs × FileM) → List (Bs × FileM)} {D : DiskM} {n : Bs} {f : FileM} (h : D.may [n] = 0) (hg : Sat.get n D.files = some f) : DiskM.each1 g D n = (DiskM.done { D with files := g n f D.files }, 0) := by
  unfold DiskM.each1
  rw [if_neg (by simpa using h), hg]

/-- A round that errs. -/
theorem each_errs {w wr : World} {g : Bs → FileM → List (Bs × FileM) → List (Bs × FileM)} {ns : List Bs} {k : Nat} {n : Bs} {D' : DiskM} {e : Nat} {o : Obj} (hr : EachRel w d own D g ns k wr) (hn : ns[k]? = some n)
    (hD : (D.each g (ns.take k)).1 = D') (h1 : DiskM.each1 g D' n = (D', e)) (he : e ≠ 0) : After w d own (D.each g ns) (.returned (.int .i64 (e : Int))) (wr.alloc o) := by
  obtain ⟨D2, h2, h3, _⟩ := each_round hr hn
  rw [hD] at h3
  subst h3
  rw [h1, if_neg he] at h2
  obtain ⟨own', m, left, L, hd, h0, hc, hx⟩ := hr
  rw [hD] at hd
  rw [h2]
  exact ⟨own', rfl, ⟨m, left, L, hd.chg (Chg.alloc wr o) fun _ h => h.elim⟩, hc.trans ((Chg.alloc wr o).mono (T := Has own) fun _ _ h => h.elim) fun _ _ h => h, hx⟩

/-- A round that goes well. -/
theorem each_next {w wr w3 : World} {g : Bs → FileM → List (Bs × FileM) → List (Bs × FileM)} {ns : List Bs} {k : Nat} {n : Bs} {D' D2 : DiskM} {own2 : Own} (hr : EachRel w d own D g ns k wr) (hn : ns[k]? = some n)
    (hD : (D.each g (ns.take k)).1 = D') (h1 : DiskM.each1 g D' n = (D2, 0)) (hd : DiskAt w3 d D2 own2) (hc : Chg (Has own) w w3) (hx : Ext w own own2) : EachRel w d own D g ns (k + 1) w3 := by
  obtain ⟨D3, _, h3, h4⟩ := each_round hr hn
  rw [hD] at h3
  subst h3
  have h5 := h4 (by rw [h1])
  obtain ⟨m, left, L, hd⟩ := hd
  exact ⟨own2, m, left, L, by rw [h5, h1]; exact hd, by rw [h5, h1], hc, hx⟩

set_option maxRecDepth 100000 in
set_option maxHeartbeats 4000000 in
theorem each_calls (h : DiskAt w d D own) (p : Option Addr) (ss : List ByteArray) (c : Nat) (hs : StrsAt w p ss) (hm : ss.length ≤ 140737488355328) (hsz : ∀ s ∈ ss, s.size ≤ 9223372036854775807) (hpo : ∀ a, p = some a → own a.block = none)
    (fv : Value) (g : Bs → FileM → List (Bs × FileM) → List (Bs × FileM)) (hfv : DoesAt fv g d w own) :
    Calls Tryz.prog 146 #[.pointer (some ⟨d, 0, none⟩), .slice p ss.length c, fv] w (After w d own (D.each g (ss.map nm))) := by
  obtain ⟨m0, left0, L0, h⟩ := h
  have hstart : EachRel w d own D g (ss.map nm) 0 w := ⟨own, m0, left0, L0, by simpa [DiskM.each] using h, by simp [DiskM.each], Chg.refl _ _, ext_refl _ _⟩
  clear h
  have Hpo := Lib.hid hpo
  have Hsz := Lib.hid hsz
  have Hs := Lib.hid hs
  clear hpo hsz hs
  rcases hfv with ⟨rfl, rfl⟩ | ⟨cb, rfl, rfl, hcb, hco⟩
  · go_enter Tryz.func146, Tryz.ntmps146
    go_wp2
    go_loopw [15] (fun i wr => ∃ k : Nat, k ≤ ss.length ∧ i = .int .i64 k ∧ EachRel w d own D DiskM.gSync (ss.map nm) k wr) (fun i _ => ss.length - (intOf i).toNat)
    case atStart => exact ⟨0, Nat.zero_le _, rfl, hstart⟩
    case round =>
      clear hstart
      obtain ⟨k, hk, rfl, hrel⟩ := hrel
      by_cases hlt : k < ss.length
      · have hss : ss[k]? = some ss[k] := List.getElem?_eq_getElem hlt
        have hsk : ss[k].size ≤ 9223372036854775807 := Hsz.out _ (List.getElem_mem hlt)
        have hnk : (ss.map nm)[k]? = some (nm ss[k]) := by simp [hlt]
        have hrel0 := hrel
        obtain ⟨own', m, left, L, hd, h0, hc, hx⟩ := hrel
        generalize hD : (D.each DiskM.gSync ((ss.map nm).take k)).1 = D' at *
        have hcell : ∃ b o, p = some ⟨b, o, none⟩ ∧ wr.cell? ⟨b, o + k, none⟩ = some (.string ss[k]) := by
          rcases Hs.out with h | ⟨b, o, rfl, hcs⟩
          · rw [h] at hlt
            simp at hlt
          · refine ⟨b, o, rfl, hc.cell (hcs k _ hss) ?_⟩
            intro hh
            exact hh (Hpo.out ⟨b, o, none⟩ rfl)
        obtain ⟨b, o, rfl, hcell⟩ := hcell
        generalize ss[k] = s at *
        have h1 := hd.chg (Chg.alloc wr (.cells #[.string s] 9)) (fun k hk => hk.elim)
        have hmay := may_calls h1 _ [s] 1 (strs_one wr s) (by simp) (by simpa using hsk)
        simp only [List.map_cons, List.map_nil] at hmay
        have Hrel := Lib.hid hrel0
        have Hnk := Lib.hid hnk
        have HD := Lib.hid hD
        have Hc := Lib.hid hc
        have Hx := Lib.hid hx
        have H0 := Lib.hid h0
        clear hrel0 hnk hD hc hx hss h0
        by_cases hmz : D'.may [nm s] = 0
        · rw [hmz] at hmay
          have hc1 := h1.c1
          cases hg : Sat.get (nm s) L with
          | none =>
            have hlook := run_look_none _ keyLaw Tryz.underlying9 Tryz.underlying113 (zeroFile _) FRep.fb h1.map hsk hg
            have hfin := each_errs (o := .cells #[.string s] 9) Hrel.out Hnk.out HD.out (each1_none (g := DiskM.gSync) hmz (by rw [hd.get, hg]; rfl)) (by decide)
            have Hfin := Lib.hid hfin
            have Hmay := Lib.hid hmay
            clear hfin hmay h1 hd hg hmz
            go_wp2_with fail
            refine Hmay.out.mono ?_
            rintro e w' ⟨rfl, rfl⟩
            go_wp2_with fail
            go_ret
            exact Hfin.out
          | some r =>
            have hlook := run_look_some _ keyLaw Tryz.underlying9 Tryz.underlying113 (zeroFile _) FRep.fb h1.map hsk hg
            have hdo := sync1_calls h1 s hg
            have hnext := fun w3 own2 => each_next (w3 := w3) (own2 := own2) Hrel.out Hnk.out HD.out (each1_some (g := DiskM.gSync) hmz (by rw [hd.get, hg]; rfl))
            have hfu := (may_zero hmz).1
            have Hmay := Lib.hid hmay
            have Hdo := Lib.hid hdo
            have Hnext := Lib.hid hnext
            have Hfu := Lib.hid hfu
            clear hmay h1 hd hg hmz hdo hnext hfu
            go_wp2_with fail
            refine Hmay.out.mono ?_
            rintro e w' ⟨rfl, rfl⟩
            go_wp2_with fail
            refine Hdo.out.mono ?_
            rintro e w2 ⟨own2, rfl, ⟨m2, left2, L2, hd2⟩, hc2, hx2⟩
            have hdone := done_calls hd2 Hfu.out
            have hod : Has own2 d := has_d hd2
            have hcc := chg_ext Hc.out Hx.out (((Chg.alloc wr _).mono (T := Has own') fun _ _ h => h.elim).trans hc2 fun _ _ h => h)
            have hxx := ext_trans Hc.out.size Hx.out (fun i hi ho => hx2 i (by simp; omega) ho)
            have Hdone := Lib.hid hdone
            have Hod := Lib.hid hod
            have Hcc := Lib.hid hcc
            have Hxx := Lib.hid hxx
            clear hdone hod hcc hxx hd2 hc2 hx2
            go_wp2_with fail
            refine Hdone.out.mono ?_
            rintro e w3 ⟨rfl, hd3, hc3⟩
            have hrel3 := Hnext.out _ _ hd3 (chg_ext Hcc.out Hxx.out (hc3.mono fun i _ e => by rw [e]; exact Hod.out)) Hxx.out
            have Hrel3 := Lib.hid hrel3
            clear hd3 hc3 hrel3
            go_wp2_with fail
            go_roundw
            case rel => exact ⟨k + 1, by omega, by go_num, Hrel3.out⟩
            case measure => simp [intOf]; omega
        · have hfin := each_errs (o := .cells #[.string s] 9) Hrel.out Hnk.out HD.out (each1_bad (g := DiskM.gSync) hmz) hmz
          generalize D'.may [nm s] = e at *
          have hne : ((e : Int) != 0) = true := by simp; exact hmz
          have Hfin := Lib.hid hfin
          have Hmay := Lib.hid hmay
          clear hfin hmay h1 hd hmz
          go_wp2_with fail
          refine Hmay.out.mono ?_
          rintro e w' ⟨rfl, rfl⟩
          go_wp2_with fail
          go_ret
          exact Hfin.out
      · have hke : k = ss.length := by omega
        obtain ⟨own', m, left, L, hd, h0, hc, hx⟩ := hrel
        rw [List.take_of_length_le (by simp; omega)] at hd h0
        have Hd := Lib.hid hd
        have H0 := Lib.hid h0
        have Hc := Lib.hid hc
        have Hx := Lib.hid hx
        clear hd h0 hc hx hke
        go_wp2_with fail
        go_ret
        exact ⟨own', by rw [H0.out]; rfl, ⟨m, left, L, Hd.out⟩, Hc.out, Hx.out⟩
  · have Hcb := Lib.hid hcb
    have Hco := Lib.hid hco
    clear hcb hco
    go_enter Tryz.func146, Tryz.ntmps146
    go_wp2
    go_loopw [15] (fun i wr => ∃ k : Nat, k ≤ ss.length ∧ i = .int .i64 k ∧ EachRel w d own D DiskM.gRemove (ss.map nm) k wr) (fun i _ => ss.length - (intOf i).toNat)
    case atStart => exact ⟨0, Nat.zero_le _, rfl, hstart⟩
    case round =>
      clear hstart
      obtain ⟨k, hk, rfl, hrel⟩ := hrel
      by_cases hlt : k < ss.length
      · have hss : ss[k]? = some ss[k] := List.getElem?_eq_getElem hlt
        have hsk : ss[k].size ≤ 9223372036854775807 := Hsz.out _ (List.getElem_mem hlt)
        have hnk : (ss.map nm)[k]? = some (nm ss[k]) := by simp [hlt]
        have hrel0 := hrel
        obtain ⟨own', m, left, L, hd, h0, hc, hx⟩ := hrel
        generalize hD : (D.each DiskM.gRemove ((ss.map nm).take k)).1 = D' at *
        have hcell : ∃ b o, p = some ⟨b, o, none⟩ ∧ wr.cell? ⟨b, o + k, none⟩ = some (.string ss[k]) := by
          rcases Hs.out with h | ⟨b, o, rfl, hcs⟩
          · rw [h] at hlt
            simp at hlt
          · refine ⟨b, o, rfl, hc.cell (hcs k _ hss) ?_⟩
            intro hh
            exact hh (Hpo.out ⟨b, o, none⟩ rfl)
        obtain ⟨b, o, rfl, hcell⟩ := hcell
        generalize ss[k] = s at *
        have h1 := hd.chg (Chg.alloc wr (.cells #[.string s] 9)) (fun k hk => hk.elim)
        have hmay := may_calls h1 _ [s] 1 (strs_one wr s) (by simp) (by simpa using hsk)
        simp only [List.map_cons, List.map_nil] at hmay
        have hcb1 : (wr.alloc (.cells #[.string s] 9)).cell? ⟨cb, 0, none⟩ = some (.pointer (some ⟨d, 0, none⟩)) :=
          (Chg.alloc wr _).cell (hc.cell Hcb.out fun hh => hh Hco.out) fun h => h
        have Hrel := Lib.hid hrel0
        have Hnk := Lib.hid hnk
        have HD := Lib.hid hD
        have Hc := Lib.hid hc
        have Hx := Lib.hid hx
        have H0 := Lib.hid h0
        clear hrel0 hnk hD hc hx hss h0
        by_cases hmz : D'.may [nm s] = 0
        · rw [hmz] at hmay
          have hc1 := h1.c1
          cases hg : Sat.get (nm s) L with
          | none =>
            have hlook := run_look_none _ keyLaw Tryz.underlying9 Tryz.underlying113 (zeroFile _) FRep.fb h1.map hsk hg
            have hfin := each_errs (o := .cells #[.string s] 9) Hrel.out Hnk.out HD.out (each1_none (g := DiskM.gRemove) hmz (by rw [hd.get, hg]; rfl)) (by decide)
            have Hfin := Lib.hid hfin
            have Hmay := Lib.hid hmay
            clear hfin hmay h1 hd hg hmz hcb1
            go_wp2_with fail
            refine Hmay.out.mono ?_
            rintro e w' ⟨rfl, rfl⟩
            go_wp2_with fail
            go_ret
            exact Hfin.out
          | some r =>
            have hlook := run_look_some _ keyLaw Tryz.underlying9 Tryz.underlying113 (zeroFile _) FRep.fb h1.map hsk hg
            have hdo := remove1_calls h1 s hsk hg cb hcb1
            have hnext := fun w3 own2 => each_next (w3 := w3) (own2 := own2) Hrel.out Hnk.out HD.out (each1_some (g := DiskM.gRemove) hmz (by rw [hd.get, hg]; rfl))
            have hfu := (may_zero hmz).1
            have Hmay := Lib.hid hmay
            have Hdo := Lib.hid hdo
            have Hnext := Lib.hid hnext
            have Hfu := Lib.hid hfu
            clear hmay h1 hd hg hmz hdo hnext hfu hcb1
            go_wp2_with fail
            refine Hmay.out.mono ?_
            rintro e w' ⟨rfl, rfl⟩
            go_wp2_with fail
            refine Hdo.out.mono ?_
            rintro e w2 ⟨own2, rfl, ⟨m2, left2, L2, hd2⟩, hc2, hx2⟩
            have hdone := done_calls hd2 Hfu.out
            have hod : Has own2 d := has_d hd2
            have hcc := chg_ext Hc.out Hx.out (((Chg.alloc wr _).mono (T := Has own') fun _ _ h => h.elim).trans hc2 fun _ _ h => h)
            have hxx := ext_trans Hc.out.size Hx.out (fun i hi ho => hx2 i (by simp; omega) ho)
            have Hdone := Lib.hid hdone
            have Hod := Lib.hid hod
            have Hcc := Lib.hid hcc
            have Hxx := Lib.hid hxx
            clear hdone hod hcc hxx hd2 hc2 hx2
            go_wp2_with fail
            refine Hdone.out.mono ?_
            rintro e w3 ⟨rfl, hd3, hc3⟩
            have hrel3 := Hnext.out _ _ hd3 (chg_ext Hcc.out Hxx.out (hc3.mono fun i _ e => by rw [e]; exact Hod.out)) Hxx.out
            have Hrel3 := Lib.hid hrel3
            clear hd3 hc3 hrel3
            go_wp2_with fail
            go_roundw
            case rel => exact ⟨k + 1, by omega, by go_num, Hrel3.out⟩
            case measure => simp [intOf]; omega
        · have hfin := each_errs (o := .cells #[.string s] 9) Hrel.out Hnk.out HD.out (each1_bad (g := DiskM.gRemove) hmz) hmz
          generalize D'.may [nm s] = e at *
          have hne : ((e : Int) != 0) = true := by simp; exact hmz
          have Hfin := Lib.hid hfin
          have Hmay := Lib.hid hmay
          clear hfin hmay h1 hd hmz hcb1
          go_wp2_with fail
          refine Hmay.out.mono ?_
          rintro e w' ⟨rfl, rfl⟩
          go_wp2_with fail
          go_ret
          exact Hfin.out
      · have hke : k = ss.length := by omega
        obtain ⟨own', m, left, L, hd, h0, hc, hx⟩ := hrel
        rw [List.take_of_length_le (by simp; omega)] at hd h0
        have Hd := Lib.hid hd
        have H0 := Lib.hid h0
        have Hc := Lib.hid hc
        have Hx := Lib.hid hx
        clear hd h0 hc hx hke
        go_wp2_with fail
        go_ret
        exact ⟨own', by rw [H0.out]; rfl, ⟨m, left, L, Hd.out⟩, Hc.out, Hx.out⟩

set_option maxHeartbeats 400000 in
/-- **Sync.** -/
theorem sync_calls (h : DiskAt w d D own) (p : Option Addr) (ss : List ByteArray) (c : Nat) (hs : StrsAt w p ss) (hm : ss.length ≤ 140737488355328) (hsz : ∀ s ∈ ss, s.size ≤ 9223372036854775807) (hpo : ∀ a, p = some a → own a.block = none) :
    Calls Tryz.prog 130 #[.pointer (some ⟨d, 0, none⟩), .slice p ss.length c] w (After w d own (D.sync (ss.map nm))) := by
  have he := each_calls h p ss c hs hm hsz hpo (.func (.func 182) #[] #[]) DiskM.gSync (.inl ⟨rfl, rfl⟩)
  have He := Lib.hid he
  clear he h hs hm hsz hpo
  go_enter Tryz.func130, Tryz.ntmps130
  go_wp2_with fail
  refine He.out.mono ?_
  rintro e w' ⟨own', rfl, hd, hc, hx⟩
  have Hf := Lib.hid (And.intro hd (And.intro hc hx))
  clear hd hc hx
  go_wp2_with fail
  go_ret
  exact ⟨own', rfl, Hf.out⟩

set_option maxHeartbeats 400000 in
/-- **Remove.** -/
theorem remove_calls (h : DiskAt w d D own) (p : Option Addr) (ss : List ByteArray) (c : Nat) (hs : StrsAt w p ss) (hm : ss.length ≤ 140737488355328) (hsz : ∀ s ∈ ss, s.size ≤ 9223372036854775807) (hpo : ∀ a, p = some a → own a.block = none) :
    Calls Tryz.prog 76 #[.pointer (some ⟨d, 0, none⟩), .slice p ss.length c] w (After w d own (D.remove (ss.map nm))) := by
  have hnone : own w.heap.size = none := by
    obtain ⟨m, left, L, h⟩ := h
    cases ho : own w.heap.size with
    | none => rfl
    | some t => have := h.olt _ t ho; omega
  have h1 := h.chg (Chg.alloc w (.cells #[.pointer (some ⟨d, 0, none⟩)] 23)) (fun _ h => h.elim)
  have hs1 : StrsAt (w.alloc (.cells #[.pointer (some ⟨d, 0, none⟩)] 23)) p ss := by
    rcases hs with h | ⟨b, o, rfl, hc⟩
    · exact .inl h
    · exact .inr ⟨b, o, rfl, fun i s hi => (Chg.alloc w _).cell (hc i s hi) fun h => h⟩
  have he := each_calls h1 p ss c hs1 hm hsz hpo (.func (.func 147) #[] #[.pointer (some ⟨w.heap.size, 0, none⟩)]) DiskM.gRemove (.inr ⟨_, rfl, rfl, cell_of (new_block w _) rfl, hnone⟩)
  have He := Lib.hid he
  clear he h hs hm hsz hpo h1 hs1 hnone
  go_enter Tryz.func76, Tryz.ntmps76
  go_wp2_with fail
  refine He.out.mono ?_
  rintro e w' ⟨own', rfl, hd, hc, hx⟩
  have hc' : Chg (Has own) w w' := ((Chg.alloc w _).mono (T := Has own) fun _ _ h => h.elim).trans hc fun _ _ h => h
  have hx' : Ext w own own' := fun k hk ho => hx k (by simp; omega) ho
  have Hf := Lib.hid (And.intro hd (And.intro hc' hx'))
  clear hd hc hx hc' hx'
  go_wp2_with fail
  go_ret
  exact ⟨own', rfl, Hf.out⟩
end
end Go.Proofs.YtapfnehdgailmaaGreat

namespace Go.Sat
open Go.RowKit
/-- 'x[:k:k]'. -/
theorem run_cut {P : Program} (w : World) {t e : TypeId} {i : TypeInfo} (ht : P.underlying t = some (.slice e)) (hi : P.info? e = some i) (a : Option Addr) (len cap k : Nat) (h : k ≤ cap) :
    (Instr.slice t (.slice a len cap) none (some (.int .i64 (k : Int))) (some (.int .i64 (k : Int)))).run P w = .ok (.slice a k k) w := by
  have h1 : (Instr.sliceBound (.int .i64 (k : Int)) cap .slice3Acap).run P w = .ok k w := by
    rw [run_sliceBound _ _ _ _ _ (by omega) (by omega)]
    simp
  have h2 : (Instr.sliceBound (.int .i64 (k : Int)) k .slice3B).run P w = .ok k w := by
    rw [run_sliceBound _ _ _ _ _ (by omega) (by omega)]
    simp
  have h3 : (if k = 0 then a else a.map fun x => x.add (0 * i.size)) = a := by
    split
    · rfl
    · cases a <;> simp [Addr.add]
  simp only [Nat.zero_mul] at h3
  simp [Instr.slice, run_underlying ht, Instr.sliceBounds, h1, h2, sizeOf, typeInfo, hi, Result.andThen, h3]

theorem OwnR.cut {w : World} {e : TypeId} {p : Option Addr} {n c : Nat} {xs : List Value} (h : OwnR w e 1 (.slice p n c) n xs) {k : Nat} (hk : k ≤ n) : OwnR w e 1 (.slice p k k) k (xs.take k) := by
  obtain ⟨hl, h⟩ := h
  refine ⟨by rw [List.length_take]; omega, ?_⟩
  rcases h with ⟨e1, h0⟩ | ⟨g, cap, cur, e1, hg, hnc, hcm, hcs, ht⟩
  · cases e1
    have : k = 0 := by omega
    subst this
    exact .inl ⟨rfl, rfl⟩
  · cases e1
    refine .inr ⟨g, k, cur, rfl, hg, Nat.le_refl _, by omega, by omega, ?_⟩
    rw [← ht, List.take_take, Nat.mul_one, Nat.mul_one, Nat.min_eq_left hk]

theorem OwnR.cap_le {w : World} {e : TypeId} {p : Option Addr} {n c : Nat} {xs : List Value} (h : OwnR w e 1 (.slice p n c) n xs) : n ≤ c ∧ c ≤ maxLen := by
  rcases h.2 with ⟨e1, h0⟩ | ⟨g, cap, cur, e1, hg, hnc, hcm, hcs, ht⟩
  · cases e1
    exact ⟨Nat.le_refl _, Nat.zero_le _⟩
  · cases e1
    exact ⟨hnc, hcm⟩

theorem grown_set (w : World) (a : Addr) (u : Value) : w.grownBy (w.setCell a u) (some a.block) :=
  ⟨rfl, rfl, rfl, by simp [World.setCell], fun k _ hne => Below.heap_setCell _ _ _ _ fun e => hne (by rw [e])⟩
end Go.Sat

namespace Go.Proofs.YtapfnehdgailmaaGreat
open Go.RowKit Go.Sat Go.Maps

section
variable {w : World} {d m : Nat} {left : Int} {L : List (Bs × FRep)} {own : Own} {D : DiskM}

theorem data_le (h : DiskIn w d m left L own D) {n : Bs} {r : FRep} (hg : Sat.get n L = some r) : r.f.data.length ≤ 1073741824 := by
  have := h.ok.used
  have := h.ok.room
  have : r.f.data.length ≤ D.used := by rw [h.used]; exact le_sum (f := fun r : FRep => r.f.data.length) h.srt hg
  omega

/-! ### Read -/
def dataOf (o : Option FileM) : Bs := (o.map FileM.data).getD []
def readE (o : Option FileM) : Int := if o.isSome then 0 else 7

/-- What Read leaves: the bytes in a new row, or the error. -/
def ReadPost (w : World) (o : Option FileM) (e : Ending) (w' : World) : Prop :=
  ∃ v, e = .returned (.tuple #[v, .int .i64 (readE o)]) ∧ OwnB w' 5 v (dataOf o) ∧ (∀ k, v.ownBlock = some k → w.heap.size ≤ k) ∧ Below w.heap.size w w'

set_option maxHeartbeats 400000 in
theorem read_calls (h : DiskAt w d D own) (s : ByteArray) (hs : s.size ≤ 9223372036854775807) :
    Calls Tryz.prog 75 #[.pointer (some ⟨d, 0, none⟩), .string s] w (ReadPost w (Sat.get (nm s) D.files)) := by
  obtain ⟨m, left, L, h⟩ := h
  have hc1 := h.c1
  rw [h.get]
  cases hg : Sat.get (nm s) L with
  | none =>
    have hlook := run_look_none w keyLaw Tryz.underlying9 Tryz.underlying113 (zeroFile w) FRep.fb h.map hs hg
    clear h hg
    go_enter Tryz.func75, Tryz.ntmps75
    go_wp2
    go_ret2
    exact ⟨_, rfl, OwnR.nil _ _ _, fun k hk => (by cases hk), Below.refl _ _⟩
  | some r =>
    have hlook := run_look_some w keyLaw Tryz.underlying9 Tryz.underlying113 (zeroFile w) FRep.fb h.map hs hg
    have hf := h.fileAt hg
    have hc := cell_of (i := 0) hf.cells rfl
    have hcl := clone_calls hf.row.has (by have := data_le h hg; omega)
    have Hcl := Lib.hid hcl
    clear h hg hf hcl
    go_enter Tryz.func75, Tryz.ntmps75
    go_wp2_with fail
    refine Hcl.out.mono ?_
    rintro e w' ⟨v, rfl, hv, hn, hb⟩
    have Hv := Lib.hid (And.intro hv (And.intro hn hb))
    clear hv hn hb
    go_wp2_with fail
    go_ret2
    exact ⟨_, rfl, Hv.out⟩

/-! ### Fuse -/
theorem setTop (h : DiskIn w d m left L own D) {w' : World} {left' : Int} {D' : DiskM} (hs : w.heap.size ≤ w'.heap.size) (hb : ∀ k, k ≠ d → w'.heap[k]? = w.heap[k]?) (_hroom : D'.room = D.room) (hfiles : D'.files = D.files)
    (hc : w'.heap[d]? = some (.cells #[.int .i64 (D'.room : Int), .map (some m), .bool D'.fuse.isSome, .int .i64 left'] 115 (0, 0))) (hl : ∀ k, D'.fuse = some k → left' = (k : Int)) (hok : D'.OK) : DiskIn w' d m left' L own D' := by
  have keep : ∀ k t, own k = some t → t ≠ (0, []) → w'.heap[k]? = w.heap[k]? := fun k t hk ht => hb k fun e => by
    rw [e, h.od] at hk
    exact ht (Option.some.inj hk).symm
  refine ⟨hc, hl, ?_, by rw [hfiles]; exact h.files, h.srt, fun p hp => ?_, h.od, h.om, fun j t hj => Nat.lt_of_lt_of_le (h.olt j t hj) hs, hok⟩
  · obtain ⟨es, clock, hm, rest⟩ := h.map
    exact ⟨es, clock, (keep m _ h.om (by simp)).trans hm, rest⟩
  · have hp' := h.file p hp
    exact ⟨(keep _ _ hp'.ob (by simp)).trans hp'.cells, hp'.ob, hp'.row.keep fun g hg => keep _ _ (hp'.og g hg) (by simp), hp'.og⟩

/-! ### Crash -/
/-- The files of which those that 'rest' names are still to come. -/
def part (rest : Lit → Bool) (k : Int) (fs : List (Bs × FileM)) : List (Bs × FileM) := fs.map fun p => (p.1, if rest (.string p.1) then p.2 else DiskM.crashF k p.2)

theorem part_srt {rest : Lit → Bool} {k : Int} {fs : List (Bs × FileM)} (h : Srt fs) : Srt (part rest k fs) := by
  unfold Srt part
  rw [List.pairwise_map]
  exact h

theorem part_get (rest : Lit → Bool) (k : Int) (n : Bs) (fs : List (Bs × FileM)) : Sat.get n (part rest k fs) = (Sat.get n fs).map fun f => if rest (.string n) then f else DiskM.crashF k f := by
  unfold part Sat.get
  rw [List.find?_map]
  cases hf : List.find? ((fun p : Bs × FileM => p.1 == n) ∘ fun p : Bs × FileM => (p.1, if rest (.string p.1) then p.2 else DiskM.crashF k p.2)) fs with
  | none =>
    have : List.find? (fun p : Bs × FileM => p.1 == n) fs = none := hf
    rw [this]
    rfl
  | some p =>
    have h1 : List.find? (fun p : Bs × FileM => p.1 == n) fs = some p := hf
    have h2 := List.find?_some h1
    simp only [beq_iff_eq] at h2
    rw [h1]
    simp [h2]

theorem part_step {rest : Lit → Bool} {k : Int} {fs : List (Bs × FileM)} (h : Srt fs) {n : Bs} {f : FileM} (hg : Sat.get n fs = some f) :
    put n (DiskM.crashF k f) (part rest k fs) = part (fun z => rest z && !z.sameKey (.string n)) k fs := by
  refine srt_ext (srt_put (part_srt h)) (part_srt h) fun j => ?_
  by_cases hj : j = n
  · subst hj
    rw [get_put_same (part_srt h), part_get, hg, sk]
    simp
  · rw [get_put_other (part_srt h) _ hj, part_get, part_get]
    have : (Lit.string j).sameKey (.string n) = false := by rw [sk]; simpa using hj
    rw [this]
    simp

theorem part_all {rest : Lit → Bool} {k : Int} {fs : List (Bs × FileM)} (h : ∀ p ∈ fs, rest (.string p.1) = true) : part rest k fs = fs := by
  unfold part
  conv => rhs; rw [← List.map_id fs]
  refine List.map_congr_left fun p hp => ?_
  rw [h p hp]
  rfl

theorem part_none {rest : Lit → Bool} {k : Int} {fs : List (Bs × FileM)} (h : ∀ z, rest z = false) : part rest k fs = mp (DiskM.crashF k) fs := by
  unfold part mp
  refine List.map_congr_left fun p _ => ?_
  rw [h]
  rfl

theorem stays_le (f : FileM) (k : Int) (h : f.lasts ≤ f.data.length) : f.lasts ≤ DiskM.stays f k ∧ DiskM.stays f k ≤ f.data.length := by
  unfold DiskM.stays
  have := Nat.mod_lt (max 0 k).toNat (show 0 < f.data.length - f.lasts + 1 by omega)
  omega

theorem ok_part {D : DiskM} (h : D.OK) (rest : Lit → Bool) (k : Int) : DiskM.OK { D with files := part rest k D.files } where
  srt := part_srt h.srt
  room := h.room
  used := by
    refine Nat.le_trans ?_ h.used
    show sumBy DiskM.size (part rest k D.files) ≤ sumBy DiskM.size D.files
    have hl := h.lasts
    generalize D.files = fs at hl
    induction fs with
    | nil => exact Nat.le_refl _
    | cons p r ih =>
      have h1 := ih fun q hq => hl q (by simp [hq])
      have h2 := hl p (by simp)
      simp only [part, List.map_cons, sumBy, List.sum_cons] at h1 ⊢
      have h3 : DiskM.size (if rest (.string p.1) then p.2 else DiskM.crashF k p.2) ≤ DiskM.size p.2 := by
        split
        · exact Nat.le_refl _
        · simp only [DiskM.size, DiskM.crashF, List.length_take]
          omega
      omega
  count := by
    show (part rest k D.files).length ≤ 4096
    simp only [part, List.length_map]
    exact h.count
  names p hp := by
    obtain ⟨q, hq, rfl⟩ := List.mem_map.1 hp
    exact h.names q hq
  lasts p hp := by
    obtain ⟨q, hq, rfl⟩ := List.mem_map.1 hp
    have h1 := h.lasts q hq
    show FileM.lasts (if rest (.string q.1) then q.2 else DiskM.crashF k q.2) ≤ (if rest (.string q.1) then q.2 else DiskM.crashF k q.2).data.length
    split
    · exact h1
    · have := stays_le q.2 k h1
      simp only [DiskM.crashF, List.length_take]
      omega
  fuse := h.fuse

theorem ok_crash {D : DiskM} (h : D.OK) (k : Int) : (D.crash k).OK := by
  have := ok_part h (fun _ => false) k
  rw [part_none fun _ => rfl] at this
  exact ⟨this.srt, this.room, this.used, this.count, this.names, this.lasts, fun j hj => by simp [DiskM.crash] at hj⟩

theorem own_none (h : DiskIn w d m left L own D) {k : Nat} (hk : w.heap.size ≤ k) : own k = none := by
  cases ho : own k with
  | none => rfl
  | some t => have := h.olt _ t ho; omega

/-- The loop of Crash. -/
structure CrashRel (w : World) (d m : Nat) (left : Int) (L : List (Bs × FRep)) (own : Own) (D : DiskM) (k : Int) (wr : World) : Prop where
  ex : ∃ rest cnt L' own', wr.ranges Tryz.prog 9 ptrR m w.heap.size L.length (dm fbD L) rest cnt ∧ DiskIn wr d m left L' own' { D with files := part rest k D.files } ∧ mp FRep.fb L' = mp FRep.fb L ∧ Chg (Has own) w wr ∧ Ext w own own' ∧ own' w.heap.size = none

set_option maxRecDepth 100000 in
set_option maxHeartbeats 2000000 in
theorem crash_walk (h : DiskIn w d m left L own D) (k : Int) (hk : -9223372036854775808 ≤ k) (hk' : k ≤ 9223372036854775807) :
    Calls Tryz.prog 28 #[.pointer (some ⟨d, 0, none⟩), .int .i64 k] w (Did w d own (D.crash k)) := by
  have h1 := h.c1
  have hown := h.map
  have hsrt := h.srt
  have hokD := h.ok
  have hL : Hid (DiskIn w d m left L own D) := h
  clear h
  go_enter Tryz.func28, Tryz.ntmps28
  go_wp2_with (first | (at_range; refine wpList_range_own _ rfl _ 113 rfl 9 121 keyLaw Tryz.underlying113 ptrR m L.length (dm fbD L) rfl hown ?_; intro w0 hrg0 hg0 hs0))
  go_frame
  go_loopw [5] (fun _ wr => CrashRel w d m left L own D k wr) (fun _ wr => wr.rangeLeft m w.heap.size)
  case atStart =>
    refine ⟨_, _, L, own, hrg0, ?_, rfl, (Chg.of_grown hg0).mono (fun _ _ e => by cases e), ext_refl _ _, own_none hL.out (Nat.le_refl _)⟩
    have hd := hL.out.chg (Chg.of_grown hg0) (fun _ e => by cases e)
    have e1 : part (Maps.has (dm fbD L)) k D.files = D.files := part_all fun p hp => by
      rw [hL.out.files] at hp
      obtain ⟨q, hq, rfl⟩ := List.mem_map.1 hp
      show Maps.has (dm fbD L) (.string q.1) = true
      rw [dm_has, get_of_mem hsrt hq]
      rfl
    rw [e1]
    exact hd
  case round =>
    obtain ⟨rest, cnt, L', own', hrg, hd, hfb, hc, hx, hit⟩ := hrel.ex
    clear hrg0 hg0 hs0 hown hrel
    go_wp2_with (first | (at_next; refine wpList_next_ptr _ rfl _ rfl 9 Tryz.underlying9 keyLaw FRep.fb L m w.heap.size L.length _ _ rfl hrg ?_ ?_))
    · intro hl
      rw [part_none hl] at hd
      have hc2 := hd.c2
      have hf2 := frozen_of hd.cells 2
      have hfin : Did w d own (D.crash k) (.returned (.tuple #[])) (wr.setCell ⟨d, 2, none⟩ (.bool false)) := by
        refine ⟨own', rfl, ⟨m, left, L', setTop hd (D' := D.crash k) (by simp [World.setCell]) (fun _ hk => set_other _ hk) rfl rfl ?_ (fun j hj => by simp [DiskM.crash] at hj) (ok_crash hokD k)⟩, ?_, hx⟩
        · rw [set_block hd.cells]
          simp [DiskM.crash]
        · exact chg_ext hc hx ((Chg.setCell wr ⟨d, 2, none⟩ _).mono fun _ _ e => by rw [e]; exact has_d hd)
      have Hfin := Lib.hid hfin
      clear hfin hd hc hx hfb hl hrg hokD hsrt hit
      go_wp2
      go_end0
      exact Hfin.out
    · intro s x w1 cnt1 hgt hl hs hrg1 hlt hg1 hs1 hen
      -- the file as it lies now
      have hnot : ∀ j, some j = some w.heap.size → own' j = none := fun j e => by
        cases e
        exact hit
      have hd1 := hd.chg (Chg.of_grown hg1) hnot
      obtain ⟨r, hgr, hfbr⟩ : ∃ r, Sat.get (nm s) L' = some r ∧ r.fb = x.fb := by
        have e1 : (Sat.get (nm s) L').map FRep.fb = some x.fb := by
          rw [← mp_get, hfb, mp_get, show Sat.get (nm s) L = some x from hgt]
          rfl
        exact Option.map_eq_some_iff.1 e1
      have hgf : Sat.get (nm s) D.files = some x.f := by rw [hL.out.files, mp_get, show Sat.get (nm s) L = some x from hgt]; rfl
      have hrf : r.f = x.f := by
        have e1 : (Sat.get (nm s) L').map FRep.f = some x.f := by
          rw [← mp_get, ← hd.files, part_get, hgf]
          simp only [Option.map_some, show rest (.string (nm s)) = true from hl, if_true]
        rw [hgr] at e1
        exact Option.some.inj e1
      have hf1 := hd1.fileAt hgr
      have hcells := hf1.cells
      rw [hrf, hfbr] at hcells
      obtain ⟨p, c, hv⟩ := OwnB.slice hf1.row
      have hcap := OwnR.cap_le (by have := hf1.row; unfold OwnB at this; rw [hv] at this; exact this)
      rw [hrf] at hv hcap
      have hlast : x.f.lasts ≤ x.f.data.length := hokD.lasts _ (get_mem hgf)
      have hlen := data_le hd1 hgr
      rw [hrf] at hlen
      have hst := stays_le x.f k hlast
      rw [hv] at hcells
      have hc0 := cell_of (i := 0) hcells rfl
      have hc1 := cell_of (i := 1) hcells rfl
      have hz0 := frozen_of hcells 0
      have hz1 := frozen_of hcells 1
      have hstays : DiskM.stays x.f k = x.f.lasts + (max 0 k).toNat % (x.f.data.length - x.f.lasts + 1) := rfl
      have hend : ∀ nq, CrashRel w d m left L own D k (((w1.drewN nq).setCell ⟨x.fb, 0, none⟩ (.slice p (DiskM.stays x.f k) (DiskM.stays x.f k))).setCell ⟨x.fb, 1, none⟩ (.int .i64 ((DiskM.stays x.f k : Nat) : Int))) ∧
          (((w1.drewN nq).setCell ⟨x.fb, 0, none⟩ (.slice p (DiskM.stays x.f k) (DiskM.stays x.f k))).setCell ⟨x.fb, 1, none⟩ (.int .i64 ((DiskM.stays x.f k : Nat) : Int))).rangeLeft m w.heap.size < wr.rangeLeft m w.heap.size := by
        intro nq
        have hd2 : DiskIn (w1.drewN nq) d m left L' own' { D with files := part rest k D.files } := hd1.keep (Nat.le_refl _) fun _ _ => rfl
        have hcells2 : (w1.drewN nq).heap[x.fb]? = some (.cells #[.slice p x.f.data.length c, .int .i64 (x.f.lasts : Int)] 123 (0, 0)) := hcells
        have hrow : OwnR (w1.drewN nq) 5 1 (.slice p x.f.data.length c) x.f.data.length (bytesV x.f.data) := by
          have := (hd2.fileAt hgr).row
          rw [hrf, hv] at this
          exact this
        have hown : own' x.fb = some (2, nm s) := by
          have := hf1.ob
          rw [hfbr] at this
          exact this
        have hne : ∀ g, (Value.slice p (DiskM.stays x.f k) (DiskM.stays x.f k)).ownBlock = some g → g ≠ x.fb := fun g hgv => by
          have e1 : r.v.ownBlock = some g := by rw [hv, ownBlock_slice p _ _ (DiskM.stays x.f k) (DiskM.stays x.f k)]; exact hgv
          exact hd2.ne_of ((hd2.fileAt hgr).og g e1) hown (by simp)
        have hlen2 : (x.f.data.take (DiskM.stays x.f k)).length = DiskM.stays x.f k := by rw [List.length_take]; omega
        have hmfb : m ≠ x.fb := hd2.ne_of hd2.om hown (by simp)
        have hifb : w.heap.size ≠ x.fb := fun e => by rw [e, hown] at hit; cases hit
        obtain ⟨own'', h4, hx4⟩ := hd2.upd (w' := ((w1.drewN nq).setCell ⟨x.fb, 0, none⟩ (.slice p (DiskM.stays x.f k) (DiskM.stays x.f k))).setCell ⟨x.fb, 1, none⟩ (.int .i64 ((DiskM.stays x.f k : Nat) : Int)))
          (v' := .slice p (DiskM.stays x.f k) (DiskM.stays x.f k)) (f' := DiskM.crashF k x.f) hgr (by simp [World.setCell]) (fun j _ hj _ => by rw [hfbr] at hj; exact (set_other _ hj).trans (set_other _ hj))
          (by rw [hfbr, set_block (set_block hcells2 0 _) 1]; simp [DiskM.crashF])
          (by
            unfold OwnB
            show OwnR _ _ _ _ (x.f.data.take (DiskM.stays x.f k)).length _
            rw [hlen2]
            show OwnR _ _ _ _ _ (bytesV (x.f.data.take (DiskM.stays x.f k)))
            rw [bytesV_take]
            exact OwnR.keep (hrow.cut hst.2) fun g hgv => (set_other _ (hne g hgv)).trans (set_other _ (hne g hgv)))
          (fun g hgv => .inl (by rw [hv, ownBlock_slice p _ _ (DiskM.stays x.f k) (DiskM.stays x.f k)]; exact hgv))
          (by
            show DiskM.OK { D with files := put (nm s) (DiskM.crashF k x.f) (part rest k D.files) }
            rw [part_step hokD.srt hgf]
            exact ok_part hokD _ k)
        have h5 : DiskIn (((w1.drewN nq).setCell ⟨x.fb, 0, none⟩ (.slice p (DiskM.stays x.f k) (DiskM.stays x.f k))).setCell ⟨x.fb, 1, none⟩ (.int .i64 ((DiskM.stays x.f k : Nat) : Int))) d m left (put (nm s) ⟨r.fb, .slice p (DiskM.stays x.f k) (DiskM.stays x.f k), DiskM.crashF k x.f⟩ L') own''
            { D with files := part (fun z => rest z && !z.sameKey (.string (nm s))) k D.files } := by
          rw [← part_step hokD.srt hgf]
          exact h4
        have g1 := grown_set (w1.drewN nq) ⟨x.fb, 0, none⟩ (.slice p (DiskM.stays x.f k) (DiskM.stays x.f k))
        have g2 := grown_set ((w1.drewN nq).setCell ⟨x.fb, 0, none⟩ (.slice p (DiskM.stays x.f k) (DiskM.stays x.f k))) ⟨x.fb, 1, none⟩ (.int .i64 ((DiskM.stays x.f k : Nat) : Int))
        have hrg2 : (w1.drewN nq).ranges Tryz.prog 9 ptrR m w.heap.size L.length (dm fbD L) (fun z => rest z && !z.sameKey (.string s.data.toList)) cnt1 := hrg1
        have hrg3 := (hrg2.kept g1 (by simpa using hmfb) (by simpa using hifb)).kept g2 (by simpa using hmfb) (by simpa using hifb)
        refine ⟨⟨_, _, _, own'', hrg3, h5, ?_, ?_, ?_, ?_⟩, ?_⟩
        · rw [mp_put, put_same (mp_srt hd2.srt) (by rw [mp_get, hgr]; rfl), hfb]
        · have c1 : Chg (fun j => j = x.fb ∨ j = w.heap.size) wr w1 := (Chg.of_grown hg1).mono fun j _ e => .inr (by cases e; rfl)
          have c2 : Chg (fun j => j = x.fb ∨ j = w.heap.size) wr (w1.drewN nq) := ⟨c1.os, c1.tape, c1.output, c1.size, c1.block⟩
          have c3 := (c2.trans (Chg.of_grown g1) fun j _ e => .inl (by cases e; rfl)).trans (Chg.of_grown g2) fun j _ e => .inl (by cases e; rfl)
          refine hc.trans c3 fun i hi e => ?_
          rcases e with e | e
          · intro ho
            have := hx i hi ho
            rw [e, hown] at this
            cases this
          · omega
        · exact ext_trans (Nat.le_trans hc.size hg1.size) hx hx4
        · exact hx4 _ (by have := hrg1.lt; exact this) hit
        · rw [hrg3.left_eq, hrg.left_eq]
          exact hlt
      have Hend := Lib.hid hend
      have Hst := Lib.hid hst
      have Hstays := Lib.hid hstays
      clear hend hd hd1 hgr hfbr hgf hrf hv hcells hc hx hit hg1 hrg1 hlt hrg hfb hf1 hgt hl hs hs1 hst hstays hsrt hokD hnot
      generalize x.f.data.length = n at *
      generalize x.f.lasts = l at *
      have e6 : wrap64 ((l : Int) + max 0 k % ((n : Int) - (l : Int) + 1)) = ((DiskM.stays x.f k : Nat) : Int) := by
        rw [Hstays.out]
        have e1 : ((n : Int) - (l : Int) + 1) = ((n - l + 1 : Nat) : Int) := by omega
        have e2 : max 0 k = (((max 0 k).toNat : Nat) : Int) := by omega
        have e3 : max 0 k % ((n : Int) - (l : Int) + 1) = (((max 0 k).toNat % (n - l + 1) : Nat) : Int) := by rw [e1, Int.natCast_emod, ← e2]
        have h5 := Nat.mod_lt (max 0 k).toNat (show 0 < n - l + 1 by omega)
        rw [e3, IntWalk.wrap64_in _ ⟨by omega, by omega⟩]
        omega
      have hsl : ∀ W, (Instr.slice 22 (.slice p n c) none (some (.int .i64 ((DiskM.stays x.f k : Nat) : Int))) (some (.int .i64 ((DiskM.stays x.f k : Nat) : Int)))).run Tryz.prog W = .ok (.slice p (DiskM.stays x.f k) (DiskM.stays x.f k)) W := fun W => by
        obtain ⟨i0, hi, _⟩ := info_parts (show (Tryz.prog.info? 5).map (fun i => (i.zero, i.size, i.bytes)) = some (some (.int .u8 0), 1, 1) by kernel_rfl)
        exact run_cut W Tryz.underlying22 hi p n c _ (by have := Hst.out; omega)
      have He6 := Lib.hid e6
      clear e6
      generalize DiskM.stays x.f k = st at *
      go_wp2_with fail
      go_quiet (fail)
      rw [He6.out]
      go_wp2_with fail
      go_roundw
      case rel => exact (Hend.out nq).1
      case measure => exact (Hend.out nq).2
end
end Go.Proofs.YtapfnehdgailmaaGreat

namespace Go.Proofs.YtapfnehdgailmaaGreat
open Go.RowKit Go.Sat Go.Maps

/-- In w1, d is a disk that keeps D, all of it new since w, none of it in F; nothing that was there in w has turned. -/
def St (w w1 : World) (d : Nat) (D : DiskM) (F : Nat → Prop) : Prop :=
  ∃ own, DiskAt w1 d D own ∧ Below w.heap.size w w1 ∧ (∀ k, k < w.heap.size ∨ F k → own k = none) ∧ ∀ k, F k → k < w1.heap.size

def NoF : Nat → Prop := fun _ => False

theorem St.below {w w1 : World} {d : Nat} {D : DiskM} {F : Nat → Prop} (h : St w w1 d D F) : Below w.heap.size w w1 := let ⟨_, _, h, _⟩ := h; h
theorem St.ok {w w1 : World} {d : Nat} {D : DiskM} {F : Nat → Prop} (h : St w w1 d D F) : D.OK := let ⟨_, ⟨_, _, _, h⟩, _⟩ := h; h.ok

/-- Something else has turned: blocks of F that are new since w; what is new may be in F' too. -/
theorem St.move {w w1 w2 : World} {d : Nat} {D : DiskM} {F F' S : Nat → Prop} (h : St w w1 d D F) (hc : Chg S w1 w2) (hS : ∀ k, k < w1.heap.size → S k → F k ∧ w.heap.size ≤ k) (hF : ∀ k, F' k → (F k ∨ w1.heap.size ≤ k) ∧ k < w2.heap.size) : St w w2 d D F' := by
  obtain ⟨own, hd, hb1, hn, hl⟩ := h
  have hon : ∀ k, w1.heap.size ≤ k → own k = none := fun k hk => by
    obtain ⟨m, left, L, hd⟩ := hd
    exact own_none hd hk
  refine ⟨own, hd.chg (hc.mono (T := fun k => S k ∧ k < w1.heap.size) fun k hk hs => ⟨hs, hk⟩) (fun k hs => hn k (.inr (hS k hs.2 hs.1).1)), ?_, fun k hk => ?_, fun k hk => (hF k hk).2⟩
  · exact ((Chg.of_below hb1).trans hc fun i hi hs => by
      have h1 := (hS i (Nat.lt_of_lt_of_le hi hb1.size) hs).2
      omega).below (Nat.le_refl _) fun _ _ => id
  · rcases hk with hk | hk
    · exact hn k (.inl hk)
    · rcases (hF k hk).1 with h1 | h1
      · exact hn k (.inr h1)
      · exact hon k h1

theorem St.next {w w1 w2 : World} {d : Nat} {D : DiskM} {F : Nat → Prop} (h : St w w1 d D F) (hb : Below w1.heap.size w1 w2) : St w w2 d D F :=
  h.move (Chg.of_below hb) (fun _ _ h => h.elim) fun k hk => ⟨.inl hk, by obtain ⟨_, _, _, _, hl⟩ := h; exact Nat.lt_of_lt_of_le (hl k hk) hb.size⟩
theorem St.alloc {w w1 : World} {d : Nat} {D : DiskM} {F : Nat → Prop} (h : St w w1 d D F) (o : Obj) : St w (w1.alloc o) d D F := h.next ((Below.refl _ _).alloc (Nat.le_refl _) o)
theorem St.drewN {w w1 : World} {d : Nat} {D : DiskM} {F : Nat → Prop} (h : St w w1 d D F) (n : Nat) : St w (w1.drewN n) d D F := h.next ⟨rfl, rfl, rfl, Nat.le_refl _, fun _ _ => rfl⟩
theorem St.noF {w w1 : World} {d : Nat} {D : DiskM} {F : Nat → Prop} (h : St w w1 d D F) : St w w1 d D NoF := h.move (S := fun _ => False) (Chg.refl _ _) (fun _ _ h => h.elim) fun _ h => h.elim

/-- What a step keeps. -/
def Same (F : Nat → Prop) (w1 w2 : World) : Prop := ∀ k, F k → w2.heap[k]? = w1.heap[k]?

theorem St.step {w w1 w2 : World} {d : Nat} {own own' : Own} {D' : DiskM} {F : Nat → Prop} (hb : Below w.heap.size w w1) (hn : ∀ k, k < w.heap.size ∨ F k → own k = none) (hl : ∀ k, F k → k < w1.heap.size) (hd : DiskAt w2 d D' own') (hc : Chg (Has own) w1 w2) (hx : Ext w1 own own') :
    St w w2 d D' F ∧ Same F w1 w2 := by
  refine ⟨⟨own', hd, ((Chg.of_below hb).trans hc fun i hi hh => (hh (hn i (.inl hi))).elim).below (Nat.le_refl _) fun _ _ => id, fun k hk => ?_, fun k hk => Nat.lt_of_lt_of_le (hl k hk) hc.size⟩, fun k hk => hc.block k (hl k hk) fun hh => hh (hn k (.inr hk))⟩
  rcases hk with h1 | h1
  · exact hx k (Nat.lt_of_lt_of_le h1 hb.size) (hn k (.inl h1))
  · exact hx k (hl k h1) (hn k (.inr h1))

theorem HasB.old {w w1 : World} {v : Value} {l : Bs} (h : HasB w v l) (hb : Below w.heap.size w w1) : HasB w1 v l := h.below hb

/-- What a call of one of the five tells, and what there is behind it. -/
def Told (w : World) (d : Nat) (F : Nat → Prop) (w1 : World) (r : DiskM × Nat) (e : Ending) (w' : World) : Prop := e = .returned (.int .i64 (r.2 : Int)) ∧ St w w' d r.1 F ∧ Same F w1 w'
def Told0 (w : World) (d : Nat) (F : Nat → Prop) (w1 : World) (D : DiskM) (e : Ending) (w' : World) : Prop := e = .returned (.tuple #[]) ∧ St w w' d D F ∧ Same F w1 w'

section
variable {w w1 : World} {d : Nat} {D : DiskM} {F : Nat → Prop}

theorem st_new (n : Int) (h0 : 0 ≤ n) (h1 : n ≤ 1073741824) (hb : Below w.heap.size w w1) :
    Calls Tryz.prog 13 #[.int .i64 n] w1 fun e w' => ∃ d, e = .returned (.tuple #[.pointer (some ⟨d, 0, none⟩), .int .i64 0]) ∧ St w w' d (DiskM.fresh n.toNat) NoF := by
  refine (new_calls n w1 h0 h1).mono ?_
  rintro e w' ⟨d, own, rfl, hd, hc, hn⟩
  exact ⟨d, rfl, own, hd, ((Chg.of_below hb).trans hc fun _ _ h => h).below (Nat.le_refl _) fun _ _ => id, fun k hk => by
    rcases hk with hk | hk
    · exact hn k (Nat.lt_of_lt_of_le hk hb.size)
    · exact hk.elim, fun _ h => h.elim⟩

theorem st_append (h : St w w1 d D F) (s : ByteArray) (x : Value) (ls : List Bs) (hx : RowsAt w1 x ls) (hn : ls.length ≤ 140737488355328) (hl : ls.flatten.length ≤ 140737488355328) (hsz : s.size ≤ 9223372036854775807) :
    Calls Tryz.prog 15 #[.pointer (some ⟨d, 0, none⟩), .string s, x] w1 (Told w d F w1 (D.append (nm s) ls.flatten)) := by
  obtain ⟨own, hd, hb, hnn, hF⟩ := h
  refine (append_calls hd s x ls hx hn hl hsz).mono ?_
  rintro e w' ⟨own', rfl, hd', hc, hx⟩
  exact ⟨rfl, St.step hb hnn hF hd' hc hx⟩

theorem own_new {own : Own} (h : DiskAt w1 d D own) {k : Nat} (hk : w1.heap.size ≤ k) : own k = none := by
  obtain ⟨m, left, L, h⟩ := h
  exact own_none h hk

theorem strs_new (w : World) (ss : List ByteArray) (g : Nat) (hg : g = w.heap.size) (e : TypeId) (fr : Nat × Nat) : StrsAt (w.alloc (.cells (ss.map Value.string).toArray e fr)) (some ⟨g, 0, none⟩) ss := by
  subst hg
  refine .inr ⟨_, _, rfl, fun i u hu => ?_⟩
  refine cell_of (new_block w _) ?_
  simp [hu]

/-- Sync of names that have just been laid. -/
theorem st_sync (h : St w w1 d D F) (ss : List ByteArray) (g c : Nat) (hg : g = w1.heap.size) (fr : Nat × Nat) (hm : ss.length ≤ 140737488355328) (hsz : ∀ s ∈ ss, s.size ≤ 9223372036854775807) :
    Calls Tryz.prog 130 #[.pointer (some ⟨d, 0, none⟩), .slice (some ⟨g, 0, none⟩) ss.length c] (w1.alloc (.cells (ss.map Value.string).toArray 9 fr)) (Told w d F (w1.alloc (.cells (ss.map Value.string).toArray 9 fr)) (D.sync (ss.map nm))) := by
  obtain ⟨own, hd, hb, hnn, hF⟩ := h
  have hd1 := hd.chg (Chg.alloc w1 (.cells (ss.map Value.string).toArray 9 fr)) (fun _ h => h.elim)
  refine (sync_calls hd1 (some ⟨g, 0, none⟩) ss c (strs_new w1 ss g hg _ fr) hm hsz (fun a ha => by cases ha; exact own_new hd (by rw [hg]; exact Nat.le_refl _))).mono ?_
  rintro e w' ⟨own', rfl, hd', hc, hx⟩
  exact ⟨rfl, St.step (hb.alloc hb.size _) hnn (fun k hk => by have := hF k hk; simp; omega) hd' hc hx⟩

theorem st_remove (h : St w w1 d D F) (ss : List ByteArray) (g c : Nat) (hg : g = w1.heap.size) (fr : Nat × Nat) (hm : ss.length ≤ 140737488355328) (hsz : ∀ s ∈ ss, s.size ≤ 9223372036854775807) :
    Calls Tryz.prog 76 #[.pointer (some ⟨d, 0, none⟩), .slice (some ⟨g, 0, none⟩) ss.length c] (w1.alloc (.cells (ss.map Value.string).toArray 9 fr)) (Told w d F (w1.alloc (.cells (ss.map Value.string).toArray 9 fr)) (D.remove (ss.map nm))) := by
  obtain ⟨own, hd, hb, hnn, hF⟩ := h
  have hd1 := hd.chg (Chg.alloc w1 (.cells (ss.map Value.string).toArray 9 fr)) (fun _ h => h.elim)
  refine (remove_calls hd1 (some ⟨g, 0, none⟩) ss c (strs_new w1 ss g hg _ fr) hm hsz (fun a ha => by cases ha; exact own_new hd (by rw [hg]; exact Nat.le_refl _))).mono ?_
  rintro e w' ⟨own', rfl, hd', hc, hx⟩
  exact ⟨rfl, St.step (hb.alloc hb.size _) hnn (fun k hk => by have := hF k hk; simp; omega) hd' hc hx⟩

theorem st_crash (h : St w w1 d D F) (k : Int) (hk : -9223372036854775808 ≤ k) (hk' : k ≤ 9223372036854775807) :
    Calls Tryz.prog 28 #[.pointer (some ⟨d, 0, none⟩), .int .i64 k] w1 (Told0 w d F w1 (D.crash k)) := by
  obtain ⟨own, ⟨m, left, L, hd⟩, hb, hnn, hF⟩ := h
  refine (crash_walk hd k hk hk').mono ?_
  rintro e w' ⟨own', rfl, hd', hc, hx⟩
  exact ⟨rfl, St.step hb hnn hF hd' hc hx⟩

def GotB (w : World) (d : Nat) (D : DiskM) (F : Nat → Prop) (w1 : World) (o : Option FileM) (e : Ending) (w' : World) : Prop :=
  ∃ v, e = .returned (.tuple #[v, .int .i64 (readE o)]) ∧ OwnB w' 5 v (dataOf o) ∧ (∀ k, v.ownBlock = some k → w1.heap.size ≤ k) ∧ Below w1.heap.size w1 w' ∧ St w w' d D F

theorem st_read (h : St w w1 d D F) (s : ByteArray) (hs : s.size ≤ 9223372036854775807) :
    Calls Tryz.prog 75 #[.pointer (some ⟨d, 0, none⟩), .string s] w1 (GotB w d D F w1 (Sat.get (nm s) D.files)) := by
  have h0 := h
  obtain ⟨own, hd, hb, hnn, hF⟩ := h
  refine (read_calls hd s hs).mono ?_
  rintro e w' ⟨v, rfl, hv, hn, hb'⟩
  exact ⟨v, rfl, hv, hn, hb', h0.next hb'⟩

end

/-! ### What a law lays itself -/
theorem has_lit {w : World} {e : TypeId} {fr : Nat × Nat} (cs : Array Value) (l : Bs) (g n c : Nat) (hg : g = w.heap.size) (hn : n = l.length) (h : cs.toList = bytesV l) : HasB (w.alloc (.cells cs e fr)) (.slice (some ⟨g, 0, none⟩) n c) l := by
  subst hg
  subst hn
  refine ⟨by simp [bytesV], some ⟨w.heap.size, 0, none⟩, c, rfl, fun e => (by cases e), fun a ha i u hu => ?_⟩
  cases ha
  rw [add_zero]
  refine cell_of (new_block w _) ?_
  rw [← h] at hu
  simpa using hu

theorem has_alloc {w : World} {v : Value} {l : Bs} (h : HasB w v l) (o : Obj) : HasB (w.alloc o) v l := h.chg (Chg.alloc w o) fun _ _ => id

/-- A list of one row, in a new block. -/
theorem rows_one {w : World} {v : Value} {l : Bs} (h : HasB w v l) (e : TypeId) (fr : Nat × Nat) (g c : Nat) (hg : g = w.heap.size) (hc : 1 ≤ c) : RowsAt (w.alloc (.cells #[v] e fr)) (.slice (some ⟨g, 0, none⟩) 1 c) [l] := by
  subst hg
  refine ⟨_, c, rfl, by simpa using hc, fun _ => ⟨_, _, [v], rfl, rfl, fun i u hu => ?_, fun i u m hu hm => ?_⟩⟩
  · rw [add_zero]
    refine cell_of (new_block w _) ?_
    simpa using hu
  · have hi : i = 0 := by
      have := (List.getElem?_eq_some_iff.1 hu).1
      simpa using this
    subst hi
    simp at hu hm
    subst hu
    subst hm
    exact (has_alloc h _).kit
end Go.Proofs.YtapfnehdgailmaaGreat

namespace Go.Sat
open Go.RowKit
theorem HasB.at {w : World} {v : Value} {l : Bs} (h : HasB w v l) : l = [] ∨ ∃ b o c, v = .slice (some ⟨b, o, none⟩) l.length c ∧ ∀ i x, l[i]? = some x → w.cell? ⟨b, o + i, none⟩ = some (.int .u8 (x.toNat : Int)) := by
  obtain ⟨p, c, rfl, h0, hc⟩ := h.kit
  cases p with
  | none => exact .inl (h0 rfl)
  | some a =>
    cases l with
    | nil => exact .inl rfl
    | cons x r =>
      obtain ⟨b, o, sp⟩ := a
      have h1 := hc _ rfl 0 x (by simp)
      have hsp : sp = none := by
        have := World.cell?_spot h1
        simpa [Addr.add] using this
      subst hsp
      refine .inr ⟨b, o, c, rfl, fun i y hy => ?_⟩
      have h2 := hc _ rfl i y hy
      have e : (⟨b, o, none⟩ : Addr).add i = ⟨b, o + i, none⟩ := by unfold Addr.add; split <;> simp_all
      rw [← e]
      exact h2
end Go.Sat

namespace Go.Proofs.YtapfnehdgailmaaGreat
open Go.RowKit Go.Sat Go.Maps

theorem take_eq_succ {l m : Bs} {k : Nat} {x y : UInt8} (hl : l[k]? = some x) (hm : m[k]? = some y) (h : l.take k = m.take k) (e : x = y) : l.take (k + 1) = m.take (k + 1) := by
  rw [List.take_add_one, List.take_add_one, hl, hm, h, e]

theorem ne_at {l m : Bs} {k : Nat} {x y : UInt8} (hl : l[k]? = some x) (hm : m[k]? = some y) (e : x ≠ y) : (l == m) = false := by
  rw [beq_eq_false_iff_ne]
  rintro rfl
  rw [hl] at hm
  exact e (Option.some.inj hm)

def SamePost (w : World) (b : Bool) (e : Ending) (w' : World) : Prop := e = .returned (.bool b) ∧ ∃ n, w' = w.drewN n

end Go.Proofs.YtapfnehdgailmaaGreat

namespace Go.Proofs.YtapfnehdgailmaaGreat
open Go.RowKit Go.Sat Go.Maps

def True3 (w : World) (e : Ending) (w' : World) : Prop := e = .returned (.bool true) ∧ Below w.heap.size w w'

def sA : ByteArray := ⟨#[97]⟩
def b5 : Bs := [49, 50, 51, 52, 53]
def b3 : Bs := [54, 55, 56]
def b6 : Bs := [49, 50, 51, 52, 53, 54]
def K0 : DiskM := DiskM.fresh 100
def K1 : DiskM := (K0.append [97] b5).1
def K2 : DiskM := (K1.sync [[97]]).1
def K3 : DiskM := (K2.append [97] b3).1

theorem k1 : (K0.append (nm sA) [b5].flatten) = (K1, 0) := by rfl
theorem k2 : (K1.sync ([sA].map nm)) = (K2, 0) := by rfl
theorem k3 : (K2.append (nm sA) [b3].flatten) = (K3, 0) := by rfl
theorem k4 : Sat.get (nm sA) (K3.crash 1).files = some ⟨b6, 6⟩ := by rfl

end Go.Proofs.YtapfnehdgailmaaGreat

namespace Go.Sat
open Go.RowKit
theorem Holds.cut {w : World} {p : Option Addr} {n c : Nat} {xs : List Value} (h : Holds w 1 (.slice p n c) n xs) {k : Nat} (hk : k ≤ n) (c' : Nat) : Holds w 1 (.slice p k c') k (xs.take k) := by
  obtain ⟨hl, p', cap, e, h0, hc⟩ := h
  cases e
  refine ⟨by rw [List.length_take]; omega, p, c', rfl, fun e => ?_, fun a ha i u hu => hc a ha i u ?_⟩
  · have := h0 e
    omega
  · rw [List.getElem?_take] at hu
    split at hu
    · exact hu
    · cases hu

theorem HasB.cut {w : World} {p : Option Addr} {n c : Nat} {l : Bs} (h : HasB w (.slice p n c) l) {k : Nat} (hk : k ≤ l.length) (c' : Nat) : HasB w (.slice p k c') (l.take k) := by
  obtain ⟨p', c2, e⟩ := h.slice
  cases e
  unfold HasB at h ⊢
  have e1 : (l.take k).length = k := by rw [List.length_take]; omega
  rw [e1, bytesV_take]
  exact Holds.cut h hk c'

/-- 'x[:k]'. -/
theorem run_upto {P : Program} (w : World) {t e : TypeId} {i : TypeInfo} (ht : P.underlying t = some (.slice e)) (hi : P.info? e = some i) (a : Option Addr) (len cap k : Nat) (h : k ≤ cap) :
    (Instr.slice t (.slice a len cap) none (some (.int .i64 (k : Int))) none).run P w = .ok (.slice a k cap) w := by
  have h1 : (Instr.sliceBound (.int .i64 (k : Int)) cap .sliceAcap).run P w = .ok k w := by
    rw [run_sliceBound _ _ _ _ _ (by omega) (by omega)]
    simp
  have h3 : (if cap = 0 then a else a.map fun x => x.add (0 * i.size)) = a := by
    split
    · rfl
    · cases a <;> simp [Addr.add]
  simp only [Nat.zero_mul] at h3
  simp [Instr.slice, run_underlying ht, Instr.sliceBounds, h1, sizeOf, typeInfo, hi, Result.andThen, h3]

theorem OwnB.shape {w : World} {e : TypeId} {v : Value} {l : Bs} (h : OwnB w e v l) : v = .slice none 0 0 ∨ ∃ g c, v = .slice (some ⟨g, 0, none⟩) l.length c := by
  rcases h.2 with ⟨rfl, _⟩ | ⟨g, cap, cur, rfl, _⟩
  · exact .inl rfl
  · exact .inr ⟨g, cap, rfl⟩
end Go.Sat

namespace Go.Proofs.YtapfnehdgailmaaGreat
open Go.RowKit Go.Sat Go.Maps

/-- How a row of a list of rows is met. -/
theorem RowsAt.row {w : World} {p : Option Addr} {n c : Nat} {ls : List Bs} (h : RowsAt w (.slice p n c) ls) {k : Nat} (hk : k < ls.length) :
    n = ls.length ∧ ∃ b o v, p = some ⟨b, o, none⟩ ∧ w.cell? ⟨b, o + k, none⟩ = some v ∧ HasB w v ls[k] := by
  obtain ⟨p', c', e, hc, hP⟩ := h
  cases e
  have hne : ls ≠ [] := fun e => by rw [e] at hk; simp at hk
  obtain ⟨b, o, vs, rfl, h1, h2, h3⟩ := hP hne
  have hkv : k < vs.length := by rw [h1]; exact hk
  have e1 : (⟨b, o, none⟩ : Addr).add k = ⟨b, o + k, none⟩ := by unfold Addr.add; split <;> simp_all
  refine ⟨rfl, b, o, vs[k], rfl, ?_, HasB.of_kit (h3 k _ _ (List.getElem?_eq_getElem hkv) (List.getElem?_eq_getElem hk))⟩
  rw [← e1]
  exact h2 k _ (List.getElem?_eq_getElem hkv)

theorem RowsAt.len {w : World} {p : Option Addr} {n c : Nat} {ls : List Bs} (h : RowsAt w (.slice p n c) ls) : n = ls.length := by
  obtain ⟨p', c', e, _⟩ := h
  cases e
  rfl

/-! ### The disk behind k rounds -/
theorem flat_take {ls : List Bs} {k : Nat} (hk : k < ls.length) : (ls.take (k + 1)).flatten = (ls.take k).flatten ++ ls[k] := by
  rw [List.take_succ_eq_append_getElem hk, List.flatten_append]
  simp

theorem flat_take_le (ls : List Bs) (k : Nat) : (ls.take k).flatten.length ≤ ls.flatten.length := by
  conv => rhs; rw [← List.take_append_drop k ls, List.flatten_append, List.length_append]
  omega

end Go.Proofs.YtapfnehdgailmaaGreat

namespace Go.Proofs.YtapfnehdgailmaaGreat
open Go.RowKit Go.Sat Go.Maps

/-- One bit of the check sum; one byte; bytes. -/
def bitF (z : Int) : Int := bits .xor .u32 (z / 2) (bits .and .u32 3988292384 (-bits .and .u32 z 1 % 4294967296))
def iterF : Nat → Int → Int
  | 0, z => z
  | k + 1, z => bitF (iterF k z)
def byteF (v : Int) (c : UInt8) : Int := iterF 8 (bits .xor .u32 v (c.toNat : Int))
def rowF (v : Int) (l : Bs) : Int := l.foldl byteF v
def rowsF (ls : List Bs) : Int := ls.foldl rowF 4294967295

theorem rowF_take (v : Int) (l : Bs) {j : Nat} (hj : j < l.length) : rowF v (l.take (j + 1)) = byteF (rowF v (l.take j)) l[j] := by
  rw [List.take_succ_eq_append_getElem hj]
  simp only [rowF, List.foldl_append, List.foldl_cons, List.foldl_nil]

theorem rowsF_take (ls : List Bs) {k : Nat} (hk : k < ls.length) : rowsF (ls.take (k + 1)) = rowF (rowsF (ls.take k)) ls[k] := by
  rw [List.take_succ_eq_append_getElem hk]
  simp only [rowsF, List.foldl_append, List.foldl_cons, List.foldl_nil]

theorem rowsF_flat (ls : List Bs) : rowsF ls = rowF 4294967295 ls.flatten := by
  unfold rowsF rowF
  rw [List.foldl_flatten]

def sumF (l : Bs) : Int := bits .xor .u32 IntKind.u32.max (rowF 4294967295 l)

set_option maxRecDepth 100000 in
set_option maxHeartbeats 4000000 in
theorem sum_calls {w : World} {p : Option Addr} {n c : Nat} {ls : List Bs} (hx : RowsAt w (.slice p n c) ls) (hn : n ≤ 140737488355328) (hrow : ∀ l ∈ ls, l.length ≤ 140737488355328) :
    Calls Tryz.prog 181 #[.slice p n c] w (fun e w' => e = .returned (.int .u32 (sumF ls.flatten)) ∧ w' = w) := by
  have hnl := RowsAt.len hx
  have Hx := Lib.hid hx
  have Hrow := Lib.hid hrow
  have Hnl := Lib.hid hnl
  clear hx hrow hnl
  go_enter Tryz.func181, Tryz.ntmps181
  go_wp2_with fail
  go_loop [3, 10] (fun v i => ∃ k : Nat, k ≤ n ∧ i = .int .i64 k ∧ v = .int .u32 (rowsF (ls.take k))) (fun _ i => n - (intOf i).toNat)
  case atStart => exact ⟨0, Nat.zero_le _, rfl, rfl⟩
  case round =>
    obtain ⟨k, hk, rfl, rfl⟩ := hrel
    by_cases hlt : k < n
    · have hltl : k < ls.length := by rw [← Hnl.out]; exact hlt
      have Hrw := Lib.hid (rowsF_take ls hltl)
      obtain ⟨-, b, o, v, rfl, hcell, hv⟩ := RowsAt.row Hx.out hltl
      have hrl := Hrow.out _ (List.getElem_mem hltl)
      generalize hl : ls[k] = l at *
      have Hat := Lib.hid hv.at
      obtain ⟨pv, cv, rfl⟩ := hv.slice
      generalize hm : l.length = m at *
      generalize rowsF (ls.take k) = x at *
      have Hm := Lib.hid hm
      clear hv hm hl
      go_wp2_with fail
      go_loop [3, 16] (fun v i => ∃ j : Nat, j ≤ m ∧ i = .int .i64 j ∧ v = .int .u32 (rowF x (l.take j))) (fun _ i => m - (intOf i).toNat)
      case atStart => exact ⟨0, Nat.zero_le _, rfl, rfl⟩
      case round =>
        obtain ⟨j, hj, rfl, rfl⟩ := hrel
        by_cases hlj : j < m
        · have hljl : j < l.length := by rw [Hm.out]; exact hlj
          have Hbt := Lib.hid (rowF_take x l hljl)
          rcases Hat.out with h | ⟨b2, o2, c2, e1, hcx⟩
          · rw [h] at hljl
            simp at hljl
          cases e1
          have hcb := hcx j _ (List.getElem?_eq_getElem hljl)
          generalize l[j] = cc at *
          generalize rowF x (l.take j) = y at *
          have hcc : cc.toNat < 256 := cc.toNat_lt
          clear hcx
          go_wp2_with fail
          have HB := Lib.hid (show byteF y cc = iterF 8 (bits .xor .u32 y (cc.toNat : Int)) from rfl)
          generalize bits .xor .u32 y (cc.toNat : Int) = z0 at *
          go_loop [3, 24] (fun v i => ∃ q : Nat, q ≤ 8 ∧ i = .int .i64 q ∧ v = .int .u32 (iterF q z0)) (fun _ i => 8 - (intOf i).toNat)
          case atStart => exact ⟨0, Nat.zero_le _, rfl, rfl⟩
          case round =>
            obtain ⟨q, hq, rfl, rfl⟩ := hrel
            by_cases hlq : q < 8
            · have Hit := Lib.hid (show iterF (q + 1) z0 = bitF (iterF q z0) from rfl)
              generalize iterF q z0 = z at *
              go_wp2_with fail
              go_round
              case rel => exact ⟨q + 1, by omega, by go_num, by rw [Hit.out]; rfl⟩
              case measure => simp [intOf]; omega
            · have hq8 : q = 8 := by omega
              subst hq8
              go_wp2_with fail
              go_round
              case rel => exact ⟨j + 1, by omega, by go_num, by rw [Hbt.out, HB.out]⟩
              case measure => simp [intOf]; omega
        · have hjm : j = m := by omega
          have hlk : l.take j = l := List.take_of_length_le (by rw [Hm.out]; omega)
          rw [hlk]
          clear hlk
          go_wp2_with fail
          go_round
          case rel => exact ⟨k + 1, by omega, by go_num, by rw [Hrw.out]⟩
          case measure => simp [intOf]; omega
    · have hlk : ls.take k = ls := List.take_of_length_le (by have := Hnl.out; omega)
      rw [hlk]
      clear hlk
      have He := Lib.hid (show sumF ls.flatten = bits .xor .u32 IntKind.u32.max (rowsF ls) by rw [rowsF_flat]; rfl)
      generalize rowsF ls = x at *
      go_wp2_with fail
      go_ret
      exact ⟨by rw [He.out]; rfl, rfl⟩
end Go.Proofs.YtapfnehdgailmaaGreat

namespace Go.Proofs.YtapfnehdgailmaaGreat
open Go.RowKit Go.Sat Go.Maps

/-- A number in four bytes. -/
def fourN (n : Nat) : Bs := [UInt8.ofNat n, UInt8.ofNat (n / 256), UInt8.ofNat (n / 65536), UInt8.ofNat (n / 16777216)]

/-- What a function hands back that lays its bytes anew. -/
def NewB (w : World) (l : Bs) (e : Ending) (w' : World) : Prop := ∃ v, e = .returned v ∧ HasB w' v l ∧ Below w.heap.size w w'

set_option maxRecDepth 100000 in
set_option maxHeartbeats 4000000 in
theorem four_calls {w : World} (v : Nat) (h1 : v < 4294967296) :
    Calls Tryz.prog 180 #[.int .u32 (v : Int)] w (NewB w (fourN v)) := by
  have hfin : NewB w (fourN v) (.returned (.slice (some ⟨w.heap.size, 0, none⟩) 4 4)) (w.alloc (.cells #[.int .u8 ((v : Int) % 256), .int .u8 ((v : Int) / 256 % 256), .int .u8 ((v : Int) / 65536 % 256), .int .u8 ((v : Int) / 16777216)] 5)) :=
    ⟨_, rfl, has_lit _ (fourN v) _ _ 4 rfl rfl (by
      simp only [fourN, bytesV, List.map_cons, List.map_nil, UInt8.toNat_ofNat']
      have e1 : (v : Int) / 16777216 = ((v / 16777216 % 256 : Nat) : Int) := by omega
      have e2 : (v : Int) % 256 = ((v % 256 : Nat) : Int) := by omega
      have e3 : (v : Int) / 256 % 256 = ((v / 256 % 256 : Nat) : Int) := by omega
      have e4 : (v : Int) / 65536 % 256 = ((v / 65536 % 256 : Nat) : Int) := by omega
      rw [e1, e2, e3, e4]), (Below.refl _ _).alloc (Nat.le_refl _) _⟩
  have Hfin := Lib.hid hfin
  clear hfin
  go_enter Tryz.func180, Tryz.ntmps180
  go_wp2_with fail
  go_ret
  exact Hfin.out

theorem or_add (k a b : Nat) (h : a < 2 ^ k) : (a ||| b * 2 ^ k) = a + b * 2 ^ k := by
  have := Nat.two_pow_add_eq_or_of_lt h b
  rw [Nat.or_comm, Nat.mul_comm b, ← this, Nat.add_comm]

theorem or_four {x0 x1 x2 x3 : Nat} (l0 : x0 < 2 ^ 8) (l1 : x1 < 2 ^ 8) (l2 : x2 < 2 ^ 8) (l3 : x3 < 2 ^ 8) :
    bits .or .u32 (bits .or .u32 (bits .or .u32 (x0 : Int) ((x1 : Int) * 256)) ((x2 : Int) * 65536)) ((x3 : Int) * 16777216) = ((x0 + x1 * 256 + x2 * 65536 + x3 * 16777216 : Nat) : Int) := by
  have e1 : (x1 : Int) * 256 = ((x1 * 2 ^ 8 : Nat) : Int) := by omega
  have e2 : (x2 : Int) * 65536 = ((x2 * 2 ^ 16 : Nat) : Int) := by omega
  have e3 : (x3 : Int) * 16777216 = ((x3 * 2 ^ 24 : Nat) : Int) := by omega
  rw [e1, e2, e3, u32_or_nat _ _ (by omega) (by omega), or_add 8 x0 x1 (by omega), u32_or_nat _ _ (by omega) (by omega), or_add 16 _ x2 (by omega), u32_or_nat _ _ (by omega) (by omega), or_add 24 _ x3 (by omega)]

/-- The number of four bytes. -/
def ofFour (a0 a1 a2 a3 : UInt8) : Nat := a0.toNat + a1.toNat * 256 + a2.toNat * 65536 + a3.toNat * 16777216

theorem of_four (n : Nat) (h : n < 4294967296) : ofFour (UInt8.ofNat n) (UInt8.ofNat (n / 256)) (UInt8.ofNat (n / 65536)) (UInt8.ofNat (n / 16777216)) = n := by
  simp only [ofFour, UInt8.toNat_ofNat']
  omega

set_option maxRecDepth 100000 in
set_option maxHeartbeats 4000000 in
theorem fromFour_calls {w : World} {b o n c : Nat} {a0 a1 a2 a3 : UInt8} (hn : 4 ≤ n) (h0 : w.cell? ⟨b, o, none⟩ = some (.int .u8 (a0.toNat : Int))) (h1 : w.cell? ⟨b, o + 1, none⟩ = some (.int .u8 (a1.toNat : Int)))
    (h2 : w.cell? ⟨b, o + 2, none⟩ = some (.int .u8 (a2.toNat : Int))) (h3 : w.cell? ⟨b, o + 3, none⟩ = some (.int .u8 (a3.toNat : Int))) :
    Calls Tryz.prog 205 #[.slice (some ⟨b, o, none⟩) n c] w (fun e w' => e = .returned (.int .u32 (ofFour a0 a1 a2 a3 : Int)) ∧ ∃ q, w' = w.drewN q) := by
  have l0 := a0.toNat_lt
  have l1 := a1.toNat_lt
  have l2 := a2.toNat_lt
  have l3 := a3.toNat_lt
  have i0 : (0 : Int) < (n : Int) := by omega
  have i1 : (1 : Int) < (n : Int) := by omega
  have i2 : (2 : Int) < (n : Int) := by omega
  have i3 : (3 : Int) < (n : Int) := by omega
  have hF := or_four l0 l1 l2 l3
  have HF := Lib.hid (show bits .or .u32 (bits .or .u32 (bits .or .u32 (a0.toNat : Int) ((a1.toNat : Int) * 256)) ((a2.toNat : Int) * 65536)) ((a3.toNat : Int) * 16777216) = (ofFour a0 a1 a2 a3 : Int) from hF)
  clear hF
  generalize ofFour a0 a1 a2 a3 = r at *
  generalize a0.toNat = x0 at *
  generalize a1.toNat = x1 at *
  generalize a2.toNat = x2 at *
  generalize a3.toNat = x3 at *
  go_enter Tryz.func205, Tryz.ntmps205
  go_wp2_with fail
  go_quiet (fail)
  go_wp2
  go_ret
  exact ⟨by rw [← HF.out]; rfl, _, rfl⟩
end Go.Proofs.YtapfnehdgailmaaGreat

namespace Go.Proofs.YtapfnehdgailmaaGreat
open Go.RowKit Go.Sat Go.Maps

def sumN (l : Bs) : Nat := (sumF l).toNat

theorem sumF_range (l : Bs) : 0 ≤ sumF l ∧ sumF l < 4294967296 := by
  unfold sumF bits
  rw [IntKind.wrap_u32]
  omega

theorem sumF_nat (l : Bs) : sumF l = (sumN l : Int) := by
  have := (sumF_range l).1
  unfold sumN
  omega

theorem sumN_lt (l : Bs) : sumN l < 4294967296 := by
  have := sumF_range l
  unfold sumN
  omega

/-- A list of two rows, in a new block. -/
theorem rows_two {w : World} {v1 v2 : Value} {l1 l2 : Bs} (h1 : HasB w v1 l1) (h2 : HasB w v2 l2) (e : TypeId) (fr : Nat × Nat) (g c : Nat) (hg : g = w.heap.size) (hc : 2 ≤ c) : RowsAt (w.alloc (.cells #[v1, v2] e fr)) (.slice (some ⟨g, 0, none⟩) 2 c) [l1, l2] := by
  subst hg
  refine ⟨_, c, rfl, by simpa using hc, fun _ => ⟨_, _, [v1, v2], rfl, rfl, fun i u hu => ?_, fun i u m hu hm => ?_⟩⟩
  · have e1 : (⟨w.heap.size, 0, none⟩ : Addr).add i = ⟨w.heap.size, i, none⟩ := by unfold Addr.add; split <;> simp_all
    rw [e1]
    refine cell_of (new_block w _) ?_
    simpa using hu
  · have hi : i < 2 := by
      have := (List.getElem?_eq_some_iff.1 hu).1
      simpa using this
    have : i = 0 ∨ i = 1 := by omega
    rcases this with rfl | rfl
    · simp at hu hm
      subst hu
      subst hm
      exact (has_alloc h1 _).kit
    · simp at hu hm
      subst hu
      subst hm
      exact (has_alloc h2 _).kit

theorem below_al (w : World) (o : Obj) : Below w.heap.size w (w.alloc o) := (Below.refl _ _).alloc (Nat.le_refl _) o
theorem below_to {w w1 w2 : World} (h : Below w.heap.size w w1) (k : Below w1.heap.size w1 w2) : Below w.heap.size w w2 := h.trans (k.mono h.size)

def headN (n : Nat) : Bs := fourN n ++ fourN (sumN (fourN n))

set_option maxRecDepth 100000 in
set_option maxHeartbeats 4000000 in
theorem head_calls {w : World} (n : Nat) (h : n < 4294967296) :
    Calls Tryz.prog 179 #[.int .u32 (n : Int)] w (NewB w (headN n)) := by
  have Hf := Lib.hid (fun w => four_calls (w := w) n h)
  go_enter Tryz.func179, Tryz.ntmps179
  go_wp2_with fail
  refine (Hf.out _).mono ?_
  rintro e w1 ⟨v1, rfl, hv1, hb1⟩
  have V1 := Lib.hid hv1
  have B1 := Lib.hid hb1
  clear hv1 hb1
  go_wp2_with fail
  refine (Hf.out _).mono ?_
  rintro e w2 ⟨v2, rfl, hv2, hb2⟩
  have V2 := Lib.hid hv2
  have B2 := Lib.hid hb2
  obtain ⟨p2, c2, rfl⟩ := hv2.slice
  clear hv2 hb2
  go_wp2_with fail
  refine (sum_calls (rows_one V2.out 22 (0, 0) _ 1 rfl (Nat.le_refl _)) (by decide) (by simp [fourN])).mono ?_
  rintro e w3 ⟨rfl, rfl⟩
  rw [show [fourN n].flatten = fourN n by simp, sumF_nat]
  have Hg := Lib.hid (fun w => four_calls (w := w) (sumN (fourN n)) (sumN_lt _))
  have Hh := Lib.hid (show headN n = fourN n ++ fourN (sumN (fourN n)) from rfl)
  generalize sumN (fourN n) = q at *
  go_wp2_with fail
  refine (Hg.out _).mono ?_
  rintro e w4 ⟨v4, rfl, hv4, hb4⟩
  have B2' := below_to B1.out (below_to B2.out (below_to (below_al _ _) hb4))
  have V1' := V1.out.below (below_to B2.out (below_to (below_al _ _) hb4))
  obtain ⟨p1, c1, rfl⟩ := V1.out.slice
  obtain ⟨p4, c4, rfl⟩ := hv4.slice
  have hj := join_calls (rows_two V1' hv4 22 (0, 0) _ 2 rfl (Nat.le_refl _)) (by simp) (by simp [fourN])
  have Hj := Lib.hid hj
  have BB := Lib.hid B2'
  clear hj V1' B2' hv4 hb4
  go_wp2_with fail
  refine Hj.out.mono ?_
  rintro e w5 ⟨v5, rfl, hv5, hb5⟩
  have Hfin := Lib.hid (show NewB w (headN n) (.returned v5) w5 from ⟨v5, rfl, by rw [Hh.out]; simpa using hv5, below_to BB.out (below_to (below_al _ _) hb5)⟩)
  clear hv5 hb5
  go_wp2_with fail
  go_ret
  exact Hfin.out
end Go.Proofs.YtapfnehdgailmaaGreat

namespace Go.Proofs.YtapfnehdgailmaaGreat
open Go.RowKit Go.Sat

theorem fresh_ge {B : Nat} {w : World} {v : Value} {l : Bs} (h : Lib.FreshBytes B w v l) : ∀ k, v.ownBlock = some k → B ≤ k := by
  obtain ⟨g, cap, zs, rfl, h1, _⟩ := h
  intro k hk
  cases hk
  exact h1

/-- bytes.Join of rows, with nothing between them. -/
theorem bjoin_new {w : World} {x : Value} {ls : List Bs} (h : RowsAt w x ls) (hn : ls.length ≤ 140737488355328) (hl : ls.flatten.length ≤ 140737488355328) :
    Calls Tryz.prog 145 #[x, .slice none 0 0] w fun e w' => ∃ v, e = .returned v ∧ HasB w' v ls.flatten ∧ (∀ k, v.ownBlock = some k → w.heap.size ≤ k) ∧ Below w.heap.size w w' := by
  obtain ⟨p, c, rfl, hc, hQ⟩ := h
  cases ls with
  | nil =>
    refine (Tryz.bytes_Join_none p c (.slice none 0 0) w).mono ?_
    rintro e w' ⟨rfl, rfl⟩
    refine ⟨_, rfl, ?_, fun k hk => (by simp [Value.ownBlock] at hk; omega), (Below.refl _ _).alloc (Nat.le_refl _) _⟩
    exact HasB.of_kit ⟨_, _, rfl, fun e => (by cases e), fun a ha i x hx => by simp at hx⟩
  | cons l0 r =>
    obtain ⟨b, o, vs, rfl, hP⟩ := hQ (by simp)
    cases r with
    | nil =>
      obtain ⟨p0, c0, l0', e0, hcell, hp0, hcs⟩ := hP.get 0 (by simp)
      simp at e0
      subst e0
      have hcell' : w.cell? ⟨b, o, none⟩ = some (.slice p0 l0.length c0) := by simpa [Addr.add] using hcell
      by_cases h0 : l0.length = 0
      · have hl0 : l0 = [] := List.eq_nil_of_length_eq_zero h0
        subst hl0
        refine (Tryz.bytes_Join_one_empty b o c p0 c0 (.slice none 0 0) w hcell').mono ?_
        rintro e w' ⟨rfl, rfl⟩
        exact ⟨_, rfl, HasB.of_kit ⟨none, 0, rfl, fun _ => rfl, fun a ha => (by cases ha)⟩, fun k hk => (by cases hk), Below.refl _ _⟩
      · obtain ⟨a0, rfl⟩ : ∃ a, p0 = some a := by
          cases p0 with
          | none => exact absurd (by rw [hp0 rfl]; rfl) h0
          | some a => exact ⟨a, rfl⟩
        refine (Tryz.bytes_Join_one b o c a0 c0 l0 (.slice none 0 0) w hcell' (hcs a0 rfl) (by omega) (by simpa using hl)).mono ?_
        rintro e w' ⟨v, rfl, hf, hb⟩
        exact ⟨v, rfl, by simpa using fresh_has hf, fresh_ge hf, hb⟩
    | cons l1 r =>
      have hsep : Lib.HoldsBytes w (.slice none 0 0) [] := ⟨none, 0, rfl, fun _ => rfl, fun a ha => (by cases ha)⟩
      refine (Tryz.bytes_Join_many b o _ c vs (l0 :: l1 :: r) (.slice none 0 0) [] w rfl (by simp) hP hc hsep hn (by rw [← flat_len]; simpa using hl)).mono ?_
      rintro e w' ⟨v, rfl, hf, hb⟩
      rw [join_flat] at hf
      exact ⟨v, rfl, fresh_has hf, fresh_ge hf, hb⟩

set_option maxHeartbeats 400000 in
/-- octet.Join. -/
theorem join_new {w : World} {x : Value} {ls : List Bs} (h : RowsAt w x ls) (hn : ls.length ≤ 140737488355328) (hl : ls.flatten.length ≤ 140737488355328) :
    Calls Tryz.prog 66 #[x] w fun e w' => ∃ v, e = .returned v ∧ HasB w' v ls.flatten ∧ (∀ k, v.ownBlock = some k → w.heap.size ≤ k) ∧ Below w.heap.size w w' := by
  have hj := bjoin_new h hn hl
  obtain ⟨p, c, rfl, hc, hP⟩ := h
  have Hj := Lib.hid hj
  clear hj hP
  go_enter Tryz.func66, Tryz.ntmps66
  go_wp2_with fail
  refine Hj.out.mono ?_
  rintro e w' ⟨v, rfl, hv, hw, hb⟩
  go_wp2_with fail
  go_ret
  exact ⟨v, rfl, hv, hw, hb⟩

end Go.Proofs.YtapfnehdgailmaaGreat

namespace Go.Proofs.YtapfnehdgailmaaGreat
open Go.RowKit Go.Sat Go.Maps

/-- A record of bytes. -/
def frameN (l : Bs) : Bs := (headN l.length ++ l) ++ fourN (sumN (headN l.length ++ l))

theorem lens_take (ls : List Bs) {k : Nat} (hk : k < ls.length) : (ls.take (k + 1)).flatten.length = (ls.take k).flatten.length + ls[k].length := by
  rw [flat_take hk, List.length_append]

set_option maxRecDepth 100000 in
set_option maxHeartbeats 4000000 in
theorem enc_calls {w : World} {p : Option Addr} {n c : Nat} {ls : List Bs} (hx : RowsAt w (.slice p n c) ls) (hn : n ≤ 140737488355328) (hl : ls.flatten.length ≤ 1048576) :
    Calls Tryz.prog 128 #[.slice p n c] w (fun e w' => ∃ v, e = .returned (.tuple #[v, .int .i64 0]) ∧ HasB w' v (frameN ls.flatten) ∧ (∀ k, v.ownBlock = some k → w.heap.size ≤ k) ∧ Below w.heap.size w w') := by
  have hnl := RowsAt.len hx
  have Hx := Lib.hid hx
  have Hl := Lib.hid hl
  have Hnl := Lib.hid hnl
  clear hx hl hnl
  go_enter Tryz.func128, Tryz.ntmps128
  go_wp2_with fail
  go_loop [4, 10] (fun a i => ∃ k : Nat, k ≤ n ∧ i = .int .i64 k ∧ a = .int .i64 (((ls.take k).flatten.length : Nat) : Int) ∧ (ls.take k).flatten.length ≤ 1048576) (fun _ i => n - (intOf i).toNat)
  case atStart => exact ⟨0, Nat.zero_le _, rfl, by simp, by simp⟩
  case round =>
    obtain ⟨k, hk, rfl, rfl, hck⟩ := hrel
    by_cases hlt : k < n
    · have hltl : k < ls.length := by rw [← Hnl.out]; exact hlt
      have hct := lens_take ls hltl
      have hle := flat_take_le ls (k + 1)
      obtain ⟨-, b, o, v, rfl, hcell, hv⟩ := RowsAt.row Hx.out hltl
      obtain ⟨pv, cv, rfl⟩ := hv.slice
      have hc8 : (ls.take (k + 1)).flatten.length ≤ 1048576 := by have := Hl.out; omega
      have hsum : (ls.take k).flatten.length + ls[k].length ≤ 1048576 := by omega
      have Hct := Lib.hid hct
      have Hc8 := Lib.hid hc8
      clear hv hct hle hc8
      generalize ls[k].length = m at *
      generalize (ls.take k).flatten.length = C at *
      go_wp2_with fail
      go_round
      case rel => exact ⟨k + 1, by omega, by go_num, by rw [Hct.out]; go_num, Hc8.out⟩
      case measure => simp [intOf]; omega
    · have hls : ls.take k = ls := List.take_of_length_le (by have := Hnl.out; omega)
      rw [hls] at hck ⊢
      have hkn : k = n := by omega
      have Hhd := Lib.hid (fun w => head_calls (w := w) ls.flatten.length (by have := Hl.out; omega))
      have HFr := Lib.hid (show frameN ls.flatten = (headN ls.flatten.length ++ ls.flatten) ++ fourN (sumN (headN ls.flatten.length ++ ls.flatten)) from rfl)
      have Hjn := Lib.hid (fun (W : World) (hb : Below w.heap.size w W) => join_calls (rows_below Hx.out hb) (by rw [← Hnl.out]; omega) (by have := Hl.out; omega))
      generalize hX : ls.flatten = X at *
      have HX := Lib.hid hX
      clear hX
      generalize hC : X.length = C at *
      have hhl : (headN C).length = 8 := rfl
      generalize headN C = hd at *
      have HC := Lib.hid hC
      have Hhl := Lib.hid hhl
      clear hls hC hhl
      go_wp2_with fail
      refine (Hhd.out _).mono ?_
      rintro e w1 ⟨v1, rfl, hv1, hb1⟩
      have V1 := Lib.hid hv1
      have B1 := Lib.hid hb1
      have Hj := Lib.hid (Hjn.out _ hb1)
      clear hv1 hb1
      go_wp2_with fail
      refine Hj.out.mono ?_
      rintro e w2 ⟨v2, rfl, hv2, hb2⟩
      have hh1 := V1.out.below hb2
      obtain ⟨p1, c1, rfl⟩ := hh1.slice
      obtain ⟨p2, c2, rfl⟩ := hv2.slice
      have hj := join_calls (rows_two hh1 hv2 22 (0, 0) _ 2 rfl (Nat.le_refl _)) (by simp) (by simp [Hhl.out, HC.out]; omega)
      rw [show [hd, X].flatten = hd ++ X by simp] at hj
      have e1 := Hhl.out
      have e2 := HC.out
      rw [e1, e2] at hj
      rw [e1, e2]
      have Hj2 := Lib.hid hj
      have B2 := Lib.hid (below_to B1.out (below_to hb2 (below_al w2 (.cells #[.slice p1 8 c1, .slice p2 C c2] 22))))
      clear hj hh1 hv2 hb2 Hj e1 e2
      go_wp2_with fail
      refine Hj2.out.mono ?_
      rintro e w3 ⟨v3, rfl, hv3, hb3⟩
      have V3 := Lib.hid hv3
      have B3 := Lib.hid (below_to B2.out hb3)
      have hlb : (hd ++ X).length ≤ 1048584 := by rw [List.length_append, Hhl.out, HC.out]; omega
      have HLb := Lib.hid hlb
      generalize hY : hd ++ X = Y at *
      obtain ⟨p3, c3, rfl⟩ := hv3.slice
      clear hv3 hb3 hY hlb
      have hlY := HLb.out
      generalize hD : Y.length = yl at *
      have HD := Lib.hid hD
      clear hD
      go_wp2_with fail
      refine (sum_calls (rows_one V3.out 22 (0, 0) _ 1 rfl (Nat.le_refl _)) (by decide) (by simp [HD.out]; omega)).mono ?_
      rintro e w4 ⟨rfl, rfl⟩
      rw [show [Y].flatten = Y by simp, sumF_nat]
      have Hg := Lib.hid (fun w => four_calls (w := w) (sumN Y) (sumN_lt _))
      generalize sumN Y = q at *
      go_wp2_with fail
      refine (Hg.out _).mono ?_
      rintro e w5 ⟨v5, rfl, hv5, hb5⟩
      have V3' := V3.out.below (below_to (below_al _ _) hb5)
      obtain ⟨p5, c5, rfl⟩ := hv5.slice
      have hj := join_new (rows_two V3' hv5 22 (0, 0) _ 2 rfl (Nat.le_refl _)) (by simp) (by simp [fourN, HD.out]; omega)
      rw [show [Y, fourN q].flatten = Y ++ fourN q by simp, show (fourN q).length = 4 from rfl] at hj
      have B5 := Lib.hid (below_to B3.out (below_to (below_al _ _) hb5))
      rw [show (fourN q).length = 4 from rfl]
      have Hj3 := Lib.hid hj
      clear hj V3' hv5 hb5
      go_wp2_with fail
      refine Hj3.out.mono ?_
      rintro e w6 ⟨v6, rfl, hv6, hw6, hb6⟩
      have V6 := Lib.hid (And.intro hv6 (And.intro (fun k hk => Nat.le_trans B5.out.size (Nat.le_trans (below_al w5 _).size (hw6 k hk)) : ∀ k, v6.ownBlock = some k → w.heap.size ≤ k) (below_to B5.out (below_to (below_al _ _) hb6))))
      clear hv6 hw6 hb6
      go_wp2_with fail
      go_ret2
      exact ⟨v6, rfl, by rw [HX.out, HFr.out]; exact V6.out.1, V6.out.2.1, V6.out.2.2⟩
end Go.Proofs.YtapfnehdgailmaaGreat

namespace Go.Proofs.YtapfnehdgailmaaGreat
open Go.RowKit Go.Sat Go.Maps

theorem bytes_in {w : World} {p : Option Addr} {n c : Nat} {l : Bs} (h : HasB w (.slice p n c) l) : n = l.length ∧ Lib.BytesIn w p n (Lib.numsL l) := by
  have h1 := h.at
  obtain ⟨p', c', e⟩ := h.slice
  cases e
  refine ⟨rfl, fun hn => ?_⟩
  rcases h1 with e | ⟨b, o, c2, e, hc⟩
  · rw [e] at hn
    simp at hn
  · cases e
    refine ⟨b, o, rfl, fun i hi => ?_⟩
    rw [hc i l[i] (List.getElem?_eq_getElem hi)]
    simp [Lib.numsL, List.getD, List.getElem?_map, List.getElem?_eq_getElem hi]

theorem equal_calls {w : World} {x y : Value} {l m : Bs} (hx : HasB w x l) (hy : HasB w y m) :
    Calls Tryz.prog 206 #[x, y] w fun e w' => e = .returned (.bool (l == m)) ∧ w' = w := by
  obtain ⟨p1, c1, rfl⟩ := hx.slice
  obtain ⟨p2, c2, rfl⟩ := hy.slice
  have := Tryz.bytes_Equal_all p1 p2 l.length c1 m.length c2 (Lib.numsL l) (Lib.numsL m) w (Lib.numsL_length l) (Lib.numsL_length m) (bytes_in hx).2 (bytes_in hy).2
  rwa [Lib.bytesOf_numsL, Lib.bytesOf_numsL] at this

/-- The number that bytes begin with. -/
def fourAt (b : Bs) : Nat := ofFour (b.getD 0 0) (b.getD 1 0) (b.getD 2 0) (b.getD 3 0)

def decE (b : Bs) : Nat :=
  if b.length < 8 then 2 else if b.take 8 ≠ headN (fourAt b) then 4 else if 1048576 < fourAt b then 5 else if b.length < fourAt b + 12 then 2
  else if fourAt (b.drop (8 + fourAt b)) ≠ sumN (b.take (8 + fourAt b)) then 4 else 0
def decB (b : Bs) : Bs := if decE b = 0 then (b.drop 8).take (fourAt b) else []
def decL (b : Bs) : Nat := if decE b = 0 then fourAt b + 12 else 0

def Decoded (w : World) (b : Bs) (e : Ending) (w' : World) : Prop :=
  ∃ v, e = .returned (.tuple #[v, .int .i64 (decL b : Int), .int .i64 (decE b : Int)]) ∧ OwnB w' 5 v (decB b) ∧ (∀ k, v.ownBlock = some k → w.heap.size ≤ k) ∧ Below w.heap.size w w'

theorem four_at {w : World} {p : Option Addr} {n c : Nat} {b : Bs} (h : HasB w (.slice p n c) b) (h4 : 4 ≤ b.length) :
    Calls Tryz.prog 205 #[.slice p n c] w (fun e w' => e = .returned (.int .u32 (fourAt b : Int)) ∧ ∃ q, w' = w.drewN q) := by
  have h1 := h.at
  obtain ⟨p', c', e⟩ := h.slice
  cases e
  rcases h1 with e | ⟨g, o, c2, e, hc⟩
  · rw [e] at h4
    simp at h4
  · cases e
    have hb : ∀ i, i < b.length → b[i]? = some (b.getD i 0) := fun i hi => by simp [List.getD, List.getElem?_eq_getElem hi]
    exact fromFour_calls h4 (by simpa using hc 0 _ (hb 0 (by omega))) (hc 1 _ (hb 1 (by omega))) (hc 2 _ (hb 2 (by omega))) (hc 3 _ (hb 3 (by omega)))

theorem fourAt_lt (b : Bs) : fourAt b < 4294967296 := by
  have h0 := (b.getD 0 0).toNat_lt
  have h1 := (b.getD 1 0).toNat_lt
  have h2 := (b.getD 2 0).toNat_lt
  have h3 := (b.getD 3 0).toNat_lt
  unfold fourAt ofFour
  omega

theorem HasB.from {w : World} {g o n c : Nat} {l : Bs} (h : HasB w (.slice (some ⟨g, o, none⟩) n c) l) {k : Nat} (_hk : k ≤ l.length) (c' : Nat) : HasB w (.slice (some ⟨g, o + k, none⟩) (n - k) c') (l.drop k) := by
  have h1 := h.at
  obtain ⟨p', c2, e⟩ := h.slice
  cases e
  refine HasB.of_kit ⟨some ⟨g, o + k, none⟩, c', by rw [List.length_drop], fun e => (by cases e), fun a ha i x hx => ?_⟩
  cases ha
  have e1 : (⟨g, o + k, none⟩ : Addr).add i = ⟨g, o + k + i, none⟩ := by unfold Addr.add; split <;> simp_all
  rw [e1]
  rw [List.getElem?_drop] at hx
  rcases h1 with e | ⟨g2, o2, c3, e, hc⟩
  · rw [e] at hx
    simp at hx
  · cases e
    have := hc _ _ hx
    rw [Nat.add_assoc]
    exact this

/-- 'x[k:]'. -/
theorem run_from {P : Program} (w : World) {t e : TypeId} {i : TypeInfo} (ht : P.underlying t = some (.slice e)) (hi : P.info? e = some i) (hsz : i.size = 1) (g o len cap k : Nat) (h : k ≤ len) (_h2 : len ≤ cap) (h3 : k < cap) :
    (Instr.slice t (.slice (some ⟨g, o, none⟩) len cap) (some (.int .i64 (k : Int))) none none).run P w = .ok (.slice (some ⟨g, o + k, none⟩) (len - k) (cap - k)) w := by
  have h1 : (Instr.sliceBound (.int .i64 (k : Int)) len .sliceB).run P w = .ok k w := by
    rw [run_sliceBound _ _ _ _ _ (by omega) (by omega)]
    simp
  have e1 : (⟨g, o, none⟩ : Addr).add k = ⟨g, o + k, none⟩ := by unfold Addr.add; split <;> simp_all
  simp [Instr.slice, run_underlying ht, Instr.sliceBounds, h1, sizeOf, typeInfo, hi, Result.andThen, hsz, e1]
  omega
end Go.Proofs.YtapfnehdgailmaaGreat

namespace Go.Sat
open Go

section
variable {P : Program} {l : List Oper} {Q : Exit → Act → World → Prop} {md : Region.Mode} {S : World → Prop} {fuel : Nat} {listed : Array Bool} {a : Act} {w : World}

theorem ord_get {i : Nat} {o : Oper} {r : List Oper} (h : l.drop i = o :: r) : l.toArray[i]? = some o := by
  have := List.getElem?_drop (xs := l) (i := i) (j := 0)
  rw [h] at this
  simpa using this.symm

/-- The beginning. -/
theorem ord_start (S : World → Prop) {id n : Nat} (hm : P.follows .mixedOrders = true) (hn : l.length = n) (hS : S w.drew) (h : S w.drew → wpAnyH P .any l.toArray Q S n (Array.replicate n false) a w.drew) : (Code.region id l.toArray true).wp P Q a w := by
  subst hn
  exact wp_region_held_drew hm hS (by simpa using h)

/-- Number i is not wanted. -/
theorem ord_skip (i : Nat) {o : Oper} {r : List Oper} (hd : l.drop i = o :: r) (hs : Region.noSelect l.toArray = true) (hf : Region.free md l.toArray listed i = true) (hr : (Region.ready md l.toArray listed).contains i = true)
    (hQ : ∀ c a w, Q (.panic c) (a.put o.dst undef) w → Q (.panic c) a w) (hw : Region.wanted o (yielded l.toArray a.tmps) = false) (hS : S w)
    (h : wpAnyH P md l.toArray Q S fuel (listed.setIfInBounds i true) (a.put o.dst undef) w) : wpAnyH P md l.toArray Q S (fuel + 1) listed a w :=
  wpAnyH_take (ord_get hd) hs hf hr hQ (.inr ⟨hw, rfl⟩) hS h

/-- Number i yields its value, in every world that meets S. -/
theorem ord_take (i : Nat) {o : Oper} {r : List Oper} {v : Value} (hd : l.drop i = o :: r) (hs : Region.noSelect l.toArray = true) (hf : Region.free md l.toArray listed i = true) (hr : (Region.ready md l.toArray listed).contains i = true)
    (hQ : ∀ c a w, Q (.panic c) (a.put o.dst v) w → Q (.panic c) a w) (hw : Region.wanted o (yielded l.toArray a.tmps) = true) (hS : S w) (hy : ∀ w, S w → (execOp a.eval o).run P w = .ok (.value v) w)
    (h : wpAnyH P md l.toArray Q S fuel (listed.setIfInBounds i true) (a.put o.dst v) w) : wpAnyH P md l.toArray Q S (fuel + 1) listed a w :=
  wpAnyH_take (ord_get hd) hs hf hr hQ (.inl ⟨hw, hy⟩) hS h

/-- Number i alone may come up. -/
theorem ord_one (i : Nat) {o : Oper} {r : List Oper} (hd : l.drop i = o :: r) (hr : Region.ready md l.toArray listed = [i]) (hw : Region.wanted o (yielded l.toArray a.tmps) = true)
    (h : ∀ K : Act → World → Prop, Shut (∀ a w, S w → (S w → wpAnyH P md l.toArray Q S fuel (listed.setIfInBounds i true) a w) → K a w) → Oper.wp P o a w K Q) : wpAnyH P md l.toArray Q S (fuel + 1) listed a w :=
  wpAnyH_ready hr (by simp) (AllReadyH.cons (ord_get hd) (fun K hK => by rw [if_pos hw]; exact h K hK) AllReadyH.nil)

/-- append, at an operation. -/
theorem wp_app {o : Oper} {K : Act → World → Prop} (s x : Operand) (t : TypeId)
    (ho : o.op = .call { callee := .builtin .append, args := #[s, x], argTypes := #[t, t] })
    (e : TypeId) (i : TypeInfo) (z : Value) (size bytes : Nat) (ht : P.underlying t = some (.slice e)) (hi : P.info? e = some i) (hz : i.zero = some z)
    (hsize : i.size = size) (hby : i.bytes = bytes) (hzs : z.cells.size = size) (hsz : 0 < size)
    (v : Value) (n : Nat) (xs : List Value) (hs : a.eval s = v) (hown : OwnR w e size v n xs)
    (xv : Value) (m : Nat) (news : List Value) (hxv : a.eval x = xv) (hx : Holds w size xv m news) (h1 : ∀ u ∈ news, u.oneCell' = true)
    (h63 : n + m ≤ maxLen) (hbytes : (n + m) * bytes ≤ 140737488355328)
    (h : ∀ v' w', OwnR w' e size v' (n + m) (xs ++ news) → w.grownBy w' v.ownBlock → (v'.ownBlock = v.ownBlock ∨ ∃ g, v'.ownBlock = some g ∧ w.heap.size ≤ g) → K (a.put o.dst v') w') : Oper.wp P o a w K Q := by
  obtain ⟨v', w', hr, h2, h3, h4⟩ := run_app (P := P) w t o.type e i z size bytes ht hi hz hsize hby hzs hsz v n xs hown xv m news hx h1 h63 hbytes
  unfold Oper.wp execOp
  simp only [ho, resolve, invoke, builtin, Sem.run_bind, Sem.run_pure, Result.andThen_ok, List.map_toArray, List.map_cons, List.map_nil, hs, hxv, hr]
  exact h v' w' h2 h3 h4
end
end Go.Sat

namespace Go.Proofs.YtapfnehdgailmaaGreat
open Go.RowKit Go.Sat Go.Maps

/-- A Reader in memory. -/
structure RdIn (w : World) (r : Nat) (R : Rd) (p : Option Addr) (n c : Nat) : Prop where
  cells : w.heap[r]? = some (.cells #[.slice p n c, .bool R.bad] 232 (0, 0))
  has : HasB w (.slice p n c) R.rest
  cap : n ≤ c
  ne : (Value.slice p n c).ownBlock ≠ some r
  len : R.rest.length ≤ 140737488355328

def RdAt (w : World) (r : Nat) (R : Rd) : Prop := ∃ p n c, RdIn w r R p n c

section
variable {w : World} {r : Nat} {R : Rd} {p : Option Addr} {n c : Nat}

theorem RdIn.c0 (h : RdIn w r R p n c) : w.cell? ⟨r, 0, none⟩ = some (.slice p n c) := cell_of h.cells rfl
theorem RdIn.c1 (h : RdIn w r R p n c) : w.cell? ⟨r, 1, none⟩ = some (.bool R.bad) := cell_of h.cells rfl
theorem RdIn.n_eq (h : RdIn w r R p n c) : R.rest.length = n := by obtain ⟨_, _, e⟩ := h.has.slice; simp only [Value.slice.injEq] at e; exact e.2.1.symm
theorem RdIn.rlt (h : RdIn w r R p n c) : r < w.heap.size := (Array.getElem?_eq_some_iff.1 h.cells).1

theorem rd_set (h : RdIn w r R p n c) (v0 v1 : Value) : ((w.setCell ⟨r, 0, none⟩ v0).setCell ⟨r, 1, none⟩ v1).heap[r]? = some (.cells #[v0, v1] 232 (0, 0)) := by
  have h1 := set_block h.cells 0 v0
  have h2 := set_block h1 1 v1
  simpa using h2

theorem rd_set0 (h : RdIn w r R p n c) (v0 : Value) : (w.setCell ⟨r, 0, none⟩ v0).heap[r]? = some (.cells #[v0, .bool R.bad] 232 (0, 0)) := by
  have h1 := set_block h.cells 0 v0
  simpa using h1

theorem HasB.empty (w : World) (a : Option Addr) (c : Nat) : HasB w (.slice a 0 c) [] := ⟨rfl, a, c, rfl, fun _ => rfl, fun a' _ i u hu => (by simp [bytesV] at hu)⟩

theorem run_tail0 {P : Program} (w : World) {t e : TypeId} {i : TypeInfo} (ht : P.underlying t = some (.slice e)) (hi : P.info? e = some i) (hsz : i.size = 1) (p : Option Addr) (len cap k : Nat) (h : k ≤ len) (_h2 : len ≤ cap) :
    (Instr.slice t (.slice p len cap) (some (.int .i64 (k : Int))) none none).run P w = .ok (.slice (if cap = k then p else p.map fun x => x.add k) (len - k) (cap - k)) w := by
  have h1 : (Instr.sliceBound (.int .i64 (k : Int)) len .sliceB).run P w = .ok k w := by
    rw [run_sliceBound _ _ _ _ _ (by omega) (by omega)]
    simp
  simp [Instr.slice, run_underlying ht, Instr.sliceBounds, h1, sizeOf, typeInfo, hi, Result.andThen, hsz]

/-- 'x[k:]' at any k. -/
theorem run_tail {P : Program} {w : World} {t e : TypeId} {i : TypeInfo} (ht : P.underlying t = some (.slice e)) (hi : P.info? e = some i) (hsz : i.size = 1) {p : Option Addr} {n c : Nat} {l : Bs} (h : HasB w (.slice p n c) l) (hnc : n ≤ c) (r k : Nat) (hne : (Value.slice p n c).ownBlock ≠ some r) (hk : k ≤ n) :
    ∃ p' c', (∀ W, (Instr.slice t (.slice p n c) (some (.int .i64 (k : Int))) none none).run P W = .ok (.slice p' (n - k) c') W) ∧ HasB w (.slice p' (n - k) c') (l.drop k) ∧ n - k ≤ c' ∧ (Value.slice p' (n - k) c').ownBlock ≠ some r := by
  have hl : l.length = n := by obtain ⟨_, _, e⟩ := h.slice; simp only [Value.slice.injEq] at e; exact e.2.1.symm
  refine ⟨_, _, fun W => run_tail0 (P := P) W ht hi hsz p n c k hk hnc, ?_, by omega, ?_⟩
  · by_cases hkn : k = n
    · subst hkn
      rw [List.drop_of_length_le (by omega), Nat.sub_self]
      exact HasB.empty _ _ _
    · rw [if_neg (show ¬ c = k by omega)]
      rcases h.at with h0 | ⟨g, o, c2, e2, hc⟩
      · rw [h0] at hl
        simp at hl
        omega
      · simp only [Value.slice.injEq] at e2
        obtain ⟨rfl, -, -⟩ := e2
        have e3 : (some (⟨g, o, none⟩ : Addr)).map (fun x => x.add k) = some ⟨g, o + k, none⟩ := by simp [Addr.add]
        rw [e3]
        exact HasB.from h (by omega) _
  · split
    · cases p <;> exact hne
    · cases p with
      | none => intro e; cases e
      | some a =>
        intro e
        refine hne ?_
        rw [← e]
        simp [Value.ownBlock, add_block]

theorem HasB.set {w : World} {v : Value} {l : Bs} (h : HasB w v l) {a : Addr} (u : Value) (hne : v.ownBlock ≠ some a.block) : HasB (w.setCell a u) v l :=
  Holds.keep h fun k hk => set_other u fun e => hne (by rw [hk, e])

end
end Go.Proofs.YtapfnehdgailmaaGreat

namespace Go.Proofs.YtapfnehdgailmaaGreat
open Go.RowKit Go.Sat Go.Maps

theorem pow_seven (k : Nat) : 2 ^ (7 * k) = 128 ^ k := by rw [Nat.pow_mul]

theorem u64_seven {k a x : Nat} (ha : a < 128 ^ k) (hk : k ≤ 8) (hx : x < 256) :
    bits .or .u64 (a : Int) (IntKind.u64.wrap (IntKind.u64.wrap (bits .and .u8 (x : Int) 127) * 2 ^ (7 * k))) = ((a + x % 128 * 128 ^ k : Nat) : Int) ∧ a + x % 128 * 128 ^ k < 128 ^ (k + 1) ∧ a + x % 128 * 128 ^ k < 9223372036854775808 := by
  have h1 : bits .and .u8 (x : Int) 127 = ((x % 128 : Nat) : Int) := by
    have := u8_and_nat x 127 hx (by decide)
    rw [Nat.and_two_pow_sub_one_eq_mod x 7] at this
    exact this
  have hm : x % 128 < 128 := Nat.mod_lt _ (by decide)
  generalize x % 128 = y at *
  have hp : 128 ^ k ≤ 128 ^ 8 := Nat.pow_le_pow_right (by decide) hk
  have h8 : (128 : Nat) ^ 8 = 72057594037927936 := by decide
  have hy : y * 128 ^ k ≤ 127 * 128 ^ k := Nat.mul_le_mul_right _ (by omega)
  have hs : 128 ^ (k + 1) = 128 ^ k * 128 := Nat.pow_succ _ _
  have h2 : ((y : Nat) : Int) * 2 ^ (7 * k) = ((y * 128 ^ k : Nat) : Int) := by
    rw [← pow_seven, Int.natCast_mul, Int.natCast_pow]
    rfl
  rw [h1, IntWalk.u64_in ((y : Nat) : Int) (by omega), h2, IntWalk.u64_in ((y * 128 ^ k : Nat) : Int) (by omega), u64_or_nat _ _ (by omega) (by omega), ← pow_seven, or_add (7 * k) a y (by rw [pow_seven]; exact ha), pow_seven]
  refine ⟨rfl, by omega, by omega⟩

theorem own_cap0 {w : World} {e : TypeId} {v : Value} {l : Bs} (h : OwnB w e v l) : ∃ p c, v = .slice p l.length c ∧ l.length ≤ c := by
  rcases h.2 with ⟨rfl, hn⟩ | ⟨g, cap, cur, rfl, _, hnc, _⟩
  · exact ⟨none, 0, by rw [hn], by omega⟩
  · exact ⟨_, cap, rfl, hnc⟩

/-- A Reader's own cells. -/
def RdHd (w : World) (r : Nat) (R : Rd) : Prop := ∃ p n c, w.heap[r]? = some (.cells #[.slice p n c, .bool R.bad] 232 (0, 0)) ∧ R.rest.length = n
theorem RdAt.hd {w : World} {r : Nat} {R : Rd} (h : RdAt w r R) : RdHd w r R := let ⟨p, n, c, h⟩ := h; ⟨p, n, c, h.cells, h.n_eq⟩
theorem RdHd.same {w w' : World} {r : Nat} {R : Rd} (h : RdHd w r R) (hs : w'.heap[r]? = w.heap[r]?) : RdHd w' r R := let ⟨p, n, c, h, e⟩ := h; ⟨p, n, c, hs.trans h, e⟩

theorem good_calls {w : World} {r : Nat} {R : Rd} (h : RdHd w r R) :
    Calls Tryz.prog 194 #[.pointer (some ⟨r, 0, none⟩)] w fun e w' => e = .returned (.bool (!R.bad)) ∧ w' = w := by
  obtain ⟨p, n, c, h, -⟩ := h
  have h1 : w.cell? ⟨r, 1, none⟩ = some (.bool R.bad) := cell_of h rfl
  clear h
  go_enter Tryz.func194, Tryz.ntmps194
  go_wp2_with fail
  go_ret
  exact ⟨rfl, rfl⟩

theorem whole_calls {w : World} {r : Nat} {R : Rd} (h : RdHd w r R) :
    Calls Tryz.prog 153 #[.pointer (some ⟨r, 0, none⟩)] w fun e w' => e = .returned (.bool R.whole) ∧ w' = w := by
  have Hg := Lib.hid (good_calls h)
  obtain ⟨p, n, c, h, hn⟩ := h
  have h0 : w.cell? ⟨r, 0, none⟩ = some (.slice p n c) := cell_of h rfl
  have HW := Lib.hid (show R.whole = (!R.bad && R.rest.isEmpty) from rfl)
  have HE := Lib.hid (show R.rest.isEmpty = ((n : Int) == 0) from by
    rw [Bool.eq_iff_iff, List.isEmpty_iff, ← List.length_eq_zero_iff, hn]
    simp)
  clear h hn
  cases hb : R.bad with
  | true =>
    rw [hb] at Hg HW
    go_enter Tryz.func153, Tryz.ntmps153
    go_wp2_with fail
    refine Hg.out.mono ?_
    rintro e w1 ⟨rfl, rfl⟩
    go_wp2_with fail
    go_ret
    exact ⟨by rw [HW.out]; rfl, rfl⟩
  | false =>
    rw [hb] at Hg HW
    go_enter Tryz.func153, Tryz.ntmps153
    go_wp2_with fail
    refine Hg.out.mono ?_
    rintro e w1 ⟨rfl, rfl⟩
    go_wp2_with fail
    go_ret
    exact ⟨by rw [HW.out, HE.out]; rfl, rfl⟩

end Go.Proofs.YtapfnehdgailmaaGreat

namespace Go.Proofs.YtapfnehdgailmaaGreat
open Go.RowKit Go.Sat Go.Maps

/-- A Writer in memory. -/
structure WrIn (w : World) (k : Nat) (v : Value) (l : Bs) : Prop where
  cells : w.heap[k]? = some (.cells #[v] 163 (0, 0))
  row : OwnB w 5 v l
  ne : v.ownBlock ≠ some k

/-- What a Writer may write. -/
def WrS (k : Nat) (v : Value) (j : Nat) : Prop := j = k ∨ v.ownBlock = some j

/-- What a thing done with a Writer leaves. -/
def WrStep (w : World) (k : Nat) (v : Value) (l' : Bs) (w' : World) : Prop :=
  ∃ v', WrIn w' k v' l' ∧ Chg (WrS k v) w w' ∧ ∀ j, v'.ownBlock = some j → v.ownBlock = some j ∨ w.heap.size ≤ j

def WrTold (w : World) (k : Nat) (v : Value) (l' : Bs) (e : Ending) (w' : World) : Prop := e = .returned (.tuple #[]) ∧ WrStep w k v l' w'

section
variable {w w1 w2 : World} {k : Nat} {v : Value} {l l1 l2 : Bs}

theorem WrIn.c0 (h : WrIn w k v l) : w.cell? ⟨k, 0, none⟩ = some v := cell_of h.cells rfl
theorem WrIn.klt (h : WrIn w k v l) : k < w.heap.size := (Array.getElem?_eq_some_iff.1 h.cells).1

theorem WrStep.refl (h : WrIn w k v l) : WrStep w k v l w := ⟨v, h, Chg.refl _ _, fun _ h => .inl h⟩

theorem WrStep.trans (h : WrStep w k v l1 w1) (_hk : k < w.heap.size) (h2 : ∀ v1, WrIn w1 k v1 l1 → WrStep w1 k v1 l2 w2) : WrStep w k v l2 w2 := by
  obtain ⟨v1, h1, hc1, hn1⟩ := h
  obtain ⟨v2, h2, hc2, hn2⟩ := h2 v1 h1
  refine ⟨v2, h2, hc1.trans hc2 fun j hj hs => ?_, fun j hj => ?_⟩
  · rcases hs with rfl | hs
    · exact .inl rfl
    · rcases hn1 j hs with h | h
      · exact .inr h
      · omega
  · rcases hn2 j hj with h | h
    · exact hn1 j h
    · exact .inr (Nat.le_trans hc1.size h)

theorem WrStep.go {v1 : Value} (h1 : WrIn w1 k v1 l1) (hc : Chg (WrS k v) w w1) (hn : ∀ j, v1.ownBlock = some j → v.ownBlock = some j ∨ w.heap.size ≤ j) (hk : k < w.heap.size) (h : WrStep w1 k v1 l2 w2) : WrStep w k v l2 w2 := by
  obtain ⟨v2, h2, hc2, hn2⟩ := h
  refine ⟨v2, h2, hc.trans hc2 fun j hj hs => ?_, fun j hj => ?_⟩
  · rcases hs with rfl | hs
    · exact .inl rfl
    · rcases hn j hs with h | h
      · exact .inr h
      · omega
  · rcases hn2 j hj with h | h
    · exact hn j h
    · exact .inr (Nat.le_trans hc.size h)

/-- Something new was laid ahead. -/
theorem WrStep.ahead (hb : Below w.heap.size w w1) (_h : WrIn w k v l) (h2 : WrStep w1 k v l2 w2) : WrStep w k v l2 w2 := by
  obtain ⟨v2, h2, hc2, hn2⟩ := h2
  exact ⟨v2, h2, ((Chg.of_below hb).mono fun _ _ h => h.elim).trans hc2 fun _ _ hs => hs, fun j hj => (hn2 j hj).imp id (Nat.le_trans hb.size)⟩

theorem WrIn.keep (h : WrIn w k v l) (hb : Below w.heap.size w w1) : WrIn w1 k v l :=
  ⟨(hb.block k h.klt).trans h.cells, OwnR.keep h.row fun _ hk => hb.block _ (OwnR.lt h.row hk), h.ne⟩

/-- The row was appended to, and laid into the Writer. -/
theorem WrIn.grown {w0 : World} {v' : Value} {m : Bs} (h : WrIn w k v l) (hb : Below w.heap.size w w0) (hown : OwnR w1 5 1 v' (l.length + m.length) (bytesV l ++ bytesV m)) (hg : w0.grownBy w1 v.ownBlock) (hloc : v'.ownBlock = v.ownBlock ∨ ∃ g, v'.ownBlock = some g ∧ w0.heap.size ≤ g) :
    WrStep w k v (l ++ m) (w1.setCell ⟨k, 0, none⟩ v') := by
  have hk := h.klt
  have hs := hb.size
  have hk1 : w1.heap[k]? = some (.cells #[v] 163 (0, 0)) := (hg.block k (by omega) fun e => h.ne e.symm).trans ((hb.block k hk).trans h.cells)
  have hnew : ∀ j, v'.ownBlock = some j → v.ownBlock = some j ∨ w.heap.size ≤ j := fun j hj => by
    rcases hloc with e | ⟨g, e, hge⟩
    · exact .inl (e ▸ hj)
    · rw [hj] at e
      cases e
      exact .inr (Nat.le_trans hs hge)
  have hne : v'.ownBlock ≠ some k := fun e => by
    rcases hnew k e with h1 | h1
    · exact h.ne h1
    · omega
  refine ⟨v', ⟨?_, ?_, hne⟩, ?_, hnew⟩
  · have := set_block hk1 0 v'
    simpa using this
  · have : OwnB w1 5 v' (l ++ m) := by
      unfold OwnB
      rw [bytesV_app, List.length_append]
      exact hown
    exact OwnR.keep this fun j hj => set_other _ fun e => hne (by rw [hj]; exact congrArg some e)
  · refine (((Chg.of_below hb).mono fun _ _ h => h.elim).trans (Chg.of_grown hg) fun j _ e => .inr e.symm).trans (Chg.setCell _ ⟨k, 0, none⟩ _) fun j _ e => .inl e

set_option maxRecDepth 100000 in
set_option maxHeartbeats 2000000 in
theorem wraw_calls (h : WrIn w k v l) {p : Option Addr} {n c : Nat} {m : Bs} (hx : HasB w (.slice p n c) m) (hl : l.length + m.length ≤ 140737488355328) :
    Calls Tryz.prog 104 #[.pointer (some ⟨k, 0, none⟩), .slice p n c] w (WrTold w k v (l ++ m)) := by
  obtain ⟨i0, hi, hz0, hz1, hz2⟩ := info_parts (show (Tryz.prog.info? 5).map (fun i => (i.zero, i.size, i.bytes)) = some (some (.int .u8 0), 1, 1) by kernel_rfl)
  have hn : m.length = n := by obtain ⟨_, _, e⟩ := hx.slice; simp only [Value.slice.injEq] at e; exact e.2.1.symm
  subst hn
  have c0 := h.c0
  have hrow := h.row
  have Hx := Lib.hid hx
  have Hh := Lib.hid h
  clear h hx
  generalize hL : l.length = a at *
  have HL := Lib.hid hL
  generalize hM : m.length = b at *
  have HM := Lib.hid hM
  clear hL hM
  have Hrow := Lib.hid (show OwnR w 5 1 v a (bytesV l) by have := hrow; unfold OwnB at this; rwa [HL.out] at this)
  have Hxx := Lib.hid (show Holds w 1 (.slice p b c) b (bytesV m) by have := Hx.out; unfold HasB at this; rwa [HM.out] at this)
  clear hrow
  go_enter Tryz.func104, Tryz.ntmps104
  go_wp2_with (at_builtin; refine wpList_app _ rfl (.tmp 10) (.tmp 11) 22 rfl 5 i0 (.int .u8 0) 1 1 Tryz.underlying22 hi hz0 hz1 hz2 rfl (by decide) v a _ rfl Hrow.out (.slice p b c) b _ rfl Hxx.out (bytesV_one _) (by unfold maxLen; omega) (by omega) ?_; intro v1 w1 hown1 hgrow1 hloc1; go_loud (have hE := WrIn.grown (m := m) Hh.out (Below.refl _ _) (by rw [HL.out, HM.out]; exact hown1) hgrow1 hloc1; have hk1 := (hgrow1.block k Hh.out.klt fun e => Hh.out.ne e.symm).trans Hh.out.cells; have c1 := cell_of hk1 (i := 0) rfl; have f1 := frozen_of hk1 0; have HE := Lib.hid hE; clear hk1 hE hgrow1 hloc1; obtain ⟨p1, q1, rfl⟩ := OwnR.shape hown1; clear hown1))
  go_end0
  exact ⟨rfl, HE.out⟩
end
end Go.Proofs.YtapfnehdgailmaaGreat
