/- The disk of a journal "a": a log, and a snapshot or none (plain laws). What the disk of a journal "a" opens as (plain laws). A journal of a law's own on its disk: what each thing done leaves (plain laws). A journal of a law's own on its disk: start, SetTerm, Append, Cut (plain laws). A journal of a law's own on its disk: Compact, Install (plain laws). satrapylaw5.known: what it does (plain). journal: Open. (Printed by mkj26.py.) The document's check sum (satrapyref1.Sum) is the program's. The document's Four and FromFour. DiskNames: what the disk keeps (a plain law). DiskNames: the walk. The document's Encode (satrapyref2). The document's octet: Num, Nums. (Printed by mkrj1.py.) The document's: Nums, List, record, terms. (Printed by mkrj2.py.) The document's disk (satrapyref3) in memory. -/
import Derived.Sort.Walk0
import Derived.Test.YtapfnehdgailmaaGreatQC
import Derived.Test.YtapfnehdgailmaaGreatQD
import Derived.Test.YtapfnehdgailmaaGreatQE
import Derived.Test.YtapfnehdgailmaaGreatQF
import Derived.Test.YtapfnehdgailmaaGreatQG
import Derived.Test.YtapfnehdgailmaaGreatQH
namespace Go.Proofs.YtapfnehdgailmaaGreat
open Go.RowKit Go.Sat Go.Maps

def wh (c : Bs) : FileM := ⟨c, c.length⟩
def snpL (s : Option Bs) : List (Bs × FileM) := match s with
  | none => []
  | some b => [(snpN [97], wh b)]
/-- The disk of a journal "a". -/
def dJ (room : Nat) (c : Bs) (s : Option Bs) : DiskM := ⟨room, (logN [97], wh c) :: snpL s, none⟩

section
variable {room : Nat} {c b : Bs} {s : Option Bs}

theorem dj_log : Sat.get (logN [97]) (dJ room c s).files = some (wh c) := by cases s <;> rfl
theorem dj_shl : Sat.get (shadowN (logN [97])) (dJ room c s).files = none := by cases s <;> rfl
theorem dj_shs : Sat.get (shadowN (snpN [97])) (dJ room c s).files = none := by cases s <;> rfl
theorem dj_snp : Sat.get (snpN [97]) (dJ room c s).files = s.map wh := by cases s <;> rfl
theorem dj_num : (dJ room c s).files.length < 4096 := by
  cases s
  · show 1 < 4096
    decide
  · show 2 < 4096
    decide
theorem dj_srt : Srt (dJ room c s).files := by
  cases s with
  | none => exact List.pairwise_singleton _ _
  | some b =>
    refine List.pairwise_cons.2 ⟨?_, List.pairwise_singleton _ _⟩
    intro p hp
    rw [show p = (snpN [97], wh b) from by simpa [snpL] using hp]
    rfl
theorem dj_used : (dJ room c s).used = c.length + (match s with | none => 0 | some b => b.length) := by
  cases s with
  | none => rfl
  | some b =>
    show c.length + (b.length + 0) = _
    rw [Nat.add_zero]
theorem dj_ok (hr : room ≤ 1073741824) (hu : (dJ room c s).used ≤ room) : (dJ room c s).OK := by
  refine ⟨dj_srt, hr, hu, Nat.le_of_lt dj_num, fun p hp => ?_, fun p hp => ?_, fun k hk => by cases hk⟩
  · cases s with
    | none =>
      rw [show p = (logN [97], wh c) from by simpa [dJ, snpL] using hp]
      rfl
    | some b =>
      rcases (show p = (logN [97], wh c) ∨ p = (snpN [97], wh b) from by simpa [dJ, snpL] using hp) with rfl | rfl <;> rfl
  · cases s with
    | none =>
      rw [show p = (logN [97], wh c) from by simpa [dJ, snpL] using hp]
      exact Nat.le_refl _
    | some b =>
      rcases (show p = (logN [97], wh c) ∨ p = (snpN [97], wh b) from by simpa [dJ, snpL] using hp) with rfl | rfl <;> exact Nat.le_refl _

/-- Records are laid behind the log's. -/
theorem lay_dj (hroom : (dJ room c s).used + b.length ≤ room) : layOn (dJ room c s) (logN [97]) b = (dJ room (c ++ b) s, 0) := by
  have hm : (dJ room c s).may [logN [97]] = 0 := rfl
  have hfu : (dJ room c s).full (logN [97]) b = false := by
    unfold DiskM.full
    rw [dj_log]
    simp only [Option.isNone_some, Bool.false_and, Bool.or_false, decide_eq_false_iff_not]
    show ¬ room < _
    omega
  have h1 : (dJ room c s).append (logN [97]) b = (⟨room, (logN [97], ⟨c ++ b, c.length⟩) :: snpL s, none⟩, 0) := by
    unfold DiskM.append
    rw [if_neg (by rw [hm]; simp), if_neg (by rw [hfu]; simp)]
    have hcur : (dJ room c s).cur (logN [97]) = wh c := by unfold DiskM.cur; rw [dj_log]; rfl
    rw [hcur]
    cases s <;> rfl
  unfold layOn
  rw [h1, if_neg (by simp)]
  cases s <;> rfl

/-- The log is made to hold just these bytes. -/
theorem log_dj (hr : room ≤ 1073741824) (hroom : (dJ room c s).used + b.length ≤ room) : (dJ room c s).save1 (logN [97]) b = (dJ room b s, 0) := by
  rw [put1_all (dj_ok hr (by omega)) (fun j e => by cases e) (by decide) (by decide) dj_shl hroom dj_num]
  cases s <;> rfl
/-- A snapshot is saved. -/
theorem snp_dj (hr : room ≤ 1073741824) (hroom : (dJ room c s).used + b.length + 12 ≤ room) : (dJ room c s).save (snpN [97]) b = (dJ room c (some (frameN b)), 0) := by
  rw [save_room (by decide) (by decide), put1_all (dj_ok hr (by omega)) (fun j e => by cases e) (by decide) (by decide) dj_shs (by rw [frame_len]; show _ ≤ room; omega) dj_num]
  cases s <;> rfl
theorem crash_dj (k : Int) : (dJ room c s).crash k = dJ room c s := by
  have h1 : ∀ x : Bs, DiskM.crashF k (wh x) = wh x := fun x => crash_whole x k
  unfold dJ DiskM.crash
  cases s with
  | none =>
    show (⟨room, [(logN [97], DiskM.crashF k (wh c))], none⟩ : DiskM) = _
    rw [h1]
    rfl
  | some b =>
    show (⟨room, [(logN [97], DiskM.crashF k (wh c)), (snpN [97], DiskM.crashF k (wh b))], none⟩ : DiskM) = _
    rw [h1, h1]
    rfl
end
end Go.Proofs.YtapfnehdgailmaaGreat

namespace Go.Proofs.YtapfnehdgailmaaGreat
open Go.RowKit Go.Sat Go.Maps

/-- The bytes of a snapshot. -/
def Snap.bytes (s : Snap) : Bs := snpB s.number s.term s.group s.data
theorem snapIs_bytes {s : Snap} (h : s.OK) (h1 : 1 ≤ s.number) (hd : s.data.length ≤ 524288) : snapIs s.bytes = some s := by
  have ht := isTm_iff.1 h.term
  have hg := grp_bound h.group
  have hn := h.number
  have hb : s.bytes = numB s.number ++ (numI s.term ++ (grpB s.group ++ (rowB s.data ++ []))) := by simp [Snap.bytes, snpB]
  rw [hb]
  unfold snapIs
  dsimp only
  rw [Rd.num_of (by omega)]
  dsimp only
  rw [rd_int ht.1 (by omega)]
  dsimp only
  rw [grp_of hg.1 hg.2 h.group]
  dsimp only
  rw [Rd.bytes_of (by omega)]
  dsimp only
  rw [if_pos ⟨whole_of false, h1, hn, by omega, hd⟩, Int.toNat_of_nonneg ht.1]

theorem snapOf_bytes {s : Snap} (h : s.OK) (h1 : 1 ≤ s.number) (hd : s.data.length ≤ 524288) (hl : s.bytes.length ≤ 1048576) : snapOf (some (wh (frameN s.bytes))) = (0, some s) := by
  obtain ⟨a, b⟩ := load_frame s.bytes hl (frameN s.bytes).length
  rw [show (wh (frameN s.bytes)) = ⟨frameN s.bytes, (frameN s.bytes).length⟩ from rfl, snapOf_0 a, b, snapIs_bytes h h1 hd]

/-- What a snapshot's file is. -/
def snapF (s : Option Snap) : Option Bs := s.map fun s => frameN s.bytes
def SnapOK (s : Option Snap) : Prop := ∀ x, s = some x → x.OK ∧ 1 ≤ x.number ∧ x.data.length ≤ 524288 ∧ x.bytes.length ≤ 1048576

theorem open_dj {room : Nat} {ls : List Bs} {s : Option Snap} {g : List Int} {M0 M : JouM} (hg : isGrp g = true) (hls : ∀ l ∈ ls, l.length ≤ 1048576) (hs : SnapOK s) (h0 : recAll (JouM.none0 g) ls = some M0) (hj : joins s M0 false = some (false, M)) :
    jouOpen (dJ room (recsB ls) (snapF s)) [97] g = (dJ room (recsB ls) (snapF s), 0, M) := by
  obtain ⟨O⟩ := opensJ_of (dJ room (recsB ls) (snapF s)) [97] g
  have a1 := O.h1
  have a2 := O.h2
  have a3 := O.hs
  have a4 := O.hl
  have b1 : (dJ room (recsB ls) (snapF s)).rid1 (shadowN (logN [97])) = (dJ room (recsB ls) (snapF s), 0) := by unfold DiskM.rid1; rw [dj_shl]; rfl
  rw [b1] at a1
  have d1 : dJ room (recsB ls) (snapF s) = O.D1 := congrArg Prod.fst a1
  have e1 : 0 = O.e1 := congrArg Prod.snd a1
  rw [← d1] at a2
  have b2 : (dJ room (recsB ls) (snapF s)).rid1 (shadowN (snpN [97])) = (dJ room (recsB ls) (snapF s), 0) := by unfold DiskM.rid1; rw [dj_shs]; rfl
  rw [b2] at a2
  have d2 : dJ room (recsB ls) (snapF s) = O.D2 := congrArg Prod.fst a2
  have e2 : 0 = O.e2 := congrArg Prod.snd a2
  rw [← d2] at a3 a4
  have b3 : snapOf (Sat.get (snpN [97]) (dJ room (recsB ls) (snapF s)).files) = (0, s) := by
    rw [dj_snp]
    cases s with
    | none => exact snapOf_7 loadE_none
    | some x =>
      obtain ⟨q1, q2, q3, q4⟩ := hs x rfl
      exact snapOf_bytes q1 q2 q3 q4
  rw [b3] at a3
  have hsc := scan_recs ls [] hls (.inl rfl)
  rw [List.append_nil] at hsc
  have b4 : readLogJ (dJ room (recsB ls) (snapF s)) [97] (JouM.none0 g) = (dJ room (recsB ls) (snapF s), 0, false, M0) := by
    unfold readLogJ
    rw [dj_log]
    dsimp only
    rw [show (wh (recsB ls)).data = recsB ls from rfl, hsc]
    dsimp only
    rw [h0]
    dsimp only
    have ht : tornOff (dJ room (recsB ls) (snapF s)) (logN [97]) (recsB ls).length (recsB ls).length = (dJ room (recsB ls) (snapF s), 0) := by unfold tornOff; rw [if_neg (by omega)]
    rw [ht]
  rw [b4] at a4
  have hok : ¬ ((([97] : Bs).length) < 1 ∨ 20 < ([97] : Bs).length ∨ isGrp g = false) := by
    rintro (h | h | h)
    · exact absurd h (by decide)
    · exact absurd h (by decide)
    · rw [hg] at h
      cases h
  rw [oj_keep O hok e1.symm e2.symm (by rw [← a3]) (by rw [← a4]) (M := M) (by rw [← a3, ← a4]; exact hj), ← a4]
end Go.Proofs.YtapfnehdgailmaaGreat

namespace Go.Proofs.YtapfnehdgailmaaGreat
open Go.RowKit Go.Sat Go.Maps

/-- Data is no part of what records say. -/
def JouM.dat (M : JouM) (d : Bs) : JouM := { M with data := d }
theorem rec1_dat (f : Bool) (M : JouM) (d : Bs) (p : Bs) : rec1 f (M.dat d) p = (rec1 f M p).map (·.dat d) := by
  cases p with
  | nil => rfl
  | cons k r =>
    unfold rec1
    dsimp only
    have hm : ∀ t v, (M.dat d).mayVote t v = M.mayVote t v := fun _ _ => rfl
    have hl : (M.dat d).last = M.last := rfl
    have hn : (M.dat d).number = M.number := rfl
    have he : (M.dat d).entries = M.entries := rfl
    rw [hm, hl, hn, he]
    repeat' split
    all_goals first
      | rfl
      | (exfalso; simp_all; done)
theorem recGo_dat : ∀ (l : List Bs) (M : JouM) (d : Bs), recGo (M.dat d) l = (recGo M l).map (·.dat d)
  | [], _, _ => rfl
  | p :: r, M, d => by
    show (rec1 false (M.dat d) p).bind (fun M' => recGo M' r) = ((rec1 false M p).bind fun M' => recGo M' r).map (·.dat d)
    rw [rec1_dat]
    cases rec1 false M p with
    | none => rfl
    | some M1 => exact recGo_dat r M1 d

/-- A journal of a law's own: its disk says what it is. -/
structure Kept5 (room : Nat) (g : List Int) (M : JouM) (D : DiskM) (u : Nat) : Prop where
  ex : ∃ ls s M0, D = dJ room (recsB ls) (snapF s) ∧ (∀ l ∈ ls, l.length ≤ 1048576) ∧ SnapOK s ∧ recAll (JouM.none0 g) ls = some M0 ∧ joins s M0 false = some (false, M)
  used : D.used ≤ u
  grp : isGrp g = true
  alive : M.dead = false

theorem Kept5.open {room : Nat} {g : List Int} {M : JouM} {D : DiskM} {u : Nat} (h : Kept5 room g M D u) : jouOpen D [97] g = (D, 0, M) := by
  obtain ⟨⟨ls, s, M0, rfl, h1, h2, h3, h4⟩, -, hg, -⟩ := h
  exact open_dj hg h1 h2 h3 h4
theorem Kept5.crash {room : Nat} {g : List Int} {M : JouM} {D : DiskM} {u : Nat} (h : Kept5 room g M D u) (k : Int) : D.crash k = D := by
  obtain ⟨⟨ls, s, M0, rfl, -⟩, -⟩ := h
  exact crash_dj k

theorem joins_is {s : Option Snap} {M0 M : JouM} (h : joins s M0 false = some (false, M)) : M = M0.dat M.data ∧ (∀ M', M'.number = M0.number → joins s M' false = some (false, match s with | none => M' | some x => M'.dat x.data)) ∧ (∀ x, s = some x → M.data = x.data) ∧ (s = none → M = M0) := by
  unfold joins at h
  cases s with
  | none =>
    dsimp only at h
    split at h
    · cases h
    · rename_i hn
      have e : M0 = M := congrArg Prod.snd (Option.some.inj h)
      subst e
      refine ⟨rfl, fun M' hM => ?_, fun x hx => (by cases hx), fun _ => rfl⟩
      unfold joins
      dsimp only
      rw [hM, if_neg hn]
  | some x =>
    dsimp only at h
    split at h
    · have e : true = false := congrArg Prod.fst (Option.some.inj h)
      cases e
    · rename_i h1
      split at h
      · cases h
      · rename_i h2
        have e : ({ M0 with data := x.data } : JouM) = M := congrArg Prod.snd (Option.some.inj h)
        subst e
        refine ⟨rfl, fun M' hM => ?_, fun y hy => (by cases hy; rfl), fun hx => (by cases hx)⟩
        unfold joins
        dsimp only
        rw [if_neg (by rw [hM]; exact h1), if_neg (by rw [hM]; exact h2)]
        rfl

/-- Records are laid behind the log's. -/
theorem keep_lay {room : Nat} {g : List Int} {M M' : JouM} {D : DiskM} {u : Nat} {rs : List Bs} (h : Kept5 room g M D u) (hrs : ∀ l ∈ rs, l.length ≤ 1048576) (hrec : recGo M rs = some M') (hnum : M'.number = M.number) (hdat : M'.data = M.data) (hal : M'.dead = false) (hu : u + (recsB rs).length ≤ room) :
    ∃ D', laysJ [97] D M rs M' = ⟨D', M', 0⟩ ∧ Kept5 room g M' D' (u + (recsB rs).length) := by
  obtain ⟨⟨ls, s, M0, rfl, h1, h2, h3, h4⟩, hus, hg, ha⟩ := h
  obtain ⟨hM, hJ, hJd, hJn⟩ := joins_is h4
  have hlay := lay_dj (room := room) (c := recsB ls) (b := recsB rs) (s := snapF s) (by omega)
  refine ⟨dJ room (recsB ls ++ recsB rs) (snapF s), ?_, ⟨?_, ?_, hg, hal⟩⟩
  · unfold laysJ
    rw [hlay]
    exact if_neg (by simp)
  · have hr0 : (recGo M0 rs).map (·.dat M.data) = some M' := by rw [← recGo_dat, ← hM, hrec]
    cases hq : recGo M0 rs with
    | none => rw [hq] at hr0; cases hr0
    | some M1 =>
      rw [hq] at hr0
      have e1 : M1.dat M.data = M' := Option.some.inj hr0
      have n1 : M1.number = M0.number := by
        have a : M'.number = M1.number := by rw [← e1]; rfl
        have b : M.number = M0.number := by rw [hM]; rfl
        omega
      refine ⟨ls ++ rs, s, M1, by rw [recsB_app], fun l hl => ?_, h2, ?_, ?_⟩
      · exact (List.mem_append.1 hl).elim (h1 l) (hrs l)
      · rw [recAll_app h3, hq]
      · rw [hJ M1 n1]
        cases s with
        | none =>
          have e0 := hJn rfl
          rw [e0, hq] at hrec
          rw [Option.some.inj hrec]
        | some x =>
          show some (false, M1.dat x.data) = _
          rw [← hJd x rfl, e1]
  · rw [dj_used] at hus ⊢
    rw [List.length_append]
    cases s with
    | none => simp only [snapF, Option.map_none] at hus ⊢; omega
    | some x => simp only [snapF, Option.map_some] at hus ⊢; omega
end Go.Proofs.YtapfnehdgailmaaGreat

namespace Go.Proofs.YtapfnehdgailmaaGreat
open Go.RowKit Go.Sat Go.Maps

theorem keep_start {room : Nat} {g : List Int} (hg : isGrp g = true) : Kept5 room g (JouM.none0 g) (diskJ0 room [97] g) 150 := by
  refine ⟨⟨(JouM.none0 g).rows, none, JouM.none0 g, by rw [rows_none0]; rfl, fun l hl => ?_, fun x hx => (by cases hx), ?_, rfl⟩, ?_, hg, rfl⟩
  · have h1 := firstB_len hg
    unfold firstB at h1
    rw [List.length_append, frame_len, frame_len] at h1
    rcases (show l = fstB 0 0 g ∨ l = trmB 0 (-1) from by simpa [JouM.rows, JouM.none0, entsB] using hl) with rfl | rfl <;> omega
  · have := rec_rows (M := JouM.none0 g) (N := JouM.none0 g) (Nat.zero_le _) rfl hg rfl ⟨Int.le_refl _, show (-1 : Int) < 7 by decide⟩ (fun e he => by cases he) rfl rfl rfl
    exact this
  · have h1 := firstB_len hg
    show (dJ room (firstB g) none).used ≤ 150
    rw [dj_used]
    exact h1

section
variable {room : Nat} {g : List Int} {M : JouM} {D : DiskM} {u : Nat}

theorem term_no (h : Kept5 room g M D u) {t v : Int} (hm : M.mayVote t v = false) : jouTerm [97] D M t v = ⟨D, M, 1⟩ := by
  unfold jouTerm
  rw [if_neg (show ¬ M.dead = true by rw [h.alive]; simp), if_pos hm]
theorem term_same (h : Kept5 room g M D u) {t v : Int} (hm : M.mayVote t v = true) (hs : t = M.now ∧ v = M.vote) : jouTerm [97] D M t v = ⟨D, M, 0⟩ := by
  unfold jouTerm
  rw [if_neg (show ¬ M.dead = true by rw [h.alive]; simp), hm, if_neg (by simp), if_pos hs]
theorem term_go (h : Kept5 room g M D u) {t v : Int} (hm : M.mayVote t v = true) (hs : ¬ (t = M.now ∧ v = M.vote)) (h0 : 0 ≤ M.now) (hu : u + 31 ≤ room) :
    ∃ D', jouTerm [97] D M t v = ⟨D', { M with now := t, vote := v }, 0⟩ ∧ Kept5 room g { M with now := t, vote := v } D' (u + 31) := by
  have hl := trmB_len t v
  have hrl : (recsB [trmB t v]).length = (trmB t v).length + 12 := recs_one_len _
  obtain ⟨D', h1, h2⟩ := keep_lay (M' := { M with now := t, vote := v }) (rs := [trmB t v]) h (fun l hl2 => by rw [List.mem_singleton.1 hl2]; omega) (by
    show (rec1 false M (trmB t v)).bind (fun M' => recGo M' []) = _
    rw [rec_trm hm h0]
    rfl) rfl rfl h.alive (by omega)
  refine ⟨D', ?_, ⟨h2.ex, by have := h2.used; omega, h2.grp, h2.alive⟩⟩
  unfold jouTerm
  rw [if_neg (show ¬ M.dead = true by rw [h.alive]; simp), hm, if_neg (by simp), if_neg hs]
  exact h1

theorem app_go (h : Kept5 room g M D u) {es : List Ent} (he : es ≠ []) (hall : ∀ e ∈ es, isEnt e = true) (hla : M.last + es.length ≤ 1099511627776) (hu : u + 65812 * es.length ≤ room ∨ u + (recsB (entsB M.last es)).length ≤ room) :
    ∃ D', jouAppend [97] D M es = ⟨D', { M with entries := M.entries ++ es }, 0⟩ ∧ Kept5 room g { M with entries := M.entries ++ es } D' (u + (recsB (entsB M.last es)).length) := by
  have hrl := entsB_rows M.last es hall (by omega)
  have hle := recsB_le (c := 65800) (entsB M.last es) hrl
  rw [entsB_len] at hle
  obtain ⟨D', h1, h2⟩ := keep_lay (M' := { M with entries := M.entries ++ es }) (rs := entsB M.last es) h (fun l hl => Nat.le_trans (hrl l hl) (by decide)) (recGo_ents es M hall hla) rfl rfl h.alive (by rcases hu with hu | hu <;> omega)
  refine ⟨D', ?_, h2⟩
  unfold jouAppend
  rw [if_neg (show ¬ M.dead = true by rw [h.alive]; simp), if_neg (fun h3 => h3.elim (fun h4 => by omega) fun h4 => by rw [List.all_eq_true.2 hall] at h4; cases h4), if_neg he]
  exact h1

end
end Go.Proofs.YtapfnehdgailmaaGreat

namespace Go.Proofs.YtapfnehdgailmaaGreat
open Go.RowKit Go.Sat Go.Maps

section
variable {room : Nat} {g : List Int} {M : JouM} {D : DiskM} {u : Nat}

theorem goes_go (h : Kept5 room g M D u) {s : Snap} (hs : s.OK) (h1 : 1 ≤ s.number) (hd : s.data.length ≤ 524288) (hbl : s.bytes.length ≤ 1048576) (hok : (M.rebase s).OK) (hr : room ≤ 1073741824) (hls : ∀ l ∈ (M.rebase s).rows, l.length ≤ 1048576)
    (hu : u + s.bytes.length + 12 + (recsB (M.rebase s).rows).length ≤ room) :
    ∃ D', jouGoes [97] D M s = ⟨D', M.rebase s, 0⟩ ∧ Kept5 room g (M.rebase s) D' ((recsB (M.rebase s).rows).length + s.bytes.length + 12) := by
  obtain ⟨⟨ls, s0, M0, rfl, -⟩, hus, hg, ha⟩ := h
  have hsv := snp_dj (room := room) (c := recsB ls) (b := s.bytes) (s := snapF s0) hr (by omega)
  have hc : (recsB ls).length ≤ u := by
    rw [dj_used] at hus
    omega
  have hlg := log_dj (room := room) (c := recsB ls) (b := recsB (M.rebase s).rows) (s := some (frameN s.bytes)) hr (by
    rw [dj_used]
    dsimp only
    rw [frame_len]
    omega)
  have hdead : (M.rebase s).dead = false := ha
  refine ⟨dJ room (recsB (M.rebase s).rows) (some (frameN s.bytes)), ?_, ⟨⟨(M.rebase s).rows, some s, { M.rebase s with data := [], dead := false }, rfl, hls, fun x hx => ?_, ?_, ?_⟩, ?_, hg, hdead⟩⟩
  · unfold jouGoes
    rw [show snpB s.number s.term s.group s.data = s.bytes from rfl, hsv, if_neg (by simp)]
    dsimp only
    unfold writesJ
    rw [hlg, if_neg (by simp)]
  · cases hx
    exact ⟨hs, h1, hd, hbl⟩
  · exact rec_rows (M := M.rebase s) (N := JouM.none0 g) hok.last hok.term hok.group hok.now hok.vote hok.ents rfl rfl rfl
  · have e : (M.rebase s) = { ({ M.rebase s with data := [], dead := false } : JouM) with data := s.data } := by
      have h9 : M.dead = false := ha
      unfold JouM.rebase
      rw [h9]
    unfold joins
    dsimp only
    rw [if_neg (show ¬ (M.rebase s).number < s.number from Nat.lt_irrefl _), if_neg (show ¬ s.number < (M.rebase s).number from Nat.lt_irrefl _)]
    rw [← e]
  · rw [dj_used]
    dsimp only
    rw [frame_len]
    omega

theorem compact_go (h : Kept5 room g M D u) {i : Nat} {b : Bs} (h1 : M.number < i) (h2 : i ≤ M.last) (h3 : b.length ≤ 524288) :
    jouCompact [97] D M (i : Int) b = jouGoes [97] D M ⟨i, (M.termAt (i : Int)).getD 0, (M.grpIn (i - M.number)).1, b⟩ := by
  unfold jouCompact
  rw [if_neg (show ¬ M.dead = true by rw [h.alive]; simp), if_neg (by omega), Int.toNat_natCast]
end
end Go.Proofs.YtapfnehdgailmaaGreat

namespace Go.Proofs.YtapfnehdgailmaaGreat
open Go.RowKit Go.Sat Go.Maps

theorem entB_len2 {n : Nat} {e : Ent} (hn : n ≤ 4611686018427387904) (h : isEnt e = true) : (entB n e).length ≤ 46 + e.data.length + 9 * e.nodes.length := by
  have hf := ent_bound h
  unfold entB rowB grpB
  simp only [List.length_cons, List.length_append]
  have h1 := numB_nine hn
  have h2 := numI_len e.term
  have h3 := numI_len e.kind
  have h4 := numB_nine (n := e.data.length) (by omega)
  have h5 := numB_nine (n := e.nodes.length) (by omega)
  have h6 := numsI_len e.nodes
  omega
theorem ents_len2 {c : Nat} : ∀ (n : Nat) (es : List Ent), (∀ e ∈ es, isEnt e = true ∧ e.data.length + 9 * e.nodes.length ≤ c) → n + es.length ≤ 4611686018427387904 → ∀ l ∈ entsB n es, l.length ≤ 46 + c
  | _, [], _, _, l, hl => by cases hl
  | n, e :: r, h, hn, l, hl => by
    simp only [List.length_cons] at hn
    cases hl with
    | head =>
      have := entB_len2 (n := n + 1) (e := e) (by omega) (h e (by simp)).1
      have := (h e (by simp)).2
      omega
    | tail _ hl => exact ents_len2 (n + 1) r (fun x hx => h x (by simp [hx])) (by omega) l hl

def ke1 : Ent := ⟨1, 0, [], []⟩
def ke2 : Ent := ⟨2, 1, [120], []⟩
def kM1 : JouM := ⟨0, 0, [0, 1, 2], 0, -1, [], [ke1, ke2], false⟩
def kS : Snap := ⟨1, 1, [0, 1, 2], [115]⟩
def kM2 : JouM := ⟨1, 1, [0, 1, 2], 0, -1, [115], [ke2], false⟩

theorem kM2_is : kM1.rebase kS = kM2 := by rfl
theorem kS_is : (⟨1, (kM1.termAt ((1 : Nat) : Int)).getD 0, (kM1.grpIn (1 - kM1.number)).1, [115]⟩ : Snap) = kS := by rfl

theorem known5 : ∃ D1 D2, jouAppend [97] (diskJ0 65536 [97] [0, 1, 2]) (JouM.none0 [0, 1, 2]) [ke1, ke2] = ⟨D1, kM1, 0⟩ ∧ jouCompact [97] D1 kM1 ((1 : Nat) : Int) [115] = ⟨D2, kM2, 0⟩ := by
  have h0 := keep_start (room := 65536) (g := [0, 1, 2]) (by rfl)
  have hall : ∀ e ∈ [ke1, ke2], isEnt e = true := fun e he => by
    rcases (show e = ke1 ∨ e = ke2 from by simpa using he) with rfl | rfl <;> rfl
  have hlen : (recsB (entsB (JouM.none0 [0, 1, 2]).last [ke1, ke2])).length ≤ 200 := by
    have h1 := recsB_le (c := 47) (entsB (JouM.none0 [0, 1, 2]).last [ke1, ke2]) (ents_len2 (c := 1) _ _ (fun e he => ⟨hall e he, by rcases (show e = ke1 ∨ e = ke2 from by simpa using he) with rfl | rfl <;> decide⟩) (show 0 + 2 ≤ _ by decide))
    rw [entsB_len] at h1
    exact Nat.le_trans h1 (by decide)
  obtain ⟨D1, h1, h2⟩ := app_go h0 (by simp) hall (show 0 + 2 ≤ _ by decide) (.inr (by omega))
  have hok : kM2.OK := ⟨by decide, by rfl, by rfl, by rfl, ⟨by decide, by decide⟩, by decide, fun e he => by rw [show e = ke2 from by simpa [kM2] using he]; rfl⟩
  have hrl : ∀ l ∈ kM2.rows, l.length ≤ 200 := fun l hl => by
    rcases (show l = fstB 1 1 [0, 1, 2] ∨ l = trmB 0 (-1) ∨ l ∈ entsB 1 [ke2] from by simpa [JouM.rows, kM2] using hl) with rfl | rfl | hl
    · unfold fstB grpB
      have a : (numB 1).length ≤ 9 := numB_nine (by omega)
      have b := numI_len 1
      have c := numB_nine (n := ([0, 1, 2] : List Int).length) (by decide)
      have d := numsI_len [0, 1, 2]
      simp only [List.length_cons, List.length_append, List.length_nil] at c d ⊢
      omega
    · have := trmB_len 0 (-1)
      omega
    · have := ents_len2 (c := 1) 1 [ke2] (fun e he => by rw [show e = ke2 from by simpa using he]; exact ⟨rfl, by decide⟩) (by decide) l hl
      omega
  have hrl2 := recsB_le (c := 200) kM2.rows hrl
  have hbl : kS.bytes.length ≤ 200 := by
    unfold Snap.bytes kS snpB grpB rowB
    have a : (numB 1).length ≤ 9 := numB_nine (by omega)
    have b := numI_len 1
    have c := numB_nine (n := ([0, 1, 2] : List Int).length) (by decide)
    have d := numsI_len [0, 1, 2]
    have f := numB_nine (n := ([115] : Bs).length) (by decide)
    simp only [List.length_cons, List.length_append, List.length_nil] at c d f ⊢
    omega
  have hM1 : ({ JouM.none0 [0, 1, 2] with entries := (JouM.none0 [0, 1, 2]).entries ++ [ke1, ke2] } : JouM) = kM1 := rfl
  rw [hM1] at h1 h2
  obtain ⟨D2, h3, h4⟩ := goes_go h2 (s := kS) ⟨by decide, by rfl, by rfl, by decide⟩ (by decide) (by decide) (by omega) (by rw [kM2_is]; exact hok) (by decide) (by rw [kM2_is]; exact fun l hl => Nat.le_trans (hrl l hl) (by decide)) (by
    rw [kM2_is]
    have : kM2.rows.length = 3 := rfl
    rw [this] at hrl2
    omega)
  refine ⟨D1, D2, h1, ?_⟩
  rw [compact_go h2 (show 0 < 1 by decide) (show 1 ≤ 2 by decide) (by decide), kS_is, h3, kM2_is]
end Go.Proofs.YtapfnehdgailmaaGreat

namespace Go.Proofs.YtapfnehdgailmaaGreat
open Go.RowKit Go.Sat Go.Maps

section
variable {w w1 w2 : World} {j d : Nat} {pre : ByteArray} {D : DiskM} {M : JouM} {F F2 : Nat → Prop}

theorem open_bad {D' : DiskM} {M' : JouM} {k : Nat} {r : DiskM × Nat × JouM} (h : St w w2 d D' F) (hs : Same F w1 w2) (hr : r = (D', k, M')) (hk : k ≠ 0) : OpenJTold w w1 d pre F r (.returned (.tuple #[.pointer none, .int .i64 (k : Int)])) w2 := by
  subst hr
  exact ⟨h, hs, .inr ⟨hk, rfl⟩⟩
theorem open_good {D' : DiskM} {M' : JouM} {r : DiskM × Nat × JouM} (h : JouF w w2 j d pre D' M' F) (hs : Same F w1 w2) (hr : r = (D', 0, M')) : OpenJTold w w1 d pre F r (.returned (.tuple #[.pointer (some ⟨j, 0, none⟩), .int .i64 0])) w2 := by
  subst hr
  exact ⟨h.stF, hs, .inl ⟨rfl, j, rfl, h⟩⟩

/-- The data is laid into the journal's cell. -/
theorem jou_data (h : JouF w w1 j d pre D M F) {dv : Value} {b : Bs} (hd : OwnB w1 5 dv b) (hF : ∀ k, dv.ownBlock = some k → F k ∧ w.heap.size ≤ k) (hF2 : ∀ k, F2 k → F k ∧ dv.ownBlock ≠ some k) (hb : b.length ≤ 1073741824) :
    JouF w (w1.setCell ⟨j, 7, none⟩ dv) j d pre D { M with data := b } F2 ∧ Same F2 w1 (w1.setCell ⟨j, 7, none⟩ dv) := by
  obtain ⟨own, gv, dv0, ev, vs, hJ, hS, hn, hl⟩ := h
  have hnd : ∀ k, dv.ownBlock = some k → ¬ own k := fun k hk ho => (hn k ho).2 (hF k hk).1
  have hs : ∀ k, k ≠ j → (w1.setCell ⟨j, 7, none⟩ dv).heap[k]? = w1.heap[k]? := fun k hk => set_other _ hk
  have hdj : ∀ k, dv.ownBlock = some k → k ≠ j := fun k hk e => hnd k hk (e ▸ hJ.ol)
  refine JouF.turned2 (M' := { M with data := b }) (own' := fun k => own k ∨ dv.ownBlock = some k) (gv' := gv) (dv' := dv) (ev' := ev) (vs' := vs) hS hn hl ⟨?_, OwnR.keep hJ.group fun k hk => hs k (hJ.og k hk).2.1, OwnR.keep hd fun k hk => hs k (hdj k hk), hJ.row.keep fun k hk => hs k (hJ.oe k hk).2, ⟨hJ.rows.1, fun i e v h1 h2 => (hJ.rows.2 i e v h1 h2).keep fun k hk => hs k (hJ.ov v (List.mem_of_getElem? h2) k hk).2.1⟩, .inl hJ.ol, fun k hk => ⟨.inl (hJ.og k hk).1, (hJ.og k hk).2⟩, fun k hk => ⟨.inr hk, hdj k hk, fun e => hnd k hk (hJ.oe k e).1⟩, fun k hk => ⟨.inl (hJ.oe k hk).1, (hJ.oe k hk).2⟩, fun u hu k hk => ⟨.inl (hJ.ov u hu k hk).1, (hJ.ov u hu k hk).2⟩, fun k hk => ?_, hJ.psz, ⟨hJ.ok.last, hJ.ok.term, hJ.ok.group, hJ.ok.now, hJ.ok.vote, hb, hJ.ok.ents⟩⟩ ((Chg.setCell w1 ⟨j, 7, none⟩ dv).mono fun x _ e => by rw [e]; exact hJ.ol) (fun k hk => ?_) fun k hk => ⟨(hF2 k hk).1, fun ho => ?_⟩
  · have h1 := set_block hJ.cells 7 dv
    simpa using h1
  · have : k < w1.heap.size := hk.elim (hJ.olt k) fun h => OwnR.lt hd h
    simpa [World.setCell] using this
  · exact hk.imp id fun h => .inr (hF k h)
  · rcases ho with ho | ho
    · exact (hn k ho).2 (hF2 k hk).1
    · exact (hF2 k hk).2 ho

set_option maxRecDepth 100000 in
set_option maxHeartbeats 32000000 in
theorem jopen_calls (h : St w w1 d D F) (hroom : D.room ≤ 1048576) (pre : ByteArray) {nodes : List Int} {pn : Option Addr} {nn cn : Nat} (hx : HasI w1 (.slice pn nn cn) nodes) (hnl : nodes.length ≤ 1099511627776) :
    Calls Tryz.prog 17 #[.pointer (some ⟨d, 0, none⟩), .string pre, .slice pn nn cn] w1 (OpenJTold w w1 d pre F (jouOpen D (nm pre) nodes)) := by
  have hsz : (nm pre).length = pre.size := nm_len pre
  have Hgr := Lib.hid (isgrp_calls hx hnl)
  by_cases hp : pre.size < 1 ∨ 20 < pre.size
  · have HE := Lib.hid (open_bad (pre := pre) (k := 1) h (fun _ _ => rfl) (oj_arg (pre := nm pre) (nodes := nodes) (by rw [hsz]; exact hp.elim .inl fun h => .inr (.inl h))) (by decide))
    clear h hsz hx
    generalize hzz : pre.size = z at *
    by_cases hz : z < 1
    · have hz0 : z = 0 := by omega
      subst hz0
      go_enter Tryz.func17, Tryz.ntmps17
      go_wp2_with fail
      go_ret2
      exact HE.out
    · have hz6 : 20 < z := by omega
      go_enter Tryz.func17, Tryz.ntmps17
      go_wp2_with fail
      go_ret2
      exact HE.out
  · cases hgg : isGrp nodes with
    | false =>
      rw [hgg] at Hgr
      have HE := Lib.hid (open_bad (pre := pre) (k := 1) h (fun _ _ => rfl) (oj_arg (pre := nm pre) (nodes := nodes) (.inr (.inr hgg))) (by decide))
      clear h hsz hx hgg
      generalize hzz : pre.size = z at *
      go_enter Tryz.func17, Tryz.ntmps17
      go_wp2_with fail
      refine Hgr.out.mono ?_
      rintro e w2 ⟨rfl, rfl⟩
      go_wp2_with fail
      go_ret2
      exact HE.out
    | true =>
      rw [hgg] at Hgr
      have hps : 1 ≤ pre.size ∧ pre.size ≤ 20 := by omega
      have hok : ¬ ((nm pre).length < 1 ∨ 20 < (nm pre).length ∨ isGrp nodes = false) := by
        rw [hsz]
        rintro (h | h | h)
        · omega
        · omega
        · rw [hgg] at h
          cases h
      obtain ⟨O⟩ := opensJ_of D (nm pre) nodes
      have hrm1 := rid1_room D (shadowN (logN (nm pre)))
      rw [O.h1] at hrm1
      have hrm2 := rid1_room O.D1 (shadowN (snpN (nm pre)))
      rw [O.h2] at hrm2
      have Hrm := Lib.hid (show O.D2.room ≤ 1048576 by have h1 : O.D1.room = D.room := hrm1; have h2 : O.D2.room = O.D1.room := hrm2; omega)
      have Hh1 := Lib.hid O.h1
      have Hh2 := Lib.hid O.h2
      have Hhs := Lib.hid O.hs
      have Hhl := Lib.hid O.hl
      have HE1 := Lib.hid (oj_e1 O hok)
      have HE2 := Lib.hid (oj_e2 O hok)
      have HE3 := Lib.hid (oj_e3 O hok)
      have HE4 := Lib.hid (oj_e4 O hok)
      have HNo := Lib.hid (oj_no O hok)
      have HKp := Lib.hid (fun M => oj_keep O hok (M := M))
      have HAn := Lib.hid (fun M => oj_anew O hok (M := M))
      clear hrm1 hrm2
      generalize O.D1 = D1 at *
      generalize O.e1 = e1 at *
      generalize O.D2 = D2 at *
      generalize O.e2 = e2 at *
      generalize O.s = sn at *
      generalize O.l = li at *
      clear O
      obtain ⟨ks, so⟩ := sn
      obtain ⟨D3, e3, a3, M3⟩ := li
      have HE3 := Lib.hid (show e1 = 0 → e2 = 0 → ks ≠ 0 → jouOpen D (nm pre) nodes = (D2, ks, JouM.none0 nodes) from HE3.out)
      have HE4 := Lib.hid (show e1 = 0 → e2 = 0 → ks = 0 → e3 ≠ 0 → jouOpen D (nm pre) nodes = (D3, e3, JouM.none0 nodes) from HE4.out)
      have HNo := Lib.hid (show e1 = 0 → e2 = 0 → ks = 0 → e3 = 0 → joins so M3 a3 = none → jouOpen D (nm pre) nodes = (D3, 3, JouM.none0 nodes) from HNo.out)
      have HKp := Lib.hid (show ∀ M, e1 = 0 → e2 = 0 → ks = 0 → e3 = 0 → joins so M3 a3 = some (false, M) → jouOpen D (nm pre) nodes = (D3, 0, M) from HKp.out)
      have HAn := Lib.hid (show ∀ M, e1 = 0 → e2 = 0 → ks = 0 → e3 = 0 → joins so M3 a3 = some (true, M) → jouOpen D (nm pre) nodes = ((writesJ D3 (nm pre) M).1, (writesJ D3 (nm pre) M).2, M) from HAn.out)
      have Hcl := Lib.hid (icl_calls hx hnl)
      have HS := Lib.hid h
      have hpz1 := hps.1
      have hpz2 := hps.2
      have hsl : (sLog pre).size = pre.size + 4 := size_log pre
      have hssn : (sSnp pre).size = pre.size + 5 := size_snp pre
      have Hgg := Lib.hid hgg
      have i0 : ∀ (W : World) (a b : ByteArray), (Instr.index 133 (.agg #[.string a, .string b]) (.int .i64 0)).run Tryz.prog W = .ok (.string a) W := fun _ _ _ => by kernel_rfl
      have i1 : ∀ (W : World) (a b : ByteArray), (Instr.index 133 (.agg #[.string a, .string b]) (.int .i64 1)).run Tryz.prog W = .ok (.string b) W := fun _ _ _ => by kernel_rfl
      clear h hsz hx hgg hok hp
      go_enter Tryz.func17, Tryz.ntmps17
      go_wp2_with fail
      refine Hgr.out.mono ?_
      rintro e w2 ⟨rfl, rfl⟩
      go_wp2_with fail
      refine Hcl.out.mono ?_
      rintro e w3 ⟨gv, rfl, hgv, hgn, hb3⟩
      obtain ⟨pg, cg, rfl, -⟩ := own_capI hgv
      have HJ0 := Lib.hid (jou_fresh (F := F) (HS.out.move (F' := fun k => F k ∨ (Value.slice pg nodes.length cg).ownBlock = some k) (Chg.of_below hb3) (fun _ _ h => h.elim) fun k hk => hk.elim (fun h => ⟨.inl h, Nat.lt_of_lt_of_le (HS.out.flt h) hb3.size⟩) fun h => ⟨.inr (hgn k h), OwnR.lt hgv h⟩) pre hps Hgg.out hgv fun k hk => ⟨Nat.le_trans HS.out.below.size (hgn k hk), fun hf => by have h1 := HS.out.flt hf; have h2 := hgn k hk; omega⟩)
      have HS0 := Lib.hid (show Same F w2 (w3.alloc (.cells #[.int .i64 0, .int .i64 0, .slice pg nodes.length cg, .pointer (some ⟨d, 0, none⟩), .string pre, .int .i64 0, .int .i64 (-1), .slice none 0 0, .slice none 0 0, .bool false] 132)) from fun k hk => ((below_one w3 (.cells #[.int .i64 0, .int .i64 0, .slice pg nodes.length cg, .pointer (some ⟨d, 0, none⟩), .string pre, .int .i64 0, .int .i64 (-1), .slice none 0 0, .slice none 0 0, .bool false] 132)).block k (Nat.lt_of_lt_of_le (HS.out.flt hk) hb3.size)).trans (hb3.block k (HS.out.flt hk)))
      clear hgv hgn hb3 Hcl Hgr HS
      generalize hw1 : w2 = w1 at *
      clear hw1
      go_wp2_with fail
      generalize w3.heap.size = j at *
      generalize w3.alloc (.cells #[.int .i64 0, .int .i64 0, .slice pg nodes.length cg, .pointer (some ⟨d, 0, none⟩), .string pre, .int .i64 0, .int .i64 (-1), .slice none 0 0, .slice none 0 0, .bool false] 132) = W0 at *
      go_loopw [51] (fun x wr => Same F w1 wr ∧ ((x = .int .i64 0 ∧ JouF w wr j d pre D (JouM.none0 nodes) F) ∨ (x = .int .i64 1 ∧ e1 = 0 ∧ JouF w wr j d pre D1 (JouM.none0 nodes) F) ∨ (x = .int .i64 2 ∧ e1 = 0 ∧ e2 = 0 ∧ JouF w wr j d pre D2 (JouM.none0 nodes) F))) (fun i _ => 2 - (intOf i).toNat)
      case atStart => exact ⟨HS0.out, .inl ⟨rfl, HJ0.out⟩⟩
      case round =>
        clear HJ0 HS0
        obtain ⟨hsm, hx⟩ := hrel
        rcases hx with ⟨rfl, hJ⟩ | ⟨rfl, he1, hJ⟩ | ⟨rfl, he1, he2, hJ⟩
        · have Hrd := Lib.hid (jou_read hJ (sShadow (sLog pre)) (by rw [size_sha, hsl]; omega))
          rw [nm_sha, nm_log] at Hrd
          have HJw := Lib.hid hJ
          have HSw := Lib.hid hsm
          cases hg : Sat.get (shadowN (logN (nm pre))) D.files with
          | none =>
            have hr : D.rid1 (shadowN (logN (nm pre))) = (D, 0) := by unfold DiskM.rid1; rw [hg]; rfl
            have hr2 := Hh1.out
            rw [hr] at hr2
            have hr3 : D = D1 := congrArg Prod.fst hr2
            have hr4 : 0 = e1 := congrArg Prod.snd hr2
            have hr7 : readE (none : Option FileM) = 7 := rfl
            rw [hg, hr7] at Hrd
            have He0 := Lib.hid (show e1 = 0 from hr4.symm)
            have HJn := Lib.hid (show JouF w wr j d pre D1 (JouM.none0 nodes) F from hr3 ▸ HJw.out)
            clear hJ hsm hg hr hr2 hr3 hr4 hr7
            go_wp2_with fail
            refine Hrd.out.mono ?_
            rintro e w3 ⟨v3, rfl, -, -, hb3⟩
            have HE := Lib.hid (And.intro (HSw.out.trans (HJw.out.same hb3)) (HJn.out.next hb3))
            clear hb3 Hrd
            go_wp2_with fail
            go_roundw
            case rel => first | exact ⟨HE.out.1, .inr (.inl ⟨rfl, He0.out, HE.out.2⟩)⟩ | ((repeat apply Exists.intro); exact ⟨⟨HE.out.1, .inr (.inl ⟨rfl, He0.out, HE.out.2⟩)⟩, rfl⟩)
            case measure => simp [intOf]
          | some f =>
            have hr : D.remove [shadowN (logN (nm pre))] = (D1, e1) := by
              have := Hh1.out
              unfold DiskM.rid1 at this
              rw [hg] at this
              exact this
            have hr0 : readE (some f) = 0 := rfl
            rw [hg, hr0] at Hrd
            have Hrm := Lib.hid (fun W (h : JouF w W j d pre D (JouM.none0 nodes) F) => show Calls Tryz.prog 76 #[.pointer (some ⟨d, 0, none⟩), .slice (some ⟨W.heap.size, 0, none⟩) 1 1] (W.alloc (.cells #[.string (sShadow (sLog pre))] 9)) fun e w' => e = .returned (.int .i64 (e1 : Int)) ∧ JouF w w' j d pre D1 (JouM.none0 nodes) F ∧ Same F W w' ∧ w'.heap[j]? = W.heap[j]? from by
              have := jou_remove h (sShadow (sLog pre)) (by rw [size_sha, hsl]; omega)
              rwa [nm_sha, nm_log, hr] at this)
            clear hJ hsm hg hr hr0
            by_cases he : e1 = 0
            · have He0 := Lib.hid he
              rw [he] at Hrm
              clear he
              go_wp2_with fail
              refine Hrd.out.mono ?_
              rintro e w3 ⟨v3, rfl, -, -, hb3⟩
              have HJ3 := Lib.hid (HJw.out.next hb3)
              have HS3 := Lib.hid (HSw.out.trans (HJw.out.same hb3))
              clear hb3 Hrd
              go_wp2_with fail
              refine (Hrm.out w3 HJ3.out).mono ?_
              rintro e w4 ⟨rfl, hj4, hs4, -⟩
              have HE := Lib.hid (And.intro (HS3.out.trans hs4) hj4)
              clear hj4 hs4 Hrm
              go_wp2_with fail
              go_roundw
              case rel => first | exact ⟨HE.out.1, .inr (.inl ⟨rfl, He0.out, HE.out.2⟩)⟩ | ((repeat apply Exists.intro); exact ⟨⟨HE.out.1, .inr (.inl ⟨rfl, He0.out, HE.out.2⟩)⟩, rfl⟩)
              case measure => simp [intOf]
            · have hne : ((e1 : Int) != 0) = true := by simp; omega
              have HR := Lib.hid (HE1.out he)
              have He := Lib.hid he
              clear he
              go_wp2_with fail
              refine Hrd.out.mono ?_
              rintro e w3 ⟨v3, rfl, -, -, hb3⟩
              have HJ3 := Lib.hid (HJw.out.next hb3)
              have HS3 := Lib.hid (HSw.out.trans (HJw.out.same hb3))
              clear hb3 Hrd
              go_wp2_with fail
              refine (Hrm.out w3 HJ3.out).mono ?_
              rintro e w4 ⟨rfl, hj4, hs4, -⟩
              have HE := Lib.hid (open_bad (pre := pre) (w1 := w1) hj4.stF (HS3.out.trans hs4) HR.out He.out)
              clear hj4 hs4 Hrm
              go_wp2_with fail
              go_ret2
              exact HE.out
        · have He1 := Lib.hid he1
          clear he1
          have Hrd := Lib.hid (jou_read hJ (sShadow (sSnp pre)) (by rw [size_sha, hssn]; omega))
          rw [nm_sha, nm_snp] at Hrd
          have HJw := Lib.hid hJ
          have HSw := Lib.hid hsm
          cases hg : Sat.get (shadowN (snpN (nm pre))) D1.files with
          | none =>
            have hr : D1.rid1 (shadowN (snpN (nm pre))) = (D1, 0) := by unfold DiskM.rid1; rw [hg]; rfl
            have hr2 := Hh2.out
            rw [hr] at hr2
            have hr3 : D1 = D2 := congrArg Prod.fst hr2
            have hr4 : 0 = e2 := congrArg Prod.snd hr2
            have hr7 : readE (none : Option FileM) = 7 := rfl
            rw [hg, hr7] at Hrd
            have He0 := Lib.hid (show e2 = 0 from hr4.symm)
            have HJn := Lib.hid (show JouF w wr j d pre D2 (JouM.none0 nodes) F from hr3 ▸ HJw.out)
            clear hJ hsm hg hr hr2 hr3 hr4 hr7
            go_wp2_with fail
            refine Hrd.out.mono ?_
            rintro e w3 ⟨v3, rfl, -, -, hb3⟩
            have HE := Lib.hid (And.intro (HSw.out.trans (HJw.out.same hb3)) (HJn.out.next hb3))
            clear hb3 Hrd
            go_wp2_with fail
            go_roundw
            case rel => first | exact ⟨HE.out.1, .inr (.inr ⟨rfl, He1.out, He0.out, HE.out.2⟩)⟩ | ((repeat apply Exists.intro); exact ⟨⟨HE.out.1, .inr (.inr ⟨rfl, He1.out, He0.out, HE.out.2⟩)⟩, rfl⟩)
            case measure => simp [intOf]
          | some f =>
            have hr : D1.remove [shadowN (snpN (nm pre))] = (D2, e2) := by
              have := Hh2.out
              unfold DiskM.rid1 at this
              rw [hg] at this
              exact this
            have hr0 : readE (some f) = 0 := rfl
            rw [hg, hr0] at Hrd
            have Hrm := Lib.hid (fun W (h : JouF w W j d pre D1 (JouM.none0 nodes) F) => show Calls Tryz.prog 76 #[.pointer (some ⟨d, 0, none⟩), .slice (some ⟨W.heap.size, 0, none⟩) 1 1] (W.alloc (.cells #[.string (sShadow (sSnp pre))] 9)) fun e w' => e = .returned (.int .i64 (e2 : Int)) ∧ JouF w w' j d pre D2 (JouM.none0 nodes) F ∧ Same F W w' ∧ w'.heap[j]? = W.heap[j]? from by
              have := jou_remove h (sShadow (sSnp pre)) (by rw [size_sha, hssn]; omega)
              rwa [nm_sha, nm_snp, hr] at this)
            clear hJ hsm hg hr hr0
            by_cases he : e2 = 0
            · have He0 := Lib.hid he
              rw [he] at Hrm
              clear he
              go_wp2_with fail
              refine Hrd.out.mono ?_
              rintro e w3 ⟨v3, rfl, -, -, hb3⟩
              have HJ3 := Lib.hid (HJw.out.next hb3)
              have HS3 := Lib.hid (HSw.out.trans (HJw.out.same hb3))
              clear hb3 Hrd
              go_wp2_with fail
              refine (Hrm.out w3 HJ3.out).mono ?_
              rintro e w4 ⟨rfl, hj4, hs4, -⟩
              have HE := Lib.hid (And.intro (HS3.out.trans hs4) hj4)
              clear hj4 hs4 Hrm
              go_wp2_with fail
              go_roundw
              case rel => first | exact ⟨HE.out.1, .inr (.inr ⟨rfl, He1.out, He0.out, HE.out.2⟩)⟩ | ((repeat apply Exists.intro); exact ⟨⟨HE.out.1, .inr (.inr ⟨rfl, He1.out, He0.out, HE.out.2⟩)⟩, rfl⟩)
              case measure => simp [intOf]
            · have hne : ((e2 : Int) != 0) = true := by simp; omega
              have HR := Lib.hid (HE2.out He1.out he)
              have He := Lib.hid he
              clear he
              go_wp2_with fail
              refine Hrd.out.mono ?_
              rintro e w3 ⟨v3, rfl, -, -, hb3⟩
              have HJ3 := Lib.hid (HJw.out.next hb3)
              have HS3 := Lib.hid (HSw.out.trans (HJw.out.same hb3))
              clear hb3 Hrd
              go_wp2_with fail
              refine (Hrm.out w3 HJ3.out).mono ?_
              rintro e w4 ⟨rfl, hj4, hs4, -⟩
              have HE := Lib.hid (open_bad (pre := pre) (w1 := w1) hj4.stF (HS3.out.trans hs4) HR.out He.out)
              clear hj4 hs4 Hrm
              go_wp2_with fail
              go_ret2
              exact HE.out
        · have He1 := Lib.hid he1
          have He2 := Lib.hid he2
          have HJ2 := Lib.hid hJ
          have HS2 := Lib.hid hsm
          have Hsn := Lib.hid (rsnap_calls hJ)
          rw [Hhs.out] at Hsn
          have Hlen := Lib.hid (fun (h3 : e3 = 0) => readLog_len hJ.okD Hrm.out (show (JouM.none0 nodes).entries = [] from rfl) (Hhl.out.trans (by rw [h3])))
          clear he1 he2 hJ hsm
          go_wp2_with fail
          refine Hsn.out.mono ?_
          intro e w4 hT
          obtain ⟨hb4, n, t, gp, gn, gc, dv, rfl, hsn⟩ := hT
          have HJ4 := Lib.hid (HJ2.out.next hb4)
          have HS4 := Lib.hid (HS2.out.trans (HJ2.out.same hb4))
          have Hb4 := Lib.hid hb4
          have Hsn4 := Lib.hid hsn
          clear hb4 hsn Hsn
          by_cases hks : ks = 0
          · have Hks := Lib.hid hks
            cases so with
            | none =>
              have HRL := Lib.hid (rlog_calls (HJ4.out.box (.cells #[.int .i64 n, .int .i64 t, .slice gp gn gc] 130)) (show (JouM.none0 nodes).entries = [] from rfl))
              rw [Hhl.out] at HRL
              have HSB := Lib.hid (HS4.out.trans (HJ4.out.same (below_one w4 (.cells #[.int .i64 n, .int .i64 t, .slice gp gn gc] 130))))
              have HBX := Lib.hid (new_block w4 (.cells #[.int .i64 n, .int .i64 t, .slice gp gn gc] 130))
              subst hks
              go_wp2_with fail
              generalize w4.alloc (.cells #[.int .i64 n, .int .i64 t, .slice gp gn gc] 130) = w5 at *
              refine HRL.out.mono ?_
              rintro e w6 ⟨rfl, hst6, hs6, hj6⟩
              by_cases he3 : e3 = 0
              · have He3 := Lib.hid he3
                have HJ6 := Lib.hid ((hj6 he3).less (F' := F) fun k hk => .inl hk)
                have HS6 := Lib.hid (HSB.out.trans fun k hk => hs6 k (.inl hk))
                subst he3
                clear hst6 hs6 hj6
                obtain ⟨own, gv, dv0, ev, vs, hJ6, -⟩ := id HJ6.out
                have c0 := hJ6.c 0 rfl
                clear hJ6
                by_cases hn0 : 0 < M3.number
                · have HR := Lib.hid (HNo.out He1.out He2.out Hks.out He3.out (show joins none M3 a3 = none from by unfold joins; exact if_pos hn0))
                  have HE := Lib.hid (fun q => open_bad (pre := pre) (w1 := w1) (HJ6.out.drewN q).stF HS6.out HR.out (by decide))
                  have d0 : decide ((0 : Int) < (M3.number : Int)) = true := by simp; omega
                  have d0n : decide (0 < M3.number) = true := by simp; omega
                  clear hn0
                  go_wp2_with fail
                  go_quiet (fail)
                  go_wp2_with fail
                  go_quiet (fail)
                  go_wp2_with fail
                  go_ret2
                  exact HE.out _
                · have HJn := Lib.hid (show joins none M3 a3 = some (a3, M3) from by unfold joins; exact if_neg hn0)
                  have d0 : decide ((0 : Int) < (M3.number : Int)) = false := by simp; omega
                  have d0n : decide (0 < M3.number) = false := by simp; omega
                  clear hn0
                  cases a3 with
                  | false =>
                    have HR := Lib.hid (HKp.out M3 He1.out He2.out Hks.out He3.out HJn.out)
                    have HE := Lib.hid (fun q => open_good (pre := pre) (w1 := w1) (HJ6.out.drewN q) HS6.out HR.out)
                    go_wp2_with fail
                    go_quiet (fail)
                    go_wp2_with fail
                    go_quiet (fail)
                    go_wp2_with fail
                    go_ret2
                    exact HE.out _
                  | true =>
                    have HR0 := HAn.out M3 He1.out He2.out Hks.out He3.out HJn.out
                    go_wp2_with fail
                    go_quiet (fail)
                    go_wp2_with fail
                    go_quiet (fail)
                    go_wp2_with fail
                    generalize hWQ : (World.drewN _ _) = WQ
                    have HJQ := Lib.hid (show JouF w WQ j d pre D3 M3 F from by rw [← hWQ]; exact HJ6.out.drewN _)
                    have HSQ := Lib.hid (show Same F w1 WQ from by rw [← hWQ]; exact HS6.out)
                    clear hWQ c0
                    cases hwj : writesJ D3 (nm pre) M3 with
                    | mk D4 e4 =>
                      have Hwj := Lib.hid (show Calls Tryz.prog 80 #[.pointer (some ⟨j, 0, none⟩)] WQ (WritTold w WQ j d pre M3 F (D4, e4)) from by
                        have := jwrites_calls HJQ.out (Hlen.out He3.out)
                        rwa [hwj] at this)
                      have HR := HR0
                      rw [hwj] at HR
                      have HR := Lib.hid HR
                      clear hwj
                      by_cases he4 : e4 = 0
                      · subst he4
                        go_wp2_with fail
                        refine Hwj.out.mono ?_
                        rintro e w9 ⟨rfl, hj9, hs9⟩
                        have HE := Lib.hid (open_good (pre := pre) (w1 := w1) hj9 (HSQ.out.trans hs9) HR.out)
                        clear hj9 hs9 Hwj
                        go_wp2_with fail
                        go_ret2
                        exact HE.out
                      · have hne : ((e4 : Int) != 0) = true := by simp; omega
                        have He4 := Lib.hid he4
                        clear he4
                        go_wp2_with fail
                        refine Hwj.out.mono ?_
                        rintro e w9 ⟨rfl, hj9, hs9⟩
                        have HE := Lib.hid (open_bad (pre := pre) (w1 := w1) (show St w w9 d D4 F from hj9.stF) (HSQ.out.trans hs9) HR.out He4.out)
                        clear hj9 hs9 Hwj
                        go_wp2_with fail
                        go_ret2
                        exact HE.out
              · have hne : ((e3 : Int) != 0) = true := by simp; omega
                have HE := Lib.hid (open_bad (pre := pre) (w1 := w1) (hst6.less (F := F) fun k hk => .inl hk) (HSB.out.trans fun k hk => hs6 k (.inl hk)) (HE4.out He1.out He2.out Hks.out he3) he3)
                clear hst6 hs6 hj6 he3
                go_wp2_with fail
                go_ret2
                exact HE.out
            | some s =>
              obtain ⟨rfl, rfl, hog, hod, hnw⟩ := Hsn4.out s rfl
              have hso := snapOf_ok (o := Sat.get (snpN (nm pre)) D2.files) (s := s) (by rw [Hhs.out])
              obtain ⟨pg2, cg2, eg, -⟩ := own_capI hog
              simp only [Value.slice.injEq] at eg
              obtain ⟨rfl, rfl, rfl⟩ := eg
              obtain ⟨pd, cd, rfl, -⟩ := own_cap0 hod
              have Hso := Lib.hid hso
              have Hnw := Lib.hid hnw
              have HOG := Lib.hid hog
              have HOD := Lib.hid hod
              have HJG := Lib.hid (show JouF w (w4.alloc (.cells #[.int .i64 (s.number : Int), .int .i64 s.term, .slice gp s.group.length gc] 130)) j d pre D2 (JouM.none0 nodes) (fun k => F k ∨ k = w4.heap.size ∨ ((Value.slice gp s.group.length gc).ownBlock = some k ∨ (Value.slice pd s.data.length cd).ownBlock = some k)) from (HJ2.out.more (Hb4.out.trans ((below_one w4 (.cells #[.int .i64 (s.number : Int), .int .i64 s.term, .slice gp s.group.length gc] 130)).mono Hb4.out.size)) fun k hk => by
                have hs4 : w4.heap.size < (w4.alloc (.cells #[.int .i64 (s.number : Int), .int .i64 s.term, .slice gp s.group.length gc] 130)).heap.size := by simp
                rcases hk with hk | hk | hk
                · exact .inl hk
                · exact .inr ⟨by rw [hk]; exact Hb4.out.size, by rw [hk]; exact hs4⟩
                · refine .inr ⟨Hnw.out k hk, Nat.lt_trans ?_ hs4⟩
                  exact hk.elim (OwnR.lt HOG.out) (OwnR.lt HOD.out)))
              have HRL := Lib.hid (rlog_calls HJG.out (show (JouM.none0 nodes).entries = [] from rfl))
              rw [Hhl.out] at HRL
              have HSB := Lib.hid (HS4.out.trans (HJ4.out.same (below_one w4 (.cells #[.int .i64 (s.number : Int), .int .i64 s.term, .slice gp s.group.length gc] 130))))
              have HBX := Lib.hid (new_block w4 (.cells #[.int .i64 (s.number : Int), .int .i64 s.term, .slice gp s.group.length gc] 130))
              have HOG2 := Lib.hid (ownI_far HOG.out (below_one w4 (.cells #[.int .i64 (s.number : Int), .int .i64 s.term, .slice gp s.group.length gc] 130)))
              have HOD2 := Lib.hid (ownB_far HOD.out (below_one w4 (.cells #[.int .i64 (s.number : Int), .int .i64 s.term, .slice gp s.group.length gc] 130)))
              have Hwl := Lib.hid (show ∀ k, ((Value.slice gp s.group.length gc).ownBlock = some k ∨ (Value.slice pd s.data.length cd).ownBlock = some k) → w.heap.size ≤ k ∧ ¬ F k from fun k hk => ⟨Nat.le_trans HJ2.out.bel.size (Hnw.out k hk), fun hf => by have h1 := HJ2.out.flt hf; have h2 := Hnw.out k hk; omega⟩)
              have Hbl := Lib.hid (show ∀ k, ((Value.slice gp s.group.length gc).ownBlock = some k ∨ (Value.slice pd s.data.length cd).ownBlock = some k) → k ≠ w4.heap.size from fun k hk e => by
                have := hk.elim (OwnR.lt HOG.out) (OwnR.lt HOD.out)
                omega)
              have Hb4F := Lib.hid (show ∀ k, F k → k ≠ w4.heap.size from fun k hf e => by have h1 := HJ4.out.flt hf; omega)
              subst hks
              clear hog hod hnw hso Hsn4
              go_wp2_with fail
              generalize w4.heap.size = b4 at *
              generalize w4.alloc (.cells #[.int .i64 (s.number : Int), .int .i64 s.term, .slice gp s.group.length gc] 130) = w5 at *
              refine HRL.out.mono ?_
              rintro e w6 ⟨rfl, hst6, hs6, hj6⟩
              by_cases he3 : e3 = 0
              · have He3 := Lib.hid he3
                have HJ6 := Lib.hid (hj6 he3)
                have HS6 := Lib.hid (HSB.out.trans fun k hk => hs6 k (.inl hk))
                have HX6 := Lib.hid ((hs6 b4 (.inr (.inl rfl))).trans HBX.out)
                have HOG6 := Lib.hid (OwnR.keep HOG2.out fun k hk => hs6 k (.inr (.inr (.inl hk))))
                have HOD6 := Lib.hid (OwnR.keep HOD2.out fun k hk => hs6 k (.inr (.inr (.inr hk))))
                subst he3
                clear hst6 hs6 hj6
                obtain ⟨own, gv, dv0, ev, vs, hJ6, -⟩ := id HJ6.out
                have c0 := hJ6.c 0 rfl
                have c7 := hJ6.c 7 rfl
                have f7 := hJ6.fr 7
                have z0 := cell_of HX6.out (i := 0) rfl
                have z1 := cell_of HX6.out (i := 1) rfl
                have z2 := cell_of HX6.out (i := 2) rfl
                clear hJ6
                by_cases hlt : M3.number < s.number
                · have HJn := Lib.hid (show joins (some s) M3 a3 = some (true, M3.rebase s) from by unfold joins; exact if_pos hlt)
                  have d0 : decide ((M3.number : Int) < (s.number : Int)) = true := by simp; omega
                  have d0n : decide (M3.number < s.number) = true := by simp; omega
                  have HR0 := HAn.out _ He1.out He2.out Hks.out He3.out HJn.out
                  clear hlt c7 f7
                  go_wp2_with fail
                  go_quiet (fail)
                  go_wp2_with fail
                  generalize hWQ : (World.drewN _ _) = WQ
                  have HJQ := Lib.hid (show JouF w WQ j d pre D3 M3 _ from by rw [← hWQ]; exact HJ6.out.drewN _)
                  have HSQ := Lib.hid (show Same F w1 WQ from by rw [← hWQ]; exact HS6.out)
                  have HXQ := Lib.hid (show WQ.heap[b4]? = some (.cells #[.int .i64 (s.number : Int), .int .i64 s.term, .slice gp s.group.length gc] 130 (0, 0)) from by rw [← hWQ]; exact HX6.out)
                  have Hrb := Lib.hid (jrebase_calls (F2 := F) HJQ.out Hso.out.1 (pg := gp) (cg := gc) (pd := pd) (cd := cd) (OwnR.keep HOG6.out fun k _ => by rw [← hWQ]; rfl) (OwnR.keep HOD6.out fun k _ => by rw [← hWQ]; rfl) (fun k hk => ⟨.inr (.inr hk), (Hwl.out k hk).1⟩) fun k hk => ⟨.inl hk, fun e => (Hwl.out k (.inl e)).2 hk, fun e => (Hwl.out k (.inr e)).2 hk⟩)
                  have z0 := cell_of HXQ.out (i := 0) rfl
                  have z1 := cell_of HXQ.out (i := 1) rfl
                  have z2 := cell_of HXQ.out (i := 2) rfl
                  clear hWQ c0
                  go_wp2_with fail
                  refine Hrb.out.mono ?_
                  rintro e w7 ⟨rfl, hj7, hs7⟩
                  have HJ7 := Lib.hid hj7
                  have HS7 := Lib.hid (HSQ.out.trans hs7)
                  clear hj7 hs7 Hrb z0 z1 z2
                  go_wp2_with fail
                  cases hwj : writesJ D3 (nm pre) (M3.rebase s) with
                  | mk D4 e4 =>
                    have Hwj := Lib.hid (show Calls Tryz.prog 80 #[.pointer (some ⟨j, 0, none⟩)] w7 (WritTold w w7 j d pre (M3.rebase s) F (D4, e4)) from by
                      have := jwrites_calls HJ7.out (Nat.le_trans (rebase_len M3 s) (Hlen.out He3.out))
                      rwa [hwj] at this)
                    have HR := HR0
                    rw [hwj] at HR
                    have HR := Lib.hid HR
                    clear hwj
                    by_cases he4 : e4 = 0
                    · subst he4
                      go_wp2_with fail
                      refine Hwj.out.mono ?_
                      rintro e w9 ⟨rfl, hj9, hs9⟩
                      have HE := Lib.hid (open_good (pre := pre) (w1 := w1) hj9 (HS7.out.trans hs9) HR.out)
                      clear hj9 hs9 Hwj
                      go_wp2_with fail
                      go_ret2
                      exact HE.out
                    · have hne : ((e4 : Int) != 0) = true := by simp; omega
                      have He4 := Lib.hid he4
                      clear he4
                      go_wp2_with fail
                      refine Hwj.out.mono ?_
                      rintro e w9 ⟨rfl, hj9, hs9⟩
                      have HE := Lib.hid (open_bad (pre := pre) (w1 := w1) (show St w w9 d D4 F from hj9.stF) (HS7.out.trans hs9) HR.out He4.out)
                      clear hj9 hs9 Hwj
                      go_wp2_with fail
                      go_ret2
                      exact HE.out
                · have d0 : decide ((M3.number : Int) < (s.number : Int)) = false := by simp; omega
                  have d0n : decide (M3.number < s.number) = false := by simp; omega
                  by_cases hgt : s.number < M3.number
                  · have HJn := Lib.hid (show joins (some s) M3 a3 = none from by unfold joins; exact (if_neg hlt).trans (if_pos hgt))
                    have d1 : decide ((s.number : Int) < (M3.number : Int)) = true := by simp; omega
                    have d1n : decide (s.number < M3.number) = true := by simp; omega
                    have HE := Lib.hid (fun q q2 => open_bad (pre := pre) (w1 := w1) (((HJ6.out.drewN q).drewN q2).stF.less (F := F) fun k hk => .inl hk) HS6.out (HNo.out He1.out He2.out Hks.out He3.out HJn.out) (by decide))
                    clear hlt hgt c7 f7
                    go_wp2_with fail
                    go_quiet (fail)
                    go_wp2_with fail
                    go_quiet (fail)
                    go_wp2_with fail
                    go_ret2
                    exact HE.out _ _
                  · have HJn := Lib.hid (show joins (some s) M3 a3 = some (a3, { M3 with data := s.data }) from by unfold joins; exact (if_neg hlt).trans (if_neg hgt))
                    have d1 : decide ((s.number : Int) < (M3.number : Int)) = false := by simp; omega
                    have d1n : decide (s.number < M3.number) = false := by simp; omega
                    clear hlt hgt
                    have Hdt := Lib.hid (fun q => jou_data (F2 := F) (HJ6.out.drewN q) (dv := .slice pd s.data.length cd) (OwnR.keep HOD6.out fun _ _ => rfl) (fun k hk => ⟨.inr (.inr (.inr hk)), (Hwl.out k (.inr hk)).1⟩) (fun k hk => ⟨.inl hk, fun e => (Hwl.out k (.inr e)).2 hk⟩) (Nat.le_trans Hso.out.2.1 (by decide)))
                    cases a3 with
                    | false =>
                      have HR := Lib.hid (HKp.out _ He1.out He2.out Hks.out He3.out HJn.out)
                      have HE := Lib.hid (fun q => open_good (pre := pre) (w1 := w1) (Hdt.out q).1 (HS6.out.trans (Hdt.out q).2) HR.out)
                      go_wp2_with fail
                      go_quiet (fail)
                      go_wp2_with fail
                      go_quiet (fail)
                      go_wp2_with fail
                      go_ret2
                      exact HE.out _
                    | true =>
                      have HR0 := HAn.out _ He1.out He2.out Hks.out He3.out HJn.out
                      go_wp2_with fail
                      go_quiet (fail)
                      go_wp2_with fail
                      go_quiet (fail)
                      go_wp2_with fail
                      generalize hWQ : (World.setCell _ _ _) = WQ
                      have HJQ := Lib.hid (show JouF w WQ j d pre D3 { M3 with data := s.data } F from by rw [← hWQ]; exact (Hdt.out _).1)
                      have HSQ := Lib.hid (show Same F w1 WQ from by rw [← hWQ]; exact HS6.out.trans (Hdt.out _).2)
                      clear hWQ c0 c7 f7 z0 z1 z2
                      cases hwj : writesJ D3 (nm pre) { M3 with data := s.data } with
                      | mk D4 e4 =>
                        have Hwj := Lib.hid (show Calls Tryz.prog 80 #[.pointer (some ⟨j, 0, none⟩)] WQ (WritTold w WQ j d pre { M3 with data := s.data } F (D4, e4)) from by
                          have := jwrites_calls HJQ.out (Hlen.out He3.out)
                          rwa [hwj] at this)
                        have HR := HR0
                        rw [hwj] at HR
                        have HR := Lib.hid HR
                        clear hwj
                        by_cases he4 : e4 = 0
                        · subst he4
                          go_wp2_with fail
                          refine Hwj.out.mono ?_
                          rintro e w9 ⟨rfl, hj9, hs9⟩
                          have HE := Lib.hid (open_good (pre := pre) (w1 := w1) hj9 (HSQ.out.trans hs9) HR.out)
                          clear hj9 hs9 Hwj
                          go_wp2_with fail
                          go_ret2
                          exact HE.out
                        · have hne : ((e4 : Int) != 0) = true := by simp; omega
                          have He4 := Lib.hid he4
                          clear he4
                          go_wp2_with fail
                          refine Hwj.out.mono ?_
                          rintro e w9 ⟨rfl, hj9, hs9⟩
                          have HE := Lib.hid (open_bad (pre := pre) (w1 := w1) (show St w w9 d D4 F from hj9.stF) (HSQ.out.trans hs9) HR.out He4.out)
                          clear hj9 hs9 Hwj
                          go_wp2_with fail
                          go_ret2
                          exact HE.out
              · have hne : ((e3 : Int) != 0) = true := by simp; omega
                have HE := Lib.hid (open_bad (pre := pre) (w1 := w1) (hst6.less (F := F) fun k hk => .inl hk) (HSB.out.trans fun k hk => hs6 k (.inl hk)) (HE4.out He1.out He2.out Hks.out he3) he3)
                clear hst6 hs6 hj6 he3
                go_wp2_with fail
                go_ret2
                exact HE.out
          · have hne : ((ks : Int) != 0) = true := by simp; omega
            have HE := Lib.hid (open_bad (pre := pre) (w1 := w1) ((HJ4.out.box (.cells #[.int .i64 n, .int .i64 t, .slice gp gn gc] 130)).stF.less (F := F) fun k hk => .inl hk) (HS4.out.trans (HJ4.out.same (below_one w4 _))) (HE3.out He1.out He2.out hks) hks)
            clear hks
            go_wp2_with fail
            go_ret2
            exact HE.out
end
end Go.Proofs.YtapfnehdgailmaaGreat

namespace Go.Proofs.YtapfnehdgailmaaGreat
open Go.RowKit Go.Sat Go.Maps

theorem xor_range (a b : Int) (h1 : 0 ≤ a) (h2 : a < 4294967296) (h3 : 0 ≤ b) (h4 : b < 4294967296) : 0 ≤ bits .xor .u32 a b ∧ bits .xor .u32 a b < 4294967296 := by
  rw [u32_xor a b h1 h2 h3 h4]
  have : a.toNat ^^^ b.toNat < 2 ^ 32 := Nat.xor_lt_two_pow (by omega) (by omega)
  omega

theorem and_one (z : Int) (h1 : 0 ≤ z) (h2 : z < 4294967296) : bits .and .u32 z 1 = 0 ∨ bits .and .u32 z 1 = 1 := by
  rw [u32_and z 1 h1 h2 (by decide) (by decide)]
  have : z.toNat &&& (1 : Int).toNat = z.toNat % 2 := Nat.and_one_is_mod _
  rw [this]
  omega

theorem bitF_one {z : Int} (h : bits .and .u32 z 1 = 1) : bitF z = bits .xor .u32 (z / 2) 3988292384 := by
  unfold bitF
  rw [h]
  congr 1

theorem bitF_zero {z : Int} (h1 : 0 ≤ z) (h2 : z < 4294967296) (h : bits .and .u32 z 1 = 0) : bitF z = z / 2 := by
  unfold bitF
  rw [h]
  have e : bits .and .u32 3988292384 (-0 % 4294967296) = 0 := by decide
  rw [e, u32_xor (z / 2) 0 (by omega) (by omega) (by decide) (by decide)]
  have : (z / 2).toNat ^^^ (0 : Int).toNat = (z / 2).toNat := Nat.xor_zero _
  rw [this]
  omega

theorem bitF_range {z : Int} (h1 : 0 ≤ z) (h2 : z < 4294967296) : 0 ≤ bitF z ∧ bitF z < 4294967296 := by
  rcases and_one z h1 h2 with h | h
  · rw [bitF_zero h1 h2 h]; omega
  · rw [bitF_one h]; exact xor_range _ _ (by omega) (by omega) (by decide) (by decide)

theorem iterF_range {z : Int} (h1 : 0 ≤ z) (h2 : z < 4294967296) : ∀ k, 0 ≤ iterF k z ∧ iterF k z < 4294967296
  | 0 => ⟨h1, h2⟩
  | k + 1 => bitF_range (iterF_range h1 h2 k).1 (iterF_range h1 h2 k).2

theorem byteF_range {z : Int} (h1 : 0 ≤ z) (h2 : z < 4294967296) (c : UInt8) : 0 ≤ byteF z c ∧ byteF z c < 4294967296 := by
  have hc : c.toNat < 256 := c.toNat_lt
  have := xor_range z (c.toNat : Int) h1 h2 (by omega) (by omega)
  exact iterF_range this.1 this.2 8

theorem rowF_range {z : Int} (h1 : 0 ≤ z) (h2 : z < 4294967296) (l : Bs) : 0 ≤ rowF z l ∧ rowF z l < 4294967296 := by
  induction l generalizing z with
  | nil => exact ⟨h1, h2⟩
  | cons c r ih => exact ih (byteF_range h1 h2 c).1 (byteF_range h1 h2 c).2

set_option maxRecDepth 100000 in
set_option maxHeartbeats 4000000 in
theorem rsum_calls {w : World} {p : Option Addr} {m c : Nat} {l : Bs} (hx : HasB w (.slice p m c) l) (hl : l.length ≤ 140737488355328) :
    Calls Tryz.prog 184 #[.slice p m c] w (fun e w' => e = .returned (.int .u32 (sumF l)) ∧ w' = w) := by
  have hm : m = l.length := (bytes_in hx).1
  have Hat := Lib.hid hx.at
  have Hm := Lib.hid hm.symm
  have hmm : m ≤ 140737488355328 := by omega
  clear hx hm hl
  go_enter Tryz.func184, Tryz.ntmps184
  go_wp2_with fail
  go_loop [3, 4] (fun v i => ∃ j : Nat, j ≤ m ∧ i = .int .i64 j ∧ v = .int .u32 (rowF 4294967295 (l.take j))) (fun _ i => m - (intOf i).toNat)
  case atStart => exact ⟨0, Nat.zero_le _, rfl, rfl⟩
  case round =>
    obtain ⟨j, hj, rfl, rfl⟩ := hrel
    by_cases hlj : j < m
    · have hljl : j < l.length := by rw [Hm.out]; exact hlj
      have Hbt := Lib.hid (rowF_take 4294967295 l hljl)
      rcases Hat.out with h | ⟨b2, o2, c2, e1, hcx⟩
      · rw [h] at hljl
        simp at hljl
      rw [Hm.out] at e1
      cases e1
      have hcb := hcx j _ (List.getElem?_eq_getElem hljl)
      have hry := rowF_range (z := 4294967295) (by decide) (by decide) (l.take j)
      generalize l[j] = cc at *
      generalize rowF 4294967295 (l.take j) = y at *
      have hcc : cc.toNat < 256 := cc.toNat_lt
      clear hcx
      go_wp2_with fail
      have HB := Lib.hid (show byteF y cc = iterF 8 (bits .xor .u32 y (cc.toNat : Int)) from rfl)
      have hz0r := xor_range y (cc.toNat : Int) hry.1 hry.2 (by omega) (by omega)
      generalize bits .xor .u32 y (cc.toNat : Int) = z0 at *
      go_loop [3, 5] (fun v i => ∃ q : Nat, q ≤ 8 ∧ i = .int .i64 q ∧ v = .int .u32 (iterF q z0)) (fun _ i => 8 - (intOf i).toNat)
      case atStart => exact ⟨0, Nat.zero_le _, rfl, rfl⟩
      case round =>
        obtain ⟨q, hq, rfl, rfl⟩ := hrel
        by_cases hlq : q < 8
        · have Hit := Lib.hid (show iterF (q + 1) z0 = bitF (iterF q z0) from rfl)
          have hrq := iterF_range hz0r.1 hz0r.2 q
          generalize iterF q z0 = z at *
          rcases and_one z hrq.1 hrq.2 with hb | hb
          · have Hbf := Lib.hid (bitF_zero hrq.1 hrq.2 hb)
            go_wp2_with fail
            go_round
            case rel => exact ⟨q + 1, by omega, by go_num, by rw [Hit.out, Hbf.out]⟩
            case measure => simp [intOf]; omega
          · have Hbf := Lib.hid (bitF_one hb)
            go_wp2_with fail
            go_round
            case rel => exact ⟨q + 1, by omega, by go_num, by rw [Hit.out, Hbf.out]⟩
            case measure => simp [intOf]; omega
        · have hq8 : q = 8 := by omega
          subst hq8
          go_wp2_with fail
          go_round
          case rel => exact ⟨j + 1, by omega, by go_num, by rw [Hbt.out, HB.out]⟩
          case measure => simp [intOf]; omega
    · have hjm : j = m := by omega
      have hlk : l.take j = l := List.take_of_length_le (by rw [Hm.out]; omega)
      rw [hlk]
      clear hlk
      have He := Lib.hid (show sumF l = bits .xor .u32 IntKind.u32.max (rowF 4294967295 l) from rfl)
      generalize rowF 4294967295 l = x at *
      go_wp2_with fail
      go_ret
      exact ⟨by rw [He.out]; rfl, rfl⟩
end Go.Proofs.YtapfnehdgailmaaGreat

namespace Go.Proofs.YtapfnehdgailmaaGreat
open Go.RowKit Go.Sat Go.Maps

/-- What a function hands back that lays its bytes anew, in a block of one's own. -/
def NewO (w : World) (l : Bs) (e : Ending) (w' : World) : Prop := ∃ v, e = .returned v ∧ OwnB w' 5 v l ∧ (∀ k, v.ownBlock = some k → w.heap.size ≤ k) ∧ Below w.heap.size w w'

theorem own_lit {w : World} (cs : Array Value) (l : Bs) (e : TypeId) (h : cs.toList = bytesV l) (n : Nat) (hn : n = l.length) (hm : n ≤ maxLen) : OwnB (w.alloc (.cells cs e)) e (.slice (some ⟨w.heap.size, 0, none⟩) n n) l := by
  subst hn
  refine ⟨by rw [bytesV_len, Nat.mul_one], .inr ⟨_, _, cs, rfl, new_block w _, Nat.le_refl _, ?_, ?_, ?_⟩⟩
  · exact hm
  · have := congrArg List.length h
    rw [bytesV_len] at this
    simpa using Nat.le_of_eq this.symm
  · rw [h, ← bytesV_len l, Nat.mul_one, List.take_length]

set_option maxRecDepth 100000 in
set_option maxHeartbeats 4000000 in
theorem rfour_calls {w : World} (v : Nat) (h1 : v < 4294967296) :
    Calls Tryz.prog 183 #[.int .u32 (v : Int)] w (NewO w (fourN v)) := by
  have hfin : NewO w (fourN v) (.returned (.slice (some ⟨w.heap.size, 0, none⟩) 4 4)) (w.alloc (.cells #[.int .u8 ((v : Int) % 256), .int .u8 ((v : Int) / 256 % 256), .int .u8 ((v : Int) / 65536 % 256), .int .u8 ((v : Int) / 16777216)] 5)) :=
    ⟨_, rfl, own_lit _ (fourN v) _ (by
      simp only [fourN, bytesV, List.map_cons, List.map_nil, UInt8.toNat_ofNat']
      have e1 : (v : Int) / 16777216 = ((v / 16777216 % 256 : Nat) : Int) := by omega
      have e2 : (v : Int) % 256 = ((v % 256 : Nat) : Int) := by omega
      have e3 : (v : Int) / 256 % 256 = ((v / 256 % 256 : Nat) : Int) := by omega
      have e4 : (v : Int) / 65536 % 256 = ((v / 65536 % 256 : Nat) : Int) := by omega
      rw [e1, e2, e3, e4]) 4 rfl (by decide), fun k hk => (by cases hk; exact Nat.le_refl _), (Below.refl _ _).alloc (Nat.le_refl _) _⟩
  have Hfin := Lib.hid hfin
  clear hfin
  go_enter Tryz.func183, Tryz.ntmps183
  go_wp2_with fail
  go_ret
  exact Hfin.out

set_option maxRecDepth 100000 in
set_option maxHeartbeats 4000000 in
theorem rfromFour_calls {w : World} {b o n c : Nat} {a0 a1 a2 a3 : UInt8} (hn : 4 ≤ n) (h0 : w.cell? ⟨b, o, none⟩ = some (.int .u8 (a0.toNat : Int))) (h1 : w.cell? ⟨b, o + 1, none⟩ = some (.int .u8 (a1.toNat : Int)))
    (h2 : w.cell? ⟨b, o + 2, none⟩ = some (.int .u8 (a2.toNat : Int))) (h3 : w.cell? ⟨b, o + 3, none⟩ = some (.int .u8 (a3.toNat : Int))) :
    Calls Tryz.prog 197 #[.slice (some ⟨b, o, none⟩) n c] w (fun e w' => e = .returned (.int .u32 (ofFour a0 a1 a2 a3 : Int)) ∧ ∃ q, w' = w.drewN q) := by
  have l0 := a0.toNat_lt
  have l1 := a1.toNat_lt
  have l2 := a2.toNat_lt
  have l3 := a3.toNat_lt
  have i0 : (0 : Int) < (n : Int) := by omega
  have i1 : (1 : Int) < (n : Int) := by omega
  have i2 : (2 : Int) < (n : Int) := by omega
  have i3 : (3 : Int) < (n : Int) := by omega
  have hF := or_four l0 l1 l2 l3
  have HF := Lib.hid (show bits .or .u32 (bits .or .u32 (bits .or .u32 (a0.toNat : Int) ((a1.toNat : Int) * 256)) ((a2.toNat : Int) * 65536)) ((a3.toNat : Int) * 16777216) = (ofFour a0 a1 a2 a3 : Int) from hF)
  clear hF
  generalize ofFour a0 a1 a2 a3 = r at *
  generalize a0.toNat = x0 at *
  generalize a1.toNat = x1 at *
  generalize a2.toNat = x2 at *
  generalize a3.toNat = x3 at *
  go_enter Tryz.func197, Tryz.ntmps197
  go_wp2_with fail
  go_quiet (fail)
  go_wp2
  go_ret
  exact ⟨by rw [← HF.out]; rfl, _, rfl⟩
theorem rfour_at {w : World} {p : Option Addr} {n c : Nat} {b : Bs} (h : HasB w (.slice p n c) b) (h4 : 4 ≤ b.length) :
    Calls Tryz.prog 197 #[.slice p n c] w (fun e w' => e = .returned (.int .u32 (fourAt b : Int)) ∧ ∃ q, w' = w.drewN q) := by
  have h1 := h.at
  obtain ⟨p', c', e⟩ := h.slice
  cases e
  rcases h1 with e | ⟨g, o, c2, e, hc⟩
  · rw [e] at h4
    simp at h4
  · cases e
    have hb : ∀ i, i < b.length → b[i]? = some (b.getD i 0) := fun i hi => by simp [List.getD, List.getElem?_eq_getElem hi]
    exact rfromFour_calls h4 (by simpa using hc 0 _ (hb 0 (by omega))) (hc 1 _ (hb 1 (by omega))) (hc 2 _ (hb 2 (by omega))) (hc 3 _ (hb 3 (by omega)))

end Go.Proofs.YtapfnehdgailmaaGreat

namespace Go.Proofs.YtapfnehdgailmaaGreat
open Go.RowKit Go.Sat Go.Maps

theorem OwnN.has {w : World} {v : Value} {ns : List Bs} (h : OwnN w v ns) : HasN w v ns := OwnR.holds h

theorem own_ge {wa : World} {v v' : Value} {B : Nat} (hloc : v'.ownBlock = v.ownBlock ∨ ∃ g, v'.ownBlock = some g ∧ wa.heap.size ≤ g) (hv : ∀ k, v.ownBlock = some k → B ≤ k) (hB : B ≤ wa.heap.size) : ∀ k, v'.ownBlock = some k → B ≤ k := fun k hk => by
  rcases hloc with e | ⟨g, e, hge⟩
  · exact hv k (by rw [← e]; exact hk)
  · rw [e] at hk
    cases hk
    omega

theorem HasN.below {w w1 : World} {v : Value} {l : List Bs} (h : HasN w v l) (hb : Below w.heap.size w w1) : HasN w1 v l := Holds.chg h (Chg.of_below hb) fun _ _ => id

end Go.Proofs.YtapfnehdgailmaaGreat

namespace Go.Proofs.YtapfnehdgailmaaGreat
open Go.RowKit Go.Sat Go.Maps

theorem ownB_keep {w w' : World} {v : Value} {l : Bs} (h : OwnB w 5 v l) (hb : Below w.heap.size w w') : OwnB w' 5 v l := OwnB.keep h fun k hk => hb.block k (OwnR.lt h hk)

set_option maxRecDepth 100000 in
set_option maxHeartbeats 4000000 in
theorem renc_calls {w : World} {p : Option Addr} {m c : Nat} {l : Bs} (hx : HasB w (.slice p m c) l) (hl : l.length ≤ 1048576) :
    Calls Tryz.prog 132 #[.slice p m c] w fun e w' => ∃ v, e = .returned (.tuple #[v, .int .i64 0]) ∧ OwnB w' 5 v (frameN l) ∧ (∀ k, v.ownBlock = some k → w.heap.size ≤ k) ∧ Below w.heap.size w w' := by
  have hml : m = l.length := (bytes_in hx).1
  have hm : m ≤ 1048576 := by omega
  have Hx := Lib.hid hx
  have Hml := Lib.hid hml
  have Hf1 := Lib.hid (rfour_calls (w := w) m (by omega))
  obtain ⟨i0, hi, hz0, hz1, hz2⟩ := info_parts (show (Tryz.prog.info? 5).map (fun i => (i.zero, i.size, i.bytes)) = some (some (.int .u8 0), 1, 1) by kernel_rfl)
  clear hx hml hl
  go_enter Tryz.func132, Tryz.ntmps132
  go_wp2_with fail
  refine Hf1.out.mono ?_
  rintro e w1 ⟨v1, rfl, ho1, hn1, hb1⟩
  obtain ⟨p1, c1, rfl⟩ := OwnR.shape ho1
  have Ho1 := Lib.hid (And.intro ho1 (And.intro hn1 hb1))
  have Hs1 := Lib.hid (rsum_calls (p := p1) (m := 4) (c := c1) ho1.has (by rw [show (fourN m).length = 4 from rfl]; decide))
  rw [show (fourN m).length = 4 from rfl]
  clear ho1 hn1 hb1 Hf1
  go_wp2_with fail
  refine Hs1.out.mono ?_
  rintro e w2 ⟨rfl, rfl⟩
  rw [sumF_nat]
  have Hf2 := Lib.hid (rfour_calls (w := w2) (sumN (fourN m)) (sumN_lt _))
  have hhd : headN l.length = fourN m ++ fourN (sumN (fourN m)) := by rw [← Hml.out]; rfl
  have Hhd := Lib.hid hhd
  generalize sumN (fourN m) = q at *
  clear hhd Hs1
  go_wp2_with fail
  refine Hf2.out.mono ?_
  rintro e w3 ⟨v2, rfl, ho2, hn2, hb2⟩
  obtain ⟨p2, c2, rfl⟩ := OwnR.shape ho2
  have X3 := Lib.hid (Ho1.out.2.2.trans (hb2.mono Ho1.out.2.2.size))
  have hown1 : OwnR w3 5 1 (.slice p1 4 c1) 4 (bytesV (fourN m)) := ownB_keep Ho1.out.1 hb2
  have Hown1 := Lib.hid hown1
  have H2 := Lib.hid (show Holds w3 1 (.slice p2 4 c2) 4 (bytesV (fourN q)) from ho2.has)
  have Hxs := Lib.hid (show ∀ W, Below w.heap.size w W → Holds W 1 (.slice p m c) m (bytesV l) from fun W hb => by
    have h := Hx.out.below hb
    unfold HasB at h
    rw [← Hml.out] at h
    exact h)
  rw [show (fourN q).length = 4 from rfl]
  clear ho2 hn2 hb2 hown1 Hf2
  go_wp2_with (first | (at_builtin; refine wpList_app w3 rfl (.tmp 12) (.tmp 15) 22 rfl 5 i0 (.int .u8 0) 1 1 Tryz.underlying22 hi hz0 hz1 hz2 rfl (by decide) (.slice p1 4 c1) 4 _ rfl Hown1.out (.slice p2 4 c2) 4 _ rfl H2.out (bytesV_one _) (by decide) (by decide) ?_; intro v12 w12 hown12 hgrow12 hloc12; have hX := X3.out.grown hgrow12 X3.out.size (fun j e => Ho1.out.2.1 j e); have hnew := own_ge (B := w.heap.size) hloc12 Ho1.out.2.1 X3.out.size; obtain ⟨p12, c12, rfl⟩ := OwnR.shape hown12; have X12 := Lib.hid (And.intro hX (And.intro hown12 hnew)); clear hown12 hgrow12 hloc12 hX hnew) | (at_builtin; refine wpList_app w12 rfl (.tmp 17) (.tmp 18) 22 rfl 5 i0 (.int .u8 0) 1 1 Tryz.underlying22 hi hz0 hz1 hz2 rfl (by decide) (.slice p12 8 c12) 8 _ rfl X12.out.2.1 (.slice p m c) m _ rfl (Hxs.out _ X12.out.1) (bytesV_one _) (by unfold maxLen; omega) (by omega) ?_; intro v13 w13 hown13 hgrow13 hloc13; have hX := X12.out.1.grown hgrow13 X12.out.1.size (fun j e => X12.out.2.2 j e); have hnew := own_ge (B := w.heap.size) hloc13 X12.out.2.2 X12.out.1.size; obtain ⟨p13, c13, rfl⟩ := OwnR.shape hown13; have X13 := Lib.hid (And.intro hX (And.intro hown13 hnew)); clear hown13 hgrow13 hloc13 hX hnew))
  have ho13 : OwnB w13 5 (.slice p13 (8 + m) c13) (headN l.length ++ l) := by
    unfold OwnB
    rw [Hhd.out, bytesV_app, bytesV_app, List.length_append, List.length_append, show (fourN m).length = 4 from rfl, show (fourN q).length = 4 from rfl, ← Hml.out]
    exact X13.out.2.1
  have hl13 : (headN l.length ++ l).length = 8 + m := by rw [List.length_append, head_len, ← Hml.out]
  have Hs2 := Lib.hid (rsum_calls (p := p13) (m := 8 + m) (c := c13) ho13.has (by rw [hl13]; omega))
  have Ho13 := Lib.hid ho13
  have Hl13 := Lib.hid hl13
  have Hfr := Lib.hid (show frameN l = (headN l.length ++ l) ++ fourN (sumN (headN l.length ++ l)) from rfl)
  clear ho13 hl13
  generalize headN l.length ++ l = Y at *
  refine Hs2.out.mono ?_
  rintro e w14 ⟨rfl, rfl⟩
  rw [sumF_nat]
  have Hf3 := Lib.hid (rfour_calls (w := w14) (sumN Y) (sumN_lt _))
  generalize sumN Y = q2 at *
  clear Hs2
  go_wp2_with fail
  refine Hf3.out.mono ?_
  rintro e w15 ⟨v15, rfl, ho15, hn15, hb15⟩
  obtain ⟨p15, c15, rfl⟩ := OwnR.shape ho15
  have X15 := Lib.hid (X13.out.1.trans (hb15.mono X13.out.1.size))
  have hown13 : OwnR w15 5 1 (.slice p13 (8 + m) c13) (8 + m) (bytesV Y) := by
    have h := ownB_keep Ho13.out hb15
    unfold OwnB at h
    rw [Hl13.out] at h
    exact h
  have Hown13 := Lib.hid hown13
  have H15 := Lib.hid (show Holds w15 1 (.slice p15 4 c15) 4 (bytesV (fourN q2)) from ho15.has)
  rw [show (fourN q2).length = 4 from rfl]
  clear ho15 hn15 hb15 hown13 Hf3
  go_wp2_with (at_builtin; refine wpList_app w15 rfl (.tmp 20) (.tmp 23) 22 rfl 5 i0 (.int .u8 0) 1 1 Tryz.underlying22 hi hz0 hz1 hz2 rfl (by decide) (.slice p13 (8 + m) c13) (8 + m) _ rfl Hown13.out (.slice p15 4 c15) 4 _ rfl H15.out (bytesV_one _) (by unfold maxLen; omega) (by omega) ?_; intro v16 w16 hown16 hgrow16 hloc16; have hX := X15.out.grown hgrow16 X15.out.size (fun j e => X13.out.2.2 j e); have hnew := own_ge (B := w.heap.size) hloc16 X13.out.2.2 X15.out.size; obtain ⟨p16, c16, rfl⟩ := OwnR.shape hown16; have X16 := Lib.hid (And.intro hX (And.intro hown16 hnew)); clear hown16 hgrow16 hloc16 hX hnew)
  go_ret2
  refine ⟨_, rfl, ?_, X16.out.2.2, X16.out.1⟩
  unfold OwnB
  rw [Hfr.out, List.length_append, Hl13.out, show (fourN q2).length = 4 from rfl, bytesV_app]
  exact X16.out.2.1
end Go.Proofs.YtapfnehdgailmaaGreat

namespace Go.Proofs.YtapfnehdgailmaaGreat
open Go.RowKit Go.Sat Go.Maps

/-- Bytes of a walk's own, gathered since w. -/
structure RowB (w W : World) (v : Value) (l : Bs) : Prop where
  own : OwnB W 5 v l
  new : ∀ k, v.ownBlock = some k → w.heap.size ≤ k
  bel : Below w.heap.size w W
theorem RowB.nil (w : World) : RowB w w (.slice none 0 0) [] := ⟨OwnR.nil _ _ _, fun k hk => (by cases hk), Below.refl _ _⟩
theorem RowB.next {w W W2 : World} {v : Value} {l : Bs} (h : RowB w W v l) (hb : Below W.heap.size W W2) : RowB w W2 v l := ⟨ownB_far h.own hb, h.new, h.bel.trans (hb.mono h.bel.size)⟩
theorem RowB.alloc {w W : World} {v : Value} {l : Bs} (h : RowB w W v l) (o : Obj) : RowB w (W.alloc o) v l := h.next (below_one W o)
theorem RowB.told {w W : World} {v : Value} {l : Bs} (h : RowB w W v l) : RowNew w l (.returned v) W := ⟨v, rfl, h.own, h.new, h.bel⟩
theorem RowB.grown {w W0 w3 : World} {v v3 : Value} {l x : Bs} (h : RowB w W0 v l) (hown : OwnR w3 5 1 v3 (l.length + x.length) (bytesV l ++ bytesV x)) (hg : W0.grownBy w3 v.ownBlock) (hloc : v3.ownBlock = v.ownBlock ∨ ∃ g, v3.ownBlock = some g ∧ W0.heap.size ≤ g) : RowB w w3 v3 (l ++ x) := by
  refine ⟨?_, own_ge hloc h.new h.bel.size, h.bel.grown hg h.bel.size fun j e => h.new j e⟩
  show OwnR _ _ _ _ (l ++ x).length (bytesV (l ++ x))
  rw [List.length_append, show bytesV (l ++ x) = bytesV l ++ bytesV x from List.map_append]
  exact hown

theorem or_high2 {a : Nat} (ha : a ≤ 4611686018427387904) : bits .or .u8 (bits .and .u64 (a : Int) 127 % 256) 128 = (((UInt8.ofNat (a % 128 + 128)).toNat : Nat) : Int) := by
  have h1 : bits .and .u64 (a : Int) 127 = ((a % 128 : Nat) : Int) := by
    refine (u64_and_nat a 127 (by omega) (by decide)).trans ?_
    rw [show (127 : Nat) = 2 ^ 7 - 1 from rfl, Nat.and_two_pow_sub_one_eq_mod]
  have h2 : ∀ y : Fin 256, (y.val ||| 128) = y.val % 128 + 128 := by decide +kernel
  have h3 : (a % 128 ||| 128) = a % 128 % 128 + 128 := h2 ⟨a % 128, by omega⟩
  rw [h1, show ((a % 128 : Nat) : Int) % 256 = ((a % 128 : Nat) : Int) by omega]
  refine (u8_or_nat (a % 128) 128 (by omega) (by decide)).trans ?_
  rw [h3, UInt8.toNat_ofNat']
  omega

set_option maxRecDepth 100000 in
set_option maxHeartbeats 4000000 in
theorem rnum1_calls (w : World) (z : Int) (hz : -9223372036854775808 ≤ z ∧ z ≤ 9223372036854775807) :
    Calls Tryz.prog 118 #[.int .i64 z] w (RowNew w (numI z)) := by
  obtain ⟨i0, hi, hz0, hz1, hz2⟩ := info_parts (show (Tryz.prog.info? 5).map (fun i => (i.zero, i.size, i.bytes)) = some (some (.int .u8 0), 1, 1) by kernel_rfl)
  obtain ⟨hza, hzb⟩ := hz
  have main : ∀ (K : Nat), (K = (max 0 (min z 4611686018427387904)).toNat) → K ≤ 4611686018427387904 := fun K hK => by omega
  have HN := Lib.hid (show numI z = numB (max 0 (min z 4611686018427387904)).toNat from rfl)
  generalize hN : (max 0 (min z 4611686018427387904)).toNat = N at *
  have hN2 : N ≤ 4611686018427387904 := main N rfl
  have HNz := Lib.hid hN
  clear main hN
  go_enter Tryz.func118, Tryz.ntmps118
  by_cases h1 : 4611686018427387904 < z
  · have hNe : N = 4611686018427387904 := by have := HNz.out; omega
    have HNe := Lib.hid hNe
    clear hNe
    go_wp2_with fail
    go_loopw [3, 4] (fun u b wr => ∃ (a : Nat) (cur : Bs) (bv : Value), u = .int .u64 a ∧ bv = b ∧ a ≤ 4611686018427387904 ∧ RowB w wr bv cur ∧ cur ++ numB a = numB N) (fun u _ _ => (intOf u).toNat)
    case atStart => exact ⟨4611686018427387904, [], _, rfl, rfl, Nat.le_refl _, RowB.nil w, by rw [HNe.out]; rfl⟩
    case round =>
      obtain ⟨a, cur, bv, rfl, rfl, ha, hst, hcur⟩ := hrel
      have hlen := numB_nine hN2
      rw [← hcur, List.length_append] at hlen
      have hba := numB_len a
      have Hst := Lib.hid hst
      have Hcur := Lib.hid hcur
      obtain ⟨pv, cv, rfl, -⟩ := own_cap0 hst.own
      clear hst hcur
      generalize hL : cur.length = m at *
      have HL := Lib.hid hL
      clear hL
      have Hrow := Lib.hid (show OwnR wr 5 1 (.slice pv m cv) m (bytesV cur) by have := Hst.out.own; unfold OwnB at this; rwa [HL.out] at this)
      by_cases h128 : 128 ≤ a
      · have Hmore := Lib.hid (numB_more h128)
        have hor := or_high2 ha
        generalize UInt8.ofNat (a % 128 + 128) = x at *
        go_wp2_with (at_builtin; have hal := mark_own0 Hrow.out (.cells #[.int .u8 (x.toNat : Int)] 5); have hxx := lit_one wr x; refine wpList_app _ rfl (.tmp 13) (.tmp 18) 22 rfl 5 i0 (.int .u8 0) 1 1 Tryz.underlying22 hi hz0 hz1 hz2 rfl (by decide) (.slice pv m cv) m _ rfl hal (.slice (some ⟨wr.heap.size, 0, none⟩) 1 1) 1 _ rfl hxx (bytesV_one _) (by unfold maxLen; omega) (by omega) ?_; clear hal hxx; intro v3 w3 hown3 hgrow3 hloc3; go_loud (have HE := Lib.hid (RowB.grown (x := [x]) (Hst.out.alloc (.cells #[.int .u8 (x.toNat : Int)] 5)) (by rw [HL.out]; exact hown3) hgrow3 hloc3); clear hgrow3 hloc3; obtain ⟨p3, q3, rfl⟩ := OwnR.shape hown3; clear hown3))
        go_roundw
        case rel => exact ⟨a / 128, cur ++ [x], _, by first | rfl | go_num, rfl, by omega, HE.out, by rw [← Hcur.out, Hmore.out]; simp⟩
        case measure => simp [intOf]; omega
      · have Hless := Lib.hid (numB_small (n := a) (by omega))
        obtain ⟨x, hx⟩ : ∃ x : UInt8, a = x.toNat := ⟨UInt8.ofNat a, by rw [UInt8.toNat_ofNat']; omega⟩
        rw [show UInt8.ofNat a = x by rw [hx]; simp] at Hless
        subst hx
        have hwr : (x.toNat : Int) % 256 = (x.toNat : Int) := by omega
        have hax := x.toNat_lt
        go_wp2_with (at_builtin; have hal := mark_own0 Hrow.out (.cells #[.int .u8 (x.toNat : Int)] 5); have hxx := lit_one wr x; refine wpList_app _ rfl (.tmp 22) (.tmp 25) 22 rfl 5 i0 (.int .u8 0) 1 1 Tryz.underlying22 hi hz0 hz1 hz2 rfl (by decide) (.slice pv m cv) m _ rfl hal (.slice (some ⟨wr.heap.size, 0, none⟩) 1 1) 1 _ rfl hxx (bytesV_one _) (by unfold maxLen; omega) (by omega) ?_; clear hal hxx; intro v3 w3 hown3 hgrow3 hloc3; go_loud (have HE := Lib.hid (RowB.grown (x := [x]) (Hst.out.alloc (.cells #[.int .u8 (x.toNat : Int)] 5)) (by rw [HL.out]; exact hown3) hgrow3 hloc3); clear hgrow3 hloc3; obtain ⟨p3, q3, rfl⟩ := OwnR.shape hown3; clear hown3))
        go_ret
        have := HE.out.told
        rw [HN.out, ← Hcur.out, Hless.out]
        exact this
  · by_cases h2 : 0 < z
    · have hcv : IntKind.u64.wrap z = z := by rw [show IntKind.u64.wrap z = z % 18446744073709551616 from rfl]; omega
      have hcv2 : z % 18446744073709551616 = z := by omega
      have hNe : z = (N : Int) := by have := HNz.out; omega
      have HNe := Lib.hid hNe
      clear hNe
      go_wp2_with fail
      go_loopw [3, 4] (fun u b wr => ∃ (a : Nat) (cur : Bs) (bv : Value), u = .int .u64 a ∧ bv = b ∧ a ≤ 4611686018427387904 ∧ RowB w wr bv cur ∧ cur ++ numB a = numB N) (fun u _ _ => (intOf u).toNat)
      case atStart => exact ⟨N, [], _, by rw [HNe.out], rfl, hN2, RowB.nil w, rfl⟩
      case round =>
        obtain ⟨a, cur, bv, rfl, rfl, ha, hst, hcur⟩ := hrel
        have hlen := numB_nine hN2
        rw [← hcur, List.length_append] at hlen
        have hba := numB_len a
        have Hst := Lib.hid hst
        have Hcur := Lib.hid hcur
        obtain ⟨pv, cv, rfl, -⟩ := own_cap0 hst.own
        clear hst hcur
        generalize hL : cur.length = m at *
        have HL := Lib.hid hL
        clear hL
        have Hrow := Lib.hid (show OwnR wr 5 1 (.slice pv m cv) m (bytesV cur) by have := Hst.out.own; unfold OwnB at this; rwa [HL.out] at this)
        by_cases h128 : 128 ≤ a
        · have Hmore := Lib.hid (numB_more h128)
          have hor := or_high2 ha
          generalize UInt8.ofNat (a % 128 + 128) = x at *
          go_wp2_with (at_builtin; have hal := mark_own0 Hrow.out (.cells #[.int .u8 (x.toNat : Int)] 5); have hxx := lit_one wr x; refine wpList_app _ rfl (.tmp 13) (.tmp 18) 22 rfl 5 i0 (.int .u8 0) 1 1 Tryz.underlying22 hi hz0 hz1 hz2 rfl (by decide) (.slice pv m cv) m _ rfl hal (.slice (some ⟨wr.heap.size, 0, none⟩) 1 1) 1 _ rfl hxx (bytesV_one _) (by unfold maxLen; omega) (by omega) ?_; clear hal hxx; intro v3 w3 hown3 hgrow3 hloc3; go_loud (have HE := Lib.hid (RowB.grown (x := [x]) (Hst.out.alloc (.cells #[.int .u8 (x.toNat : Int)] 5)) (by rw [HL.out]; exact hown3) hgrow3 hloc3); clear hgrow3 hloc3; obtain ⟨p3, q3, rfl⟩ := OwnR.shape hown3; clear hown3))
          go_roundw
          case rel => exact ⟨a / 128, cur ++ [x], _, by first | rfl | go_num, rfl, by omega, HE.out, by rw [← Hcur.out, Hmore.out]; simp⟩
          case measure => simp [intOf]; omega
        · have Hless := Lib.hid (numB_small (n := a) (by omega))
          obtain ⟨x, hx⟩ : ∃ x : UInt8, a = x.toNat := ⟨UInt8.ofNat a, by rw [UInt8.toNat_ofNat']; omega⟩
          rw [show UInt8.ofNat a = x by rw [hx]; simp] at Hless
          subst hx
          have hwr : (x.toNat : Int) % 256 = (x.toNat : Int) := by omega
          have hax := x.toNat_lt
          go_wp2_with (at_builtin; have hal := mark_own0 Hrow.out (.cells #[.int .u8 (x.toNat : Int)] 5); have hxx := lit_one wr x; refine wpList_app _ rfl (.tmp 22) (.tmp 25) 22 rfl 5 i0 (.int .u8 0) 1 1 Tryz.underlying22 hi hz0 hz1 hz2 rfl (by decide) (.slice pv m cv) m _ rfl hal (.slice (some ⟨wr.heap.size, 0, none⟩) 1 1) 1 _ rfl hxx (bytesV_one _) (by unfold maxLen; omega) (by omega) ?_; clear hal hxx; intro v3 w3 hown3 hgrow3 hloc3; go_loud (have HE := Lib.hid (RowB.grown (x := [x]) (Hst.out.alloc (.cells #[.int .u8 (x.toNat : Int)] 5)) (by rw [HL.out]; exact hown3) hgrow3 hloc3); clear hgrow3 hloc3; obtain ⟨p3, q3, rfl⟩ := OwnR.shape hown3; clear hown3))
          go_ret
          have := HE.out.told
          rw [HN.out, ← Hcur.out, Hless.out]
          exact this
    · have hNe : N = 0 := by have := HNz.out; omega
      have HNe := Lib.hid hNe
      clear hNe
      go_wp2_with fail
      go_loopw [3, 4] (fun u b wr => ∃ (a : Nat) (cur : Bs) (bv : Value), u = .int .u64 a ∧ bv = b ∧ a ≤ 4611686018427387904 ∧ RowB w wr bv cur ∧ cur ++ numB a = numB N) (fun u _ _ => (intOf u).toNat)
      case atStart => exact ⟨0, [], _, rfl, rfl, by decide, RowB.nil w, by rw [HNe.out]; rfl⟩
      case round =>
        obtain ⟨a, cur, bv, rfl, rfl, ha, hst, hcur⟩ := hrel
        have hlen := numB_nine hN2
        rw [← hcur, List.length_append] at hlen
        have hba := numB_len a
        have Hst := Lib.hid hst
        have Hcur := Lib.hid hcur
        obtain ⟨pv, cv, rfl, -⟩ := own_cap0 hst.own
        clear hst hcur
        generalize hL : cur.length = m at *
        have HL := Lib.hid hL
        clear hL
        have Hrow := Lib.hid (show OwnR wr 5 1 (.slice pv m cv) m (bytesV cur) by have := Hst.out.own; unfold OwnB at this; rwa [HL.out] at this)
        by_cases h128 : 128 ≤ a
        · have Hmore := Lib.hid (numB_more h128)
          have hor := or_high2 ha
          generalize UInt8.ofNat (a % 128 + 128) = x at *
          go_wp2_with (at_builtin; have hal := mark_own0 Hrow.out (.cells #[.int .u8 (x.toNat : Int)] 5); have hxx := lit_one wr x; refine wpList_app _ rfl (.tmp 13) (.tmp 18) 22 rfl 5 i0 (.int .u8 0) 1 1 Tryz.underlying22 hi hz0 hz1 hz2 rfl (by decide) (.slice pv m cv) m _ rfl hal (.slice (some ⟨wr.heap.size, 0, none⟩) 1 1) 1 _ rfl hxx (bytesV_one _) (by unfold maxLen; omega) (by omega) ?_; clear hal hxx; intro v3 w3 hown3 hgrow3 hloc3; go_loud (have HE := Lib.hid (RowB.grown (x := [x]) (Hst.out.alloc (.cells #[.int .u8 (x.toNat : Int)] 5)) (by rw [HL.out]; exact hown3) hgrow3 hloc3); clear hgrow3 hloc3; obtain ⟨p3, q3, rfl⟩ := OwnR.shape hown3; clear hown3))
          go_roundw
          case rel => exact ⟨a / 128, cur ++ [x], _, by first | rfl | go_num, rfl, by omega, HE.out, by rw [← Hcur.out, Hmore.out]; simp⟩
          case measure => simp [intOf]; omega
        · have Hless := Lib.hid (numB_small (n := a) (by omega))
          obtain ⟨x, hx⟩ : ∃ x : UInt8, a = x.toNat := ⟨UInt8.ofNat a, by rw [UInt8.toNat_ofNat']; omega⟩
          rw [show UInt8.ofNat a = x by rw [hx]; simp] at Hless
          subst hx
          have hwr : (x.toNat : Int) % 256 = (x.toNat : Int) := by omega
          have hax := x.toNat_lt
          go_wp2_with (at_builtin; have hal := mark_own0 Hrow.out (.cells #[.int .u8 (x.toNat : Int)] 5); have hxx := lit_one wr x; refine wpList_app _ rfl (.tmp 22) (.tmp 25) 22 rfl 5 i0 (.int .u8 0) 1 1 Tryz.underlying22 hi hz0 hz1 hz2 rfl (by decide) (.slice pv m cv) m _ rfl hal (.slice (some ⟨wr.heap.size, 0, none⟩) 1 1) 1 _ rfl hxx (bytesV_one _) (by unfold maxLen; omega) (by omega) ?_; clear hal hxx; intro v3 w3 hown3 hgrow3 hloc3; go_loud (have HE := Lib.hid (RowB.grown (x := [x]) (Hst.out.alloc (.cells #[.int .u8 (x.toNat : Int)] 5)) (by rw [HL.out]; exact hown3) hgrow3 hloc3); clear hgrow3 hloc3; obtain ⟨p3, q3, rfl⟩ := OwnR.shape hown3; clear hown3))
          go_ret
          have := HE.out.told
          rw [HN.out, ← Hcur.out, Hless.out]
          exact this
end Go.Proofs.YtapfnehdgailmaaGreat

namespace Go.Proofs.YtapfnehdgailmaaGreat
open Go.RowKit Go.Sat Go.Maps

set_option maxRecDepth 100000 in
set_option maxHeartbeats 4000000 in
theorem rnums1_calls {w : World} {p : Option Addr} {n c : Nat} {zs : List Int} (hx : HasI w (.slice p n c) zs) (hz : ∀ z ∈ zs, -9223372036854775808 ≤ z ∧ z ≤ 9223372036854775807) (hl : zs.length ≤ 1099511627776) :
    Calls Tryz.prog 172 #[.slice p n c] w (RowNew w (numsI zs)) := by
  obtain ⟨i0, hi, hz0, hz1, hz2⟩ := info_parts (show (Tryz.prog.info? 5).map (fun i => (i.zero, i.size, i.bytes)) = some (some (.int .u8 0), 1, 1) by kernel_rfl)
  have hn : zs.length = n := by obtain ⟨_, _, e⟩ := hx.slice; simp only [Value.slice.injEq] at e; exact e.2.1.symm
  have Hn := Lib.hid hn
  have Hx := Lib.hid hx
  have Hz := Lib.hid hz
  have hn40 : n ≤ 1099511627776 := by omega
  clear hx hz hl hn
  go_enter Tryz.func172, Tryz.ntmps172
  go_wp2_with fail
  go_loopw [3, 4] (fun b i wr => ∃ (k : Nat) (bv : Value), k ≤ n ∧ i = .int .i64 k ∧ bv = b ∧ RowB w wr bv (numsI (zs.take k))) (fun _ i _ => n - (intOf i).toNat)
  case atStart => exact ⟨0, _, Nat.zero_le _, rfl, rfl, by rw [List.take_zero]; exact RowB.nil w⟩
  case round =>
    obtain ⟨k, bv, hk, rfl, rfl, hst⟩ := hrel
    by_cases hlt : k < n
    · have hkl : k < zs.length := by rw [Hn.out]; exact hlt
      rcases (show HasI wr (.slice p n c) zs from Holds.chg Hx.out (Chg.of_below hst.bel) fun _ _ => id).at with h0 | ⟨b, o, c2, e2, hcell⟩
      · rw [h0] at hkl
        simp at hkl
      rw [Hn.out] at e2
      simp only [Value.slice.injEq] at e2
      obtain ⟨rfl, -, rfl⟩ := e2
      have hcz := hcell k _ (List.getElem?_eq_getElem hkl)
      have hzz := Hz.out _ (List.getElem_mem hkl)
      have Htk := Lib.hid (numsI_take hkl)
      generalize zs[k] = z at *
      have Hnum := Lib.hid (rnum1_calls wr z hzz)
      have Hst := Lib.hid hst
      obtain ⟨pv, cv, rfl, -⟩ := own_cap0 hst.own
      have hlen := numsI_len (zs.take k)
      have hlz := numI_len z
      have hlt2 : (zs.take k).length ≤ n := by rw [List.length_take, Hn.out]; omega
      clear hcell hst hkl hzz
      go_wp2_with fail
      refine Hnum.out.mono ?_
      rintro e w2 ⟨x, rfl, hx2, hxn, hb2⟩
      have HS2 := Lib.hid (Hst.out.next hb2)
      have HX2 := Lib.hid (OwnB.has hx2)
      obtain ⟨px, cx, rfl, -⟩ := own_cap0 hx2
      clear hx2 hxn hb2 Hnum Hst
      generalize hL : (numsI (zs.take k)).length = m at *
      generalize hL2 : (numI z).length = m2 at *
      have HL := Lib.hid (And.intro hL hL2)
      have Hrow := Lib.hid (show OwnR w2 5 1 (.slice pv m cv) m (bytesV (numsI (zs.take k))) by have := HS2.out.own; unfold OwnB at this; rwa [HL.out.1] at this)
      have Hxx := Lib.hid (show Holds w2 1 (.slice px m2 cx) m2 (bytesV (numI z)) by have := HX2.out; unfold HasB at this; rwa [HL.out.2] at this)
      clear hL hL2
      go_wp2_with (at_builtin; refine wpList_app _ rfl (.tmp 11) (.tmp 16) 22 rfl 5 i0 (.int .u8 0) 1 1 Tryz.underlying22 hi hz0 hz1 hz2 rfl (by decide) (.slice pv m cv) m _ rfl Hrow.out (.slice px m2 cx) m2 _ rfl Hxx.out (bytesV_one _) (by unfold maxLen; omega) (by omega) ?_; intro v3 w3 hown3 hgrow3 hloc3; go_loud (have HE := Lib.hid (RowB.grown (x := numI z) HS2.out (by rw [HL.out.1, HL.out.2]; exact hown3) hgrow3 hloc3); clear hgrow3 hloc3; obtain ⟨p3, q3, rfl⟩ := OwnR.shape hown3; clear hown3))
      go_roundw
      case rel => exact ⟨k + 1, _, by omega, by go_num, rfl, by rw [Htk.out]; exact HE.out⟩
      case measure => simp [intOf]; omega
    · have he : zs.take k = zs := List.take_of_length_le (by rw [Hn.out]; omega)
      rw [he] at hst
      have HE := Lib.hid hst.told
      clear hst he
      go_wp2_with fail
      go_ret
      exact HE.out

set_option maxRecDepth 100000 in
set_option maxHeartbeats 4000000 in
theorem rrecord_calls {w : World} {p : Option Addr} {m c : Nat} {l : Bs} (hx : HasB w (.slice p m c) l) (hl : l.length ≤ 1048576) :
    Calls Tryz.prog 117 #[.slice p m c] w (RowNew w (frameN l)) := by
  have H := Lib.hid (renc_calls hx hl)
  clear hx hl
  go_enter Tryz.func117, Tryz.ntmps117
  go_wp2_with fail
  refine H.out.mono ?_
  rintro e w1 ⟨v, rfl, hv, hn, hb⟩
  have HE := Lib.hid (show RowNew w (frameN l) (.returned v) w1 from ⟨v, rfl, hv, hn, hb⟩)
  clear hv hn hb H
  go_wp2_with fail
  go_ret
  exact HE.out

/-- One byte, and numbers. -/
theorem rowB_lit (w : World) (x : UInt8) : RowB w (w.alloc (.cells #[.int .u8 (x.toNat : Int)] 5)) (.slice (some ⟨w.heap.size, 0, none⟩) 1 1) [x] :=
  ⟨own_lit #[.int .u8 (x.toNat : Int)] [x] 5 rfl 1 rfl (by decide), fun k hk => by cases hk; exact Nat.le_refl _, below_one w _⟩

set_option maxRecDepth 100000 in
set_option maxHeartbeats 4000000 in
theorem rterms_calls (w : World) (t v : Int) (ht : -9223372036854775808 ≤ t ∧ t ≤ 9223372036854775807) (hv : -9223372036854775808 ≤ v ∧ v ≤ 1099511627776) :
    Calls Tryz.prog 116 #[.int .i64 t, .int .i64 v] w (RowNew w (frameN (trmB t v))) := by
  obtain ⟨i0, hi, hz0, hz1, hz2⟩ := info_parts (show (Tryz.prog.info? 5).map (fun i => (i.zero, i.size, i.bytes)) = some (some (.int .u8 0), 1, 1) by kernel_rfl)
  have hw : IntKind.i64.wrap (v + 1) = v + 1 := IntWalk.i64_in _ (by omega)
  have Hlit := Lib.hid (rowB_lit w 2)
  have HT := Lib.hid (show [2] ++ numsI [t, v + 1] = trmB t v from by simp [numsI, trmB])
  have hnl := numsI_len [t, v + 1]
  have Hnl := Lib.hid hnl
  have hn2 : (numsI [t, v + 1]).length ≤ 18 := by simpa using hnl
  have Hnum := Lib.hid (rnums1_calls (w := (w.alloc (.cells #[.int .u8 2] 5)).alloc (.cells #[.int .i64 t, .int .i64 (v + 1)] 3)) (p := some ⟨w.heap.size + 1, 0, none⟩) (n := 2) (c := 2) (zs := [t, v + 1]) ⟨by simp, some ⟨w.heap.size + 1, 0, none⟩, 2, rfl, fun e => (by cases e), fun a ha i u hu => by
    cases ha
    rw [add_zero]
    refine cell_of (by have := new_block (w.alloc (.cells #[.int .u8 2] 5)) (.cells #[.int .i64 t, .int .i64 (v + 1)] 3); simpa using this) ?_
    simpa using hu⟩ (by simp; omega) (by simp))
  clear hnl
  go_enter Tryz.func116, Tryz.ntmps116
  go_wp2_with fail
  refine Hnum.out.mono ?_
  rintro e w2 ⟨x, rfl, hx2, hxn, hb2⟩
  have HS2 := Lib.hid ((Hlit.out.alloc (.cells #[.int .i64 t, .int .i64 (v + 1)] 3)).next hb2)
  have HX2 := Lib.hid (OwnB.has hx2)
  obtain ⟨px, cx, rfl, -⟩ := own_cap0 hx2
  clear hx2 hxn hb2 Hnum Hlit
  generalize hL2 : (numsI [t, v + 1]).length = m2 at *
  have HL := Lib.hid hL2
  have Hrow := Lib.hid (show OwnR w2 5 1 (.slice (some ⟨w.heap.size, 0, none⟩) 1 1) 1 (bytesV [2]) from HS2.out.own)
  have Hxx := Lib.hid (show Holds w2 1 (.slice px m2 cx) m2 (bytesV (numsI [t, v + 1])) by have := HX2.out; unfold HasB at this; rwa [HL.out] at this)
  clear hL2
  go_wp2_with (at_builtin; refine wpList_app _ rfl (.tmp 5) (.tmp 10) 22 rfl 5 i0 (.int .u8 0) 1 1 Tryz.underlying22 hi hz0 hz1 hz2 rfl (by decide) (.slice (some ⟨w.heap.size, 0, none⟩) 1 1) 1 _ rfl Hrow.out (.slice px m2 cx) m2 _ rfl Hxx.out (bytesV_one _) (by unfold maxLen; omega) (by omega) ?_; intro v3 w3 hown3 hgrow3 hloc3; go_loud (have hE := RowB.grown (x := numsI [t, v + 1]) HS2.out (by rw [HL.out]; exact hown3) hgrow3 hloc3; rw [HT.out] at hE; have HE := Lib.hid hE; have Hr := Lib.hid (rrecord_calls (p := none) (m := 0) (c := 0) (w := w3) (l := []) ⟨rfl, none, 0, rfl, fun _ => rfl, fun a ha => by cases ha⟩ (by decide)); clear hgrow3 hloc3 hE; obtain ⟨p3, q3, rfl⟩ := OwnR.shape hown3; clear hown3))
  have Hrec := Lib.hid (rrecord_calls (p := p3) (m := 1 + m2) (c := q3) (l := trmB t v) (w := w3) HE.out.own.has (by rw [← HT.out, List.length_append, HL.out]; simp; omega))
  refine Hrec.out.mono ?_
  rintro e w4 ⟨y, rfl, hy, hyn, hb4⟩
  have HF := Lib.hid (show RowNew w (frameN (trmB t v)) (.returned y) w4 from ⟨y, rfl, hy, fun k hk => Nat.le_trans HE.out.bel.size (hyn k hk), HE.out.bel.trans (hb4.mono HE.out.bel.size)⟩)
  clear hy hyn hb4 Hrec
  go_wp2_with fail
  go_ret
  exact HF.out
end Go.Proofs.YtapfnehdgailmaaGreat

namespace Go.Proofs.YtapfnehdgailmaaGreat
open Go.RowKit Go.Sat Go.Maps

/-- A file of the document's disk: its name, the value of its bytes, what it is. -/
structure RFile where
  n : Bs
  b : Value
  f : FileM

def RFile.cells (x : RFile) : List Value := [encStr x.n, x.b, .int .i64 (x.f.lasts : Int)]
def RFile.key (x : RFile) : Bs × FileM := (x.n, x.f)

def leftOf : Option Nat → Int
  | none => -1
  | some k => k

theorem cells_at (L : List RFile) (i : Nat) (x : RFile) (h : L[i]? = some x) (j : Nat) (hj : j < 3) : (L.flatMap RFile.cells)[i * 3 + j]? = x.cells[j]? := by
  induction L generalizing i with
  | nil => simp at h
  | cons y r ih =>
    rw [List.flatMap_cons]
    cases i with
    | zero =>
      simp at h
      subst h
      rw [List.getElem?_append_left (by simp [RFile.cells]; omega)]
      simp
    | succ i =>
      rw [List.getElem?_append_right (by simp [RFile.cells]; omega)]
      have e : (i + 1) * 3 + j - y.cells.length = i * 3 + j := by simp [RFile.cells]; omega
      rw [e]
      exact ih i (by simpa using h)

structure RefIn (w : World) (r : Nat) (v : Value) (L : List RFile) (own : Nat → Prop) (D : DiskM) : Prop where
  cells : w.heap[r]? = some (.cells #[.int .i64 (D.room : Int), v, .int .i64 (leftOf D.fuse)] 118 (0, 0))
  row : OwnR w 127 3 v L.length (L.flatMap RFile.cells)
  files : D.files = L.map RFile.key
  data : ∀ x ∈ L, OwnB w 5 x.b x.f.data
  or : own r
  ov : ∀ k, v.ownBlock = some k → own k ∧ k ≠ r
  ob : ∀ x ∈ L, ∀ k, x.b.ownBlock = some k → own k ∧ k ≠ r ∧ v.ownBlock ≠ some k
  olt : ∀ k, own k → k < w.heap.size
  ok : D.OK

def RefAt (w : World) (r : Nat) (D : DiskM) (own : Nat → Prop) : Prop := ∃ v L, RefIn w r v L own D

theorem RefIn.keep {w w' : World} {r : Nat} {v : Value} {L : List RFile} {own : Nat → Prop} {D : DiskM} (h : RefIn w r v L own D) (hs : w.heap.size ≤ w'.heap.size) (hb : ∀ k, own k → w'.heap[k]? = w.heap[k]?) : RefIn w' r v L own D where
  cells := (hb r h.or).trans h.cells
  row := h.row.keep fun k hk => hb k (h.ov k hk).1
  files := h.files
  data := fun x hx => OwnR.keep (h.data x hx) fun k hk => hb k (h.ob x hx k hk).1
  or := h.or
  ov := h.ov
  ob := h.ob
  olt := fun k hk => Nat.lt_of_lt_of_le (h.olt k hk) hs
  ok := h.ok

theorem RefAt.keep {w w' : World} {r : Nat} {own : Nat → Prop} {D : DiskM} (h : RefAt w r D own) (hs : w.heap.size ≤ w'.heap.size) (hb : ∀ k, own k → w'.heap[k]? = w.heap[k]?) : RefAt w' r D own := by
  obtain ⟨v, L, h⟩ := h
  exact ⟨v, L, h.keep hs hb⟩

section
variable {w : World} {r : Nat} {v : Value} {L : List RFile} {own : Nat → Prop} {D : DiskM}

theorem RefIn.c0 (h : RefIn w r v L own D) : w.cell? ⟨r, 0, none⟩ = some (.int .i64 (D.room : Int)) := cell_of h.cells rfl
theorem RefIn.c1 (h : RefIn w r v L own D) : w.cell? ⟨r, 1, none⟩ = some v := cell_of h.cells rfl
theorem RefIn.c2 (h : RefIn w r v L own D) : w.cell? ⟨r, 2, none⟩ = some (.int .i64 (leftOf D.fuse)) := cell_of h.cells rfl
theorem RefIn.len (h : RefIn w r v L own D) : L.length = D.files.length := by rw [h.files, List.length_map]

/-- The cells of a file. -/
theorem RefIn.at (h : RefIn w r v L own D) : L = [] ∨ ∃ g c, v = .slice (some ⟨g, 0, none⟩) L.length c ∧ L.length ≤ c ∧ ∀ i x, L[i]? = some x → w.cell? ⟨g, i * 3, none⟩ = some (encStr x.n) ∧ w.cell? ⟨g, i * 3 + 1, none⟩ = some x.b ∧ w.cell? ⟨g, i * 3 + 2, none⟩ = some (.int .i64 (x.f.lasts : Int)) := by
  rcases h.row.2 with ⟨rfl, hn⟩ | ⟨g, cap, cur, e, hg, hnc, _⟩
  · exact .inl (List.eq_nil_of_length_eq_zero hn)
  · refine .inr ⟨g, cap, e, hnc, fun i x hx => ?_⟩
    have hc := h.row.cells (g := g) (by rw [e]; rfl)
    refine ⟨?_, ?_, ?_⟩
    · have := hc (i * 3 + 0) (encStr x.n) ((cells_at L i x hx 0 (by omega)).trans rfl)
      rwa [add_zero] at this
    · have := hc (i * 3 + 1) x.b ((cells_at L i x hx 1 (by omega)).trans rfl)
      rwa [add_zero] at this
    · have := hc (i * 3 + 2) _ ((cells_at L i x hx 2 (by omega)).trans rfl)
      rwa [add_zero] at this

theorem RefIn.slice (h : RefIn w r v L own D) : ∃ p c, v = .slice p L.length c := OwnR.shape h.row
end

/-- Where a name stands, or would stand. -/
def spotN (n : Bs) : List Bs → Nat
  | [] => 0
  | x :: r => if bytesBefore x n then spotN n r + 1 else 0
def isAt (n : Bs) (l : List Bs) : Bool := l[spotN n l]? == some n

theorem less_before (x : Bs) (s : ByteArray) : Op.bytesLess x s.toList = bytesBefore x (nm s) := by
  have e : s.toList = nm s := ByteArray.toList_eq s
  rw [e, Bool.eq_iff_iff, bb_lt, bytesLess_eq, decide_eq_true_eq]

theorem drop_cons {α : Type} {l : List α} {k : Nat} {x : α} (h : l[k]? = some x) : l.drop k = x :: l.drop (k + 1) := by
  obtain ⟨hk, rfl⟩ := List.getElem?_eq_some_iff.1 h
  exact List.drop_eq_getElem_cons hk

theorem spotN_yes {n x : Bs} {r : List Bs} (h : bytesBefore x n = true) : spotN n (x :: r) = spotN n r + 1 := by
  show (if bytesBefore x n then _ else _) = _
  rw [if_pos h]
theorem spotN_no {n x : Bs} {r : List Bs} (h : bytesBefore x n = false) : spotN n (x :: r) = 0 := by
  show (if bytesBefore x n then _ else _) = _
  rw [if_neg (by simp [h])]
theorem spotN_le (n : Bs) : ∀ l, spotN n l ≤ l.length
  | [] => Nat.le_refl _
  | x :: r => by
    have := spotN_le n r
    cases h : bytesBefore x n with
    | true => rw [spotN_yes h]; simp; omega
    | false => rw [spotN_no h]; exact Nat.zero_le _

set_option maxRecDepth 100000 in
theorem spot_calls {w : World} {r : Nat} {v : Value} {L : List RFile} {own : Nat → Prop} {D : DiskM} (h : RefIn w r v L own D) (s : ByteArray) :
    Calls Tryz.prog 70 #[.pointer (some ⟨r, 0, none⟩), .string s] w fun e w' => e = .returned (.tuple #[.int .i64 (spotN (nm s) (L.map RFile.n) : Int), .bool (isAt (nm s) (L.map RFile.n))]) ∧ ∃ q, w' = w.drewN q := by
  obtain ⟨p, c, rfl⟩ := h.slice
  have c1 := h.c1
  have Hat := Lib.hid h.at
  have hcount : L.length ≤ 4096 := by rw [h.len]; exact h.ok.count
  clear h
  have hNn : (L.map RFile.n).length = L.length := List.length_map ..
  generalize hN : L.length = N at *
  have HN := Lib.hid hN
  have HNn := Lib.hid hNn
  clear hN hNn
  go_enter Tryz.func70, Tryz.ntmps70
  go_wp2_with fail
  go_loop [6] (fun i => ∃ k : Nat, k ≤ N ∧ i = .int .i64 k ∧ spotN (nm s) (L.map RFile.n) = k + spotN (nm s) ((L.map RFile.n).drop k)) (fun i => N - (intOf i).toNat)
  case atStart => exact ⟨0, Nat.zero_le _, rfl, by simp⟩
  case round =>
    obtain ⟨k, hk, rfl, hsp⟩ := hrel
    by_cases hlt : k < N
    · have hkl : k < L.length := by rw [HN.out]; exact hlt
      obtain ⟨y, hy⟩ : ∃ y, L[k]? = some y := ⟨_, List.getElem?_eq_getElem hkl⟩
      have hmk : (L.map RFile.n)[k]? = some y.n := by rw [List.getElem?_map, hy]; rfl
      rw [drop_cons hmk] at hsp
      rcases Hat.out with h0 | ⟨g, c1, e1, -, hc⟩
      · rw [h0] at hkl
        simp at hkl
      cases e1
      obtain ⟨hn0, -, -⟩ := hc k y hy
      rw [enc_str] at hn0
      have Hsp := Lib.hid hsp
      have Hmk := Lib.hid hmk
      clear hc hkl hy hsp hmk
      generalize y.n = x at *
      cases hb : bytesBefore x (nm s) with
      | true =>
        have hb1 : Op.bytesLess x s.toList = true := by rw [less_before]; exact hb
        go_wp2_with fail
        go_round
        case rel => exact ⟨k + 1, by omega, by go_num, by rw [Hsp.out, spotN_yes hb]; omega⟩
        case measure => simp [intOf]; omega
      | false =>
        have hb1 : Op.bytesLess x s.toList = false := by rw [less_before]; exact hb
        have Hfin : spotN (nm s) (L.map RFile.n) = k := by rw [Hsp.out, spotN_no hb]; rfl
        have Hfa : isAt (nm s) (L.map RFile.n) = (x == nm s) := by unfold isAt; rw [Hfin, Hmk.out]; rfl
        have Hres := Lib.hid (show Value.tuple #[.int .i64 (k : Int), .bool (x == s.toList)] = .tuple #[.int .i64 (spotN (nm s) (L.map RFile.n) : Int), .bool (isAt (nm s) (L.map RFile.n))] by rw [Hfin, Hfa, ByteArray.toList_eq]; rfl)
        clear Hsp Hfin Hfa hb
        go_wp2_with fail
        go_quiet (fail)
        go_wp2
        go_ret2
        exact ⟨congrArg Ending.returned Hres.out, _, rfl⟩
    · have hkN : k = N := by omega
      subst hkN
      have hd : (L.map RFile.n).drop k = [] := List.drop_of_length_le (by rw [HNn.out]; exact Nat.le_refl _)
      rw [hd] at hsp
      have hsp' : spotN (nm s) (L.map RFile.n) = k := hsp
      have hfa : isAt (nm s) (L.map RFile.n) = false := by unfold isAt; rw [hsp', List.getElem?_eq_none (by rw [HNn.out]; exact Nat.le_refl _)]; rfl
      have Hres := Lib.hid (show Value.tuple #[.int .i64 (k : Int), .bool false] = .tuple #[.int .i64 (spotN (nm s) (L.map RFile.n) : Int), .bool (isAt (nm s) (L.map RFile.n))] by rw [hsp', hfa])
      clear hsp hsp' hfa hd
      go_wp2_with fail
      go_quiet (fail)
      go_wp2
      go_ret2
      exact ⟨congrArg Ending.returned Hres.out, _, rfl⟩
end Go.Proofs.YtapfnehdgailmaaGreat
