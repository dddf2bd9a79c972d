/- How a disk in memory stands behind a change of one file, a new file, a file that goes. No walk. -/
import Derived.Test.YtdlbamhabenhgaaDiskA
namespace Go.Sat
theorem put_same {α : Type} {L : List (Bs × α)} (h : Srt L) {n : Bs} {a : α} (hg : get n L = some a) : put n a L = L :=
  srt_ext (srt_put h) h fun m => by
    by_cases hm : m = n
    · subst hm
      rw [get_put_same h, hg]
    · rw [get_put_other h a hm]

theorem dm_mp {H α : Type} (g : α → DataW H) (f : α → Nat) (hgf : ∀ a b, f a = f b → g a = g b) {L M : List (Bs × α)} (h : mp f L = mp f M) : dm g L = dm g M := by
  have : ∀ L M : List (Bs × α), mp f L = mp f M → L.map (fun p => (Lit.string p.1, g p.2)) = M.map (fun p => (Lit.string p.1, g p.2)) := by
    intro L
    induction L with
    | nil =>
      intro M hM
      cases M with
      | nil => rfl
      | cons y s => simp [mp] at hM
    | cons x r ih =>
      intro M hM
      cases M with
      | nil => simp [mp] at hM
      | cons y s =>
        simp only [mp, List.map_cons, List.cons.injEq, Prod.mk.injEq] at hM
        obtain ⟨⟨e1, e2⟩, e3⟩ := hM
        simp only [List.map_cons]
        rw [ih s e3, e1, hgf _ _ e2]
  unfold dm
  rw [this L M h]
end Go.Sat

namespace Go.Proofs.Ytdlbamhabenhgaa
open Go.RowKit Go.Sat Go.Maps

theorem fbD_of {a b : FRep} (h : a.fb = b.fb) : fbD a = fbD b := by simp [fbD, h]

section
variable {w : World} {d m : Nat} {left : Int} {L : List (Bs × FRep)} {own : Own} {D : DiskM}

theorem DiskIn.fileAt (h : DiskIn w d m left L own D) {n : Bs} {r : FRep} (hg : Sat.get n L = some r) : FileAt w own n r := h.file _ (get_mem hg)

theorem DiskIn.ne_of (_h : DiskIn w d m left L own D) {j k : Nat} {s t : Nat × Bs} (hj : own j = some s) (hk : own k = some t) (hst : s ≠ t) : j ≠ k := fun e => by
  rw [e, hk] at hj
  exact hst (Option.some.inj hj).symm

/-- One file is another one (in the same place), its row the same block's or a new one's. -/
theorem DiskIn.upd (h : DiskIn w d m left L own D) {n : Bs} {r : FRep} (hg : Sat.get n L = some r) {w' : World} {v' : Value} {f' : FileM}
    (hs : w.heap.size ≤ w'.heap.size) (hb : ∀ k, k < w.heap.size → k ≠ r.fb → some k ≠ r.v.ownBlock → w'.heap[k]? = w.heap[k]?)
    (hc : w'.heap[r.fb]? = some (.cells #[v', .int .i64 (f'.lasts : Int)] 80 (0, 0))) (hrow : OwnB w' 5 v' f'.data)
    (hloc : ∀ g, v'.ownBlock = some g → r.v.ownBlock = some g ∨ w.heap.size ≤ g) (hok : DiskM.OK { D with files := put n f' D.files }) :
    ∃ own', DiskIn w' d m left (put n ⟨r.fb, v', f'⟩ L) own' { D with files := put n f' D.files } ∧ Ext w own own' := by
  have hr := h.fileAt hg
  have old : ∀ g, v'.ownBlock = some g → own g = some (3, n) ∨ own g = none := fun g hgv => by
    rcases hloc g hgv with h1 | h1
    · exact .inl (hr.og g h1)
    · cases ho : own g with
      | none => exact .inr rfl
      | some t => have := h.olt g t ho; omega
  have glt : ∀ g, v'.ownBlock = some g → g < w'.heap.size := fun g hgv => OwnR.lt hrow hgv
  refine ⟨fun k => if v'.ownBlock = some k then some (3, n) else own k, ?_, fun k hk ho => ?_⟩
  · have keep : ∀ k t, own k = some t → t ≠ (2, n) → t ≠ (3, n) → w'.heap[k]? = w.heap[k]? := fun k t hk h2 h3 =>
      hb k (h.olt k t hk) (fun e => h2 (by rw [e, hr.ob] at hk; exact (Option.some.inj hk).symm)) (fun e => h3 (by rw [hr.og k e.symm] at hk; exact (Option.some.inj hk).symm))
    have ownk : ∀ k t, own k = some t → t ≠ (3, n) → (if v'.ownBlock = some k then some (3, n) else own k) = some t := fun k t hk h3 => by
      rw [if_neg fun e => ?_, hk]
      rcases old k e with h1 | h1
      · rw [hk] at h1
        exact h3 (Option.some.inj h1)
      · rw [hk] at h1
        cases h1
    refine ⟨(keep d _ h.od (by simp) (by simp)).trans h.cells, h.left, ?_, ?_, srt_put h.srt, ?_, ownk d _ h.od (by simp), ownk m _ h.om (by simp), ?_, hok⟩
    · have e1 : mp FRep.fb (put n ⟨r.fb, v', f'⟩ L) = mp FRep.fb L := by
        rw [mp_put]
        exact put_same (mp_srt h.srt) (by rw [mp_get, hg]; rfl)
      have e2 : (put n (⟨r.fb, v', f'⟩ : FRep) L).length = L.length := by rw [← mp_len FRep.fb, e1, mp_len]
      rw [dm_mp fbD FRep.fb (fun _ _ => fbD_of) e1, e2]
      obtain ⟨es, clock, hm, rest⟩ := h.map
      exact ⟨es, clock, (keep m _ h.om (by simp) (by simp)).trans hm, rest⟩
    · rw [mp_put, ← h.files]
    · intro p hp
      rcases mem_put.1 hp with rfl | ⟨hp, hne⟩
      · refine ⟨hc, ownk _ _ hr.ob (by simp), hrow, fun g hgv => ?_⟩
        show (if v'.ownBlock = some g then some (3, n) else own g) = some (3, n)
        rw [if_pos hgv]
      · have hp' := h.file p hp
        refine ⟨(keep _ _ hp'.ob (by simpa using hne) (by simp)).trans hp'.cells, ownk _ _ hp'.ob (by simp), hp'.row.keep fun g hgv => keep g _ (hp'.og g hgv) (by simp) (by simpa using hne), fun g hgv => ownk _ _ (hp'.og g hgv) (by simpa using hne)⟩
    · intro k t hk
      split at hk
      · rename_i e
        exact glt k e
      · exact Nat.lt_of_lt_of_le (h.olt k t hk) hs
  · show (if v'.ownBlock = some k then some (3, n) else own k) = none
    rw [if_neg fun e => ?_, ho]
    rcases hloc k e with h1 | h1
    · rw [hr.og k h1] at ho
      cases ho
    · omega

/-- A file that was not there: a new block for it, the map holds it too. -/
theorem DiskIn.add (h : DiskIn w d m left L own D) {n : Bs} (_hg : Sat.get n L = none) {w' : World} {r : FRep} (hs : w.heap.size ≤ w'.heap.size) (hb : ∀ k, k < w.heap.size → k ≠ m → w'.heap[k]? = w.heap[k]?)
    (hm : ∃ q, w'.ownsMap Try.prog 9 ptrR m q ((dm fbD L).put (.string n) (fbD r)))
    (hc : w'.heap[r.fb]? = some (.cells #[r.v, .int .i64 (r.f.lasts : Int)] 80 (0, 0))) (hn : w.heap.size ≤ r.fb) (hrow : OwnB w' 5 r.v r.f.data) (hv : ∀ g, r.v.ownBlock = some g → w.heap.size ≤ g ∧ g ≠ r.fb)
    (hok : DiskM.OK { D with files := put n r.f D.files }) :
    ∃ own', DiskIn w' d m left (put n r L) own' { D with files := put n r.f D.files } ∧ Ext w own own' := by
  have none_ge : ∀ k, w.heap.size ≤ k → own k = none := fun k hk => by
    cases ho : own k with
    | none => rfl
    | some t => have := h.olt k t ho; omega
  refine ⟨fun k => if k = r.fb then some (2, n) else if r.v.ownBlock = some k then some (3, n) else own k, ?_, fun k hk ho => ?_⟩
  · have ownk : ∀ k t, own k = some t → (if k = r.fb then some (2, n) else if r.v.ownBlock = some k then some (3, n) else own k) = some t := fun k t hk => by
      have := h.olt k t hk
      rw [if_neg (by omega), if_neg (fun e => by have := (hv k e).1; omega), hk]
    have keep : ∀ k t, own k = some t → t ≠ (1, []) → w'.heap[k]? = w.heap[k]? := fun k t hk h1 => hb k (h.olt k t hk) fun e => h1 (by rw [e, h.om] at hk; exact (Option.some.inj hk).symm)
    refine ⟨(keep d _ h.od (by simp)).trans h.cells, h.left, ?_, ?_, srt_put h.srt, ?_, ownk d _ h.od, ownk m _ h.om, ?_, hok⟩
    · obtain ⟨q, hq⟩ := hm
      rw [dm_put] at hq
      have := exactly hq
      rwa [dm_size] at this
    · rw [mp_put, ← h.files]
    · intro p hp
      rcases mem_put.1 hp with rfl | ⟨hp, hne⟩
      · refine ⟨hc, by simp, hrow, fun g hgv => ?_⟩
        show (if g = r.fb then some (2, n) else if r.v.ownBlock = some g then some (3, n) else own g) = some (3, n)
        rw [if_neg (hv g hgv).2, if_pos hgv]
      · have hp' := h.file p hp
        exact ⟨(keep _ _ hp'.ob (by simp)).trans hp'.cells, ownk _ _ hp'.ob, hp'.row.keep fun g hgv => keep g _ (hp'.og g hgv) (by simp), fun g hgv => ownk _ _ (hp'.og g hgv)⟩
    · intro k t hk
      split at hk
      · rename_i e
        rw [e]
        exact lt_of_block hc
      · split at hk
        · rename_i e
          exact OwnR.lt hrow e
        · exact Nat.lt_of_lt_of_le (h.olt k t hk) hs
  · show (if k = r.fb then some (2, n) else if r.v.ownBlock = some k then some (3, n) else own k) = none
    rw [if_neg (by omega), if_neg (fun e => by have := (hv k e).1; omega), ho]

/-- The map holds another list of the files that are there: names go, or are given anew. -/
theorem DiskIn.remap (h : DiskIn w d m left L own D) {w' : World} {L' : List (Bs × FRep)} {D' : DiskM} (hs : w.heap.size ≤ w'.heap.size) (hb : ∀ k, k < w.heap.size → k ≠ m → w'.heap[k]? = w.heap[k]?)
    (hm : ∃ q, w'.ownsMap Try.prog 9 ptrR m q (dm fbD L')) (hL : Srt L') (hroom : D'.room = D.room) (hfuse : D'.fuse = D.fuse) (hfiles : D'.files = mp FRep.f L') (hok : D'.OK)
    (hfrom : ∀ p ∈ L', ∃ q ∈ L, q.2 = p.2) (hone : ∀ p ∈ L', ∀ q ∈ L', p.2.fb = q.2.fb → p = q) :
    ∃ own', DiskIn w' d m left L' own' D' ∧ Ext w own own' := by
  classical
  -- a name for each block that a file of L' has
  let nameOf : Bs → Option Bs := fun n => (L'.find? fun p => L.any fun q => decide (q.1 = n ∧ q.2.fb = p.2.fb)).map (·.1)
  have uniq : ∀ p ∈ L', ∀ q ∈ L, q.2 = p.2 → nameOf q.1 = some p.1 := by
    intro p hp q hq e
    have hex : ∃ y, (L'.find? fun p => L.any fun q' => decide (q'.1 = q.1 ∧ q'.2.fb = p.2.fb)) = some y := by
      rw [← Option.isSome_iff_exists, List.find?_isSome]
      exact ⟨p, hp, List.any_eq_true.2 ⟨q, hq, by simp [e]⟩⟩
    obtain ⟨y, hy⟩ := hex
    have h1 := List.find?_some hy
    have h2 := List.mem_of_find?_eq_some hy
    obtain ⟨q', hq', e'⟩ := List.any_eq_true.1 h1
    simp only [decide_eq_true_eq] at e'
    have hqq : q' = q := key_uniq h.srt hq' hq e'.1
    have : y = p := hone y h2 p hp (by rw [← e'.2, hqq, e])
    show (L'.find? fun p => L.any fun q' => decide (q'.1 = q.1 ∧ q'.2.fb = p.2.fb)).map (·.1) = some p.1
    rw [hy, this]
    rfl
  refine ⟨fun k => match own k with
    | some (0, s) => some (0, s)
    | some (1, s) => some (1, s)
    | some (t, s) => (nameOf s).map fun s' => (t, s')
    | none => none, ?_, fun k _ ho => by simp only [ho]⟩
  have keep : ∀ k t, own k = some t → t ≠ (1, []) → w'.heap[k]? = w.heap[k]? := fun k t hk h1 => hb k (h.olt k t hk) fun e => h1 (by rw [e, h.om] at hk; exact (Option.some.inj hk).symm)
  refine ⟨?_, fun k hk => h.left k (by rw [← hfuse]; exact hk), ?_, hfiles, hL, ?_, by simp only [h.od], by simp only [h.om], ?_, hok⟩
  · rw [keep d _ h.od (by simp), h.cells, hroom, hfuse]
  · obtain ⟨q, hq⟩ := hm
    have := exactly hq
    rwa [dm_size] at this
  · intro p hp
    obtain ⟨q, hq, e⟩ := hfrom p hp
    have hq' := h.file q hq
    have hn := uniq p hp q hq e
    rw [e] at hq'
    refine ⟨(keep _ _ hq'.ob (by simp)).trans hq'.cells, ?_, hq'.row.keep fun g hgv => keep g _ (hq'.og g hgv) (by simp), fun g hgv => ?_⟩
    · simp only [hq'.ob, hn]
      rfl
    · simp only [hq'.og g hgv, hn]
      rfl
  · intro k t hk
    cases ho : own k with
    | none => simp only [ho] at hk; cases hk
    | some s => exact Nat.lt_of_lt_of_le (h.olt k s ho) hs
end
end Go.Proofs.Ytdlbamhabenhgaa
