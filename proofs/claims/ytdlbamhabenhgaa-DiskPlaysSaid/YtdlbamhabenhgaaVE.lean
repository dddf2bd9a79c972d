/- The contract of Rename. The contract of List. The contract of satrapylaw3.texts. The contracts of satrapylaw4.same and satrapylaw4.texts. keep.Save, keep.Load: the plain model, and the contracts of there. The contract of keep.Save. The contract of keep.Save: the walk. The contract of keep.Load. The contract of keep.Clear. The document's disk (satrapyref3) in memory. -/
import Derived.Sort.Walk0
import Derived.Test.YtdlbamhabenhgaaIter
import Derived.Test.YtdlbamhabenhgaaShelf
import Derived.Test.YtdlbamhabenhgaaVC
import Derived.Test.YtdlbamhabenhgaaVD
namespace Go.Proofs.Ytdlbamhabenhgaa
open Go.RowKit Go.Sat Go.Maps

theorem ok_rename {D : DiskM} (h : D.OK) {o n : Bs} {f : FileM} (hg : Sat.get o D.files = some f) (hn : okN n = true) : DiskM.OK { D with files := put n f (del o D.files) } where
  srt := srt_put (srt_del h.srt)
  room := h.room
  used := by
    show sumBy DiskM.size (put n f (del o D.files)) ≤ D.room
    have h1 : D.used = DiskM.size f + sumBy DiskM.size (del o D.files) := sum_del h.srt hg
    have h2 := h.used
    rw [sum_put]
    cases hg2 : Sat.get n (del o D.files) with
    | none => rw [del_none hg2]; omega
    | some f2 =>
      have h3 : sumBy DiskM.size (del o D.files) = DiskM.size f2 + sumBy DiskM.size (del n (del o D.files)) := sum_del (srt_del h.srt) hg2
      omega
  count := by
    show (put n f (del o D.files)).length ≤ 4096
    have h1 := len_del h.srt hg
    have h2 := len_del_le n (del o D.files)
    have h3 := h.count
    rw [len_put]
    omega
  names p hp := by
    rcases mem_put.1 hp with rfl | ⟨hp, _⟩
    · exact hn
    · exact h.names p (mem_del.1 hp).1
  lasts p hp := by
    rcases mem_put.1 hp with rfl | ⟨hp, _⟩
    · exact h.lasts (o, f) (get_mem hg)
    · exact h.lasts p (mem_del.1 hp).1
  fuse := h.fuse

section
variable {w : World} {d m : Nat} {left : Int} {L : List (Bs × FRep)} {own : Own} {D : DiskM}

theorem ren_file (h : DiskIn w d m left L own D) {o n : Bs} {r : FRep} (hg : Sat.get o L = some r) {w' : World} (hs : w.heap.size ≤ w'.heap.size) (hb : ∀ k, k < w.heap.size → k ≠ m → w'.heap[k]? = w.heap[k]?)
    (hm : ∃ q, w'.ownsMap Try.prog 9 ptrR m q (dm fbD (put n r (del o L)))) (hn : okN n = true) :
    ∃ own', DiskIn w' d m left (put n r (del o L)) own' { D with files := put n r.f (del o D.files) } ∧ Ext w own own' := by
  refine h.remap (L' := put n r (del o L)) hs hb hm (srt_put (srt_del h.srt)) rfl rfl (by rw [mp_put, mp_del, ← h.files]) (ok_rename h.ok (by rw [h.get, hg]; rfl) hn) (fun p hp => ?_) (fun p hp q hq e => ?_)
  · rcases mem_put.1 hp with rfl | ⟨hp, _⟩
    · exact ⟨_, get_mem hg, rfl⟩
    · exact ⟨p, (mem_del.1 hp).1, rfl⟩
  · have hr := h.fileAt hg
    have other : ∀ p, p ∈ del o L → p.2.fb = r.fb → False := fun p hp e => by
      have h1 := (h.file p (mem_del.1 hp).1).ob
      rw [e, hr.ob] at h1
      exact (mem_del.1 hp).2 (by simpa using h1.symm)
    rcases mem_put.1 hp with rfl | ⟨hp, _⟩
    · rcases mem_put.1 hq with rfl | ⟨hq, _⟩
      · rfl
      · exact (other q hq e.symm).elim
    · rcases mem_put.1 hq with rfl | ⟨hq, _⟩
      · exact (other p hp e).elim
      · have h1 := (h.file p (mem_del.1 hp).1).ob
        have h2 := (h.file q (mem_del.1 hq).1).ob
        rw [e, h2] at h1
        exact key_uniq h.srt (mem_del.1 hp).1 (mem_del.1 hq).1 (by simpa using h1.symm)

theorem strs_two (w : World) (o s : ByteArray) : StrsAt (w.alloc (.cells #[.string o, .string s] 9)) (some ⟨w.heap.size, 0, none⟩) [o, s] := strs_new w [o, s] _ rfl _ (0, 0)

set_option maxRecDepth 100000 in
set_option maxHeartbeats 2000000 in
theorem rename_bad (h : DiskIn w d m left L own D) (o s : ByteArray) (hso : o.size ≤ 9223372036854775807) (hss : s.size ≤ 9223372036854775807) (hm : D.may [nm o, nm s] ≠ 0) :
    Calls Try.prog 29 #[.pointer (some ⟨d, 0, none⟩), .string o, .string s] w (After w d own (D, D.may [nm o, nm s])) := by
  have h1 := h.chg (Chg.alloc w (.cells #[.string o, .string s] 9)) (fun k hk => hk.elim)
  have hc := may_calls h1 _ [o, s] 2 (strs_two w o s) (by simp) (by simp; exact ⟨hso, hss⟩)
  simp only [List.map_cons, List.map_nil] at hc
  have Hfin := Lib.hid (show After w d own (D, D.may [nm o, nm s]) (.returned (.int .i64 (D.may [nm o, nm s] : Int))) (w.alloc (.cells #[.string o, .string s] 9)) from
    ⟨own, rfl, ⟨m, left, L, h1⟩, (Chg.alloc w _).mono fun _ _ h => h.elim, ext_refl _ _⟩)
  generalize D.may [nm o, nm s] = e0 at *
  have hne : ((e0 : Int) != 0) = true := by simp; omega
  have Hc := Lib.hid hc
  clear h hc h1
  go_enter Try.func29, Try.ntmps29
  go_wp2_with fail
  refine Hc.out.mono ?_
  rintro e w' ⟨rfl, rfl⟩
  go_wp2_with fail
  go_ret
  exact Hfin.out

set_option maxRecDepth 100000 in
set_option maxHeartbeats 2000000 in
theorem rename_none (h : DiskIn w d m left L own D) (o s : ByteArray) (hso : o.size ≤ 9223372036854775807) (hss : s.size ≤ 9223372036854775807) (hm : D.may [nm o, nm s] = 0) (hg : Sat.get (nm o) L = none) :
    Calls Try.prog 29 #[.pointer (some ⟨d, 0, none⟩), .string o, .string s] w (After w d own (D, 7)) := by
  have h1 := h.chg (Chg.alloc w (.cells #[.string o, .string s] 9)) (fun k hk => hk.elim)
  have hc := may_calls h1 _ [o, s] 2 (strs_two w o s) (by simp) (by simp; exact ⟨hso, hss⟩)
  simp only [List.map_cons, List.map_nil, hm] at hc
  have hlook := run_look_none _ keyLaw Try.underlying9 Try.underlying74 (zeroFile _) FRep.fb h1.map hso hg
  have hc1 := h1.c1
  have Hfin := Lib.hid (show After w d own (D, 7) (.returned (.int .i64 (7 : Int))) (w.alloc (.cells #[.string o, .string s] 9)) from
    ⟨own, rfl, ⟨m, left, L, h1⟩, (Chg.alloc w _).mono fun _ _ h => h.elim, ext_refl _ _⟩)
  have Hc := Lib.hid hc
  have Hlook := Lib.hid hlook
  have Hc1 := Lib.hid hc1
  clear h hc h1 hlook hc1
  generalize hw0 : w.alloc (.cells #[.string o, .string s] 9) = w0 at *
  go_enter Try.func29, Try.ntmps29
  go_wp2_with fail
  have hlook := Hlook.out
  have hc1 := Hc1.out
  refine Hc.out.mono ?_
  rintro e w' ⟨rfl, rfl⟩
  clear hw0
  go_wp2_with fail
  go_ret
  exact Hfin.out

set_option maxRecDepth 100000 in
set_option maxHeartbeats 4000000 in
theorem rename_some (h : DiskIn w d m left L own D) (o s : ByteArray) (hso : o.size ≤ 9223372036854775807) (hss : s.size ≤ 9223372036854775807) (hm : D.may [nm o, nm s] = 0) {r : FRep} (hg : Sat.get (nm o) L = some r) :
    Calls Try.prog 29 #[.pointer (some ⟨d, 0, none⟩), .string o, .string s] w (After w d own (DiskM.done { D with files := put (nm s) r.f (del (nm o) D.files) }, 0)) := by
  have h1 := h.chg (Chg.alloc w (.cells #[.string o, .string s] 9)) (fun k hk => hk.elim)
  have hc := may_calls h1 _ [o, s] 2 (strs_two w o s) (by simp) (by simp; exact ⟨hso, hss⟩)
  simp only [List.map_cons, List.map_nil, hm] at hc
  have hlook := run_look_some _ keyLaw Try.underlying9 Try.underlying74 (zeroFile _) FRep.fb h1.map hso hg
  have hc1 := h1.c1
  have hkey := WideMaps.keyOf_string_mk Try.underlying9 hso
  have hkey2 := WideMaps.keyOf_string_mk Try.underlying9 hss
  have hz := may_zero hm
  have hfu := hz.1
  have hokn : okN (nm s) = true := by
    have := hz.2
    simp at this
    exact this.2
  have hN : L.length < maxLen := by
    have h3 := h.ok.count
    rw [h.len] at h3
    unfold maxLen
    omega
  have Hw := Lib.hid (Chg.alloc w (.cells #[.string o, .string s] 9))
  have H1 := Lib.hid h1
  have Hc := Lib.hid hc
  have Hlook := Lib.hid hlook
  have Hc1 := Lib.hid hc1
  have Hok := Lib.hid hokn
  have Hfu := Lib.hid hfu
  have Hg := Lib.hid hg
  have hmap := h1.map
  have Hmap := Lib.hid hmap
  clear h hc h1 hlook hc1 hz hokn hm hg hmap hfu
  generalize hw0 : w.alloc (.cells #[.string o, .string s] 9) = w0 at *
  go_enter Try.func29, Try.ntmps29
  go_wp2_with fail
  have hlook := Hlook.out
  have hc1 := Hc1.out
  refine Hc.out.mono ?_
  rintro e w' ⟨rfl, rfl⟩
  clear hw0
  go_wp2_with (first | (at_delete; refine wpList_delete_own _ rfl _ _ 74 9 rfl 78 keyLaw Try.underlying74 ptrR m L.length (dm fbD L) rfl Hmap.out _ _ rfl hkey ?_; intro w1 hown1 hturn1; have hcA := cell_of (i := 1) (grown_block hturn1.grown H1.out.cells (fun e => H1.out.ne_of H1.out.od H1.out.om (by simp) (by cases e; rfl))) rfl; have Hf := Lib.hid (And.intro hown1 hturn1); clear hown1 hturn1) | (at_mapUpdate; refine wpList_mapUpdate_own _ rfl _ _ _ 74 rfl 9 78 keyLaw Try.underlying74 ptrR m L.length _ rfl Hf.out.1 hN _ _ _ rfl rfl hkey2 (.held r.fb) [] rfl ?_; intro w3 hown3 hg3; have Hg3 := Lib.hid (And.intro hown3 hg3); clear hown3 hg3))
  obtain ⟨hown1, hturn1⟩ := Hf.out
  obtain ⟨hown3, hg3⟩ := Hg3.out
  have hg1 := hturn1.grown
  have hb : ∀ k, k < w0.heap.size → k ≠ m → w3.heap[k]? = w0.heap[k]? := fun k hk hkm => by
    have := hg1.size
    rw [hg3.block k (by omega) (by intro e; cases e; exact hkm rfl), hg1.block k hk (by intro e; cases e; exact hkm rfl)]
  rw [show (.held r.fb : DataW Nat) = fbD r from rfl, dm_del, dm_put] at hown3
  obtain ⟨own', h4, hx⟩ := ren_file H1.out Hg.out (w' := w3) (n := nm s) (Nat.le_trans hg1.size hg3.size) hb ⟨_, hown3⟩ Hok.out
  have hchg : Chg (Has own) w w3 := (Hw.out.mono (T := Has own) fun _ _ h => h.elim).trans (((Chg.of_grown hg1).trans (Chg.of_grown hg3) fun _ _ h => h).mono fun k _ e => by cases e; exact has_m H1.out) fun _ _ h => h
  have hdone := done_calls h4 Hfu.out
  have Hdone := Lib.hid hdone
  have Hchg := Lib.hid hchg
  have Hx := Lib.hid hx
  have hsz := Hw.out.size
  have Hsz := Lib.hid hsz
  have Hod := Lib.hid (has_d H1.out)
  clear hown1 hturn1 hown3 hg3 hg1 hb h4 hx hchg hdone hsz
  refine Hdone.out.mono ?_
  rintro e w5 ⟨rfl, hd5, hc5⟩
  go_wp2_with fail
  go_ret
  exact ⟨own', rfl, hd5, Hchg.out.trans hc5 fun i _ e => by rw [e]; exact Hod.out, fun k hk => Hx.out k (Nat.lt_of_lt_of_le hk Hsz.out)⟩

/-- **Rename.** -/
theorem rename_calls (h : DiskAt w d D own) (o s : ByteArray) (hso : o.size ≤ 9223372036854775807) (hss : s.size ≤ 9223372036854775807) :
    Calls Try.prog 29 #[.pointer (some ⟨d, 0, none⟩), .string o, .string s] w (After w d own (D.rename (nm o) (nm s))) := by
  obtain ⟨m, left, L, h⟩ := h
  unfold DiskM.rename
  by_cases hm : D.may [nm o, nm s] = 0
  · rw [if_neg (by simpa using hm), h.get]
    cases hg : Sat.get (nm o) L with
    | none => exact rename_none h o s hso hss hm hg
    | some r => exact rename_some h o s hso hss hm hg
  · rw [if_pos (by simpa using hm)]
    exact rename_bad h o s hso hss hm
end

theorem st_rename {w w1 : World} {d : Nat} {D : DiskM} {F : Nat → Prop} (h : St w w1 d D F) (o s : ByteArray) (hso : o.size ≤ 9223372036854775807) (hss : s.size ≤ 9223372036854775807) :
    Calls Try.prog 29 #[.pointer (some ⟨d, 0, none⟩), .string o, .string s] w1 (Told w d F w1 (D.rename (nm o) (nm s))) := by
  obtain ⟨own, hd, hb, hnn, hF⟩ := h
  refine (rename_calls hd o s hso hss).mono ?_
  rintro e w' ⟨own', rfl, hd', hc, hx⟩
  exact ⟨rfl, St.step hb hnn hF hd' hc hx⟩
end Go.Proofs.Ytdlbamhabenhgaa

namespace Go.Sat
open Go.RowKit Go.Maps

theorem bb_lt : ∀ (a b : Bs), bytesBefore a b = true ↔ a < b
  | [], [] => by simp [bytesBefore]
  | [], _ :: _ => by simp [bytesBefore]
  | _ :: _, [] => by simp [bytesBefore]
  | a :: r, b :: s => by
    rw [List.cons_lt_cons_iff, ← bb_lt r s]
    simp [bytesBefore]

/-- Not behind. -/
def Le (x y : Bs) : Prop := bytesBefore y x = false

theorem le_iff (x y : Bs) : x ≤ y ↔ Le x y := by
  unfold Le
  rw [← Bool.not_eq_true, bb_lt]
  exact Iff.rfl

theorem le_anti {x y : Bs} (h : Le x y) (k : Le y x) : x = y := by
  by_cases e : x = y
  · exact e
  · rcases bb_total x y e with h1 | h1
    · rw [k] at h1; cases h1
    · rw [h] at h1; cases h1

theorem le_total (x y : Bs) : Le x y ∨ Le y x := by
  unfold Le
  cases h : bytesBefore y x with
  | false => exact .inl rfl
  | true =>
    right
    cases h2 : bytesBefore x y with
    | false => rfl
    | true =>
      have := bb_trans h h2
      rw [bb_irrefl] at this
      cases this

theorem le_trans' {x y z : Bs} (h : Le x y) (k : Le y z) : Le x z := by
  by_cases e : x = y
  · rw [e]; exact k
  · by_cases e2 : y = z
    · rw [← e2]; exact h
    · have h1 : bytesBefore x y = true := by
        rcases bb_total x y e with h1 | h1
        · exact h1
        · rw [h] at h1; cases h1
      have h2 : bytesBefore y z = true := by
        rcases bb_total y z e2 with h1 | h1
        · exact h1
        · rw [k] at h1; cases h1
      have h3 := bb_trans h1 h2
      unfold Le
      cases h4 : bytesBefore z x with
      | false => rfl
      | true =>
        have := bb_trans h3 h4
        rw [bb_irrefl] at this
        cases this

theorem sorted_uniq : ∀ {l m : List Bs}, l.Perm m → l.Pairwise Le → m.Pairwise Le → l = m
  | [], m, h, _, _ => h.nil_eq
  | a :: r, [], h, _, _ => by have := h.length_eq; simp at this
  | a :: r, b :: s, h, hl, hm => by
    rw [List.pairwise_cons] at hl hm
    have e : a = b := by
      have ha : a ∈ b :: s := h.subset (List.mem_cons_self ..)
      have hb : b ∈ a :: r := h.symm.subset (List.mem_cons_self ..)
      rcases List.mem_cons.1 ha with e | ha
      · exact e
      · rcases List.mem_cons.1 hb with e | hb
        · exact e.symm
        · exact le_anti (hl.1 b hb) (hm.1 a ha)
    subst e
    rw [sorted_uniq (List.Perm.cons_inv h) hl.2 hm.2]

theorem keys_sorted {α : Type} {L : List (Bs × α)} (h : Srt L) : (L.map (·.1)).Pairwise Le := by
  rw [List.pairwise_map]
  refine h.imp fun {p q} hpq => ?_
  unfold Le
  cases h4 : bytesBefore q.1 p.1 with
  | false => rfl
  | true =>
    have := bb_trans hpq h4
    rw [bb_irrefl] at this
    cases this

theorem merge_keys {α : Type} {L : List (Bs × α)} (h : Srt L) {ss : List Bs} (hp : ss.Perm (L.map (·.1))) : ss.mergeSort (fun x y => decide (x ≤ y)) = L.map (·.1) := by
  refine sorted_uniq ((List.mergeSort_perm ss _).trans hp) ?_ (keys_sorted h)
  have := List.pairwise_mergeSort (le := fun x y : Bs => decide (x ≤ y)) (fun a b c h1 h2 => by
    simp only [decide_eq_true_eq, le_iff] at *
    exact le_trans' h1 h2) (fun a b => by
    simp only [Bool.or_eq_true, decide_eq_true_eq, le_iff]
    exact le_total a b) ss
  exact this.imp fun {a b} hab => by simpa only [decide_eq_true_eq, le_iff] using hab

theorem keys_dm {H α : Type} (g : α → DataW H) (L : List (Bs × α)) : strKeys (dm g L) = L.map (·.1) := by
  simp only [strKeys, dm, List.map_map]
  exact List.map_congr_left fun p _ => rfl
end Go.Sat

namespace Go.Proofs.Ytdlbamhabenhgaa
open Go.RowKit Go.Sat Go.Maps

/-- A slice of strings of one's own. -/
def OwnN (w : World) (v : Value) (ns : List Bs) : Prop := OwnR w 9 1 v ns.length (ns.map encStr)

def namesOf (D : DiskM) : List Bs := D.files.map (·.1)

def Listed (w : World) (D : DiskM) (e : Ending) (w' : World) : Prop := ∃ v, e = .returned v ∧ OwnN w' v (namesOf D) ∧ (∀ k, v.ownBlock = some k → w.heap.size ≤ k) ∧ Below w.heap.size w w'

section
variable {w : World} {d m : Nat} {left : Int} {L : List (Bs × FRep)} {own : Own} {D : DiskM}

set_option maxHeartbeats 1000000 in
theorem list_calls (h : DiskAt w d D own) : Calls Try.prog 28 #[.pointer (some ⟨d, 0, none⟩)] w (Listed w D) := by
  obtain ⟨m, left, L, h⟩ := h
  have hc1 := h.c1
  have hcount : L.length ≤ 4096 := by rw [← h.len]; exact h.ok.count
  have hfin : ∀ (v : Value) (ss : List Bs) (w' : World), ss.Perm (strKeys (dm fbD L)) → w'.ownsRow (w.alloc (.cells #[.map (some m)] 74)).heap.size 9 1 v ss.length ((ss.mergeSort (fun x y => decide (x ≤ y))).map encStr) →
      Below (w.alloc (.cells #[.map (some m)] 74)).heap.size (w.alloc (.cells #[.map (some m)] 74)) w' → Listed w D (.returned v) w' := by
    intro v ss w' hp hr hb
    rw [keys_dm] at hp
    rw [merge_keys h.srt hp, hp.length_eq] at hr
    refine ⟨v, rfl, ?_, fun k hk => ?_, ((Below.refl _ _).alloc (Nat.le_refl _) _).trans (hb.mono (by simp))⟩
    · have e : namesOf D = L.map (·.1) := by
        unfold namesOf
        rw [h.files]
        simp [mp]
      unfold OwnN
      rw [e]
      exact OwnR.of_kit hr
    · have := OwnR.block_ge hr hk
      simp at this
      omega
  have hS := (callsIn_wide (n := 5)).1 (Try.slices_Sorted_keys_59_60 m L.length (dm fbD L) ptrR w h.map (by rw [dm_size]; unfold maxLen; omega) (by rw [dm_size]; omega))
  have hK := (callsIn_wide (n := 5)).1 (Try.maps_Keys_60 (some m) w)
  have Hfin := Lib.hid hfin
  have HS := Lib.hid hS
  have HK := Lib.hid hK
  clear hfin hS hK h hcount
  go_enter Try.func28, Try.ntmps28
  go_wp2_with fail
  refine HK.out.mono ?_
  rintro e w' ⟨rfl, rfl⟩
  go_wp2_with fail
  refine HS.out.mono ?_
  rintro e w' ⟨v, ss, rfl, hp, hr, -, hb⟩
  have Hl := Lib.hid (Hfin.out v ss w' hp hr hb)
  clear hp hr hb
  go_wp2_with fail
  go_ret
  exact Hl.out
end

def ListedS (w : World) (d : Nat) (D : DiskM) (F : Nat → Prop) (w1 : World) (e : Ending) (w' : World) : Prop :=
  ∃ v, e = .returned v ∧ OwnN w' v (namesOf D) ∧ (∀ k, v.ownBlock = some k → w1.heap.size ≤ k) ∧ Below w1.heap.size w1 w' ∧ St w w' d D F

theorem st_list {w w1 : World} {d : Nat} {D : DiskM} {F : Nat → Prop} (h : St w w1 d D F) :
    Calls Try.prog 28 #[.pointer (some ⟨d, 0, none⟩)] w1 (ListedS w d D F w1) := by
  have h0 := h
  obtain ⟨own, hd, hb, hnn, hF⟩ := h
  refine (list_calls hd).mono ?_
  rintro e w' ⟨v, rfl, hv, hn, hb'⟩
  exact ⟨v, rfl, hv, hn, hb', h0.next hb'⟩
end Go.Proofs.Ytdlbamhabenhgaa

namespace Go.Proofs.Ytdlbamhabenhgaa
open Go.RowKit Go.Sat Go.Maps

/-- v is a slice of these texts, wherever they lie. -/
def HasN (w : World) (v : Value) (l : List Bs) : Prop := Holds w 1 v l.length (l.map encStr)

theorem HasN.slice {w : World} {v : Value} {l : List Bs} (h : HasN w v l) : ∃ p c, v = .slice p l.length c := by
  obtain ⟨_, p, c, e, _⟩ := h
  exact ⟨p, c, e⟩

theorem HasN.at {w : World} {v : Value} {l : List Bs} (h : HasN w v l) : l = [] ∨ ∃ b o c, v = .slice (some ⟨b, o, none⟩) l.length c ∧ ∀ i x, l[i]? = some x → w.cell? ⟨b, o + i, none⟩ = some (encStr x) := by
  obtain ⟨hl, p, c, rfl, h0, hc⟩ := h
  cases p with
  | none =>
    left
    have := h0 rfl
    exact List.length_eq_zero_iff.1 this
  | some a =>
    cases l with
    | nil => exact .inl rfl
    | cons x r =>
      obtain ⟨b, o, sp⟩ := a
      have h1 := hc _ rfl 0 (encStr x) (by simp)
      have hsp : sp = none := by
        have := World.cell?_spot h1
        simpa [Addr.add] using this
      subst hsp
      refine .inr ⟨b, o, c, rfl, fun i y hy => ?_⟩
      have h2 := hc _ rfl i (encStr y) (by rw [List.getElem?_map, hy]; rfl)
      have e : (⟨b, o, none⟩ : Addr).add i = ⟨b, o + i, none⟩ := by unfold Addr.add; split <;> simp_all
      rw [← e]
      exact h2

theorem take_eq_succ' {l m : List Bs} {k : Nat} {x y : Bs} (hl : l[k]? = some x) (hm : m[k]? = some y) (h : l.take k = m.take k) (e : x = y) : l.take (k + 1) = m.take (k + 1) := by
  rw [List.take_add_one, List.take_add_one, hl, hm, h, e]

theorem ne_at' {l m : List Bs} {k : Nat} {x y : Bs} (hl : l[k]? = some x) (hm : m[k]? = some y) (e : x ≠ y) : (l == m) = false := by
  rw [beq_eq_false_iff_ne]
  rintro rfl
  rw [hl] at hm
  exact e (Option.some.inj hm)

set_option maxHeartbeats 1000000 in
theorem texts_calls {w : World} {x y : Value} {l m : List Bs} (hx : HasN w x l) (hy : HasN w y m) (hl : l.length ≤ 140737488355328) (hm : m.length ≤ 140737488355328) :
    Calls Try.prog 30 #[x, y] w (SamePost w (l == m)) := by
  by_cases hlen : l.length = m.length
  · have ax := hx.at
    have ay := hy.at
    obtain ⟨px, cx, rfl⟩ := hx.slice
    obtain ⟨py, cy, rfl⟩ := hy.slice
    have hbne : ((l.length : Int) != (m.length : Int)) = false := by simp [hlen]
    have Hlen := Lib.hid hlen
    have Hax := Lib.hid ax
    have Hay := Lib.hid ay
    clear hx hy hlen ax ay
    generalize hlN : l.length = N at *
    generalize hmM : m.length = M at *
    have HlN := Lib.hid hlN
    have HmM := Lib.hid hmM
    clear hlN hmM
    go_enter Try.func30, Try.ntmps30
    go_wp2
    go_loopw [5] (fun i wr => ∃ k q : Nat, k ≤ N ∧ i = .int .i64 k ∧ l.take k = m.take k ∧ wr = w.drewN q) (fun i _ => N - (intOf i).toNat)
    case atStart => exact ⟨0, 0, Nat.zero_le _, rfl, rfl, rfl⟩
    case round =>
      obtain ⟨k, q, hk, rfl, htake, rfl⟩ := hrel
      have Htake := Lib.hid htake
      clear htake
      by_cases hlt : k < N
      · have hltM : k < M := by have := Hlen.out; omega
        have hkl : k < l.length := by rw [HlN.out]; exact hlt
        have hkm : k < m.length := by rw [HmM.out]; exact hltM
        have h1 : l[k]? = some l[k] := List.getElem?_eq_getElem hkl
        have h2 : m[k]? = some m[k] := List.getElem?_eq_getElem hkm
        rcases Hax.out with h | ⟨b, o, c, e1, hcx⟩
        · rw [h] at hkl
          simp at hkl
        rcases Hay.out with h | ⟨b2, o2, c2, e2, hcy⟩
        · rw [h] at hkm
          simp at hkm
        cases e1
        cases e2
        have hc1 := hcx k _ h1
        have hc2 := hcy k _ h2
        have Hnext := Lib.hid (fun e => take_eq_succ' h1 h2 Htake.out e)
        have Hno := Lib.hid (fun e => ne_at' h1 h2 e)
        clear hcx hcy h1 h2
        generalize l[k] = a at *
        generalize m[k] = b at *
        by_cases hab : a = b
        · subst hab
          clear hkl hkm
          go_wp2_with fail
          go_quiet (fail)
          go_wp2
          go_roundw
          case rel => exact ⟨k + 1, q + nq, by omega, by go_num, Hnext.out trivial, by first | rfl | rw [World.drewN_drewN]⟩
          case measure => simp [intOf]; omega
        · have hd : ((a == b) = false) := by simpa using hab
          have Hab := Lib.hid hab
          clear hab hkl hkm
          go_wp2_with fail
          go_quiet (fail)
          go_wp2
          go_ret
          exact ⟨by rw [Hno.out Hab.out]; rfl, q + nq, by first | rfl | rw [World.drewN_drewN]⟩
      · go_wp2
        go_ret
        refine ⟨?_, q, rfl⟩
        have h1 := Htake.out
        rw [List.take_of_length_le (by rw [HlN.out]; omega), List.take_of_length_le (by rw [HmM.out]; have := Hlen.out; omega)] at h1
        simp [h1]
  · obtain ⟨px, cx, rfl⟩ := hx.slice
    obtain ⟨py, cy, rfl⟩ := hy.slice
    have hbne : ((l.length : Int) != (m.length : Int)) = true := by simp; omega
    have hres : (l == m) = false := by rw [beq_eq_false_iff_ne]; rintro rfl; exact hlen rfl
    rw [hres]
    clear hx hy hlen hres
    go_enter Try.func30, Try.ntmps30
    go_wp2
    go_ret
    exact ⟨rfl, 0, rfl⟩
end Go.Proofs.Ytdlbamhabenhgaa

namespace Go.Proofs.Ytdlbamhabenhgaa
open Go.RowKit Go.Sat Go.Maps

set_option maxHeartbeats 1000000 in
theorem same4_calls {w : World} {x y : Value} {l m : Bs} (hx : HasB w x l) (hy : HasB w y m) (hl : l.length ≤ 140737488355328) (hm : m.length ≤ 140737488355328) :
    Calls Try.prog 27 #[x, y] w (SamePost w (l == m)) := by
  by_cases hlen : l.length = m.length
  · have ax := hx.at
    have ay := hy.at
    obtain ⟨px, cx, rfl⟩ := hx.slice
    obtain ⟨py, cy, rfl⟩ := hy.slice
    have hbne : ((l.length : Int) != (m.length : Int)) = false := by simp [hlen]
    have Hlen := Lib.hid hlen
    have Hax := Lib.hid ax
    have Hay := Lib.hid ay
    clear hx hy hlen ax ay
    generalize hlN : l.length = N at *
    generalize hmM : m.length = M at *
    have HlN := Lib.hid hlN
    have HmM := Lib.hid hmM
    clear hlN hmM
    go_enter Try.func27, Try.ntmps27
    go_wp2
    go_loopw [5] (fun i wr => ∃ k q : Nat, k ≤ N ∧ i = .int .i64 k ∧ l.take k = m.take k ∧ wr = w.drewN q) (fun i _ => N - (intOf i).toNat)
    case atStart => exact ⟨0, 0, Nat.zero_le _, rfl, rfl, rfl⟩
    case round =>
      obtain ⟨k, q, hk, rfl, htake, rfl⟩ := hrel
      have Htake := Lib.hid htake
      clear htake
      by_cases hlt : k < N
      · have hltM : k < M := by have := Hlen.out; omega
        have hkl : k < l.length := by rw [HlN.out]; exact hlt
        have hkm : k < m.length := by rw [HmM.out]; exact hltM
        have h1 : l[k]? = some l[k] := List.getElem?_eq_getElem hkl
        have h2 : m[k]? = some m[k] := List.getElem?_eq_getElem hkm
        rcases Hax.out with h | ⟨b, o, c, e1, hcx⟩
        · rw [h] at hkl
          simp at hkl
        rcases Hay.out with h | ⟨b2, o2, c2, e2, hcy⟩
        · rw [h] at hkm
          simp at hkm
        cases e1
        cases e2
        have hc1 := hcx k _ h1
        have hc2 := hcy k _ h2
        have Hnext := Lib.hid (fun e => take_eq_succ h1 h2 Htake.out e)
        have Hno := Lib.hid (fun e => ne_at h1 h2 e)
        clear hcx hcy h1 h2
        generalize l[k] = a at *
        generalize m[k] = b at *
        by_cases hab : a = b
        · have hd : ((a.toNat : Int) != (b.toNat : Int)) = false := by simp [hab]
          have Hab := Lib.hid hab
          clear hab hkl hkm
          go_wp2_with fail
          go_quiet (fail)
          go_wp2
          go_roundw
          case rel => exact ⟨k + 1, q + nq, by omega, by go_num, Hnext.out Hab.out, by first | rfl | rw [World.drewN_drewN]⟩
          case measure => simp [intOf]; omega
        · have hd : ((a.toNat : Int) != (b.toNat : Int)) = true := by
            simp only [bne_iff_ne, ne_eq, Int.natCast_inj]
            exact fun e => hab (UInt8.toNat.inj e)
          have Hab := Lib.hid hab
          clear hab hkl hkm
          go_wp2_with fail
          go_quiet (fail)
          go_wp2
          go_ret
          exact ⟨by rw [Hno.out Hab.out]; rfl, q + nq, by first | rfl | rw [World.drewN_drewN]⟩
      · go_wp2
        go_ret
        refine ⟨?_, q, rfl⟩
        have h1 := Htake.out
        rw [List.take_of_length_le (by rw [HlN.out]; omega), List.take_of_length_le (by rw [HmM.out]; have := Hlen.out; omega)] at h1
        simp [h1]
  · obtain ⟨px, cx, rfl⟩ := hx.slice
    obtain ⟨py, cy, rfl⟩ := hy.slice
    have hbne : ((l.length : Int) != (m.length : Int)) = true := by simp; omega
    have hres : (l == m) = false := by rw [beq_eq_false_iff_ne]; rintro rfl; exact hlen rfl
    rw [hres]
    clear hx hy hlen hres
    go_enter Try.func27, Try.ntmps27
    go_wp2
    go_ret
    exact ⟨rfl, 0, rfl⟩

set_option maxHeartbeats 1000000 in
theorem texts4_calls {w : World} {x y : Value} {l m : List Bs} (hx : HasN w x l) (hy : HasN w y m) (hl : l.length ≤ 140737488355328) (hm : m.length ≤ 140737488355328) :
    Calls Try.prog 39 #[x, y] w (SamePost w (l == m)) := by
  by_cases hlen : l.length = m.length
  · have ax := hx.at
    have ay := hy.at
    obtain ⟨px, cx, rfl⟩ := hx.slice
    obtain ⟨py, cy, rfl⟩ := hy.slice
    have hbne : ((l.length : Int) != (m.length : Int)) = false := by simp [hlen]
    have Hlen := Lib.hid hlen
    have Hax := Lib.hid ax
    have Hay := Lib.hid ay
    clear hx hy hlen ax ay
    generalize hlN : l.length = N at *
    generalize hmM : m.length = M at *
    have HlN := Lib.hid hlN
    have HmM := Lib.hid hmM
    clear hlN hmM
    go_enter Try.func39, Try.ntmps39
    go_wp2
    go_loopw [5] (fun i wr => ∃ k q : Nat, k ≤ N ∧ i = .int .i64 k ∧ l.take k = m.take k ∧ wr = w.drewN q) (fun i _ => N - (intOf i).toNat)
    case atStart => exact ⟨0, 0, Nat.zero_le _, rfl, rfl, rfl⟩
    case round =>
      obtain ⟨k, q, hk, rfl, htake, rfl⟩ := hrel
      have Htake := Lib.hid htake
      clear htake
      by_cases hlt : k < N
      · have hltM : k < M := by have := Hlen.out; omega
        have hkl : k < l.length := by rw [HlN.out]; exact hlt
        have hkm : k < m.length := by rw [HmM.out]; exact hltM
        have h1 : l[k]? = some l[k] := List.getElem?_eq_getElem hkl
        have h2 : m[k]? = some m[k] := List.getElem?_eq_getElem hkm
        rcases Hax.out with h | ⟨b, o, c, e1, hcx⟩
        · rw [h] at hkl
          simp at hkl
        rcases Hay.out with h | ⟨b2, o2, c2, e2, hcy⟩
        · rw [h] at hkm
          simp at hkm
        cases e1
        cases e2
        have hc1 := hcx k _ h1
        have hc2 := hcy k _ h2
        have Hnext := Lib.hid (fun e => take_eq_succ' h1 h2 Htake.out e)
        have Hno := Lib.hid (fun e => ne_at' h1 h2 e)
        clear hcx hcy h1 h2
        generalize l[k] = a at *
        generalize m[k] = b at *
        by_cases hab : a = b
        · subst hab
          clear hkl hkm
          go_wp2_with fail
          go_quiet (fail)
          go_wp2
          go_roundw
          case rel => exact ⟨k + 1, q + nq, by omega, by go_num, Hnext.out trivial, by first | rfl | rw [World.drewN_drewN]⟩
          case measure => simp [intOf]; omega
        · have hd : ((a == b) = false) := by simpa using hab
          have Hab := Lib.hid hab
          clear hab hkl hkm
          go_wp2_with fail
          go_quiet (fail)
          go_wp2
          go_ret
          exact ⟨by rw [Hno.out Hab.out]; rfl, q + nq, by first | rfl | rw [World.drewN_drewN]⟩
      · go_wp2
        go_ret
        refine ⟨?_, q, rfl⟩
        have h1 := Htake.out
        rw [List.take_of_length_le (by rw [HlN.out]; omega), List.take_of_length_le (by rw [HmM.out]; have := Hlen.out; omega)] at h1
        simp [h1]
  · obtain ⟨px, cx, rfl⟩ := hx.slice
    obtain ⟨py, cy, rfl⟩ := hy.slice
    have hbne : ((l.length : Int) != (m.length : Int)) = true := by simp; omega
    have hres : (l == m) = false := by rw [beq_eq_false_iff_ne]; rintro rfl; exact hlen rfl
    rw [hres]
    clear hx hy hlen hres
    go_enter Try.func39, Try.ntmps39
    go_wp2
    go_ret
    exact ⟨rfl, 0, rfl⟩
end Go.Proofs.Ytdlbamhabenhgaa

namespace Go.Proofs.Ytdlbamhabenhgaa
open Go.RowKit Go.Sat Go.Maps

def shadowN (n : Bs) : Bs := n ++ [126]

namespace DiskM
/-- Behind the frame: the shadow goes, is written, lasts, and gets the name. -/
def save0 (D : DiskM) (n : Bs) : DiskM × Nat := if (get (shadowN n) D.files).isSome then D.remove [shadowN n] else (D, 0)
def save1 (D : DiskM) (n b : Bs) : DiskM × Nat :=
  let r0 := D.save0 n
  if r0.2 ≠ 0 then r0 else
  let r1 := r0.1.append (shadowN n) b
  if r1.2 ≠ 0 then r1 else
  let r2 := r1.1.sync [shadowN n]
  if r2.2 ≠ 0 then r2 else r2.1.rename (shadowN n) n
def save (D : DiskM) (n l : Bs) : DiskM × Nat := if n.length < 1 ∨ 60 < n.length then (D, 1) else save1 D n (frameN l)
end DiskM

theorem there_calls {w w1 : World} {d : Nat} {D : DiskM} {F : Nat → Prop} (h : St w w1 d D F) (s : ByteArray) (hs : s.size ≤ 9223372036854775807) :
    Calls Try.prog 57 #[.pointer (some ⟨d, 0, none⟩), .string s] w1 fun e w' => e = .returned (.bool (Sat.get (nm s) D.files).isSome) ∧ Below w1.heap.size w1 w' ∧ St w w' d D F := by
  have H := Lib.hid (st_read h s hs)
  clear h
  go_enter Try.func57, Try.ntmps57
  cases hg : Sat.get (nm s) D.files with
  | none =>
    rw [hg] at H
    go_wp2_with fail
    refine H.out.mono ?_
    rintro e w' ⟨v, rfl, -, -, hb, hst⟩
    have Hf := Lib.hid (And.intro hb hst)
    clear hb hst
    go_wp2_with fail
    go_ret
    exact ⟨rfl, Hf.out⟩
  | some f =>
    rw [hg] at H
    go_wp2_with fail
    refine H.out.mono ?_
    rintro e w' ⟨v, rfl, -, -, hb, hst⟩
    have Hf := Lib.hid (And.intro hb hst)
    clear hb hst
    go_wp2_with fail
    go_ret
    exact ⟨rfl, Hf.out⟩

theorem nm_shadow (s : ByteArray) : nm (s ++ ⟨#[126]⟩) = shadowN (nm s) := by
  simp [nm, shadowN]
end Go.Proofs.Ytdlbamhabenhgaa

namespace Go.Sat
open Go.RowKit
theorem HasB.same {w w' : World} {v : Value} {l : Bs} (h : HasB w v l) (hs : ∀ k, v.ownBlock = some k → w'.heap[k]? = w.heap[k]?) : HasB w' v l := by
  obtain ⟨hl, p, cap, rfl, h0, hc⟩ := h
  refine ⟨hl, p, cap, rfl, h0, fun a ha i u hu => ?_⟩
  have hb : (a.add i).block = a.block := add_block _ _
  exact (World.cell?_of_block (by rw [hb]; exact hs _ (by rw [ha]; rfl))).trans (hc a ha i u hu)

theorem HasB.lt {w : World} {v : Value} {l : Bs} (h : HasB w v l) (hne : l ≠ []) {k : Nat} (hk : v.ownBlock = some k) : k < w.heap.size := by
  obtain ⟨hl, p, cap, rfl, h0, hc⟩ := h
  cases p with
  | none => cases hk
  | some a =>
    cases l with
    | nil => exact absurd rfl hne
    | cons x r =>
      have h1 := hc a rfl 0 (.int .u8 (x.toNat : Int)) (by simp [bytesV])
      have h2 := World.block_lt_of_cell? w _ h1
      rw [add_block] at h2
      cases hk
      exact h2
end Go.Sat

namespace Go.Proofs.Ytdlbamhabenhgaa
open Go.RowKit Go.Sat Go.Maps

/-- With what a value lies in set apart besides. -/
def Fv (F : Nat → Prop) (v : Value) (k : Nat) : Prop := F k ∨ v.ownBlock = some k

theorem St.less {w w1 : World} {d : Nat} {D : DiskM} {F F' : Nat → Prop} (h : St w w1 d D F') (hF : ∀ k, F k → F' k) : St w w1 d D F :=
  h.move (S := fun _ => False) (Chg.refl _ _) (fun _ _ h => h.elim) fun k hk => ⟨.inl (hF k hk), by obtain ⟨_, _, _, _, hl⟩ := h; exact hl k (hF k hk)⟩

theorem St.flt {w w1 : World} {d : Nat} {D : DiskM} {F : Nat → Prop} (h : St w w1 d D F) {k : Nat} (hk : F k) : k < w1.heap.size := by
  obtain ⟨_, _, _, _, hl⟩ := h
  exact hl k hk

theorem same_below {w w1 w2 : World} {d : Nat} {D : DiskM} {F : Nat → Prop} (h : St w w1 d D F) (hb : Below w1.heap.size w1 w2) : Same F w1 w2 := fun k hk => hb.block k (h.flt hk)
theorem Same.trans {F : Nat → Prop} {w1 w2 w3 : World} (h : Same F w1 w2) (k : Same F w2 w3) : Same F w1 w3 := fun i hi => (k i hi).trans (h i hi)

theorem save_end {w w1 w2 : World} {d : Nat} {F : Nat → Prop} {v : Value} {r : DiskM × Nat} {e : Ending} (hs : Same F w1 w2) {w' : World} (h : Told w d (Fv F v) w2 r e w') : Told w d F w1 r e w' :=
  ⟨h.1, h.2.1.less fun _ hk => .inl hk, fun k hk => (h.2.2 k (.inl hk)).trans (hs k hk)⟩

theorem save1_rem {D D0 : DiskM} {n b : Bs} {e0 : Nat} (h0 : D.save0 n = (D0, e0)) (he : e0 ≠ 0) : D.save1 n b = (D0, e0) := by
  unfold DiskM.save1
  simp only [h0]
  rw [if_pos he]

theorem save1_app {D D0 D1 : DiskM} {n b : Bs} {e1 : Nat} (h0 : D.save0 n = (D0, 0)) (h1 : D0.append (shadowN n) b = (D1, e1)) (he : e1 ≠ 0) : D.save1 n b = (D1, e1) := by
  unfold DiskM.save1
  simp only [h0, h1]
  rw [if_neg (by simp), if_pos he]

theorem save1_syn {D D0 D1 D2 : DiskM} {n b : Bs} {e2 : Nat} (h0 : D.save0 n = (D0, 0)) (h1 : D0.append (shadowN n) b = (D1, 0)) (h2 : D1.sync [shadowN n] = (D2, e2)) (he : e2 ≠ 0) : D.save1 n b = (D2, e2) := by
  unfold DiskM.save1
  simp only [h0, h1, h2]
  rw [if_neg (by simp), if_neg (by simp), if_pos he]

theorem save1_ren {D D0 D1 D2 : DiskM} {n b : Bs} (h0 : D.save0 n = (D0, 0)) (h1 : D0.append (shadowN n) b = (D1, 0)) (h2 : D1.sync [shadowN n] = (D2, 0)) : D.save1 n b = D2.rename (shadowN n) n := by
  unfold DiskM.save1
  simp only [h0, h1, h2]
  rw [if_neg (by simp), if_neg (by simp), if_neg (by simp)]
end Go.Proofs.Ytdlbamhabenhgaa

namespace Go.Proofs.Ytdlbamhabenhgaa
open Go.RowKit Go.Sat Go.Maps

set_option maxRecDepth 100000 in
set_option maxHeartbeats 4000000 in
theorem save_calls {w w1 : World} {d : Nat} {D : DiskM} {F : Nat → Prop} (h : St w w1 d D F) (s : ByteArray) (hs : s.size ≤ 9223372036854775807) {p : Option Addr} {n c : Nat} {ls : List Bs} (hx : RowsAt w1 (.slice p n c) ls) (hn : n ≤ 140737488355328) (hl : ls.flatten.length ≤ 1048576) :
    Calls Try.prog 25 #[.pointer (some ⟨d, 0, none⟩), .string s, .slice p n c] w1 (Told w d F w1 (D.save (nm s) ls.flatten)) := by
  have hsz : (nm s).length = s.size := nm_len s
  by_cases hnm : (nm s).length < 1 ∨ 60 < (nm s).length
  · have hM : D.save (nm s) ls.flatten = (D, 1) := by unfold DiskM.save; rw [if_pos hnm]
    rw [hM]
    have Hfin := Lib.hid (show Told w d F w1 (D, 1) (.returned (.int .i64 1)) w1 from ⟨rfl, h, fun _ _ => rfl⟩)
    rw [hsz] at hnm
    generalize hzz : s.size = z at *
    clear hM h hx
    have hd1 : (decide ((z : Int) < 1) || decide (60 < (z : Int))) = true := by simp; omega
    by_cases hz : z < 1
    · have hz0 : z = 0 := by omega
      subst hz0
      go_enter Try.func25, Try.ntmps25
      go_wp2_with fail
      go_ret
      exact Hfin.out
    · have hz6 : 60 < z := by omega
      go_enter Try.func25, Try.ntmps25
      go_wp2_with fail
      go_ret
      exact Hfin.out
  · have hM : D.save (nm s) ls.flatten = DiskM.save1 D (nm s) (frameN ls.flatten) := by unfold DiskM.save; rw [if_neg hnm]
    rw [hM]
    have He := Lib.hid (enc_calls hx hn hl)
    have Hst := Lib.hid h
    rw [hsz] at hnm
    have hsh : (s ++ (⟨#[126]⟩ : ByteArray)).size = s.size + 1 := by simp [ByteArray.size_append]; rfl
    generalize hz : s.size = z at *
    have Hl := Lib.hid hl
    clear hM h hx hl
    go_enter Try.func25, Try.ntmps25
    go_wp2_with fail
    refine He.out.mono ?_
    rintro e w2 ⟨v, rfl, hv, hnew, hb⟩
    have hvl : ∀ k, v.ownBlock = some k → k < w2.heap.size := fun k hk => hv.lt (by simp [frameN, headN, fourN]) hk
    have hst2 : St w w2 d D (Fv F v) := Hst.out.move (S := fun _ => False) (Chg.of_below hb) (fun _ _ h => h.elim) fun k hk => by
      rcases hk with hk | hk
      · exact ⟨.inl hk, Nat.lt_of_lt_of_le (Hst.out.flt hk) hb.size⟩
      · exact ⟨.inr (hnew k hk), hvl k hk⟩
    have hsame2 : Same (fun k => F k) w1 w2 := same_below Hst.out hb
    have Hth := Lib.hid (there_calls hst2 (s ++ (⟨#[126]⟩ : ByteArray)) (by rw [hsh]; omega))
    rw [nm_shadow] at Hth
    have Hv := Lib.hid hv
    have Hs2 := Lib.hid hsame2
    have Hst2 := Lib.hid hst2
    clear hv hnew hb hvl hst2 hsame2
    go_wp2_with fail
    refine Hth.out.mono ?_
    rintro e w3 ⟨rfl, hb3, hst3⟩
    obtain ⟨pv, cv, rfl⟩ := Hv.out.slice
    generalize hmv : (frameN ls.flatten).length = mv at *
    have Hst := Lib.hid hst3
    have Hs := Lib.hid (Hs2.out.trans (same_below (Hst2.out.less fun _ hk => .inl hk) hb3))
    have Hv := Lib.hid (Hv.out.below hb3)
    clear hb3 hst3
    cases hg : Sat.get (shadowN (nm s)) D.files with
    | none =>
      have h0 : D.save0 (nm s) = (D, 0) := by unfold DiskM.save0; rw [hg]; rfl
      clear Hth
      have hap := st_append (Hst.out.alloc (.cells #[.slice pv mv cv] 23)) (s ++ (⟨#[126]⟩ : ByteArray)) (.slice (some ⟨w3.heap.size, 0, none⟩) 1 1) [frameN ls.flatten] (rows_one (v := .slice pv mv cv) Hv.out 23 (0, 0) _ 1 rfl (Nat.le_refl _)) (by simp) (by rw [List.flatten_cons, List.flatten_nil, List.append_nil, frame_len]; have := Hl.out; omega) (by rw [hsh]; omega)
      rw [nm_shadow, List.flatten_cons, List.flatten_nil, List.append_nil] at hap
      have Hsa := Lib.hid (Hs.out.trans (same_below (F := F) (Hst.out.less fun _ hk => .inl hk) ((Below.refl w3.heap.size w3).alloc (Nat.le_refl _) (.cells #[.slice pv mv cv] 23))))
      cases h1 : DiskM.append D (shadowN (nm s)) (frameN ls.flatten) with
      | mk D1 e1 =>
        rw [h1] at hap
        have Hap := Lib.hid hap
        by_cases he1 : e1 = 0
        · subst he1
          clear hap
          go_wp2_with fail
          refine Hap.out.mono ?_
          rintro e w5 ⟨rfl, hst5, hs5⟩
          have hst5 : St w w5 d D1 (Fv F (.slice pv mv cv)) := hst5
          have hsy := st_sync hst5 [s ++ (⟨#[126]⟩ : ByteArray)] w5.heap.size 1 rfl (0, 0) (by simp) (by simp [hsh]; omega)
          rw [show [s ++ (⟨#[126]⟩ : ByteArray)].map nm = [shadowN (nm s)] from by rw [List.map_cons, nm_shadow, List.map_nil]] at hsy
          have Hsb := Lib.hid (Hsa.out.trans (Same.trans (fun k hk => hs5 k (.inl hk)) (same_below (F := F) (hst5.less fun _ hk => .inl hk) ((Below.refl w5.heap.size w5).alloc (Nat.le_refl _) (.cells #[.string (s ++ (⟨#[126]⟩ : ByteArray))] 9)))))
          clear hs5 hst5
          cases h2 : DiskM.sync D1 [shadowN (nm s)] with
          | mk D2 e2 =>
            rw [h2] at hsy
            have Hsy := Lib.hid hsy
            by_cases he2 : e2 = 0
            · subst he2
              clear hsy
              go_wp2_with fail
              refine Hsy.out.mono ?_
              rintro e w6 ⟨rfl, hst6, hs6⟩
              have hst6 : St w w6 d D2 (Fv F (.slice pv mv cv)) := hst6
              have hrn := st_rename hst6 (s ++ (⟨#[126]⟩ : ByteArray)) s (by rw [hsh]; omega) (by omega)
              rw [nm_shadow, ← save1_ren h0 h1 h2] at hrn
              have Hrn := Lib.hid hrn
              have Hsc := Lib.hid (Hsb.out.trans (fun k hk => hs6 k (.inl hk)))
              clear hrn hs6 hst6
              go_wp2_with fail
              refine Hrn.out.mono ?_
              intro e w7 hT
              have hE := save_end Hsc.out hT
              obtain ⟨rfl, -⟩ := hT
              have HE := Lib.hid hE
              clear hE
              go_wp2_with fail
              go_ret
              exact HE.out
            · have hne : ((e2 : Int) != 0) = true := by simp; omega
              clear hsy
              go_wp2_with fail
              refine Hsy.out.mono ?_
              intro e w6 hT
              have hE : Told w d F w1 (D.save1 (nm s) (frameN ls.flatten)) e w6 := by rw [save1_syn h0 h1 h2 he2]; exact save_end Hsb.out hT
              obtain ⟨rfl, -⟩ := hT
              have HE := Lib.hid hE
              clear hE
              go_wp2_with fail
              go_ret
              exact HE.out
        · have hne : ((e1 : Int) != 0) = true := by simp; omega
          clear hap
          go_wp2_with fail
          refine Hap.out.mono ?_
          intro e w5 hT
          have hE : Told w d F w1 (D.save1 (nm s) (frameN ls.flatten)) e w5 := by rw [save1_app h0 h1 he1]; exact save_end Hsa.out hT
          obtain ⟨rfl, -⟩ := hT
          have HE := Lib.hid hE
          clear hE
          go_wp2_with fail
          go_ret
          exact HE.out
    | some f =>
      have hrm := st_remove Hst.out [s ++ (⟨#[126]⟩ : ByteArray)] w3.heap.size 1 rfl (0, 0) (by simp) (by simp [hsh]; omega)
      rw [show [s ++ (⟨#[126]⟩ : ByteArray)].map nm = [shadowN (nm s)] from by rw [List.map_cons, nm_shadow, List.map_nil]] at hrm
      have Hsr := Lib.hid (Hs.out.trans (same_below (Hst.out.less fun _ hk => .inl hk) ((Below.refl w3.heap.size w3).alloc (Nat.le_refl _) (.cells #[.string (s ++ (⟨#[126]⟩ : ByteArray))] 9))))
      cases h0 : D.save0 (nm s) with
      | mk D0 e0 =>
        have hz0 : DiskM.remove D [shadowN (nm s)] = (D0, e0) := by rw [← h0]; unfold DiskM.save0; rw [hg]; rfl
        rw [hz0] at hrm
        have Hrm := Lib.hid hrm
        clear hrm
        by_cases he0 : e0 = 0
        · subst he0
          go_wp2_with fail
          refine Hrm.out.mono ?_
          rintro e w4 ⟨rfl, hst4, hs4⟩
          have Hst4 := Lib.hid (show St w w4 d D0 (Fv F (.slice pv mv cv)) from hst4)
          have Hv4 := Lib.hid ((Hv.out.below ((Below.refl w3.heap.size w3).alloc (Nat.le_refl _) (.cells #[.string (s ++ (⟨#[126]⟩ : ByteArray))] 9))).same fun k hk => hs4 k (.inr hk))
          have Hs4 := Lib.hid (Hsr.out.trans (fun k hk => hs4 k (.inl hk)))
          clear Hst Hv Hs Hsr hst4 hs4
          have Hst := Hst4
          have Hv := Hv4
          have Hs := Hs4
          clear Hst4 Hv4 Hs4
          have hap := st_append (Hst.out.alloc (.cells #[.slice pv mv cv] 23)) (s ++ (⟨#[126]⟩ : ByteArray)) (.slice (some ⟨w4.heap.size, 0, none⟩) 1 1) [frameN ls.flatten] (rows_one (v := .slice pv mv cv) Hv.out 23 (0, 0) _ 1 rfl (Nat.le_refl _)) (by simp) (by rw [List.flatten_cons, List.flatten_nil, List.append_nil, frame_len]; have := Hl.out; omega) (by rw [hsh]; omega)
          rw [nm_shadow, List.flatten_cons, List.flatten_nil, List.append_nil] at hap
          have Hsa := Lib.hid (Hs.out.trans (same_below (F := F) (Hst.out.less fun _ hk => .inl hk) ((Below.refl w4.heap.size w4).alloc (Nat.le_refl _) (.cells #[.slice pv mv cv] 23))))
          cases h1 : DiskM.append D0 (shadowN (nm s)) (frameN ls.flatten) with
          | mk D1 e1 =>
            rw [h1] at hap
            have Hap := Lib.hid hap
            by_cases he1 : e1 = 0
            · subst he1
              clear hap
              go_wp2_with fail
              refine Hap.out.mono ?_
              rintro e w5 ⟨rfl, hst5, hs5⟩
              have hst5 : St w w5 d D1 (Fv F (.slice pv mv cv)) := hst5
              have hsy := st_sync hst5 [s ++ (⟨#[126]⟩ : ByteArray)] w5.heap.size 1 rfl (0, 0) (by simp) (by simp [hsh]; omega)
              rw [show [s ++ (⟨#[126]⟩ : ByteArray)].map nm = [shadowN (nm s)] from by rw [List.map_cons, nm_shadow, List.map_nil]] at hsy
              have Hsb := Lib.hid (Hsa.out.trans (Same.trans (fun k hk => hs5 k (.inl hk)) (same_below (F := F) (hst5.less fun _ hk => .inl hk) ((Below.refl w5.heap.size w5).alloc (Nat.le_refl _) (.cells #[.string (s ++ (⟨#[126]⟩ : ByteArray))] 9)))))
              clear hs5 hst5
              cases h2 : DiskM.sync D1 [shadowN (nm s)] with
              | mk D2 e2 =>
                rw [h2] at hsy
                have Hsy := Lib.hid hsy
                by_cases he2 : e2 = 0
                · subst he2
                  clear hsy
                  go_wp2_with fail
                  refine Hsy.out.mono ?_
                  rintro e w6 ⟨rfl, hst6, hs6⟩
                  have hst6 : St w w6 d D2 (Fv F (.slice pv mv cv)) := hst6
                  have hrn := st_rename hst6 (s ++ (⟨#[126]⟩ : ByteArray)) s (by rw [hsh]; omega) (by omega)
                  rw [nm_shadow, ← save1_ren h0 h1 h2] at hrn
                  have Hrn := Lib.hid hrn
                  have Hsc := Lib.hid (Hsb.out.trans (fun k hk => hs6 k (.inl hk)))
                  clear hrn hs6 hst6
                  go_wp2_with fail
                  refine Hrn.out.mono ?_
                  intro e w7 hT
                  have hE := save_end Hsc.out hT
                  obtain ⟨rfl, -⟩ := hT
                  have HE := Lib.hid hE
                  clear hE
                  go_wp2_with fail
                  go_ret
                  exact HE.out
                · have hne : ((e2 : Int) != 0) = true := by simp; omega
                  clear hsy
                  go_wp2_with fail
                  refine Hsy.out.mono ?_
                  intro e w6 hT
                  have hE : Told w d F w1 (D.save1 (nm s) (frameN ls.flatten)) e w6 := by rw [save1_syn h0 h1 h2 he2]; exact save_end Hsb.out hT
                  obtain ⟨rfl, -⟩ := hT
                  have HE := Lib.hid hE
                  clear hE
                  go_wp2_with fail
                  go_ret
                  exact HE.out
            · have hne : ((e1 : Int) != 0) = true := by simp; omega
              clear hap
              go_wp2_with fail
              refine Hap.out.mono ?_
              intro e w5 hT
              have hE : Told w d F w1 (D.save1 (nm s) (frameN ls.flatten)) e w5 := by rw [save1_app h0 h1 he1]; exact save_end Hsa.out hT
              obtain ⟨rfl, -⟩ := hT
              have HE := Lib.hid hE
              clear hE
              go_wp2_with fail
              go_ret
              exact HE.out
        · have hne : ((e0 : Int) != 0) = true := by simp; omega
          go_wp2_with fail
          refine Hrm.out.mono ?_
          intro e w4 hT
          have hE : Told w d F w1 (D.save1 (nm s) (frameN ls.flatten)) e w4 := by rw [save1_rem h0 he0]; exact save_end Hsr.out hT
          obtain ⟨rfl, -⟩ := hT
          have HE := Lib.hid hE
          clear hE
          go_wp2_with fail
          go_ret
          exact HE.out
end Go.Proofs.Ytdlbamhabenhgaa

namespace Go.Proofs.Ytdlbamhabenhgaa
open Go.RowKit Go.Sat Go.Maps

theorem data_len {D : DiskM} (h : D.OK) (n : Bs) : (dataOf (Sat.get n D.files)).length ≤ 1073741824 := by
  cases hg : Sat.get n D.files with
  | none => simp [dataOf]
  | some f =>
    have h1 : DiskM.size f ≤ D.used := le_sum h.srt hg
    have h2 := h.used
    have h3 := h.room
    show f.data.length ≤ _
    unfold DiskM.size at h1
    omega

def loadE (o : Option FileM) : Nat := if o.isSome then (if oneE (dataOf o) = 0 then 0 else 3) else 7
def loadB (o : Option FileM) : Bs := if o.isSome then oneB (dataOf o) else []

theorem loadE_none : loadE none = 7 := by unfold loadE; exact if_neg (by decide)
theorem loadB_none : loadB none = [] := by unfold loadB; exact if_neg (by decide)
theorem loadE_some (f : FileM) : loadE (some f) = if oneE (dataOf (some f)) = 0 then 0 else 3 := by unfold loadE; exact if_pos (by rfl)
theorem loadB_some (f : FileM) : loadB (some f) = oneB (dataOf (some f)) := by unfold loadB; exact if_pos (by rfl)

def GotL (w : World) (d : Nat) (D : DiskM) (F : Nat → Prop) (w1 : World) (o : Option FileM) (e : Ending) (w' : World) : Prop :=
  ∃ v, e = .returned (.tuple #[v, .int .i64 (loadE o : Int)]) ∧ OwnB w' 5 v (loadB o) ∧ (∀ k, v.ownBlock = some k → w1.heap.size ≤ k) ∧ Below w1.heap.size w1 w' ∧ St w w' d D F

theorem own_slice {w : World} {e : TypeId} {v : Value} {l : Bs} (h : OwnB w e v l) : ∃ p c, v = .slice p l.length c ∧ l.length ≤ c := by
  rcases h.2 with ⟨rfl, hn⟩ | ⟨g, cap, cur, rfl, _, hnc, _⟩
  · exact ⟨none, 0, by rw [hn], by omega⟩
  · exact ⟨_, cap, rfl, hnc⟩

theorem load_calls {w w1 : World} {d : Nat} {D : DiskM} {F : Nat → Prop} (h : St w w1 d D F) (s : ByteArray) (hs : s.size ≤ 9223372036854775807) :
    Calls Try.prog 26 #[.pointer (some ⟨d, 0, none⟩), .string s] w1 (GotL w d D F w1 (Sat.get (nm s) D.files)) := by
  have hln := data_len h.ok (nm s)
  have H := Lib.hid (st_read h s hs)
  clear h
  cases hg : Sat.get (nm s) D.files with
  | none =>
    rw [hg] at H
    clear hln
    go_enter Try.func26, Try.ntmps26
    go_wp2_with fail
    refine H.out.mono ?_
    rintro e w2 ⟨v, rfl, -, -, hb, hst⟩
    have Hf := Lib.hid (show GotL w d D F w1 none (.returned (.tuple #[.slice none 0 0, .int .i64 7])) w2 from ⟨.slice none 0 0, by rw [loadE_none]; rfl, by rw [loadB_none]; exact OwnR.nil _ _ _, fun k hk => (by cases hk), hb, hst⟩)
    clear hb hst
    go_wp2_with fail
    go_ret2
    exact Hf.out
  | some f =>
    rw [hg] at H hln
    go_enter Try.func26, Try.ntmps26
    go_wp2_with fail
    refine H.out.mono ?_
    rintro e w2 ⟨v, rfl, hv, -, hb, hst⟩
    obtain ⟨p, c, rfl, hnc⟩ := own_slice hv
    have H1 := Lib.hid (one_calls hv.has hnc (by omega))
    have Hst := Lib.hid hst
    have Hb := Lib.hid hb
    have hE := loadE_some f
    have hB := loadB_some f
    generalize dataOf (some f) = b at *
    generalize hN : b.length = N at *
    clear hv hst hb hnc hln
    go_wp2_with fail
    refine H1.out.mono ?_
    rintro e w3 ⟨v, rfl, hv, hn, hb3⟩
    have hb4 := Hb.out.trans (hb3.mono Hb.out.size)
    have hst3 := Hst.out.next hb3
    by_cases he : oneE b = 0
    · have Hf := Lib.hid (show GotL w d D F w1 (some f) (.returned (.tuple #[v, .int .i64 0])) w3 from ⟨v, by rw [hE, if_pos he]; rfl, by rw [hB]; exact hv, fun k hk => Nat.le_trans Hb.out.size (hn k hk), hb4, hst3⟩)
      rw [he]
      clear hv hn hb3 hb4 hst3
      go_wp2_with fail
      go_ret2
      exact Hf.out
    · have Hf := Lib.hid (show GotL w d D F w1 (some f) (.returned (.tuple #[.slice none 0 0, .int .i64 3])) w3 from ⟨.slice none 0 0, by rw [hE, if_neg he]; rfl, by rw [hB]; unfold oneB; rw [if_neg he]; exact OwnR.nil _ _ _, fun k hk => (by cases hk), hb4, hst3⟩)
      have hne : ((oneE b : Int) != 0) = true := by simp; omega
      generalize oneE b = E at *
      clear hv hn hb3 hb4 hst3
      go_wp2_with fail
      go_ret2
      exact Hf.out
end Go.Proofs.Ytdlbamhabenhgaa

namespace Go.Sat
open Go.RowKit
/-- Names that begin with pre and are not to stay go. -/
def skipN (pre : Bs) (stay : List Bs) (n : Bs) : Bool := !(pre.isPrefixOf n) || stay.contains n
end Go.Sat

namespace Go.Proofs.Ytdlbamhabenhgaa
open Go.RowKit Go.Sat Go.Maps

namespace DiskM
def clearL (pre : Bs) (stay : List Bs) (D : DiskM) : List Bs → DiskM × Nat
  | [] => (D, 0)
  | n :: r => if skipN pre stay n then clearL pre stay D r else if (D.remove [n]).2 = 0 then clearL pre stay (D.remove [n]).1 r else D.remove [n]
def clear (D : DiskM) (pre : Bs) (stay : List Bs) : DiskM × Nat := clearL pre stay D (namesOf D)

theorem clearL_skip {pre : Bs} {stay : List Bs} {D : DiskM} {n : Bs} {r : List Bs} (h : skipN pre stay n = true) : clearL pre stay D (n :: r) = clearL pre stay D r := by
  show (if skipN pre stay n then _ else _) = _
  rw [if_pos h]
theorem clearL_go {pre : Bs} {stay : List Bs} {D D' : DiskM} {n : Bs} {r : List Bs} (h : skipN pre stay n = false) (hr : D.remove [n] = (D', 0)) : clearL pre stay D (n :: r) = clearL pre stay D' r := by
  show (if skipN pre stay n then _ else if (D.remove [n]).2 = 0 then clearL pre stay (D.remove [n]).1 r else D.remove [n]) = _
  rw [if_neg (by simp [h]), hr, if_pos rfl]
theorem clearL_err {pre : Bs} {stay : List Bs} {D D' : DiskM} {n : Bs} {r : List Bs} {e : Nat} (h : skipN pre stay n = false) (hr : D.remove [n] = (D', e)) (he : e ≠ 0) : clearL pre stay D (n :: r) = (D', e) := by
  show (if skipN pre stay n then _ else if (D.remove [n]).2 = 0 then clearL pre stay (D.remove [n]).1 r else D.remove [n]) = _
  rw [if_neg (by simp [h]), hr, if_neg he]
end DiskM

theorem enc_str (x : Bs) : encStr x = .string ⟨x.toArray⟩ := rfl
theorem nm_str (x : Bs) : nm ⟨x.toArray⟩ = x := by simp [nm]

theorem HasN.same {w w' : World} {v : Value} {l : List Bs} (h : HasN w v l) (hs : ∀ k, v.ownBlock = some k → w'.heap[k]? = w.heap[k]?) : HasN w' v l := by
  obtain ⟨hl, p, cap, rfl, h0, hc⟩ := h
  refine ⟨hl, p, cap, rfl, h0, fun a ha i u hu => ?_⟩
  have hb : (a.add i).block = a.block := add_block _ _
  exact (World.cell?_of_block (by rw [hb]; exact hs _ (by rw [ha]; rfl))).trans (hc a ha i u hu)

theorem contains_calls {w : World} {v : Value} {l : List Bs} (h : HasN w v l) (hl : l.length ≤ 9223372036854775807) (x : Bs) :
    Calls Try.prog 70 #[v, .string ⟨x.toArray⟩] w fun e w' => e = .returned (.bool (l.contains x)) ∧ w' = w := by
  rcases h.at with rfl | ⟨b, o, c, rfl, hc⟩
  · obtain ⟨p, c, rfl⟩ := h.slice
    exact Try.slices_Contains_string_empty p c _ w
  · have H := Try.slices_Contains_string b o l.length c (l.map fun x => (⟨x.toArray⟩ : ByteArray)) ⟨x.toArray⟩ w (by simp) hl (fun j hj => by
      have hj' : j < l.length := by simpa using hj
      rw [hc j l[j] (List.getElem?_eq_getElem hj'), enc_str]
      simp [List.getD_eq_getElem?_getD, hj'])
    have e : Lib.containsS ((l.map fun x => (⟨x.toArray⟩ : ByteArray)).take l.length) ⟨x.toArray⟩ = l.contains x := by
      rw [List.take_of_length_le (by simp), Bool.eq_iff_iff, Lib.containsS_iff, List.contains_iff_mem, List.mem_map]
      constructor
      · rintro ⟨y, hy, e⟩
        have : y = x := by
          have := congrArg nm e
          rwa [nm_str, nm_str] at this
        rwa [this] at hy
      · intro hx
        exact ⟨x, hx, rfl⟩
    rw [e] at H
    exact H

theorem prefix_calls (w : World) (x : Bs) (s : ByteArray) :
    Calls Try.prog 69 #[.string ⟨x.toArray⟩, .string s] w fun e w' => e = .returned (.bool ((nm s).isPrefixOf x)) ∧ w' = w := by
  have H := Try.strings_HasPrefix ⟨x.toArray⟩ s w
  exact H
end Go.Proofs.Ytdlbamhabenhgaa

namespace Go.Proofs.Ytdlbamhabenhgaa
open Go.RowKit Go.Sat Go.Maps

/-- A file of the document's disk: its name, the value of its bytes, what it is. -/
structure RFile where
  n : Bs
  b : Value
  f : FileM

def RFile.cells (x : RFile) : List Value := [encStr x.n, x.b, .int .i64 (x.f.lasts : Int)]
def RFile.key (x : RFile) : Bs × FileM := (x.n, x.f)

def leftOf : Option Nat → Int
  | none => -1
  | some k => k

theorem cells_len (L : List RFile) : (L.flatMap RFile.cells).length = L.length * 3 := by
  induction L with
  | nil => rfl
  | cons x r ih => rw [List.flatMap_cons, List.length_append, ih, List.length_cons]; simp [RFile.cells]; omega

theorem cells_at (L : List RFile) (i : Nat) (x : RFile) (h : L[i]? = some x) (j : Nat) (hj : j < 3) : (L.flatMap RFile.cells)[i * 3 + j]? = x.cells[j]? := by
  induction L generalizing i with
  | nil => simp at h
  | cons y r ih =>
    rw [List.flatMap_cons]
    cases i with
    | zero =>
      simp at h
      subst h
      rw [List.getElem?_append_left (by simp [RFile.cells]; omega)]
      simp
    | succ i =>
      rw [List.getElem?_append_right (by simp [RFile.cells]; omega)]
      have e : (i + 1) * 3 + j - y.cells.length = i * 3 + j := by simp [RFile.cells]; omega
      rw [e]
      exact ih i (by simpa using h)

structure RefIn (w : World) (r : Nat) (v : Value) (L : List RFile) (own : Nat → Prop) (D : DiskM) : Prop where
  cells : w.heap[r]? = some (.cells #[.int .i64 (D.room : Int), v, .int .i64 (leftOf D.fuse)] 94 (0, 0))
  row : OwnR w 96 3 v L.length (L.flatMap RFile.cells)
  files : D.files = L.map RFile.key
  data : ∀ x ∈ L, OwnB w 5 x.b x.f.data
  or : own r
  ov : ∀ k, v.ownBlock = some k → own k ∧ k ≠ r
  ob : ∀ x ∈ L, ∀ k, x.b.ownBlock = some k → own k ∧ k ≠ r ∧ v.ownBlock ≠ some k
  olt : ∀ k, own k → k < w.heap.size
  ok : D.OK

def RefAt (w : World) (r : Nat) (D : DiskM) (own : Nat → Prop) : Prop := ∃ v L, RefIn w r v L own D

theorem RefIn.keep {w w' : World} {r : Nat} {v : Value} {L : List RFile} {own : Nat → Prop} {D : DiskM} (h : RefIn w r v L own D) (hs : w.heap.size ≤ w'.heap.size) (hb : ∀ k, own k → w'.heap[k]? = w.heap[k]?) : RefIn w' r v L own D where
  cells := (hb r h.or).trans h.cells
  row := h.row.keep fun k hk => hb k (h.ov k hk).1
  files := h.files
  data := fun x hx => OwnR.keep (h.data x hx) fun k hk => hb k (h.ob x hx k hk).1
  or := h.or
  ov := h.ov
  ob := h.ob
  olt := fun k hk => Nat.lt_of_lt_of_le (h.olt k hk) hs
  ok := h.ok

theorem RefAt.keep {w w' : World} {r : Nat} {own : Nat → Prop} {D : DiskM} (h : RefAt w r D own) (hs : w.heap.size ≤ w'.heap.size) (hb : ∀ k, own k → w'.heap[k]? = w.heap[k]?) : RefAt w' r D own := by
  obtain ⟨v, L, h⟩ := h
  exact ⟨v, L, h.keep hs hb⟩

section
variable {w : World} {r : Nat} {v : Value} {L : List RFile} {own : Nat → Prop} {D : DiskM}

theorem RefIn.c0 (h : RefIn w r v L own D) : w.cell? ⟨r, 0, none⟩ = some (.int .i64 (D.room : Int)) := cell_of h.cells rfl
theorem RefIn.c1 (h : RefIn w r v L own D) : w.cell? ⟨r, 1, none⟩ = some v := cell_of h.cells rfl
theorem RefIn.c2 (h : RefIn w r v L own D) : w.cell? ⟨r, 2, none⟩ = some (.int .i64 (leftOf D.fuse)) := cell_of h.cells rfl
theorem RefIn.len (h : RefIn w r v L own D) : L.length = D.files.length := by rw [h.files, List.length_map]

/-- The cells of a file. -/
theorem RefIn.at (h : RefIn w r v L own D) : L = [] ∨ ∃ g c, v = .slice (some ⟨g, 0, none⟩) L.length c ∧ L.length ≤ c ∧ ∀ i x, L[i]? = some x → w.cell? ⟨g, i * 3, none⟩ = some (encStr x.n) ∧ w.cell? ⟨g, i * 3 + 1, none⟩ = some x.b ∧ w.cell? ⟨g, i * 3 + 2, none⟩ = some (.int .i64 (x.f.lasts : Int)) := by
  rcases h.row.2 with ⟨rfl, hn⟩ | ⟨g, cap, cur, e, hg, hnc, _⟩
  · exact .inl (List.eq_nil_of_length_eq_zero hn)
  · refine .inr ⟨g, cap, e, hnc, fun i x hx => ?_⟩
    have hc := h.row.cells (g := g) (by rw [e]; rfl)
    refine ⟨?_, ?_, ?_⟩
    · have := hc (i * 3 + 0) (encStr x.n) ((cells_at L i x hx 0 (by omega)).trans rfl)
      rwa [add_zero] at this
    · have := hc (i * 3 + 1) x.b ((cells_at L i x hx 1 (by omega)).trans rfl)
      rwa [add_zero] at this
    · have := hc (i * 3 + 2) _ ((cells_at L i x hx 2 (by omega)).trans rfl)
      rwa [add_zero] at this

theorem RefIn.slice (h : RefIn w r v L own D) : ∃ p c, v = .slice p L.length c := OwnR.shape h.row
end

/-- Where a name stands, or would stand. -/
def spotN (n : Bs) : List Bs → Nat
  | [] => 0
  | x :: r => if bytesBefore x n then spotN n r + 1 else 0
def isAt (n : Bs) (l : List Bs) : Bool := l[spotN n l]? == some n

theorem less_before (x : Bs) (s : ByteArray) : Op.bytesLess x s.toList = bytesBefore x (nm s) := by
  have e : s.toList = nm s := ByteArray.toList_eq s
  rw [e, Bool.eq_iff_iff, bb_lt, bytesLess_eq, decide_eq_true_eq]

theorem drop_cons {α : Type} {l : List α} {k : Nat} {x : α} (h : l[k]? = some x) : l.drop k = x :: l.drop (k + 1) := by
  obtain ⟨hk, rfl⟩ := List.getElem?_eq_some_iff.1 h
  exact List.drop_eq_getElem_cons hk

theorem spotN_yes {n x : Bs} {r : List Bs} (h : bytesBefore x n = true) : spotN n (x :: r) = spotN n r + 1 := by
  show (if bytesBefore x n then _ else _) = _
  rw [if_pos h]
theorem spotN_no {n x : Bs} {r : List Bs} (h : bytesBefore x n = false) : spotN n (x :: r) = 0 := by
  show (if bytesBefore x n then _ else _) = _
  rw [if_neg (by simp [h])]
theorem spotN_le (n : Bs) : ∀ l, spotN n l ≤ l.length
  | [] => Nat.le_refl _
  | x :: r => by
    have := spotN_le n r
    cases h : bytesBefore x n with
    | true => rw [spotN_yes h]; simp; omega
    | false => rw [spotN_no h]; exact Nat.zero_le _

set_option maxRecDepth 100000 in
theorem spot_calls {w : World} {r : Nat} {v : Value} {L : List RFile} {own : Nat → Prop} {D : DiskM} (h : RefIn w r v L own D) (s : ByteArray) :
    Calls Try.prog 75 #[.pointer (some ⟨r, 0, none⟩), .string s] w fun e w' => e = .returned (.tuple #[.int .i64 (spotN (nm s) (L.map RFile.n) : Int), .bool (isAt (nm s) (L.map RFile.n))]) ∧ ∃ q, w' = w.drewN q := by
  obtain ⟨p, c, rfl⟩ := h.slice
  have c1 := h.c1
  have Hat := Lib.hid h.at
  have hcount : L.length ≤ 4096 := by rw [h.len]; exact h.ok.count
  clear h
  have hNn : (L.map RFile.n).length = L.length := List.length_map ..
  generalize hN : L.length = N at *
  have HN := Lib.hid hN
  have HNn := Lib.hid hNn
  clear hN hNn
  go_enter Try.func75, Try.ntmps75
  go_wp2_with fail
  go_loop [6] (fun i => ∃ k : Nat, k ≤ N ∧ i = .int .i64 k ∧ spotN (nm s) (L.map RFile.n) = k + spotN (nm s) ((L.map RFile.n).drop k)) (fun i => N - (intOf i).toNat)
  case atStart => exact ⟨0, Nat.zero_le _, rfl, by simp⟩
  case round =>
    obtain ⟨k, hk, rfl, hsp⟩ := hrel
    by_cases hlt : k < N
    · have hkl : k < L.length := by rw [HN.out]; exact hlt
      obtain ⟨y, hy⟩ : ∃ y, L[k]? = some y := ⟨_, List.getElem?_eq_getElem hkl⟩
      have hmk : (L.map RFile.n)[k]? = some y.n := by rw [List.getElem?_map, hy]; rfl
      rw [drop_cons hmk] at hsp
      rcases Hat.out with h0 | ⟨g, c1, e1, -, hc⟩
      · rw [h0] at hkl
        simp at hkl
      cases e1
      obtain ⟨hn0, -, -⟩ := hc k y hy
      rw [enc_str] at hn0
      have Hsp := Lib.hid hsp
      have Hmk := Lib.hid hmk
      clear hc hkl hy hsp hmk
      generalize y.n = x at *
      cases hb : bytesBefore x (nm s) with
      | true =>
        have hb1 : Op.bytesLess x s.toList = true := by rw [less_before]; exact hb
        go_wp2_with fail
        go_round
        case rel => exact ⟨k + 1, by omega, by go_num, by rw [Hsp.out, spotN_yes hb]; omega⟩
        case measure => simp [intOf]; omega
      | false =>
        have hb1 : Op.bytesLess x s.toList = false := by rw [less_before]; exact hb
        have Hfin : spotN (nm s) (L.map RFile.n) = k := by rw [Hsp.out, spotN_no hb]; rfl
        have Hfa : isAt (nm s) (L.map RFile.n) = (x == nm s) := by unfold isAt; rw [Hfin, Hmk.out]; rfl
        have Hres := Lib.hid (show Value.tuple #[.int .i64 (k : Int), .bool (x == s.toList)] = .tuple #[.int .i64 (spotN (nm s) (L.map RFile.n) : Int), .bool (isAt (nm s) (L.map RFile.n))] by rw [Hfin, Hfa, ByteArray.toList_eq]; rfl)
        clear Hsp Hfin Hfa hb
        go_wp2_with fail
        go_quiet (fail)
        go_wp2
        go_ret2
        exact ⟨congrArg Ending.returned Hres.out, _, rfl⟩
    · have hkN : k = N := by omega
      subst hkN
      have hd : (L.map RFile.n).drop k = [] := List.drop_of_length_le (by rw [HNn.out]; exact Nat.le_refl _)
      rw [hd] at hsp
      have hsp' : spotN (nm s) (L.map RFile.n) = k := hsp
      have hfa : isAt (nm s) (L.map RFile.n) = false := by unfold isAt; rw [hsp', List.getElem?_eq_none (by rw [HNn.out]; exact Nat.le_refl _)]; rfl
      have Hres := Lib.hid (show Value.tuple #[.int .i64 (k : Int), .bool false] = .tuple #[.int .i64 (spotN (nm s) (L.map RFile.n) : Int), .bool (isAt (nm s) (L.map RFile.n))] by rw [hsp', hfa])
      clear hsp hsp' hfa hd
      go_wp2_with fail
      go_quiet (fail)
      go_wp2
      go_ret2
      exact ⟨congrArg Ending.returned Hres.out, _, rfl⟩
end Go.Proofs.Ytdlbamhabenhgaa
