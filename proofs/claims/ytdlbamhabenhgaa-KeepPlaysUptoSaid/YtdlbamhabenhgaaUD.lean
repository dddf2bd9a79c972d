/- The contract of Rename. The contract of List. The contract of satrapylaw3.same. The contract of satrapylaw3.texts. Arguments that are slices of structs of one-cell fields, and slices of texts. What a script of satrapylaw4 is, as the form reads it. The contract of satrapylaw3.known: it is true. DiskKeeps: the walk. The contract of octet.Sum. The contracts of frame's small functions: four, fromFour, headOf. The contracts of frame.headOf and frame.Encode. octet.Join: what it hands back lies in a block of its own. -/
import Derived.Deep.Fields
import Derived.Deep.Strs
import Derived.Laws.BitsAllLaws
import Derived.Test.YtdlbamhabenhgaaIter
import Derived.Test.YtdlbamhabenhgaaUA
import Derived.Test.YtdlbamhabenhgaaUC
namespace Go.Proofs.Ytdlbamhabenhgaa
open Go.RowKit Go.Sat Go.Maps

theorem ok_rename {D : DiskM} (h : D.OK) {o n : Bs} {f : FileM} (hg : Sat.get o D.files = some f) (hn : okN n = true) : DiskM.OK { D with files := put n f (del o D.files) } where
  srt := srt_put (srt_del h.srt)
  room := h.room
  used := by
    show sumBy DiskM.size (put n f (del o D.files)) ≤ D.room
    have h1 : D.used = DiskM.size f + sumBy DiskM.size (del o D.files) := sum_del h.srt hg
    have h2 := h.used
    rw [sum_put]
    cases hg2 : Sat.get n (del o D.files) with
    | none => rw [del_none hg2]; omega
    | some f2 =>
      have h3 : sumBy DiskM.size (del o D.files) = DiskM.size f2 + sumBy DiskM.size (del n (del o D.files)) := sum_del (srt_del h.srt) hg2
      omega
  count := by
    show (put n f (del o D.files)).length ≤ 4096
    have h1 := len_del h.srt hg
    have h2 := len_del_le n (del o D.files)
    have h3 := h.count
    rw [len_put]
    omega
  names p hp := by
    rcases mem_put.1 hp with rfl | ⟨hp, _⟩
    · exact hn
    · exact h.names p (mem_del.1 hp).1
  lasts p hp := by
    rcases mem_put.1 hp with rfl | ⟨hp, _⟩
    · exact h.lasts (o, f) (get_mem hg)
    · exact h.lasts p (mem_del.1 hp).1
  fuse := h.fuse

section
variable {w : World} {d m : Nat} {left : Int} {L : List (Bs × FRep)} {own : Own} {D : DiskM}

theorem ren_file (h : DiskIn w d m left L own D) {o n : Bs} {r : FRep} (hg : Sat.get o L = some r) {w' : World} (hs : w.heap.size ≤ w'.heap.size) (hb : ∀ k, k < w.heap.size → k ≠ m → w'.heap[k]? = w.heap[k]?)
    (hm : ∃ q, w'.ownsMap Try.prog 9 ptrR m q (dm fbD (put n r (del o L)))) (hn : okN n = true) :
    ∃ own', DiskIn w' d m left (put n r (del o L)) own' { D with files := put n r.f (del o D.files) } ∧ Ext w own own' := by
  refine h.remap (L' := put n r (del o L)) hs hb hm (srt_put (srt_del h.srt)) rfl rfl (by rw [mp_put, mp_del, ← h.files]) (ok_rename h.ok (by rw [h.get, hg]; rfl) hn) (fun p hp => ?_) (fun p hp q hq e => ?_)
  · rcases mem_put.1 hp with rfl | ⟨hp, _⟩
    · exact ⟨_, get_mem hg, rfl⟩
    · exact ⟨p, (mem_del.1 hp).1, rfl⟩
  · have hr := h.fileAt hg
    have other : ∀ p, p ∈ del o L → p.2.fb = r.fb → False := fun p hp e => by
      have h1 := (h.file p (mem_del.1 hp).1).ob
      rw [e, hr.ob] at h1
      exact (mem_del.1 hp).2 (by simpa using h1.symm)
    rcases mem_put.1 hp with rfl | ⟨hp, _⟩
    · rcases mem_put.1 hq with rfl | ⟨hq, _⟩
      · rfl
      · exact (other q hq e.symm).elim
    · rcases mem_put.1 hq with rfl | ⟨hq, _⟩
      · exact (other p hp e).elim
      · have h1 := (h.file p (mem_del.1 hp).1).ob
        have h2 := (h.file q (mem_del.1 hq).1).ob
        rw [e, h2] at h1
        exact key_uniq h.srt (mem_del.1 hp).1 (mem_del.1 hq).1 (by simpa using h1.symm)

theorem strs_two (w : World) (o s : ByteArray) : StrsAt (w.alloc (.cells #[.string o, .string s] 9)) (some ⟨w.heap.size, 0, none⟩) [o, s] := strs_new w [o, s] _ rfl _ (0, 0)

set_option maxRecDepth 100000 in
set_option maxHeartbeats 2000000 in
theorem rename_bad (h : DiskIn w d m left L own D) (o s : ByteArray) (hso : o.size ≤ 9223372036854775807) (hss : s.size ≤ 9223372036854775807) (hm : D.may [nm o, nm s] ≠ 0) :
    Calls Try.prog 29 #[.pointer (some ⟨d, 0, none⟩), .string o, .string s] w (After w d own (D, D.may [nm o, nm s])) := by
  have h1 := h.chg (Chg.alloc w (.cells #[.string o, .string s] 9)) (fun k hk => hk.elim)
  have hc := may_calls h1 _ [o, s] 2 (strs_two w o s) (by simp) (by simp; exact ⟨hso, hss⟩)
  simp only [List.map_cons, List.map_nil] at hc
  have Hfin := Lib.hid (show After w d own (D, D.may [nm o, nm s]) (.returned (.int .i64 (D.may [nm o, nm s] : Int))) (w.alloc (.cells #[.string o, .string s] 9)) from
    ⟨own, rfl, ⟨m, left, L, h1⟩, (Chg.alloc w _).mono fun _ _ h => h.elim, ext_refl _ _⟩)
  generalize D.may [nm o, nm s] = e0 at *
  have hne : ((e0 : Int) != 0) = true := by simp; omega
  have Hc := Lib.hid hc
  clear h hc h1
  go_enter Try.func29, Try.ntmps29
  go_wp2_with fail
  refine Hc.out.mono ?_
  rintro e w' ⟨rfl, rfl⟩
  go_wp2_with fail
  go_ret
  exact Hfin.out

set_option maxRecDepth 100000 in
set_option maxHeartbeats 2000000 in
theorem rename_none (h : DiskIn w d m left L own D) (o s : ByteArray) (hso : o.size ≤ 9223372036854775807) (hss : s.size ≤ 9223372036854775807) (hm : D.may [nm o, nm s] = 0) (hg : Sat.get (nm o) L = none) :
    Calls Try.prog 29 #[.pointer (some ⟨d, 0, none⟩), .string o, .string s] w (After w d own (D, 7)) := by
  have h1 := h.chg (Chg.alloc w (.cells #[.string o, .string s] 9)) (fun k hk => hk.elim)
  have hc := may_calls h1 _ [o, s] 2 (strs_two w o s) (by simp) (by simp; exact ⟨hso, hss⟩)
  simp only [List.map_cons, List.map_nil, hm] at hc
  have hlook := run_look_none _ keyLaw Try.underlying9 Try.underlying74 (zeroFile _) FRep.fb h1.map hso hg
  have hc1 := h1.c1
  have Hfin := Lib.hid (show After w d own (D, 7) (.returned (.int .i64 (7 : Int))) (w.alloc (.cells #[.string o, .string s] 9)) from
    ⟨own, rfl, ⟨m, left, L, h1⟩, (Chg.alloc w _).mono fun _ _ h => h.elim, ext_refl _ _⟩)
  have Hc := Lib.hid hc
  have Hlook := Lib.hid hlook
  have Hc1 := Lib.hid hc1
  clear h hc h1 hlook hc1
  generalize hw0 : w.alloc (.cells #[.string o, .string s] 9) = w0 at *
  go_enter Try.func29, Try.ntmps29
  go_wp2_with fail
  have hlook := Hlook.out
  have hc1 := Hc1.out
  refine Hc.out.mono ?_
  rintro e w' ⟨rfl, rfl⟩
  clear hw0
  go_wp2_with fail
  go_ret
  exact Hfin.out

set_option maxRecDepth 100000 in
set_option maxHeartbeats 4000000 in
theorem rename_some (h : DiskIn w d m left L own D) (o s : ByteArray) (hso : o.size ≤ 9223372036854775807) (hss : s.size ≤ 9223372036854775807) (hm : D.may [nm o, nm s] = 0) {r : FRep} (hg : Sat.get (nm o) L = some r) :
    Calls Try.prog 29 #[.pointer (some ⟨d, 0, none⟩), .string o, .string s] w (After w d own (DiskM.done { D with files := put (nm s) r.f (del (nm o) D.files) }, 0)) := by
  have h1 := h.chg (Chg.alloc w (.cells #[.string o, .string s] 9)) (fun k hk => hk.elim)
  have hc := may_calls h1 _ [o, s] 2 (strs_two w o s) (by simp) (by simp; exact ⟨hso, hss⟩)
  simp only [List.map_cons, List.map_nil, hm] at hc
  have hlook := run_look_some _ keyLaw Try.underlying9 Try.underlying74 (zeroFile _) FRep.fb h1.map hso hg
  have hc1 := h1.c1
  have hkey := WideMaps.keyOf_string_mk Try.underlying9 hso
  have hkey2 := WideMaps.keyOf_string_mk Try.underlying9 hss
  have hz := may_zero hm
  have hfu := hz.1
  have hokn : okN (nm s) = true := by
    have := hz.2
    simp at this
    exact this.2
  have hN : L.length < maxLen := by
    have h3 := h.ok.count
    rw [h.len] at h3
    unfold maxLen
    omega
  have Hw := Lib.hid (Chg.alloc w (.cells #[.string o, .string s] 9))
  have H1 := Lib.hid h1
  have Hc := Lib.hid hc
  have Hlook := Lib.hid hlook
  have Hc1 := Lib.hid hc1
  have Hok := Lib.hid hokn
  have Hfu := Lib.hid hfu
  have Hg := Lib.hid hg
  have hmap := h1.map
  have Hmap := Lib.hid hmap
  clear h hc h1 hlook hc1 hz hokn hm hg hmap hfu
  generalize hw0 : w.alloc (.cells #[.string o, .string s] 9) = w0 at *
  go_enter Try.func29, Try.ntmps29
  go_wp2_with fail
  have hlook := Hlook.out
  have hc1 := Hc1.out
  refine Hc.out.mono ?_
  rintro e w' ⟨rfl, rfl⟩
  clear hw0
  go_wp2_with (first | (at_delete; refine wpList_delete_own _ rfl _ _ 74 9 rfl 78 keyLaw Try.underlying74 ptrR m L.length (dm fbD L) rfl Hmap.out _ _ rfl hkey ?_; intro w1 hown1 hturn1; have hcA := cell_of (i := 1) (grown_block hturn1.grown H1.out.cells (fun e => H1.out.ne_of H1.out.od H1.out.om (by simp) (by cases e; rfl))) rfl; have Hf := Lib.hid (And.intro hown1 hturn1); clear hown1 hturn1) | (at_mapUpdate; refine wpList_mapUpdate_own _ rfl _ _ _ 74 rfl 9 78 keyLaw Try.underlying74 ptrR m L.length _ rfl Hf.out.1 hN _ _ _ rfl rfl hkey2 (.held r.fb) [] rfl ?_; intro w3 hown3 hg3; have Hg3 := Lib.hid (And.intro hown3 hg3); clear hown3 hg3))
  obtain ⟨hown1, hturn1⟩ := Hf.out
  obtain ⟨hown3, hg3⟩ := Hg3.out
  have hg1 := hturn1.grown
  have hb : ∀ k, k < w0.heap.size → k ≠ m → w3.heap[k]? = w0.heap[k]? := fun k hk hkm => by
    have := hg1.size
    rw [hg3.block k (by omega) (by intro e; cases e; exact hkm rfl), hg1.block k hk (by intro e; cases e; exact hkm rfl)]
  rw [show (.held r.fb : DataW Nat) = fbD r from rfl, dm_del, dm_put] at hown3
  obtain ⟨own', h4, hx⟩ := ren_file H1.out Hg.out (w' := w3) (n := nm s) (Nat.le_trans hg1.size hg3.size) hb ⟨_, hown3⟩ Hok.out
  have hchg : Chg (Has own) w w3 := (Hw.out.mono (T := Has own) fun _ _ h => h.elim).trans (((Chg.of_grown hg1).trans (Chg.of_grown hg3) fun _ _ h => h).mono fun k _ e => by cases e; exact has_m H1.out) fun _ _ h => h
  have hdone := done_calls h4 Hfu.out
  have Hdone := Lib.hid hdone
  have Hchg := Lib.hid hchg
  have Hx := Lib.hid hx
  have hsz := Hw.out.size
  have Hsz := Lib.hid hsz
  have Hod := Lib.hid (has_d H1.out)
  clear hown1 hturn1 hown3 hg3 hg1 hb h4 hx hchg hdone hsz
  refine Hdone.out.mono ?_
  rintro e w5 ⟨rfl, hd5, hc5⟩
  go_wp2_with fail
  go_ret
  exact ⟨own', rfl, hd5, Hchg.out.trans hc5 fun i _ e => by rw [e]; exact Hod.out, fun k hk => Hx.out k (Nat.lt_of_lt_of_le hk Hsz.out)⟩

/-- **Rename.** -/
theorem rename_calls (h : DiskAt w d D own) (o s : ByteArray) (hso : o.size ≤ 9223372036854775807) (hss : s.size ≤ 9223372036854775807) :
    Calls Try.prog 29 #[.pointer (some ⟨d, 0, none⟩), .string o, .string s] w (After w d own (D.rename (nm o) (nm s))) := by
  obtain ⟨m, left, L, h⟩ := h
  unfold DiskM.rename
  by_cases hm : D.may [nm o, nm s] = 0
  · rw [if_neg (by simpa using hm), h.get]
    cases hg : Sat.get (nm o) L with
    | none => exact rename_none h o s hso hss hm hg
    | some r => exact rename_some h o s hso hss hm hg
  · rw [if_pos (by simpa using hm)]
    exact rename_bad h o s hso hss hm
end

theorem st_rename {w w1 : World} {d : Nat} {D : DiskM} {F : Nat → Prop} (h : St w w1 d D F) (o s : ByteArray) (hso : o.size ≤ 9223372036854775807) (hss : s.size ≤ 9223372036854775807) :
    Calls Try.prog 29 #[.pointer (some ⟨d, 0, none⟩), .string o, .string s] w1 (Told w d F w1 (D.rename (nm o) (nm s))) := by
  obtain ⟨own, hd, hb, hnn, hF⟩ := h
  refine (rename_calls hd o s hso hss).mono ?_
  rintro e w' ⟨own', rfl, hd', hc, hx⟩
  exact ⟨rfl, St.step hb hnn hF hd' hc hx⟩
end Go.Proofs.Ytdlbamhabenhgaa

namespace Go.Sat
open Go.RowKit Go.Maps

theorem bb_lt : ∀ (a b : Bs), bytesBefore a b = true ↔ a < b
  | [], [] => by simp [bytesBefore]
  | [], _ :: _ => by simp [bytesBefore]
  | _ :: _, [] => by simp [bytesBefore]
  | a :: r, b :: s => by
    rw [List.cons_lt_cons_iff, ← bb_lt r s]
    simp [bytesBefore]

/-- Not behind. -/
def Le (x y : Bs) : Prop := bytesBefore y x = false

theorem le_iff (x y : Bs) : x ≤ y ↔ Le x y := by
  unfold Le
  rw [← Bool.not_eq_true, bb_lt]
  exact Iff.rfl

theorem le_anti {x y : Bs} (h : Le x y) (k : Le y x) : x = y := by
  by_cases e : x = y
  · exact e
  · rcases bb_total x y e with h1 | h1
    · rw [k] at h1; cases h1
    · rw [h] at h1; cases h1

theorem le_total (x y : Bs) : Le x y ∨ Le y x := by
  unfold Le
  cases h : bytesBefore y x with
  | false => exact .inl rfl
  | true =>
    right
    cases h2 : bytesBefore x y with
    | false => rfl
    | true =>
      have := bb_trans h h2
      rw [bb_irrefl] at this
      cases this

theorem le_trans' {x y z : Bs} (h : Le x y) (k : Le y z) : Le x z := by
  by_cases e : x = y
  · rw [e]; exact k
  · by_cases e2 : y = z
    · rw [← e2]; exact h
    · have h1 : bytesBefore x y = true := by
        rcases bb_total x y e with h1 | h1
        · exact h1
        · rw [h] at h1; cases h1
      have h2 : bytesBefore y z = true := by
        rcases bb_total y z e2 with h1 | h1
        · exact h1
        · rw [k] at h1; cases h1
      have h3 := bb_trans h1 h2
      unfold Le
      cases h4 : bytesBefore z x with
      | false => rfl
      | true =>
        have := bb_trans h3 h4
        rw [bb_irrefl] at this
        cases this

theorem sorted_uniq : ∀ {l m : List Bs}, l.Perm m → l.Pairwise Le → m.Pairwise Le → l = m
  | [], m, h, _, _ => h.nil_eq
  | a :: r, [], h, _, _ => by have := h.length_eq; simp at this
  | a :: r, b :: s, h, hl, hm => by
    rw [List.pairwise_cons] at hl hm
    have e : a = b := by
      have ha : a ∈ b :: s := h.subset (List.mem_cons_self ..)
      have hb : b ∈ a :: r := h.symm.subset (List.mem_cons_self ..)
      rcases List.mem_cons.1 ha with e | ha
      · exact e
      · rcases List.mem_cons.1 hb with e | hb
        · exact e.symm
        · exact le_anti (hl.1 b hb) (hm.1 a ha)
    subst e
    rw [sorted_uniq (List.Perm.cons_inv h) hl.2 hm.2]

theorem keys_sorted {α : Type} {L : List (Bs × α)} (h : Srt L) : (L.map (·.1)).Pairwise Le := by
  rw [List.pairwise_map]
  refine h.imp fun {p q} hpq => ?_
  unfold Le
  cases h4 : bytesBefore q.1 p.1 with
  | false => rfl
  | true =>
    have := bb_trans hpq h4
    rw [bb_irrefl] at this
    cases this

theorem merge_keys {α : Type} {L : List (Bs × α)} (h : Srt L) {ss : List Bs} (hp : ss.Perm (L.map (·.1))) : ss.mergeSort (fun x y => decide (x ≤ y)) = L.map (·.1) := by
  refine sorted_uniq ((List.mergeSort_perm ss _).trans hp) ?_ (keys_sorted h)
  have := List.pairwise_mergeSort (le := fun x y : Bs => decide (x ≤ y)) (fun a b c h1 h2 => by
    simp only [decide_eq_true_eq, le_iff] at *
    exact le_trans' h1 h2) (fun a b => by
    simp only [Bool.or_eq_true, decide_eq_true_eq, le_iff]
    exact le_total a b) ss
  exact this.imp fun {a b} hab => by simpa only [decide_eq_true_eq, le_iff] using hab

theorem keys_dm {H α : Type} (g : α → DataW H) (L : List (Bs × α)) : strKeys (dm g L) = L.map (·.1) := by
  simp only [strKeys, dm, List.map_map]
  exact List.map_congr_left fun p _ => rfl
end Go.Sat

namespace Go.Proofs.Ytdlbamhabenhgaa
open Go.RowKit Go.Sat Go.Maps

/-- A slice of strings of one's own. -/
def OwnN (w : World) (v : Value) (ns : List Bs) : Prop := OwnR w 9 1 v ns.length (ns.map encStr)

def namesOf (D : DiskM) : List Bs := D.files.map (·.1)

def Listed (w : World) (D : DiskM) (e : Ending) (w' : World) : Prop := ∃ v, e = .returned v ∧ OwnN w' v (namesOf D) ∧ (∀ k, v.ownBlock = some k → w.heap.size ≤ k) ∧ Below w.heap.size w w'

section
variable {w : World} {d m : Nat} {left : Int} {L : List (Bs × FRep)} {own : Own} {D : DiskM}

set_option maxHeartbeats 1000000 in
theorem list_calls (h : DiskAt w d D own) : Calls Try.prog 28 #[.pointer (some ⟨d, 0, none⟩)] w (Listed w D) := by
  obtain ⟨m, left, L, h⟩ := h
  have hc1 := h.c1
  have hcount : L.length ≤ 4096 := by rw [← h.len]; exact h.ok.count
  have hfin : ∀ (v : Value) (ss : List Bs) (w' : World), ss.Perm (strKeys (dm fbD L)) → w'.ownsRow (w.alloc (.cells #[.map (some m)] 74)).heap.size 9 1 v ss.length ((ss.mergeSort (fun x y => decide (x ≤ y))).map encStr) →
      Below (w.alloc (.cells #[.map (some m)] 74)).heap.size (w.alloc (.cells #[.map (some m)] 74)) w' → Listed w D (.returned v) w' := by
    intro v ss w' hp hr hb
    rw [keys_dm] at hp
    rw [merge_keys h.srt hp, hp.length_eq] at hr
    refine ⟨v, rfl, ?_, fun k hk => ?_, ((Below.refl _ _).alloc (Nat.le_refl _) _).trans (hb.mono (by simp))⟩
    · have e : namesOf D = L.map (·.1) := by
        unfold namesOf
        rw [h.files]
        simp [mp]
      unfold OwnN
      rw [e]
      exact OwnR.of_kit hr
    · have := OwnR.block_ge hr hk
      simp at this
      omega
  have hS := (callsIn_wide (n := 5)).1 (Try.slices_Sorted_keys_59_60 m L.length (dm fbD L) ptrR w h.map (by rw [dm_size]; unfold maxLen; omega) (by rw [dm_size]; omega))
  have hK := (callsIn_wide (n := 5)).1 (Try.maps_Keys_60 (some m) w)
  have Hfin := Lib.hid hfin
  have HS := Lib.hid hS
  have HK := Lib.hid hK
  clear hfin hS hK h hcount
  go_enter Try.func28, Try.ntmps28
  go_wp2_with fail
  refine HK.out.mono ?_
  rintro e w' ⟨rfl, rfl⟩
  go_wp2_with fail
  refine HS.out.mono ?_
  rintro e w' ⟨v, ss, rfl, hp, hr, -, hb⟩
  have Hl := Lib.hid (Hfin.out v ss w' hp hr hb)
  clear hp hr hb
  go_wp2_with fail
  go_ret
  exact Hl.out
end

def ListedS (w : World) (d : Nat) (D : DiskM) (F : Nat → Prop) (w1 : World) (e : Ending) (w' : World) : Prop :=
  ∃ v, e = .returned v ∧ OwnN w' v (namesOf D) ∧ (∀ k, v.ownBlock = some k → w1.heap.size ≤ k) ∧ Below w1.heap.size w1 w' ∧ St w w' d D F

theorem st_list {w w1 : World} {d : Nat} {D : DiskM} {F : Nat → Prop} (h : St w w1 d D F) :
    Calls Try.prog 28 #[.pointer (some ⟨d, 0, none⟩)] w1 (ListedS w d D F w1) := by
  have h0 := h
  obtain ⟨own, hd, hb, hnn, hF⟩ := h
  refine (list_calls hd).mono ?_
  rintro e w' ⟨v, rfl, hv, hn, hb'⟩
  exact ⟨v, rfl, hv, hn, hb', h0.next hb'⟩
end Go.Proofs.Ytdlbamhabenhgaa

namespace Go.Sat
open Go.RowKit
theorem HasB.at {w : World} {v : Value} {l : Bs} (h : HasB w v l) : l = [] ∨ ∃ b o c, v = .slice (some ⟨b, o, none⟩) l.length c ∧ ∀ i x, l[i]? = some x → w.cell? ⟨b, o + i, none⟩ = some (.int .u8 (x.toNat : Int)) := by
  obtain ⟨p, c, rfl, h0, hc⟩ := h.kit
  cases p with
  | none => exact .inl (h0 rfl)
  | some a =>
    cases l with
    | nil => exact .inl rfl
    | cons x r =>
      obtain ⟨b, o, sp⟩ := a
      have h1 := hc _ rfl 0 x (by simp)
      have hsp : sp = none := by
        have := World.cell?_spot h1
        simpa [Addr.add] using this
      subst hsp
      refine .inr ⟨b, o, c, rfl, fun i y hy => ?_⟩
      have h2 := hc _ rfl i y hy
      have e : (⟨b, o, none⟩ : Addr).add i = ⟨b, o + i, none⟩ := by unfold Addr.add; split <;> simp_all
      rw [← e]
      exact h2
end Go.Sat

namespace Go.Proofs.Ytdlbamhabenhgaa
open Go.RowKit Go.Sat Go.Maps

theorem take_eq_succ {l m : Bs} {k : Nat} {x y : UInt8} (hl : l[k]? = some x) (hm : m[k]? = some y) (h : l.take k = m.take k) (e : x = y) : l.take (k + 1) = m.take (k + 1) := by
  rw [List.take_add_one, List.take_add_one, hl, hm, h, e]

theorem ne_at {l m : Bs} {k : Nat} {x y : UInt8} (hl : l[k]? = some x) (hm : m[k]? = some y) (e : x ≠ y) : (l == m) = false := by
  rw [beq_eq_false_iff_ne]
  rintro rfl
  rw [hl] at hm
  exact e (Option.some.inj hm)

def SamePost (w : World) (b : Bool) (e : Ending) (w' : World) : Prop := e = .returned (.bool b) ∧ ∃ n, w' = w.drewN n

set_option maxHeartbeats 1000000 in
theorem same_calls {w : World} {x y : Value} {l m : Bs} (hx : HasB w x l) (hy : HasB w y m) (hl : l.length ≤ 140737488355328) (hm : m.length ≤ 140737488355328) :
    Calls Try.prog 20 #[x, y] w (SamePost w (l == m)) := by
  by_cases hlen : l.length = m.length
  · have ax := hx.at
    have ay := hy.at
    obtain ⟨px, cx, rfl⟩ := hx.slice
    obtain ⟨py, cy, rfl⟩ := hy.slice
    have hbne : ((l.length : Int) != (m.length : Int)) = false := by simp [hlen]
    have Hlen := Lib.hid hlen
    have Hax := Lib.hid ax
    have Hay := Lib.hid ay
    clear hx hy hlen ax ay
    generalize hlN : l.length = N at *
    generalize hmM : m.length = M at *
    have HlN := Lib.hid hlN
    have HmM := Lib.hid hmM
    clear hlN hmM
    go_enter Try.func20, Try.ntmps20
    go_wp2
    go_loopw [5] (fun i wr => ∃ k q : Nat, k ≤ N ∧ i = .int .i64 k ∧ l.take k = m.take k ∧ wr = w.drewN q) (fun i _ => N - (intOf i).toNat)
    case atStart => exact ⟨0, 0, Nat.zero_le _, rfl, rfl, rfl⟩
    case round =>
      obtain ⟨k, q, hk, rfl, htake, rfl⟩ := hrel
      have Htake := Lib.hid htake
      clear htake
      by_cases hlt : k < N
      · have hltM : k < M := by have := Hlen.out; omega
        have hkl : k < l.length := by rw [HlN.out]; exact hlt
        have hkm : k < m.length := by rw [HmM.out]; exact hltM
        have h1 : l[k]? = some l[k] := List.getElem?_eq_getElem hkl
        have h2 : m[k]? = some m[k] := List.getElem?_eq_getElem hkm
        rcases Hax.out with h | ⟨b, o, c, e1, hcx⟩
        · rw [h] at hkl
          simp at hkl
        rcases Hay.out with h | ⟨b2, o2, c2, e2, hcy⟩
        · rw [h] at hkm
          simp at hkm
        cases e1
        cases e2
        have hc1 := hcx k _ h1
        have hc2 := hcy k _ h2
        have Hnext := Lib.hid (fun e => take_eq_succ h1 h2 Htake.out e)
        have Hno := Lib.hid (fun e => ne_at h1 h2 e)
        clear hcx hcy h1 h2
        generalize l[k] = a at *
        generalize m[k] = b at *
        by_cases hab : a = b
        · have hd : ((a.toNat : Int) != (b.toNat : Int)) = false := by simp [hab]
          have Hab := Lib.hid hab
          clear hab hkl hkm
          go_wp2_with fail
          go_quiet (fail)
          go_wp2
          go_roundw
          case rel => exact ⟨k + 1, q + nq, by omega, by go_num, Hnext.out Hab.out, by first | rfl | rw [World.drewN_drewN]⟩
          case measure => simp [intOf]; omega
        · have hd : ((a.toNat : Int) != (b.toNat : Int)) = true := by
            simp only [bne_iff_ne, ne_eq, Int.natCast_inj]
            exact fun e => hab (UInt8.toNat.inj e)
          have Hab := Lib.hid hab
          clear hab hkl hkm
          go_wp2_with fail
          go_quiet (fail)
          go_wp2
          go_ret
          exact ⟨by rw [Hno.out Hab.out]; rfl, q + nq, by first | rfl | rw [World.drewN_drewN]⟩
      · go_wp2
        go_ret
        refine ⟨?_, q, rfl⟩
        have h1 := Htake.out
        rw [List.take_of_length_le (by rw [HlN.out]; omega), List.take_of_length_le (by rw [HmM.out]; have := Hlen.out; omega)] at h1
        simp [h1]
  · obtain ⟨px, cx, rfl⟩ := hx.slice
    obtain ⟨py, cy, rfl⟩ := hy.slice
    have hbne : ((l.length : Int) != (m.length : Int)) = true := by simp; omega
    have hres : (l == m) = false := by rw [beq_eq_false_iff_ne]; rintro rfl; exact hlen rfl
    rw [hres]
    clear hx hy hlen hres
    go_enter Try.func20, Try.ntmps20
    go_wp2
    go_ret
    exact ⟨rfl, 0, rfl⟩
end Go.Proofs.Ytdlbamhabenhgaa

namespace Go.Proofs.Ytdlbamhabenhgaa
open Go.RowKit Go.Sat Go.Maps

/-- v is a slice of these texts, wherever they lie. -/
def HasN (w : World) (v : Value) (l : List Bs) : Prop := Holds w 1 v l.length (l.map encStr)

theorem HasN.slice {w : World} {v : Value} {l : List Bs} (h : HasN w v l) : ∃ p c, v = .slice p l.length c := by
  obtain ⟨_, p, c, e, _⟩ := h
  exact ⟨p, c, e⟩

theorem HasN.at {w : World} {v : Value} {l : List Bs} (h : HasN w v l) : l = [] ∨ ∃ b o c, v = .slice (some ⟨b, o, none⟩) l.length c ∧ ∀ i x, l[i]? = some x → w.cell? ⟨b, o + i, none⟩ = some (encStr x) := by
  obtain ⟨hl, p, c, rfl, h0, hc⟩ := h
  cases p with
  | none =>
    left
    have := h0 rfl
    exact List.length_eq_zero_iff.1 this
  | some a =>
    cases l with
    | nil => exact .inl rfl
    | cons x r =>
      obtain ⟨b, o, sp⟩ := a
      have h1 := hc _ rfl 0 (encStr x) (by simp)
      have hsp : sp = none := by
        have := World.cell?_spot h1
        simpa [Addr.add] using this
      subst hsp
      refine .inr ⟨b, o, c, rfl, fun i y hy => ?_⟩
      have h2 := hc _ rfl i (encStr y) (by rw [List.getElem?_map, hy]; rfl)
      have e : (⟨b, o, none⟩ : Addr).add i = ⟨b, o + i, none⟩ := by unfold Addr.add; split <;> simp_all
      rw [← e]
      exact h2

theorem take_eq_succ' {l m : List Bs} {k : Nat} {x y : Bs} (hl : l[k]? = some x) (hm : m[k]? = some y) (h : l.take k = m.take k) (e : x = y) : l.take (k + 1) = m.take (k + 1) := by
  rw [List.take_add_one, List.take_add_one, hl, hm, h, e]

theorem ne_at' {l m : List Bs} {k : Nat} {x y : Bs} (hl : l[k]? = some x) (hm : m[k]? = some y) (e : x ≠ y) : (l == m) = false := by
  rw [beq_eq_false_iff_ne]
  rintro rfl
  rw [hl] at hm
  exact e (Option.some.inj hm)

set_option maxHeartbeats 1000000 in
theorem texts_calls {w : World} {x y : Value} {l m : List Bs} (hx : HasN w x l) (hy : HasN w y m) (hl : l.length ≤ 140737488355328) (hm : m.length ≤ 140737488355328) :
    Calls Try.prog 30 #[x, y] w (SamePost w (l == m)) := by
  by_cases hlen : l.length = m.length
  · have ax := hx.at
    have ay := hy.at
    obtain ⟨px, cx, rfl⟩ := hx.slice
    obtain ⟨py, cy, rfl⟩ := hy.slice
    have hbne : ((l.length : Int) != (m.length : Int)) = false := by simp [hlen]
    have Hlen := Lib.hid hlen
    have Hax := Lib.hid ax
    have Hay := Lib.hid ay
    clear hx hy hlen ax ay
    generalize hlN : l.length = N at *
    generalize hmM : m.length = M at *
    have HlN := Lib.hid hlN
    have HmM := Lib.hid hmM
    clear hlN hmM
    go_enter Try.func30, Try.ntmps30
    go_wp2
    go_loopw [5] (fun i wr => ∃ k q : Nat, k ≤ N ∧ i = .int .i64 k ∧ l.take k = m.take k ∧ wr = w.drewN q) (fun i _ => N - (intOf i).toNat)
    case atStart => exact ⟨0, 0, Nat.zero_le _, rfl, rfl, rfl⟩
    case round =>
      obtain ⟨k, q, hk, rfl, htake, rfl⟩ := hrel
      have Htake := Lib.hid htake
      clear htake
      by_cases hlt : k < N
      · have hltM : k < M := by have := Hlen.out; omega
        have hkl : k < l.length := by rw [HlN.out]; exact hlt
        have hkm : k < m.length := by rw [HmM.out]; exact hltM
        have h1 : l[k]? = some l[k] := List.getElem?_eq_getElem hkl
        have h2 : m[k]? = some m[k] := List.getElem?_eq_getElem hkm
        rcases Hax.out with h | ⟨b, o, c, e1, hcx⟩
        · rw [h] at hkl
          simp at hkl
        rcases Hay.out with h | ⟨b2, o2, c2, e2, hcy⟩
        · rw [h] at hkm
          simp at hkm
        cases e1
        cases e2
        have hc1 := hcx k _ h1
        have hc2 := hcy k _ h2
        have Hnext := Lib.hid (fun e => take_eq_succ' h1 h2 Htake.out e)
        have Hno := Lib.hid (fun e => ne_at' h1 h2 e)
        clear hcx hcy h1 h2
        generalize l[k] = a at *
        generalize m[k] = b at *
        by_cases hab : a = b
        · subst hab
          clear hkl hkm
          go_wp2_with fail
          go_quiet (fail)
          go_wp2
          go_roundw
          case rel => exact ⟨k + 1, q + nq, by omega, by go_num, Hnext.out trivial, by first | rfl | rw [World.drewN_drewN]⟩
          case measure => simp [intOf]; omega
        · have hd : ((a == b) = false) := by simpa using hab
          have Hab := Lib.hid hab
          clear hab hkl hkm
          go_wp2_with fail
          go_quiet (fail)
          go_wp2
          go_ret
          exact ⟨by rw [Hno.out Hab.out]; rfl, q + nq, by first | rfl | rw [World.drewN_drewN]⟩
      · go_wp2
        go_ret
        refine ⟨?_, q, rfl⟩
        have h1 := Htake.out
        rw [List.take_of_length_le (by rw [HlN.out]; omega), List.take_of_length_le (by rw [HmM.out]; have := Hlen.out; omega)] at h1
        simp [h1]
  · obtain ⟨px, cx, rfl⟩ := hx.slice
    obtain ⟨py, cy, rfl⟩ := hy.slice
    have hbne : ((l.length : Int) != (m.length : Int)) = true := by simp; omega
    have hres : (l == m) = false := by rw [beq_eq_false_iff_ne]; rintro rfl; exact hlen rfl
    rw [hres]
    clear hx hy hlen hres
    go_enter Try.func30, Try.ntmps30
    go_wp2
    go_ret
    exact ⟨rfl, 0, rfl⟩
end Go.Proofs.Ytdlbamhabenhgaa

namespace Go.Proofs.Ytdlbamhabenhgaa
open Go.RowKit Go.Sat Go.ChangeShapes Go.WideShapes Go.ChangeAt Go.Deep

section
variable {H : Type} {enc : TypeId × Value → H} {P : Program} {W : World}

theorem bulk_pos (d : DataW H) : 1 ≤ Rows.uptoBulk d := by
  cases d with
  | lit l => cases l <;> simp [Rows.uptoBulk]
  | _ => simp [Rows.uptoBulk]
theorem bulk_mem {d : DataW H} : ∀ {l : List (DataW H)}, d ∈ l → Rows.uptoBulk d ≤ Rows.uptoBulkAll l
  | [], h => by simp at h
  | x :: r, h => by
    simp only [Rows.uptoBulkAll]
    rcases List.mem_cons.1 h with rfl | h
    · omega
    · have := bulk_mem h
      omega
theorem bulk_len : ∀ l : List (DataW H), l.length ≤ Rows.uptoBulkAll l
  | [] => Nat.zero_le _
  | x :: r => by
    have h1 := bulk_len r
    have h2 := bulk_pos x
    simp only [Rows.uptoBulkAll, List.length_cons]
    omega
theorem bulk_slice (l r : List (DataW H)) : Rows.uptoBulkAll l ≤ Rows.uptoBulk (.slice l r) := by simp only [Rows.uptoBulk]; omega
theorem bulk_agg (l : List (DataW H)) : Rows.uptoBulkAll l ≤ Rows.uptoBulk (.agg l) := by simp only [Rows.uptoBulk]; omega

theorem slice_bulk {t e : TypeId} {fuel : Nat} {a : Option Addr} {len cap : Nat} {d : DataW H} {ps : List MemPlace} (ht : P.underlying t = some (.slice e)) (hf : DataW.trod enc P W 0 (fun _ => true) true fuel t [.slice a len cap] = some (d, ps)) : len ≤ Rows.uptoBulk d := by
  rcases open_slice ht hf with ⟨hcs, -⟩ | ⟨x, l, c, m, n, D, Pl, hcs, -, hl, hm, hmm, hd, hi⟩
  · simp only [List.cons.injEq, Value.slice.injEq, and_true] at hcs
    omega
  · simp only [List.cons.injEq, Value.slice.injEq, and_true] at hcs
    obtain ⟨rfl, rfl, rfl⟩ := hcs
    obtain ⟨rfl, -⟩ := Prod.mk.inj hd
    have h1 := bulk_len ((List.range len).map D)
    have h2 := bulk_slice ((List.range len).map D) ((List.range (m - len)).map fun j => D (len + j))
    rw [List.length_map, List.length_range] at h1
    omega

/-- What field j of element i of a slice of records is; B bounds its weights, K its bulk. -/
def FieldAt (enc : TypeId × Value → H) (P : Program) (W : World) (B K : Nat) (a : Addr) (t : TypeId) : Prop :=
  ∃ (v : Value) (fuel : Nat) (d : DataW H) (ps : List MemPlace), W.cell? a = some v ∧ DataW.trod enc P W 0 (fun _ => true) true fuel t [v] = some (d, ps) ∧ (∀ m ∈ d.weights P t, m ≤ B) ∧ Rows.uptoBulk d ≤ K

theorem open_recs {t e : TypeId} {fs : Array Field} {fuel : Nat} {a : Option Addr} {len cap B : Nat} {d : DataW H} {ps : List MemPlace} (ht : P.underlying t = some (.slice e)) (he : P.underlying e = some (.struct fs))
    (hone : oneCellFields P fs = true) (hC : P.cellsOf e = fs.size) (hf : DataW.trod enc P W 0 (fun _ => true) true fuel t [.slice a len cap] = some (d, ps)) (hw : ∀ n ∈ d.weights P t, n ≤ B) :
    (a = none ∧ len = 0) ∨ ∃ x, a = some x ∧ len * P.bytesOf e ≤ B ∧ ∀ i, i < len → ∀ j f, fs[j]? = some f → FieldAt enc P W B (Rows.uptoBulk d) (x.add (i * fs.size + j)) f.type := by
  rcases open_slice ht hf with ⟨hcs, -⟩ | ⟨x, l, c, m, n, D, Pl, hcs, -, hl, hm, hmm, hd, hi⟩
  · simp only [List.cons.injEq, Value.slice.injEq, and_true] at hcs
    exact .inl ⟨hcs.1, hcs.2.1⟩
  · simp only [List.cons.injEq, Value.slice.injEq, and_true] at hcs
    obtain ⟨rfl, rfl, rfl⟩ := hcs
    obtain ⟨rfl, -⟩ := Prod.mk.inj hd
    have hlm : len ≤ m := by rw [hmm]; split <;> omega
    have hb := weights_head ht hw
    simp only [List.length_map, List.length_range] at hb
    refine .inr ⟨x, rfl, Nat.le_trans (Nat.mul_le_mul_right _ (Nat.le_add_right _ _)) hb, fun i hil j f hj => ?_⟩
    obtain ⟨cs', hc, ht'⟩ := hi i (by omega)
    rw [hC] at hc
    obtain ⟨_, hcl, hat⟩ := World.cells?_some hc
    obtain ⟨ys, n', -, hy, -, hyl, hfld⟩ := DataW.trod_struct he ht'
    obtain ⟨hD, -⟩ := Prod.mk.inj hy
    have hjl : j < fs.size := (Array.getElem?_eq_some_iff.1 hj).1
    obtain ⟨ho, hk⟩ := hone_of hone j f hj
    have h1 := hfld j f hj
    rw [ho, hk, List.drop_eq_getElem_cons (show j < cs'.length by omega), List.take_succ_cons, List.take_zero, List.getElem?_eq_getElem (show j < ys.length by omega)] at h1
    have hcell := hat j hjl
    rw [Go.Deep.add_add, List.getElem?_eq_getElem (show j < cs'.length by omega)] at hcell
    have hin : D i ∈ (List.range len).map D := List.mem_map.2 ⟨i, List.mem_range.2 hil, rfl⟩
    have hyj : (ys.map (·.1))[j]? = some (ys[j]'(by omega)).1 := by
      rw [List.getElem?_map, List.getElem?_eq_getElem (show j < ys.length by omega)]
      rfl
    refine ⟨_, n', (ys[j]'(by omega)).1, (ys[j]'(by omega)).2, hcell, h1, fun k hk => ?_, ?_⟩
    rotate_left
    · have k1 := bulk_mem (List.mem_of_getElem? hyj)
      have k2 := bulk_agg (ys.map (·.1))
      have k3 := bulk_mem hin
      have k4 := bulk_slice ((List.range len).map D) ((List.range (m - len)).map fun j => D (len + j))
      rw [hD] at k3
      omega
    refine weights_elem ht hw hin k ?_
    rw [hD]
    simp only [DataW.weights, he]
    refine DataW.weights_mem_each (j := j) (t := f.type) (d := (ys[j]'(by omega)).1) ?_ hyj k hk
    rw [List.getElem?_map, Array.getElem?_toList, hj]
    rfl

theorem field_int {a : Addr} {t : TypeId} {k : IntKind} {B K : Nat} (ht : P.underlying t = some (.int k)) (h : FieldAt enc P W B K a t) : ∃ n, W.cell? a = some (.int k n) ∧ (Lit.int k n).wf = true := by
  obtain ⟨v, fuel, d, ps, hc, htr, -⟩ := h
  obtain ⟨n, e, -, hwf⟩ := DataW.trod_int ht htr
  cases e
  exact ⟨n, hc, hwf⟩

theorem field_string {a : Addr} {t : TypeId} {B K : Nat} (ht : P.underlying t = some .string) (h : FieldAt enc P W B K a t) : ∃ s : ByteArray, W.cell? a = some (.string s) ∧ s.size ≤ B ∧ s.size ≤ K := by
  obtain ⟨v, fuel, d, ps, hc, htr, hw, hk⟩ := h
  obtain ⟨s, e, hd, -⟩ := DataW.trod_string ht htr
  cases e
  obtain ⟨rfl, -⟩ := Prod.mk.inj hd
  have h1 := hw s.data.toList.length (by simp [DataW.weights])
  rw [Array.length_toList] at h1
  simp only [Rows.uptoBulk, Array.length_toList] at hk
  exact ⟨s, hc, h1, Nat.le_of_succ_le hk⟩

theorem field_bool {a : Addr} {t : TypeId} {B K : Nat} (ht : P.underlying t = some .bool) (h : FieldAt enc P W B K a t) : ∃ b, W.cell? a = some (.bool b) := by
  obtain ⟨v, fuel, d, ps, hc, htr, -⟩ := h
  obtain ⟨b, e, -⟩ := DataW.trod_bool ht htr
  cases e
  exact ⟨b, hc⟩
end

section
variable {H : Type} {enc : TypeId × Value → H} {W : World}

theorem trod_slice_one {P : Program} {t e : TypeId} {fuel : Nat} {v : Value} {x : DataW H × List MemPlace} (ht : P.underlying t = some (.slice e)) (h : DataW.trod enc P W 0 (fun _ => true) true fuel t [v] = some x) : ∃ a len cap, v = .slice a len cap := by
  rcases open_slice ht h with ⟨hcs, -⟩ | ⟨a, len, cap, _, _, _, _, hcs, -⟩ <;> (simp only [List.cons.injEq, and_true] at hcs; exact ⟨_, _, _, hcs⟩)

theorem field_bytes {a : Addr} {K : Nat} (h : FieldAt enc Try.prog W reachBytes K a 23) : ∃ p n c l, W.cell? a = some (.slice p n c) ∧ HasB W (.slice p n c) l ∧ l.length ≤ 140737488355328 ∧ l.length ≤ K := by
  obtain ⟨v, fuel, d, ps, hc, htr, hw, hk⟩ := h
  obtain ⟨p, n, c, rfl⟩ := trod_slice_one Try.underlying23 htr
  obtain ⟨l, hl, hn⟩ := bytes_arg htr hw
  have h1 := slice_bulk Try.underlying23 htr
  obtain ⟨p', c', e⟩ := hl.slice
  cases e
  exact ⟨p, _, c, l, hc, hl, hn, Nat.le_trans h1 hk⟩

/-- A []string. -/
theorem texts_arg {fuel : Nat} {d : DataW H} {ps : List MemPlace} {a : Option Addr} {len cap : Nat} (hf : DataW.trod enc Try.prog W 0 (fun _ => true) true fuel 40 [.slice a len cap] = some (d, ps)) (hw : ∀ n ∈ d.weights Try.prog 40, n ≤ reachBytes) :
    ∃ l, HasN W (.slice a len cap) l ∧ (l.length ≤ 8796093022208 ∧ l.length ≤ Rows.uptoBulk d) ∧ ∀ x ∈ l, x.length ≤ 140737488355328 ∧ x.length ≤ Rows.uptoBulk d := by
  have hbk := slice_bulk Try.underlying40 hf
  rcases open_strs Try.underlying40 Try.underlying9 (by kernel_rfl) hf with ⟨hcs, -⟩ | ⟨x, l, c, m, Sx, hcs, -, hl, hm, hmm, hd, hcell⟩
  · simp only [List.cons.injEq, Value.slice.injEq, and_true] at hcs
    obtain ⟨rfl, rfl, rfl⟩ := hcs
    exact ⟨[], ⟨by simp, none, 0, rfl, fun _ => rfl, fun a ha => by cases ha⟩, by simp, by simp⟩
  · simp only [List.cons.injEq, Value.slice.injEq, and_true] at hcs
    obtain ⟨rfl, rfl, rfl⟩ := hcs
    obtain ⟨rfl, -⟩ := Prod.mk.inj hd
    have hlm : len ≤ m := by rw [hmm]; split <;> omega
    have hb := weights_head Try.underlying40 hw
    rw [show Try.prog.bytesOf 9 = 16 by kernel_rfl] at hb
    simp only [List.length_map, List.length_range] at hb
    unfold reachBytes at hb
    have hS : ∀ i, i < len → (Sx i).size ≤ 140737488355328 ∧ (Sx i).size ≤ Rows.uptoBulk (.slice ((List.range len).map fun i => DataW.lit (H := H) (.string (Sx i).data.toList)) ((List.range (m - len)).map fun j => .lit (.string (Sx (len + j)).data.toList))) := fun i hi => by
      have hin : DataW.lit (H := H) (.string (Sx i).data.toList) ∈ (List.range len).map fun i => DataW.lit (H := H) (.string (Sx i).data.toList) := List.mem_map.2 ⟨i, List.mem_range.2 hi, rfl⟩
      have h1 := weights_elem Try.underlying40 hw hin (Sx i).data.toList.length (by simp [DataW.weights])
      have h2 := bulk_mem hin
      have h3 := bulk_slice ((List.range len).map fun i => DataW.lit (H := H) (.string (Sx i).data.toList)) ((List.range (m - len)).map fun j => .lit (.string (Sx (len + j)).data.toList))
      simp only [Rows.uptoBulk, Array.length_toList] at h2
      rw [Array.length_toList] at h1
      exact ⟨Nat.le_trans h1 (by unfold reachBytes; decide), Nat.le_trans (Nat.le_of_succ_le h2) h3⟩
    refine ⟨(List.range len).map fun i => nm (Sx i), ⟨by simp, some x, cap, by simp, fun e => (by cases e), fun a ha i u hu => ?_⟩, ⟨by rw [List.length_map, List.length_range]; omega, by rw [List.length_map, List.length_range]; exact hbk⟩, fun y hy => ?_⟩
    · cases ha
      rw [List.map_map] at hu
      rw [List.getElem?_map, Option.map_eq_some_iff] at hu
      obtain ⟨j, hj, rfl⟩ := hu
      have hil : i < len := by
        have := (List.getElem?_eq_some_iff.1 hj).1
        simpa using this
      have hji : j = i := by
        obtain ⟨_, e⟩ := List.getElem?_eq_some_iff.1 hj
        simpa using e.symm
      subst hji
      rw [(hcell j (by omega)).1]
      simp [encStr, nm]
    · obtain ⟨i, hi, rfl⟩ := List.mem_map.1 hy
      rw [nm_len]
      exact hS i (List.mem_range.1 hi)

theorem field_texts {a : Addr} {K : Nat} (h : FieldAt enc Try.prog W reachBytes K a 40) : ∃ p n c l, W.cell? a = some (.slice p n c) ∧ HasN W (.slice p n c) l ∧ (l.length ≤ 8796093022208 ∧ l.length ≤ K) ∧ ∀ x ∈ l, x.length ≤ 140737488355328 ∧ x.length ≤ K := by
  obtain ⟨v, fuel, d, ps, hc, htr, hw, hk⟩ := h
  obtain ⟨p, n, c, rfl⟩ := trod_slice_one Try.underlying40 htr
  obtain ⟨l, hl, hn, hx⟩ := texts_arg htr hw
  exact ⟨p, n, c, l, hc, hl, ⟨hn.1, Nat.le_trans hn.2 hk⟩, fun x h => ⟨(hx x h).1, Nat.le_trans (hx x h).2 hk⟩⟩
end
end Go.Proofs.Ytdlbamhabenhgaa

namespace Go.Proofs.Ytdlbamhabenhgaa
open Go.RowKit Go.Sat Go.ChangeShapes Go.WideShapes Go.ChangeAt Go.Deep

structure Step4 where
  kind : Int
  n : Int
  name : ByteArray
  pa : Option Addr
  na : Nat
  ca : Nat
  pb : Option Addr
  nb : Nat
  cb : Nat
  ps : Option Addr
  ns : Nat
  cs : Nat
  a : Bs
  b : Bs
  stay : List Bs

structure Step4At (K : Nat) (w : World) (g j : Nat) (s : Step4) : Prop where
  ck : w.cell? ⟨g, j, none⟩ = some (.int .i64 s.kind)
  cn : w.cell? ⟨g, j + 1, none⟩ = some (.int .i64 s.n)
  cm : w.cell? ⟨g, j + 2, none⟩ = some (.string s.name)
  c3 : w.cell? ⟨g, j + 3, none⟩ = some (.slice s.pa s.na s.ca)
  c4 : w.cell? ⟨g, j + 4, none⟩ = some (.slice s.pb s.nb s.cb)
  c5 : w.cell? ⟨g, j + 5, none⟩ = some (.slice s.ps s.ns s.cs)
  ha : HasB w (.slice s.pa s.na s.ca) s.a
  hb : HasB w (.slice s.pb s.nb s.cb) s.b
  hs : HasN w (.slice s.ps s.ns s.cs) s.stay
  ok : (-9223372036854775808 ≤ s.kind ∧ s.kind ≤ 9223372036854775807) ∧ (-9223372036854775808 ≤ s.n ∧ s.n ≤ 9223372036854775807) ∧ s.name.size ≤ K ∧ s.a.length ≤ K ∧ s.b.length ≤ K ∧ s.stay.length ≤ K ∧ ∀ x ∈ s.stay, x.length ≤ K

def Steps4 (K : Nat) (w : World) (p : Option Addr) (n : Nat) (l : List Step4) : Prop := l.length = n ∧ (l = [] ∨ ∃ g o, p = some ⟨g, o, none⟩ ∧ ∀ i s, l[i]? = some s → Step4At K w g (o + i * 6) s)

section
variable {H : Type} {enc : TypeId × Value → H} {W : World}

theorem step4_field {g o i j K : Nat} {t : TypeId} (h : FieldAt enc Try.prog W reachBytes K ((⟨g, o, none⟩ : Addr).add (i * 6 + j)) t) : FieldAt enc Try.prog W reachBytes K ⟨g, o + i * 6 + j, none⟩ t := by
  have e : (⟨g, o, none⟩ : Addr).add (i * 6 + j) = ⟨g, o + i * 6 + j, none⟩ := by unfold Addr.add; split <;> simp_all <;> omega
  rwa [e] at h

theorem steps4_arg {fuel : Nat} {d : DataW H} {ps : List MemPlace} {a : Option Addr} {len cap : Nat} (hf : DataW.trod enc Try.prog W 0 (fun _ => true) true fuel 63 [.slice a len cap] = some (d, ps)) (hw : ∀ n ∈ d.weights Try.prog 63, n ≤ reachBytes) :
    ∃ l, Steps4 (Rows.uptoBulk d) W a len l ∧ len ≤ 140737488355328 ∧ len ≤ Rows.uptoBulk d := by
  have hbk := slice_bulk Try.underlying63 hf
  rcases open_recs Try.underlying63 Try.underlying66 (by kernel_rfl) (by kernel_rfl) hf hw with ⟨rfl, rfl⟩ | ⟨x, rfl, hlen, hel⟩
  · exact ⟨[], ⟨rfl, .inl rfl⟩, by decide, hbk⟩
  · rw [show Try.prog.bytesOf 66 = 104 by kernel_rfl] at hlen
    have hlen' : len ≤ 140737488355328 := by unfold reachBytes at hlen; omega
    by_cases h0 : len = 0
    · subst h0
      exact ⟨[], ⟨rfl, .inl rfl⟩, hlen', hbk⟩
    obtain ⟨g, o, sp⟩ := x
    have hsp : sp = none := by
      obtain ⟨v, _, _, _, hc, -⟩ := hel 0 (by omega) 0 _ rfl
      have := World.cell?_spot hc
      simpa [Addr.add] using this
    subst hsp
    have hall : ∀ i, i < len → ∃ s : Step4, Step4At (Rows.uptoBulk d) W g (o + i * 6) s := fun i hi => by
      obtain ⟨k, ck, wk⟩ := field_int Try.underlying3 (step4_field (hel i hi 0 _ rfl))
      obtain ⟨n, cn, wn⟩ := field_int Try.underlying3 (step4_field (hel i hi 1 _ rfl))
      obtain ⟨m, cm, wm⟩ := field_string Try.underlying9 (step4_field (hel i hi 2 _ rfl))
      obtain ⟨pa, na, ca, la, c3, ha, wa⟩ := field_bytes (step4_field (hel i hi 3 _ rfl))
      obtain ⟨pb, nb, cb, lb, c4, hb, wb⟩ := field_bytes (step4_field (hel i hi 4 _ rfl))
      obtain ⟨p5, n5, c5, l5, c55, hs, ws, wx⟩ := field_texts (step4_field (hel i hi 5 _ rfl))
      have b1 := bounds_i64 wk
      have b2 := bounds_i64 wn
      exact ⟨⟨k, n, m, pa, na, ca, pb, nb, cb, p5, n5, c5, la, lb, l5⟩, ⟨ck, cn, cm, c3, c4, c55, ha, hb, hs, ⟨⟨b1.1, b1.2⟩, ⟨b2.1, b2.2⟩, wm.2, wa.2, wb.2, ws.2, fun x h => (wx x h).2⟩⟩⟩
    have inh : Inhabited Step4 := ⟨⟨0, 0, ⟨#[]⟩, none, 0, 0, none, 0, 0, none, 0, 0, [], [], []⟩⟩
    obtain ⟨f, hfn⟩ := choose_lt hall
    refine ⟨(List.range len).map f, ⟨by simp, .inr ⟨g, o, rfl, fun i s hs => ?_⟩⟩, hlen', hbk⟩
    rw [List.getElem?_map, Option.map_eq_some_iff] at hs
    obtain ⟨j, hj, rfl⟩ := hs
    obtain ⟨hj1, hj2⟩ := List.getElem?_eq_some_iff.1 hj
    have hji : j = i := by simpa using hj2.symm
    subst hji
    exact hfn j (by simpa using hj1)
end
end Go.Proofs.Ytdlbamhabenhgaa

namespace Go.Proofs.Ytdlbamhabenhgaa
open Go.RowKit Go.Sat Go.Maps

def True3 (w : World) (e : Ending) (w' : World) : Prop := e = .returned (.bool true) ∧ Below w.heap.size w w'

def sA : ByteArray := ⟨#[97]⟩
def b5 : Bs := [49, 50, 51, 52, 53]
def b3 : Bs := [54, 55, 56]
def b6 : Bs := [49, 50, 51, 52, 53, 54]
def K0 : DiskM := DiskM.fresh 100
def K1 : DiskM := (K0.append [97] b5).1
def K2 : DiskM := (K1.sync [[97]]).1
def K3 : DiskM := (K2.append [97] b3).1

theorem k1 : (K0.append (nm sA) [b5].flatten) = (K1, 0) := by rfl
theorem k2 : (K1.sync ([sA].map nm)) = (K2, 0) := by rfl
theorem k3 : (K2.append (nm sA) [b3].flatten) = (K3, 0) := by rfl
theorem k4 : Sat.get (nm sA) (K3.crash 1).files = some ⟨b6, 6⟩ := by rfl

set_option maxRecDepth 100000 in
set_option maxHeartbeats 2000000 in
theorem known_calls (w : World) : Calls Try.prog 14 #[] w (True3 w) := by
  have hnew := st_new (w := w) (w1 := w) 100 (by decide) (by decide) (Below.refl _ _)
  have Hnew := Lib.hid hnew
  clear hnew
  have kc := fun (w : World) (C : Array Value) (n c : Nat) => Lib.run_convert_bytes_const (P := Try.prog) w 23 5 C n c Try.underlying23 Try.underlying5
  go_enter Try.func14, Try.ntmps14
  go_wp2_with fail
  refine Hnew.out.mono ?_
  rintro e w1 ⟨d, rfl, hd⟩
  have Hd := Lib.hid (show St w w1 d K0 NoF from hd)
  clear hd Hnew
  go_wp2_with fail
  refine (st_append ((Hd.out.alloc _).alloc _) sA _ [b5] (rows_one (has_lit _ b5 _ _ 5 rfl rfl rfl) 23 (0, 0) _ 1 (by simp) (Nat.le_refl _)) (by decide) (by decide) (by decide)).mono ?_
  rw [k1]
  rintro e w2 ⟨rfl, hd2, -⟩
  have Hd2 := Lib.hid hd2
  clear hd2 Hd
  go_wp2_with fail
  refine (st_sync Hd2.out [sA] _ 1 (by simp) (0, 0) (by decide) (by decide)).mono ?_
  rw [k2]
  rintro e w3 ⟨rfl, hd3, -⟩
  have Hd3 := Lib.hid hd3
  clear hd3 Hd2
  go_wp2_with fail
  refine (st_append ((Hd3.out.alloc _).alloc _) sA _ [b3] (rows_one (has_lit _ b3 _ _ 3 rfl rfl rfl) 23 (0, 0) _ 1 (by simp) (Nat.le_refl _)) (by decide) (by decide) (by decide)).mono ?_
  rw [k3]
  rintro e w4 ⟨rfl, hd4, -⟩
  have Hd4 := Lib.hid hd4
  clear hd4 Hd3
  go_wp2_with fail
  refine (st_crash Hd4.out 1 (by decide) (by decide)).mono ?_
  rintro e w5 ⟨rfl, hd5, -⟩
  have Hd5 := Lib.hid hd5
  clear hd5 Hd4
  go_wp2_with fail
  refine (st_read Hd5.out sA (by decide)).mono ?_
  rw [k4]
  rintro e w6 ⟨v, rfl, hv, hn, hb, hd6⟩
  have Hd6 := Lib.hid hd6
  have Hv := Lib.hid hv
  clear hd6 hv hn hb Hd5
  go_wp2_with fail
  refine (same_calls (has_alloc Hv.out.has _) (has_lit _ b6 _ _ 6 rfl rfl rfl) (by decide) (by decide)).mono ?_
  rintro e w7 ⟨rfl, q, rfl⟩
  have hb := ((Hd6.out.alloc (.cells ((b6.map fun u => Value.int .u8 (u.toNat : Int)).toArray) 5 (6, 7))).drewN q).below
  have Hb := Lib.hid hb
  clear hb
  go_wp2_with fail
  go_ret
  exact ⟨rfl, Hb.out⟩
end Go.Proofs.Ytdlbamhabenhgaa

namespace Go.Sat
open Go.RowKit
theorem Holds.cut {w : World} {p : Option Addr} {n c : Nat} {xs : List Value} (h : Holds w 1 (.slice p n c) n xs) {k : Nat} (hk : k ≤ n) (c' : Nat) : Holds w 1 (.slice p k c') k (xs.take k) := by
  obtain ⟨hl, p', cap, e, h0, hc⟩ := h
  cases e
  refine ⟨by rw [List.length_take]; omega, p, c', rfl, fun e => ?_, fun a ha i u hu => hc a ha i u ?_⟩
  · have := h0 e
    omega
  · rw [List.getElem?_take] at hu
    split at hu
    · exact hu
    · cases hu

theorem HasB.cut {w : World} {p : Option Addr} {n c : Nat} {l : Bs} (h : HasB w (.slice p n c) l) {k : Nat} (hk : k ≤ l.length) (c' : Nat) : HasB w (.slice p k c') (l.take k) := by
  obtain ⟨p', c2, e⟩ := h.slice
  cases e
  unfold HasB at h ⊢
  have e1 : (l.take k).length = k := by rw [List.length_take]; omega
  rw [e1, bytesV_take]
  exact Holds.cut h hk c'

/-- 'x[:k]'. -/
theorem run_upto {P : Program} (w : World) {t e : TypeId} {i : TypeInfo} (ht : P.underlying t = some (.slice e)) (hi : P.info? e = some i) (a : Option Addr) (len cap k : Nat) (h : k ≤ cap) :
    (Instr.slice t (.slice a len cap) none (some (.int .i64 (k : Int))) none).run P w = .ok (.slice a k cap) w := by
  have h1 : (Instr.sliceBound (.int .i64 (k : Int)) cap .sliceAcap).run P w = .ok k w := by
    rw [run_sliceBound _ _ _ _ _ (by omega) (by omega)]
    simp
  have h3 : (if cap = 0 then a else a.map fun x => x.add (0 * i.size)) = a := by
    split
    · rfl
    · cases a <;> simp [Addr.add]
  simp only [Nat.zero_mul] at h3
  simp [Instr.slice, run_underlying ht, Instr.sliceBounds, h1, sizeOf, typeInfo, hi, Result.andThen, h3]

theorem OwnB.shape {w : World} {e : TypeId} {v : Value} {l : Bs} (h : OwnB w e v l) : v = .slice none 0 0 ∨ ∃ g c, v = .slice (some ⟨g, 0, none⟩) l.length c := by
  rcases h.2 with ⟨rfl, _⟩ | ⟨g, cap, cur, rfl, _⟩
  · exact .inl rfl
  · exact .inr ⟨g, cap, rfl⟩
end Go.Sat

namespace Go.Proofs.Ytdlbamhabenhgaa
open Go.RowKit Go.Sat Go.Maps

/-- What a law looks at: of each row one more than its bytes. -/
def cost (ls : List Bs) : Nat := (ls.map fun l => 1 + l.length).sum

theorem cost_take (ls : List Bs) (k : Nat) (hk : k < ls.length) : cost (ls.take (k + 1)) = cost (ls.take k) + 1 + ls[k].length := by
  rw [List.take_succ_eq_append_getElem hk]
  simp only [cost, List.map_append, List.map_cons, List.map_nil, List.sum_append, List.sum_cons, List.sum_nil]
  omega

theorem cost_flat (ls : List Bs) : cost ls = ls.length + ls.flatten.length := by
  induction ls with
  | nil => rfl
  | cons a r ih =>
    simp only [cost, List.map_cons, List.sum_cons, List.flatten_cons, List.length_append, List.length_cons] at ih ⊢
    omega

/-- How a row of a list of rows is met. -/
theorem RowsAt.row {w : World} {p : Option Addr} {n c : Nat} {ls : List Bs} (h : RowsAt w (.slice p n c) ls) {k : Nat} (hk : k < ls.length) :
    n = ls.length ∧ ∃ b o v, p = some ⟨b, o, none⟩ ∧ w.cell? ⟨b, o + k, none⟩ = some v ∧ HasB w v ls[k] := by
  obtain ⟨p', c', e, hc, hP⟩ := h
  cases e
  have hne : ls ≠ [] := fun e => by rw [e] at hk; simp at hk
  obtain ⟨b, o, vs, rfl, h1, h2, h3⟩ := hP hne
  have hkv : k < vs.length := by rw [h1]; exact hk
  have e1 : (⟨b, o, none⟩ : Addr).add k = ⟨b, o + k, none⟩ := by unfold Addr.add; split <;> simp_all
  refine ⟨rfl, b, o, vs[k], rfl, ?_, HasB.of_kit (h3 k _ _ (List.getElem?_eq_getElem hkv) (List.getElem?_eq_getElem hk))⟩
  rw [← e1]
  exact h2 k _ (List.getElem?_eq_getElem hkv)

theorem RowsAt.len {w : World} {p : Option Addr} {n c : Nat} {ls : List Bs} (h : RowsAt w (.slice p n c) ls) : n = ls.length := by
  obtain ⟨p', c', e, _⟩ := h
  cases e
  rfl

/-! ### The disk behind k rounds -/
def fN : Bs := [102]
def keepsD (ls : List Bs) (sy k : Nat) : DiskM := ⟨1048576, if k = 0 then [] else [(fN, ⟨(ls.take k).flatten, (ls.take (min k sy)).flatten.length⟩)], none⟩
def keepsM (ls : List Bs) (sy k : Nat) : DiskM := ⟨1048576, [(fN, ⟨(ls.take (k + 1)).flatten, (ls.take (min k sy)).flatten.length⟩)], none⟩

theorem flat_take {ls : List Bs} {k : Nat} (hk : k < ls.length) : (ls.take (k + 1)).flatten = (ls.take k).flatten ++ ls[k] := by
  rw [List.take_succ_eq_append_getElem hk, List.flatten_append]
  simp

theorem flat_take_le (ls : List Bs) (k : Nat) : (ls.take k).flatten.length ≤ ls.flatten.length := by
  conv => rhs; rw [← List.take_append_drop k ls, List.flatten_append, List.length_append]
  omega

theorem keeps_append {ls : List Bs} (sy : Nat) {k : Nat} (hk : k < ls.length) (hl : ls.flatten.length ≤ 8000) : (keepsD ls sy k).append fN [ls[k]].flatten = (keepsM ls sy k, 0) := by
  have h1 := flat_take hk
  have h2 := flat_take_le ls (k + 1)
  rw [h1, List.length_append] at h2
  have h3 : (ls.take k).flatten.length + ls[k].length ≤ 8000 := by omega
  have h4 : [ls[k]].flatten = ls[k] := by simp
  rw [h4]
  have hm : (keepsD ls sy k).may [fN] = 0 := rfl
  unfold DiskM.append
  rw [if_neg (by rw [hm]; simp)]
  by_cases h0 : k = 0
  · subst h0
    have hf : (keepsD ls sy 0).full fN ls[0] = false := by
      have : ¬ (1048576 < 0 + ls[0].length) := by omega
      simp only [DiskM.full, keepsD, if_true, DiskM.used, sumBy, Sat.get, List.map_nil, List.sum_nil, decide_eq_false this]
      simp
    rw [if_neg (by rw [hf]; simp)]
    simp only [keepsD, keepsM, if_true, DiskM.done, DiskM.cur, Sat.get, put, del, h1]
    simp
    rfl
  · have hf : (keepsD ls sy k).full fN ls[k] = false := by
      have : ¬ (1048576 < (ls.take k).flatten.length + 0 + ls[k].length) := by omega
      simp only [DiskM.full, keepsD, if_neg h0, DiskM.used, sumBy, Sat.get, List.map_cons, List.map_nil, List.sum_cons, List.sum_nil, DiskM.size, decide_eq_false this]
      simp [fN]
    rw [if_neg (by rw [hf]; simp)]
    simp only [keepsD, keepsM, if_neg h0, DiskM.done, DiskM.cur, Sat.get, put, del, h1]
    simp [fN, ins]

theorem keeps_sync {ls : List Bs} {sy k : Nat} (hs : k < sy) : (keepsM ls sy k).sync [fN] = (keepsD ls sy (k + 1), 0) := by
  have e1 : min (k + 1) sy = k + 1 := by omega
  simp only [DiskM.sync, DiskM.each, DiskM.each1, keepsM, keepsD, e1]
  simp [DiskM.may, fN, okN, Sat.get, DiskM.done, DiskM.gSync, put, del, ins]

theorem keeps_stay {ls : List Bs} {sy k : Nat} (hs : sy ≤ k) : keepsM ls sy k = keepsD ls sy (k + 1) := by
  have e1 : min (k + 1) sy = min k sy := by omega
  simp only [keepsM, keepsD, e1]
  simp

theorem keeps_get0 (ls : List Bs) (sy : Nat) (dr : Int) : Sat.get fN ((keepsD ls sy 0).crash dr).files = none := rfl
theorem keeps_get {ls : List Bs} {sy k : Nat} (dr : Int) (h0 : k ≠ 0) : Sat.get fN ((keepsD ls sy k).crash dr).files = some (DiskM.crashF dr ⟨(ls.take k).flatten, (ls.take (min k sy)).flatten.length⟩) := by
  simp only [DiskM.crash, keepsD, if_neg h0, mp_get]
  rfl
end Go.Proofs.Ytdlbamhabenhgaa

namespace Go.Proofs.Ytdlbamhabenhgaa
open Go.RowKit Go.Sat Go.Maps

/-- One bit of the check sum; one byte; bytes. -/
def bitF (z : Int) : Int := bits .xor .u32 (z / 2) (bits .and .u32 3988292384 (-bits .and .u32 z 1 % 4294967296))
def iterF : Nat → Int → Int
  | 0, z => z
  | k + 1, z => bitF (iterF k z)
def byteF (v : Int) (c : UInt8) : Int := iterF 8 (bits .xor .u32 v (c.toNat : Int))
def rowF (v : Int) (l : Bs) : Int := l.foldl byteF v
def rowsF (ls : List Bs) : Int := ls.foldl rowF 4294967295

theorem rowF_take (v : Int) (l : Bs) {j : Nat} (hj : j < l.length) : rowF v (l.take (j + 1)) = byteF (rowF v (l.take j)) l[j] := by
  rw [List.take_succ_eq_append_getElem hj]
  simp only [rowF, List.foldl_append, List.foldl_cons, List.foldl_nil]

theorem rowsF_take (ls : List Bs) {k : Nat} (hk : k < ls.length) : rowsF (ls.take (k + 1)) = rowF (rowsF (ls.take k)) ls[k] := by
  rw [List.take_succ_eq_append_getElem hk]
  simp only [rowsF, List.foldl_append, List.foldl_cons, List.foldl_nil]

theorem rowsF_flat (ls : List Bs) : rowsF ls = rowF 4294967295 ls.flatten := by
  unfold rowsF rowF
  rw [List.foldl_flatten]

def sumF (l : Bs) : Int := bits .xor .u32 IntKind.u32.max (rowF 4294967295 l)

set_option maxRecDepth 100000 in
set_option maxHeartbeats 4000000 in
theorem sum_calls {w : World} {p : Option Addr} {n c : Nat} {ls : List Bs} (hx : RowsAt w (.slice p n c) ls) (hn : n ≤ 140737488355328) (hrow : ∀ l ∈ ls, l.length ≤ 140737488355328) :
    Calls Try.prog 80 #[.slice p n c] w (fun e w' => e = .returned (.int .u32 (sumF ls.flatten)) ∧ w' = w) := by
  have hnl := RowsAt.len hx
  have Hx := Lib.hid hx
  have Hrow := Lib.hid hrow
  have Hnl := Lib.hid hnl
  clear hx hrow hnl
  go_enter Try.func80, Try.ntmps80
  go_wp2_with fail
  go_loop [3, 10] (fun v i => ∃ k : Nat, k ≤ n ∧ i = .int .i64 k ∧ v = .int .u32 (rowsF (ls.take k))) (fun _ i => n - (intOf i).toNat)
  case atStart => exact ⟨0, Nat.zero_le _, rfl, rfl⟩
  case round =>
    obtain ⟨k, hk, rfl, rfl⟩ := hrel
    by_cases hlt : k < n
    · have hltl : k < ls.length := by rw [← Hnl.out]; exact hlt
      have Hrw := Lib.hid (rowsF_take ls hltl)
      obtain ⟨-, b, o, v, rfl, hcell, hv⟩ := RowsAt.row Hx.out hltl
      have hrl := Hrow.out _ (List.getElem_mem hltl)
      generalize hl : ls[k] = l at *
      have Hat := Lib.hid hv.at
      obtain ⟨pv, cv, rfl⟩ := hv.slice
      generalize hm : l.length = m at *
      generalize rowsF (ls.take k) = x at *
      have Hm := Lib.hid hm
      clear hv hm hl
      go_wp2_with fail
      go_loop [3, 16] (fun v i => ∃ j : Nat, j ≤ m ∧ i = .int .i64 j ∧ v = .int .u32 (rowF x (l.take j))) (fun _ i => m - (intOf i).toNat)
      case atStart => exact ⟨0, Nat.zero_le _, rfl, rfl⟩
      case round =>
        obtain ⟨j, hj, rfl, rfl⟩ := hrel
        by_cases hlj : j < m
        · have hljl : j < l.length := by rw [Hm.out]; exact hlj
          have Hbt := Lib.hid (rowF_take x l hljl)
          rcases Hat.out with h | ⟨b2, o2, c2, e1, hcx⟩
          · rw [h] at hljl
            simp at hljl
          cases e1
          have hcb := hcx j _ (List.getElem?_eq_getElem hljl)
          generalize l[j] = cc at *
          generalize rowF x (l.take j) = y at *
          have hcc : cc.toNat < 256 := cc.toNat_lt
          clear hcx
          go_wp2_with fail
          have HB := Lib.hid (show byteF y cc = iterF 8 (bits .xor .u32 y (cc.toNat : Int)) from rfl)
          generalize bits .xor .u32 y (cc.toNat : Int) = z0 at *
          go_loop [3, 24] (fun v i => ∃ q : Nat, q ≤ 8 ∧ i = .int .i64 q ∧ v = .int .u32 (iterF q z0)) (fun _ i => 8 - (intOf i).toNat)
          case atStart => exact ⟨0, Nat.zero_le _, rfl, rfl⟩
          case round =>
            obtain ⟨q, hq, rfl, rfl⟩ := hrel
            by_cases hlq : q < 8
            · have Hit := Lib.hid (show iterF (q + 1) z0 = bitF (iterF q z0) from rfl)
              generalize iterF q z0 = z at *
              go_wp2_with fail
              go_round
              case rel => exact ⟨q + 1, by omega, by go_num, by rw [Hit.out]; rfl⟩
              case measure => simp [intOf]; omega
            · have hq8 : q = 8 := by omega
              subst hq8
              go_wp2_with fail
              go_round
              case rel => exact ⟨j + 1, by omega, by go_num, by rw [Hbt.out, HB.out]⟩
              case measure => simp [intOf]; omega
        · have hjm : j = m := by omega
          have hlk : l.take j = l := List.take_of_length_le (by rw [Hm.out]; omega)
          rw [hlk]
          clear hlk
          go_wp2_with fail
          go_round
          case rel => exact ⟨k + 1, by omega, by go_num, by rw [Hrw.out]⟩
          case measure => simp [intOf]; omega
    · have hlk : ls.take k = ls := List.take_of_length_le (by have := Hnl.out; omega)
      rw [hlk]
      clear hlk
      have He := Lib.hid (show sumF ls.flatten = bits .xor .u32 IntKind.u32.max (rowsF ls) by rw [rowsF_flat]; rfl)
      generalize rowsF ls = x at *
      go_wp2_with fail
      go_ret
      exact ⟨by rw [He.out]; rfl, rfl⟩
end Go.Proofs.Ytdlbamhabenhgaa

namespace Go.Proofs.Ytdlbamhabenhgaa
open Go.RowKit Go.Sat Go.Maps

/-- A number in four bytes. -/
def fourN (n : Nat) : Bs := [UInt8.ofNat n, UInt8.ofNat (n / 256), UInt8.ofNat (n / 65536), UInt8.ofNat (n / 16777216)]

/-- What a function hands back that lays its bytes anew. -/
def NewB (w : World) (l : Bs) (e : Ending) (w' : World) : Prop := ∃ v, e = .returned v ∧ HasB w' v l ∧ Below w.heap.size w w'

set_option maxRecDepth 100000 in
set_option maxHeartbeats 4000000 in
theorem four_calls {w : World} (v : Nat) (h1 : v < 4294967296) :
    Calls Try.prog 79 #[.int .u32 (v : Int)] w (NewB w (fourN v)) := by
  have hfin : NewB w (fourN v) (.returned (.slice (some ⟨w.heap.size, 0, none⟩) 4 4)) (w.alloc (.cells #[.int .u8 ((v : Int) % 256), .int .u8 ((v : Int) / 256 % 256), .int .u8 ((v : Int) / 65536 % 256), .int .u8 ((v : Int) / 16777216)] 5)) :=
    ⟨_, rfl, has_lit _ (fourN v) _ _ 4 rfl rfl (by
      simp only [fourN, bytesV, List.map_cons, List.map_nil, UInt8.toNat_ofNat']
      have e1 : (v : Int) / 16777216 = ((v / 16777216 % 256 : Nat) : Int) := by omega
      have e2 : (v : Int) % 256 = ((v % 256 : Nat) : Int) := by omega
      have e3 : (v : Int) / 256 % 256 = ((v / 256 % 256 : Nat) : Int) := by omega
      have e4 : (v : Int) / 65536 % 256 = ((v / 65536 % 256 : Nat) : Int) := by omega
      rw [e1, e2, e3, e4]), (Below.refl _ _).alloc (Nat.le_refl _) _⟩
  have Hfin := Lib.hid hfin
  clear hfin
  go_enter Try.func79, Try.ntmps79
  go_wp2_with fail
  go_ret
  exact Hfin.out

theorem or_add (k a b : Nat) (h : a < 2 ^ k) : (a ||| b * 2 ^ k) = a + b * 2 ^ k := by
  have := Nat.two_pow_add_eq_or_of_lt h b
  rw [Nat.or_comm, Nat.mul_comm b, ← this, Nat.add_comm]

theorem or_four {x0 x1 x2 x3 : Nat} (l0 : x0 < 2 ^ 8) (l1 : x1 < 2 ^ 8) (l2 : x2 < 2 ^ 8) (l3 : x3 < 2 ^ 8) :
    bits .or .u32 (bits .or .u32 (bits .or .u32 (x0 : Int) ((x1 : Int) * 256)) ((x2 : Int) * 65536)) ((x3 : Int) * 16777216) = ((x0 + x1 * 256 + x2 * 65536 + x3 * 16777216 : Nat) : Int) := by
  have e1 : (x1 : Int) * 256 = ((x1 * 2 ^ 8 : Nat) : Int) := by omega
  have e2 : (x2 : Int) * 65536 = ((x2 * 2 ^ 16 : Nat) : Int) := by omega
  have e3 : (x3 : Int) * 16777216 = ((x3 * 2 ^ 24 : Nat) : Int) := by omega
  rw [e1, e2, e3, u32_or_nat _ _ (by omega) (by omega), or_add 8 x0 x1 (by omega), u32_or_nat _ _ (by omega) (by omega), or_add 16 _ x2 (by omega), u32_or_nat _ _ (by omega) (by omega), or_add 24 _ x3 (by omega)]

/-- The number of four bytes. -/
def ofFour (a0 a1 a2 a3 : UInt8) : Nat := a0.toNat + a1.toNat * 256 + a2.toNat * 65536 + a3.toNat * 16777216

theorem of_four (n : Nat) (h : n < 4294967296) : ofFour (UInt8.ofNat n) (UInt8.ofNat (n / 256)) (UInt8.ofNat (n / 65536)) (UInt8.ofNat (n / 16777216)) = n := by
  simp only [ofFour, UInt8.toNat_ofNat']
  omega

set_option maxRecDepth 100000 in
set_option maxHeartbeats 4000000 in
theorem fromFour_calls {w : World} {b o n c : Nat} {a0 a1 a2 a3 : UInt8} (hn : 4 ≤ n) (h0 : w.cell? ⟨b, o, none⟩ = some (.int .u8 (a0.toNat : Int))) (h1 : w.cell? ⟨b, o + 1, none⟩ = some (.int .u8 (a1.toNat : Int)))
    (h2 : w.cell? ⟨b, o + 2, none⟩ = some (.int .u8 (a2.toNat : Int))) (h3 : w.cell? ⟨b, o + 3, none⟩ = some (.int .u8 (a3.toNat : Int))) :
    Calls Try.prog 93 #[.slice (some ⟨b, o, none⟩) n c] w (fun e w' => e = .returned (.int .u32 (ofFour a0 a1 a2 a3 : Int)) ∧ ∃ q, w' = w.drewN q) := by
  have l0 := a0.toNat_lt
  have l1 := a1.toNat_lt
  have l2 := a2.toNat_lt
  have l3 := a3.toNat_lt
  have i0 : (0 : Int) < (n : Int) := by omega
  have i1 : (1 : Int) < (n : Int) := by omega
  have i2 : (2 : Int) < (n : Int) := by omega
  have i3 : (3 : Int) < (n : Int) := by omega
  have hF := or_four l0 l1 l2 l3
  have HF := Lib.hid (show bits .or .u32 (bits .or .u32 (bits .or .u32 (a0.toNat : Int) ((a1.toNat : Int) * 256)) ((a2.toNat : Int) * 65536)) ((a3.toNat : Int) * 16777216) = (ofFour a0 a1 a2 a3 : Int) from hF)
  clear hF
  generalize ofFour a0 a1 a2 a3 = r at *
  generalize a0.toNat = x0 at *
  generalize a1.toNat = x1 at *
  generalize a2.toNat = x2 at *
  generalize a3.toNat = x3 at *
  go_enter Try.func93, Try.ntmps93
  go_wp2_with fail
  go_quiet (fail)
  go_wp2
  go_ret
  exact ⟨by rw [← HF.out]; rfl, _, rfl⟩
end Go.Proofs.Ytdlbamhabenhgaa

namespace Go.Proofs.Ytdlbamhabenhgaa
open Go.RowKit Go.Sat Go.Maps

def sumN (l : Bs) : Nat := (sumF l).toNat

theorem sumF_range (l : Bs) : 0 ≤ sumF l ∧ sumF l < 4294967296 := by
  unfold sumF bits
  rw [IntKind.wrap_u32]
  omega

theorem sumF_nat (l : Bs) : sumF l = (sumN l : Int) := by
  have := (sumF_range l).1
  unfold sumN
  omega

theorem sumN_lt (l : Bs) : sumN l < 4294967296 := by
  have := sumF_range l
  unfold sumN
  omega

/-- A list of two rows, in a new block. -/
theorem rows_two {w : World} {v1 v2 : Value} {l1 l2 : Bs} (h1 : HasB w v1 l1) (h2 : HasB w v2 l2) (e : TypeId) (fr : Nat × Nat) (g c : Nat) (hg : g = w.heap.size) (hc : 2 ≤ c) : RowsAt (w.alloc (.cells #[v1, v2] e fr)) (.slice (some ⟨g, 0, none⟩) 2 c) [l1, l2] := by
  subst hg
  refine ⟨_, c, rfl, by simpa using hc, fun _ => ⟨_, _, [v1, v2], rfl, rfl, fun i u hu => ?_, fun i u m hu hm => ?_⟩⟩
  · have e1 : (⟨w.heap.size, 0, none⟩ : Addr).add i = ⟨w.heap.size, i, none⟩ := by unfold Addr.add; split <;> simp_all
    rw [e1]
    refine cell_of (new_block w _) ?_
    simpa using hu
  · have hi : i < 2 := by
      have := (List.getElem?_eq_some_iff.1 hu).1
      simpa using this
    have : i = 0 ∨ i = 1 := by omega
    rcases this with rfl | rfl
    · simp at hu hm
      subst hu
      subst hm
      exact (has_alloc h1 _).kit
    · simp at hu hm
      subst hu
      subst hm
      exact (has_alloc h2 _).kit

theorem below_al (w : World) (o : Obj) : Below w.heap.size w (w.alloc o) := (Below.refl _ _).alloc (Nat.le_refl _) o
theorem below_to {w w1 w2 : World} (h : Below w.heap.size w w1) (k : Below w1.heap.size w1 w2) : Below w.heap.size w w2 := h.trans (k.mono h.size)

def headN (n : Nat) : Bs := fourN n ++ fourN (sumN (fourN n))

set_option maxRecDepth 100000 in
set_option maxHeartbeats 4000000 in
theorem head_calls {w : World} (n : Nat) (h : n < 4294967296) :
    Calls Try.prog 78 #[.int .u32 (n : Int)] w (NewB w (headN n)) := by
  have Hf := Lib.hid (fun w => four_calls (w := w) n h)
  go_enter Try.func78, Try.ntmps78
  go_wp2_with fail
  refine (Hf.out _).mono ?_
  rintro e w1 ⟨v1, rfl, hv1, hb1⟩
  have V1 := Lib.hid hv1
  have B1 := Lib.hid hb1
  clear hv1 hb1
  go_wp2_with fail
  refine (Hf.out _).mono ?_
  rintro e w2 ⟨v2, rfl, hv2, hb2⟩
  have V2 := Lib.hid hv2
  have B2 := Lib.hid hb2
  obtain ⟨p2, c2, rfl⟩ := hv2.slice
  clear hv2 hb2
  go_wp2_with fail
  refine (sum_calls (rows_one V2.out 23 (0, 0) _ 1 rfl (Nat.le_refl _)) (by decide) (by simp [fourN])).mono ?_
  rintro e w3 ⟨rfl, rfl⟩
  rw [show [fourN n].flatten = fourN n by simp, sumF_nat]
  have Hg := Lib.hid (fun w => four_calls (w := w) (sumN (fourN n)) (sumN_lt _))
  have Hh := Lib.hid (show headN n = fourN n ++ fourN (sumN (fourN n)) from rfl)
  generalize sumN (fourN n) = q at *
  go_wp2_with fail
  refine (Hg.out _).mono ?_
  rintro e w4 ⟨v4, rfl, hv4, hb4⟩
  have B2' := below_to B1.out (below_to B2.out (below_to (below_al _ _) hb4))
  have V1' := V1.out.below (below_to B2.out (below_to (below_al _ _) hb4))
  obtain ⟨p1, c1, rfl⟩ := V1.out.slice
  obtain ⟨p4, c4, rfl⟩ := hv4.slice
  have hj := join_calls (rows_two V1' hv4 23 (0, 0) _ 2 rfl (Nat.le_refl _)) (by simp) (by simp [fourN])
  have Hj := Lib.hid hj
  have BB := Lib.hid B2'
  clear hj V1' B2' hv4 hb4
  go_wp2_with fail
  refine Hj.out.mono ?_
  rintro e w5 ⟨v5, rfl, hv5, hb5⟩
  have Hfin := Lib.hid (show NewB w (headN n) (.returned v5) w5 from ⟨v5, rfl, by rw [Hh.out]; simpa using hv5, below_to BB.out (below_to (below_al _ _) hb5)⟩)
  clear hv5 hb5
  go_wp2_with fail
  go_ret
  exact Hfin.out
end Go.Proofs.Ytdlbamhabenhgaa

namespace Go.Proofs.Ytdlbamhabenhgaa
open Go.RowKit Go.Sat

theorem fresh_ge {B : Nat} {w : World} {v : Value} {l : Bs} (h : Lib.FreshBytes B w v l) : ∀ k, v.ownBlock = some k → B ≤ k := by
  obtain ⟨g, cap, zs, rfl, h1, _⟩ := h
  intro k hk
  cases hk
  exact h1

/-- bytes.Join of rows, with nothing between them. -/
theorem bjoin_new {w : World} {x : Value} {ls : List Bs} (h : RowsAt w x ls) (hn : ls.length ≤ 140737488355328) (hl : ls.flatten.length ≤ 140737488355328) :
    Calls Try.prog 77 #[x, .slice none 0 0] w fun e w' => ∃ v, e = .returned v ∧ HasB w' v ls.flatten ∧ (∀ k, v.ownBlock = some k → w.heap.size ≤ k) ∧ Below w.heap.size w w' := by
  obtain ⟨p, c, rfl, hc, hQ⟩ := h
  cases ls with
  | nil =>
    refine (Try.bytes_Join_none p c (.slice none 0 0) w).mono ?_
    rintro e w' ⟨rfl, rfl⟩
    refine ⟨_, rfl, ?_, fun k hk => (by simp [Value.ownBlock] at hk; omega), (Below.refl _ _).alloc (Nat.le_refl _) _⟩
    exact HasB.of_kit ⟨_, _, rfl, fun e => (by cases e), fun a ha i x hx => by simp at hx⟩
  | cons l0 r =>
    obtain ⟨b, o, vs, rfl, hP⟩ := hQ (by simp)
    cases r with
    | nil =>
      obtain ⟨p0, c0, l0', e0, hcell, hp0, hcs⟩ := hP.get 0 (by simp)
      simp at e0
      subst e0
      have hcell' : w.cell? ⟨b, o, none⟩ = some (.slice p0 l0.length c0) := by simpa [Addr.add] using hcell
      by_cases h0 : l0.length = 0
      · have hl0 : l0 = [] := List.eq_nil_of_length_eq_zero h0
        subst hl0
        refine (Try.bytes_Join_one_empty b o c p0 c0 (.slice none 0 0) w hcell').mono ?_
        rintro e w' ⟨rfl, rfl⟩
        exact ⟨_, rfl, HasB.of_kit ⟨none, 0, rfl, fun _ => rfl, fun a ha => (by cases ha)⟩, fun k hk => (by cases hk), Below.refl _ _⟩
      · obtain ⟨a0, rfl⟩ : ∃ a, p0 = some a := by
          cases p0 with
          | none => exact absurd (by rw [hp0 rfl]; rfl) h0
          | some a => exact ⟨a, rfl⟩
        refine (Try.bytes_Join_one b o c a0 c0 l0 (.slice none 0 0) w hcell' (hcs a0 rfl) (by omega) (by simpa using hl)).mono ?_
        rintro e w' ⟨v, rfl, hf, hb⟩
        exact ⟨v, rfl, by simpa using fresh_has hf, fresh_ge hf, hb⟩
    | cons l1 r =>
      have hsep : Lib.HoldsBytes w (.slice none 0 0) [] := ⟨none, 0, rfl, fun _ => rfl, fun a ha => (by cases ha)⟩
      refine (Try.bytes_Join_many b o _ c vs (l0 :: l1 :: r) (.slice none 0 0) [] w rfl (by simp) hP hc hsep hn (by rw [← flat_len]; simpa using hl)).mono ?_
      rintro e w' ⟨v, rfl, hf, hb⟩
      rw [join_flat] at hf
      exact ⟨v, rfl, fresh_has hf, fresh_ge hf, hb⟩

set_option maxHeartbeats 400000 in
/-- octet.Join. -/
theorem join_new {w : World} {x : Value} {ls : List Bs} (h : RowsAt w x ls) (hn : ls.length ≤ 140737488355328) (hl : ls.flatten.length ≤ 140737488355328) :
    Calls Try.prog 50 #[x] w fun e w' => ∃ v, e = .returned v ∧ HasB w' v ls.flatten ∧ (∀ k, v.ownBlock = some k → w.heap.size ≤ k) ∧ Below w.heap.size w w' := by
  have hj := bjoin_new h hn hl
  obtain ⟨p, c, rfl, hc, hP⟩ := h
  have Hj := Lib.hid hj
  clear hj hP
  go_enter Try.func50, Try.ntmps50
  go_wp2_with fail
  refine Hj.out.mono ?_
  rintro e w' ⟨v, rfl, hv, hw, hb⟩
  go_wp2_with fail
  go_ret
  exact ⟨v, rfl, hv, hw, hb⟩

end Go.Proofs.Ytdlbamhabenhgaa
