/- A disk that a law has made itself: the contracts in the form in which a law meets them. The contract of Rename. The contract of List. The names in a vault, in order. A book of no offers: its piles, its list, its length. A book of no offers: its list. vault.List, of a vault without offers. Requests in the program: their values, what is left of one, are two alike. Which requests may be: the tests. Printed by mkopx.py. Which requests may be: sends, orders. Small parts of an economy: isNone, items, New. An economy in memory. The keys of a map that has none: maps.Keys(m), slices.Sorted and slices.SortedFunc of what it gives: nil. Printed by mkemp.py. An economy in memory: a new vault, a vault less, what was said; at. The contract of satrapylaw3.same. The contract of satrapylaw3.known: it is true. DiskKeeps: the walk. The contract of octet.Sum. The contracts of frame's small functions: four, fromFour, headOf. The contracts of frame.headOf and frame.Encode. octet.Join: what it hands back lies in a block of its own. The contract of frame.Encode. The contracts of bytes.Equal, frame.Decode, frame.One. -/
import Derived.Deep.RegionHeld3
import Derived.Laws.BitsAllLaws
import Derived.Lib.SlBytesConst
import Derived.OwnWalk
import Derived.RangeFuncGives
import Derived.Test.YtogdfkilhpkloaaGreatDoorAA
import Derived.Test.YtogdfkilhpkloaaGreatDoorAB
import Derived.Test.YtogdfkilhpkloaaGreatDoorIter
import Derived.Test.YtogdfkilhpkloaaGreatDoorShelf
namespace Go.Proofs.YtogdfkilhpkloaaGreatDoor
open Go.RowKit Go.Sat Go.Maps

/-- In w1, d is a disk that keeps D, all of it new since w, none of it in F; nothing that was there in w has turned. -/
def St (w w1 : World) (d : Nat) (D : DiskM) (F : Nat → Prop) : Prop :=
  ∃ own, DiskAt w1 d D own ∧ Below w.heap.size w w1 ∧ (∀ k, k < w.heap.size ∨ F k → own k = none) ∧ ∀ k, F k → k < w1.heap.size

def NoF : Nat → Prop := fun _ => False

theorem St.below {w w1 : World} {d : Nat} {D : DiskM} {F : Nat → Prop} (h : St w w1 d D F) : Below w.heap.size w w1 := let ⟨_, _, h, _⟩ := h; h
theorem St.ok {w w1 : World} {d : Nat} {D : DiskM} {F : Nat → Prop} (h : St w w1 d D F) : D.OK := let ⟨_, ⟨_, _, _, h⟩, _⟩ := h; h.ok

/-- Something else has turned: blocks of F that are new since w; what is new may be in F' too. -/
theorem St.move {w w1 w2 : World} {d : Nat} {D : DiskM} {F F' S : Nat → Prop} (h : St w w1 d D F) (hc : Chg S w1 w2) (hS : ∀ k, k < w1.heap.size → S k → F k ∧ w.heap.size ≤ k) (hF : ∀ k, F' k → (F k ∨ w1.heap.size ≤ k) ∧ k < w2.heap.size) : St w w2 d D F' := by
  obtain ⟨own, hd, hb1, hn, hl⟩ := h
  have hon : ∀ k, w1.heap.size ≤ k → own k = none := fun k hk => by
    obtain ⟨m, left, L, hd⟩ := hd
    exact own_none hd hk
  refine ⟨own, hd.chg (hc.mono (T := fun k => S k ∧ k < w1.heap.size) fun k hk hs => ⟨hs, hk⟩) (fun k hs => hn k (.inr (hS k hs.2 hs.1).1)), ?_, fun k hk => ?_, fun k hk => (hF k hk).2⟩
  · exact ((Chg.of_below hb1).trans hc fun i hi hs => by
      have h1 := (hS i (Nat.lt_of_lt_of_le hi hb1.size) hs).2
      omega).below (Nat.le_refl _) fun _ _ => id
  · rcases hk with hk | hk
    · exact hn k (.inl hk)
    · rcases (hF k hk).1 with h1 | h1
      · exact hn k (.inr h1)
      · exact hon k h1

theorem St.next {w w1 w2 : World} {d : Nat} {D : DiskM} {F : Nat → Prop} (h : St w w1 d D F) (hb : Below w1.heap.size w1 w2) : St w w2 d D F :=
  h.move (Chg.of_below hb) (fun _ _ h => h.elim) fun k hk => ⟨.inl hk, by obtain ⟨_, _, _, _, hl⟩ := h; exact Nat.lt_of_lt_of_le (hl k hk) hb.size⟩
theorem St.alloc {w w1 : World} {d : Nat} {D : DiskM} {F : Nat → Prop} (h : St w w1 d D F) (o : Obj) : St w (w1.alloc o) d D F := h.next ((Below.refl _ _).alloc (Nat.le_refl _) o)
theorem St.drewN {w w1 : World} {d : Nat} {D : DiskM} {F : Nat → Prop} (h : St w w1 d D F) (n : Nat) : St w (w1.drewN n) d D F := h.next ⟨rfl, rfl, rfl, Nat.le_refl _, fun _ _ => rfl⟩
theorem St.noF {w w1 : World} {d : Nat} {D : DiskM} {F : Nat → Prop} (h : St w w1 d D F) : St w w1 d D NoF := h.move (S := fun _ => False) (Chg.refl _ _) (fun _ _ h => h.elim) fun _ h => h.elim

/-- What a step keeps. -/
def Same (F : Nat → Prop) (w1 w2 : World) : Prop := ∀ k, F k → w2.heap[k]? = w1.heap[k]?

theorem St.step {w w1 w2 : World} {d : Nat} {own own' : Own} {D' : DiskM} {F : Nat → Prop} (hb : Below w.heap.size w w1) (hn : ∀ k, k < w.heap.size ∨ F k → own k = none) (hl : ∀ k, F k → k < w1.heap.size) (hd : DiskAt w2 d D' own') (hc : Chg (Has own) w1 w2) (hx : Ext w1 own own') :
    St w w2 d D' F ∧ Same F w1 w2 := by
  refine ⟨⟨own', hd, ((Chg.of_below hb).trans hc fun i hi hh => (hh (hn i (.inl hi))).elim).below (Nat.le_refl _) fun _ _ => id, fun k hk => ?_, fun k hk => Nat.lt_of_lt_of_le (hl k hk) hc.size⟩, fun k hk => hc.block k (hl k hk) fun hh => hh (hn k (.inr hk))⟩
  rcases hk with h1 | h1
  · exact hx k (Nat.lt_of_lt_of_le h1 hb.size) (hn k (.inl h1))
  · exact hx k (hl k h1) (hn k (.inr h1))

theorem HasB.old {w w1 : World} {v : Value} {l : Bs} (h : HasB w v l) (hb : Below w.heap.size w w1) : HasB w1 v l := h.below hb

/-- What a call of one of the five tells, and what there is behind it. -/
def Told (w : World) (d : Nat) (F : Nat → Prop) (w1 : World) (r : DiskM × Nat) (e : Ending) (w' : World) : Prop := e = .returned (.int .i64 (r.2 : Int)) ∧ St w w' d r.1 F ∧ Same F w1 w'
section
variable {w w1 : World} {d : Nat} {D : DiskM} {F : Nat → Prop}

theorem st_new (n : Int) (h0 : 0 ≤ n) (h1 : n ≤ 1073741824) (hb : Below w.heap.size w w1) :
    Calls Tryz.prog 11 #[.int .i64 n] w1 fun e w' => ∃ d, e = .returned (.tuple #[.pointer (some ⟨d, 0, none⟩), .int .i64 0]) ∧ St w w' d (DiskM.fresh n.toNat) NoF := by
  refine (new_calls n w1 h0 h1).mono ?_
  rintro e w' ⟨d, own, rfl, hd, hc, hn⟩
  exact ⟨d, rfl, own, hd, ((Chg.of_below hb).trans hc fun _ _ h => h).below (Nat.le_refl _) fun _ _ => id, fun k hk => by
    rcases hk with hk | hk
    · exact hn k (Nat.lt_of_lt_of_le hk hb.size)
    · exact hk.elim, fun _ h => h.elim⟩

theorem st_append (h : St w w1 d D F) (s : ByteArray) (x : Value) (ls : List Bs) (hx : RowsAt w1 x ls) (hn : ls.length ≤ 140737488355328) (hl : ls.flatten.length ≤ 140737488355328) (hsz : s.size ≤ 9223372036854775807) :
    Calls Tryz.prog 116 #[.pointer (some ⟨d, 0, none⟩), .string s, x] w1 (Told w d F w1 (D.append (nm s) ls.flatten)) := by
  obtain ⟨own, hd, hb, hnn, hF⟩ := h
  refine (append_calls hd s x ls hx hn hl hsz).mono ?_
  rintro e w' ⟨own', rfl, hd', hc, hx⟩
  exact ⟨rfl, St.step hb hnn hF hd' hc hx⟩

theorem own_new {own : Own} (h : DiskAt w1 d D own) {k : Nat} (hk : w1.heap.size ≤ k) : own k = none := by
  obtain ⟨m, left, L, h⟩ := h
  exact own_none h hk

theorem strs_new (w : World) (ss : List ByteArray) (g : Nat) (hg : g = w.heap.size) (e : TypeId) (fr : Nat × Nat) : StrsAt (w.alloc (.cells (ss.map Value.string).toArray e fr)) (some ⟨g, 0, none⟩) ss := by
  subst hg
  refine .inr ⟨_, _, rfl, fun i u hu => ?_⟩
  refine cell_of (new_block w _) ?_
  simp [hu]

/-- Sync of names that have just been laid. -/
theorem st_sync (h : St w w1 d D F) (ss : List ByteArray) (g c : Nat) (hg : g = w1.heap.size) (fr : Nat × Nat) (hm : ss.length ≤ 140737488355328) (hsz : ∀ s ∈ ss, s.size ≤ 9223372036854775807) :
    Calls Tryz.prog 117 #[.pointer (some ⟨d, 0, none⟩), .slice (some ⟨g, 0, none⟩) ss.length c] (w1.alloc (.cells (ss.map Value.string).toArray 9 fr)) (Told w d F (w1.alloc (.cells (ss.map Value.string).toArray 9 fr)) (D.sync (ss.map nm))) := by
  obtain ⟨own, hd, hb, hnn, hF⟩ := h
  have hd1 := hd.chg (Chg.alloc w1 (.cells (ss.map Value.string).toArray 9 fr)) (fun _ h => h.elim)
  refine (sync_calls hd1 (some ⟨g, 0, none⟩) ss c (strs_new w1 ss g hg _ fr) hm hsz (fun a ha => by cases ha; exact own_new hd (by rw [hg]; exact Nat.le_refl _))).mono ?_
  rintro e w' ⟨own', rfl, hd', hc, hx⟩
  exact ⟨rfl, St.step (hb.alloc hb.size _) hnn (fun k hk => by have := hF k hk; simp; omega) hd' hc hx⟩

theorem st_remove (h : St w w1 d D F) (ss : List ByteArray) (g c : Nat) (hg : g = w1.heap.size) (fr : Nat × Nat) (hm : ss.length ≤ 140737488355328) (hsz : ∀ s ∈ ss, s.size ≤ 9223372036854775807) :
    Calls Tryz.prog 166 #[.pointer (some ⟨d, 0, none⟩), .slice (some ⟨g, 0, none⟩) ss.length c] (w1.alloc (.cells (ss.map Value.string).toArray 9 fr)) (Told w d F (w1.alloc (.cells (ss.map Value.string).toArray 9 fr)) (D.remove (ss.map nm))) := by
  obtain ⟨own, hd, hb, hnn, hF⟩ := h
  have hd1 := hd.chg (Chg.alloc w1 (.cells (ss.map Value.string).toArray 9 fr)) (fun _ h => h.elim)
  refine (remove_calls hd1 (some ⟨g, 0, none⟩) ss c (strs_new w1 ss g hg _ fr) hm hsz (fun a ha => by cases ha; exact own_new hd (by rw [hg]; exact Nat.le_refl _))).mono ?_
  rintro e w' ⟨own', rfl, hd', hc, hx⟩
  exact ⟨rfl, St.step (hb.alloc hb.size _) hnn (fun k hk => by have := hF k hk; simp; omega) hd' hc hx⟩

def GotB (w : World) (d : Nat) (D : DiskM) (F : Nat → Prop) (w1 : World) (o : Option FileM) (e : Ending) (w' : World) : Prop :=
  ∃ v, e = .returned (.tuple #[v, .int .i64 (readE o)]) ∧ OwnB w' 5 v (dataOf o) ∧ (∀ k, v.ownBlock = some k → w1.heap.size ≤ k) ∧ Below w1.heap.size w1 w' ∧ St w w' d D F

theorem st_read (h : St w w1 d D F) (s : ByteArray) (hs : s.size ≤ 9223372036854775807) :
    Calls Tryz.prog 162 #[.pointer (some ⟨d, 0, none⟩), .string s] w1 (GotB w d D F w1 (Sat.get (nm s) D.files)) := by
  have h0 := h
  obtain ⟨own, hd, hb, hnn, hF⟩ := h
  refine (read_calls hd s hs).mono ?_
  rintro e w' ⟨v, rfl, hv, hn, hb'⟩
  exact ⟨v, rfl, hv, hn, hb', h0.next hb'⟩

end

/-! ### What a law lays itself -/
theorem has_lit {w : World} {e : TypeId} {fr : Nat × Nat} (cs : Array Value) (l : Bs) (g n c : Nat) (hg : g = w.heap.size) (hn : n = l.length) (h : cs.toList = bytesV l) : HasB (w.alloc (.cells cs e fr)) (.slice (some ⟨g, 0, none⟩) n c) l := by
  subst hg
  subst hn
  refine ⟨by simp [bytesV], some ⟨w.heap.size, 0, none⟩, c, rfl, fun e => (by cases e), fun a ha i u hu => ?_⟩
  cases ha
  rw [add_zero]
  refine cell_of (new_block w _) ?_
  rw [← h] at hu
  simpa using hu

theorem has_alloc {w : World} {v : Value} {l : Bs} (h : HasB w v l) (o : Obj) : HasB (w.alloc o) v l := h.chg (Chg.alloc w o) fun _ _ => id

/-- A list of one row, in a new block. -/
theorem rows_one {w : World} {v : Value} {l : Bs} (h : HasB w v l) (e : TypeId) (fr : Nat × Nat) (g c : Nat) (hg : g = w.heap.size) (hc : 1 ≤ c) : RowsAt (w.alloc (.cells #[v] e fr)) (.slice (some ⟨g, 0, none⟩) 1 c) [l] := by
  subst hg
  refine ⟨_, c, rfl, by simpa using hc, fun _ => ⟨_, _, [v], rfl, rfl, fun i u hu => ?_, fun i u m hu hm => ?_⟩⟩
  · rw [add_zero]
    refine cell_of (new_block w _) ?_
    simpa using hu
  · have hi : i = 0 := by
      have := (List.getElem?_eq_some_iff.1 hu).1
      simpa using this
    subst hi
    simp at hu hm
    subst hu
    subst hm
    exact (has_alloc h _).kit
end Go.Proofs.YtogdfkilhpkloaaGreatDoor

namespace Go.Proofs.YtogdfkilhpkloaaGreatDoor
open Go.RowKit Go.Sat Go.Maps

theorem ok_rename {D : DiskM} (h : D.OK) {o n : Bs} {f : FileM} (hg : Sat.get o D.files = some f) (hn : okN n = true) : DiskM.OK { D with files := put n f (del o D.files) } where
  srt := srt_put (srt_del h.srt)
  room := h.room
  used := by
    show sumBy DiskM.size (put n f (del o D.files)) ≤ D.room
    have h1 : D.used = DiskM.size f + sumBy DiskM.size (del o D.files) := sum_del h.srt hg
    have h2 := h.used
    rw [sum_put]
    cases hg2 : Sat.get n (del o D.files) with
    | none => rw [del_none hg2]; omega
    | some f2 =>
      have h3 : sumBy DiskM.size (del o D.files) = DiskM.size f2 + sumBy DiskM.size (del n (del o D.files)) := sum_del (srt_del h.srt) hg2
      omega
  count := by
    show (put n f (del o D.files)).length ≤ 4096
    have h1 := len_del h.srt hg
    have h2 := len_del_le n (del o D.files)
    have h3 := h.count
    rw [len_put]
    omega
  names p hp := by
    rcases mem_put.1 hp with rfl | ⟨hp, _⟩
    · exact hn
    · exact h.names p (mem_del.1 hp).1
  lasts p hp := by
    rcases mem_put.1 hp with rfl | ⟨hp, _⟩
    · exact h.lasts (o, f) (get_mem hg)
    · exact h.lasts p (mem_del.1 hp).1
  fuse := h.fuse

section
variable {w : World} {d m : Nat} {left : Int} {L : List (Bs × FRep)} {own : Own} {D : DiskM}

theorem ren_file (h : DiskIn w d m left L own D) {o n : Bs} {r : FRep} (hg : Sat.get o L = some r) {w' : World} (hs : w.heap.size ≤ w'.heap.size) (hb : ∀ k, k < w.heap.size → k ≠ m → w'.heap[k]? = w.heap[k]?)
    (hm : ∃ q, w'.ownsMap Tryz.prog 9 ptrR m q (dm fbD (put n r (del o L)))) (hn : okN n = true) :
    ∃ own', DiskIn w' d m left (put n r (del o L)) own' { D with files := put n r.f (del o D.files) } ∧ Ext w own own' := by
  refine h.remap (L' := put n r (del o L)) hs hb hm (srt_put (srt_del h.srt)) rfl rfl (by rw [mp_put, mp_del, ← h.files]) (ok_rename h.ok (by rw [h.get, hg]; rfl) hn) (fun p hp => ?_) (fun p hp q hq e => ?_)
  · rcases mem_put.1 hp with rfl | ⟨hp, _⟩
    · exact ⟨_, get_mem hg, rfl⟩
    · exact ⟨p, (mem_del.1 hp).1, rfl⟩
  · have hr := h.fileAt hg
    have other : ∀ p, p ∈ del o L → p.2.fb = r.fb → False := fun p hp e => by
      have h1 := (h.file p (mem_del.1 hp).1).ob
      rw [e, hr.ob] at h1
      exact (mem_del.1 hp).2 (by simpa using h1.symm)
    rcases mem_put.1 hp with rfl | ⟨hp, _⟩
    · rcases mem_put.1 hq with rfl | ⟨hq, _⟩
      · rfl
      · exact (other q hq e.symm).elim
    · rcases mem_put.1 hq with rfl | ⟨hq, _⟩
      · exact (other p hp e).elim
      · have h1 := (h.file p (mem_del.1 hp).1).ob
        have h2 := (h.file q (mem_del.1 hq).1).ob
        rw [e, h2] at h1
        exact key_uniq h.srt (mem_del.1 hp).1 (mem_del.1 hq).1 (by simpa using h1.symm)

theorem strs_two (w : World) (o s : ByteArray) : StrsAt (w.alloc (.cells #[.string o, .string s] 9)) (some ⟨w.heap.size, 0, none⟩) [o, s] := strs_new w [o, s] _ rfl _ (0, 0)

set_option maxRecDepth 100000 in
set_option maxHeartbeats 2000000 in
theorem rename_bad (h : DiskIn w d m left L own D) (o s : ByteArray) (hso : o.size ≤ 9223372036854775807) (hss : s.size ≤ 9223372036854775807) (hm : D.may [nm o, nm s] ≠ 0) :
    Calls Tryz.prog 170 #[.pointer (some ⟨d, 0, none⟩), .string o, .string s] w (After w d own (D, D.may [nm o, nm s])) := by
  have h1 := h.chg (Chg.alloc w (.cells #[.string o, .string s] 9)) (fun k hk => hk.elim)
  have hc := may_calls h1 _ [o, s] 2 (strs_two w o s) (by simp) (by simp; exact ⟨hso, hss⟩)
  simp only [List.map_cons, List.map_nil] at hc
  have Hfin := Lib.hid (show After w d own (D, D.may [nm o, nm s]) (.returned (.int .i64 (D.may [nm o, nm s] : Int))) (w.alloc (.cells #[.string o, .string s] 9)) from
    ⟨own, rfl, ⟨m, left, L, h1⟩, (Chg.alloc w _).mono fun _ _ h => h.elim, ext_refl _ _⟩)
  generalize D.may [nm o, nm s] = e0 at *
  have hne : ((e0 : Int) != 0) = true := by simp; omega
  have Hc := Lib.hid hc
  clear h hc h1
  go_enter Tryz.func170, Tryz.ntmps170
  go_wp2_with fail
  refine Hc.out.mono ?_
  rintro e w' ⟨rfl, rfl⟩
  go_wp2_with fail
  go_ret
  exact Hfin.out

set_option maxRecDepth 100000 in
set_option maxHeartbeats 2000000 in
theorem rename_none (h : DiskIn w d m left L own D) (o s : ByteArray) (hso : o.size ≤ 9223372036854775807) (hss : s.size ≤ 9223372036854775807) (hm : D.may [nm o, nm s] = 0) (hg : Sat.get (nm o) L = none) :
    Calls Tryz.prog 170 #[.pointer (some ⟨d, 0, none⟩), .string o, .string s] w (After w d own (D, 7)) := by
  have h1 := h.chg (Chg.alloc w (.cells #[.string o, .string s] 9)) (fun k hk => hk.elim)
  have hc := may_calls h1 _ [o, s] 2 (strs_two w o s) (by simp) (by simp; exact ⟨hso, hss⟩)
  simp only [List.map_cons, List.map_nil, hm] at hc
  have hlook := run_look_none _ keyLaw Tryz.underlying9 Tryz.underlying89 (zeroFile _) FRep.fb h1.map hso hg
  have hc1 := h1.c1
  have Hfin := Lib.hid (show After w d own (D, 7) (.returned (.int .i64 (7 : Int))) (w.alloc (.cells #[.string o, .string s] 9)) from
    ⟨own, rfl, ⟨m, left, L, h1⟩, (Chg.alloc w _).mono fun _ _ h => h.elim, ext_refl _ _⟩)
  have Hc := Lib.hid hc
  have Hlook := Lib.hid hlook
  have Hc1 := Lib.hid hc1
  clear h hc h1 hlook hc1
  generalize hw0 : w.alloc (.cells #[.string o, .string s] 9) = w0 at *
  go_enter Tryz.func170, Tryz.ntmps170
  go_wp2_with fail
  have hlook := Hlook.out
  have hc1 := Hc1.out
  refine Hc.out.mono ?_
  rintro e w' ⟨rfl, rfl⟩
  clear hw0
  go_wp2_with fail
  go_ret
  exact Hfin.out

set_option maxRecDepth 100000 in
set_option maxHeartbeats 4000000 in
theorem rename_some (h : DiskIn w d m left L own D) (o s : ByteArray) (hso : o.size ≤ 9223372036854775807) (hss : s.size ≤ 9223372036854775807) (hm : D.may [nm o, nm s] = 0) {r : FRep} (hg : Sat.get (nm o) L = some r) :
    Calls Tryz.prog 170 #[.pointer (some ⟨d, 0, none⟩), .string o, .string s] w (After w d own (DiskM.done { D with files := put (nm s) r.f (del (nm o) D.files) }, 0)) := by
  have h1 := h.chg (Chg.alloc w (.cells #[.string o, .string s] 9)) (fun k hk => hk.elim)
  have hc := may_calls h1 _ [o, s] 2 (strs_two w o s) (by simp) (by simp; exact ⟨hso, hss⟩)
  simp only [List.map_cons, List.map_nil, hm] at hc
  have hlook := run_look_some _ keyLaw Tryz.underlying9 Tryz.underlying89 (zeroFile _) FRep.fb h1.map hso hg
  have hc1 := h1.c1
  have hkey := WideMaps.keyOf_string_mk Tryz.underlying9 hso
  have hkey2 := WideMaps.keyOf_string_mk Tryz.underlying9 hss
  have hz := may_zero hm
  have hfu := hz.1
  have hokn : okN (nm s) = true := by
    have := hz.2
    simp at this
    exact this.2
  have hN : L.length < maxLen := by
    have h3 := h.ok.count
    rw [h.len] at h3
    unfold maxLen
    omega
  have Hw := Lib.hid (Chg.alloc w (.cells #[.string o, .string s] 9))
  have H1 := Lib.hid h1
  have Hc := Lib.hid hc
  have Hlook := Lib.hid hlook
  have Hc1 := Lib.hid hc1
  have Hok := Lib.hid hokn
  have Hfu := Lib.hid hfu
  have Hg := Lib.hid hg
  have hmap := h1.map
  have Hmap := Lib.hid hmap
  clear h hc h1 hlook hc1 hz hokn hm hg hmap hfu
  generalize hw0 : w.alloc (.cells #[.string o, .string s] 9) = w0 at *
  go_enter Tryz.func170, Tryz.ntmps170
  go_wp2_with fail
  have hlook := Hlook.out
  have hc1 := Hc1.out
  refine Hc.out.mono ?_
  rintro e w' ⟨rfl, rfl⟩
  clear hw0
  go_wp2_with (first | (at_delete; refine wpList_delete_own _ rfl _ _ 89 9 rfl 126 keyLaw Tryz.underlying89 ptrR m L.length (dm fbD L) rfl Hmap.out _ _ rfl hkey ?_; intro w1 hown1 hturn1; have hcA := cell_of (i := 1) (grown_block hturn1.grown H1.out.cells (fun e => H1.out.ne_of H1.out.od H1.out.om (by simp) (by cases e; rfl))) rfl; have Hf := Lib.hid (And.intro hown1 hturn1); clear hown1 hturn1) | (at_mapUpdate; refine wpList_mapUpdate_own _ rfl _ _ _ 89 rfl 9 126 keyLaw Tryz.underlying89 ptrR m L.length _ rfl Hf.out.1 hN _ _ _ rfl rfl hkey2 (.held r.fb) [] rfl ?_; intro w3 hown3 hg3; have Hg3 := Lib.hid (And.intro hown3 hg3); clear hown3 hg3))
  obtain ⟨hown1, hturn1⟩ := Hf.out
  obtain ⟨hown3, hg3⟩ := Hg3.out
  have hg1 := hturn1.grown
  have hb : ∀ k, k < w0.heap.size → k ≠ m → w3.heap[k]? = w0.heap[k]? := fun k hk hkm => by
    have := hg1.size
    rw [hg3.block k (by omega) (by intro e; cases e; exact hkm rfl), hg1.block k hk (by intro e; cases e; exact hkm rfl)]
  rw [show (.held r.fb : DataW Nat) = fbD r from rfl, dm_del, dm_put] at hown3
  obtain ⟨own', h4, hx⟩ := ren_file H1.out Hg.out (w' := w3) (n := nm s) (Nat.le_trans hg1.size hg3.size) hb ⟨_, hown3⟩ Hok.out
  have hchg : Chg (Has own) w w3 := (Hw.out.mono (T := Has own) fun _ _ h => h.elim).trans (((Chg.of_grown hg1).trans (Chg.of_grown hg3) fun _ _ h => h).mono fun k _ e => by cases e; exact has_m H1.out) fun _ _ h => h
  have hdone := done_calls h4 Hfu.out
  have Hdone := Lib.hid hdone
  have Hchg := Lib.hid hchg
  have Hx := Lib.hid hx
  have hsz := Hw.out.size
  have Hsz := Lib.hid hsz
  have Hod := Lib.hid (has_d H1.out)
  clear hown1 hturn1 hown3 hg3 hg1 hb h4 hx hchg hdone hsz
  refine Hdone.out.mono ?_
  rintro e w5 ⟨rfl, hd5, hc5⟩
  go_wp2_with fail
  go_ret
  exact ⟨own', rfl, hd5, Hchg.out.trans hc5 fun i _ e => by rw [e]; exact Hod.out, fun k hk => Hx.out k (Nat.lt_of_lt_of_le hk Hsz.out)⟩

/-- **Rename.** -/
theorem rename_calls (h : DiskAt w d D own) (o s : ByteArray) (hso : o.size ≤ 9223372036854775807) (hss : s.size ≤ 9223372036854775807) :
    Calls Tryz.prog 170 #[.pointer (some ⟨d, 0, none⟩), .string o, .string s] w (After w d own (D.rename (nm o) (nm s))) := by
  obtain ⟨m, left, L, h⟩ := h
  unfold DiskM.rename
  by_cases hm : D.may [nm o, nm s] = 0
  · rw [if_neg (by simpa using hm), h.get]
    cases hg : Sat.get (nm o) L with
    | none => exact rename_none h o s hso hss hm hg
    | some r => exact rename_some h o s hso hss hm hg
  · rw [if_pos (by simpa using hm)]
    exact rename_bad h o s hso hss hm
end

theorem st_rename {w w1 : World} {d : Nat} {D : DiskM} {F : Nat → Prop} (h : St w w1 d D F) (o s : ByteArray) (hso : o.size ≤ 9223372036854775807) (hss : s.size ≤ 9223372036854775807) :
    Calls Tryz.prog 170 #[.pointer (some ⟨d, 0, none⟩), .string o, .string s] w1 (Told w d F w1 (D.rename (nm o) (nm s))) := by
  obtain ⟨own, hd, hb, hnn, hF⟩ := h
  refine (rename_calls hd o s hso hss).mono ?_
  rintro e w' ⟨own', rfl, hd', hc, hx⟩
  exact ⟨rfl, St.step hb hnn hF hd' hc hx⟩
end Go.Proofs.YtogdfkilhpkloaaGreatDoor

namespace Go.Sat
open Go.RowKit Go.Maps

theorem bb_lt : ∀ (a b : Bs), bytesBefore a b = true ↔ a < b
  | [], [] => by simp [bytesBefore]
  | [], _ :: _ => by simp [bytesBefore]
  | _ :: _, [] => by simp [bytesBefore]
  | a :: r, b :: s => by
    rw [List.cons_lt_cons_iff, ← bb_lt r s]
    simp [bytesBefore]

/-- Not behind. -/
def Le (x y : Bs) : Prop := bytesBefore y x = false

theorem le_iff (x y : Bs) : x ≤ y ↔ Le x y := by
  unfold Le
  rw [← Bool.not_eq_true, bb_lt]
  exact Iff.rfl

theorem le_anti {x y : Bs} (h : Le x y) (k : Le y x) : x = y := by
  by_cases e : x = y
  · exact e
  · rcases bb_total x y e with h1 | h1
    · rw [k] at h1; cases h1
    · rw [h] at h1; cases h1

theorem le_total (x y : Bs) : Le x y ∨ Le y x := by
  unfold Le
  cases h : bytesBefore y x with
  | false => exact .inl rfl
  | true =>
    right
    cases h2 : bytesBefore x y with
    | false => rfl
    | true =>
      have := bb_trans h h2
      rw [bb_irrefl] at this
      cases this

theorem le_trans' {x y z : Bs} (h : Le x y) (k : Le y z) : Le x z := by
  by_cases e : x = y
  · rw [e]; exact k
  · by_cases e2 : y = z
    · rw [← e2]; exact h
    · have h1 : bytesBefore x y = true := by
        rcases bb_total x y e with h1 | h1
        · exact h1
        · rw [h] at h1; cases h1
      have h2 : bytesBefore y z = true := by
        rcases bb_total y z e2 with h1 | h1
        · exact h1
        · rw [k] at h1; cases h1
      have h3 := bb_trans h1 h2
      unfold Le
      cases h4 : bytesBefore z x with
      | false => rfl
      | true =>
        have := bb_trans h3 h4
        rw [bb_irrefl] at this
        cases this

theorem sorted_uniq : ∀ {l m : List Bs}, l.Perm m → l.Pairwise Le → m.Pairwise Le → l = m
  | [], m, h, _, _ => h.nil_eq
  | a :: r, [], h, _, _ => by have := h.length_eq; simp at this
  | a :: r, b :: s, h, hl, hm => by
    rw [List.pairwise_cons] at hl hm
    have e : a = b := by
      have ha : a ∈ b :: s := h.subset (List.mem_cons_self ..)
      have hb : b ∈ a :: r := h.symm.subset (List.mem_cons_self ..)
      rcases List.mem_cons.1 ha with e | ha
      · exact e
      · rcases List.mem_cons.1 hb with e | hb
        · exact e.symm
        · exact le_anti (hl.1 b hb) (hm.1 a ha)
    subst e
    rw [sorted_uniq (List.Perm.cons_inv h) hl.2 hm.2]

theorem keys_sorted {α : Type} {L : List (Bs × α)} (h : Srt L) : (L.map (·.1)).Pairwise Le := by
  rw [List.pairwise_map]
  refine h.imp fun {p q} hpq => ?_
  unfold Le
  cases h4 : bytesBefore q.1 p.1 with
  | false => rfl
  | true =>
    have := bb_trans hpq h4
    rw [bb_irrefl] at this
    cases this

theorem merge_keys {α : Type} {L : List (Bs × α)} (h : Srt L) {ss : List Bs} (hp : ss.Perm (L.map (·.1))) : ss.mergeSort (fun x y => decide (x ≤ y)) = L.map (·.1) := by
  refine sorted_uniq ((List.mergeSort_perm ss _).trans hp) ?_ (keys_sorted h)
  have := List.pairwise_mergeSort (le := fun x y : Bs => decide (x ≤ y)) (fun a b c h1 h2 => by
    simp only [decide_eq_true_eq, le_iff] at *
    exact le_trans' h1 h2) (fun a b => by
    simp only [Bool.or_eq_true, decide_eq_true_eq, le_iff]
    exact le_total a b) ss
  exact this.imp fun {a b} hab => by simpa only [decide_eq_true_eq, le_iff] using hab

theorem keys_dm {H α : Type} (g : α → DataW H) (L : List (Bs × α)) : strKeys (dm g L) = L.map (·.1) := by
  simp only [strKeys, dm, List.map_map]
  exact List.map_congr_left fun p _ => rfl
end Go.Sat

namespace Go.Proofs.YtogdfkilhpkloaaGreatDoor
open Go.RowKit Go.Sat Go.Maps

/-- A slice of strings of one's own. -/
def OwnN (w : World) (v : Value) (ns : List Bs) : Prop := OwnR w 9 1 v ns.length (ns.map encStr)

def namesOf (D : DiskM) : List Bs := D.files.map (·.1)

def Listed (w : World) (D : DiskM) (e : Ending) (w' : World) : Prop := ∃ v, e = .returned v ∧ OwnN w' v (namesOf D) ∧ (∀ k, v.ownBlock = some k → w.heap.size ≤ k) ∧ Below w.heap.size w w'

section
variable {w : World} {d m : Nat} {left : Int} {L : List (Bs × FRep)} {own : Own} {D : DiskM}

set_option maxHeartbeats 1000000 in
theorem list_calls (h : DiskAt w d D own) : Calls Tryz.prog 225 #[.pointer (some ⟨d, 0, none⟩)] w (Listed w D) := by
  obtain ⟨m, left, L, h⟩ := h
  have hc1 := h.c1
  have hcount : L.length ≤ 4096 := by rw [← h.len]; exact h.ok.count
  have hfin : ∀ (v : Value) (ss : List Bs) (w' : World), ss.Perm (strKeys (dm fbD L)) → w'.ownsRow (w.alloc (.cells #[.map (some m)] 89)).heap.size 9 1 v ss.length ((ss.mergeSort (fun x y => decide (x ≤ y))).map encStr) →
      Below (w.alloc (.cells #[.map (some m)] 89)).heap.size (w.alloc (.cells #[.map (some m)] 89)) w' → Listed w D (.returned v) w' := by
    intro v ss w' hp hr hb
    rw [keys_dm] at hp
    rw [merge_keys h.srt hp, hp.length_eq] at hr
    refine ⟨v, rfl, ?_, fun k hk => ?_, ((Below.refl _ _).alloc (Nat.le_refl _) _).trans (hb.mono (by simp))⟩
    · have e : namesOf D = L.map (·.1) := by
        unfold namesOf
        rw [h.files]
        simp [mp]
      unfold OwnN
      rw [e]
      exact OwnR.of_kit hr
    · have := OwnR.block_ge hr hk
      simp at this
      omega
  have hS := (callsIn_wide (n := 5)).1 (Tryz.slices_Sorted_keys_158_283 m L.length (dm fbD L) ptrR w h.map (by rw [dm_size]; unfold maxLen; omega) (by rw [dm_size]; omega))
  have hK := (callsIn_wide (n := 5)).1 (Tryz.maps_Keys_283 (some m) w)
  have Hfin := Lib.hid hfin
  have HS := Lib.hid hS
  have HK := Lib.hid hK
  clear hfin hS hK h hcount
  go_enter Tryz.func225, Tryz.ntmps225
  go_wp2_with fail
  refine HK.out.mono ?_
  rintro e w' ⟨rfl, rfl⟩
  go_wp2_with fail
  refine HS.out.mono ?_
  rintro e w' ⟨v, ss, rfl, hp, hr, -, hb⟩
  have Hl := Lib.hid (Hfin.out v ss w' hp hr hb)
  clear hp hr hb
  go_wp2_with fail
  go_ret
  exact Hl.out
end

def ListedS (w : World) (d : Nat) (D : DiskM) (F : Nat → Prop) (w1 : World) (e : Ending) (w' : World) : Prop :=
  ∃ v, e = .returned v ∧ OwnN w' v (namesOf D) ∧ (∀ k, v.ownBlock = some k → w1.heap.size ≤ k) ∧ Below w1.heap.size w1 w' ∧ St w w' d D F

theorem st_list {w w1 : World} {d : Nat} {D : DiskM} {F : Nat → Prop} (h : St w w1 d D F) :
    Calls Tryz.prog 225 #[.pointer (some ⟨d, 0, none⟩)] w1 (ListedS w d D F w1) := by
  have h0 := h
  obtain ⟨own, hd, hb, hnn, hF⟩ := h
  refine (list_calls hd).mono ?_
  rintro e w' ⟨v, rfl, hv, hn, hb'⟩
  exact ⟨v, rfl, hv, hn, hb', h0.next hb'⟩
end Go.Proofs.YtogdfkilhpkloaaGreatDoor

namespace Go.Proofs.YtogdfkilhpkloaaGreatDoor
open Go.RowKit Go.Sat Go.Maps

/-- The keys of a map of strings. -/
theorem mapIs_strKeys {w : World} {P : Program} {k : TypeId} (hk : P.underlying k = some .string) {α : Type} {E : ElemR α} {b : Nat} {V : List (Bs × α)} (h : MapIs w P k (strK hk) E b V) :
    ∃ es, w.ownsMap P k E.R b V.length (.map es) ∧ (strKeys (.map es)).Perm (V.map (·.1)) ∧ Maps.size (DataW.map es) = V.length := by
  obtain ⟨es, h1, h2, h3, h4⟩ := h
  refine ⟨es, h1, ?_, ?_⟩
  · have := h2.map (fun p => strOf p.1)
    rw [List.map_map] at this
    exact this
  · rw [Maps.size_eq, h2.length_eq, List.length_map]
end Go.Proofs.YtogdfkilhpkloaaGreatDoor

namespace Go.Proofs.YtogdfkilhpkloaaGreatDoor
open Go.RowKit Go.Sat Go.Maps

def VGo (w : World) (vb bb : Nat) (w' : World) : Prop := w'.cell? ⟨vb, 1, none⟩ = some (.pointer (some ⟨bb, 0, none⟩)) ∧ w'.cell? ⟨vb, 2, none⟩ = some (.int .i64 1) ∧ Below w.heap.size w w'
theorem VGo.bel {w w' : World} {vb bb : Nat} (h : VGo w vb bb w') : Below w.heap.size w w' := h.2.2
theorem VGo.go {w w1 w2 : World} {vb pm bb : Nat} (h0 : w.heap[vb]? = some (VaultO pm bb)) (h : VGo w vb bb w1) (hb : Below w1.heap.size w1 w2) : VGo w vb bb w2 := by
  have hbb := h.2.2.trans (hb.mono h.2.2.size)
  have := (hbb.block vb (lt_of_block h0)).trans h0
  exact ⟨cell_of this rfl, cell_of this rfl, hbb⟩
end Go.Proofs.YtogdfkilhpkloaaGreatDoor

namespace Go.Proofs.YtogdfkilhpkloaaGreatDoor
open Go.RowKit Go.Sat Go.Maps

def OpM.v (o : OpM) : Value := .agg #[.int .i64 o.kind, .int .i64 o.client, .int .i64 o.seq, .string o.atK, .string o.atW, .string o.toK, .string o.toW, .int .i64 o.item, .int .i64 o.count, .int .i64 o.price, .bool o.buy, .int .i64 o.id]
/-- A request in a block. -/
def OpM.o (o : OpM) (t : TypeId) : Obj := .cells #[.int .i64 o.kind, .int .i64 o.client, .int .i64 o.seq, .string o.atK, .string o.atW, .string o.toK, .string o.toW, .int .i64 o.item, .int .i64 o.count, .int .i64 o.price, .bool o.buy, .int .i64 o.id] t (0, 0)
def strOk (a : ByteArray) : Prop := a.size ≤ maxLen
def OpM.wf (o : OpM) : Prop := (wf64 o.kind ∧ wf64 o.client ∧ wf64 o.seq) ∧ (strOk o.atK ∧ strOk o.atW ∧ strOk o.toK ∧ strOk o.toW) ∧ wf64 o.item ∧ wf64 o.count ∧ wf64 o.price ∧ wf64 o.id
def OpM.same (x y : OpM) : Bool := decide (x.kind = y.kind ∧ x.client = y.client ∧ x.seq = y.seq ∧ x.atK = y.atK ∧ x.atW = y.atW ∧ x.toK = y.toK ∧ x.toW = y.toW ∧ x.item = y.item ∧ x.count = y.count ∧ x.price = y.price ∧ x.buy = y.buy ∧ x.id = y.id)
theorem new_block2 (w : World) (a b : Obj) : ((w.alloc a).alloc b).heap[w.heap.size + 1]? = some b := by
  have := new_block (w.alloc a) b
  simpa using this
end Go.Proofs.YtogdfkilhpkloaaGreatDoor

namespace Go.Proofs.YtogdfkilhpkloaaGreatDoor
open Go.RowKit Go.Sat Go.Maps

theorem below_drewN (k : Nat) (w : World) (n : Nat) : Below k w (w.drewN n) := ⟨rfl, rfl, rfl, Nat.le_refl _, fun _ _ => rfl⟩
end Go.Proofs.YtogdfkilhpkloaaGreatDoor

namespace Go.Proofs.YtogdfkilhpkloaaGreatDoor
open Go.RowKit Go.Sat Go.Maps

set_option maxRecDepth 100000 in
set_option maxHeartbeats 4000000 in
theorem econew_calls (w : World) : Calls Tryz.prog 80 #[] w fun e w' => e = .returned (.pointer (some ⟨w.heap.size + 4, 0, none⟩)) ∧ w' = ((((w.alloc (.map #[] 0)).alloc (.map #[] 0)).alloc (.map #[] 0)).alloc (.map #[] 0)).alloc (.cells #[.map (some w.heap.size), .map (some (w.heap.size + 1)), .map (some (w.heap.size + 2)), .map (some (w.heap.size + 3))] 184) := by
  have hmm := @run_makeMap Tryz.prog
  go_enter Tryz.func80, Tryz.ntmps80
  go_wp2_with fail
  go_ret
  exact ⟨rfl, rfl⟩
end Go.Proofs.YtogdfkilhpkloaaGreatDoor

namespace Go.Proofs.YtogdfkilhpkloaaGreatDoor
open Go.RowKit Go.Sat Go.Maps

/-- A vault, and where it lies. -/
structure VRep where
  vb : Nat
  pm : Nat
  bb : Nat
  V : List (Bs × It)
/-- What was said last to a client. -/
structure Sess where
  seq : Int
  err : Int
  id : Int
  has : It
theorem Sess.ext' {x y : Sess} (h1 : x.seq = y.seq) (h2 : x.err = y.err) (h3 : x.id = y.id) (h4 : x.has = y.has) : x = y := by
  cases x
  cases y
  simp_all
def Sess.v (s : Sess) : Value := .agg #[.int .i64 s.seq, .int .i64 s.err, .int .i64 s.id, .int .i64 s.has.a, .int .i64 s.has.b, .int .i64 s.has.c, .int .i64 s.has.d]
noncomputable def sessE : ElemR Sess := elemK Sess.v (fun s => .agg [.lit (.int .i64 s.seq), .lit (.int .i64 s.err), .lit (.int .i64 s.id), .lit (.int .i64 s.has.a), .lit (.int .i64 s.has.b), .lit (.int .i64 s.has.c), .lit (.int .i64 s.has.d)])
  (fun x y h => by
    unfold Sess.v at h
    simp only [Value.agg.injEq, Array.mk.injEq, List.cons.injEq, Value.int.injEq, true_and, and_true] at h
    exact Sess.ext' h.1 h.2.1 h.2.2.1 (It.ext' h.2.2.2.1 h.2.2.2.2.1 h.2.2.2.2.2.1 h.2.2.2.2.2.2))
  (fun x y h => by
    simp only [DataW.agg.injEq, List.cons.injEq, DataW.lit.injEq, Lit.int.injEq, true_and, and_true] at h
    exact Sess.ext' h.1 h.2.1 h.2.2.1 (It.ext' h.2.2.2.1 h.2.2.2.2.1 h.2.2.2.2.2.1 h.2.2.2.2.2.2)) ⟨0, 0, 0, It.zero⟩
/-- What is under way. -/
structure TransM where
  client : Int
  seq : Int
  atK : ByteArray
  atW : ByteArray
  toK : ByteArray
  toW : ByteArray
  item : Int
  count : Int
def TransM.v (t : TransM) : Value := .agg #[.int .i64 t.client, .int .i64 t.seq, .string t.atK, .string t.atW, .string t.toK, .string t.toW, .int .i64 t.item, .int .i64 t.count]
def strD (s : ByteArray) : DataW Nat := .lit (.string s.data.toList)
theorem strD_inj {a b : ByteArray} (h : a.data.toList = b.data.toList) : a = b := by
  cases a
  cases b
  simpa using h
noncomputable def transE : ElemR TransM := elemK TransM.v (fun t => .agg [.lit (.int .i64 t.client), .lit (.int .i64 t.seq), strD t.atK, strD t.atW, strD t.toK, strD t.toW, .lit (.int .i64 t.item), .lit (.int .i64 t.count)])
  (fun x y h => by
    unfold TransM.v at h
    simp only [Value.agg.injEq, Array.mk.injEq, List.cons.injEq, Value.int.injEq, Value.string.injEq, true_and, and_true] at h
    cases x
    cases y
    simp_all)
  (fun x y h => by
    unfold strD at h
    simp only [DataW.agg.injEq, List.cons.injEq, DataW.lit.injEq, Lit.int.injEq, Lit.string.injEq, true_and, and_true] at h
    cases x
    cases y
    obtain ⟨h1, h2, h3, h4, h5, h6, h7, h8⟩ := h
    have h3 := strD_inj h3
    have h4 := strD_inj h4
    have h5 := strD_inj h5
    have h6 := strD_inj h6
    simp_all) ⟨0, 0, s0, s0, s0, s0, 0, 0⟩
noncomputable def boolE : ElemR Bool := elemK (fun b => .bool b) (fun b => .lit (.bool b)) (fun x y h => Value.bool.inj h) (fun x y h => by injection h with h; injection h) false
structure EcoR where
  vs : List (Bs × VRep)
  ss : List (Int × Sess)
  ts : List ((Int × Int) × TransM)
  ar : List ((Int × Int) × Bool)
def EconO (vm sm tm am : Nat) : Obj := .cells #[.map (some vm), .map (some sm), .map (some tm), .map (some am)] 184 (0, 0)
/-- The vaults of it. -/
def VsIs (w : World) (vm : Nat) (vs : List (Bs × VRep)) : Prop := MapIs w Tryz.prog 9 (strK Tryz.underlying9) ptrE vm (kmp (·.vb) vs)
structure EconIn (w : World) (eb vm sm tm am : Nat) (E : EcoR) (own : Nat → Option (Nat × Bs)) : Prop where
  cells : w.heap[eb]? = some (EconO vm sm tm am)
  vaults : VsIs w vm E.vs
  each : ∀ p ∈ E.vs, VaultIn w p.2.vb p.2.pm p.2.bb p.2.V
  sess : MapIs w Tryz.prog 3 (intK Tryz.underlying3) sessE sm E.ss
  trans : MapIs w Tryz.prog 191 whichK transE tm E.ts
  arr : MapIs w Tryz.prog 191 whichK boolE am E.ar
  oE : own eb = some (0, [])
  oV : own vm = some (1, [])
  oS : own sm = some (2, [])
  oT : own tm = some (3, [])
  oA : own am = some (4, [])
  oP : ∀ p ∈ E.vs, own p.2.vb = some (5, p.1) ∧ own p.2.pm = some (6, p.1) ∧ own p.2.bb = some (7, p.1)
  oLt : ∀ k, own k ≠ none → k < w.heap.size
section
variable {w w' : World} {eb vm sm tm am : Nat} {E : EcoR} {own : Nat → Option (Nat × Bs)}
theorem EconIn.srt (h : EconIn w eb vm sm tm am E own) : KSrt E.vs := by
  have := h.vaults.srt
  unfold KSrt kmp at this
  rw [List.pairwise_map] at this
  exact this
theorem EconIn.keep (h : EconIn w eb vm sm tm am E own) (hs : ∀ k, own k ≠ none → w'.heap[k]? = w.heap[k]?) (hz : w.heap.size ≤ w'.heap.size) : EconIn w' eb vm sm tm am E own :=
  ⟨(hs eb (by rw [h.oE]; simp)).trans h.cells, h.vaults.keep (hs vm (by rw [h.oV]; simp)),
   fun p hp => (h.each p hp).keep fun k hk => hs k (by rcases hk with rfl | rfl | rfl <;> simp [h.oP p hp]),
   h.sess.keep (hs sm (by rw [h.oS]; simp)), h.trans.keep (hs tm (by rw [h.oT]; simp)), h.arr.keep (hs am (by rw [h.oA]; simp)),
   h.oE, h.oV, h.oS, h.oT, h.oA, h.oP, fun k hk => Nat.lt_of_lt_of_le (h.oLt k hk) hz⟩
/-- The purses of one vault have changed. -/
theorem EconIn.vault (h : EconIn w eb vm sm tm am E own) {n : Bs} {r : VRep} (hr : kget n E.vs = some r) {V' : List (Bs × It)} (hv : VTold w r.vb r.pm r.bb V' w') :
    EconIn w' eb vm sm tm am { E with vs := kput n { r with V := V' } E.vs } own := by
  have hm := k_get_mem hr
  obtain ⟨o1, o2, o3⟩ := h.oP _ hm
  have hk : ∀ k, own k ≠ none → k ≠ r.pm → w'.heap[k]? = w.heap[k]? := fun k hk hne => hv.2.block k (h.oLt k hk) hne
  have hne : ∀ {k : Nat} {t : Nat} {x : Bs}, own k = some (t, x) → t ≠ 6 ∨ x ≠ n → k ≠ r.pm := fun {k t x} e ht e2 => by
    rw [e2, o2] at e
    cases e
    simp at ht
  have hsame : kmp (fun p => VRep.vb p) (kput n { r with V := V' } E.vs) = kmp (fun p => VRep.vb p) E.vs := by
    rw [k_mp_put]
    refine k_srt_ext (k_srt_put (k_mp_srt h.srt)) (k_mp_srt h.srt) fun m => ?_
    by_cases hmn : m = n
    · subst hmn
      rw [k_get_put_same (k_mp_srt h.srt), k_mp_get, hr]
      rfl
    · rw [k_get_put_other (k_mp_srt h.srt) _ hmn]
  refine ⟨(hk eb (by rw [h.oE]; simp) (hne h.oE (.inl (by decide)))).trans h.cells, ?_, fun p hp => ?_, h.sess.keep (hk sm (by rw [h.oS]; simp) (hne h.oS (.inl (by decide)))), h.trans.keep (hk tm (by rw [h.oT]; simp) (hne h.oT (.inl (by decide)))), h.arr.keep (hk am (by rw [h.oA]; simp) (hne h.oA (.inl (by decide)))), h.oE, h.oV, h.oS, h.oT, h.oA, fun p hp => ?_, fun k hkk => Nat.lt_of_lt_of_le (h.oLt k hkk) hv.2.size⟩
  · show VsIs w' vm (kput n { r with V := V' } E.vs)
    unfold VsIs
    rw [hsame]
    exact h.vaults.keep (hk vm (by rw [h.oV]; simp) (hne h.oV (.inl (by decide))))
  · rcases k_mem_put.1 hp with rfl | ⟨h1, h2⟩
    · exact hv.1
    · obtain ⟨q1, q2, q3⟩ := h.oP p h1
      refine (h.each p h1).keep fun k hkk => ?_
      rcases hkk with rfl | rfl | rfl
      · exact hk _ (by rw [q1]; simp) (hne q1 (.inl (by decide)))
      · exact hk _ (by rw [q2]; simp) (hne q2 (.inr h2))
      · exact hk _ (by rw [q3]; simp) (hne q3 (.inl (by decide)))
  · rcases k_mem_put.1 hp with rfl | ⟨h1, h2⟩
    · exact ⟨o1, o2, o3⟩
    · exact h.oP p h1
end
end Go.Proofs.YtogdfkilhpkloaaGreatDoor

namespace Go.Proofs.YtogdfkilhpkloaaGreatDoor
open Go.RowKit Go.Sat Go.Maps Go.Sort Go.Shelf

/-- Nothing is handed back. -/
def NilR (w : World) (e : Ending) (w' : World) : Prop := e = .returned (.slice none 0 0) ∧ Below w.heap.size w w'
/-- A range over a function whose iterator gives nothing. -/
theorem wpIn_rangeNone {P : Program} {n : Nat} {g : Operand} {ps : Array Tmp} {assign body : Code} {Q : Exit → Act → World → Prop} {a : Act} {w : World} {f : Nat} {lb : Array Value}
    (h1 : 1 ≤ n) (hsv : a.eval g = .func (.func f) #[] lb) (eg : ∀ args w, (callFunc f args).run P w = .ok (.enter f args) w)
    (hseq : SeqGives Fence.wide (n - 1) P f lb encStr (fun ss : List (List UInt8) => ss = []) 0 w)
    (hQ : ∀ W, Below w.heap.size w W → W.heap[w.heap.size]? = some (.deferred (some [])) → Q .normal { a with defers := [{ target := .collected w.heap.size, args := #[] }] ++ a.defers } W) :
    (Code.rangeFunc g ps assign body).wpIn Fence.wide n P Q a w := by
  refine wpIn_rangeFunc ?_
  intro fn _
  obtain ⟨r, hr⟩ : ∃ r : Loop, r = { state := .ready, pending := none, fn := fn, tmps := a.tmps, params := ps, assign := assign, body := body, defers := w.heap.size } := ⟨_, rfl⟩
  obtain ⟨W1, hW1⟩ : ∃ W1, (w.alloc (.deferred (some []))).alloc (.loop r) = W1 := ⟨_, rfl⟩
  have hb1 : Below w.heap.size w W1 := by rw [← hW1]; exact ((Below.refl _ w).alloc (Nat.le_refl _) _).alloc (by simp) _
  have hD1 : W1.heap[w.heap.size]? = some (.deferred (some [])) := by rw [← hW1]; exact old_block _ (new_block w _)
  have hL1 : W1.heap[w.heap.size + 1]? = some (.loop r) := by rw [← hW1]; exact new_block2 _ _ _
  refine ⟨w.heap.size + 1, [{ target := .collected w.heap.size, args := #[] }], W1, { target := .fn (.func f) lb, args := #[.func (.yield (w.heap.size + 1)) #[] #[]] }, W1, f, #[.func (.yield (w.heap.size + 1)) #[] #[]] ++ lb, W1, ?_, ?_, fun _ _ => trivial, ?_, fun _ => h1, ?_⟩
  · rw [← hW1, hr]
    exact run_enterLoop_outer _ _ _ _ _
  · have h2 : ∀ ev : Operand → Value, ev g = .func (.func f) #[] lb → (∀ v, ev (.const v) = v) → (resolve ev (rangeCall g (w.heap.size + 1)) 0).run P W1 = .ok { target := .fn (.func f) lb, args := #[.func (.yield (w.heap.size + 1)) #[] #[]] } W1 := fun ev h h' => by simp [resolve, go_sem, h, h']
    exact h2 _ hsv fun _ => rfl
  · simp [invoke, go_sem, eg]
  · refine (hseq (w.heap.size + 1) (fun _ W => W.heap[w.heap.size]? = some (.deferred (some [])) ∧ W.heap[w.heap.size + 1]? = some (.loop r) ∧ Below w.heap.size w W) W1 hb1 (fun s A B row hs hg hrow => ⟨(grownBy_keeps hg (fun r e => (hrow r e).2) hs.1 rfl).trans hs.1, (grownBy_keeps hg (fun r e => (hrow r e).2) hs.2.1 rfl).trans hs.2.1, hs.2.2.grown hg hs.2.2.size (fun k e => Nat.le_trans hb1.size (hrow k e).1)⟩) (fun pre x W _ hl => absurd hl (Nat.not_lt_zero _)) ⟨hD1, hL1, hb1⟩).mono ?_
    rintro e W2 ⟨⟨v, rfl⟩, ss, -, hD2, hL2, hb2⟩
    refine ⟨none, W2.putObj (w.heap.size + 1) (.loop { r with state := .exhausted }), ?_, ?_⟩
    · refine (run_endLoop (P := P) hL2 (by rw [hr]; simp)).trans ?_
      rw [hr]
    · exact hQ _ (hb2.grown (grownBy_putObj_a _ _ _) hb2.size (fun k e => by cases e; omega)) ((World.putObj_heap_other (by omega)).trans hD2)
/-- What an iterator that gives nothing does. -/
def GivesNone (g : FuncId) (lb : Array Value) (w : World) : Prop := SeqGives Fence.wide 2 Tryz.prog g lb encStr (fun ss : List (List UInt8) => ss = []) 0 w

section
variable {w : World} {b : Nat}
set_option maxRecDepth 100000 in
set_option maxHeartbeats 1000000 in
theorem iterS_none (W : World) (l Bm : Nat) (J : List (List UInt8) → World → Prop) (hJ : AbidesFrom W.heap.size J) (hm : W.cell? ⟨Bm, 0, none⟩ = some (.map (some b))) (h : MapIs W Tryz.prog 3 (intK Tryz.underlying3) sessE b ([] : List (Int × Sess))) (h0 : J [] W) :
    CallsIn Fence.wide 2 Tryz.prog 194 #[.func (.yield l) #[] #[], .pointer (some ⟨Bm, 0, none⟩)] W fun e W' => (∃ v, e = .returned v) ∧ ∃ ss : List (List UInt8), ss = [] ∧ J ss W' := by
  obtain ⟨w1, hrg, hR, hg, hsz⟩ := h.range intKeyed Tryz.underlying180
  have hnx : ∀ ty, (Instr.next (.pointer (some ⟨W.heap.size, 0, none⟩)) false ty).run Tryz.prog w1 = .ok (.tuple #[.bool false]) w1 := fun ty => by
    rcases hR.next intKeyed ty with ⟨-, h⟩ | ⟨p, _, _, hp, hpL, _⟩
    · exact h
    · cases hpL
  refine callsIn_of_wp Tryz.func194 rfl trivial ?_ rfl
  simp only [Tryz.ntmps194, List.size_toArray, List.length_cons, List.length_nil, Nat.reduceAdd, Nat.reduceSub, Array.replicate_succ, Array.replicate_zero, List.push_toArray, List.append_toArray, List.nil_append, List.cons_append]
  gi_wp2
  refine wpIn_loop_rounds 1 ?_
  rw [roundsIn_succ]
  gi_wp2
  go_end0
  exact ⟨⟨_, rfl⟩, [], rfl, hJ [] W _ none h0 hg (fun r e => by cases e)⟩
theorem givesS_none {Bm : Nat} (hm : w.cell? ⟨Bm, 0, none⟩ = some (.map (some b))) (h : MapIs w Tryz.prog 3 (intK Tryz.underlying3) sessE b ([] : List (Int × Sess))) : GivesNone 194 #[.pointer (some ⟨Bm, 0, none⟩)] w := fun l J W hW hJ _ h0 =>
  iterS_none W l Bm J hJ ((hW.cell (p := ⟨Bm, 0, none⟩) (World.block_lt_of_cell? w _ hm)).trans hm) (h.keep (hW.block b h.lt)) h0
set_option maxHeartbeats 1000000 in
theorem keysS_calls (W : World) (mb : Option Nat) : Calls Tryz.prog 131 #[.map mb] W fun e w' => e = .returned (.func (.func 194) #[] #[.pointer (some ⟨W.heap.size, 0, none⟩)]) ∧ w' = W.alloc (.cells #[.map mb] 180) := by
  go_enter Tryz.func131, Tryz.ntmps131
  go_wp2_with fail
  go_ret
  exact ⟨rfl, rfl⟩
end

section
variable {w : World} {b : Nat}
set_option maxRecDepth 100000 in
set_option maxHeartbeats 1000000 in
theorem iterT_none (W : World) (l Bm : Nat) (J : List (List UInt8) → World → Prop) (hJ : AbidesFrom W.heap.size J) (hm : W.cell? ⟨Bm, 0, none⟩ = some (.map (some b))) (h : MapIs W Tryz.prog 191 (whichK) transE b ([] : List ((Int × Int) × TransM))) (h0 : J [] W) :
    CallsIn Fence.wide 2 Tryz.prog 246 #[.func (.yield l) #[] #[], .pointer (some ⟨Bm, 0, none⟩)] W fun e W' => (∃ v, e = .returned v) ∧ ∃ ss : List (List UInt8), ss = [] ∧ J ss W' := by
  obtain ⟨w1, hrg, hR, hg, hsz⟩ := h.range whichKeyed Tryz.underlying181
  have hnx : ∀ ty, (Instr.next (.pointer (some ⟨W.heap.size, 0, none⟩)) false ty).run Tryz.prog w1 = .ok (.tuple #[.bool false]) w1 := fun ty => by
    rcases hR.next whichKeyed ty with ⟨-, h⟩ | ⟨p, _, _, hp, hpL, _⟩
    · exact h
    · cases hpL
  refine callsIn_of_wp Tryz.func246 rfl trivial ?_ rfl
  simp only [Tryz.ntmps246, List.size_toArray, List.length_cons, List.length_nil, Nat.reduceAdd, Nat.reduceSub, Array.replicate_succ, Array.replicate_zero, List.push_toArray, List.append_toArray, List.nil_append, List.cons_append]
  gi_wp2
  refine wpIn_loop_rounds 1 ?_
  rw [roundsIn_succ]
  gi_wp2
  go_end0
  exact ⟨⟨_, rfl⟩, [], rfl, hJ [] W _ none h0 hg (fun r e => by cases e)⟩
theorem givesT_none {Bm : Nat} (hm : w.cell? ⟨Bm, 0, none⟩ = some (.map (some b))) (h : MapIs w Tryz.prog 191 (whichK) transE b ([] : List ((Int × Int) × TransM))) : GivesNone 246 #[.pointer (some ⟨Bm, 0, none⟩)] w := fun l J W hW hJ _ h0 =>
  iterT_none W l Bm J hJ ((hW.cell (p := ⟨Bm, 0, none⟩) (World.block_lt_of_cell? w _ hm)).trans hm) (h.keep (hW.block b h.lt)) h0
set_option maxHeartbeats 1000000 in
theorem keysT_calls (W : World) (mb : Option Nat) : Calls Tryz.prog 196 #[.map mb] W fun e w' => e = .returned (.func (.func 246) #[] #[.pointer (some ⟨W.heap.size, 0, none⟩)]) ∧ w' = W.alloc (.cells #[.map mb] 181) := by
  go_enter Tryz.func196, Tryz.ntmps196
  go_wp2_with fail
  go_ret
  exact ⟨rfl, rfl⟩
end

section
variable {w : World} {b : Nat}
set_option maxRecDepth 100000 in
set_option maxHeartbeats 1000000 in
theorem iterA_none (W : World) (l Bm : Nat) (J : List (List UInt8) → World → Prop) (hJ : AbidesFrom W.heap.size J) (hm : W.cell? ⟨Bm, 0, none⟩ = some (.map (some b))) (h : MapIs W Tryz.prog 191 (whichK) boolE b ([] : List ((Int × Int) × Bool))) (h0 : J [] W) :
    CallsIn Fence.wide 2 Tryz.prog 199 #[.func (.yield l) #[] #[], .pointer (some ⟨Bm, 0, none⟩)] W fun e W' => (∃ v, e = .returned v) ∧ ∃ ss : List (List UInt8), ss = [] ∧ J ss W' := by
  obtain ⟨w1, hrg, hR, hg, hsz⟩ := h.range whichKeyed Tryz.underlying182
  have hnx : ∀ ty, (Instr.next (.pointer (some ⟨W.heap.size, 0, none⟩)) false ty).run Tryz.prog w1 = .ok (.tuple #[.bool false]) w1 := fun ty => by
    rcases hR.next whichKeyed ty with ⟨-, h⟩ | ⟨p, _, _, hp, hpL, _⟩
    · exact h
    · cases hpL
  refine callsIn_of_wp Tryz.func199 rfl trivial ?_ rfl
  simp only [Tryz.ntmps199, List.size_toArray, List.length_cons, List.length_nil, Nat.reduceAdd, Nat.reduceSub, Array.replicate_succ, Array.replicate_zero, List.push_toArray, List.append_toArray, List.nil_append, List.cons_append]
  gi_wp2
  refine wpIn_loop_rounds 1 ?_
  rw [roundsIn_succ]
  gi_wp2
  go_end0
  exact ⟨⟨_, rfl⟩, [], rfl, hJ [] W _ none h0 hg (fun r e => by cases e)⟩
theorem givesA_none {Bm : Nat} (hm : w.cell? ⟨Bm, 0, none⟩ = some (.map (some b))) (h : MapIs w Tryz.prog 191 (whichK) boolE b ([] : List ((Int × Int) × Bool))) : GivesNone 199 #[.pointer (some ⟨Bm, 0, none⟩)] w := fun l J W hW hJ _ h0 =>
  iterA_none W l Bm J hJ ((hW.cell (p := ⟨Bm, 0, none⟩) (World.block_lt_of_cell? w _ hm)).trans hm) (h.keep (hW.block b h.lt)) h0
set_option maxHeartbeats 1000000 in
theorem keysA_calls (W : World) (mb : Option Nat) : Calls Tryz.prog 135 #[.map mb] W fun e w' => e = .returned (.func (.func 199) #[] #[.pointer (some ⟨W.heap.size, 0, none⟩)]) ∧ w' = W.alloc (.cells #[.map mb] 182) := by
  go_enter Tryz.func135, Tryz.ntmps135
  go_wp2_with fail
  go_ret
  exact ⟨rfl, rfl⟩
end

set_option maxRecDepth 100000 in
set_option maxHeartbeats 2000000 in
theorem appendI_none (w : World) (g : Nat) (lb : Array Value) (_ : Fence.wide.fn g) (eg : ∀ args w, (callFunc g args).run Tryz.prog w = .ok (.enter g args) w) (hseq : GivesNone g lb w) :
    CallsIn Fence.wide 3 Tryz.prog 243 #[.slice none 0 0, .func (.func g) #[] lb] w fun e w' => e = .returned (.slice none 0 0) ∧ Below w.heap.size w w' := by
  refine callsIn_of_wp_marks Tryz.func243 rfl trivial ?_ rfl
  simp only [Tryz.ntmps243, List.size_toArray, List.length_cons, List.length_nil, Nat.reduceAdd, Nat.reduceSub, Array.replicate_succ, Array.replicate_zero, List.push_toArray, List.append_toArray, List.nil_append, List.cons_append]
  gi_wp2
  have hb0 := box_below w (.cells #[.slice none 0 0] 203)
  refine wpIn_rangeNone (by decide) rfl eg (SeqGives.later hseq hb0) ?_
  intro W hbW hD
  have hv : W.heap[w.heap.size]? = some (.cells #[.slice none 0 0] 203 (0, 0)) := (hbW.block w.heap.size (by simp)).trans (new_block w _)
  have hc : W.cell? ⟨w.heap.size, 0, none⟩ = some (.slice none 0 0) := cell_of hv rfl
  gi_wp2
  refine ⟨by simp, .inl ⟨_, _, rfl, run_takeDeferred hD, ?_⟩⟩
  have hbb := hb0.trans (hbW.mono hb0.size)
  exact ⟨_, results_tmp rfl _ _ _, rfl, hbb.grown (grownBy_putObj_a _ _ _) hbb.size (fun k e => by cases e; simp)⟩

set_option maxHeartbeats 2000000 in
theorem collectI_none (w : World) (g : Nat) (lb : Array Value) (eg : ∀ args w, (callFunc g args).run Tryz.prog w = .ok (.enter g args) w) (hseq : GivesNone g lb w) :
    Calls Tryz.prog 192 #[.func (.func g) #[] lb] w (NilR w) := by
  have HA := Lib.hid ((callsIn_wide (n := 3)).1 (appendI_none w g lb trivial eg hseq))
  clear hseq eg
  go_enter Tryz.func192, Tryz.ntmps192
  go_wp2_with fail
  refine HA.out.mono ?_
  rintro e w' ⟨rfl, hb⟩
  have HB := Lib.hid hb
  clear hb
  go_wp2_with fail
  go_ret
  exact ⟨rfl, HB.out⟩

set_option maxRecDepth 100000 in
set_option maxHeartbeats 2000000 in
theorem appendW_none (w : World) (g : Nat) (lb : Array Value) (_ : Fence.wide.fn g) (eg : ∀ args w, (callFunc g args).run Tryz.prog w = .ok (.enter g args) w) (hseq : GivesNone g lb w) :
    CallsIn Fence.wide 3 Tryz.prog 247 #[.slice none 0 0, .func (.func g) #[] lb] w fun e w' => e = .returned (.slice none 0 0) ∧ Below w.heap.size w w' := by
  refine callsIn_of_wp_marks Tryz.func247 rfl trivial ?_ rfl
  simp only [Tryz.ntmps247, List.size_toArray, List.length_cons, List.length_nil, Nat.reduceAdd, Nat.reduceSub, Array.replicate_succ, Array.replicate_zero, List.push_toArray, List.append_toArray, List.nil_append, List.cons_append]
  gi_wp2
  have hb0 := box_below w (.cells #[.slice none 0 0] 214)
  refine wpIn_rangeNone (by decide) rfl eg (SeqGives.later hseq hb0) ?_
  intro W hbW hD
  have hv : W.heap[w.heap.size]? = some (.cells #[.slice none 0 0] 214 (0, 0)) := (hbW.block w.heap.size (by simp)).trans (new_block w _)
  have hc : W.cell? ⟨w.heap.size, 0, none⟩ = some (.slice none 0 0) := cell_of hv rfl
  gi_wp2
  refine ⟨by simp, .inl ⟨_, _, rfl, run_takeDeferred hD, ?_⟩⟩
  have hbb := hb0.trans (hbW.mono hb0.size)
  exact ⟨_, results_tmp rfl _ _ _, rfl, hbb.grown (grownBy_putObj_a _ _ _) hbb.size (fun k e => by cases e; simp)⟩

set_option maxHeartbeats 2000000 in
theorem collectW_none (w : World) (g : Nat) (lb : Array Value) (eg : ∀ args w, (callFunc g args).run Tryz.prog w = .ok (.enter g args) w) (hseq : GivesNone g lb w) :
    Calls Tryz.prog 197 #[.func (.func g) #[] lb] w (NilR w) := by
  have HA := Lib.hid ((callsIn_wide (n := 3)).1 (appendW_none w g lb trivial eg hseq))
  clear hseq eg
  go_enter Tryz.func197, Tryz.ntmps197
  go_wp2_with fail
  refine HA.out.mono ?_
  rintro e w' ⟨rfl, hb⟩
  have HB := Lib.hid hb
  clear hb
  go_wp2_with fail
  go_ret
  exact ⟨rfl, HB.out⟩

set_option maxHeartbeats 2000000 in
theorem sortedI_none (w : World) (g : Nat) (lb : Array Value) (eg : ∀ args w, (callFunc g args).run Tryz.prog w = .ok (.enter g args) w) (hseq : GivesNone g lb w) :
    Calls Tryz.prog 130 #[.func (.func g) #[] lb] w (NilR w) := by
  have HA := Lib.hid (collectI_none w g lb eg hseq)
  have HS := Lib.hid (fun W => Tryz.slices_Sort_int_none none 0 W)
  clear hseq eg
  go_enter Tryz.func130, Tryz.ntmps130
  go_wp2_with fail
  refine HA.out.mono ?_
  rintro e w' ⟨rfl, hb⟩
  have HB := Lib.hid hb
  clear hb
  go_wp2_with fail
  refine (HS.out _).mono ?_
  rintro e w3 ⟨rfl, rfl⟩
  go_wp2_with fail
  go_ret
  exact ⟨rfl, HB.out⟩
set_option maxHeartbeats 2000000 in
theorem insertW_none (w : World) (fv : Value) :
    Calls Tryz.prog 312 #[.slice none 0 0, .int .i64 0, .int .i64 0, fv] w fun e w' => e = .returned (.tuple #[]) ∧ w' = w := by
  go_enter Tryz.func312, Tryz.ntmps312
  go_wp2_with fail
  refine wp_loop_rounds 1 ?_
  rw [rounds_succ]
  go_wp2_with fail
  go_end0
  exact ⟨rfl, rfl⟩
set_option maxHeartbeats 4000000 in
theorem pdqW_none (w : World) (fv : Value) :
    Calls Tryz.prog 248 #[.slice none 0 0, .int .i64 0, .int .i64 0, .int .i64 0, fv] w fun e w' => e = .returned (.tuple #[]) ∧ w' = w := by
  have HI := Lib.hid (fun W => insertW_none W fv)
  go_enter Tryz.func248, Tryz.ntmps248
  go_wp2_with fail
  refine wp_loop_rounds 1 ?_
  rw [rounds_succ]
  go_wp2_with fail
  refine (HI.out _).mono ?_
  rintro e w3 ⟨rfl, rfl⟩
  go_wp2_with fail
  (try simp only [Exit.inBlock, Exit.then])
  refine bodyPost_ret (results_none rfl _ _ _) rfl ?_
  exact ⟨rfl, rfl⟩
set_option maxHeartbeats 4000000 in
theorem sortFW_none (w : World) (fv : Value) :
    Calls Tryz.prog 198 #[.slice none 0 0, fv] w fun e w' => e = .returned (.tuple #[]) ∧ w' = w := by
  have HI := Lib.hid (fun W => pdqW_none W fv)
  have HL := Lib.hid (fun W => Tryz.bits_Len 0 W (by decide) (by decide))
  go_enter Tryz.func198, Tryz.ntmps198
  go_wp2_with fail
  refine (HL.out _).mono ?_
  rintro e w3 ⟨rfl, rfl⟩
  rw [show Lib.bitLen (Int.toNat 0) = 0 from rfl]
  go_wp2_with fail
  refine (HI.out _).mono ?_
  rintro e w3 ⟨rfl, rfl⟩
  go_wp2_with fail
  go_end0
  exact ⟨rfl, rfl⟩
set_option maxHeartbeats 2000000 in
theorem sortedW_none (w : World) (g : Nat) (lb : Array Value) (fv : Value) (eg : ∀ args w, (callFunc g args).run Tryz.prog w = .ok (.enter g args) w) (hseq : GivesNone g lb w) :
    Calls Tryz.prog 134 #[.func (.func g) #[] lb, fv] w (NilR w) := by
  have HA := Lib.hid (collectW_none w g lb eg hseq)
  have HS := Lib.hid (fun W => sortFW_none W fv)
  clear hseq eg
  go_enter Tryz.func134, Tryz.ntmps134
  go_wp2_with fail
  refine HA.out.mono ?_
  rintro e w' ⟨rfl, hb⟩
  have HB := Lib.hid hb
  clear hb
  go_wp2_with fail
  refine (HS.out _).mono ?_
  rintro e w3 ⟨rfl, rfl⟩
  go_wp2_with fail
  go_ret
  exact ⟨rfl, HB.out⟩
theorem nilR_box {w : World} {o : Obj} {e : Ending} {w' : World} (h : NilR (w.alloc o) e w') : NilR w e w' := ⟨h.1, (box_below w o).trans (h.2.mono (box_below w o).size)⟩
theorem box_map (w : World) (b : Nat) (t : TypeId) : (w.alloc (.cells #[.map (some b)] t)).cell? ⟨w.heap.size, 0, none⟩ = some (.map (some b)) := cell_of (new_block w _) rfl

theorem sortedS_none {w : World} {b : Nat} (h : MapIs w Tryz.prog 3 (intK Tryz.underlying3) sessE b ([] : List (Int × Sess))) :
    Calls Tryz.prog 130 #[.func (.func 194) #[] #[.pointer (some ⟨w.heap.size, 0, none⟩)]] (w.alloc (.cells #[.map (some b)] 180)) (NilR w) :=
  (sortedI_none _ _ _ (enters_of Tryz.func194 (by kernel_rfl) rfl) (givesS_none (box_map w b _) (h.keep ((box_below w _).block b h.lt)))).mono fun _ _ h => nilR_box h

theorem sortedT_none {w : World} {b : Nat} (h : MapIs w Tryz.prog 191 (whichK) transE b ([] : List ((Int × Int) × TransM))) :
    Calls Tryz.prog 134 #[.func (.func 246) #[] #[.pointer (some ⟨w.heap.size, 0, none⟩)], .func (.func 136) #[] #[]] (w.alloc (.cells #[.map (some b)] 181)) (NilR w) :=
  (sortedW_none _ _ _ _ (enters_of Tryz.func246 (by kernel_rfl) rfl) (givesT_none (box_map w b _) (h.keep ((box_below w _).block b h.lt)))).mono fun _ _ h => nilR_box h

theorem sortedA_none {w : World} {b : Nat} (h : MapIs w Tryz.prog 191 (whichK) boolE b ([] : List ((Int × Int) × Bool))) :
    Calls Tryz.prog 134 #[.func (.func 199) #[] #[.pointer (some ⟨w.heap.size, 0, none⟩)], .func (.func 136) #[] #[]] (w.alloc (.cells #[.map (some b)] 182)) (NilR w) :=
  (sortedW_none _ _ _ _ (enters_of Tryz.func199 (by kernel_rfl) rfl) (givesA_none (box_map w b _) (h.keep ((box_below w _).block b h.lt)))).mono fun _ _ h => nilR_box h
end Go.Proofs.YtogdfkilhpkloaaGreatDoor

namespace Go.Proofs.YtogdfkilhpkloaaGreatDoor
open Go.RowKit Go.Sat Go.Maps

section
variable {w w' : World} {eb vm sm tm am : Nat} {E : EcoR} {own : Nat → Option (Nat × Bs)}
/-- The map of vaults has one more. -/
theorem EconIn.fresh (h : EconIn w eb vm sm tm am E own) {n : Bs} {r : VRep} (hv : VaultIn w' r.vb r.pm r.bb r.V) (hm : VsIs w' vm (kput n r E.vs))
    (hf : ∀ k, k = r.vb ∨ k = r.pm ∨ k = r.bb → w.heap.size ≤ k) (hc : Chg (fun k => k = vm) w w') :
    ∃ own', EconIn w' eb vm sm tm am { E with vs := kput n r E.vs } own' ∧ ∀ k, k < w.heap.size → own' k = own k := by
  have hk : ∀ k, own k ≠ none → k ≠ vm → w'.heap[k]? = w.heap[k]? := fun k hk hne => hc.block k (h.oLt k hk) hne
  have hne : ∀ {k : Nat} {t : Nat} {x : Bs}, own k = some (t, x) → t ≠ 1 → k ≠ vm := fun {k t x} e ht e2 => by
    rw [e2, h.oV] at e
    cases e
    exact ht rfl
  have hold : ∀ k, k < w.heap.size → (if k = r.vb then some (5, n) else if k = r.pm then some (6, n) else if k = r.bb then some (7, n) else own k) = own k := fun k hk => by
    have e1 := hf r.vb (.inl rfl)
    have e2 := hf r.pm (.inr (.inl rfl))
    have e3 := hf r.bb (.inr (.inr rfl))
    rw [if_neg (by omega), if_neg (by omega), if_neg (by omega)]
  have ho : ∀ {k : Nat} {x : Nat × Bs}, own k = some x → (if k = r.vb then some (5, n) else if k = r.pm then some (6, n) else if k = r.bb then some (7, n) else own k) = some x := fun {k x} e => (hold k (h.oLt k (by rw [e]; simp))).trans e
  refine ⟨fun k => if k = r.vb then some (5, n) else if k = r.pm then some (6, n) else if k = r.bb then some (7, n) else own k, ⟨(hk eb (by rw [h.oE]; simp) (hne h.oE (by decide))).trans h.cells, hm, fun p hp => ?_, h.sess.keep (hk sm (by rw [h.oS]; simp) (hne h.oS (by decide))), h.trans.keep (hk tm (by rw [h.oT]; simp) (hne h.oT (by decide))), h.arr.keep (hk am (by rw [h.oA]; simp) (hne h.oA (by decide))), ho h.oE, ho h.oV, ho h.oS, ho h.oT, ho h.oA, fun p hp => ?_, fun k hkk => ?_⟩, hold⟩
  · rcases k_mem_put.1 hp with rfl | ⟨h1, h2⟩
    · exact hv
    · obtain ⟨q1, q2, q3⟩ := h.oP p h1
      refine (h.each p h1).keep fun k hkk => ?_
      rcases hkk with rfl | rfl | rfl
      · exact hk _ (by rw [q1]; simp) (hne q1 (by decide))
      · exact hk _ (by rw [q2]; simp) (hne q2 (by decide))
      · exact hk _ (by rw [q3]; simp) (hne q3 (by decide))
  · rcases k_mem_put.1 hp with rfl | ⟨h1, h2⟩
    · refine ⟨if_pos rfl, ?_, ?_⟩
      · show (if r.pm = r.vb then _ else _) = _
        rw [if_neg (Ne.symm hv.n1), if_pos rfl]
      · show (if r.bb = r.vb then _ else _) = _
        rw [if_neg (Ne.symm hv.n2), if_neg (Ne.symm hv.n3), if_pos rfl]
    · obtain ⟨q1, q2, q3⟩ := h.oP p h1
      exact ⟨ho q1, ho q2, ho q3⟩
  · have hkk' : (if k = r.vb then some (5, n) else if k = r.pm then some (6, n) else if k = r.bb then some (7, n) else own k) ≠ none := hkk
    by_cases e1 : k = r.vb
    · exact hv.lt (.inl e1)
    by_cases e2 : k = r.pm
    · exact hv.lt (.inr (.inl e2))
    by_cases e3 : k = r.bb
    · exact hv.lt (.inr (.inr e3))
    rw [if_neg e1, if_neg e2, if_neg e3] at hkk'
    exact Nat.lt_of_lt_of_le (h.oLt k hkk') hc.size
/-- The map of vaults has one less. -/
theorem EconIn.less (h : EconIn w eb vm sm tm am E own) {n : Bs} (hm : VsIs w' vm (kdel n E.vs)) (hc : Chg (fun k => k = vm) w w') : EconIn w' eb vm sm tm am { E with vs := kdel n E.vs } own := by
  have hk : ∀ k, own k ≠ none → k ≠ vm → w'.heap[k]? = w.heap[k]? := fun k hk hne => hc.block k (h.oLt k hk) hne
  have hne : ∀ {k : Nat} {t : Nat} {x : Bs}, own k = some (t, x) → t ≠ 1 → k ≠ vm := fun {k t x} e ht e2 => by
    rw [e2, h.oV] at e
    cases e
    exact ht rfl
  refine ⟨(hk eb (by rw [h.oE]; simp) (hne h.oE (by decide))).trans h.cells, hm, fun p hp => ?_, h.sess.keep (hk sm (by rw [h.oS]; simp) (hne h.oS (by decide))), h.trans.keep (hk tm (by rw [h.oT]; simp) (hne h.oT (by decide))), h.arr.keep (hk am (by rw [h.oA]; simp) (hne h.oA (by decide))), h.oE, h.oV, h.oS, h.oT, h.oA, fun p hp => h.oP p (k_mem_del.1 hp).1, fun k hkk => Nat.lt_of_lt_of_le (h.oLt k hkk) hc.size⟩
  obtain ⟨h1, h2⟩ := k_mem_del.1 hp
  obtain ⟨q1, q2, q3⟩ := h.oP p h1
  refine (h.each p h1).keep fun k hkk => ?_
  rcases hkk with rfl | rfl | rfl
  · exact hk _ (by rw [q1]; simp) (hne q1 (by decide))
  · exact hk _ (by rw [q2]; simp) (hne q2 (by decide))
  · exact hk _ (by rw [q3]; simp) (hne q3 (by decide))
/-- What was said has changed. -/
theorem EconIn.said (h : EconIn w eb vm sm tm am E own) {ss : List (Int × Sess)} (hm : MapIs w' Tryz.prog 3 (intK Tryz.underlying3) sessE sm ss) (hc : Chg (fun k => k = sm) w w') : EconIn w' eb vm sm tm am { E with ss := ss } own := by
  have hk : ∀ k, own k ≠ none → k ≠ sm → w'.heap[k]? = w.heap[k]? := fun k hk hne => hc.block k (h.oLt k hk) hne
  have hne : ∀ {k : Nat} {t : Nat} {x : Bs}, own k = some (t, x) → t ≠ 2 → k ≠ sm := fun {k t x} e ht e2 => by
    rw [e2, h.oS] at e
    cases e
    exact ht rfl
  refine ⟨(hk eb (by rw [h.oE]; simp) (hne h.oE (by decide))).trans h.cells, h.vaults.keep (hk vm (by rw [h.oV]; simp) (hne h.oV (by decide))), fun p hp => ?_, hm, h.trans.keep (hk tm (by rw [h.oT]; simp) (hne h.oT (by decide))), h.arr.keep (hk am (by rw [h.oA]; simp) (hne h.oA (by decide))), h.oE, h.oV, h.oS, h.oT, h.oA, h.oP, fun k hkk => Nat.lt_of_lt_of_le (h.oLt k hkk) hc.size⟩
  obtain ⟨q1, q2, q3⟩ := h.oP p hp
  refine (h.each p hp).keep fun k hkk => ?_
  rcases hkk with rfl | rfl | rfl
  · exact hk _ (by rw [q1]; simp) (hne q1 (by decide))
  · exact hk _ (by rw [q2]; simp) (hne q2 (by decide))
  · exact hk _ (by rw [q3]; simp) (hne q3 (by decide))
end
end Go.Proofs.YtogdfkilhpkloaaGreatDoor

namespace Go.Sat
open Go.RowKit
theorem HasB.at {w : World} {v : Value} {l : Bs} (h : HasB w v l) : l = [] ∨ ∃ b o c, v = .slice (some ⟨b, o, none⟩) l.length c ∧ ∀ i x, l[i]? = some x → w.cell? ⟨b, o + i, none⟩ = some (.int .u8 (x.toNat : Int)) := by
  obtain ⟨p, c, rfl, h0, hc⟩ := h.kit
  cases p with
  | none => exact .inl (h0 rfl)
  | some a =>
    cases l with
    | nil => exact .inl rfl
    | cons x r =>
      obtain ⟨b, o, sp⟩ := a
      have h1 := hc _ rfl 0 x (by simp)
      have hsp : sp = none := by
        have := World.cell?_spot h1
        simpa [Addr.add] using this
      subst hsp
      refine .inr ⟨b, o, c, rfl, fun i y hy => ?_⟩
      have h2 := hc _ rfl i y hy
      have e : (⟨b, o, none⟩ : Addr).add i = ⟨b, o + i, none⟩ := by unfold Addr.add; split <;> simp_all
      rw [← e]
      exact h2
end Go.Sat

namespace Go.Proofs.YtogdfkilhpkloaaGreatDoor
open Go.RowKit Go.Sat Go.Maps

end Go.Proofs.YtogdfkilhpkloaaGreatDoor

namespace Go.Proofs.YtogdfkilhpkloaaGreatDoor
open Go.RowKit Go.Sat Go.Maps

def sA : ByteArray := ⟨#[97]⟩
def b5 : Bs := [49, 50, 51, 52, 53]
def b3 : Bs := [54, 55, 56]
def b6 : Bs := [49, 50, 51, 52, 53, 54]
def K0 : DiskM := DiskM.fresh 100
def K1 : DiskM := (K0.append [97] b5).1
def K2 : DiskM := (K1.sync [[97]]).1
def K3 : DiskM := (K2.append [97] b3).1

theorem k1 : (K0.append (nm sA) [b5].flatten) = (K1, 0) := by rfl
theorem k2 : (K1.sync ([sA].map nm)) = (K2, 0) := by rfl
theorem k3 : (K2.append (nm sA) [b3].flatten) = (K3, 0) := by rfl
theorem k4 : Sat.get (nm sA) (K3.crash 1).files = some ⟨b6, 6⟩ := by rfl

end Go.Proofs.YtogdfkilhpkloaaGreatDoor

namespace Go.Sat
open Go.RowKit
theorem Holds.cut {w : World} {p : Option Addr} {n c : Nat} {xs : List Value} (h : Holds w 1 (.slice p n c) n xs) {k : Nat} (hk : k ≤ n) (c' : Nat) : Holds w 1 (.slice p k c') k (xs.take k) := by
  obtain ⟨hl, p', cap, e, h0, hc⟩ := h
  cases e
  refine ⟨by rw [List.length_take]; omega, p, c', rfl, fun e => ?_, fun a ha i u hu => hc a ha i u ?_⟩
  · have := h0 e
    omega
  · rw [List.getElem?_take] at hu
    split at hu
    · exact hu
    · cases hu

theorem HasB.cut {w : World} {p : Option Addr} {n c : Nat} {l : Bs} (h : HasB w (.slice p n c) l) {k : Nat} (hk : k ≤ l.length) (c' : Nat) : HasB w (.slice p k c') (l.take k) := by
  obtain ⟨p', c2, e⟩ := h.slice
  cases e
  unfold HasB at h ⊢
  have e1 : (l.take k).length = k := by rw [List.length_take]; omega
  rw [e1, bytesV_take]
  exact Holds.cut h hk c'

/-- 'x[:k]'. -/
theorem run_upto {P : Program} (w : World) {t e : TypeId} {i : TypeInfo} (ht : P.underlying t = some (.slice e)) (hi : P.info? e = some i) (a : Option Addr) (len cap k : Nat) (h : k ≤ cap) :
    (Instr.slice t (.slice a len cap) none (some (.int .i64 (k : Int))) none).run P w = .ok (.slice a k cap) w := by
  have h1 : (Instr.sliceBound (.int .i64 (k : Int)) cap .sliceAcap).run P w = .ok k w := by
    rw [run_sliceBound _ _ _ _ _ (by omega) (by omega)]
    simp
  have h3 : (if cap = 0 then a else a.map fun x => x.add (0 * i.size)) = a := by
    split
    · rfl
    · cases a <;> simp [Addr.add]
  simp only [Nat.zero_mul] at h3
  simp [Instr.slice, run_underlying ht, Instr.sliceBounds, h1, sizeOf, typeInfo, hi, Result.andThen, h3]

theorem OwnB.shape {w : World} {e : TypeId} {v : Value} {l : Bs} (h : OwnB w e v l) : v = .slice none 0 0 ∨ ∃ g c, v = .slice (some ⟨g, 0, none⟩) l.length c := by
  rcases h.2 with ⟨rfl, _⟩ | ⟨g, cap, cur, rfl, _⟩
  · exact .inl rfl
  · exact .inr ⟨g, cap, rfl⟩
end Go.Sat

namespace Go.Proofs.YtogdfkilhpkloaaGreatDoor
open Go.RowKit Go.Sat Go.Maps

/-- How a row of a list of rows is met. -/
theorem RowsAt.row {w : World} {p : Option Addr} {n c : Nat} {ls : List Bs} (h : RowsAt w (.slice p n c) ls) {k : Nat} (hk : k < ls.length) :
    n = ls.length ∧ ∃ b o v, p = some ⟨b, o, none⟩ ∧ w.cell? ⟨b, o + k, none⟩ = some v ∧ HasB w v ls[k] := by
  obtain ⟨p', c', e, hc, hP⟩ := h
  cases e
  have hne : ls ≠ [] := fun e => by rw [e] at hk; simp at hk
  obtain ⟨b, o, vs, rfl, h1, h2, h3⟩ := hP hne
  have hkv : k < vs.length := by rw [h1]; exact hk
  have e1 : (⟨b, o, none⟩ : Addr).add k = ⟨b, o + k, none⟩ := by unfold Addr.add; split <;> simp_all
  refine ⟨rfl, b, o, vs[k], rfl, ?_, HasB.of_kit (h3 k _ _ (List.getElem?_eq_getElem hkv) (List.getElem?_eq_getElem hk))⟩
  rw [← e1]
  exact h2 k _ (List.getElem?_eq_getElem hkv)

theorem RowsAt.len {w : World} {p : Option Addr} {n c : Nat} {ls : List Bs} (h : RowsAt w (.slice p n c) ls) : n = ls.length := by
  obtain ⟨p', c', e, _⟩ := h
  cases e
  rfl

/-! ### The disk behind k rounds -/
theorem flat_take {ls : List Bs} {k : Nat} (hk : k < ls.length) : (ls.take (k + 1)).flatten = (ls.take k).flatten ++ ls[k] := by
  rw [List.take_succ_eq_append_getElem hk, List.flatten_append]
  simp

theorem flat_take_le (ls : List Bs) (k : Nat) : (ls.take k).flatten.length ≤ ls.flatten.length := by
  conv => rhs; rw [← List.take_append_drop k ls, List.flatten_append, List.length_append]
  omega

end Go.Proofs.YtogdfkilhpkloaaGreatDoor

namespace Go.Proofs.YtogdfkilhpkloaaGreatDoor
open Go.RowKit Go.Sat Go.Maps

/-- One bit of the check sum; one byte; bytes. -/
def bitF (z : Int) : Int := bits .xor .u32 (z / 2) (bits .and .u32 3988292384 (-bits .and .u32 z 1 % 4294967296))
def iterF : Nat → Int → Int
  | 0, z => z
  | k + 1, z => bitF (iterF k z)
def byteF (v : Int) (c : UInt8) : Int := iterF 8 (bits .xor .u32 v (c.toNat : Int))
def rowF (v : Int) (l : Bs) : Int := l.foldl byteF v
def rowsF (ls : List Bs) : Int := ls.foldl rowF 4294967295

theorem rowF_take (v : Int) (l : Bs) {j : Nat} (hj : j < l.length) : rowF v (l.take (j + 1)) = byteF (rowF v (l.take j)) l[j] := by
  rw [List.take_succ_eq_append_getElem hj]
  simp only [rowF, List.foldl_append, List.foldl_cons, List.foldl_nil]

theorem rowsF_take (ls : List Bs) {k : Nat} (hk : k < ls.length) : rowsF (ls.take (k + 1)) = rowF (rowsF (ls.take k)) ls[k] := by
  rw [List.take_succ_eq_append_getElem hk]
  simp only [rowsF, List.foldl_append, List.foldl_cons, List.foldl_nil]

theorem rowsF_flat (ls : List Bs) : rowsF ls = rowF 4294967295 ls.flatten := by
  unfold rowsF rowF
  rw [List.foldl_flatten]

def sumF (l : Bs) : Int := bits .xor .u32 IntKind.u32.max (rowF 4294967295 l)

set_option maxRecDepth 100000 in
set_option maxHeartbeats 4000000 in
theorem sum_calls {w : World} {p : Option Addr} {n c : Nat} {ls : List Bs} (hx : RowsAt w (.slice p n c) ls) (hn : n ≤ 140737488355328) (hrow : ∀ l ∈ ls, l.length ≤ 140737488355328) :
    Calls Tryz.prog 177 #[.slice p n c] w (fun e w' => e = .returned (.int .u32 (sumF ls.flatten)) ∧ w' = w) := by
  have hnl := RowsAt.len hx
  have Hx := Lib.hid hx
  have Hrow := Lib.hid hrow
  have Hnl := Lib.hid hnl
  clear hx hrow hnl
  go_enter Tryz.func177, Tryz.ntmps177
  go_wp2_with fail
  go_loop [3, 10] (fun v i => ∃ k : Nat, k ≤ n ∧ i = .int .i64 k ∧ v = .int .u32 (rowsF (ls.take k))) (fun _ i => n - (intOf i).toNat)
  case atStart => exact ⟨0, Nat.zero_le _, rfl, rfl⟩
  case round =>
    obtain ⟨k, hk, rfl, rfl⟩ := hrel
    by_cases hlt : k < n
    · have hltl : k < ls.length := by rw [← Hnl.out]; exact hlt
      have Hrw := Lib.hid (rowsF_take ls hltl)
      obtain ⟨-, b, o, v, rfl, hcell, hv⟩ := RowsAt.row Hx.out hltl
      have hrl := Hrow.out _ (List.getElem_mem hltl)
      generalize hl : ls[k] = l at *
      have Hat := Lib.hid hv.at
      obtain ⟨pv, cv, rfl⟩ := hv.slice
      generalize hm : l.length = m at *
      generalize rowsF (ls.take k) = x at *
      have Hm := Lib.hid hm
      clear hv hm hl
      go_wp2_with fail
      go_loop [3, 16] (fun v i => ∃ j : Nat, j ≤ m ∧ i = .int .i64 j ∧ v = .int .u32 (rowF x (l.take j))) (fun _ i => m - (intOf i).toNat)
      case atStart => exact ⟨0, Nat.zero_le _, rfl, rfl⟩
      case round =>
        obtain ⟨j, hj, rfl, rfl⟩ := hrel
        by_cases hlj : j < m
        · have hljl : j < l.length := by rw [Hm.out]; exact hlj
          have Hbt := Lib.hid (rowF_take x l hljl)
          rcases Hat.out with h | ⟨b2, o2, c2, e1, hcx⟩
          · rw [h] at hljl
            simp at hljl
          cases e1
          have hcb := hcx j _ (List.getElem?_eq_getElem hljl)
          generalize l[j] = cc at *
          generalize rowF x (l.take j) = y at *
          have hcc : cc.toNat < 256 := cc.toNat_lt
          clear hcx
          go_wp2_with fail
          have HB := Lib.hid (show byteF y cc = iterF 8 (bits .xor .u32 y (cc.toNat : Int)) from rfl)
          generalize bits .xor .u32 y (cc.toNat : Int) = z0 at *
          go_loop [3, 24] (fun v i => ∃ q : Nat, q ≤ 8 ∧ i = .int .i64 q ∧ v = .int .u32 (iterF q z0)) (fun _ i => 8 - (intOf i).toNat)
          case atStart => exact ⟨0, Nat.zero_le _, rfl, rfl⟩
          case round =>
            obtain ⟨q, hq, rfl, rfl⟩ := hrel
            by_cases hlq : q < 8
            · have Hit := Lib.hid (show iterF (q + 1) z0 = bitF (iterF q z0) from rfl)
              generalize iterF q z0 = z at *
              go_wp2_with fail
              go_round
              case rel => exact ⟨q + 1, by omega, by go_num, by rw [Hit.out]; rfl⟩
              case measure => simp [intOf]; omega
            · have hq8 : q = 8 := by omega
              subst hq8
              go_wp2_with fail
              go_round
              case rel => exact ⟨j + 1, by omega, by go_num, by rw [Hbt.out, HB.out]⟩
              case measure => simp [intOf]; omega
        · have hjm : j = m := by omega
          have hlk : l.take j = l := List.take_of_length_le (by rw [Hm.out]; omega)
          rw [hlk]
          clear hlk
          go_wp2_with fail
          go_round
          case rel => exact ⟨k + 1, by omega, by go_num, by rw [Hrw.out]⟩
          case measure => simp [intOf]; omega
    · have hlk : ls.take k = ls := List.take_of_length_le (by have := Hnl.out; omega)
      rw [hlk]
      clear hlk
      have He := Lib.hid (show sumF ls.flatten = bits .xor .u32 IntKind.u32.max (rowsF ls) by rw [rowsF_flat]; rfl)
      generalize rowsF ls = x at *
      go_wp2_with fail
      go_ret
      exact ⟨by rw [He.out]; rfl, rfl⟩
end Go.Proofs.YtogdfkilhpkloaaGreatDoor

namespace Go.Proofs.YtogdfkilhpkloaaGreatDoor
open Go.RowKit Go.Sat Go.Maps

/-- A number in four bytes. -/
def fourN (n : Nat) : Bs := [UInt8.ofNat n, UInt8.ofNat (n / 256), UInt8.ofNat (n / 65536), UInt8.ofNat (n / 16777216)]

/-- What a function hands back that lays its bytes anew. -/
def NewB (w : World) (l : Bs) (e : Ending) (w' : World) : Prop := ∃ v, e = .returned v ∧ HasB w' v l ∧ Below w.heap.size w w'

set_option maxRecDepth 100000 in
set_option maxHeartbeats 4000000 in
theorem four_calls {w : World} (v : Nat) (h1 : v < 4294967296) :
    Calls Tryz.prog 176 #[.int .u32 (v : Int)] w (NewB w (fourN v)) := by
  have hfin : NewB w (fourN v) (.returned (.slice (some ⟨w.heap.size, 0, none⟩) 4 4)) (w.alloc (.cells #[.int .u8 ((v : Int) % 256), .int .u8 ((v : Int) / 256 % 256), .int .u8 ((v : Int) / 65536 % 256), .int .u8 ((v : Int) / 16777216)] 5)) :=
    ⟨_, rfl, has_lit _ (fourN v) _ _ 4 rfl rfl (by
      simp only [fourN, bytesV, List.map_cons, List.map_nil, UInt8.toNat_ofNat']
      have e1 : (v : Int) / 16777216 = ((v / 16777216 % 256 : Nat) : Int) := by omega
      have e2 : (v : Int) % 256 = ((v % 256 : Nat) : Int) := by omega
      have e3 : (v : Int) / 256 % 256 = ((v / 256 % 256 : Nat) : Int) := by omega
      have e4 : (v : Int) / 65536 % 256 = ((v / 65536 % 256 : Nat) : Int) := by omega
      rw [e1, e2, e3, e4]), (Below.refl _ _).alloc (Nat.le_refl _) _⟩
  have Hfin := Lib.hid hfin
  clear hfin
  go_enter Tryz.func176, Tryz.ntmps176
  go_wp2_with fail
  go_ret
  exact Hfin.out

theorem or_add (k a b : Nat) (h : a < 2 ^ k) : (a ||| b * 2 ^ k) = a + b * 2 ^ k := by
  have := Nat.two_pow_add_eq_or_of_lt h b
  rw [Nat.or_comm, Nat.mul_comm b, ← this, Nat.add_comm]

theorem or_four {x0 x1 x2 x3 : Nat} (l0 : x0 < 2 ^ 8) (l1 : x1 < 2 ^ 8) (l2 : x2 < 2 ^ 8) (l3 : x3 < 2 ^ 8) :
    bits .or .u32 (bits .or .u32 (bits .or .u32 (x0 : Int) ((x1 : Int) * 256)) ((x2 : Int) * 65536)) ((x3 : Int) * 16777216) = ((x0 + x1 * 256 + x2 * 65536 + x3 * 16777216 : Nat) : Int) := by
  have e1 : (x1 : Int) * 256 = ((x1 * 2 ^ 8 : Nat) : Int) := by omega
  have e2 : (x2 : Int) * 65536 = ((x2 * 2 ^ 16 : Nat) : Int) := by omega
  have e3 : (x3 : Int) * 16777216 = ((x3 * 2 ^ 24 : Nat) : Int) := by omega
  rw [e1, e2, e3, u32_or_nat _ _ (by omega) (by omega), or_add 8 x0 x1 (by omega), u32_or_nat _ _ (by omega) (by omega), or_add 16 _ x2 (by omega), u32_or_nat _ _ (by omega) (by omega), or_add 24 _ x3 (by omega)]

/-- The number of four bytes. -/
def ofFour (a0 a1 a2 a3 : UInt8) : Nat := a0.toNat + a1.toNat * 256 + a2.toNat * 65536 + a3.toNat * 16777216

theorem of_four (n : Nat) (h : n < 4294967296) : ofFour (UInt8.ofNat n) (UInt8.ofNat (n / 256)) (UInt8.ofNat (n / 65536)) (UInt8.ofNat (n / 16777216)) = n := by
  simp only [ofFour, UInt8.toNat_ofNat']
  omega

set_option maxRecDepth 100000 in
set_option maxHeartbeats 4000000 in
theorem fromFour_calls {w : World} {b o n c : Nat} {a0 a1 a2 a3 : UInt8} (hn : 4 ≤ n) (h0 : w.cell? ⟨b, o, none⟩ = some (.int .u8 (a0.toNat : Int))) (h1 : w.cell? ⟨b, o + 1, none⟩ = some (.int .u8 (a1.toNat : Int)))
    (h2 : w.cell? ⟨b, o + 2, none⟩ = some (.int .u8 (a2.toNat : Int))) (h3 : w.cell? ⟨b, o + 3, none⟩ = some (.int .u8 (a3.toNat : Int))) :
    Calls Tryz.prog 284 #[.slice (some ⟨b, o, none⟩) n c] w (fun e w' => e = .returned (.int .u32 (ofFour a0 a1 a2 a3 : Int)) ∧ ∃ q, w' = w.drewN q) := by
  have l0 := a0.toNat_lt
  have l1 := a1.toNat_lt
  have l2 := a2.toNat_lt
  have l3 := a3.toNat_lt
  have i0 : (0 : Int) < (n : Int) := by omega
  have i1 : (1 : Int) < (n : Int) := by omega
  have i2 : (2 : Int) < (n : Int) := by omega
  have i3 : (3 : Int) < (n : Int) := by omega
  have hF := or_four l0 l1 l2 l3
  have HF := Lib.hid (show bits .or .u32 (bits .or .u32 (bits .or .u32 (a0.toNat : Int) ((a1.toNat : Int) * 256)) ((a2.toNat : Int) * 65536)) ((a3.toNat : Int) * 16777216) = (ofFour a0 a1 a2 a3 : Int) from hF)
  clear hF
  generalize ofFour a0 a1 a2 a3 = r at *
  generalize a0.toNat = x0 at *
  generalize a1.toNat = x1 at *
  generalize a2.toNat = x2 at *
  generalize a3.toNat = x3 at *
  go_enter Tryz.func284, Tryz.ntmps284
  go_wp2_with fail
  go_quiet (fail)
  go_wp2
  go_ret
  exact ⟨by rw [← HF.out]; rfl, _, rfl⟩
end Go.Proofs.YtogdfkilhpkloaaGreatDoor

namespace Go.Proofs.YtogdfkilhpkloaaGreatDoor
open Go.RowKit Go.Sat Go.Maps

def sumN (l : Bs) : Nat := (sumF l).toNat

theorem sumF_range (l : Bs) : 0 ≤ sumF l ∧ sumF l < 4294967296 := by
  unfold sumF bits
  rw [IntKind.wrap_u32]
  omega

theorem sumF_nat (l : Bs) : sumF l = (sumN l : Int) := by
  have := (sumF_range l).1
  unfold sumN
  omega

theorem sumN_lt (l : Bs) : sumN l < 4294967296 := by
  have := sumF_range l
  unfold sumN
  omega

/-- A list of two rows, in a new block. -/
theorem rows_two {w : World} {v1 v2 : Value} {l1 l2 : Bs} (h1 : HasB w v1 l1) (h2 : HasB w v2 l2) (e : TypeId) (fr : Nat × Nat) (g c : Nat) (hg : g = w.heap.size) (hc : 2 ≤ c) : RowsAt (w.alloc (.cells #[v1, v2] e fr)) (.slice (some ⟨g, 0, none⟩) 2 c) [l1, l2] := by
  subst hg
  refine ⟨_, c, rfl, by simpa using hc, fun _ => ⟨_, _, [v1, v2], rfl, rfl, fun i u hu => ?_, fun i u m hu hm => ?_⟩⟩
  · have e1 : (⟨w.heap.size, 0, none⟩ : Addr).add i = ⟨w.heap.size, i, none⟩ := by unfold Addr.add; split <;> simp_all
    rw [e1]
    refine cell_of (new_block w _) ?_
    simpa using hu
  · have hi : i < 2 := by
      have := (List.getElem?_eq_some_iff.1 hu).1
      simpa using this
    have : i = 0 ∨ i = 1 := by omega
    rcases this with rfl | rfl
    · simp at hu hm
      subst hu
      subst hm
      exact (has_alloc h1 _).kit
    · simp at hu hm
      subst hu
      subst hm
      exact (has_alloc h2 _).kit

theorem below_al (w : World) (o : Obj) : Below w.heap.size w (w.alloc o) := (Below.refl _ _).alloc (Nat.le_refl _) o
theorem below_to {w w1 w2 : World} (h : Below w.heap.size w w1) (k : Below w1.heap.size w1 w2) : Below w.heap.size w w2 := h.trans (k.mono h.size)

def headN (n : Nat) : Bs := fourN n ++ fourN (sumN (fourN n))

set_option maxRecDepth 100000 in
set_option maxHeartbeats 4000000 in
theorem head_calls {w : World} (n : Nat) (h : n < 4294967296) :
    Calls Tryz.prog 175 #[.int .u32 (n : Int)] w (NewB w (headN n)) := by
  have Hf := Lib.hid (fun w => four_calls (w := w) n h)
  go_enter Tryz.func175, Tryz.ntmps175
  go_wp2_with fail
  refine (Hf.out _).mono ?_
  rintro e w1 ⟨v1, rfl, hv1, hb1⟩
  have V1 := Lib.hid hv1
  have B1 := Lib.hid hb1
  clear hv1 hb1
  go_wp2_with fail
  refine (Hf.out _).mono ?_
  rintro e w2 ⟨v2, rfl, hv2, hb2⟩
  have V2 := Lib.hid hv2
  have B2 := Lib.hid hb2
  obtain ⟨p2, c2, rfl⟩ := hv2.slice
  clear hv2 hb2
  go_wp2_with fail
  refine (sum_calls (rows_one V2.out 39 (0, 0) _ 1 rfl (Nat.le_refl _)) (by decide) (by simp [fourN])).mono ?_
  rintro e w3 ⟨rfl, rfl⟩
  rw [show [fourN n].flatten = fourN n by simp, sumF_nat]
  have Hg := Lib.hid (fun w => four_calls (w := w) (sumN (fourN n)) (sumN_lt _))
  have Hh := Lib.hid (show headN n = fourN n ++ fourN (sumN (fourN n)) from rfl)
  generalize sumN (fourN n) = q at *
  go_wp2_with fail
  refine (Hg.out _).mono ?_
  rintro e w4 ⟨v4, rfl, hv4, hb4⟩
  have B2' := below_to B1.out (below_to B2.out (below_to (below_al _ _) hb4))
  have V1' := V1.out.below (below_to B2.out (below_to (below_al _ _) hb4))
  obtain ⟨p1, c1, rfl⟩ := V1.out.slice
  obtain ⟨p4, c4, rfl⟩ := hv4.slice
  have hj := join_calls (rows_two V1' hv4 39 (0, 0) _ 2 rfl (Nat.le_refl _)) (by simp) (by simp [fourN])
  have Hj := Lib.hid hj
  have BB := Lib.hid B2'
  clear hj V1' B2' hv4 hb4
  go_wp2_with fail
  refine Hj.out.mono ?_
  rintro e w5 ⟨v5, rfl, hv5, hb5⟩
  have Hfin := Lib.hid (show NewB w (headN n) (.returned v5) w5 from ⟨v5, rfl, by rw [Hh.out]; simpa using hv5, below_to BB.out (below_to (below_al _ _) hb5)⟩)
  clear hv5 hb5
  go_wp2_with fail
  go_ret
  exact Hfin.out
end Go.Proofs.YtogdfkilhpkloaaGreatDoor

namespace Go.Proofs.YtogdfkilhpkloaaGreatDoor
open Go.RowKit Go.Sat

theorem fresh_ge {B : Nat} {w : World} {v : Value} {l : Bs} (h : Lib.FreshBytes B w v l) : ∀ k, v.ownBlock = some k → B ≤ k := by
  obtain ⟨g, cap, zs, rfl, h1, _⟩ := h
  intro k hk
  cases hk
  exact h1

/-- bytes.Join of rows, with nothing between them. -/
theorem bjoin_new {w : World} {x : Value} {ls : List Bs} (h : RowsAt w x ls) (hn : ls.length ≤ 140737488355328) (hl : ls.flatten.length ≤ 140737488355328) :
    Calls Tryz.prog 230 #[x, .slice none 0 0] w fun e w' => ∃ v, e = .returned v ∧ HasB w' v ls.flatten ∧ (∀ k, v.ownBlock = some k → w.heap.size ≤ k) ∧ Below w.heap.size w w' := by
  obtain ⟨p, c, rfl, hc, hQ⟩ := h
  cases ls with
  | nil =>
    refine (Tryz.bytes_Join_none p c (.slice none 0 0) w).mono ?_
    rintro e w' ⟨rfl, rfl⟩
    refine ⟨_, rfl, ?_, fun k hk => (by simp [Value.ownBlock] at hk; omega), (Below.refl _ _).alloc (Nat.le_refl _) _⟩
    exact HasB.of_kit ⟨_, _, rfl, fun e => (by cases e), fun a ha i x hx => by simp at hx⟩
  | cons l0 r =>
    obtain ⟨b, o, vs, rfl, hP⟩ := hQ (by simp)
    cases r with
    | nil =>
      obtain ⟨p0, c0, l0', e0, hcell, hp0, hcs⟩ := hP.get 0 (by simp)
      simp at e0
      subst e0
      have hcell' : w.cell? ⟨b, o, none⟩ = some (.slice p0 l0.length c0) := by simpa [Addr.add] using hcell
      by_cases h0 : l0.length = 0
      · have hl0 : l0 = [] := List.eq_nil_of_length_eq_zero h0
        subst hl0
        refine (Tryz.bytes_Join_one_empty b o c p0 c0 (.slice none 0 0) w hcell').mono ?_
        rintro e w' ⟨rfl, rfl⟩
        exact ⟨_, rfl, HasB.of_kit ⟨none, 0, rfl, fun _ => rfl, fun a ha => (by cases ha)⟩, fun k hk => (by cases hk), Below.refl _ _⟩
      · obtain ⟨a0, rfl⟩ : ∃ a, p0 = some a := by
          cases p0 with
          | none => exact absurd (by rw [hp0 rfl]; rfl) h0
          | some a => exact ⟨a, rfl⟩
        refine (Tryz.bytes_Join_one b o c a0 c0 l0 (.slice none 0 0) w hcell' (hcs a0 rfl) (by omega) (by simpa using hl)).mono ?_
        rintro e w' ⟨v, rfl, hf, hb⟩
        exact ⟨v, rfl, by simpa using fresh_has hf, fresh_ge hf, hb⟩
    | cons l1 r =>
      have hsep : Lib.HoldsBytes w (.slice none 0 0) [] := ⟨none, 0, rfl, fun _ => rfl, fun a ha => (by cases ha)⟩
      refine (Tryz.bytes_Join_many b o _ c vs (l0 :: l1 :: r) (.slice none 0 0) [] w rfl (by simp) hP hc hsep hn (by rw [← flat_len]; simpa using hl)).mono ?_
      rintro e w' ⟨v, rfl, hf, hb⟩
      rw [join_flat] at hf
      exact ⟨v, rfl, fresh_has hf, fresh_ge hf, hb⟩

set_option maxHeartbeats 400000 in
/-- octet.Join. -/
theorem join_new {w : World} {x : Value} {ls : List Bs} (h : RowsAt w x ls) (hn : ls.length ≤ 140737488355328) (hl : ls.flatten.length ≤ 140737488355328) :
    Calls Tryz.prog 174 #[x] w fun e w' => ∃ v, e = .returned v ∧ HasB w' v ls.flatten ∧ (∀ k, v.ownBlock = some k → w.heap.size ≤ k) ∧ Below w.heap.size w w' := by
  have hj := bjoin_new h hn hl
  obtain ⟨p, c, rfl, hc, hP⟩ := h
  have Hj := Lib.hid hj
  clear hj hP
  go_enter Tryz.func174, Tryz.ntmps174
  go_wp2_with fail
  refine Hj.out.mono ?_
  rintro e w' ⟨v, rfl, hv, hw, hb⟩
  go_wp2_with fail
  go_ret
  exact ⟨v, rfl, hv, hw, hb⟩

end Go.Proofs.YtogdfkilhpkloaaGreatDoor

namespace Go.Proofs.YtogdfkilhpkloaaGreatDoor
open Go.RowKit Go.Sat Go.Maps

/-- A record of bytes. -/
def frameN (l : Bs) : Bs := (headN l.length ++ l) ++ fourN (sumN (headN l.length ++ l))

theorem lens_take (ls : List Bs) {k : Nat} (hk : k < ls.length) : (ls.take (k + 1)).flatten.length = (ls.take k).flatten.length + ls[k].length := by
  rw [flat_take hk, List.length_append]

set_option maxRecDepth 100000 in
set_option maxHeartbeats 4000000 in
theorem enc_calls {w : World} {p : Option Addr} {n c : Nat} {ls : List Bs} (hx : RowsAt w (.slice p n c) ls) (hn : n ≤ 140737488355328) (hl : ls.flatten.length ≤ 1048576) :
    Calls Tryz.prog 115 #[.slice p n c] w (fun e w' => ∃ v, e = .returned (.tuple #[v, .int .i64 0]) ∧ HasB w' v (frameN ls.flatten) ∧ (∀ k, v.ownBlock = some k → w.heap.size ≤ k) ∧ Below w.heap.size w w') := by
  have hnl := RowsAt.len hx
  have Hx := Lib.hid hx
  have Hl := Lib.hid hl
  have Hnl := Lib.hid hnl
  clear hx hl hnl
  go_enter Tryz.func115, Tryz.ntmps115
  go_wp2_with fail
  go_loop [4, 10] (fun a i => ∃ k : Nat, k ≤ n ∧ i = .int .i64 k ∧ a = .int .i64 (((ls.take k).flatten.length : Nat) : Int) ∧ (ls.take k).flatten.length ≤ 1048576) (fun _ i => n - (intOf i).toNat)
  case atStart => exact ⟨0, Nat.zero_le _, rfl, by simp, by simp⟩
  case round =>
    obtain ⟨k, hk, rfl, rfl, hck⟩ := hrel
    by_cases hlt : k < n
    · have hltl : k < ls.length := by rw [← Hnl.out]; exact hlt
      have hct := lens_take ls hltl
      have hle := flat_take_le ls (k + 1)
      obtain ⟨-, b, o, v, rfl, hcell, hv⟩ := RowsAt.row Hx.out hltl
      obtain ⟨pv, cv, rfl⟩ := hv.slice
      have hc8 : (ls.take (k + 1)).flatten.length ≤ 1048576 := by have := Hl.out; omega
      have hsum : (ls.take k).flatten.length + ls[k].length ≤ 1048576 := by omega
      have Hct := Lib.hid hct
      have Hc8 := Lib.hid hc8
      clear hv hct hle hc8
      generalize ls[k].length = m at *
      generalize (ls.take k).flatten.length = C at *
      go_wp2_with fail
      go_round
      case rel => exact ⟨k + 1, by omega, by go_num, by rw [Hct.out]; go_num, Hc8.out⟩
      case measure => simp [intOf]; omega
    · have hls : ls.take k = ls := List.take_of_length_le (by have := Hnl.out; omega)
      rw [hls] at hck ⊢
      have hkn : k = n := by omega
      have Hhd := Lib.hid (fun w => head_calls (w := w) ls.flatten.length (by have := Hl.out; omega))
      have HFr := Lib.hid (show frameN ls.flatten = (headN ls.flatten.length ++ ls.flatten) ++ fourN (sumN (headN ls.flatten.length ++ ls.flatten)) from rfl)
      have Hjn := Lib.hid (fun (W : World) (hb : Below w.heap.size w W) => join_calls (rows_below Hx.out hb) (by rw [← Hnl.out]; omega) (by have := Hl.out; omega))
      generalize hX : ls.flatten = X at *
      have HX := Lib.hid hX
      clear hX
      generalize hC : X.length = C at *
      have hhl : (headN C).length = 8 := rfl
      generalize headN C = hd at *
      have HC := Lib.hid hC
      have Hhl := Lib.hid hhl
      clear hls hC hhl
      go_wp2_with fail
      refine (Hhd.out _).mono ?_
      rintro e w1 ⟨v1, rfl, hv1, hb1⟩
      have V1 := Lib.hid hv1
      have B1 := Lib.hid hb1
      have Hj := Lib.hid (Hjn.out _ hb1)
      clear hv1 hb1
      go_wp2_with fail
      refine Hj.out.mono ?_
      rintro e w2 ⟨v2, rfl, hv2, hb2⟩
      have hh1 := V1.out.below hb2
      obtain ⟨p1, c1, rfl⟩ := hh1.slice
      obtain ⟨p2, c2, rfl⟩ := hv2.slice
      have hj := join_calls (rows_two hh1 hv2 39 (0, 0) _ 2 rfl (Nat.le_refl _)) (by simp) (by simp [Hhl.out, HC.out]; omega)
      rw [show [hd, X].flatten = hd ++ X by simp] at hj
      have e1 := Hhl.out
      have e2 := HC.out
      rw [e1, e2] at hj
      rw [e1, e2]
      have Hj2 := Lib.hid hj
      have B2 := Lib.hid (below_to B1.out (below_to hb2 (below_al w2 (.cells #[.slice p1 8 c1, .slice p2 C c2] 39))))
      clear hj hh1 hv2 hb2 Hj e1 e2
      go_wp2_with fail
      refine Hj2.out.mono ?_
      rintro e w3 ⟨v3, rfl, hv3, hb3⟩
      have V3 := Lib.hid hv3
      have B3 := Lib.hid (below_to B2.out hb3)
      have hlb : (hd ++ X).length ≤ 1048584 := by rw [List.length_append, Hhl.out, HC.out]; omega
      have HLb := Lib.hid hlb
      generalize hY : hd ++ X = Y at *
      obtain ⟨p3, c3, rfl⟩ := hv3.slice
      clear hv3 hb3 hY hlb
      have hlY := HLb.out
      generalize hD : Y.length = yl at *
      have HD := Lib.hid hD
      clear hD
      go_wp2_with fail
      refine (sum_calls (rows_one V3.out 39 (0, 0) _ 1 rfl (Nat.le_refl _)) (by decide) (by simp [HD.out]; omega)).mono ?_
      rintro e w4 ⟨rfl, rfl⟩
      rw [show [Y].flatten = Y by simp, sumF_nat]
      have Hg := Lib.hid (fun w => four_calls (w := w) (sumN Y) (sumN_lt _))
      generalize sumN Y = q at *
      go_wp2_with fail
      refine (Hg.out _).mono ?_
      rintro e w5 ⟨v5, rfl, hv5, hb5⟩
      have V3' := V3.out.below (below_to (below_al _ _) hb5)
      obtain ⟨p5, c5, rfl⟩ := hv5.slice
      have hj := join_new (rows_two V3' hv5 39 (0, 0) _ 2 rfl (Nat.le_refl _)) (by simp) (by simp [fourN, HD.out]; omega)
      rw [show [Y, fourN q].flatten = Y ++ fourN q by simp, show (fourN q).length = 4 from rfl] at hj
      have B5 := Lib.hid (below_to B3.out (below_to (below_al _ _) hb5))
      rw [show (fourN q).length = 4 from rfl]
      have Hj3 := Lib.hid hj
      clear hj V3' hv5 hb5
      go_wp2_with fail
      refine Hj3.out.mono ?_
      rintro e w6 ⟨v6, rfl, hv6, hw6, hb6⟩
      have V6 := Lib.hid (And.intro hv6 (And.intro (fun k hk => Nat.le_trans B5.out.size (Nat.le_trans (below_al w5 _).size (hw6 k hk)) : ∀ k, v6.ownBlock = some k → w.heap.size ≤ k) (below_to B5.out (below_to (below_al _ _) hb6))))
      clear hv6 hw6 hb6
      go_wp2_with fail
      go_ret2
      exact ⟨v6, rfl, by rw [HX.out, HFr.out]; exact V6.out.1, V6.out.2.1, V6.out.2.2⟩
end Go.Proofs.YtogdfkilhpkloaaGreatDoor

namespace Go.Proofs.YtogdfkilhpkloaaGreatDoor
open Go.RowKit Go.Sat Go.Maps

theorem bytes_in {w : World} {p : Option Addr} {n c : Nat} {l : Bs} (h : HasB w (.slice p n c) l) : n = l.length ∧ Lib.BytesIn w p n (Lib.numsL l) := by
  have h1 := h.at
  obtain ⟨p', c', e⟩ := h.slice
  cases e
  refine ⟨rfl, fun hn => ?_⟩
  rcases h1 with e | ⟨b, o, c2, e, hc⟩
  · rw [e] at hn
    simp at hn
  · cases e
    refine ⟨b, o, rfl, fun i hi => ?_⟩
    rw [hc i l[i] (List.getElem?_eq_getElem hi)]
    simp [Lib.numsL, List.getD, List.getElem?_map, List.getElem?_eq_getElem hi]

theorem equal_calls {w : World} {x y : Value} {l m : Bs} (hx : HasB w x l) (hy : HasB w y m) :
    Calls Tryz.prog 87 #[x, y] w fun e w' => e = .returned (.bool (l == m)) ∧ w' = w := by
  obtain ⟨p1, c1, rfl⟩ := hx.slice
  obtain ⟨p2, c2, rfl⟩ := hy.slice
  have := Tryz.bytes_Equal_all p1 p2 l.length c1 m.length c2 (Lib.numsL l) (Lib.numsL m) w (Lib.numsL_length l) (Lib.numsL_length m) (bytes_in hx).2 (bytes_in hy).2
  rwa [Lib.bytesOf_numsL, Lib.bytesOf_numsL] at this

/-- The number that bytes begin with. -/
def fourAt (b : Bs) : Nat := ofFour (b.getD 0 0) (b.getD 1 0) (b.getD 2 0) (b.getD 3 0)

def decE (b : Bs) : Nat :=
  if b.length < 8 then 2 else if b.take 8 ≠ headN (fourAt b) then 4 else if 1048576 < fourAt b then 5 else if b.length < fourAt b + 12 then 2
  else if fourAt (b.drop (8 + fourAt b)) ≠ sumN (b.take (8 + fourAt b)) then 4 else 0
def decB (b : Bs) : Bs := if decE b = 0 then (b.drop 8).take (fourAt b) else []
def decL (b : Bs) : Nat := if decE b = 0 then fourAt b + 12 else 0

def Decoded (w : World) (b : Bs) (e : Ending) (w' : World) : Prop :=
  ∃ v, e = .returned (.tuple #[v, .int .i64 (decL b : Int), .int .i64 (decE b : Int)]) ∧ OwnB w' 5 v (decB b) ∧ (∀ k, v.ownBlock = some k → w.heap.size ≤ k) ∧ Below w.heap.size w w'

theorem four_at {w : World} {p : Option Addr} {n c : Nat} {b : Bs} (h : HasB w (.slice p n c) b) (h4 : 4 ≤ b.length) :
    Calls Tryz.prog 284 #[.slice p n c] w (fun e w' => e = .returned (.int .u32 (fourAt b : Int)) ∧ ∃ q, w' = w.drewN q) := by
  have h1 := h.at
  obtain ⟨p', c', e⟩ := h.slice
  cases e
  rcases h1 with e | ⟨g, o, c2, e, hc⟩
  · rw [e] at h4
    simp at h4
  · cases e
    have hb : ∀ i, i < b.length → b[i]? = some (b.getD i 0) := fun i hi => by simp [List.getD, List.getElem?_eq_getElem hi]
    exact fromFour_calls h4 (by simpa using hc 0 _ (hb 0 (by omega))) (hc 1 _ (hb 1 (by omega))) (hc 2 _ (hb 2 (by omega))) (hc 3 _ (hb 3 (by omega)))

theorem fourAt_lt (b : Bs) : fourAt b < 4294967296 := by
  have h0 := (b.getD 0 0).toNat_lt
  have h1 := (b.getD 1 0).toNat_lt
  have h2 := (b.getD 2 0).toNat_lt
  have h3 := (b.getD 3 0).toNat_lt
  unfold fourAt ofFour
  omega

theorem HasB.from {w : World} {g o n c : Nat} {l : Bs} (h : HasB w (.slice (some ⟨g, o, none⟩) n c) l) {k : Nat} (_hk : k ≤ l.length) (c' : Nat) : HasB w (.slice (some ⟨g, o + k, none⟩) (n - k) c') (l.drop k) := by
  have h1 := h.at
  obtain ⟨p', c2, e⟩ := h.slice
  cases e
  refine HasB.of_kit ⟨some ⟨g, o + k, none⟩, c', by rw [List.length_drop], fun e => (by cases e), fun a ha i x hx => ?_⟩
  cases ha
  have e1 : (⟨g, o + k, none⟩ : Addr).add i = ⟨g, o + k + i, none⟩ := by unfold Addr.add; split <;> simp_all
  rw [e1]
  rw [List.getElem?_drop] at hx
  rcases h1 with e | ⟨g2, o2, c3, e, hc⟩
  · rw [e] at hx
    simp at hx
  · cases e
    have := hc _ _ hx
    rw [Nat.add_assoc]
    exact this

/-- 'x[k:]'. -/
theorem run_from {P : Program} (w : World) {t e : TypeId} {i : TypeInfo} (ht : P.underlying t = some (.slice e)) (hi : P.info? e = some i) (hsz : i.size = 1) (g o len cap k : Nat) (h : k ≤ len) (_h2 : len ≤ cap) (h3 : k < cap) :
    (Instr.slice t (.slice (some ⟨g, o, none⟩) len cap) (some (.int .i64 (k : Int))) none none).run P w = .ok (.slice (some ⟨g, o + k, none⟩) (len - k) (cap - k)) w := by
  have h1 : (Instr.sliceBound (.int .i64 (k : Int)) len .sliceB).run P w = .ok k w := by
    rw [run_sliceBound _ _ _ _ _ (by omega) (by omega)]
    simp
  have e1 : (⟨g, o, none⟩ : Addr).add k = ⟨g, o + k, none⟩ := by unfold Addr.add; split <;> simp_all
  simp [Instr.slice, run_underlying ht, Instr.sliceBounds, h1, sizeOf, typeInfo, hi, Result.andThen, hsz, e1]
  omega
end Go.Proofs.YtogdfkilhpkloaaGreatDoor
