/- A disk that a law has made itself: the contracts in the form in which a law meets them. -/
import Derived.Test.YtdlbamhabenhgaaDiskD
import Derived.Lib.SlBytesConst
namespace Go.Proofs.Ytdlbamhabenhgaa
open Go.RowKit Go.Sat Go.Maps

/-- In w1, d is a disk that keeps D, all of it new since w, none of it in F; nothing that was there in w has turned. -/
def St (w w1 : World) (d : Nat) (D : DiskM) (F : Nat → Prop) : Prop :=
  ∃ own, DiskAt w1 d D own ∧ Below w.heap.size w w1 ∧ (∀ k, k < w.heap.size ∨ F k → own k = none) ∧ ∀ k, F k → k < w1.heap.size

def NoF : Nat → Prop := fun _ => False

theorem St.below {w w1 : World} {d : Nat} {D : DiskM} {F : Nat → Prop} (h : St w w1 d D F) : Below w.heap.size w w1 := let ⟨_, _, h, _⟩ := h; h
theorem St.ok {w w1 : World} {d : Nat} {D : DiskM} {F : Nat → Prop} (h : St w w1 d D F) : D.OK := let ⟨_, ⟨_, _, _, h⟩, _⟩ := h; h.ok

/-- Something else has turned: blocks of F that are new since w; what is new may be in F' too. -/
theorem St.move {w w1 w2 : World} {d : Nat} {D : DiskM} {F F' S : Nat → Prop} (h : St w w1 d D F) (hc : Chg S w1 w2) (hS : ∀ k, k < w1.heap.size → S k → F k ∧ w.heap.size ≤ k) (hF : ∀ k, F' k → (F k ∨ w1.heap.size ≤ k) ∧ k < w2.heap.size) : St w w2 d D F' := by
  obtain ⟨own, hd, hb1, hn, hl⟩ := h
  have hon : ∀ k, w1.heap.size ≤ k → own k = none := fun k hk => by
    obtain ⟨m, left, L, hd⟩ := hd
    exact own_none hd hk
  refine ⟨own, hd.chg (hc.mono (T := fun k => S k ∧ k < w1.heap.size) fun k hk hs => ⟨hs, hk⟩) (fun k hs => hn k (.inr (hS k hs.2 hs.1).1)), ?_, fun k hk => ?_, fun k hk => (hF k hk).2⟩
  · exact ((Chg.of_below hb1).trans hc fun i hi hs => by
      have h1 := (hS i (Nat.lt_of_lt_of_le hi hb1.size) hs).2
      omega).below (Nat.le_refl _) fun _ _ => id
  · rcases hk with hk | hk
    · exact hn k (.inl hk)
    · rcases (hF k hk).1 with h1 | h1
      · exact hn k (.inr h1)
      · exact hon k h1

theorem St.next {w w1 w2 : World} {d : Nat} {D : DiskM} {F : Nat → Prop} (h : St w w1 d D F) (hb : Below w1.heap.size w1 w2) : St w w2 d D F :=
  h.move (Chg.of_below hb) (fun _ _ h => h.elim) fun k hk => ⟨.inl hk, by obtain ⟨_, _, _, _, hl⟩ := h; exact Nat.lt_of_lt_of_le (hl k hk) hb.size⟩
theorem St.alloc {w w1 : World} {d : Nat} {D : DiskM} {F : Nat → Prop} (h : St w w1 d D F) (o : Obj) : St w (w1.alloc o) d D F := h.next ((Below.refl _ _).alloc (Nat.le_refl _) o)
theorem St.drewN {w w1 : World} {d : Nat} {D : DiskM} {F : Nat → Prop} (h : St w w1 d D F) (n : Nat) : St w (w1.drewN n) d D F := h.next ⟨rfl, rfl, rfl, Nat.le_refl _, fun _ _ => rfl⟩
theorem St.noF {w w1 : World} {d : Nat} {D : DiskM} {F : Nat → Prop} (h : St w w1 d D F) : St w w1 d D NoF := h.move (S := fun _ => False) (Chg.refl _ _) (fun _ _ h => h.elim) fun _ h => h.elim

/-- What a step keeps. -/
def Same (F : Nat → Prop) (w1 w2 : World) : Prop := ∀ k, F k → w2.heap[k]? = w1.heap[k]?

theorem St.step {w w1 w2 : World} {d : Nat} {own own' : Own} {D' : DiskM} {F : Nat → Prop} (hb : Below w.heap.size w w1) (hn : ∀ k, k < w.heap.size ∨ F k → own k = none) (hl : ∀ k, F k → k < w1.heap.size) (hd : DiskAt w2 d D' own') (hc : Chg (Has own) w1 w2) (hx : Ext w1 own own') :
    St w w2 d D' F ∧ Same F w1 w2 := by
  refine ⟨⟨own', hd, ((Chg.of_below hb).trans hc fun i hi hh => (hh (hn i (.inl hi))).elim).below (Nat.le_refl _) fun _ _ => id, fun k hk => ?_, fun k hk => Nat.lt_of_lt_of_le (hl k hk) hc.size⟩, fun k hk => hc.block k (hl k hk) fun hh => hh (hn k (.inr hk))⟩
  rcases hk with h1 | h1
  · exact hx k (Nat.lt_of_lt_of_le h1 hb.size) (hn k (.inl h1))
  · exact hx k (hl k h1) (hn k (.inr h1))

theorem HasB.old {w w1 : World} {v : Value} {l : Bs} (h : HasB w v l) (hb : Below w.heap.size w w1) : HasB w1 v l := h.below hb

/-- What a call of one of the five tells, and what there is behind it. -/
def Told (w : World) (d : Nat) (F : Nat → Prop) (w1 : World) (r : DiskM × Nat) (e : Ending) (w' : World) : Prop := e = .returned (.int .i64 (r.2 : Int)) ∧ St w w' d r.1 F ∧ Same F w1 w'
def Told0 (w : World) (d : Nat) (F : Nat → Prop) (w1 : World) (D : DiskM) (e : Ending) (w' : World) : Prop := e = .returned (.tuple #[]) ∧ St w w' d D F ∧ Same F w1 w'

section
variable {w w1 : World} {d : Nat} {D : DiskM} {F : Nat → Prop}

theorem st_new (n : Int) (h0 : 0 ≤ n) (h1 : n ≤ 1073741824) (hb : Below w.heap.size w w1) :
    Calls Try.prog 15 #[.int .i64 n] w1 fun e w' => ∃ d, e = .returned (.tuple #[.pointer (some ⟨d, 0, none⟩), .int .i64 0]) ∧ St w w' d (DiskM.fresh n.toNat) NoF := by
  refine (new_calls n w1 h0 h1).mono ?_
  rintro e w' ⟨d, own, rfl, hd, hc, hn⟩
  exact ⟨d, rfl, own, hd, ((Chg.of_below hb).trans hc fun _ _ h => h).below (Nat.le_refl _) fun _ _ => id, fun k hk => by
    rcases hk with hk | hk
    · exact hn k (Nat.lt_of_lt_of_le hk hb.size)
    · exact hk.elim, fun _ h => h.elim⟩

theorem st_append (h : St w w1 d D F) (s : ByteArray) (x : Value) (ls : List Bs) (hx : RowsAt w1 x ls) (hn : ls.length ≤ 140737488355328) (hl : ls.flatten.length ≤ 140737488355328) (hsz : s.size ≤ 9223372036854775807) :
    Calls Try.prog 16 #[.pointer (some ⟨d, 0, none⟩), .string s, x] w1 (Told w d F w1 (D.append (nm s) ls.flatten)) := by
  obtain ⟨own, hd, hb, hnn, hF⟩ := h
  refine (append_calls hd s x ls hx hn hl hsz).mono ?_
  rintro e w' ⟨own', rfl, hd', hc, hx⟩
  exact ⟨rfl, St.step hb hnn hF hd' hc hx⟩

theorem own_new {own : Own} (h : DiskAt w1 d D own) {k : Nat} (hk : w1.heap.size ≤ k) : own k = none := by
  obtain ⟨m, left, L, h⟩ := h
  exact own_none h hk

theorem strs_new (w : World) (ss : List ByteArray) (g : Nat) (hg : g = w.heap.size) (e : TypeId) (fr : Nat × Nat) : StrsAt (w.alloc (.cells (ss.map Value.string).toArray e fr)) (some ⟨g, 0, none⟩) ss := by
  subst hg
  refine .inr ⟨_, _, rfl, fun i u hu => ?_⟩
  refine cell_of (new_block w _) ?_
  simp [hu]

/-- Sync of names that have just been laid. -/
theorem st_sync (h : St w w1 d D F) (ss : List ByteArray) (g c : Nat) (hg : g = w1.heap.size) (fr : Nat × Nat) (hm : ss.length ≤ 140737488355328) (hsz : ∀ s ∈ ss, s.size ≤ 9223372036854775807) :
    Calls Try.prog 17 #[.pointer (some ⟨d, 0, none⟩), .slice (some ⟨g, 0, none⟩) ss.length c] (w1.alloc (.cells (ss.map Value.string).toArray 9 fr)) (Told w d F (w1.alloc (.cells (ss.map Value.string).toArray 9 fr)) (D.sync (ss.map nm))) := by
  obtain ⟨own, hd, hb, hnn, hF⟩ := h
  have hd1 := hd.chg (Chg.alloc w1 (.cells (ss.map Value.string).toArray 9 fr)) (fun _ h => h.elim)
  refine (sync_calls hd1 (some ⟨g, 0, none⟩) ss c (strs_new w1 ss g hg _ fr) hm hsz (fun a ha => by cases ha; exact own_new hd (by rw [hg]; exact Nat.le_refl _))).mono ?_
  rintro e w' ⟨own', rfl, hd', hc, hx⟩
  exact ⟨rfl, St.step (hb.alloc hb.size _) hnn (fun k hk => by have := hF k hk; simp; omega) hd' hc hx⟩

theorem st_remove (h : St w w1 d D F) (ss : List ByteArray) (g c : Nat) (hg : g = w1.heap.size) (fr : Nat × Nat) (hm : ss.length ≤ 140737488355328) (hsz : ∀ s ∈ ss, s.size ≤ 9223372036854775807) :
    Calls Try.prog 23 #[.pointer (some ⟨d, 0, none⟩), .slice (some ⟨g, 0, none⟩) ss.length c] (w1.alloc (.cells (ss.map Value.string).toArray 9 fr)) (Told w d F (w1.alloc (.cells (ss.map Value.string).toArray 9 fr)) (D.remove (ss.map nm))) := by
  obtain ⟨own, hd, hb, hnn, hF⟩ := h
  have hd1 := hd.chg (Chg.alloc w1 (.cells (ss.map Value.string).toArray 9 fr)) (fun _ h => h.elim)
  refine (remove_calls hd1 (some ⟨g, 0, none⟩) ss c (strs_new w1 ss g hg _ fr) hm hsz (fun a ha => by cases ha; exact own_new hd (by rw [hg]; exact Nat.le_refl _))).mono ?_
  rintro e w' ⟨own', rfl, hd', hc, hx⟩
  exact ⟨rfl, St.step (hb.alloc hb.size _) hnn (fun k hk => by have := hF k hk; simp; omega) hd' hc hx⟩

theorem st_crash (h : St w w1 d D F) (k : Int) (hk : -9223372036854775808 ≤ k) (hk' : k ≤ 9223372036854775807) :
    Calls Try.prog 18 #[.pointer (some ⟨d, 0, none⟩), .int .i64 k] w1 (Told0 w d F w1 (D.crash k)) := by
  obtain ⟨own, ⟨m, left, L, hd⟩, hb, hnn, hF⟩ := h
  refine (crash_walk hd k hk hk').mono ?_
  rintro e w' ⟨own', rfl, hd', hc, hx⟩
  exact ⟨rfl, St.step hb hnn hF hd' hc hx⟩

theorem st_fuse (h : St w w1 d D F) (n : Int) (hn0 : -9223372036854775808 ≤ n) (hn : n ≤ 9223372036854775807) :
    Calls Try.prog 22 #[.pointer (some ⟨d, 0, none⟩), .int .i64 n] w1 (Told0 w d F w1 (D.setFuse n)) := by
  obtain ⟨own, hd, hb, hnn, hF⟩ := h
  refine (fuse_calls hd n hn hn0).mono ?_
  rintro e w' ⟨own', rfl, hd', hc, hx⟩
  exact ⟨rfl, St.step hb hnn hF hd' hc hx⟩

def GotB (w : World) (d : Nat) (D : DiskM) (F : Nat → Prop) (w1 : World) (o : Option FileM) (e : Ending) (w' : World) : Prop :=
  ∃ v, e = .returned (.tuple #[v, .int .i64 (readE o)]) ∧ OwnB w' 5 v (dataOf o) ∧ (∀ k, v.ownBlock = some k → w1.heap.size ≤ k) ∧ Below w1.heap.size w1 w' ∧ St w w' d D F

theorem st_read (h : St w w1 d D F) (s : ByteArray) (hs : s.size ≤ 9223372036854775807) :
    Calls Try.prog 19 #[.pointer (some ⟨d, 0, none⟩), .string s] w1 (GotB w d D F w1 (Sat.get (nm s) D.files)) := by
  have h0 := h
  obtain ⟨own, hd, hb, hnn, hF⟩ := h
  refine (read_calls hd s hs).mono ?_
  rintro e w' ⟨v, rfl, hv, hn, hb'⟩
  exact ⟨v, rfl, hv, hn, hb', h0.next hb'⟩

theorem st_used (h : St w w1 d D F) :
    Calls Try.prog 21 #[.pointer (some ⟨d, 0, none⟩)] w1 fun e w' => e = .returned (.int .i64 (D.used : Int)) ∧ Below w1.heap.size w1 w' ∧ St w w' d D F := by
  have h0 := h
  obtain ⟨own, ⟨m, left, L, hd⟩, hb, hnn, hF⟩ := h
  refine (used_walk hd).mono ?_
  rintro e w' ⟨rfl, hb'⟩
  exact ⟨rfl, hb', h0.next hb'⟩
end

/-! ### What a law lays itself -/
theorem has_lit {w : World} {e : TypeId} {fr : Nat × Nat} (cs : Array Value) (l : Bs) (g n c : Nat) (hg : g = w.heap.size) (hn : n = l.length) (h : cs.toList = bytesV l) : HasB (w.alloc (.cells cs e fr)) (.slice (some ⟨g, 0, none⟩) n c) l := by
  subst hg
  subst hn
  refine ⟨by simp [bytesV], some ⟨w.heap.size, 0, none⟩, c, rfl, fun e => (by cases e), fun a ha i u hu => ?_⟩
  cases ha
  rw [add_zero]
  refine cell_of (new_block w _) ?_
  rw [← h] at hu
  simpa using hu

theorem has_alloc {w : World} {v : Value} {l : Bs} (h : HasB w v l) (o : Obj) : HasB (w.alloc o) v l := h.chg (Chg.alloc w o) fun _ _ => id

/-- A list of one row, in a new block. -/
theorem rows_one {w : World} {v : Value} {l : Bs} (h : HasB w v l) (e : TypeId) (fr : Nat × Nat) (g c : Nat) (hg : g = w.heap.size) (hc : 1 ≤ c) : RowsAt (w.alloc (.cells #[v] e fr)) (.slice (some ⟨g, 0, none⟩) 1 c) [l] := by
  subst hg
  refine ⟨_, c, rfl, by simpa using hc, fun _ => ⟨_, _, [v], rfl, rfl, fun i u hu => ?_, fun i u m hu hm => ?_⟩⟩
  · rw [add_zero]
    refine cell_of (new_block w _) ?_
    simpa using hu
  · have hi : i = 0 := by
      have := (List.getElem?_eq_some_iff.1 hu).1
      simpa using this
    subst hi
    simp at hu hm
    subst hu
    subst hm
    exact (has_alloc h _).kit
end Go.Proofs.Ytdlbamhabenhgaa
