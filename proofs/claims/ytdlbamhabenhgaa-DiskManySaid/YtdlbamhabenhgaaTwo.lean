/- Two disks of a law's own, side by side: what is done with one leaves the other one alone. -/
import Derived.Test.YtdlbamhabenhgaaList
namespace Go.Proofs.Ytdlbamhabenhgaa
open Go.RowKit Go.Sat Go.Maps

def Two (w w1 : World) (da : Nat) (DA : DiskM) (db : Nat) (DB : DiskM) : Prop :=
  ∃ ownA ownB, DiskAt w1 da DA ownA ∧ DiskAt w1 db DB ownB ∧ Below w.heap.size w w1 ∧ (∀ k, ownA k = none ∨ ownB k = none) ∧ ∀ k, k < w.heap.size → ownA k = none ∧ ownB k = none

section
variable {w w1 w2 : World} {da db : Nat} {DA DB : DiskM}

theorem Two.swap (h : Two w w1 da DA db DB) : Two w w1 db DB da DA := by
  obtain ⟨ownA, ownB, hA, hB, hb, hd, hn⟩ := h
  exact ⟨ownB, ownA, hB, hA, hb, fun k => (hd k).symm, fun k hk => ⟨(hn k hk).2, (hn k hk).1⟩⟩

theorem Two.below (h : Two w w1 da DA db DB) : Below w.heap.size w w1 := let ⟨_, _, _, _, hb, _⟩ := h; hb

theorem at_lt {own : Own} {D : DiskM} {d : Nat} (h : DiskAt w1 d D own) {k : Nat} (hk : Has own k) : k < w1.heap.size := by
  by_cases e : k < w1.heap.size
  · exact e
  · exact (hk (own_new h (by omega))).elim

/-- One of the two, the other one's blocks set apart. -/
theorem Two.open (h : Two w w1 da DA db DB) : ∃ ownB, DiskAt w1 db DB ownB ∧ (∀ k, k < w.heap.size → ownB k = none) ∧ St w w1 da DA (Has ownB) := by
  obtain ⟨ownA, ownB, hA, hB, hb, hd, hn⟩ := h
  refine ⟨ownB, hB, fun k hk => (hn k hk).2, ownA, hA, hb, fun k hk => ?_, fun k hk => at_lt hB hk⟩
  rcases hk with hk | hk
  · exact (hn k hk).1
  · rcases hd k with h1 | h1
    · exact h1
    · exact (hk h1).elim

theorem Two.close {ownB : Own} (hB : DiskAt w1 db DB ownB) (hn : ∀ k, k < w.heap.size → ownB k = none) (h : St w w1 da DA (Has ownB)) : Two w w1 da DA db DB := by
  obtain ⟨ownA, hA, hb, hnn, _⟩ := h
  refine ⟨ownA, ownB, hA, hB, hb, fun k => ?_, fun k hk => ⟨hnn k (.inl hk), hn k hk⟩⟩
  by_cases e : ownB k = none
  · exact .inr e
  · exact .inl (hnn k (.inr e))

theorem DiskIn.keepAt {w w' : World} {d m : Nat} {left : Int} {L : List (Bs × FRep)} {own : Own} {D : DiskM} (h : DiskIn w d m left L own D) (hb : ∀ k, Has own k → w'.heap[k]? = w.heap[k]?) (hlt : ∀ k, Has own k → k < w'.heap.size) : DiskIn w' d m left L own D where
  cells := (hb d (by unfold Has; rw [h.od]; simp)).trans h.cells
  left := h.left
  map := by
    obtain ⟨es, clock, hm, r⟩ := h.map
    exact ⟨es, clock, (hb m (by unfold Has; rw [h.om]; simp)).trans hm, r⟩
  files := h.files
  srt := h.srt
  file p hp := (h.file p hp).keep hb
  od := h.od
  om := h.om
  olt k t hk := hlt k (by unfold Has; rw [hk]; simp)
  ok := h.ok

theorem at_same {own : Own} {D : DiskM} {d : Nat} (h : DiskAt w1 d D own) (hs : Same (Has own) w1 w2) (hsz : w1.heap.size ≤ w2.heap.size) : DiskAt w2 d D own := by
  obtain ⟨m, left, L, h⟩ := h
  exact ⟨m, left, L, h.keep hsz fun k hk => hs k hk⟩

theorem Two.next (h : Two w w1 da DA db DB) (hb : Below w1.heap.size w1 w2) : Two w w2 da DA db DB := by
  obtain ⟨ownB, hB, hn, hS⟩ := h.open
  exact Two.close (hB.chg (Chg.of_below hb) fun _ h => h.elim) hn (hS.next hb)

theorem Two.alloc (h : Two w w1 da DA db DB) (o : Obj) : Two w (w1.alloc o) da DA db DB := h.next ((Below.refl _ _).alloc (Nat.le_refl _) o)

/-- The two, behind a call of one of the five on the first of them. -/
def Told2 (w : World) (da : Nat) (db : Nat) (DB : DiskM) (r : DiskM × Nat) (e : Ending) (w' : World) : Prop := e = .returned (.int .i64 (r.2 : Int)) ∧ Two w w' da r.1 db DB

theorem two_told (h : Two w w1 da DA db DB) {f : FuncId} {args : Array Value} {wc : World} {r : DiskM × Nat} (hbc : Below w1.heap.size w1 wc)
    (hc : ∀ F, St w w1 da DA F → Calls Try.prog f args wc (Told w da F wc r)) : Calls Try.prog f args wc (Told2 w da db DB r) := by
  obtain ⟨ownB, hB, hn, hS⟩ := h.open
  have hBc : DiskAt wc db DB ownB := hB.chg (Chg.of_below hbc) fun _ h => h.elim
  refine (hc _ hS).mono ?_
  rintro e w' ⟨rfl, hS', hsame⟩
  refine ⟨rfl, Two.close ?_ hn hS'⟩
  obtain ⟨m, left, L, hi⟩ := hBc
  exact ⟨m, left, L, hi.keepAt (fun k hk => hsame k hk) (fun k hk => by
    obtain ⟨ownA, hA, _, hnn, hl⟩ := hS'
    exact hl k hk)⟩

theorem two_told0 (h : Two w w1 da DA db DB) {f : FuncId} {args : Array Value} {D' : DiskM}
    (hc : ∀ F, St w w1 da DA F → Calls Try.prog f args w1 (Told0 w da F w1 D')) : Calls Try.prog f args w1 (fun e w' => e = .returned (.tuple #[]) ∧ Two w w' da D' db DB) := by
  obtain ⟨ownB, hB, hn, hS⟩ := h.open
  refine (hc _ hS).mono ?_
  rintro e w' ⟨rfl, hS', hsame⟩
  refine ⟨rfl, Two.close ?_ hn hS'⟩
  obtain ⟨m, left, L, hi⟩ := hB
  exact ⟨m, left, L, hi.keepAt (fun k hk => hsame k hk) (fun k hk => by
    obtain ⟨ownA, hA, _, hnn, hl⟩ := hS'
    exact hl k hk)⟩
end
end Go.Proofs.Ytdlbamhabenhgaa
