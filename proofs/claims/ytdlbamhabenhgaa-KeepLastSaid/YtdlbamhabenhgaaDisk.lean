/- What a disk keeps (a plain model), and what it means that a disk lies in memory. -/
import Derived.Test.YtdlbamhabenhgaaChecked
import Derived.Test.YtdlbamhabenhgaaLibB
import Derived.BigQuiet
import Derived.Deep.QuietTactic
import Derived.Deep.LoopGhost
namespace Go.Proofs.Ytdlbamhabenhgaa
open Go.RowKit Go.Sat Go.Maps

/-! ### The model -/
structure FileM where
  data : Bs
  lasts : Nat

structure DiskM where
  room : Nat
  files : List (Bs × FileM)
  fuse : Option Nat

def okN (n : Bs) : Bool := decide (1 ≤ n.length) && decide (n.length ≤ 64)

namespace DiskM
def size (f : FileM) : Nat := f.data.length
def used (D : DiskM) : Nat := sumBy size D.files
def may (D : DiskM) (ns : List Bs) : Nat := if D.fuse = some 0 then 9 else if ns.all okN then 0 else 1
def done (D : DiskM) : DiskM := { D with fuse := D.fuse.map (· - 1) }
def cur (D : DiskM) (n : Bs) : FileM := (get n D.files).getD ⟨[], 0⟩
def full (D : DiskM) (n b : Bs) : Bool := decide (D.room < D.used + b.length) || ((get n D.files).isNone && decide (4096 ≤ D.files.length))
def append (D : DiskM) (n b : Bs) : DiskM × Nat :=
  if D.may [n] ≠ 0 then (D, D.may [n])
  else if D.full n b then (D, 6)
  else (done { D with files := put n ⟨(D.cur n).data ++ b, (D.cur n).lasts⟩ D.files }, 0)
/-- One of several names: a thing is done with the file that is there. -/
def each1 (g : Bs → FileM → List (Bs × FileM) → List (Bs × FileM)) (D : DiskM) (n : Bs) : DiskM × Nat :=
  if D.may [n] ≠ 0 then (D, D.may [n])
  else match get n D.files with
    | none => (D, 7)
    | some f => (done { D with files := g n f D.files }, 0)
def each (g : Bs → FileM → List (Bs × FileM) → List (Bs × FileM)) (D : DiskM) : List Bs → DiskM × Nat
  | [] => (D, 0)
  | n :: r => if (each1 g D n).2 = 0 then each g (each1 g D n).1 r else each1 g D n
def gSync (n : Bs) (f : FileM) (L : List (Bs × FileM)) : List (Bs × FileM) := put n ⟨f.data, f.data.length⟩ L
def gRemove (n : Bs) (_ : FileM) (L : List (Bs × FileM)) : List (Bs × FileM) := del n L
def sync (D : DiskM) (ns : List Bs) : DiskM × Nat := D.each gSync ns
def remove (D : DiskM) (ns : List Bs) : DiskM × Nat := D.each gRemove ns
def truncate (D : DiskM) (n : Bs) (k : Int) : DiskM × Nat :=
  if D.may [n] ≠ 0 then (D, D.may [n])
  else match get n D.files with
    | none => (D, 7)
    | some f => if k < 0 ∨ (f.data.length : Int) < k then (D, 1)
      else (done { D with files := put n ⟨f.data.take k.toNat, min f.lasts k.toNat⟩ D.files }, 0)
def rename (D : DiskM) (o n : Bs) : DiskM × Nat :=
  if D.may [o, n] ≠ 0 then (D, D.may [o, n])
  else match get o D.files with
    | none => (D, 7)
    | some f => (done { D with files := put n f (del o D.files) }, 0)
def setFuse (D : DiskM) (n : Int) : DiskM := { D with fuse := if n < 0 then none else some n.toNat }
def stays (f : FileM) (k : Int) : Nat := f.lasts + (max 0 k).toNat % (f.data.length - f.lasts + 1)
def crashF (k : Int) (f : FileM) : FileM := ⟨f.data.take (stays f k), stays f k⟩
def crash (D : DiskM) (k : Int) : DiskM := { D with files := mp (crashF k) D.files, fuse := none }
def fresh (room : Nat) : DiskM := ⟨room, [], none⟩
def copy (D : DiskM) : DiskM := { D with fuse := none }

structure OK (D : DiskM) : Prop where
  srt : Srt D.files
  room : D.room ≤ 1073741824
  used : D.used ≤ D.room
  count : D.files.length ≤ 4096
  names : ∀ p ∈ D.files, okN p.1 = true
  lasts : ∀ p ∈ D.files, p.2.lasts ≤ p.2.data.length
  fuse : ∀ k, D.fuse = some k → k ≤ 9223372036854775807
end DiskM

/-! ### In memory -/
abbrev Own := Nat → Option (Nat × Bs)

structure FRep where
  fb : Nat
  v : Value
  f : FileM

structure FileAt (w : World) (own : Own) (n : Bs) (r : FRep) : Prop where
  cells : w.heap[r.fb]? = some (.cells #[r.v, .int .i64 (r.f.lasts : Int)] 80 (0, 0))
  ob : own r.fb = some (2, n)
  row : OwnB w 5 r.v r.f.data
  og : ∀ g, r.v.ownBlock = some g → own g = some (3, n)

def fbD (r : FRep) : DataW Nat := .held r.fb

structure DiskIn (w : World) (d m : Nat) (left : Int) (L : List (Bs × FRep)) (own : Own) (D : DiskM) : Prop where
  cells : w.heap[d]? = some (.cells #[.int .i64 (D.room : Int), .map (some m), .bool D.fuse.isSome, .int .i64 left] 76 (0, 0))
  left : ∀ k, D.fuse = some k → left = (k : Int)
  map : w.ownsMap Try.prog 9 ptrR m L.length (dm fbD L)
  files : D.files = mp FRep.f L
  srt : Srt L
  file : ∀ p ∈ L, FileAt w own p.1 p.2
  od : own d = some (0, [])
  om : own m = some (1, [])
  olt : ∀ k t, own k = some t → k < w.heap.size
  ok : D.OK

def DiskAt (w : World) (d : Nat) (D : DiskM) (own : Own) : Prop := ∃ m left L, DiskIn w d m left L own D

/-- own' owns what own did, or what is new. -/
def Ext (w : World) (own own' : Own) : Prop := ∀ k, k < w.heap.size → own k = none → own' k = none

def Has (own : Own) (k : Nat) : Prop := own k ≠ none

theorem FileAt.keep {w w' : World} {own : Own} {n : Bs} {r : FRep} (h : FileAt w own n r) (hb : ∀ k, own k ≠ none → w'.heap[k]? = w.heap[k]?) : FileAt w' own n r :=
  ⟨(hb _ (by rw [h.ob]; simp)).trans h.cells, h.ob, h.row.keep fun k hk => hb k (by rw [h.og k hk]; simp), h.og⟩

theorem DiskIn.keep {w w' : World} {d m : Nat} {left : Int} {L : List (Bs × FRep)} {own : Own} {D : DiskM} (h : DiskIn w d m left L own D) (hs : w.heap.size ≤ w'.heap.size)
    (hb : ∀ k, own k ≠ none → w'.heap[k]? = w.heap[k]?) : DiskIn w' d m left L own D where
  cells := (hb d (by rw [h.od]; simp)).trans h.cells
  left := h.left
  map := by
    obtain ⟨es, clock, hm, r⟩ := h.map
    exact ⟨es, clock, (hb m (by rw [h.om]; simp)).trans hm, r⟩
  files := h.files
  srt := h.srt
  file p hp := (h.file p hp).keep hb
  od := h.od
  om := h.om
  olt k t hk := Nat.lt_of_lt_of_le (h.olt k t hk) hs
  ok := h.ok

theorem DiskIn.chg {w w' : World} {S : Nat → Prop} {d m : Nat} {left : Int} {L : List (Bs × FRep)} {own : Own} {D : DiskM} (h : DiskIn w d m left L own D) (hc : Chg S w w') (hS : ∀ k, S k → own k = none) :
    DiskIn w' d m left L own D :=
  h.keep hc.size fun k hk => hc.block k (by
    cases ho : own k with
    | none => exact absurd ho hk
    | some t => exact h.olt k t ho) fun s => hk (hS k s)

theorem DiskAt.chg {w w' : World} {S : Nat → Prop} {d : Nat} {own : Own} {D : DiskM} (h : DiskAt w d D own) (hc : Chg S w w') (hS : ∀ k, S k → own k = none) : DiskAt w' d D own := by
  obtain ⟨m, left, L, h⟩ := h
  exact ⟨m, left, L, h.chg hc hS⟩

section
variable {w : World} {d m : Nat} {left : Int} {L : List (Bs × FRep)} {own : Own} {D : DiskM}

theorem DiskIn.c0 (h : DiskIn w d m left L own D) : w.cell? ⟨d, 0, none⟩ = some (.int .i64 (D.room : Int)) := cell_of h.cells rfl
theorem DiskIn.c1 (h : DiskIn w d m left L own D) : w.cell? ⟨d, 1, none⟩ = some (.map (some m)) := cell_of h.cells rfl
theorem DiskIn.c2 (h : DiskIn w d m left L own D) : w.cell? ⟨d, 2, none⟩ = some (.bool D.fuse.isSome) := cell_of h.cells rfl
theorem DiskIn.c3 (h : DiskIn w d m left L own D) : w.cell? ⟨d, 3, none⟩ = some (.int .i64 left) := cell_of h.cells rfl

theorem DiskIn.get (h : DiskIn w d m left L own D) (n : Bs) : Sat.get n D.files = (Sat.get n L).map FRep.f := by rw [h.files, mp_get]
theorem DiskIn.len (h : DiskIn w d m left L own D) : D.files.length = L.length := by rw [h.files, mp_len]
theorem DiskIn.used (h : DiskIn w d m left L own D) : D.used = sumBy (fun r : FRep => r.f.data.length) L := by
  unfold DiskM.used
  rw [h.files, mp_sum]
  rfl
theorem DiskIn.dlt (h : DiskIn w d m left L own D) : d < w.heap.size := h.olt d _ h.od
theorem DiskIn.mlt (h : DiskIn w d m left L own D) : m < w.heap.size := h.olt m _ h.om
theorem DiskIn.dm_ne (h : DiskIn w d m left L own D) : d ≠ m := by
  intro e
  have h1 := h.od
  rw [e, h.om] at h1
  simp at h1
end

theorem le_sum {α : Type} {f : α → Nat} {L : List (Bs × α)} {n : Bs} {a : α} (h : Srt L) (hg : get n L = some a) : f a ≤ sumBy f L := by
  rw [sum_del (f := f) h hg]
  omega

theorem okN_string {n : Bs} (h : okN n = true) : 1 ≤ n.length ∧ n.length ≤ 64 := by simpa [okN] using h
end Go.Proofs.Ytdlbamhabenhgaa
