/- The contracts of package span that a zone wants: Is, In. The contracts of package purse: Is, One, Add (of two), Sub, Less. purse.Add of two. Kinds of keys (the slow facts). The kinds of keys and of elements that an economy's maps have. What a disk keeps (a plain model), and what it means that a disk lies in memory. Contracts of disk.New, may, done, Used. A vault whose book has no offers: where it lies in memory. vault.Put. (Printed by mkz2.py.) How a disk in memory stands behind a change of one file, a new file, a file that goes. No walk. The contract of Append. The contracts of each, Sync, Remove. The contracts of Read, Fuse, Crash. -/
import Derived.BigQuiet
import Derived.Deep.CutBlock
import Derived.Deep.DeepCutAuto
import Derived.Deep.LoopGhost
import Derived.Deep.QuietTactic
import Derived.DeepKeys4
import Derived.StillTailTactics
import Derived.Test.YtogdfkilhpkloaaGreatDoorAA
import Derived.Test.YtogdfkilhpkloaaGreatDoorChecked
namespace Go.Proofs.YtogdfkilhpkloaaGreatDoor
open Go.RowKit Go.Sat Go.Maps

def strLt (a b : ByteArray) : Bool := Op.bytesLess a.toList b.toList
def strEq (a b : ByteArray) : Bool := a.toList == b.toList
def isSpan (a b : ByteArray) : Bool := decide (a.size ≤ 16) && decide (b.size ≤ 16) && (b.toList.isEmpty || (!strLt b a && !strEq b a))
theorem box_below (w : World) (o : Obj) : Below w.heap.size w (w.alloc o) := (Below.refl _ _).alloc (Nat.le_refl _) o
set_option maxRecDepth 100000 in
set_option maxHeartbeats 4000000 in
theorem spanis_calls (w : World) (a b : ByteArray) (ha : a.size ≤ 9223372036854775807) (hb : b.size ≤ 9223372036854775807) :
    Calls Tryz.prog 78 #[.agg #[.string a, .string b]] w fun e w' => e = .returned (.bool (isSpan a b)) ∧ w' = w.alloc (.cells #[.string a, .string b] 27) := by
  have Hb := Lib.hid (box_below w (.cells #[.string a, .string b] 27))
  go_enter Tryz.func78, Tryz.ntmps78
  go_wp2_with fail
  all_goals
    go_ret
    refine ⟨?_, rfl⟩
    congr 2
    simp_all [isSpan, strLt, strEq]
    try omega
end Go.Proofs.YtogdfkilhpkloaaGreatDoor

namespace Go.Proofs.YtogdfkilhpkloaaGreatDoor
open Go.RowKit Go.Sat Go.Maps

theorem results_rw2 {P : Program} {fn : Func} {p u : Tmp} {ty : TypeId} (h : fn.results = #[.cell p ty, .tmp u]) (tmps : Array Value) (w : World) (g : Nat) (t : TypeId) (cs : Array Value) (fr : Nat × Nat) (d : TypeDesc)
    (hp : tmps.getD p undef = .pointer (some ⟨g, 0, none⟩)) (hg : w.heap[g]? = some (.cells cs t fr))
    (hu : P.underlying ty = some d) (hd : (match d with | .struct _ | .array _ _ => true | _ => false) = true) (hi : (P.info? ty).map (·.size) = some cs.size) :
    (results fn tmps).run P w = .ok (.tuple #[.agg cs, tmps.getD u undef]) w := by
  rw [results_cell_tmp h, hp]
  simp [asAddr, run_loadVar_row w g t ty cs fr d hg hu hd hi]
def It.v (x : It) : Value := .agg #[.int .i64 x.a, .int .i64 x.b, .int .i64 x.c, .int .i64 x.d]
def It.o (x : It) : Obj := .cells #[.int .i64 x.a, .int .i64 x.b, .int .i64 x.c, .int .i64 x.d] 46
def RetB (b : Bool) (w : World) (e : Ending) (w' : World) : Prop := e = .returned (.bool b) ∧ Below w.heap.size w w'
end Go.Proofs.YtogdfkilhpkloaaGreatDoor

namespace Go.Proofs.YtogdfkilhpkloaaGreatDoor
open Go.RowKit Go.Sat Go.Maps

/-- The first components of y are added to x. -/
def It.upto (x y : It) (k : Nat) : It := ⟨if 0 < k then x.a + y.a else x.a, if 1 < k then x.b + y.b else x.b, if 2 < k then x.c + y.c else x.c, if 3 < k then x.d + y.d else x.d⟩
end Go.Proofs.YtogdfkilhpkloaaGreatDoor

namespace Go.Proofs.YtogdfkilhpkloaaGreatDoor
open Go.RowKit Go.Sat Go.Maps

theorem laidK : laidOutB Tryz.prog = true := by kernel_rfl
theorem intKeyed : Keyed Tryz.prog 3 := int_keyed Tryz.underlying3
theorem whichLaw : WideMaps.KeyLaw Tryz.prog 191 := deep_law_laid laidK (m := 2) (by omega) (of_decide_eq_true (by kernel_rfl)) (by kernel_rfl) (by rw [Tryz.underlying191])
theorem whichKeyed : Keyed Tryz.prog 191 := Keyed.of_law whichLaw
end Go.Proofs.YtogdfkilhpkloaaGreatDoor

namespace Go.Proofs.YtogdfkilhpkloaaGreatDoor
open Go.RowKit Go.Sat Go.Maps

def whichV (a : Int × Int) : Value := .agg #[.int .i64 a.1, .int .i64 a.2]
def whichOk (a : Int × Int) : Prop := (Lit.int .i64 a.1).wf = true ∧ (Lit.int .i64 a.2).wf = true
def whichL (a : Int × Int) : Lit := .string (keyBytes [.int .i64 a.1, .int .i64 a.2])
theorem which_key (a : Int × Int) (h : whichOk a) : keyOf Tryz.prog 191 (whichV a) = some (whichL a) := by
  have h1 : Tryz.prog.keyType 191 = true := by kernel_rfl
  have hc : Tryz.prog.cellsOf 191 = 2 := by kernel_rfl
  have hc3 : Tryz.prog.cellsOf 3 = 1 := by kernel_rfl
  obtain ⟨c, s⟩ := a
  obtain ⟨g1, g2⟩ := h
  have hf : (whichV (c, s)).formed Tryz.prog 191 = true := by simp [whichV, Value.formed, Tryz.underlying191, hc]
  have hn : ∃ n, Tryz.prog.types.size = n + 1 := ⟨Tryz.prog.types.size - 1, by kernel_rfl⟩
  have hl : ∀ m, (∃ n, m = n + 1) → Tryz.prog.keyLits (m + 1) 191 [.int .i64 c, .int .i64 s] = some [.int .i64 c, .int .i64 s] := by
    rintro m ⟨n, rfl⟩
    simp [Program.keyLits, Tryz.underlying191, Tryz.underlying3, hc, hc3, g1, g2]
  unfold keyOf
  rw [Tryz.underlying191]
  show (if (Tryz.prog.keyType 191 && (whichV (c, s)).formed Tryz.prog 191) = true then Option.map _ (Tryz.prog.keyLits (Tryz.prog.types.size + 1) 191 [.int .i64 c, .int .i64 s]) else none) = _
  rw [h1, hf, hl _ hn]
  rfl
def whichK : KeyR Tryz.prog 191 (Int × Int) where
  v := whichV
  lit := whichL
  ok := whichOk
  key a h := which_key a h
  inj a b ha hb e := by
    have h1 := which_key a ha
    have h2 := which_key b hb
    rw [← e] at h2
    have h3 := whichLaw.inj h1 h2
    unfold whichV at h3
    simp only [Value.agg.injEq, Array.mk.injEq, List.cons.injEq, Value.int.injEq, true_and, and_true] at h3
    exact Prod.ext h3.1 h3.2
  back x l h a ha e := by
    subst e
    exact whichLaw.inj h (which_key a ha)
/-- A purse. -/
noncomputable def itE : ElemR It := elemK It.v (fun x => .agg [.lit (.int .i64 x.a), .lit (.int .i64 x.b), .lit (.int .i64 x.c), .lit (.int .i64 x.d)])
  (fun x y h => by
    unfold It.v at h
    simp only [Value.agg.injEq, Array.mk.injEq, List.cons.injEq, Value.int.injEq, true_and, and_true] at h
    exact It.ext' h.1 h.2.1 h.2.2.1 h.2.2.2)
  (fun x y h => by
    simp only [DataW.agg.injEq, List.cons.injEq, DataW.lit.injEq, Lit.int.injEq, true_and, and_true] at h
    exact It.ext' h.1 h.2.1 h.2.2.1 h.2.2.2) It.zero
/-- A pointer to a block's head. -/
def ptrE : ElemR Nat where
  R := ptrR
  val b := .pointer (some ⟨b, 0, none⟩)
  g b := .held b
  z := .pointer none
  zd := .nil
  ok _ := True
  rd _ _ := rfl
  inv v y b h e := ptrR_inv h e
  zmk := rfl
  zinv v y h e := by
    unfold ptrR at h
    split at h
    · cases h
      cases e
    · rfl
    · cases h
def wf64 (a : Int) : Prop := (Lit.int .i64 a).wf = true
def It.wf (x : It) : Prop := wf64 x.a ∧ wf64 x.b ∧ wf64 x.c ∧ wf64 x.d
end Go.Proofs.YtogdfkilhpkloaaGreatDoor

namespace Go.Proofs.YtogdfkilhpkloaaGreatDoor
open Go.RowKit Go.Sat Go.Maps

/-! ### The model -/
structure FileM where
  data : Bs
  lasts : Nat

structure DiskM where
  room : Nat
  files : List (Bs × FileM)
  fuse : Option Nat

def okN (n : Bs) : Bool := decide (1 ≤ n.length) && decide (n.length ≤ 64)

namespace DiskM
def size (f : FileM) : Nat := f.data.length
def used (D : DiskM) : Nat := sumBy size D.files
def may (D : DiskM) (ns : List Bs) : Nat := if D.fuse = some 0 then 9 else if ns.all okN then 0 else 1
def done (D : DiskM) : DiskM := { D with fuse := D.fuse.map (· - 1) }
def cur (D : DiskM) (n : Bs) : FileM := (get n D.files).getD ⟨[], 0⟩
def full (D : DiskM) (n b : Bs) : Bool := decide (D.room < D.used + b.length) || ((get n D.files).isNone && decide (4096 ≤ D.files.length))
def append (D : DiskM) (n b : Bs) : DiskM × Nat :=
  if D.may [n] ≠ 0 then (D, D.may [n])
  else if D.full n b then (D, 6)
  else (done { D with files := put n ⟨(D.cur n).data ++ b, (D.cur n).lasts⟩ D.files }, 0)
/-- One of several names: a thing is done with the file that is there. -/
def each1 (g : Bs → FileM → List (Bs × FileM) → List (Bs × FileM)) (D : DiskM) (n : Bs) : DiskM × Nat :=
  if D.may [n] ≠ 0 then (D, D.may [n])
  else match get n D.files with
    | none => (D, 7)
    | some f => (done { D with files := g n f D.files }, 0)
def each (g : Bs → FileM → List (Bs × FileM) → List (Bs × FileM)) (D : DiskM) : List Bs → DiskM × Nat
  | [] => (D, 0)
  | n :: r => if (each1 g D n).2 = 0 then each g (each1 g D n).1 r else each1 g D n
def gSync (n : Bs) (f : FileM) (L : List (Bs × FileM)) : List (Bs × FileM) := put n ⟨f.data, f.data.length⟩ L
def gRemove (n : Bs) (_ : FileM) (L : List (Bs × FileM)) : List (Bs × FileM) := del n L
def sync (D : DiskM) (ns : List Bs) : DiskM × Nat := D.each gSync ns
def remove (D : DiskM) (ns : List Bs) : DiskM × Nat := D.each gRemove ns
def truncate (D : DiskM) (n : Bs) (k : Int) : DiskM × Nat :=
  if D.may [n] ≠ 0 then (D, D.may [n])
  else match get n D.files with
    | none => (D, 7)
    | some f => if k < 0 ∨ (f.data.length : Int) < k then (D, 1)
      else (done { D with files := put n ⟨f.data.take k.toNat, min f.lasts k.toNat⟩ D.files }, 0)
def rename (D : DiskM) (o n : Bs) : DiskM × Nat :=
  if D.may [o, n] ≠ 0 then (D, D.may [o, n])
  else match get o D.files with
    | none => (D, 7)
    | some f => (done { D with files := put n f (del o D.files) }, 0)
def stays (f : FileM) (k : Int) : Nat := f.lasts + (max 0 k).toNat % (f.data.length - f.lasts + 1)
def crashF (k : Int) (f : FileM) : FileM := ⟨f.data.take (stays f k), stays f k⟩
def crash (D : DiskM) (k : Int) : DiskM := { D with files := mp (crashF k) D.files, fuse := none }
def fresh (room : Nat) : DiskM := ⟨room, [], none⟩
def copy (D : DiskM) : DiskM := { D with fuse := none }

structure OK (D : DiskM) : Prop where
  srt : Srt D.files
  room : D.room ≤ 1073741824
  used : D.used ≤ D.room
  count : D.files.length ≤ 4096
  names : ∀ p ∈ D.files, okN p.1 = true
  lasts : ∀ p ∈ D.files, p.2.lasts ≤ p.2.data.length
  fuse : ∀ k, D.fuse = some k → k ≤ 9223372036854775807
end DiskM

/-! ### In memory -/
abbrev Own := Nat → Option (Nat × Bs)

structure FRep where
  fb : Nat
  v : Value
  f : FileM

structure FileAt (w : World) (own : Own) (n : Bs) (r : FRep) : Prop where
  cells : w.heap[r.fb]? = some (.cells #[r.v, .int .i64 (r.f.lasts : Int)] 128 (0, 0))
  ob : own r.fb = some (2, n)
  row : OwnB w 5 r.v r.f.data
  og : ∀ g, r.v.ownBlock = some g → own g = some (3, n)

def fbD (r : FRep) : DataW Nat := .held r.fb

structure DiskIn (w : World) (d m : Nat) (left : Int) (L : List (Bs × FRep)) (own : Own) (D : DiskM) : Prop where
  cells : w.heap[d]? = some (.cells #[.int .i64 (D.room : Int), .map (some m), .bool D.fuse.isSome, .int .i64 left] 91 (0, 0))
  left : ∀ k, D.fuse = some k → left = (k : Int)
  map : w.ownsMap Tryz.prog 9 ptrR m L.length (dm fbD L)
  files : D.files = mp FRep.f L
  srt : Srt L
  file : ∀ p ∈ L, FileAt w own p.1 p.2
  od : own d = some (0, [])
  om : own m = some (1, [])
  olt : ∀ k t, own k = some t → k < w.heap.size
  ok : D.OK

def DiskAt (w : World) (d : Nat) (D : DiskM) (own : Own) : Prop := ∃ m left L, DiskIn w d m left L own D

/-- own' owns what own did, or what is new. -/
def Ext (w : World) (own own' : Own) : Prop := ∀ k, k < w.heap.size → own k = none → own' k = none

def Has (own : Own) (k : Nat) : Prop := own k ≠ none

theorem FileAt.keep {w w' : World} {own : Own} {n : Bs} {r : FRep} (h : FileAt w own n r) (hb : ∀ k, own k ≠ none → w'.heap[k]? = w.heap[k]?) : FileAt w' own n r :=
  ⟨(hb _ (by rw [h.ob]; simp)).trans h.cells, h.ob, h.row.keep fun k hk => hb k (by rw [h.og k hk]; simp), h.og⟩

theorem DiskIn.keep {w w' : World} {d m : Nat} {left : Int} {L : List (Bs × FRep)} {own : Own} {D : DiskM} (h : DiskIn w d m left L own D) (hs : w.heap.size ≤ w'.heap.size)
    (hb : ∀ k, own k ≠ none → w'.heap[k]? = w.heap[k]?) : DiskIn w' d m left L own D where
  cells := (hb d (by rw [h.od]; simp)).trans h.cells
  left := h.left
  map := by
    obtain ⟨es, clock, hm, r⟩ := h.map
    exact ⟨es, clock, (hb m (by rw [h.om]; simp)).trans hm, r⟩
  files := h.files
  srt := h.srt
  file p hp := (h.file p hp).keep hb
  od := h.od
  om := h.om
  olt k t hk := Nat.lt_of_lt_of_le (h.olt k t hk) hs
  ok := h.ok

theorem DiskIn.chg {w w' : World} {S : Nat → Prop} {d m : Nat} {left : Int} {L : List (Bs × FRep)} {own : Own} {D : DiskM} (h : DiskIn w d m left L own D) (hc : Chg S w w') (hS : ∀ k, S k → own k = none) :
    DiskIn w' d m left L own D :=
  h.keep hc.size fun k hk => hc.block k (by
    cases ho : own k with
    | none => exact absurd ho hk
    | some t => exact h.olt k t ho) fun s => hk (hS k s)

theorem DiskAt.chg {w w' : World} {S : Nat → Prop} {d : Nat} {own : Own} {D : DiskM} (h : DiskAt w d D own) (hc : Chg S w w') (hS : ∀ k, S k → own k = none) : DiskAt w' d D own := by
  obtain ⟨m, left, L, h⟩ := h
  exact ⟨m, left, L, h.chg hc hS⟩

section
variable {w : World} {d m : Nat} {left : Int} {L : List (Bs × FRep)} {own : Own} {D : DiskM}

theorem DiskIn.c0 (h : DiskIn w d m left L own D) : w.cell? ⟨d, 0, none⟩ = some (.int .i64 (D.room : Int)) := cell_of h.cells rfl
theorem DiskIn.c1 (h : DiskIn w d m left L own D) : w.cell? ⟨d, 1, none⟩ = some (.map (some m)) := cell_of h.cells rfl
theorem DiskIn.c2 (h : DiskIn w d m left L own D) : w.cell? ⟨d, 2, none⟩ = some (.bool D.fuse.isSome) := cell_of h.cells rfl
theorem DiskIn.c3 (h : DiskIn w d m left L own D) : w.cell? ⟨d, 3, none⟩ = some (.int .i64 left) := cell_of h.cells rfl

theorem DiskIn.get (h : DiskIn w d m left L own D) (n : Bs) : Sat.get n D.files = (Sat.get n L).map FRep.f := by rw [h.files, mp_get]
theorem DiskIn.len (h : DiskIn w d m left L own D) : D.files.length = L.length := by rw [h.files, mp_len]
theorem DiskIn.used (h : DiskIn w d m left L own D) : D.used = sumBy (fun r : FRep => r.f.data.length) L := by
  unfold DiskM.used
  rw [h.files, mp_sum]
  rfl
theorem DiskIn.dlt (h : DiskIn w d m left L own D) : d < w.heap.size := h.olt d _ h.od
theorem DiskIn.mlt (h : DiskIn w d m left L own D) : m < w.heap.size := h.olt m _ h.om
theorem DiskIn.dm_ne (h : DiskIn w d m left L own D) : d ≠ m := by
  intro e
  have h1 := h.od
  rw [e, h.om] at h1
  simp at h1
end

theorem le_sum {α : Type} {f : α → Nat} {L : List (Bs × α)} {n : Bs} {a : α} (h : Srt L) (hg : get n L = some a) : f a ≤ sumBy f L := by
  rw [sum_del (f := f) h hg]
  omega

end Go.Proofs.YtogdfkilhpkloaaGreatDoor

namespace Go.Proofs.YtogdfkilhpkloaaGreatDoor
open Go.RowKit Go.Sat Go.Maps

theorem keyLaw : Keyed Tryz.prog 9 := string_keyed Tryz.underlying9
theorem zeroFile (w : World) : (zeroValue 126).run Tryz.prog w = .ok (.pointer none) w := by kernel_rfl

/-! ### New -/
set_option maxHeartbeats 400000 in
theorem new_walk (n : Int) (w : World) (h0 : 0 ≤ n) (h1 : n ≤ 1073741824) :
    Calls Tryz.prog 11 #[.int .i64 n] w fun e w' => e = .returned (.tuple #[.pointer (some ⟨w.heap.size + 1, 0, none⟩), .int .i64 0]) ∧ w' = (w.alloc (.map #[] 0)).alloc (.cells #[.int .i64 n, .map (some w.heap.size), .bool false, .int .i64 0] 91) := by
  have hmm := @run_makeMap Tryz.prog
  go_enter Tryz.func11, Tryz.ntmps11
  go_wp2
  go_ret2
  exact ⟨rfl, rfl⟩

theorem ok_fresh (n : Nat) (h : n ≤ 1073741824) : (DiskM.fresh n).OK where
  srt := srt_nil
  room := h
  used := Nat.zero_le _
  count := Nat.zero_le _
  names p hp := by simp [DiskM.fresh] at hp
  lasts p hp := by simp [DiskM.fresh] at hp
  fuse k hk := by simp [DiskM.fresh] at hk

/-- disk.New: a new disk, of new blocks alone. -/
theorem new_calls (n : Int) (w : World) (h0 : 0 ≤ n) (h1 : n ≤ 1073741824) :
    Calls Tryz.prog 11 #[.int .i64 n] w fun e w' => ∃ d own, e = .returned (.tuple #[.pointer (some ⟨d, 0, none⟩), .int .i64 0]) ∧ DiskAt w' d (DiskM.fresh n.toNat) own ∧ Chg (fun _ => False) w w' ∧
      (∀ k, k < w.heap.size → own k = none) := by
  refine (new_walk n w h0 h1).mono ?_
  rintro e w' ⟨rfl, rfl⟩
  refine ⟨w.heap.size + 1, fun k => if k = w.heap.size + 1 then some (0, []) else if k = w.heap.size then some (1, []) else none, rfl, ⟨w.heap.size, 0, [], ?_⟩, ((Chg.alloc w _).trans (Chg.alloc _ _) fun _ _ h => h), fun k hk => ?_⟩
  · have hs : (w.alloc (.map #[] 0)).heap.size = w.heap.size + 1 := by simp
    refine ⟨?_, fun k hk => by simp [DiskM.fresh] at hk, ?_, rfl, srt_nil, fun p hp => by simp at hp, by simp, by simp, fun k t hk => ?_, ok_fresh _ (by omega)⟩
    · have := new_block (w.alloc (.map #[] 0)) (.cells #[.int .i64 n, .map (some w.heap.size), .bool false, .int .i64 0] 91)
      rw [hs] at this
      rw [this]
      simp only [DiskM.fresh, Option.isSome_none]
      rw [show ((n.toNat : Int)) = n by omega]
    · exact (World.ownsMap_made w Tryz.prog 9 ptrR).alloc _
    · split at hk
      · simp; omega
      · split at hk
        · simp; omega
        · cases hk
  · simp only
    rw [if_neg (by omega), if_neg (by omega)]

/-! ### may -/
def StrsAt (w : World) (p : Option Addr) (ss : List ByteArray) : Prop :=
  ss = [] ∨ ∃ b o, p = some ⟨b, o, none⟩ ∧ ∀ i s, ss[i]? = some s → w.cell? ⟨b, o + i, none⟩ = some (.string s)

def nm (s : ByteArray) : Bs := s.data.toList
theorem nm_len (s : ByteArray) : (nm s).length = s.size := by simp [nm]
def namesE (ss : List ByteArray) : Int := if (ss.map nm).all okN then 0 else 1

theorem okN_nm (s : ByteArray) : okN (nm s) = (decide (1 ≤ s.size) && decide (s.size ≤ 64)) := by simp [okN, nm_len]

set_option maxHeartbeats 400000 in
theorem may_burnt (d : Nat) (p : Option Addr) (n c : Nat) (w : World) (h2 : w.cell? ⟨d, 2, none⟩ = some (.bool true)) (h3 : w.cell? ⟨d, 3, none⟩ = some (.int .i64 0)) :
    Calls Tryz.prog 178 #[.pointer (some ⟨d, 0, none⟩), .slice p n c] w fun e w' => e = .returned (.int .i64 9) ∧ w = w' := by
  go_enter Tryz.func178, Tryz.ntmps178
  go_wp2
  go_ret
  exact ⟨rfl, rfl⟩

theorem take_ok {ss : List ByteArray} {k : Nat} (hlt : k < ss.length) (h : ((ss.take k).map nm).all okN = true) (hk : okN (nm ss[k]) = true) : ((ss.take (k + 1)).map nm).all okN = true := by
  rw [List.take_succ_eq_append_getElem hlt, List.map_append, List.all_append, h]
  simp [hk]

theorem bad_at {ss : List ByteArray} {k : Nat} (hlt : k < ss.length) (hk : okN (nm ss[k]) = false) : namesE ss = 1 := by
  have : (ss.map nm).all okN = false := by
    rw [List.all_eq_false]
    exact ⟨nm ss[k], List.mem_map.2 ⟨_, List.getElem_mem hlt, rfl⟩, by rw [hk]; simp⟩
  simp [namesE, this]

set_option maxHeartbeats 1000000 in
theorem may_names (d : Nat) (p : Option Addr) (ss : List ByteArray) (c : Nat) (w : World) (f : Bool) (l : Int) (h2 : w.cell? ⟨d, 2, none⟩ = some (.bool f)) (h3 : w.cell? ⟨d, 3, none⟩ = some (.int .i64 l))
    (hf : f = false ∨ l ≠ 0) (hs : StrsAt w p ss) (hm : ss.length ≤ 140737488355328) (hsz : ∀ s ∈ ss, s.size ≤ 9223372036854775807) :
    Calls Tryz.prog 178 #[.pointer (some ⟨d, 0, none⟩), .slice p ss.length c] w fun e w' => e = .returned (.int .i64 (namesE ss)) ∧ w = w' := by
  have hfl : f = false ∨ (f = true ∧ (l == 0) = false) := by
    cases f with
    | false => exact .inl rfl
    | true =>
      rcases hf with h | h
      · cases h
      · exact .inr ⟨rfl, by simpa using h⟩
  clear hf
  rcases hfl with rfl | ⟨rfl, hl⟩
  all_goals
    go_enter Tryz.func178, Tryz.ntmps178
    go_wp2
    go_loop [24] (fun i => ∃ k : Nat, k ≤ ss.length ∧ i = .int .i64 k ∧ ((ss.take k).map nm).all okN = true) (fun i => ss.length - (intOf i).toNat)
    case atStart => exact ⟨0, Nat.zero_le _, rfl, rfl⟩
    case round =>
      obtain ⟨k, hk, rfl, hall⟩ := hrel
      by_cases hlt : k < ss.length
      · have hss : ss[k]? = some ss[k] := List.getElem?_eq_getElem hlt
        rcases hs with h | ⟨b, o, rfl, hc⟩
        · subst h
          simp at hlt
        have hcell := hc k _ hss
        have hz : ss[k].size ≤ 9223372036854775807 := hsz _ (List.getElem_mem hlt)
        have Hkey := Lib.hid (take_ok hlt hall)
        have Hno := Lib.hid (bad_at hlt)
        clear hc hsz hall hss
        rw [okN_nm] at Hkey Hno
        generalize ss[k] = s at *
        by_cases h1 : 1 ≤ s.size
        · by_cases h64 : s.size ≤ 64
          · go_wp2
            go_round
            case rel => exact ⟨k + 1, by omega, by go_num, Hkey.out (by simp [h1, h64])⟩
            case measure => simp [intOf]; omega
          · go_wp2
            go_ret
            exact ⟨by rw [Hno.out (by simp [h64])]; rfl, rfl⟩
        · go_wp2
          go_ret
          exact ⟨by rw [Hno.out (by simp [h1])]; rfl, rfl⟩
      · have Hall := Lib.hid hall
        clear hall
        go_wp2
        go_ret
        have h := Hall.out
        rw [List.take_of_length_le (by omega)] at h
        exact ⟨by simp [namesE, h], rfl⟩

/-- may, of a disk: what the model says; nothing is turned. -/
theorem may_calls {w : World} {d m : Nat} {left : Int} {L : List (Bs × FRep)} {own : Own} {D : DiskM} (h : DiskIn w d m left L own D) (p : Option Addr) (ss : List ByteArray) (c : Nat)
    (hs : StrsAt w p ss) (hm : ss.length ≤ 140737488355328) (hsz : ∀ s ∈ ss, s.size ≤ 9223372036854775807) :
    Calls Tryz.prog 178 #[.pointer (some ⟨d, 0, none⟩), .slice p ss.length c] w fun e w' => e = .returned (.int .i64 (D.may (ss.map nm) : Int)) ∧ w = w' := by
  have h2 := h.c2
  have h3 := h.c3
  by_cases hb : D.fuse = some 0
  · have hl := h.left 0 hb
    rw [hb] at h2
    subst hl
    refine (may_burnt d p ss.length c w h2 h3).mono ?_
    rintro e w' ⟨rfl, rfl⟩
    exact ⟨by simp [DiskM.may, hb], rfl⟩
  · have hf : D.fuse.isSome = false ∨ left ≠ 0 := by
      cases hfu : D.fuse with
      | none => exact .inl rfl
      | some k =>
        refine .inr ?_
        rw [h.left k hfu]
        intro e
        have : k = 0 := by omega
        subst this
        exact hb hfu
    refine (may_names d p ss c w _ left h2 h3 hf hs hm hsz).mono ?_
    rintro e w' ⟨rfl, rfl⟩
    refine ⟨?_, rfl⟩
    unfold namesE DiskM.may
    rw [if_neg hb]
    split <;> rfl

/-! ### done -/
set_option maxHeartbeats 400000 in
theorem done_walk (d : Nat) (w : World) (f : Bool) (l : Int) (h2 : w.cell? ⟨d, 2, none⟩ = some (.bool f)) (h3 : w.cell? ⟨d, 3, none⟩ = some (.int .i64 l)) (hz : w.frozen? ⟨d, 3, none⟩ = false) (h1 : f = true → 1 ≤ l ∧ l ≤ 9223372036854775807) :
    Calls Tryz.prog 180 #[.pointer (some ⟨d, 0, none⟩)] w fun e w' => e = .returned (.int .i64 0) ∧ (if f then w.setCell ⟨d, 3, none⟩ (.int .i64 (l - 1)) else w) = w' := by
  cases f with
  | false =>
    go_enter Tryz.func180, Tryz.ntmps180
    go_wp2
    go_ret
    exact ⟨rfl, rfl⟩
  | true =>
    obtain ⟨hl, h9⟩ := h1 rfl
    clear h1
    go_enter Tryz.func180, Tryz.ntmps180
    go_wp2
    go_ret
    exact ⟨rfl, rfl⟩

theorem ok_done {D : DiskM} (h : D.OK) : D.done.OK where
  srt := h.srt
  room := h.room
  used := h.used
  count := h.count
  names := h.names
  lasts := h.lasts
  fuse k hk := by
    simp only [DiskM.done, Option.map_eq_some_iff] at hk
    obtain ⟨j, hj, rfl⟩ := hk
    have := h.fuse j hj
    omega

/-- done, of a disk whose fuse is not burnt. -/
theorem done_calls {w : World} {d m : Nat} {left : Int} {L : List (Bs × FRep)} {own : Own} {D : DiskM} (h : DiskIn w d m left L own D) (hf : D.fuse ≠ some 0) :
    Calls Tryz.prog 180 #[.pointer (some ⟨d, 0, none⟩)] w fun e w' => e = .returned (.int .i64 0) ∧ DiskAt w' d D.done own ∧ Chg (fun k => k = d) w w' := by
  refine (done_walk d w _ left h.c2 h.c3 (frozen_of h.cells 3) ?_).mono ?_
  · intro hs
    cases hfu : D.fuse with
    | none => rw [hfu] at hs; cases hs
    | some k =>
      rw [h.left k hfu]
      have : k ≠ 0 := fun e => hf (by rw [hfu, e])
      have := h.ok.fuse k hfu
      omega
  · rintro e w' ⟨rfl, rfl⟩
    refine ⟨rfl, ?_, ?_⟩
    · cases hfu : D.fuse with
      | none =>
        refine ⟨m, left, L, ?_⟩
        have hd : D.done = D := by
          cases D
          simp only at hfu
          subst hfu
          rfl
        rw [hd]
        exact h
      | some k =>
        refine ⟨m, left - 1, L, ?_⟩
        simp only [Option.isSome_some, if_true]
        have hk : ∀ j, j ≠ d → (w.setCell ⟨d, 3, none⟩ (.int .i64 (left - 1))).heap[j]? = w.heap[j]? := fun j hj => set_other _ hj
        have hne : ∀ j t, own j = some t → t ≠ (0, []) → j ≠ d := fun j t hj ht e => by
          rw [e, h.od] at hj
          exact ht (Option.some.inj hj).symm
        refine ⟨?_, ?_, ?_, h.files, h.srt, fun p hp => ?_, h.od, h.om, fun j t hj => by simpa [World.setCell] using h.olt j t hj, ok_done h.ok⟩
        · rw [set_block h.cells]
          simp [DiskM.done, hfu]
        · intro j hj
          simp only [DiskM.done, hfu, Option.map_some, Option.some.injEq] at hj
          have h1 := h.left k hfu
          have : k ≠ 0 := fun e => hf (by rw [hfu, e])
          omega
        · exact h.map.setCell h.dm_ne.symm _
        · have hp' := h.file p hp
          refine ⟨(hk _ (hne _ _ hp'.ob (by simp))).trans hp'.cells, hp'.ob, hp'.row.keep fun g hg => hk _ (hne _ _ (hp'.og g hg) (by simp)), hp'.og⟩
    · split
      · exact Chg.setCell w ⟨d, 3, none⟩ _
      · exact Chg.refl _ _

/-! ### Used -/
set_option maxHeartbeats 1000000 in
theorem used_walk {w : World} {d m : Nat} {left : Int} {L : List (Bs × FRep)} {own : Own} {D : DiskM} (h : DiskIn w d m left L own D) :
    Calls Tryz.prog 179 #[.pointer (some ⟨d, 0, none⟩)] w fun e w' => e = .returned (.int .i64 (D.used : Int)) ∧ Below w.heap.size w w' := by
  have h1 := h.c1
  obtain ⟨S, hS⟩ : ∃ S, S = D.used := ⟨_, rfl⟩
  have hSL : sumBy (fun r : FRep => r.f.data.length) L = S := by rw [hS, h.used]
  have hbig : S ≤ 1073741824 := by
    have := h.ok.used
    have := h.ok.room
    omega
  rw [← hS]
  have hown := h.map
  have hsrt := h.srt
  have hL : Hid (DiskIn w d m left L own D) := h
  clear h hS
  go_enter Tryz.func179, Tryz.ntmps179
  go_wp2_with (first | (at_range; refine wpList_range_own _ rfl _ 89 rfl 9 126 keyLaw Tryz.underlying89 ptrR m L.length (dm fbD L) rfl hown ?_; intro w0 hrg0 hg0 hs0))
  go_frame
  go_loopw [3] (fun acc wr => ∃ rest cnt, wr.ranges Tryz.prog 9 ptrR m w.heap.size L.length (dm fbD L) rest cnt ∧ (∃ k : Nat, acc = .int .i64 (k : Int) ∧ k + sumBy (fun r : FRep => r.f.data.length) (rem rest L) = S) ∧ Below w.heap.size w wr) (fun _ wr => wr.rangeLeft m w.heap.size)
  case atStart =>
    refine ⟨_, _, hrg0, ⟨0, rfl, ?_⟩, (Below.refl _ _).grown hg0 (Nat.le_refl _) (fun _ e => by cases e)⟩
    rw [show rem (Maps.has (dm fbD L)) L = L from rem_start _ L, hSL, Nat.zero_add]
  case round =>
    obtain ⟨rest, cnt, hrg, ⟨k, rfl, hk⟩, hbel⟩ := hrel
    have Hk := Lib.hid hk
    clear hk hrg0 hg0 hs0 hSL hown
    go_wp2_with (first | (at_next; refine wpList_next_ptr _ rfl _ rfl 9 Tryz.underlying9 keyLaw FRep.fb L m w.heap.size L.length _ _ rfl hrg ?_ ?_))
    · intro hl
      have hS : k = S := by
        have := Hk.out
        rw [rem_end hl] at this
        simpa [sumBy] using this
      subst hS
      go_wp2
      go_ret
      exact ⟨rfl, hbel⟩
    · intro s x w1 cnt1 hgt hl hs hrg1 hlt hg1 hs1 hen
      have hx := hL.out.file _ (get_mem hgt)
      have hbel1 : Below w.heap.size w w1 := hbel.grown hg1 hbel.size (fun j e => by cases e; exact Nat.le_refl _)
      have hcell : w1.cell? ⟨x.fb, 0, none⟩ = some x.v := (hbel1.cell (p := ⟨x.fb, 0, none⟩) (lt_of_block hx.cells)).trans (cell_of hx.cells rfl)
      obtain ⟨p, c, hv⟩ : ∃ p c, x.v = .slice p x.f.data.length c := by
        obtain ⟨_, p, c, hv, _⟩ := hx.row.holds
        exact ⟨p, c, hv⟩
      have hsum := rem_sum (f := fun r : FRep => r.f.data.length) hsrt hgt hl
      have hle : k + x.f.data.length ≤ S := by
        have := Hk.out
        omega
      have hk1 : k + x.f.data.length + sumBy (fun r : FRep => r.f.data.length) (rem (fun z => rest z && !z.sameKey (.string s.data.toList)) L) = S := by
        have := Hk.out
        omega
      have Hk1 := Lib.hid hk1
      have Hm := Lib.hid (show w1.rangeLeft m w.heap.size < wr.rangeLeft m w.heap.size by rw [hrg1.left_eq, hrg.left_eq]; exact hlt)
      rw [hv] at hcell
      clear hk1 hsum hgt hl hg1 hs1 hlt hrg hbel hx hv Hk
      generalize x.f.data.length = j at *
      go_wp2
      go_roundw
      case rel => exact ⟨_, _, hrg1, ⟨k + j, by go_num, Hk1.out⟩, hbel1⟩
      case measure => exact Hm.out
end Go.Proofs.YtogdfkilhpkloaaGreatDoor

namespace Go.Proofs.YtogdfkilhpkloaaGreatDoor
open Go.RowKit Go.Sat Go.Maps

/-- A book of no offers, as it is made. -/
def BookO : Obj := .cells #[.slice none 0 0, .slice none 0 0, .slice none 0 0, .slice none 0 0, .slice none 0 0, .slice none 0 0, .slice none 0 0, .slice none 0 0, .int .i64 0] 373 (0, 0)
def VaultO (pm bb : Nat) : Obj := .cells #[.map (some pm), .pointer (some ⟨bb, 0, none⟩), .int .i64 1] 280 (0, 0)
/-- A vault at block vb: what purses have. -/
structure VaultIn (w : World) (vb pm bb : Nat) (V : List (Bs × It)) : Prop where
  cells : w.heap[vb]? = some (VaultO pm bb)
  map : MapIs w Tryz.prog 9 (strK Tryz.underlying9) itE pm V
  book : w.heap[bb]? = some BookO
  n1 : vb ≠ pm
  n2 : vb ≠ bb
  n3 : pm ≠ bb
theorem VaultIn.keep {w w' : World} {vb pm bb : Nat} {V : List (Bs × It)} (h : VaultIn w vb pm bb V) (hs : ∀ k, k = vb ∨ k = pm ∨ k = bb → w'.heap[k]? = w.heap[k]?) : VaultIn w' vb pm bb V :=
  ⟨(hs vb (.inl rfl)).trans h.cells, h.map.keep (hs pm (.inr (.inl rfl))), (hs bb (.inr (.inr rfl))).trans h.book, h.n1, h.n2, h.n3⟩
theorem VaultIn.lt {w : World} {vb pm bb : Nat} {V : List (Bs × It)} (h : VaultIn w vb pm bb V) {k : Nat} (hk : k = vb ∨ k = pm ∨ k = bb) : k < w.heap.size := by
  rcases hk with rfl | rfl | rfl
  · exact lt_of_block h.cells
  · exact h.map.lt
  · exact lt_of_block h.book
/-- What a thing done with a vault leaves. -/
def VTold (w : World) (vb pm bb : Nat) (V' : List (Bs × It)) (w' : World) : Prop := VaultIn w' vb pm bb V' ∧ Chg (fun k => k = pm) w w'
end Go.Proofs.YtogdfkilhpkloaaGreatDoor

namespace Go.Proofs.YtogdfkilhpkloaaGreatDoor
open Go.RowKit Go.Sat Go.Maps

/-- What stays while a region of Put is walked. -/
structure PutS (w : World) (vb pm bb b : Nat) (V : List (Bs × It)) (x : It) (w' : World) : Prop where
  v : VaultIn w' vb pm bb V
  x : w'.heap[b]? = some (It.o x)
  bel : Below w.heap.size w w'
theorem PutS.next {w w1 w2 : World} {vb pm bb b : Nat} {V : List (Bs × It)} {x : It} (h : PutS w vb pm bb b V x w1) (hb : Below w1.heap.size w1 w2) : PutS w vb pm bb b V x w2 :=
  ⟨h.v.keep fun k hk => hb.block k (h.v.lt hk), (hb.block b (lt_of_block h.x)).trans h.x, h.bel.trans (hb.mono h.bel.size)⟩
theorem PutS.drew {w w1 : World} {vb pm bb b : Nat} {V : List (Bs × It)} {x : It} (h : PutS w vb pm bb b V x w1) : PutS w vb pm bb b V x w1.drew := h.next ⟨rfl, rfl, rfl, Nat.le_refl _, fun _ _ => rfl⟩
end Go.Proofs.YtogdfkilhpkloaaGreatDoor

namespace Go.Sat
theorem put_same {α : Type} {L : List (Bs × α)} (h : Srt L) {n : Bs} {a : α} (hg : get n L = some a) : put n a L = L :=
  srt_ext (srt_put h) h fun m => by
    by_cases hm : m = n
    · subst hm
      rw [get_put_same h, hg]
    · rw [get_put_other h a hm]

theorem dm_mp {H α : Type} (g : α → DataW H) (f : α → Nat) (hgf : ∀ a b, f a = f b → g a = g b) {L M : List (Bs × α)} (h : mp f L = mp f M) : dm g L = dm g M := by
  have : ∀ L M : List (Bs × α), mp f L = mp f M → L.map (fun p => (Lit.string p.1, g p.2)) = M.map (fun p => (Lit.string p.1, g p.2)) := by
    intro L
    induction L with
    | nil =>
      intro M hM
      cases M with
      | nil => rfl
      | cons y s => simp [mp] at hM
    | cons x r ih =>
      intro M hM
      cases M with
      | nil => simp [mp] at hM
      | cons y s =>
        simp only [mp, List.map_cons, List.cons.injEq, Prod.mk.injEq] at hM
        obtain ⟨⟨e1, e2⟩, e3⟩ := hM
        simp only [List.map_cons]
        rw [ih s e3, e1, hgf _ _ e2]
  unfold dm
  rw [this L M h]
end Go.Sat

namespace Go.Proofs.YtogdfkilhpkloaaGreatDoor
open Go.RowKit Go.Sat Go.Maps

theorem fbD_of {a b : FRep} (h : a.fb = b.fb) : fbD a = fbD b := by simp [fbD, h]

section
variable {w : World} {d m : Nat} {left : Int} {L : List (Bs × FRep)} {own : Own} {D : DiskM}

theorem DiskIn.fileAt (h : DiskIn w d m left L own D) {n : Bs} {r : FRep} (hg : Sat.get n L = some r) : FileAt w own n r := h.file _ (get_mem hg)

theorem DiskIn.ne_of (_h : DiskIn w d m left L own D) {j k : Nat} {s t : Nat × Bs} (hj : own j = some s) (hk : own k = some t) (hst : s ≠ t) : j ≠ k := fun e => by
  rw [e, hk] at hj
  exact hst (Option.some.inj hj).symm

/-- One file is another one (in the same place), its row the same block's or a new one's. -/
theorem DiskIn.upd (h : DiskIn w d m left L own D) {n : Bs} {r : FRep} (hg : Sat.get n L = some r) {w' : World} {v' : Value} {f' : FileM}
    (hs : w.heap.size ≤ w'.heap.size) (hb : ∀ k, k < w.heap.size → k ≠ r.fb → some k ≠ r.v.ownBlock → w'.heap[k]? = w.heap[k]?)
    (hc : w'.heap[r.fb]? = some (.cells #[v', .int .i64 (f'.lasts : Int)] 128 (0, 0))) (hrow : OwnB w' 5 v' f'.data)
    (hloc : ∀ g, v'.ownBlock = some g → r.v.ownBlock = some g ∨ w.heap.size ≤ g) (hok : DiskM.OK { D with files := put n f' D.files }) :
    ∃ own', DiskIn w' d m left (put n ⟨r.fb, v', f'⟩ L) own' { D with files := put n f' D.files } ∧ Ext w own own' := by
  have hr := h.fileAt hg
  have old : ∀ g, v'.ownBlock = some g → own g = some (3, n) ∨ own g = none := fun g hgv => by
    rcases hloc g hgv with h1 | h1
    · exact .inl (hr.og g h1)
    · cases ho : own g with
      | none => exact .inr rfl
      | some t => have := h.olt g t ho; omega
  have glt : ∀ g, v'.ownBlock = some g → g < w'.heap.size := fun g hgv => OwnR.lt hrow hgv
  refine ⟨fun k => if v'.ownBlock = some k then some (3, n) else own k, ?_, fun k hk ho => ?_⟩
  · have keep : ∀ k t, own k = some t → t ≠ (2, n) → t ≠ (3, n) → w'.heap[k]? = w.heap[k]? := fun k t hk h2 h3 =>
      hb k (h.olt k t hk) (fun e => h2 (by rw [e, hr.ob] at hk; exact (Option.some.inj hk).symm)) (fun e => h3 (by rw [hr.og k e.symm] at hk; exact (Option.some.inj hk).symm))
    have ownk : ∀ k t, own k = some t → t ≠ (3, n) → (if v'.ownBlock = some k then some (3, n) else own k) = some t := fun k t hk h3 => by
      rw [if_neg fun e => ?_, hk]
      rcases old k e with h1 | h1
      · rw [hk] at h1
        exact h3 (Option.some.inj h1)
      · rw [hk] at h1
        cases h1
    refine ⟨(keep d _ h.od (by simp) (by simp)).trans h.cells, h.left, ?_, ?_, srt_put h.srt, ?_, ownk d _ h.od (by simp), ownk m _ h.om (by simp), ?_, hok⟩
    · have e1 : mp FRep.fb (put n ⟨r.fb, v', f'⟩ L) = mp FRep.fb L := by
        rw [mp_put]
        exact put_same (mp_srt h.srt) (by rw [mp_get, hg]; rfl)
      have e2 : (put n (⟨r.fb, v', f'⟩ : FRep) L).length = L.length := by rw [← mp_len FRep.fb, e1, mp_len]
      rw [dm_mp fbD FRep.fb (fun _ _ => fbD_of) e1, e2]
      obtain ⟨es, clock, hm, rest⟩ := h.map
      exact ⟨es, clock, (keep m _ h.om (by simp) (by simp)).trans hm, rest⟩
    · rw [mp_put, ← h.files]
    · intro p hp
      rcases mem_put.1 hp with rfl | ⟨hp, hne⟩
      · refine ⟨hc, ownk _ _ hr.ob (by simp), hrow, fun g hgv => ?_⟩
        show (if v'.ownBlock = some g then some (3, n) else own g) = some (3, n)
        rw [if_pos hgv]
      · have hp' := h.file p hp
        refine ⟨(keep _ _ hp'.ob (by simpa using hne) (by simp)).trans hp'.cells, ownk _ _ hp'.ob (by simp), hp'.row.keep fun g hgv => keep g _ (hp'.og g hgv) (by simp) (by simpa using hne), fun g hgv => ownk _ _ (hp'.og g hgv) (by simpa using hne)⟩
    · intro k t hk
      split at hk
      · rename_i e
        exact glt k e
      · exact Nat.lt_of_lt_of_le (h.olt k t hk) hs
  · show (if v'.ownBlock = some k then some (3, n) else own k) = none
    rw [if_neg fun e => ?_, ho]
    rcases hloc k e with h1 | h1
    · rw [hr.og k h1] at ho
      cases ho
    · omega

/-- A file that was not there: a new block for it, the map holds it too. -/
theorem DiskIn.add (h : DiskIn w d m left L own D) {n : Bs} (_hg : Sat.get n L = none) {w' : World} {r : FRep} (hs : w.heap.size ≤ w'.heap.size) (hb : ∀ k, k < w.heap.size → k ≠ m → w'.heap[k]? = w.heap[k]?)
    (hm : ∃ q, w'.ownsMap Tryz.prog 9 ptrR m q ((dm fbD L).put (.string n) (fbD r)))
    (hc : w'.heap[r.fb]? = some (.cells #[r.v, .int .i64 (r.f.lasts : Int)] 128 (0, 0))) (hn : w.heap.size ≤ r.fb) (hrow : OwnB w' 5 r.v r.f.data) (hv : ∀ g, r.v.ownBlock = some g → w.heap.size ≤ g ∧ g ≠ r.fb)
    (hok : DiskM.OK { D with files := put n r.f D.files }) :
    ∃ own', DiskIn w' d m left (put n r L) own' { D with files := put n r.f D.files } ∧ Ext w own own' := by
  have none_ge : ∀ k, w.heap.size ≤ k → own k = none := fun k hk => by
    cases ho : own k with
    | none => rfl
    | some t => have := h.olt k t ho; omega
  refine ⟨fun k => if k = r.fb then some (2, n) else if r.v.ownBlock = some k then some (3, n) else own k, ?_, fun k hk ho => ?_⟩
  · have ownk : ∀ k t, own k = some t → (if k = r.fb then some (2, n) else if r.v.ownBlock = some k then some (3, n) else own k) = some t := fun k t hk => by
      have := h.olt k t hk
      rw [if_neg (by omega), if_neg (fun e => by have := (hv k e).1; omega), hk]
    have keep : ∀ k t, own k = some t → t ≠ (1, []) → w'.heap[k]? = w.heap[k]? := fun k t hk h1 => hb k (h.olt k t hk) fun e => h1 (by rw [e, h.om] at hk; exact (Option.some.inj hk).symm)
    refine ⟨(keep d _ h.od (by simp)).trans h.cells, h.left, ?_, ?_, srt_put h.srt, ?_, ownk d _ h.od, ownk m _ h.om, ?_, hok⟩
    · obtain ⟨q, hq⟩ := hm
      rw [dm_put] at hq
      have := exactly hq
      rwa [dm_size] at this
    · rw [mp_put, ← h.files]
    · intro p hp
      rcases mem_put.1 hp with rfl | ⟨hp, hne⟩
      · refine ⟨hc, by simp, hrow, fun g hgv => ?_⟩
        show (if g = r.fb then some (2, n) else if r.v.ownBlock = some g then some (3, n) else own g) = some (3, n)
        rw [if_neg (hv g hgv).2, if_pos hgv]
      · have hp' := h.file p hp
        exact ⟨(keep _ _ hp'.ob (by simp)).trans hp'.cells, ownk _ _ hp'.ob, hp'.row.keep fun g hgv => keep g _ (hp'.og g hgv) (by simp), fun g hgv => ownk _ _ (hp'.og g hgv)⟩
    · intro k t hk
      split at hk
      · rename_i e
        rw [e]
        exact lt_of_block hc
      · split at hk
        · rename_i e
          exact OwnR.lt hrow e
        · exact Nat.lt_of_lt_of_le (h.olt k t hk) hs
  · show (if k = r.fb then some (2, n) else if r.v.ownBlock = some k then some (3, n) else own k) = none
    rw [if_neg (by omega), if_neg (fun e => by have := (hv k e).1; omega), ho]

/-- The map holds another list of the files that are there: names go, or are given anew. -/
theorem DiskIn.remap (h : DiskIn w d m left L own D) {w' : World} {L' : List (Bs × FRep)} {D' : DiskM} (hs : w.heap.size ≤ w'.heap.size) (hb : ∀ k, k < w.heap.size → k ≠ m → w'.heap[k]? = w.heap[k]?)
    (hm : ∃ q, w'.ownsMap Tryz.prog 9 ptrR m q (dm fbD L')) (hL : Srt L') (hroom : D'.room = D.room) (hfuse : D'.fuse = D.fuse) (hfiles : D'.files = mp FRep.f L') (hok : D'.OK)
    (hfrom : ∀ p ∈ L', ∃ q ∈ L, q.2 = p.2) (hone : ∀ p ∈ L', ∀ q ∈ L', p.2.fb = q.2.fb → p = q) :
    ∃ own', DiskIn w' d m left L' own' D' ∧ Ext w own own' := by
  classical
  -- a name for each block that a file of L' has
  let nameOf : Bs → Option Bs := fun n => (L'.find? fun p => L.any fun q => decide (q.1 = n ∧ q.2.fb = p.2.fb)).map (·.1)
  have uniq : ∀ p ∈ L', ∀ q ∈ L, q.2 = p.2 → nameOf q.1 = some p.1 := by
    intro p hp q hq e
    have hex : ∃ y, (L'.find? fun p => L.any fun q' => decide (q'.1 = q.1 ∧ q'.2.fb = p.2.fb)) = some y := by
      rw [← Option.isSome_iff_exists, List.find?_isSome]
      exact ⟨p, hp, List.any_eq_true.2 ⟨q, hq, by simp [e]⟩⟩
    obtain ⟨y, hy⟩ := hex
    have h1 := List.find?_some hy
    have h2 := List.mem_of_find?_eq_some hy
    obtain ⟨q', hq', e'⟩ := List.any_eq_true.1 h1
    simp only [decide_eq_true_eq] at e'
    have hqq : q' = q := key_uniq h.srt hq' hq e'.1
    have : y = p := hone y h2 p hp (by rw [← e'.2, hqq, e])
    show (L'.find? fun p => L.any fun q' => decide (q'.1 = q.1 ∧ q'.2.fb = p.2.fb)).map (·.1) = some p.1
    rw [hy, this]
    rfl
  refine ⟨fun k => match own k with
    | some (0, s) => some (0, s)
    | some (1, s) => some (1, s)
    | some (t, s) => (nameOf s).map fun s' => (t, s')
    | none => none, ?_, fun k _ ho => by simp only [ho]⟩
  have keep : ∀ k t, own k = some t → t ≠ (1, []) → w'.heap[k]? = w.heap[k]? := fun k t hk h1 => hb k (h.olt k t hk) fun e => h1 (by rw [e, h.om] at hk; exact (Option.some.inj hk).symm)
  refine ⟨?_, fun k hk => h.left k (by rw [← hfuse]; exact hk), ?_, hfiles, hL, ?_, by simp only [h.od], by simp only [h.om], ?_, hok⟩
  · rw [keep d _ h.od (by simp), h.cells, hroom, hfuse]
  · obtain ⟨q, hq⟩ := hm
    have := exactly hq
    rwa [dm_size] at this
  · intro p hp
    obtain ⟨q, hq, e⟩ := hfrom p hp
    have hq' := h.file q hq
    have hn := uniq p hp q hq e
    rw [e] at hq'
    refine ⟨(keep _ _ hq'.ob (by simp)).trans hq'.cells, ?_, hq'.row.keep fun g hgv => keep g _ (hq'.og g hgv) (by simp), fun g hgv => ?_⟩
    · simp only [hq'.ob, hn]
      rfl
    · simp only [hq'.og g hgv, hn]
      rfl
  · intro k t hk
    cases ho : own k with
    | none => simp only [ho] at hk; cases hk
    | some s => exact Nat.lt_of_lt_of_le (h.olt k s ho) hs
end
end Go.Proofs.YtogdfkilhpkloaaGreatDoor

namespace Go.Proofs.YtogdfkilhpkloaaGreatDoor
open Go.RowKit Go.Sat Go.Maps

/-- What a call of one of the five leaves. -/
def After (w : World) (d : Nat) (own : Own) (r : DiskM × Nat) (e : Ending) (w' : World) : Prop :=
  ∃ own', e = .returned (.int .i64 (r.2 : Int)) ∧ DiskAt w' d r.1 own' ∧ Chg (Has own) w w' ∧ Ext w own own'

theorem strs_one (w : World) (s : ByteArray) : StrsAt (w.alloc (.cells #[.string s] 9)) (some ⟨w.heap.size, 0, none⟩) [s] := by
  refine .inr ⟨_, _, rfl, fun i u hu => ?_⟩
  have hi : i = 0 := by
    have := (List.getElem?_eq_some_iff.1 hu).1
    simp at this
    exact this
  subst hi
  simp at hu
  subst hu
  exact cell_of (new_block w _) rfl

theorem ext_refl (w : World) (own : Own) : Ext w own own := fun _ _ h => h

section
variable {w : World} {d m : Nat} {left : Int} {L : List (Bs × FRep)} {own : Own} {D : DiskM}

set_option maxHeartbeats 400000 in
theorem append_bad (h : DiskIn w d m left L own D) (s : ByteArray) (x : Value) (hsz : s.size ≤ 9223372036854775807) (hm : D.may [nm s] ≠ 0) :
    Calls Tryz.prog 116 #[.pointer (some ⟨d, 0, none⟩), .string s, x] w (After w d own (D, D.may [nm s])) := by
  have h1 := h.chg (Chg.alloc w (.cells #[.string s] 9)) (fun k hk => hk.elim)
  have hc := may_calls h1 _ [s] 1 (strs_one w s) (by simp) (by simpa using hsz)
  simp only [List.map_cons, List.map_nil] at hc
  generalize hk : D.may [nm s] = k at hm hc ⊢
  have hne : ((k : Int) != 0) = true := by simp; exact hm
  have H1 := Lib.hid h1
  have Hc := Lib.hid hc
  clear h hc h1 hm hk
  go_enter Tryz.func116, Tryz.ntmps116
  go_wp2_with fail
  refine Hc.out.mono ?_
  rintro e w' ⟨rfl, rfl⟩
  go_wp2_with fail
  go_ret
  exact ⟨own, rfl, ⟨m, left, L, H1.out⟩, (Chg.alloc w _).mono (fun _ _ h => h.elim), ext_refl _ _⟩

/-- The disk lies there still; nothing that was there has turned. -/
def Still (w0 : World) (d m : Nat) (left : Int) (L : List (Bs × FRep)) (own : Own) (D : DiskM) (w : World) : Prop := DiskIn w d m left L own D ∧ Below w0.heap.size w0 w

theorem still_below {w0 w1 w2 : World} (h : Still w0 d m left L own D w1) (hb : Below w1.heap.size w1 w2) : Still w0 d m left L own D w2 :=
  ⟨h.1.chg (Chg.of_below hb) (fun _ hk => hk.elim), h.2.trans (hb.mono h.2.size)⟩

theorem rows_below {w w1 : World} {x : Value} {ls : List Bs} (h : RowsAt w x ls) (hb : Below w.heap.size w w1) : RowsAt w1 x ls := by
  obtain ⟨p, c, rfl, hc, hP⟩ := h
  refine ⟨p, c, rfl, hc, fun hne => ?_⟩
  obtain ⟨b, o, vs, rfl, h1, h2, h3⟩ := hP hne
  have hold : ∀ a v, w.cell? a = some v → w1.cell? a = some v := fun a v hv => (hb.cell (World.block_lt_of_cell? w a hv)).trans hv
  refine ⟨b, o, vs, rfl, h1, fun i v hv => hold _ _ (h2 i v hv), fun i v l hv hl => ?_⟩
  obtain ⟨p, cap, rfl, h0, hcs⟩ := h3 i v l hv hl
  exact ⟨p, cap, rfl, h0, fun a ha j x hx => hold _ _ (hcs a ha j x hx)⟩

theorem below2 {S : Nat → Prop} {w w0 w2 : World} (h : Below w.heap.size w w0) (k : Below w0.heap.size w0 w2) : Chg S w w2 :=
  ((Chg.of_below h).trans (Chg.of_below k) fun _ _ h => h).mono fun _ _ h => h.elim

set_option maxRecDepth 100000 in
set_option maxHeartbeats 1000000 in
theorem append_full (h : DiskIn w d m left L own D) (s : ByteArray) (x : Value) (ls : List Bs) (hx : RowsAt w x ls) (hn : ls.length ≤ 140737488355328) (hl : ls.flatten.length ≤ 140737488355328) (hsz : s.size ≤ 9223372036854775807) (hm : D.may [nm s] = 0)
    (hf : D.room < D.used + ls.flatten.length) :
    Calls Tryz.prog 116 #[.pointer (some ⟨d, 0, none⟩), .string s, x] w (After w d own (D, 6)) := by
  have hb0 := (Below.refl w.heap.size w).alloc (Nat.le_refl _) (.cells #[.string s] 9)
  have h1 := h.chg (Chg.alloc w (.cells #[.string s] 9)) (fun k hk => hk.elim)
  have hc := may_calls h1 _ [s] 1 (strs_one w s) (by simp) (by simpa using hsz)
  simp only [List.map_cons, List.map_nil, hm] at hc
  have hj := join_calls (rows_below hx hb0) hn hl
  have H1 := Lib.hid h1
  have Hc := Lib.hid hc
  have Hj := Lib.hid hj
  have Hb0 := Lib.hid hb0
  have hr := h.ok.room
  have hu := h.ok.used
  clear h hc h1 hm hj hx hb0
  go_enter Tryz.func116, Tryz.ntmps116
  go_wp2_with fail
  refine Hc.out.mono ?_
  rintro e w' ⟨rfl, rfl⟩
  go_wp2_with fail
  refine Hj.out.mono ?_
  rintro e w1 ⟨b, rfl, hb, hbel⟩
  obtain ⟨pb, cb, rfl⟩ := HasB.slice hb
  clear hb
  have h2 := H1.out.chg (Chg.of_below hbel) (fun k hk => hk.elim)
  have hc1 := h2.c1
  have hc0 := h2.c0
  obtain ⟨fv, hlook⟩ := run_look_any w1 keyLaw Tryz.underlying9 Tryz.underlying89 (zeroFile w1) FRep.fb h2.map hsz
  have HS : Still (w.alloc (.cells #[.string s] 9)) d m left L own D w1.drew := still_below ⟨h2, hbel⟩ ((Below.refl _ _).drew)
  have HU := fun W (h : Still (w.alloc (.cells #[.string s] 9)) d m left L own D W) => used_walk h.1
  generalize hR : D.room = R at hf hr hu hc0
  generalize hU : D.used = U at hf hu HU
  generalize ls.flatten.length = n at *
  have hgt : decide ((R : Int) - (U : Int) < (n : Int)) = true := by simp; omega
  have hsub : IntKind.i64.wrap ((R : Int) - (U : Int)) = (R : Int) - (U : Int) := IntWalk.i64_in _ (by omega)
  have HR := Lib.hid hR
  have HUU := Lib.hid hU
  clear hR hU hf h2 hbel
  generalize hw0 : w.alloc (.cells #[.string s] 9) = w0 at *
  have Hw0 := Lib.hid hw0
  clear hw0
  go_wp2_with fail
  obtain ⟨ι, F, hne, hF0, hFS, hFall⟩ := classOf _ HS
  have fc0 : ∀ n, (F n).cell? ⟨d, 0, none⟩ = some (.int .i64 (R : Int)) := fun n => by rw [(hFS n).1.c0, HR.out]
  have HFS := Lib.hid hFS
  have HFall := Lib.hid hFall
  clear hFS hFall
  refine wp_region_class F (by kernel_rfl) (by kernel_rfl) hF0 ?_
  repeat (go_big_quiet_step ((go_at_call 179; refine (HU _ (HFS.out _)).mono ?_; rintro e w2 ⟨rfl, hb2⟩; exact ⟨rfl, HFall.out _ (still_below (HFS.out _) hb2)⟩)))
  refine wpQuiet_nil ?_
  rintro _ ⟨q, rfl⟩
  have HS2 := HFS.out q
  clear HFS HFall hF0 fc0
  generalize F q = w2 at HS2 ⊢
  go_wp2
  go_ret
  exact ⟨own, rfl, ⟨m, left, L, HS2.1⟩, below2 Hb0.out HS2.2, ext_refl _ _⟩

theorem may_zero {D : DiskM} {ns : List Bs} (h : D.may ns = 0) : D.fuse ≠ some 0 ∧ ns.all okN = true := by
  unfold DiskM.may at h
  split at h
  · cases h
  · rename_i h1
    refine ⟨h1, ?_⟩
    split at h
    · assumption
    · cases h

theorem ok_append {D : DiskM} (h : D.OK) {n b : Bs} (hm : D.may [n] = 0) (hf : D.full n b = false) : DiskM.OK { D with files := put n ⟨(D.cur n).data ++ b, (D.cur n).lasts⟩ D.files } := by
  have hn : okN n = true := by simpa using (may_zero hm).2
  simp only [DiskM.full, Bool.or_eq_false_iff, decide_eq_false_iff_not, Bool.and_eq_false_iff] at hf
  obtain ⟨h1, h2⟩ := hf
  have hcur : ∀ f, Sat.get n D.files = some f → D.cur n = f := fun f hg => by simp [DiskM.cur, hg]
  have hcur0 : Sat.get n D.files = none → D.cur n = ⟨[], 0⟩ := fun hg => by simp [DiskM.cur, hg]
  refine ⟨srt_put h.srt, h.room, ?_, ?_, ?_, ?_, h.fuse⟩
  · show sumBy DiskM.size (put n _ D.files) ≤ D.room
    rw [sum_put]
    have hu : D.used = DiskM.size (D.cur n) + sumBy DiskM.size (del n D.files) := by
      cases hg : Sat.get n D.files with
      | none => rw [hcur0 hg, del_none hg]; simp [DiskM.used, DiskM.size]
      | some f => rw [hcur f hg]; exact sum_del h.srt hg
    simp only [DiskM.size, List.length_append] at hu ⊢
    omega
  · show (put n _ D.files).length ≤ 4096
    rw [len_put]
    cases hg : Sat.get n D.files with
    | none =>
      rw [hg] at h2
      simp at h2
      rw [del_none hg]
      omega
    | some f =>
      have := len_del h.srt hg
      have := h.count
      omega
  · intro p hp
    rcases mem_put.1 hp with rfl | ⟨hp, _⟩
    · exact hn
    · exact h.names p hp
  · intro p hp
    rcases mem_put.1 hp with rfl | ⟨hp, _⟩
    · cases hg : Sat.get n D.files with
      | none => rw [hcur0 hg]; simp
      | some f =>
        rw [hcur f hg]
        have : f.lasts ≤ f.data.length := h.lasts _ (get_mem hg)
        simp only [List.length_append]
        omega
    · exact h.lasts p hp

theorem len_run {W : World} (h : DiskIn W d m left L own D) (ty : TypeId) : (Builtin.len_ #[89] ty #[.map (some m)]).run Tryz.prog W = .ok (.int .i64 (L.length : Int)) W := by
  have := h.map.len Tryz.underlying89 ty
  rwa [dm_size] at this

set_option maxRecDepth 100000 in
set_option maxHeartbeats 2000000 in
theorem append_count (h : DiskIn w d m left L own D) (s : ByteArray) (x : Value) (ls : List Bs) (hx : RowsAt w x ls) (hn : ls.length ≤ 140737488355328) (hl : ls.flatten.length ≤ 140737488355328) (hsz : s.size ≤ 9223372036854775807) (hm : D.may [nm s] = 0)
    (hf : D.used + ls.flatten.length ≤ D.room) (hg : Sat.get (nm s) L = none) (hcount : 4096 ≤ L.length) :
    Calls Tryz.prog 116 #[.pointer (some ⟨d, 0, none⟩), .string s, x] w (After w d own (D, 6)) := by
  have hb0 := (Below.refl w.heap.size w).alloc (Nat.le_refl _) (.cells #[.string s] 9)
  have h1 := h.chg (Chg.alloc w (.cells #[.string s] 9)) (fun k hk => hk.elim)
  have hc := may_calls h1 _ [s] 1 (strs_one w s) (by simp) (by simpa using hsz)
  simp only [List.map_cons, List.map_nil, hm] at hc
  have hj := join_calls (rows_below hx hb0) hn hl
  have hr := h.ok.room
  have hLc : L.length ≤ 4096 := by rw [← h.len]; exact h.ok.count
  have H1 := Lib.hid h1
  have Hc := Lib.hid hc
  have Hj := Lib.hid hj
  have Hb0 := Lib.hid hb0
  clear h hc h1 hm hj hx hb0
  go_enter Tryz.func116, Tryz.ntmps116
  go_wp2_with fail
  refine Hc.out.mono ?_
  rintro e w' ⟨rfl, rfl⟩
  go_wp2_with fail
  refine Hj.out.mono ?_
  rintro e w1 ⟨b, rfl, hb, hbel⟩
  obtain ⟨pb, cb, rfl⟩ := HasB.slice hb
  clear hb
  have h2 := H1.out.chg (Chg.of_below hbel) (fun k hk => hk.elim)
  have hc1 := h2.c1
  have hlook := run_look_none w1 keyLaw Tryz.underlying9 Tryz.underlying89 (zeroFile w1) FRep.fb h2.map hsz hg
  have HS : Still w1 d m left L own D w1.drew := still_below ⟨h2, Below.refl _ _⟩ ((Below.refl _ _).drew)
  have HU := fun W (h : Still w1 d m left L own D W) => used_walk h.1
  generalize hR : D.room = R at hf hr
  generalize hU : D.used = U at hf HU
  generalize hlen : L.length = N at hcount hLc
  generalize ls.flatten.length = n at *
  have hgt : decide ((R : Int) - (U : Int) < (n : Int)) = false := by simp; omega
  have hsub : IntKind.i64.wrap ((R : Int) - (U : Int)) = (R : Int) - (U : Int) := IntWalk.i64_in _ (by omega)
  have hcnt : decide ((4096 : Int) ≤ (N : Int)) = true := by simp; omega
  have HR := Lib.hid hR
  have Hlen := Lib.hid hlen
  have Hbel := Lib.hid hbel
  have Hg := Lib.hid hg
  clear hR hU hf h2 hbel hg hlen hcount
  go_wp2_with fail
  obtain ⟨ι, F, hne, hF0, hFS, hFall⟩ := classOf _ HS
  have fc0 : ∀ n, (F n).cell? ⟨d, 0, none⟩ = some (.int .i64 (R : Int)) := fun n => by rw [(hFS n).1.c0, HR.out]
  have fc1 : ∀ n, (F n).cell? ⟨d, 1, none⟩ = some (.map (some m)) := fun n => (hFS n).1.c1
  have fl : ∀ n ty, (Builtin.len_ #[89] ty #[.map (some m)]).run Tryz.prog (F n) = .ok (.int .i64 (N : Int)) (F n) := fun n ty => by rw [len_run (hFS n).1 ty, Hlen.out]
  have HFS := Lib.hid hFS
  have HFall := Lib.hid hFall
  clear hFS hFall HS
  refine wp_region_class F (by kernel_rfl) (by kernel_rfl) hF0 ?_
  repeat (go_big_quiet_step ((go_at_call 179; refine (HU _ (HFS.out _)).mono ?_; rintro e w2 ⟨rfl, hb2⟩; exact ⟨rfl, HFall.out _ (still_below (HFS.out _) hb2)⟩)))
  refine wpQuiet_nil ?_
  rintro _ ⟨q, rfl⟩
  have HS2 := HFS.out q
  clear HFS HFall hF0 fc0 fc1 fl hlook hc1
  generalize F q = w2 at HS2 ⊢
  go_wp2
  go_ret
  exact ⟨own, rfl, ⟨m, left, L, HS2.1⟩, (below2 (S := Has own) Hb0.out Hbel.out).trans ((Chg.of_below HS2.2).mono (T := Has own) fun _ _ h => h.elim) fun _ _ h => h, ext_refl _ _⟩

set_option maxRecDepth 100000 in
set_option maxHeartbeats 2000000 in
theorem append_old (h : DiskIn w d m left L own D) (s : ByteArray) (x : Value) (ls : List Bs) (hx : RowsAt w x ls) (hn : ls.length ≤ 140737488355328) (hl : ls.flatten.length ≤ 140737488355328) (hsz : s.size ≤ 9223372036854775807) (hm : D.may [nm s] = 0)
    (hf : D.full (nm s) ls.flatten = false) (r : FRep) (hg : Sat.get (nm s) L = some r) :
    Calls Tryz.prog 116 #[.pointer (some ⟨d, 0, none⟩), .string s, x] w (After w d own (DiskM.done { D with files := put (nm s) ⟨r.f.data ++ ls.flatten, r.f.lasts⟩ D.files }, 0)) := by
  have hb0 := (Below.refl w.heap.size w).alloc (Nat.le_refl _) (.cells #[.string s] 9)
  have h1 := h.chg (Chg.alloc w (.cells #[.string s] 9)) (fun k hk => hk.elim)
  have hc := may_calls h1 _ [s] 1 (strs_one w s) (by simp) (by simpa using hsz)
  simp only [List.map_cons, List.map_nil, hm] at hc
  have hj := join_calls (rows_below hx hb0) hn hl
  have hcur : D.cur (nm s) = r.f := by simp [DiskM.cur, h.get, hg]
  have hok := ok_append h.ok hm hf
  rw [hcur] at hok
  have hfu := (may_zero hm).1
  have hfit : D.used + ls.flatten.length ≤ D.room := by
    simp only [DiskM.full, Bool.or_eq_false_iff, decide_eq_false_iff_not] at hf
    omega
  have hrl : r.f.data.length ≤ D.used := by rw [h.used]; exact le_sum (f := fun r : FRep => r.f.data.length) h.srt hg
  have H1 := Lib.hid h1
  have Hc := Lib.hid hc
  have Hj := Lib.hid hj
  have Hb0 := Lib.hid hb0
  have Hok := Lib.hid hok
  have Hfu := Lib.hid hfu
  have hr := h.ok.room
  clear h hc h1 hm hj hx hb0 hok hcur hf hfu
  go_enter Tryz.func116, Tryz.ntmps116
  go_wp2_with fail
  refine Hc.out.mono ?_
  rintro e w' ⟨rfl, rfl⟩
  go_wp2_with fail
  refine Hj.out.mono ?_
  rintro e w1 ⟨b, rfl, hb, hbel⟩
  have Hb := Lib.hid hb
  obtain ⟨pb, cb, rfl⟩ := HasB.slice hb
  clear hb
  have h2 := H1.out.chg (Chg.of_below hbel) (fun k hk => hk.elim)
  have hc1 := h2.c1
  have hc0 := h2.c0
  have hlook := run_look_some w1 keyLaw Tryz.underlying9 Tryz.underlying89 (zeroFile w1) FRep.fb h2.map hsz hg
  have HS0 : Still w1 d m left L own D w1 := ⟨h2, Below.refl _ _⟩
  have HS : Still w1 d m left L own D w1.drew := still_below HS0 ((Below.refl _ _).drew)
  have HU := fun W (h : Still w1 d m left L own D W) => used_walk h.1
  have Hbel := Lib.hid hbel
  generalize hR : D.room = R at hfit hr hc0
  generalize hU : D.used = U at hfit HU hrl
  generalize hnl : ls.flatten.length = n at *
  have hgt : decide ((R : Int) - (U : Int) < (n : Int)) = false := by simp; omega
  have hsub : IntKind.i64.wrap ((R : Int) - (U : Int)) = (R : Int) - (U : Int) := IntWalk.i64_in _ (by omega)
  have HR := Lib.hid hR
  have HUU := Lib.hid hU
  have Hnl := Lib.hid hnl
  have Hg := Lib.hid hg
  clear hR hU h2 hbel hnl hg
  go_wp2_with fail
  obtain ⟨ι, F, hne, hF0, hFS, hFall⟩ := classOf _ HS
  have fc0 : ∀ n, (F n).cell? ⟨d, 0, none⟩ = some (.int .i64 (R : Int)) := fun n => by rw [(hFS n).1.c0, HR.out]
  have HFS := Lib.hid hFS
  have HFall := Lib.hid hFall
  clear hFS hFall
  refine wp_region_class F (by kernel_rfl) (by kernel_rfl) hF0 ?_
  repeat (go_big_quiet_step ((go_at_call 179; refine (HU _ (HFS.out _)).mono ?_; rintro e w2 ⟨rfl, hb2⟩; exact ⟨rfl, HFall.out _ (still_below (HFS.out _) hb2)⟩)))
  refine wpQuiet_nil ?_
  rintro _ ⟨q, rfl⟩
  have HS2 := HFS.out q
  clear HFS HFall hF0 fc0 hlook hc1 hc0 HS
  generalize F q = w2 at HS2 ⊢
  have hfile := HS2.1.fileAt Hg.out
  have hcell : w2.cell? ⟨r.fb, 0, none⟩ = some r.v := cell_of hfile.cells rfl
  obtain ⟨i0, hi, hz0, hz1, hz2⟩ := info_parts (show (Tryz.prog.info? 5).map (fun i => (i.zero, i.size, i.bytes)) = some (some (.int .u8 0), 1, 1) by kernel_rfl)
  have hrow := hfile.row
  have hbw : HasB w2 (.slice pb n cb) ls.flatten := HasB.below Hb.out HS2.2
  unfold HasB at hbw
  rw [Hnl.out] at hbw
  obtain ⟨p1, c1, hv⟩ := OwnB.slice hrow
  have hblk : ∀ k, r.v.ownBlock = some k → k ≠ r.fb := fun k hk => HS2.1.ne_of (hfile.og k hk) hfile.ob (by simp)
  have HS3 := Lib.hid HS2
  have Hfile := Lib.hid hfile
  have Hv := Lib.hid hv
  have Hbw := Lib.hid hbw
  have Hrow := Lib.hid hrow
  have Hblk := Lib.hid hblk
  clear hfile hv hrow hbw hblk HS2
  go_wp2_with (first | (at_builtin; refine wpList_app w2 rfl (.tmp 61) (.tmp 62) 39 rfl 5 i0 (.int .u8 0) 1 1 Tryz.underlying39 hi hz0 hz1 hz2 rfl (by decide) r.v r.f.data.length (bytesV r.f.data) rfl Hrow.out (.slice pb n cb) n (bytesV ls.flatten) rfl Hbw.out (bytesV_one _) (by unfold maxLen; omega) (by omega) ?_; intro v' w3 hown' hgrow hloc; obtain ⟨p2, c2, rfl⟩ := OwnR.shape hown'; have hb3 := grown_block hgrow Hfile.out.cells (fun e => Hblk.out _ e rfl); have hc3 := cell_of (i := 0) hb3 rfl; have hf3 := frozen_of hb3 0; have Hg3 := Lib.hid (And.intro hown' (And.intro hgrow (And.intro hloc hb3))); clear hown' hgrow hloc hb3))
  obtain ⟨hown', hgrow, hloc, hb3⟩ := Hg3.out
  have h2 := HS3.out.1
  have hfb := lt_of_block Hfile.out.cells
  have hnv : ∀ k, (Value.slice p2 (r.f.data.length + n) c2).ownBlock = some k → k ≠ r.fb := fun k hk => by
    rcases hloc with e | ⟨g, e, hge⟩
    · exact Hblk.out k (by rw [← e]; exact hk)
    · rw [e] at hk
      cases hk
      omega
  obtain ⟨own', h4, hext⟩ := h2.upd (w' := w3.setCell ⟨r.fb, 0, none⟩ (.slice p2 (r.f.data.length + n) c2)) (f' := ⟨r.f.data ++ ls.flatten, r.f.lasts⟩) (v' := .slice p2 (r.f.data.length + n) c2) Hg.out
    (by simpa [World.setCell] using hgrow.size) (fun k hk h1 h2 => (set_other _ h1).trans (hgrow.block k hk h2)) (by rw [set_block hb3]; simp)
    (by
      have e1 : (r.f.data ++ ls.flatten).length = r.f.data.length + n := by rw [List.length_append, Hnl.out]
      unfold OwnB
      rw [e1, bytesV_app]
      exact OwnR.keep hown' fun k hk => set_other _ (hnv k hk))
    (fun g hgv => by
      rcases hloc with e | ⟨g', e, hge⟩
      · exact .inl (by rw [← e]; exact hgv)
      · rw [e] at hgv
        cases hgv
        exact .inr hge) Hok.out
  refine (done_calls h4 Hfu.out).mono ?_
  rintro e w5 ⟨rfl, hd5, hc5⟩
  have hchg : Chg (Has own) w w5 := by
    have hod : Has own d := by unfold Has; rw [h2.od]; simp
    have hob : Has own r.fb := by unfold Has; rw [Hfile.out.ob]; simp
    have hog : ∀ g, r.v.ownBlock = some g → Has own g := fun g hgv => by unfold Has; rw [Hfile.out.og g hgv]; simp
    have k1 : Chg (Has own) w w1 := below2 Hb0.out Hbel.out
    have k2 : Chg (Has own) w w2 := k1.trans ((Chg.of_below HS3.out.2).mono (T := Has own) fun _ _ h => h.elim) fun _ _ h => h
    have k3 : Chg (Has own) w w3 := k2.trans (Chg.of_grown hgrow) fun i _ e => hog i e.symm
    have c4 : Chg (Has own) w (w3.setCell ⟨r.fb, 0, none⟩ (.slice p2 (r.f.data.length + n) c2)) := k3.trans (Chg.setCell w3 ⟨r.fb, 0, none⟩ (.slice p2 (r.f.data.length + n) c2)) fun i _ e => by rw [e]; exact hob
    exact c4.trans hc5 fun i _ e => by rw [e]; exact hod
  clear hown' hgrow hloc hb3 h2 h4 hfb hnv hc3 hf3
  have Hx := Lib.hid hext
  clear hext
  go_wp2_with fail
  go_ret
  exact ⟨own', rfl, hd5, hchg, fun k hk => Hx.out k (Nat.lt_of_lt_of_le hk (Nat.le_trans (below2 (S := fun _ => False) Hb0.out Hbel.out).size HS3.out.2.size))⟩
theorem new_has {w2 w3 : World} {o : Obj} (h : DiskIn w2 d m left L own D) {v : Value} {l : Bs} (hv : HasB w2 v l) (hg : (w2.alloc o).grownBy w3 (some m)) : HasB w3 v l := by
  obtain ⟨es, clock, hm, _⟩ := h.map
  have hc : Chg (fun k => k = m) w2 w3 := ((Chg.alloc w2 _).mono (T := fun k => k = m) fun _ _ h => h.elim).trans (Chg.of_grown hg) fun i _ e => by simpa using e
  exact Holds.chg2 hv hc fun a u hu _ => no_cell_map hm hu

set_option maxRecDepth 100000 in
set_option maxHeartbeats 2000000 in
theorem append_new (h : DiskIn w d m left L own D) (s : ByteArray) (x : Value) (ls : List Bs) (hx : RowsAt w x ls) (hn : ls.length ≤ 140737488355328) (hl : ls.flatten.length ≤ 140737488355328) (hsz : s.size ≤ 9223372036854775807) (hm : D.may [nm s] = 0)
    (hf : D.full (nm s) ls.flatten = false) (hg : Sat.get (nm s) L = none) :
    Calls Tryz.prog 116 #[.pointer (some ⟨d, 0, none⟩), .string s, x] w (After w d own (DiskM.done { D with files := put (nm s) ⟨ls.flatten, 0⟩ D.files }, 0)) := by
  have hb0 := (Below.refl w.heap.size w).alloc (Nat.le_refl _) (.cells #[.string s] 9)
  have h1 := h.chg (Chg.alloc w (.cells #[.string s] 9)) (fun k hk => hk.elim)
  have hc := may_calls h1 _ [s] 1 (strs_one w s) (by simp) (by simpa using hsz)
  simp only [List.map_cons, List.map_nil, hm] at hc
  have hj := join_calls (rows_below hx hb0) hn hl
  have hcur : D.cur (nm s) = ⟨[], 0⟩ := by simp [DiskM.cur, h.get, hg]
  have hok := ok_append h.ok hm hf
  rw [hcur] at hok
  simp only [List.nil_append] at hok
  have hfu := (may_zero hm).1
  have hfc : D.used + ls.flatten.length ≤ D.room ∧ L.length < 4096 := by
    simp only [DiskM.full, Bool.or_eq_false_iff, decide_eq_false_iff_not, h.get, hg, h.len, Option.map_none, Option.isNone_none, Bool.true_and] at hf
    omega
  obtain ⟨hfit, hcount⟩ := hfc
  have hr := h.ok.room
  have H1 := Lib.hid h1
  have Hc := Lib.hid hc
  have Hj := Lib.hid hj
  have Hb0 := Lib.hid hb0
  have Hok := Lib.hid hok
  have Hfu := Lib.hid hfu
  clear h hc h1 hm hj hx hb0 hok hcur hf hfu
  go_enter Tryz.func116, Tryz.ntmps116
  go_wp2_with fail
  refine Hc.out.mono ?_
  rintro e w' ⟨rfl, rfl⟩
  go_wp2_with fail
  refine Hj.out.mono ?_
  rintro e w1 ⟨b, rfl, hb, hbel⟩
  have Hb := Lib.hid hb
  obtain ⟨pb, cb, rfl⟩ := HasB.slice hb
  clear hb
  have h2 := H1.out.chg (Chg.of_below hbel) (fun k hk => hk.elim)
  have hc1 := h2.c1
  have hlook := run_look_none w1 keyLaw Tryz.underlying9 Tryz.underlying89 (zeroFile w1) FRep.fb h2.map hsz hg
  have HS : Still w1 d m left L own D w1.drew := still_below ⟨h2, Below.refl _ _⟩ ((Below.refl _ _).drew)
  have HU := fun W (h : Still w1 d m left L own D W) => used_walk h.1
  generalize hR : D.room = R at hfit hr
  generalize hU : D.used = U at hfit HU
  generalize hlen : L.length = N at hcount
  generalize hnl : ls.flatten.length = n at *
  have hgt : decide ((R : Int) - (U : Int) < (n : Int)) = false := by simp; omega
  have hsub : IntKind.i64.wrap ((R : Int) - (U : Int)) = (R : Int) - (U : Int) := IntWalk.i64_in _ (by omega)
  have hcnt : decide ((4096 : Int) ≤ (N : Int)) = false := by simp; omega
  have HR := Lib.hid hR
  have Hlen := Lib.hid hlen
  have Hbel := Lib.hid hbel
  have Hg := Lib.hid hg
  have Hnl := Lib.hid hnl
  clear hR hU h2 hbel hg hlen hnl
  go_wp2_with fail
  obtain ⟨ι, F, hne, hF0, hFS, hFall⟩ := classOf _ HS
  have fc0 : ∀ n, (F n).cell? ⟨d, 0, none⟩ = some (.int .i64 (R : Int)) := fun n => by rw [(hFS n).1.c0, HR.out]
  have fc1 : ∀ n, (F n).cell? ⟨d, 1, none⟩ = some (.map (some m)) := fun n => (hFS n).1.c1
  have fl : ∀ n ty, (Builtin.len_ #[89] ty #[.map (some m)]).run Tryz.prog (F n) = .ok (.int .i64 (N : Int)) (F n) := fun n ty => by rw [len_run (hFS n).1 ty, Hlen.out]
  have HFS := Lib.hid hFS
  have HFall := Lib.hid hFall
  clear hFS hFall HS
  refine wp_region_class F (by kernel_rfl) (by kernel_rfl) hF0 ?_
  repeat (go_big_quiet_step ((go_at_call 179; refine (HU _ (HFS.out _)).mono ?_; rintro e w2 ⟨rfl, hb2⟩; exact ⟨rfl, HFall.out _ (still_below (HFS.out _) hb2)⟩)))
  refine wpQuiet_nil ?_
  rintro _ ⟨q, rfl⟩
  have HS2 := HFS.out q
  clear HFS HFall hF0 fc0 fc1 fl hlook hc1 HU
  generalize F q = w2 at HS2 ⊢
  have hc1 := HS2.1.c1
  have hdl := HS2.1.dlt
  have hN : L.length < maxLen := by rw [Hlen.out]; unfold maxLen; omega
  have hmap := HS2.1.map.alloc (.cells #[.slice none 0 0, .int .i64 0] 128)
  have HS3 := Lib.hid HS2
  have Hmap := Lib.hid hmap
  clear HS2 hmap
  obtain ⟨i0, hi, hz0, hz1, hz2⟩ := info_parts (show (Tryz.prog.info? 5).map (fun i => (i.zero, i.size, i.bytes)) = some (some (.int .u8 0), 1, 1) by kernel_rfl)
  go_wp2_with (first | (at_mapUpdate; refine wpList_mapUpdate_own _ rfl _ _ _ 89 rfl 9 126 keyLaw Tryz.underlying89 ptrR m L.length (dm fbD L) rfl Hmap.out hN _ _ _ rfl rfl (WideMaps.keyOf_string_mk Tryz.underlying9 hsz) (.held w2.heap.size) [] rfl ?_; intro w3 hown3 hg3; have hfb3 := grown_block hg3 (new_block w2 _) (by intro e; have h9 := HS3.out.1.mlt; cases e; omega); have hc3 := cell_of (i := 0) hfb3 rfl; have Hg3 := Lib.hid (And.intro hown3 (And.intro hg3 hfb3)); clear hown3 hg3 hfb3) | (at_builtin; have hbw := new_has HS3.out.1 (HasB.below Hb.out HS3.out.2) Hg3.out.2.1; unfold HasB at hbw; rw [Hnl.out] at hbw; refine wpList_app w3 rfl (.tmp 61) (.tmp 62) 39 rfl 5 i0 (.int .u8 0) 1 1 Tryz.underlying39 hi hz0 hz1 hz2 rfl (by decide) (.slice none 0 0) 0 [] rfl (OwnR.nil _ _ _) (.slice pb n cb) n (bytesV ls.flatten) rfl hbw (bytesV_one _) (by unfold maxLen; omega) (by omega) ?_; clear hbw; intro v' w4 hown' hgrow hloc; obtain ⟨p2, c2, rfl⟩ := OwnR.shape hown'; have hb4 := grown_block hgrow Hg3.out.2.2 (by intro e; cases e); have hc4 := cell_of (i := 0) hb4 rfl; have hf4 := frozen_of hb4 0; have Hg4 := Lib.hid (And.intro hown' (And.intro hgrow (And.intro hloc hb4))); clear hown' hgrow hloc hb4))
  obtain ⟨hown3, hg3, _⟩ := Hg3.out
  obtain ⟨hown', hgrow, hloc, hb4⟩ := Hg4.out
  have h2 := HS3.out.1
  have hs3 : w2.heap.size + 1 ≤ w3.heap.size := by
    have := hg3.size
    simpa using this
  have hs4 := hgrow.size
  have hnv : ∀ k, (Value.slice p2 (0 + n) c2).ownBlock = some k → w2.heap.size ≤ k ∧ k ≠ w2.heap.size := fun k hk => by
    rcases hloc with e | ⟨g, e, hge⟩
    · rw [e] at hk
      cases hk
    · rw [e] at hk
      cases hk
      omega
  have hold : ∀ k, k < w2.heap.size → k ≠ m → w4.heap[k]? = w2.heap[k]? := fun k hk hkm => by
    rw [hgrow.block k (by omega) (by intro e; cases e), hg3.block k (by simp; omega) (by intro e; cases e; exact hkm rfl)]
    exact heap_alloc_old w2 _ hk
  obtain ⟨own', h4, hext⟩ := h2.add (w' := w4.setCell ⟨w2.heap.size, 0, none⟩ (.slice p2 (0 + n) c2)) (r := ⟨w2.heap.size, .slice p2 (0 + n) c2, ⟨ls.flatten, 0⟩⟩) Hg.out
    (by simp [World.setCell]; omega) (fun k hk hkm => (set_other _ (by simp; omega)).trans (hold k hk hkm))
    ⟨_, (hown3.kept hgrow (by intro e; cases e)).setCell (by have := h2.mlt; simp; omega) _⟩ (by rw [set_block hb4]; simp) (Nat.le_refl _)
    (by
      have e1 : ls.flatten.length = 0 + n := by rw [Hnl.out, Nat.zero_add]
      unfold OwnB
      show OwnR _ _ _ _ ls.flatten.length _
      rw [e1]
      exact OwnR.keep hown' fun k hk => set_other _ (hnv k hk).2)
    hnv Hok.out
  have hchg : Chg (Has own) w (w4.setCell ⟨w2.heap.size, 0, none⟩ (.slice p2 (0 + n) c2)) := by
    have hom : Has own m := by unfold Has; rw [h2.om]; simp
    have k1 : Chg (Has own) w w1 := below2 Hb0.out Hbel.out
    have k2 : Chg (Has own) w w2 := k1.trans ((Chg.of_below HS3.out.2).mono (T := Has own) fun _ _ h => h.elim) fun _ _ h => h
    have k4 : Chg (fun k => k = m) w2 w4 := ⟨by rw [hgrow.os, hg3.os]; rfl, by rw [hgrow.tape, hg3.tape]; rfl, by rw [hgrow.output, hg3.output]; rfl, by omega, hold⟩
    have k5 : Chg (fun k => k = m ∨ w2.heap.size ≤ k) w2 (w4.setCell ⟨w2.heap.size, 0, none⟩ (.slice p2 (0 + n) c2)) := (k4.mono (T := fun k => k = m ∨ w2.heap.size ≤ k) fun _ _ h => .inl h).trans (Chg.setCell w4 _ _) fun i _ e => .inr (by rw [e]; exact Nat.le_refl _)
    have hs2 := k2.size
    exact k2.trans k5 fun i hi e => by
      rcases e with e | e
      · rw [e]; exact hom
      · omega
  have hod : Has own d := by unfold Has; rw [h2.od]; simp
  have hsz2 := Nat.le_trans (below2 (S := fun _ => False) Hb0.out Hbel.out).size HS3.out.2.size
  simp only [Nat.zero_add] at h4 hchg
  have hdone := done_calls h4 Hfu.out
  have Hdone := Lib.hid hdone
  have Hchg := Lib.hid hchg
  have Hx := Lib.hid hext
  have Hod := Lib.hid hod
  have Hsz := Lib.hid hsz2
  clear hown3 hg3 hown' hgrow hloc hb4 h2 hs3 hs4 hnv hold h4 hext hchg hod hsz2 hdone hc3 hc4 hf4
  refine Hdone.out.mono ?_
  rintro e w5 ⟨rfl, hd5, hc5⟩
  go_wp2_with fail
  go_ret
  exact ⟨own', rfl, hd5, Hchg.out.trans hc5 fun i _ e => by rw [e]; exact Hod.out, fun k hk => Hx.out k (Nat.lt_of_lt_of_le hk Hsz.out)⟩

/-- **Append.** -/
theorem append_calls (h : DiskAt w d D own) (s : ByteArray) (x : Value) (ls : List Bs) (hx : RowsAt w x ls) (hn : ls.length ≤ 140737488355328) (hl : ls.flatten.length ≤ 140737488355328) (hsz : s.size ≤ 9223372036854775807) :
    Calls Tryz.prog 116 #[.pointer (some ⟨d, 0, none⟩), .string s, x] w (After w d own (D.append (nm s) ls.flatten)) := by
  obtain ⟨m, left, L, h⟩ := h
  unfold DiskM.append
  by_cases hm : D.may [nm s] = 0
  · rw [if_neg (by simpa using hm)]
    by_cases hf : D.full (nm s) ls.flatten = true
    · rw [if_pos hf]
      by_cases hr : D.room < D.used + ls.flatten.length
      · exact append_full h s x ls hx hn hl hsz hm hr
      · simp only [DiskM.full, hr, decide_false, Bool.false_or, Bool.and_eq_true, Option.isNone_iff_eq_none, decide_eq_true_eq, h.get, h.len, Option.map_eq_none_iff] at hf
        exact append_count h s x ls hx hn hl hsz hm (by omega) hf.1 hf.2
    · rw [if_neg hf]
      have hf' : D.full (nm s) ls.flatten = false := by simpa using hf
      cases hg : Sat.get (nm s) L with
      | none =>
        have hcur : D.cur (nm s) = ⟨[], 0⟩ := by simp [DiskM.cur, h.get, hg]
        rw [hcur]
        exact append_new h s x ls hx hn hl hsz hm hf' hg
      | some r =>
        have hcur : D.cur (nm s) = r.f := by simp [DiskM.cur, h.get, hg]
        rw [hcur]
        exact append_old h s x ls hx hn hl hsz hm hf' r hg
  · rw [if_pos (by simpa using hm)]
    exact append_bad h s x hsz hm
end
end Go.Proofs.YtogdfkilhpkloaaGreatDoor

namespace Go.Proofs.YtogdfkilhpkloaaGreatDoor
open Go.RowKit Go.Sat Go.Maps

/-- What a thing done with a file leaves. -/
def Did (W : World) (d : Nat) (own : Own) (D : DiskM) (e : Ending) (w' : World) : Prop :=
  ∃ own', e = .returned (.tuple #[]) ∧ DiskAt w' d D own' ∧ Chg (Has own) W w' ∧ Ext W own own'

theorem ok_sync {D : DiskM} (h : D.OK) {n : Bs} {f : FileM} (hg : Sat.get n D.files = some f) : DiskM.OK { D with files := DiskM.gSync n f D.files } where
  srt := srt_put h.srt
  room := h.room
  used := by
    show sumBy DiskM.size (put n _ D.files) ≤ D.room
    rw [sum_put]
    have h1 : D.used = DiskM.size f + sumBy DiskM.size (del n D.files) := sum_del h.srt hg
    have := h.used
    simp only [DiskM.size] at h1 ⊢
    omega
  count := by
    show (put n _ D.files).length ≤ 4096
    rw [len_put]
    have := len_del h.srt hg
    have := h.count
    omega
  names p hp := by
    rcases mem_put.1 hp with rfl | ⟨hp, _⟩
    · exact (h.names (n, f) (get_mem hg) : okN n = true)
    · exact h.names p hp
  lasts p hp := by
    rcases mem_put.1 hp with rfl | ⟨hp, _⟩
    · exact Nat.le_refl _
    · exact h.lasts p hp
  fuse := h.fuse

theorem ok_del {D : DiskM} (h : D.OK) (n : Bs) : DiskM.OK { D with files := del n D.files } where
  srt := srt_del h.srt
  room := h.room
  used := by
    show sumBy DiskM.size (del n D.files) ≤ D.room
    cases hg : Sat.get n D.files with
    | none => rw [del_none hg]; exact h.used
    | some f =>
      have h1 : D.used = DiskM.size f + sumBy DiskM.size (del n D.files) := sum_del h.srt hg
      have := h.used
      omega
  count := Nat.le_trans (len_del_le _ _) h.count
  names p hp := h.names p (mem_del.1 hp).1
  lasts p hp := h.lasts p (mem_del.1 hp).1
  fuse := h.fuse

section
variable {w : World} {d m : Nat} {left : Int} {L : List (Bs × FRep)} {own : Own} {D : DiskM}

theorem has_d (h : DiskIn w d m left L own D) : Has own d := by unfold Has; rw [h.od]; simp
theorem has_m (h : DiskIn w d m left L own D) : Has own m := by unfold Has; rw [h.om]; simp
theorem has_f (h : DiskIn w d m left L own D) {n : Bs} {r : FRep} (hg : Sat.get n L = some r) : Has own r.fb := by unfold Has; rw [(h.fileAt hg).ob]; simp

set_option maxHeartbeats 400000 in
theorem sync1_calls (h : DiskIn w d m left L own D) (s : ByteArray) {r : FRep} (hg : Sat.get (nm s) L = some r) :
    Calls Tryz.prog 182 #[.string s, .pointer (some ⟨r.fb, 0, none⟩)] w (Did w d own { D with files := DiskM.gSync (nm s) r.f D.files }) := by
  have hf := h.fileAt hg
  have hc := cell_of (i := 0) hf.cells rfl
  have hc1 := cell_of (i := 1) hf.cells rfl
  have hz := frozen_of hf.cells 1
  obtain ⟨p, c, hv⟩ := OwnB.slice hf.row
  have hdl : r.f.data.length ≤ 1073741824 := by
    have := h.ok.used
    have := h.ok.room
    have : r.f.data.length ≤ D.used := by rw [h.used]; exact le_sum (f := fun r : FRep => r.f.data.length) h.srt hg
    omega
  have hfin : Did w d own { D with files := DiskM.gSync (nm s) r.f D.files } (.returned (.tuple #[])) (w.setCell ⟨r.fb, 1, none⟩ (.int .i64 (r.f.data.length : Int))) := by
    have hne : ∀ k, r.v.ownBlock = some k → k ≠ r.fb := fun k hk => h.ne_of (hf.og k hk) hf.ob (by simp)
    obtain ⟨own', h4, hx⟩ := h.upd (w' := w.setCell ⟨r.fb, 1, none⟩ (.int .i64 (r.f.data.length : Int))) (v' := r.v) (f' := ⟨r.f.data, r.f.data.length⟩) hg (by simp [World.setCell]) (fun k _ hk _ => set_other _ hk)
      (by rw [set_block hf.cells]; simp) (hf.row.keep fun k hk => set_other _ (hne k hk)) (fun g hgv => .inl hgv) (ok_sync h.ok (by rw [h.get, hg]; rfl))
    exact ⟨own', rfl, ⟨m, left, _, h4⟩, (Chg.setCell w _ _).mono fun k _ e => by rw [e]; exact has_f h hg, hx⟩
  rw [hv] at hc
  have Hfin := Lib.hid hfin
  clear hfin h hg hf hv
  generalize r.f.data.length = n at *
  go_enter Tryz.func182, Tryz.ntmps182
  go_wp2
  go_end0
  exact Hfin.out

set_option maxHeartbeats 400000 in
theorem remove1_calls (h : DiskIn w d m left L own D) (s : ByteArray) (hs : s.size ≤ 9223372036854775807) {r : FRep} (_hg : Sat.get (nm s) L = some r) (cb : Nat) (hcb : w.cell? ⟨cb, 0, none⟩ = some (.pointer (some ⟨d, 0, none⟩))) :
    Calls Tryz.prog 227 #[.string s, .pointer (some ⟨r.fb, 0, none⟩), .pointer (some ⟨cb, 0, none⟩)] w (Did w d own { D with files := DiskM.gRemove (nm s) r.f D.files }) := by
  have hc1 := h.c1
  have hkey := WideMaps.keyOf_string_mk Tryz.underlying9 hs
  have hdel : ∀ w', w'.ownsMap Tryz.prog 9 ptrR m L.length ((dm fbD L).del (.string s.data.toList)) → w.mapTurned w' m → Did w d own { D with files := DiskM.gRemove (nm s) r.f D.files } (.returned (.tuple #[])) w' := by
    intro w' hown ht
    rw [dm_del] at hown
    have hg' := ht.grown
    obtain ⟨own', h4, hx⟩ := h.remap (w' := w') (L' := del (nm s) L) (D' := { D with files := del (nm s) D.files }) hg'.size (fun k hk hkm => hg'.block k hk (by intro e; cases e; exact hkm rfl)) ⟨_, hown⟩ (srt_del h.srt) rfl rfl
      (by rw [mp_del, ← h.files]) (ok_del h.ok _) (fun p hp => ⟨p, (mem_del.1 hp).1, rfl⟩) (fun p hp q hq e => by
        have h1 := h.file p (mem_del.1 hp).1
        have h2 := h.file q (mem_del.1 hq).1
        have h3 := h1.ob
        rw [e, h2.ob] at h3
        exact key_uniq h.srt (mem_del.1 hp).1 (mem_del.1 hq).1 (by simpa using h3.symm))
    exact ⟨own', rfl, ⟨m, left, _, h4⟩, (Chg.of_grown hg').mono fun k _ e => by cases e; exact has_m h, hx⟩
  have hown := h.map
  have Hdel := Lib.hid hdel
  clear hdel h _hg
  go_enter Tryz.func227, Tryz.ntmps227
  go_wp2_with (first | (at_delete; refine wpList_delete_own _ rfl _ _ 89 9 rfl 126 keyLaw Tryz.underlying89 ptrR m L.length (dm fbD L) rfl hown _ _ rfl hkey ?_; intro w1 hown1 hturn1; have Hf := Lib.hid (Hdel.out _ hown1 hturn1); clear hown1 hturn1))
  go_end0
  exact Hf.out

theorem each_append (g : Bs → FileM → List (Bs × FileM) → List (Bs × FileM)) (D : DiskM) (l r : List Bs) (h : (D.each g l).2 = 0) : D.each g (l ++ r) = (D.each g l).1.each g r := by
  induction l generalizing D with
  | nil => rfl
  | cons n l ih =>
    simp only [List.cons_append, DiskM.each] at h ⊢
    by_cases h1 : (DiskM.each1 g D n).2 = 0
    · rw [if_pos h1] at h ⊢
      rw [if_pos h1]
      exact ih _ h
    · rw [if_neg h1] at h
      exact absurd h h1

/-- What has been done with the first k names. -/
def EachRel (w : World) (d : Nat) (own : Own) (D : DiskM) (g : Bs → FileM → List (Bs × FileM) → List (Bs × FileM)) (ns : List Bs) (k : Nat) (wr : World) : Prop :=
  ∃ own' m left L, DiskIn wr d m left L own' (D.each g (ns.take k)).1 ∧ (D.each g (ns.take k)).2 = 0 ∧ Chg (Has own) w wr ∧ Ext w own own'

/-- The function that each is handed: what it does with a file, whatever the world (but for what it has captured). -/
def DoesAt (fv : Value) (g : Bs → FileM → List (Bs × FileM) → List (Bs × FileM)) (d : Nat) (w : World) (own : Own) : Prop :=
  (fv = .func (.func 182) #[] #[] ∧ g = DiskM.gSync) ∨
  ∃ cb, fv = .func (.func 227) #[] #[.pointer (some ⟨cb, 0, none⟩)] ∧ g = DiskM.gRemove ∧ w.cell? ⟨cb, 0, none⟩ = some (.pointer (some ⟨d, 0, none⟩)) ∧ own cb = none

theorem each_round {w wr : World} {g : Bs → FileM → List (Bs × FileM) → List (Bs × FileM)} {ns : List Bs} {k : Nat} {n : Bs} (hr : EachRel w d own D g ns k wr) (hn : ns[k]? = some n) :
    ∃ D', D.each g ns = (if (DiskM.each1 g D' n).2 = 0 then (DiskM.each1 g D' n).1.each g (ns.drop (k + 1)) else DiskM.each1 g D' n) ∧ (D.each g (ns.take k)).1 = D' ∧
      ((DiskM.each1 g D' n).2 = 0 → D.each g (ns.take (k + 1)) = DiskM.each1 g D' n) := by
  obtain ⟨own', m, left, L, _, h0, _⟩ := hr
  refine ⟨_, ?_, rfl, fun h1 => ?_⟩
  · have hk : k < ns.length := (List.getElem?_eq_some_iff.1 hn).1
    have hnk : ns[k] = n := (List.getElem?_eq_some_iff.1 hn).2
    have e1 : ns = ns.take k ++ n :: ns.drop (k + 1) := by rw [← hnk, ← List.drop_eq_getElem_cons hk, List.take_append_drop]
    have e2 : D.each g ns = D.each g (ns.take k ++ n :: ns.drop (k + 1)) := by rw [← e1]
    rw [e2, each_append g D _ _ h0]
    rfl
  · have hk : k < ns.length := (List.getElem?_eq_some_iff.1 hn).1
    have hnk : ns[k] = n := (List.getElem?_eq_some_iff.1 hn).2
    rw [List.take_succ_eq_append_getElem hk, each_append g D _ _ h0, hnk]
    simp only [DiskM.each, if_pos h1]
    exact Prod.ext rfl h1.symm

theorem chg_ext {w wr w2 : World} {own own' : Own} (h : Chg (Has own) w wr) (hx : Ext w own own') (k : Chg (Has own') wr w2) : Chg (Has own) w w2 :=
  h.trans k fun i hi t ho => t (hx i hi ho)
theorem ext_trans {w wr : World} {own own' own2 : Own} (hs : w.heap.size ≤ wr.heap.size) (h : Ext w own own') (k : Ext wr own' own2) : Ext w own own2 := fun i hi ho => k i (Nat.lt_of_lt_of_le hi hs) (h i hi ho)

theorem each1_bad {g : Bs → FileM → List (Bs × FileM) → List (Bs × FileM)} {D : DiskM} {n : Bs} (h : D.may [n] ≠ 0) : DiskM.each1 g D n = (D, D.may [n]) := by
  unfold DiskM.each1
  rw [if_pos h]
theorem each1_none {g : Bs → FileM → List (Bs × FileM) → List (Bs × FileM)} {D : DiskM} {n : Bs} (h : D.may [n] = 0) (hg : Sat.get n D.files = none) : DiskM.each1 g D n = (D, 7) := by
  unfold DiskM.each1
  rw [if_neg (by simpa using h), hg]
theorem each1_some {g : Bs → FileM → List (Bs × FileM) → List (Bs × FileM)} {D : DiskM} {n : Bs} {f : FileM} (h : D.may [n] = 0) (hg : Sat.get n D.files = some f) : DiskM.each1 g D n = (DiskM.done { D with files := g n f D.files }, 0) := by
  unfold DiskM.each1
  rw [if_neg (by simpa using h), hg]

/-- A round that errs. -/
theorem each_errs {w wr : World} {g : Bs → FileM → List (Bs × FileM) → List (Bs × FileM)} {ns : List Bs} {k : Nat} {n : Bs} {D' : DiskM} {e : Nat} {o : Obj} (hr : EachRel w d own D g ns k wr) (hn : ns[k]? = some n)
    (hD : (D.each g (ns.take k)).1 = D') (h1 : DiskM.each1 g D' n = (D', e)) (he : e ≠ 0) : After w d own (D.each g ns) (.returned (.int .i64 (e : Int))) (wr.alloc o) := by
  obtain ⟨D2, h2, h3, _⟩ := each_round hr hn
  rw [hD] at h3
  subst h3
  rw [h1, if_neg he] at h2
  obtain ⟨own', m, left, L, hd, h0, hc, hx⟩ := hr
  rw [hD] at hd
  rw [h2]
  exact ⟨own', rfl, ⟨m, left, L, hd.chg (Chg.alloc wr o) fun _ h => h.elim⟩, hc.trans ((Chg.alloc wr o).mono (T := Has own) fun _ _ h => h.elim) fun _ _ h => h, hx⟩

/-- A round that goes well. -/
theorem each_next {w wr w3 : World} {g : Bs → FileM → List (Bs × FileM) → List (Bs × FileM)} {ns : List Bs} {k : Nat} {n : Bs} {D' D2 : DiskM} {own2 : Own} (hr : EachRel w d own D g ns k wr) (hn : ns[k]? = some n)
    (hD : (D.each g (ns.take k)).1 = D') (h1 : DiskM.each1 g D' n = (D2, 0)) (hd : DiskAt w3 d D2 own2) (hc : Chg (Has own) w w3) (hx : Ext w own own2) : EachRel w d own D g ns (k + 1) w3 := by
  obtain ⟨D3, _, h3, h4⟩ := each_round hr hn
  rw [hD] at h3
  subst h3
  have h5 := h4 (by rw [h1])
  obtain ⟨m, left, L, hd⟩ := hd
  exact ⟨own2, m, left, L, by rw [h5, h1]; exact hd, by rw [h5, h1], hc, hx⟩

set_option maxRecDepth 100000 in
set_option maxHeartbeats 4000000 in
theorem each_calls (h : DiskAt w d D own) (p : Option Addr) (ss : List ByteArray) (c : Nat) (hs : StrsAt w p ss) (hm : ss.length ≤ 140737488355328) (hsz : ∀ s ∈ ss, s.size ≤ 9223372036854775807) (hpo : ∀ a, p = some a → own a.block = none)
    (fv : Value) (g : Bs → FileM → List (Bs × FileM) → List (Bs × FileM)) (hfv : DoesAt fv g d w own) :
    Calls Tryz.prog 181 #[.pointer (some ⟨d, 0, none⟩), .slice p ss.length c, fv] w (After w d own (D.each g (ss.map nm))) := by
  obtain ⟨m0, left0, L0, h⟩ := h
  have hstart : EachRel w d own D g (ss.map nm) 0 w := ⟨own, m0, left0, L0, by simpa [DiskM.each] using h, by simp [DiskM.each], Chg.refl _ _, ext_refl _ _⟩
  clear h
  have Hpo := Lib.hid hpo
  have Hsz := Lib.hid hsz
  have Hs := Lib.hid hs
  clear hpo hsz hs
  rcases hfv with ⟨rfl, rfl⟩ | ⟨cb, rfl, rfl, hcb, hco⟩
  · go_enter Tryz.func181, Tryz.ntmps181
    go_wp2
    go_loopw [15] (fun i wr => ∃ k : Nat, k ≤ ss.length ∧ i = .int .i64 k ∧ EachRel w d own D DiskM.gSync (ss.map nm) k wr) (fun i _ => ss.length - (intOf i).toNat)
    case atStart => exact ⟨0, Nat.zero_le _, rfl, hstart⟩
    case round =>
      clear hstart
      obtain ⟨k, hk, rfl, hrel⟩ := hrel
      by_cases hlt : k < ss.length
      · have hss : ss[k]? = some ss[k] := List.getElem?_eq_getElem hlt
        have hsk : ss[k].size ≤ 9223372036854775807 := Hsz.out _ (List.getElem_mem hlt)
        have hnk : (ss.map nm)[k]? = some (nm ss[k]) := by simp [hlt]
        have hrel0 := hrel
        obtain ⟨own', m, left, L, hd, h0, hc, hx⟩ := hrel
        generalize hD : (D.each DiskM.gSync ((ss.map nm).take k)).1 = D' at *
        have hcell : ∃ b o, p = some ⟨b, o, none⟩ ∧ wr.cell? ⟨b, o + k, none⟩ = some (.string ss[k]) := by
          rcases Hs.out with h | ⟨b, o, rfl, hcs⟩
          · rw [h] at hlt
            simp at hlt
          · refine ⟨b, o, rfl, hc.cell (hcs k _ hss) ?_⟩
            intro hh
            exact hh (Hpo.out ⟨b, o, none⟩ rfl)
        obtain ⟨b, o, rfl, hcell⟩ := hcell
        generalize ss[k] = s at *
        have h1 := hd.chg (Chg.alloc wr (.cells #[.string s] 9)) (fun k hk => hk.elim)
        have hmay := may_calls h1 _ [s] 1 (strs_one wr s) (by simp) (by simpa using hsk)
        simp only [List.map_cons, List.map_nil] at hmay
        have Hrel := Lib.hid hrel0
        have Hnk := Lib.hid hnk
        have HD := Lib.hid hD
        have Hc := Lib.hid hc
        have Hx := Lib.hid hx
        have H0 := Lib.hid h0
        clear hrel0 hnk hD hc hx hss h0
        by_cases hmz : D'.may [nm s] = 0
        · rw [hmz] at hmay
          have hc1 := h1.c1
          cases hg : Sat.get (nm s) L with
          | none =>
            have hlook := run_look_none _ keyLaw Tryz.underlying9 Tryz.underlying89 (zeroFile _) FRep.fb h1.map hsk hg
            have hfin := each_errs (o := .cells #[.string s] 9) Hrel.out Hnk.out HD.out (each1_none (g := DiskM.gSync) hmz (by rw [hd.get, hg]; rfl)) (by decide)
            have Hfin := Lib.hid hfin
            have Hmay := Lib.hid hmay
            clear hfin hmay h1 hd hg hmz
            go_wp2_with fail
            refine Hmay.out.mono ?_
            rintro e w' ⟨rfl, rfl⟩
            go_wp2_with fail
            go_ret
            exact Hfin.out
          | some r =>
            have hlook := run_look_some _ keyLaw Tryz.underlying9 Tryz.underlying89 (zeroFile _) FRep.fb h1.map hsk hg
            have hdo := sync1_calls h1 s hg
            have hnext := fun w3 own2 => each_next (w3 := w3) (own2 := own2) Hrel.out Hnk.out HD.out (each1_some (g := DiskM.gSync) hmz (by rw [hd.get, hg]; rfl))
            have hfu := (may_zero hmz).1
            have Hmay := Lib.hid hmay
            have Hdo := Lib.hid hdo
            have Hnext := Lib.hid hnext
            have Hfu := Lib.hid hfu
            clear hmay h1 hd hg hmz hdo hnext hfu
            go_wp2_with fail
            refine Hmay.out.mono ?_
            rintro e w' ⟨rfl, rfl⟩
            go_wp2_with fail
            refine Hdo.out.mono ?_
            rintro e w2 ⟨own2, rfl, ⟨m2, left2, L2, hd2⟩, hc2, hx2⟩
            have hdone := done_calls hd2 Hfu.out
            have hod : Has own2 d := has_d hd2
            have hcc := chg_ext Hc.out Hx.out (((Chg.alloc wr _).mono (T := Has own') fun _ _ h => h.elim).trans hc2 fun _ _ h => h)
            have hxx := ext_trans Hc.out.size Hx.out (fun i hi ho => hx2 i (by simp; omega) ho)
            have Hdone := Lib.hid hdone
            have Hod := Lib.hid hod
            have Hcc := Lib.hid hcc
            have Hxx := Lib.hid hxx
            clear hdone hod hcc hxx hd2 hc2 hx2
            go_wp2_with fail
            refine Hdone.out.mono ?_
            rintro e w3 ⟨rfl, hd3, hc3⟩
            have hrel3 := Hnext.out _ _ hd3 (chg_ext Hcc.out Hxx.out (hc3.mono fun i _ e => by rw [e]; exact Hod.out)) Hxx.out
            have Hrel3 := Lib.hid hrel3
            clear hd3 hc3 hrel3
            go_wp2_with fail
            go_roundw
            case rel => exact ⟨k + 1, by omega, by go_num, Hrel3.out⟩
            case measure => simp [intOf]; omega
        · have hfin := each_errs (o := .cells #[.string s] 9) Hrel.out Hnk.out HD.out (each1_bad (g := DiskM.gSync) hmz) hmz
          generalize D'.may [nm s] = e at *
          have hne : ((e : Int) != 0) = true := by simp; exact hmz
          have Hfin := Lib.hid hfin
          have Hmay := Lib.hid hmay
          clear hfin hmay h1 hd hmz
          go_wp2_with fail
          refine Hmay.out.mono ?_
          rintro e w' ⟨rfl, rfl⟩
          go_wp2_with fail
          go_ret
          exact Hfin.out
      · have hke : k = ss.length := by omega
        obtain ⟨own', m, left, L, hd, h0, hc, hx⟩ := hrel
        rw [List.take_of_length_le (by simp; omega)] at hd h0
        have Hd := Lib.hid hd
        have H0 := Lib.hid h0
        have Hc := Lib.hid hc
        have Hx := Lib.hid hx
        clear hd h0 hc hx hke
        go_wp2_with fail
        go_ret
        exact ⟨own', by rw [H0.out]; rfl, ⟨m, left, L, Hd.out⟩, Hc.out, Hx.out⟩
  · have Hcb := Lib.hid hcb
    have Hco := Lib.hid hco
    clear hcb hco
    go_enter Tryz.func181, Tryz.ntmps181
    go_wp2
    go_loopw [15] (fun i wr => ∃ k : Nat, k ≤ ss.length ∧ i = .int .i64 k ∧ EachRel w d own D DiskM.gRemove (ss.map nm) k wr) (fun i _ => ss.length - (intOf i).toNat)
    case atStart => exact ⟨0, Nat.zero_le _, rfl, hstart⟩
    case round =>
      clear hstart
      obtain ⟨k, hk, rfl, hrel⟩ := hrel
      by_cases hlt : k < ss.length
      · have hss : ss[k]? = some ss[k] := List.getElem?_eq_getElem hlt
        have hsk : ss[k].size ≤ 9223372036854775807 := Hsz.out _ (List.getElem_mem hlt)
        have hnk : (ss.map nm)[k]? = some (nm ss[k]) := by simp [hlt]
        have hrel0 := hrel
        obtain ⟨own', m, left, L, hd, h0, hc, hx⟩ := hrel
        generalize hD : (D.each DiskM.gRemove ((ss.map nm).take k)).1 = D' at *
        have hcell : ∃ b o, p = some ⟨b, o, none⟩ ∧ wr.cell? ⟨b, o + k, none⟩ = some (.string ss[k]) := by
          rcases Hs.out with h | ⟨b, o, rfl, hcs⟩
          · rw [h] at hlt
            simp at hlt
          · refine ⟨b, o, rfl, hc.cell (hcs k _ hss) ?_⟩
            intro hh
            exact hh (Hpo.out ⟨b, o, none⟩ rfl)
        obtain ⟨b, o, rfl, hcell⟩ := hcell
        generalize ss[k] = s at *
        have h1 := hd.chg (Chg.alloc wr (.cells #[.string s] 9)) (fun k hk => hk.elim)
        have hmay := may_calls h1 _ [s] 1 (strs_one wr s) (by simp) (by simpa using hsk)
        simp only [List.map_cons, List.map_nil] at hmay
        have hcb1 : (wr.alloc (.cells #[.string s] 9)).cell? ⟨cb, 0, none⟩ = some (.pointer (some ⟨d, 0, none⟩)) :=
          (Chg.alloc wr _).cell (hc.cell Hcb.out fun hh => hh Hco.out) fun h => h
        have Hrel := Lib.hid hrel0
        have Hnk := Lib.hid hnk
        have HD := Lib.hid hD
        have Hc := Lib.hid hc
        have Hx := Lib.hid hx
        have H0 := Lib.hid h0
        clear hrel0 hnk hD hc hx hss h0
        by_cases hmz : D'.may [nm s] = 0
        · rw [hmz] at hmay
          have hc1 := h1.c1
          cases hg : Sat.get (nm s) L with
          | none =>
            have hlook := run_look_none _ keyLaw Tryz.underlying9 Tryz.underlying89 (zeroFile _) FRep.fb h1.map hsk hg
            have hfin := each_errs (o := .cells #[.string s] 9) Hrel.out Hnk.out HD.out (each1_none (g := DiskM.gRemove) hmz (by rw [hd.get, hg]; rfl)) (by decide)
            have Hfin := Lib.hid hfin
            have Hmay := Lib.hid hmay
            clear hfin hmay h1 hd hg hmz hcb1
            go_wp2_with fail
            refine Hmay.out.mono ?_
            rintro e w' ⟨rfl, rfl⟩
            go_wp2_with fail
            go_ret
            exact Hfin.out
          | some r =>
            have hlook := run_look_some _ keyLaw Tryz.underlying9 Tryz.underlying89 (zeroFile _) FRep.fb h1.map hsk hg
            have hdo := remove1_calls h1 s hsk hg cb hcb1
            have hnext := fun w3 own2 => each_next (w3 := w3) (own2 := own2) Hrel.out Hnk.out HD.out (each1_some (g := DiskM.gRemove) hmz (by rw [hd.get, hg]; rfl))
            have hfu := (may_zero hmz).1
            have Hmay := Lib.hid hmay
            have Hdo := Lib.hid hdo
            have Hnext := Lib.hid hnext
            have Hfu := Lib.hid hfu
            clear hmay h1 hd hg hmz hdo hnext hfu hcb1
            go_wp2_with fail
            refine Hmay.out.mono ?_
            rintro e w' ⟨rfl, rfl⟩
            go_wp2_with fail
            refine Hdo.out.mono ?_
            rintro e w2 ⟨own2, rfl, ⟨m2, left2, L2, hd2⟩, hc2, hx2⟩
            have hdone := done_calls hd2 Hfu.out
            have hod : Has own2 d := has_d hd2
            have hcc := chg_ext Hc.out Hx.out (((Chg.alloc wr _).mono (T := Has own') fun _ _ h => h.elim).trans hc2 fun _ _ h => h)
            have hxx := ext_trans Hc.out.size Hx.out (fun i hi ho => hx2 i (by simp; omega) ho)
            have Hdone := Lib.hid hdone
            have Hod := Lib.hid hod
            have Hcc := Lib.hid hcc
            have Hxx := Lib.hid hxx
            clear hdone hod hcc hxx hd2 hc2 hx2
            go_wp2_with fail
            refine Hdone.out.mono ?_
            rintro e w3 ⟨rfl, hd3, hc3⟩
            have hrel3 := Hnext.out _ _ hd3 (chg_ext Hcc.out Hxx.out (hc3.mono fun i _ e => by rw [e]; exact Hod.out)) Hxx.out
            have Hrel3 := Lib.hid hrel3
            clear hd3 hc3 hrel3
            go_wp2_with fail
            go_roundw
            case rel => exact ⟨k + 1, by omega, by go_num, Hrel3.out⟩
            case measure => simp [intOf]; omega
        · have hfin := each_errs (o := .cells #[.string s] 9) Hrel.out Hnk.out HD.out (each1_bad (g := DiskM.gRemove) hmz) hmz
          generalize D'.may [nm s] = e at *
          have hne : ((e : Int) != 0) = true := by simp; exact hmz
          have Hfin := Lib.hid hfin
          have Hmay := Lib.hid hmay
          clear hfin hmay h1 hd hmz hcb1
          go_wp2_with fail
          refine Hmay.out.mono ?_
          rintro e w' ⟨rfl, rfl⟩
          go_wp2_with fail
          go_ret
          exact Hfin.out
      · have hke : k = ss.length := by omega
        obtain ⟨own', m, left, L, hd, h0, hc, hx⟩ := hrel
        rw [List.take_of_length_le (by simp; omega)] at hd h0
        have Hd := Lib.hid hd
        have H0 := Lib.hid h0
        have Hc := Lib.hid hc
        have Hx := Lib.hid hx
        clear hd h0 hc hx hke
        go_wp2_with fail
        go_ret
        exact ⟨own', by rw [H0.out]; rfl, ⟨m, left, L, Hd.out⟩, Hc.out, Hx.out⟩

set_option maxHeartbeats 400000 in
/-- **Sync.** -/
theorem sync_calls (h : DiskAt w d D own) (p : Option Addr) (ss : List ByteArray) (c : Nat) (hs : StrsAt w p ss) (hm : ss.length ≤ 140737488355328) (hsz : ∀ s ∈ ss, s.size ≤ 9223372036854775807) (hpo : ∀ a, p = some a → own a.block = none) :
    Calls Tryz.prog 117 #[.pointer (some ⟨d, 0, none⟩), .slice p ss.length c] w (After w d own (D.sync (ss.map nm))) := by
  have he := each_calls h p ss c hs hm hsz hpo (.func (.func 182) #[] #[]) DiskM.gSync (.inl ⟨rfl, rfl⟩)
  have He := Lib.hid he
  clear he h hs hm hsz hpo
  go_enter Tryz.func117, Tryz.ntmps117
  go_wp2_with fail
  refine He.out.mono ?_
  rintro e w' ⟨own', rfl, hd, hc, hx⟩
  have Hf := Lib.hid (And.intro hd (And.intro hc hx))
  clear hd hc hx
  go_wp2_with fail
  go_ret
  exact ⟨own', rfl, Hf.out⟩

set_option maxHeartbeats 400000 in
/-- **Remove.** -/
theorem remove_calls (h : DiskAt w d D own) (p : Option Addr) (ss : List ByteArray) (c : Nat) (hs : StrsAt w p ss) (hm : ss.length ≤ 140737488355328) (hsz : ∀ s ∈ ss, s.size ≤ 9223372036854775807) (hpo : ∀ a, p = some a → own a.block = none) :
    Calls Tryz.prog 166 #[.pointer (some ⟨d, 0, none⟩), .slice p ss.length c] w (After w d own (D.remove (ss.map nm))) := by
  have hnone : own w.heap.size = none := by
    obtain ⟨m, left, L, h⟩ := h
    cases ho : own w.heap.size with
    | none => rfl
    | some t => have := h.olt _ t ho; omega
  have h1 := h.chg (Chg.alloc w (.cells #[.pointer (some ⟨d, 0, none⟩)] 30)) (fun _ h => h.elim)
  have hs1 : StrsAt (w.alloc (.cells #[.pointer (some ⟨d, 0, none⟩)] 30)) p ss := by
    rcases hs with h | ⟨b, o, rfl, hc⟩
    · exact .inl h
    · exact .inr ⟨b, o, rfl, fun i s hi => (Chg.alloc w _).cell (hc i s hi) fun h => h⟩
  have he := each_calls h1 p ss c hs1 hm hsz hpo (.func (.func 227) #[] #[.pointer (some ⟨w.heap.size, 0, none⟩)]) DiskM.gRemove (.inr ⟨_, rfl, rfl, cell_of (new_block w _) rfl, hnone⟩)
  have He := Lib.hid he
  clear he h hs hm hsz hpo h1 hs1 hnone
  go_enter Tryz.func166, Tryz.ntmps166
  go_wp2_with fail
  refine He.out.mono ?_
  rintro e w' ⟨own', rfl, hd, hc, hx⟩
  have hc' : Chg (Has own) w w' := ((Chg.alloc w _).mono (T := Has own) fun _ _ h => h.elim).trans hc fun _ _ h => h
  have hx' : Ext w own own' := fun k hk ho => hx k (by simp; omega) ho
  have Hf := Lib.hid (And.intro hd (And.intro hc' hx'))
  clear hd hc hx hc' hx'
  go_wp2_with fail
  go_ret
  exact ⟨own', rfl, Hf.out⟩
end
end Go.Proofs.YtogdfkilhpkloaaGreatDoor

namespace Go.Sat
open Go.RowKit
/-- 'x[:k:k]'. -/
theorem run_cut {P : Program} (w : World) {t e : TypeId} {i : TypeInfo} (ht : P.underlying t = some (.slice e)) (hi : P.info? e = some i) (a : Option Addr) (len cap k : Nat) (h : k ≤ cap) :
    (Instr.slice t (.slice a len cap) none (some (.int .i64 (k : Int))) (some (.int .i64 (k : Int)))).run P w = .ok (.slice a k k) w := by
  have h1 : (Instr.sliceBound (.int .i64 (k : Int)) cap .slice3Acap).run P w = .ok k w := by
    rw [run_sliceBound _ _ _ _ _ (by omega) (by omega)]
    simp
  have h2 : (Instr.sliceBound (.int .i64 (k : Int)) k .slice3B).run P w = .ok k w := by
    rw [run_sliceBound _ _ _ _ _ (by omega) (by omega)]
    simp
  have h3 : (if k = 0 then a else a.map fun x => x.add (0 * i.size)) = a := by
    split
    · rfl
    · cases a <;> simp [Addr.add]
  simp only [Nat.zero_mul] at h3
  simp [Instr.slice, run_underlying ht, Instr.sliceBounds, h1, h2, sizeOf, typeInfo, hi, Result.andThen, h3]

theorem OwnR.cut {w : World} {e : TypeId} {p : Option Addr} {n c : Nat} {xs : List Value} (h : OwnR w e 1 (.slice p n c) n xs) {k : Nat} (hk : k ≤ n) : OwnR w e 1 (.slice p k k) k (xs.take k) := by
  obtain ⟨hl, h⟩ := h
  refine ⟨by rw [List.length_take]; omega, ?_⟩
  rcases h with ⟨e1, h0⟩ | ⟨g, cap, cur, e1, hg, hnc, hcm, hcs, ht⟩
  · cases e1
    have : k = 0 := by omega
    subst this
    exact .inl ⟨rfl, rfl⟩
  · cases e1
    refine .inr ⟨g, k, cur, rfl, hg, Nat.le_refl _, by omega, by omega, ?_⟩
    rw [← ht, List.take_take, Nat.mul_one, Nat.mul_one, Nat.min_eq_left hk]

end Go.Sat

namespace Go.Proofs.YtogdfkilhpkloaaGreatDoor
open Go.RowKit Go.Sat Go.Maps

section
variable {w : World} {d m : Nat} {left : Int} {L : List (Bs × FRep)} {own : Own} {D : DiskM}

theorem data_le (h : DiskIn w d m left L own D) {n : Bs} {r : FRep} (hg : Sat.get n L = some r) : r.f.data.length ≤ 1073741824 := by
  have := h.ok.used
  have := h.ok.room
  have : r.f.data.length ≤ D.used := by rw [h.used]; exact le_sum (f := fun r : FRep => r.f.data.length) h.srt hg
  omega

/-! ### Read -/
def dataOf (o : Option FileM) : Bs := (o.map FileM.data).getD []
def readE (o : Option FileM) : Int := if o.isSome then 0 else 7

/-- What Read leaves: the bytes in a new row, or the error. -/
def ReadPost (w : World) (o : Option FileM) (e : Ending) (w' : World) : Prop :=
  ∃ v, e = .returned (.tuple #[v, .int .i64 (readE o)]) ∧ OwnB w' 5 v (dataOf o) ∧ (∀ k, v.ownBlock = some k → w.heap.size ≤ k) ∧ Below w.heap.size w w'

set_option maxHeartbeats 400000 in
theorem read_calls (h : DiskAt w d D own) (s : ByteArray) (hs : s.size ≤ 9223372036854775807) :
    Calls Tryz.prog 162 #[.pointer (some ⟨d, 0, none⟩), .string s] w (ReadPost w (Sat.get (nm s) D.files)) := by
  obtain ⟨m, left, L, h⟩ := h
  have hc1 := h.c1
  rw [h.get]
  cases hg : Sat.get (nm s) L with
  | none =>
    have hlook := run_look_none w keyLaw Tryz.underlying9 Tryz.underlying89 (zeroFile w) FRep.fb h.map hs hg
    clear h hg
    go_enter Tryz.func162, Tryz.ntmps162
    go_wp2
    go_ret2
    exact ⟨_, rfl, OwnR.nil _ _ _, fun k hk => (by cases hk), Below.refl _ _⟩
  | some r =>
    have hlook := run_look_some w keyLaw Tryz.underlying9 Tryz.underlying89 (zeroFile w) FRep.fb h.map hs hg
    have hf := h.fileAt hg
    have hc := cell_of (i := 0) hf.cells rfl
    have hcl := clone_calls hf.row.has (by have := data_le h hg; omega)
    have Hcl := Lib.hid hcl
    clear h hg hf hcl
    go_enter Tryz.func162, Tryz.ntmps162
    go_wp2_with fail
    refine Hcl.out.mono ?_
    rintro e w' ⟨v, rfl, hv, hn, hb⟩
    have Hv := Lib.hid (And.intro hv (And.intro hn hb))
    clear hv hn hb
    go_wp2_with fail
    go_ret2
    exact ⟨_, rfl, Hv.out⟩

/-! ### Fuse -/
/-! ### Crash -/
theorem own_none (h : DiskIn w d m left L own D) {k : Nat} (hk : w.heap.size ≤ k) : own k = none := by
  cases ho : own k with
  | none => rfl
  | some t => have := h.olt _ t ho; omega

end
end Go.Proofs.YtogdfkilhpkloaaGreatDoor
