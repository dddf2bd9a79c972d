/- A journal (a plain model): its records, what a disk opens as, what each change leaves. What the records of a journal say when they are read again (plain laws). A journal in memory, its disk, and blocks (F) that neither has. journal: isTermOf, isGroup, isOne, own. (Printed by mkj1.py.) The contract of frame.Scan. journal: isOne, own, may, Term, Base, mayVote, ended. (Printed by mkj2.py.) A region that draws its order, one or some of whose operations (xs: the writers) spoil what its loads ask of the world: S is kept till the first of them has come up; whoever loads is waited for by all of them, and so may be taken first all the same. journal: own, may, Term, Base, Last, has, mayVote, ended. (Printed by mkj3.py.) journal: may, Term, Base, Last, has, mayVote, ended. (Printed by mkj4.py.) journal: At, TermAt, groupAt, Nodes, Snapshot. (Printed by mkj5.py.) -/
import Derived.Test.YtapfnehdgailmaaGreatQB
import Derived.Test.YtapfnehdgailmaaGreatQC
namespace Go.Sat
namespace Rd
def ints : Nat → Rd → List Int × Rd
  | 0, R => ([], R)
  | k + 1, R => ((R.num.1 : Int) :: (ints k R.num.2).1, (ints k R.num.2).2)
def grp (may : List Int → Bool) (R : Rd) : List Int × Rd :=
  if 7 < R.num.1 then ([], fail) else ((ints R.num.1 R.num.2).1, if may (ints R.num.1 R.num.2).1 then (ints R.num.1 R.num.2).2 else fail)
end Rd
/-- Any nodes. -/
def anyG (_ : List Int) : Bool := true
end Go.Sat

namespace Go.Proofs.YtapfnehdgailmaaGreat
open Go.RowKit Go.Sat Go.Maps

/-- An entry. -/
structure Ent where
  term : Int
  kind : Int
  data : Bs
  nodes : List Int

structure JouM where
  number : Nat
  term : Int
  group : List Int
  now : Int
  vote : Int
  data : Bs
  entries : List Ent
  dead : Bool

def grpGo (prev : Int) : List Int → Bool
  | [] => true
  | n :: r => decide (prev < n ∧ n < 7) && grpGo n r
/-- Nodes that are a group. -/
def isGrp (l : List Int) : Bool := grpGo (-1) l && decide (1 ≤ l.length ∧ l.length ≤ 7)
def isTm (n : Int) : Bool := decide (0 ≤ n ∧ n ≤ 1099511627776)
def isEnt (e : Ent) : Bool :=
  isTm e.term && (if e.kind = 0 then decide (e.data = [] ∧ e.nodes = []) else if e.kind = 1 then decide (1 ≤ e.data.length ∧ e.data.length ≤ 65536 ∧ e.nodes = [])
    else if e.kind = 2 then decide (e.data = []) && isGrp e.nodes else false)

def snpX : Bs := [45, 115, 110, 97, 112]
def snpN (p : Bs) : Bs := p ++ snpX

/-! ### Records -/
def grpB (l : List Int) : Bs := numB l.length ++ numsI l
def fstB (n : Nat) (t : Int) (g : List Int) : Bs := 1 :: (numB n ++ numI t ++ grpB g)
def trmB (t v : Int) : Bs := 2 :: (numI t ++ numI (v + 1))
def entB (n : Nat) (e : Ent) : Bs := 3 :: (numB n ++ numI e.term ++ numI e.kind ++ rowB e.data ++ grpB e.nodes)
def cutB (n : Nat) : Bs := 4 :: numB n
def snpB (n : Nat) (t : Int) (g : List Int) (b : Bs) : Bs := numB n ++ numI t ++ grpB g ++ rowB b

def entsB : Nat → List Ent → List Bs
  | _, [] => []
  | n, e :: r => entB (n + 1) e :: entsB (n + 1) r

namespace JouM
def none0 (g : List Int) : JouM := ⟨0, 0, g, 0, -1, [], [], false⟩
def last (M : JouM) : Nat := M.number + M.entries.length
def die (M : JouM) : JouM := { M with dead := true }
/-- The term of an entry, or of the base. -/
def termAt (M : JouM) (i : Int) : Option Int :=
  if i = (M.number : Int) then some M.term else if i < (M.number : Int) then none else (M.entries[(i - M.number - 1).toNat]?).map Ent.term
def lastT (M : JouM) : Int := match M.entries.getLast? with
  | some e => e.term
  | none => M.term
def mayVote (M : JouM) (t v : Int) : Bool := decide (M.now ≤ t ∧ t ≤ 1099511627776 ∧ -1 ≤ v ∧ v < 7) && !decide (t = M.now ∧ M.vote ≠ -1 ∧ v ≠ M.vote)
/-- The last entry that says a group, among so many. -/
def grpIn (M : JouM) : Nat → List Int × Nat
  | 0 => (M.group, M.number)
  | k + 1 => match M.entries[k]? with
    | some e => if e.kind = 2 then (e.nodes, M.number + k + 1) else grpIn M k
    | none => grpIn M k
def rows (M : JouM) : List Bs := fstB M.number M.term M.group :: trmB M.now M.vote :: entsB M.number M.entries
end JouM

/-- A record is done. -/
def rec1 (first : Bool) (M : JouM) (p : Bs) : Option JouM := match p with
  | [] => none
  | k :: r =>
    if first ≠ decide (k = 1) then none
    else if k = 1 then
      (if (Rd.num ⟨r, false⟩).2.num.2.grp isGrp |>.2.whole then
        if (Rd.num ⟨r, false⟩).1 ≤ 1099511627776 ∧ (Rd.num ⟨r, false⟩).2.num.1 ≤ 1099511627776 then
          some { M with number := (Rd.num ⟨r, false⟩).1, term := ((Rd.num ⟨r, false⟩).2.num.1 : Int), group := ((Rd.num ⟨r, false⟩).2.num.2.grp isGrp).1 } else none
      else none)
    else if k = 2 then
      (if (Rd.num ⟨r, false⟩).2.num.2.whole && M.mayVote ((Rd.num ⟨r, false⟩).1 : Int) (((Rd.num ⟨r, false⟩).2.num.1 : Int) - 1) then
        some { M with now := ((Rd.num ⟨r, false⟩).1 : Int), vote := (((Rd.num ⟨r, false⟩).2.num.1 : Int) - 1) } else none)
    else if k = 3 then
      (let R1 := Rd.num ⟨r, false⟩
       let R2 := R1.2.num
       let R3 := R2.2.num
       let R4 := R3.2.bytes
       let R5 := R4.2.grp anyG
       let e : Ent := ⟨R2.1, R3.1, R4.1, R5.1⟩
       if R5.2.whole ∧ R1.1 = M.last + 1 ∧ R1.1 ≤ 1099511627776 ∧ isEnt e then some { M with entries := M.entries ++ [e] } else none)
    else if k = 4 then
      (if (Rd.num ⟨r, false⟩).2.whole ∧ M.number < (Rd.num ⟨r, false⟩).1 ∧ (Rd.num ⟨r, false⟩).1 ≤ M.last + 1 then some { M with entries := M.entries.take ((Rd.num ⟨r, false⟩).1 - M.number - 1) } else none)
    else none

def recGo (M : JouM) : List Bs → Option JouM
  | [] => some M
  | p :: r => (rec1 false M p).bind fun M' => recGo M' r
def recAll (M : JouM) : List Bs → Option JouM
  | [] => none
  | p :: r => (rec1 true M p).bind fun M' => recGo M' r

/-- What a snapshot says. -/
structure Snap where
  number : Nat
  term : Int
  group : List Int
  data : Bs

def snapIs (b : Bs) : Option Snap :=
  let R1 := Rd.num ⟨b, false⟩
  let R2 := R1.2.num
  let R3 := R2.2.grp isGrp
  let R4 := R3.2.bytes
  if R4.2.whole ∧ 1 ≤ R1.1 ∧ R1.1 ≤ 1099511627776 ∧ R2.1 ≤ 1099511627776 ∧ R4.1.length ≤ 524288 then some ⟨R1.1, R2.1, R3.1, R4.1⟩ else none
def snapOf (o : Option FileM) : Nat × Option Snap :=
  if loadE o = 7 then (0, none) else if loadE o ≠ 0 then (loadE o, none) else match snapIs (loadB o) with
    | none => (3, none)
    | some s => (0, some s)

/-- A snapshot stands for all ahead of it. -/
def JouM.rebase (M : JouM) (s : Snap) : JouM :=
  { M with number := s.number, term := s.term, group := s.group, data := s.data, entries := if M.number < s.number ∧ M.termAt s.number = some s.term then M.entries.drop (s.number - M.number) else [] }

/-- The log is written anew. -/
def writesJ (D : DiskM) (pre : Bs) (M : JouM) : DiskM × Nat := D.save1 (logN pre) (recsB M.rows)

/-- What a log says: the disk behind it, an error, whether it is to be written anew, the journal. -/
def readLogJ (D : DiskM) (pre : Bs) (M : JouM) : DiskM × Nat × Bool × JouM := match get (logN pre) D.files with
  | none => (D, 0, true, M)
  | some f => match recAll M (scan f.data).1 with
    | none => (D, 3, false, M)
    | some M' => ((tornOff D (logN pre) (scan f.data).2 f.data.length).1, (tornOff D (logN pre) (scan f.data).2 f.data.length).2, false, M')

def joins (s : Option Snap) (M : JouM) (anew : Bool) : Option (Bool × JouM) := match s with
  | none => if 0 < M.number then none else some (anew, M)
  | some s => if M.number < s.number then some (true, M.rebase s) else if s.number < M.number then none else some (anew, { M with data := s.data })

/-- What a disk opens as: the disk behind it, an error, the journal. -/
def jouOpen (D : DiskM) (pre : Bs) (nodes : List Int) : DiskM × Nat × JouM :=
  if pre.length < 1 ∨ 20 < pre.length ∨ isGrp nodes = false then (D, 1, JouM.none0 nodes) else
  let r0 := D.rid [shadowN (logN pre), shadowN (snpN pre)]
  if r0.2 ≠ 0 then (r0.1, r0.2, JouM.none0 nodes) else
  let s := snapOf (get (snpN pre) r0.1.files)
  if s.1 ≠ 0 then (r0.1, s.1, JouM.none0 nodes) else
  let l := readLogJ r0.1 pre (JouM.none0 nodes)
  if l.2.1 ≠ 0 then (l.1, l.2.1, JouM.none0 nodes) else
  match joins s.2 l.2.2.2 l.2.2.1 with
  | none => (l.1, 3, JouM.none0 nodes)
  | some (anew, M) => if anew then ((writesJ l.1 pre M).1, (writesJ l.1 pre M).2, M) else (l.1, 0, M)

structure WroteJ where
  disk : DiskM
  jou : JouM
  err : Nat

/-- Records are laid behind the log's; M: what is behind it. -/
def laysJ (pre : Bs) (D : DiskM) (M : JouM) (rows : List Bs) (M' : JouM) : WroteJ :=
  if (layOn D (logN pre) (recsB rows)).2 ≠ 0 then ⟨(layOn D (logN pre) (recsB rows)).1, M.die, (layOn D (logN pre) (recsB rows)).2⟩ else ⟨(layOn D (logN pre) (recsB rows)).1, M', 0⟩

def jouTerm (pre : Bs) (D : DiskM) (M : JouM) (t v : Int) : WroteJ :=
  if M.dead then ⟨D, M, 9⟩ else if M.mayVote t v = false then ⟨D, M, 1⟩ else if t = M.now ∧ v = M.vote then ⟨D, M, 0⟩
  else laysJ pre D M [trmB t v] { M with now := t, vote := v }

def jouAppend (pre : Bs) (D : DiskM) (M : JouM) (l : List Ent) : WroteJ :=
  if M.dead then ⟨D, M, 9⟩ else if 1099511627776 < M.last + l.length ∨ l.all isEnt = false then ⟨D, M, 1⟩ else if l = [] then ⟨D, M, 0⟩
  else laysJ pre D M (entsB M.last l) { M with entries := M.entries ++ l }

def jouCut (pre : Bs) (D : DiskM) (M : JouM) (i : Int) : WroteJ :=
  if M.dead then ⟨D, M, 9⟩ else if i ≤ (M.number : Int) then ⟨D, M, 1⟩ else if (M.last : Int) < i then ⟨D, M, 0⟩
  else laysJ pre D M [cutB i.toNat] { M with entries := M.entries.take (i.toNat - M.number - 1) }

def jouGoes (pre : Bs) (D : DiskM) (M : JouM) (s : Snap) : WroteJ :=
  if (D.save (snpN pre) (snpB s.number s.term s.group s.data)).2 ≠ 0 then ⟨(D.save (snpN pre) (snpB s.number s.term s.group s.data)).1, M.die, (D.save (snpN pre) (snpB s.number s.term s.group s.data)).2⟩
  else if (writesJ (D.save (snpN pre) (snpB s.number s.term s.group s.data)).1 pre (M.rebase s)).2 ≠ 0 then ⟨(writesJ (D.save (snpN pre) (snpB s.number s.term s.group s.data)).1 pre (M.rebase s)).1, (M.rebase s).die, (writesJ (D.save (snpN pre) (snpB s.number s.term s.group s.data)).1 pre (M.rebase s)).2⟩
  else ⟨(writesJ (D.save (snpN pre) (snpB s.number s.term s.group s.data)).1 pre (M.rebase s)).1, M.rebase s, 0⟩

def jouCompact (pre : Bs) (D : DiskM) (M : JouM) (i : Int) (b : Bs) : WroteJ :=
  if M.dead then ⟨D, M, 9⟩ else if i ≤ (M.number : Int) ∨ (M.last : Int) < i ∨ 524288 < b.length then ⟨D, M, 1⟩
  else jouGoes pre D M ⟨i.toNat, (M.termAt i).getD 0, (M.grpIn (i.toNat - M.number)).1, b⟩

end Go.Proofs.YtapfnehdgailmaaGreat

namespace Go.Proofs.YtapfnehdgailmaaGreat
open Go.RowKit Go.Sat Go.Maps

theorem numI_of {z : Int} (h0 : 0 ≤ z) (h1 : z ≤ 4611686018427387904) : numI z = numB z.toNat := by
  have := numI_nat (n := z.toNat) (by omega)
  rwa [Int.toNat_of_nonneg h0] at this

theorem rd_int {z : Int} (h0 : 0 ≤ z) (h1 : z ≤ 4611686018427387904) (r : Bs) (b : Bool) : Rd.num ⟨numI z ++ r, b⟩ = (z.toNat, ⟨r, b⟩) := by
  rw [numI_of h0 h1]
  exact Rd.num_of (by omega) r b

theorem ints_of : ∀ (l : List Int) (r : Bs) (b : Bool), (∀ x ∈ l, 0 ≤ x ∧ x ≤ 4611686018427387904) → Rd.ints l.length ⟨numsI l ++ r, b⟩ = (l, ⟨r, b⟩)
  | [], _, _, _ => rfl
  | z :: l, r, b, h => by
    have hz := h z (by simp)
    have e1 : numsI (z :: l) ++ r = numI z ++ (numsI l ++ r) := by simp [numsI]
    show (((Rd.num _).1 : Int) :: (Rd.ints l.length (Rd.num _).2).1, (Rd.ints l.length (Rd.num _).2).2) = _
    rw [e1, rd_int hz.1 hz.2]
    dsimp only
    rw [ints_of l r b fun x hx => h x (by simp [hx]), Int.toNat_of_nonneg hz.1]

theorem grp_of {may : List Int → Bool} {l : List Int} (hl : l.length ≤ 7) (h : ∀ x ∈ l, 0 ≤ x ∧ x < 7) (hm : may l = true) (r : Bs) (b : Bool) : Rd.grp may ⟨grpB l ++ r, b⟩ = (l, ⟨r, b⟩) := by
  unfold Rd.grp grpB
  rw [List.append_assoc, Rd.num_of (by omega)]
  dsimp only
  rw [if_neg (by omega), ints_of l r b fun x hx => by have := h x hx; omega]
  dsimp only
  rw [if_pos hm]

theorem whole_of (b : Bool) : Rd.whole ⟨[], b⟩ = !b := by
  unfold Rd.whole
  simp

theorem grp_bound {l : List Int} (h : isGrp l = true) : l.length ≤ 7 ∧ ∀ x ∈ l, 0 ≤ x ∧ x < 7 := by
  unfold isGrp at h
  simp only [Bool.and_eq_true, decide_eq_true_eq] at h
  refine ⟨h.2.2, ?_⟩
  have go : ∀ (l : List Int) (p : Int), -1 ≤ p → grpGo p l = true → ∀ x ∈ l, p < x ∧ x < 7 := by
    intro l
    induction l with
    | nil => intro p _ _ x hx; cases hx
    | cons n r ih =>
      intro p hp hg x hx
      unfold grpGo at hg
      simp only [Bool.and_eq_true, decide_eq_true_eq] at hg
      cases hx with
      | head => exact hg.1
      | tail _ hx =>
        have := ih n (by omega) hg.2 x hx
        omega
  intro x hx
  have := go l (-1) (by omega) h.1 x hx
  omega

theorem rec_fst {M : JouM} {n : Nat} {t : Int} {g : List Int} (hn : n ≤ 1099511627776) (ht : 0 ≤ t ∧ t ≤ 1099511627776) (hg : isGrp g = true) :
    rec1 true M (fstB n t g) = some { M with number := n, term := t, group := g } := by
  have hb := grp_bound hg
  unfold rec1 fstB
  dsimp only
  rw [if_neg (by decide), if_pos rfl, List.append_assoc, Rd.num_of (by omega)]
  dsimp only
  rw [rd_int ht.1 (by omega)]
  dsimp only
  have := grp_of (may := isGrp) hb.1 hb.2 hg [] false
  rw [List.append_nil] at this
  rw [this]
  dsimp only
  rw [whole_of, if_pos (show (!false) = true from rfl), if_pos (by omega), Int.toNat_of_nonneg ht.1]

theorem rec_trm {M : JouM} {t v : Int} (h : M.mayVote t v = true) (h0 : 0 ≤ M.now) : rec1 false M (trmB t v) = some { M with now := t, vote := v } := by
  have h1 := h
  unfold JouM.mayVote at h1
  simp only [Bool.and_eq_true, decide_eq_true_eq] at h1
  have h2 := h1.1
  unfold rec1 trmB
  dsimp only
  rw [if_neg (by decide), if_neg (by decide), if_pos rfl, rd_int (by omega) (by omega)]
  dsimp only
  have e := rd_int (z := v + 1) (by omega) (by omega) [] false
  rw [List.append_nil] at e
  rw [e]
  dsimp only
  rw [whole_of, Int.toNat_of_nonneg (by omega), Int.toNat_of_nonneg (by omega), show v + 1 - 1 = v by omega, h, if_pos (show (!false && true) = true from rfl)]

theorem ent_bound {e : Ent} (h : isEnt e = true) : (0 ≤ e.term ∧ e.term ≤ 1099511627776) ∧ (0 ≤ e.kind ∧ e.kind ≤ 2) ∧ e.data.length ≤ 65536 ∧ e.nodes.length ≤ 7 ∧ ∀ x ∈ e.nodes, 0 ≤ x ∧ x < 7 := by
  unfold isEnt at h
  simp only [Bool.and_eq_true] at h
  have h1 := h.1
  unfold isTm at h1
  simp only [decide_eq_true_eq] at h1
  refine ⟨h1, ?_⟩
  have h2 := h.2
  split at h2
  · rename_i hk
    simp only [decide_eq_true_eq] at h2
    rw [h2.1, h2.2, hk]
    exact ⟨by decide, by decide, by decide, fun x hx => by cases hx⟩
  · split at h2
    · rename_i hk
      simp only [decide_eq_true_eq] at h2
      rw [h2.2.2, hk]
      exact ⟨by decide, h2.2.1, by decide, fun x hx => by cases hx⟩
    · split at h2
      · rename_i hk
        simp only [Bool.and_eq_true, decide_eq_true_eq] at h2
        rw [h2.1, hk]
        exact ⟨by decide, by decide, (grp_bound h2.2).1, (grp_bound h2.2).2⟩
      · cases h2

theorem rec_ent {M : JouM} {e : Ent} (h : isEnt e = true) (hl : M.last + 1 ≤ 1099511627776) : rec1 false M (entB (M.last + 1) e) = some { M with entries := M.entries ++ [e] } := by
  obtain ⟨ht, hk, hd, hn, hx⟩ := ent_bound h
  unfold rec1 entB
  dsimp only
  rw [if_neg (by decide), if_neg (by decide), if_neg (by decide), if_pos rfl]
  simp only [List.append_assoc]
  rw [Rd.num_of (by omega)]
  dsimp only
  rw [rd_int ht.1 (by omega)]
  dsimp only
  rw [rd_int hk.1 (by omega)]
  dsimp only
  rw [Rd.bytes_of (by omega)]
  dsimp only
  have e1 := grp_of (may := anyG) hn hx rfl [] false
  rw [List.append_nil] at e1
  rw [e1]
  dsimp only
  rw [whole_of, Int.toNat_of_nonneg ht.1, Int.toNat_of_nonneg hk.1]
  rw [if_pos ⟨rfl, rfl, hl, h⟩]

theorem rec_cut {M : JouM} {i : Nat} (h1 : M.number < i) (h2 : i ≤ M.last + 1) (h3 : i ≤ 1099511627777) : rec1 false M (cutB i) = some { M with entries := M.entries.take (i - M.number - 1) } := by
  unfold rec1 cutB
  dsimp only
  rw [if_neg (by decide), if_neg (by decide), if_neg (by decide), if_neg (by decide), if_pos rfl]
  have e1 := Rd.num_of (n := i) (by omega) [] false
  rw [List.append_nil] at e1
  rw [e1]
  dsimp only
  rw [whole_of, if_pos ⟨rfl, h1, h2⟩]

theorem recGo_app : ∀ (a b : List Bs) (M : JouM), recGo M (a ++ b) = (recGo M a).bind fun M' => recGo M' b
  | [], _, _ => rfl
  | p :: a, b, M => by
    show ((rec1 false M p).bind fun M' => recGo M' (a ++ b)) = ((rec1 false M p).bind fun M' => recGo M' a).bind fun M' => recGo M' b
    cases rec1 false M p with
    | none => rfl
    | some M' => exact recGo_app a b M'

theorem recAll_app {M M' : JouM} {a b : List Bs} (h : recAll M a = some M') : recAll M (a ++ b) = recGo M' b := by
  cases a with
  | nil => cases h
  | cons p r =>
    have h1 : ((rec1 true M p).bind fun M' => recGo M' r) = some M' := h
    show ((rec1 true M p).bind fun M' => recGo M' (r ++ b)) = _
    cases hp : rec1 true M p with
    | none => rw [hp] at h1; cases h1
    | some N =>
      rw [hp] at h1
      show recGo N (r ++ b) = _
      rw [recGo_app, show recGo N r = some M' from h1]
      rfl

theorem recGo_ents : ∀ (l : List Ent) (M : JouM), (∀ e ∈ l, isEnt e = true) → M.last + l.length ≤ 1099511627776 → recGo M (entsB M.last l) = some { M with entries := M.entries ++ l }
  | [], M, _, _ => by
    show some M = _
    rw [List.append_nil]
  | e :: l, M, h, hn => by
    show ((rec1 false M (entB (M.last + 1) e)).bind fun M' => recGo M' (entsB (M.last + 1) l)) = _
    rw [rec_ent (h e (by simp)) (by simp at hn; omega)]
    have e1 : ({ M with entries := M.entries ++ [e] } : JouM).last = M.last + 1 := by
      show M.number + (M.entries ++ [e]).length = M.number + M.entries.length + 1
      rw [List.length_append]
      rfl
    have := recGo_ents l { M with entries := M.entries ++ [e] } (fun x hx => h x (by simp [hx])) (by rw [e1]; simp at hn; omega)
    rw [e1] at this
    show recGo { M with entries := M.entries ++ [e] } (entsB (M.last + 1) l) = _
    rw [this, List.append_assoc]
    rfl

/-- What is written anew says what it was. -/
theorem rec_rows {M N : JouM} (hl : M.last ≤ 1099511627776) (ht : isTm M.term = true) (hg : isGrp M.group = true) (hn : isTm M.now = true) (hv : -1 ≤ M.vote ∧ M.vote < 7) (he : ∀ e ∈ M.entries, isEnt e = true)
    (h0 : N.now = 0) (h1 : N.vote = -1) (h2 : N.entries = []) : recAll N M.rows = some { M with data := N.data, dead := N.dead } := by
  unfold isTm at ht hn
  simp only [decide_eq_true_eq] at ht hn
  have hl' : M.number + M.entries.length ≤ 1099511627776 := hl
  show ((rec1 true N (fstB M.number M.term M.group)).bind fun M' => recGo M' (trmB M.now M.vote :: entsB M.number M.entries)) = _
  rw [rec_fst (by omega) ht hg]
  show ((rec1 false { N with number := M.number, term := M.term, group := M.group } (trmB M.now M.vote)).bind fun M' => recGo M' (entsB M.number M.entries)) = _
  rw [rec_trm (by
    unfold JouM.mayVote
    simp only [h0, h1]
    simp
    omega) (by show 0 ≤ N.now; omega)]
  have e1 : ({ N with number := M.number, term := M.term, group := M.group, now := M.now, vote := M.vote } : JouM).last = M.number := by
    show M.number + N.entries.length = _
    rw [h2]
    rfl
  have := recGo_ents M.entries { N with number := M.number, term := M.term, group := M.group, now := M.now, vote := M.vote } he (by rw [e1]; exact hl')
  rw [e1] at this
  show recGo { N with number := M.number, term := M.term, group := M.group, now := M.now, vote := M.vote } (entsB M.number M.entries) = _
  rw [this]
  simp only [h2, List.nil_append]
end Go.Proofs.YtapfnehdgailmaaGreat

namespace Go.Proofs.YtapfnehdgailmaaGreat
open Go.RowKit Go.Sat Go.Maps

def intsV (l : List Int) : List Value := l.map (Value.int .i64)
/-- v is a row of the numbers l of the holder's own. -/
def OwnI (w : World) (v : Value) (l : List Int) : Prop := OwnR w 3 1 v l.length (intsV l)
theorem OwnI.has {w : World} {v : Value} {l : List Int} (h : OwnI w v l) : HasI w v l := OwnR.holds h
theorem OwnI.keep {w w' : World} {v : Value} {l : List Int} (h : OwnI w v l) (hb : ∀ k, v.ownBlock = some k → w'.heap[k]? = w.heap[k]?) : OwnI w' v l := OwnR.keep h hb
theorem ownI_far {w w' : World} {v : Value} {l : List Int} (h : OwnI w v l) (hb : Below w.heap.size w w') : OwnI w' v l := OwnR.keep h fun k hk => hb.block k (OwnR.lt h hk)
theorem own_capI {w : World} {v : Value} {l : List Int} (h : OwnI w v l) : ∃ p c, v = .slice p l.length c ∧ l.length ≤ c := by
  rcases h.2 with ⟨rfl, hn⟩ | ⟨g, cap, cur, rfl, _, hnc, _⟩
  · exact ⟨none, 0, by rw [hn], by omega⟩
  · exact ⟨_, cap, rfl, hnc⟩

/-! ### Entries in memory -/
abbrev EV := Value × Value
def entC (e : Ent) (v : EV) : List Value := [.int .i64 e.term, .int .i64 e.kind, v.1, v.2]
def entsC : List Ent → List EV → List Value
  | e :: es, v :: vs => entC e v ++ entsC es vs
  | _, _ => []

theorem entsC_len : ∀ (es : List Ent) (vs : List EV), vs.length = es.length → (entsC es vs).length = es.length * 4
  | [], [], _ => rfl
  | e :: es, v :: vs, h => by
    show (entC e v ++ entsC es vs).length = _
    rw [List.length_append, entsC_len es vs (by simpa using h), List.length_cons]
    show 4 + _ = _
    omega
  | [], _ :: _, h => by simp at h
  | _ :: _, [], h => by simp at h

theorem entsC_app : ∀ (es : List Ent) (vs : List EV) (fs : List Ent) (us : List EV), vs.length = es.length → entsC (es ++ fs) (vs ++ us) = entsC es vs ++ entsC fs us
  | [], [], _, _, _ => rfl
  | e :: es, v :: vs, fs, us, h => by
    show entC e v ++ entsC (es ++ fs) (vs ++ us) = entC e v ++ entsC es vs ++ entsC fs us
    rw [entsC_app es vs fs us (by simpa using h), List.append_assoc]
  | [], _ :: _, _, _, h => by simp at h
  | _ :: _, [], _, _, h => by simp at h

theorem entsC_take : ∀ (k : Nat) (es : List Ent) (vs : List EV), vs.length = es.length → entsC (es.take k) (vs.take k) = (entsC es vs).take (k * 4)
  | 0, _, _, _ => by simp [entsC]
  | k + 1, [], [], _ => by simp [entsC]
  | k + 1, e :: es, v :: vs, h => by
    show entC e v ++ entsC (es.take k) (vs.take k) = (entC e v ++ entsC es vs).take ((k + 1) * 4)
    have h4 : (entC e v).length = 4 := rfl
    rw [entsC_take k es vs (by simpa using h), List.take_append, List.take_of_length_le (l := entC e v) (by omega), h4, show (k + 1) * 4 - 4 = k * 4 by omega]
  | k + 1, [], _ :: _, h => by simp at h
  | k + 1, _ :: _, [], h => by simp at h

theorem entsC_drop : ∀ (k : Nat) (es : List Ent) (vs : List EV), vs.length = es.length → entsC (es.drop k) (vs.drop k) = (entsC es vs).drop (k * 4)
  | 0, _, _, _ => by simp
  | k + 1, [], [], _ => by simp [entsC]
  | k + 1, e :: es, v :: vs, h => by
    show entsC (es.drop k) (vs.drop k) = (entC e v ++ entsC es vs).drop ((k + 1) * 4)
    have h4 : (entC e v).length = 4 := rfl
    rw [entsC_drop k es vs (by simpa using h), List.drop_append, List.drop_of_length_le (l := entC e v) (by omega), List.nil_append, h4, show (k + 1) * 4 - 4 = k * 4 by omega]
  | k + 1, [], _ :: _, h => by simp at h
  | k + 1, _ :: _, [], h => by simp at h

theorem entsC_at : ∀ (es : List Ent) (vs : List EV) (i : Nat) (e : Ent) (v : EV), es[i]? = some e → vs[i]? = some v → ∀ (j : Nat) u, (entC e v)[j]? = some u → (entsC es vs)[i * 4 + j]? = some u
  | [], _, i, e, v, h, _ => by simp at h
  | _ :: _, [], i, e, v, _, h => by simp at h
  | x :: es, y :: vs, 0, e, v, h1, h2 => by
    simp only [List.getElem?_cons_zero, Option.some.injEq] at h1 h2
    subst h1
    subst h2
    intro j u hu
    have hj : j < 4 := by
      have := (List.getElem?_eq_some_iff.1 hu).1
      exact this
    show (entC x y ++ entsC es vs)[0 * 4 + j]? = _
    rw [List.getElem?_append_left (by show _ < 4; omega), show 0 * 4 + j = j by omega]
    exact hu
  | x :: es, y :: vs, i + 1, e, v, h1, h2 => by
    intro j u hu
    have := entsC_at es vs i e v (by simpa using h1) (by simpa using h2) j u hu
    show (entC x y ++ entsC es vs)[(i + 1) * 4 + j]? = _
    rw [List.getElem?_append_right (by show 4 ≤ _; omega)]
    show (entsC es vs)[(i + 1) * 4 + j - 4]? = _
    rw [show (i + 1) * 4 + j - 4 = i * 4 + j by omega]
    exact this

structure EntAt (w : World) (e : Ent) (v : EV) : Prop where
  data : OwnB w 5 v.1 e.data
  nodes : OwnI w v.2 e.nodes
theorem EntAt.keep {w w' : World} {e : Ent} {v : EV} (h : EntAt w e v) (hb : ∀ k, (v.1.ownBlock = some k ∨ v.2.ownBlock = some k) → w'.heap[k]? = w.heap[k]?) : EntAt w' e v :=
  ⟨OwnR.keep h.data fun k hk => hb k (.inl hk), OwnR.keep h.nodes fun k hk => hb k (.inr hk)⟩
theorem EntAt.lt {w : World} {e : Ent} {v : EV} (h : EntAt w e v) {k : Nat} (hk : v.1.ownBlock = some k ∨ v.2.ownBlock = some k) : k < w.heap.size := hk.elim (OwnR.lt h.data) (OwnR.lt h.nodes)

def EntsAt (w : World) (es : List Ent) (vs : List EV) : Prop := vs.length = es.length ∧ ∀ (i : Nat) e v, es[i]? = some e → vs[i]? = some v → EntAt w e v

/-- What a journal is. -/
structure JouM.OK (M : JouM) : Prop where
  last : M.last ≤ 1099511627776
  term : isTm M.term = true
  group : isGrp M.group = true
  now : isTm M.now = true
  vote : -1 ≤ M.vote ∧ M.vote < 7
  data : M.data.length ≤ 1073741824
  ents : ∀ e ∈ M.entries, isEnt e = true

theorem isTm_iff {n : Int} : isTm n = true ↔ 0 ≤ n ∧ n ≤ 1099511627776 := by simp [isTm]
theorem grp_len {l : List Int} (h : isGrp l = true) : 1 ≤ l.length ∧ l.length ≤ 7 := by
  unfold isGrp at h
  simp only [Bool.and_eq_true, decide_eq_true_eq] at h
  exact h.2

/-! ### A journal in memory -/
structure JouIn (w : World) (j d : Nat) (pre : ByteArray) (own : Nat → Prop) (M : JouM) (gv dv ev : Value) (vs : List EV) : Prop where
  cells : w.heap[j]? = some (.cells #[.int .i64 (M.number : Int), .int .i64 M.term, gv, .pointer (some ⟨d, 0, none⟩), .string pre, .int .i64 M.now, .int .i64 M.vote, dv, ev, .bool M.dead] 132 (0, 0))
  group : OwnI w gv M.group
  data : OwnB w 5 dv M.data
  row : OwnR w 50 4 ev M.entries.length (entsC M.entries vs)
  rows : EntsAt w M.entries vs
  ol : own j
  og : ∀ k, gv.ownBlock = some k → own k ∧ k ≠ j ∧ ev.ownBlock ≠ some k
  od : ∀ k, dv.ownBlock = some k → own k ∧ k ≠ j ∧ ev.ownBlock ≠ some k
  oe : ∀ k, ev.ownBlock = some k → own k ∧ k ≠ j
  ov : ∀ u ∈ vs, ∀ k, (u.1.ownBlock = some k ∨ u.2.ownBlock = some k) → own k ∧ k ≠ j ∧ ev.ownBlock ≠ some k
  olt : ∀ k, own k → k < w.heap.size
  psz : 1 ≤ pre.size ∧ pre.size ≤ 20
  ok : M.OK

section
variable {w w' : World} {j d : Nat} {pre : ByteArray} {own : Nat → Prop} {M : JouM} {gv dv ev : Value} {vs : List EV}

theorem JouIn.keep (h : JouIn w j d pre own M gv dv ev vs) (hs : ∀ k, own k → w'.heap[k]? = w.heap[k]?) (hl : ∀ k, own k → k < w'.heap.size) : JouIn w' j d pre own M gv dv ev vs where
  cells := (hs j h.ol).trans h.cells
  group := OwnR.keep h.group fun k hk => hs k (h.og k hk).1
  data := OwnR.keep h.data fun k hk => hs k (h.od k hk).1
  row := h.row.keep fun k hk => hs k (h.oe k hk).1
  rows := ⟨h.rows.1, fun i e v he hv => (h.rows.2 i e v he hv).keep fun k hk => hs k (h.ov v (List.mem_of_getElem? hv) k hk).1⟩
  ol := h.ol
  og := h.og
  od := h.od
  oe := h.oe
  ov := h.ov
  olt := hl
  psz := h.psz
  ok := h.ok

theorem JouIn.below (h : JouIn w j d pre own M gv dv ev vs) (hb : Below w.heap.size w w') : JouIn w' j d pre own M gv dv ev vs :=
  h.keep (fun k hk => hb.block k (h.olt k hk)) fun k hk => Nat.lt_of_lt_of_le (h.olt k hk) hb.size

theorem JouIn.c (h : JouIn w j d pre own M gv dv ev vs) (i : Nat) {v : Value} (hi : (#[.int .i64 (M.number : Int), .int .i64 M.term, gv, .pointer (some ⟨d, 0, none⟩), .string pre, .int .i64 M.now, .int .i64 M.vote, dv, ev, .bool M.dead] : Array Value)[i]? = some v) : w.cell? ⟨j, i, none⟩ = some v := cell_of h.cells hi
theorem JouIn.fr (h : JouIn w j d pre own M gv dv ev vs) (i : Nat) : w.frozen? ⟨j, i, none⟩ = false := frozen_of h.cells i
/-- An entry's cells. -/
theorem JouIn.ent (h : JouIn w j d pre own M gv dv ev vs) {i : Nat} {e : Ent} (he : M.entries[i]? = some e) : ∃ g c v, ev = .slice (some ⟨g, 0, none⟩) M.entries.length c ∧ vs[i]? = some v ∧ EntAt w e v ∧
    w.cell? ⟨g, i * 4, none⟩ = some (.int .i64 e.term) ∧ w.cell? ⟨g, i * 4 + 1, none⟩ = some (.int .i64 e.kind) ∧ w.cell? ⟨g, i * 4 + 2, none⟩ = some v.1 ∧ w.cell? ⟨g, i * 4 + 3, none⟩ = some v.2 := by
  have hi := (List.getElem?_eq_some_iff.1 he).1
  have hv : vs[i]? = some (vs[i]'(by rw [h.rows.1]; exact hi)) := List.getElem?_eq_getElem _
  generalize vs[i]'(by rw [h.rows.1]; exact hi) = v at hv
  rcases h.row.2 with ⟨-, h0⟩ | ⟨g, cap, cur, rfl, -⟩
  · omega
  · have hc : ∀ (k : Nat) u, (entC e v)[k]? = some u → w.cell? ⟨g, i * 4 + k, none⟩ = some u := fun k u hu => by
      have := h.row.cells (g := g) rfl (i * 4 + k) u (entsC_at _ _ i e v he hv k u hu)
      rwa [add_zero] at this
    exact ⟨g, cap, v, rfl, hv, h.rows.2 i e v he hv, hc 0 _ rfl, hc 1 _ rfl, hc 2 _ rfl, hc 3 _ rfl⟩
end

def JouF (w w1 : World) (j d : Nat) (pre : ByteArray) (D : DiskM) (M : JouM) (F : Nat → Prop) : Prop :=
  ∃ own gv dv ev vs, JouIn w1 j d pre own M gv dv ev vs ∧ St w w1 d D (fun k => own k ∨ F k) ∧ (∀ k, own k → w.heap.size ≤ k ∧ ¬ F k) ∧ ∀ k, F k → k < w1.heap.size

def JouCells (j d : Nat) (pre : ByteArray) (w : World) : Prop := w.cell? ⟨j, 3, none⟩ = some (.pointer (some ⟨d, 0, none⟩)) ∧ w.cell? ⟨j, 4, none⟩ = some (.string pre) ∧ pre.size ≤ 20
theorem JouIn.jc {w : World} {j d : Nat} {pre : ByteArray} {own : Nat → Prop} {M : JouM} {gv dv ev : Value} {vs : List EV} (h : JouIn w j d pre own M gv dv ev vs) : JouCells j d pre w := ⟨h.c 3 rfl, h.c 4 rfl, h.psz.2⟩
theorem JouCells.same {l d : Nat} {pre : ByteArray} {w w' : World} (h : JouCells l d pre w) (hb : w'.heap[l]? = w.heap[l]?) : JouCells l d pre w' :=
  ⟨(World.cell?_of_block (a := ⟨l, 3, none⟩) hb).trans h.1, (World.cell?_of_block (a := ⟨l, 4, none⟩) hb).trans h.2.1, h.2.2⟩

section
variable {w w1 w2 : World} {j d : Nat} {pre : ByteArray} {D : DiskM} {M : JouM} {F F' : Nat → Prop}

theorem JouF.bel (h : JouF w w1 j d pre D M F) : Below w.heap.size w w1 := let ⟨_, _, _, _, _, _, hS, _, _⟩ := h; hS.below
theorem JouF.okD (h : JouF w w1 j d pre D M F) : D.OK := let ⟨_, _, _, _, _, _, hS, _, _⟩ := h; hS.ok
theorem JouF.flt (h : JouF w w1 j d pre D M F) {k : Nat} (hk : F k) : k < w1.heap.size := let ⟨_, _, _, _, _, _, _, _, hF⟩ := h; hF k hk
theorem JouF.jc (h : JouF w w1 j d pre D M F) : JouCells j d pre w1 := let ⟨_, _, _, _, _, hJ, _, _, _⟩ := h; hJ.jc
theorem JouF.stF (h : JouF w w1 j d pre D M F) : St w w1 d D F := let ⟨_, _, _, _, _, _, hS, _, _⟩ := h; hS.less fun _ hk => .inr hk
theorem JouF.st (h : JouF w w1 j d pre D M F) : St w w1 d D NoF := let ⟨_, _, _, _, _, _, hS, _, _⟩ := h; hS.noF
theorem JouF.jlt (h : JouF w w1 j d pre D M F) : j < w1.heap.size := let ⟨_, _, _, _, _, hJ, _, _, _⟩ := h; hJ.olt j hJ.ol
theorem JouF.okM (h : JouF w w1 j d pre D M F) : M.OK := let ⟨_, _, _, _, _, hJ, _, _, _⟩ := h; hJ.ok
theorem JouF.psz (h : JouF w w1 j d pre D M F) : 1 ≤ pre.size ∧ pre.size ≤ 20 := let ⟨_, _, _, _, _, hJ, _, _, _⟩ := h; hJ.psz

/-- Something else has turned: blocks of F that are new since w; what is new may be in F' too. -/
theorem JouF.move {S : Nat → Prop} (h : JouF w w1 j d pre D M F) (hc : Chg S w1 w2) (hS : ∀ k, k < w1.heap.size → S k → F k ∧ w.heap.size ≤ k) (hF : ∀ k, F' k → (F k ∨ w1.heap.size ≤ k) ∧ k < w2.heap.size) : JouF w w2 j d pre D M F' := by
  obtain ⟨own, gv, dv, ev, vs, hL, hSt, hn, hl⟩ := h
  refine ⟨own, gv, dv, ev, vs, hL.keep (fun k hk => hc.block k (hL.olt k hk) fun hs => (hn k hk).2 (hS k (hL.olt k hk) hs).1) fun k hk => Nat.lt_of_lt_of_le (hL.olt k hk) hc.size, hSt.move hc (fun k hk hs => ⟨.inr (hS k hk hs).1, (hS k hk hs).2⟩) (fun k hk => ?_), fun k hk => ⟨(hn k hk).1, fun hf => ?_⟩, fun k hk => (hF k hk).2⟩
  · rcases hk with hk | hk
    · exact ⟨.inl (.inl hk), Nat.lt_of_lt_of_le (hL.olt k hk) hc.size⟩
    · exact ⟨(hF k hk).1.imp .inr id, (hF k hk).2⟩
  · rcases (hF k hf).1 with h | h
    · exact (hn k hk).2 h
    · have := hL.olt k hk
      omega

theorem JouF.next (h : JouF w w1 j d pre D M F) (hb : Below w1.heap.size w1 w2) : JouF w w2 j d pre D M F :=
  h.move (Chg.of_below hb) (fun _ _ h => h.elim) fun _ hk => ⟨.inl hk, Nat.lt_of_lt_of_le (h.flt hk) hb.size⟩
theorem JouF.drewN (h : JouF w w1 j d pre D M F) (q : Nat) : JouF w (w1.drewN q) j d pre D M F := h.next ⟨rfl, rfl, rfl, Nat.le_refl _, fun _ _ => rfl⟩
theorem JouF.same (h : JouF w w1 j d pre D M F) (hb : Below w1.heap.size w1 w2) : Same F w1 w2 := fun _ hk => hb.block _ (h.flt hk)
theorem JouF.less (h : JouF w w1 j d pre D M F) (hF : ∀ k, F' k → F k) : JouF w w1 j d pre D M F' :=
  h.move (Chg.refl _ _ : Chg (fun _ => False) w1 w1) (fun _ _ h => h.elim) fun _ hk => ⟨.inl (hF _ hk), h.flt (hF _ hk)⟩
theorem JouF.more (h : JouF w w1 j d pre D M F) (hb : Below w1.heap.size w1 w2) (hF : ∀ k, F' k → F k ∨ w1.heap.size ≤ k ∧ k < w2.heap.size) : JouF w w2 j d pre D M F' :=
  h.move (Chg.of_below hb) (fun _ _ h => h.elim) fun k hk => by
    rcases hF k hk with h1 | h1
    · exact ⟨.inl h1, Nat.lt_of_lt_of_le (h.flt h1) hb.size⟩
    · exact ⟨.inr h1.1, h1.2⟩
theorem JouF.box (h : JouF w w1 j d pre D M F) (o : Obj) : JouF w (w1.alloc o) j d pre D M (fun k => F k ∨ k = w1.heap.size) :=
  h.more (below_one w1 o) fun k hk => hk.imp id fun e => ⟨by omega, by simp; omega⟩

/-- A thing done with the disk. -/
theorem jou_disk {P : Program} {f : FuncId} {args : Array Value} {Re : DiskM × Nat} {wc : World} (h : JouF w w1 j d pre D M F) (hb : Below w1.heap.size w1 wc) (hx : ∀ G, St w w1 d D G → Calls P f args wc (Told w d G wc Re)) :
    Calls P f args wc fun e w' => e = .returned (.int .i64 (Re.2 : Int)) ∧ JouF w w' j d pre Re.1 M F ∧ Same F w1 w' ∧ w'.heap[j]? = w1.heap[j]? := by
  obtain ⟨own, gv, dv, ev, vs, hL, hS, hn, hl⟩ := h
  refine (hx _ hS).mono ?_
  rintro e w' ⟨rfl, hS', hs⟩
  refine ⟨rfl, ⟨own, gv, dv, ev, vs, ?_, hS', hn, fun k hk => hS'.flt (.inr hk)⟩, fun k hk => (hs k (.inr hk)).trans (hb.block k (hl k hk)), (hs j (.inl hL.ol)).trans (hb.block j (hL.olt j hL.ol))⟩
  exact (hL.below hb).keep (fun k hk => hs k (.inl hk)) fun k hk => hS'.flt (.inl hk)
theorem jou_disk0 {P : Program} {f : FuncId} {args : Array Value} {D' : DiskM} (h : JouF w w1 j d pre D M F) (hx : ∀ G, St w w1 d D G → Calls P f args w1 (Told0 w d G w1 D')) :
    Calls P f args w1 fun e w' => e = .returned (.tuple #[]) ∧ JouF w w' j d pre D' M F ∧ Same F w1 w' := by
  obtain ⟨own, gv, dv, ev, vs, hL, hS, hn, hl⟩ := h
  refine (hx _ hS).mono ?_
  rintro e w' ⟨rfl, hS', hs⟩
  exact ⟨rfl, ⟨own, gv, dv, ev, vs, hL.keep (fun k hk => hs k (.inl hk)) fun k hk => hS'.flt (.inl hk), hS', hn, fun k hk => hS'.flt (.inr hk)⟩, fun k hk => hs k (.inr hk)⟩

/-- The journal itself has turned. -/
theorem JouF.turned {own own' : Nat → Prop} {M' : JouM} {gv' dv' ev' : Value} {vs' : List EV} (hS : St w w1 d D (fun k => own k ∨ F k)) (hn : ∀ k, own k → w.heap.size ≤ k ∧ ¬ F k) (hl : ∀ k, F k → k < w1.heap.size)
    (hL' : JouIn w2 j d pre own' M' gv' dv' ev' vs') (hc : Chg own w1 w2) (hx : ∀ k, own' k → own k ∨ w1.heap.size ≤ k) : JouF w w2 j d pre D M' F ∧ Same F w1 w2 := by
  refine ⟨⟨own', gv', dv', ev', vs', hL', hS.move hc (fun k _ hk => ⟨.inl hk, (hn k hk).1⟩) (fun k hk => ?_), fun k hk => ?_, fun k hk => Nat.lt_of_lt_of_le (hl k hk) hc.size⟩, fun k hk => hc.block k (hl k hk) fun ho => (hn k ho).2 hk⟩
  · rcases hk with hk | hk
    · exact ⟨(hx k hk).imp .inl id, hL'.olt k hk⟩
    · exact ⟨.inl (.inr hk), Nat.lt_of_lt_of_le (hl k hk) hc.size⟩
  · rcases hx k hk with h | h
    · exact hn k h
    · exact ⟨Nat.le_trans hS.below.size h, fun hf => by have := hl k hf; omega⟩
end

/-- Cells of the journal that are plain have turned. -/
theorem JouIn.set {w w' : World} {j d : Nat} {pre : ByteArray} {own : Nat → Prop} {M M' : JouM} {gv dv ev : Value} {vs : List EV} (h : JouIn w j d pre own M gv dv ev vs)
    (hc : w'.heap[j]? = some (.cells #[.int .i64 (M'.number : Int), .int .i64 M'.term, gv, .pointer (some ⟨d, 0, none⟩), .string pre, .int .i64 M'.now, .int .i64 M'.vote, dv, ev, .bool M'.dead] 132 (0, 0)))
    (hs : ∀ k, k ≠ j → w'.heap[k]? = w.heap[k]?) (hz : w'.heap.size = w.heap.size) (hg : M'.group = M.group) (hd : M'.data = M.data) (he : M'.entries = M.entries) (ok : M'.OK) : JouIn w' j d pre own M' gv dv ev vs where
  cells := hc
  group := by rw [hg]; exact OwnR.keep h.group fun k hk => hs k (h.og k hk).2.1
  data := by rw [hd]; exact OwnR.keep h.data fun k hk => hs k (h.od k hk).2.1
  row := by rw [he]; exact h.row.keep fun k hk => hs k (h.oe k hk).2
  rows := by rw [he]; exact ⟨h.rows.1, fun i e v he hv => (h.rows.2 i e v he hv).keep fun k hk => hs k (h.ov v (List.mem_of_getElem? hv) k hk).2.1⟩
  ol := h.ol
  og := h.og
  od := h.od
  oe := h.oe
  ov := h.ov
  olt := fun k hk => by rw [hz]; exact h.olt k hk
  psz := h.psz
  ok := ok
end Go.Proofs.YtapfnehdgailmaaGreat

namespace Go.Proofs.YtapfnehdgailmaaGreat
open Go.RowKit Go.Sat Go.Maps

/-- slices.Clone of numbers. -/
theorem icl_calls {w : World} {x : Value} {l : List Int} (h : HasI w x l) (hl : l.length ≤ 1099511627776) :
    Calls Tryz.prog 74 #[x] w fun e w' => ∃ v, e = .returned v ∧ OwnI w' v l ∧ (∀ k, v.ownBlock = some k → w.heap.size ≤ k) ∧ Below w.heap.size w w' := by
  obtain ⟨hlen, p, c, rfl, h0, hc⟩ := h
  cases p with
  | none =>
    have h1 : l = [] := List.eq_nil_of_length_eq_zero (h0 rfl)
    subst h1
    refine (Tryz.slices_Clone_int_nil _ c w).mono ?_
    rintro e w' ⟨rfl, rfl⟩
    exact ⟨_, rfl, OwnR.nil _ _ _, fun k hk => (by cases hk), Below.refl _ _⟩
  | some a =>
    by_cases hn : l = []
    · subst hn
      refine (Tryz.slices_Clone_int_zero a c w).mono ?_
      rintro e w' ⟨v, rfl, hv, -, hb⟩
      exact ⟨v, rfl, OwnR.of_kit hv, fun k hk => OwnR.block_ge hv hk, hb⟩
    · obtain ⟨b, o, sp⟩ := a
      have hpos : 0 < l.length := by
        cases l with
        | nil => exact absurd rfl hn
        | cons x r => simp
      have h1 := hc _ rfl 0 (.int .i64 l[0]) (by rw [List.getElem?_map, List.getElem?_eq_getElem hpos]; rfl)
      have hsp : sp = none := by
        have := World.cell?_spot h1
        simpa [Addr.add] using this
      subst hsp
      refine (Tryz.slices_Clone_int b o l.length c l w (Nat.le_refl _) (by omega) fun j hj => ?_).mono ?_
      · have := hc _ rfl j (.int .i64 l[j]) (by rw [List.getElem?_map, List.getElem?_eq_getElem hj]; rfl)
        have e : (⟨b, o, none⟩ : Addr).add j = ⟨b, o + j, none⟩ := by unfold Addr.add; split <;> simp_all
        rw [e] at this
        rw [this]
        simp [List.getD, List.getElem?_eq_getElem hj]
      · rintro e w' ⟨v, rfl, hv, -, hb⟩
        rw [List.take_length] at hv
        exact ⟨v, rfl, OwnR.of_kit hv, fun k hk => OwnR.block_ge hv hk, hb⟩

theorem istm_calls (w : World) (n : Int) : Calls Tryz.prog 112 #[.int .i64 n] w fun e w' => e = .returned (.bool (isTm n)) ∧ w' = w := by
  by_cases h0 : 0 ≤ n
  · by_cases h1 : n ≤ 1099511627776
    · have HE := Lib.hid (show isTm n = true from isTm_iff.2 ⟨h0, h1⟩)
      go_enter Tryz.func112, Tryz.ntmps112
      go_wp2_with fail
      go_ret
      exact ⟨by rw [HE.out]; rfl, rfl⟩
    · have HE := Lib.hid (show isTm n = false from by rw [Bool.eq_false_iff]; intro e; exact h1 (isTm_iff.1 e).2)
      have hd : decide (n ≤ 1099511627776) = false := by simpa using h1
      go_enter Tryz.func112, Tryz.ntmps112
      go_wp2_with fail
      go_ret
      exact ⟨by rw [HE.out]; rfl, rfl⟩
  · have HE := Lib.hid (show isTm n = false from by rw [Bool.eq_false_iff]; intro e; exact h0 (isTm_iff.1 e).1)
    have hd : decide (0 ≤ n) = false := by simpa using h0
    go_enter Tryz.func112, Tryz.ntmps112
    go_wp2_with fail
    go_ret
    exact ⟨by rw [HE.out]; rfl, rfl⟩

/-- The number ahead. -/
def prevI (l : List Int) (k : Nat) : Int := if k = 0 then -1 else (l[k - 1]?).getD 0
theorem prev_succ {l : List Int} {k : Nat} (hk : k < l.length) : prevI l (k + 1) = l[k] := by
  unfold prevI
  rw [if_neg (by omega), Nat.add_sub_cancel, List.getElem?_eq_getElem hk]
  rfl

set_option maxRecDepth 100000 in
set_option maxHeartbeats 4000000 in
theorem isgrp_calls {w : World} {p : Option Addr} {n c : Nat} {l : List Int} (h : HasI w (.slice p n c) l) (hl : l.length ≤ 1099511627776) :
    Calls Tryz.prog 73 #[.slice p n c] w fun e w' => e = .returned (.bool (isGrp l)) ∧ w' = w := by
  have hn : l.length = n := by obtain ⟨_, _, e⟩ := h.slice; simp only [Value.slice.injEq] at e; exact e.2.1.symm
  rw [hn] at hl
  have H := Lib.hid h
  have Hn := Lib.hid hn
  clear h hn
  go_enter Tryz.func73, Tryz.ntmps73
  go_wp2_with fail
  go_loop [7] (fun i => ∃ k : Nat, k ≤ n ∧ i = .int .i64 k ∧ grpGo (-1) l = grpGo (prevI l k) (l.drop k) ∧ -1 ≤ prevI l k) (fun i => n - (intOf i).toNat)
  case atStart => exact ⟨0, Nat.zero_le _, rfl, rfl, Int.le_refl _⟩
  case round =>
    obtain ⟨k, hk, rfl, hgo, hpv⟩ := hrel
    by_cases hlt : k < n
    · have hkl : k < l.length := by rw [Hn.out]; exact hlt
      have HB := Lib.hid (show ¬ (prevI l k < l[k] ∧ l[k] < 7) → isGrp l = false from fun hb => by
        unfold isGrp
        rw [hgo, List.drop_eq_getElem_cons hkl]
        unfold grpGo
        rw [decide_eq_false hb]
        rfl)
      have HG := Lib.hid (show prevI l k < l[k] ∧ l[k] < 7 → grpGo (-1) l = grpGo (prevI l (k + 1)) (l.drop (k + 1)) from fun hb => by
        rw [hgo, List.drop_eq_getElem_cons hkl, prev_succ hkl]
        show (decide _ && _) = _
        rw [decide_eq_true hb, Bool.true_and])
      have HP := Lib.hid (prev_succ hkl)
      rcases H.out.at with h0 | ⟨b, o, c1, e1, hc⟩
      · rw [h0] at hkl
        simp at hkl
      rw [Hn.out] at e1
      simp only [Value.slice.injEq] at e1
      obtain ⟨rfl, -, rfl⟩ := e1
      have hck := hc k _ (List.getElem?_eq_getElem hkl)
      have Hcp := Lib.hid (show k ≠ 0 → w.cell? ⟨b, o + (k - 1), none⟩ = some (.int .i64 (prevI l k)) from fun h0 => by
        have hk1 : k - 1 < l.length := by omega
        have := hc (k - 1) _ (List.getElem?_eq_getElem hk1)
        rw [this]
        unfold prevI
        rw [if_neg h0, List.getElem?_eq_getElem hk1]
        rfl)
      have Hp0 := Lib.hid (show k = 0 → prevI l k = -1 from fun h0 => by rw [h0]; rfl)
      clear hc hgo
      generalize l[k] = x at *
      generalize prevI l k = q at *
      by_cases hx0 : x < 0
      · have HE := Lib.hid (HB.out (by omega))
        go_wp2_with fail
        go_ret
        exact ⟨by rw [HE.out]; rfl, rfl⟩
      · have hd0 : decide (x < 0) = false := by simpa using hx0
        by_cases hx7 : 7 ≤ x
        · have HE := Lib.hid (HB.out (by omega))
          go_wp2_with fail
          go_ret
          exact ⟨by rw [HE.out]; rfl, rfl⟩
        · have hd7 : decide (7 ≤ x) = false := by simpa using hx7
          by_cases hk0 : k = 0
          · have HE := Lib.hid (HG.out (by rw [Hp0.out hk0]; omega))
            have hdk : decide ((0 : Int) < (k : Int)) = false := by simp; omega
            have hdk2 : decide (0 < k) = false := by simp; omega
            clear hk0
            go_wp2_with fail
            go_round
            case rel => exact ⟨k + 1, by omega, by go_num, HE.out, by rw [HP.out]; omega⟩
            case measure => simp [intOf]; omega
          · have hcp := Hcp.out hk0
            have hk1 : (0 : Int) < (k : Int) := by omega
            have hk1n : 0 < k := by omega
            have hw1 : IntKind.i64.wrap ((k : Int) - 1) = ((k - 1 : Nat) : Int) := by rw [IntWalk.i64_in _ (by omega)]; omega
            have hkn : k - 1 < n := by omega
            by_cases hxq : x ≤ q
            · have HE := Lib.hid (HB.out (by omega))
              go_wp2_with fail
              go_ret
              exact ⟨by rw [HE.out]; rfl, rfl⟩
            · have HE := Lib.hid (HG.out (by omega))
              have hdq : decide (x ≤ q) = false := by simpa using hxq
              go_wp2_with fail
              go_round
              case rel => exact ⟨k + 1, by omega, by go_num, HE.out, by rw [HP.out]; omega⟩
              case measure => simp [intOf]; omega
    · have hdr : l.drop k = [] := List.drop_of_length_le (by rw [Hn.out]; omega)
      have HE := Lib.hid (show isGrp l = decide (1 ≤ n ∧ n ≤ 7) from by
        unfold isGrp
        rw [hgo, hdr, Hn.out]
        rfl)
      clear hgo hdr
      by_cases h1 : 1 ≤ n
      · by_cases h7 : n ≤ 7
        · have hd1 : decide ((1 : Int) ≤ (n : Int)) = true := by simp; omega
          have hd7 : decide ((n : Int) ≤ 7) = true := by simp; omega
          go_wp2_with fail
          go_ret
          exact ⟨by rw [HE.out, decide_eq_true (And.intro h1 h7)]; rfl, rfl⟩
        · have hd1 : decide ((1 : Int) ≤ (n : Int)) = true := by simp; omega
          have hd : decide ((n : Int) ≤ 7) = false := by simp; omega
          go_wp2_with fail
          go_ret
          exact ⟨by rw [HE.out, decide_eq_false (fun e => h7 e.2)]; rfl, rfl⟩
      · have hd : decide ((1 : Int) ≤ (n : Int)) = false := by simp; omega
        go_wp2_with fail
        go_ret
        exact ⟨by rw [HE.out, decide_eq_false (fun e => h1 e.1)]; rfl, rfl⟩
end Go.Proofs.YtapfnehdgailmaaGreat

namespace Go.Proofs.YtapfnehdgailmaaGreat
open Go.RowKit Go.Sat Go.Maps

/-- A list of rows that is laid up, each row in memory of its own. -/
structure RowsIn (w : World) (v : Value) (vs : List Value) (ls : List Bs) : Prop where
  row : OwnR w 22 1 v ls.length vs
  has : ∀ (i : Nat) u b, vs[i]? = some u → ls[i]? = some b → OwnB w 5 u b
  sep : ∀ u ∈ vs, ∀ k, u.ownBlock = some k → v.ownBlock ≠ some k

theorem below_one0 (w : World) (o : Obj) : Below w.heap.size w (w.alloc o) := (Below.refl _ _).alloc (Nat.le_refl _) o

theorem slit_one (w : World) (u : Value) (e : TypeId) (fr : Nat × Nat) : Holds (w.alloc (.cells #[u] e fr)) 1 (.slice (some ⟨w.heap.size, 0, none⟩) 1 1) 1 [u] := by
  refine ⟨rfl, some ⟨w.heap.size, 0, none⟩, 1, rfl, fun e => (by cases e), fun a ha i x hx => ?_⟩
  cases ha
  rw [add_zero]
  refine cell_of (new_block w _) ?_
  simpa using hx

section
variable {w w0 w1 : World} {v v' u : Value} {vs : List Value} {ls : List Bs} {b : Bs}

theorem RowsIn.len (h : RowsIn w v vs ls) : vs.length = ls.length := by have := h.row.1; omega

theorem RowsIn.below (h : RowsIn w v vs ls) (hb : Below w.heap.size w w1) : RowsIn w1 v vs ls :=
  ⟨h.row.keep fun k hk => hb.block k (OwnR.lt h.row hk), fun i u b hu hl => OwnR.keep (h.has i u b hu hl) fun k hk => hb.block k (OwnR.lt (h.has i u b hu hl) hk), h.sep⟩

theorem RowsIn.nil (w : World) : RowsIn w (.slice none 0 0) [] [] := ⟨OwnR.nil _ _ _, fun i u b hu => (by simp at hu), fun u hu => (by simp at hu)⟩

theorem mem_rows (h : RowsIn w v vs ls) {u : Value} (hu : u ∈ vs) : ∃ b, OwnB w 5 u b := by
  obtain ⟨i, hi, rfl⟩ := List.getElem_of_mem hu
  have hl : i < ls.length := by rw [← h.len]; exact hi
  exact ⟨ls[i], h.has i _ _ (List.getElem?_eq_getElem hi) (List.getElem?_eq_getElem hl)⟩

/-- A row was appended. -/
theorem RowsIn.push (h : RowsIn w0 v vs ls) (hu : OwnB w0 5 u b) (hne : ∀ k, u.ownBlock = some k → v.ownBlock ≠ some k) (hown : OwnR w1 22 1 v' (ls.length + 1) (vs ++ [u])) (hg : w0.grownBy w1 v.ownBlock) (hloc : v'.ownBlock = v.ownBlock ∨ ∃ g, v'.ownBlock = some g ∧ w0.heap.size ≤ g) :
    RowsIn w1 v' (vs ++ [u]) (ls ++ [b]) := by
  have hlen := h.len
  have hk : ∀ x c, OwnB w0 5 x c → (∀ k, x.ownBlock = some k → v.ownBlock ≠ some k) → OwnB w1 5 x c := fun x c hx hs => OwnR.keep hx fun k hk => hg.block k (OwnR.lt hx hk) fun e => hs k hk e.symm
  have hs' : ∀ x c, OwnB w0 5 x c → (∀ k, x.ownBlock = some k → v.ownBlock ≠ some k) → ∀ k, x.ownBlock = some k → v'.ownBlock ≠ some k := fun x c hx hs k hk e => by
    rcases hloc with e1 | ⟨g, e1, hge⟩
    · exact hs k hk (e1 ▸ e)
    · rw [e] at e1
      cases e1
      have := OwnR.lt hx hk
      omega
  refine ⟨by rw [List.length_append]; exact hown, fun i x c hx hc => ?_, fun x hx k hk' => ?_⟩
  · by_cases hi : i < vs.length
    · rw [List.getElem?_append_left hi] at hx
      rw [List.getElem?_append_left (by omega)] at hc
      exact hk x c (h.has i x c hx hc) (h.sep x (List.mem_of_getElem? hx))
    · rw [List.getElem?_append_right (by omega)] at hx
      rw [List.getElem?_append_right (by omega)] at hc
      have hi0 : i - vs.length = 0 := by
        have := (List.getElem?_eq_some_iff.1 hx).1
        simp at this
        omega
      rw [hi0] at hx
      rw [show i - ls.length = 0 by omega] at hc
      cases hx
      cases hc
      exact hk u b hu hne
  · rcases List.mem_append.1 hx with hx | hx
    · obtain ⟨c, hc⟩ := mem_rows h hx
      exact hs' x c hc (h.sep x hx) k hk'
    · have : x = u := by simpa using hx
      subst this
      exact hs' x b hu hne k hk'
end

/-- What is new. -/
def NewRows (B : Nat) (v : Value) (vs : List Value) : Prop := (∀ k, v.ownBlock = some k → B ≤ k) ∧ ∀ u ∈ vs, ∀ k, u.ownBlock = some k → B ≤ k

theorem NewRows.push {B : Nat} {w0 : World} {v v' u : Value} {vs : List Value} (h : NewRows B v vs) (hu : ∀ j, u.ownBlock = some j → B ≤ j) (hloc : v'.ownBlock = v.ownBlock ∨ ∃ g, v'.ownBlock = some g ∧ w0.heap.size ≤ g) (hB : B ≤ w0.heap.size) : NewRows B v' (vs ++ [u]) := by
  refine ⟨fun j hj => ?_, fun x hx j hj => ?_⟩
  · rcases hloc with e | ⟨g, e, hge⟩
    · exact h.1 j (e ▸ hj)
    · rw [hj] at e
      cases e
      omega
  · rcases List.mem_append.1 hx with hx | hx
    · exact h.2 x hx j hj
    · rw [List.mem_singleton] at hx
      exact hu j (hx ▸ hj)

def Scanned (w : World) (b : Bs) (e : Ending) (w' : World) : Prop := ∃ v vs, e = .returned (.tuple #[v, .int .i64 ((scan b).2 : Int)]) ∧ RowsIn w' v vs (scan b).1 ∧ NewRows w.heap.size v vs ∧ Below w.heap.size w w'

def ScanRel (w : World) (b : Bs) (n : Nat) (x y : Value) (wr : World) : Prop := ∃ (k : Nat) (v : Value) (vs : List Value) (ls : List Bs), k ≤ n ∧ y = .int .i64 k ∧ v = x ∧ ls.length ≤ k ∧ RowsIn wr v vs ls ∧ NewRows w.heap.size v vs ∧ Below w.heap.size w wr ∧ (scan b).1 = ls ++ (scan (b.drop k)).1 ∧ (scan b).2 = k + (scan (b.drop k)).2

set_option maxRecDepth 100000 in
set_option maxHeartbeats 4000000 in
theorem scan_calls {w : World} {p : Option Addr} {n c : Nat} {b : Bs} (h : HasB w (.slice p n c) b) (hnc : n ≤ c) (hl : b.length ≤ 1073741824) :
    Calls Tryz.prog 154 #[.slice p n c] w (Scanned w b) := by
  obtain ⟨i1, hi1, -, hs1, -⟩ := info_parts (show (Tryz.prog.info? 5).map (fun i => (i.zero, i.size, i.bytes)) = some (some (.int .u8 0), 1, 1) by kernel_rfl)
  obtain ⟨i0, hi, hz0, hz1, hz2⟩ := info_parts (show (Tryz.prog.info? 22).map (fun i => (i.zero, i.size, i.bytes)) = some (some (.slice none 0 0), 1, 24) by kernel_rfl)
  have hn : b.length = n := by obtain ⟨_, _, e⟩ := h.slice; simp only [Value.slice.injEq] at e; exact e.2.1.symm
  have hn30 : n ≤ 1073741824 := by omega
  have H := Lib.hid h
  have Hn := Lib.hid hn
  have Hnc := Lib.hid hnc
  clear h hn hnc hl
  go_enter Tryz.func154, Tryz.ntmps154
  go_wp2_with fail
  go_loopw [4, 5] (ScanRel w b n) (fun _ y _ => n - (intOf y).toNat)
  case atStart => exact ⟨0, _, [], [], Nat.zero_le _, rfl, rfl, Nat.zero_le _, RowsIn.nil _, ⟨fun k hk => (by cases hk), fun u hu => (by simp at hu)⟩, Below.refl _ _, by simp, by simp⟩
  case round =>
    obtain ⟨k, v, vs, ls, hk, rfl, rfl, hlk, hrow, hnew, hb, hsc1, hsc2⟩ := hrel
    by_cases hlt : k < n
    · obtain ⟨r0, hr0⟩ : ∃ r0, (Value.slice p n c).ownBlock ≠ some r0 := by
        cases (Value.slice p n c).ownBlock with
        | none => exact ⟨0, by simp⟩
        | some g => exact ⟨g + 1, by simp⟩
      obtain ⟨p', c', hsl, hh, hc', -⟩ := run_tail (P := Tryz.prog) Tryz.underlying22 hi1 hs1 (HasB.below H.out hb) Hnc.out r0 k hr0 (Nat.le_of_lt hlt)
      have Hd := Lib.hid (dec_calls hh hc' (by rw [List.length_drop, Hn.out]; omega))
      have Hx := Lib.hid (And.intro hrow (And.intro hnew (And.intro hb (And.intro hsc1 hsc2))))
      have hbl : (b.drop k).length = n - k := by rw [List.length_drop, Hn.out]
      clear hh hc' hrow hnew hb hsc1 hsc2
      by_cases he : decE (b.drop k) = 0
      · have hL := decL_pos he
        rw [hbl] at hL
        have Hgo := Lib.hid (scan_go he)
        rw [List.drop_drop] at Hgo
        unfold Decoded at Hd
        rw [he] at Hd
        generalize decL (b.drop k) = L at *
        generalize decB (b.drop k) = x at *
        clear he
        go_wp2_with fail
        refine Hd.out.mono ?_
        rintro e w2 ⟨v2, rfl, hv2, hn2, hb2⟩
        have hrow2 := Hx.out.1.below hb2
        have Hv2 := Lib.hid hv2
        have Hsep := Lib.hid (show ∀ j, v2.ownBlock = some j → v.ownBlock ≠ some j from fun j hj e => by have h1 := hn2 j hj; have h2 := OwnR.lt Hx.out.1.row e; omega)
        have Hn2 := Lib.hid (show ∀ j, v2.ownBlock = some j → w.heap.size ≤ j from fun j hj => Nat.le_trans Hx.out.2.2.1.size (hn2 j hj))
        have Hb2 := Lib.hid hb2
        have Hr2 := Lib.hid hrow2
        obtain ⟨p2, c2, rfl, -⟩ := own_cap0 hv2
        clear hv2 hn2 hb2 hrow2 Hd
        generalize hq : x.length = q at *
        have Hq := Lib.hid hq
        generalize hm : ls.length = m at *
        have Hm := Lib.hid hm
        clear hq hm
        have Hrow2 := Lib.hid (show OwnR w2 22 1 v m vs by have := Hr2.out.row; rwa [Hm.out] at this)
        go_wp2_with (at_builtin; have hal := Hrow2.out.keep (w' := w2.alloc (.cells #[.slice p2 q c2] 22)) (fun j hj => (below_one0 w2 _).block j (OwnR.lt Hrow2.out hj)); have hxx := slit_one w2 (.slice p2 q c2) 22 (0, 0); refine wpList_app _ rfl (.tmp 23) (.tmp 25) 108 rfl 22 i0 (.slice none 0 0) 1 24 Tryz.underlying108 hi hz0 hz1 hz2 rfl (by decide) v m _ rfl hal (.slice (some ⟨w2.heap.size, 0, none⟩) 1 1) 1 _ rfl hxx (by simp [Value.oneCell']) (by unfold maxLen; omega) (by omega) ?_; clear hal hxx; intro v3 w3 hown3 hgrow3 hloc3; go_loud (have hE := RowsIn.push (b := x) (Hr2.out.below (below_one0 w2 (.cells #[.slice p2 q c2] 22))) (OwnR.keep Hv2.out fun j hj => (below_one0 w2 _).block j (OwnR.lt Hv2.out hj)) Hsep.out (by rw [Hm.out]; exact hown3) hgrow3 hloc3; have hN := NewRows.push (u := .slice p2 q c2) Hx.out.2.1 Hn2.out hloc3 (by have h1 := Hx.out.2.2.1.size; have h2 := Hb2.out.size; have h3 := (below_one0 w2 (.cells #[.slice p2 q c2] 22)).size; omega); have hB : Below w.heap.size w w3 := by { have h1 := Hx.out.2.2.1.trans ((Hb2.out.trans ((below_one0 w2 (.cells #[.slice p2 q c2] 22)).mono Hb2.out.size)).mono Hx.out.2.2.1.size); exact ((Chg.of_below h1).trans (Chg.of_grown hgrow3) fun j hj e => by have h5 := Hx.out.2.1.1 j e.symm; omega).below (Nat.le_refl _) fun _ _ => id }; have HE := Lib.hid (And.intro hE (And.intro hN hB)); clear hE hN hB hgrow3 hloc3; obtain ⟨p3, q3, rfl⟩ := OwnR.shape hown3; clear hown3))
        go_roundw
        case rel => exact ⟨k + L, _, _, ls ++ [x], by omega, by go_num, rfl, by rw [List.length_append, Hm.out]; simp; omega, HE.out.1, HE.out.2.1, HE.out.2.2, by rw [Hx.out.2.2.2.1, Hgo.out]; simp, by rw [Hx.out.2.2.2.2, Hgo.out]; simp; omega⟩
        case measure => simp [intOf]; omega
      · have Hst := Lib.hid (scan_stop (.inr he))
        have hne : ((decE (b.drop k) : Int) != 0) = true := by simp; omega
        unfold Decoded at Hd
        generalize decE (b.drop k) = E at *
        generalize decL (b.drop k) = L at *
        go_wp2_with fail
        refine Hd.out.mono ?_
        rintro e w2 ⟨v2, rfl, -, -, hb2⟩
        have HE := Lib.hid (show Scanned w b (.returned (.tuple #[v, .int .i64 (k : Int)])) w2 from ⟨v, vs, by rw [Hx.out.2.2.2.2, Hst.out]; rfl, by rw [Hx.out.2.2.2.1, Hst.out, List.append_nil]; exact Hx.out.1.below hb2, Hx.out.2.1, Hx.out.2.2.1.trans (hb2.mono Hx.out.2.2.1.size)⟩)
        clear hb2 Hd
        go_wp2_with fail
        go_ret2
        exact HE.out
    · have he : b.drop k = [] := List.drop_of_length_le (by rw [Hn.out]; omega)
      rw [he, scan_stop (.inl rfl)] at hsc1 hsc2
      have HE := Lib.hid (show Scanned w b (.returned (.tuple #[v, .int .i64 (k : Int)])) wr from ⟨v, vs, by rw [hsc2]; rfl, by rw [hsc1, List.append_nil]; exact hrow, hnew, hb⟩)
      clear hrow hnew hb hsc1 hsc2 he
      go_wp2_with fail
      go_ret2
      exact HE.out
end Go.Proofs.YtapfnehdgailmaaGreat

namespace Go.Proofs.YtapfnehdgailmaaGreat
open Go.RowKit Go.Sat Go.Maps

def entV (e : Ent) (v : EV) : Value := .agg #[.int .i64 e.term, .int .i64 e.kind, v.1, v.2]
/-- An entry that was handed in. -/
structure EntHas (w : World) (e : Ent) (v : EV) : Prop where
  data : HasB w v.1 e.data
  nodes : HasI w v.2 e.nodes
  dl : e.data.length ≤ 1099511627776
  nl : e.nodes.length ≤ 1099511627776
theorem EntHas.below {w w' : World} {e : Ent} {v : EV} (h : EntHas w e v) (hb : Below w.heap.size w w') : EntHas w' e v := ⟨HasB.below h.data hb, Holds.chg h.nodes (Chg.of_below hb) fun _ _ => id, h.dl, h.nl⟩
theorem EntAt.has {w : World} {e : Ent} {v : EV} (h : EntAt w e v) (hd : e.data.length ≤ 1099511627776) (hn : e.nodes.length ≤ 1099511627776) : EntHas w e v := ⟨OwnB.has h.data, OwnI.has h.nodes, hd, hn⟩

theorem ent_zero {e : Ent} (hk : e.kind = 0) : isEnt e = (isTm e.term && decide (e.data.length = 0 ∧ e.nodes.length = 0)) := by
  unfold isEnt
  rw [if_pos hk]
  simp [List.length_eq_zero_iff]
theorem ent_one {e : Ent} (hk : e.kind = 1) : isEnt e = (isTm e.term && decide (1 ≤ e.data.length ∧ e.data.length ≤ 65536 ∧ e.nodes.length = 0)) := by
  unfold isEnt
  rw [if_neg (by omega), if_pos hk]
  simp [List.length_eq_zero_iff]
theorem ent_two {e : Ent} (hk : e.kind = 2) : isEnt e = (isTm e.term && (decide (e.data.length = 0) && isGrp e.nodes)) := by
  unfold isEnt
  rw [if_neg (by omega), if_neg (by omega), if_pos hk]
  simp [List.length_eq_zero_iff]
theorem ent_none {e : Ent} (h0 : e.kind ≠ 0) (h1 : e.kind ≠ 1) (h2 : e.kind ≠ 2) : isEnt e = false := by
  unfold isEnt
  rw [if_neg h0, if_neg h1, if_neg h2, Bool.and_false]

set_option maxRecDepth 100000 in
set_option maxHeartbeats 4000000 in
theorem isone_calls {w : World} {e : Ent} {v : EV} (h : EntHas w e v) :
    Calls Tryz.prog 99 #[entV e v] w fun r w' => r = .returned (.bool (isEnt e)) ∧ Below w.heap.size w w' := by
  obtain ⟨t, k, da, no⟩ := e
  obtain ⟨v1, v2⟩ := v
  have hb := below_one w (.cells #[.int .i64 t, .int .i64 k, v1, v2] 50)
  have Hg := Lib.hid (show Calls Tryz.prog 73 #[v2] (w.alloc (.cells #[.int .i64 t, .int .i64 k, v1, v2] 50)) fun e w' => e = .returned (.bool (isGrp no)) ∧ w' = w.alloc (.cells #[.int .i64 t, .int .i64 k, v1, v2] 50) from by
    have hn := (h.below hb).nodes
    obtain ⟨p, c, hv⟩ := hn.slice
    have hv' : v2 = .slice p no.length c := hv
    subst hv'
    exact isgrp_calls hn h.nl)
  have Ht := Lib.hid (istm_calls (w.alloc (.cells #[.int .i64 t, .int .i64 k, v1, v2] 50)) t)
  have HB := Lib.hid hb
  have hdl := h.dl
  have hnl := h.nl
  obtain ⟨p1, c1, e1⟩ := h.data.slice
  obtain ⟨p2, c2, e2⟩ := h.nodes.slice
  have e1' : v1 = .slice p1 da.length c1 := e1
  have e2' : v2 = .slice p2 no.length c2 := e2
  subst e1'
  subst e2'
  clear e1 e2 h hb
  dsimp only at hdl hnl
  have H0 := Lib.hid (ent_zero (e := ⟨t, k, da, no⟩))
  have H1 := Lib.hid (ent_one (e := ⟨t, k, da, no⟩))
  have H2 := Lib.hid (ent_two (e := ⟨t, k, da, no⟩))
  have H3 := Lib.hid (ent_none (e := ⟨t, k, da, no⟩))
  have Hno := Lib.hid (show isTm t = false → isEnt ⟨t, k, da, no⟩ = false from fun h => by unfold isEnt; rw [h, Bool.false_and])
  unfold entV
  dsimp only at H0 H1 H2 H3 ⊢
  generalize isEnt ⟨t, k, da, no⟩ = res at *
  cases ht : isTm t with
  | false =>
    rw [ht] at Ht
    have HE := Lib.hid (Hno.out ht)
    go_enter Tryz.func99, Tryz.ntmps99
    go_wp2_with fail
    refine Ht.out.mono ?_
    rintro e w' ⟨rfl, rfl⟩
    go_wp2_with fail
    go_ret
    exact ⟨by rw [HE.out]; rfl, HB.out⟩
  | true =>
    rw [ht] at Ht H0 H1 H2
    by_cases h0 : k = 0
    · have HE := Lib.hid (H0.out h0)
      have hb0 : (k == 0) = true := by simpa using h0
      clear h0 ht
      generalize da.length = n at *
      generalize no.length = m at *
      by_cases hn : n = 0
      · have hbn : ((n : Int) == 0) = true := by simp; omega
        have hdn : decide (n = 0 ∧ m = 0) = ((m : Int) == 0) := by rw [Bool.eq_iff_iff]; simp; omega
        rw [hdn] at HE
        clear hn hdn
        go_enter Tryz.func99, Tryz.ntmps99
        go_wp2_with fail
        refine Ht.out.mono ?_
        rintro e w' ⟨rfl, rfl⟩
        go_wp2_with fail
        go_ret
        exact ⟨by rw [HE.out]; simp, HB.out⟩
      · have hbn : ((n : Int) == 0) = false := by simp; omega
        have hdn : decide (n = 0 ∧ m = 0) = false := by simp; omega
        rw [hdn] at HE
        clear hn hdn
        go_enter Tryz.func99, Tryz.ntmps99
        go_wp2_with fail
        refine Ht.out.mono ?_
        rintro e w' ⟨rfl, rfl⟩
        go_wp2_with fail
        go_ret
        exact ⟨by rw [HE.out]; simp, HB.out⟩
    · have hb0 : (k == 0) = false := by simpa using h0
      by_cases h1 : k = 1
      · have HE := Lib.hid (H1.out h1)
        have hb1 : (k == 1) = true := by simpa using h1
        clear h0 ht h1
        generalize da.length = n at *
        generalize no.length = m at *
        by_cases hn : 1 ≤ n
        · by_cases hn6 : n ≤ 65536
          · have hd1 : decide ((1 : Int) ≤ (n : Int)) = true := by simp; omega
            have hd2 : decide ((n : Int) ≤ 65536) = true := by simp; omega
            have hdn : decide (1 ≤ n ∧ n ≤ 65536 ∧ m = 0) = ((m : Int) == 0) := by rw [Bool.eq_iff_iff]; simp; omega
            rw [hdn] at HE
            clear hdn
            go_enter Tryz.func99, Tryz.ntmps99
            go_wp2_with fail
            refine Ht.out.mono ?_
            rintro e w' ⟨rfl, rfl⟩
            go_wp2_with fail
            go_ret
            exact ⟨by rw [HE.out]; simp, HB.out⟩
          · have hd1 : decide ((1 : Int) ≤ (n : Int)) = true := by simp; omega
            have hd2 : decide ((n : Int) ≤ 65536) = false := by simp; omega
            have hdn : decide (1 ≤ n ∧ n ≤ 65536 ∧ m = 0) = false := by simp; omega
            rw [hdn] at HE
            clear hdn
            go_enter Tryz.func99, Tryz.ntmps99
            go_wp2_with fail
            refine Ht.out.mono ?_
            rintro e w' ⟨rfl, rfl⟩
            go_wp2_with fail
            go_ret
            exact ⟨by rw [HE.out]; simp, HB.out⟩
        · have hd1 : decide ((1 : Int) ≤ (n : Int)) = false := by simp; omega
          have hdn : decide (1 ≤ n ∧ n ≤ 65536 ∧ m = 0) = false := by simp; omega
          rw [hdn] at HE
          clear hdn
          go_enter Tryz.func99, Tryz.ntmps99
          go_wp2_with fail
          refine Ht.out.mono ?_
          rintro e w' ⟨rfl, rfl⟩
          go_wp2_with fail
          go_ret
          exact ⟨by rw [HE.out]; simp, HB.out⟩
      · have hb1 : (k == 1) = false := by simpa using h1
        by_cases h2 : k = 2
        · have HE := Lib.hid (H2.out h2)
          have hb2 : (k == 2) = true := by simpa using h2
          clear h0 ht h1 h2
          generalize da.length = n at *
          generalize no.length = m at *
          by_cases hn : n = 0
          · have hbn : ((n : Int) == 0) = true := by simp; omega
            have hdn : decide (n = 0) = true := by simpa using hn
            rw [hdn] at HE
            clear hn hdn
            go_enter Tryz.func99, Tryz.ntmps99
            go_wp2_with fail
            refine Ht.out.mono ?_
            rintro e w' ⟨rfl, rfl⟩
            go_wp2_with fail
            refine Hg.out.mono ?_
            rintro e w' ⟨rfl, rfl⟩
            go_wp2_with fail
            go_ret
            exact ⟨by rw [HE.out]; simp, HB.out⟩
          · have hbn : ((n : Int) == 0) = false := by simp; omega
            have hdn : decide (n = 0) = false := by simpa using hn
            rw [hdn] at HE
            clear hn hdn
            go_enter Tryz.func99, Tryz.ntmps99
            go_wp2_with fail
            refine Ht.out.mono ?_
            rintro e w' ⟨rfl, rfl⟩
            go_wp2_with fail
            go_ret
            exact ⟨by rw [HE.out]; simp, HB.out⟩
        · have hb2 : (k == 2) = false := by simpa using h2
          have HE := Lib.hid (H3.out h0 h1 h2)
          clear h0 h1 h2
          go_enter Tryz.func99, Tryz.ntmps99
          go_wp2_with fail
          refine Ht.out.mono ?_
          rintro e w' ⟨rfl, rfl⟩
          go_wp2_with fail
          go_ret
          exact ⟨by rw [HE.out]; rfl, HB.out⟩
end Go.Proofs.YtapfnehdgailmaaGreat

namespace Go.Sat
open Go

/-- None of the writers has come up. -/
def calm (xs : List Nat) (listed : Array Bool) : Bool := xs.all fun x => !listed.getD x true

theorem calm_set {xs : List Nat} {listed : Array Bool} {i : Nat} (h : i ∉ xs) : calm xs (listed.setIfInBounds i true) = calm xs listed := by
  unfold calm
  rw [Bool.eq_iff_iff, List.all_eq_true, List.all_eq_true]
  have e : ∀ x ∈ xs, (listed.setIfInBounds i true).getD x true = listed.getD x true := fun x hx => getD_set_ne true fun e => h (e ▸ hx)
  exact ⟨fun H x hx => by rw [← e x hx]; exact H x hx, fun H x hx => by rw [e x hx]; exact H x hx⟩

/-- Each writer waits for number i. -/
def waits (md : Region.Mode) (ops : Array Oper) (xs : List Nat) (i : Nat) : Bool :=
  xs.all fun x => match ops[x]? with
    | some o => o.after.any fun e => Region.binds md e && e.on == i
    | none => true

section
variable {P : Program} {ops : Array Oper} {Q : Exit → Act → World → Prop} {md : Region.Mode} {xs : List Nat} {S : World → Prop}

def wpAnyG (P : Program) (md : Region.Mode) (ops : Array Oper) (Q : Exit → Act → World → Prop) (xs : List Nat) (S : World → Prop) : Nat → Array Bool → Act → World → Prop
  | 0, listed, a, w => Region.ready md ops listed = [] ∧ Q .normal a w
  | n + 1, listed, a, w => (Region.ready md ops listed = [] → Q .normal a w) ∧
      ∀ i ∈ Region.ready md ops listed, wpOp P ops Q i (fun b v => (calm xs (listed.setIfInBounds i true) = true → S v) ∧ wpAnyG P md ops Q xs S n (listed.setIfInBounds i true) b v) a w

theorem any_of_G : ∀ (n : Nat) (listed : Array Bool) (a : Act) (w : World), wpAnyG P md ops Q xs S n listed a w → wpAny P md ops Q n listed a w
  | 0, _, _, _, h => h
  | n + 1, _, _, _, h => ⟨h.1, fun i hi => wpOp_mono (fun b v hb => any_of_G n _ b v hb.2) (h.2 i hi)⟩

theorem G_first {i : Nat} {oi : Oper} {v : Value} {T : World → Prop} (hi : ops[i]? = some oi) (hsel : ∀ (j : Nat) (o : Oper) cs b, ops[j]? = some o → o.op ≠ .select cs b)
    (hQ : ∀ c a w, Q (.panic c) (a.put oi.dst v) w → Q (.panic c) a w) (hix : i ∉ xs) (hT : (∀ w, T w) ∨ (waits md ops xs i = true ∧ ∀ w, S w → T w)) :
    ∀ (n : Nat) (listed : Array Bool) (a : Act) (w : World),
      (∀ j oj, ops[j]? = some oj → j ≠ i → listed.getD j true = false → (∀ e ∈ oj.after, Region.binds md e = true → e.on ≠ i) → oi.apart ops oj = true) →
      i ∈ Region.ready md ops listed → YieldsIf P ops T oi v a → T w → (calm xs listed = true → S w) → ((∀ w, T w) ∨ calm xs listed = true) →
      wpAnyG P md ops Q xs S n (listed.setIfInBounds i true) (a.put oi.dst v) w → wpAnyG P md ops Q xs S (n + 1) listed a w := by
  intro n
  induction n with
  | zero =>
    intro listed a w _ hr hy hTw hSw _ H
    refine ⟨fun e => absurd (e ▸ hr) (by simp), fun j hj => ?_⟩
    by_cases e : j = i
    · subst e
      exact hy.wpOp hi hTw ⟨fun hc => hSw (by rwa [calm_set hix] at hc), H⟩
    · have h0 := ready_mono hj e
      rw [H.1] at h0
      cases h0
  | succ n ih =>
    intro listed a w hfree hr hy hTw hSw hcm H
    refine ⟨fun e => absurd (e ▸ hr) (by simp), fun j hj => ?_⟩
    by_cases e : j = i
    · subst e
      exact hy.wpOp hi hTw ⟨fun hc => hSw (by rwa [calm_set hix] at hc), H⟩
    · have h1 := H.2 j (ready_mono hj e)
      obtain ⟨hjun, oj, hoj, hall⟩ := mem_ready.1 hj
      have hnot : ∀ e ∈ oj.after, Region.binds md e = true → e.on ≠ i := fun e he hb heq => by
        have h1 := hall e he hb
        have h0 := (mem_ready.1 hr).1
        rw [heq] at h1
        rcases Nat.lt_or_ge i listed.size with h' | h'
        · simp [h'] at h0 h1
          rw [h0] at h1
          cases h1
        · simp [Array.getElem?_eq_none h'] at h1
      have hjx : ((∀ w, T w) ∨ (j ∉ xs ∧ ∀ w, S w → T w)) := by
        rcases hT with h | ⟨h, hST⟩
        · exact .inl h
        · refine .inr ⟨fun hx => ?_, hST⟩
          have h3 := List.all_eq_true.1 h j hx
          rw [hoj] at h3
          obtain ⟨e, he, hb⟩ := Array.any_eq_true'.1 h3
          rw [Bool.and_eq_true] at hb
          exact hnot e he hb.1 (by simpa using hb.2)
      have h2 := wpOp_putIf hoj (hfree j oj hoj e hjun hnot) (fun cs b => hsel i oi cs b hi) (fun cs b => hsel j oj cs b hoj) hQ hy h1
      have hfree' : ∀ k ok, ops[k]? = some ok → k ≠ i → (listed.setIfInBounds j true).getD k true = false →
          (∀ e ∈ ok.after, Region.binds md e = true → e.on ≠ i) → oi.apart ops ok = true := fun k ok hk hki hun hno => by
        refine hfree k ok hk hki ?_ hno
        by_cases hjk : j = k
        · subst hjk
          exact hjun
        · rw [getD_set_ne true hjk] at hun
          exact hun
      have hcc : calm xs ((listed.setIfInBounds i true).setIfInBounds j true) = calm xs (listed.setIfInBounds j true) := by
        rw [Array.setIfInBounds_comm _ _ (Ne.symm e), calm_set hix]
      refine wpOp_mono (fun b u h3 => ?_) h2
      have hSu : calm xs (listed.setIfInBounds j true) = true → S u := fun hc => h3.2.1 (by rw [hcc]; exact hc)
      have hnx : (∀ w, T w) ∨ calm xs (listed.setIfInBounds j true) = true := by
        rcases hjx with h | ⟨h, -⟩
        · exact .inl h
        · rcases hcm with h' | h'
          · exact .inl h'
          · exact .inr (by rw [calm_set h]; exact h')
      refine ⟨hSu, ih (listed.setIfInBounds j true) b u hfree' (ready_mono hr (Ne.symm e)) h3.1 ?_ hSu hnx ?_⟩
      · rcases hjx with h | ⟨-, hST⟩
        · exact h u
        · rcases hnx with h' | h'
          · exact h' u
          · exact hST u (hSu h')
      · rw [Array.setIfInBounds_comm _ _ e]
        exact h3.2.2

variable {l : List Oper} {fuel : Nat} {listed : Array Bool} {a : Act} {w : World}

/-- The beginning. -/
theorem g_start (xs : List Nat) (S : World → Prop) {id n : Nat} (hm : P.follows .mixedOrders = true) (hn : l.length = n) (hS : S w.drew) (h : S w.drew → wpAnyG P .any l.toArray Q xs S n (Array.replicate n false) a w.drew) : (Code.region id l.toArray true).wp P Q a w := by
  subst hn
  exact wp_region_any hm (any_of_G _ _ _ _ (by have := h hS; simpa using this))

/-- Number i loads: ahead of the writers. -/
theorem g_take (i : Nat) {o : Oper} {r : List Oper} {v : Value} (hd : l.drop i = o :: r) (hs : Region.noSelect l.toArray = true) (hf : Region.free md l.toArray listed i = true) (hr : (Region.ready md l.toArray listed).contains i = true)
    (hx : (!xs.contains i && waits md l.toArray xs i && calm xs listed) = true)
    (hQ : ∀ c a w, Q (.panic c) (a.put o.dst v) w → Q (.panic c) a w) (hw : Region.wanted o (yielded l.toArray a.tmps) = true) (hS : S w) (hy : ∀ w, S w → (execOp a.eval o).run P w = .ok (.value v) w)
    (h : wpAnyG P md l.toArray Q xs S fuel (listed.setIfInBounds i true) (a.put o.dst v) w) : wpAnyG P md l.toArray Q xs S (fuel + 1) listed a w := by
  simp only [Bool.and_eq_true, Bool.not_eq_true', List.contains_eq_mem, decide_eq_false_iff_not] at hx
  exact G_first (T := S) (ord_get hd) (Region.noSelect_spec hs) hQ hx.1.1 (.inr ⟨hx.1.2, fun _ h => h⟩) fuel listed a w (Region.free_spec (ord_get hd) hf) (by simpa using hr) (.inl ⟨hw, hy⟩) hS (fun _ => hS) (.inr hx.2) h

/-- Number i asks nothing of the world (S may be gone). -/
theorem g_pure (i : Nat) {o : Oper} {r : List Oper} {v : Value} (hd : l.drop i = o :: r) (hs : Region.noSelect l.toArray = true) (hf : Region.free md l.toArray listed i = true) (hr : (Region.ready md l.toArray listed).contains i = true)
    (hx : (!xs.contains i && !calm xs listed) = true)
    (hQ : ∀ c a w, Q (.panic c) (a.put o.dst v) w → Q (.panic c) a w) (hw : Region.wanted o (yielded l.toArray a.tmps) = true) (hy : ∀ w, (execOp a.eval o).run P w = .ok (.value v) w)
    (h : wpAnyG P md l.toArray Q xs S fuel (listed.setIfInBounds i true) (a.put o.dst v) w) : wpAnyG P md l.toArray Q xs S (fuel + 1) listed a w := by
  simp only [Bool.and_eq_true, Bool.not_eq_true', List.contains_eq_mem, decide_eq_false_iff_not] at hx
  exact G_first (T := fun _ => True) (ord_get hd) (Region.noSelect_spec hs) hQ hx.1 (.inl fun _ => trivial) fuel listed a w (Region.free_spec (ord_get hd) hf) (by simpa using hr) (.inl ⟨hw, fun w _ => hy w⟩) trivial (fun hc => by rw [hx.2] at hc; cases hc) (.inl fun _ => trivial) h

/-- The same while S still holds. -/
theorem g_pure0 (i : Nat) {o : Oper} {r : List Oper} {v : Value} (hd : l.drop i = o :: r) (hs : Region.noSelect l.toArray = true) (hf : Region.free md l.toArray listed i = true) (hr : (Region.ready md l.toArray listed).contains i = true)
    (hx : (!xs.contains i) = true)
    (hQ : ∀ c a w, Q (.panic c) (a.put o.dst v) w → Q (.panic c) a w) (hw : Region.wanted o (yielded l.toArray a.tmps) = true) (hS : S w) (hy : ∀ w, (execOp a.eval o).run P w = .ok (.value v) w)
    (h : wpAnyG P md l.toArray Q xs S fuel (listed.setIfInBounds i true) (a.put o.dst v) w) : wpAnyG P md l.toArray Q xs S (fuel + 1) listed a w := by
  simp only [Bool.not_eq_true', List.contains_eq_mem, decide_eq_false_iff_not] at hx
  exact G_first (T := fun _ => True) (ord_get hd) (Region.noSelect_spec hs) hQ hx (.inl fun _ => trivial) fuel listed a w (Region.free_spec (ord_get hd) hf) (by simpa using hr) (.inl ⟨hw, fun w _ => hy w⟩) trivial (fun _ => hS) (.inl fun _ => trivial) h

/-- Number i alone may come up; S is kept. -/
theorem g_one (i : Nat) {o : Oper} {r : List Oper} (hd : l.drop i = o :: r) (hr : Region.ready md l.toArray listed = [i]) (hw : Region.wanted o (yielded l.toArray a.tmps) = true)
    (h : ∀ K : Act → World → Prop, Shut (∀ a w, S w → (S w → wpAnyG P md l.toArray Q xs S fuel (listed.setIfInBounds i true) a w) → K a w) → Oper.wp P o a w K Q) : wpAnyG P md l.toArray Q xs S (fuel + 1) listed a w := by
  refine ⟨fun e => (by rw [hr] at e; cases e), fun j hj => ?_⟩
  rw [hr] at hj
  obtain rfl : j = i := by simpa using hj
  exact wpOp_step (ord_get hd) fun K hK => by
    rw [if_pos hw]
    exact h K fun b v hS hW => hK b v ⟨fun _ => hS, hW hS⟩

/-- Number i alone may come up; S is gone behind it. -/
theorem g_end (i : Nat) {o : Oper} {r : List Oper} (hd : l.drop i = o :: r) (hr : Region.ready md l.toArray listed = [i]) (hw : Region.wanted o (yielded l.toArray a.tmps) = true) (hx : calm xs (listed.setIfInBounds i true) = false)
    (h : ∀ K : Act → World → Prop, Shut (∀ a w, wpAnyG P md l.toArray Q xs S fuel (listed.setIfInBounds i true) a w → K a w) → Oper.wp P o a w K Q) : wpAnyG P md l.toArray Q xs S (fuel + 1) listed a w := by
  refine ⟨fun e => (by rw [hr] at e; cases e), fun j hj => ?_⟩
  rw [hr] at hj
  obtain rfl : j = i := by simpa using hj
  exact wpOp_step (ord_get hd) fun K hK => by
    rw [if_pos hw]
    exact h K fun b v hW => hK b v ⟨fun hc => (by rw [hx] at hc; cases hc), hW⟩

/-- All have come up. -/
theorem g_done (hr : Region.ready md l.toArray listed = []) (h : Q .normal a w) : ∀ fuel, wpAnyG P md l.toArray Q xs S fuel listed a w
  | 0 => ⟨hr, h⟩
  | _ + 1 => ⟨fun _ => h, by rw [hr]; simp⟩
end
end Go.Sat

namespace Go.Proofs.YtapfnehdgailmaaGreat
open Go.RowKit Go.Sat Go.Maps

/-- An entry of one's own, of what was handed in. -/
def EntNew (w : World) (e : Ent) (r : Ending) (w' : World) : Prop := ∃ v : EV, r = .returned (entV e v) ∧ EntAt w' e v ∧ (∀ k, (v.1.ownBlock = some k ∨ v.2.ownBlock = some k) → w.heap.size ≤ k) ∧ Below w.heap.size w w'

set_option maxRecDepth 100000 in
set_option maxHeartbeats 4000000 in
theorem own_calls {w : World} {e : Ent} {v : EV} (h : EntHas w e v) : Calls Tryz.prog 102 #[entV e v] w (EntNew w e) := by
  obtain ⟨t, k, da, no⟩ := e
  obtain ⟨v1, v2⟩ := v
  have hb1 := below_one w (.cells #[.int .i64 t, .int .i64 k, v1, v2] 50)
  have hb2 : Below w.heap.size w ((w.alloc (.cells #[.int .i64 t, .int .i64 k, v1, v2] 50)).alloc (.cells #[.int .i64 0, .int .i64 0, .slice none 0 0, .slice none 0 0] 50)) := hb1.alloc hb1.size _
  have hbox : ((w.alloc (.cells #[.int .i64 t, .int .i64 k, v1, v2] 50)).alloc (.cells #[.int .i64 0, .int .i64 0, .slice none 0 0, .slice none 0 0] 50)).heap[w.heap.size]? = some (.cells #[.int .i64 t, .int .i64 k, v1, v2] 50 (0, 0)) := (al_old _ _ (by simp)).trans (new_block w _)
  have hres : ((w.alloc (.cells #[.int .i64 t, .int .i64 k, v1, v2] 50)).alloc (.cells #[.int .i64 0, .int .i64 0, .slice none 0 0, .slice none 0 0] 50)).heap[w.heap.size + 1]? = some (.cells #[.int .i64 0, .int .i64 0, .slice none 0 0, .slice none 0 0] 50 (0, 0)) := by
    have := new_block (w.alloc (.cells #[.int .i64 t, .int .i64 k, v1, v2] 50)) (.cells #[.int .i64 0, .int .i64 0, .slice none 0 0, .slice none 0 0] 50)
    simpa using this
  have H := Lib.hid h
  have hdl := h.dl
  have hnl := h.nl
  obtain ⟨p1, c1, e1⟩ := h.data.slice
  obtain ⟨p2, c2, e2⟩ := h.nodes.slice
  have e1' : v1 = .slice p1 da.length c1 := e1
  have e2' : v2 = .slice p2 no.length c2 := e2
  dsimp only at hdl hnl
  subst e1'
  subst e2'
  clear e1 e2 h hb1
  unfold entV
  dsimp only
  go_enter Tryz.func102, Tryz.ntmps102
  go_wp2_with fail
  generalize (w.alloc (.cells #[.int .i64 t, .int .i64 k, .slice p1 da.length c1, .slice p2 no.length c2] 50)).alloc (.cells #[.int .i64 0, .int .i64 0, .slice none 0 0, .slice none 0 0] 50) = W0 at *
  generalize hsz : w.heap.size = b at *
  have l2 := cell_of hbox (i := 2) rfl
  have l3 := cell_of hbox (i := 3) rfl
  have HX := Lib.hid (And.intro hbox (And.intro hres hb2))
  clear hbox hres hb2
  refine g_start [7, 9] (fun w' : World => w'.heap[b]? = some (.cells #[.int .i64 t, .int .i64 k, .slice p1 da.length c1, .slice p2 no.length c2] 50 (0, 0))) (n := 10) (by kernel_rfl) rfl (HX.out.1) (fun hHeld => ?_)
  clear l2 l3
  refine g_take 0 (v := ?v1x0) rfl (by kernel_rfl) (by kernel_rfl) (by kernel_rfl) (by kernel_rfl) (fun _ _ _ h => h) (by rfl) (by assumption) ?y1x0 ?_
  case y1x0 => (intro w hSw; (try dsimp only at hSw); go_simp; try with_reducible rfl)
  simp only [Act.put, List.setIfInBounds_toArray, List.set_cons_zero, List.set_cons_succ]
  refine g_take 1 (v := .slice p1 da.length c1) rfl (by kernel_rfl) (by kernel_rfl) (by kernel_rfl) (by kernel_rfl) (fun _ _ _ h => h) (by rfl) (by assumption) (fun W hSw => by have l2 := cell_of hSw (i := 2) rfl; go_simp; try with_reducible rfl) ?_
  simp only [Act.put, List.setIfInBounds_toArray, List.set_cons_zero, List.set_cons_succ]
  refine g_take 3 (v := ?v1x3) rfl (by kernel_rfl) (by kernel_rfl) (by kernel_rfl) (by kernel_rfl) (fun _ _ _ h => h) (by rfl) (by assumption) ?y1x3 ?_
  case y1x3 => (intro w hSw; (try dsimp only at hSw); go_simp; try with_reducible rfl)
  simp only [Act.put, List.setIfInBounds_toArray, List.set_cons_zero, List.set_cons_succ]
  refine g_take 4 (v := .slice p2 no.length c2) rfl (by kernel_rfl) (by kernel_rfl) (by kernel_rfl) (by kernel_rfl) (fun _ _ _ h => h) (by rfl) (by assumption) (fun W hSw => by have l3 := cell_of hSw (i := 3) rfl; go_simp; try with_reducible rfl) ?_
  simp only [Act.put, List.setIfInBounds_toArray, List.set_cons_zero, List.set_cons_succ]
  refine g_one 2 rfl (by kernel_rfl) (by rfl) (fun K hK => ?_)
  have Hc1 := Lib.hid (clone_calls (HasB.below (H.out.below (hsz ▸ HX.out.2.2)).data (below_drew W0)) (Nat.le_trans hdl (by decide)))
  go_wp2_with fail
  refine Hc1.out.mono ?_
  rintro r w3 ⟨v5, rfl, hv5, hn5, hb5⟩
  have HB5 := Lib.hid (show Below b w w3 from HX.out.2.2.trans ((below_drew W0).trans hb5 |>.mono (hsz ▸ HX.out.2.2.size)))
  have Hh3 := Lib.hid ((hb5.block b (Array.getElem?_eq_some_iff.1 hHeld).1).trans hHeld)
  have HR3 := Lib.hid (show w3.heap[b + 1]? = _ from (hb5.block (b + 1) (Array.getElem?_eq_some_iff.1 HX.out.2.1).1).trans HX.out.2.1)
  have HV5 := Lib.hid (And.intro hv5 (show ∀ k, v5.ownBlock = some k → b + 2 ≤ k from fun k hk => Nat.le_trans (by have := (Array.getElem?_eq_some_iff.1 HX.out.2.1).1; show b + 2 ≤ W0.heap.size; omega) (hn5 k hk)))
  obtain ⟨pv, cv, rfl, -⟩ := own_cap0 hv5
  clear hv5 hn5 hb5 Hc1
  go_wp2_with fail
  refine hK.out _ _ (Hh3.out) (fun hHeld => ?_)
  clear hK
  try simp only [Act.put, List.setIfInBounds_toArray, List.set_cons_zero, List.set_cons_succ]
  refine g_pure0 6 (v := ?v1x6) rfl (by kernel_rfl) (by kernel_rfl) (by kernel_rfl) (by kernel_rfl) (fun _ _ _ h => h) (by rfl) (by assumption) ?y1x6 ?_
  case y1x6 => (intro w; go_simp; try with_reducible rfl)
  simp only [Act.put, List.setIfInBounds_toArray, List.set_cons_zero, List.set_cons_succ]
  refine g_one 5 rfl (by kernel_rfl) (by rfl) (fun K hK => ?_)
  have Hc2 := Lib.hid (icl_calls (H.out.below (hsz ▸ HB5.out)).nodes hnl)
  go_wp2_with fail
  refine Hc2.out.mono ?_
  rintro r w4 ⟨v8, rfl, hv8, hn8, hb8⟩
  have HB8 := Lib.hid (show Below b w w4 from HB5.out.trans (hb8.mono (hsz ▸ HB5.out.size)))
  have Hh4 := Lib.hid ((hb8.block b (Array.getElem?_eq_some_iff.1 Hh3.out).1).trans Hh3.out)
  have HR4 := Lib.hid ((hb8.block (b + 1) (Array.getElem?_eq_some_iff.1 HR3.out).1).trans HR3.out)
  have HV4 := Lib.hid (And.intro (ownB_far HV5.out.1 hb8) (And.intro hv8 (show ∀ k, v8.ownBlock = some k → b + 2 ≤ k from fun k hk => Nat.le_trans (by have := (Array.getElem?_eq_some_iff.1 HR3.out).1; omega) (hn8 k hk))))
  have HV5n := Lib.hid HV5.out.2
  obtain ⟨pw, cw, rfl, -⟩ := own_capI hv8
  clear hv8 hn8 hb8 Hc2
  go_wp2_with fail
  refine hK.out _ _ (Hh4.out) (fun hHeld => ?_)
  clear hK
  try simp only [Act.put, List.setIfInBounds_toArray, List.set_cons_zero, List.set_cons_succ]
  refine g_end 7 rfl (by kernel_rfl) (by rfl) (by kernel_rfl) (fun K hK => ?_)
  have c2w := cell_of Hh4.out (i := 2) rfl
  have f2w := frozen_of Hh4.out 2
  have Hs1 := Lib.hid (set_block Hh4.out 2 (.slice pv da.length cv))
  go_wp2_with fail
  refine hK.out _ _ ?_
  clear hK
  try simp only [Act.put, List.setIfInBounds_toArray, List.set_cons_zero, List.set_cons_succ]
  refine g_pure 8 (v := ?v1x8) rfl (by kernel_rfl) (by kernel_rfl) (by kernel_rfl) (by kernel_rfl) (fun _ _ _ h => h) (by rfl) ?y1x8 ?_
  case y1x8 => (intro w; go_simp; try with_reducible rfl)
  simp only [Act.put, List.setIfInBounds_toArray, List.set_cons_zero, List.set_cons_succ]
  refine g_end 9 rfl (by kernel_rfl) (by rfl) (by kernel_rfl) (fun K hK => ?_)
  have c3w := cell_of Hs1.out (i := 3) rfl
  have f3w := frozen_of Hs1.out 3
  have Hs2 := Lib.hid (set_block Hs1.out 3 (.slice pw no.length cw))
  go_wp2_with fail
  refine hK.out _ _ ?_
  clear hK
  try simp only [Act.put, List.setIfInBounds_toArray, List.set_cons_zero, List.set_cons_succ]
  refine g_done (by kernel_rfl) ?_ _
  have hs2 : ((w4.setCell ⟨b, 2, none⟩ (.slice pv da.length cv)).setCell ⟨b, 3, none⟩ (.slice pw no.length cw)).heap[b]? = some (.cells #[.int .i64 t, .int .i64 k, .slice pv da.length cv, .slice pw no.length cw] 50 (0, 0)) := by simpa using Hs2.out
  have hr2 : ((w4.setCell ⟨b, 2, none⟩ (.slice pv da.length cv)).setCell ⟨b, 3, none⟩ (.slice pw no.length cw)).heap[b + 1]? = some (.cells #[.int .i64 0, .int .i64 0, .slice none 0 0, .slice none 0 0] 50 (0, 0)) := (set_other _ (by show b + 1 ≠ b; omega)).trans ((set_other _ (by show b + 1 ≠ b; omega)).trans HR4.out)
  have HF := Lib.hid (show Chg (fun j => j = b) w4 ((w4.setCell ⟨b, 2, none⟩ (.slice pv da.length cv)).setCell ⟨b, 3, none⟩ (.slice pw no.length cw)) from (Chg.setCell w4 ⟨b, 2, none⟩ _).trans (Chg.setCell _ ⟨b, 3, none⟩ _) fun _ _ e => e)
  clear c2w f2w c3w f3w Hs1 Hs2
  generalize (w4.setCell ⟨b, 2, none⟩ (.slice pv da.length cv)).setCell ⟨b, 3, none⟩ (.slice pw no.length cw) = W5 at *
  have d0 := cell_of hs2 (i := 0) rfl
  have d1 := cell_of hs2 (i := 1) rfl
  have d2 := cell_of hs2 (i := 2) rfl
  have d3 := cell_of hs2 (i := 3) rfl
  have e0 := cell_of hr2 (i := 0) rfl
  have e1 := cell_of hr2 (i := 1) rfl
  have e2 := cell_of hr2 (i := 2) rfl
  have e3 := cell_of hr2 (i := 3) rfl
  have fr := frozen_of hr2
  have HR5 := Lib.hid hr2
  clear hs2 hr2
  go_wp2_with fail
  have hz2 : ((((W5.setCell ⟨b + 1, 0, none⟩ (.int .i64 t)).setCell ⟨b + 1, 1, none⟩ (.int .i64 k)).setCell ⟨b + 1, 2, none⟩ (.slice pv da.length cv)).setCell ⟨b + 1, 3, none⟩ (.slice pw no.length cw)).heap[b + 1]? = some (.cells #[.int .i64 t, .int .i64 k, .slice pv da.length cv, .slice pw no.length cw] 50 (0, 0)) := by
    have h1 := set_block HR5.out 0 (.int .i64 t)
    have h2 := set_block h1 1 (.int .i64 k)
    have h3 := set_block h2 2 (.slice pv da.length cv)
    have h4 := set_block h3 3 (.slice pw no.length cw)
    simpa using h4
  have HG := Lib.hid (show Chg (fun j => j = b + 1) W5 ((((W5.setCell ⟨b + 1, 0, none⟩ (.int .i64 t)).setCell ⟨b + 1, 1, none⟩ (.int .i64 k)).setCell ⟨b + 1, 2, none⟩ (.slice pv da.length cv)).setCell ⟨b + 1, 3, none⟩ (.slice pw no.length cw)) from (((Chg.setCell W5 ⟨b + 1, 0, none⟩ _).trans (Chg.setCell _ ⟨b + 1, 1, none⟩ _) fun _ _ e => e).trans (Chg.setCell _ ⟨b + 1, 2, none⟩ _) fun _ _ e => e).trans (Chg.setCell _ ⟨b + 1, 3, none⟩ _) fun _ _ e => e)
  clear d0 d1 d2 d3 e0 e1 e2 e3 fr
  generalize (((W5.setCell ⟨b + 1, 0, none⟩ (.int .i64 t)).setCell ⟨b + 1, 1, none⟩ (.int .i64 k)).setCell ⟨b + 1, 2, none⟩ (.slice pv da.length cv)).setCell ⟨b + 1, 3, none⟩ (.slice pw no.length cw) = W6 at *
  have z0 := cell_of hz2 (i := 0) rfl
  have z1 := cell_of hz2 (i := 1) rfl
  have z2 := cell_of hz2 (i := 2) rfl
  have z3 := cell_of hz2 (i := 3) rfl
  have HE := Lib.hid (show EntNew w ⟨t, k, da, no⟩ (.returned (entV ⟨t, k, da, no⟩ (.slice pv da.length cv, .slice pw no.length cw))) W6 from by
    have hC : Chg (fun j => j = b ∨ j = b + 1) w4 W6 := (HF.out.mono fun _ _ e => .inl e).trans (HG.out.mono (T := fun j => j = b ∨ j = b + 1) fun _ _ e => .inr e) fun _ _ e => e
    refine ⟨(.slice pv da.length cv, .slice pw no.length cw), rfl, ⟨OwnR.keep HV4.out.1 fun j hj => hC.block j (OwnR.lt HV4.out.1 hj) fun e => ?_, OwnR.keep HV4.out.2.1 fun j hj => hC.block j (OwnR.lt HV4.out.2.1 hj) fun e => ?_⟩, fun j hj => ?_, ?_⟩
    · have := HV5n.out j hj
      omega
    · have := HV4.out.2.2 j hj
      omega
    · rcases hj with hj | hj
      · have := HV5n.out j hj
        omega
      · have := HV4.out.2.2 j hj
        omega
    · have hb8 : Below w.heap.size w w4 := by rw [hsz]; exact HB8.out
      exact ((Chg.of_below hb8).trans hC fun i hi e => by omega : Chg (fun _ => False) w W6).below (Nat.le_refl _) fun _ _ e => e)
  (try simp only [Exit.inBlock, Exit.then])
  refine bodyPost_ret (results_cell_row rfl _ W6 (b + 1) _ _ (0, 0) _ rfl hz2 Tryz.underlying50 rfl (by kernel_rfl)) rfl ?_
  exact HE.out
end Go.Proofs.YtapfnehdgailmaaGreat

namespace Go.Proofs.YtapfnehdgailmaaGreat
open Go.RowKit Go.Sat Go.Maps

section
variable {w w1 : World} {j d : Nat} {pre : ByteArray} {D : DiskM} {M : JouM} {F : Nat → Prop}

theorem jmay_calls (h : JouF w w1 j d pre D M F) : Calls Tryz.prog 98 #[.pointer (some ⟨j, 0, none⟩)] w1 fun e w' => e = .returned (.int .i64 (if M.dead then 9 else 0)) ∧ w' = w1 := by
  obtain ⟨own, gv, dv, ev, vs, hJ, hS, hn, hl⟩ := h
  have c9 := hJ.c 9 rfl
  clear hJ hS hn hl
  cases hd : M.dead with
  | true =>
    rw [hd] at c9
    go_enter Tryz.func98, Tryz.ntmps98
    go_wp2_with fail
    go_ret
    exact ⟨rfl, rfl⟩
  | false =>
    rw [hd] at c9
    go_enter Tryz.func98, Tryz.ntmps98
    go_wp2_with fail
    go_ret
    exact ⟨rfl, rfl⟩

theorem jterm_calls (h : JouF w w1 j d pre D M F) : Calls Tryz.prog 29 #[.pointer (some ⟨j, 0, none⟩)] w1 fun e w' => e = .returned (.tuple #[.int .i64 M.now, .int .i64 M.vote]) ∧ ∃ q, w' = w1.drewN q := by
  obtain ⟨own, gv, dv, ev, vs, hJ, hS, hn, hl⟩ := h
  have c5 := hJ.c 5 rfl
  have c6 := hJ.c 6 rfl
  clear hJ hS hn hl
  go_enter Tryz.func29, Tryz.ntmps29
  go_wp2_with fail
  go_quiet (fail)
  go_wp2_with fail
  go_ret2
  exact ⟨rfl, _, rfl⟩

theorem jbase_calls (h : JouF w w1 j d pre D M F) : Calls Tryz.prog 31 #[.pointer (some ⟨j, 0, none⟩)] w1 fun e w' => e = .returned (.tuple #[.int .i64 (M.number : Int), .int .i64 M.term]) ∧ ∃ q, w' = w1.drewN q := by
  obtain ⟨own, gv, dv, ev, vs, hJ, hS, hn, hl⟩ := h
  have c0 := hJ.c 0 rfl
  have c1 := hJ.c 1 rfl
  clear hJ hS hn hl
  go_enter Tryz.func31, Tryz.ntmps31
  go_wp2_with fail
  go_quiet (fail)
  go_wp2_with fail
  go_ret2
  exact ⟨rfl, _, rfl⟩

set_option maxRecDepth 100000 in
set_option maxHeartbeats 2000000 in
theorem jlast_calls (h : JouF w w1 j d pre D M F) : Calls Tryz.prog 25 #[.pointer (some ⟨j, 0, none⟩)] w1 fun e w' => e = .returned (.tuple #[.int .i64 (M.last : Int), .int .i64 M.lastT]) ∧ ∃ q, w' = w1.drewN q := by
  have Hb := Lib.hid (jbase_calls h)
  have hlast := h.okM.last
  obtain ⟨own, gv, dv, ev, vs, hJ, hS, hn, hl⟩ := h
  have c0 := hJ.c 0 rfl
  have c8 := hJ.c 8 rfl
  obtain ⟨p, c, hev⟩ := hJ.row.shape
  have HL := Lib.hid (show M.last = M.number + M.entries.length from rfl)
  by_cases h0 : M.entries.length = 0
  · have he : M.entries = [] := List.eq_nil_of_length_eq_zero h0
    have HE := Lib.hid (show (M.last : Int) = (M.number : Int) ∧ M.lastT = M.term from ⟨by rw [HL.out, h0]; rfl, by unfold JouM.lastT; rw [he]; rfl⟩)
    rw [hev, h0] at c8
    clear hJ hS hn hl hev he h0 hlast
    go_enter Tryz.func25, Tryz.ntmps25
    go_wp2_with fail
    refine Hb.out.mono ?_
    rintro e w' ⟨rfl, q, rfl⟩
    go_wp2_with fail
    go_ret2
    exact ⟨by rw [HE.out.1, HE.out.2]; rfl, q, rfl⟩
  · have hpos : M.entries.length - 1 < M.entries.length := by omega
    obtain ⟨g, c', v, hev', hv, -, k0, -, -, -⟩ := hJ.ent (List.getElem?_eq_getElem hpos)
    have hT : M.lastT = M.entries[M.entries.length - 1].term := by
      unfold JouM.lastT
      rw [List.getLast?_eq_getElem?, List.getElem?_eq_getElem hpos]
    rw [← hT] at k0
    rw [hev'] at c8
    unfold JouM.last at hlast
    clear hJ hS hn hl hev hev' hv hpos hT Hb
    generalize M.entries.length = n at *
    generalize M.number = b at *
    generalize M.last = la at *
    generalize M.lastT = lt at *
    have hnp : (0 : Int) < (n : Int) := by omega
    have hw1 : IntKind.i64.wrap ((b : Int) + (n : Int)) = (la : Int) := by rw [IntWalk.i64_in _ (by omega), HL.out]; omega
    have hw2 : IntKind.i64.wrap ((n : Int) - 1) = ((n - 1 : Nat) : Int) := by rw [IntWalk.i64_in _ (by omega)]; omega
    have hlt : n - 1 < n := by omega
    go_enter Tryz.func25, Tryz.ntmps25
    go_wp2_with fail
    go_quiet (fail)
    go_wp2_with fail
    go_ret2
    exact ⟨rfl, _, rfl⟩

set_option maxRecDepth 100000 in
set_option maxHeartbeats 2000000 in
theorem jhas_calls (h : JouF w w1 j d pre D M F) (i : Int) (hi : -9223372036854775808 ≤ i ∧ i ≤ 9223372036854775807) :
    Calls Tryz.prog 103 #[.pointer (some ⟨j, 0, none⟩), .int .i64 i] w1 fun e w' => e = .returned (.bool (decide ((M.number : Int) < i ∧ i ≤ (M.last : Int)))) ∧ ∃ q, w' = w1.drewN q := by
  have hlast := h.okM.last
  obtain ⟨own, gv, dv, ev, vs, hJ, hS, hn, hl⟩ := h
  have c0 := hJ.c 0 rfl
  have c8 := hJ.c 8 rfl
  obtain ⟨p, c, rfl⟩ := hJ.row.shape
  have HL : M.last = M.number + M.entries.length := rfl
  clear hJ hS hn hl
  generalize M.entries.length = n at *
  generalize M.number = b at *
  generalize M.last = la at *
  by_cases h1 : (b : Int) < i
  · have hw : IntKind.i64.wrap (i - (b : Int)) = i - (b : Int) := IntWalk.i64_in _ (by omega)
    have HE := Lib.hid (show decide ((b : Int) < i ∧ i ≤ (la : Int)) = decide (i - (b : Int) ≤ (n : Int)) from by rw [Bool.eq_iff_iff]; simp only [decide_eq_true_eq]; omega)
    have hd : decide ((b : Int) < i) = true := by simpa using h1
    clear HL hlast
    go_enter Tryz.func103, Tryz.ntmps103
    go_wp2_with fail
    go_quiet (fail)
    go_wp2_with fail
    go_ret
    exact ⟨by rw [HE.out]; rfl, _, rfl⟩
  · have hd : decide ((b : Int) < i) = false := by simpa using h1
    have HE := Lib.hid (show decide ((b : Int) < i ∧ i ≤ (la : Int)) = false from by rw [decide_eq_false_iff_not]; omega)
    clear HL hlast
    go_enter Tryz.func103, Tryz.ntmps103
    go_wp2_with fail
    go_quiet (fail)
    go_wp2_with fail
    go_ret
    exact ⟨by rw [HE.out]; rfl, _, rfl⟩

set_option maxRecDepth 100000 in
set_option maxHeartbeats 4000000 in
theorem jmv_calls (h : JouF w w1 j d pre D M F) (t v : Int) : Calls Tryz.prog 108 #[.pointer (some ⟨j, 0, none⟩), .int .i64 t, .int .i64 v] w1 fun e w' => e = .returned (.bool (M.mayVote t v)) ∧ w' = w1 := by
  obtain ⟨own, gv, dv, ev, vs, hJ, hS, hn, hl⟩ := h
  have c5 := hJ.c 5 rfl
  have c6 := hJ.c 6 rfl
  have HM := Lib.hid (show M.mayVote t v = (decide (M.now ≤ t ∧ t ≤ 1099511627776 ∧ -1 ≤ v ∧ v < 7) && !decide (t = M.now ∧ M.vote ≠ -1 ∧ v ≠ M.vote)) from rfl)
  clear hJ hS hn hl
  generalize M.mayVote t v = r at *
  generalize M.now = a at *
  generalize M.vote = b at *
  by_cases h1 : t < a
  · have HE := Lib.hid (show r = false from by rw [HM.out]; simp; omega)
    go_enter Tryz.func108, Tryz.ntmps108
    go_wp2_with fail
    go_ret
    exact ⟨by rw [HE.out]; rfl, rfl⟩
  · have d1 : decide (t < a) = false := by simpa using h1
    by_cases h2 : 1099511627776 < t
    · have HE := Lib.hid (show r = false from by rw [HM.out]; simp; omega)
      go_enter Tryz.func108, Tryz.ntmps108
      go_wp2_with fail
      go_ret
      exact ⟨by rw [HE.out]; rfl, rfl⟩
    · have d2 : decide (1099511627776 < t) = false := by simpa using h2
      by_cases h3 : v < -1
      · have HE := Lib.hid (show r = false from by rw [HM.out]; simp; omega)
        go_enter Tryz.func108, Tryz.ntmps108
        go_wp2_with fail
        go_ret
        exact ⟨by rw [HE.out]; rfl, rfl⟩
      · have d3 : decide (v < -1) = false := by simpa using h3
        by_cases h4 : 7 ≤ v
        · have HE := Lib.hid (show r = false from by rw [HM.out]; simp; omega)
          go_enter Tryz.func108, Tryz.ntmps108
          go_wp2_with fail
          go_ret
          exact ⟨by rw [HE.out]; rfl, rfl⟩
        · have d4 : decide (7 ≤ v) = false := by simpa using h4
          by_cases h5 : t = a
          · by_cases h6 : b = -1
            · have HE := Lib.hid (show r = true from by rw [HM.out]; simp [h6]; omega)
              have e5 : (t == a) = true := by simpa using h5
              have e6 : (b != -1) = false := by simpa using h6
              clear h5 h6
              go_enter Tryz.func108, Tryz.ntmps108
              go_wp2_with fail
              go_ret
              exact ⟨by rw [HE.out]; rfl, rfl⟩
            · have e5 : (t == a) = true := by simpa using h5
              have e6 : (b != -1) = true := by simpa using h6
              by_cases h7 : v = b
              · have HE := Lib.hid (show r = true from by rw [HM.out]; simp [h7]; omega)
                have e7 : (v != b) = false := by simpa using h7
                clear h5 h6 h7
                go_enter Tryz.func108, Tryz.ntmps108
                go_wp2_with fail
                go_ret
                exact ⟨by rw [HE.out]; rfl, rfl⟩
              · have HE := Lib.hid (show r = false from by rw [HM.out]; simp [h5, h6, h7])
                have e7 : (v != b) = true := by simpa using h7
                clear h5 h6 h7
                go_enter Tryz.func108, Tryz.ntmps108
                go_wp2_with fail
                go_ret
                exact ⟨by rw [HE.out]; rfl, rfl⟩
          · have HE := Lib.hid (show r = true from by rw [HM.out]; simp [h5]; omega)
            have e5 : (t == a) = false := by simpa using h5
            clear h5
            go_enter Tryz.func108, Tryz.ntmps108
            go_wp2_with fail
            go_ret
            exact ⟨by rw [HE.out]; rfl, rfl⟩

theorem dead_set {own : Nat → Prop} {gv dv ev : Value} {vs : List EV} (hJ : JouIn w1 j d pre own M gv dv ev vs) (x : Bool) : JouIn (w1.setCell ⟨j, 9, none⟩ (.bool x)) j d pre own { M with dead := x } gv dv ev vs :=
  hJ.set (M' := { M with dead := x }) (by have := set_block hJ.cells 9 (.bool x); simpa using this) (fun k hk => set_other _ hk) (by simp [World.setCell]) rfl rfl rfl ⟨hJ.ok.last, hJ.ok.term, hJ.ok.group, hJ.ok.now, hJ.ok.vote, hJ.ok.data, hJ.ok.ents⟩

/-- An error of the disk ends it. -/
theorem jended_calls (h : JouF w w1 j d pre D M F) (k : Nat) :
    Calls Tryz.prog 170 #[.pointer (some ⟨j, 0, none⟩), .int .i64 (k : Int)] w1 fun e w' => e = .returned (.int .i64 (k : Int)) ∧ JouF w w' j d pre D { M with dead := M.dead || decide (k ≠ 0) } F ∧ Same F w1 w' := by
  obtain ⟨own, gv, dv, ev, vs, hJ, hS, hn, hl⟩ := h
  have c9 := hJ.c 9 rfl
  have hf := hJ.fr 9
  have HE := Lib.hid (fun x => JouF.turned (D := D) (F := F) hS hn hl (dead_set hJ x) ((Chg.setCell w1 ⟨j, 9, none⟩ (.bool x)).mono fun k _ e => by rw [e]; exact hJ.ol) fun _ h => .inl h)
  clear hJ hS hn hl
  cases hd : M.dead with
  | true =>
    rw [hd] at c9
    go_enter Tryz.func170, Tryz.ntmps170
    go_wp2_with fail
    go_ret
    exact ⟨rfl, by simpa using HE.out true⟩
  | false =>
    rw [hd] at c9
    by_cases hk : k = 0
    · subst hk
      go_enter Tryz.func170, Tryz.ntmps170
      go_wp2_with fail
      go_ret
      exact ⟨rfl, by simpa using HE.out false⟩
    · have hne : ((k : Int) != 0) = true := by simp; omega
      have Hk := Lib.hid hk
      clear hk
      go_enter Tryz.func170, Tryz.ntmps170
      go_wp2_with fail
      go_ret
      exact ⟨rfl, by simpa [Hk.out] using HE.out true⟩
end
end Go.Proofs.YtapfnehdgailmaaGreat

namespace Go.Proofs.YtapfnehdgailmaaGreat
open Go.RowKit Go.Sat Go.Maps

theorem results_row2 {P : Program} {fn : Func} {p u : Tmp} {ty : TypeId} (h : fn.results = #[.cell p ty, .tmp u]) (tmps : Array Value) (w : World) (g : Nat) (t : TypeId) (cs : Array Value) (fr : Nat × Nat) (d : TypeDesc)
    (hp : tmps.getD p undef = .pointer (some ⟨g, 0, none⟩)) (hg : w.heap[g]? = some (.cells cs t fr))
    (hu : P.underlying ty = some d) (hd : (match d with | .struct _ | .array _ _ => true | _ => false) = true) (hi : (P.info? ty).map (·.size) = some cs.size) :
    (results fn tmps).run P w = .ok (.tuple #[.agg cs, tmps.getD u undef]) w := by
  rw [results_cell_tmp h, hp]
  simp [asAddr, run_loadVar_row w g t ty cs fr d hg hu hd hi]

theorem cell_far {w w' : World} {a : Addr} {v : Value} (h : w.cell? a = some v) (hb : Below w.heap.size w w') : w'.cell? a = some v := (hb.cell (World.block_lt_of_cell? w a h)).trans h

/-- Where an entry lies. -/
structure EntIn (w : World) (j g n c b k : Nat) (e : Ent) (v : EV) : Prop where
  all : w.cell? ⟨j, 8, none⟩ = some (.slice (some ⟨g, 0, none⟩) n c) ∧ w.cell? ⟨j, 0, none⟩ = some (.int .i64 (b : Int)) ∧ w.cell? ⟨g, k * 4, none⟩ = some (.int .i64 e.term) ∧ w.cell? ⟨g, k * 4 + 1, none⟩ = some (.int .i64 e.kind) ∧ w.cell? ⟨g, k * 4 + 2, none⟩ = some v.1 ∧ w.cell? ⟨g, k * 4 + 3, none⟩ = some v.2
theorem ent_far {w w' : World} {j g n c b k : Nat} {e : Ent} {v : EV} (h : EntIn w j g n c b k e v) (hb : Below w.heap.size w w') : EntIn w' j g n c b k e v :=
  ⟨cell_far h.all.1 hb, cell_far h.all.2.1 hb, cell_far h.all.2.2.1 hb, cell_far h.all.2.2.2.1 hb, cell_far h.all.2.2.2.2.1 hb, cell_far h.all.2.2.2.2.2 hb⟩

section
variable {w w1 : World} {j d : Nat} {pre : ByteArray} {D : DiskM} {M : JouM} {F : Nat → Prop}

set_option maxRecDepth 100000 in
set_option maxHeartbeats 4000000 in
theorem jat_yes (h : JouF w w1 j d pre D M F) (i : Int) (hi : -9223372036854775808 ≤ i ∧ i ≤ 9223372036854775807) (hin : (M.number : Int) < i) {e : Ent} (he : M.entries[(i - (M.number : Int) - 1).toNat]? = some e) :
    Calls Tryz.prog 34 #[.pointer (some ⟨j, 0, none⟩), .int .i64 i] w1 fun r w' => ∃ v : EV, r = .returned (.tuple #[entV e v, .int .i64 0]) ∧ EntAt w' e v ∧ (∀ k, (v.1.ownBlock = some k ∨ v.2.ownBlock = some k) → w1.heap.size ≤ k) ∧ Below w1.heap.size w1 w' := by
  have hkl := (List.getElem?_eq_some_iff.1 he).1
  have hil : i ≤ (M.last : Int) := by unfold JouM.last; omega
  have hb0 := below_one w1 (.cells #[.int .i64 0, .int .i64 0, .slice none 0 0, .slice none 0 0] 50)
  have Hha := Lib.hid (jhas_calls (h.next hb0) i hi)
  rw [decide_eq_true (And.intro hin hil)] at Hha
  have hlast := h.okM.last
  have hent := h.okM.ents e (List.mem_of_getElem? he)
  obtain ⟨own, gv, dv, ev, vs, hJ, hS, hn, hl⟩ := h
  obtain ⟨g, c, v, rfl, hv, hat, k0, k1, k2, k3⟩ := hJ.ent he
  have c0 := hJ.c 0 rfl
  have c8 := hJ.c 8 rfl
  have hf := ent_bound hent
  generalize hk : (i - (M.number : Int) - 1).toNat = k at *
  have HX := Lib.hid (show EntIn w1 j g M.entries.length c M.number k e v from ⟨c8, c0, k0, k1, k2, k3⟩)
  have HA := Lib.hid (hat.has (by omega) (by omega))
  unfold JouM.last at hlast
  have hiu : i = (M.number : Int) + 1 + (k : Int) := by omega
  clear hJ hS hn hl hv hat c0 c8 k0 k1 k2 k3 hent hf he hil hin hk
  generalize M.entries.length = n at *
  generalize M.number = b at *
  have hw1 : IntKind.i64.wrap (i - (b : Int)) = (k : Int) + 1 := by rw [IntWalk.i64_in _ (by omega)]; omega
  have hw2 : IntKind.i64.wrap (k : Int) = (k : Int) := IntWalk.i64_in _ (by omega)
  clear hiu
  go_enter Tryz.func34, Tryz.ntmps34
  go_wp2_with fail
  refine Hha.out.mono ?_
  rintro r w2 ⟨rfl, q, rfl⟩
  have HB2 := Lib.hid (show Below w1.heap.size w1 ((w1.alloc (.cells #[.int .i64 0, .int .i64 0, .slice none 0 0, .slice none 0 0] 50)).drewN q) from hb0.trans ⟨rfl, rfl, rfl, by simp, fun _ _ => rfl⟩)
  have HR := Lib.hid (show ((w1.alloc (.cells #[.int .i64 0, .int .i64 0, .slice none 0 0, .slice none 0 0] 50)).drewN q).heap[w1.heap.size]? = _ from new_block w1 _)
  generalize (w1.alloc (.cells #[.int .i64 0, .int .i64 0, .slice none 0 0, .slice none 0 0] 50)).drewN q = W at *
  clear hb0 Hha
  go_wp2_with fail
  refine ord_start (fun w' : World => w'.cell? ⟨j, 8, none⟩ = some (.slice (some ⟨g, 0, none⟩) n c) ∧ w'.cell? ⟨j, 0, none⟩ = some (.int .i64 (b : Int)) ∧ w'.cell? ⟨g, k * 4, none⟩ = some (.int .i64 e.term) ∧ w'.cell? ⟨g, k * 4 + 1, none⟩ = some (.int .i64 e.kind) ∧ w'.cell? ⟨g, k * 4 + 2, none⟩ = some v.1 ∧ w'.cell? ⟨g, k * 4 + 3, none⟩ = some v.2) (n := 17) (by kernel_rfl) rfl ((ent_far HX.out (HB2.out.trans ⟨rfl, rfl, rfl, Nat.le_refl _, fun _ _ => rfl⟩)).all) (fun hHeld => ?_)
  generalize hWd : W.drew = W1 at *
  have HB1 := Lib.hid (show Below w1.heap.size w1 W1 from by rw [← hWd]; exact HB2.out.trans ⟨rfl, rfl, rfl, Nat.le_refl _, fun _ _ => rfl⟩)
  have HR1 := Lib.hid (Eq.trans (show W1.heap[w1.heap.size]? = W.heap[w1.heap.size]? from by rw [← hWd]; rfl) HR.out)
  clear hWd
  refine ord_take 0 (v := ?v1x0) rfl (by kernel_rfl) (by kernel_rfl) (by kernel_rfl) (fun _ _ _ h => h) (by rfl) (by assumption) ?y1x0 ?_
  case y1x0 => (intro w hSw; (try dsimp only at hSw); go_simp; try with_reducible rfl)
  simp only [Act.put, List.setIfInBounds_toArray, List.set_cons_zero, List.set_cons_succ]
  refine ord_take 1 (v := ?v1x1) rfl (by kernel_rfl) (by kernel_rfl) (by kernel_rfl) (fun _ _ _ h => h) (by rfl) (by assumption) ?y1x1 ?_
  case y1x1 => (intro w hSw; (try dsimp only at hSw); go_simp; try with_reducible rfl)
  simp only [Act.put, List.setIfInBounds_toArray, List.set_cons_zero, List.set_cons_succ]
  refine ord_take 2 (v := ?v1x2) rfl (by kernel_rfl) (by kernel_rfl) (by kernel_rfl) (fun _ _ _ h => h) (by rfl) (by assumption) ?y1x2 ?_
  case y1x2 => (intro w hSw; (try dsimp only at hSw); go_simp; try with_reducible rfl)
  simp only [Act.put, List.setIfInBounds_toArray, List.set_cons_zero, List.set_cons_succ]
  refine ord_take 3 (v := ?v1x3) rfl (by kernel_rfl) (by kernel_rfl) (by kernel_rfl) (fun _ _ _ h => h) (by rfl) (by assumption) ?y1x3 ?_
  case y1x3 => (intro w hSw; (try dsimp only at hSw); go_simp; try with_reducible rfl)
  simp only [Act.put, List.setIfInBounds_toArray, List.set_cons_zero, List.set_cons_succ]
  refine ord_take 4 (v := ?v1x4) rfl (by kernel_rfl) (by kernel_rfl) (by kernel_rfl) (fun _ _ _ h => h) (by rfl) (by assumption) ?y1x4 ?_
  case y1x4 => (intro w hSw; (try dsimp only at hSw); go_simp; try with_reducible rfl)
  simp only [Act.put, List.setIfInBounds_toArray, List.set_cons_zero, List.set_cons_succ]
  refine ord_take 5 (v := ?v1x5) rfl (by kernel_rfl) (by kernel_rfl) (by kernel_rfl) (fun _ _ _ h => h) (by rfl) (by assumption) ?y1x5 ?_
  case y1x5 => (intro w hSw; (try dsimp only at hSw); go_simp; try with_reducible rfl)
  simp only [Act.put, List.setIfInBounds_toArray, List.set_cons_zero, List.set_cons_succ]
  refine ord_take 6 (v := ?v1x6) rfl (by kernel_rfl) (by kernel_rfl) (by kernel_rfl) (fun _ _ _ h => h) (by rfl) (by assumption) ?y1x6 ?_
  case y1x6 => (intro w hSw; (try dsimp only at hSw); go_simp; try with_reducible rfl)
  simp only [Act.put, List.setIfInBounds_toArray, List.set_cons_zero, List.set_cons_succ]
  refine ord_take 7 (v := ?v1x7) rfl (by kernel_rfl) (by kernel_rfl) (by kernel_rfl) (fun _ _ _ h => h) (by rfl) (by assumption) ?y1x7 ?_
  case y1x7 => (intro w hSw; (try dsimp only at hSw); go_simp; try with_reducible rfl)
  simp only [Act.put, List.setIfInBounds_toArray, List.set_cons_zero, List.set_cons_succ]
  refine ord_take 8 (v := ?v1x8) rfl (by kernel_rfl) (by kernel_rfl) (by kernel_rfl) (fun _ _ _ h => h) (by rfl) (by assumption) ?y1x8 ?_
  case y1x8 => (intro w hSw; (try dsimp only at hSw); go_simp; try with_reducible rfl)
  simp only [Act.put, List.setIfInBounds_toArray, List.set_cons_zero, List.set_cons_succ]
  refine ord_take 9 (v := ?v1x9) rfl (by kernel_rfl) (by kernel_rfl) (by kernel_rfl) (fun _ _ _ h => h) (by rfl) (by assumption) ?y1x9 ?_
  case y1x9 => (intro w hSw; (try dsimp only at hSw); go_simp; try with_reducible rfl)
  simp only [Act.put, List.setIfInBounds_toArray, List.set_cons_zero, List.set_cons_succ]
  refine ord_take 10 (v := ?v1x10) rfl (by kernel_rfl) (by kernel_rfl) (by kernel_rfl) (fun _ _ _ h => h) (by rfl) (by assumption) ?y1x10 ?_
  case y1x10 => (intro w hSw; (try dsimp only at hSw); go_simp; try with_reducible rfl)
  simp only [Act.put, List.setIfInBounds_toArray, List.set_cons_zero, List.set_cons_succ]
  refine ord_take 11 (v := ?v1x11) rfl (by kernel_rfl) (by kernel_rfl) (by kernel_rfl) (fun _ _ _ h => h) (by rfl) (by assumption) ?y1x11 ?_
  case y1x11 => (intro w hSw; (try dsimp only at hSw); go_simp; try with_reducible rfl)
  simp only [Act.put, List.setIfInBounds_toArray, List.set_cons_zero, List.set_cons_succ]
  refine ord_take 12 (v := ?v1x12) rfl (by kernel_rfl) (by kernel_rfl) (by kernel_rfl) (fun _ _ _ h => h) (by rfl) (by assumption) ?y1x12 ?_
  case y1x12 => (intro w hSw; (try dsimp only at hSw); go_simp; try with_reducible rfl)
  simp only [Act.put, List.setIfInBounds_toArray, List.set_cons_zero, List.set_cons_succ]
  refine ord_take 13 (v := ?v1x13) rfl (by kernel_rfl) (by kernel_rfl) (by kernel_rfl) (fun _ _ _ h => h) (by rfl) (by assumption) ?y1x13 ?_
  case y1x13 => (intro w hSw; (try dsimp only at hSw); go_simp; try with_reducible rfl)
  simp only [Act.put, List.setIfInBounds_toArray, List.set_cons_zero, List.set_cons_succ]
  refine ord_one 14 rfl (by kernel_rfl) (by rfl) (fun K hK => ?_)
  have Hown := Lib.hid (own_calls (HA.out.below HB1.out))
  go_wp2_with fail
  refine Hown.out.mono ?_
  rintro r w5 ⟨⟨u1, u2⟩, rfl, hu, hun, hb5⟩
  obtain ⟨pu, cu, eu, -⟩ := own_cap0 hu.data
  obtain ⟨pn, cn, en, -⟩ := own_capI hu.nodes
  have eu' : u1 = .slice pu e.data.length cu := eu
  have en' : u2 = .slice pn e.nodes.length cn := en
  subst eu'
  subst en'
  clear eu en
  have HB5 := Lib.hid (HB1.out.trans (hb5.mono HB1.out.size))
  have Hh5 := Lib.hid (ent_far (⟨hHeld⟩ : EntIn W1 j g n c b k e v) hb5)
  have HR5 := Lib.hid ((hb5.block _ (lt_of_block HR1.out)).trans HR1.out)
  have HU := Lib.hid (And.intro hu hun)
  have HW1 := Lib.hid (lt_of_block HR1.out)
  clear hu hun hb5 Hown
  go_wp2_with fail
  refine hK.out _ _ (Hh5.out.all) (fun hHeld => ?_)
  clear hK
  try simp only [Act.put, List.setIfInBounds_toArray, List.set_cons_zero, List.set_cons_succ]
  refine ord_one 15 rfl (by kernel_rfl) (by rfl) (fun K hK => ?_)
  have r0 := cell_of HR5.out (i := 0) rfl
  have r1 := cell_of HR5.out (i := 1) rfl
  have r2 := cell_of HR5.out (i := 2) rfl
  have r3 := cell_of HR5.out (i := 3) rfl
  have fr := frozen_of HR5.out
  unfold entV
  go_wp2_with fail
  have hz : ((((w5.setCell ⟨w1.heap.size, 0, none⟩ (.int .i64 e.term)).setCell ⟨w1.heap.size, 1, none⟩ (.int .i64 e.kind)).setCell ⟨w1.heap.size, 2, none⟩ (.slice pu e.data.length cu)).setCell ⟨w1.heap.size, 3, none⟩ (.slice pn e.nodes.length cn)).heap[w1.heap.size]? = some (.cells #[.int .i64 e.term, .int .i64 e.kind, (.slice pu e.data.length cu), (.slice pn e.nodes.length cn)] 50 (0, 0)) := by
    have h1 := set_block HR5.out 0 (.int .i64 e.term)
    have h2 := set_block h1 1 (.int .i64 e.kind)
    have h3 := set_block h2 2 (.slice pu e.data.length cu)
    have h4 := set_block h3 3 (.slice pn e.nodes.length cn)
    simpa using h4
  have hC : Chg (fun x => x = w1.heap.size) w5 ((((w5.setCell ⟨w1.heap.size, 0, none⟩ (.int .i64 e.term)).setCell ⟨w1.heap.size, 1, none⟩ (.int .i64 e.kind)).setCell ⟨w1.heap.size, 2, none⟩ (.slice pu e.data.length cu)).setCell ⟨w1.heap.size, 3, none⟩ (.slice pn e.nodes.length cn)) := (((Chg.setCell w5 ⟨w1.heap.size, 0, none⟩ _).trans (Chg.setCell _ ⟨w1.heap.size, 1, none⟩ _) fun _ _ e => e).trans (Chg.setCell _ ⟨w1.heap.size, 2, none⟩ _) fun _ _ e => e).trans (Chg.setCell _ ⟨w1.heap.size, 3, none⟩ _) fun _ _ e => e
  have hB : Below w1.heap.size w1 ((((w5.setCell ⟨w1.heap.size, 0, none⟩ (.int .i64 e.term)).setCell ⟨w1.heap.size, 1, none⟩ (.int .i64 e.kind)).setCell ⟨w1.heap.size, 2, none⟩ (.slice pu e.data.length cu)).setCell ⟨w1.heap.size, 3, none⟩ (.slice pn e.nodes.length cn)) := HB5.out.trans (hC.below HB5.out.size fun k hk e => by omega)
  have Hh6 := Lib.hid (ent_far HX.out hB)
  have HE := Lib.hid (show ∃ v : EV, Ending.returned (.tuple #[.agg #[.int .i64 e.term, .int .i64 e.kind, (.slice pu e.data.length cu), (.slice pn e.nodes.length cn)], .int .i64 0]) = .returned (.tuple #[entV e v, .int .i64 0]) ∧ EntAt ((((w5.setCell ⟨w1.heap.size, 0, none⟩ (.int .i64 e.term)).setCell ⟨w1.heap.size, 1, none⟩ (.int .i64 e.kind)).setCell ⟨w1.heap.size, 2, none⟩ (.slice pu e.data.length cu)).setCell ⟨w1.heap.size, 3, none⟩ (.slice pn e.nodes.length cn)) e v ∧ (∀ k, (v.1.ownBlock = some k ∨ v.2.ownBlock = some k) → w1.heap.size ≤ k) ∧ Below w1.heap.size w1 ((((w5.setCell ⟨w1.heap.size, 0, none⟩ (.int .i64 e.term)).setCell ⟨w1.heap.size, 1, none⟩ (.int .i64 e.kind)).setCell ⟨w1.heap.size, 2, none⟩ (.slice pu e.data.length cu)).setCell ⟨w1.heap.size, 3, none⟩ (.slice pn e.nodes.length cn)) from
    ⟨(.slice pu e.data.length cu, .slice pn e.nodes.length cn), rfl, HU.out.1.keep fun x hx => hC.block x (HU.out.1.lt hx) fun e => by have h1 := HU.out.2 x hx; have h2 := HW1.out; omega, fun x hx => by have h1 := HU.out.2 x hx; have h2 := HW1.out; omega, hB⟩)
  have HZ := Lib.hid hz
  clear r0 r1 r2 r3 fr hC hB hz
  generalize (((w5.setCell ⟨w1.heap.size, 0, none⟩ (.int .i64 e.term)).setCell ⟨w1.heap.size, 1, none⟩ (.int .i64 e.kind)).setCell ⟨w1.heap.size, 2, none⟩ (.slice pu e.data.length cu)).setCell ⟨w1.heap.size, 3, none⟩ (.slice pn e.nodes.length cn) = W6 at *
  refine hK.out _ _ (Hh6.out.all) (fun hHeld => ?_)
  clear hK
  try simp only [Act.put, List.setIfInBounds_toArray, List.set_cons_zero, List.set_cons_succ]
  refine ord_take 16 (v := ?v1x16) rfl (by kernel_rfl) (by kernel_rfl) (by kernel_rfl) (fun _ _ _ h => h) (by rfl) (by assumption) ?y1x16 ?_
  case y1x16 => (intro w hSw; (try dsimp only at hSw); go_simp; try with_reducible rfl)
  simp only [Act.put, List.setIfInBounds_toArray, List.set_cons_zero, List.set_cons_succ]
  refine wpAnyH_done (by kernel_rfl) ?_ _
  go_wp2_with fail
  (try simp only [Exit.inBlock, Exit.then])
  refine bodyPost_ret (results_row2 rfl _ W6 w1.heap.size _ _ (0, 0) _ rfl HZ.out Tryz.underlying50 rfl (by kernel_rfl)) rfl ?_
  exact HE.out
end
end Go.Proofs.YtapfnehdgailmaaGreat
