/- The document's disk: may, did, Used, Fuse, New, Read; where names stand. DiskNames: what the disk keeps (a plain law). DiskNames: the walk. The document's disk: Used, Read, List. A journal (a plain model): its records, what a disk opens as, what each change leaves. What the records of a journal say when they are read again (plain laws). A journal in memory, its disk, and blocks (F) that neither has. journal: isTermOf, isGroup, isOne, own. (Printed by mkj1.py.) journal: isOne, own, may, Term, Base, mayVote, ended. (Printed by mkj2.py.) journal: own, may, Term, Base, Last, has, mayVote, ended. (Printed by mkj3.py.) journal: may, Term, Base, Last, has, mayVote, ended. (Printed by mkj4.py.) journal: At, TermAt, groupAt, Nodes, Snapshot. (Printed by mkj5.py.) The contracts of the document's Reader (satrapyref1), with the set of blocks in which its bytes lie. The document's Reader: Num, Bytes. The document's Encode of an economy of nothing; the law's none. Printed by mknoa.py. The document's economy of nothing: satrapyref13.Decode, Keys; satrapyref12.Is; satrapyref15.May, image, prefix. journal: At (no), TermAt, groupAt, Nodes, Snapshot. (Printed by mkj6.py.) journal: a Writer of a function's own; group, first, termRecord, entryRecord, framed. (Printed by mkj7.py.) The document's check sum (satrapyref1.Sum) is the program's. The document's Four and FromFour. The document's Encode (satrapyref2). -/
import Derived.Test.YtogdfkilhpkloaaGreatDoorAA
import Derived.Test.YtogdfkilhpkloaaGreatDoorAD
import Derived.Test.YtogdfkilhpkloaaGreatDoorAE
import Derived.Test.YtogdfkilhpkloaaGreatDoorAF
import Derived.Test.YtogdfkilhpkloaaGreatDoorAH
namespace Go.Proofs.YtogdfkilhpkloaaGreatDoor
open Go.RowKit Go.Sat Go.Maps

/-! ### Where names stand -/
section
variable {α : Type}
theorem key_ne {n m : Bs} (h : n ≠ m) : (n == m) = false := by simpa using h

theorem get_cons (n m : Bs) (a : α) (r : List (Bs × α)) : Sat.get n ((m, a) :: r) = if m = n then some a else Sat.get n r := by
  unfold Sat.get
  rw [List.find?_cons]
  by_cases e : m = n
  · rw [if_pos e]
    simp [e]
  · rw [if_neg e]
    simp [key_ne e]

theorem del_cons (n m : Bs) (a : α) (r : List (Bs × α)) : del n ((m, a) :: r) = if m = n then del n r else (m, a) :: del n r := by
  unfold del
  rw [List.filter_cons]
  by_cases e : m = n
  · rw [if_pos e]
    simp [e]
  · rw [if_neg e]
    simp [key_ne e]

/-- All that stands behind what is not ahead of n is not n. -/
theorem srt_after {n m : Bs} {a : α} {r : List (Bs × α)} (h : Srt ((m, a) :: r)) (hb : bytesBefore m n = false) : ∀ p ∈ r, p.1 ≠ n ∧ bytesBefore n p.1 = true := by
  intro p hp
  have h1 := (List.pairwise_cons.1 h).1 p hp
  have h1 : bytesBefore m p.1 = true := h1
  by_cases e : m = n
  · subst e
    exact ⟨(bb_ne h1).symm, h1⟩
  · rcases bb_total m n e with h2 | h2
    · rw [hb] at h2; cases h2
    · have h3 := bb_trans h2 h1
      exact ⟨(bb_ne h3).symm, h3⟩

theorem spot_get (n : Bs) : ∀ {L : List (Bs × α)}, Srt L → isAt n (L.map (·.1)) = (Sat.get n L).isSome ∧ ∀ a, Sat.get n L = some a → L[spotN n (L.map (·.1))]? = some (n, a)
  | [], _ => ⟨rfl, fun a h => by cases h⟩
  | (m, a) :: r, h => by
    have hr : Srt r := (List.pairwise_cons.1 h).2
    obtain ⟨h1, h2⟩ := spot_get n hr
    cases hb : bytesBefore m n with
    | true =>
      have e : m ≠ n := bb_ne hb
      have es : spotN n (((m, a) :: r).map (·.1)) = spotN n (r.map (·.1)) + 1 := spotN_yes hb
      rw [get_cons, if_neg e]
      refine ⟨?_, fun x hx => ?_⟩
      · rw [← h1]
        unfold isAt
        rw [es]
        rfl
      · rw [es]
        exact h2 x hx
    | false =>
      have es : spotN n (((m, a) :: r).map (·.1)) = 0 := spotN_no hb
      by_cases e : m = n
      · subst e
        rw [get_cons, if_pos rfl]
        refine ⟨?_, fun x hx => ?_⟩
        · unfold isAt
          rw [es]
          simp
        · rw [es]
          cases hx
          rfl
      · have hg : Sat.get n r = none := get_none.2 fun p hp => (srt_after h hb p hp).1
        rw [get_cons, if_neg e, hg]
        refine ⟨?_, fun x hx => by cases hx⟩
        unfold isAt
        rw [es]
        simp [e]

theorem del_after {n m : Bs} {a : α} {r : List (Bs × α)} (h : Srt ((m, a) :: r)) (hb : bytesBefore m n = false) : del n r = r := del_none (get_none.2 fun p hp => (srt_after h hb p hp).1)

theorem del_at (n : Bs) : ∀ {L : List (Bs × α)}, Srt L → isAt n (L.map (·.1)) = true → del n L = L.take (spotN n (L.map (·.1))) ++ L.drop (spotN n (L.map (·.1)) + 1)
  | [], _, h => by cases h
  | (m, a) :: r, h, ha => by
    have hr : Srt r := (List.pairwise_cons.1 h).2
    cases hb : bytesBefore m n with
    | true =>
      have es : spotN n (((m, a) :: r).map (·.1)) = spotN n (r.map (·.1)) + 1 := spotN_yes hb
      have ha' : isAt n (r.map (·.1)) = true := by
        rw [← ha]
        unfold isAt
        rw [es]
        rfl
      rw [del_cons, if_neg (bb_ne hb), es, List.take_succ_cons, List.drop_succ_cons, del_at n hr ha']
      rfl
    | false =>
      have es : spotN n (((m, a) :: r).map (·.1)) = 0 := spotN_no hb
      have e : m = n := by
        unfold isAt at ha
        rw [es] at ha
        simpa using ha
      rw [del_cons, if_pos e, es, del_after h hb]
      rfl

theorem ins_at (n : Bs) (f : α) : ∀ {L : List (Bs × α)}, Srt L → Sat.get n L = none → ins (n, f) L = L.take (spotN n (L.map (·.1))) ++ (n, f) :: L.drop (spotN n (L.map (·.1)))
  | [], _, _ => rfl
  | (m, a) :: r, h, hg => by
    have hr : Srt r := (List.pairwise_cons.1 h).2
    have hne : m ≠ n := fun e => by rw [get_cons, if_pos e] at hg; cases hg
    cases hb : bytesBefore m n with
    | true =>
      have es : spotN n (((m, a) :: r).map (·.1)) = spotN n (r.map (·.1)) + 1 := spotN_yes hb
      have hb2 : bytesBefore n m = false := by
        cases h2 : bytesBefore n m with
        | false => rfl
        | true =>
          have := bb_trans h2 hb
          rw [bb_irrefl] at this
          cases this
      rw [get_cons, if_neg hne] at hg
      show (if bytesBefore n m then _ else _) = _
      rw [if_neg (by simp [hb2]), es, List.take_succ_cons, List.drop_succ_cons, ins_at n f hr hg]
      rfl
    | false =>
      have es : spotN n (((m, a) :: r).map (·.1)) = 0 := spotN_no hb
      have hb2 : bytesBefore n m = true := by
        rcases bb_total m n hne with h2 | h2
        · rw [hb] at h2; cases h2
        · exact h2
      show (if bytesBefore n m then _ else _) = _
      rw [if_pos hb2, es]
      rfl

theorem put_at (n : Bs) (f : α) : ∀ {L : List (Bs × α)}, Srt L → isAt n (L.map (·.1)) = true → put n f L = L.set (spotN n (L.map (·.1))) (n, f)
  | [], _, h => by cases h
  | (m, a) :: r, h, ha => by
    have hr : Srt r := (List.pairwise_cons.1 h).2
    cases hb : bytesBefore m n with
    | true =>
      have es : spotN n (((m, a) :: r).map (·.1)) = spotN n (r.map (·.1)) + 1 := spotN_yes hb
      have ha' : isAt n (r.map (·.1)) = true := by
        rw [← ha]
        unfold isAt
        rw [es]
        rfl
      have hb2 : bytesBefore n m = false := by
        cases h2 : bytesBefore n m with
        | false => rfl
        | true =>
          have := bb_trans h2 hb
          rw [bb_irrefl] at this
          cases this
      rw [es, List.set_cons_succ, ← put_at n f hr ha']
      show ins (n, f) (del n ((m, a) :: r)) = _
      rw [del_cons, if_neg (bb_ne hb)]
      show (if bytesBefore n m then _ else _) = _
      rw [if_neg (by simp [hb2])]
      rfl
    | false =>
      have es : spotN n (((m, a) :: r).map (·.1)) = 0 := spotN_no hb
      have e : m = n := by
        unfold isAt at ha
        rw [es] at ha
        simpa using ha
      rw [es, List.set_cons_zero]
      show ins (n, f) (del n ((m, a) :: r)) = _
      rw [del_cons, if_pos e, del_after h hb]
      cases r with
      | nil => rfl
      | cons p q =>
        have := (srt_after h hb p (List.mem_cons_self ..)).2
        show (if bytesBefore n p.1 then _ else _) = _
        rw [if_pos this]
end

section
variable {w : World} {r : Nat} {v : Value} {L : List RFile} {own : Nat → Prop} {D : DiskM}

theorem RefIn.names (h : RefIn w r v L own D) : L.map RFile.n = D.files.map (·.1) := by
  rw [h.files, List.map_map]
  rfl

theorem RefIn.is (h : RefIn w r v L own D) (n : Bs) : isAt n (L.map RFile.n) = (Sat.get n D.files).isSome := by
  rw [h.names]
  exact (spot_get n h.ok.srt).1

theorem RefIn.hit (h : RefIn w r v L own D) {n : Bs} {f : FileM} (hg : Sat.get n D.files = some f) : ∃ x, L[spotN n (L.map RFile.n)]? = some x ∧ x.n = n ∧ x.f = f := by
  have h1 := (spot_get n h.ok.srt).2 f hg
  rw [h.names]
  rw [h.files] at h1 ⊢
  rw [List.getElem?_map] at h1
  cases hx : L[spotN n (List.map (fun x => x.fst) (List.map RFile.key L))]? with
  | none => rw [hx] at h1; cases h1
  | some x =>
    rw [hx] at h1
    have := Option.some.inj h1
    exact ⟨x, rfl, congrArg Prod.fst this, congrArg Prod.snd this⟩
end

/-! ### may, did -/
set_option maxHeartbeats 400000 in
theorem rmay_burnt (d : Nat) (p : Option Addr) (n c : Nat) (w : World) (h2 : w.cell? ⟨d, 2, none⟩ = some (.int .i64 0)) :
    Calls Tryz.prog 327 #[.pointer (some ⟨d, 0, none⟩), .slice p n c] w fun e w' => e = .returned (.int .i64 9) ∧ w = w' := by
  go_enter Tryz.func327, Tryz.ntmps327
  go_wp2
  go_ret
  exact ⟨rfl, rfl⟩

set_option maxHeartbeats 1000000 in
theorem rmay_names (d : Nat) (p : Option Addr) (ss : List ByteArray) (c : Nat) (w : World) (l : Int) (h2 : w.cell? ⟨d, 2, none⟩ = some (.int .i64 l))
    (hl : (l == 0) = false) (hs : StrsAt w p ss) (hm : ss.length ≤ 140737488355328) (hsz : ∀ s ∈ ss, s.size ≤ 9223372036854775807) :
    Calls Tryz.prog 327 #[.pointer (some ⟨d, 0, none⟩), .slice p ss.length c] w fun e w' => e = .returned (.int .i64 (namesE ss)) ∧ w = w' := by
  go_enter Tryz.func327, Tryz.ntmps327
  go_wp2
  go_loop [5] (fun i => ∃ k : Nat, k ≤ ss.length ∧ i = .int .i64 k ∧ ((ss.take k).map nm).all okN = true) (fun i => ss.length - (intOf i).toNat)
  case atStart => exact ⟨0, Nat.zero_le _, rfl, rfl⟩
  case round =>
    obtain ⟨k, hk, rfl, hall⟩ := hrel
    by_cases hlt : k < ss.length
    · have hss : ss[k]? = some ss[k] := List.getElem?_eq_getElem hlt
      rcases hs with h | ⟨b, o, rfl, hc⟩
      · subst h
        simp at hlt
      have hcell := hc k _ hss
      have hz : ss[k].size ≤ 9223372036854775807 := hsz _ (List.getElem_mem hlt)
      have Hkey := Lib.hid (take_ok hlt hall)
      have Hno := Lib.hid (bad_at hlt)
      clear hc hsz hall hss
      rw [okN_nm] at Hkey Hno
      generalize ss[k] = s at *
      by_cases h1 : 1 ≤ s.size
      · by_cases h64 : s.size ≤ 64
        · go_wp2
          go_round
          case rel => exact ⟨k + 1, by omega, by go_num, Hkey.out (by simp [h1, h64])⟩
          case measure => simp [intOf]; omega
        · go_wp2
          go_ret
          exact ⟨by rw [Hno.out (by simp [h64])]; rfl, rfl⟩
      · go_wp2
        go_ret
        exact ⟨by rw [Hno.out (by simp [h1])]; rfl, rfl⟩
    · have Hall := Lib.hid hall
      clear hall
      go_wp2
      go_ret
      have h := Hall.out
      rw [List.take_of_length_le (by omega)] at h
      exact ⟨by simp [namesE, h], rfl⟩

section
variable {w : World} {r : Nat} {v : Value} {L : List RFile} {own : Nat → Prop} {D : DiskM}

theorem left_zero {f : Option Nat} (h : f ≠ some 0) : (leftOf f == 0) = false := by
  cases f with
  | none => rfl
  | some k =>
    have : k ≠ 0 := fun e => h (by rw [e])
    simp [leftOf]
    omega

theorem rmay_calls (h : RefIn w r v L own D) (p : Option Addr) (ss : List ByteArray) (c : Nat) (hs : StrsAt w p ss) (hm : ss.length ≤ 140737488355328) (hsz : ∀ s ∈ ss, s.size ≤ 9223372036854775807) :
    Calls Tryz.prog 327 #[.pointer (some ⟨r, 0, none⟩), .slice p ss.length c] w fun e w' => e = .returned (.int .i64 (D.may (ss.map nm) : Int)) ∧ w = w' := by
  have h2 := h.c2
  by_cases hb : D.fuse = some 0
  · rw [hb] at h2
    refine (rmay_burnt r p ss.length c w h2).mono ?_
    rintro e w' ⟨rfl, rfl⟩
    exact ⟨by simp [DiskM.may, hb], rfl⟩
  · refine (rmay_names r p ss c w _ h2 (left_zero hb) hs hm hsz).mono ?_
    rintro e w' ⟨rfl, rfl⟩
    refine ⟨?_, rfl⟩
    unfold namesE DiskM.may
    rw [if_neg hb]
    split <;> rfl

/-- The fuse alone. -/
theorem RefIn.fuse_set (h : RefIn w r v L own D) (f : Option Nat) (hf : ∀ k, f = some k → k ≤ 9223372036854775807) : RefIn (w.setCell ⟨r, 2, none⟩ (.int .i64 (leftOf f))) r v L own { D with fuse := f } where
  cells := set_block h.cells 2 _
  row := h.row.keep fun k hk => set_other _ (h.ov k hk).2
  files := h.files
  data := fun x hx => OwnR.keep (h.data x hx) fun k hk => set_other _ (h.ob x hx k hk).2.1
  or := h.or
  ov := h.ov
  ob := h.ob
  olt := fun k hk => by
    have := h.olt k hk
    simpa [World.setCell] using this
  ok := { h.ok with fuse := hf }

theorem chg_own {a : Addr} {u : Value} (h : own a.block) : Chg own w (w.setCell a u) := (Chg.setCell w a u).mono fun k _ e => by rw [e]; exact h

theorem rdid_calls (h : RefIn w r v L own D) (hf : D.fuse ≠ some 0) :
    Calls Tryz.prog 330 #[.pointer (some ⟨r, 0, none⟩)] w fun e w' => e = .returned (.int .i64 0) ∧ RefIn w' r v L own D.done ∧ Chg own w w' := by
  have c2 := h.c2
  have hz := frozen_of h.cells 2
  cases hfu : D.fuse with
  | none =>
    rw [hfu] at c2
    have hD : D.done = D := by unfold DiskM.done; rw [hfu]; cases D; simp at hfu; subst hfu; rfl
    have Hf := Lib.hid (show RefIn w r v L own D.done ∧ Chg own w w from ⟨by rw [hD]; exact h, Chg.refl _ _⟩)
    have c2' : w.cell? ⟨r, 2, none⟩ = some (.int .i64 (-1)) := c2
    clear h hf hfu hD c2
    go_enter Tryz.func330, Tryz.ntmps330
    go_wp2
    go_ret
    exact ⟨rfl, Hf.out⟩
  | some k =>
    rw [hfu] at c2
    have hk0 : k ≠ 0 := fun e => hf (by rw [hfu, e])
    have hkm : k ≤ 9223372036854775807 := h.ok.fuse k hfu
    have hD : D.done = { D with fuse := some (k - 1) } := by unfold DiskM.done; rw [hfu]; rfl
    have h2 := h.fuse_set (some (k - 1)) (fun j e => by have := Option.some.inj e; omega)
    have e1 : leftOf (some (k - 1)) = (k : Int) - 1 := by show ((k - 1 : Nat) : Int) = _; omega
    rw [e1, ← hD] at h2
    have Hf := Lib.hid (And.intro h2 (chg_own (w := w) (a := ⟨r, 2, none⟩) (u := .int .i64 ((k : Int) - 1)) h.or))
    have c2' : w.cell? ⟨r, 2, none⟩ = some (.int .i64 (k : Int)) := c2
    clear h hf hfu hD c2 h2 e1
    go_enter Tryz.func330, Tryz.ntmps330
    go_wp2
    go_ret
    exact ⟨rfl, Hf.out⟩

end

theorem rnew_calls (w : World) (n : Int) (h0 : 0 ≤ n) (h1 : n ≤ 1073741824) :
    Calls Tryz.prog 145 #[.int .i64 n] w fun e w' => ∃ r, e = .returned (.tuple #[.pointer (some ⟨r, 0, none⟩), .int .i64 0]) ∧ RefIn w' r (.slice none 0 0) [] (fun k => k = r) (DiskM.fresh n.toNat) ∧ Below w.heap.size w w' ∧ w.heap.size ≤ r := by
  obtain ⟨m, rfl⟩ : ∃ m : Nat, n = (m : Int) := ⟨n.toNat, by omega⟩
  go_enter Tryz.func145, Tryz.ntmps145
  go_wp2
  go_ret2
  refine ⟨w.heap.size, rfl, ?_, (Below.refl _ _).alloc (Nat.le_refl _) _, Nat.le_refl _⟩
  exact {
    cells := new_block w _
    row := OwnR.nil _ _ _
    files := rfl
    data := fun x hx => by cases hx
    or := rfl
    ov := fun k hk => by cases hk
    ob := fun x hx => by cases hx
    olt := fun k hk => by rw [hk]; simp
    ok := ok_fresh _ (by rw [Int.toNat_natCast]; omega) }

end Go.Proofs.YtogdfkilhpkloaaGreatDoor

namespace Go.Proofs.YtogdfkilhpkloaaGreatDoor
open Go.RowKit Go.Sat Go.Maps

theorem OwnN.has {w : World} {v : Value} {ns : List Bs} (h : OwnN w v ns) : HasN w v ns := OwnR.holds h

theorem own_ge {wa : World} {v v' : Value} {B : Nat} (hloc : v'.ownBlock = v.ownBlock ∨ ∃ g, v'.ownBlock = some g ∧ wa.heap.size ≤ g) (hv : ∀ k, v.ownBlock = some k → B ≤ k) (hB : B ≤ wa.heap.size) : ∀ k, v'.ownBlock = some k → B ≤ k := fun k hk => by
  rcases hloc with e | ⟨g, e, hge⟩
  · exact hv k (by rw [← e]; exact hk)
  · rw [e] at hk
    cases hk
    omega

theorem HasN.below {w w1 : World} {v : Value} {l : List Bs} (h : HasN w v l) (hb : Below w.heap.size w w1) : HasN w1 v l := Holds.chg h (Chg.of_below hb) fun _ _ => id

end Go.Proofs.YtogdfkilhpkloaaGreatDoor

namespace Go.Proofs.YtogdfkilhpkloaaGreatDoor
open Go.RowKit Go.Sat Go.Maps

theorem alloc_was (w : World) (o : Obj) {k : Nat} (h : k < w.heap.size) : (w.alloc o).heap[k]? = w.heap[k]? := ((Below.refl w.heap.size w).alloc (Nat.le_refl _) o).block k h

def flens (L : List RFile) : Nat := (L.map fun x => x.f.data.length).sum

theorem flens_take (L : List RFile) {k : Nat} {x : RFile} (h : L[k]? = some x) : flens (L.take (k + 1)) = flens (L.take k) + x.f.data.length := by
  obtain ⟨hk, rfl⟩ := List.getElem?_eq_some_iff.1 h
  rw [List.take_succ_eq_append_getElem hk]
  simp only [flens, List.map_append, List.map_cons, List.map_nil, List.sum_append, List.sum_cons, List.sum_nil, Nat.add_zero]

theorem flens_le (L : List RFile) (k : Nat) : flens (L.take k) ≤ flens L := by
  have e : flens L = flens (L.take k) + flens (L.drop k) := by
    conv => lhs; rw [← List.take_append_drop k L]
    simp only [flens, List.map_append, List.sum_append]
  omega

section
variable {w : World} {r : Nat} {v : Value} {L : List RFile} {own : Nat → Prop} {D : DiskM}

theorem RefIn.used (h : RefIn w r v L own D) : D.used = flens L := by
  unfold DiskM.used sumBy flens
  rw [h.files, List.map_map]
  rfl

theorem RefIn.len_le (h : RefIn w r v L own D) {k : Nat} {x : RFile} (hx : L[k]? = some x) : x.f.data.length ≤ 1073741824 := by
  have h1 := flens_take L hx
  have h2 := flens_le L (k + 1)
  have h3 := h.used
  have h4 := h.ok.used
  have h5 := h.ok.room
  omega

set_option maxRecDepth 100000 in
set_option maxHeartbeats 1000000 in
theorem rused_calls (h : RefIn w r v L own D) :
    Calls Tryz.prog 337 #[.pointer (some ⟨r, 0, none⟩)] w fun e w' => e = .returned (.int .i64 (D.used : Int)) ∧ w' = w := by
  obtain ⟨p, c, rfl⟩ := h.slice
  have c1 := h.c1
  have Hat := Lib.hid h.at
  have Hda := Lib.hid h.data
  have hcount : L.length ≤ 4096 := by rw [h.len]; exact h.ok.count
  have Hus := Lib.hid h.used
  have hub : D.used ≤ 1073741824 := Nat.le_trans h.ok.used h.ok.room
  rw [h.used] at hub ⊢
  have Hub := Lib.hid hub
  clear h hub
  generalize hN : L.length = N at *
  have HN := Lib.hid hN
  clear hN
  go_enter Tryz.func337, Tryz.ntmps337
  go_wp2_with fail
  go_loop [3, 4] (fun a i => ∃ k : Nat, k ≤ N ∧ i = .int .i64 k ∧ a = .int .i64 (flens (L.take k) : Int)) (fun _ i => N - (intOf i).toNat)
  case atStart => exact ⟨0, Nat.zero_le _, rfl, rfl⟩
  case round =>
    obtain ⟨k, hk, rfl, rfl⟩ := hrel
    by_cases hlt : k < N
    · have hkl : k < L.length := by rw [HN.out]; exact hlt
      obtain ⟨y, hy⟩ : ∃ y, L[k]? = some y := ⟨_, List.getElem?_eq_getElem hkl⟩
      have hym : y ∈ L := List.mem_of_getElem? hy
      rcases Hat.out with h0 | ⟨g, c1, e1, -, hc⟩
      · rw [h0] at hkl
        simp at hkl
      cases e1
      obtain ⟨-, hn1, -⟩ := hc k y hy
      obtain ⟨pb, cb, eb⟩ := HasB.slice (Hda.out y hym).has
      rw [eb] at hn1
      have hl := flens_take L hy
      have hle := flens_le L (k + 1)
      have Hl := Lib.hid hl
      have hb1 : flens (L.take k) + y.f.data.length ≤ 1073741824 := by have := Hub.out; omega
      clear hc hkl hy hym eb hl hle
      generalize y.f.data.length = m at *
      generalize hC : flens (L.take k) = C at *
      go_wp2_with fail
      go_round
      case rel => exact ⟨k + 1, by omega, by go_num, by rw [Hl.out]; go_num⟩
      case measure => simp [intOf]; omega
    · have e : L.take k = L := List.take_of_length_le (by rw [HN.out]; omega)
      rw [e]
      go_wp2_with fail
      go_ret
      exact ⟨rfl, rfl⟩

set_option maxRecDepth 100000 in
set_option maxHeartbeats 1000000 in
theorem rread_calls (h : RefIn w r v L own D) (s : ByteArray) :
    Calls Tryz.prog 255 #[.pointer (some ⟨r, 0, none⟩), .string s] w (ReadPost w (Sat.get (nm s) D.files)) := by
  have hsp := spot_calls h s
  rw [h.is] at hsp
  have c1 := h.c1
  cases hg : Sat.get (nm s) D.files with
  | none =>
    rw [hg] at hsp
    have Hsp := Lib.hid hsp
    clear hsp c1 h
    go_enter Tryz.func255, Tryz.ntmps255
    go_wp2_with fail
    refine Hsp.out.mono ?_
    rintro e w2 ⟨rfl, q, rfl⟩
    go_wp2_with fail
    go_ret2
    exact ⟨.slice none 0 0, rfl, OwnR.nil _ _ _, fun k hk => (by cases hk), ⟨rfl, rfl, rfl, Nat.le_refl _, fun _ _ => rfl⟩⟩
  | some f =>
    rw [hg] at hsp
    obtain ⟨x, hx, hxn, rfl⟩ := h.hit hg
    have hlm := h.len_le hx
    have hd := (h.data x (List.mem_of_getElem? hx)).has
    have hN : spotN (nm s) (L.map RFile.n) < L.length := (List.getElem?_eq_some_iff.1 hx).1
    generalize spotN (nm s) (L.map RFile.n) = i at *
    rcases h.at with h0 | ⟨g, c0, rfl, hlc, hc⟩
    · rw [h0] at hN
      simp at hN
    obtain ⟨-, hn1, -⟩ := hc i x hx
    obtain ⟨pb, cb, eb⟩ := HasB.slice hd
    rw [eb] at hn1 hd
    have hrlt : r < w.heap.size := h.olt r h.or
    have hglt : g < w.heap.size := h.olt g (h.ov g rfl).1
    have Hsp := Lib.hid hsp
    have Hd := Lib.hid hd
    have hDa : dataOf (some x.f) = x.f.data := rfl
    generalize x.f.data = l at *
    generalize hlen : l.length = m at *
    have Hlen := Lib.hid hlen
    obtain ⟨i0, hi, hz0, hz1, hz2⟩ := info_parts (show (Tryz.prog.info? 5).map (fun i => (i.zero, i.size, i.bytes)) = some (some (.int .u8 0), 1, 1) by kernel_rfl)
    clear hsp h hc hx hd hg hlen
    go_enter Tryz.func255, Tryz.ntmps255
    go_wp2_with fail
    refine Hsp.out.mono ?_
    rintro e w2 ⟨rfl, q, rfl⟩
    have hX8 : Below w.heap.size w (w.drewN q) := ⟨rfl, rfl, rfl, Nat.le_refl _, fun _ _ => rfl⟩
    have X11 := Lib.hid (hX8.alloc (Nat.le_refl _) (.cells #[] 5))
    have Hdw := Lib.hid (show Holds ((w.drewN q).alloc (.cells #[] 5)) 1 (.slice pb m cb) m (bytesV l) from by
      have h := Hd.out.below X11.out
      unfold HasB at h
      rw [Hlen.out] at h
      exact h)
    have c1w := (X11.out.cell (p := ⟨r, 1, none⟩) hrlt).trans c1
    have hn1w := (X11.out.cell (p := ⟨g, i * 3 + 1, none⟩) hglt).trans hn1
    clear hX8
    go_wp2_with (at_builtin; refine wpList_app ((w.drewN q).alloc (.cells #[] 5)) rfl (.tmp 16) (.tmp 24) 39 rfl 5 i0 (.int .u8 0) 1 1 Tryz.underlying39 hi hz0 hz1 hz2 rfl (by decide) (.slice (some ⟨w.heap.size, 0, none⟩) 0 0) 0 [] rfl (own_empty (w.drewN q) _) (.slice pb m cb) m (bytesV l) rfl Hdw.out (bytesV_one _) (by unfold maxLen; omega) (by omega) ?_; intro v12 w12 hown12 hgrow12 hloc12; rw [Nat.zero_add, List.nil_append] at hown12; have hX := X11.out.grown hgrow12 X11.out.size (fun j e => by simp [Value.ownBlock] at e; omega); have hnew := own_ge (B := w.heap.size) hloc12 (fun k hk => by simp [Value.ownBlock] at hk; omega) X11.out.size; have X12 := Lib.hid (And.intro hX (And.intro hown12 hnew)); clear hown12 hgrow12 hloc12 hX hnew)
    go_ret2
    refine ⟨v12, rfl, ?_, X12.out.2.2, X12.out.1⟩
    unfold OwnB
    rw [hDa, Hlen.out]
    exact X12.out.2.1

end
end Go.Proofs.YtogdfkilhpkloaaGreatDoor

namespace Go.Sat
namespace Rd
def intsJ : Nat → Rd → List Int × Rd
  | 0, R => ([], R)
  | k + 1, R => ((R.num.1 : Int) :: (intsJ k R.num.2).1, (intsJ k R.num.2).2)
def grp (may : List Int → Bool) (R : Rd) : List Int × Rd :=
  if 7 < R.num.1 then ([], fail) else ((intsJ R.num.1 R.num.2).1, if may (intsJ R.num.1 R.num.2).1 then (intsJ R.num.1 R.num.2).2 else fail)
end Rd
/-- Any nodes. -/
def anyG (_ : List Int) : Bool := true
end Go.Sat

namespace Go.Proofs.YtogdfkilhpkloaaGreatDoor
open Go.RowKit Go.Sat Go.Maps

/-- An entry. -/
structure Ent where
  term : Int
  kind : Int
  data : Bs
  nodes : List Int

structure JouM where
  number : Nat
  term : Int
  group : List Int
  now : Int
  vote : Int
  data : Bs
  entries : List Ent
  dead : Bool

def grpGo (prev : Int) : List Int → Bool
  | [] => true
  | n :: r => decide (prev < n ∧ n < 7) && grpGo n r
/-- Nodes that are a group. -/
def isGrp (l : List Int) : Bool := grpGo (-1) l && decide (1 ≤ l.length ∧ l.length ≤ 7)
def isTm (n : Int) : Bool := decide (0 ≤ n ∧ n ≤ 1099511627776)
def isEnt (e : Ent) : Bool :=
  isTm e.term && (if e.kind = 0 then decide (e.data = [] ∧ e.nodes = []) else if e.kind = 1 then decide (1 ≤ e.data.length ∧ e.data.length ≤ 65536 ∧ e.nodes = [])
    else if e.kind = 2 then decide (e.data = []) && isGrp e.nodes else false)

def snpX : Bs := [45, 115, 110, 97, 112]
def snpN (p : Bs) : Bs := p ++ snpX

/-! ### Records -/
def grpB (l : List Int) : Bs := numB l.length ++ numsI l
def fstB (n : Nat) (t : Int) (g : List Int) : Bs := 1 :: (numB n ++ numI t ++ grpB g)
def trmB (t v : Int) : Bs := 2 :: (numI t ++ numI (v + 1))
def entB (n : Nat) (e : Ent) : Bs := 3 :: (numB n ++ numI e.term ++ numI e.kind ++ rowB e.data ++ grpB e.nodes)
def snpB (n : Nat) (t : Int) (g : List Int) (b : Bs) : Bs := numB n ++ numI t ++ grpB g ++ rowB b

def entsB : Nat → List Ent → List Bs
  | _, [] => []
  | n, e :: r => entB (n + 1) e :: entsB (n + 1) r

namespace JouM
def none0 (g : List Int) : JouM := ⟨0, 0, g, 0, -1, [], [], false⟩
def last (M : JouM) : Nat := M.number + M.entries.length
def die (M : JouM) : JouM := { M with dead := true }
/-- The term of an entry, or of the base. -/
def termAt (M : JouM) (i : Int) : Option Int :=
  if i = (M.number : Int) then some M.term else if i < (M.number : Int) then none else (M.entries[(i - M.number - 1).toNat]?).map Ent.term
def mayVote (M : JouM) (t v : Int) : Bool := decide (M.now ≤ t ∧ t ≤ 1099511627776 ∧ -1 ≤ v ∧ v < 7) && !decide (t = M.now ∧ M.vote ≠ -1 ∧ v ≠ M.vote)
def rows (M : JouM) : List Bs := fstB M.number M.term M.group :: trmB M.now M.vote :: entsB M.number M.entries
end JouM

/-- A record is done. -/
def rec1 (first : Bool) (M : JouM) (p : Bs) : Option JouM := match p with
  | [] => none
  | k :: r =>
    if first ≠ decide (k = 1) then none
    else if k = 1 then
      (if (Rd.num ⟨r, false⟩).2.num.2.grp isGrp |>.2.whole then
        if (Rd.num ⟨r, false⟩).1 ≤ 1099511627776 ∧ (Rd.num ⟨r, false⟩).2.num.1 ≤ 1099511627776 then
          some { M with number := (Rd.num ⟨r, false⟩).1, term := ((Rd.num ⟨r, false⟩).2.num.1 : Int), group := ((Rd.num ⟨r, false⟩).2.num.2.grp isGrp).1 } else none
      else none)
    else if k = 2 then
      (if (Rd.num ⟨r, false⟩).2.num.2.whole && M.mayVote ((Rd.num ⟨r, false⟩).1 : Int) (((Rd.num ⟨r, false⟩).2.num.1 : Int) - 1) then
        some { M with now := ((Rd.num ⟨r, false⟩).1 : Int), vote := (((Rd.num ⟨r, false⟩).2.num.1 : Int) - 1) } else none)
    else if k = 3 then
      (let R1 := Rd.num ⟨r, false⟩
       let R2 := R1.2.num
       let R3 := R2.2.num
       let R4 := R3.2.bytes
       let R5 := R4.2.grp anyG
       let e : Ent := ⟨R2.1, R3.1, R4.1, R5.1⟩
       if R5.2.whole ∧ R1.1 = M.last + 1 ∧ R1.1 ≤ 1099511627776 ∧ isEnt e then some { M with entries := M.entries ++ [e] } else none)
    else if k = 4 then
      (if (Rd.num ⟨r, false⟩).2.whole ∧ M.number < (Rd.num ⟨r, false⟩).1 ∧ (Rd.num ⟨r, false⟩).1 ≤ M.last + 1 then some { M with entries := M.entries.take ((Rd.num ⟨r, false⟩).1 - M.number - 1) } else none)
    else none

def recGo (M : JouM) : List Bs → Option JouM
  | [] => some M
  | p :: r => (rec1 false M p).bind fun M' => recGo M' r
def recAll (M : JouM) : List Bs → Option JouM
  | [] => none
  | p :: r => (rec1 true M p).bind fun M' => recGo M' r

/-- What a snapshot says. -/
structure Snap where
  number : Nat
  term : Int
  group : List Int
  data : Bs

def snapIs (b : Bs) : Option Snap :=
  let R1 := Rd.num ⟨b, false⟩
  let R2 := R1.2.num
  let R3 := R2.2.grp isGrp
  let R4 := R3.2.bytes
  if R4.2.whole ∧ 1 ≤ R1.1 ∧ R1.1 ≤ 1099511627776 ∧ R2.1 ≤ 1099511627776 ∧ R4.1.length ≤ 524288 then some ⟨R1.1, R2.1, R3.1, R4.1⟩ else none
def snapOf (o : Option FileM) : Nat × Option Snap :=
  if loadE o = 7 then (0, none) else if loadE o ≠ 0 then (loadE o, none) else match snapIs (loadB o) with
    | none => (3, none)
    | some s => (0, some s)

/-- A snapshot stands for all ahead of it. -/
def JouM.rebase (M : JouM) (s : Snap) : JouM :=
  { M with number := s.number, term := s.term, group := s.group, data := s.data, entries := if M.number < s.number ∧ M.termAt s.number = some s.term then M.entries.drop (s.number - M.number) else [] }

/-- The log is written anew. -/
def writesJ (D : DiskM) (pre : Bs) (M : JouM) : DiskM × Nat := D.save1 (logN pre) (recsB M.rows)

/-- What a log says: the disk behind it, an error, whether it is to be written anew, the journal. -/
def readLogJ (D : DiskM) (pre : Bs) (M : JouM) : DiskM × Nat × Bool × JouM := match get (logN pre) D.files with
  | none => (D, 0, true, M)
  | some f => match recAll M (scan f.data).1 with
    | none => (D, 3, false, M)
    | some M' => ((tornOff D (logN pre) (scan f.data).2 f.data.length).1, (tornOff D (logN pre) (scan f.data).2 f.data.length).2, false, M')

def joins (s : Option Snap) (M : JouM) (anew : Bool) : Option (Bool × JouM) := match s with
  | none => if 0 < M.number then none else some (anew, M)
  | some s => if M.number < s.number then some (true, M.rebase s) else if s.number < M.number then none else some (anew, { M with data := s.data })

/-- What a disk opens as: the disk behind it, an error, the journal. -/
def jouOpen (D : DiskM) (pre : Bs) (nodes : List Int) : DiskM × Nat × JouM :=
  if pre.length < 1 ∨ 20 < pre.length ∨ isGrp nodes = false then (D, 1, JouM.none0 nodes) else
  let r0 := D.rid [shadowN (logN pre), shadowN (snpN pre)]
  if r0.2 ≠ 0 then (r0.1, r0.2, JouM.none0 nodes) else
  let s := snapOf (get (snpN pre) r0.1.files)
  if s.1 ≠ 0 then (r0.1, s.1, JouM.none0 nodes) else
  let l := readLogJ r0.1 pre (JouM.none0 nodes)
  if l.2.1 ≠ 0 then (l.1, l.2.1, JouM.none0 nodes) else
  match joins s.2 l.2.2.2 l.2.2.1 with
  | none => (l.1, 3, JouM.none0 nodes)
  | some (anew, M) => if anew then ((writesJ l.1 pre M).1, (writesJ l.1 pre M).2, M) else (l.1, 0, M)

end Go.Proofs.YtogdfkilhpkloaaGreatDoor

namespace Go.Proofs.YtogdfkilhpkloaaGreatDoor
open Go.RowKit Go.Sat Go.Maps

theorem numI_ofJ {z : Int} (h0 : 0 ≤ z) (h1 : z ≤ 4611686018427387904) : numI z = numB z.toNat := by
  have := numI_nat (n := z.toNat) (by omega)
  rwa [Int.toNat_of_nonneg h0] at this

theorem rd_int {z : Int} (h0 : 0 ≤ z) (h1 : z ≤ 4611686018427387904) (r : Bs) (b : Bool) : Rd.num ⟨numI z ++ r, b⟩ = (z.toNat, ⟨r, b⟩) := by
  rw [numI_ofJ h0 h1]
  exact Rd.num_of (by omega) r b

theorem ints_of : ∀ (l : List Int) (r : Bs) (b : Bool), (∀ x ∈ l, 0 ≤ x ∧ x ≤ 4611686018427387904) → Rd.intsJ l.length ⟨numsI l ++ r, b⟩ = (l, ⟨r, b⟩)
  | [], _, _, _ => rfl
  | z :: l, r, b, h => by
    have hz := h z (by simp)
    have e1 : numsI (z :: l) ++ r = numI z ++ (numsI l ++ r) := by simp [numsI]
    show (((Rd.num _).1 : Int) :: (Rd.intsJ l.length (Rd.num _).2).1, (Rd.intsJ l.length (Rd.num _).2).2) = _
    rw [e1, rd_int hz.1 hz.2]
    dsimp only
    rw [ints_of l r b fun x hx => h x (by simp [hx]), Int.toNat_of_nonneg hz.1]

theorem grp_of {may : List Int → Bool} {l : List Int} (hl : l.length ≤ 7) (h : ∀ x ∈ l, 0 ≤ x ∧ x < 7) (hm : may l = true) (r : Bs) (b : Bool) : Rd.grp may ⟨grpB l ++ r, b⟩ = (l, ⟨r, b⟩) := by
  unfold Rd.grp grpB
  rw [List.append_assoc, Rd.num_of (by omega)]
  dsimp only
  rw [if_neg (by omega), ints_of l r b fun x hx => by have := h x hx; omega]
  dsimp only
  rw [if_pos hm]

theorem whole_of (b : Bool) : Rd.whole ⟨[], b⟩ = !b := by
  unfold Rd.whole
  simp

theorem grp_bound {l : List Int} (h : isGrp l = true) : l.length ≤ 7 ∧ ∀ x ∈ l, 0 ≤ x ∧ x < 7 := by
  unfold isGrp at h
  simp only [Bool.and_eq_true, decide_eq_true_eq] at h
  refine ⟨h.2.2, ?_⟩
  have go : ∀ (l : List Int) (p : Int), -1 ≤ p → grpGo p l = true → ∀ x ∈ l, p < x ∧ x < 7 := by
    intro l
    induction l with
    | nil => intro p _ _ x hx; cases hx
    | cons n r ih =>
      intro p hp hg x hx
      unfold grpGo at hg
      simp only [Bool.and_eq_true, decide_eq_true_eq] at hg
      cases hx with
      | head => exact hg.1
      | tail _ hx =>
        have := ih n (by omega) hg.2 x hx
        omega
  intro x hx
  have := go l (-1) (by omega) h.1 x hx
  omega

end Go.Proofs.YtogdfkilhpkloaaGreatDoor

namespace Go.Proofs.YtogdfkilhpkloaaGreatDoor
open Go.RowKit Go.Sat Go.Maps

def intsV (l : List Int) : List Value := l.map (Value.int .i64)
/-- v is a row of the numbers l of the holder's own. -/
def OwnI (w : World) (v : Value) (l : List Int) : Prop := OwnR w 3 1 v l.length (intsV l)
theorem OwnI.has {w : World} {v : Value} {l : List Int} (h : OwnI w v l) : HasI w v l := OwnR.holds h
theorem OwnI.keep {w w' : World} {v : Value} {l : List Int} (h : OwnI w v l) (hb : ∀ k, v.ownBlock = some k → w'.heap[k]? = w.heap[k]?) : OwnI w' v l := OwnR.keep h hb
/-! ### Entries in memory -/
abbrev EV := Value × Value
def entC (e : Ent) (v : EV) : List Value := [.int .i64 e.term, .int .i64 e.kind, v.1, v.2]
def entsC : List Ent → List EV → List Value
  | e :: es, v :: vs => entC e v ++ entsC es vs
  | _, _ => []

structure EntAt (w : World) (e : Ent) (v : EV) : Prop where
  data : OwnB w 5 v.1 e.data
  nodes : OwnI w v.2 e.nodes
theorem EntAt.keep {w w' : World} {e : Ent} {v : EV} (h : EntAt w e v) (hb : ∀ k, (v.1.ownBlock = some k ∨ v.2.ownBlock = some k) → w'.heap[k]? = w.heap[k]?) : EntAt w' e v :=
  ⟨OwnR.keep h.data fun k hk => hb k (.inl hk), OwnR.keep h.nodes fun k hk => hb k (.inr hk)⟩
theorem EntAt.lt {w : World} {e : Ent} {v : EV} (h : EntAt w e v) {k : Nat} (hk : v.1.ownBlock = some k ∨ v.2.ownBlock = some k) : k < w.heap.size := hk.elim (OwnR.lt h.data) (OwnR.lt h.nodes)

/-- What a journal is. -/
structure JouM.OK (M : JouM) : Prop where
  last : M.last ≤ 1099511627776
  term : isTm M.term = true
  group : isGrp M.group = true
  now : isTm M.now = true
  vote : -1 ≤ M.vote ∧ M.vote < 7
  data : M.data.length ≤ 1073741824
  ents : ∀ e ∈ M.entries, isEnt e = true

theorem isTm_iff {n : Int} : isTm n = true ↔ 0 ≤ n ∧ n ≤ 1099511627776 := by simp [isTm]
/-! ### A journal in memory -/
section
variable {w w' : World} {j d : Nat} {pre : ByteArray} {own : Nat → Prop} {M : JouM} {gv dv ev : Value} {vs : List EV}

end

def JouCells (j d : Nat) (pre : ByteArray) (w : World) : Prop := w.cell? ⟨j, 3, none⟩ = some (.pointer (some ⟨d, 0, none⟩)) ∧ w.cell? ⟨j, 4, none⟩ = some (.string pre) ∧ pre.size ≤ 20
theorem JouCells.same {l d : Nat} {pre : ByteArray} {w w' : World} (h : JouCells l d pre w) (hb : w'.heap[l]? = w.heap[l]?) : JouCells l d pre w' :=
  ⟨(World.cell?_of_block (a := ⟨l, 3, none⟩) hb).trans h.1, (World.cell?_of_block (a := ⟨l, 4, none⟩) hb).trans h.2.1, h.2.2⟩

section
variable {w w1 w2 : World} {j d : Nat} {pre : ByteArray} {D : DiskM} {M : JouM} {F F' : Nat → Prop}

end

end Go.Proofs.YtogdfkilhpkloaaGreatDoor

namespace Go.Proofs.YtogdfkilhpkloaaGreatDoor
open Go.RowKit Go.Sat Go.Maps

/-- An entry that was handed in. -/
structure EntHas (w : World) (e : Ent) (v : EV) : Prop where
  data : HasB w v.1 e.data
  nodes : HasI w v.2 e.nodes
  dl : e.data.length ≤ 1099511627776
  nl : e.nodes.length ≤ 1099511627776
theorem EntHas.below {w w' : World} {e : Ent} {v : EV} (h : EntHas w e v) (hb : Below w.heap.size w w') : EntHas w' e v := ⟨HasB.below h.data hb, Holds.chg h.nodes (Chg.of_below hb) fun _ _ => id, h.dl, h.nl⟩
theorem EntAt.has {w : World} {e : Ent} {v : EV} (h : EntAt w e v) (hd : e.data.length ≤ 1099511627776) (hn : e.nodes.length ≤ 1099511627776) : EntHas w e v := ⟨OwnB.has h.data, OwnI.has h.nodes, hd, hn⟩

end Go.Proofs.YtogdfkilhpkloaaGreatDoor

namespace Go.Proofs.YtogdfkilhpkloaaGreatDoor
open Go.RowKit Go.Sat Go.Maps

theorem cell_far {w w' : World} {a : Addr} {v : Value} (h : w.cell? a = some v) (hb : Below w.heap.size w w') : w'.cell? a = some v := (hb.cell (World.block_lt_of_cell? w a h)).trans h

section
variable {w w1 : World} {j d : Nat} {pre : ByteArray} {D : DiskM} {M : JouM} {F : Nat → Prop}

end
end Go.Proofs.YtogdfkilhpkloaaGreatDoor

namespace Go.Proofs.YtogdfkilhpkloaaGreatDoor
open Go.RowKit Go.Sat Go.Maps

/-- The document's Reader in memory. -/
structure RRIn (w : World) (r : Nat) (R : Rd) (p : Option Addr) (n c : Nat) : Prop where
  cells : w.heap[r]? = some (.cells #[.slice p n c, .bool R.bad] 416 (0, 0))
  has : HasB w (.slice p n c) R.rest
  cap : n ≤ c
  ne : (Value.slice p n c).ownBlock ≠ some r
  len : R.rest.length ≤ 140737488355328
  inv : R.bad = true → R.rest = []

def RdY (A : Nat → Prop) (w : World) (r : Nat) (R : Rd) : Prop := ∃ p n c, RRIn w r R p n c ∧ ∀ k, (Value.slice p n c).ownBlock = some k → A k
theorem RRIn.n_eq {w : World} {r : Nat} {R : Rd} {p : Option Addr} {n c : Nat} (h : RRIn w r R p n c) : R.rest.length = n := by obtain ⟨_, _, e⟩ := h.has.slice; simp only [Value.slice.injEq] at e; exact e.2.1.symm
theorem RRIn.rlt {w : World} {r : Nat} {R : Rd} {p : Option Addr} {n c : Nat} (h : RRIn w r R p n c) : r < w.heap.size := lt_of_block h.cells
theorem RdY.lt {A : Nat → Prop} {w : World} {r : Nat} {R : Rd} (h : RdY A w r R) : r < w.heap.size := let ⟨_, _, _, h, _⟩ := h; h.rlt
theorem RdY.len {A : Nat → Prop} {w : World} {r : Nat} {R : Rd} (h : RdY A w r R) : R.rest.length ≤ 140737488355328 := let ⟨_, _, _, h, _⟩ := h; h.len
theorem RdY.inv {A : Nat → Prop} {w : World} {r : Nat} {R : Rd} (h : RdY A w r R) : R.bad = true → R.rest = [] := let ⟨_, _, _, h, _⟩ := h; h.inv
theorem RdY.chg {A S : Nat → Prop} {w w' : World} {r : Nat} {R : Rd} (h : RdY A w r R) (hc : Chg S w w') (hr : ¬ S r) (hA : ∀ k, A k → ¬ S k) : RdY A w' r R := by
  obtain ⟨p, n, c, h, ha⟩ := h
  exact ⟨p, n, c, ⟨(hc.block r h.rlt hr).trans h.cells, HasB.chg h.has hc fun k hk => hA k (ha k hk), h.cap, h.ne, h.len, h.inv⟩, ha⟩
theorem RdY.below {A : Nat → Prop} {w w' : World} {r : Nat} {R : Rd} (h : RdY A w r R) (hb : Below w.heap.size w w') : RdY A w' r R := h.chg (Chg.of_below hb) id fun _ _ => id
theorem RdY.c1 {A : Nat → Prop} {w : World} {r : Nat} {R : Rd} (h : RdY A w r R) : w.cell? ⟨r, 1, none⟩ = some (.bool R.bad) := let ⟨_, _, _, h, _⟩ := h; cell_of h.cells rfl
def RStepY (A : Nat → Prop) (w : World) (r : Nat) (R' : Rd) (v : Value) (e : Ending) (w' : World) : Prop := e = .returned v ∧ RdY A w' r R' ∧ Chg (fun k => k = r) w w'
def NumY (A : Nat → Prop) (w : World) (r : Nat) (R : Rd) (e : Ending) (w' : World) : Prop := e = .returned (.int .i64 (R.num.1 : Int)) ∧ RdY A w' r R.num.2 ∧ Chg (fun k => k = r) w w'
def RowY (A : Nat → Prop) (w : World) (r : Nat) (b : Bs) (R' : Rd) (e : Ending) (w' : World) : Prop :=
  ∃ v, e = .returned v ∧ OwnB w' 5 v b ∧ (∀ j, v.ownBlock = some j → w.heap.size ≤ j) ∧ RdY A w' r R' ∧ Chg (fun j => j = r) w w'

/-- A copy of bytes: append([]byte{}, x...). -/
theorem copy_new {w w' : World} {e : TypeId} {v : Value} {l : Bs} {m : Nat} (hm : l.length = m) (hown : OwnR w' e 1 v (0 + m) ([] ++ bytesV l)) (hg : (w.alloc (.cells #[] e)).grownBy w' (some w.heap.size)) (hl : v.ownBlock = some w.heap.size ∨ ∃ g, v.ownBlock = some g ∧ (w.alloc (.cells #[] e)).heap.size ≤ g) :
    OwnB w' e v l ∧ (∀ k, v.ownBlock = some k → w.heap.size ≤ k) ∧ Below w.heap.size w w' := by
  subst hm
  rw [Nat.zero_add, List.nil_append] at hown
  refine ⟨hown, fun k hk => ?_, (below_one w _).trans ((Chg.of_grown hg).below (by simp) fun k hk e => ?_)⟩
  · rcases hl with h | ⟨g, h, hge⟩
    · rw [h] at hk
      cases hk
      exact Nat.le_refl _
    · rw [h] at hk
      cases hk
      simp at hge
      omega
  · have := Option.some.inj e
    omega

section
variable {w : World} {r : Nat} {R : Rd} {p : Option Addr} {n c : Nat} {A : Nat → Prop}

theorem rrbad_calls (h : RdY A w r R) :
    Calls Tryz.prog 325 #[.pointer (some ⟨r, 0, none⟩)] w (RStepY A w r Rd.fail (.tuple #[])) := by
  obtain ⟨p, n, c, h, hA⟩ := h
  have h0 : w.cell? ⟨r, 0, none⟩ = some (.slice p n c) := cell_of h.cells rfl
  have h1 : w.cell? ⟨r, 1, none⟩ = some (.bool R.bad) := cell_of h.cells rfl
  have hf := fun i => frozen_of h.cells i
  have HE := Lib.hid (show RStepY A w r Rd.fail (.tuple #[]) (.returned (.tuple #[])) ((w.setCell ⟨r, 1, none⟩ (.bool true)).setCell ⟨r, 0, none⟩ (.slice none 0 0)) from ⟨rfl, ⟨none, 0, 0, ⟨by
    have h1 := set_block h.cells 1 (.bool true)
    have h2 := set_block h1 0 (.slice none 0 0)
    simpa [Rd.fail] using h2, OwnB.has (e := 0) (OwnR.nil _ _ _), Nat.le_refl _, fun h => (by cases h), Nat.zero_le _, fun _ => rfl⟩, fun k hk => (by cases hk)⟩, (Chg.setCell w ⟨r, 1, none⟩ _).trans (Chg.setCell _ ⟨r, 0, none⟩ _) fun _ _ e => e⟩)
  clear h
  go_enter Tryz.func325, Tryz.ntmps325
  go_wp2_with fail
  go_end0
  exact HE.out

set_option maxRecDepth 100000 in
set_option maxHeartbeats 4000000 in
theorem rrraw_calls (h : RdY A w r R) (m : Nat) (hm63 : m ≤ 9223372036854775807) :
    Calls Tryz.prog 375 #[.pointer (some ⟨r, 0, none⟩), .int .i64 (m : Int)] w (RowY A w r (R.raw m).1 (R.raw m).2) := by
  obtain ⟨i0, hi, hz0, hz1, hz2⟩ := info_parts (show (Tryz.prog.info? 5).map (fun i => (i.zero, i.size, i.bytes)) = some (some (.int .u8 0), 1, 1) by kernel_rfl)
  have Hbd := Lib.hid (rrbad_calls h)
  obtain ⟨p, n, c, h, hA⟩ := h
  have hn := h.n_eq
  have hlen := h.len
  have c0 : w.cell? ⟨r, 0, none⟩ = some (.slice p n c) := cell_of h.cells rfl
  have c1 : w.cell? ⟨r, 1, none⟩ = some (.bool R.bad) := cell_of h.cells rfl
  have d0 : decide ((m : Int) < 0) = false := decide_eq_false (by omega)
  by_cases hm : m ≤ n
  · have d1 : decide ((n : Int) < (m : Int)) = false := decide_eq_false (by omega)
    have hR : R.raw m = (R.rest.take m, ⟨R.rest.drop m, R.bad⟩) := by unfold Rd.raw; rw [if_pos (by omega)]
    rw [hR]
    cases hbd : R.bad with
    | true =>
      have hrest := h.inv hbd
      have hm0 : m = 0 := by rw [hrest] at hn; simp at hn; omega
      subst hm0
      rw [hbd] at c1
      have HE := Lib.hid (show RowY A w r (R.rest.take 0) ⟨R.rest.drop 0, true⟩ (.returned (.slice none 0 0)) w from ⟨_, rfl, OwnR.nil _ _ _, fun j hj => (by cases hj), ⟨p, n, c, ⟨by rw [← hbd]; exact h.cells, h.has, h.cap, h.ne, h.len, fun _ => hrest⟩, hA⟩, Chg.refl _ _⟩)
      clear h hR Hbd hA hrest
      go_enter Tryz.func375, Tryz.ntmps375
      go_wp2_with fail
      go_ret
      exact HE.out
    | false =>
      rw [hbd] at c1
      obtain ⟨p', c', hsl, hh, hc, hne, hnA⟩ := run_tailX (P := Tryz.prog) Tryz.underlying39 hi hz1 h.has h.cap r m h.ne hm
      have hup : ∀ W, (Instr.slice 39 (.slice p n c) none (some (.int .i64 (m : Int))) none).run Tryz.prog W = .ok (.slice p m c) W := fun W => run_upto W Tryz.underlying39 hi p n c m (by have := h.cap; omega)
      have hb1 := below_one w (.cells #[] 5)
      have Hcut := Lib.hid (show Holds (w.alloc (.cells #[] 5)) 1 (.slice p m c) m (bytesV (R.rest.take m)) from by
        have h1 := HasB.cut (h.has.below hb1) (k := m) (by omega) c
        unfold HasB at h1
        rwa [List.length_take, Nat.min_eq_left (by omega)] at h1)
      have Hin := Lib.hid h
      have Hh := Lib.hid (And.intro hh (And.intro hc (And.intro hne hnA)))
      have hrl := h.rlt
      have HA := Lib.hid hA
      have c0a := cell_far c0 hb1
      have Hbd2 := Lib.hid hbd
      have Hn := Lib.hid hn
      clear hh hc hne h hR Hbd hA hnA hb1
      go_enter Tryz.func375, Tryz.ntmps375
      go_wp2_with (at_builtin; refine wpList_app (w.alloc (.cells #[] 5)) rfl (.tmp 23) (.tmp 29) 39 rfl 5 i0 (.int .u8 0) 1 1 Tryz.underlying39 hi hz0 hz1 hz2 rfl (by decide) (.slice (some ⟨w.heap.size, 0, none⟩) 0 0) 0 [] rfl (own_empty w _) (.slice p m c) m (bytesV (R.rest.take m)) rfl Hcut.out (bytesV_one _) (by unfold maxLen; omega) (by omega) ?_; intro v3 w3 hown3 hgrow3 hloc3; go_loud (have HN := Lib.hid (copy_new (by rw [List.length_take, Nat.min_eq_left (by have := Hn.out; omega)]) hown3 hgrow3 hloc3); have hcell3 : w3.heap[r]? = some (.cells #[.slice p n c, .bool R.bad] 416 (0, 0)) := (HN.out.2.2.block r hrl).trans Hin.out.cells; have c03 := cell_of hcell3 (i := 0) rfl; have hfr3 := fun i => frozen_of hcell3 i; have HC := Lib.hid hcell3; clear hown3 hgrow3 hloc3 hcell3))
      go_ret
      obtain ⟨hv, hvn, hb3⟩ := HN.out
      have hlt3 : r < w3.heap.size := lt_of_block HC.out
      refine ⟨v3, rfl, ?_, hvn, ⟨p', n - m, c', ⟨?_, ?_, Hh.out.2.1, Hh.out.2.2.1, ?_, fun e => (by cases e)⟩, fun k hk => HA.out k (Hh.out.2.2.2 k hk)⟩, ?_⟩
      · exact OwnR.keep hv fun k hk => set_other _ fun e => by
          have := hvn k hk
          have e : k = r := e
          omega
      · have h1 := set_block HC.out 0 (.slice p' (n - m) c')
        rw [Hbd2.out] at h1
        simpa using h1
      · exact HasB.set (HasB.below Hh.out.1 hb3) _ Hh.out.2.2.1
      · show (R.rest.drop m).length ≤ _
        rw [List.length_drop]
        omega
      · exact ((Chg.of_below hb3).mono fun _ _ h => h.elim).trans (Chg.setCell _ ⟨r, 0, none⟩ _) fun _ _ e => e
  · have d1 : decide ((n : Int) < (m : Int)) = true := decide_eq_true (by omega)
    have hR : R.raw m = ([], Rd.fail) := by unfold Rd.raw; rw [if_neg (by omega)]
    rw [hR]
    clear h hR
    go_enter Tryz.func375, Tryz.ntmps375
    go_wp2_with fail
    refine Hbd.out.mono ?_
    rintro e w1 ⟨rfl, hr, hc⟩
    have e1 := hr.c1
    have HE := Lib.hid (And.intro hr hc)
    clear hr hc
    have e1 : w1.cell? ⟨r, 1, none⟩ = some (.bool true) := e1
    go_wp2_with fail
    go_ret
    exact ⟨_, rfl, OwnR.nil _ _ _, fun j hj => (by cases hj), HE.out⟩

theorem rrwhole_calls (h : RdY A w r R) :
    Calls Tryz.prog 326 #[.pointer (some ⟨r, 0, none⟩)] w fun e w' => e = .returned (.bool R.whole) ∧ w' = w := by
  obtain ⟨p, n, c, h, hA⟩ := h
  have hn := h.n_eq
  have c0 : w.cell? ⟨r, 0, none⟩ = some (.slice p n c) := cell_of h.cells rfl
  have c1 : w.cell? ⟨r, 1, none⟩ = some (.bool R.bad) := cell_of h.cells rfl
  have HE := Lib.hid (show R.rest.isEmpty = ((n : Int) == 0) from by
    rw [Bool.eq_iff_iff, List.isEmpty_iff, ← List.length_eq_zero_iff, hn]
    simp)
  have HW := Lib.hid (show R.whole = (!R.bad && R.rest.isEmpty) from rfl)
  clear h hn
  cases hb : R.bad with
  | true =>
    rw [hb] at c1 HW
    go_enter Tryz.func326, Tryz.ntmps326
    go_wp2_with fail
    go_ret
    exact ⟨by rw [HW.out]; rfl, rfl⟩
  | false =>
    rw [hb] at c1 HW
    go_enter Tryz.func326, Tryz.ntmps326
    go_wp2_with fail
    go_ret
    exact ⟨by rw [HW.out, HE.out]; rfl, rfl⟩
end
end Go.Proofs.YtogdfkilhpkloaaGreatDoor

namespace Go.Proofs.YtogdfkilhpkloaaGreatDoor
open Go.RowKit Go.Sat Go.Maps

theorem take_one {l : Bs} {x : UInt8} {t : Bs} (h : l = x :: t) (b : Bool) : Rd.raw ⟨l, b⟩ 1 = ([x], ⟨t, b⟩) := by
  subst h
  unfold Rd.raw
  rw [if_pos (by simp)]
  rfl
theorem raw_nil (b : Bool) : Rd.raw ⟨[], b⟩ 1 = ([], Rd.fail) := rfl
theorem or_big (a : Nat) (ha : a < 9223372036854775808) : ∃ Z : Nat, bits .or .u64 (a : Int) (IntKind.u64.wrap (IntKind.u64.wrap (bits .and .u8 1 127) * 9223372036854775808)) = (Z : Int) ∧ 4611686018427387904 < Z := by
  have e : (IntKind.u64.wrap (IntKind.u64.wrap (bits .and .u8 1 127) * 9223372036854775808)) = ((9223372036854775808 : Nat) : Int) := by rfl
  rw [e]
  refine ⟨a ||| 9223372036854775808, u64_or_nat a 9223372036854775808 (by omega) (by decide), ?_⟩
  have := @Nat.right_le_or a 9223372036854775808
  omega

set_option maxRecDepth 100000 in
set_option maxHeartbeats 8000000 in
theorem rrnum_calls {w : World} {r : Nat} {R : Rd} {A : Nat → Prop} (h : RdY A w r R) :
    Calls Tryz.prog 323 #[.pointer (some ⟨r, 0, none⟩)] w (NumY A w r R) := by
  have Hno := Lib.hid (show numGo 0 0 R.rest = none → R.num = (0, Rd.fail) from fun e => by unfold Rd.num; rw [e])
  have Hyes := Lib.hid (show ∀ v t, numGo 0 0 R.rest = some (v, t) → R.num = (v, ⟨t, R.bad⟩) from fun v t e => by unfold Rd.num; rw [e])
  have Hin := Lib.hid h
  clear h
  go_enter Tryz.func323, Tryz.ntmps323
  go_wp2_with fail
  go_loopw [3, 4] (fun u i wr => ∃ k a : Nat, k ≤ 9 ∧ i = .int .i64 k ∧ u = .int .u64 a ∧ a < 128 ^ k ∧ ∃ S, numGo 0 0 R.rest = numGo k a S ∧ RdY A wr r ⟨S, R.bad⟩ ∧ Chg (fun k => k = r) w wr) (fun _ i _ => 10 - (intOf i).toNat)
  case atStart => exact ⟨0, 0, by omega, rfl, rfl, by simp, R.rest, rfl, Hin.out, Chg.refl _ _⟩
  case round =>
    obtain ⟨k, a, hk9, rfl, rfl, ha, S, hgo, hrd, hch⟩ := hrel
    have Hraw := Lib.hid (rrraw_calls hrd 1 (by decide))
    have Hch := Lib.hid hch
    have hlt10 : decide ((k : Int) < 10) = true := decide_eq_true (by omega)
    cases S with
    | nil =>
      rw [raw_nil] at Hraw
      have HE := Lib.hid (Hno.out hgo)
      clear hgo hrd hch
      go_wp2_with fail
      refine Hraw.out.mono ?_
      rintro e w1 ⟨v, rfl, -, -, hr, hc⟩
      have e1 : w1.cell? ⟨r, 1, none⟩ = some (.bool true) := hr.c1
      have HF := Lib.hid (show NumY A w r R (.returned (.int .i64 0)) w1 from ⟨by rw [HE.out]; rfl, by rw [HE.out]; exact hr, Hch.out.trans hc fun _ _ e => e⟩)
      clear hr hc Hraw
      go_wp2_with fail
      go_ret
      exact HF.out
    | cons x0 S =>
      rw [take_one rfl] at Hraw
      have hbd : R.bad = false := by
        cases hb : R.bad with
        | false => rfl
        | true => have := hrd.inv hb; cases this
      have hx := x0.toNat_lt
      have Hgo := Lib.hid hgo
      have Hstop := Lib.hid (show 9 ≤ k ∨ (0 < k ∧ x0.toNat = 0) → numGo k a (x0 :: S) = none from fun e => by
        unfold numGo
        rw [if_pos (e.imp id fun e => ⟨e.1, UInt8.toNat.inj (by rw [e.2]; rfl)⟩)])
      have Hgo1 := Lib.hid (show ¬ (9 ≤ k ∨ (0 < k ∧ x0.toNat = 0)) → x0.toNat < 128 → numGo k a (x0 :: S) = if 4611686018427387904 < a + x0.toNat * 128 ^ k then none else some (a + x0.toNat * 128 ^ k, S) from fun e h => by
        rw [numGo, if_neg (fun h => e (h.imp id fun h => ⟨h.1, by rw [h.2]; rfl⟩)), if_pos h])
      have Hgo2 := Lib.hid (show ¬ (9 ≤ k ∨ (0 < k ∧ x0.toNat = 0)) → ¬ x0.toNat < 128 → numGo k a (x0 :: S) = numGo (k + 1) (a + x0.toNat % 128 * 128 ^ k) S from fun e h => by
        rw [numGo, if_neg (fun h => e (h.imp id fun h => ⟨h.1, by rw [h.2]; rfl⟩)), if_neg h])
      clear hgo hrd hch
      go_wp2_with fail
      refine Hraw.out.mono ?_
      rintro e w1 ⟨v, rfl, hv, hvn, hr, hc⟩
      have e1 : w1.cell? ⟨r, 1, none⟩ = some (.bool false) := by rw [← hbd]; exact hr.c1
      obtain ⟨g, cc, rfl, hcell⟩ : ∃ g cc, v = .slice (some ⟨g, 0, none⟩) 1 cc ∧ w1.cell? ⟨g, 0, none⟩ = some (.int .u8 (x0.toNat : Int)) := by
        have hh := hv.has
        obtain ⟨hlv, ⟨rfl, h0⟩ | ⟨g, cap, cur, rfl, hg⟩⟩ := hv
        · simp at h0
        · refine ⟨g, cap, rfl, ?_⟩
          obtain ⟨_, p, c, e, _, hcs⟩ := hh
          cases e
          have := hcs _ rfl 0 (.int .u8 (x0.toNat : Int)) (by simp [bytesV])
          rwa [add_zero] at this
      have Hr1 := Lib.hid (And.intro hr (Hch.out.trans hc fun _ _ e => e))
      have Hbad := Lib.hid (rrbad_calls hr)
      clear hv hvn hr hc Hraw
      generalize x0.toNat = x at *
      by_cases h9 : 9 ≤ k
      · obtain rfl : k = 9 := by omega
        have HE := Lib.hid (Hno.out (Hgo.out.trans (Hstop.out (.inl (Nat.le_refl _)))))
        by_cases hx1 : 127 < x
        · go_wp2_with fail
          refine Hbad.out.mono ?_
          rintro e w2 ⟨rfl, hr, hc⟩
          have HF := Lib.hid (show NumY A w r R (.returned (.int .i64 0)) w2 from ⟨by rw [HE.out]; rfl, by rw [HE.out]; exact hr, Hr1.out.2.trans hc fun _ _ e => e⟩)
          clear hr hc
          go_wp2_with fail
          go_ret
          exact HF.out
        · by_cases hx2 : 1 < x
          · go_wp2_with fail
            refine Hbad.out.mono ?_
            rintro e w2 ⟨rfl, hr, hc⟩
            have HF := Lib.hid (show NumY A w r R (.returned (.int .i64 0)) w2 from ⟨by rw [HE.out]; rfl, by rw [HE.out]; exact hr, Hr1.out.2.trans hc fun _ _ e => e⟩)
            clear hr hc
            go_wp2_with fail
            go_ret
            exact HF.out
          · by_cases hx3 : x = 0
            · subst hx3
              go_wp2_with fail
              refine Hbad.out.mono ?_
              rintro e w2 ⟨rfl, hr, hc⟩
              have HF := Lib.hid (show NumY A w r R (.returned (.int .i64 0)) w2 from ⟨by rw [HE.out]; rfl, by rw [HE.out]; exact hr, Hr1.out.2.trans hc fun _ _ e => e⟩)
              clear hr hc
              go_wp2_with fail
              go_ret
              exact HF.out
            · obtain rfl : x = 1 := by omega
              obtain ⟨Z, ho1, ho2⟩ := or_big a (by
                have h9 : (128 : Nat) ^ 9 = 9223372036854775808 := by decide
                omega)
              have ho3 : decide ((4611686018427387904 : Int) < (Z : Int)) = true := decide_eq_true (by omega)
              go_wp2_with fail
              refine Hbad.out.mono ?_
              rintro e w2 ⟨rfl, hr, hc⟩
              have HF := Lib.hid (show NumY A w r R (.returned (.int .i64 0)) w2 from ⟨by rw [HE.out]; rfl, by rw [HE.out]; exact hr, Hr1.out.2.trans hc fun _ _ e => e⟩)
              clear hr hc
              go_wp2_with fail
              go_ret
              exact HF.out
      · by_cases hz : 0 < k ∧ x = 0
        · have HE := Lib.hid (Hno.out (Hgo.out.trans (Hstop.out (.inr hz))))
          obtain ⟨hk0, rfl⟩ := hz
          have hn9 : ((k : Int) == 9) = false := by simp; omega
          go_wp2_with fail
          refine Hbad.out.mono ?_
          rintro e w2 ⟨rfl, hr, hc⟩
          have HF := Lib.hid (show NumY A w r R (.returned (.int .i64 0)) w2 from ⟨by rw [HE.out]; rfl, by rw [HE.out]; exact hr, Hr1.out.2.trans hc fun _ _ e => e⟩)
          clear hr hc
          go_wp2_with fail
          go_ret
          exact HF.out
        · have hs : ¬ (9 ≤ k ∨ (0 < k ∧ x = 0)) := fun e => e.elim h9 hz
          have hn9 : ((k : Int) == 9) = false := by simp; omega
          by_cases h128 : x < 128
          · have HE0 := Lib.hid (Hgo.out.trans (Hgo1.out hs h128))
            have h7 := u64_seven ha (by omega) (show x < 256 by omega)
            rw [show x % 128 = x by omega] at h7
            obtain ⟨h7, -, h73⟩ := h7
            generalize a + x * 128 ^ k = Z at *
            by_cases hA : 4611686018427387904 < Z
            · have HE := Lib.hid (Hno.out (HE0.out.trans (if_pos hA)))
              rcases Nat.lt_or_ge 0 k with hk0 | hk0
              rotate_left
              · go_wp2_with fail
                refine Hbad.out.mono ?_
                rintro e w2 ⟨rfl, hr, hc⟩
                have HF := Lib.hid (show NumY A w r R (.returned (.int .i64 0)) w2 from ⟨by rw [HE.out]; rfl, by rw [HE.out]; exact hr, Hr1.out.2.trans hc fun _ _ e => e⟩)
                clear hr hc
                go_wp2_with fail
                go_ret
                exact HF.out
              · have hx0 : 0 < x := by omega
                go_wp2_with fail
                refine Hbad.out.mono ?_
                rintro e w2 ⟨rfl, hr, hc⟩
                have HF := Lib.hid (show NumY A w r R (.returned (.int .i64 0)) w2 from ⟨by rw [HE.out]; rfl, by rw [HE.out]; exact hr, Hr1.out.2.trans hc fun _ _ e => e⟩)
                clear hr hc
                go_wp2_with fail
                go_ret
                exact HF.out
            · have HE2 := Lib.hid (Hyes.out _ _ (HE0.out.trans (if_neg hA)))
              have HF := Lib.hid (show NumY A w r R (.returned (.int .i64 (Z : Int))) w1 from ⟨by rw [HE2.out], by rw [HE2.out]; exact Hr1.out.1, Hr1.out.2⟩)
              rcases Nat.lt_or_ge 0 k with hk0 | hk0
              rotate_left
              · go_wp2_with fail
                go_ret
                exact HF.out
              · have hxn : ((x : Int) == 0) = false := by simp; omega
                go_wp2_with fail
                go_ret
                exact HF.out
          · have hgo2 := Hgo.out.trans (Hgo2.out hs h128)
            obtain ⟨h7, h72, h73⟩ := u64_seven ha (by omega) (show x < 256 by omega)
            have Hgn := Lib.hid (And.intro hgo2 h72)
            clear hgo2 h72
            generalize a + x % 128 * 128 ^ k = Z at *
            go_wp2_with fail
            go_roundw
            case rel => exact ⟨k + 1, Z, by omega, by go_num, rfl, Hgn.out.2, S, Hgn.out.1, Hr1.out.1, Hr1.out.2⟩
            case measure => simp [intOf]; omega

theorem num_bad {R : Rd} (hinv : R.bad = true → R.rest = []) (hb : R.num.2.bad = true) : R.num = (0, Rd.fail) := by
  cases h : numGo 0 0 R.rest with
  | none => unfold Rd.num; rw [h]
  | some x =>
    obtain ⟨n, t⟩ := x
    have e : R.num = (n, ⟨t, R.bad⟩) := by unfold Rd.num; rw [h]
    rw [e] at hb
    rw [hinv hb] at h
    cases h

set_option maxRecDepth 100000 in
set_option maxHeartbeats 2000000 in
theorem rrbytes_calls {w : World} {r : Nat} {R : Rd} {A : Nat → Prop} (h : RdY A w r R) :
    Calls Tryz.prog 332 #[.pointer (some ⟨r, 0, none⟩)] w (RowY A w r R.bytes.1 R.bytes.2) := by
  have Hn := Lib.hid (rrnum_calls h)
  have hle := Rd.num_le R
  have hnb := num_bad h.inv
  have HB := Lib.hid (show R.bytes = R.num.2.raw R.num.1 from rfl)
  clear h
  go_enter Tryz.func332, Tryz.ntmps332
  go_wp2_with fail
  refine Hn.out.mono ?_
  rintro e w1 ⟨rfl, hr, hc⟩
  have hc1 := hr.c1
  have Hc := Lib.hid hc
  cases hb : R.num.2.bad with
  | true =>
    rw [hb] at hc1
    have hn := hnb hb
    have HE := Lib.hid (show RowY A w r R.bytes.1 R.bytes.2 (.returned (.slice none 0 0)) w1 from by
      rw [HB.out, hn]
      rw [hn] at hr
      exact ⟨_, rfl, OwnR.nil _ _ _, fun j hj => (by cases hj), hr, hc⟩)
    clear hr hc Hn hn hnb
    go_wp2_with fail
    go_ret
    exact HE.out
  | false =>
    rw [hb] at hc1
    have Hr := Lib.hid (rrraw_calls hr R.num.1 (by omega))
    clear hr hc Hn hnb hb
    generalize R.num.1 = m at *
    generalize R.num.2 = R1 at *
    go_wp2_with fail
    refine Hr.out.mono ?_
    rintro e w2 ⟨v, rfl, hv, hvn, hr2, hc2⟩
    have HE := Lib.hid (show RowY A w r R.bytes.1 R.bytes.2 (.returned v) w2 from ⟨v, rfl, by rw [HB.out]; exact hv, fun j hj => Nat.le_trans Hc.out.size (hvn j hj), by rw [HB.out]; exact hr2, Hc.out.trans hc2 fun _ _ e => e⟩)
    clear hv hvn hr2 hc2 Hr
    go_wp2_with fail
    go_ret
    exact HE.out
end Go.Proofs.YtogdfkilhpkloaaGreatDoor

namespace Go.Proofs.YtogdfkilhpkloaaGreatDoor
open Go.RowKit Go.Sat Go.Maps

set_option maxHeartbeats 2000000 in
theorem rnum0_calls (w : World) : Calls Tryz.prog 104 #[.int .i64 0] w (NewR w [0]) := by
  obtain ⟨i0, hi, hz0, hz1, hz2⟩ := info_parts (show (Tryz.prog.info? 5).map (fun i => (i.zero, i.size, i.bytes)) = some (some (.int .u8 0), 1, 1) by kernel_rfl)
  go_enter Tryz.func104, Tryz.ntmps104
  go_wp2_with fail
  go_loopw [3, 4] (fun n v wr => n = .int .u64 0 ∧ v = .slice none 0 0 ∧ wr = w) (fun _ _ _ => 0)
  case atStart => exact ⟨rfl, rfl, rfl⟩
  case round =>
    obtain ⟨rfl, rfl, rfl⟩ := hrel
    have hxx := lit_one wr 0
    go_wp2_with (at_builtin; refine wpList_app _ rfl (.tmp 22) (.tmp 25) 39 rfl 5 i0 (.int .u8 0) 1 1 Tryz.underlying39 hi hz0 hz1 hz2 rfl (by decide) (.slice none 0 0) 0 [] rfl (OwnR.nil _ _ _) (.slice (some ⟨wr.heap.size, 0, none⟩) 1 1) 1 _ rfl hxx (bytesV_one _) (by decide) (by decide) ?_; clear hxx; intro v3 w3 hown3 hgrow3 hloc3; have HX := Lib.hid (And.intro hown3 (And.intro hgrow3 hloc3)); clear hown3 hgrow3 hloc3)
    go_ret
    obtain ⟨hown, hgrow, hloc⟩ := HX.out
    refine ⟨v3, rfl, hown, fun j hj => ?_, (box_below wr _).trans ((Chg.of_grown hgrow).below (Below.size (box_below wr _)) fun k hk e => by cases e)⟩
    rcases hloc with e | ⟨g, e, hg⟩
    · rw [e] at hj
      cases hj
    · rw [e] at hj
      cases hj
      exact Nat.le_trans (Below.size (box_below wr _)) hg
theorem app_new {w W2 w3 : World} {v v3 : Value} (hb : Below w.heap.size w W2) (hn : ∀ j, v.ownBlock = some j → w.heap.size ≤ j) (hg : W2.grownBy w3 v.ownBlock) (hloc : v3.ownBlock = v.ownBlock ∨ ∃ g, v3.ownBlock = some g ∧ W2.heap.size ≤ g) : Below w.heap.size w w3 ∧ ∀ j, v3.ownBlock = some j → w.heap.size ≤ j := by
  refine ⟨hb.trans ((Chg.of_grown hg).below hb.size fun k hk e => ?_), fun j hj => ?_⟩
  · have := hn k e.symm
    omega
  · rcases hloc with e | ⟨g, e, hg⟩
    · exact hn j (by rw [← e]; exact hj)
    · rw [e] at hj
      cases hj
      exact Nat.le_trans hb.size hg
def REconO : Obj := .cells #[.slice none 0 0, .slice none 0 0, .slice none 0 0, .slice none 0 0] 108 (0, 0)
set_option maxRecDepth 100000 in
set_option maxHeartbeats 8000000 in
theorem renc0_calls {w : World} {b : Nat} (h : w.heap[b]? = some REconO) : Calls Tryz.prog 47 #[.pointer (some ⟨b, 0, none⟩)] w (NewR w [0, 0, 0, 0]) := by
  obtain ⟨i0, hi, hz0, hz1, hz2⟩ := info_parts (show (Tryz.prog.info? 5).map (fun i => (i.zero, i.size, i.bytes)) = some (some (.int .u8 0), 1, 1) by kernel_rfl)
  have H := Lib.hid h
  clear h
  have c0 := cell_of H.out (i := 0) (v := .slice none 0 0) rfl
  go_enter Tryz.func47, Tryz.ntmps47
  go_wp2_with fail
  refine (rnum0_calls _).mono ?_
  rintro e w1 ⟨v, rfl, hv, hvn, hb⟩
  obtain ⟨p1, k1, rfl, -⟩ := own_cap0 hv
  have H1 := Lib.hid (And.intro hv (And.intro hvn hb))
  clear hv hvn hb c0
  have c0 := cell_of ((H1.out.2.2.block _ (lt_of_block H.out)).trans H.out) (i := 0) (v := .slice none 0 0) rfl
  have c1 := cell_of ((H1.out.2.2.block _ (lt_of_block H.out)).trans H.out) (i := 1) (v := .slice none 0 0) rfl
  go_wp2_with fail
  go_loopw [3, 4] (fun v i wr => v = .slice p1 1 k1 ∧ i = .int .i64 0 ∧ wr = w1) (fun _ _ _ => 0)
  case atStart => exact ⟨rfl, rfl, rfl⟩
  case round =>
    obtain ⟨rfl, rfl, hwr⟩ := hrel
    obtain rfl : w1 = wr := hwr.symm
    go_wp2_with fail
    refine (rnum0_calls _).mono ?_
    rintro e u1 ⟨v, rfl, hv, hvn, hb⟩
    obtain ⟨q1, l1, rfl, -⟩ := own_cap0 hv
    have hown := ownB_far H1.out.1 hb
    have hbb := H1.out.2.2.trans (hb.mono H1.out.2.2.size)
    have hhas := hv.has
    clear hv hvn hb c1 c0
    go_wp2_with (at_builtin; refine wpList_app _ rfl (.tmp 52) (.tmp 58) 39 rfl 5 i0 (.int .u8 0) 1 1 Tryz.underlying39 hi hz0 hz1 hz2 rfl (by decide) (.slice p1 1 k1) 1 _ rfl hown (.slice q1 1 l1) 1 _ rfl hhas (bytesV_one _) (by decide) (by decide) ?_; intro v3 w3 hown3 hgrow3 hloc3; have HX := Lib.hid (And.intro (app_new hbb H1.out.2.1 hgrow3 hloc3) hown3); obtain ⟨p2, k2, rfl⟩ := OwnR.shape hown3; have H2 := Lib.hid (show OwnB w3 5 (.slice p2 2 k2) [0, 0] ∧ (∀ j, (Value.slice p2 2 k2).ownBlock = some j → w.heap.size ≤ j) ∧ Below w.heap.size w w3 from ⟨HX.out.2, HX.out.1.2, HX.out.1.1⟩); clear hown3 hgrow3 hloc3 hown hhas hbb HX)
    obtain ⟨w2, hw2⟩ : ∃ x, x = w3 := ⟨w3, rfl⟩
    rw [← hw2] at H2 ⊢
    clear hw2
    have c1 := cell_of ((H2.out.2.2.block _ (lt_of_block H.out)).trans H.out) (i := 1) (v := .slice none 0 0) rfl
    have c2 := cell_of ((H2.out.2.2.block _ (lt_of_block H.out)).trans H.out) (i := 2) (v := .slice none 0 0) rfl
    go_wp2_with fail
    go_loopw [3, 5] (fun v i wr => v = .slice p2 2 k2 ∧ i = .int .i64 0 ∧ wr = w2) (fun _ _ _ => 0)
    case atStart => exact ⟨rfl, rfl, rfl⟩
    case round =>
      obtain ⟨rfl, rfl, hwr⟩ := hrel
      obtain rfl : w2 = wr := hwr.symm
      go_wp2_with fail
      refine (rnum0_calls _).mono ?_
      rintro e u2 ⟨v, rfl, hv, hvn, hb⟩
      obtain ⟨q2, l2, rfl, -⟩ := own_cap0 hv
      have hown := ownB_far H2.out.1 hb
      have hbb := H2.out.2.2.trans (hb.mono H2.out.2.2.size)
      have hhas := hv.has
      clear hv hvn hb c2 c1
      go_wp2_with (at_builtin; refine wpList_app _ rfl (.tmp 105) (.tmp 111) 39 rfl 5 i0 (.int .u8 0) 1 1 Tryz.underlying39 hi hz0 hz1 hz2 rfl (by decide) (.slice p2 2 k2) 2 _ rfl hown (.slice q2 1 l2) 1 _ rfl hhas (bytesV_one _) (by decide) (by decide) ?_; intro v3 w3 hown3 hgrow3 hloc3; have HX := Lib.hid (And.intro (app_new hbb H2.out.2.1 hgrow3 hloc3) hown3); obtain ⟨p3, k3, rfl⟩ := OwnR.shape hown3; have H3 := Lib.hid (show OwnB w3 5 (.slice p3 3 k3) [0, 0, 0] ∧ (∀ j, (Value.slice p3 3 k3).ownBlock = some j → w.heap.size ≤ j) ∧ Below w.heap.size w w3 from ⟨HX.out.2, HX.out.1.2, HX.out.1.1⟩); clear hown3 hgrow3 hloc3 hown hhas hbb HX)
      obtain ⟨w3, hw3⟩ : ∃ x, x = w3 := ⟨w3, rfl⟩
      rw [← hw3] at H3 ⊢
      clear hw3
      have c2 := cell_of ((H3.out.2.2.block _ (lt_of_block H.out)).trans H.out) (i := 2) (v := .slice none 0 0) rfl
      have c3 := cell_of ((H3.out.2.2.block _ (lt_of_block H.out)).trans H.out) (i := 3) (v := .slice none 0 0) rfl
      go_wp2_with fail
      go_loopw [3, 8] (fun v i wr => v = .slice p3 3 k3 ∧ i = .int .i64 0 ∧ wr = w3) (fun _ _ _ => 0)
      case atStart => exact ⟨rfl, rfl, rfl⟩
      case round =>
        obtain ⟨rfl, rfl, hwr⟩ := hrel
        obtain rfl : w3 = wr := hwr.symm
        go_wp2_with fail
        refine (rnum0_calls _).mono ?_
        rintro e u3 ⟨v, rfl, hv, hvn, hb⟩
        obtain ⟨q3, l3, rfl, -⟩ := own_cap0 hv
        have hown := ownB_far H3.out.1 hb
        have hbb := H3.out.2.2.trans (hb.mono H3.out.2.2.size)
        have hhas := hv.has
        clear hv hvn hb c3 c2
        go_wp2_with (at_builtin; refine wpList_app _ rfl (.tmp 170) (.tmp 176) 39 rfl 5 i0 (.int .u8 0) 1 1 Tryz.underlying39 hi hz0 hz1 hz2 rfl (by decide) (.slice p3 3 k3) 3 _ rfl hown (.slice q3 1 l3) 1 _ rfl hhas (bytesV_one _) (by decide) (by decide) ?_; intro v3 w3 hown3 hgrow3 hloc3; have HX := Lib.hid (And.intro (app_new hbb H3.out.2.1 hgrow3 hloc3) hown3); obtain ⟨p4, k4, rfl⟩ := OwnR.shape hown3; have H4 := Lib.hid (show OwnB w3 5 (.slice p4 4 k4) [0, 0, 0, 0] ∧ (∀ j, (Value.slice p4 4 k4).ownBlock = some j → w.heap.size ≤ j) ∧ Below w.heap.size w w3 from ⟨HX.out.2, HX.out.1.2, HX.out.1.1⟩); clear hown3 hgrow3 hloc3 hown hhas hbb HX)
        obtain ⟨w4, hw4⟩ : ∃ x, x = w3 := ⟨w3, rfl⟩
        rw [← hw4] at H4 ⊢
        clear hw4
        have c3 := cell_of ((H4.out.2.2.block _ (lt_of_block H.out)).trans H.out) (i := 3) (v := .slice none 0 0) rfl
        go_wp2_with fail
        go_loopw [3, 12] (fun v i wr => v = .slice p4 4 k4 ∧ i = .int .i64 0 ∧ wr = w4) (fun _ _ _ => 0)
        case atStart => exact ⟨rfl, rfl, rfl⟩
        case round =>
          obtain ⟨rfl, rfl, hwr⟩ := hrel
          obtain rfl : w4 = wr := hwr.symm
          go_wp2_with fail
          go_ret
          exact ⟨_, rfl, H4.out.1, H4.out.2.1, H4.out.2.2⟩
end Go.Proofs.YtogdfkilhpkloaaGreatDoor

namespace Go.Proofs.YtogdfkilhpkloaaGreatDoor
open Go.RowKit Go.Sat Go.Maps

def Num0T (A : Nat → Prop) (w : World) (r : Nat) (l : Bs) (e : Ending) (w' : World) : Prop := e = .returned (.tuple #[]) ∧ RdY A w' r ⟨l, false⟩ ∧ Chg (fun k => k = r) w w'
set_option maxRecDepth 100000 in
set_option maxHeartbeats 4000000 in
theorem r13rows_0 {A : Nat → Prop} {w : World} {b r : Nat} {l : Bs} (h : RdY A w r ⟨0 :: l, false⟩) : Calls Tryz.prog 320 #[.pointer (some ⟨b, 0, none⟩), .pointer (some ⟨r, 0, none⟩)] w (Num0T A w r l) := by
  have hn := rrnum_calls h
  unfold NumY at hn
  rw [num0] at hn
  have Hn := Lib.hid hn
  clear hn h
  go_enter Tryz.func320, Tryz.ntmps320
  go_wp2_with fail
  refine Hn.out.mono ?_
  rintro e w2 ⟨rfl, hr, hc⟩
  have HE := Lib.hid (show Num0T A w r l (.returned (.tuple #[])) w2 from ⟨rfl, hr, hc⟩)
  clear hr hc Hn
  go_wp2_with fail
  go_loopw [5] (fun i wr => i = .int .i64 0 ∧ wr = w2) (fun _ _ => 0)
  case atStart => exact ⟨rfl, rfl⟩
  case round =>
    obtain ⟨rfl, hwr⟩ := hrel
    obtain rfl := hwr.symm
    go_wp2_with fail
    go_end0
    exact HE.out
set_option maxRecDepth 100000 in
set_option maxHeartbeats 4000000 in
theorem r13sess_0 {A : Nat → Prop} {w : World} {b r : Nat} {l : Bs} (h : RdY A w r ⟨0 :: l, false⟩) : Calls Tryz.prog 321 #[.pointer (some ⟨b, 0, none⟩), .pointer (some ⟨r, 0, none⟩)] w (Num0T A w r l) := by
  have hn := rrnum_calls h
  unfold NumY at hn
  rw [num0] at hn
  have Hn := Lib.hid hn
  clear hn h
  go_enter Tryz.func321, Tryz.ntmps321
  go_wp2_with fail
  refine Hn.out.mono ?_
  rintro e w2 ⟨rfl, hr, hc⟩
  have HE := Lib.hid (show Num0T A w r l (.returned (.tuple #[])) w2 from ⟨rfl, hr, hc⟩)
  clear hr hc Hn
  go_wp2_with fail
  go_loopw [5] (fun i wr => i = .int .i64 0 ∧ wr = w2) (fun _ _ => 0)
  case atStart => exact ⟨rfl, rfl⟩
  case round =>
    obtain ⟨rfl, hwr⟩ := hrel
    obtain rfl := hwr.symm
    go_wp2_with fail
    go_end0
    exact HE.out
set_option maxRecDepth 100000 in
set_option maxHeartbeats 4000000 in
theorem r13trans_0 {A : Nat → Prop} {w : World} {b r : Nat} {l : Bs} (h : RdY A w r ⟨0 :: l, false⟩) : Calls Tryz.prog 322 #[.pointer (some ⟨b, 0, none⟩), .pointer (some ⟨r, 0, none⟩)] w (Num0T A w r l) := by
  have hn := rrnum_calls h
  unfold NumY at hn
  rw [num0] at hn
  have Hn := Lib.hid hn
  clear hn h
  go_enter Tryz.func322, Tryz.ntmps322
  go_wp2_with fail
  refine Hn.out.mono ?_
  rintro e w2 ⟨rfl, hr, hc⟩
  have HE := Lib.hid (show Num0T A w r l (.returned (.tuple #[])) w2 from ⟨rfl, hr, hc⟩)
  clear hr hc Hn
  go_wp2_with fail
  go_loopw [5] (fun i wr => i = .int .i64 0 ∧ wr = w2) (fun _ _ => 0)
  case atStart => exact ⟨rfl, rfl⟩
  case round =>
    obtain ⟨rfl, hwr⟩ := hrel
    obtain rfl := hwr.symm
    go_wp2_with fail
    go_end0
    exact HE.out
/-- What stays while an economy of nothing is decoded. -/
structure R13S (w : World) (l : Bs) (W : World) : Prop where
  rd : RdY (fun k => k < w.heap.size) W w.heap.size ⟨l, false⟩
  eco : W.heap[w.heap.size + 1]? = some REconO
  bel : Below w.heap.size w W
theorem R13S.next {w W W' : World} {l l' : Bs} (h : R13S w l W) (hr : RdY (fun k => k < w.heap.size) W' w.heap.size ⟨l', false⟩) (hc : Chg (fun k => k = w.heap.size) W W') : R13S w l' W' :=
  ⟨hr, (hc.block _ (lt_of_block h.eco) (by omega)).trans h.eco, chgOne h.bel hc (Nat.le_refl _)⟩
set_option maxRecDepth 100000 in
set_option maxHeartbeats 4000000 in
/-- An economy of nothing is decoded. -/
theorem r13dec_0 {w : World} {p : Option Addr} {c : Nat} (hx : HasB w (.slice p 4 c) [0, 0, 0, 0]) (hc : 4 ≤ c) : Calls Tryz.prog 250 #[.slice p 4 c] w fun e w' => e = .returned (.tuple #[.pointer (some ⟨w.heap.size + 1, 0, none⟩), .int .i64 0]) ∧ w'.heap[w.heap.size + 1]? = some REconO ∧ Below w.heap.size w w' := by
  have hb1 := box_below w (.cells #[.slice p 4 c, .bool false] 416)
  have hn1 := new_block w (.cells #[.slice p 4 c, .bool false] 416)
  have hs1 : (w.alloc (.cells #[.slice p 4 c, .bool false] 416)).heap.size = w.heap.size + 1 := by simp
  have HS0 := Lib.hid (show R13S w [0, 0, 0, 0] ((w.alloc (.cells #[.slice p 4 c, .bool false] 416)).alloc REconO) from by
    have hb2 := box_below (w.alloc (.cells #[.slice p 4 c, .bool false] 416)) REconO
    have hn2 := new_block (w.alloc (.cells #[.slice p 4 c, .bool false] 416)) REconO
    rw [hs1] at hb2 hn2
    have hb := hb1.trans (hb2.mono (Nat.le_succ _))
    have hlt : ∀ k, (Value.slice p 4 c).ownBlock = some k → k < w.heap.size := fun k hk => by
      obtain ⟨_, p', c', e, h0, hcell⟩ := hx
      cases e
      cases p with
      | none => cases hk
      | some a =>
        cases hk
        have := hcell a rfl 0 (.int .u8 0) rfl
        rw [show (a.add (0 * 1)) = a.add 0 from rfl] at this
        have h2 := World.block_lt_of_cell? _ _ this
        rwa [add_block] at h2
    exact ⟨⟨p, 4, c, ⟨(hb2.block _ (by omega)).trans hn1, HasB.below hx hb, hc, fun e => by have := hlt _ e; omega, by decide, fun e => by cases e⟩, hlt⟩, hn2, hb⟩)
  clear hb1 hn1 hs1
  have HC := Lib.hid (And.intro hx hc)
  clear hx hc
  unfold REconO at HS0
  go_enter Tryz.func250, Tryz.ntmps250
  go_wp2_with fail
  refine (r13rows_0 HS0.out.rd).mono ?_
  rintro e w3 ⟨rfl, hr, hc⟩
  have HS1 := Lib.hid (HS0.out.next hr hc)
  clear hr hc HS0
  go_wp2_with fail
  refine (r13sess_0 HS1.out.rd).mono ?_
  rintro e w4 ⟨rfl, hr, hc⟩
  have HS2 := Lib.hid (HS1.out.next hr hc)
  clear hr hc HS1
  go_wp2_with fail
  refine (r13trans_0 HS2.out.rd).mono ?_
  rintro e w5 ⟨rfl, hr, hc⟩
  have HS3 := Lib.hid (HS2.out.next hr hc)
  clear hr hc HS2
  have hn := rrnum_calls HS3.out.rd
  unfold NumY at hn
  rw [num0] at hn
  have Hn := Lib.hid hn
  clear hn
  go_wp2_with fail
  refine Hn.out.mono ?_
  rintro e w6 ⟨rfl, hr, hc⟩
  have HS4 := Lib.hid (HS3.out.next hr hc)
  clear hr hc HS3 Hn
  have HW := Lib.hid (rrwhole_calls HS4.out.rd)
  rw [show (⟨[], false⟩ : Rd).whole = true from rfl] at HW
  go_wp2_with fail
  go_loopw [7] (fun i wr => i = .int .i64 0 ∧ wr = w6) (fun _ _ => 0)
  case atStart => exact ⟨rfl, rfl⟩
  case round =>
    obtain ⟨rfl, hwr⟩ := hrel
    obtain rfl := hwr.symm
    go_wp2_with fail
    refine HW.out.mono ?_
    rintro e w7 ⟨rfl, hw7⟩
    obtain rfl := hw7.symm
    clear HW
    go_wp2_with fail
    go_ret2
    exact ⟨rfl, HS4.out.eco, HS4.out.bel⟩
set_option maxRecDepth 100000 in
set_option maxHeartbeats 4000000 in
theorem r13keys_0 {w : World} {b : Nat} (h : w.heap[b]? = some REconO) : Calls Tryz.prog 251 #[.pointer (some ⟨b, 0, none⟩)] w fun e w' => e = .returned (.slice none 0 0) ∧ w' = w := by
  have c0 := cell_of h (i := 0) (v := .slice none 0 0) rfl
  clear h
  go_enter Tryz.func251, Tryz.ntmps251
  go_wp2_with fail
  go_loopw [3, 4] (fun v i wr => v = .slice none 0 0 ∧ i = .int .i64 0 ∧ wr = w) (fun _ _ _ => 0)
  case atStart => exact ⟨rfl, rfl, rfl⟩
  case round =>
    obtain ⟨rfl, rfl, hwr⟩ := hrel
    obtain rfl := hwr.symm
    go_wp2_with fail
    go_ret
    exact ⟨rfl, rfl⟩
set_option maxRecDepth 100000 in
set_option maxHeartbeats 4000000 in
theorem r15image_0 {w : World} {p : Option Addr} {c : Nat} (a b : ByteArray) (hx : HasB w (.slice p 4 c) [0, 0, 0, 0]) (hc : 4 ≤ c) : Calls Tryz.prog 204 #[.agg #[.string a, .string b], .slice p 4 c] w fun e w' => ∃ eb, e = .returned (.tuple #[.pointer (some ⟨eb, 0, none⟩), .int .i64 0]) ∧ w'.heap[eb]? = some REconO ∧ w.heap.size ≤ eb ∧ Below w.heap.size w w' := by
  have hb := box_below w (.cells #[.string a, .string b] 27)
  have HD := Lib.hid (r13dec_0 (HasB.below hx hb) hc)
  have HB := Lib.hid hb
  clear hb hx hc
  go_enter Tryz.func204, Tryz.ntmps204
  go_wp2_with fail
  refine HD.out.mono ?_
  rintro e w2 ⟨rfl, he, hb⟩
  have H2 := Lib.hid (And.intro he (HB.out.trans (hb.mono HB.out.size)))
  have Hge := Lib.hid HB.out.size
  clear he hb HD HB
  have HK := Lib.hid (r13keys_0 H2.out.1)
  generalize (w.alloc (.cells #[.string a, .string b] 27)).heap.size = g at *
  go_wp2_with fail
  refine HK.out.mono ?_
  rintro e w3 ⟨rfl, hw3⟩
  obtain rfl := hw3.symm
  clear HK hw3
  go_wp2_with fail
  go_loopw [9] (fun i wr => i = .int .i64 0 ∧ wr = w2) (fun _ _ => 0)
  case atStart => exact ⟨rfl, rfl⟩
  case round =>
    obtain ⟨rfl, hwr⟩ := hrel
    obtain rfl := hwr.symm
    go_wp2_with fail
    go_ret2
    exact ⟨g + 1, rfl, H2.out.1, by have := Hge.out; omega, H2.out.2⟩
end Go.Proofs.YtogdfkilhpkloaaGreatDoor

namespace Go.Proofs.YtogdfkilhpkloaaGreatDoor
open Go.RowKit Go.Sat Go.Maps

/-- A Writer that is new since B. -/
def WrBJ (B : Nat) (w : World) (k : Nat) (l : Bs) : Prop := ∃ v, WrIn w k v l ∧ B ≤ k ∧ (∀ j, v.ownBlock = some j → B ≤ j) ∧ B ≤ w.heap.size
section
variable {B : Nat} {w w1 : World} {k : Nat} {l : Bs}

theorem WrBJ.keep (h : WrBJ B w k l) (hb : Below w.heap.size w w1) : WrBJ B w1 k l := let ⟨v, h1, h2, h3, h4⟩ := h; ⟨v, h1.keep hb, h2, h3, Nat.le_trans h4 hb.size⟩
end

/-- A row of one's own, new since. -/
def RowNew (w : World) (b : Bs) (e : Ending) (w' : World) : Prop := ∃ v, e = .returned v ∧ OwnB w' 5 v b ∧ (∀ k, v.ownBlock = some k → w.heap.size ≤ k) ∧ Below w.heap.size w w'

section
variable {w w1 : World} {j d : Nat} {pre : ByteArray} {D : DiskM} {M : JouM} {F : Nat → Prop}
end

end Go.Proofs.YtogdfkilhpkloaaGreatDoor

namespace Go.Proofs.YtogdfkilhpkloaaGreatDoor
open Go.RowKit Go.Sat Go.Maps

theorem xor_range (a b : Int) (h1 : 0 ≤ a) (h2 : a < 4294967296) (h3 : 0 ≤ b) (h4 : b < 4294967296) : 0 ≤ bits .xor .u32 a b ∧ bits .xor .u32 a b < 4294967296 := by
  rw [u32_xor a b h1 h2 h3 h4]
  have : a.toNat ^^^ b.toNat < 2 ^ 32 := Nat.xor_lt_two_pow (by omega) (by omega)
  omega

theorem and_one (z : Int) (h1 : 0 ≤ z) (h2 : z < 4294967296) : bits .and .u32 z 1 = 0 ∨ bits .and .u32 z 1 = 1 := by
  rw [u32_and z 1 h1 h2 (by decide) (by decide)]
  have : z.toNat &&& (1 : Int).toNat = z.toNat % 2 := Nat.and_one_is_mod _
  rw [this]
  omega

theorem bitF_one {z : Int} (h : bits .and .u32 z 1 = 1) : bitF z = bits .xor .u32 (z / 2) 3988292384 := by
  unfold bitF
  rw [h]
  congr 1

theorem bitF_zero {z : Int} (h1 : 0 ≤ z) (h2 : z < 4294967296) (h : bits .and .u32 z 1 = 0) : bitF z = z / 2 := by
  unfold bitF
  rw [h]
  have e : bits .and .u32 3988292384 (-0 % 4294967296) = 0 := by decide
  rw [e, u32_xor (z / 2) 0 (by omega) (by omega) (by decide) (by decide)]
  have : (z / 2).toNat ^^^ (0 : Int).toNat = (z / 2).toNat := Nat.xor_zero _
  rw [this]
  omega

theorem bitF_range {z : Int} (h1 : 0 ≤ z) (h2 : z < 4294967296) : 0 ≤ bitF z ∧ bitF z < 4294967296 := by
  rcases and_one z h1 h2 with h | h
  · rw [bitF_zero h1 h2 h]; omega
  · rw [bitF_one h]; exact xor_range _ _ (by omega) (by omega) (by decide) (by decide)

theorem iterF_range {z : Int} (h1 : 0 ≤ z) (h2 : z < 4294967296) : ∀ k, 0 ≤ iterF k z ∧ iterF k z < 4294967296
  | 0 => ⟨h1, h2⟩
  | k + 1 => bitF_range (iterF_range h1 h2 k).1 (iterF_range h1 h2 k).2

theorem byteF_range {z : Int} (h1 : 0 ≤ z) (h2 : z < 4294967296) (c : UInt8) : 0 ≤ byteF z c ∧ byteF z c < 4294967296 := by
  have hc : c.toNat < 256 := c.toNat_lt
  have := xor_range z (c.toNat : Int) h1 h2 (by omega) (by omega)
  exact iterF_range this.1 this.2 8

theorem rowF_range {z : Int} (h1 : 0 ≤ z) (h2 : z < 4294967296) (l : Bs) : 0 ≤ rowF z l ∧ rowF z l < 4294967296 := by
  induction l generalizing z with
  | nil => exact ⟨h1, h2⟩
  | cons c r ih => exact ih (byteF_range h1 h2 c).1 (byteF_range h1 h2 c).2

set_option maxRecDepth 100000 in
set_option maxHeartbeats 4000000 in
theorem rsum_calls {w : World} {p : Option Addr} {m c : Nat} {l : Bs} (hx : HasB w (.slice p m c) l) (hl : l.length ≤ 140737488355328) :
    Calls Tryz.prog 336 #[.slice p m c] w (fun e w' => e = .returned (.int .u32 (sumF l)) ∧ w' = w) := by
  have hm : m = l.length := (bytes_in hx).1
  have Hat := Lib.hid hx.at
  have Hm := Lib.hid hm.symm
  have hmm : m ≤ 140737488355328 := by omega
  clear hx hm hl
  go_enter Tryz.func336, Tryz.ntmps336
  go_wp2_with fail
  go_loop [3, 4] (fun v i => ∃ j : Nat, j ≤ m ∧ i = .int .i64 j ∧ v = .int .u32 (rowF 4294967295 (l.take j))) (fun _ i => m - (intOf i).toNat)
  case atStart => exact ⟨0, Nat.zero_le _, rfl, rfl⟩
  case round =>
    obtain ⟨j, hj, rfl, rfl⟩ := hrel
    by_cases hlj : j < m
    · have hljl : j < l.length := by rw [Hm.out]; exact hlj
      have Hbt := Lib.hid (rowF_take 4294967295 l hljl)
      rcases Hat.out with h | ⟨b2, o2, c2, e1, hcx⟩
      · rw [h] at hljl
        simp at hljl
      rw [Hm.out] at e1
      cases e1
      have hcb := hcx j _ (List.getElem?_eq_getElem hljl)
      have hry := rowF_range (z := 4294967295) (by decide) (by decide) (l.take j)
      generalize l[j] = cc at *
      generalize rowF 4294967295 (l.take j) = y at *
      have hcc : cc.toNat < 256 := cc.toNat_lt
      clear hcx
      go_wp2_with fail
      have HB := Lib.hid (show byteF y cc = iterF 8 (bits .xor .u32 y (cc.toNat : Int)) from rfl)
      have hz0r := xor_range y (cc.toNat : Int) hry.1 hry.2 (by omega) (by omega)
      generalize bits .xor .u32 y (cc.toNat : Int) = z0 at *
      go_loop [3, 5] (fun v i => ∃ q : Nat, q ≤ 8 ∧ i = .int .i64 q ∧ v = .int .u32 (iterF q z0)) (fun _ i => 8 - (intOf i).toNat)
      case atStart => exact ⟨0, Nat.zero_le _, rfl, rfl⟩
      case round =>
        obtain ⟨q, hq, rfl, rfl⟩ := hrel
        by_cases hlq : q < 8
        · have Hit := Lib.hid (show iterF (q + 1) z0 = bitF (iterF q z0) from rfl)
          have hrq := iterF_range hz0r.1 hz0r.2 q
          generalize iterF q z0 = z at *
          rcases and_one z hrq.1 hrq.2 with hb | hb
          · have Hbf := Lib.hid (bitF_zero hrq.1 hrq.2 hb)
            go_wp2_with fail
            go_round
            case rel => exact ⟨q + 1, by omega, by go_num, by rw [Hit.out, Hbf.out]⟩
            case measure => simp [intOf]; omega
          · have Hbf := Lib.hid (bitF_one hb)
            go_wp2_with fail
            go_round
            case rel => exact ⟨q + 1, by omega, by go_num, by rw [Hit.out, Hbf.out]⟩
            case measure => simp [intOf]; omega
        · have hq8 : q = 8 := by omega
          subst hq8
          go_wp2_with fail
          go_round
          case rel => exact ⟨j + 1, by omega, by go_num, by rw [Hbt.out, HB.out]⟩
          case measure => simp [intOf]; omega
    · have hjm : j = m := by omega
      have hlk : l.take j = l := List.take_of_length_le (by rw [Hm.out]; omega)
      rw [hlk]
      clear hlk
      have He := Lib.hid (show sumF l = bits .xor .u32 IntKind.u32.max (rowF 4294967295 l) from rfl)
      generalize rowF 4294967295 l = x at *
      go_wp2_with fail
      go_ret
      exact ⟨by rw [He.out]; rfl, rfl⟩
end Go.Proofs.YtogdfkilhpkloaaGreatDoor

namespace Go.Proofs.YtogdfkilhpkloaaGreatDoor
open Go.RowKit Go.Sat Go.Maps

/-- What a function hands back that lays its bytes anew, in a block of one's own. -/
def NewO (w : World) (l : Bs) (e : Ending) (w' : World) : Prop := ∃ v, e = .returned v ∧ OwnB w' 5 v l ∧ (∀ k, v.ownBlock = some k → w.heap.size ≤ k) ∧ Below w.heap.size w w'

theorem own_lit {w : World} (cs : Array Value) (l : Bs) (e : TypeId) (h : cs.toList = bytesV l) (n : Nat) (hn : n = l.length) (hm : n ≤ maxLen) : OwnB (w.alloc (.cells cs e)) e (.slice (some ⟨w.heap.size, 0, none⟩) n n) l := by
  subst hn
  refine ⟨by rw [bytesV_len, Nat.mul_one], .inr ⟨_, _, cs, rfl, new_block w _, Nat.le_refl _, ?_, ?_, ?_⟩⟩
  · exact hm
  · have := congrArg List.length h
    rw [bytesV_len] at this
    simpa using Nat.le_of_eq this.symm
  · rw [h, ← bytesV_len l, Nat.mul_one, List.take_length]

set_option maxRecDepth 100000 in
set_option maxHeartbeats 4000000 in
theorem rfour_calls {w : World} (v : Nat) (h1 : v < 4294967296) :
    Calls Tryz.prog 335 #[.int .u32 (v : Int)] w (NewO w (fourN v)) := by
  have hfin : NewO w (fourN v) (.returned (.slice (some ⟨w.heap.size, 0, none⟩) 4 4)) (w.alloc (.cells #[.int .u8 ((v : Int) % 256), .int .u8 ((v : Int) / 256 % 256), .int .u8 ((v : Int) / 65536 % 256), .int .u8 ((v : Int) / 16777216)] 5)) :=
    ⟨_, rfl, own_lit _ (fourN v) _ (by
      simp only [fourN, bytesV, List.map_cons, List.map_nil, UInt8.toNat_ofNat']
      have e1 : (v : Int) / 16777216 = ((v / 16777216 % 256 : Nat) : Int) := by omega
      have e2 : (v : Int) % 256 = ((v % 256 : Nat) : Int) := by omega
      have e3 : (v : Int) / 256 % 256 = ((v / 256 % 256 : Nat) : Int) := by omega
      have e4 : (v : Int) / 65536 % 256 = ((v / 65536 % 256 : Nat) : Int) := by omega
      rw [e1, e2, e3, e4]) 4 rfl (by decide), fun k hk => (by cases hk; exact Nat.le_refl _), (Below.refl _ _).alloc (Nat.le_refl _) _⟩
  have Hfin := Lib.hid hfin
  clear hfin
  go_enter Tryz.func335, Tryz.ntmps335
  go_wp2_with fail
  go_ret
  exact Hfin.out

set_option maxRecDepth 100000 in
set_option maxHeartbeats 4000000 in
theorem rfromFour_calls {w : World} {b o n c : Nat} {a0 a1 a2 a3 : UInt8} (hn : 4 ≤ n) (h0 : w.cell? ⟨b, o, none⟩ = some (.int .u8 (a0.toNat : Int))) (h1 : w.cell? ⟨b, o + 1, none⟩ = some (.int .u8 (a1.toNat : Int)))
    (h2 : w.cell? ⟨b, o + 2, none⟩ = some (.int .u8 (a2.toNat : Int))) (h3 : w.cell? ⟨b, o + 3, none⟩ = some (.int .u8 (a3.toNat : Int))) :
    Calls Tryz.prog 406 #[.slice (some ⟨b, o, none⟩) n c] w (fun e w' => e = .returned (.int .u32 (ofFour a0 a1 a2 a3 : Int)) ∧ ∃ q, w' = w.drewN q) := by
  have l0 := a0.toNat_lt
  have l1 := a1.toNat_lt
  have l2 := a2.toNat_lt
  have l3 := a3.toNat_lt
  have i0 : (0 : Int) < (n : Int) := by omega
  have i1 : (1 : Int) < (n : Int) := by omega
  have i2 : (2 : Int) < (n : Int) := by omega
  have i3 : (3 : Int) < (n : Int) := by omega
  have hF := or_four l0 l1 l2 l3
  have HF := Lib.hid (show bits .or .u32 (bits .or .u32 (bits .or .u32 (a0.toNat : Int) ((a1.toNat : Int) * 256)) ((a2.toNat : Int) * 65536)) ((a3.toNat : Int) * 16777216) = (ofFour a0 a1 a2 a3 : Int) from hF)
  clear hF
  generalize ofFour a0 a1 a2 a3 = r at *
  generalize a0.toNat = x0 at *
  generalize a1.toNat = x1 at *
  generalize a2.toNat = x2 at *
  generalize a3.toNat = x3 at *
  go_enter Tryz.func406, Tryz.ntmps406
  go_wp2_with fail
  go_quiet (fail)
  go_wp2
  go_ret
  exact ⟨by rw [← HF.out]; rfl, _, rfl⟩
theorem rfour_at {w : World} {p : Option Addr} {n c : Nat} {b : Bs} (h : HasB w (.slice p n c) b) (h4 : 4 ≤ b.length) :
    Calls Tryz.prog 406 #[.slice p n c] w (fun e w' => e = .returned (.int .u32 (fourAt b : Int)) ∧ ∃ q, w' = w.drewN q) := by
  have h1 := h.at
  obtain ⟨p', c', e⟩ := h.slice
  cases e
  rcases h1 with e | ⟨g, o, c2, e, hc⟩
  · rw [e] at h4
    simp at h4
  · cases e
    have hb : ∀ i, i < b.length → b[i]? = some (b.getD i 0) := fun i hi => by simp [List.getD, List.getElem?_eq_getElem hi]
    exact rfromFour_calls h4 (by simpa using hc 0 _ (hb 0 (by omega))) (hc 1 _ (hb 1 (by omega))) (hc 2 _ (hb 2 (by omega))) (hc 3 _ (hb 3 (by omega)))

end Go.Proofs.YtogdfkilhpkloaaGreatDoor

namespace Go.Proofs.YtogdfkilhpkloaaGreatDoor
open Go.RowKit Go.Sat Go.Maps

theorem ownB_keep {w w' : World} {v : Value} {l : Bs} (h : OwnB w 5 v l) (hb : Below w.heap.size w w') : OwnB w' 5 v l := OwnB.keep h fun k hk => hb.block k (OwnR.lt h hk)

set_option maxRecDepth 100000 in
set_option maxHeartbeats 4000000 in
theorem renc_calls {w : World} {p : Option Addr} {m c : Nat} {l : Bs} (hx : HasB w (.slice p m c) l) (hl : l.length ≤ 1048576) :
    Calls Tryz.prog 265 #[.slice p m c] w fun e w' => ∃ v, e = .returned (.tuple #[v, .int .i64 0]) ∧ OwnB w' 5 v (frameN l) ∧ (∀ k, v.ownBlock = some k → w.heap.size ≤ k) ∧ Below w.heap.size w w' := by
  have hml : m = l.length := (bytes_in hx).1
  have hm : m ≤ 1048576 := by omega
  have Hx := Lib.hid hx
  have Hml := Lib.hid hml
  have Hf1 := Lib.hid (rfour_calls (w := w) m (by omega))
  obtain ⟨i0, hi, hz0, hz1, hz2⟩ := info_parts (show (Tryz.prog.info? 5).map (fun i => (i.zero, i.size, i.bytes)) = some (some (.int .u8 0), 1, 1) by kernel_rfl)
  clear hx hml hl
  go_enter Tryz.func265, Tryz.ntmps265
  go_wp2_with fail
  refine Hf1.out.mono ?_
  rintro e w1 ⟨v1, rfl, ho1, hn1, hb1⟩
  obtain ⟨p1, c1, rfl⟩ := OwnR.shape ho1
  have Ho1 := Lib.hid (And.intro ho1 (And.intro hn1 hb1))
  have Hs1 := Lib.hid (rsum_calls (p := p1) (m := 4) (c := c1) ho1.has (by rw [show (fourN m).length = 4 from rfl]; decide))
  rw [show (fourN m).length = 4 from rfl]
  clear ho1 hn1 hb1 Hf1
  go_wp2_with fail
  refine Hs1.out.mono ?_
  rintro e w2 ⟨rfl, rfl⟩
  rw [sumF_nat]
  have Hf2 := Lib.hid (rfour_calls (w := w2) (sumN (fourN m)) (sumN_lt _))
  have hhd : headN l.length = fourN m ++ fourN (sumN (fourN m)) := by rw [← Hml.out]; rfl
  have Hhd := Lib.hid hhd
  generalize sumN (fourN m) = q at *
  clear hhd Hs1
  go_wp2_with fail
  refine Hf2.out.mono ?_
  rintro e w3 ⟨v2, rfl, ho2, hn2, hb2⟩
  obtain ⟨p2, c2, rfl⟩ := OwnR.shape ho2
  have X3 := Lib.hid (Ho1.out.2.2.trans (hb2.mono Ho1.out.2.2.size))
  have hown1 : OwnR w3 5 1 (.slice p1 4 c1) 4 (bytesV (fourN m)) := ownB_keep Ho1.out.1 hb2
  have Hown1 := Lib.hid hown1
  have H2 := Lib.hid (show Holds w3 1 (.slice p2 4 c2) 4 (bytesV (fourN q)) from ho2.has)
  have Hxs := Lib.hid (show ∀ W, Below w.heap.size w W → Holds W 1 (.slice p m c) m (bytesV l) from fun W hb => by
    have h := Hx.out.below hb
    unfold HasB at h
    rw [← Hml.out] at h
    exact h)
  rw [show (fourN q).length = 4 from rfl]
  clear ho2 hn2 hb2 hown1 Hf2
  go_wp2_with (first | (at_builtin; refine wpList_app w3 rfl (.tmp 12) (.tmp 15) 39 rfl 5 i0 (.int .u8 0) 1 1 Tryz.underlying39 hi hz0 hz1 hz2 rfl (by decide) (.slice p1 4 c1) 4 _ rfl Hown1.out (.slice p2 4 c2) 4 _ rfl H2.out (bytesV_one _) (by decide) (by decide) ?_; intro v12 w12 hown12 hgrow12 hloc12; have hX := X3.out.grown hgrow12 X3.out.size (fun j e => Ho1.out.2.1 j e); have hnew := own_ge (B := w.heap.size) hloc12 Ho1.out.2.1 X3.out.size; obtain ⟨p12, c12, rfl⟩ := OwnR.shape hown12; have X12 := Lib.hid (And.intro hX (And.intro hown12 hnew)); clear hown12 hgrow12 hloc12 hX hnew) | (at_builtin; refine wpList_app w12 rfl (.tmp 17) (.tmp 18) 39 rfl 5 i0 (.int .u8 0) 1 1 Tryz.underlying39 hi hz0 hz1 hz2 rfl (by decide) (.slice p12 8 c12) 8 _ rfl X12.out.2.1 (.slice p m c) m _ rfl (Hxs.out _ X12.out.1) (bytesV_one _) (by unfold maxLen; omega) (by omega) ?_; intro v13 w13 hown13 hgrow13 hloc13; have hX := X12.out.1.grown hgrow13 X12.out.1.size (fun j e => X12.out.2.2 j e); have hnew := own_ge (B := w.heap.size) hloc13 X12.out.2.2 X12.out.1.size; obtain ⟨p13, c13, rfl⟩ := OwnR.shape hown13; have X13 := Lib.hid (And.intro hX (And.intro hown13 hnew)); clear hown13 hgrow13 hloc13 hX hnew))
  have ho13 : OwnB w13 5 (.slice p13 (8 + m) c13) (headN l.length ++ l) := by
    unfold OwnB
    rw [Hhd.out, bytesV_app, bytesV_app, List.length_append, List.length_append, show (fourN m).length = 4 from rfl, show (fourN q).length = 4 from rfl, ← Hml.out]
    exact X13.out.2.1
  have hl13 : (headN l.length ++ l).length = 8 + m := by rw [List.length_append, head_len, ← Hml.out]
  have Hs2 := Lib.hid (rsum_calls (p := p13) (m := 8 + m) (c := c13) ho13.has (by rw [hl13]; omega))
  have Ho13 := Lib.hid ho13
  have Hl13 := Lib.hid hl13
  have Hfr := Lib.hid (show frameN l = (headN l.length ++ l) ++ fourN (sumN (headN l.length ++ l)) from rfl)
  clear ho13 hl13
  generalize headN l.length ++ l = Y at *
  refine Hs2.out.mono ?_
  rintro e w14 ⟨rfl, rfl⟩
  rw [sumF_nat]
  have Hf3 := Lib.hid (rfour_calls (w := w14) (sumN Y) (sumN_lt _))
  generalize sumN Y = q2 at *
  clear Hs2
  go_wp2_with fail
  refine Hf3.out.mono ?_
  rintro e w15 ⟨v15, rfl, ho15, hn15, hb15⟩
  obtain ⟨p15, c15, rfl⟩ := OwnR.shape ho15
  have X15 := Lib.hid (X13.out.1.trans (hb15.mono X13.out.1.size))
  have hown13 : OwnR w15 5 1 (.slice p13 (8 + m) c13) (8 + m) (bytesV Y) := by
    have h := ownB_keep Ho13.out hb15
    unfold OwnB at h
    rw [Hl13.out] at h
    exact h
  have Hown13 := Lib.hid hown13
  have H15 := Lib.hid (show Holds w15 1 (.slice p15 4 c15) 4 (bytesV (fourN q2)) from ho15.has)
  rw [show (fourN q2).length = 4 from rfl]
  clear ho15 hn15 hb15 hown13 Hf3
  go_wp2_with (at_builtin; refine wpList_app w15 rfl (.tmp 20) (.tmp 23) 39 rfl 5 i0 (.int .u8 0) 1 1 Tryz.underlying39 hi hz0 hz1 hz2 rfl (by decide) (.slice p13 (8 + m) c13) (8 + m) _ rfl Hown13.out (.slice p15 4 c15) 4 _ rfl H15.out (bytesV_one _) (by unfold maxLen; omega) (by omega) ?_; intro v16 w16 hown16 hgrow16 hloc16; have hX := X15.out.grown hgrow16 X15.out.size (fun j e => X13.out.2.2 j e); have hnew := own_ge (B := w.heap.size) hloc16 X13.out.2.2 X15.out.size; obtain ⟨p16, c16, rfl⟩ := OwnR.shape hown16; have X16 := Lib.hid (And.intro hX (And.intro hown16 hnew)); clear hown16 hgrow16 hloc16 hX hnew)
  go_ret2
  refine ⟨_, rfl, ?_, X16.out.2.2, X16.out.1⟩
  unfold OwnB
  rw [Hfr.out, List.length_append, Hl13.out, show (fourN q2).length = 4 from rfl, bytesV_app]
  exact X16.out.2.1
end Go.Proofs.YtogdfkilhpkloaaGreatDoor
