/- The document's disk: may, did, Used, Fuse, New, Read; where names stand. DiskKeeps: the walk. DiskNames: what the disk keeps (a plain law). DiskNames: the walk. The document's disk: Used, Read, List. The contract of keep.Clear: the walk. -/
import Derived.Test.YtdlbamhabenhgaaVD
import Derived.Test.YtdlbamhabenhgaaVE
namespace Go.Proofs.Ytdlbamhabenhgaa
open Go.RowKit Go.Sat Go.Maps

/-! ### Where names stand -/
section
variable {α : Type}
theorem key_ne {n m : Bs} (h : n ≠ m) : (n == m) = false := by simpa using h

theorem get_cons (n m : Bs) (a : α) (r : List (Bs × α)) : Sat.get n ((m, a) :: r) = if m = n then some a else Sat.get n r := by
  unfold Sat.get
  rw [List.find?_cons]
  by_cases e : m = n
  · rw [if_pos e]
    simp [e]
  · rw [if_neg e]
    simp [key_ne e]

theorem del_cons (n m : Bs) (a : α) (r : List (Bs × α)) : del n ((m, a) :: r) = if m = n then del n r else (m, a) :: del n r := by
  unfold del
  rw [List.filter_cons]
  by_cases e : m = n
  · rw [if_pos e]
    simp [e]
  · rw [if_neg e]
    simp [key_ne e]

/-- All that stands behind what is not ahead of n is not n. -/
theorem srt_after {n m : Bs} {a : α} {r : List (Bs × α)} (h : Srt ((m, a) :: r)) (hb : bytesBefore m n = false) : ∀ p ∈ r, p.1 ≠ n ∧ bytesBefore n p.1 = true := by
  intro p hp
  have h1 := (List.pairwise_cons.1 h).1 p hp
  have h1 : bytesBefore m p.1 = true := h1
  by_cases e : m = n
  · subst e
    exact ⟨(bb_ne h1).symm, h1⟩
  · rcases bb_total m n e with h2 | h2
    · rw [hb] at h2; cases h2
    · have h3 := bb_trans h2 h1
      exact ⟨(bb_ne h3).symm, h3⟩

theorem spot_get (n : Bs) : ∀ {L : List (Bs × α)}, Srt L → isAt n (L.map (·.1)) = (Sat.get n L).isSome ∧ ∀ a, Sat.get n L = some a → L[spotN n (L.map (·.1))]? = some (n, a)
  | [], _ => ⟨rfl, fun a h => by cases h⟩
  | (m, a) :: r, h => by
    have hr : Srt r := (List.pairwise_cons.1 h).2
    obtain ⟨h1, h2⟩ := spot_get n hr
    cases hb : bytesBefore m n with
    | true =>
      have e : m ≠ n := bb_ne hb
      have es : spotN n (((m, a) :: r).map (·.1)) = spotN n (r.map (·.1)) + 1 := spotN_yes hb
      rw [get_cons, if_neg e]
      refine ⟨?_, fun x hx => ?_⟩
      · rw [← h1]
        unfold isAt
        rw [es]
        rfl
      · rw [es]
        exact h2 x hx
    | false =>
      have es : spotN n (((m, a) :: r).map (·.1)) = 0 := spotN_no hb
      by_cases e : m = n
      · subst e
        rw [get_cons, if_pos rfl]
        refine ⟨?_, fun x hx => ?_⟩
        · unfold isAt
          rw [es]
          simp
        · rw [es]
          cases hx
          rfl
      · have hg : Sat.get n r = none := get_none.2 fun p hp => (srt_after h hb p hp).1
        rw [get_cons, if_neg e, hg]
        refine ⟨?_, fun x hx => by cases hx⟩
        unfold isAt
        rw [es]
        simp [e]

theorem del_after {n m : Bs} {a : α} {r : List (Bs × α)} (h : Srt ((m, a) :: r)) (hb : bytesBefore m n = false) : del n r = r := del_none (get_none.2 fun p hp => (srt_after h hb p hp).1)

theorem del_at (n : Bs) : ∀ {L : List (Bs × α)}, Srt L → isAt n (L.map (·.1)) = true → del n L = L.take (spotN n (L.map (·.1))) ++ L.drop (spotN n (L.map (·.1)) + 1)
  | [], _, h => by cases h
  | (m, a) :: r, h, ha => by
    have hr : Srt r := (List.pairwise_cons.1 h).2
    cases hb : bytesBefore m n with
    | true =>
      have es : spotN n (((m, a) :: r).map (·.1)) = spotN n (r.map (·.1)) + 1 := spotN_yes hb
      have ha' : isAt n (r.map (·.1)) = true := by
        rw [← ha]
        unfold isAt
        rw [es]
        rfl
      rw [del_cons, if_neg (bb_ne hb), es, List.take_succ_cons, List.drop_succ_cons, del_at n hr ha']
      rfl
    | false =>
      have es : spotN n (((m, a) :: r).map (·.1)) = 0 := spotN_no hb
      have e : m = n := by
        unfold isAt at ha
        rw [es] at ha
        simpa using ha
      rw [del_cons, if_pos e, es, del_after h hb]
      rfl

theorem ins_at (n : Bs) (f : α) : ∀ {L : List (Bs × α)}, Srt L → Sat.get n L = none → ins (n, f) L = L.take (spotN n (L.map (·.1))) ++ (n, f) :: L.drop (spotN n (L.map (·.1)))
  | [], _, _ => rfl
  | (m, a) :: r, h, hg => by
    have hr : Srt r := (List.pairwise_cons.1 h).2
    have hne : m ≠ n := fun e => by rw [get_cons, if_pos e] at hg; cases hg
    cases hb : bytesBefore m n with
    | true =>
      have es : spotN n (((m, a) :: r).map (·.1)) = spotN n (r.map (·.1)) + 1 := spotN_yes hb
      have hb2 : bytesBefore n m = false := by
        cases h2 : bytesBefore n m with
        | false => rfl
        | true =>
          have := bb_trans h2 hb
          rw [bb_irrefl] at this
          cases this
      rw [get_cons, if_neg hne] at hg
      show (if bytesBefore n m then _ else _) = _
      rw [if_neg (by simp [hb2]), es, List.take_succ_cons, List.drop_succ_cons, ins_at n f hr hg]
      rfl
    | false =>
      have es : spotN n (((m, a) :: r).map (·.1)) = 0 := spotN_no hb
      have hb2 : bytesBefore n m = true := by
        rcases bb_total m n hne with h2 | h2
        · rw [hb] at h2; cases h2
        · exact h2
      show (if bytesBefore n m then _ else _) = _
      rw [if_pos hb2, es]
      rfl

theorem put_at (n : Bs) (f : α) : ∀ {L : List (Bs × α)}, Srt L → isAt n (L.map (·.1)) = true → put n f L = L.set (spotN n (L.map (·.1))) (n, f)
  | [], _, h => by cases h
  | (m, a) :: r, h, ha => by
    have hr : Srt r := (List.pairwise_cons.1 h).2
    cases hb : bytesBefore m n with
    | true =>
      have es : spotN n (((m, a) :: r).map (·.1)) = spotN n (r.map (·.1)) + 1 := spotN_yes hb
      have ha' : isAt n (r.map (·.1)) = true := by
        rw [← ha]
        unfold isAt
        rw [es]
        rfl
      have hb2 : bytesBefore n m = false := by
        cases h2 : bytesBefore n m with
        | false => rfl
        | true =>
          have := bb_trans h2 hb
          rw [bb_irrefl] at this
          cases this
      rw [es, List.set_cons_succ, ← put_at n f hr ha']
      show ins (n, f) (del n ((m, a) :: r)) = _
      rw [del_cons, if_neg (bb_ne hb)]
      show (if bytesBefore n m then _ else _) = _
      rw [if_neg (by simp [hb2])]
      rfl
    | false =>
      have es : spotN n (((m, a) :: r).map (·.1)) = 0 := spotN_no hb
      have e : m = n := by
        unfold isAt at ha
        rw [es] at ha
        simpa using ha
      rw [es, List.set_cons_zero]
      show ins (n, f) (del n ((m, a) :: r)) = _
      rw [del_cons, if_pos e, del_after h hb]
      cases r with
      | nil => rfl
      | cons p q =>
        have := (srt_after h hb p (List.mem_cons_self ..)).2
        show (if bytesBefore n p.1 then _ else _) = _
        rw [if_pos this]
end

section
variable {w : World} {r : Nat} {v : Value} {L : List RFile} {own : Nat → Prop} {D : DiskM}

theorem RefIn.names (h : RefIn w r v L own D) : L.map RFile.n = D.files.map (·.1) := by
  rw [h.files, List.map_map]
  rfl

theorem RefIn.is (h : RefIn w r v L own D) (n : Bs) : isAt n (L.map RFile.n) = (Sat.get n D.files).isSome := by
  rw [h.names]
  exact (spot_get n h.ok.srt).1

theorem RefIn.hit (h : RefIn w r v L own D) {n : Bs} {f : FileM} (hg : Sat.get n D.files = some f) : ∃ x, L[spotN n (L.map RFile.n)]? = some x ∧ x.n = n ∧ x.f = f := by
  have h1 := (spot_get n h.ok.srt).2 f hg
  rw [h.names]
  rw [h.files] at h1 ⊢
  rw [List.getElem?_map] at h1
  cases hx : L[spotN n (List.map (fun x => x.fst) (List.map RFile.key L))]? with
  | none => rw [hx] at h1; cases h1
  | some x =>
    rw [hx] at h1
    have := Option.some.inj h1
    exact ⟨x, rfl, congrArg Prod.fst this, congrArg Prod.snd this⟩
end

/-! ### may, did -/
set_option maxHeartbeats 400000 in
theorem rmay_burnt (d : Nat) (p : Option Addr) (n c : Nat) (w : World) (h2 : w.cell? ⟨d, 2, none⟩ = some (.int .i64 0)) :
    Calls Try.prog 74 #[.pointer (some ⟨d, 0, none⟩), .slice p n c] w fun e w' => e = .returned (.int .i64 9) ∧ w = w' := by
  go_enter Try.func74, Try.ntmps74
  go_wp2
  go_ret
  exact ⟨rfl, rfl⟩

set_option maxHeartbeats 1000000 in
theorem rmay_names (d : Nat) (p : Option Addr) (ss : List ByteArray) (c : Nat) (w : World) (l : Int) (h2 : w.cell? ⟨d, 2, none⟩ = some (.int .i64 l))
    (hl : (l == 0) = false) (hs : StrsAt w p ss) (hm : ss.length ≤ 140737488355328) (hsz : ∀ s ∈ ss, s.size ≤ 9223372036854775807) :
    Calls Try.prog 74 #[.pointer (some ⟨d, 0, none⟩), .slice p ss.length c] w fun e w' => e = .returned (.int .i64 (namesE ss)) ∧ w = w' := by
  go_enter Try.func74, Try.ntmps74
  go_wp2
  go_loop [5] (fun i => ∃ k : Nat, k ≤ ss.length ∧ i = .int .i64 k ∧ ((ss.take k).map nm).all okN = true) (fun i => ss.length - (intOf i).toNat)
  case atStart => exact ⟨0, Nat.zero_le _, rfl, rfl⟩
  case round =>
    obtain ⟨k, hk, rfl, hall⟩ := hrel
    by_cases hlt : k < ss.length
    · have hss : ss[k]? = some ss[k] := List.getElem?_eq_getElem hlt
      rcases hs with h | ⟨b, o, rfl, hc⟩
      · subst h
        simp at hlt
      have hcell := hc k _ hss
      have hz : ss[k].size ≤ 9223372036854775807 := hsz _ (List.getElem_mem hlt)
      have Hkey := Lib.hid (take_ok hlt hall)
      have Hno := Lib.hid (bad_at hlt)
      clear hc hsz hall hss
      rw [okN_nm] at Hkey Hno
      generalize ss[k] = s at *
      by_cases h1 : 1 ≤ s.size
      · by_cases h64 : s.size ≤ 64
        · go_wp2
          go_round
          case rel => exact ⟨k + 1, by omega, by go_num, Hkey.out (by simp [h1, h64])⟩
          case measure => simp [intOf]; omega
        · go_wp2
          go_ret
          exact ⟨by rw [Hno.out (by simp [h64])]; rfl, rfl⟩
      · go_wp2
        go_ret
        exact ⟨by rw [Hno.out (by simp [h1])]; rfl, rfl⟩
    · have Hall := Lib.hid hall
      clear hall
      go_wp2
      go_ret
      have h := Hall.out
      rw [List.take_of_length_le (by omega)] at h
      exact ⟨by simp [namesE, h], rfl⟩

section
variable {w : World} {r : Nat} {v : Value} {L : List RFile} {own : Nat → Prop} {D : DiskM}

theorem left_zero {f : Option Nat} (h : f ≠ some 0) : (leftOf f == 0) = false := by
  cases f with
  | none => rfl
  | some k =>
    have : k ≠ 0 := fun e => h (by rw [e])
    simp [leftOf]
    omega

theorem rmay_calls (h : RefIn w r v L own D) (p : Option Addr) (ss : List ByteArray) (c : Nat) (hs : StrsAt w p ss) (hm : ss.length ≤ 140737488355328) (hsz : ∀ s ∈ ss, s.size ≤ 9223372036854775807) :
    Calls Try.prog 74 #[.pointer (some ⟨r, 0, none⟩), .slice p ss.length c] w fun e w' => e = .returned (.int .i64 (D.may (ss.map nm) : Int)) ∧ w = w' := by
  have h2 := h.c2
  by_cases hb : D.fuse = some 0
  · rw [hb] at h2
    refine (rmay_burnt r p ss.length c w h2).mono ?_
    rintro e w' ⟨rfl, rfl⟩
    exact ⟨by simp [DiskM.may, hb], rfl⟩
  · refine (rmay_names r p ss c w _ h2 (left_zero hb) hs hm hsz).mono ?_
    rintro e w' ⟨rfl, rfl⟩
    refine ⟨?_, rfl⟩
    unfold namesE DiskM.may
    rw [if_neg hb]
    split <;> rfl

/-- The fuse alone. -/
theorem RefIn.fuse_set (h : RefIn w r v L own D) (f : Option Nat) (hf : ∀ k, f = some k → k ≤ 9223372036854775807) : RefIn (w.setCell ⟨r, 2, none⟩ (.int .i64 (leftOf f))) r v L own { D with fuse := f } where
  cells := set_block h.cells 2 _
  row := h.row.keep fun k hk => set_other _ (h.ov k hk).2
  files := h.files
  data := fun x hx => OwnR.keep (h.data x hx) fun k hk => set_other _ (h.ob x hx k hk).2.1
  or := h.or
  ov := h.ov
  ob := h.ob
  olt := fun k hk => by
    have := h.olt k hk
    simpa [World.setCell] using this
  ok := { h.ok with fuse := hf }

theorem chg_own {a : Addr} {u : Value} (h : own a.block) : Chg own w (w.setCell a u) := (Chg.setCell w a u).mono fun k _ e => by rw [e]; exact h

theorem rdid_calls (h : RefIn w r v L own D) (hf : D.fuse ≠ some 0) :
    Calls Try.prog 76 #[.pointer (some ⟨r, 0, none⟩)] w fun e w' => e = .returned (.int .i64 0) ∧ RefIn w' r v L own D.done ∧ Chg own w w' := by
  have c2 := h.c2
  have hz := frozen_of h.cells 2
  cases hfu : D.fuse with
  | none =>
    rw [hfu] at c2
    have hD : D.done = D := by unfold DiskM.done; rw [hfu]; cases D; simp at hfu; subst hfu; rfl
    have Hf := Lib.hid (show RefIn w r v L own D.done ∧ Chg own w w from ⟨by rw [hD]; exact h, Chg.refl _ _⟩)
    have c2' : w.cell? ⟨r, 2, none⟩ = some (.int .i64 (-1)) := c2
    clear h hf hfu hD c2
    go_enter Try.func76, Try.ntmps76
    go_wp2
    go_ret
    exact ⟨rfl, Hf.out⟩
  | some k =>
    rw [hfu] at c2
    have hk0 : k ≠ 0 := fun e => hf (by rw [hfu, e])
    have hkm : k ≤ 9223372036854775807 := h.ok.fuse k hfu
    have hD : D.done = { D with fuse := some (k - 1) } := by unfold DiskM.done; rw [hfu]; rfl
    have h2 := h.fuse_set (some (k - 1)) (fun j e => by have := Option.some.inj e; omega)
    have e1 : leftOf (some (k - 1)) = (k : Int) - 1 := by show ((k - 1 : Nat) : Int) = _; omega
    rw [e1, ← hD] at h2
    have Hf := Lib.hid (And.intro h2 (chg_own (w := w) (a := ⟨r, 2, none⟩) (u := .int .i64 ((k : Int) - 1)) h.or))
    have c2' : w.cell? ⟨r, 2, none⟩ = some (.int .i64 (k : Int)) := c2
    clear h hf hfu hD c2 h2 e1
    go_enter Try.func76, Try.ntmps76
    go_wp2
    go_ret
    exact ⟨rfl, Hf.out⟩

theorem rfuse_calls (h : RefIn w r v L own D) (n : Int) (hn : n ≤ 9223372036854775807) (hn0 : -9223372036854775808 ≤ n) :
    Calls Try.prog 45 #[.pointer (some ⟨r, 0, none⟩), .int .i64 n] w fun e w' => e = .returned (.tuple #[]) ∧ RefIn w' r v L own (D.setFuse n) ∧ Chg own w w' := by
  have c2 := h.c2
  have hz := frozen_of h.cells 2
  have h2 := h.fuse_set (if n < 0 then none else some n.toNat) (fun k e => by split at e <;> simp at e; omega)
  have e1 : leftOf (if n < 0 then none else some n.toNat) = max (-1) n := by
    split
    · show (-1 : Int) = _
      omega
    · show ((n.toNat : Nat) : Int) = _
      omega
  rw [e1] at h2
  have Hf := Lib.hid (show RefIn (w.setCell ⟨r, 2, none⟩ (.int .i64 (max (-1) n))) r v L own (D.setFuse n) ∧ Chg own w (w.setCell ⟨r, 2, none⟩ (.int .i64 (max (-1) n))) from ⟨h2, chg_own h.or⟩)
  clear h h2 e1
  go_enter Try.func45, Try.ntmps45
  go_wp2
  go_end0
  exact ⟨rfl, Hf.out⟩
end

theorem rnew_calls (w : World) (n : Int) (h0 : 0 ≤ n) (h1 : n ≤ 1073741824) :
    Calls Try.prog 32 #[.int .i64 n] w fun e w' => ∃ r, e = .returned (.tuple #[.pointer (some ⟨r, 0, none⟩), .int .i64 0]) ∧ RefIn w' r (.slice none 0 0) [] (fun k => k = r) (DiskM.fresh n.toNat) ∧ Below w.heap.size w w' ∧ w.heap.size ≤ r := by
  obtain ⟨m, rfl⟩ : ∃ m : Nat, n = (m : Int) := ⟨n.toNat, by omega⟩
  go_enter Try.func32, Try.ntmps32
  go_wp2
  go_ret2
  refine ⟨w.heap.size, rfl, ?_, (Below.refl _ _).alloc (Nat.le_refl _) _, Nat.le_refl _⟩
  exact {
    cells := new_block w _
    row := OwnR.nil _ _ _
    files := rfl
    data := fun x hx => by cases hx
    or := rfl
    ov := fun k hk => by cases hk
    ob := fun x hx => by cases hx
    olt := fun k hk => by rw [hk]; simp
    ok := ok_fresh _ (by rw [Int.toNat_natCast]; omega) }

theorem rnew_bad (w : World) (n : Int) (h : n < 0 ∨ 1073741824 < n) :
    Calls Try.prog 32 #[.int .i64 n] w fun e w' => e = .returned (.tuple #[.pointer none, .int .i64 1]) ∧ w' = w := by
  by_cases h0 : n < 0
  · go_enter Try.func32, Try.ntmps32
    go_wp2
    go_ret2
    exact ⟨rfl, rfl⟩
  · have h1 : 1073741824 < n := by omega
    go_enter Try.func32, Try.ntmps32
    go_wp2
    go_ret2
    exact ⟨rfl, rfl⟩
end Go.Proofs.Ytdlbamhabenhgaa

namespace Go.Proofs.Ytdlbamhabenhgaa
open Go.RowKit Go.Sat Go.Maps

theorem cost_mono (ls : List Bs) (k : Nat) : cost (ls.take k) ≤ cost ls := by
  conv => rhs; rw [← List.take_append_drop k ls]
  simp only [cost, List.map_append, List.sum_append]
  omega

/-- Behind k rounds of the law's loop. -/
structure KRel (w wr : World) (d : Nat) (va vs : Value) (ls : List Bs) (sy k : Nat) : Prop where
  st : St w wr d (keepsD ls sy k) (fun j => va.ownBlock = some j)
  all : OwnB wr 5 va (ls.take k).flatten
  new : ∀ j, va.ownBlock = some j → w.heap.size ≤ j
  sure : ∃ ps cs, vs = .slice ps (ls.take (min k sy)).flatten.length cs

def sF : ByteArray := ⟨#[102]⟩

theorem own_same {F : Nat → Prop} {w1 w2 : World} {e : TypeId} {v : Value} {l : Bs} (h : OwnB w1 e v l) (hs : Same F w1 w2) (hF : ∀ j, v.ownBlock = some j → F j) : OwnB w2 e v l := h.keep fun k hk => hs k (hF k hk)

theorem own_alloc {w1 : World} {e : TypeId} {v : Value} {l : Bs} (h : OwnB w1 e v l) (o : Obj) : OwnB (w1.alloc o) e v l := h.keep fun _ hk => heap_alloc_old w1 o (OwnR.lt h hk)

/-- all = append(all, row...): the disk is where it was. -/
theorem st_grow {w w2 w3 : World} {d : Nat} {D : DiskM} {va va' : Value} {e : TypeId} {size m : Nat} {ys : List Value} (h : St w w2 d D (fun j => va.ownBlock = some j)) (hn : ∀ j, va.ownBlock = some j → w.heap.size ≤ j)
    (hg : w2.grownBy w3 va.ownBlock) (hl : va'.ownBlock = va.ownBlock ∨ ∃ g, va'.ownBlock = some g ∧ w2.heap.size ≤ g) (hr : OwnR w3 e size va' m ys) :
    St w w3 d D (fun j => va'.ownBlock = some j) ∧ ∀ j, va'.ownBlock = some j → w.heap.size ≤ j := by
  refine ⟨h.move (Chg.of_grown hg) (fun k _ e => ⟨e.symm, hn k e.symm⟩) fun k hk => ⟨?_, hr.lt hk⟩, fun j hj => ?_⟩
  · rcases hl with e | ⟨g, e, hge⟩
    · exact .inl (by rw [← e]; exact hk)
    · rw [e] at hk
      cases hk
      exact .inr hge
  · rcases hl with e | ⟨g, e, hge⟩
    · exact hn j (by rw [← e]; exact hj)
    · rw [e] at hj
      cases hj
      have := h.below.size
      omega

/-- A new row of nobody's. -/
theorem st_grow0 {w w2 w3 : World} {d : Nat} {D : DiskM} {F : Nat → Prop} {row : Option Nat} (h : St w w2 d D F) (hg : w2.grownBy w3 row) (hr : ∀ j, row = some j → w2.heap.size ≤ j) : St w w3 d D F :=
  h.next ((Chg.of_grown hg).below (Nat.le_refl _) fun k hk e => by have := hr k e.symm; omega)

theorem own_empty (w : World) (e : TypeId) : OwnR (w.alloc (.cells #[] e)) e 1 (.slice (some ⟨w.heap.size, 0, none⟩) 0 0) 0 [] :=
  ⟨rfl, .inr ⟨_, 0, #[], rfl, new_block w _, Nat.le_refl _, Nat.zero_le _, Nat.le_refl _, rfl⟩⟩

/-- A row behind an append to another row. -/
theorem own_other {w2 w3 : World} {e : TypeId} {v : Value} {l : Bs} {row : Option Nat} (h : OwnB w2 e v l) (hg : w2.grownBy w3 row) (hr : ∀ j, v.ownBlock = some j → row ≠ some j) : OwnB w3 e v l :=
  h.keep fun k hk => hg.block k (OwnR.lt h hk) fun e => hr k hk e.symm

set_option maxRecDepth 100000 in
set_option maxHeartbeats 4000000 in
theorem keeps_walk {w : World} {p : Option Addr} {n c : Nat} {ls : List Bs} (hx : RowsAt w (.slice p n c) ls) (hn : n ≤ 140737488355328) (hrow : ∀ l ∈ ls, l.length ≤ 140737488355328) (sy dr : Int)
    (hsy : -9223372036854775808 ≤ sy) (hsy' : sy ≤ 9223372036854775807) (hdr : -9223372036854775808 ≤ dr) (hdr' : dr ≤ 9223372036854775807) :
    Calls Try.prog 3 #[.slice p n c, .int .i64 sy, .int .i64 dr] w (True3 w) := by
  have hnl := RowsAt.len hx
  have Hx := Lib.hid hx
  have Hrow := Lib.hid hrow
  have Hnl := Lib.hid hnl
  clear hx hrow hnl
  go_enter Try.func3, Try.ntmps3
  go_wp2_with fail
  go_loop [7, 8] (fun a i => ∃ k : Nat, k ≤ n ∧ i = .int .i64 k ∧ a = .int .i64 ((cost (ls.take k) : Nat) : Int) ∧ cost (ls.take k) ≤ 150000000000000) (fun _ i => n - (intOf i).toNat)
  case atStart => exact ⟨0, Nat.zero_le _, rfl, rfl, by simp [cost]⟩
  case round =>
    obtain ⟨k, hk, rfl, rfl, hck⟩ := hrel
    by_cases h8 : cost (ls.take k) ≤ 8000
    · by_cases hlt : k < n
      · have hltl : k < ls.length := by rw [← Hnl.out]; exact hlt
        obtain ⟨-, b, o, v, rfl, hcell, hv⟩ := RowsAt.row Hx.out hltl
        have hct := cost_take ls k hltl
        have hrl := Hrow.out _ (List.getElem_mem hltl)
        obtain ⟨pv, cv, rfl⟩ := hv.slice
        have Hct := Lib.hid hct
        clear hv hct
        generalize hm : ls[k].length = m at *
        have Hc8 := Lib.hid (show cost (ls.take (k + 1)) ≤ 150000000000000 by rw [Hct.out]; omega)
        generalize hC : cost (ls.take k) = C at *
        have HC := Lib.hid hC
        have Hm := Lib.hid hm
        clear hC hm
        go_wp2_with fail
        go_round
        case rel => exact ⟨k + 1, by omega, by go_num, by rw [Hct.out]; go_num, Hc8.out⟩
        case measure => simp [intOf]; omega
      · have hls : ls.take k = ls := List.take_of_length_le (by have := Hnl.out; omega)
        rw [hls] at h8 hck ⊢
        have hkn : k = n := by omega
        have hfl : ls.flatten.length ≤ 8000 := by
          have := cost_flat ls
          omega
        have hnle : n ≤ 8000 := by
          have := cost_flat ls
          have := Hnl.out
          omega
        have Hfl := Lib.hid hfl
        have Hkn := Lib.hid hkn
        generalize hC : cost ls = C at *
        have HC := Lib.hid hC
        have Hnew := Lib.hid (st_new (w := w) (w1 := w) 1048576 (by decide) (by decide) (Below.refl _ _))
        clear hC hfl hkn hls
        go_wp2_with fail
        refine Hnew.out.mono ?_
        rintro e w1 ⟨d, rfl, hd⟩
        have Hd := Lib.hid (show St w w1 d (keepsD ls sy.toNat 0) NoF from hd)
        clear hd Hnew hk h8 hck
        clear HC Hkn
        obtain ⟨i0, hi, hz0, hz1, hz2⟩ := info_parts (show (Try.prog.info? 5).map (fun i => (i.zero, i.size, i.bytes)) = some (some (.int .u8 0), 1, 1) by kernel_rfl)
        go_wp2_with fail
        go_loopw [11, 12, 13] (fun va vs i wr => ∃ k : Nat, k ≤ n ∧ i = .int .i64 k ∧ KRel w wr d va vs ls sy.toNat k) (fun _ _ i _ => n - (intOf i).toNat)
        case atStart =>
          refine ⟨0, Nat.zero_le _, rfl, ?_, OwnR.nil _ _ _, fun j hj => (by cases hj), none, 0, by simp⟩
          exact Hd.out.move (S := fun _ => False) (Chg.refl _ _) (fun _ _ h => h.elim) fun k hk => (by cases hk)
        case round =>
          clear Hd
          obtain ⟨k, hk, rfl, hr⟩ := hrel
          obtain ⟨ps, cs, rfl⟩ := hr.sure
          by_cases hlt : k < n
          · have hltl : k < ls.length := by rw [← Hnl.out]; exact hlt
            obtain ⟨-, b, o, v, rfl, hcell, hv⟩ := RowsAt.row Hx.out hltl
            have hcell2 := (hr.st.below.cell (World.block_lt_of_cell? w _ hcell)).trans hcell
            obtain ⟨pv, cv, rfl⟩ := hv.slice
            generalize hml : ls[k].length = ml at *
            have hap := keeps_append sy.toNat hltl Hfl.out
            have happ := st_append (hr.st.alloc (.cells #[.slice pv ml cv] 23)) sF (.slice (some ⟨wr.heap.size, 0, none⟩) 1 1) [ls[k]] (rows_one (v := .slice pv ml cv) (hv.below hr.st.below) 23 (0, 0) _ 1 rfl (Nat.le_refl _)) (by simp) (by have := flat_take hltl; have h2 := flat_take_le ls (k + 1); rw [this, List.length_append] at h2; have := Hfl.out; rw [List.flatten_cons, List.flatten_nil, List.append_nil]; omega) (by decide)
            rw [show nm sF = fN from rfl, hap] at happ
            have Happ := Lib.hid happ
            have Hr := Lib.hid hr
            have Hv := Lib.hid hv
            have Hml := Lib.hid hml
            have Hcell := Lib.hid hcell
            generalize hms : (ls.take (min k sy.toNat)).flatten.length = ms at *
            have Hms := Lib.hid hms
            clear happ hr hv hcell hap hml hms
            go_wp2_with fail
            refine Happ.out.mono ?_
            rintro e w2 ⟨rfl, hst2, hsame2⟩
            have hall2 : OwnB w2 5 u11 (ls.take k).flatten := own_same (own_alloc Hr.out.all _) hsame2 fun j hj => hj
            have hv2 : HasB w2 (.slice pv ml cv) ls[k] := Hv.out.below hst2.below
            have hva := flat_take hltl
            have hvl : (ls.take k).flatten.length + ml ≤ 8000 := by
              have h2 := flat_take_le ls (k + 1)
              rw [hva, List.length_append, Hml.out] at h2
              have := Hfl.out
              omega
            unfold HasB at hv2
            rw [Hml.out] at hv2
            have hcell3 := (hst2.below.cell (World.block_lt_of_cell? w _ Hcell.out)).trans Hcell.out
            have Hst2 := Lib.hid hst2
            have Hall2 := Lib.hid hall2
            have Hv2 := Lib.hid hv2
            have Hva := Lib.hid hva
            have Hvl := Lib.hid hvl
            clear hst2 hsame2 hall2 hv2 hva hcell2 hvl
            by_cases hs : k < sy.toNat
            · have hsd : decide ((k : Int) < sy) = true := by simp; omega
              go_wp2_with (first | (at_builtin; refine wpList_app w2 rfl (.tmp 61) (.tmp 65) 23 rfl 5 i0 (.int .u8 0) 1 1 Try.underlying23 hi hz0 hz1 hz2 rfl (by decide) u11 (ls.take k).flatten.length (bytesV (ls.take k).flatten) rfl Hall2.out (.slice pv ml cv) ml (bytesV ls[k]) rfl Hv2.out (bytesV_one _) (by have := Hvl.out; unfold maxLen; omega) (by have := Hvl.out; omega) ?_; intro va' w3 hown' hgrow hloc; have Hg3 := Lib.hid (And.intro hown' (And.intro hgrow hloc)); clear hown' hgrow hloc))
              obtain ⟨hown', hgrow, hloc⟩ := Hg3.out
              obtain ⟨hst3, hnew3⟩ := st_grow Hst2.out Hr.out.new hgrow hloc hown'
              have hall3 : OwnB w3 5 va' (ls.take (k + 1)).flatten := by
                unfold OwnB
                rw [Hva.out, List.length_append, Hml.out, bytesV_app]
                exact hown'
              have hsy := st_sync hst3 [sF] w3.heap.size 1 rfl (0, 0) (by decide) (by decide)
              rw [show [sF].map nm = [fN] from rfl, keeps_sync hs] at hsy
              have Hsy := Lib.hid hsy
              have Hall3 := Lib.hid hall3
              have Hnew3 := Lib.hid hnew3
              clear hown' hgrow hloc hst3 hall3 hnew3 hsy Hg3
              refine Hsy.out.mono ?_
              rintro e w4 ⟨rfl, hst4, hsame4⟩
              have hall4 : OwnB w4 5 va' (ls.take (k + 1)).flatten := own_same (own_alloc Hall3.out _) hsame4 fun j hj => hj
              have hM := flat_take_le ls (k + 1)
              have hMf := Hfl.out
              generalize hMM : (ls.take (k + 1)).flatten.length = M at *
              have Hst4 := Lib.hid hst4
              have Hall4 := Lib.hid hall4
              have HMM := Lib.hid hMM
              have HM := Lib.hid (show M ≤ 8000 by omega)
              clear hst4 hall4 hsame4 hMM hM hMf
              go_wp2_with (first | (at_builtin; have hx4 := (own_alloc Hall4.out (.cells #[] 5)).has; unfold HasB at hx4; rw [HMM.out] at hx4; refine wpList_app _ rfl (.tmp 74) (.tmp 75) 23 rfl 5 i0 (.int .u8 0) 1 1 Try.underlying23 hi hz0 hz1 hz2 rfl (by decide) (.slice (some ⟨w4.heap.size, 0, none⟩) 0 0) 0 [] rfl (own_empty w4 _) va' M _ rfl hx4 (bytesV_one _) (by have := HM.out; unfold maxLen; omega) (by have := HM.out; omega) ?_; clear hx4; intro vs w5 hown5 hgrow5 hloc5; rw [Nat.zero_add] at hown5; obtain ⟨p5, c5, rfl⟩ := OwnR.shape hown5; have Hg5 := Lib.hid (And.intro hown5 (And.intro hgrow5 hloc5)); clear hown5 hgrow5 hloc5))
              go_roundw
              case rel =>
                obtain ⟨_, hgrow5, _⟩ := Hg5.out
                refine ⟨k + 1, by omega, by go_num, ?_, ?_, Hnew3.out, p5, c5, ?_⟩
                · exact Hst4.out.next (((Below.refl _ _).alloc (Nat.le_refl _) _).grown hgrow5 (by simp) fun j e => by simp [Value.ownBlock] at e; omega)
                · exact own_other (own_alloc Hall4.out _) hgrow5 (fun j hj e => by simp [Value.ownBlock] at e; have := OwnR.lt Hall4.out hj; omega)
                · rw [show min (k + 1) sy.toNat = k + 1 by omega, HMM.out]
              case measure => simp [intOf]; omega
            · have hsd : decide ((k : Int) < sy) = false := by simp; omega
              go_wp2_with (first | (at_builtin; refine wpList_app w2 rfl (.tmp 61) (.tmp 65) 23 rfl 5 i0 (.int .u8 0) 1 1 Try.underlying23 hi hz0 hz1 hz2 rfl (by decide) u11 (ls.take k).flatten.length (bytesV (ls.take k).flatten) rfl Hall2.out (.slice pv ml cv) ml (bytesV ls[k]) rfl Hv2.out (bytesV_one _) (by have := Hvl.out; unfold maxLen; omega) (by have := Hvl.out; omega) ?_; intro va' w3 hown' hgrow hloc; have Hg3 := Lib.hid (And.intro hown' (And.intro hgrow hloc)); clear hown' hgrow hloc))
              go_roundw
              case rel =>
                obtain ⟨hown', hgrow, hloc⟩ := Hg3.out
                obtain ⟨hst3, hnew3⟩ := st_grow Hst2.out Hr.out.new hgrow hloc hown'
                rw [keeps_stay (by omega)] at hst3
                refine ⟨k + 1, by omega, by go_num, hst3, ?_, hnew3, ps, cs, ?_⟩
                · unfold OwnB
                  rw [Hva.out, List.length_append, Hml.out, bytesV_app]
                  exact hown'
                · rw [show min (k + 1) sy.toNat = min k sy.toNat by omega, Hms.out]
              case measure => simp [intOf]; omega
          · have hkl : ls.take k = ls := List.take_of_length_le (by have := Hnl.out; omega)
            have hall := hr.all
            rw [hkl] at hall
            have hcr := st_crash hr.st dr hdr hdr'
            have Hcr := Lib.hid hcr
            have Hall := Lib.hid hall
            have Hr := Lib.hid hr
            generalize hms : (ls.take (min k sy.toNat)).flatten.length = ms at *
            have Hms := Lib.hid hms
            clear hcr hall hr hms hkl
            go_wp2_with fail
            refine Hcr.out.mono ?_
            rintro e w2 ⟨rfl, hst2, hsame2⟩
            have hall2 : OwnB w2 5 u11 ls.flatten := own_same Hall.out hsame2 fun j hj => hj
            have hrd := st_read hst2 sF (by decide)
            have Hrd := Lib.hid hrd
            have Hall2 := Lib.hid hall2
            clear hst2 hsame2 hall2 hrd
            by_cases h0 : k = 0
            · subst h0
              have hn0 : n = 0 := by omega
              rw [show nm sF = fN from rfl, keeps_get0] at Hrd
              subst hn0
              go_wp2_with fail
              refine Hrd.out.mono ?_
              rintro e w3 ⟨v, rfl, -, -, -, hst3⟩
              have Hkn := Lib.hid (known_calls w3)
              have Hb3 := Lib.hid hst3.below
              clear hst3
              go_wp2_with fail
              refine Hkn.out.mono ?_
              rintro e w4 ⟨rfl, hb4⟩
              have Hb4 := Lib.hid (Hb3.out.trans (hb4.mono Hb3.out.size))
              clear hb4
              go_wp2_with fail
              go_ret
              exact ⟨rfl, Hb4.out⟩
            · have hn0 : ((n : Int) == 0) = false := by simp; omega
              rw [show nm sF = fN from rfl, keeps_get dr h0, List.take_of_length_le (show ls.length ≤ k by have := Hnl.out; omega), Hms.out] at Hrd
              have hmsN : ms ≤ ls.flatten.length := by rw [← Hms.out]; exact flat_take_le ls _
              have hst := stays_le ⟨ls.flatten, ms⟩ dr hmsN
              simp only at hst
              have Hst := Lib.hid hst
              clear hst hmsN
              go_wp2_with fail
              refine Hrd.out.mono ?_
              rintro e w3 ⟨v, rfl, hv, -, hb3, hst3⟩
              have hv' : OwnB w3 5 v (ls.flatten.take (DiskM.stays ⟨ls.flatten, ms⟩ dr)) := hv
              have hall3 : OwnB w3 5 u11 ls.flatten := Hall2.out.keep fun j hj => hb3.block j (OwnR.lt Hall2.out hj)
              have hcap : ∃ pa ca, u11 = .slice pa ls.flatten.length ca ∧ ls.flatten.length ≤ ca := by
                obtain ⟨pa, ca, rfl⟩ := hall3.slice
                exact ⟨pa, ca, rfl, (OwnR.cap_le hall3).1⟩
              obtain ⟨pa, ca, rfl, hca⟩ := hcap
              generalize hst' : DiskM.stays ⟨ls.flatten, ms⟩ dr = st at *
              have hcut := HasB.cut hall3.has (k := st) (by have := Hst.out; omega) ca
              obtain ⟨pv, cv, rfl⟩ := hv'.slice
              have hlen : (ls.flatten.take st).length = st := by rw [List.length_take]; have := Hst.out; omega
              have hsame := same_calls hv'.has hcut (by have := Hfl.out; have := Hst.out; omega) (by have := Hfl.out; have := Hst.out; omega)
              rw [beq_self_eq_true] at hsame
              rw [hlen] at hsame ⊢
              have hsl : ∀ W, (Instr.slice 23 (.slice pa ls.flatten.length ca) none (some (.int .i64 (st : Int))) none).run Try.prog W = .ok (.slice pa st ca) W := fun W => run_upto W Try.underlying23 hi pa _ ca st (by have := Hst.out; omega)
              have hge : (ms : Int) ≤ (st : Int) := by have := Hst.out; omega
              have hle : (st : Int) ≤ (ls.flatten.length : Int) := by have := Hst.out; omega
              generalize ls.flatten.length = N at *
              have Hsame := Lib.hid hsame
              have Hst3 := Lib.hid hst3
              clear hsame hv hv' hall3 hcut hlen hb3 hst3 hst' Hcr Hall2 Hall
              go_wp2_with fail
              refine Hsame.out.mono ?_
              rintro e w4 ⟨rfl, q, rfl⟩
              have Hkn := Lib.hid (known_calls (w3.drewN q))
              have Hb3 := Lib.hid (Hst3.out.drewN q).below
              go_wp2_with fail
              refine Hkn.out.mono ?_
              rintro e w4 ⟨rfl, hb4⟩
              have Hb4 := Lib.hid (Hb3.out.trans (hb4.mono Hb3.out.size))
              clear hb4
              go_wp2_with fail
              go_ret
              exact ⟨rfl, Hb4.out⟩
    · have Hkn := Lib.hid (known_calls w)
      by_cases hlt : k < n
      all_goals
        generalize cost (ls.take k) = C at *
        go_wp2_with fail
        refine Hkn.out.mono ?_
        rintro e w' ⟨rfl, hb⟩
        go_wp2_with fail
        go_ret
        exact ⟨rfl, hb⟩
end Go.Proofs.Ytdlbamhabenhgaa

namespace Go.Proofs.Ytdlbamhabenhgaa
open Go.RowKit Go.Sat Go.Maps

def xN : Bs := [120]
def yN : Bs := [121]
def zzN : Bs := [122]

def nD1 (a : Bs) (l : Nat) : DiskM := ⟨1048576, [(xN, ⟨a, l⟩)], none⟩
def nD2 (a : Bs) (l : Nat) (c : Bs) : DiskM := ⟨1048576, [(xN, ⟨a, l⟩), (yN, ⟨c, 0⟩)], none⟩
def nD3 (a : Bs) (l : Nat) : DiskM := ⟨1048576, [(yN, ⟨a, l⟩)], none⟩

section
variable {a b c : Bs}

theorem n_app1 (h : a.length ≤ 8000) : (DiskM.fresh 1048576).append xN [a].flatten = (nD1 a 0, 0) := by
  have hm : (DiskM.fresh 1048576).may [xN] = 0 := rfl
  have h4 : [a].flatten = a := by simp
  rw [h4]
  have hf : (DiskM.fresh 1048576).full xN a = false := by
    have : ¬ (1048576 < 0 + a.length) := by omega
    simp only [DiskM.full, DiskM.fresh, DiskM.used, sumBy, Sat.get, List.map_nil, List.sum_nil, decide_eq_false this]
    simp
  unfold DiskM.append
  rw [if_neg (by rw [hm]; simp), if_neg (by rw [hf]; simp)]
  rfl

theorem n_sync1 : (nD1 a 0).sync [xN] = (nD1 a a.length, 0) := by
  simp [DiskM.sync, DiskM.each, DiskM.each1, nD1, DiskM.may, xN, okN, Sat.get, DiskM.done, DiskM.gSync, put, del, ins]

theorem n_app2 (h : a.length + b.length ≤ 8000) (l : Nat) : (nD1 a l).append xN [b].flatten = (nD1 (a ++ b) l, 0) := by
  have hm : (nD1 a l).may [xN] = 0 := rfl
  have h4 : [b].flatten = b := by simp
  rw [h4]
  have hf : (nD1 a l).full xN b = false := by
    have : ¬ (1048576 < a.length + 0 + b.length) := by omega
    simp only [DiskM.full, nD1, DiskM.used, sumBy, Sat.get, List.map_cons, List.map_nil, List.sum_cons, List.sum_nil, DiskM.size, decide_eq_false this]
    simp [xN]
  unfold DiskM.append
  rw [if_neg (by rw [hm]; simp), if_neg (by rw [hf]; simp)]
  simp [nD1, DiskM.done, DiskM.cur, Sat.get, put, del, ins, xN]

theorem n_app3 (h : a.length + c.length ≤ 8000) (l : Nat) : (nD1 a l).append yN [c].flatten = (nD2 a l c, 0) := by
  have hm : (nD1 a l).may [yN] = 0 := rfl
  have h4 : [c].flatten = c := by simp
  rw [h4]
  have hf : (nD1 a l).full yN c = false := by
    have : ¬ (1048576 < a.length + 0 + c.length) := by omega
    simp only [DiskM.full, nD1, DiskM.used, sumBy, Sat.get, List.map_cons, List.map_nil, List.sum_cons, List.sum_nil, DiskM.size, decide_eq_false this]
    simp [xN, yN]
  unfold DiskM.append
  rw [if_neg (by rw [hm]; simp), if_neg (by rw [hf]; simp)]
  simp [nD1, nD2, DiskM.done, DiskM.cur, Sat.get, put, del, ins, xN, yN, bytesBefore]

theorem n_sync2 (l : Nat) : (nD2 a l c).sync [xN] = (nD2 a a.length c, 0) := by
  simp [DiskM.sync, DiskM.each, DiskM.each1, nD2, DiskM.may, xN, yN, okN, Sat.get, DiskM.done, DiskM.gSync, put, del, ins, bytesBefore]

theorem n_ren (l : Nat) : (nD2 a l c).rename xN yN = (nD3 a l, 0) := by
  simp [DiskM.rename, nD2, nD3, DiskM.may, xN, yN, okN, Sat.get, DiskM.done, put, del, ins]

theorem n_ren2 (l : Nat) : (nD3 a l).rename xN zzN = (nD3 a l, 7) := by
  simp [DiskM.rename, nD3, DiskM.may, xN, yN, zzN, okN, Sat.get]

theorem n_names (l : Nat) : namesOf (nD3 a l) = [yN] := rfl

theorem n_get (l : Nat) : Sat.get yN ((nD3 a l).crash 0).files = some ⟨a.take l, l⟩ := by
  simp [DiskM.crash, nD3, mp, Sat.get, DiskM.crashF, DiskM.stays, yN]
end
end Go.Proofs.Ytdlbamhabenhgaa

namespace Go.Proofs.Ytdlbamhabenhgaa
open Go.RowKit Go.Sat Go.Maps

def sX : ByteArray := ⟨#[120]⟩
def sY : ByteArray := ⟨#[121]⟩
def sZ2 : ByteArray := ⟨#[122]⟩

theorem has_names {w : World} (cs : Array Value) (ns : List Bs) (g n c : Nat) (hg : g = w.heap.size) (hn : n = ns.length) (h : cs.toList = ns.map encStr) (e : TypeId) (fr : Nat × Nat) : HasN (w.alloc (.cells cs e fr)) (.slice (some ⟨g, 0, none⟩) n c) ns := by
  subst hg
  subst hn
  refine ⟨by simp, some ⟨w.heap.size, 0, none⟩, c, rfl, fun e => (by cases e), fun a ha i u hu => ?_⟩
  cases ha
  have e1 : (⟨w.heap.size, 0, none⟩ : Addr).add i = ⟨w.heap.size, i, none⟩ := by unfold Addr.add; split <;> simp_all
  rw [e1]
  refine cell_of (new_block w _) ?_
  rw [← h] at hu
  simpa using hu

theorem OwnN.has {w : World} {v : Value} {ns : List Bs} (h : OwnN w v ns) : HasN w v ns := OwnR.holds h

theorem own_ge {wa : World} {v v' : Value} {B : Nat} (hloc : v'.ownBlock = v.ownBlock ∨ ∃ g, v'.ownBlock = some g ∧ wa.heap.size ≤ g) (hv : ∀ k, v.ownBlock = some k → B ≤ k) (hB : B ≤ wa.heap.size) : ∀ k, v'.ownBlock = some k → B ≤ k := fun k hk => by
  rcases hloc with e | ⟨g, e, hge⟩
  · exact hv k (by rw [← e]; exact hk)
  · rw [e] at hk
    cases hk
    omega

theorem HasN.below {w w1 : World} {v : Value} {l : List Bs} (h : HasN w v l) (hb : Below w.heap.size w w1) : HasN w1 v l := Holds.chg h (Chg.of_below hb) fun _ _ => id

set_option maxRecDepth 100000 in
set_option maxHeartbeats 4000000 in
theorem names_walk {w : World} {pa pb pc : Option Addr} {na nb nc ca cb cc : Nat} {a b c : Bs} (ha : HasB w (.slice pa na ca) a) (hb : HasB w (.slice pb nb cb) b) (hc : HasB w (.slice pc nc cc) c)
    (la : a.length ≤ 140737488355328) (lb : b.length ≤ 140737488355328) (lc : c.length ≤ 140737488355328) (sy : Bool) :
    Calls Try.prog 8 #[.slice pa na ca, .slice pb nb cb, .slice pc nc cc, .bool sy] w (True3 w) := by
  obtain ⟨p1, c1, ea⟩ := ha.slice
  obtain ⟨p2, c2, eb⟩ := hb.slice
  obtain ⟨p3, c3, ec⟩ := hc.slice
  cases ea
  cases eb
  cases ec
  by_cases h8 : a.length + b.length + c.length ≤ 8000
  · have Ha := Lib.hid ha
    have Hb := Lib.hid hb
    have Hc := Lib.hid hc
    have Hnew := Lib.hid (st_new (w := w) (w1 := w) 1048576 (by decide) (by decide) (Below.refl _ _))
    clear ha hb hc
    generalize hna : a.length = na at *
    generalize hnb : b.length = nb at *
    generalize hnc : c.length = nc at *
    have Hna := Lib.hid hna
    have Hnb := Lib.hid hnb
    have Hnc := Lib.hid hnc
    clear hna hnb hnc
    go_enter Try.func8, Try.ntmps8
    go_wp2_with fail
    refine Hnew.out.mono ?_
    rintro e w1 ⟨d, rfl, hd⟩
    have hap := st_append (hd.alloc (.cells #[.slice pa na ca] 23)) sX (.slice (some ⟨w1.heap.size, 0, none⟩) 1 1) [a] (rows_one (v := .slice pa na ca) (Ha.out.below hd.below) 23 (0, 0) _ 1 rfl (Nat.le_refl _)) (by simp) (by rw [List.flatten_cons, List.flatten_nil, List.append_nil, Hna.out]; omega) (by decide)
    rw [show DiskM.fresh (1048576 : Int).toNat = DiskM.fresh 1048576 from rfl, show nm sX = xN from rfl, n_app1 (by rw [Hna.out]; omega)] at hap
    have Hap := Lib.hid hap
    clear hd hap Hnew
    go_wp2_with fail
    refine Hap.out.mono ?_
    rintro e w2 ⟨rfl, hd, -⟩
    have hsy := st_sync hd [sX] w2.heap.size 1 rfl (0, 0) (by decide) (by decide)
    rw [show [sX].map nm = [xN] from rfl, n_sync1] at hsy
    have Hsy := Lib.hid hsy
    clear hd hsy Hap
    go_wp2_with fail
    refine Hsy.out.mono ?_
    rintro e w3 ⟨rfl, hd, -⟩
    have hap := st_append (hd.alloc (.cells #[.slice pb nb cb] 23)) sX (.slice (some ⟨w3.heap.size, 0, none⟩) 1 1) [b] (rows_one (v := .slice pb nb cb) (Hb.out.below hd.below) 23 (0, 0) _ 1 rfl (Nat.le_refl _)) (by simp) (by rw [List.flatten_cons, List.flatten_nil, List.append_nil, Hnb.out]; omega) (by decide)
    rw [show nm sX = xN from rfl, n_app2 (by rw [Hna.out, Hnb.out]; omega)] at hap
    have Hap := Lib.hid hap
    clear hd hap Hsy
    go_wp2_with fail
    refine Hap.out.mono ?_
    rintro e w4 ⟨rfl, hd, -⟩
    have hap := st_append (hd.alloc (.cells #[.slice pc nc cc] 23)) sY (.slice (some ⟨w4.heap.size, 0, none⟩) 1 1) [c] (rows_one (v := .slice pc nc cc) (Hc.out.below hd.below) 23 (0, 0) _ 1 rfl (Nat.le_refl _)) (by simp) (by rw [List.flatten_cons, List.flatten_nil, List.append_nil, Hnc.out]; omega) (by decide)
    rw [show nm sY = yN from rfl, n_app3 (by rw [List.length_append, Hna.out, Hnb.out, Hnc.out]; omega)] at hap
    have Hap := Lib.hid hap
    clear hd hap
    go_wp2_with fail
    refine Hap.out.mono ?_
    rintro e w5 ⟨rfl, hd, -⟩
    have Hd := Lib.hid hd
    clear hd Hap
    cases sy
    · have Hd := Lib.hid (show St w w5 d (nD2 (a ++ b) a.length c) NoF from Hd.out)
      go_wp2_with fail
      have hrn := st_rename Hd.out sX sY (by decide) (by decide)
      rw [show nm sX = xN from rfl, show nm sY = yN from rfl, n_ren] at hrn
      refine hrn.mono ?_
      clear hrn
      rintro e w6 ⟨rfl, hd, -⟩
      have Hli := Lib.hid (st_list hd)
      clear hd Hd
      go_wp2_with fail
      refine Hli.out.mono ?_
      rintro e w7 ⟨v7, rfl, hv7, -, -, hd⟩
      rw [n_names] at hv7
      have htx := texts_calls (HasN.below (OwnN.has hv7) ((Below.refl _ _).alloc (Nat.le_refl _) (.cells #[.string sY] 9))) (has_names (w := w7) #[.string sY] [yN] _ 1 1 rfl rfl rfl 9 (0, 0)) (by decide) (by decide)
      rw [beq_self_eq_true] at htx
      have Htx := Lib.hid htx
      have Hd := Lib.hid hd
      clear hd htx hv7 Hli
      go_wp2_with fail
      refine Htx.out.mono ?_
      rintro e w8 ⟨rfl, q8, rfl⟩
      have hrn := st_rename ((Hd.out.alloc (.cells #[.string sY] 9)).drewN q8) sX sZ2 (by decide) (by decide)
      rw [show nm sX = xN from rfl, show nm sZ2 = zzN from rfl, n_ren2] at hrn
      have Hrn := Lib.hid hrn
      clear hrn Hd Htx
      go_wp2_with fail
      refine Hrn.out.mono ?_
      rintro e w9 ⟨rfl, hd, -⟩
      have Hcr := Lib.hid (st_crash hd 0 (by decide) (by decide))
      clear hd Hrn
      go_wp2_with fail
      refine Hcr.out.mono ?_
      rintro e w10 ⟨rfl, hd, -⟩
      have hrd := st_read hd sY (by decide)
      rw [show nm sY = yN from rfl, n_get] at hrd
      have Hrd := Lib.hid hrd
      clear hd hrd Hcr
      go_wp2_with fail
      refine Hrd.out.mono ?_
      rintro e w11 ⟨v, rfl, hv, -, -, hd⟩
      have hv' : OwnB w11 5 v ((a ++ b).take a.length) := hv
      have Hv := Lib.hid hv'
      have Hd := Lib.hid hd
      clear hd hv hv' Hrd
      obtain ⟨i0, hi, hz0, hz1, hz2⟩ := info_parts (show (Try.prog.info? 5).map (fun i => (i.zero, i.size, i.bytes)) = some (some (.int .u8 0), 1, 1) by kernel_rfl)
      have X11 := Lib.hid ((Below.refl w11.heap.size w11).alloc (Nat.le_refl _) (.cells #[] 5))
      have Haw := Lib.hid (show Holds (w11.alloc (.cells #[] 5)) 1 (.slice pa na ca) na (bytesV a) from by
        have h := (Ha.out.below Hd.out.below).below X11.out
        unfold HasB at h
        rw [Hna.out] at h
        exact h)
      go_wp2_with (first | (at_builtin; refine wpList_app (w11.alloc (.cells #[] 5)) rfl (.tmp 89) (.tmp 90) 23 rfl 5 i0 (.int .u8 0) 1 1 Try.underlying23 hi hz0 hz1 hz2 rfl (by decide) (.slice (some ⟨w11.heap.size, 0, none⟩) 0 0) 0 [] rfl (own_empty w11 _) (.slice pa na ca) na (bytesV a) rfl Haw.out (bytesV_one _) (by unfold maxLen; omega) (by omega) ?_; intro v12 w12 hown12 hgrow12 hloc12; rw [Nat.zero_add, List.nil_append] at hown12; have hX := X11.out.grown hgrow12 X11.out.size (fun j e => by simp [Value.ownBlock] at e; omega); have hnew := own_ge (B := w11.heap.size) hloc12 (fun k hk => by simp [Value.ownBlock] at hk; omega) X11.out.size; have X12 := Lib.hid (And.intro hX (And.intro hown12 hnew)); clear hown12 hgrow12 hloc12 hX hnew))
      have hsm := same_calls (l := a) (m := a) (by have h := Hv.out.has.below X12.out.1; rw [List.take_left] at h; exact h) (OwnB.has (show OwnB w12 5 v12 a from by unfold OwnB; rw [Hna.out]; exact X12.out.2.1)) (by rw [Hna.out]; exact la) (by rw [Hna.out]; exact la)
      rw [beq_self_eq_true] at hsm
      have Hsm := Lib.hid hsm
      clear hsm
      refine Hsm.out.mono ?_
      rintro e w14 ⟨rfl, q14, rfl⟩
      have Hkn := Lib.hid (known_calls (w12.drewN q14))
      have Hb3 := Lib.hid ((Hd.out.next X12.out.1).drewN q14).below
      clear Hsm
      go_wp2_with fail
      refine Hkn.out.mono ?_
      rintro e w15 ⟨rfl, hb4⟩
      have Hb4 := Lib.hid (Hb3.out.trans (hb4.mono Hb3.out.size))
      clear hb4
      go_wp2_with fail
      go_ret
      exact ⟨rfl, Hb4.out⟩
    · have hsy := st_sync Hd.out [sX] w5.heap.size 1 rfl (0, 0) (by decide) (by decide)
      rw [show [sX].map nm = [xN] from rfl, n_sync2] at hsy
      have Hsy := Lib.hid hsy
      clear hsy Hd
      go_wp2_with fail
      refine Hsy.out.mono ?_
      rintro e w5b ⟨rfl, hd, -⟩
      have Hd := Lib.hid hd
      clear hd Hsy
      go_wp2_with fail
      have hrn := st_rename Hd.out sX sY (by decide) (by decide)
      rw [show nm sX = xN from rfl, show nm sY = yN from rfl, n_ren] at hrn
      refine hrn.mono ?_
      clear hrn
      rintro e w6 ⟨rfl, hd, -⟩
      have Hli := Lib.hid (st_list hd)
      clear hd Hd
      go_wp2_with fail
      refine Hli.out.mono ?_
      rintro e w7 ⟨v7, rfl, hv7, -, -, hd⟩
      rw [n_names] at hv7
      have htx := texts_calls (HasN.below (OwnN.has hv7) ((Below.refl _ _).alloc (Nat.le_refl _) (.cells #[.string sY] 9))) (has_names (w := w7) #[.string sY] [yN] _ 1 1 rfl rfl rfl 9 (0, 0)) (by decide) (by decide)
      rw [beq_self_eq_true] at htx
      have Htx := Lib.hid htx
      have Hd := Lib.hid hd
      clear hd htx hv7 Hli
      go_wp2_with fail
      refine Htx.out.mono ?_
      rintro e w8 ⟨rfl, q8, rfl⟩
      have hrn := st_rename ((Hd.out.alloc (.cells #[.string sY] 9)).drewN q8) sX sZ2 (by decide) (by decide)
      rw [show nm sX = xN from rfl, show nm sZ2 = zzN from rfl, n_ren2] at hrn
      have Hrn := Lib.hid hrn
      clear hrn Hd Htx
      go_wp2_with fail
      refine Hrn.out.mono ?_
      rintro e w9 ⟨rfl, hd, -⟩
      have Hcr := Lib.hid (st_crash hd 0 (by decide) (by decide))
      clear hd Hrn
      go_wp2_with fail
      refine Hcr.out.mono ?_
      rintro e w10 ⟨rfl, hd, -⟩
      have hrd := st_read hd sY (by decide)
      rw [show nm sY = yN from rfl, n_get] at hrd
      have Hrd := Lib.hid hrd
      clear hd hrd Hcr
      go_wp2_with fail
      refine Hrd.out.mono ?_
      rintro e w11 ⟨v, rfl, hv, -, -, hd⟩
      have hv' : OwnB w11 5 v ((a ++ b).take (a ++ b).length) := hv
      have Hv := Lib.hid hv'
      have Hd := Lib.hid hd
      clear hd hv hv' Hrd
      obtain ⟨i0, hi, hz0, hz1, hz2⟩ := info_parts (show (Try.prog.info? 5).map (fun i => (i.zero, i.size, i.bytes)) = some (some (.int .u8 0), 1, 1) by kernel_rfl)
      have X11 := Lib.hid ((Below.refl w11.heap.size w11).alloc (Nat.le_refl _) (.cells #[] 5))
      have Haw := Lib.hid (show Holds (w11.alloc (.cells #[] 5)) 1 (.slice pa na ca) na (bytesV a) from by
        have h := (Ha.out.below Hd.out.below).below X11.out
        unfold HasB at h
        rw [Hna.out] at h
        exact h)
      have Hbw := Lib.hid (show ∀ W, Below w11.heap.size w11 W → Holds W 1 (.slice pb nb cb) nb (bytesV b) from fun W hW => by
        have h := (Hb.out.below Hd.out.below).below hW
        unfold HasB at h
        rw [Hnb.out] at h
        exact h)
      go_wp2_with (first | (at_builtin; refine wpList_app (w11.alloc (.cells #[] 5)) rfl (.tmp 89) (.tmp 90) 23 rfl 5 i0 (.int .u8 0) 1 1 Try.underlying23 hi hz0 hz1 hz2 rfl (by decide) (.slice (some ⟨w11.heap.size, 0, none⟩) 0 0) 0 [] rfl (own_empty w11 _) (.slice pa na ca) na (bytesV a) rfl Haw.out (bytesV_one _) (by unfold maxLen; omega) (by omega) ?_; intro v12 w12 hown12 hgrow12 hloc12; rw [Nat.zero_add, List.nil_append] at hown12; have hX := X11.out.grown hgrow12 X11.out.size (fun j e => by simp [Value.ownBlock] at e; omega); have hnew := own_ge (B := w11.heap.size) hloc12 (fun k hk => by simp [Value.ownBlock] at hk; omega) X11.out.size; have X12 := Lib.hid (And.intro hX (And.intro hown12 hnew)); clear hown12 hgrow12 hloc12 hX hnew) | (at_builtin; refine wpList_app w12 rfl (.tmp 93) (.tmp 94) 23 rfl 5 i0 (.int .u8 0) 1 1 Try.underlying23 hi hz0 hz1 hz2 rfl (by decide) v12 na (bytesV a) rfl X12.out.2.1 (.slice pb nb cb) nb (bytesV b) rfl (Hbw.out _ X12.out.1) (bytesV_one _) (by unfold maxLen; omega) (by omega) ?_; intro v13 w13 hown13 hgrow13 hloc13; have hX := X12.out.1.grown hgrow13 X12.out.1.size X12.out.2.2; have X13 := Lib.hid (And.intro hX hown13); clear hown13 hgrow13 hloc13 hX))
      have hsm := same_calls (l := a ++ b) (m := a ++ b) (by have h := Hv.out.has.below X13.out.1; rw [List.take_length] at h; exact h) (OwnB.has (show OwnB w13 5 v13 (a ++ b) from by unfold OwnB; rw [List.length_append, Hna.out, Hnb.out, bytesV_app]; exact X13.out.2)) (by rw [List.length_append, Hna.out, Hnb.out]; omega) (by rw [List.length_append, Hna.out, Hnb.out]; omega)
      rw [beq_self_eq_true] at hsm
      have Hsm := Lib.hid hsm
      clear hsm
      refine Hsm.out.mono ?_
      rintro e w14 ⟨rfl, q14, rfl⟩
      have Hkn := Lib.hid (known_calls (w13.drewN q14))
      have Hb3 := Lib.hid ((Hd.out.next X13.out.1).drewN q14).below
      clear Hsm
      go_wp2_with fail
      refine Hkn.out.mono ?_
      rintro e w15 ⟨rfl, hb4⟩
      have Hb4 := Lib.hid (Hb3.out.trans (hb4.mono Hb3.out.size))
      clear hb4
      go_wp2_with fail
      go_ret
      exact ⟨rfl, Hb4.out⟩
  · generalize a.length = na at *
    generalize b.length = nb at *
    generalize c.length = nc at *
    clear ha hb hc
    go_enter Try.func8, Try.ntmps8
    go_wp2_with fail
    go_ret
    exact ⟨rfl, Below.refl _ _⟩
end Go.Proofs.Ytdlbamhabenhgaa

namespace Go.Proofs.Ytdlbamhabenhgaa
open Go.RowKit Go.Sat Go.Maps

def flens (L : List RFile) : Nat := (L.map fun x => x.f.data.length).sum

theorem flens_take (L : List RFile) {k : Nat} {x : RFile} (h : L[k]? = some x) : flens (L.take (k + 1)) = flens (L.take k) + x.f.data.length := by
  obtain ⟨hk, rfl⟩ := List.getElem?_eq_some_iff.1 h
  rw [List.take_succ_eq_append_getElem hk]
  simp only [flens, List.map_append, List.map_cons, List.map_nil, List.sum_append, List.sum_cons, List.sum_nil, Nat.add_zero]

theorem flens_le (L : List RFile) (k : Nat) : flens (L.take k) ≤ flens L := by
  have e : flens L = flens (L.take k) + flens (L.drop k) := by
    conv => lhs; rw [← List.take_append_drop k L]
    simp only [flens, List.map_append, List.sum_append]
  omega

section
variable {w : World} {r : Nat} {v : Value} {L : List RFile} {own : Nat → Prop} {D : DiskM}

theorem RefIn.used (h : RefIn w r v L own D) : D.used = flens L := by
  unfold DiskM.used sumBy flens
  rw [h.files, List.map_map]
  rfl

theorem RefIn.len_le (h : RefIn w r v L own D) {k : Nat} {x : RFile} (hx : L[k]? = some x) : x.f.data.length ≤ 1073741824 := by
  have h1 := flens_take L hx
  have h2 := flens_le L (k + 1)
  have h3 := h.used
  have h4 := h.ok.used
  have h5 := h.ok.room
  omega

set_option maxRecDepth 100000 in
set_option maxHeartbeats 1000000 in
theorem rused_calls (h : RefIn w r v L own D) :
    Calls Try.prog 68 #[.pointer (some ⟨r, 0, none⟩)] w fun e w' => e = .returned (.int .i64 (D.used : Int)) ∧ w' = w := by
  obtain ⟨p, c, rfl⟩ := h.slice
  have c1 := h.c1
  have Hat := Lib.hid h.at
  have Hda := Lib.hid h.data
  have hcount : L.length ≤ 4096 := by rw [h.len]; exact h.ok.count
  have Hus := Lib.hid h.used
  have hub : D.used ≤ 1073741824 := Nat.le_trans h.ok.used h.ok.room
  rw [h.used] at hub ⊢
  have Hub := Lib.hid hub
  clear h hub
  generalize hN : L.length = N at *
  have HN := Lib.hid hN
  clear hN
  go_enter Try.func68, Try.ntmps68
  go_wp2_with fail
  go_loop [3, 4] (fun a i => ∃ k : Nat, k ≤ N ∧ i = .int .i64 k ∧ a = .int .i64 (flens (L.take k) : Int)) (fun _ i => N - (intOf i).toNat)
  case atStart => exact ⟨0, Nat.zero_le _, rfl, rfl⟩
  case round =>
    obtain ⟨k, hk, rfl, rfl⟩ := hrel
    by_cases hlt : k < N
    · have hkl : k < L.length := by rw [HN.out]; exact hlt
      obtain ⟨y, hy⟩ : ∃ y, L[k]? = some y := ⟨_, List.getElem?_eq_getElem hkl⟩
      have hym : y ∈ L := List.mem_of_getElem? hy
      rcases Hat.out with h0 | ⟨g, c1, e1, -, hc⟩
      · rw [h0] at hkl
        simp at hkl
      cases e1
      obtain ⟨-, hn1, -⟩ := hc k y hy
      obtain ⟨pb, cb, eb⟩ := HasB.slice (Hda.out y hym).has
      rw [eb] at hn1
      have hl := flens_take L hy
      have hle := flens_le L (k + 1)
      have Hl := Lib.hid hl
      have hb1 : flens (L.take k) + y.f.data.length ≤ 1073741824 := by have := Hub.out; omega
      clear hc hkl hy hym eb hl hle
      generalize y.f.data.length = m at *
      generalize hC : flens (L.take k) = C at *
      go_wp2_with fail
      go_round
      case rel => exact ⟨k + 1, by omega, by go_num, by rw [Hl.out]; go_num⟩
      case measure => simp [intOf]; omega
    · have e : L.take k = L := List.take_of_length_le (by rw [HN.out]; omega)
      rw [e]
      go_wp2_with fail
      go_ret
      exact ⟨rfl, rfl⟩

set_option maxRecDepth 100000 in
set_option maxHeartbeats 1000000 in
theorem rread_calls (h : RefIn w r v L own D) (s : ByteArray) :
    Calls Try.prog 48 #[.pointer (some ⟨r, 0, none⟩), .string s] w (ReadPost w (Sat.get (nm s) D.files)) := by
  have hsp := spot_calls h s
  rw [h.is] at hsp
  have c1 := h.c1
  cases hg : Sat.get (nm s) D.files with
  | none =>
    rw [hg] at hsp
    have Hsp := Lib.hid hsp
    clear hsp c1 h
    go_enter Try.func48, Try.ntmps48
    go_wp2_with fail
    refine Hsp.out.mono ?_
    rintro e w2 ⟨rfl, q, rfl⟩
    go_wp2_with fail
    go_ret2
    exact ⟨.slice none 0 0, rfl, OwnR.nil _ _ _, fun k hk => (by cases hk), ⟨rfl, rfl, rfl, Nat.le_refl _, fun _ _ => rfl⟩⟩
  | some f =>
    rw [hg] at hsp
    obtain ⟨x, hx, hxn, rfl⟩ := h.hit hg
    have hlm := h.len_le hx
    have hd := (h.data x (List.mem_of_getElem? hx)).has
    have hN : spotN (nm s) (L.map RFile.n) < L.length := (List.getElem?_eq_some_iff.1 hx).1
    generalize spotN (nm s) (L.map RFile.n) = i at *
    rcases h.at with h0 | ⟨g, c0, rfl, hlc, hc⟩
    · rw [h0] at hN
      simp at hN
    obtain ⟨-, hn1, -⟩ := hc i x hx
    obtain ⟨pb, cb, eb⟩ := HasB.slice hd
    rw [eb] at hn1 hd
    have hrlt : r < w.heap.size := h.olt r h.or
    have hglt : g < w.heap.size := h.olt g (h.ov g rfl).1
    have Hsp := Lib.hid hsp
    have Hd := Lib.hid hd
    have hDa : dataOf (some x.f) = x.f.data := rfl
    generalize x.f.data = l at *
    generalize hlen : l.length = m at *
    have Hlen := Lib.hid hlen
    obtain ⟨i0, hi, hz0, hz1, hz2⟩ := info_parts (show (Try.prog.info? 5).map (fun i => (i.zero, i.size, i.bytes)) = some (some (.int .u8 0), 1, 1) by kernel_rfl)
    clear hsp h hc hx hd hg hlen
    go_enter Try.func48, Try.ntmps48
    go_wp2_with fail
    refine Hsp.out.mono ?_
    rintro e w2 ⟨rfl, q, rfl⟩
    have hX8 : Below w.heap.size w (w.drewN q) := ⟨rfl, rfl, rfl, Nat.le_refl _, fun _ _ => rfl⟩
    have X11 := Lib.hid (hX8.alloc (Nat.le_refl _) (.cells #[] 5))
    have Hdw := Lib.hid (show Holds ((w.drewN q).alloc (.cells #[] 5)) 1 (.slice pb m cb) m (bytesV l) from by
      have h := Hd.out.below X11.out
      unfold HasB at h
      rw [Hlen.out] at h
      exact h)
    have c1w := (X11.out.cell (p := ⟨r, 1, none⟩) hrlt).trans c1
    have hn1w := (X11.out.cell (p := ⟨g, i * 3 + 1, none⟩) hglt).trans hn1
    clear hX8
    go_wp2_with (at_builtin; refine wpList_app ((w.drewN q).alloc (.cells #[] 5)) rfl (.tmp 16) (.tmp 24) 23 rfl 5 i0 (.int .u8 0) 1 1 Try.underlying23 hi hz0 hz1 hz2 rfl (by decide) (.slice (some ⟨w.heap.size, 0, none⟩) 0 0) 0 [] rfl (own_empty (w.drewN q) _) (.slice pb m cb) m (bytesV l) rfl Hdw.out (bytesV_one _) (by unfold maxLen; omega) (by omega) ?_; intro v12 w12 hown12 hgrow12 hloc12; rw [Nat.zero_add, List.nil_append] at hown12; have hX := X11.out.grown hgrow12 X11.out.size (fun j e => by simp [Value.ownBlock] at e; omega); have hnew := own_ge (B := w.heap.size) hloc12 (fun k hk => by simp [Value.ownBlock] at hk; omega) X11.out.size; have X12 := Lib.hid (And.intro hX (And.intro hown12 hnew)); clear hown12 hgrow12 hloc12 hX hnew)
    go_ret2
    refine ⟨v12, rfl, ?_, X12.out.2.2, X12.out.1⟩
    unfold OwnB
    rw [hDa, Hlen.out]
    exact X12.out.2.1

theorem str_one {w : World} (x : Bs) : Holds (w.alloc (.cells #[.string ⟨x.toArray⟩] 9)) 1 (.slice (some ⟨w.heap.size, 0, none⟩) 1 1) 1 [encStr x] := has_names (w := w) #[.string ⟨x.toArray⟩] [x] _ 1 1 rfl rfl rfl 9 (0, 0)

set_option maxRecDepth 100000 in
set_option maxHeartbeats 1000000 in
theorem rlist_calls (h : RefIn w r v L own D) :
    Calls Try.prog 47 #[.pointer (some ⟨r, 0, none⟩)] w (Listed w D) := by
  obtain ⟨p, c, rfl⟩ := h.slice
  have c1 := h.c1
  have Hat := Lib.hid h.at
  have hcount : L.length ≤ 4096 := by rw [h.len]; exact h.ok.count
  have hnames : namesOf D = L.map RFile.n := by rw [h.names]; rfl
  have hrlt : r < w.heap.size := h.olt r h.or
  have hglt : ∀ k, (Value.slice p L.length c).ownBlock = some k → k < w.heap.size := fun k hk => h.olt k (h.ov k hk).1
  have Hnames := Lib.hid hnames
  have Hglt := Lib.hid hglt
  clear h hnames hglt
  have hNn : (L.map RFile.n).length = L.length := List.length_map ..
  have HNn := Lib.hid hNn
  generalize hN : L.length = N at *
  have HN := Lib.hid hN
  clear hN hNn
  obtain ⟨i0, hi, hz0, hz1, hz2⟩ := info_parts (show (Try.prog.info? 9).map (fun i => (i.zero, i.size, i.bytes)) = some (some (.string ⟨#[]⟩), 1, 16) by kernel_rfl)
  go_enter Try.func47, Try.ntmps47
  go_wp2_with fail
  go_loopw [3, 4] (fun a i wr => ∃ k : Nat, k ≤ N ∧ i = .int .i64 k ∧ OwnR wr 9 1 a k (((L.map RFile.n).take k).map encStr) ∧ (∀ j, a.ownBlock = some j → w.heap.size ≤ j) ∧ Below w.heap.size w wr) (fun _ i _ => N - (intOf i).toNat)
  case atStart => exact ⟨0, Nat.zero_le _, rfl, OwnR.nil _ _ _, fun j hj => (by cases hj), Below.refl _ _⟩
  case round =>
    obtain ⟨k, hk, rfl, hown, hnew, hbel⟩ := hrel
    have c1' := (hbel.cell (p := ⟨r, 1, none⟩) hrlt).trans c1
    by_cases hlt : k < N
    · have hkl : k < L.length := by rw [HN.out]; exact hlt
      obtain ⟨y, hy⟩ : ∃ y, L[k]? = some y := ⟨_, List.getElem?_eq_getElem hkl⟩
      have hyn : (L.map RFile.n)[k]? = some y.n := by rw [List.getElem?_map, hy]; rfl
      have htk : (L.map RFile.n).take (k + 1) = (L.map RFile.n).take k ++ [y.n] := by rw [List.take_add_one, hyn]; rfl
      rcases Hat.out with h0 | ⟨g, cc, e1, -, hc⟩
      · rw [h0] at hkl
        simp at hkl
      cases e1
      obtain ⟨hn0, -, -⟩ := hc k y hy
      have hn0' := (hbel.cell (p := ⟨g, k * 3, none⟩) (Hglt.out g rfl)).trans hn0
      rw [enc_str] at hn0'
      obtain ⟨pa, ca, rfl⟩ := OwnR.shape hown
      have Htk := Lib.hid htk
      have Hown := Lib.hid (OwnR.keep hown fun j hj => heap_alloc_old wr (.cells #[.string ⟨y.n.toArray⟩] 9) (OwnR.lt hown hj))
      have Hnew := Lib.hid hnew
      have Hbel := Lib.hid (hbel.alloc hbel.size (.cells #[.string ⟨y.n.toArray⟩] 9))
      have Hstr := Lib.hid (str_one (w := wr) y.n)
      clear hown hnew hbel hc hn0 hy hyn htk hkl
      generalize y.n = x at *
      go_wp2_with (at_builtin; refine wpList_app (wr.alloc (.cells #[.string ⟨x.toArray⟩] 9)) rfl (.tmp 14) (.tmp 23) 40 rfl 9 i0 (.string ⟨#[]⟩) 1 16 Try.underlying40 hi hz0 hz1 hz2 rfl (by decide) (.slice pa k ca) k _ rfl Hown.out (.slice (some ⟨wr.heap.size, 0, none⟩) 1 1) 1 [encStr x] rfl Hstr.out (fun u hu => by simp at hu; subst hu; rfl) (by unfold maxLen; omega) (by omega) ?_; intro v12 w12 hown12 hgrow12 hloc12; have X12 := Lib.hid (And.intro hown12 (And.intro hgrow12 hloc12)); clear hown12 hgrow12 hloc12)
      go_roundw
      case rel =>
        refine ⟨k + 1, by omega, by go_num, ?_, own_ge X12.out.2.2 Hnew.out Hbel.out.size, Hbel.out.grown X12.out.2.1 Hbel.out.size (fun j hj => Hnew.out j hj)⟩
        have h1 := X12.out.1
        rw [Htk.out, List.map_append]
        exact h1
      case measure => simp [intOf]; omega
    · have hkN : k = N := by omega
      subst hkN
      have e : (L.map RFile.n).take k = L.map RFile.n := List.take_of_length_le (by rw [HNn.out]; exact Nat.le_refl _)
      rw [e] at hown
      obtain ⟨pa, ca, rfl⟩ := OwnR.shape hown
      have Hf := Lib.hid (show Listed w D (.returned (.slice pa k ca)) wr from ⟨_, rfl, by unfold OwnN; rw [Hnames.out, HNn.out]; exact hown, hnew, hbel⟩)
      clear hown hnew hbel
      go_wp2_with fail
      go_ret
      exact Hf.out
end
end Go.Proofs.Ytdlbamhabenhgaa

namespace Go.Proofs.Ytdlbamhabenhgaa
open Go.RowKit Go.Sat Go.Maps

set_option maxRecDepth 100000 in
set_option maxHeartbeats 4000000 in
theorem clear_calls {w w1 : World} {d : Nat} {D : DiskM} {F : Nat → Prop} (h : St w w1 d D F) (s : ByteArray) {p : Option Addr} {n c : Nat} {stay : List Bs} (hx : ∀ W, Below w.heap.size w W → Same F w1 W → HasN W (.slice p n c) stay) (hn : stay.length ≤ 140737488355328) :
    Calls Try.prog 38 #[.pointer (some ⟨d, 0, none⟩), .string s, .slice p n c] w1 (Told w d F w1 (D.clear (nm s) stay)) := by
  have Hst := Lib.hid h
  have Hl := Lib.hid (st_list h)
  have Hx := Lib.hid hx
  have hcount := h.ok.count
  have Hnames := Lib.hid h.ok.names
  clear h hx
  unfold DiskM.clear
  have hnl : (namesOf D).length ≤ 4096 := by unfold namesOf; rw [List.length_map]; exact hcount
  have hno : ∀ x ∈ namesOf D, x.length ≤ 64 := by
    intro x hx
    obtain ⟨q, hq, rfl⟩ := List.mem_map.1 hx
    exact (okN_string (Hnames.out q hq)).2
  have Hno := Lib.hid hno
  clear Hnames hno hcount
  generalize hns : namesOf D = ns at *
  have Hns := Lib.hid hns
  generalize hN : ns.length = N at *
  have HN := Lib.hid hN
  clear hns hN
  go_enter Try.func38, Try.ntmps38
  go_wp2_with fail
  refine Hl.out.mono ?_
  rintro e w2 ⟨v, rfl, hv, hnew, hb, hst⟩
  rw [Hns.out] at hv
  have hv' : HasN w2 v ns := OwnR.holds hv
  obtain ⟨pv, cv, rfl⟩ := hv'.slice
  have hvl : N ≠ 0 → ∀ k, (Value.slice pv ns.length cv).ownBlock = some k → k < w2.heap.size := fun hne k hk => by
    rcases hv'.at with rfl | ⟨b, o, c', e, hc⟩
    · exact absurd HN.out.symm hne
    · have hlt : 0 < ns.length := by rw [HN.out]; omega
      have h1 := World.block_lt_of_cell? w2 _ (hc 0 ns[0] (List.getElem?_eq_getElem hlt))
      rw [e] at hk
      cases hk
      exact h1
  rw [HN.out] at hv' hvl
  have hst2 : St w w2 d D (fun k => F k ∨ (N ≠ 0 ∧ (Value.slice pv N cv).ownBlock = some k)) := Hst.out.move (S := fun _ => False) (Chg.of_below hb) (fun _ _ h => h.elim) fun k hk => by
    rcases hk with hk | ⟨hne, hk⟩
    · exact ⟨.inl hk, Nat.lt_of_lt_of_le (Hst.out.flt hk) hb.size⟩
    · exact ⟨.inr (hnew k (by rw [HN.out]; exact hk)), hvl hne k hk⟩
  have Hs2 := Lib.hid (same_below Hst.out hb : Same F w1 w2)
  have Hv := Lib.hid hv'
  have Hst2 := Lib.hid hst2
  clear hv hv' hnew hb hst hvl hst2
  rw [HN.out]
  go_wp2_with fail
  go_loopw [15] (fun i wr => ∃ (k : Nat) (Dk : DiskM), k ≤ N ∧ i = .int .i64 k ∧ St w wr d Dk (fun k => F k ∨ (N ≠ 0 ∧ (Value.slice pv N cv).ownBlock = some k)) ∧ Same (fun k => F k ∨ (N ≠ 0 ∧ (Value.slice pv N cv).ownBlock = some k)) w2 wr ∧ DiskM.clearL (nm s) stay D ns = DiskM.clearL (nm s) stay Dk (ns.drop k)) (fun i _ => N - (intOf i).toNat)
  case atStart => exact ⟨0, D, Nat.zero_le _, rfl, Hst2.out, fun _ _ => rfl, rfl⟩
  case round =>
    obtain ⟨k, Dk, hk, rfl, hr, hsame, hcl⟩ := hrel
    by_cases hlt : k < N
    · have hkl : k < ns.length := by rw [HN.out]; exact hlt
      rw [List.drop_eq_getElem_cons hkl] at hcl
      rcases Hv.out.at with h0 | ⟨b, o, c1, e1, hc⟩
      · rw [h0] at hkl
        simp at hkl
      rw [HN.out] at e1
      cases e1
      have hcw := (World.cell?_of_block (a := ⟨b, o + k, none⟩) (hsame b (.inr ⟨by omega, rfl⟩))).trans (hc k _ (List.getElem?_eq_getElem hkl))
      rw [enc_str] at hcw
      have hx64 := Hno.out _ (List.getElem_mem hkl)
      generalize ns[k] = x at *
      have hxs : (⟨x.toArray⟩ : ByteArray).size ≤ 9223372036854775807 := by
        have : (⟨x.toArray⟩ : ByteArray).size = x.length := by rw [← nm_len, nm_str]
        omega
      have hstay : HasN wr (.slice p n c) stay := Hx.out wr hr.below fun k hk => (hsame k (.inl hk)).trans (Hs2.out k hk)
      have hCon := contains_calls hstay (by omega) x
      have hPre := prefix_calls wr x s
      have Hr := Lib.hid hr
      have Hsame := Lib.hid hsame
      have Hcl := Lib.hid hcl
      clear hr hsame hcl hstay hc hkl
      cases hp : (nm s).isPrefixOf x with
      | false =>
        rw [hp] at hPre
        have HPre := Lib.hid hPre
        clear hPre hCon
        go_wp2_with fail
        refine HPre.out.mono ?_
        rintro e w3 ⟨rfl, rfl⟩
        go_wp2_with fail
        go_roundw
        case rel => exact ⟨k + 1, Dk, by omega, by go_num, Hr.out, Hsame.out, Hcl.out.trans (DiskM.clearL_skip (by unfold skipN; rw [hp]; rfl))⟩
        case measure => simp [intOf]; omega
      | true =>
        rw [hp] at hPre
        have HPre := Lib.hid hPre
        clear hPre
        cases hcn : stay.contains x with
        | true =>
          rw [hcn] at hCon
          have HCon := Lib.hid hCon
          clear hCon
          go_wp2_with fail
          refine HPre.out.mono ?_
          rintro e w3 ⟨rfl, rfl⟩
          go_wp2_with fail
          refine HCon.out.mono ?_
          rintro e w3 ⟨rfl, rfl⟩
          go_wp2_with fail
          go_roundw
          case rel => exact ⟨k + 1, Dk, by omega, by go_num, Hr.out, Hsame.out, Hcl.out.trans (DiskM.clearL_skip (by unfold skipN; rw [hcn]; simp))⟩
          case measure => simp [intOf]; omega
        | false =>
          rw [hcn] at hCon
          have HCon := Lib.hid hCon
          have hskip : skipN (nm s) stay x = false := by unfold skipN; rw [hp, hcn]; rfl
          clear hCon
          have hrm := st_remove Hr.out [(⟨x.toArray⟩ : ByteArray)] wr.heap.size 1 rfl (0, 0) (by simp) (by simpa using hxs)
          rw [show [(⟨x.toArray⟩ : ByteArray)].map nm = [x] from by rw [List.map_cons, nm_str, List.map_nil]] at hrm
          cases hz : DiskM.remove Dk [x] with
          | mk D1 e1 =>
            rw [hz] at hrm
            have Hrm := Lib.hid hrm
            have Hsa := Lib.hid (Hsame.out.trans (same_below Hr.out ((Below.refl wr.heap.size wr).alloc (Nat.le_refl _) (.cells #[.string ⟨x.toArray⟩] 9))))
            clear hrm
            by_cases he : e1 = 0
            · subst he
              go_wp2_with fail
              refine HPre.out.mono ?_
              rintro e w3 ⟨rfl, rfl⟩
              go_wp2_with fail
              refine HCon.out.mono ?_
              rintro e w3 ⟨rfl, rfl⟩
              go_wp2_with fail
              refine Hrm.out.mono ?_
              rintro e w3 ⟨rfl, hst3, hs3⟩
              have Hst3 := Lib.hid (show St w w3 d D1 _ from hst3)
              have Hs3 := Lib.hid (Hsa.out.trans hs3)
              clear hst3 hs3
              go_wp2_with fail
              go_roundw
              case rel => exact ⟨k + 1, D1, by omega, by go_num, Hst3.out, Hs3.out, Hcl.out.trans (DiskM.clearL_go hskip hz)⟩
              case measure => simp [intOf]; omega
            · have hne : ((e1 : Int) != 0) = true := by simp; omega
              go_wp2_with fail
              refine HPre.out.mono ?_
              rintro e w3 ⟨rfl, rfl⟩
              go_wp2_with fail
              refine HCon.out.mono ?_
              rintro e w3 ⟨rfl, rfl⟩
              go_wp2_with fail
              refine Hrm.out.mono ?_
              rintro e w3 ⟨rfl, hst3, hs3⟩
              have Hf := Lib.hid (show Told w d F w1 (DiskM.clearL (nm s) stay D ns) (.returned (.int .i64 (e1 : Int))) w3 from by
                rw [Hcl.out, DiskM.clearL_err hskip hz he]
                exact ⟨rfl, St.less hst3 fun _ hk => .inl hk, fun k hk => (hs3 k (.inl hk)).trans ((Hsa.out k (.inl hk)).trans (Hs2.out k hk))⟩)
              clear hst3 hs3
              go_wp2_with fail
              go_ret
              exact Hf.out
    · have Hf := Lib.hid (show Told w d F w1 (DiskM.clearL (nm s) stay D ns) (.returned (.int .i64 0)) wr from by
        rw [hcl, List.drop_of_length_le (by rw [HN.out]; omega)]
        exact ⟨rfl, hr.less fun _ hk => .inl hk, fun k hk => (hsame k (.inl hk)).trans (Hs2.out k hk)⟩)
      clear hr hsame hcl
      go_wp2_with fail
      go_ret
      exact Hf.out
end Go.Proofs.Ytdlbamhabenhgaa
