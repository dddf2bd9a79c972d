/- The contract of keep.Clear. The document's disk (satrapyref3) in memory. The document's disk: may, did, Used, Fuse, New, Read; where names stand. DiskKeeps: the walk. DiskNames: what the disk keeps (a plain law). DiskNames: the walk. -/
import Derived.Sort.Walk0
import Derived.Test.YtdlbamhabenhgaaShelf
import Derived.Test.YtdlbamhabenhgaaUD
import Derived.Test.YtdlbamhabenhgaaUE
namespace Go.Sat
open Go.RowKit
/-- Names that begin with pre and are not to stay go. -/
def skipN (pre : Bs) (stay : List Bs) (n : Bs) : Bool := !(pre.isPrefixOf n) || stay.contains n
end Go.Sat

namespace Go.Proofs.Ytdlbamhabenhgaa
open Go.RowKit Go.Sat Go.Maps

namespace DiskM
def clearL (pre : Bs) (stay : List Bs) (D : DiskM) : List Bs → DiskM × Nat
  | [] => (D, 0)
  | n :: r => if skipN pre stay n then clearL pre stay D r else if (D.remove [n]).2 = 0 then clearL pre stay (D.remove [n]).1 r else D.remove [n]
def clear (D : DiskM) (pre : Bs) (stay : List Bs) : DiskM × Nat := clearL pre stay D (namesOf D)

theorem clearL_skip {pre : Bs} {stay : List Bs} {D : DiskM} {n : Bs} {r : List Bs} (h : skipN pre stay n = true) : clearL pre stay D (n :: r) = clearL pre stay D r := by
  show (if skipN pre stay n then _ else _) = _
  rw [if_pos h]
theorem clearL_go {pre : Bs} {stay : List Bs} {D D' : DiskM} {n : Bs} {r : List Bs} (h : skipN pre stay n = false) (hr : D.remove [n] = (D', 0)) : clearL pre stay D (n :: r) = clearL pre stay D' r := by
  show (if skipN pre stay n then _ else if (D.remove [n]).2 = 0 then clearL pre stay (D.remove [n]).1 r else D.remove [n]) = _
  rw [if_neg (by simp [h]), hr, if_pos rfl]
theorem clearL_err {pre : Bs} {stay : List Bs} {D D' : DiskM} {n : Bs} {r : List Bs} {e : Nat} (h : skipN pre stay n = false) (hr : D.remove [n] = (D', e)) (he : e ≠ 0) : clearL pre stay D (n :: r) = (D', e) := by
  show (if skipN pre stay n then _ else if (D.remove [n]).2 = 0 then clearL pre stay (D.remove [n]).1 r else D.remove [n]) = _
  rw [if_neg (by simp [h]), hr, if_neg he]
end DiskM

theorem enc_str (x : Bs) : encStr x = .string ⟨x.toArray⟩ := rfl
theorem nm_str (x : Bs) : nm ⟨x.toArray⟩ = x := by simp [nm]

theorem HasN.same {w w' : World} {v : Value} {l : List Bs} (h : HasN w v l) (hs : ∀ k, v.ownBlock = some k → w'.heap[k]? = w.heap[k]?) : HasN w' v l := by
  obtain ⟨hl, p, cap, rfl, h0, hc⟩ := h
  refine ⟨hl, p, cap, rfl, h0, fun a ha i u hu => ?_⟩
  have hb : (a.add i).block = a.block := add_block _ _
  exact (World.cell?_of_block (by rw [hb]; exact hs _ (by rw [ha]; rfl))).trans (hc a ha i u hu)

theorem contains_calls {w : World} {v : Value} {l : List Bs} (h : HasN w v l) (hl : l.length ≤ 9223372036854775807) (x : Bs) :
    Calls Try.prog 70 #[v, .string ⟨x.toArray⟩] w fun e w' => e = .returned (.bool (l.contains x)) ∧ w' = w := by
  rcases h.at with rfl | ⟨b, o, c, rfl, hc⟩
  · obtain ⟨p, c, rfl⟩ := h.slice
    exact Try.slices_Contains_string_empty p c _ w
  · have H := Try.slices_Contains_string b o l.length c (l.map fun x => (⟨x.toArray⟩ : ByteArray)) ⟨x.toArray⟩ w (by simp) hl (fun j hj => by
      have hj' : j < l.length := by simpa using hj
      rw [hc j l[j] (List.getElem?_eq_getElem hj'), enc_str]
      simp [List.getD_eq_getElem?_getD, hj'])
    have e : Lib.containsS ((l.map fun x => (⟨x.toArray⟩ : ByteArray)).take l.length) ⟨x.toArray⟩ = l.contains x := by
      rw [List.take_of_length_le (by simp), Bool.eq_iff_iff, Lib.containsS_iff, List.contains_iff_mem, List.mem_map]
      constructor
      · rintro ⟨y, hy, e⟩
        have : y = x := by
          have := congrArg nm e
          rwa [nm_str, nm_str] at this
        rwa [this] at hy
      · intro hx
        exact ⟨x, hx, rfl⟩
    rw [e] at H
    exact H

theorem prefix_calls (w : World) (x : Bs) (s : ByteArray) :
    Calls Try.prog 69 #[.string ⟨x.toArray⟩, .string s] w fun e w' => e = .returned (.bool ((nm s).isPrefixOf x)) ∧ w' = w := by
  have H := Try.strings_HasPrefix ⟨x.toArray⟩ s w
  exact H
end Go.Proofs.Ytdlbamhabenhgaa

namespace Go.Proofs.Ytdlbamhabenhgaa
open Go.RowKit Go.Sat Go.Maps

/-- A file of the document's disk: its name, the value of its bytes, what it is. -/
structure RFile where
  n : Bs
  b : Value
  f : FileM

def RFile.cells (x : RFile) : List Value := [encStr x.n, x.b, .int .i64 (x.f.lasts : Int)]
def RFile.key (x : RFile) : Bs × FileM := (x.n, x.f)

def leftOf : Option Nat → Int
  | none => -1
  | some k => k

theorem cells_len (L : List RFile) : (L.flatMap RFile.cells).length = L.length * 3 := by
  induction L with
  | nil => rfl
  | cons x r ih => rw [List.flatMap_cons, List.length_append, ih, List.length_cons]; simp [RFile.cells]; omega

theorem cells_at (L : List RFile) (i : Nat) (x : RFile) (h : L[i]? = some x) (j : Nat) (hj : j < 3) : (L.flatMap RFile.cells)[i * 3 + j]? = x.cells[j]? := by
  induction L generalizing i with
  | nil => simp at h
  | cons y r ih =>
    rw [List.flatMap_cons]
    cases i with
    | zero =>
      simp at h
      subst h
      rw [List.getElem?_append_left (by simp [RFile.cells]; omega)]
      simp
    | succ i =>
      rw [List.getElem?_append_right (by simp [RFile.cells]; omega)]
      have e : (i + 1) * 3 + j - y.cells.length = i * 3 + j := by simp [RFile.cells]; omega
      rw [e]
      exact ih i (by simpa using h)

structure RefIn (w : World) (r : Nat) (v : Value) (L : List RFile) (own : Nat → Prop) (D : DiskM) : Prop where
  cells : w.heap[r]? = some (.cells #[.int .i64 (D.room : Int), v, .int .i64 (leftOf D.fuse)] 94 (0, 0))
  row : OwnR w 96 3 v L.length (L.flatMap RFile.cells)
  files : D.files = L.map RFile.key
  data : ∀ x ∈ L, OwnB w 5 x.b x.f.data
  or : own r
  ov : ∀ k, v.ownBlock = some k → own k ∧ k ≠ r
  ob : ∀ x ∈ L, ∀ k, x.b.ownBlock = some k → own k ∧ k ≠ r ∧ v.ownBlock ≠ some k
  olt : ∀ k, own k → k < w.heap.size
  ok : D.OK

def RefAt (w : World) (r : Nat) (D : DiskM) (own : Nat → Prop) : Prop := ∃ v L, RefIn w r v L own D

theorem RefIn.keep {w w' : World} {r : Nat} {v : Value} {L : List RFile} {own : Nat → Prop} {D : DiskM} (h : RefIn w r v L own D) (hs : w.heap.size ≤ w'.heap.size) (hb : ∀ k, own k → w'.heap[k]? = w.heap[k]?) : RefIn w' r v L own D where
  cells := (hb r h.or).trans h.cells
  row := h.row.keep fun k hk => hb k (h.ov k hk).1
  files := h.files
  data := fun x hx => OwnR.keep (h.data x hx) fun k hk => hb k (h.ob x hx k hk).1
  or := h.or
  ov := h.ov
  ob := h.ob
  olt := fun k hk => Nat.lt_of_lt_of_le (h.olt k hk) hs
  ok := h.ok

theorem RefAt.keep {w w' : World} {r : Nat} {own : Nat → Prop} {D : DiskM} (h : RefAt w r D own) (hs : w.heap.size ≤ w'.heap.size) (hb : ∀ k, own k → w'.heap[k]? = w.heap[k]?) : RefAt w' r D own := by
  obtain ⟨v, L, h⟩ := h
  exact ⟨v, L, h.keep hs hb⟩

section
variable {w : World} {r : Nat} {v : Value} {L : List RFile} {own : Nat → Prop} {D : DiskM}

theorem RefIn.c0 (h : RefIn w r v L own D) : w.cell? ⟨r, 0, none⟩ = some (.int .i64 (D.room : Int)) := cell_of h.cells rfl
theorem RefIn.c1 (h : RefIn w r v L own D) : w.cell? ⟨r, 1, none⟩ = some v := cell_of h.cells rfl
theorem RefIn.c2 (h : RefIn w r v L own D) : w.cell? ⟨r, 2, none⟩ = some (.int .i64 (leftOf D.fuse)) := cell_of h.cells rfl
theorem RefIn.len (h : RefIn w r v L own D) : L.length = D.files.length := by rw [h.files, List.length_map]

/-- The cells of a file. -/
theorem RefIn.at (h : RefIn w r v L own D) : L = [] ∨ ∃ g c, v = .slice (some ⟨g, 0, none⟩) L.length c ∧ L.length ≤ c ∧ ∀ i x, L[i]? = some x → w.cell? ⟨g, i * 3, none⟩ = some (encStr x.n) ∧ w.cell? ⟨g, i * 3 + 1, none⟩ = some x.b ∧ w.cell? ⟨g, i * 3 + 2, none⟩ = some (.int .i64 (x.f.lasts : Int)) := by
  rcases h.row.2 with ⟨rfl, hn⟩ | ⟨g, cap, cur, e, hg, hnc, _⟩
  · exact .inl (List.eq_nil_of_length_eq_zero hn)
  · refine .inr ⟨g, cap, e, hnc, fun i x hx => ?_⟩
    have hc := h.row.cells (g := g) (by rw [e]; rfl)
    refine ⟨?_, ?_, ?_⟩
    · have := hc (i * 3 + 0) (encStr x.n) ((cells_at L i x hx 0 (by omega)).trans rfl)
      rwa [add_zero] at this
    · have := hc (i * 3 + 1) x.b ((cells_at L i x hx 1 (by omega)).trans rfl)
      rwa [add_zero] at this
    · have := hc (i * 3 + 2) _ ((cells_at L i x hx 2 (by omega)).trans rfl)
      rwa [add_zero] at this

theorem RefIn.slice (h : RefIn w r v L own D) : ∃ p c, v = .slice p L.length c := OwnR.shape h.row
end

/-- Where a name stands, or would stand. -/
def spotN (n : Bs) : List Bs → Nat
  | [] => 0
  | x :: r => if bytesBefore x n then spotN n r + 1 else 0
def isAt (n : Bs) (l : List Bs) : Bool := l[spotN n l]? == some n

theorem less_before (x : Bs) (s : ByteArray) : Op.bytesLess x s.toList = bytesBefore x (nm s) := by
  have e : s.toList = nm s := ByteArray.toList_eq s
  rw [e, Bool.eq_iff_iff, bb_lt, bytesLess_eq, decide_eq_true_eq]

theorem drop_cons {α : Type} {l : List α} {k : Nat} {x : α} (h : l[k]? = some x) : l.drop k = x :: l.drop (k + 1) := by
  obtain ⟨hk, rfl⟩ := List.getElem?_eq_some_iff.1 h
  exact List.drop_eq_getElem_cons hk

theorem spotN_yes {n x : Bs} {r : List Bs} (h : bytesBefore x n = true) : spotN n (x :: r) = spotN n r + 1 := by
  show (if bytesBefore x n then _ else _) = _
  rw [if_pos h]
theorem spotN_no {n x : Bs} {r : List Bs} (h : bytesBefore x n = false) : spotN n (x :: r) = 0 := by
  show (if bytesBefore x n then _ else _) = _
  rw [if_neg (by simp [h])]
theorem spotN_le (n : Bs) : ∀ l, spotN n l ≤ l.length
  | [] => Nat.le_refl _
  | x :: r => by
    have := spotN_le n r
    cases h : bytesBefore x n with
    | true => rw [spotN_yes h]; simp; omega
    | false => rw [spotN_no h]; exact Nat.zero_le _

set_option maxRecDepth 100000 in
theorem spot_calls {w : World} {r : Nat} {v : Value} {L : List RFile} {own : Nat → Prop} {D : DiskM} (h : RefIn w r v L own D) (s : ByteArray) :
    Calls Try.prog 75 #[.pointer (some ⟨r, 0, none⟩), .string s] w fun e w' => e = .returned (.tuple #[.int .i64 (spotN (nm s) (L.map RFile.n) : Int), .bool (isAt (nm s) (L.map RFile.n))]) ∧ ∃ q, w' = w.drewN q := by
  obtain ⟨p, c, rfl⟩ := h.slice
  have c1 := h.c1
  have Hat := Lib.hid h.at
  have hcount : L.length ≤ 4096 := by rw [h.len]; exact h.ok.count
  clear h
  have hNn : (L.map RFile.n).length = L.length := List.length_map ..
  generalize hN : L.length = N at *
  have HN := Lib.hid hN
  have HNn := Lib.hid hNn
  clear hN hNn
  go_enter Try.func75, Try.ntmps75
  go_wp2_with fail
  go_loop [6] (fun i => ∃ k : Nat, k ≤ N ∧ i = .int .i64 k ∧ spotN (nm s) (L.map RFile.n) = k + spotN (nm s) ((L.map RFile.n).drop k)) (fun i => N - (intOf i).toNat)
  case atStart => exact ⟨0, Nat.zero_le _, rfl, by simp⟩
  case round =>
    obtain ⟨k, hk, rfl, hsp⟩ := hrel
    by_cases hlt : k < N
    · have hkl : k < L.length := by rw [HN.out]; exact hlt
      obtain ⟨y, hy⟩ : ∃ y, L[k]? = some y := ⟨_, List.getElem?_eq_getElem hkl⟩
      have hmk : (L.map RFile.n)[k]? = some y.n := by rw [List.getElem?_map, hy]; rfl
      rw [drop_cons hmk] at hsp
      rcases Hat.out with h0 | ⟨g, c1, e1, -, hc⟩
      · rw [h0] at hkl
        simp at hkl
      cases e1
      obtain ⟨hn0, -, -⟩ := hc k y hy
      rw [enc_str] at hn0
      have Hsp := Lib.hid hsp
      have Hmk := Lib.hid hmk
      clear hc hkl hy hsp hmk
      generalize y.n = x at *
      cases hb : bytesBefore x (nm s) with
      | true =>
        have hb1 : Op.bytesLess x s.toList = true := by rw [less_before]; exact hb
        go_wp2_with fail
        go_round
        case rel => exact ⟨k + 1, by omega, by go_num, by rw [Hsp.out, spotN_yes hb]; omega⟩
        case measure => simp [intOf]; omega
      | false =>
        have hb1 : Op.bytesLess x s.toList = false := by rw [less_before]; exact hb
        have Hfin : spotN (nm s) (L.map RFile.n) = k := by rw [Hsp.out, spotN_no hb]; rfl
        have Hfa : isAt (nm s) (L.map RFile.n) = (x == nm s) := by unfold isAt; rw [Hfin, Hmk.out]; rfl
        have Hres := Lib.hid (show Value.tuple #[.int .i64 (k : Int), .bool (x == s.toList)] = .tuple #[.int .i64 (spotN (nm s) (L.map RFile.n) : Int), .bool (isAt (nm s) (L.map RFile.n))] by rw [Hfin, Hfa, ByteArray.toList_eq]; rfl)
        clear Hsp Hfin Hfa hb
        go_wp2_with fail
        go_quiet (fail)
        go_wp2
        go_ret2
        exact ⟨congrArg Ending.returned Hres.out, _, rfl⟩
    · have hkN : k = N := by omega
      subst hkN
      have hd : (L.map RFile.n).drop k = [] := List.drop_of_length_le (by rw [HNn.out]; exact Nat.le_refl _)
      rw [hd] at hsp
      have hsp' : spotN (nm s) (L.map RFile.n) = k := hsp
      have hfa : isAt (nm s) (L.map RFile.n) = false := by unfold isAt; rw [hsp', List.getElem?_eq_none (by rw [HNn.out]; exact Nat.le_refl _)]; rfl
      have Hres := Lib.hid (show Value.tuple #[.int .i64 (k : Int), .bool false] = .tuple #[.int .i64 (spotN (nm s) (L.map RFile.n) : Int), .bool (isAt (nm s) (L.map RFile.n))] by rw [hsp', hfa])
      clear hsp hsp' hfa hd
      go_wp2_with fail
      go_quiet (fail)
      go_wp2
      go_ret2
      exact ⟨congrArg Ending.returned Hres.out, _, rfl⟩
end Go.Proofs.Ytdlbamhabenhgaa

namespace Go.Proofs.Ytdlbamhabenhgaa
open Go.RowKit Go.Sat Go.Maps

/-! ### Where names stand -/
section
variable {α : Type}
theorem key_ne {n m : Bs} (h : n ≠ m) : (n == m) = false := by simpa using h

theorem get_cons (n m : Bs) (a : α) (r : List (Bs × α)) : Sat.get n ((m, a) :: r) = if m = n then some a else Sat.get n r := by
  unfold Sat.get
  rw [List.find?_cons]
  by_cases e : m = n
  · rw [if_pos e]
    simp [e]
  · rw [if_neg e]
    simp [key_ne e]

theorem del_cons (n m : Bs) (a : α) (r : List (Bs × α)) : del n ((m, a) :: r) = if m = n then del n r else (m, a) :: del n r := by
  unfold del
  rw [List.filter_cons]
  by_cases e : m = n
  · rw [if_pos e]
    simp [e]
  · rw [if_neg e]
    simp [key_ne e]

/-- All that stands behind what is not ahead of n is not n. -/
theorem srt_after {n m : Bs} {a : α} {r : List (Bs × α)} (h : Srt ((m, a) :: r)) (hb : bytesBefore m n = false) : ∀ p ∈ r, p.1 ≠ n ∧ bytesBefore n p.1 = true := by
  intro p hp
  have h1 := (List.pairwise_cons.1 h).1 p hp
  have h1 : bytesBefore m p.1 = true := h1
  by_cases e : m = n
  · subst e
    exact ⟨(bb_ne h1).symm, h1⟩
  · rcases bb_total m n e with h2 | h2
    · rw [hb] at h2; cases h2
    · have h3 := bb_trans h2 h1
      exact ⟨(bb_ne h3).symm, h3⟩

theorem spot_get (n : Bs) : ∀ {L : List (Bs × α)}, Srt L → isAt n (L.map (·.1)) = (Sat.get n L).isSome ∧ ∀ a, Sat.get n L = some a → L[spotN n (L.map (·.1))]? = some (n, a)
  | [], _ => ⟨rfl, fun a h => by cases h⟩
  | (m, a) :: r, h => by
    have hr : Srt r := (List.pairwise_cons.1 h).2
    obtain ⟨h1, h2⟩ := spot_get n hr
    cases hb : bytesBefore m n with
    | true =>
      have e : m ≠ n := bb_ne hb
      have es : spotN n (((m, a) :: r).map (·.1)) = spotN n (r.map (·.1)) + 1 := spotN_yes hb
      rw [get_cons, if_neg e]
      refine ⟨?_, fun x hx => ?_⟩
      · rw [← h1]
        unfold isAt
        rw [es]
        rfl
      · rw [es]
        exact h2 x hx
    | false =>
      have es : spotN n (((m, a) :: r).map (·.1)) = 0 := spotN_no hb
      by_cases e : m = n
      · subst e
        rw [get_cons, if_pos rfl]
        refine ⟨?_, fun x hx => ?_⟩
        · unfold isAt
          rw [es]
          simp
        · rw [es]
          cases hx
          rfl
      · have hg : Sat.get n r = none := get_none.2 fun p hp => (srt_after h hb p hp).1
        rw [get_cons, if_neg e, hg]
        refine ⟨?_, fun x hx => by cases hx⟩
        unfold isAt
        rw [es]
        simp [e]

theorem del_after {n m : Bs} {a : α} {r : List (Bs × α)} (h : Srt ((m, a) :: r)) (hb : bytesBefore m n = false) : del n r = r := del_none (get_none.2 fun p hp => (srt_after h hb p hp).1)

theorem del_at (n : Bs) : ∀ {L : List (Bs × α)}, Srt L → isAt n (L.map (·.1)) = true → del n L = L.take (spotN n (L.map (·.1))) ++ L.drop (spotN n (L.map (·.1)) + 1)
  | [], _, h => by cases h
  | (m, a) :: r, h, ha => by
    have hr : Srt r := (List.pairwise_cons.1 h).2
    cases hb : bytesBefore m n with
    | true =>
      have es : spotN n (((m, a) :: r).map (·.1)) = spotN n (r.map (·.1)) + 1 := spotN_yes hb
      have ha' : isAt n (r.map (·.1)) = true := by
        rw [← ha]
        unfold isAt
        rw [es]
        rfl
      rw [del_cons, if_neg (bb_ne hb), es, List.take_succ_cons, List.drop_succ_cons, del_at n hr ha']
      rfl
    | false =>
      have es : spotN n (((m, a) :: r).map (·.1)) = 0 := spotN_no hb
      have e : m = n := by
        unfold isAt at ha
        rw [es] at ha
        simpa using ha
      rw [del_cons, if_pos e, es, del_after h hb]
      rfl

theorem ins_at (n : Bs) (f : α) : ∀ {L : List (Bs × α)}, Srt L → Sat.get n L = none → ins (n, f) L = L.take (spotN n (L.map (·.1))) ++ (n, f) :: L.drop (spotN n (L.map (·.1)))
  | [], _, _ => rfl
  | (m, a) :: r, h, hg => by
    have hr : Srt r := (List.pairwise_cons.1 h).2
    have hne : m ≠ n := fun e => by rw [get_cons, if_pos e] at hg; cases hg
    cases hb : bytesBefore m n with
    | true =>
      have es : spotN n (((m, a) :: r).map (·.1)) = spotN n (r.map (·.1)) + 1 := spotN_yes hb
      have hb2 : bytesBefore n m = false := by
        cases h2 : bytesBefore n m with
        | false => rfl
        | true =>
          have := bb_trans h2 hb
          rw [bb_irrefl] at this
          cases this
      rw [get_cons, if_neg hne] at hg
      show (if bytesBefore n m then _ else _) = _
      rw [if_neg (by simp [hb2]), es, List.take_succ_cons, List.drop_succ_cons, ins_at n f hr hg]
      rfl
    | false =>
      have es : spotN n (((m, a) :: r).map (·.1)) = 0 := spotN_no hb
      have hb2 : bytesBefore n m = true := by
        rcases bb_total m n hne with h2 | h2
        · rw [hb] at h2; cases h2
        · exact h2
      show (if bytesBefore n m then _ else _) = _
      rw [if_pos hb2, es]
      rfl

theorem put_at (n : Bs) (f : α) : ∀ {L : List (Bs × α)}, Srt L → isAt n (L.map (·.1)) = true → put n f L = L.set (spotN n (L.map (·.1))) (n, f)
  | [], _, h => by cases h
  | (m, a) :: r, h, ha => by
    have hr : Srt r := (List.pairwise_cons.1 h).2
    cases hb : bytesBefore m n with
    | true =>
      have es : spotN n (((m, a) :: r).map (·.1)) = spotN n (r.map (·.1)) + 1 := spotN_yes hb
      have ha' : isAt n (r.map (·.1)) = true := by
        rw [← ha]
        unfold isAt
        rw [es]
        rfl
      have hb2 : bytesBefore n m = false := by
        cases h2 : bytesBefore n m with
        | false => rfl
        | true =>
          have := bb_trans h2 hb
          rw [bb_irrefl] at this
          cases this
      rw [es, List.set_cons_succ, ← put_at n f hr ha']
      show ins (n, f) (del n ((m, a) :: r)) = _
      rw [del_cons, if_neg (bb_ne hb)]
      show (if bytesBefore n m then _ else _) = _
      rw [if_neg (by simp [hb2])]
      rfl
    | false =>
      have es : spotN n (((m, a) :: r).map (·.1)) = 0 := spotN_no hb
      have e : m = n := by
        unfold isAt at ha
        rw [es] at ha
        simpa using ha
      rw [es, List.set_cons_zero]
      show ins (n, f) (del n ((m, a) :: r)) = _
      rw [del_cons, if_pos e, del_after h hb]
      cases r with
      | nil => rfl
      | cons p q =>
        have := (srt_after h hb p (List.mem_cons_self ..)).2
        show (if bytesBefore n p.1 then _ else _) = _
        rw [if_pos this]
end

section
variable {w : World} {r : Nat} {v : Value} {L : List RFile} {own : Nat → Prop} {D : DiskM}

theorem RefIn.names (h : RefIn w r v L own D) : L.map RFile.n = D.files.map (·.1) := by
  rw [h.files, List.map_map]
  rfl

theorem RefIn.is (h : RefIn w r v L own D) (n : Bs) : isAt n (L.map RFile.n) = (Sat.get n D.files).isSome := by
  rw [h.names]
  exact (spot_get n h.ok.srt).1

theorem RefIn.hit (h : RefIn w r v L own D) {n : Bs} {f : FileM} (hg : Sat.get n D.files = some f) : ∃ x, L[spotN n (L.map RFile.n)]? = some x ∧ x.n = n ∧ x.f = f := by
  have h1 := (spot_get n h.ok.srt).2 f hg
  rw [h.names]
  rw [h.files] at h1 ⊢
  rw [List.getElem?_map] at h1
  cases hx : L[spotN n (List.map (fun x => x.fst) (List.map RFile.key L))]? with
  | none => rw [hx] at h1; cases h1
  | some x =>
    rw [hx] at h1
    have := Option.some.inj h1
    exact ⟨x, rfl, congrArg Prod.fst this, congrArg Prod.snd this⟩
end

/-! ### may, did -/
set_option maxHeartbeats 400000 in
theorem rmay_burnt (d : Nat) (p : Option Addr) (n c : Nat) (w : World) (h2 : w.cell? ⟨d, 2, none⟩ = some (.int .i64 0)) :
    Calls Try.prog 74 #[.pointer (some ⟨d, 0, none⟩), .slice p n c] w fun e w' => e = .returned (.int .i64 9) ∧ w = w' := by
  go_enter Try.func74, Try.ntmps74
  go_wp2
  go_ret
  exact ⟨rfl, rfl⟩

set_option maxHeartbeats 1000000 in
theorem rmay_names (d : Nat) (p : Option Addr) (ss : List ByteArray) (c : Nat) (w : World) (l : Int) (h2 : w.cell? ⟨d, 2, none⟩ = some (.int .i64 l))
    (hl : (l == 0) = false) (hs : StrsAt w p ss) (hm : ss.length ≤ 140737488355328) (hsz : ∀ s ∈ ss, s.size ≤ 9223372036854775807) :
    Calls Try.prog 74 #[.pointer (some ⟨d, 0, none⟩), .slice p ss.length c] w fun e w' => e = .returned (.int .i64 (namesE ss)) ∧ w = w' := by
  go_enter Try.func74, Try.ntmps74
  go_wp2
  go_loop [5] (fun i => ∃ k : Nat, k ≤ ss.length ∧ i = .int .i64 k ∧ ((ss.take k).map nm).all okN = true) (fun i => ss.length - (intOf i).toNat)
  case atStart => exact ⟨0, Nat.zero_le _, rfl, rfl⟩
  case round =>
    obtain ⟨k, hk, rfl, hall⟩ := hrel
    by_cases hlt : k < ss.length
    · have hss : ss[k]? = some ss[k] := List.getElem?_eq_getElem hlt
      rcases hs with h | ⟨b, o, rfl, hc⟩
      · subst h
        simp at hlt
      have hcell := hc k _ hss
      have hz : ss[k].size ≤ 9223372036854775807 := hsz _ (List.getElem_mem hlt)
      have Hkey := Lib.hid (take_ok hlt hall)
      have Hno := Lib.hid (bad_at hlt)
      clear hc hsz hall hss
      rw [okN_nm] at Hkey Hno
      generalize ss[k] = s at *
      by_cases h1 : 1 ≤ s.size
      · by_cases h64 : s.size ≤ 64
        · go_wp2
          go_round
          case rel => exact ⟨k + 1, by omega, by go_num, Hkey.out (by simp [h1, h64])⟩
          case measure => simp [intOf]; omega
        · go_wp2
          go_ret
          exact ⟨by rw [Hno.out (by simp [h64])]; rfl, rfl⟩
      · go_wp2
        go_ret
        exact ⟨by rw [Hno.out (by simp [h1])]; rfl, rfl⟩
    · have Hall := Lib.hid hall
      clear hall
      go_wp2
      go_ret
      have h := Hall.out
      rw [List.take_of_length_le (by omega)] at h
      exact ⟨by simp [namesE, h], rfl⟩

section
variable {w : World} {r : Nat} {v : Value} {L : List RFile} {own : Nat → Prop} {D : DiskM}

theorem left_zero {f : Option Nat} (h : f ≠ some 0) : (leftOf f == 0) = false := by
  cases f with
  | none => rfl
  | some k =>
    have : k ≠ 0 := fun e => h (by rw [e])
    simp [leftOf]
    omega

theorem rmay_calls (h : RefIn w r v L own D) (p : Option Addr) (ss : List ByteArray) (c : Nat) (hs : StrsAt w p ss) (hm : ss.length ≤ 140737488355328) (hsz : ∀ s ∈ ss, s.size ≤ 9223372036854775807) :
    Calls Try.prog 74 #[.pointer (some ⟨r, 0, none⟩), .slice p ss.length c] w fun e w' => e = .returned (.int .i64 (D.may (ss.map nm) : Int)) ∧ w = w' := by
  have h2 := h.c2
  by_cases hb : D.fuse = some 0
  · rw [hb] at h2
    refine (rmay_burnt r p ss.length c w h2).mono ?_
    rintro e w' ⟨rfl, rfl⟩
    exact ⟨by simp [DiskM.may, hb], rfl⟩
  · refine (rmay_names r p ss c w _ h2 (left_zero hb) hs hm hsz).mono ?_
    rintro e w' ⟨rfl, rfl⟩
    refine ⟨?_, rfl⟩
    unfold namesE DiskM.may
    rw [if_neg hb]
    split <;> rfl

/-- The fuse alone. -/
theorem RefIn.fuse_set (h : RefIn w r v L own D) (f : Option Nat) (hf : ∀ k, f = some k → k ≤ 9223372036854775807) : RefIn (w.setCell ⟨r, 2, none⟩ (.int .i64 (leftOf f))) r v L own { D with fuse := f } where
  cells := set_block h.cells 2 _
  row := h.row.keep fun k hk => set_other _ (h.ov k hk).2
  files := h.files
  data := fun x hx => OwnR.keep (h.data x hx) fun k hk => set_other _ (h.ob x hx k hk).2.1
  or := h.or
  ov := h.ov
  ob := h.ob
  olt := fun k hk => by
    have := h.olt k hk
    simpa [World.setCell] using this
  ok := { h.ok with fuse := hf }

theorem chg_own {a : Addr} {u : Value} (h : own a.block) : Chg own w (w.setCell a u) := (Chg.setCell w a u).mono fun k _ e => by rw [e]; exact h

theorem rdid_calls (h : RefIn w r v L own D) (hf : D.fuse ≠ some 0) :
    Calls Try.prog 76 #[.pointer (some ⟨r, 0, none⟩)] w fun e w' => e = .returned (.int .i64 0) ∧ RefIn w' r v L own D.done ∧ Chg own w w' := by
  have c2 := h.c2
  have hz := frozen_of h.cells 2
  cases hfu : D.fuse with
  | none =>
    rw [hfu] at c2
    have hD : D.done = D := by unfold DiskM.done; rw [hfu]; cases D; simp at hfu; subst hfu; rfl
    have Hf := Lib.hid (show RefIn w r v L own D.done ∧ Chg own w w from ⟨by rw [hD]; exact h, Chg.refl _ _⟩)
    have c2' : w.cell? ⟨r, 2, none⟩ = some (.int .i64 (-1)) := c2
    clear h hf hfu hD c2
    go_enter Try.func76, Try.ntmps76
    go_wp2
    go_ret
    exact ⟨rfl, Hf.out⟩
  | some k =>
    rw [hfu] at c2
    have hk0 : k ≠ 0 := fun e => hf (by rw [hfu, e])
    have hkm : k ≤ 9223372036854775807 := h.ok.fuse k hfu
    have hD : D.done = { D with fuse := some (k - 1) } := by unfold DiskM.done; rw [hfu]; rfl
    have h2 := h.fuse_set (some (k - 1)) (fun j e => by have := Option.some.inj e; omega)
    have e1 : leftOf (some (k - 1)) = (k : Int) - 1 := by show ((k - 1 : Nat) : Int) = _; omega
    rw [e1, ← hD] at h2
    have Hf := Lib.hid (And.intro h2 (chg_own (w := w) (a := ⟨r, 2, none⟩) (u := .int .i64 ((k : Int) - 1)) h.or))
    have c2' : w.cell? ⟨r, 2, none⟩ = some (.int .i64 (k : Int)) := c2
    clear h hf hfu hD c2 h2 e1
    go_enter Try.func76, Try.ntmps76
    go_wp2
    go_ret
    exact ⟨rfl, Hf.out⟩

theorem rfuse_calls (h : RefIn w r v L own D) (n : Int) (hn : n ≤ 9223372036854775807) (hn0 : -9223372036854775808 ≤ n) :
    Calls Try.prog 45 #[.pointer (some ⟨r, 0, none⟩), .int .i64 n] w fun e w' => e = .returned (.tuple #[]) ∧ RefIn w' r v L own (D.setFuse n) ∧ Chg own w w' := by
  have c2 := h.c2
  have hz := frozen_of h.cells 2
  have h2 := h.fuse_set (if n < 0 then none else some n.toNat) (fun k e => by split at e <;> simp at e; omega)
  have e1 : leftOf (if n < 0 then none else some n.toNat) = max (-1) n := by
    split
    · show (-1 : Int) = _
      omega
    · show ((n.toNat : Nat) : Int) = _
      omega
  rw [e1] at h2
  have Hf := Lib.hid (show RefIn (w.setCell ⟨r, 2, none⟩ (.int .i64 (max (-1) n))) r v L own (D.setFuse n) ∧ Chg own w (w.setCell ⟨r, 2, none⟩ (.int .i64 (max (-1) n))) from ⟨h2, chg_own h.or⟩)
  clear h h2 e1
  go_enter Try.func45, Try.ntmps45
  go_wp2
  go_end0
  exact ⟨rfl, Hf.out⟩
end

theorem rnew_calls (w : World) (n : Int) (h0 : 0 ≤ n) (h1 : n ≤ 1073741824) :
    Calls Try.prog 32 #[.int .i64 n] w fun e w' => ∃ r, e = .returned (.tuple #[.pointer (some ⟨r, 0, none⟩), .int .i64 0]) ∧ RefIn w' r (.slice none 0 0) [] (fun k => k = r) (DiskM.fresh n.toNat) ∧ Below w.heap.size w w' ∧ w.heap.size ≤ r := by
  obtain ⟨m, rfl⟩ : ∃ m : Nat, n = (m : Int) := ⟨n.toNat, by omega⟩
  go_enter Try.func32, Try.ntmps32
  go_wp2
  go_ret2
  refine ⟨w.heap.size, rfl, ?_, (Below.refl _ _).alloc (Nat.le_refl _) _, Nat.le_refl _⟩
  exact {
    cells := new_block w _
    row := OwnR.nil _ _ _
    files := rfl
    data := fun x hx => by cases hx
    or := rfl
    ov := fun k hk => by cases hk
    ob := fun x hx => by cases hx
    olt := fun k hk => by rw [hk]; simp
    ok := ok_fresh _ (by rw [Int.toNat_natCast]; omega) }

theorem rnew_bad (w : World) (n : Int) (h : n < 0 ∨ 1073741824 < n) :
    Calls Try.prog 32 #[.int .i64 n] w fun e w' => e = .returned (.tuple #[.pointer none, .int .i64 1]) ∧ w' = w := by
  by_cases h0 : n < 0
  · go_enter Try.func32, Try.ntmps32
    go_wp2
    go_ret2
    exact ⟨rfl, rfl⟩
  · have h1 : 1073741824 < n := by omega
    go_enter Try.func32, Try.ntmps32
    go_wp2
    go_ret2
    exact ⟨rfl, rfl⟩
end Go.Proofs.Ytdlbamhabenhgaa

namespace Go.Proofs.Ytdlbamhabenhgaa
open Go.RowKit Go.Sat Go.Maps

theorem cost_mono (ls : List Bs) (k : Nat) : cost (ls.take k) ≤ cost ls := by
  conv => rhs; rw [← List.take_append_drop k ls]
  simp only [cost, List.map_append, List.sum_append]
  omega

/-- Behind k rounds of the law's loop. -/
structure KRel (w wr : World) (d : Nat) (va vs : Value) (ls : List Bs) (sy k : Nat) : Prop where
  st : St w wr d (keepsD ls sy k) (fun j => va.ownBlock = some j)
  all : OwnB wr 5 va (ls.take k).flatten
  new : ∀ j, va.ownBlock = some j → w.heap.size ≤ j
  sure : ∃ ps cs, vs = .slice ps (ls.take (min k sy)).flatten.length cs

def sF : ByteArray := ⟨#[102]⟩

theorem own_same {F : Nat → Prop} {w1 w2 : World} {e : TypeId} {v : Value} {l : Bs} (h : OwnB w1 e v l) (hs : Same F w1 w2) (hF : ∀ j, v.ownBlock = some j → F j) : OwnB w2 e v l := h.keep fun k hk => hs k (hF k hk)

theorem own_alloc {w1 : World} {e : TypeId} {v : Value} {l : Bs} (h : OwnB w1 e v l) (o : Obj) : OwnB (w1.alloc o) e v l := h.keep fun _ hk => heap_alloc_old w1 o (OwnR.lt h hk)

/-- all = append(all, row...): the disk is where it was. -/
theorem st_grow {w w2 w3 : World} {d : Nat} {D : DiskM} {va va' : Value} {e : TypeId} {size m : Nat} {ys : List Value} (h : St w w2 d D (fun j => va.ownBlock = some j)) (hn : ∀ j, va.ownBlock = some j → w.heap.size ≤ j)
    (hg : w2.grownBy w3 va.ownBlock) (hl : va'.ownBlock = va.ownBlock ∨ ∃ g, va'.ownBlock = some g ∧ w2.heap.size ≤ g) (hr : OwnR w3 e size va' m ys) :
    St w w3 d D (fun j => va'.ownBlock = some j) ∧ ∀ j, va'.ownBlock = some j → w.heap.size ≤ j := by
  refine ⟨h.move (Chg.of_grown hg) (fun k _ e => ⟨e.symm, hn k e.symm⟩) fun k hk => ⟨?_, hr.lt hk⟩, fun j hj => ?_⟩
  · rcases hl with e | ⟨g, e, hge⟩
    · exact .inl (by rw [← e]; exact hk)
    · rw [e] at hk
      cases hk
      exact .inr hge
  · rcases hl with e | ⟨g, e, hge⟩
    · exact hn j (by rw [← e]; exact hj)
    · rw [e] at hj
      cases hj
      have := h.below.size
      omega

/-- A new row of nobody's. -/
theorem st_grow0 {w w2 w3 : World} {d : Nat} {D : DiskM} {F : Nat → Prop} {row : Option Nat} (h : St w w2 d D F) (hg : w2.grownBy w3 row) (hr : ∀ j, row = some j → w2.heap.size ≤ j) : St w w3 d D F :=
  h.next ((Chg.of_grown hg).below (Nat.le_refl _) fun k hk e => by have := hr k e.symm; omega)

theorem own_empty (w : World) (e : TypeId) : OwnR (w.alloc (.cells #[] e)) e 1 (.slice (some ⟨w.heap.size, 0, none⟩) 0 0) 0 [] :=
  ⟨rfl, .inr ⟨_, 0, #[], rfl, new_block w _, Nat.le_refl _, Nat.zero_le _, Nat.le_refl _, rfl⟩⟩

/-- A row behind an append to another row. -/
theorem own_other {w2 w3 : World} {e : TypeId} {v : Value} {l : Bs} {row : Option Nat} (h : OwnB w2 e v l) (hg : w2.grownBy w3 row) (hr : ∀ j, v.ownBlock = some j → row ≠ some j) : OwnB w3 e v l :=
  h.keep fun k hk => hg.block k (OwnR.lt h hk) fun e => hr k hk e.symm

set_option maxRecDepth 100000 in
set_option maxHeartbeats 4000000 in
theorem keeps_walk {w : World} {p : Option Addr} {n c : Nat} {ls : List Bs} (hx : RowsAt w (.slice p n c) ls) (hn : n ≤ 140737488355328) (hrow : ∀ l ∈ ls, l.length ≤ 140737488355328) (sy dr : Int)
    (hsy : -9223372036854775808 ≤ sy) (hsy' : sy ≤ 9223372036854775807) (hdr : -9223372036854775808 ≤ dr) (hdr' : dr ≤ 9223372036854775807) :
    Calls Try.prog 3 #[.slice p n c, .int .i64 sy, .int .i64 dr] w (True3 w) := by
  have hnl := RowsAt.len hx
  have Hx := Lib.hid hx
  have Hrow := Lib.hid hrow
  have Hnl := Lib.hid hnl
  clear hx hrow hnl
  go_enter Try.func3, Try.ntmps3
  go_wp2_with fail
  go_loop [7, 8] (fun a i => ∃ k : Nat, k ≤ n ∧ i = .int .i64 k ∧ a = .int .i64 ((cost (ls.take k) : Nat) : Int) ∧ cost (ls.take k) ≤ 150000000000000) (fun _ i => n - (intOf i).toNat)
  case atStart => exact ⟨0, Nat.zero_le _, rfl, rfl, by simp [cost]⟩
  case round =>
    obtain ⟨k, hk, rfl, rfl, hck⟩ := hrel
    by_cases h8 : cost (ls.take k) ≤ 8000
    · by_cases hlt : k < n
      · have hltl : k < ls.length := by rw [← Hnl.out]; exact hlt
        obtain ⟨-, b, o, v, rfl, hcell, hv⟩ := RowsAt.row Hx.out hltl
        have hct := cost_take ls k hltl
        have hrl := Hrow.out _ (List.getElem_mem hltl)
        obtain ⟨pv, cv, rfl⟩ := hv.slice
        have Hct := Lib.hid hct
        clear hv hct
        generalize hm : ls[k].length = m at *
        have Hc8 := Lib.hid (show cost (ls.take (k + 1)) ≤ 150000000000000 by rw [Hct.out]; omega)
        generalize hC : cost (ls.take k) = C at *
        have HC := Lib.hid hC
        have Hm := Lib.hid hm
        clear hC hm
        go_wp2_with fail
        go_round
        case rel => exact ⟨k + 1, by omega, by go_num, by rw [Hct.out]; go_num, Hc8.out⟩
        case measure => simp [intOf]; omega
      · have hls : ls.take k = ls := List.take_of_length_le (by have := Hnl.out; omega)
        rw [hls] at h8 hck ⊢
        have hkn : k = n := by omega
        have hfl : ls.flatten.length ≤ 8000 := by
          have := cost_flat ls
          omega
        have hnle : n ≤ 8000 := by
          have := cost_flat ls
          have := Hnl.out
          omega
        have Hfl := Lib.hid hfl
        have Hkn := Lib.hid hkn
        generalize hC : cost ls = C at *
        have HC := Lib.hid hC
        have Hnew := Lib.hid (st_new (w := w) (w1 := w) 1048576 (by decide) (by decide) (Below.refl _ _))
        clear hC hfl hkn hls
        go_wp2_with fail
        refine Hnew.out.mono ?_
        rintro e w1 ⟨d, rfl, hd⟩
        have Hd := Lib.hid (show St w w1 d (keepsD ls sy.toNat 0) NoF from hd)
        clear hd Hnew hk h8 hck
        clear HC Hkn
        obtain ⟨i0, hi, hz0, hz1, hz2⟩ := info_parts (show (Try.prog.info? 5).map (fun i => (i.zero, i.size, i.bytes)) = some (some (.int .u8 0), 1, 1) by kernel_rfl)
        go_wp2_with fail
        go_loopw [11, 12, 13] (fun va vs i wr => ∃ k : Nat, k ≤ n ∧ i = .int .i64 k ∧ KRel w wr d va vs ls sy.toNat k) (fun _ _ i _ => n - (intOf i).toNat)
        case atStart =>
          refine ⟨0, Nat.zero_le _, rfl, ?_, OwnR.nil _ _ _, fun j hj => (by cases hj), none, 0, by simp⟩
          exact Hd.out.move (S := fun _ => False) (Chg.refl _ _) (fun _ _ h => h.elim) fun k hk => (by cases hk)
        case round =>
          clear Hd
          obtain ⟨k, hk, rfl, hr⟩ := hrel
          obtain ⟨ps, cs, rfl⟩ := hr.sure
          by_cases hlt : k < n
          · have hltl : k < ls.length := by rw [← Hnl.out]; exact hlt
            obtain ⟨-, b, o, v, rfl, hcell, hv⟩ := RowsAt.row Hx.out hltl
            have hcell2 := (hr.st.below.cell (World.block_lt_of_cell? w _ hcell)).trans hcell
            obtain ⟨pv, cv, rfl⟩ := hv.slice
            generalize hml : ls[k].length = ml at *
            have hap := keeps_append sy.toNat hltl Hfl.out
            have happ := st_append (hr.st.alloc (.cells #[.slice pv ml cv] 23)) sF (.slice (some ⟨wr.heap.size, 0, none⟩) 1 1) [ls[k]] (rows_one (v := .slice pv ml cv) (hv.below hr.st.below) 23 (0, 0) _ 1 rfl (Nat.le_refl _)) (by simp) (by have := flat_take hltl; have h2 := flat_take_le ls (k + 1); rw [this, List.length_append] at h2; have := Hfl.out; rw [List.flatten_cons, List.flatten_nil, List.append_nil]; omega) (by decide)
            rw [show nm sF = fN from rfl, hap] at happ
            have Happ := Lib.hid happ
            have Hr := Lib.hid hr
            have Hv := Lib.hid hv
            have Hml := Lib.hid hml
            have Hcell := Lib.hid hcell
            generalize hms : (ls.take (min k sy.toNat)).flatten.length = ms at *
            have Hms := Lib.hid hms
            clear happ hr hv hcell hap hml hms
            go_wp2_with fail
            refine Happ.out.mono ?_
            rintro e w2 ⟨rfl, hst2, hsame2⟩
            have hall2 : OwnB w2 5 u11 (ls.take k).flatten := own_same (own_alloc Hr.out.all _) hsame2 fun j hj => hj
            have hv2 : HasB w2 (.slice pv ml cv) ls[k] := Hv.out.below hst2.below
            have hva := flat_take hltl
            have hvl : (ls.take k).flatten.length + ml ≤ 8000 := by
              have h2 := flat_take_le ls (k + 1)
              rw [hva, List.length_append, Hml.out] at h2
              have := Hfl.out
              omega
            unfold HasB at hv2
            rw [Hml.out] at hv2
            have hcell3 := (hst2.below.cell (World.block_lt_of_cell? w _ Hcell.out)).trans Hcell.out
            have Hst2 := Lib.hid hst2
            have Hall2 := Lib.hid hall2
            have Hv2 := Lib.hid hv2
            have Hva := Lib.hid hva
            have Hvl := Lib.hid hvl
            clear hst2 hsame2 hall2 hv2 hva hcell2 hvl
            by_cases hs : k < sy.toNat
            · have hsd : decide ((k : Int) < sy) = true := by simp; omega
              go_wp2_with (first | (at_builtin; refine wpList_app w2 rfl (.tmp 61) (.tmp 65) 23 rfl 5 i0 (.int .u8 0) 1 1 Try.underlying23 hi hz0 hz1 hz2 rfl (by decide) u11 (ls.take k).flatten.length (bytesV (ls.take k).flatten) rfl Hall2.out (.slice pv ml cv) ml (bytesV ls[k]) rfl Hv2.out (bytesV_one _) (by have := Hvl.out; unfold maxLen; omega) (by have := Hvl.out; omega) ?_; intro va' w3 hown' hgrow hloc; have Hg3 := Lib.hid (And.intro hown' (And.intro hgrow hloc)); clear hown' hgrow hloc))
              obtain ⟨hown', hgrow, hloc⟩ := Hg3.out
              obtain ⟨hst3, hnew3⟩ := st_grow Hst2.out Hr.out.new hgrow hloc hown'
              have hall3 : OwnB w3 5 va' (ls.take (k + 1)).flatten := by
                unfold OwnB
                rw [Hva.out, List.length_append, Hml.out, bytesV_app]
                exact hown'
              have hsy := st_sync hst3 [sF] w3.heap.size 1 rfl (0, 0) (by decide) (by decide)
              rw [show [sF].map nm = [fN] from rfl, keeps_sync hs] at hsy
              have Hsy := Lib.hid hsy
              have Hall3 := Lib.hid hall3
              have Hnew3 := Lib.hid hnew3
              clear hown' hgrow hloc hst3 hall3 hnew3 hsy Hg3
              refine Hsy.out.mono ?_
              rintro e w4 ⟨rfl, hst4, hsame4⟩
              have hall4 : OwnB w4 5 va' (ls.take (k + 1)).flatten := own_same (own_alloc Hall3.out _) hsame4 fun j hj => hj
              have hM := flat_take_le ls (k + 1)
              have hMf := Hfl.out
              generalize hMM : (ls.take (k + 1)).flatten.length = M at *
              have Hst4 := Lib.hid hst4
              have Hall4 := Lib.hid hall4
              have HMM := Lib.hid hMM
              have HM := Lib.hid (show M ≤ 8000 by omega)
              clear hst4 hall4 hsame4 hMM hM hMf
              go_wp2_with (first | (at_builtin; have hx4 := (own_alloc Hall4.out (.cells #[] 5)).has; unfold HasB at hx4; rw [HMM.out] at hx4; refine wpList_app _ rfl (.tmp 74) (.tmp 75) 23 rfl 5 i0 (.int .u8 0) 1 1 Try.underlying23 hi hz0 hz1 hz2 rfl (by decide) (.slice (some ⟨w4.heap.size, 0, none⟩) 0 0) 0 [] rfl (own_empty w4 _) va' M _ rfl hx4 (bytesV_one _) (by have := HM.out; unfold maxLen; omega) (by have := HM.out; omega) ?_; clear hx4; intro vs w5 hown5 hgrow5 hloc5; rw [Nat.zero_add] at hown5; obtain ⟨p5, c5, rfl⟩ := OwnR.shape hown5; have Hg5 := Lib.hid (And.intro hown5 (And.intro hgrow5 hloc5)); clear hown5 hgrow5 hloc5))
              go_roundw
              case rel =>
                obtain ⟨_, hgrow5, _⟩ := Hg5.out
                refine ⟨k + 1, by omega, by go_num, ?_, ?_, Hnew3.out, p5, c5, ?_⟩
                · exact Hst4.out.next (((Below.refl _ _).alloc (Nat.le_refl _) _).grown hgrow5 (by simp) fun j e => by simp [Value.ownBlock] at e; omega)
                · exact own_other (own_alloc Hall4.out _) hgrow5 (fun j hj e => by simp [Value.ownBlock] at e; have := OwnR.lt Hall4.out hj; omega)
                · rw [show min (k + 1) sy.toNat = k + 1 by omega, HMM.out]
              case measure => simp [intOf]; omega
            · have hsd : decide ((k : Int) < sy) = false := by simp; omega
              go_wp2_with (first | (at_builtin; refine wpList_app w2 rfl (.tmp 61) (.tmp 65) 23 rfl 5 i0 (.int .u8 0) 1 1 Try.underlying23 hi hz0 hz1 hz2 rfl (by decide) u11 (ls.take k).flatten.length (bytesV (ls.take k).flatten) rfl Hall2.out (.slice pv ml cv) ml (bytesV ls[k]) rfl Hv2.out (bytesV_one _) (by have := Hvl.out; unfold maxLen; omega) (by have := Hvl.out; omega) ?_; intro va' w3 hown' hgrow hloc; have Hg3 := Lib.hid (And.intro hown' (And.intro hgrow hloc)); clear hown' hgrow hloc))
              go_roundw
              case rel =>
                obtain ⟨hown', hgrow, hloc⟩ := Hg3.out
                obtain ⟨hst3, hnew3⟩ := st_grow Hst2.out Hr.out.new hgrow hloc hown'
                rw [keeps_stay (by omega)] at hst3
                refine ⟨k + 1, by omega, by go_num, hst3, ?_, hnew3, ps, cs, ?_⟩
                · unfold OwnB
                  rw [Hva.out, List.length_append, Hml.out, bytesV_app]
                  exact hown'
                · rw [show min (k + 1) sy.toNat = min k sy.toNat by omega, Hms.out]
              case measure => simp [intOf]; omega
          · have hkl : ls.take k = ls := List.take_of_length_le (by have := Hnl.out; omega)
            have hall := hr.all
            rw [hkl] at hall
            have hcr := st_crash hr.st dr hdr hdr'
            have Hcr := Lib.hid hcr
            have Hall := Lib.hid hall
            have Hr := Lib.hid hr
            generalize hms : (ls.take (min k sy.toNat)).flatten.length = ms at *
            have Hms := Lib.hid hms
            clear hcr hall hr hms hkl
            go_wp2_with fail
            refine Hcr.out.mono ?_
            rintro e w2 ⟨rfl, hst2, hsame2⟩
            have hall2 : OwnB w2 5 u11 ls.flatten := own_same Hall.out hsame2 fun j hj => hj
            have hrd := st_read hst2 sF (by decide)
            have Hrd := Lib.hid hrd
            have Hall2 := Lib.hid hall2
            clear hst2 hsame2 hall2 hrd
            by_cases h0 : k = 0
            · subst h0
              have hn0 : n = 0 := by omega
              rw [show nm sF = fN from rfl, keeps_get0] at Hrd
              subst hn0
              go_wp2_with fail
              refine Hrd.out.mono ?_
              rintro e w3 ⟨v, rfl, -, -, -, hst3⟩
              have Hkn := Lib.hid (known_calls w3)
              have Hb3 := Lib.hid hst3.below
              clear hst3
              go_wp2_with fail
              refine Hkn.out.mono ?_
              rintro e w4 ⟨rfl, hb4⟩
              have Hb4 := Lib.hid (Hb3.out.trans (hb4.mono Hb3.out.size))
              clear hb4
              go_wp2_with fail
              go_ret
              exact ⟨rfl, Hb4.out⟩
            · have hn0 : ((n : Int) == 0) = false := by simp; omega
              rw [show nm sF = fN from rfl, keeps_get dr h0, List.take_of_length_le (show ls.length ≤ k by have := Hnl.out; omega), Hms.out] at Hrd
              have hmsN : ms ≤ ls.flatten.length := by rw [← Hms.out]; exact flat_take_le ls _
              have hst := stays_le ⟨ls.flatten, ms⟩ dr hmsN
              simp only at hst
              have Hst := Lib.hid hst
              clear hst hmsN
              go_wp2_with fail
              refine Hrd.out.mono ?_
              rintro e w3 ⟨v, rfl, hv, -, hb3, hst3⟩
              have hv' : OwnB w3 5 v (ls.flatten.take (DiskM.stays ⟨ls.flatten, ms⟩ dr)) := hv
              have hall3 : OwnB w3 5 u11 ls.flatten := Hall2.out.keep fun j hj => hb3.block j (OwnR.lt Hall2.out hj)
              have hcap : ∃ pa ca, u11 = .slice pa ls.flatten.length ca ∧ ls.flatten.length ≤ ca := by
                obtain ⟨pa, ca, rfl⟩ := hall3.slice
                exact ⟨pa, ca, rfl, (OwnR.cap_le hall3).1⟩
              obtain ⟨pa, ca, rfl, hca⟩ := hcap
              generalize hst' : DiskM.stays ⟨ls.flatten, ms⟩ dr = st at *
              have hcut := HasB.cut hall3.has (k := st) (by have := Hst.out; omega) ca
              obtain ⟨pv, cv, rfl⟩ := hv'.slice
              have hlen : (ls.flatten.take st).length = st := by rw [List.length_take]; have := Hst.out; omega
              have hsame := same_calls hv'.has hcut (by have := Hfl.out; have := Hst.out; omega) (by have := Hfl.out; have := Hst.out; omega)
              rw [beq_self_eq_true] at hsame
              rw [hlen] at hsame ⊢
              have hsl : ∀ W, (Instr.slice 23 (.slice pa ls.flatten.length ca) none (some (.int .i64 (st : Int))) none).run Try.prog W = .ok (.slice pa st ca) W := fun W => run_upto W Try.underlying23 hi pa _ ca st (by have := Hst.out; omega)
              have hge : (ms : Int) ≤ (st : Int) := by have := Hst.out; omega
              have hle : (st : Int) ≤ (ls.flatten.length : Int) := by have := Hst.out; omega
              generalize ls.flatten.length = N at *
              have Hsame := Lib.hid hsame
              have Hst3 := Lib.hid hst3
              clear hsame hv hv' hall3 hcut hlen hb3 hst3 hst' Hcr Hall2 Hall
              go_wp2_with fail
              refine Hsame.out.mono ?_
              rintro e w4 ⟨rfl, q, rfl⟩
              have Hkn := Lib.hid (known_calls (w3.drewN q))
              have Hb3 := Lib.hid (Hst3.out.drewN q).below
              go_wp2_with fail
              refine Hkn.out.mono ?_
              rintro e w4 ⟨rfl, hb4⟩
              have Hb4 := Lib.hid (Hb3.out.trans (hb4.mono Hb3.out.size))
              clear hb4
              go_wp2_with fail
              go_ret
              exact ⟨rfl, Hb4.out⟩
    · have Hkn := Lib.hid (known_calls w)
      by_cases hlt : k < n
      all_goals
        generalize cost (ls.take k) = C at *
        go_wp2_with fail
        refine Hkn.out.mono ?_
        rintro e w' ⟨rfl, hb⟩
        go_wp2_with fail
        go_ret
        exact ⟨rfl, hb⟩
end Go.Proofs.Ytdlbamhabenhgaa

namespace Go.Proofs.Ytdlbamhabenhgaa
open Go.RowKit Go.Sat Go.Maps

def xN : Bs := [120]
def yN : Bs := [121]
def zzN : Bs := [122]

def nD1 (a : Bs) (l : Nat) : DiskM := ⟨1048576, [(xN, ⟨a, l⟩)], none⟩
def nD2 (a : Bs) (l : Nat) (c : Bs) : DiskM := ⟨1048576, [(xN, ⟨a, l⟩), (yN, ⟨c, 0⟩)], none⟩
def nD3 (a : Bs) (l : Nat) : DiskM := ⟨1048576, [(yN, ⟨a, l⟩)], none⟩

section
variable {a b c : Bs}

theorem n_app1 (h : a.length ≤ 8000) : (DiskM.fresh 1048576).append xN [a].flatten = (nD1 a 0, 0) := by
  have hm : (DiskM.fresh 1048576).may [xN] = 0 := rfl
  have h4 : [a].flatten = a := by simp
  rw [h4]
  have hf : (DiskM.fresh 1048576).full xN a = false := by
    have : ¬ (1048576 < 0 + a.length) := by omega
    simp only [DiskM.full, DiskM.fresh, DiskM.used, sumBy, Sat.get, List.map_nil, List.sum_nil, decide_eq_false this]
    simp
  unfold DiskM.append
  rw [if_neg (by rw [hm]; simp), if_neg (by rw [hf]; simp)]
  rfl

theorem n_sync1 : (nD1 a 0).sync [xN] = (nD1 a a.length, 0) := by
  simp [DiskM.sync, DiskM.each, DiskM.each1, nD1, DiskM.may, xN, okN, Sat.get, DiskM.done, DiskM.gSync, put, del, ins]

theorem n_app2 (h : a.length + b.length ≤ 8000) (l : Nat) : (nD1 a l).append xN [b].flatten = (nD1 (a ++ b) l, 0) := by
  have hm : (nD1 a l).may [xN] = 0 := rfl
  have h4 : [b].flatten = b := by simp
  rw [h4]
  have hf : (nD1 a l).full xN b = false := by
    have : ¬ (1048576 < a.length + 0 + b.length) := by omega
    simp only [DiskM.full, nD1, DiskM.used, sumBy, Sat.get, List.map_cons, List.map_nil, List.sum_cons, List.sum_nil, DiskM.size, decide_eq_false this]
    simp [xN]
  unfold DiskM.append
  rw [if_neg (by rw [hm]; simp), if_neg (by rw [hf]; simp)]
  simp [nD1, DiskM.done, DiskM.cur, Sat.get, put, del, ins, xN]

theorem n_app3 (h : a.length + c.length ≤ 8000) (l : Nat) : (nD1 a l).append yN [c].flatten = (nD2 a l c, 0) := by
  have hm : (nD1 a l).may [yN] = 0 := rfl
  have h4 : [c].flatten = c := by simp
  rw [h4]
  have hf : (nD1 a l).full yN c = false := by
    have : ¬ (1048576 < a.length + 0 + c.length) := by omega
    simp only [DiskM.full, nD1, DiskM.used, sumBy, Sat.get, List.map_cons, List.map_nil, List.sum_cons, List.sum_nil, DiskM.size, decide_eq_false this]
    simp [xN, yN]
  unfold DiskM.append
  rw [if_neg (by rw [hm]; simp), if_neg (by rw [hf]; simp)]
  simp [nD1, nD2, DiskM.done, DiskM.cur, Sat.get, put, del, ins, xN, yN, bytesBefore]

theorem n_sync2 (l : Nat) : (nD2 a l c).sync [xN] = (nD2 a a.length c, 0) := by
  simp [DiskM.sync, DiskM.each, DiskM.each1, nD2, DiskM.may, xN, yN, okN, Sat.get, DiskM.done, DiskM.gSync, put, del, ins, bytesBefore]

theorem n_ren (l : Nat) : (nD2 a l c).rename xN yN = (nD3 a l, 0) := by
  simp [DiskM.rename, nD2, nD3, DiskM.may, xN, yN, okN, Sat.get, DiskM.done, put, del, ins]

theorem n_ren2 (l : Nat) : (nD3 a l).rename xN zzN = (nD3 a l, 7) := by
  simp [DiskM.rename, nD3, DiskM.may, xN, yN, zzN, okN, Sat.get]

theorem n_names (l : Nat) : namesOf (nD3 a l) = [yN] := rfl

theorem n_get (l : Nat) : Sat.get yN ((nD3 a l).crash 0).files = some ⟨a.take l, l⟩ := by
  simp [DiskM.crash, nD3, mp, Sat.get, DiskM.crashF, DiskM.stays, yN]
end
end Go.Proofs.Ytdlbamhabenhgaa

namespace Go.Proofs.Ytdlbamhabenhgaa
open Go.RowKit Go.Sat Go.Maps

def sX : ByteArray := ⟨#[120]⟩
def sY : ByteArray := ⟨#[121]⟩
def sZ2 : ByteArray := ⟨#[122]⟩

theorem has_names {w : World} (cs : Array Value) (ns : List Bs) (g n c : Nat) (hg : g = w.heap.size) (hn : n = ns.length) (h : cs.toList = ns.map encStr) (e : TypeId) (fr : Nat × Nat) : HasN (w.alloc (.cells cs e fr)) (.slice (some ⟨g, 0, none⟩) n c) ns := by
  subst hg
  subst hn
  refine ⟨by simp, some ⟨w.heap.size, 0, none⟩, c, rfl, fun e => (by cases e), fun a ha i u hu => ?_⟩
  cases ha
  have e1 : (⟨w.heap.size, 0, none⟩ : Addr).add i = ⟨w.heap.size, i, none⟩ := by unfold Addr.add; split <;> simp_all
  rw [e1]
  refine cell_of (new_block w _) ?_
  rw [← h] at hu
  simpa using hu

theorem OwnN.has {w : World} {v : Value} {ns : List Bs} (h : OwnN w v ns) : HasN w v ns := OwnR.holds h

theorem own_ge {wa : World} {v v' : Value} {B : Nat} (hloc : v'.ownBlock = v.ownBlock ∨ ∃ g, v'.ownBlock = some g ∧ wa.heap.size ≤ g) (hv : ∀ k, v.ownBlock = some k → B ≤ k) (hB : B ≤ wa.heap.size) : ∀ k, v'.ownBlock = some k → B ≤ k := fun k hk => by
  rcases hloc with e | ⟨g, e, hge⟩
  · exact hv k (by rw [← e]; exact hk)
  · rw [e] at hk
    cases hk
    omega

theorem HasN.below {w w1 : World} {v : Value} {l : List Bs} (h : HasN w v l) (hb : Below w.heap.size w w1) : HasN w1 v l := Holds.chg h (Chg.of_below hb) fun _ _ => id

set_option maxRecDepth 100000 in
set_option maxHeartbeats 4000000 in
theorem names_walk {w : World} {pa pb pc : Option Addr} {na nb nc ca cb cc : Nat} {a b c : Bs} (ha : HasB w (.slice pa na ca) a) (hb : HasB w (.slice pb nb cb) b) (hc : HasB w (.slice pc nc cc) c)
    (la : a.length ≤ 140737488355328) (lb : b.length ≤ 140737488355328) (lc : c.length ≤ 140737488355328) (sy : Bool) :
    Calls Try.prog 8 #[.slice pa na ca, .slice pb nb cb, .slice pc nc cc, .bool sy] w (True3 w) := by
  obtain ⟨p1, c1, ea⟩ := ha.slice
  obtain ⟨p2, c2, eb⟩ := hb.slice
  obtain ⟨p3, c3, ec⟩ := hc.slice
  cases ea
  cases eb
  cases ec
  by_cases h8 : a.length + b.length + c.length ≤ 8000
  · have Ha := Lib.hid ha
    have Hb := Lib.hid hb
    have Hc := Lib.hid hc
    have Hnew := Lib.hid (st_new (w := w) (w1 := w) 1048576 (by decide) (by decide) (Below.refl _ _))
    clear ha hb hc
    generalize hna : a.length = na at *
    generalize hnb : b.length = nb at *
    generalize hnc : c.length = nc at *
    have Hna := Lib.hid hna
    have Hnb := Lib.hid hnb
    have Hnc := Lib.hid hnc
    clear hna hnb hnc
    go_enter Try.func8, Try.ntmps8
    go_wp2_with fail
    refine Hnew.out.mono ?_
    rintro e w1 ⟨d, rfl, hd⟩
    have hap := st_append (hd.alloc (.cells #[.slice pa na ca] 23)) sX (.slice (some ⟨w1.heap.size, 0, none⟩) 1 1) [a] (rows_one (v := .slice pa na ca) (Ha.out.below hd.below) 23 (0, 0) _ 1 rfl (Nat.le_refl _)) (by simp) (by rw [List.flatten_cons, List.flatten_nil, List.append_nil, Hna.out]; omega) (by decide)
    rw [show DiskM.fresh (1048576 : Int).toNat = DiskM.fresh 1048576 from rfl, show nm sX = xN from rfl, n_app1 (by rw [Hna.out]; omega)] at hap
    have Hap := Lib.hid hap
    clear hd hap Hnew
    go_wp2_with fail
    refine Hap.out.mono ?_
    rintro e w2 ⟨rfl, hd, -⟩
    have hsy := st_sync hd [sX] w2.heap.size 1 rfl (0, 0) (by decide) (by decide)
    rw [show [sX].map nm = [xN] from rfl, n_sync1] at hsy
    have Hsy := Lib.hid hsy
    clear hd hsy Hap
    go_wp2_with fail
    refine Hsy.out.mono ?_
    rintro e w3 ⟨rfl, hd, -⟩
    have hap := st_append (hd.alloc (.cells #[.slice pb nb cb] 23)) sX (.slice (some ⟨w3.heap.size, 0, none⟩) 1 1) [b] (rows_one (v := .slice pb nb cb) (Hb.out.below hd.below) 23 (0, 0) _ 1 rfl (Nat.le_refl _)) (by simp) (by rw [List.flatten_cons, List.flatten_nil, List.append_nil, Hnb.out]; omega) (by decide)
    rw [show nm sX = xN from rfl, n_app2 (by rw [Hna.out, Hnb.out]; omega)] at hap
    have Hap := Lib.hid hap
    clear hd hap Hsy
    go_wp2_with fail
    refine Hap.out.mono ?_
    rintro e w4 ⟨rfl, hd, -⟩
    have hap := st_append (hd.alloc (.cells #[.slice pc nc cc] 23)) sY (.slice (some ⟨w4.heap.size, 0, none⟩) 1 1) [c] (rows_one (v := .slice pc nc cc) (Hc.out.below hd.below) 23 (0, 0) _ 1 rfl (Nat.le_refl _)) (by simp) (by rw [List.flatten_cons, List.flatten_nil, List.append_nil, Hnc.out]; omega) (by decide)
    rw [show nm sY = yN from rfl, n_app3 (by rw [List.length_append, Hna.out, Hnb.out, Hnc.out]; omega)] at hap
    have Hap := Lib.hid hap
    clear hd hap
    go_wp2_with fail
    refine Hap.out.mono ?_
    rintro e w5 ⟨rfl, hd, -⟩
    have Hd := Lib.hid hd
    clear hd Hap
    cases sy
    · have Hd := Lib.hid (show St w w5 d (nD2 (a ++ b) a.length c) NoF from Hd.out)
      go_wp2_with fail
      have hrn := st_rename Hd.out sX sY (by decide) (by decide)
      rw [show nm sX = xN from rfl, show nm sY = yN from rfl, n_ren] at hrn
      refine hrn.mono ?_
      clear hrn
      rintro e w6 ⟨rfl, hd, -⟩
      have Hli := Lib.hid (st_list hd)
      clear hd Hd
      go_wp2_with fail
      refine Hli.out.mono ?_
      rintro e w7 ⟨v7, rfl, hv7, -, -, hd⟩
      rw [n_names] at hv7
      have htx := texts_calls (HasN.below (OwnN.has hv7) ((Below.refl _ _).alloc (Nat.le_refl _) (.cells #[.string sY] 9))) (has_names (w := w7) #[.string sY] [yN] _ 1 1 rfl rfl rfl 9 (0, 0)) (by decide) (by decide)
      rw [beq_self_eq_true] at htx
      have Htx := Lib.hid htx
      have Hd := Lib.hid hd
      clear hd htx hv7 Hli
      go_wp2_with fail
      refine Htx.out.mono ?_
      rintro e w8 ⟨rfl, q8, rfl⟩
      have hrn := st_rename ((Hd.out.alloc (.cells #[.string sY] 9)).drewN q8) sX sZ2 (by decide) (by decide)
      rw [show nm sX = xN from rfl, show nm sZ2 = zzN from rfl, n_ren2] at hrn
      have Hrn := Lib.hid hrn
      clear hrn Hd Htx
      go_wp2_with fail
      refine Hrn.out.mono ?_
      rintro e w9 ⟨rfl, hd, -⟩
      have Hcr := Lib.hid (st_crash hd 0 (by decide) (by decide))
      clear hd Hrn
      go_wp2_with fail
      refine Hcr.out.mono ?_
      rintro e w10 ⟨rfl, hd, -⟩
      have hrd := st_read hd sY (by decide)
      rw [show nm sY = yN from rfl, n_get] at hrd
      have Hrd := Lib.hid hrd
      clear hd hrd Hcr
      go_wp2_with fail
      refine Hrd.out.mono ?_
      rintro e w11 ⟨v, rfl, hv, -, -, hd⟩
      have hv' : OwnB w11 5 v ((a ++ b).take a.length) := hv
      have Hv := Lib.hid hv'
      have Hd := Lib.hid hd
      clear hd hv hv' Hrd
      obtain ⟨i0, hi, hz0, hz1, hz2⟩ := info_parts (show (Try.prog.info? 5).map (fun i => (i.zero, i.size, i.bytes)) = some (some (.int .u8 0), 1, 1) by kernel_rfl)
      have X11 := Lib.hid ((Below.refl w11.heap.size w11).alloc (Nat.le_refl _) (.cells #[] 5))
      have Haw := Lib.hid (show Holds (w11.alloc (.cells #[] 5)) 1 (.slice pa na ca) na (bytesV a) from by
        have h := (Ha.out.below Hd.out.below).below X11.out
        unfold HasB at h
        rw [Hna.out] at h
        exact h)
      go_wp2_with (first | (at_builtin; refine wpList_app (w11.alloc (.cells #[] 5)) rfl (.tmp 89) (.tmp 90) 23 rfl 5 i0 (.int .u8 0) 1 1 Try.underlying23 hi hz0 hz1 hz2 rfl (by decide) (.slice (some ⟨w11.heap.size, 0, none⟩) 0 0) 0 [] rfl (own_empty w11 _) (.slice pa na ca) na (bytesV a) rfl Haw.out (bytesV_one _) (by unfold maxLen; omega) (by omega) ?_; intro v12 w12 hown12 hgrow12 hloc12; rw [Nat.zero_add, List.nil_append] at hown12; have hX := X11.out.grown hgrow12 X11.out.size (fun j e => by simp [Value.ownBlock] at e; omega); have hnew := own_ge (B := w11.heap.size) hloc12 (fun k hk => by simp [Value.ownBlock] at hk; omega) X11.out.size; have X12 := Lib.hid (And.intro hX (And.intro hown12 hnew)); clear hown12 hgrow12 hloc12 hX hnew))
      have hsm := same_calls (l := a) (m := a) (by have h := Hv.out.has.below X12.out.1; rw [List.take_left] at h; exact h) (OwnB.has (show OwnB w12 5 v12 a from by unfold OwnB; rw [Hna.out]; exact X12.out.2.1)) (by rw [Hna.out]; exact la) (by rw [Hna.out]; exact la)
      rw [beq_self_eq_true] at hsm
      have Hsm := Lib.hid hsm
      clear hsm
      refine Hsm.out.mono ?_
      rintro e w14 ⟨rfl, q14, rfl⟩
      have Hkn := Lib.hid (known_calls (w12.drewN q14))
      have Hb3 := Lib.hid ((Hd.out.next X12.out.1).drewN q14).below
      clear Hsm
      go_wp2_with fail
      refine Hkn.out.mono ?_
      rintro e w15 ⟨rfl, hb4⟩
      have Hb4 := Lib.hid (Hb3.out.trans (hb4.mono Hb3.out.size))
      clear hb4
      go_wp2_with fail
      go_ret
      exact ⟨rfl, Hb4.out⟩
    · have hsy := st_sync Hd.out [sX] w5.heap.size 1 rfl (0, 0) (by decide) (by decide)
      rw [show [sX].map nm = [xN] from rfl, n_sync2] at hsy
      have Hsy := Lib.hid hsy
      clear hsy Hd
      go_wp2_with fail
      refine Hsy.out.mono ?_
      rintro e w5b ⟨rfl, hd, -⟩
      have Hd := Lib.hid hd
      clear hd Hsy
      go_wp2_with fail
      have hrn := st_rename Hd.out sX sY (by decide) (by decide)
      rw [show nm sX = xN from rfl, show nm sY = yN from rfl, n_ren] at hrn
      refine hrn.mono ?_
      clear hrn
      rintro e w6 ⟨rfl, hd, -⟩
      have Hli := Lib.hid (st_list hd)
      clear hd Hd
      go_wp2_with fail
      refine Hli.out.mono ?_
      rintro e w7 ⟨v7, rfl, hv7, -, -, hd⟩
      rw [n_names] at hv7
      have htx := texts_calls (HasN.below (OwnN.has hv7) ((Below.refl _ _).alloc (Nat.le_refl _) (.cells #[.string sY] 9))) (has_names (w := w7) #[.string sY] [yN] _ 1 1 rfl rfl rfl 9 (0, 0)) (by decide) (by decide)
      rw [beq_self_eq_true] at htx
      have Htx := Lib.hid htx
      have Hd := Lib.hid hd
      clear hd htx hv7 Hli
      go_wp2_with fail
      refine Htx.out.mono ?_
      rintro e w8 ⟨rfl, q8, rfl⟩
      have hrn := st_rename ((Hd.out.alloc (.cells #[.string sY] 9)).drewN q8) sX sZ2 (by decide) (by decide)
      rw [show nm sX = xN from rfl, show nm sZ2 = zzN from rfl, n_ren2] at hrn
      have Hrn := Lib.hid hrn
      clear hrn Hd Htx
      go_wp2_with fail
      refine Hrn.out.mono ?_
      rintro e w9 ⟨rfl, hd, -⟩
      have Hcr := Lib.hid (st_crash hd 0 (by decide) (by decide))
      clear hd Hrn
      go_wp2_with fail
      refine Hcr.out.mono ?_
      rintro e w10 ⟨rfl, hd, -⟩
      have hrd := st_read hd sY (by decide)
      rw [show nm sY = yN from rfl, n_get] at hrd
      have Hrd := Lib.hid hrd
      clear hd hrd Hcr
      go_wp2_with fail
      refine Hrd.out.mono ?_
      rintro e w11 ⟨v, rfl, hv, -, -, hd⟩
      have hv' : OwnB w11 5 v ((a ++ b).take (a ++ b).length) := hv
      have Hv := Lib.hid hv'
      have Hd := Lib.hid hd
      clear hd hv hv' Hrd
      obtain ⟨i0, hi, hz0, hz1, hz2⟩ := info_parts (show (Try.prog.info? 5).map (fun i => (i.zero, i.size, i.bytes)) = some (some (.int .u8 0), 1, 1) by kernel_rfl)
      have X11 := Lib.hid ((Below.refl w11.heap.size w11).alloc (Nat.le_refl _) (.cells #[] 5))
      have Haw := Lib.hid (show Holds (w11.alloc (.cells #[] 5)) 1 (.slice pa na ca) na (bytesV a) from by
        have h := (Ha.out.below Hd.out.below).below X11.out
        unfold HasB at h
        rw [Hna.out] at h
        exact h)
      have Hbw := Lib.hid (show ∀ W, Below w11.heap.size w11 W → Holds W 1 (.slice pb nb cb) nb (bytesV b) from fun W hW => by
        have h := (Hb.out.below Hd.out.below).below hW
        unfold HasB at h
        rw [Hnb.out] at h
        exact h)
      go_wp2_with (first | (at_builtin; refine wpList_app (w11.alloc (.cells #[] 5)) rfl (.tmp 89) (.tmp 90) 23 rfl 5 i0 (.int .u8 0) 1 1 Try.underlying23 hi hz0 hz1 hz2 rfl (by decide) (.slice (some ⟨w11.heap.size, 0, none⟩) 0 0) 0 [] rfl (own_empty w11 _) (.slice pa na ca) na (bytesV a) rfl Haw.out (bytesV_one _) (by unfold maxLen; omega) (by omega) ?_; intro v12 w12 hown12 hgrow12 hloc12; rw [Nat.zero_add, List.nil_append] at hown12; have hX := X11.out.grown hgrow12 X11.out.size (fun j e => by simp [Value.ownBlock] at e; omega); have hnew := own_ge (B := w11.heap.size) hloc12 (fun k hk => by simp [Value.ownBlock] at hk; omega) X11.out.size; have X12 := Lib.hid (And.intro hX (And.intro hown12 hnew)); clear hown12 hgrow12 hloc12 hX hnew) | (at_builtin; refine wpList_app w12 rfl (.tmp 93) (.tmp 94) 23 rfl 5 i0 (.int .u8 0) 1 1 Try.underlying23 hi hz0 hz1 hz2 rfl (by decide) v12 na (bytesV a) rfl X12.out.2.1 (.slice pb nb cb) nb (bytesV b) rfl (Hbw.out _ X12.out.1) (bytesV_one _) (by unfold maxLen; omega) (by omega) ?_; intro v13 w13 hown13 hgrow13 hloc13; have hX := X12.out.1.grown hgrow13 X12.out.1.size X12.out.2.2; have X13 := Lib.hid (And.intro hX hown13); clear hown13 hgrow13 hloc13 hX))
      have hsm := same_calls (l := a ++ b) (m := a ++ b) (by have h := Hv.out.has.below X13.out.1; rw [List.take_length] at h; exact h) (OwnB.has (show OwnB w13 5 v13 (a ++ b) from by unfold OwnB; rw [List.length_append, Hna.out, Hnb.out, bytesV_app]; exact X13.out.2)) (by rw [List.length_append, Hna.out, Hnb.out]; omega) (by rw [List.length_append, Hna.out, Hnb.out]; omega)
      rw [beq_self_eq_true] at hsm
      have Hsm := Lib.hid hsm
      clear hsm
      refine Hsm.out.mono ?_
      rintro e w14 ⟨rfl, q14, rfl⟩
      have Hkn := Lib.hid (known_calls (w13.drewN q14))
      have Hb3 := Lib.hid ((Hd.out.next X13.out.1).drewN q14).below
      clear Hsm
      go_wp2_with fail
      refine Hkn.out.mono ?_
      rintro e w15 ⟨rfl, hb4⟩
      have Hb4 := Lib.hid (Hb3.out.trans (hb4.mono Hb3.out.size))
      clear hb4
      go_wp2_with fail
      go_ret
      exact ⟨rfl, Hb4.out⟩
  · generalize a.length = na at *
    generalize b.length = nb at *
    generalize c.length = nc at *
    clear ha hb hc
    go_enter Try.func8, Try.ntmps8
    go_wp2_with fail
    go_ret
    exact ⟨rfl, Below.refl _ _⟩
end Go.Proofs.Ytdlbamhabenhgaa
