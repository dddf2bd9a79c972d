/- Contracts of disk.New, may, done, Used. -/
import Derived.Test.YtdlbamhabenhgaaDisk
import Derived.Test.YtdlbamhabenhgaaLibC
namespace Go.Proofs.Ytdlbamhabenhgaa
open Go.RowKit Go.Sat Go.Maps

theorem keyLaw : Keyed Try.prog 9 := string_keyed Try.underlying9
theorem zeroFile (w : World) : (zeroValue 78).run Try.prog w = .ok (.pointer none) w := by kernel_rfl

/-! ### New -/
set_option maxHeartbeats 400000 in
theorem new_walk (n : Int) (w : World) (h0 : 0 ≤ n) (h1 : n ≤ 1073741824) :
    Calls Try.prog 15 #[.int .i64 n] w fun e w' => e = .returned (.tuple #[.pointer (some ⟨w.heap.size + 1, 0, none⟩), .int .i64 0]) ∧ w' = (w.alloc (.map #[] 0)).alloc (.cells #[.int .i64 n, .map (some w.heap.size), .bool false, .int .i64 0] 76) := by
  have hmm := @run_makeMap Try.prog
  go_enter Try.func15, Try.ntmps15
  go_wp2
  go_ret2
  exact ⟨rfl, rfl⟩

set_option maxHeartbeats 400000 in
theorem new_bad (n : Int) (w : World) (h : n < 0 ∨ 1073741824 < n) :
    Calls Try.prog 15 #[.int .i64 n] w fun e w' => e = .returned (.tuple #[.pointer none, .int .i64 1]) ∧ w' = w := by
  rcases h with h | h
  · go_enter Try.func15, Try.ntmps15
    go_wp2
    go_ret2
    exact ⟨rfl, rfl⟩
  · have h' : ¬ n < 0 := by omega
    go_enter Try.func15, Try.ntmps15
    go_wp2
    go_ret2
    exact ⟨rfl, rfl⟩

theorem ok_fresh (n : Nat) (h : n ≤ 1073741824) : (DiskM.fresh n).OK where
  srt := srt_nil
  room := h
  used := Nat.zero_le _
  count := Nat.zero_le _
  names p hp := by simp [DiskM.fresh] at hp
  lasts p hp := by simp [DiskM.fresh] at hp
  fuse k hk := by simp [DiskM.fresh] at hk

/-- disk.New: a new disk, of new blocks alone. -/
theorem new_calls (n : Int) (w : World) (h0 : 0 ≤ n) (h1 : n ≤ 1073741824) :
    Calls Try.prog 15 #[.int .i64 n] w fun e w' => ∃ d own, e = .returned (.tuple #[.pointer (some ⟨d, 0, none⟩), .int .i64 0]) ∧ DiskAt w' d (DiskM.fresh n.toNat) own ∧ Chg (fun _ => False) w w' ∧
      (∀ k, k < w.heap.size → own k = none) := by
  refine (new_walk n w h0 h1).mono ?_
  rintro e w' ⟨rfl, rfl⟩
  refine ⟨w.heap.size + 1, fun k => if k = w.heap.size + 1 then some (0, []) else if k = w.heap.size then some (1, []) else none, rfl, ⟨w.heap.size, 0, [], ?_⟩, ((Chg.alloc w _).trans (Chg.alloc _ _) fun _ _ h => h), fun k hk => ?_⟩
  · have hs : (w.alloc (.map #[] 0)).heap.size = w.heap.size + 1 := by simp
    refine ⟨?_, fun k hk => by simp [DiskM.fresh] at hk, ?_, rfl, srt_nil, fun p hp => by simp at hp, by simp, by simp, fun k t hk => ?_, ok_fresh _ (by omega)⟩
    · have := new_block (w.alloc (.map #[] 0)) (.cells #[.int .i64 n, .map (some w.heap.size), .bool false, .int .i64 0] 76)
      rw [hs] at this
      rw [this]
      simp only [DiskM.fresh, Option.isSome_none]
      rw [show ((n.toNat : Int)) = n by omega]
    · exact (World.ownsMap_made w Try.prog 9 ptrR).alloc _
    · split at hk
      · simp; omega
      · split at hk
        · simp; omega
        · cases hk
  · simp only
    rw [if_neg (by omega), if_neg (by omega)]

/-! ### may -/
def StrsAt (w : World) (p : Option Addr) (ss : List ByteArray) : Prop :=
  ss = [] ∨ ∃ b o, p = some ⟨b, o, none⟩ ∧ ∀ i s, ss[i]? = some s → w.cell? ⟨b, o + i, none⟩ = some (.string s)

def nm (s : ByteArray) : Bs := s.data.toList
theorem nm_len (s : ByteArray) : (nm s).length = s.size := by simp [nm]
def namesE (ss : List ByteArray) : Int := if (ss.map nm).all okN then 0 else 1

theorem okN_nm (s : ByteArray) : okN (nm s) = (decide (1 ≤ s.size) && decide (s.size ≤ 64)) := by simp [okN, nm_len]

set_option maxHeartbeats 400000 in
theorem may_burnt (d : Nat) (p : Option Addr) (n c : Nat) (w : World) (h2 : w.cell? ⟨d, 2, none⟩ = some (.bool true)) (h3 : w.cell? ⟨d, 3, none⟩ = some (.int .i64 0)) :
    Calls Try.prog 49 #[.pointer (some ⟨d, 0, none⟩), .slice p n c] w fun e w' => e = .returned (.int .i64 9) ∧ w = w' := by
  go_enter Try.func49, Try.ntmps49
  go_wp2
  go_ret
  exact ⟨rfl, rfl⟩

theorem take_ok {ss : List ByteArray} {k : Nat} (hlt : k < ss.length) (h : ((ss.take k).map nm).all okN = true) (hk : okN (nm ss[k]) = true) : ((ss.take (k + 1)).map nm).all okN = true := by
  rw [List.take_succ_eq_append_getElem hlt, List.map_append, List.all_append, h]
  simp [hk]

theorem bad_at {ss : List ByteArray} {k : Nat} (hlt : k < ss.length) (hk : okN (nm ss[k]) = false) : namesE ss = 1 := by
  have : (ss.map nm).all okN = false := by
    rw [List.all_eq_false]
    exact ⟨nm ss[k], List.mem_map.2 ⟨_, List.getElem_mem hlt, rfl⟩, by rw [hk]; simp⟩
  simp [namesE, this]

set_option maxHeartbeats 1000000 in
theorem may_names (d : Nat) (p : Option Addr) (ss : List ByteArray) (c : Nat) (w : World) (f : Bool) (l : Int) (h2 : w.cell? ⟨d, 2, none⟩ = some (.bool f)) (h3 : w.cell? ⟨d, 3, none⟩ = some (.int .i64 l))
    (hf : f = false ∨ l ≠ 0) (hs : StrsAt w p ss) (hm : ss.length ≤ 140737488355328) (hsz : ∀ s ∈ ss, s.size ≤ 9223372036854775807) :
    Calls Try.prog 49 #[.pointer (some ⟨d, 0, none⟩), .slice p ss.length c] w fun e w' => e = .returned (.int .i64 (namesE ss)) ∧ w = w' := by
  have hfl : f = false ∨ (f = true ∧ (l == 0) = false) := by
    cases f with
    | false => exact .inl rfl
    | true =>
      rcases hf with h | h
      · cases h
      · exact .inr ⟨rfl, by simpa using h⟩
  clear hf
  rcases hfl with rfl | ⟨rfl, hl⟩
  all_goals
    go_enter Try.func49, Try.ntmps49
    go_wp2
    go_loop [24] (fun i => ∃ k : Nat, k ≤ ss.length ∧ i = .int .i64 k ∧ ((ss.take k).map nm).all okN = true) (fun i => ss.length - (intOf i).toNat)
    case atStart => exact ⟨0, Nat.zero_le _, rfl, rfl⟩
    case round =>
      obtain ⟨k, hk, rfl, hall⟩ := hrel
      by_cases hlt : k < ss.length
      · have hss : ss[k]? = some ss[k] := List.getElem?_eq_getElem hlt
        rcases hs with h | ⟨b, o, rfl, hc⟩
        · subst h
          simp at hlt
        have hcell := hc k _ hss
        have hz : ss[k].size ≤ 9223372036854775807 := hsz _ (List.getElem_mem hlt)
        have Hkey := Lib.hid (take_ok hlt hall)
        have Hno := Lib.hid (bad_at hlt)
        clear hc hsz hall hss
        rw [okN_nm] at Hkey Hno
        generalize ss[k] = s at *
        by_cases h1 : 1 ≤ s.size
        · by_cases h64 : s.size ≤ 64
          · go_wp2
            go_round
            case rel => exact ⟨k + 1, by omega, by go_num, Hkey.out (by simp [h1, h64])⟩
            case measure => simp [intOf]; omega
          · go_wp2
            go_ret
            exact ⟨by rw [Hno.out (by simp [h64])]; rfl, rfl⟩
        · go_wp2
          go_ret
          exact ⟨by rw [Hno.out (by simp [h1])]; rfl, rfl⟩
      · have Hall := Lib.hid hall
        clear hall
        go_wp2
        go_ret
        have h := Hall.out
        rw [List.take_of_length_le (by omega)] at h
        exact ⟨by simp [namesE, h], rfl⟩

/-- may, of a disk: what the model says; nothing is turned. -/
theorem may_calls {w : World} {d m : Nat} {left : Int} {L : List (Bs × FRep)} {own : Own} {D : DiskM} (h : DiskIn w d m left L own D) (p : Option Addr) (ss : List ByteArray) (c : Nat)
    (hs : StrsAt w p ss) (hm : ss.length ≤ 140737488355328) (hsz : ∀ s ∈ ss, s.size ≤ 9223372036854775807) :
    Calls Try.prog 49 #[.pointer (some ⟨d, 0, none⟩), .slice p ss.length c] w fun e w' => e = .returned (.int .i64 (D.may (ss.map nm) : Int)) ∧ w = w' := by
  have h2 := h.c2
  have h3 := h.c3
  by_cases hb : D.fuse = some 0
  · have hl := h.left 0 hb
    rw [hb] at h2
    subst hl
    refine (may_burnt d p ss.length c w h2 h3).mono ?_
    rintro e w' ⟨rfl, rfl⟩
    exact ⟨by simp [DiskM.may, hb], rfl⟩
  · have hf : D.fuse.isSome = false ∨ left ≠ 0 := by
      cases hfu : D.fuse with
      | none => exact .inl rfl
      | some k =>
        refine .inr ?_
        rw [h.left k hfu]
        intro e
        have : k = 0 := by omega
        subst this
        exact hb hfu
    refine (may_names d p ss c w _ left h2 h3 hf hs hm hsz).mono ?_
    rintro e w' ⟨rfl, rfl⟩
    refine ⟨?_, rfl⟩
    unfold namesE DiskM.may
    rw [if_neg hb]
    split <;> rfl

/-! ### done -/
set_option maxHeartbeats 400000 in
theorem done_walk (d : Nat) (w : World) (f : Bool) (l : Int) (h2 : w.cell? ⟨d, 2, none⟩ = some (.bool f)) (h3 : w.cell? ⟨d, 3, none⟩ = some (.int .i64 l)) (hz : w.frozen? ⟨d, 3, none⟩ = false) (h1 : f = true → 1 ≤ l ∧ l ≤ 9223372036854775807) :
    Calls Try.prog 51 #[.pointer (some ⟨d, 0, none⟩)] w fun e w' => e = .returned (.int .i64 0) ∧ (if f then w.setCell ⟨d, 3, none⟩ (.int .i64 (l - 1)) else w) = w' := by
  cases f with
  | false =>
    go_enter Try.func51, Try.ntmps51
    go_wp2
    go_ret
    exact ⟨rfl, rfl⟩
  | true =>
    obtain ⟨hl, h9⟩ := h1 rfl
    clear h1
    go_enter Try.func51, Try.ntmps51
    go_wp2
    go_ret
    exact ⟨rfl, rfl⟩

theorem ok_done {D : DiskM} (h : D.OK) : D.done.OK where
  srt := h.srt
  room := h.room
  used := h.used
  count := h.count
  names := h.names
  lasts := h.lasts
  fuse k hk := by
    simp only [DiskM.done, Option.map_eq_some_iff] at hk
    obtain ⟨j, hj, rfl⟩ := hk
    have := h.fuse j hj
    omega

/-- done, of a disk whose fuse is not burnt. -/
theorem done_calls {w : World} {d m : Nat} {left : Int} {L : List (Bs × FRep)} {own : Own} {D : DiskM} (h : DiskIn w d m left L own D) (hf : D.fuse ≠ some 0) :
    Calls Try.prog 51 #[.pointer (some ⟨d, 0, none⟩)] w fun e w' => e = .returned (.int .i64 0) ∧ DiskAt w' d D.done own ∧ Chg (fun k => k = d) w w' := by
  refine (done_walk d w _ left h.c2 h.c3 (frozen_of h.cells 3) ?_).mono ?_
  · intro hs
    cases hfu : D.fuse with
    | none => rw [hfu] at hs; cases hs
    | some k =>
      rw [h.left k hfu]
      have : k ≠ 0 := fun e => hf (by rw [hfu, e])
      have := h.ok.fuse k hfu
      omega
  · rintro e w' ⟨rfl, rfl⟩
    refine ⟨rfl, ?_, ?_⟩
    · cases hfu : D.fuse with
      | none =>
        refine ⟨m, left, L, ?_⟩
        have hd : D.done = D := by
          cases D
          simp only at hfu
          subst hfu
          rfl
        rw [hd]
        exact h
      | some k =>
        refine ⟨m, left - 1, L, ?_⟩
        simp only [Option.isSome_some, if_true]
        have hk : ∀ j, j ≠ d → (w.setCell ⟨d, 3, none⟩ (.int .i64 (left - 1))).heap[j]? = w.heap[j]? := fun j hj => set_other _ hj
        have hne : ∀ j t, own j = some t → t ≠ (0, []) → j ≠ d := fun j t hj ht e => by
          rw [e, h.od] at hj
          exact ht (Option.some.inj hj).symm
        refine ⟨?_, ?_, ?_, h.files, h.srt, fun p hp => ?_, h.od, h.om, fun j t hj => by simpa [World.setCell] using h.olt j t hj, ok_done h.ok⟩
        · rw [set_block h.cells]
          simp [DiskM.done, hfu]
        · intro j hj
          simp only [DiskM.done, hfu, Option.map_some, Option.some.injEq] at hj
          have h1 := h.left k hfu
          have : k ≠ 0 := fun e => hf (by rw [hfu, e])
          omega
        · exact h.map.setCell h.dm_ne.symm _
        · have hp' := h.file p hp
          refine ⟨(hk _ (hne _ _ hp'.ob (by simp))).trans hp'.cells, hp'.ob, hp'.row.keep fun g hg => hk _ (hne _ _ (hp'.og g hg) (by simp)), hp'.og⟩
    · split
      · exact Chg.setCell w ⟨d, 3, none⟩ _
      · exact Chg.refl _ _

/-! ### Used -/
set_option maxHeartbeats 1000000 in
theorem used_walk {w : World} {d m : Nat} {left : Int} {L : List (Bs × FRep)} {own : Own} {D : DiskM} (h : DiskIn w d m left L own D) :
    Calls Try.prog 21 #[.pointer (some ⟨d, 0, none⟩)] w fun e w' => e = .returned (.int .i64 (D.used : Int)) ∧ Below w.heap.size w w' := by
  have h1 := h.c1
  obtain ⟨S, hS⟩ : ∃ S, S = D.used := ⟨_, rfl⟩
  have hSL : sumBy (fun r : FRep => r.f.data.length) L = S := by rw [hS, h.used]
  have hbig : S ≤ 1073741824 := by
    have := h.ok.used
    have := h.ok.room
    omega
  rw [← hS]
  have hown := h.map
  have hsrt := h.srt
  have hL : Hid (DiskIn w d m left L own D) := h
  clear h hS
  go_enter Try.func21, Try.ntmps21
  go_wp2_with (first | (at_range; refine wpList_range_own _ rfl _ 74 rfl 9 78 keyLaw Try.underlying74 ptrR m L.length (dm fbD L) rfl hown ?_; intro w0 hrg0 hg0 hs0))
  go_frame
  go_loopw [3] (fun acc wr => ∃ rest cnt, wr.ranges Try.prog 9 ptrR m w.heap.size L.length (dm fbD L) rest cnt ∧ (∃ k : Nat, acc = .int .i64 (k : Int) ∧ k + sumBy (fun r : FRep => r.f.data.length) (rem rest L) = S) ∧ Below w.heap.size w wr) (fun _ wr => wr.rangeLeft m w.heap.size)
  case atStart =>
    refine ⟨_, _, hrg0, ⟨0, rfl, ?_⟩, (Below.refl _ _).grown hg0 (Nat.le_refl _) (fun _ e => by cases e)⟩
    rw [show rem (Maps.has (dm fbD L)) L = L from rem_start _ L, hSL, Nat.zero_add]
  case round =>
    obtain ⟨rest, cnt, hrg, ⟨k, rfl, hk⟩, hbel⟩ := hrel
    have Hk := Lib.hid hk
    clear hk hrg0 hg0 hs0 hSL hown
    go_wp2_with (first | (at_next; refine wpList_next_ptr _ rfl _ rfl 9 Try.underlying9 keyLaw FRep.fb L m w.heap.size L.length _ _ rfl hrg ?_ ?_))
    · intro hl
      have hS : k = S := by
        have := Hk.out
        rw [rem_end hl] at this
        simpa [sumBy] using this
      subst hS
      go_wp2
      go_ret
      exact ⟨rfl, hbel⟩
    · intro s x w1 cnt1 hgt hl hs hrg1 hlt hg1 hs1 hen
      have hx := hL.out.file _ (get_mem hgt)
      have hbel1 : Below w.heap.size w w1 := hbel.grown hg1 hbel.size (fun j e => by cases e; exact Nat.le_refl _)
      have hcell : w1.cell? ⟨x.fb, 0, none⟩ = some x.v := (hbel1.cell (p := ⟨x.fb, 0, none⟩) (lt_of_block hx.cells)).trans (cell_of hx.cells rfl)
      obtain ⟨p, c, hv⟩ : ∃ p c, x.v = .slice p x.f.data.length c := by
        obtain ⟨_, p, c, hv, _⟩ := hx.row.holds
        exact ⟨p, c, hv⟩
      have hsum := rem_sum (f := fun r : FRep => r.f.data.length) hsrt hgt hl
      have hle : k + x.f.data.length ≤ S := by
        have := Hk.out
        omega
      have hk1 : k + x.f.data.length + sumBy (fun r : FRep => r.f.data.length) (rem (fun z => rest z && !z.sameKey (.string s.data.toList)) L) = S := by
        have := Hk.out
        omega
      have Hk1 := Lib.hid hk1
      have Hm := Lib.hid (show w1.rangeLeft m w.heap.size < wr.rangeLeft m w.heap.size by rw [hrg1.left_eq, hrg.left_eq]; exact hlt)
      rw [hv] at hcell
      clear hk1 hsum hgt hl hg1 hs1 hlt hrg hbel hx hv Hk
      generalize x.f.data.length = j at *
      go_wp2
      go_roundw
      case rel => exact ⟨_, _, hrg1, ⟨k + j, by go_num, Hk1.out⟩, hbel1⟩
      case measure => exact Hm.out
end Go.Proofs.Ytdlbamhabenhgaa
