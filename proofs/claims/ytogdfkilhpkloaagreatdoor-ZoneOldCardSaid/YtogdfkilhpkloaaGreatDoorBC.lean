/- The contracts of Read, Fuse, Crash. A disk that a law has made itself: the contracts in the form in which a law meets them. The contract of satrapylaw3.same. The contract of satrapylaw3.known: it is true. DiskKeeps: the walk. The contract of octet.Sum. The contracts of frame's small functions: four, fromFour, headOf. The contracts of frame.headOf and frame.Encode. octet.Join: what it hands back lies in a block of its own. The contract of frame.Encode. The contracts of bytes.Equal, frame.Decode, frame.One. The contracts of octet's Reader. The contracts of octet's Reader: Num, Bytes, Whole, NewReader. -/
import Derived.Laws.BitsAllLaws
import Derived.Lib.SlBytesConst
import Derived.Test.YtogdfkilhpkloaaGreatDoorBA
import Derived.Test.YtogdfkilhpkloaaGreatDoorBB
namespace Go.Sat
open Go.RowKit
/-- 'x[:k:k]'. -/
theorem run_cut {P : Program} (w : World) {t e : TypeId} {i : TypeInfo} (ht : P.underlying t = some (.slice e)) (hi : P.info? e = some i) (a : Option Addr) (len cap k : Nat) (h : k ≤ cap) :
    (Instr.slice t (.slice a len cap) none (some (.int .i64 (k : Int))) (some (.int .i64 (k : Int)))).run P w = .ok (.slice a k k) w := by
  have h1 : (Instr.sliceBound (.int .i64 (k : Int)) cap .slice3Acap).run P w = .ok k w := by
    rw [run_sliceBound _ _ _ _ _ (by omega) (by omega)]
    simp
  have h2 : (Instr.sliceBound (.int .i64 (k : Int)) k .slice3B).run P w = .ok k w := by
    rw [run_sliceBound _ _ _ _ _ (by omega) (by omega)]
    simp
  have h3 : (if k = 0 then a else a.map fun x => x.add (0 * i.size)) = a := by
    split
    · rfl
    · cases a <;> simp [Addr.add]
  simp only [Nat.zero_mul] at h3
  simp [Instr.slice, run_underlying ht, Instr.sliceBounds, h1, h2, sizeOf, typeInfo, hi, Result.andThen, h3]

theorem OwnR.cut {w : World} {e : TypeId} {p : Option Addr} {n c : Nat} {xs : List Value} (h : OwnR w e 1 (.slice p n c) n xs) {k : Nat} (hk : k ≤ n) : OwnR w e 1 (.slice p k k) k (xs.take k) := by
  obtain ⟨hl, h⟩ := h
  refine ⟨by rw [List.length_take]; omega, ?_⟩
  rcases h with ⟨e1, h0⟩ | ⟨g, cap, cur, e1, hg, hnc, hcm, hcs, ht⟩
  · cases e1
    have : k = 0 := by omega
    subst this
    exact .inl ⟨rfl, rfl⟩
  · cases e1
    refine .inr ⟨g, k, cur, rfl, hg, Nat.le_refl _, by omega, by omega, ?_⟩
    rw [← ht, List.take_take, Nat.mul_one, Nat.mul_one, Nat.min_eq_left hk]

theorem OwnR.cap_le {w : World} {e : TypeId} {p : Option Addr} {n c : Nat} {xs : List Value} (h : OwnR w e 1 (.slice p n c) n xs) : n ≤ c ∧ c ≤ maxLen := by
  rcases h.2 with ⟨e1, h0⟩ | ⟨g, cap, cur, e1, hg, hnc, hcm, hcs, ht⟩
  · cases e1
    exact ⟨Nat.le_refl _, Nat.zero_le _⟩
  · cases e1
    exact ⟨hnc, hcm⟩

theorem grown_set (w : World) (a : Addr) (u : Value) : w.grownBy (w.setCell a u) (some a.block) :=
  ⟨rfl, rfl, rfl, by simp [World.setCell], fun k _ hne => Below.heap_setCell _ _ _ _ fun e => hne (by rw [e])⟩
end Go.Sat

namespace Go.Proofs.YtogdfkilhpkloaaGreatDoor
open Go.RowKit Go.Sat Go.Maps

section
variable {w : World} {d m : Nat} {left : Int} {L : List (Bs × FRep)} {own : Own} {D : DiskM}

theorem data_le (h : DiskIn w d m left L own D) {n : Bs} {r : FRep} (hg : Sat.get n L = some r) : r.f.data.length ≤ 1073741824 := by
  have := h.ok.used
  have := h.ok.room
  have : r.f.data.length ≤ D.used := by rw [h.used]; exact le_sum (f := fun r : FRep => r.f.data.length) h.srt hg
  omega

/-! ### Read -/
def dataOf (o : Option FileM) : Bs := (o.map FileM.data).getD []
def readE (o : Option FileM) : Int := if o.isSome then 0 else 7

/-- What Read leaves: the bytes in a new row, or the error. -/
def ReadPost (w : World) (o : Option FileM) (e : Ending) (w' : World) : Prop :=
  ∃ v, e = .returned (.tuple #[v, .int .i64 (readE o)]) ∧ OwnB w' 5 v (dataOf o) ∧ (∀ k, v.ownBlock = some k → w.heap.size ≤ k) ∧ Below w.heap.size w w'

set_option maxHeartbeats 400000 in
theorem read_calls (h : DiskAt w d D own) (s : ByteArray) (hs : s.size ≤ 9223372036854775807) :
    Calls Tryz.prog 162 #[.pointer (some ⟨d, 0, none⟩), .string s] w (ReadPost w (Sat.get (nm s) D.files)) := by
  obtain ⟨m, left, L, h⟩ := h
  have hc1 := h.c1
  rw [h.get]
  cases hg : Sat.get (nm s) L with
  | none =>
    have hlook := run_look_none w keyLaw Tryz.underlying9 Tryz.underlying89 (zeroFile w) FRep.fb h.map hs hg
    clear h hg
    go_enter Tryz.func162, Tryz.ntmps162
    go_wp2
    go_ret2
    exact ⟨_, rfl, OwnR.nil _ _ _, fun k hk => (by cases hk), Below.refl _ _⟩
  | some r =>
    have hlook := run_look_some w keyLaw Tryz.underlying9 Tryz.underlying89 (zeroFile w) FRep.fb h.map hs hg
    have hf := h.fileAt hg
    have hc := cell_of (i := 0) hf.cells rfl
    have hcl := clone_calls hf.row.has (by have := data_le h hg; omega)
    have Hcl := Lib.hid hcl
    clear h hg hf hcl
    go_enter Tryz.func162, Tryz.ntmps162
    go_wp2_with fail
    refine Hcl.out.mono ?_
    rintro e w' ⟨v, rfl, hv, hn, hb⟩
    have Hv := Lib.hid (And.intro hv (And.intro hn hb))
    clear hv hn hb
    go_wp2_with fail
    go_ret2
    exact ⟨_, rfl, Hv.out⟩

/-! ### Fuse -/
theorem ok_fuse {D : DiskM} (h : D.OK) (n : Int) (hn : n ≤ 9223372036854775807) : (D.setFuse n).OK where
  srt := h.srt
  room := h.room
  used := h.used
  count := h.count
  names := h.names
  lasts := h.lasts
  fuse k hk := by
    simp only [DiskM.setFuse] at hk
    split at hk
    · cases hk
    · cases hk
      omega

theorem setTop (h : DiskIn w d m left L own D) {w' : World} {left' : Int} {D' : DiskM} (hs : w.heap.size ≤ w'.heap.size) (hb : ∀ k, k ≠ d → w'.heap[k]? = w.heap[k]?) (_hroom : D'.room = D.room) (hfiles : D'.files = D.files)
    (hc : w'.heap[d]? = some (.cells #[.int .i64 (D'.room : Int), .map (some m), .bool D'.fuse.isSome, .int .i64 left'] 91 (0, 0))) (hl : ∀ k, D'.fuse = some k → left' = (k : Int)) (hok : D'.OK) : DiskIn w' d m left' L own D' := by
  have keep : ∀ k t, own k = some t → t ≠ (0, []) → w'.heap[k]? = w.heap[k]? := fun k t hk ht => hb k fun e => by
    rw [e, h.od] at hk
    exact ht (Option.some.inj hk).symm
  refine ⟨hc, hl, ?_, by rw [hfiles]; exact h.files, h.srt, fun p hp => ?_, h.od, h.om, fun j t hj => Nat.lt_of_lt_of_le (h.olt j t hj) hs, hok⟩
  · obtain ⟨es, clock, hm, rest⟩ := h.map
    exact ⟨es, clock, (keep m _ h.om (by simp)).trans hm, rest⟩
  · have hp' := h.file p hp
    exact ⟨(keep _ _ hp'.ob (by simp)).trans hp'.cells, hp'.ob, hp'.row.keep fun g hg => keep _ _ (hp'.og g hg) (by simp), hp'.og⟩

set_option maxHeartbeats 400000 in
theorem fuse_calls (h : DiskAt w d D own) (n : Int) (hn : n ≤ 9223372036854775807) (hn0 : -9223372036854775808 ≤ n) :
    Calls Tryz.prog 25 #[.pointer (some ⟨d, 0, none⟩), .int .i64 n] w (Did w d own (D.setFuse n)) := by
  obtain ⟨m, left, L, h⟩ := h
  have hc2 := h.c2
  have hc3 := h.c3
  have hf2 := frozen_of h.cells 2
  have hf3 := frozen_of h.cells 3
  have hfin : ∀ (b : Bool) (l : Int), b = (D.setFuse n).fuse.isSome → (∀ k, (D.setFuse n).fuse = some k → l = (k : Int)) → Did w d own (D.setFuse n) (.returned (.tuple #[])) ((w.setCell ⟨d, 2, none⟩ (.bool b)).setCell ⟨d, 3, none⟩ (.int .i64 l)) := by
    intro b l hb hl
    refine ⟨own, rfl, ⟨m, l, L, setTop h (by simp [World.setCell]) (fun k hk => (set_other _ hk).trans (set_other _ hk)) rfl rfl ?_ hl (ok_fuse h.ok n hn)⟩, ?_, ext_refl _ _⟩
    · rw [set_block (set_block h.cells 2 _) 3, ← hb]
      simp [DiskM.setFuse]
    · exact ((Chg.setCell w ⟨d, 2, none⟩ _).trans (Chg.setCell _ ⟨d, 3, none⟩ _) fun _ _ e => e).mono fun k _ e => by rw [e]; exact has_d h
  have Hfin := Lib.hid hfin
  clear hfin h
  by_cases hp : 0 ≤ n
  · have hd : decide (0 ≤ n) = true := by simpa using hp
    go_enter Tryz.func25, Tryz.ntmps25
    go_wp2
    go_end0
    refine Hfin.out _ _ ?_ ?_
    · simp [DiskM.setFuse]; omega
    · intro k hk
      simp only [DiskM.setFuse, if_neg (show ¬ n < 0 by omega), Option.some.injEq] at hk
      omega
  · have hd : decide (0 ≤ n) = false := by simpa using hp
    have hp' : n < 0 := by omega
    go_enter Tryz.func25, Tryz.ntmps25
    go_wp2
    go_end0
    refine Hfin.out _ _ ?_ ?_
    · simp [DiskM.setFuse, hp']
    · intro k hk
      simp only [DiskM.setFuse, if_pos hp'] at hk
      cases hk

/-! ### Crash -/
/-- The files of which those that 'rest' names are still to come. -/
def part (rest : Lit → Bool) (k : Int) (fs : List (Bs × FileM)) : List (Bs × FileM) := fs.map fun p => (p.1, if rest (.string p.1) then p.2 else DiskM.crashF k p.2)

theorem part_srt {rest : Lit → Bool} {k : Int} {fs : List (Bs × FileM)} (h : Srt fs) : Srt (part rest k fs) := by
  unfold Srt part
  rw [List.pairwise_map]
  exact h

theorem part_get (rest : Lit → Bool) (k : Int) (n : Bs) (fs : List (Bs × FileM)) : Sat.get n (part rest k fs) = (Sat.get n fs).map fun f => if rest (.string n) then f else DiskM.crashF k f := by
  unfold part Sat.get
  rw [List.find?_map]
  cases hf : List.find? ((fun p : Bs × FileM => p.1 == n) ∘ fun p : Bs × FileM => (p.1, if rest (.string p.1) then p.2 else DiskM.crashF k p.2)) fs with
  | none =>
    have : List.find? (fun p : Bs × FileM => p.1 == n) fs = none := hf
    rw [this]
    rfl
  | some p =>
    have h1 : List.find? (fun p : Bs × FileM => p.1 == n) fs = some p := hf
    have h2 := List.find?_some h1
    simp only [beq_iff_eq] at h2
    rw [h1]
    simp [h2]

theorem part_step {rest : Lit → Bool} {k : Int} {fs : List (Bs × FileM)} (h : Srt fs) {n : Bs} {f : FileM} (hg : Sat.get n fs = some f) :
    put n (DiskM.crashF k f) (part rest k fs) = part (fun z => rest z && !z.sameKey (.string n)) k fs := by
  refine srt_ext (srt_put (part_srt h)) (part_srt h) fun j => ?_
  by_cases hj : j = n
  · subst hj
    rw [get_put_same (part_srt h), part_get, hg, sk]
    simp
  · rw [get_put_other (part_srt h) _ hj, part_get, part_get]
    have : (Lit.string j).sameKey (.string n) = false := by rw [sk]; simpa using hj
    rw [this]
    simp

theorem part_all {rest : Lit → Bool} {k : Int} {fs : List (Bs × FileM)} (h : ∀ p ∈ fs, rest (.string p.1) = true) : part rest k fs = fs := by
  unfold part
  conv => rhs; rw [← List.map_id fs]
  refine List.map_congr_left fun p hp => ?_
  rw [h p hp]
  rfl

theorem part_none {rest : Lit → Bool} {k : Int} {fs : List (Bs × FileM)} (h : ∀ z, rest z = false) : part rest k fs = mp (DiskM.crashF k) fs := by
  unfold part mp
  refine List.map_congr_left fun p _ => ?_
  rw [h]
  rfl

theorem stays_le (f : FileM) (k : Int) (h : f.lasts ≤ f.data.length) : f.lasts ≤ DiskM.stays f k ∧ DiskM.stays f k ≤ f.data.length := by
  unfold DiskM.stays
  have := Nat.mod_lt (max 0 k).toNat (show 0 < f.data.length - f.lasts + 1 by omega)
  omega

theorem ok_part {D : DiskM} (h : D.OK) (rest : Lit → Bool) (k : Int) : DiskM.OK { D with files := part rest k D.files } where
  srt := part_srt h.srt
  room := h.room
  used := by
    refine Nat.le_trans ?_ h.used
    show sumBy DiskM.size (part rest k D.files) ≤ sumBy DiskM.size D.files
    have hl := h.lasts
    generalize D.files = fs at hl
    induction fs with
    | nil => exact Nat.le_refl _
    | cons p r ih =>
      have h1 := ih fun q hq => hl q (by simp [hq])
      have h2 := hl p (by simp)
      simp only [part, List.map_cons, sumBy, List.sum_cons] at h1 ⊢
      have h3 : DiskM.size (if rest (.string p.1) then p.2 else DiskM.crashF k p.2) ≤ DiskM.size p.2 := by
        split
        · exact Nat.le_refl _
        · simp only [DiskM.size, DiskM.crashF, List.length_take]
          omega
      omega
  count := by
    show (part rest k D.files).length ≤ 4096
    simp only [part, List.length_map]
    exact h.count
  names p hp := by
    obtain ⟨q, hq, rfl⟩ := List.mem_map.1 hp
    exact h.names q hq
  lasts p hp := by
    obtain ⟨q, hq, rfl⟩ := List.mem_map.1 hp
    have h1 := h.lasts q hq
    show FileM.lasts (if rest (.string q.1) then q.2 else DiskM.crashF k q.2) ≤ (if rest (.string q.1) then q.2 else DiskM.crashF k q.2).data.length
    split
    · exact h1
    · have := stays_le q.2 k h1
      simp only [DiskM.crashF, List.length_take]
      omega
  fuse := h.fuse

theorem ok_crash {D : DiskM} (h : D.OK) (k : Int) : (D.crash k).OK := by
  have := ok_part h (fun _ => false) k
  rw [part_none fun _ => rfl] at this
  exact ⟨this.srt, this.room, this.used, this.count, this.names, this.lasts, fun j hj => by simp [DiskM.crash] at hj⟩

theorem own_none (h : DiskIn w d m left L own D) {k : Nat} (hk : w.heap.size ≤ k) : own k = none := by
  cases ho : own k with
  | none => rfl
  | some t => have := h.olt _ t ho; omega

/-- The loop of Crash. -/
structure CrashRel (w : World) (d m : Nat) (left : Int) (L : List (Bs × FRep)) (own : Own) (D : DiskM) (k : Int) (wr : World) : Prop where
  ex : ∃ rest cnt L' own', wr.ranges Tryz.prog 9 ptrR m w.heap.size L.length (dm fbD L) rest cnt ∧ DiskIn wr d m left L' own' { D with files := part rest k D.files } ∧ mp FRep.fb L' = mp FRep.fb L ∧ Chg (Has own) w wr ∧ Ext w own own' ∧ own' w.heap.size = none

set_option maxRecDepth 100000 in
set_option maxHeartbeats 2000000 in
theorem crash_walk (h : DiskIn w d m left L own D) (k : Int) (hk : -9223372036854775808 ≤ k) (hk' : k ≤ 9223372036854775807) :
    Calls Tryz.prog 23 #[.pointer (some ⟨d, 0, none⟩), .int .i64 k] w (Did w d own (D.crash k)) := by
  have h1 := h.c1
  have hown := h.map
  have hsrt := h.srt
  have hokD := h.ok
  have hL : Hid (DiskIn w d m left L own D) := h
  clear h
  go_enter Tryz.func23, Tryz.ntmps23
  go_wp2_with (first | (at_range; refine wpList_range_own _ rfl _ 89 rfl 9 126 keyLaw Tryz.underlying89 ptrR m L.length (dm fbD L) rfl hown ?_; intro w0 hrg0 hg0 hs0))
  go_frame
  go_loopw [5] (fun _ wr => CrashRel w d m left L own D k wr) (fun _ wr => wr.rangeLeft m w.heap.size)
  case atStart =>
    refine ⟨_, _, L, own, hrg0, ?_, rfl, (Chg.of_grown hg0).mono (fun _ _ e => by cases e), ext_refl _ _, own_none hL.out (Nat.le_refl _)⟩
    have hd := hL.out.chg (Chg.of_grown hg0) (fun _ e => by cases e)
    have e1 : part (Maps.has (dm fbD L)) k D.files = D.files := part_all fun p hp => by
      rw [hL.out.files] at hp
      obtain ⟨q, hq, rfl⟩ := List.mem_map.1 hp
      show Maps.has (dm fbD L) (.string q.1) = true
      rw [dm_has, get_of_mem hsrt hq]
      rfl
    rw [e1]
    exact hd
  case round =>
    obtain ⟨rest, cnt, L', own', hrg, hd, hfb, hc, hx, hit⟩ := hrel.ex
    clear hrg0 hg0 hs0 hown hrel
    go_wp2_with (first | (at_next; refine wpList_next_ptr _ rfl _ rfl 9 Tryz.underlying9 keyLaw FRep.fb L m w.heap.size L.length _ _ rfl hrg ?_ ?_))
    · intro hl
      rw [part_none hl] at hd
      have hc2 := hd.c2
      have hf2 := frozen_of hd.cells 2
      have hfin : Did w d own (D.crash k) (.returned (.tuple #[])) (wr.setCell ⟨d, 2, none⟩ (.bool false)) := by
        refine ⟨own', rfl, ⟨m, left, L', setTop hd (D' := D.crash k) (by simp [World.setCell]) (fun _ hk => set_other _ hk) rfl rfl ?_ (fun j hj => by simp [DiskM.crash] at hj) (ok_crash hokD k)⟩, ?_, hx⟩
        · rw [set_block hd.cells]
          simp [DiskM.crash]
        · exact chg_ext hc hx ((Chg.setCell wr ⟨d, 2, none⟩ _).mono fun _ _ e => by rw [e]; exact has_d hd)
      have Hfin := Lib.hid hfin
      clear hfin hd hc hx hfb hl hrg hokD hsrt hit
      go_wp2
      go_end0
      exact Hfin.out
    · intro s x w1 cnt1 hgt hl hs hrg1 hlt hg1 hs1 hen
      -- the file as it lies now
      have hnot : ∀ j, some j = some w.heap.size → own' j = none := fun j e => by
        cases e
        exact hit
      have hd1 := hd.chg (Chg.of_grown hg1) hnot
      obtain ⟨r, hgr, hfbr⟩ : ∃ r, Sat.get (nm s) L' = some r ∧ r.fb = x.fb := by
        have e1 : (Sat.get (nm s) L').map FRep.fb = some x.fb := by
          rw [← mp_get, hfb, mp_get, show Sat.get (nm s) L = some x from hgt]
          rfl
        exact Option.map_eq_some_iff.1 e1
      have hgf : Sat.get (nm s) D.files = some x.f := by rw [hL.out.files, mp_get, show Sat.get (nm s) L = some x from hgt]; rfl
      have hrf : r.f = x.f := by
        have e1 : (Sat.get (nm s) L').map FRep.f = some x.f := by
          rw [← mp_get, ← hd.files, part_get, hgf]
          simp only [Option.map_some, show rest (.string (nm s)) = true from hl, if_true]
        rw [hgr] at e1
        exact Option.some.inj e1
      have hf1 := hd1.fileAt hgr
      have hcells := hf1.cells
      rw [hrf, hfbr] at hcells
      obtain ⟨p, c, hv⟩ := OwnB.slice hf1.row
      have hcap := OwnR.cap_le (by have := hf1.row; unfold OwnB at this; rw [hv] at this; exact this)
      rw [hrf] at hv hcap
      have hlast : x.f.lasts ≤ x.f.data.length := hokD.lasts _ (get_mem hgf)
      have hlen := data_le hd1 hgr
      rw [hrf] at hlen
      have hst := stays_le x.f k hlast
      rw [hv] at hcells
      have hc0 := cell_of (i := 0) hcells rfl
      have hc1 := cell_of (i := 1) hcells rfl
      have hz0 := frozen_of hcells 0
      have hz1 := frozen_of hcells 1
      have hstays : DiskM.stays x.f k = x.f.lasts + (max 0 k).toNat % (x.f.data.length - x.f.lasts + 1) := rfl
      have hend : ∀ nq, CrashRel w d m left L own D k (((w1.drewN nq).setCell ⟨x.fb, 0, none⟩ (.slice p (DiskM.stays x.f k) (DiskM.stays x.f k))).setCell ⟨x.fb, 1, none⟩ (.int .i64 ((DiskM.stays x.f k : Nat) : Int))) ∧
          (((w1.drewN nq).setCell ⟨x.fb, 0, none⟩ (.slice p (DiskM.stays x.f k) (DiskM.stays x.f k))).setCell ⟨x.fb, 1, none⟩ (.int .i64 ((DiskM.stays x.f k : Nat) : Int))).rangeLeft m w.heap.size < wr.rangeLeft m w.heap.size := by
        intro nq
        have hd2 : DiskIn (w1.drewN nq) d m left L' own' { D with files := part rest k D.files } := hd1.keep (Nat.le_refl _) fun _ _ => rfl
        have hcells2 : (w1.drewN nq).heap[x.fb]? = some (.cells #[.slice p x.f.data.length c, .int .i64 (x.f.lasts : Int)] 128 (0, 0)) := hcells
        have hrow : OwnR (w1.drewN nq) 5 1 (.slice p x.f.data.length c) x.f.data.length (bytesV x.f.data) := by
          have := (hd2.fileAt hgr).row
          rw [hrf, hv] at this
          exact this
        have hown : own' x.fb = some (2, nm s) := by
          have := hf1.ob
          rw [hfbr] at this
          exact this
        have hne : ∀ g, (Value.slice p (DiskM.stays x.f k) (DiskM.stays x.f k)).ownBlock = some g → g ≠ x.fb := fun g hgv => by
          have e1 : r.v.ownBlock = some g := by rw [hv, ownBlock_slice p _ _ (DiskM.stays x.f k) (DiskM.stays x.f k)]; exact hgv
          exact hd2.ne_of ((hd2.fileAt hgr).og g e1) hown (by simp)
        have hlen2 : (x.f.data.take (DiskM.stays x.f k)).length = DiskM.stays x.f k := by rw [List.length_take]; omega
        have hmfb : m ≠ x.fb := hd2.ne_of hd2.om hown (by simp)
        have hifb : w.heap.size ≠ x.fb := fun e => by rw [e, hown] at hit; cases hit
        obtain ⟨own'', h4, hx4⟩ := hd2.upd (w' := ((w1.drewN nq).setCell ⟨x.fb, 0, none⟩ (.slice p (DiskM.stays x.f k) (DiskM.stays x.f k))).setCell ⟨x.fb, 1, none⟩ (.int .i64 ((DiskM.stays x.f k : Nat) : Int)))
          (v' := .slice p (DiskM.stays x.f k) (DiskM.stays x.f k)) (f' := DiskM.crashF k x.f) hgr (by simp [World.setCell]) (fun j _ hj _ => by rw [hfbr] at hj; exact (set_other _ hj).trans (set_other _ hj))
          (by rw [hfbr, set_block (set_block hcells2 0 _) 1]; simp [DiskM.crashF])
          (by
            unfold OwnB
            show OwnR _ _ _ _ (x.f.data.take (DiskM.stays x.f k)).length _
            rw [hlen2]
            show OwnR _ _ _ _ _ (bytesV (x.f.data.take (DiskM.stays x.f k)))
            rw [bytesV_take]
            exact OwnR.keep (hrow.cut hst.2) fun g hgv => (set_other _ (hne g hgv)).trans (set_other _ (hne g hgv)))
          (fun g hgv => .inl (by rw [hv, ownBlock_slice p _ _ (DiskM.stays x.f k) (DiskM.stays x.f k)]; exact hgv))
          (by
            show DiskM.OK { D with files := put (nm s) (DiskM.crashF k x.f) (part rest k D.files) }
            rw [part_step hokD.srt hgf]
            exact ok_part hokD _ k)
        have h5 : DiskIn (((w1.drewN nq).setCell ⟨x.fb, 0, none⟩ (.slice p (DiskM.stays x.f k) (DiskM.stays x.f k))).setCell ⟨x.fb, 1, none⟩ (.int .i64 ((DiskM.stays x.f k : Nat) : Int))) d m left (put (nm s) ⟨r.fb, .slice p (DiskM.stays x.f k) (DiskM.stays x.f k), DiskM.crashF k x.f⟩ L') own''
            { D with files := part (fun z => rest z && !z.sameKey (.string (nm s))) k D.files } := by
          rw [← part_step hokD.srt hgf]
          exact h4
        have g1 := grown_set (w1.drewN nq) ⟨x.fb, 0, none⟩ (.slice p (DiskM.stays x.f k) (DiskM.stays x.f k))
        have g2 := grown_set ((w1.drewN nq).setCell ⟨x.fb, 0, none⟩ (.slice p (DiskM.stays x.f k) (DiskM.stays x.f k))) ⟨x.fb, 1, none⟩ (.int .i64 ((DiskM.stays x.f k : Nat) : Int))
        have hrg2 : (w1.drewN nq).ranges Tryz.prog 9 ptrR m w.heap.size L.length (dm fbD L) (fun z => rest z && !z.sameKey (.string s.data.toList)) cnt1 := hrg1
        have hrg3 := (hrg2.kept g1 (by simpa using hmfb) (by simpa using hifb)).kept g2 (by simpa using hmfb) (by simpa using hifb)
        refine ⟨⟨_, _, _, own'', hrg3, h5, ?_, ?_, ?_, ?_⟩, ?_⟩
        · rw [mp_put, put_same (mp_srt hd2.srt) (by rw [mp_get, hgr]; rfl), hfb]
        · have c1 : Chg (fun j => j = x.fb ∨ j = w.heap.size) wr w1 := (Chg.of_grown hg1).mono fun j _ e => .inr (by cases e; rfl)
          have c2 : Chg (fun j => j = x.fb ∨ j = w.heap.size) wr (w1.drewN nq) := ⟨c1.os, c1.tape, c1.output, c1.size, c1.block⟩
          have c3 := (c2.trans (Chg.of_grown g1) fun j _ e => .inl (by cases e; rfl)).trans (Chg.of_grown g2) fun j _ e => .inl (by cases e; rfl)
          refine hc.trans c3 fun i hi e => ?_
          rcases e with e | e
          · intro ho
            have := hx i hi ho
            rw [e, hown] at this
            cases this
          · omega
        · exact ext_trans (Nat.le_trans hc.size hg1.size) hx hx4
        · exact hx4 _ (by have := hrg1.lt; exact this) hit
        · rw [hrg3.left_eq, hrg.left_eq]
          exact hlt
      have Hend := Lib.hid hend
      have Hst := Lib.hid hst
      have Hstays := Lib.hid hstays
      clear hend hd hd1 hgr hfbr hgf hrf hv hcells hc hx hit hg1 hrg1 hlt hrg hfb hf1 hgt hl hs hs1 hst hstays hsrt hokD hnot
      generalize x.f.data.length = n at *
      generalize x.f.lasts = l at *
      have e6 : wrap64 ((l : Int) + max 0 k % ((n : Int) - (l : Int) + 1)) = ((DiskM.stays x.f k : Nat) : Int) := by
        rw [Hstays.out]
        have e1 : ((n : Int) - (l : Int) + 1) = ((n - l + 1 : Nat) : Int) := by omega
        have e2 : max 0 k = (((max 0 k).toNat : Nat) : Int) := by omega
        have e3 : max 0 k % ((n : Int) - (l : Int) + 1) = (((max 0 k).toNat % (n - l + 1) : Nat) : Int) := by rw [e1, Int.natCast_emod, ← e2]
        have h5 := Nat.mod_lt (max 0 k).toNat (show 0 < n - l + 1 by omega)
        rw [e3, IntWalk.wrap64_in _ ⟨by omega, by omega⟩]
        omega
      have hsl : ∀ W, (Instr.slice 39 (.slice p n c) none (some (.int .i64 ((DiskM.stays x.f k : Nat) : Int))) (some (.int .i64 ((DiskM.stays x.f k : Nat) : Int)))).run Tryz.prog W = .ok (.slice p (DiskM.stays x.f k) (DiskM.stays x.f k)) W := fun W => by
        obtain ⟨i0, hi, _⟩ := info_parts (show (Tryz.prog.info? 5).map (fun i => (i.zero, i.size, i.bytes)) = some (some (.int .u8 0), 1, 1) by kernel_rfl)
        exact run_cut W Tryz.underlying39 hi p n c _ (by have := Hst.out; omega)
      have He6 := Lib.hid e6
      clear e6
      generalize DiskM.stays x.f k = st at *
      go_wp2_with fail
      go_quiet (fail)
      rw [He6.out]
      go_wp2_with fail
      go_roundw
      case rel => exact (Hend.out nq).1
      case measure => exact (Hend.out nq).2
end
end Go.Proofs.YtogdfkilhpkloaaGreatDoor

namespace Go.Proofs.YtogdfkilhpkloaaGreatDoor
open Go.RowKit Go.Sat Go.Maps

/-- In w1, d is a disk that keeps D, all of it new since w, none of it in F; nothing that was there in w has turned. -/
def St (w w1 : World) (d : Nat) (D : DiskM) (F : Nat → Prop) : Prop :=
  ∃ own, DiskAt w1 d D own ∧ Below w.heap.size w w1 ∧ (∀ k, k < w.heap.size ∨ F k → own k = none) ∧ ∀ k, F k → k < w1.heap.size

def NoF : Nat → Prop := fun _ => False

theorem St.below {w w1 : World} {d : Nat} {D : DiskM} {F : Nat → Prop} (h : St w w1 d D F) : Below w.heap.size w w1 := let ⟨_, _, h, _⟩ := h; h
theorem St.ok {w w1 : World} {d : Nat} {D : DiskM} {F : Nat → Prop} (h : St w w1 d D F) : D.OK := let ⟨_, ⟨_, _, _, h⟩, _⟩ := h; h.ok

/-- Something else has turned: blocks of F that are new since w; what is new may be in F' too. -/
theorem St.move {w w1 w2 : World} {d : Nat} {D : DiskM} {F F' S : Nat → Prop} (h : St w w1 d D F) (hc : Chg S w1 w2) (hS : ∀ k, k < w1.heap.size → S k → F k ∧ w.heap.size ≤ k) (hF : ∀ k, F' k → (F k ∨ w1.heap.size ≤ k) ∧ k < w2.heap.size) : St w w2 d D F' := by
  obtain ⟨own, hd, hb1, hn, hl⟩ := h
  have hon : ∀ k, w1.heap.size ≤ k → own k = none := fun k hk => by
    obtain ⟨m, left, L, hd⟩ := hd
    exact own_none hd hk
  refine ⟨own, hd.chg (hc.mono (T := fun k => S k ∧ k < w1.heap.size) fun k hk hs => ⟨hs, hk⟩) (fun k hs => hn k (.inr (hS k hs.2 hs.1).1)), ?_, fun k hk => ?_, fun k hk => (hF k hk).2⟩
  · exact ((Chg.of_below hb1).trans hc fun i hi hs => by
      have h1 := (hS i (Nat.lt_of_lt_of_le hi hb1.size) hs).2
      omega).below (Nat.le_refl _) fun _ _ => id
  · rcases hk with hk | hk
    · exact hn k (.inl hk)
    · rcases (hF k hk).1 with h1 | h1
      · exact hn k (.inr h1)
      · exact hon k h1

theorem St.next {w w1 w2 : World} {d : Nat} {D : DiskM} {F : Nat → Prop} (h : St w w1 d D F) (hb : Below w1.heap.size w1 w2) : St w w2 d D F :=
  h.move (Chg.of_below hb) (fun _ _ h => h.elim) fun k hk => ⟨.inl hk, by obtain ⟨_, _, _, _, hl⟩ := h; exact Nat.lt_of_lt_of_le (hl k hk) hb.size⟩
theorem St.alloc {w w1 : World} {d : Nat} {D : DiskM} {F : Nat → Prop} (h : St w w1 d D F) (o : Obj) : St w (w1.alloc o) d D F := h.next ((Below.refl _ _).alloc (Nat.le_refl _) o)
theorem St.drewN {w w1 : World} {d : Nat} {D : DiskM} {F : Nat → Prop} (h : St w w1 d D F) (n : Nat) : St w (w1.drewN n) d D F := h.next ⟨rfl, rfl, rfl, Nat.le_refl _, fun _ _ => rfl⟩
theorem St.noF {w w1 : World} {d : Nat} {D : DiskM} {F : Nat → Prop} (h : St w w1 d D F) : St w w1 d D NoF := h.move (S := fun _ => False) (Chg.refl _ _) (fun _ _ h => h.elim) fun _ h => h.elim

/-- What a step keeps. -/
def Same (F : Nat → Prop) (w1 w2 : World) : Prop := ∀ k, F k → w2.heap[k]? = w1.heap[k]?

theorem St.step {w w1 w2 : World} {d : Nat} {own own' : Own} {D' : DiskM} {F : Nat → Prop} (hb : Below w.heap.size w w1) (hn : ∀ k, k < w.heap.size ∨ F k → own k = none) (hl : ∀ k, F k → k < w1.heap.size) (hd : DiskAt w2 d D' own') (hc : Chg (Has own) w1 w2) (hx : Ext w1 own own') :
    St w w2 d D' F ∧ Same F w1 w2 := by
  refine ⟨⟨own', hd, ((Chg.of_below hb).trans hc fun i hi hh => (hh (hn i (.inl hi))).elim).below (Nat.le_refl _) fun _ _ => id, fun k hk => ?_, fun k hk => Nat.lt_of_lt_of_le (hl k hk) hc.size⟩, fun k hk => hc.block k (hl k hk) fun hh => hh (hn k (.inr hk))⟩
  rcases hk with h1 | h1
  · exact hx k (Nat.lt_of_lt_of_le h1 hb.size) (hn k (.inl h1))
  · exact hx k (hl k h1) (hn k (.inr h1))

theorem HasB.old {w w1 : World} {v : Value} {l : Bs} (h : HasB w v l) (hb : Below w.heap.size w w1) : HasB w1 v l := h.below hb

/-- What a call of one of the five tells, and what there is behind it. -/
def Told (w : World) (d : Nat) (F : Nat → Prop) (w1 : World) (r : DiskM × Nat) (e : Ending) (w' : World) : Prop := e = .returned (.int .i64 (r.2 : Int)) ∧ St w w' d r.1 F ∧ Same F w1 w'
def Told0 (w : World) (d : Nat) (F : Nat → Prop) (w1 : World) (D : DiskM) (e : Ending) (w' : World) : Prop := e = .returned (.tuple #[]) ∧ St w w' d D F ∧ Same F w1 w'

section
variable {w w1 : World} {d : Nat} {D : DiskM} {F : Nat → Prop}

theorem st_new (n : Int) (h0 : 0 ≤ n) (h1 : n ≤ 1073741824) (hb : Below w.heap.size w w1) :
    Calls Tryz.prog 11 #[.int .i64 n] w1 fun e w' => ∃ d, e = .returned (.tuple #[.pointer (some ⟨d, 0, none⟩), .int .i64 0]) ∧ St w w' d (DiskM.fresh n.toNat) NoF := by
  refine (new_calls n w1 h0 h1).mono ?_
  rintro e w' ⟨d, own, rfl, hd, hc, hn⟩
  exact ⟨d, rfl, own, hd, ((Chg.of_below hb).trans hc fun _ _ h => h).below (Nat.le_refl _) fun _ _ => id, fun k hk => by
    rcases hk with hk | hk
    · exact hn k (Nat.lt_of_lt_of_le hk hb.size)
    · exact hk.elim, fun _ h => h.elim⟩

theorem st_append (h : St w w1 d D F) (s : ByteArray) (x : Value) (ls : List Bs) (hx : RowsAt w1 x ls) (hn : ls.length ≤ 140737488355328) (hl : ls.flatten.length ≤ 140737488355328) (hsz : s.size ≤ 9223372036854775807) :
    Calls Tryz.prog 116 #[.pointer (some ⟨d, 0, none⟩), .string s, x] w1 (Told w d F w1 (D.append (nm s) ls.flatten)) := by
  obtain ⟨own, hd, hb, hnn, hF⟩ := h
  refine (append_calls hd s x ls hx hn hl hsz).mono ?_
  rintro e w' ⟨own', rfl, hd', hc, hx⟩
  exact ⟨rfl, St.step hb hnn hF hd' hc hx⟩

theorem own_new {own : Own} (h : DiskAt w1 d D own) {k : Nat} (hk : w1.heap.size ≤ k) : own k = none := by
  obtain ⟨m, left, L, h⟩ := h
  exact own_none h hk

theorem strs_new (w : World) (ss : List ByteArray) (g : Nat) (hg : g = w.heap.size) (e : TypeId) (fr : Nat × Nat) : StrsAt (w.alloc (.cells (ss.map Value.string).toArray e fr)) (some ⟨g, 0, none⟩) ss := by
  subst hg
  refine .inr ⟨_, _, rfl, fun i u hu => ?_⟩
  refine cell_of (new_block w _) ?_
  simp [hu]

/-- Sync of names that have just been laid. -/
theorem st_sync (h : St w w1 d D F) (ss : List ByteArray) (g c : Nat) (hg : g = w1.heap.size) (fr : Nat × Nat) (hm : ss.length ≤ 140737488355328) (hsz : ∀ s ∈ ss, s.size ≤ 9223372036854775807) :
    Calls Tryz.prog 117 #[.pointer (some ⟨d, 0, none⟩), .slice (some ⟨g, 0, none⟩) ss.length c] (w1.alloc (.cells (ss.map Value.string).toArray 9 fr)) (Told w d F (w1.alloc (.cells (ss.map Value.string).toArray 9 fr)) (D.sync (ss.map nm))) := by
  obtain ⟨own, hd, hb, hnn, hF⟩ := h
  have hd1 := hd.chg (Chg.alloc w1 (.cells (ss.map Value.string).toArray 9 fr)) (fun _ h => h.elim)
  refine (sync_calls hd1 (some ⟨g, 0, none⟩) ss c (strs_new w1 ss g hg _ fr) hm hsz (fun a ha => by cases ha; exact own_new hd (by rw [hg]; exact Nat.le_refl _))).mono ?_
  rintro e w' ⟨own', rfl, hd', hc, hx⟩
  exact ⟨rfl, St.step (hb.alloc hb.size _) hnn (fun k hk => by have := hF k hk; simp; omega) hd' hc hx⟩

theorem st_remove (h : St w w1 d D F) (ss : List ByteArray) (g c : Nat) (hg : g = w1.heap.size) (fr : Nat × Nat) (hm : ss.length ≤ 140737488355328) (hsz : ∀ s ∈ ss, s.size ≤ 9223372036854775807) :
    Calls Tryz.prog 166 #[.pointer (some ⟨d, 0, none⟩), .slice (some ⟨g, 0, none⟩) ss.length c] (w1.alloc (.cells (ss.map Value.string).toArray 9 fr)) (Told w d F (w1.alloc (.cells (ss.map Value.string).toArray 9 fr)) (D.remove (ss.map nm))) := by
  obtain ⟨own, hd, hb, hnn, hF⟩ := h
  have hd1 := hd.chg (Chg.alloc w1 (.cells (ss.map Value.string).toArray 9 fr)) (fun _ h => h.elim)
  refine (remove_calls hd1 (some ⟨g, 0, none⟩) ss c (strs_new w1 ss g hg _ fr) hm hsz (fun a ha => by cases ha; exact own_new hd (by rw [hg]; exact Nat.le_refl _))).mono ?_
  rintro e w' ⟨own', rfl, hd', hc, hx⟩
  exact ⟨rfl, St.step (hb.alloc hb.size _) hnn (fun k hk => by have := hF k hk; simp; omega) hd' hc hx⟩

theorem st_crash (h : St w w1 d D F) (k : Int) (hk : -9223372036854775808 ≤ k) (hk' : k ≤ 9223372036854775807) :
    Calls Tryz.prog 23 #[.pointer (some ⟨d, 0, none⟩), .int .i64 k] w1 (Told0 w d F w1 (D.crash k)) := by
  obtain ⟨own, ⟨m, left, L, hd⟩, hb, hnn, hF⟩ := h
  refine (crash_walk hd k hk hk').mono ?_
  rintro e w' ⟨own', rfl, hd', hc, hx⟩
  exact ⟨rfl, St.step hb hnn hF hd' hc hx⟩

theorem st_fuse (h : St w w1 d D F) (n : Int) (hn0 : -9223372036854775808 ≤ n) (hn : n ≤ 9223372036854775807) :
    Calls Tryz.prog 25 #[.pointer (some ⟨d, 0, none⟩), .int .i64 n] w1 (Told0 w d F w1 (D.setFuse n)) := by
  obtain ⟨own, hd, hb, hnn, hF⟩ := h
  refine (fuse_calls hd n hn hn0).mono ?_
  rintro e w' ⟨own', rfl, hd', hc, hx⟩
  exact ⟨rfl, St.step hb hnn hF hd' hc hx⟩

def GotB (w : World) (d : Nat) (D : DiskM) (F : Nat → Prop) (w1 : World) (o : Option FileM) (e : Ending) (w' : World) : Prop :=
  ∃ v, e = .returned (.tuple #[v, .int .i64 (readE o)]) ∧ OwnB w' 5 v (dataOf o) ∧ (∀ k, v.ownBlock = some k → w1.heap.size ≤ k) ∧ Below w1.heap.size w1 w' ∧ St w w' d D F

theorem st_read (h : St w w1 d D F) (s : ByteArray) (hs : s.size ≤ 9223372036854775807) :
    Calls Tryz.prog 162 #[.pointer (some ⟨d, 0, none⟩), .string s] w1 (GotB w d D F w1 (Sat.get (nm s) D.files)) := by
  have h0 := h
  obtain ⟨own, hd, hb, hnn, hF⟩ := h
  refine (read_calls hd s hs).mono ?_
  rintro e w' ⟨v, rfl, hv, hn, hb'⟩
  exact ⟨v, rfl, hv, hn, hb', h0.next hb'⟩

end

/-! ### What a law lays itself -/
theorem has_lit {w : World} {e : TypeId} {fr : Nat × Nat} (cs : Array Value) (l : Bs) (g n c : Nat) (hg : g = w.heap.size) (hn : n = l.length) (h : cs.toList = bytesV l) : HasB (w.alloc (.cells cs e fr)) (.slice (some ⟨g, 0, none⟩) n c) l := by
  subst hg
  subst hn
  refine ⟨by simp [bytesV], some ⟨w.heap.size, 0, none⟩, c, rfl, fun e => (by cases e), fun a ha i u hu => ?_⟩
  cases ha
  rw [add_zero]
  refine cell_of (new_block w _) ?_
  rw [← h] at hu
  simpa using hu

theorem has_alloc {w : World} {v : Value} {l : Bs} (h : HasB w v l) (o : Obj) : HasB (w.alloc o) v l := h.chg (Chg.alloc w o) fun _ _ => id

/-- A list of one row, in a new block. -/
theorem rows_one {w : World} {v : Value} {l : Bs} (h : HasB w v l) (e : TypeId) (fr : Nat × Nat) (g c : Nat) (hg : g = w.heap.size) (hc : 1 ≤ c) : RowsAt (w.alloc (.cells #[v] e fr)) (.slice (some ⟨g, 0, none⟩) 1 c) [l] := by
  subst hg
  refine ⟨_, c, rfl, by simpa using hc, fun _ => ⟨_, _, [v], rfl, rfl, fun i u hu => ?_, fun i u m hu hm => ?_⟩⟩
  · rw [add_zero]
    refine cell_of (new_block w _) ?_
    simpa using hu
  · have hi : i = 0 := by
      have := (List.getElem?_eq_some_iff.1 hu).1
      simpa using this
    subst hi
    simp at hu hm
    subst hu
    subst hm
    exact (has_alloc h _).kit
end Go.Proofs.YtogdfkilhpkloaaGreatDoor

namespace Go.Sat
open Go.RowKit
theorem HasB.at {w : World} {v : Value} {l : Bs} (h : HasB w v l) : l = [] ∨ ∃ b o c, v = .slice (some ⟨b, o, none⟩) l.length c ∧ ∀ i x, l[i]? = some x → w.cell? ⟨b, o + i, none⟩ = some (.int .u8 (x.toNat : Int)) := by
  obtain ⟨p, c, rfl, h0, hc⟩ := h.kit
  cases p with
  | none => exact .inl (h0 rfl)
  | some a =>
    cases l with
    | nil => exact .inl rfl
    | cons x r =>
      obtain ⟨b, o, sp⟩ := a
      have h1 := hc _ rfl 0 x (by simp)
      have hsp : sp = none := by
        have := World.cell?_spot h1
        simpa [Addr.add] using this
      subst hsp
      refine .inr ⟨b, o, c, rfl, fun i y hy => ?_⟩
      have h2 := hc _ rfl i y hy
      have e : (⟨b, o, none⟩ : Addr).add i = ⟨b, o + i, none⟩ := by unfold Addr.add; split <;> simp_all
      rw [← e]
      exact h2
end Go.Sat

namespace Go.Proofs.YtogdfkilhpkloaaGreatDoor
open Go.RowKit Go.Sat Go.Maps

end Go.Proofs.YtogdfkilhpkloaaGreatDoor

namespace Go.Proofs.YtogdfkilhpkloaaGreatDoor
open Go.RowKit Go.Sat Go.Maps

def sA : ByteArray := ⟨#[97]⟩
def b5 : Bs := [49, 50, 51, 52, 53]
def b3 : Bs := [54, 55, 56]
def b6 : Bs := [49, 50, 51, 52, 53, 54]
def K0 : DiskM := DiskM.fresh 100
def K1 : DiskM := (K0.append [97] b5).1
def K2 : DiskM := (K1.sync [[97]]).1
def K3 : DiskM := (K2.append [97] b3).1

theorem k1 : (K0.append (nm sA) [b5].flatten) = (K1, 0) := by rfl
theorem k2 : (K1.sync ([sA].map nm)) = (K2, 0) := by rfl
theorem k3 : (K2.append (nm sA) [b3].flatten) = (K3, 0) := by rfl
theorem k4 : Sat.get (nm sA) (K3.crash 1).files = some ⟨b6, 6⟩ := by rfl

end Go.Proofs.YtogdfkilhpkloaaGreatDoor

namespace Go.Sat
open Go.RowKit
theorem Holds.cut {w : World} {p : Option Addr} {n c : Nat} {xs : List Value} (h : Holds w 1 (.slice p n c) n xs) {k : Nat} (hk : k ≤ n) (c' : Nat) : Holds w 1 (.slice p k c') k (xs.take k) := by
  obtain ⟨hl, p', cap, e, h0, hc⟩ := h
  cases e
  refine ⟨by rw [List.length_take]; omega, p, c', rfl, fun e => ?_, fun a ha i u hu => hc a ha i u ?_⟩
  · have := h0 e
    omega
  · rw [List.getElem?_take] at hu
    split at hu
    · exact hu
    · cases hu

theorem HasB.cut {w : World} {p : Option Addr} {n c : Nat} {l : Bs} (h : HasB w (.slice p n c) l) {k : Nat} (hk : k ≤ l.length) (c' : Nat) : HasB w (.slice p k c') (l.take k) := by
  obtain ⟨p', c2, e⟩ := h.slice
  cases e
  unfold HasB at h ⊢
  have e1 : (l.take k).length = k := by rw [List.length_take]; omega
  rw [e1, bytesV_take]
  exact Holds.cut h hk c'

/-- 'x[:k]'. -/
theorem run_upto {P : Program} (w : World) {t e : TypeId} {i : TypeInfo} (ht : P.underlying t = some (.slice e)) (hi : P.info? e = some i) (a : Option Addr) (len cap k : Nat) (h : k ≤ cap) :
    (Instr.slice t (.slice a len cap) none (some (.int .i64 (k : Int))) none).run P w = .ok (.slice a k cap) w := by
  have h1 : (Instr.sliceBound (.int .i64 (k : Int)) cap .sliceAcap).run P w = .ok k w := by
    rw [run_sliceBound _ _ _ _ _ (by omega) (by omega)]
    simp
  have h3 : (if cap = 0 then a else a.map fun x => x.add (0 * i.size)) = a := by
    split
    · rfl
    · cases a <;> simp [Addr.add]
  simp only [Nat.zero_mul] at h3
  simp [Instr.slice, run_underlying ht, Instr.sliceBounds, h1, sizeOf, typeInfo, hi, Result.andThen, h3]

theorem OwnB.shape {w : World} {e : TypeId} {v : Value} {l : Bs} (h : OwnB w e v l) : v = .slice none 0 0 ∨ ∃ g c, v = .slice (some ⟨g, 0, none⟩) l.length c := by
  rcases h.2 with ⟨rfl, _⟩ | ⟨g, cap, cur, rfl, _⟩
  · exact .inl rfl
  · exact .inr ⟨g, cap, rfl⟩
end Go.Sat

namespace Go.Proofs.YtogdfkilhpkloaaGreatDoor
open Go.RowKit Go.Sat Go.Maps

/-- How a row of a list of rows is met. -/
theorem RowsAt.row {w : World} {p : Option Addr} {n c : Nat} {ls : List Bs} (h : RowsAt w (.slice p n c) ls) {k : Nat} (hk : k < ls.length) :
    n = ls.length ∧ ∃ b o v, p = some ⟨b, o, none⟩ ∧ w.cell? ⟨b, o + k, none⟩ = some v ∧ HasB w v ls[k] := by
  obtain ⟨p', c', e, hc, hP⟩ := h
  cases e
  have hne : ls ≠ [] := fun e => by rw [e] at hk; simp at hk
  obtain ⟨b, o, vs, rfl, h1, h2, h3⟩ := hP hne
  have hkv : k < vs.length := by rw [h1]; exact hk
  have e1 : (⟨b, o, none⟩ : Addr).add k = ⟨b, o + k, none⟩ := by unfold Addr.add; split <;> simp_all
  refine ⟨rfl, b, o, vs[k], rfl, ?_, HasB.of_kit (h3 k _ _ (List.getElem?_eq_getElem hkv) (List.getElem?_eq_getElem hk))⟩
  rw [← e1]
  exact h2 k _ (List.getElem?_eq_getElem hkv)

theorem RowsAt.len {w : World} {p : Option Addr} {n c : Nat} {ls : List Bs} (h : RowsAt w (.slice p n c) ls) : n = ls.length := by
  obtain ⟨p', c', e, _⟩ := h
  cases e
  rfl

/-! ### The disk behind k rounds -/
theorem flat_take {ls : List Bs} {k : Nat} (hk : k < ls.length) : (ls.take (k + 1)).flatten = (ls.take k).flatten ++ ls[k] := by
  rw [List.take_succ_eq_append_getElem hk, List.flatten_append]
  simp

theorem flat_take_le (ls : List Bs) (k : Nat) : (ls.take k).flatten.length ≤ ls.flatten.length := by
  conv => rhs; rw [← List.take_append_drop k ls, List.flatten_append, List.length_append]
  omega

end Go.Proofs.YtogdfkilhpkloaaGreatDoor

namespace Go.Proofs.YtogdfkilhpkloaaGreatDoor
open Go.RowKit Go.Sat Go.Maps

/-- One bit of the check sum; one byte; bytes. -/
def bitF (z : Int) : Int := bits .xor .u32 (z / 2) (bits .and .u32 3988292384 (-bits .and .u32 z 1 % 4294967296))
def iterF : Nat → Int → Int
  | 0, z => z
  | k + 1, z => bitF (iterF k z)
def byteF (v : Int) (c : UInt8) : Int := iterF 8 (bits .xor .u32 v (c.toNat : Int))
def rowF (v : Int) (l : Bs) : Int := l.foldl byteF v
def rowsF (ls : List Bs) : Int := ls.foldl rowF 4294967295

theorem rowF_take (v : Int) (l : Bs) {j : Nat} (hj : j < l.length) : rowF v (l.take (j + 1)) = byteF (rowF v (l.take j)) l[j] := by
  rw [List.take_succ_eq_append_getElem hj]
  simp only [rowF, List.foldl_append, List.foldl_cons, List.foldl_nil]

theorem rowsF_take (ls : List Bs) {k : Nat} (hk : k < ls.length) : rowsF (ls.take (k + 1)) = rowF (rowsF (ls.take k)) ls[k] := by
  rw [List.take_succ_eq_append_getElem hk]
  simp only [rowsF, List.foldl_append, List.foldl_cons, List.foldl_nil]

theorem rowsF_flat (ls : List Bs) : rowsF ls = rowF 4294967295 ls.flatten := by
  unfold rowsF rowF
  rw [List.foldl_flatten]

def sumF (l : Bs) : Int := bits .xor .u32 IntKind.u32.max (rowF 4294967295 l)

set_option maxRecDepth 100000 in
set_option maxHeartbeats 4000000 in
theorem sum_calls {w : World} {p : Option Addr} {n c : Nat} {ls : List Bs} (hx : RowsAt w (.slice p n c) ls) (hn : n ≤ 140737488355328) (hrow : ∀ l ∈ ls, l.length ≤ 140737488355328) :
    Calls Tryz.prog 177 #[.slice p n c] w (fun e w' => e = .returned (.int .u32 (sumF ls.flatten)) ∧ w' = w) := by
  have hnl := RowsAt.len hx
  have Hx := Lib.hid hx
  have Hrow := Lib.hid hrow
  have Hnl := Lib.hid hnl
  clear hx hrow hnl
  go_enter Tryz.func177, Tryz.ntmps177
  go_wp2_with fail
  go_loop [3, 10] (fun v i => ∃ k : Nat, k ≤ n ∧ i = .int .i64 k ∧ v = .int .u32 (rowsF (ls.take k))) (fun _ i => n - (intOf i).toNat)
  case atStart => exact ⟨0, Nat.zero_le _, rfl, rfl⟩
  case round =>
    obtain ⟨k, hk, rfl, rfl⟩ := hrel
    by_cases hlt : k < n
    · have hltl : k < ls.length := by rw [← Hnl.out]; exact hlt
      have Hrw := Lib.hid (rowsF_take ls hltl)
      obtain ⟨-, b, o, v, rfl, hcell, hv⟩ := RowsAt.row Hx.out hltl
      have hrl := Hrow.out _ (List.getElem_mem hltl)
      generalize hl : ls[k] = l at *
      have Hat := Lib.hid hv.at
      obtain ⟨pv, cv, rfl⟩ := hv.slice
      generalize hm : l.length = m at *
      generalize rowsF (ls.take k) = x at *
      have Hm := Lib.hid hm
      clear hv hm hl
      go_wp2_with fail
      go_loop [3, 16] (fun v i => ∃ j : Nat, j ≤ m ∧ i = .int .i64 j ∧ v = .int .u32 (rowF x (l.take j))) (fun _ i => m - (intOf i).toNat)
      case atStart => exact ⟨0, Nat.zero_le _, rfl, rfl⟩
      case round =>
        obtain ⟨j, hj, rfl, rfl⟩ := hrel
        by_cases hlj : j < m
        · have hljl : j < l.length := by rw [Hm.out]; exact hlj
          have Hbt := Lib.hid (rowF_take x l hljl)
          rcases Hat.out with h | ⟨b2, o2, c2, e1, hcx⟩
          · rw [h] at hljl
            simp at hljl
          cases e1
          have hcb := hcx j _ (List.getElem?_eq_getElem hljl)
          generalize l[j] = cc at *
          generalize rowF x (l.take j) = y at *
          have hcc : cc.toNat < 256 := cc.toNat_lt
          clear hcx
          go_wp2_with fail
          have HB := Lib.hid (show byteF y cc = iterF 8 (bits .xor .u32 y (cc.toNat : Int)) from rfl)
          generalize bits .xor .u32 y (cc.toNat : Int) = z0 at *
          go_loop [3, 24] (fun v i => ∃ q : Nat, q ≤ 8 ∧ i = .int .i64 q ∧ v = .int .u32 (iterF q z0)) (fun _ i => 8 - (intOf i).toNat)
          case atStart => exact ⟨0, Nat.zero_le _, rfl, rfl⟩
          case round =>
            obtain ⟨q, hq, rfl, rfl⟩ := hrel
            by_cases hlq : q < 8
            · have Hit := Lib.hid (show iterF (q + 1) z0 = bitF (iterF q z0) from rfl)
              generalize iterF q z0 = z at *
              go_wp2_with fail
              go_round
              case rel => exact ⟨q + 1, by omega, by go_num, by rw [Hit.out]; rfl⟩
              case measure => simp [intOf]; omega
            · have hq8 : q = 8 := by omega
              subst hq8
              go_wp2_with fail
              go_round
              case rel => exact ⟨j + 1, by omega, by go_num, by rw [Hbt.out, HB.out]⟩
              case measure => simp [intOf]; omega
        · have hjm : j = m := by omega
          have hlk : l.take j = l := List.take_of_length_le (by rw [Hm.out]; omega)
          rw [hlk]
          clear hlk
          go_wp2_with fail
          go_round
          case rel => exact ⟨k + 1, by omega, by go_num, by rw [Hrw.out]⟩
          case measure => simp [intOf]; omega
    · have hlk : ls.take k = ls := List.take_of_length_le (by have := Hnl.out; omega)
      rw [hlk]
      clear hlk
      have He := Lib.hid (show sumF ls.flatten = bits .xor .u32 IntKind.u32.max (rowsF ls) by rw [rowsF_flat]; rfl)
      generalize rowsF ls = x at *
      go_wp2_with fail
      go_ret
      exact ⟨by rw [He.out]; rfl, rfl⟩
end Go.Proofs.YtogdfkilhpkloaaGreatDoor

namespace Go.Proofs.YtogdfkilhpkloaaGreatDoor
open Go.RowKit Go.Sat Go.Maps

/-- A number in four bytes. -/
def fourN (n : Nat) : Bs := [UInt8.ofNat n, UInt8.ofNat (n / 256), UInt8.ofNat (n / 65536), UInt8.ofNat (n / 16777216)]

/-- What a function hands back that lays its bytes anew. -/
def NewB (w : World) (l : Bs) (e : Ending) (w' : World) : Prop := ∃ v, e = .returned v ∧ HasB w' v l ∧ Below w.heap.size w w'

set_option maxRecDepth 100000 in
set_option maxHeartbeats 4000000 in
theorem four_calls {w : World} (v : Nat) (h1 : v < 4294967296) :
    Calls Tryz.prog 176 #[.int .u32 (v : Int)] w (NewB w (fourN v)) := by
  have hfin : NewB w (fourN v) (.returned (.slice (some ⟨w.heap.size, 0, none⟩) 4 4)) (w.alloc (.cells #[.int .u8 ((v : Int) % 256), .int .u8 ((v : Int) / 256 % 256), .int .u8 ((v : Int) / 65536 % 256), .int .u8 ((v : Int) / 16777216)] 5)) :=
    ⟨_, rfl, has_lit _ (fourN v) _ _ 4 rfl rfl (by
      simp only [fourN, bytesV, List.map_cons, List.map_nil, UInt8.toNat_ofNat']
      have e1 : (v : Int) / 16777216 = ((v / 16777216 % 256 : Nat) : Int) := by omega
      have e2 : (v : Int) % 256 = ((v % 256 : Nat) : Int) := by omega
      have e3 : (v : Int) / 256 % 256 = ((v / 256 % 256 : Nat) : Int) := by omega
      have e4 : (v : Int) / 65536 % 256 = ((v / 65536 % 256 : Nat) : Int) := by omega
      rw [e1, e2, e3, e4]), (Below.refl _ _).alloc (Nat.le_refl _) _⟩
  have Hfin := Lib.hid hfin
  clear hfin
  go_enter Tryz.func176, Tryz.ntmps176
  go_wp2_with fail
  go_ret
  exact Hfin.out

theorem or_add (k a b : Nat) (h : a < 2 ^ k) : (a ||| b * 2 ^ k) = a + b * 2 ^ k := by
  have := Nat.two_pow_add_eq_or_of_lt h b
  rw [Nat.or_comm, Nat.mul_comm b, ← this, Nat.add_comm]

theorem or_four {x0 x1 x2 x3 : Nat} (l0 : x0 < 2 ^ 8) (l1 : x1 < 2 ^ 8) (l2 : x2 < 2 ^ 8) (l3 : x3 < 2 ^ 8) :
    bits .or .u32 (bits .or .u32 (bits .or .u32 (x0 : Int) ((x1 : Int) * 256)) ((x2 : Int) * 65536)) ((x3 : Int) * 16777216) = ((x0 + x1 * 256 + x2 * 65536 + x3 * 16777216 : Nat) : Int) := by
  have e1 : (x1 : Int) * 256 = ((x1 * 2 ^ 8 : Nat) : Int) := by omega
  have e2 : (x2 : Int) * 65536 = ((x2 * 2 ^ 16 : Nat) : Int) := by omega
  have e3 : (x3 : Int) * 16777216 = ((x3 * 2 ^ 24 : Nat) : Int) := by omega
  rw [e1, e2, e3, u32_or_nat _ _ (by omega) (by omega), or_add 8 x0 x1 (by omega), u32_or_nat _ _ (by omega) (by omega), or_add 16 _ x2 (by omega), u32_or_nat _ _ (by omega) (by omega), or_add 24 _ x3 (by omega)]

/-- The number of four bytes. -/
def ofFour (a0 a1 a2 a3 : UInt8) : Nat := a0.toNat + a1.toNat * 256 + a2.toNat * 65536 + a3.toNat * 16777216

theorem of_four (n : Nat) (h : n < 4294967296) : ofFour (UInt8.ofNat n) (UInt8.ofNat (n / 256)) (UInt8.ofNat (n / 65536)) (UInt8.ofNat (n / 16777216)) = n := by
  simp only [ofFour, UInt8.toNat_ofNat']
  omega

set_option maxRecDepth 100000 in
set_option maxHeartbeats 4000000 in
theorem fromFour_calls {w : World} {b o n c : Nat} {a0 a1 a2 a3 : UInt8} (hn : 4 ≤ n) (h0 : w.cell? ⟨b, o, none⟩ = some (.int .u8 (a0.toNat : Int))) (h1 : w.cell? ⟨b, o + 1, none⟩ = some (.int .u8 (a1.toNat : Int)))
    (h2 : w.cell? ⟨b, o + 2, none⟩ = some (.int .u8 (a2.toNat : Int))) (h3 : w.cell? ⟨b, o + 3, none⟩ = some (.int .u8 (a3.toNat : Int))) :
    Calls Tryz.prog 284 #[.slice (some ⟨b, o, none⟩) n c] w (fun e w' => e = .returned (.int .u32 (ofFour a0 a1 a2 a3 : Int)) ∧ ∃ q, w' = w.drewN q) := by
  have l0 := a0.toNat_lt
  have l1 := a1.toNat_lt
  have l2 := a2.toNat_lt
  have l3 := a3.toNat_lt
  have i0 : (0 : Int) < (n : Int) := by omega
  have i1 : (1 : Int) < (n : Int) := by omega
  have i2 : (2 : Int) < (n : Int) := by omega
  have i3 : (3 : Int) < (n : Int) := by omega
  have hF := or_four l0 l1 l2 l3
  have HF := Lib.hid (show bits .or .u32 (bits .or .u32 (bits .or .u32 (a0.toNat : Int) ((a1.toNat : Int) * 256)) ((a2.toNat : Int) * 65536)) ((a3.toNat : Int) * 16777216) = (ofFour a0 a1 a2 a3 : Int) from hF)
  clear hF
  generalize ofFour a0 a1 a2 a3 = r at *
  generalize a0.toNat = x0 at *
  generalize a1.toNat = x1 at *
  generalize a2.toNat = x2 at *
  generalize a3.toNat = x3 at *
  go_enter Tryz.func284, Tryz.ntmps284
  go_wp2_with fail
  go_quiet (fail)
  go_wp2
  go_ret
  exact ⟨by rw [← HF.out]; rfl, _, rfl⟩
end Go.Proofs.YtogdfkilhpkloaaGreatDoor

namespace Go.Proofs.YtogdfkilhpkloaaGreatDoor
open Go.RowKit Go.Sat Go.Maps

def sumN (l : Bs) : Nat := (sumF l).toNat

theorem sumF_range (l : Bs) : 0 ≤ sumF l ∧ sumF l < 4294967296 := by
  unfold sumF bits
  rw [IntKind.wrap_u32]
  omega

theorem sumF_nat (l : Bs) : sumF l = (sumN l : Int) := by
  have := (sumF_range l).1
  unfold sumN
  omega

theorem sumN_lt (l : Bs) : sumN l < 4294967296 := by
  have := sumF_range l
  unfold sumN
  omega

/-- A list of two rows, in a new block. -/
theorem rows_two {w : World} {v1 v2 : Value} {l1 l2 : Bs} (h1 : HasB w v1 l1) (h2 : HasB w v2 l2) (e : TypeId) (fr : Nat × Nat) (g c : Nat) (hg : g = w.heap.size) (hc : 2 ≤ c) : RowsAt (w.alloc (.cells #[v1, v2] e fr)) (.slice (some ⟨g, 0, none⟩) 2 c) [l1, l2] := by
  subst hg
  refine ⟨_, c, rfl, by simpa using hc, fun _ => ⟨_, _, [v1, v2], rfl, rfl, fun i u hu => ?_, fun i u m hu hm => ?_⟩⟩
  · have e1 : (⟨w.heap.size, 0, none⟩ : Addr).add i = ⟨w.heap.size, i, none⟩ := by unfold Addr.add; split <;> simp_all
    rw [e1]
    refine cell_of (new_block w _) ?_
    simpa using hu
  · have hi : i < 2 := by
      have := (List.getElem?_eq_some_iff.1 hu).1
      simpa using this
    have : i = 0 ∨ i = 1 := by omega
    rcases this with rfl | rfl
    · simp at hu hm
      subst hu
      subst hm
      exact (has_alloc h1 _).kit
    · simp at hu hm
      subst hu
      subst hm
      exact (has_alloc h2 _).kit

theorem below_al (w : World) (o : Obj) : Below w.heap.size w (w.alloc o) := (Below.refl _ _).alloc (Nat.le_refl _) o
theorem below_to {w w1 w2 : World} (h : Below w.heap.size w w1) (k : Below w1.heap.size w1 w2) : Below w.heap.size w w2 := h.trans (k.mono h.size)

def headN (n : Nat) : Bs := fourN n ++ fourN (sumN (fourN n))

set_option maxRecDepth 100000 in
set_option maxHeartbeats 4000000 in
theorem head_calls {w : World} (n : Nat) (h : n < 4294967296) :
    Calls Tryz.prog 175 #[.int .u32 (n : Int)] w (NewB w (headN n)) := by
  have Hf := Lib.hid (fun w => four_calls (w := w) n h)
  go_enter Tryz.func175, Tryz.ntmps175
  go_wp2_with fail
  refine (Hf.out _).mono ?_
  rintro e w1 ⟨v1, rfl, hv1, hb1⟩
  have V1 := Lib.hid hv1
  have B1 := Lib.hid hb1
  clear hv1 hb1
  go_wp2_with fail
  refine (Hf.out _).mono ?_
  rintro e w2 ⟨v2, rfl, hv2, hb2⟩
  have V2 := Lib.hid hv2
  have B2 := Lib.hid hb2
  obtain ⟨p2, c2, rfl⟩ := hv2.slice
  clear hv2 hb2
  go_wp2_with fail
  refine (sum_calls (rows_one V2.out 39 (0, 0) _ 1 rfl (Nat.le_refl _)) (by decide) (by simp [fourN])).mono ?_
  rintro e w3 ⟨rfl, rfl⟩
  rw [show [fourN n].flatten = fourN n by simp, sumF_nat]
  have Hg := Lib.hid (fun w => four_calls (w := w) (sumN (fourN n)) (sumN_lt _))
  have Hh := Lib.hid (show headN n = fourN n ++ fourN (sumN (fourN n)) from rfl)
  generalize sumN (fourN n) = q at *
  go_wp2_with fail
  refine (Hg.out _).mono ?_
  rintro e w4 ⟨v4, rfl, hv4, hb4⟩
  have B2' := below_to B1.out (below_to B2.out (below_to (below_al _ _) hb4))
  have V1' := V1.out.below (below_to B2.out (below_to (below_al _ _) hb4))
  obtain ⟨p1, c1, rfl⟩ := V1.out.slice
  obtain ⟨p4, c4, rfl⟩ := hv4.slice
  have hj := join_calls (rows_two V1' hv4 39 (0, 0) _ 2 rfl (Nat.le_refl _)) (by simp) (by simp [fourN])
  have Hj := Lib.hid hj
  have BB := Lib.hid B2'
  clear hj V1' B2' hv4 hb4
  go_wp2_with fail
  refine Hj.out.mono ?_
  rintro e w5 ⟨v5, rfl, hv5, hb5⟩
  have Hfin := Lib.hid (show NewB w (headN n) (.returned v5) w5 from ⟨v5, rfl, by rw [Hh.out]; simpa using hv5, below_to BB.out (below_to (below_al _ _) hb5)⟩)
  clear hv5 hb5
  go_wp2_with fail
  go_ret
  exact Hfin.out
end Go.Proofs.YtogdfkilhpkloaaGreatDoor

namespace Go.Proofs.YtogdfkilhpkloaaGreatDoor
open Go.RowKit Go.Sat

theorem fresh_ge {B : Nat} {w : World} {v : Value} {l : Bs} (h : Lib.FreshBytes B w v l) : ∀ k, v.ownBlock = some k → B ≤ k := by
  obtain ⟨g, cap, zs, rfl, h1, _⟩ := h
  intro k hk
  cases hk
  exact h1

/-- bytes.Join of rows, with nothing between them. -/
theorem bjoin_new {w : World} {x : Value} {ls : List Bs} (h : RowsAt w x ls) (hn : ls.length ≤ 140737488355328) (hl : ls.flatten.length ≤ 140737488355328) :
    Calls Tryz.prog 230 #[x, .slice none 0 0] w fun e w' => ∃ v, e = .returned v ∧ HasB w' v ls.flatten ∧ (∀ k, v.ownBlock = some k → w.heap.size ≤ k) ∧ Below w.heap.size w w' := by
  obtain ⟨p, c, rfl, hc, hQ⟩ := h
  cases ls with
  | nil =>
    refine (Tryz.bytes_Join_none p c (.slice none 0 0) w).mono ?_
    rintro e w' ⟨rfl, rfl⟩
    refine ⟨_, rfl, ?_, fun k hk => (by simp [Value.ownBlock] at hk; omega), (Below.refl _ _).alloc (Nat.le_refl _) _⟩
    exact HasB.of_kit ⟨_, _, rfl, fun e => (by cases e), fun a ha i x hx => by simp at hx⟩
  | cons l0 r =>
    obtain ⟨b, o, vs, rfl, hP⟩ := hQ (by simp)
    cases r with
    | nil =>
      obtain ⟨p0, c0, l0', e0, hcell, hp0, hcs⟩ := hP.get 0 (by simp)
      simp at e0
      subst e0
      have hcell' : w.cell? ⟨b, o, none⟩ = some (.slice p0 l0.length c0) := by simpa [Addr.add] using hcell
      by_cases h0 : l0.length = 0
      · have hl0 : l0 = [] := List.eq_nil_of_length_eq_zero h0
        subst hl0
        refine (Tryz.bytes_Join_one_empty b o c p0 c0 (.slice none 0 0) w hcell').mono ?_
        rintro e w' ⟨rfl, rfl⟩
        exact ⟨_, rfl, HasB.of_kit ⟨none, 0, rfl, fun _ => rfl, fun a ha => (by cases ha)⟩, fun k hk => (by cases hk), Below.refl _ _⟩
      · obtain ⟨a0, rfl⟩ : ∃ a, p0 = some a := by
          cases p0 with
          | none => exact absurd (by rw [hp0 rfl]; rfl) h0
          | some a => exact ⟨a, rfl⟩
        refine (Tryz.bytes_Join_one b o c a0 c0 l0 (.slice none 0 0) w hcell' (hcs a0 rfl) (by omega) (by simpa using hl)).mono ?_
        rintro e w' ⟨v, rfl, hf, hb⟩
        exact ⟨v, rfl, by simpa using fresh_has hf, fresh_ge hf, hb⟩
    | cons l1 r =>
      have hsep : Lib.HoldsBytes w (.slice none 0 0) [] := ⟨none, 0, rfl, fun _ => rfl, fun a ha => (by cases ha)⟩
      refine (Tryz.bytes_Join_many b o _ c vs (l0 :: l1 :: r) (.slice none 0 0) [] w rfl (by simp) hP hc hsep hn (by rw [← flat_len]; simpa using hl)).mono ?_
      rintro e w' ⟨v, rfl, hf, hb⟩
      rw [join_flat] at hf
      exact ⟨v, rfl, fresh_has hf, fresh_ge hf, hb⟩

set_option maxHeartbeats 400000 in
/-- octet.Join. -/
theorem join_new {w : World} {x : Value} {ls : List Bs} (h : RowsAt w x ls) (hn : ls.length ≤ 140737488355328) (hl : ls.flatten.length ≤ 140737488355328) :
    Calls Tryz.prog 174 #[x] w fun e w' => ∃ v, e = .returned v ∧ HasB w' v ls.flatten ∧ (∀ k, v.ownBlock = some k → w.heap.size ≤ k) ∧ Below w.heap.size w w' := by
  have hj := bjoin_new h hn hl
  obtain ⟨p, c, rfl, hc, hP⟩ := h
  have Hj := Lib.hid hj
  clear hj hP
  go_enter Tryz.func174, Tryz.ntmps174
  go_wp2_with fail
  refine Hj.out.mono ?_
  rintro e w' ⟨v, rfl, hv, hw, hb⟩
  go_wp2_with fail
  go_ret
  exact ⟨v, rfl, hv, hw, hb⟩

end Go.Proofs.YtogdfkilhpkloaaGreatDoor

namespace Go.Proofs.YtogdfkilhpkloaaGreatDoor
open Go.RowKit Go.Sat Go.Maps

/-- A record of bytes. -/
def frameN (l : Bs) : Bs := (headN l.length ++ l) ++ fourN (sumN (headN l.length ++ l))

theorem lens_take (ls : List Bs) {k : Nat} (hk : k < ls.length) : (ls.take (k + 1)).flatten.length = (ls.take k).flatten.length + ls[k].length := by
  rw [flat_take hk, List.length_append]

set_option maxRecDepth 100000 in
set_option maxHeartbeats 4000000 in
theorem enc_calls {w : World} {p : Option Addr} {n c : Nat} {ls : List Bs} (hx : RowsAt w (.slice p n c) ls) (hn : n ≤ 140737488355328) (hl : ls.flatten.length ≤ 1048576) :
    Calls Tryz.prog 115 #[.slice p n c] w (fun e w' => ∃ v, e = .returned (.tuple #[v, .int .i64 0]) ∧ HasB w' v (frameN ls.flatten) ∧ (∀ k, v.ownBlock = some k → w.heap.size ≤ k) ∧ Below w.heap.size w w') := by
  have hnl := RowsAt.len hx
  have Hx := Lib.hid hx
  have Hl := Lib.hid hl
  have Hnl := Lib.hid hnl
  clear hx hl hnl
  go_enter Tryz.func115, Tryz.ntmps115
  go_wp2_with fail
  go_loop [4, 10] (fun a i => ∃ k : Nat, k ≤ n ∧ i = .int .i64 k ∧ a = .int .i64 (((ls.take k).flatten.length : Nat) : Int) ∧ (ls.take k).flatten.length ≤ 1048576) (fun _ i => n - (intOf i).toNat)
  case atStart => exact ⟨0, Nat.zero_le _, rfl, by simp, by simp⟩
  case round =>
    obtain ⟨k, hk, rfl, rfl, hck⟩ := hrel
    by_cases hlt : k < n
    · have hltl : k < ls.length := by rw [← Hnl.out]; exact hlt
      have hct := lens_take ls hltl
      have hle := flat_take_le ls (k + 1)
      obtain ⟨-, b, o, v, rfl, hcell, hv⟩ := RowsAt.row Hx.out hltl
      obtain ⟨pv, cv, rfl⟩ := hv.slice
      have hc8 : (ls.take (k + 1)).flatten.length ≤ 1048576 := by have := Hl.out; omega
      have hsum : (ls.take k).flatten.length + ls[k].length ≤ 1048576 := by omega
      have Hct := Lib.hid hct
      have Hc8 := Lib.hid hc8
      clear hv hct hle hc8
      generalize ls[k].length = m at *
      generalize (ls.take k).flatten.length = C at *
      go_wp2_with fail
      go_round
      case rel => exact ⟨k + 1, by omega, by go_num, by rw [Hct.out]; go_num, Hc8.out⟩
      case measure => simp [intOf]; omega
    · have hls : ls.take k = ls := List.take_of_length_le (by have := Hnl.out; omega)
      rw [hls] at hck ⊢
      have hkn : k = n := by omega
      have Hhd := Lib.hid (fun w => head_calls (w := w) ls.flatten.length (by have := Hl.out; omega))
      have HFr := Lib.hid (show frameN ls.flatten = (headN ls.flatten.length ++ ls.flatten) ++ fourN (sumN (headN ls.flatten.length ++ ls.flatten)) from rfl)
      have Hjn := Lib.hid (fun (W : World) (hb : Below w.heap.size w W) => join_calls (rows_below Hx.out hb) (by rw [← Hnl.out]; omega) (by have := Hl.out; omega))
      generalize hX : ls.flatten = X at *
      have HX := Lib.hid hX
      clear hX
      generalize hC : X.length = C at *
      have hhl : (headN C).length = 8 := rfl
      generalize headN C = hd at *
      have HC := Lib.hid hC
      have Hhl := Lib.hid hhl
      clear hls hC hhl
      go_wp2_with fail
      refine (Hhd.out _).mono ?_
      rintro e w1 ⟨v1, rfl, hv1, hb1⟩
      have V1 := Lib.hid hv1
      have B1 := Lib.hid hb1
      have Hj := Lib.hid (Hjn.out _ hb1)
      clear hv1 hb1
      go_wp2_with fail
      refine Hj.out.mono ?_
      rintro e w2 ⟨v2, rfl, hv2, hb2⟩
      have hh1 := V1.out.below hb2
      obtain ⟨p1, c1, rfl⟩ := hh1.slice
      obtain ⟨p2, c2, rfl⟩ := hv2.slice
      have hj := join_calls (rows_two hh1 hv2 39 (0, 0) _ 2 rfl (Nat.le_refl _)) (by simp) (by simp [Hhl.out, HC.out]; omega)
      rw [show [hd, X].flatten = hd ++ X by simp] at hj
      have e1 := Hhl.out
      have e2 := HC.out
      rw [e1, e2] at hj
      rw [e1, e2]
      have Hj2 := Lib.hid hj
      have B2 := Lib.hid (below_to B1.out (below_to hb2 (below_al w2 (.cells #[.slice p1 8 c1, .slice p2 C c2] 39))))
      clear hj hh1 hv2 hb2 Hj e1 e2
      go_wp2_with fail
      refine Hj2.out.mono ?_
      rintro e w3 ⟨v3, rfl, hv3, hb3⟩
      have V3 := Lib.hid hv3
      have B3 := Lib.hid (below_to B2.out hb3)
      have hlb : (hd ++ X).length ≤ 1048584 := by rw [List.length_append, Hhl.out, HC.out]; omega
      have HLb := Lib.hid hlb
      generalize hY : hd ++ X = Y at *
      obtain ⟨p3, c3, rfl⟩ := hv3.slice
      clear hv3 hb3 hY hlb
      have hlY := HLb.out
      generalize hD : Y.length = yl at *
      have HD := Lib.hid hD
      clear hD
      go_wp2_with fail
      refine (sum_calls (rows_one V3.out 39 (0, 0) _ 1 rfl (Nat.le_refl _)) (by decide) (by simp [HD.out]; omega)).mono ?_
      rintro e w4 ⟨rfl, rfl⟩
      rw [show [Y].flatten = Y by simp, sumF_nat]
      have Hg := Lib.hid (fun w => four_calls (w := w) (sumN Y) (sumN_lt _))
      generalize sumN Y = q at *
      go_wp2_with fail
      refine (Hg.out _).mono ?_
      rintro e w5 ⟨v5, rfl, hv5, hb5⟩
      have V3' := V3.out.below (below_to (below_al _ _) hb5)
      obtain ⟨p5, c5, rfl⟩ := hv5.slice
      have hj := join_new (rows_two V3' hv5 39 (0, 0) _ 2 rfl (Nat.le_refl _)) (by simp) (by simp [fourN, HD.out]; omega)
      rw [show [Y, fourN q].flatten = Y ++ fourN q by simp, show (fourN q).length = 4 from rfl] at hj
      have B5 := Lib.hid (below_to B3.out (below_to (below_al _ _) hb5))
      rw [show (fourN q).length = 4 from rfl]
      have Hj3 := Lib.hid hj
      clear hj V3' hv5 hb5
      go_wp2_with fail
      refine Hj3.out.mono ?_
      rintro e w6 ⟨v6, rfl, hv6, hw6, hb6⟩
      have V6 := Lib.hid (And.intro hv6 (And.intro (fun k hk => Nat.le_trans B5.out.size (Nat.le_trans (below_al w5 _).size (hw6 k hk)) : ∀ k, v6.ownBlock = some k → w.heap.size ≤ k) (below_to B5.out (below_to (below_al _ _) hb6))))
      clear hv6 hw6 hb6
      go_wp2_with fail
      go_ret2
      exact ⟨v6, rfl, by rw [HX.out, HFr.out]; exact V6.out.1, V6.out.2.1, V6.out.2.2⟩
end Go.Proofs.YtogdfkilhpkloaaGreatDoor

namespace Go.Proofs.YtogdfkilhpkloaaGreatDoor
open Go.RowKit Go.Sat Go.Maps

theorem bytes_in {w : World} {p : Option Addr} {n c : Nat} {l : Bs} (h : HasB w (.slice p n c) l) : n = l.length ∧ Lib.BytesIn w p n (Lib.numsL l) := by
  have h1 := h.at
  obtain ⟨p', c', e⟩ := h.slice
  cases e
  refine ⟨rfl, fun hn => ?_⟩
  rcases h1 with e | ⟨b, o, c2, e, hc⟩
  · rw [e] at hn
    simp at hn
  · cases e
    refine ⟨b, o, rfl, fun i hi => ?_⟩
    rw [hc i l[i] (List.getElem?_eq_getElem hi)]
    simp [Lib.numsL, List.getD, List.getElem?_map, List.getElem?_eq_getElem hi]

theorem equal_calls {w : World} {x y : Value} {l m : Bs} (hx : HasB w x l) (hy : HasB w y m) :
    Calls Tryz.prog 87 #[x, y] w fun e w' => e = .returned (.bool (l == m)) ∧ w' = w := by
  obtain ⟨p1, c1, rfl⟩ := hx.slice
  obtain ⟨p2, c2, rfl⟩ := hy.slice
  have := Tryz.bytes_Equal_all p1 p2 l.length c1 m.length c2 (Lib.numsL l) (Lib.numsL m) w (Lib.numsL_length l) (Lib.numsL_length m) (bytes_in hx).2 (bytes_in hy).2
  rwa [Lib.bytesOf_numsL, Lib.bytesOf_numsL] at this

/-- The number that bytes begin with. -/
def fourAt (b : Bs) : Nat := ofFour (b.getD 0 0) (b.getD 1 0) (b.getD 2 0) (b.getD 3 0)

def decE (b : Bs) : Nat :=
  if b.length < 8 then 2 else if b.take 8 ≠ headN (fourAt b) then 4 else if 1048576 < fourAt b then 5 else if b.length < fourAt b + 12 then 2
  else if fourAt (b.drop (8 + fourAt b)) ≠ sumN (b.take (8 + fourAt b)) then 4 else 0
def decB (b : Bs) : Bs := if decE b = 0 then (b.drop 8).take (fourAt b) else []
def decL (b : Bs) : Nat := if decE b = 0 then fourAt b + 12 else 0

def Decoded (w : World) (b : Bs) (e : Ending) (w' : World) : Prop :=
  ∃ v, e = .returned (.tuple #[v, .int .i64 (decL b : Int), .int .i64 (decE b : Int)]) ∧ OwnB w' 5 v (decB b) ∧ (∀ k, v.ownBlock = some k → w.heap.size ≤ k) ∧ Below w.heap.size w w'

theorem four_at {w : World} {p : Option Addr} {n c : Nat} {b : Bs} (h : HasB w (.slice p n c) b) (h4 : 4 ≤ b.length) :
    Calls Tryz.prog 284 #[.slice p n c] w (fun e w' => e = .returned (.int .u32 (fourAt b : Int)) ∧ ∃ q, w' = w.drewN q) := by
  have h1 := h.at
  obtain ⟨p', c', e⟩ := h.slice
  cases e
  rcases h1 with e | ⟨g, o, c2, e, hc⟩
  · rw [e] at h4
    simp at h4
  · cases e
    have hb : ∀ i, i < b.length → b[i]? = some (b.getD i 0) := fun i hi => by simp [List.getD, List.getElem?_eq_getElem hi]
    exact fromFour_calls h4 (by simpa using hc 0 _ (hb 0 (by omega))) (hc 1 _ (hb 1 (by omega))) (hc 2 _ (hb 2 (by omega))) (hc 3 _ (hb 3 (by omega)))

theorem fourAt_lt (b : Bs) : fourAt b < 4294967296 := by
  have h0 := (b.getD 0 0).toNat_lt
  have h1 := (b.getD 1 0).toNat_lt
  have h2 := (b.getD 2 0).toNat_lt
  have h3 := (b.getD 3 0).toNat_lt
  unfold fourAt ofFour
  omega

theorem HasB.from {w : World} {g o n c : Nat} {l : Bs} (h : HasB w (.slice (some ⟨g, o, none⟩) n c) l) {k : Nat} (_hk : k ≤ l.length) (c' : Nat) : HasB w (.slice (some ⟨g, o + k, none⟩) (n - k) c') (l.drop k) := by
  have h1 := h.at
  obtain ⟨p', c2, e⟩ := h.slice
  cases e
  refine HasB.of_kit ⟨some ⟨g, o + k, none⟩, c', by rw [List.length_drop], fun e => (by cases e), fun a ha i x hx => ?_⟩
  cases ha
  have e1 : (⟨g, o + k, none⟩ : Addr).add i = ⟨g, o + k + i, none⟩ := by unfold Addr.add; split <;> simp_all
  rw [e1]
  rw [List.getElem?_drop] at hx
  rcases h1 with e | ⟨g2, o2, c3, e, hc⟩
  · rw [e] at hx
    simp at hx
  · cases e
    have := hc _ _ hx
    rw [Nat.add_assoc]
    exact this

end Go.Proofs.YtogdfkilhpkloaaGreatDoor

namespace Go.Proofs.YtogdfkilhpkloaaGreatDoor
open Go.RowKit Go.Sat Go.Maps

/-- A Reader in memory. -/
structure RdIn (w : World) (r : Nat) (R : Rd) (p : Option Addr) (n c : Nat) : Prop where
  cells : w.heap[r]? = some (.cells #[.slice p n c, .bool R.bad] 238 (0, 0))
  has : HasB w (.slice p n c) R.rest
  cap : n ≤ c
  ne : (Value.slice p n c).ownBlock ≠ some r
  len : R.rest.length ≤ 140737488355328

def RdAt (w : World) (r : Nat) (R : Rd) : Prop := ∃ p n c, RdIn w r R p n c

/-- What a thing done with a Reader leaves. -/
def RStep1 (w : World) (r : Nat) (R' : Rd) (v : Value) (e : Ending) (w' : World) : Prop := e = .returned v ∧ RdAt w' r R' ∧ Chg (fun k => k = r) w w'

section
variable {w : World} {r : Nat} {R : Rd} {p : Option Addr} {n c : Nat}

theorem RdIn.c0 (h : RdIn w r R p n c) : w.cell? ⟨r, 0, none⟩ = some (.slice p n c) := cell_of h.cells rfl
theorem RdIn.c1 (h : RdIn w r R p n c) : w.cell? ⟨r, 1, none⟩ = some (.bool R.bad) := cell_of h.cells rfl
theorem RdIn.n_eq (h : RdIn w r R p n c) : R.rest.length = n := by obtain ⟨_, _, e⟩ := h.has.slice; simp only [Value.slice.injEq] at e; exact e.2.1.symm
theorem RdIn.rlt (h : RdIn w r R p n c) : r < w.heap.size := (Array.getElem?_eq_some_iff.1 h.cells).1

theorem rd_set (h : RdIn w r R p n c) (v0 v1 : Value) : ((w.setCell ⟨r, 0, none⟩ v0).setCell ⟨r, 1, none⟩ v1).heap[r]? = some (.cells #[v0, v1] 238 (0, 0)) := by
  have h1 := set_block h.cells 0 v0
  have h2 := set_block h1 1 v1
  simpa using h2

theorem rd_set0 (h : RdIn w r R p n c) (v0 : Value) : (w.setCell ⟨r, 0, none⟩ v0).heap[r]? = some (.cells #[v0, .bool R.bad] 238 (0, 0)) := by
  have h1 := set_block h.cells 0 v0
  simpa using h1

theorem rd_bad (h : RdIn w r R p n c) : RdAt ((w.setCell ⟨r, 0, none⟩ (.slice none 0 0)).setCell ⟨r, 1, none⟩ (.bool true)) r Rd.fail :=
  ⟨none, 0, 0, rd_set h _ _, OwnB.has (e := 0) (OwnR.nil _ _ _), Nat.le_refl _, fun h => (by cases h), Nat.zero_le _⟩

theorem bad_calls (h : RdIn w r R p n c) :
    Calls Tryz.prog 202 #[.pointer (some ⟨r, 0, none⟩)] w (RStep1 w r Rd.fail (.tuple #[])) := by
  have h0 := h.c0
  have h1 := h.c1
  have hf := fun i => frozen_of h.cells i
  have HE := Lib.hid (show RStep1 w r Rd.fail (.tuple #[]) (.returned (.tuple #[])) ((w.setCell ⟨r, 0, none⟩ (.slice none 0 0)).setCell ⟨r, 1, none⟩ (.bool true)) from ⟨rfl, rd_bad h, (Chg.setCell w ⟨r, 0, none⟩ _).trans (Chg.setCell _ ⟨r, 1, none⟩ _) fun _ _ e => e⟩)
  clear h
  go_enter Tryz.func202, Tryz.ntmps202
  go_wp2_with fail
  go_end0
  exact HE.out

theorem HasB.empty (w : World) (a : Option Addr) (c : Nat) : HasB w (.slice a 0 c) [] := ⟨rfl, a, c, rfl, fun _ => rfl, fun a' _ i u hu => (by simp [bytesV] at hu)⟩

theorem run_tail0 {P : Program} (w : World) {t e : TypeId} {i : TypeInfo} (ht : P.underlying t = some (.slice e)) (hi : P.info? e = some i) (hsz : i.size = 1) (p : Option Addr) (len cap k : Nat) (h : k ≤ len) (_h2 : len ≤ cap) :
    (Instr.slice t (.slice p len cap) (some (.int .i64 (k : Int))) none none).run P w = .ok (.slice (if cap = k then p else p.map fun x => x.add k) (len - k) (cap - k)) w := by
  have h1 : (Instr.sliceBound (.int .i64 (k : Int)) len .sliceB).run P w = .ok k w := by
    rw [run_sliceBound _ _ _ _ _ (by omega) (by omega)]
    simp
  simp [Instr.slice, run_underlying ht, Instr.sliceBounds, h1, sizeOf, typeInfo, hi, Result.andThen, hsz]

/-- 'x[k:]' at any k. -/
theorem run_tail {P : Program} {w : World} {t e : TypeId} {i : TypeInfo} (ht : P.underlying t = some (.slice e)) (hi : P.info? e = some i) (hsz : i.size = 1) {p : Option Addr} {n c : Nat} {l : Bs} (h : HasB w (.slice p n c) l) (hnc : n ≤ c) (r k : Nat) (hne : (Value.slice p n c).ownBlock ≠ some r) (hk : k ≤ n) :
    ∃ p' c', (∀ W, (Instr.slice t (.slice p n c) (some (.int .i64 (k : Int))) none none).run P W = .ok (.slice p' (n - k) c') W) ∧ HasB w (.slice p' (n - k) c') (l.drop k) ∧ n - k ≤ c' ∧ (Value.slice p' (n - k) c').ownBlock ≠ some r := by
  have hl : l.length = n := by obtain ⟨_, _, e⟩ := h.slice; simp only [Value.slice.injEq] at e; exact e.2.1.symm
  refine ⟨_, _, fun W => run_tail0 (P := P) W ht hi hsz p n c k hk hnc, ?_, by omega, ?_⟩
  · by_cases hkn : k = n
    · subst hkn
      rw [List.drop_of_length_le (by omega), Nat.sub_self]
      exact HasB.empty _ _ _
    · rw [if_neg (show ¬ c = k by omega)]
      rcases h.at with h0 | ⟨g, o, c2, e2, hc⟩
      · rw [h0] at hl
        simp at hl
        omega
      · simp only [Value.slice.injEq] at e2
        obtain ⟨rfl, -, -⟩ := e2
        have e3 : (some (⟨g, o, none⟩ : Addr)).map (fun x => x.add k) = some ⟨g, o + k, none⟩ := by simp [Addr.add]
        rw [e3]
        exact HasB.from h (by omega) _
  · split
    · cases p <;> exact hne
    · cases p with
      | none => intro e; cases e
      | some a =>
        intro e
        refine hne ?_
        rw [← e]
        simp [Value.ownBlock, add_block]

theorem HasB.set {w : World} {v : Value} {l : Bs} (h : HasB w v l) {a : Addr} (u : Value) (hne : v.ownBlock ≠ some a.block) : HasB (w.setCell a u) v l :=
  Holds.keep h fun k hk => set_other u fun e => hne (by rw [hk, e])

set_option maxRecDepth 100000 in
set_option maxHeartbeats 4000000 in
theorem raw_calls (h : RdIn w r R p n c) (k : Int) (hk : 0 ≤ k) (hk' : k ≤ 9223372036854775807) :
    Calls Tryz.prog 190 #[.pointer (some ⟨r, 0, none⟩), .int .i64 k] w fun e w' => ∃ v, e = .returned v ∧ OwnB w' 5 v (R.raw k.toNat).1 ∧ (∀ j, v.ownBlock = some j → w.heap.size ≤ j) ∧ RdAt w' r (R.raw k.toNat).2 ∧ Chg (fun j => j = r) w w' := by
  obtain ⟨i0, hi, -, hz1, -⟩ := info_parts (show (Tryz.prog.info? 5).map (fun i => (i.zero, i.size, i.bytes)) = some (some (.int .u8 0), 1, 1) by kernel_rfl)
  obtain ⟨m, rfl⟩ : ∃ m : Nat, k = (m : Int) := ⟨k.toNat, by omega⟩
  have hn := h.n_eq
  have hlen := h.len
  rw [Int.toNat_natCast]
  have c0 := h.c0
  have hfr := fun i => frozen_of h.cells i
  by_cases hm : m ≤ n
  · have hR : R.raw m = (R.rest.take m, ⟨R.rest.drop m, R.bad⟩) := by unfold Rd.raw; rw [if_pos (by omega)]
    rw [hR]
    obtain ⟨p', c', hsl, hh, hc, hne⟩ := run_tail (P := Tryz.prog) Tryz.underlying39 hi hz1 h.has h.cap r m h.ne hm
    have hup : ∀ W, (Instr.slice 39 (.slice p n c) none (some (.int .i64 (m : Int))) none).run Tryz.prog W = .ok (.slice p m c) W := fun W => run_upto W Tryz.underlying39 hi p n c m (by have := h.cap; omega)
    have Hcl := Lib.hid (clone_calls (HasB.cut h.has (k := m) (by omega) c) (by rw [List.length_take]; omega))
    have Hin := Lib.hid h
    have Hh := Lib.hid (And.intro hh (And.intro hc hne))
    clear hh hc hne h hR
    go_enter Tryz.func190, Tryz.ntmps190
    go_wp2_with fail
    refine Hcl.out.mono ?_
    rintro e w1 ⟨v, rfl, hv, hvn, hb⟩
    have hcell := hb.block r Hin.out.rlt
    have hin1 : RdIn w1 r R p n c := ⟨hcell.trans Hin.out.cells, HasB.below Hin.out.has hb, Hin.out.cap, Hin.out.ne, Hin.out.len⟩
    have hc1 := hin1.c0
    have hfr1 := fun i => frozen_of hin1.cells i
    have HV := Lib.hid (And.intro (show OwnB (w1.setCell ⟨r, 0, none⟩ (.slice p' (n - m) c')) 5 v (R.rest.take m) from hv.keep fun k hk => set_other _ fun e => by
      have := hvn k hk
      have h2 := Hin.out.rlt
      have h3 : k = r := e
      omega) (And.intro hvn (And.intro (show RdAt (w1.setCell ⟨r, 0, none⟩ (.slice p' (n - m) c')) r ⟨R.rest.drop m, R.bad⟩ from ⟨p', n - m, c', rd_set0 hin1 _, (HasB.set (HasB.below Hh.out.1 hb) _ Hh.out.2.2), Hh.out.2.1, Hh.out.2.2, by rw [List.length_drop]; omega⟩)
        (((Chg.of_below hb).mono fun _ _ h => h.elim).trans (Chg.setCell _ ⟨r, 0, none⟩ _) fun _ _ e => e : Chg (fun j => j = r) w (w1.setCell ⟨r, 0, none⟩ (.slice p' (n - m) c'))))))
    clear hv hvn hin1 Hin Hh Hcl hcell
    go_wp2_with fail
    go_ret
    exact ⟨v, rfl, HV.out⟩
  · have hR : R.raw m = ([], Rd.fail) := by unfold Rd.raw; rw [if_neg (by omega)]
    rw [hR]
    have Hbd := Lib.hid (bad_calls h)
    have hgt : ((m : Int) > (n : Int)) := by omega
    clear h hR
    go_enter Tryz.func190, Tryz.ntmps190
    go_wp2_with fail
    refine Hbd.out.mono ?_
    rintro e w1 ⟨rfl, hr, hc⟩
    have HE := Lib.hid (And.intro hr hc)
    clear hr hc
    go_wp2_with fail
    go_ret
    exact ⟨_, rfl, OwnR.nil _ _ _, fun j hj => (by cases hj), HE.out⟩
end
end Go.Proofs.YtogdfkilhpkloaaGreatDoor

namespace Go.Proofs.YtogdfkilhpkloaaGreatDoor
open Go.RowKit Go.Sat Go.Maps

theorem pow_seven (k : Nat) : 2 ^ (7 * k) = 128 ^ k := by rw [Nat.pow_mul]

theorem u64_seven {k a x : Nat} (ha : a < 128 ^ k) (hk : k ≤ 8) (hx : x < 256) :
    bits .or .u64 (a : Int) (IntKind.u64.wrap (IntKind.u64.wrap (bits .and .u8 (x : Int) 127) * 2 ^ (7 * k))) = ((a + x % 128 * 128 ^ k : Nat) : Int) ∧ a + x % 128 * 128 ^ k < 128 ^ (k + 1) ∧ a + x % 128 * 128 ^ k < 9223372036854775808 := by
  have h1 : bits .and .u8 (x : Int) 127 = ((x % 128 : Nat) : Int) := by
    have := u8_and_nat x 127 hx (by decide)
    rw [Nat.and_two_pow_sub_one_eq_mod x 7] at this
    exact this
  have hm : x % 128 < 128 := Nat.mod_lt _ (by decide)
  generalize x % 128 = y at *
  have hp : 128 ^ k ≤ 128 ^ 8 := Nat.pow_le_pow_right (by decide) hk
  have h8 : (128 : Nat) ^ 8 = 72057594037927936 := by decide
  have hy : y * 128 ^ k ≤ 127 * 128 ^ k := Nat.mul_le_mul_right _ (by omega)
  have hs : 128 ^ (k + 1) = 128 ^ k * 128 := Nat.pow_succ _ _
  have h2 : ((y : Nat) : Int) * 2 ^ (7 * k) = ((y * 128 ^ k : Nat) : Int) := by
    rw [← pow_seven, Int.natCast_mul, Int.natCast_pow]
    rfl
  rw [h1, IntWalk.u64_in ((y : Nat) : Int) (by omega), h2, IntWalk.u64_in ((y * 128 ^ k : Nat) : Int) (by omega), u64_or_nat _ _ (by omega) (by omega), ← pow_seven, or_add (7 * k) a y (by rw [pow_seven]; exact ha), pow_seven]
  refine ⟨rfl, by omega, by omega⟩

theorem own_cap0 {w : World} {e : TypeId} {v : Value} {l : Bs} (h : OwnB w e v l) : ∃ p c, v = .slice p l.length c ∧ l.length ≤ c := by
  rcases h.2 with ⟨rfl, hn⟩ | ⟨g, cap, cur, rfl, _, hnc, _⟩
  · exact ⟨none, 0, by rw [hn], by omega⟩
  · exact ⟨_, cap, rfl, hnc⟩

def NumDone (w : World) (r : Nat) (R : Rd) (e : Ending) (w' : World) : Prop := e = .returned (.int .i64 (R.num.1 : Int)) ∧ RdAt w' r R.num.2 ∧ Chg (fun k => k = r) w w'

set_option maxRecDepth 100000 in
set_option maxHeartbeats 4000000 in
theorem num_calls {w : World} {r : Nat} {R : Rd} {p : Option Addr} {n c : Nat} (h : RdIn w r R p n c) :
    Calls Tryz.prog 137 #[.pointer (some ⟨r, 0, none⟩)] w (NumDone w r R) := by
  obtain ⟨i0, hi, -, hz1, -⟩ := info_parts (show (Tryz.prog.info? 5).map (fun i => (i.zero, i.size, i.bytes)) = some (some (.int .u8 0), 1, 1) by kernel_rfl)
  have hn := h.n_eq
  have hlen := h.len
  rw [hn] at hlen
  have c0 := h.c0
  have hfr := frozen_of h.cells 0
  have Hbad := Lib.hid (bad_calls h)
  have Hno := Lib.hid (show numGo 0 0 R.rest = none → R.num = (0, Rd.fail) from fun e => by unfold Rd.num; rw [e])
  have Hyes := Lib.hid (show ∀ v t, numGo 0 0 R.rest = some (v, t) → R.num = (v, ⟨t, R.bad⟩) from fun v t e => by unfold Rd.num; rw [e])
  have Hin := Lib.hid h
  have Hn := Lib.hid hn
  clear h hn
  go_enter Tryz.func137, Tryz.ntmps137
  go_wp2_with fail
  go_loop [3, 13] (fun u i => ∃ k a : Nat, k ≤ n ∧ k ≤ 9 ∧ i = .int .i64 k ∧ u = .int .u64 a ∧ a < 128 ^ k ∧ numGo 0 0 R.rest = numGo k a (R.rest.drop k)) (fun _ i => n - (intOf i).toNat)
  case atStart => exact ⟨0, 0, Nat.zero_le _, by omega, rfl, rfl, by simp, rfl⟩
  case round =>
    obtain ⟨k, a, hk, hk9, rfl, rfl, ha, hgo⟩ := hrel
    by_cases hlt : k < n
    · have hkl : k < R.rest.length := by rw [Hn.out]; exact hlt
      rw [List.drop_eq_getElem_cons hkl] at hgo
      rcases Hin.out.has.at with h0 | ⟨g, o, c1, e1, hc⟩
      · rw [h0] at hkl
        simp at hkl
      simp only [Value.slice.injEq] at e1
      obtain ⟨rfl, -, rfl⟩ := e1
      have hck := hc k _ (List.getElem?_eq_getElem hkl)
      have Hgo := Lib.hid hgo
      clear hc hgo
      have hx := R.rest[k].toNat_lt
      have Hstop := Lib.hid (show 9 ≤ k ∨ (0 < k ∧ R.rest[k].toNat = 0) → numGo k a (R.rest[k] :: R.rest.drop (k + 1)) = none from fun e => by
        unfold numGo
        rw [if_pos (e.imp id fun e => ⟨e.1, UInt8.toNat.inj (by rw [e.2]; rfl)⟩)])
      have Hgo1 := Lib.hid (show ¬ (9 ≤ k ∨ (0 < k ∧ R.rest[k].toNat = 0)) → R.rest[k].toNat < 128 → numGo k a (R.rest[k] :: R.rest.drop (k + 1)) = if 4611686018427387904 < a + R.rest[k].toNat * 128 ^ k then none else some (a + R.rest[k].toNat * 128 ^ k, R.rest.drop (k + 1)) from fun e h => by
        rw [numGo, if_neg (fun h => e (h.imp id fun h => ⟨h.1, by rw [h.2]; rfl⟩)), if_pos h])
      have Hgo2 := Lib.hid (show ¬ (9 ≤ k ∨ (0 < k ∧ R.rest[k].toNat = 0)) → ¬ R.rest[k].toNat < 128 → numGo k a (R.rest[k] :: R.rest.drop (k + 1)) = numGo (k + 1) (a + R.rest[k].toNat % 128 * 128 ^ k) (R.rest.drop (k + 1)) from fun e h => by
        rw [numGo, if_neg (fun h => e (h.imp id fun h => ⟨h.1, by rw [h.2]; rfl⟩)), if_neg h])
      generalize R.rest[k].toNat = x at *
      by_cases h9 : 9 ≤ k
      · have HE := Lib.hid (Hno.out (Hgo.out.trans (Hstop.out (.inl h9))))
        go_wp2_with fail
        refine Hbad.out.mono ?_
        rintro e w1 ⟨rfl, hr, hc⟩
        have HF := Lib.hid (show NumDone w r R (.returned (.int .i64 0)) w1 from ⟨by rw [HE.out]; rfl, by rw [HE.out]; exact hr, hc⟩)
        clear hr hc
        go_wp2_with fail
        go_ret
        exact HF.out
      · by_cases hz : 0 < k ∧ x = 0
        · have HE := Lib.hid (Hno.out (Hgo.out.trans (Hstop.out (.inr hz))))
          obtain ⟨hk0, rfl⟩ := hz
          go_wp2_with fail
          refine Hbad.out.mono ?_
          rintro e w1 ⟨rfl, hr, hc⟩
          have HF := Lib.hid (show NumDone w r R (.returned (.int .i64 0)) w1 from ⟨by rw [HE.out]; rfl, by rw [HE.out]; exact hr, hc⟩)
          clear hr hc
          go_wp2_with fail
          go_ret
          exact HF.out
        · have hs : ¬ (9 ≤ k ∨ (0 < k ∧ x = 0)) := fun e => e.elim h9 hz
          have hd9 : decide ((9 : Int) ≤ (k : Int)) = false := by simp; omega
          by_cases h128 : x < 128
          · have HE := Lib.hid (Hgo.out.trans (Hgo1.out hs h128))
            have h7 := u64_seven ha (by omega) (show x < 256 by omega)
            rw [show x % 128 = x by omega] at h7
            obtain ⟨h7, -, h73⟩ := h7
            generalize a + x * 128 ^ k = A at *
            by_cases hA : 4611686018427387904 < A
            · have HE2 := Lib.hid (Hno.out (HE.out.trans (if_pos hA)))
              rcases Nat.lt_or_ge 0 k with hk0 | hk0
              rotate_left
              · go_wp2_with fail
                refine Hbad.out.mono ?_
                rintro e w1 ⟨rfl, hr, hc⟩
                have HF := Lib.hid (show NumDone w r R (.returned (.int .i64 0)) w1 from ⟨by rw [HE2.out]; rfl, by rw [HE2.out]; exact hr, hc⟩)
                clear hr hc
                go_wp2_with fail
                go_ret
                exact HF.out
              · have hx0 : 0 < x := by omega
                go_wp2_with fail
                refine Hbad.out.mono ?_
                rintro e w1 ⟨rfl, hr, hc⟩
                have HF := Lib.hid (show NumDone w r R (.returned (.int .i64 0)) w1 from ⟨by rw [HE2.out]; rfl, by rw [HE2.out]; exact hr, hc⟩)
                clear hr hc
                go_wp2_with fail
                go_ret
                exact HF.out
            · have HE2 := Lib.hid (Hyes.out _ _ (HE.out.trans (if_neg hA)))
              obtain ⟨p', c', hsl, hh, hcc, hne⟩ := run_tail (P := Tryz.prog) Tryz.underlying39 hi hz1 Hin.out.has Hin.out.cap r (k + 1) Hin.out.ne hlt
              have HF := Lib.hid (show NumDone w r R (.returned (.int .i64 (A : Int))) (w.setCell ⟨r, 0, none⟩ (.slice p' (n - (k + 1)) c')) from
                ⟨by rw [HE2.out], by rw [HE2.out]; exact ⟨p', n - (k + 1), c', rd_set0 Hin.out _, HasB.set hh _ hne, hcc, hne, by rw [List.length_drop, Hn.out]; omega⟩, Chg.setCell w ⟨r, 0, none⟩ _⟩)
              rw [Int.natCast_add, Int.natCast_one] at hsl
              clear hh hcc hne
              rcases Nat.lt_or_ge 0 k with hk0 | hk0
              rotate_left
              · go_wp2_with fail
                go_ret
                exact HF.out
              · have hx0 : 0 < x := by omega
                go_wp2_with fail
                go_ret
                exact HF.out
          · have hgo2 := Hgo.out.trans (Hgo2.out hs h128)
            obtain ⟨h7, h72, h73⟩ := u64_seven ha (by omega) (show x < 256 by omega)
            have Hgn := Lib.hid (And.intro hgo2 h72)
            clear hgo2 h72
            generalize a + x % 128 * 128 ^ k = A at *
            rcases Nat.lt_or_ge 0 k with hk0 | hk0
            rotate_left
            · go_wp2_with fail
              go_round
              case rel => exact ⟨k + 1, A, by omega, by omega, by go_num, rfl, Hgn.out.2, Hgn.out.1⟩
              case measure => simp [intOf]; omega
            · have hx0 : 0 < x := by omega
              go_wp2_with fail
              go_round
              case rel => exact ⟨k + 1, A, by omega, by omega, by go_num, rfl, Hgn.out.2, Hgn.out.1⟩
              case measure => simp [intOf]; omega
    · have hkn : R.rest.drop k = [] := List.drop_of_length_le (by rw [Hn.out]; omega)
      rw [hkn] at hgo
      have HE := Lib.hid (Hno.out hgo)
      clear hgo hkn
      go_wp2_with fail
      refine Hbad.out.mono ?_
      rintro e w1 ⟨rfl, hr, hc⟩
      have HF := Lib.hid (show NumDone w r R (.returned (.int .i64 0)) w1 from ⟨by rw [HE.out]; rfl, by rw [HE.out]; exact hr, hc⟩)
      clear hr hc
      go_wp2_with fail
      go_ret
      exact HF.out

/-- What a Reader's row is told with. -/
def RowDone (w : World) (r : Nat) (b : Bs) (R' : Rd) (e : Ending) (w' : World) : Prop :=
  ∃ v, e = .returned v ∧ OwnB w' 5 v b ∧ (∀ j, v.ownBlock = some j → w.heap.size ≤ j) ∧ RdAt w' r R' ∧ Chg (fun j => j = r) w w'

set_option maxRecDepth 100000 in
set_option maxHeartbeats 2000000 in
theorem rbytes_calls {w : World} {r : Nat} {R : Rd} (h : RdAt w r R) :
    Calls Tryz.prog 128 #[.pointer (some ⟨r, 0, none⟩)] w (RowDone w r R.bytes.1 R.bytes.2) := by
  obtain ⟨p, n, c, h⟩ := h
  have Hn := Lib.hid (num_calls h)
  have hle := Rd.num_le R
  have HB := Lib.hid (show R.bytes = R.num.2.raw R.num.1 from rfl)
  clear h
  go_enter Tryz.func128, Tryz.ntmps128
  go_wp2_with fail
  refine Hn.out.mono ?_
  rintro e w1 ⟨rfl, ⟨p1, n1, c1, hr⟩, hc⟩
  have Hr := Lib.hid (raw_calls hr (R.num.1 : Int) (by omega) (by omega))
  have Hc := Lib.hid hc
  rw [Int.toNat_natCast] at Hr
  clear hr hc Hn
  generalize R.num.1 = m at *
  generalize R.num.2 = R1 at *
  go_wp2_with fail
  refine Hr.out.mono ?_
  rintro e w2 ⟨v, rfl, hv, hvn, hr2, hc2⟩
  have HE := Lib.hid (show RowDone w r R.bytes.1 R.bytes.2 (.returned v) w2 from ⟨v, rfl, by rw [HB.out]; exact hv, fun j hj => Nat.le_trans Hc.out.size (hvn j hj), by rw [HB.out]; exact hr2, Hc.out.trans hc2 fun _ _ e => e⟩)
  clear hv hvn hr2 hc2 Hr
  go_wp2_with fail
  go_ret
  exact HE.out

/-- A Reader's own cells. -/
def RdHd (w : World) (r : Nat) (R : Rd) : Prop := ∃ p n c, w.heap[r]? = some (.cells #[.slice p n c, .bool R.bad] 238 (0, 0)) ∧ R.rest.length = n
theorem RdAt.hd {w : World} {r : Nat} {R : Rd} (h : RdAt w r R) : RdHd w r R := let ⟨p, n, c, h⟩ := h; ⟨p, n, c, h.cells, h.n_eq⟩
theorem RdHd.same {w w' : World} {r : Nat} {R : Rd} (h : RdHd w r R) (hs : w'.heap[r]? = w.heap[r]?) : RdHd w' r R := let ⟨p, n, c, h, e⟩ := h; ⟨p, n, c, hs.trans h, e⟩

theorem good_calls {w : World} {r : Nat} {R : Rd} (h : RdHd w r R) :
    Calls Tryz.prog 156 #[.pointer (some ⟨r, 0, none⟩)] w fun e w' => e = .returned (.bool (!R.bad)) ∧ w' = w := by
  obtain ⟨p, n, c, h, -⟩ := h
  have h1 : w.cell? ⟨r, 1, none⟩ = some (.bool R.bad) := cell_of h rfl
  clear h
  go_enter Tryz.func156, Tryz.ntmps156
  go_wp2_with fail
  go_ret
  exact ⟨rfl, rfl⟩

theorem whole_calls {w : World} {r : Nat} {R : Rd} (h : RdHd w r R) :
    Calls Tryz.prog 86 #[.pointer (some ⟨r, 0, none⟩)] w fun e w' => e = .returned (.bool R.whole) ∧ w' = w := by
  have Hg := Lib.hid (good_calls h)
  obtain ⟨p, n, c, h, hn⟩ := h
  have h0 : w.cell? ⟨r, 0, none⟩ = some (.slice p n c) := cell_of h rfl
  have HW := Lib.hid (show R.whole = (!R.bad && R.rest.isEmpty) from rfl)
  have HE := Lib.hid (show R.rest.isEmpty = ((n : Int) == 0) from by
    rw [Bool.eq_iff_iff, List.isEmpty_iff, ← List.length_eq_zero_iff, hn]
    simp)
  clear h hn
  cases hb : R.bad with
  | true =>
    rw [hb] at Hg HW
    go_enter Tryz.func86, Tryz.ntmps86
    go_wp2_with fail
    refine Hg.out.mono ?_
    rintro e w1 ⟨rfl, rfl⟩
    go_wp2_with fail
    go_ret
    exact ⟨by rw [HW.out]; rfl, rfl⟩
  | false =>
    rw [hb] at Hg HW
    go_enter Tryz.func86, Tryz.ntmps86
    go_wp2_with fail
    refine Hg.out.mono ?_
    rintro e w1 ⟨rfl, rfl⟩
    go_wp2_with fail
    go_ret
    exact ⟨by rw [HW.out, HE.out]; rfl, rfl⟩

theorem newrd_calls {w : World} {x : Value} {l : Bs} (h : HasB w x l) (hl : l.length ≤ 140737488355328) :
    Calls Tryz.prog 79 #[x] w fun e w' => ∃ r, e = .returned (.pointer (some ⟨r, 0, none⟩)) ∧ RdAt w' r ⟨l, false⟩ ∧ w.heap.size ≤ r ∧ Below w.heap.size w w' := by
  have Hc := Lib.hid (clone_calls h hl)
  clear h
  go_enter Tryz.func79, Tryz.ntmps79
  go_wp2_with fail
  refine Hc.out.mono ?_
  rintro e w1 ⟨v, rfl, hv, hvn, hb⟩
  obtain ⟨p, c, rfl, hcap⟩ := own_cap0 hv
  have HE := Lib.hid (show RdAt (w1.alloc (.cells #[.slice p l.length c, .bool false] 238)) w1.heap.size ⟨l, false⟩ from
    ⟨p, l.length, c, new_block w1 _, has_alloc hv.has _, hcap, fun e => by have := OwnR.lt hv e; omega, hl⟩)
  have HB := Lib.hid (And.intro hb.size (hb.alloc hb.size (.cells #[.slice p l.length c, .bool false] 238)))
  clear hv hvn hb Hc
  generalize l.length = n at *
  go_wp2_with fail
  go_ret
  exact ⟨_, rfl, HE.out, HB.out⟩
end Go.Proofs.YtogdfkilhpkloaaGreatDoor
