/- The contracts of Read, Fuse, Crash. -/
import Derived.Test.YtdlbamhabenhgaaDiskC
namespace Go.Sat
open Go.RowKit
/-- 'x[:k:k]'. -/
theorem run_cut {P : Program} (w : World) {t e : TypeId} {i : TypeInfo} (ht : P.underlying t = some (.slice e)) (hi : P.info? e = some i) (a : Option Addr) (len cap k : Nat) (h : k ≤ cap) :
    (Instr.slice t (.slice a len cap) none (some (.int .i64 (k : Int))) (some (.int .i64 (k : Int)))).run P w = .ok (.slice a k k) w := by
  have h1 : (Instr.sliceBound (.int .i64 (k : Int)) cap .slice3Acap).run P w = .ok k w := by
    rw [run_sliceBound _ _ _ _ _ (by omega) (by omega)]
    simp
  have h2 : (Instr.sliceBound (.int .i64 (k : Int)) k .slice3B).run P w = .ok k w := by
    rw [run_sliceBound _ _ _ _ _ (by omega) (by omega)]
    simp
  have h3 : (if k = 0 then a else a.map fun x => x.add (0 * i.size)) = a := by
    split
    · rfl
    · cases a <;> simp [Addr.add]
  simp only [Nat.zero_mul] at h3
  simp [Instr.slice, run_underlying ht, Instr.sliceBounds, h1, h2, sizeOf, typeInfo, hi, Result.andThen, h3]

theorem OwnR.cut {w : World} {e : TypeId} {p : Option Addr} {n c : Nat} {xs : List Value} (h : OwnR w e 1 (.slice p n c) n xs) {k : Nat} (hk : k ≤ n) : OwnR w e 1 (.slice p k k) k (xs.take k) := by
  obtain ⟨hl, h⟩ := h
  refine ⟨by rw [List.length_take]; omega, ?_⟩
  rcases h with ⟨e1, h0⟩ | ⟨g, cap, cur, e1, hg, hnc, hcm, hcs, ht⟩
  · cases e1
    have : k = 0 := by omega
    subst this
    exact .inl ⟨rfl, rfl⟩
  · cases e1
    refine .inr ⟨g, k, cur, rfl, hg, Nat.le_refl _, by omega, by omega, ?_⟩
    rw [← ht, List.take_take, Nat.mul_one, Nat.mul_one, Nat.min_eq_left hk]

theorem OwnR.cap_le {w : World} {e : TypeId} {p : Option Addr} {n c : Nat} {xs : List Value} (h : OwnR w e 1 (.slice p n c) n xs) : n ≤ c ∧ c ≤ maxLen := by
  rcases h.2 with ⟨e1, h0⟩ | ⟨g, cap, cur, e1, hg, hnc, hcm, hcs, ht⟩
  · cases e1
    exact ⟨Nat.le_refl _, Nat.zero_le _⟩
  · cases e1
    exact ⟨hnc, hcm⟩

theorem grown_set (w : World) (a : Addr) (u : Value) : w.grownBy (w.setCell a u) (some a.block) :=
  ⟨rfl, rfl, rfl, by simp [World.setCell], fun k _ hne => Below.heap_setCell _ _ _ _ fun e => hne (by rw [e])⟩
end Go.Sat

namespace Go.Proofs.Ytdlbamhabenhgaa
open Go.RowKit Go.Sat Go.Maps

section
variable {w : World} {d m : Nat} {left : Int} {L : List (Bs × FRep)} {own : Own} {D : DiskM}

theorem data_le (h : DiskIn w d m left L own D) {n : Bs} {r : FRep} (hg : Sat.get n L = some r) : r.f.data.length ≤ 1073741824 := by
  have := h.ok.used
  have := h.ok.room
  have : r.f.data.length ≤ D.used := by rw [h.used]; exact le_sum (f := fun r : FRep => r.f.data.length) h.srt hg
  omega

/-! ### Read -/
def dataOf (o : Option FileM) : Bs := (o.map FileM.data).getD []
def readE (o : Option FileM) : Int := if o.isSome then 0 else 7

/-- What Read leaves: the bytes in a new row, or the error. -/
def ReadPost (w : World) (o : Option FileM) (e : Ending) (w' : World) : Prop :=
  ∃ v, e = .returned (.tuple #[v, .int .i64 (readE o)]) ∧ OwnB w' 5 v (dataOf o) ∧ (∀ k, v.ownBlock = some k → w.heap.size ≤ k) ∧ Below w.heap.size w w'

set_option maxHeartbeats 400000 in
theorem read_calls (h : DiskAt w d D own) (s : ByteArray) (hs : s.size ≤ 9223372036854775807) :
    Calls Try.prog 19 #[.pointer (some ⟨d, 0, none⟩), .string s] w (ReadPost w (Sat.get (nm s) D.files)) := by
  obtain ⟨m, left, L, h⟩ := h
  have hc1 := h.c1
  rw [h.get]
  cases hg : Sat.get (nm s) L with
  | none =>
    have hlook := run_look_none w keyLaw Try.underlying9 Try.underlying74 (zeroFile w) FRep.fb h.map hs hg
    clear h hg
    go_enter Try.func19, Try.ntmps19
    go_wp2
    go_ret2
    exact ⟨_, rfl, OwnR.nil _ _ _, fun k hk => (by cases hk), Below.refl _ _⟩
  | some r =>
    have hlook := run_look_some w keyLaw Try.underlying9 Try.underlying74 (zeroFile w) FRep.fb h.map hs hg
    have hf := h.fileAt hg
    have hc := cell_of (i := 0) hf.cells rfl
    have hcl := clone_calls hf.row.has (by have := data_le h hg; omega)
    have Hcl := Lib.hid hcl
    clear h hg hf hcl
    go_enter Try.func19, Try.ntmps19
    go_wp2_with fail
    refine Hcl.out.mono ?_
    rintro e w' ⟨v, rfl, hv, hn, hb⟩
    have Hv := Lib.hid (And.intro hv (And.intro hn hb))
    clear hv hn hb
    go_wp2_with fail
    go_ret2
    exact ⟨_, rfl, Hv.out⟩

/-! ### Fuse -/
theorem ok_fuse {D : DiskM} (h : D.OK) (n : Int) (hn : n ≤ 9223372036854775807) : (D.setFuse n).OK where
  srt := h.srt
  room := h.room
  used := h.used
  count := h.count
  names := h.names
  lasts := h.lasts
  fuse k hk := by
    simp only [DiskM.setFuse] at hk
    split at hk
    · cases hk
    · cases hk
      omega

theorem setTop (h : DiskIn w d m left L own D) {w' : World} {left' : Int} {D' : DiskM} (hs : w.heap.size ≤ w'.heap.size) (hb : ∀ k, k ≠ d → w'.heap[k]? = w.heap[k]?) (_hroom : D'.room = D.room) (hfiles : D'.files = D.files)
    (hc : w'.heap[d]? = some (.cells #[.int .i64 (D'.room : Int), .map (some m), .bool D'.fuse.isSome, .int .i64 left'] 76 (0, 0))) (hl : ∀ k, D'.fuse = some k → left' = (k : Int)) (hok : D'.OK) : DiskIn w' d m left' L own D' := by
  have keep : ∀ k t, own k = some t → t ≠ (0, []) → w'.heap[k]? = w.heap[k]? := fun k t hk ht => hb k fun e => by
    rw [e, h.od] at hk
    exact ht (Option.some.inj hk).symm
  refine ⟨hc, hl, ?_, by rw [hfiles]; exact h.files, h.srt, fun p hp => ?_, h.od, h.om, fun j t hj => Nat.lt_of_lt_of_le (h.olt j t hj) hs, hok⟩
  · obtain ⟨es, clock, hm, rest⟩ := h.map
    exact ⟨es, clock, (keep m _ h.om (by simp)).trans hm, rest⟩
  · have hp' := h.file p hp
    exact ⟨(keep _ _ hp'.ob (by simp)).trans hp'.cells, hp'.ob, hp'.row.keep fun g hg => keep _ _ (hp'.og g hg) (by simp), hp'.og⟩

set_option maxHeartbeats 400000 in
theorem fuse_calls (h : DiskAt w d D own) (n : Int) (hn : n ≤ 9223372036854775807) (hn0 : -9223372036854775808 ≤ n) :
    Calls Try.prog 22 #[.pointer (some ⟨d, 0, none⟩), .int .i64 n] w (Did w d own (D.setFuse n)) := by
  obtain ⟨m, left, L, h⟩ := h
  have hc2 := h.c2
  have hc3 := h.c3
  have hf2 := frozen_of h.cells 2
  have hf3 := frozen_of h.cells 3
  have hfin : ∀ (b : Bool) (l : Int), b = (D.setFuse n).fuse.isSome → (∀ k, (D.setFuse n).fuse = some k → l = (k : Int)) → Did w d own (D.setFuse n) (.returned (.tuple #[])) ((w.setCell ⟨d, 2, none⟩ (.bool b)).setCell ⟨d, 3, none⟩ (.int .i64 l)) := by
    intro b l hb hl
    refine ⟨own, rfl, ⟨m, l, L, setTop h (by simp [World.setCell]) (fun k hk => (set_other _ hk).trans (set_other _ hk)) rfl rfl ?_ hl (ok_fuse h.ok n hn)⟩, ?_, ext_refl _ _⟩
    · rw [set_block (set_block h.cells 2 _) 3, ← hb]
      simp [DiskM.setFuse]
    · exact ((Chg.setCell w ⟨d, 2, none⟩ _).trans (Chg.setCell _ ⟨d, 3, none⟩ _) fun _ _ e => e).mono fun k _ e => by rw [e]; exact has_d h
  have Hfin := Lib.hid hfin
  clear hfin h
  by_cases hp : 0 ≤ n
  · have hd : decide (0 ≤ n) = true := by simpa using hp
    go_enter Try.func22, Try.ntmps22
    go_wp2
    go_end0
    refine Hfin.out _ _ ?_ ?_
    · simp [DiskM.setFuse]; omega
    · intro k hk
      simp only [DiskM.setFuse, if_neg (show ¬ n < 0 by omega), Option.some.injEq] at hk
      omega
  · have hd : decide (0 ≤ n) = false := by simpa using hp
    have hp' : n < 0 := by omega
    go_enter Try.func22, Try.ntmps22
    go_wp2
    go_end0
    refine Hfin.out _ _ ?_ ?_
    · simp [DiskM.setFuse, hp']
    · intro k hk
      simp only [DiskM.setFuse, if_pos hp'] at hk
      cases hk

/-! ### Crash -/
/-- The files of which those that 'rest' names are still to come. -/
def part (rest : Lit → Bool) (k : Int) (fs : List (Bs × FileM)) : List (Bs × FileM) := fs.map fun p => (p.1, if rest (.string p.1) then p.2 else DiskM.crashF k p.2)

theorem part_srt {rest : Lit → Bool} {k : Int} {fs : List (Bs × FileM)} (h : Srt fs) : Srt (part rest k fs) := by
  unfold Srt part
  rw [List.pairwise_map]
  exact h

theorem part_get (rest : Lit → Bool) (k : Int) (n : Bs) (fs : List (Bs × FileM)) : Sat.get n (part rest k fs) = (Sat.get n fs).map fun f => if rest (.string n) then f else DiskM.crashF k f := by
  unfold part Sat.get
  rw [List.find?_map]
  cases hf : List.find? ((fun p : Bs × FileM => p.1 == n) ∘ fun p : Bs × FileM => (p.1, if rest (.string p.1) then p.2 else DiskM.crashF k p.2)) fs with
  | none =>
    have : List.find? (fun p : Bs × FileM => p.1 == n) fs = none := hf
    rw [this]
    rfl
  | some p =>
    have h1 : List.find? (fun p : Bs × FileM => p.1 == n) fs = some p := hf
    have h2 := List.find?_some h1
    simp only [beq_iff_eq] at h2
    rw [h1]
    simp [h2]

theorem part_step {rest : Lit → Bool} {k : Int} {fs : List (Bs × FileM)} (h : Srt fs) {n : Bs} {f : FileM} (hg : Sat.get n fs = some f) :
    put n (DiskM.crashF k f) (part rest k fs) = part (fun z => rest z && !z.sameKey (.string n)) k fs := by
  refine srt_ext (srt_put (part_srt h)) (part_srt h) fun j => ?_
  by_cases hj : j = n
  · subst hj
    rw [get_put_same (part_srt h), part_get, hg, sk]
    simp
  · rw [get_put_other (part_srt h) _ hj, part_get, part_get]
    have : (Lit.string j).sameKey (.string n) = false := by rw [sk]; simpa using hj
    rw [this]
    simp

theorem part_all {rest : Lit → Bool} {k : Int} {fs : List (Bs × FileM)} (h : ∀ p ∈ fs, rest (.string p.1) = true) : part rest k fs = fs := by
  unfold part
  conv => rhs; rw [← List.map_id fs]
  refine List.map_congr_left fun p hp => ?_
  rw [h p hp]
  rfl

theorem part_none {rest : Lit → Bool} {k : Int} {fs : List (Bs × FileM)} (h : ∀ z, rest z = false) : part rest k fs = mp (DiskM.crashF k) fs := by
  unfold part mp
  refine List.map_congr_left fun p _ => ?_
  rw [h]
  rfl

theorem stays_le (f : FileM) (k : Int) (h : f.lasts ≤ f.data.length) : f.lasts ≤ DiskM.stays f k ∧ DiskM.stays f k ≤ f.data.length := by
  unfold DiskM.stays
  have := Nat.mod_lt (max 0 k).toNat (show 0 < f.data.length - f.lasts + 1 by omega)
  omega

theorem ok_part {D : DiskM} (h : D.OK) (rest : Lit → Bool) (k : Int) : DiskM.OK { D with files := part rest k D.files } where
  srt := part_srt h.srt
  room := h.room
  used := by
    refine Nat.le_trans ?_ h.used
    show sumBy DiskM.size (part rest k D.files) ≤ sumBy DiskM.size D.files
    have hl := h.lasts
    generalize D.files = fs at hl
    induction fs with
    | nil => exact Nat.le_refl _
    | cons p r ih =>
      have h1 := ih fun q hq => hl q (by simp [hq])
      have h2 := hl p (by simp)
      simp only [part, List.map_cons, sumBy, List.sum_cons] at h1 ⊢
      have h3 : DiskM.size (if rest (.string p.1) then p.2 else DiskM.crashF k p.2) ≤ DiskM.size p.2 := by
        split
        · exact Nat.le_refl _
        · simp only [DiskM.size, DiskM.crashF, List.length_take]
          omega
      omega
  count := by
    show (part rest k D.files).length ≤ 4096
    simp only [part, List.length_map]
    exact h.count
  names p hp := by
    obtain ⟨q, hq, rfl⟩ := List.mem_map.1 hp
    exact h.names q hq
  lasts p hp := by
    obtain ⟨q, hq, rfl⟩ := List.mem_map.1 hp
    have h1 := h.lasts q hq
    show FileM.lasts (if rest (.string q.1) then q.2 else DiskM.crashF k q.2) ≤ (if rest (.string q.1) then q.2 else DiskM.crashF k q.2).data.length
    split
    · exact h1
    · have := stays_le q.2 k h1
      simp only [DiskM.crashF, List.length_take]
      omega
  fuse := h.fuse

theorem ok_crash {D : DiskM} (h : D.OK) (k : Int) : (D.crash k).OK := by
  have := ok_part h (fun _ => false) k
  rw [part_none fun _ => rfl] at this
  exact ⟨this.srt, this.room, this.used, this.count, this.names, this.lasts, fun j hj => by simp [DiskM.crash] at hj⟩

theorem own_none (h : DiskIn w d m left L own D) {k : Nat} (hk : w.heap.size ≤ k) : own k = none := by
  cases ho : own k with
  | none => rfl
  | some t => have := h.olt _ t ho; omega

/-- The loop of Crash. -/
structure CrashRel (w : World) (d m : Nat) (left : Int) (L : List (Bs × FRep)) (own : Own) (D : DiskM) (k : Int) (wr : World) : Prop where
  ex : ∃ rest cnt L' own', wr.ranges Try.prog 9 ptrR m w.heap.size L.length (dm fbD L) rest cnt ∧ DiskIn wr d m left L' own' { D with files := part rest k D.files } ∧ mp FRep.fb L' = mp FRep.fb L ∧ Chg (Has own) w wr ∧ Ext w own own' ∧ own' w.heap.size = none

set_option maxRecDepth 100000 in
set_option maxHeartbeats 2000000 in
theorem crash_walk (h : DiskIn w d m left L own D) (k : Int) (hk : -9223372036854775808 ≤ k) (hk' : k ≤ 9223372036854775807) :
    Calls Try.prog 18 #[.pointer (some ⟨d, 0, none⟩), .int .i64 k] w (Did w d own (D.crash k)) := by
  have h1 := h.c1
  have hown := h.map
  have hsrt := h.srt
  have hokD := h.ok
  have hL : Hid (DiskIn w d m left L own D) := h
  clear h
  go_enter Try.func18, Try.ntmps18
  go_wp2_with (first | (at_range; refine wpList_range_own _ rfl _ 74 rfl 9 78 keyLaw Try.underlying74 ptrR m L.length (dm fbD L) rfl hown ?_; intro w0 hrg0 hg0 hs0))
  go_frame
  go_loopw [5] (fun _ wr => CrashRel w d m left L own D k wr) (fun _ wr => wr.rangeLeft m w.heap.size)
  case atStart =>
    refine ⟨_, _, L, own, hrg0, ?_, rfl, (Chg.of_grown hg0).mono (fun _ _ e => by cases e), ext_refl _ _, own_none hL.out (Nat.le_refl _)⟩
    have hd := hL.out.chg (Chg.of_grown hg0) (fun _ e => by cases e)
    have e1 : part (Maps.has (dm fbD L)) k D.files = D.files := part_all fun p hp => by
      rw [hL.out.files] at hp
      obtain ⟨q, hq, rfl⟩ := List.mem_map.1 hp
      show Maps.has (dm fbD L) (.string q.1) = true
      rw [dm_has, get_of_mem hsrt hq]
      rfl
    rw [e1]
    exact hd
  case round =>
    obtain ⟨rest, cnt, L', own', hrg, hd, hfb, hc, hx, hit⟩ := hrel.ex
    clear hrg0 hg0 hs0 hown hrel
    go_wp2_with (first | (at_next; refine wpList_next_ptr _ rfl _ rfl 9 Try.underlying9 keyLaw FRep.fb L m w.heap.size L.length _ _ rfl hrg ?_ ?_))
    · intro hl
      rw [part_none hl] at hd
      have hc2 := hd.c2
      have hf2 := frozen_of hd.cells 2
      have hfin : Did w d own (D.crash k) (.returned (.tuple #[])) (wr.setCell ⟨d, 2, none⟩ (.bool false)) := by
        refine ⟨own', rfl, ⟨m, left, L', setTop hd (D' := D.crash k) (by simp [World.setCell]) (fun _ hk => set_other _ hk) rfl rfl ?_ (fun j hj => by simp [DiskM.crash] at hj) (ok_crash hokD k)⟩, ?_, hx⟩
        · rw [set_block hd.cells]
          simp [DiskM.crash]
        · exact chg_ext hc hx ((Chg.setCell wr ⟨d, 2, none⟩ _).mono fun _ _ e => by rw [e]; exact has_d hd)
      have Hfin := Lib.hid hfin
      clear hfin hd hc hx hfb hl hrg hokD hsrt hit
      go_wp2
      go_end0
      exact Hfin.out
    · intro s x w1 cnt1 hgt hl hs hrg1 hlt hg1 hs1 hen
      -- the file as it lies now
      have hnot : ∀ j, some j = some w.heap.size → own' j = none := fun j e => by
        cases e
        exact hit
      have hd1 := hd.chg (Chg.of_grown hg1) hnot
      obtain ⟨r, hgr, hfbr⟩ : ∃ r, Sat.get (nm s) L' = some r ∧ r.fb = x.fb := by
        have e1 : (Sat.get (nm s) L').map FRep.fb = some x.fb := by
          rw [← mp_get, hfb, mp_get, show Sat.get (nm s) L = some x from hgt]
          rfl
        exact Option.map_eq_some_iff.1 e1
      have hgf : Sat.get (nm s) D.files = some x.f := by rw [hL.out.files, mp_get, show Sat.get (nm s) L = some x from hgt]; rfl
      have hrf : r.f = x.f := by
        have e1 : (Sat.get (nm s) L').map FRep.f = some x.f := by
          rw [← mp_get, ← hd.files, part_get, hgf]
          simp only [Option.map_some, show rest (.string (nm s)) = true from hl, if_true]
        rw [hgr] at e1
        exact Option.some.inj e1
      have hf1 := hd1.fileAt hgr
      have hcells := hf1.cells
      rw [hrf, hfbr] at hcells
      obtain ⟨p, c, hv⟩ := OwnB.slice hf1.row
      have hcap := OwnR.cap_le (by have := hf1.row; unfold OwnB at this; rw [hv] at this; exact this)
      rw [hrf] at hv hcap
      have hlast : x.f.lasts ≤ x.f.data.length := hokD.lasts _ (get_mem hgf)
      have hlen := data_le hd1 hgr
      rw [hrf] at hlen
      have hst := stays_le x.f k hlast
      rw [hv] at hcells
      have hc0 := cell_of (i := 0) hcells rfl
      have hc1 := cell_of (i := 1) hcells rfl
      have hz0 := frozen_of hcells 0
      have hz1 := frozen_of hcells 1
      have hstays : DiskM.stays x.f k = x.f.lasts + (max 0 k).toNat % (x.f.data.length - x.f.lasts + 1) := rfl
      have hend : ∀ nq, CrashRel w d m left L own D k (((w1.drewN nq).setCell ⟨x.fb, 0, none⟩ (.slice p (DiskM.stays x.f k) (DiskM.stays x.f k))).setCell ⟨x.fb, 1, none⟩ (.int .i64 ((DiskM.stays x.f k : Nat) : Int))) ∧
          (((w1.drewN nq).setCell ⟨x.fb, 0, none⟩ (.slice p (DiskM.stays x.f k) (DiskM.stays x.f k))).setCell ⟨x.fb, 1, none⟩ (.int .i64 ((DiskM.stays x.f k : Nat) : Int))).rangeLeft m w.heap.size < wr.rangeLeft m w.heap.size := by
        intro nq
        have hd2 : DiskIn (w1.drewN nq) d m left L' own' { D with files := part rest k D.files } := hd1.keep (Nat.le_refl _) fun _ _ => rfl
        have hcells2 : (w1.drewN nq).heap[x.fb]? = some (.cells #[.slice p x.f.data.length c, .int .i64 (x.f.lasts : Int)] 80 (0, 0)) := hcells
        have hrow : OwnR (w1.drewN nq) 5 1 (.slice p x.f.data.length c) x.f.data.length (bytesV x.f.data) := by
          have := (hd2.fileAt hgr).row
          rw [hrf, hv] at this
          exact this
        have hown : own' x.fb = some (2, nm s) := by
          have := hf1.ob
          rw [hfbr] at this
          exact this
        have hne : ∀ g, (Value.slice p (DiskM.stays x.f k) (DiskM.stays x.f k)).ownBlock = some g → g ≠ x.fb := fun g hgv => by
          have e1 : r.v.ownBlock = some g := by rw [hv, ownBlock_slice p _ _ (DiskM.stays x.f k) (DiskM.stays x.f k)]; exact hgv
          exact hd2.ne_of ((hd2.fileAt hgr).og g e1) hown (by simp)
        have hlen2 : (x.f.data.take (DiskM.stays x.f k)).length = DiskM.stays x.f k := by rw [List.length_take]; omega
        have hmfb : m ≠ x.fb := hd2.ne_of hd2.om hown (by simp)
        have hifb : w.heap.size ≠ x.fb := fun e => by rw [e, hown] at hit; cases hit
        obtain ⟨own'', h4, hx4⟩ := hd2.upd (w' := ((w1.drewN nq).setCell ⟨x.fb, 0, none⟩ (.slice p (DiskM.stays x.f k) (DiskM.stays x.f k))).setCell ⟨x.fb, 1, none⟩ (.int .i64 ((DiskM.stays x.f k : Nat) : Int)))
          (v' := .slice p (DiskM.stays x.f k) (DiskM.stays x.f k)) (f' := DiskM.crashF k x.f) hgr (by simp [World.setCell]) (fun j _ hj _ => by rw [hfbr] at hj; exact (set_other _ hj).trans (set_other _ hj))
          (by rw [hfbr, set_block (set_block hcells2 0 _) 1]; simp [DiskM.crashF])
          (by
            unfold OwnB
            show OwnR _ _ _ _ (x.f.data.take (DiskM.stays x.f k)).length _
            rw [hlen2]
            show OwnR _ _ _ _ _ (bytesV (x.f.data.take (DiskM.stays x.f k)))
            rw [bytesV_take]
            exact OwnR.keep (hrow.cut hst.2) fun g hgv => (set_other _ (hne g hgv)).trans (set_other _ (hne g hgv)))
          (fun g hgv => .inl (by rw [hv, ownBlock_slice p _ _ (DiskM.stays x.f k) (DiskM.stays x.f k)]; exact hgv))
          (by
            show DiskM.OK { D with files := put (nm s) (DiskM.crashF k x.f) (part rest k D.files) }
            rw [part_step hokD.srt hgf]
            exact ok_part hokD _ k)
        have h5 : DiskIn (((w1.drewN nq).setCell ⟨x.fb, 0, none⟩ (.slice p (DiskM.stays x.f k) (DiskM.stays x.f k))).setCell ⟨x.fb, 1, none⟩ (.int .i64 ((DiskM.stays x.f k : Nat) : Int))) d m left (put (nm s) ⟨r.fb, .slice p (DiskM.stays x.f k) (DiskM.stays x.f k), DiskM.crashF k x.f⟩ L') own''
            { D with files := part (fun z => rest z && !z.sameKey (.string (nm s))) k D.files } := by
          rw [← part_step hokD.srt hgf]
          exact h4
        have g1 := grown_set (w1.drewN nq) ⟨x.fb, 0, none⟩ (.slice p (DiskM.stays x.f k) (DiskM.stays x.f k))
        have g2 := grown_set ((w1.drewN nq).setCell ⟨x.fb, 0, none⟩ (.slice p (DiskM.stays x.f k) (DiskM.stays x.f k))) ⟨x.fb, 1, none⟩ (.int .i64 ((DiskM.stays x.f k : Nat) : Int))
        have hrg2 : (w1.drewN nq).ranges Try.prog 9 ptrR m w.heap.size L.length (dm fbD L) (fun z => rest z && !z.sameKey (.string s.data.toList)) cnt1 := hrg1
        have hrg3 := (hrg2.kept g1 (by simpa using hmfb) (by simpa using hifb)).kept g2 (by simpa using hmfb) (by simpa using hifb)
        refine ⟨⟨_, _, _, own'', hrg3, h5, ?_, ?_, ?_, ?_⟩, ?_⟩
        · rw [mp_put, put_same (mp_srt hd2.srt) (by rw [mp_get, hgr]; rfl), hfb]
        · have c1 : Chg (fun j => j = x.fb ∨ j = w.heap.size) wr w1 := (Chg.of_grown hg1).mono fun j _ e => .inr (by cases e; rfl)
          have c2 : Chg (fun j => j = x.fb ∨ j = w.heap.size) wr (w1.drewN nq) := ⟨c1.os, c1.tape, c1.output, c1.size, c1.block⟩
          have c3 := (c2.trans (Chg.of_grown g1) fun j _ e => .inl (by cases e; rfl)).trans (Chg.of_grown g2) fun j _ e => .inl (by cases e; rfl)
          refine hc.trans c3 fun i hi e => ?_
          rcases e with e | e
          · intro ho
            have := hx i hi ho
            rw [e, hown] at this
            cases this
          · omega
        · exact ext_trans (Nat.le_trans hc.size hg1.size) hx hx4
        · exact hx4 _ (by have := hrg1.lt; exact this) hit
        · rw [hrg3.left_eq, hrg.left_eq]
          exact hlt
      have Hend := Lib.hid hend
      have Hst := Lib.hid hst
      have Hstays := Lib.hid hstays
      clear hend hd hd1 hgr hfbr hgf hrf hv hcells hc hx hit hg1 hrg1 hlt hrg hfb hf1 hgt hl hs hs1 hst hstays hsrt hokD hnot
      generalize x.f.data.length = n at *
      generalize x.f.lasts = l at *
      have e6 : wrap64 ((l : Int) + max 0 k % ((n : Int) - (l : Int) + 1)) = ((DiskM.stays x.f k : Nat) : Int) := by
        rw [Hstays.out]
        have e1 : ((n : Int) - (l : Int) + 1) = ((n - l + 1 : Nat) : Int) := by omega
        have e2 : max 0 k = (((max 0 k).toNat : Nat) : Int) := by omega
        have e3 : max 0 k % ((n : Int) - (l : Int) + 1) = (((max 0 k).toNat % (n - l + 1) : Nat) : Int) := by rw [e1, Int.natCast_emod, ← e2]
        have h5 := Nat.mod_lt (max 0 k).toNat (show 0 < n - l + 1 by omega)
        rw [e3, IntWalk.wrap64_in _ ⟨by omega, by omega⟩]
        omega
      have hsl : ∀ W, (Instr.slice 23 (.slice p n c) none (some (.int .i64 ((DiskM.stays x.f k : Nat) : Int))) (some (.int .i64 ((DiskM.stays x.f k : Nat) : Int)))).run Try.prog W = .ok (.slice p (DiskM.stays x.f k) (DiskM.stays x.f k)) W := fun W => by
        obtain ⟨i0, hi, _⟩ := info_parts (show (Try.prog.info? 5).map (fun i => (i.zero, i.size, i.bytes)) = some (some (.int .u8 0), 1, 1) by kernel_rfl)
        exact run_cut W Try.underlying23 hi p n c _ (by have := Hst.out; omega)
      have He6 := Lib.hid e6
      clear e6
      generalize DiskM.stays x.f k = st at *
      go_wp2_with fail
      go_quiet (fail)
      rw [He6.out]
      go_wp2_with fail
      go_roundw
      case rel => exact (Hend.out nq).1
      case measure => exact (Hend.out nq).2
end
end Go.Proofs.Ytdlbamhabenhgaa
