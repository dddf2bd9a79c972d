/- A ledger of a law's own, its disk, and blocks (F) that neither has. ledger: clears, Base, At, dies. (Printed by mkled.py.) ledger: image. (Printed by mkled2.py.) The contract of frame.Scan. -/
import Derived.Test.YteohbjkjfnflgaaND
import Derived.Test.YteohbjkjfnflgaaNE
import Derived.Test.YteohbjkjfnflgaaNF
namespace Go.Proofs.Yteohbjkjfnflgaa
open Go.RowKit Go.Sat Go.Maps

def LedF (w w1 : World) (l d : Nat) (pre : ByteArray) (D : DiskM) (M : LedM) (F : Nat → Prop) : Prop :=
  ∃ own dv ev vs, LedIn w1 l d pre own M dv ev vs ∧ St w w1 d D (fun k => own k ∨ F k) ∧ (∀ k, own k → w.heap.size ≤ k ∧ ¬ F k) ∧ ∀ k, F k → k < w1.heap.size

theorem al_cell {w : World} {a : Addr} {v : Value} (h : w.cell? a = some v) (o : Obj) : (w.alloc o).cell? a = some v := (((Below.refl w.heap.size w).alloc (Nat.le_refl _) o).cell (World.block_lt_of_cell? w _ h)).trans h

theorem ownB_far {w w' : World} {e : TypeId} {v : Value} {b : Bs} (h : OwnB w e v b) (hb : Below w.heap.size w w') : OwnB w' e v b := OwnR.keep h fun k hk => hb.block k (OwnR.lt h hk)

theorem below_drew (w : World) : Below w.heap.size w w.drew := ⟨rfl, rfl, rfl, Nat.le_refl _, fun _ _ => rfl⟩
theorem below_one (w : World) (o : Obj) : Below w.heap.size w (w.alloc o) := (Below.refl _ _).alloc (Nat.le_refl _) o

section
variable {w w1 w2 : World} {l d : Nat} {pre : ByteArray} {D : DiskM} {M : LedM} {F F' : Nat → Prop}

theorem LedF.bel (h : LedF w w1 l d pre D M F) : Below w.heap.size w w1 := let ⟨_, _, _, _, _, hS, _, _⟩ := h; hS.below
theorem LedF.okD (h : LedF w w1 l d pre D M F) : D.OK := let ⟨_, _, _, _, _, hS, _, _⟩ := h; hS.ok
theorem LedF.flt (h : LedF w w1 l d pre D M F) {k : Nat} (hk : F k) : k < w1.heap.size := let ⟨_, _, _, _, _, _, _, hF⟩ := h; hF k hk
theorem LedF.lc (h : LedF w w1 l d pre D M F) : LedCells l d pre w1 := let ⟨_, _, _, _, hL, _, _, _⟩ := h; hL.lc
theorem LedF.st (h : LedF w w1 l d pre D M F) : St w w1 d D NoF := let ⟨_, _, _, _, _, hS, _, _⟩ := h; hS.noF
theorem LedF.llt (h : LedF w w1 l d pre D M F) : l < w1.heap.size := let ⟨_, _, _, _, hL, _, _, _⟩ := h; hL.olt l hL.ol
theorem LedF.lge (h : LedF w w1 l d pre D M F) : w.heap.size ≤ l := let ⟨_, _, _, _, hL, _, hn, _⟩ := h; (hn l hL.ol).1
theorem LedF.last (h : LedF w w1 l d pre D M F) : M.last ≤ 1099511627776 := let ⟨_, _, _, _, hL, _, _, _⟩ := h; hL.last
theorem LedF.psz (h : LedF w w1 l d pre D M F) : 1 ≤ pre.size ∧ pre.size ≤ 20 := let ⟨_, _, _, _, hL, _, _, _⟩ := h; hL.psz
/-- The ledger's own cells. -/
theorem LedF.cells (h : LedF w w1 l d pre D M F) : ∃ dv ev, w1.heap[l]? = some (.cells #[.pointer (some ⟨d, 0, none⟩), .string pre, .int .i64 (M.base : Int), dv, ev, .bool M.dead] 56 (0, 0)) ∧ OwnB w1 5 dv M.data ∧ ∃ vs, OwnR w1 33 1 ev M.entries.length vs ∧ ∀ (i : Nat) u b, vs[i]? = some u → M.entries[i]? = some b → OwnB w1 5 u b :=
  let ⟨_, dv, ev, vs, hL, _, _, _⟩ := h; ⟨dv, ev, hL.cells, hL.data, vs, hL.row, hL.rows⟩

/-- Something else has turned: blocks of F that are new since w; what is new may be in F' too. -/
theorem LedF.move {S : Nat → Prop} (h : LedF w w1 l d pre D M F) (hc : Chg S w1 w2) (hS : ∀ k, k < w1.heap.size → S k → F k ∧ w.heap.size ≤ k) (hF : ∀ k, F' k → (F k ∨ w1.heap.size ≤ k) ∧ k < w2.heap.size) : LedF w w2 l d pre D M F' := by
  obtain ⟨own, dv, ev, vs, hL, hSt, hn, hl⟩ := h
  refine ⟨own, dv, ev, vs, hL.keep (fun k hk => hc.block k (hL.olt k hk) fun hs => (hn k hk).2 (hS k (hL.olt k hk) hs).1) fun k hk => Nat.lt_of_lt_of_le (hL.olt k hk) hc.size, hSt.move hc (fun k hk hs => ⟨.inr (hS k hk hs).1, (hS k hk hs).2⟩) (fun k hk => ?_), fun k hk => ⟨(hn k hk).1, fun hf => ?_⟩, fun k hk => (hF k hk).2⟩
  · rcases hk with hk | hk
    · exact ⟨.inl (.inl hk), Nat.lt_of_lt_of_le (hL.olt k hk) hc.size⟩
    · exact ⟨(hF k hk).1.imp .inr id, (hF k hk).2⟩
  · rcases (hF k hf).1 with h | h
    · exact (hn k hk).2 h
    · have := hL.olt k hk
      omega

theorem LedF.next (h : LedF w w1 l d pre D M F) (hb : Below w1.heap.size w1 w2) : LedF w w2 l d pre D M F :=
  h.move (Chg.of_below hb) (fun _ _ h => h.elim) fun _ hk => ⟨.inl hk, Nat.lt_of_lt_of_le (h.flt hk) hb.size⟩
theorem LedF.same (h : LedF w w1 l d pre D M F) (hb : Below w1.heap.size w1 w2) : Same F w1 w2 := fun _ hk => hb.block _ (h.flt hk)
theorem LedF.less (h : LedF w w1 l d pre D M F) (hF : ∀ k, F' k → F k) : LedF w w1 l d pre D M F' :=
  h.move (Chg.refl _ _ : Chg (fun _ => False) w1 w1) (fun _ _ h => h.elim) fun _ hk => ⟨.inl (hF _ hk), h.flt (hF _ hk)⟩
theorem LedF.more (h : LedF w w1 l d pre D M F) (hb : Below w1.heap.size w1 w2) (hF : ∀ k, F' k → F k ∨ w1.heap.size ≤ k ∧ k < w2.heap.size) : LedF w w2 l d pre D M F' :=
  h.move (Chg.of_below hb) (fun _ _ h => h.elim) fun k hk => by
    rcases hF k hk with h1 | h1
    · exact ⟨.inl h1, Nat.lt_of_lt_of_le (h.flt h1) hb.size⟩
    · exact ⟨.inr h1.1, h1.2⟩
/-- A new block is set apart. -/
theorem LedF.box (h : LedF w w1 l d pre D M F) (o : Obj) : LedF w (w1.alloc o) l d pre D M (fun k => F k ∨ k = w1.heap.size) :=
  h.more (below_one w1 o) fun k hk => hk.imp id fun e => ⟨by omega, by simp; omega⟩

/-- A thing done with the disk. -/
theorem led_disk {P : Program} {f : FuncId} {args : Array Value} {Re : DiskM × Nat} {wc : World} (h : LedF w w1 l d pre D M F) (hb : Below w1.heap.size w1 wc) (hx : ∀ G, St w w1 d D G → Calls P f args wc (Told w d G wc Re)) :
    Calls P f args wc fun e w' => e = .returned (.int .i64 (Re.2 : Int)) ∧ LedF w w' l d pre Re.1 M F ∧ Same F w1 w' ∧ w'.heap[l]? = w1.heap[l]? := by
  obtain ⟨own, dv, ev, vs, hL, hS, hn, hl⟩ := h
  refine (hx _ hS).mono ?_
  rintro e w' ⟨rfl, hS', hs⟩
  refine ⟨rfl, ⟨own, dv, ev, vs, ?_, hS', hn, fun k hk => hS'.flt (.inr hk)⟩, fun k hk => (hs k (.inr hk)).trans (hb.block k (hl k hk)), (hs l (.inl hL.ol)).trans (hb.block l (hL.olt l hL.ol))⟩
  exact (hL.below hb).keep (fun k hk => hs k (.inl hk)) fun k hk => hS'.flt (.inl hk)

/-- The ledger itself has turned. -/
theorem LedF.turned {own own' : Nat → Prop} {M' : LedM} {dv' ev' : Value} {vs' : List Value} (hS : St w w1 d D (fun k => own k ∨ F k)) (hn : ∀ k, own k → w.heap.size ≤ k ∧ ¬ F k) (hl : ∀ k, F k → k < w1.heap.size)
    (hL' : LedIn w2 l d pre own' M' dv' ev' vs') (hc : Chg own w1 w2) (hx : ∀ k, own' k → own k ∨ w1.heap.size ≤ k) : LedF w w2 l d pre D M' F ∧ Same F w1 w2 := by
  refine ⟨⟨own', dv', ev', vs', hL', hS.move hc (fun k _ hk => ⟨.inl hk, (hn k hk).1⟩) (fun k hk => ?_), fun k hk => ?_, fun k hk => Nat.lt_of_lt_of_le (hl k hk) hc.size⟩, fun k hk => hc.block k (hl k hk) fun ho => (hn k ho).2 hk⟩
  · rcases hk with hk | hk
    · exact ⟨(hx k hk).imp .inl id, hL'.olt k hk⟩
    · exact ⟨.inl (.inr hk), Nat.lt_of_lt_of_le (hl k hk) hc.size⟩
  · rcases hx k hk with h | h
    · exact hn k h
    · exact ⟨Nat.le_trans hS.below.size h, fun hf => by have := hl k hf; omega⟩
end

theorem LedCells.same {l d : Nat} {pre : ByteArray} {w w' : World} (h : LedCells l d pre w) (hb : w'.heap[l]? = w.heap[l]?) : LedCells l d pre w' :=
  ⟨(World.cell?_of_block (a := ⟨l, 0, none⟩) hb).trans h.1, (World.cell?_of_block (a := ⟨l, 1, none⟩) hb).trans h.2.1, h.2.2⟩

section
variable {w w1 : World} {l d : Nat} {pre : ByteArray} {D : DiskM} {M : LedM} {F : Nat → Prop}

set_option maxRecDepth 100000 in
theorem last_calls (h : LedF w w1 l d pre D M F) :
    Calls Try.prog 15 #[.pointer (some ⟨l, 0, none⟩)] w1 fun e w' => e = .returned (.int .i64 (M.last : Int)) ∧ ∃ q, w' = w1.drewN q := by
  have hla := h.last
  obtain ⟨dv, ev, hc, -, vs, hrow, -⟩ := h.cells
  obtain ⟨p, c, rfl⟩ := hrow.shape
  have h2 : w1.cell? ⟨l, 2, none⟩ = some (.int .i64 (M.base : Int)) := cell_of hc rfl
  have h4 : w1.cell? ⟨l, 4, none⟩ = some (.slice p M.entries.length c) := cell_of hc rfl
  have HL := Lib.hid (show ((M.base : Int) + (M.entries.length : Int)) = (M.last : Int) from by unfold LedM.last; omega)
  have hb : M.base ≤ 1099511627776 := by unfold LedM.last at hla; omega
  have he : M.entries.length ≤ 1099511627776 := by unfold LedM.last at hla; omega
  clear h hc hrow hla
  generalize M.entries.length = n at *
  generalize M.base = b at *
  go_enter Try.func15, Try.ntmps15
  have hw : IntKind.i64.wrap ((b : Int) + (n : Int)) = (b : Int) + (n : Int) := IntWalk.i64_in _ (by omega)
  go_wp2_with fail
  go_quiet (fail)
  go_wp2_with fail
  go_ret
  exact ⟨by rw [HL.out]; rfl, _, rfl⟩
end
end Go.Proofs.Yteohbjkjfnflgaa

namespace Go.Proofs.Yteohbjkjfnflgaa
open Go.RowKit Go.Sat Go.Maps

theorem hasN_one (w : World) (s : ByteArray) (e : TypeId) (fr : Nat × Nat) : HasN (w.alloc (.cells #[.string s] e fr)) (.slice (some ⟨w.heap.size, 0, none⟩) 1 1) [nm s] := by
  refine ⟨by simp, some ⟨w.heap.size, 0, none⟩, 1, rfl, fun e => (by cases e), fun a ha i u hu => ?_⟩
  cases ha
  rw [add_zero]
  refine cell_of (new_block w _) ?_
  have : [encStr (nm s)] = [Value.string s] := by rw [enc_str, str_of]
  rw [List.map_cons, List.map_nil, this] at hu
  simpa using hu

theorem told_ahead {w w1 w2 w' : World} {d : Nat} {D : DiskM} {F : Nat → Prop} {r : DiskM × Nat} {e : Ending} (h : St w w1 d D F) (hb : Below w1.heap.size w1 w2) (hT : Told w d F w2 r e w') : Told w d F w1 r e w' :=
  ⟨hT.1, hT.2.1, fun k hk => (hT.2.2 k hk).trans (hb.block k (h.flt hk))⟩

/-- A name that was laid a moment ago is there behind what is done with the disk. -/
theorem told_rid1 {w w1 w2 : World} {d : Nat} {D : DiskM} {F : Nat → Prop} (h : St w w1 d D F) (hb2 : Below w1.heap.size w1 w2) (s : ByteArray) (hs : s.size ≤ 9223372036854775807) :
    Calls Try.prog 36 #[.pointer (some ⟨d, 0, none⟩), .slice (some ⟨w2.heap.size, 0, none⟩) 1 1] (w2.alloc (.cells #[.string s] 9)) (Told w d F w1 (D.rid [nm s])) := by
  have hs2 := hb2.size
  have hb : Below w1.heap.size w1 (w2.alloc (.cells #[.string s] 9)) := hb2.alloc hb2.size _
  have h1 : St w (w2.alloc (.cells #[.string s] 9)) d D (fun k => F k ∨ k = w2.heap.size) := h.move (Chg.of_below hb) (fun _ _ h => h.elim) fun k hk => by
    rcases hk with hk | rfl
    · exact ⟨.inl hk, Nat.lt_of_lt_of_le (h.flt hk) hb.size⟩
    · exact ⟨.inr hs2, by simp⟩
  refine (removes_calls h1 (ns := [nm s]) (fun W _ hs => HasN.same (hasN_one w2 s _ _) fun k hk => hs k (.inr (by cases hk; rfl))) (by simpa [nm_len] using hs) (by simp)).mono ?_
  rintro e w' ⟨rfl, hst, hsa⟩
  exact ⟨rfl, hst.less fun _ hk => .inl hk, fun k hk => (hsa k (.inl hk)).trans (hb.block k (h.flt hk))⟩

section
variable {w w1 : World} {l d : Nat} {pre : ByteArray} {D : DiskM} {M : LedM} {F : Nat → Prop}

set_option maxRecDepth 100000 in
set_option maxHeartbeats 4000000 in
theorem clears_calls (h : St w w1 d D F) (hc : LedCells l d pre w1) (hF : F l) :
    Calls Try.prog 22 #[.pointer (some ⟨l, 0, none⟩)] w1 (Told w d F w1 (D.rid [shadowN (imgN (nm pre))])) := by
  have Hlc := Lib.hid hc
  obtain ⟨hc0, hc1, hps⟩ := hc
  have hrm := told_rid1 h (Below.refl _ w1).drew (sShadow (sImg pre)) (by rw [size_sha, size_img]; omega)
  rw [nm_sha, nm_img] at hrm
  have Hrm := Lib.hid hrm
  have hsi : (sImg pre).size = pre.size + 4 := size_img pre
  clear hrm h
  go_enter Try.func22, Try.ntmps22
  go_wp2_with fail
  refine ord_start (fun w' : World => w'.cell? ⟨l, 0, none⟩ = some (.pointer (some ⟨d, 0, none⟩)) ∧ w'.cell? ⟨l, 1, none⟩ = some (.string pre)) (n := 10) (by kernel_rfl) rfl (⟨hc0, hc1⟩) (fun hHeld => ?_)
  generalize w1.drew = W1 at *
  refine ord_take 0 (v := ?v1x0) rfl (by kernel_rfl) (by kernel_rfl) (by kernel_rfl) (fun _ _ _ h => h) (by rfl) (by assumption) ?y1x0 ?_
  case y1x0 => (intro w hSw; (try dsimp only at hSw); go_simp; try with_reducible rfl)
  simp only [Act.put, List.setIfInBounds_toArray, List.set_cons_zero, List.set_cons_succ]
  refine ord_take 1 (v := ?v1x1) rfl (by kernel_rfl) (by kernel_rfl) (by kernel_rfl) (fun _ _ _ h => h) (by rfl) (by assumption) ?y1x1 ?_
  case y1x1 => (intro w hSw; (try dsimp only at hSw); go_simp; try with_reducible rfl)
  simp only [Act.put, List.setIfInBounds_toArray, List.set_cons_zero, List.set_cons_succ]
  refine ord_take 2 (v := ?v1x2) rfl (by kernel_rfl) (by kernel_rfl) (by kernel_rfl) (fun _ _ _ h => h) (by rfl) (by assumption) ?y1x2 ?_
  case y1x2 => (intro w hSw; (try dsimp only at hSw); go_simp; try with_reducible rfl)
  simp only [Act.put, List.setIfInBounds_toArray, List.set_cons_zero, List.set_cons_succ]
  refine ord_take 3 (v := ?v1x3) rfl (by kernel_rfl) (by kernel_rfl) (by kernel_rfl) (fun _ _ _ h => h) (by rfl) (by assumption) ?y1x3 ?_
  case y1x3 => (intro w hSw; (try dsimp only at hSw); go_simp; try with_reducible rfl)
  simp only [Act.put, List.setIfInBounds_toArray, List.set_cons_zero, List.set_cons_succ]
  refine ord_take 4 (v := ?v1x4) rfl (by kernel_rfl) (by kernel_rfl) (by kernel_rfl) (fun _ _ _ h => h) (by rfl) (by assumption) ?y1x4 ?_
  case y1x4 => (intro w hSw; (try dsimp only at hSw); go_simp; try with_reducible rfl)
  simp only [Act.put, List.setIfInBounds_toArray, List.set_cons_zero, List.set_cons_succ]
  refine ord_one 5 rfl (by kernel_rfl) (by rfl) (fun K hK => ?_)
  go_wp2_with fail
  refine (imgName_calls ⟨hHeld.1, hHeld.2, hps⟩).mono ?_
  rintro e w9 ⟨rfl, rfl⟩
  go_wp2_with fail
  refine hK.out _ _ (hHeld) (fun hHeld => ?_)
  clear hK
  try simp only [Act.put, List.setIfInBounds_toArray, List.set_cons_zero, List.set_cons_succ]
  refine ord_take 6 (v := ?v1x6) rfl (by kernel_rfl) (by kernel_rfl) (by kernel_rfl) (fun _ _ _ h => h) (by rfl) (by assumption) ?y1x6 ?_
  case y1x6 => (intro w hSw; (try dsimp only at hSw); go_simp; rw [if_neg (by omega)]; try with_reducible rfl)
  simp only [Act.put, List.setIfInBounds_toArray, List.set_cons_zero, List.set_cons_succ]
  refine ord_one 7 rfl (by kernel_rfl) (by rfl) (fun K hK => ?_)
  have Hh2 := Lib.hid (show (W1.alloc (.cells #[.string (sShadow (sImg pre))] 9)).cell? ⟨l, 0, none⟩ = some (.pointer (some ⟨d, 0, none⟩)) ∧ (W1.alloc (.cells #[.string (sShadow (sImg pre))] 9)).cell? ⟨l, 1, none⟩ = some (.string pre) from ⟨al_cell hHeld.1 _, al_cell hHeld.2 _⟩)
  go_wp2_with fail
  refine hK.out _ _ (Hh2.out) (fun hHeld => ?_)
  clear hK
  try simp only [Act.put, List.setIfInBounds_toArray, List.set_cons_zero, List.set_cons_succ]
  refine ord_one 8 rfl (by kernel_rfl) (by rfl) (fun K hK => ?_)
  go_wp2_with fail
  refine Hrm.out.mono ?_
  intro e w3 hT
  have HT := Lib.hid hT
  have Hh3 := Lib.hid (Hlc.out.same (hT.2.2 l hF))
  obtain ⟨rfl, -⟩ := hT
  go_wp2_with fail
  refine hK.out _ _ (⟨Hh3.out.1, Hh3.out.2.1⟩) (fun hHeld => ?_)
  clear hK
  try simp only [Act.put, List.setIfInBounds_toArray, List.set_cons_zero, List.set_cons_succ]
  refine ord_take 9 (v := ?v1x9) rfl (by kernel_rfl) (by kernel_rfl) (by kernel_rfl) (fun _ _ _ h => h) (by rfl) (by assumption) ?y1x9 ?_
  case y1x9 => (intro w hSw; (try dsimp only at hSw); go_simp; try with_reducible rfl)
  simp only [Act.put, List.setIfInBounds_toArray, List.set_cons_zero, List.set_cons_succ]
  refine wpAnyH_done (by kernel_rfl) ?_ _
  go_wp2_with fail
  go_ret
  exact HT.out

/-- What is handed back in memory of its own. -/
def Given (w1 : World) (b : Bs) (v : Value) (w' : World) : Prop := OwnB w' 5 v b ∧ (∀ k, v.ownBlock = some k → w1.heap.size ≤ k) ∧ Below w1.heap.size w1 w'

set_option maxRecDepth 100000 in
set_option maxHeartbeats 4000000 in
theorem base_calls (h : LedF w w1 l d pre D M F) :
    Calls Try.prog 19 #[.pointer (some ⟨l, 0, none⟩)] w1 fun e w' => ∃ v, e = .returned (.tuple #[.int .i64 (M.base : Int), v]) ∧ Given w1 M.data v w' := by
  obtain ⟨own, dv, ev, vs, hL, -⟩ := h
  have h2 := hL.c2
  have h3 := hL.c3
  have Hcl := Lib.hid (clone_calls (OwnB.has (OwnR.keep hL.data fun _ _ => rfl : OwnB w1.drew 5 dv M.data)) (Nat.le_trans hL.big.1 (by decide)))
  have Hlt := Lib.hid hL.olt
  have Hol := Lib.hid hL.ol
  obtain ⟨p, c, rfl, -⟩ := own_cap0 hL.data
  clear hL
  generalize M.data.length = n at *
  generalize M.base = b at *
  go_enter Try.func19, Try.ntmps19
  go_wp2_with fail
  refine ord_start (fun w' : World => w'.cell? ⟨l, 2, none⟩ = some (.int .i64 (b : Int)) ∧ w'.cell? ⟨l, 3, none⟩ = some (.slice p n c)) (n := 11) (by kernel_rfl) rfl (⟨h2, h3⟩) (fun hHeld => ?_)
  
  refine ord_take 0 (v := ?v3x0) rfl (by kernel_rfl) (by kernel_rfl) (by kernel_rfl) (fun _ _ _ h => h) (by rfl) (by assumption) ?y3x0 ?_
  case y3x0 => (intro w hSw; (try dsimp only at hSw); go_simp; try with_reducible rfl)
  simp only [Act.put, List.setIfInBounds_toArray, List.set_cons_zero, List.set_cons_succ]
  refine ord_take 1 (v := ?v3x1) rfl (by kernel_rfl) (by kernel_rfl) (by kernel_rfl) (fun _ _ _ h => h) (by rfl) (by assumption) ?y3x1 ?_
  case y3x1 => (intro w hSw; (try dsimp only at hSw); go_simp; try with_reducible rfl)
  simp only [Act.put, List.setIfInBounds_toArray, List.set_cons_zero, List.set_cons_succ]
  refine ord_take 2 (v := ?v3x2) rfl (by kernel_rfl) (by kernel_rfl) (by kernel_rfl) (fun _ _ _ h => h) (by rfl) (by assumption) ?y3x2 ?_
  case y3x2 => (intro w hSw; (try dsimp only at hSw); go_simp; try with_reducible rfl)
  simp only [Act.put, List.setIfInBounds_toArray, List.set_cons_zero, List.set_cons_succ]
  refine ord_take 3 (v := ?v3x3) rfl (by kernel_rfl) (by kernel_rfl) (by kernel_rfl) (fun _ _ _ h => h) (by rfl) (by assumption) ?y3x3 ?_
  case y3x3 => (intro w hSw; (try dsimp only at hSw); go_simp; try with_reducible rfl)
  simp only [Act.put, List.setIfInBounds_toArray, List.set_cons_zero, List.set_cons_succ]
  refine ord_take 4 (v := ?v3x4) rfl (by kernel_rfl) (by kernel_rfl) (by kernel_rfl) (fun _ _ _ h => h) (by rfl) (by assumption) ?y3x4 ?_
  case y3x4 => (intro w hSw; (try dsimp only at hSw); go_simp; try with_reducible rfl)
  simp only [Act.put, List.setIfInBounds_toArray, List.set_cons_zero, List.set_cons_succ]
  refine ord_take 5 (v := ?v3x5) rfl (by kernel_rfl) (by kernel_rfl) (by kernel_rfl) (fun _ _ _ h => h) (by rfl) (by assumption) ?y3x5 ?_
  case y3x5 => (intro w hSw; (try dsimp only at hSw); go_simp; try with_reducible rfl)
  simp only [Act.put, List.setIfInBounds_toArray, List.set_cons_zero, List.set_cons_succ]
  refine ord_take 6 (v := ?v3x6) rfl (by kernel_rfl) (by kernel_rfl) (by kernel_rfl) (fun _ _ _ h => h) (by rfl) (by assumption) ?y3x6 ?_
  case y3x6 => (intro w hSw; (try dsimp only at hSw); go_simp; try with_reducible rfl)
  simp only [Act.put, List.setIfInBounds_toArray, List.set_cons_zero, List.set_cons_succ]
  refine ord_take 7 (v := ?v3x7) rfl (by kernel_rfl) (by kernel_rfl) (by kernel_rfl) (fun _ _ _ h => h) (by rfl) (by assumption) ?y3x7 ?_
  case y3x7 => (intro w hSw; (try dsimp only at hSw); go_simp; try with_reducible rfl)
  simp only [Act.put, List.setIfInBounds_toArray, List.set_cons_zero, List.set_cons_succ]
  refine ord_one 8 rfl (by kernel_rfl) (by rfl) (fun K hK => ?_)
  go_wp2_with fail
  refine Hcl.out.mono ?_
  rintro e w3 ⟨v, rfl, hv, hvn, hb⟩
  have Hh3 := Lib.hid (show w3.cell? ⟨l, 2, none⟩ = some (.int .i64 (b : Int)) ∧ w3.cell? ⟨l, 3, none⟩ = some (.slice p n c) from ⟨(hb.cell (World.block_lt_of_cell? _ _ hHeld.1)).trans hHeld.1, (hb.cell (World.block_lt_of_cell? _ _ hHeld.2)).trans hHeld.2⟩)
  have HE := Lib.hid (show Given w1 M.data v w3 from ⟨hv, hvn, (below_drew w1).trans hb⟩)
  obtain ⟨pv, cv, rfl, -⟩ := own_cap0 hv
  clear hv hvn hb
  go_wp2_with fail
  refine hK.out _ _ (Hh3.out) (fun hHeld => ?_)
  clear hK
  try simp only [Act.put, List.setIfInBounds_toArray, List.set_cons_zero, List.set_cons_succ]
  refine ord_take 9 (v := ?v3x9) rfl (by kernel_rfl) (by kernel_rfl) (by kernel_rfl) (fun _ _ _ h => h) (by rfl) (by assumption) ?y3x9 ?_
  case y3x9 => (intro w hSw; (try dsimp only at hSw); go_simp; try with_reducible rfl)
  simp only [Act.put, List.setIfInBounds_toArray, List.set_cons_zero, List.set_cons_succ]
  refine ord_take 10 (v := ?v3x10) rfl (by kernel_rfl) (by kernel_rfl) (by kernel_rfl) (fun _ _ _ h => h) (by rfl) (by assumption) ?y3x10 ?_
  case y3x10 => (intro w hSw; (try dsimp only at hSw); go_simp; try with_reducible rfl)
  simp only [Act.put, List.setIfInBounds_toArray, List.set_cons_zero, List.set_cons_succ]
  refine wpAnyH_done (by kernel_rfl) ?_ _
  go_wp2_with fail
  go_ret2
  exact ⟨_, rfl, HE.out⟩

set_option maxRecDepth 100000 in
set_option maxHeartbeats 4000000 in
theorem at_yes (h : LedF w w1 l d pre D M F) (j : Nat) (hj : j < M.entries.length) :
    Calls Try.prog 18 #[.pointer (some ⟨l, 0, none⟩), .int .i64 (((M.base + 1 + j : Nat)) : Int)] w1 fun e w' => ∃ v, e = .returned (.tuple #[v, .int .i64 0]) ∧ Given w1 M.entries[j] v w' := by
  have Hla := Lib.hid (last_calls h)
  have hlast := h.last
  obtain ⟨own, dv, ev, vs, hL, -⟩ := h
  have h2 := hL.c2
  have h4 := hL.c4
  have hvl : j < vs.length := by rw [hL.len]; exact hj
  have hrow := hL.rows j _ _ (List.getElem?_eq_getElem hvl) (List.getElem?_eq_getElem hj)
  have hbig := hL.big.2 _ (List.getElem_mem hj)
  rcases hL.row.2 with ⟨-, h0⟩ | ⟨g, cap, cur, rfl, -⟩
  · omega
  have hcell := hL.row.cells (g := g) rfl j _ (List.getElem?_eq_getElem hvl)
  rw [add_zero] at hcell
  have Hcl := Lib.hid (fun W (hb : Below w1.heap.size w1 W) => clone_calls (OwnB.has (ownB_far hrow hb)) (Nat.le_trans hbig (by decide)))
  obtain ⟨p, c, hp, -⟩ := own_cap0 hrow
  rw [hp] at hcell Hcl
  unfold LedM.last at hlast
  have HL := Lib.hid (show M.last = M.base + M.entries.length from rfl)
  clear hL hrow hbig hp
  generalize M.entries[j] = x at *
  generalize x.length = m at *
  generalize M.entries.length = n at *
  generalize M.last = la at *
  generalize M.base = b at *
  have hla : la = b + n := HL.out
  have e1 : ((b + 1 + j : Nat) : Int) = (b : Int) + 1 + (j : Int) := by omega
  rw [e1]
  have hn1 : ¬ ((b : Int) + 1 + (j : Int) ≤ (b : Int)) := by omega
  have hn2 : ¬ ((la : Int) < (b : Int) + 1 + (j : Int)) := by omega
  have hd1 : decide ((b : Int) + 1 + (j : Int) ≤ (b : Int)) = false := by simp; omega
  have hd2 : decide ((la : Int) < (b : Int) + 1 + (j : Int)) = false := by simp; omega
  have hw1 : IntKind.i64.wrap ((b : Int) + 1 + (j : Int) - (b : Int)) = (j : Int) + 1 := by rw [IntWalk.i64_in _ (by omega)]; omega
  have hw2 : IntKind.i64.wrap (j : Int) = (j : Int) := IntWalk.i64_in _ (by omega)
  clear hla
  go_enter Try.func18, Try.ntmps18
  go_wp2_with fail
  refine Hla.out.mono ?_
  rintro e w2 ⟨rfl, q, rfl⟩
  have h2 : (w1.drewN q).cell? ⟨l, 2, none⟩ = some (.int .i64 (b : Int)) := h2
  have h4 : (w1.drewN q).cell? ⟨l, 4, none⟩ = some (.slice (some ⟨g, 0, none⟩) n cap) := h4
  have hcell : (w1.drewN q).cell? ⟨g, j, none⟩ = some (.slice p m c) := hcell
  go_wp2_with fail
  refine ord_start (fun w' : World => w'.cell? ⟨l, 2, none⟩ = some (.int .i64 (b : Int)) ∧ w'.cell? ⟨l, 4, none⟩ = some (.slice (some ⟨g, 0, none⟩) n cap) ∧ w'.cell? ⟨g, j, none⟩ = some (.slice p m c)) (n := 16) (by kernel_rfl) rfl (⟨h2, h4, hcell⟩) (fun hHeld => ?_)
  have HB1 := Lib.hid (show Below w1.heap.size w1 (w1.drewN q).drew from ⟨rfl, rfl, rfl, Nat.le_refl _, fun _ _ => rfl⟩)
  generalize (w1.drewN q).drew = W1 at *
  refine ord_take 0 (v := ?v3x0) rfl (by kernel_rfl) (by kernel_rfl) (by kernel_rfl) (fun _ _ _ h => h) (by rfl) (by assumption) ?y3x0 ?_
  case y3x0 => (intro w hSw; (try dsimp only at hSw); go_simp; try with_reducible rfl)
  simp only [Act.put, List.setIfInBounds_toArray, List.set_cons_zero, List.set_cons_succ]
  refine ord_take 1 (v := ?v3x1) rfl (by kernel_rfl) (by kernel_rfl) (by kernel_rfl) (fun _ _ _ h => h) (by rfl) (by assumption) ?y3x1 ?_
  case y3x1 => (intro w hSw; (try dsimp only at hSw); go_simp; try with_reducible rfl)
  simp only [Act.put, List.setIfInBounds_toArray, List.set_cons_zero, List.set_cons_succ]
  refine ord_take 2 (v := ?v3x2) rfl (by kernel_rfl) (by kernel_rfl) (by kernel_rfl) (fun _ _ _ h => h) (by rfl) (by assumption) ?y3x2 ?_
  case y3x2 => (intro w hSw; (try dsimp only at hSw); go_simp; try with_reducible rfl)
  simp only [Act.put, List.setIfInBounds_toArray, List.set_cons_zero, List.set_cons_succ]
  refine ord_take 3 (v := ?v3x3) rfl (by kernel_rfl) (by kernel_rfl) (by kernel_rfl) (fun _ _ _ h => h) (by rfl) (by assumption) ?y3x3 ?_
  case y3x3 => (intro w hSw; (try dsimp only at hSw); go_simp; try with_reducible rfl)
  simp only [Act.put, List.setIfInBounds_toArray, List.set_cons_zero, List.set_cons_succ]
  refine ord_take 4 (v := ?v3x4) rfl (by kernel_rfl) (by kernel_rfl) (by kernel_rfl) (fun _ _ _ h => h) (by rfl) (by assumption) ?y3x4 ?_
  case y3x4 => (intro w hSw; (try dsimp only at hSw); go_simp; try with_reducible rfl)
  simp only [Act.put, List.setIfInBounds_toArray, List.set_cons_zero, List.set_cons_succ]
  refine ord_take 5 (v := ?v3x5) rfl (by kernel_rfl) (by kernel_rfl) (by kernel_rfl) (fun _ _ _ h => h) (by rfl) (by assumption) ?y3x5 ?_
  case y3x5 => (intro w hSw; (try dsimp only at hSw); go_simp; try with_reducible rfl)
  simp only [Act.put, List.setIfInBounds_toArray, List.set_cons_zero, List.set_cons_succ]
  refine ord_take 6 (v := ?v3x6) rfl (by kernel_rfl) (by kernel_rfl) (by kernel_rfl) (fun _ _ _ h => h) (by rfl) (by assumption) ?y3x6 ?_
  case y3x6 => (intro w hSw; (try dsimp only at hSw); go_simp; try with_reducible rfl)
  simp only [Act.put, List.setIfInBounds_toArray, List.set_cons_zero, List.set_cons_succ]
  refine ord_take 7 (v := ?v3x7) rfl (by kernel_rfl) (by kernel_rfl) (by kernel_rfl) (fun _ _ _ h => h) (by rfl) (by assumption) ?y3x7 ?_
  case y3x7 => (intro w hSw; (try dsimp only at hSw); go_simp; try with_reducible rfl)
  simp only [Act.put, List.setIfInBounds_toArray, List.set_cons_zero, List.set_cons_succ]
  refine ord_take 8 (v := ?v3x8) rfl (by kernel_rfl) (by kernel_rfl) (by kernel_rfl) (fun _ _ _ h => h) (by rfl) (by assumption) ?y3x8 ?_
  case y3x8 => (intro w hSw; (try dsimp only at hSw); go_simp; try with_reducible rfl)
  simp only [Act.put, List.setIfInBounds_toArray, List.set_cons_zero, List.set_cons_succ]
  refine ord_take 9 (v := ?v3x9) rfl (by kernel_rfl) (by kernel_rfl) (by kernel_rfl) (fun _ _ _ h => h) (by rfl) (by assumption) ?y3x9 ?_
  case y3x9 => (intro w hSw; (try dsimp only at hSw); go_simp; try with_reducible rfl)
  simp only [Act.put, List.setIfInBounds_toArray, List.set_cons_zero, List.set_cons_succ]
  refine ord_take 10 (v := ?v3x10) rfl (by kernel_rfl) (by kernel_rfl) (by kernel_rfl) (fun _ _ _ h => h) (by rfl) (by assumption) ?y3x10 ?_
  case y3x10 => (intro w hSw; (try dsimp only at hSw); go_simp; try with_reducible rfl)
  simp only [Act.put, List.setIfInBounds_toArray, List.set_cons_zero, List.set_cons_succ]
  refine ord_take 11 (v := ?v3x11) rfl (by kernel_rfl) (by kernel_rfl) (by kernel_rfl) (fun _ _ _ h => h) (by rfl) (by assumption) ?y3x11 ?_
  case y3x11 => (intro w hSw; (try dsimp only at hSw); go_simp; try with_reducible rfl)
  simp only [Act.put, List.setIfInBounds_toArray, List.set_cons_zero, List.set_cons_succ]
  refine ord_take 12 (v := ?v3x12) rfl (by kernel_rfl) (by kernel_rfl) (by kernel_rfl) (fun _ _ _ h => h) (by rfl) (by assumption) ?y3x12 ?_
  case y3x12 => (intro w hSw; (try dsimp only at hSw); go_simp; try with_reducible rfl)
  simp only [Act.put, List.setIfInBounds_toArray, List.set_cons_zero, List.set_cons_succ]
  refine ord_one 13 rfl (by kernel_rfl) (by rfl) (fun K hK => ?_)
  go_wp2_with fail
  refine (Hcl.out W1 HB1.out).mono ?_
  rintro e w3 ⟨v, rfl, hv, hvn, hb⟩
  have Hh3 := Lib.hid (show w3.cell? ⟨l, 2, none⟩ = some (.int .i64 (b : Int)) ∧ w3.cell? ⟨l, 4, none⟩ = some (.slice (some ⟨g, 0, none⟩) n cap) ∧ w3.cell? ⟨g, j, none⟩ = some (.slice p m c) from ⟨(hb.cell (World.block_lt_of_cell? _ _ hHeld.1)).trans hHeld.1, (hb.cell (World.block_lt_of_cell? _ _ hHeld.2.1)).trans hHeld.2.1, (hb.cell (World.block_lt_of_cell? _ _ hHeld.2.2)).trans hHeld.2.2⟩)
  have HE := Lib.hid (show Given w1 x v w3 from ⟨hv, fun k hk => Nat.le_trans HB1.out.size (hvn k hk), HB1.out.trans (hb.mono HB1.out.size)⟩)
  obtain ⟨pv, cv, rfl, -⟩ := own_cap0 hv
  clear hv hvn hb
  go_wp2_with fail
  refine hK.out _ _ (Hh3.out) (fun hHeld => ?_)
  clear hK
  try simp only [Act.put, List.setIfInBounds_toArray, List.set_cons_zero, List.set_cons_succ]
  refine ord_take 14 (v := ?v3x14) rfl (by kernel_rfl) (by kernel_rfl) (by kernel_rfl) (fun _ _ _ h => h) (by rfl) (by assumption) ?y3x14 ?_
  case y3x14 => (intro w hSw; (try dsimp only at hSw); go_simp; try with_reducible rfl)
  simp only [Act.put, List.setIfInBounds_toArray, List.set_cons_zero, List.set_cons_succ]
  refine ord_take 15 (v := ?v3x15) rfl (by kernel_rfl) (by kernel_rfl) (by kernel_rfl) (fun _ _ _ h => h) (by rfl) (by assumption) ?y3x15 ?_
  case y3x15 => (intro w hSw; (try dsimp only at hSw); go_simp; try with_reducible rfl)
  simp only [Act.put, List.setIfInBounds_toArray, List.set_cons_zero, List.set_cons_succ]
  refine wpAnyH_done (by kernel_rfl) ?_ _
  go_wp2_with fail
  go_ret2
  exact ⟨_, rfl, HE.out⟩

set_option maxRecDepth 100000 in
set_option maxHeartbeats 4000000 in
theorem at_no (h : LedF w w1 l d pre D M F) (i : Int) (hi : i ≤ (M.base : Int) ∨ (M.last : Int) < i) (_hr : -9223372036854775808 ≤ i ∧ i ≤ 9223372036854775807) :
    Calls Try.prog 18 #[.pointer (some ⟨l, 0, none⟩), .int .i64 i] w1 fun e w' => e = .returned (.tuple #[.slice none 0 0, .int .i64 7]) ∧ ∃ q, w' = w1.drewN q := by
  have Hla := Lib.hid (last_calls h)
  obtain ⟨own, dv, ev, vs, hL, -⟩ := h
  have h2 := hL.c2
  clear hL
  generalize M.last = la at *
  generalize M.base = b at *
  by_cases hb : i ≤ (b : Int)
  · go_enter Try.func18, Try.ntmps18
    go_wp2_with fail
    go_ret2
    exact ⟨rfl, 0, rfl⟩
  · have hla : (la : Int) < i := by omega
    clear hi
    go_enter Try.func18, Try.ntmps18
    go_wp2_with fail
    refine Hla.out.mono ?_
    rintro e w2 ⟨rfl, q, rfl⟩
    go_wp2_with fail
    go_ret2
    exact ⟨rfl, q, rfl⟩

theorem dies_set {own : Nat → Prop} {dv ev : Value} {vs : List Value} (hL : LedIn w1 l d pre own M dv ev vs) (x : Bool) : LedIn (w1.setCell ⟨l, 5, none⟩ (.bool x)) l d pre own { M with dead := x } dv ev vs where
  cells := by have := set_block hL.cells 5 (.bool x); simpa using this
  data := OwnR.keep hL.data fun k hk => set_other _ (hL.od k hk).2.1
  row := hL.row.keep fun k hk => set_other _ (hL.oe k hk).2
  rows := fun i u b hu hb => OwnR.keep (hL.rows i u b hu hb) fun k hk => set_other _ (hL.ov u (List.mem_of_getElem? hu) k hk).2.1
  ol := hL.ol
  od := hL.od
  oe := hL.oe
  ov := hL.ov
  olt := fun k hk => by have := hL.olt k hk; simpa [World.setCell] using this
  last := hL.last
  psz := hL.psz
  big := hL.big

/-- An error ends it. -/
theorem dies_calls (h : LedF w w1 l d pre D M F) (k : Nat) :
    Calls Try.prog 32 #[.pointer (some ⟨l, 0, none⟩), .int .i64 (k : Int)] w1 fun e w' => e = .returned (.int .i64 (k : Int)) ∧ LedF w w' l d pre D { M with dead := M.dead || decide (k ≠ 0) } F ∧ Same F w1 w' := by
  obtain ⟨own, dv, ev, vs, hL, hS, hn, hl⟩ := h
  have h5 := hL.c5
  have hf := hL.fr 5
  have HE := Lib.hid (fun x => LedF.turned (D := D) (F := F) hS hn hl (dies_set hL x) ((Chg.setCell w1 ⟨l, 5, none⟩ (.bool x)).mono fun j _ e => by rw [e]; exact hL.ol) fun _ h => .inl h)
  clear hL hS hn hl
  cases hd : M.dead with
  | true =>
    rw [hd] at h5
    go_enter Try.func32, Try.ntmps32
    go_wp2_with fail
    go_ret
    exact ⟨rfl, by simpa using HE.out true⟩
  | false =>
    rw [hd] at h5
    by_cases hk : k = 0
    · subst hk
      go_enter Try.func32, Try.ntmps32
      go_wp2_with fail
      go_ret
      exact ⟨rfl, by simpa using HE.out false⟩
    · have hne : ((k : Int) != 0) = true := by simp; omega
      have Hk := Lib.hid hk
      clear hk
      go_enter Try.func32, Try.ntmps32
      go_wp2_with fail
      go_ret
      exact ⟨rfl, by simpa [Hk.out] using HE.out true⟩
end
end Go.Proofs.Yteohbjkjfnflgaa

namespace Go.Proofs.Yteohbjkjfnflgaa
open Go.RowKit Go.Sat Go.Maps

/-- What reading the image leaves. -/
def ImgTold (w w1 : World) (l d : Nat) (pre : ByteArray) (D : DiskM) (F : Nat → Prop) (i : Nat × Nat × Bs) (e : Ending) (w' : World) : Prop :=
  e = .returned (.int .i64 (i.1 : Int)) ∧ (i.1 = 0 → LedF w w' l d pre D ⟨i.2.1, i.2.2, [], false⟩ F) ∧ St w w' d D F ∧ Same F w1 w'

section
variable {w w1 w2 : World} {l d : Nat} {pre : ByteArray} {D : DiskM} {M : LedM} {F : Nat → Prop}

theorem LedF.stF (h : LedF w w1 l d pre D M F) : St w w1 d D F := let ⟨_, _, _, _, _, hS, _, _⟩ := h; hS.less fun _ hk => .inr hk

theorem img_end (h : LedF w w1 l d pre D LedM.none0 F) (hb : Below w1.heap.size w1 w2) (k : Nat) (i : Nat × Nat × Bs) (hi : i = (k, 0, [])) : ImgTold w w1 l d pre D F i (.returned (.int .i64 (k : Int))) w2 := by
  subst hi
  exact ⟨rfl, fun _ => h.next hb, (h.next hb).stF, h.same hb⟩

theorem imageOf_7 {o : Option FileM} (h : loadE o = 7) : imageOf o = (0, 0, []) := by unfold imageOf; rw [if_pos h]
theorem imageOf_e {o : Option FileM} (h : loadE o ≠ 7) (h0 : loadE o ≠ 0) : imageOf o = (loadE o, 0, []) := by unfold imageOf; rw [if_neg h, if_pos h0]
theorem imageOf_0 {o : Option FileM} (h0 : loadE o = 0) : imageOf o = if (Rd.num ⟨loadB o, false⟩).2.bytes.2.whole = false ∨ 1099511627776 < (Rd.num ⟨loadB o, false⟩).1 then (3, 0, []) else (0, (Rd.num ⟨loadB o, false⟩).1, (Rd.num ⟨loadB o, false⟩).2.bytes.1) := by
  unfold imageOf
  rw [if_neg (by omega), if_neg (by omega)]

/-- The number and the data are laid into the ledger's cells. -/
theorem img_set {own : Nat → Prop} {dv ev : Value} {vs : List Value} (hL : LedIn w1 l d pre own LedM.none0 dv ev vs) {n : Nat} {v : Value} {b : Bs} (hv : OwnB w1 5 v b) (hvo : ∀ k, v.ownBlock = some k → ¬ own k) (hn : n ≤ 1099511627776) (hb : b.length ≤ 1073741824) :
    LedIn ((w1.setCell ⟨l, 2, none⟩ (.int .i64 (n : Int))).setCell ⟨l, 3, none⟩ v) l d pre (fun k => own k ∨ v.ownBlock = some k) ⟨n, b, [], false⟩ v ev vs := by
  have hne : ∀ k, v.ownBlock = some k → k ≠ l := fun k hk e => hvo k hk (e ▸ hL.ol)
  have hvs : vs = [] := List.eq_nil_of_length_eq_zero (by have := hL.len; exact this)
  have hk : ∀ k, k ≠ l → ((w1.setCell ⟨l, 2, none⟩ (.int .i64 (n : Int))).setCell ⟨l, 3, none⟩ v).heap[k]? = w1.heap[k]? := fun k e => (set_other _ e).trans (set_other _ e)
  subst hvs
  refine ⟨?_, OwnR.keep hv fun k h => hk k (hne k h), hL.row.keep fun k h => hk k (hL.oe k h).2, fun i u b hu => (by simp at hu), .inl hL.ol, fun k h => ⟨.inr h, hne k h, fun e => hvo k h (hL.oe k e).1⟩, fun k h => ⟨.inl (hL.oe k h).1, (hL.oe k h).2⟩, fun u hu => (by simp at hu), fun k h => ?_, ?_, hL.psz, hb, fun b hb => (by simp at hb)⟩
  · have h1 := set_block hL.cells 2 (.int .i64 (n : Int))
    have h2 := set_block h1 3 v
    simpa [LedM.none0] using h2
  · have : k < w1.heap.size := h.elim (hL.olt k) fun h => OwnR.lt hv h
    simpa [World.setCell] using this
  · show n + 0 ≤ _
    omega

set_option maxRecDepth 100000 in
set_option maxHeartbeats 8000000 in
theorem image_calls (h : LedF w w1 l d pre D LedM.none0 F) :
    Calls Try.prog 23 #[.pointer (some ⟨l, 0, none⟩)] w1 (ImgTold w w1 l d pre D F (imageOf (Sat.get (imgN (nm pre)) D.files))) := by
  obtain ⟨hc0, hc1, hps⟩ := h.lc
  have hln := data_len h.okD (imgN (nm pre))
  have HB1 := Lib.hid (below_drew w1)
  have hld := load_calls (h.st.next (below_drew w1)) (sImg pre) (by rw [size_img]; omega)
  rw [nm_img] at hld
  unfold GotL at hld
  generalize ho : Sat.get (imgN (nm pre)) D.files = o at *
  generalize hn : (loadB o).length = n at *
  have hnn : n ≤ 1073741824 := by
    rw [← hn]
    cases o with
    | none => rw [loadB_none]; exact Nat.zero_le _
    | some f =>
      rw [loadB_some]
      unfold oneB decB
      split
      · split
        · rw [List.length_take, List.length_drop]
          omega
        · exact Nat.zero_le _
      · exact Nat.zero_le _
  have Hld := Lib.hid hld
  have H := Lib.hid h
  clear hld h ho hln
  by_cases h7 : loadE o = 7
  · have HI := Lib.hid (imageOf_7 h7)
    rw [h7] at Hld
    clear h7
    go_enter Try.func23, Try.ntmps23
    go_wp2_with fail
    refine ord_start (fun w' : World => w'.cell? ⟨l, 0, none⟩ = some (.pointer (some ⟨d, 0, none⟩)) ∧ w'.cell? ⟨l, 1, none⟩ = some (.string pre)) (n := 12) (by kernel_rfl) rfl (⟨hc0, hc1⟩) (fun hHeld => ?_)
    generalize w1.drew = W1 at *
    refine ord_take 0 (v := ?v1x0) rfl (by kernel_rfl) (by kernel_rfl) (by kernel_rfl) (fun _ _ _ h => h) (by rfl) (by assumption) ?y1x0 ?_
    case y1x0 => (intro w hSw; (try dsimp only at hSw); go_simp; try with_reducible rfl)
    simp only [Act.put, List.setIfInBounds_toArray, List.set_cons_zero, List.set_cons_succ]
    refine ord_take 1 (v := ?v1x1) rfl (by kernel_rfl) (by kernel_rfl) (by kernel_rfl) (fun _ _ _ h => h) (by rfl) (by assumption) ?y1x1 ?_
    case y1x1 => (intro w hSw; (try dsimp only at hSw); go_simp; try with_reducible rfl)
    simp only [Act.put, List.setIfInBounds_toArray, List.set_cons_zero, List.set_cons_succ]
    refine ord_take 2 (v := ?v1x2) rfl (by kernel_rfl) (by kernel_rfl) (by kernel_rfl) (fun _ _ _ h => h) (by rfl) (by assumption) ?y1x2 ?_
    case y1x2 => (intro w hSw; (try dsimp only at hSw); go_simp; try with_reducible rfl)
    simp only [Act.put, List.setIfInBounds_toArray, List.set_cons_zero, List.set_cons_succ]
    refine ord_take 3 (v := ?v1x3) rfl (by kernel_rfl) (by kernel_rfl) (by kernel_rfl) (fun _ _ _ h => h) (by rfl) (by assumption) ?y1x3 ?_
    case y1x3 => (intro w hSw; (try dsimp only at hSw); go_simp; try with_reducible rfl)
    simp only [Act.put, List.setIfInBounds_toArray, List.set_cons_zero, List.set_cons_succ]
    refine ord_take 4 (v := ?v1x4) rfl (by kernel_rfl) (by kernel_rfl) (by kernel_rfl) (fun _ _ _ h => h) (by rfl) (by assumption) ?y1x4 ?_
    case y1x4 => (intro w hSw; (try dsimp only at hSw); go_simp; try with_reducible rfl)
    simp only [Act.put, List.setIfInBounds_toArray, List.set_cons_zero, List.set_cons_succ]
    refine ord_one 5 rfl (by kernel_rfl) (by rfl) (fun K hK => ?_)
    go_wp2_with fail
    refine (imgName_calls ⟨hHeld.1, hHeld.2, hps⟩).mono ?_
    rintro e w9 ⟨rfl, rfl⟩
    go_wp2_with fail
    refine hK.out _ _ (hHeld) (fun hHeld => ?_)
    clear hK
    try simp only [Act.put, List.setIfInBounds_toArray, List.set_cons_zero, List.set_cons_succ]
    refine ord_one 6 rfl (by kernel_rfl) (by rfl) (fun K hK => ?_)
    go_wp2_with fail
    refine Hld.out.mono ?_
    rintro e w2 ⟨v, rfl, hv, hvn, hb, hst⟩
    have Hh3 := Lib.hid (show w2.cell? ⟨l, 0, none⟩ = some (.pointer (some ⟨d, 0, none⟩)) ∧ w2.cell? ⟨l, 1, none⟩ = some (.string pre) from ⟨(hb.cell (World.block_lt_of_cell? _ _ hHeld.1)).trans hHeld.1, (hb.cell (World.block_lt_of_cell? _ _ hHeld.2)).trans hHeld.2⟩)
    have Hb := Lib.hid (show Below w1.heap.size w1 w2 from HB1.out.trans (hb.mono HB1.out.size))
    have Hv := Lib.hid hv
    have hlen : (loadB o).length = n := hn
    obtain ⟨pv, cv, rfl, -⟩ := own_cap0 hv
    rw [hlen]
    clear hv hvn hb hst Hld
    go_wp2_with fail
    refine hK.out _ _ (Hh3.out) (fun hHeld => ?_)
    clear hK
    try simp only [Act.put, List.setIfInBounds_toArray, List.set_cons_zero, List.set_cons_succ]
    refine ord_take 7 (v := ?v1x7) rfl (by kernel_rfl) (by kernel_rfl) (by kernel_rfl) (fun _ _ _ h => h) (by rfl) (by assumption) ?y1x7 ?_
    case y1x7 => (intro w hSw; (try dsimp only at hSw); go_simp; try with_reducible rfl)
    simp only [Act.put, List.setIfInBounds_toArray, List.set_cons_zero, List.set_cons_succ]
    refine ord_take 8 (v := ?v1x8) rfl (by kernel_rfl) (by kernel_rfl) (by kernel_rfl) (fun _ _ _ h => h) (by rfl) (by assumption) ?y1x8 ?_
    case y1x8 => (intro w hSw; (try dsimp only at hSw); go_simp; try with_reducible rfl)
    simp only [Act.put, List.setIfInBounds_toArray, List.set_cons_zero, List.set_cons_succ]
    refine ord_take 9 (v := ?v1x9) rfl (by kernel_rfl) (by kernel_rfl) (by kernel_rfl) (fun _ _ _ h => h) (by rfl) (by assumption) ?y1x9 ?_
    case y1x9 => (intro w hSw; (try dsimp only at hSw); go_simp; try with_reducible rfl)
    simp only [Act.put, List.setIfInBounds_toArray, List.set_cons_zero, List.set_cons_succ]
    refine ord_take 10 (v := ?v1x10) rfl (by kernel_rfl) (by kernel_rfl) (by kernel_rfl) (fun _ _ _ h => h) (by rfl) (by assumption) ?y1x10 ?_
    case y1x10 => (intro w hSw; (try dsimp only at hSw); go_simp; try with_reducible rfl)
    simp only [Act.put, List.setIfInBounds_toArray, List.set_cons_zero, List.set_cons_succ]
    refine ord_take 11 (v := ?v1x11) rfl (by kernel_rfl) (by kernel_rfl) (by kernel_rfl) (fun _ _ _ h => h) (by rfl) (by assumption) ?y1x11 ?_
    case y1x11 => (intro w hSw; (try dsimp only at hSw); go_simp; try with_reducible rfl)
    simp only [Act.put, List.setIfInBounds_toArray, List.set_cons_zero, List.set_cons_succ]
    refine wpAnyH_done (by kernel_rfl) ?_ _
    have HE := Lib.hid (img_end H.out Hb.out 0 _ HI.out)
    go_wp2_with fail
    go_ret
    exact HE.out
  · by_cases h0 : loadE o = 0
    · have HI := Lib.hid (imageOf_0 h0)
      rw [h0] at Hld
      clear h7 h0
      go_enter Try.func23, Try.ntmps23
      go_wp2_with fail
      refine ord_start (fun w' : World => w'.cell? ⟨l, 0, none⟩ = some (.pointer (some ⟨d, 0, none⟩)) ∧ w'.cell? ⟨l, 1, none⟩ = some (.string pre)) (n := 12) (by kernel_rfl) rfl (⟨hc0, hc1⟩) (fun hHeld => ?_)
      generalize w1.drew = W1 at *
      refine ord_take 0 (v := ?v2x0) rfl (by kernel_rfl) (by kernel_rfl) (by kernel_rfl) (fun _ _ _ h => h) (by rfl) (by assumption) ?y2x0 ?_
      case y2x0 => (intro w hSw; (try dsimp only at hSw); go_simp; try with_reducible rfl)
      simp only [Act.put, List.setIfInBounds_toArray, List.set_cons_zero, List.set_cons_succ]
      refine ord_take 1 (v := ?v2x1) rfl (by kernel_rfl) (by kernel_rfl) (by kernel_rfl) (fun _ _ _ h => h) (by rfl) (by assumption) ?y2x1 ?_
      case y2x1 => (intro w hSw; (try dsimp only at hSw); go_simp; try with_reducible rfl)
      simp only [Act.put, List.setIfInBounds_toArray, List.set_cons_zero, List.set_cons_succ]
      refine ord_take 2 (v := ?v2x2) rfl (by kernel_rfl) (by kernel_rfl) (by kernel_rfl) (fun _ _ _ h => h) (by rfl) (by assumption) ?y2x2 ?_
      case y2x2 => (intro w hSw; (try dsimp only at hSw); go_simp; try with_reducible rfl)
      simp only [Act.put, List.setIfInBounds_toArray, List.set_cons_zero, List.set_cons_succ]
      refine ord_take 3 (v := ?v2x3) rfl (by kernel_rfl) (by kernel_rfl) (by kernel_rfl) (fun _ _ _ h => h) (by rfl) (by assumption) ?y2x3 ?_
      case y2x3 => (intro w hSw; (try dsimp only at hSw); go_simp; try with_reducible rfl)
      simp only [Act.put, List.setIfInBounds_toArray, List.set_cons_zero, List.set_cons_succ]
      refine ord_take 4 (v := ?v2x4) rfl (by kernel_rfl) (by kernel_rfl) (by kernel_rfl) (fun _ _ _ h => h) (by rfl) (by assumption) ?y2x4 ?_
      case y2x4 => (intro w hSw; (try dsimp only at hSw); go_simp; try with_reducible rfl)
      simp only [Act.put, List.setIfInBounds_toArray, List.set_cons_zero, List.set_cons_succ]
      refine ord_one 5 rfl (by kernel_rfl) (by rfl) (fun K hK => ?_)
      go_wp2_with fail
      refine (imgName_calls ⟨hHeld.1, hHeld.2, hps⟩).mono ?_
      rintro e w9 ⟨rfl, rfl⟩
      go_wp2_with fail
      refine hK.out _ _ (hHeld) (fun hHeld => ?_)
      clear hK
      try simp only [Act.put, List.setIfInBounds_toArray, List.set_cons_zero, List.set_cons_succ]
      refine ord_one 6 rfl (by kernel_rfl) (by rfl) (fun K hK => ?_)
      go_wp2_with fail
      refine Hld.out.mono ?_
      rintro e w2 ⟨v, rfl, hv, hvn, hb, hst⟩
      have Hh3 := Lib.hid (show w2.cell? ⟨l, 0, none⟩ = some (.pointer (some ⟨d, 0, none⟩)) ∧ w2.cell? ⟨l, 1, none⟩ = some (.string pre) from ⟨(hb.cell (World.block_lt_of_cell? _ _ hHeld.1)).trans hHeld.1, (hb.cell (World.block_lt_of_cell? _ _ hHeld.2)).trans hHeld.2⟩)
      have Hb := Lib.hid (show Below w1.heap.size w1 w2 from HB1.out.trans (hb.mono HB1.out.size))
      have Hv := Lib.hid hv
      have hlen : (loadB o).length = n := hn
      obtain ⟨pv, cv, rfl, -⟩ := own_cap0 hv
      rw [hlen]
      clear hv hvn hb hst Hld
      go_wp2_with fail
      refine hK.out _ _ (Hh3.out) (fun hHeld => ?_)
      clear hK
      try simp only [Act.put, List.setIfInBounds_toArray, List.set_cons_zero, List.set_cons_succ]
      refine ord_take 7 (v := ?v2x7) rfl (by kernel_rfl) (by kernel_rfl) (by kernel_rfl) (fun _ _ _ h => h) (by rfl) (by assumption) ?y2x7 ?_
      case y2x7 => (intro w hSw; (try dsimp only at hSw); go_simp; try with_reducible rfl)
      simp only [Act.put, List.setIfInBounds_toArray, List.set_cons_zero, List.set_cons_succ]
      refine ord_take 8 (v := ?v2x8) rfl (by kernel_rfl) (by kernel_rfl) (by kernel_rfl) (fun _ _ _ h => h) (by rfl) (by assumption) ?y2x8 ?_
      case y2x8 => (intro w hSw; (try dsimp only at hSw); go_simp; try with_reducible rfl)
      simp only [Act.put, List.setIfInBounds_toArray, List.set_cons_zero, List.set_cons_succ]
      refine ord_take 9 (v := ?v2x9) rfl (by kernel_rfl) (by kernel_rfl) (by kernel_rfl) (fun _ _ _ h => h) (by rfl) (by assumption) ?y2x9 ?_
      case y2x9 => (intro w hSw; (try dsimp only at hSw); go_simp; try with_reducible rfl)
      simp only [Act.put, List.setIfInBounds_toArray, List.set_cons_zero, List.set_cons_succ]
      refine ord_take 10 (v := ?v2x10) rfl (by kernel_rfl) (by kernel_rfl) (by kernel_rfl) (fun _ _ _ h => h) (by rfl) (by assumption) ?y2x10 ?_
      case y2x10 => (intro w hSw; (try dsimp only at hSw); go_simp; try with_reducible rfl)
      simp only [Act.put, List.setIfInBounds_toArray, List.set_cons_zero, List.set_cons_succ]
      refine ord_take 11 (v := ?v2x11) rfl (by kernel_rfl) (by kernel_rfl) (by kernel_rfl) (fun _ _ _ h => h) (by rfl) (by assumption) ?y2x11 ?_
      case y2x11 => (intro w hSw; (try dsimp only at hSw); go_simp; try with_reducible rfl)
      simp only [Act.put, List.setIfInBounds_toArray, List.set_cons_zero, List.set_cons_succ]
      refine wpAnyH_done (by kernel_rfl) ?_ _
      have Hn0 := Lib.hid hn
      have HasV := Lib.hid (show HasB w2 (.slice pv n cv) (loadB o) from by have := Hv.out.has; rw [hlen] at this; exact this)
      clear hn hlen
      go_wp2_with fail
      refine (newrd_calls HasV.out (by rw [Hn0.out]; omega)).mono ?_
      rintro e w3 ⟨r, rfl, hr, hrn, hb3⟩
      have Hnum := Lib.hid (show Calls Try.prog 41 #[.pointer (some ⟨r, 0, none⟩)] w3 (NumDone w3 r ⟨loadB o, false⟩) from by obtain ⟨_, _, _, h⟩ := hr; exact num_calls h)
      have Hb3 := Lib.hid hb3
      have Hrn := Lib.hid hrn
      clear hr hrn hb3
      go_wp2_with fail
      refine Hnum.out.mono ?_
      rintro e w4 ⟨rfl, hr4, hc4⟩
      have Hby := Lib.hid (rbytes_calls hr4)
      have Hc4 := Lib.hid hc4
      have hm62 := Rd.num_le ⟨loadB o, false⟩
      have Hbl := Lib.hid (show (Rd.num ⟨loadB o, false⟩).2.bytes.1.length ≤ 1073741824 from Nat.le_trans (Rd.bytes_len _) (Nat.le_trans (Rd.num_rest _) (by show (loadB o).length ≤ _; rw [Hn0.out]; exact hnn)))
      clear hr4 hc4 Hnum
      generalize (Rd.num ⟨loadB o, false⟩).1 = m at *
      generalize (Rd.num ⟨loadB o, false⟩).2 = R1 at *
      go_wp2_with fail
      refine Hby.out.mono ?_
      rintro e w5 ⟨v5, rfl, hv5, hn5, hr5, hc5⟩
      have HB5 := Lib.hid (show Below w2.heap.size w2 w5 from Hb3.out.trans ((Hc4.out.trans hc5 fun _ _ e => e).below Hb3.out.size fun k hk e => by have := Hrn.out; omega))
      have HL5 := Lib.hid (H.out.next (Hb.out.trans (HB5.out.mono Hb.out.size)))
      have hrl : r ≠ l := fun e => by have h1 := H.out.llt; have h2 := Hb.out.size; have h3 := Hrn.out; omega
      have Hn5 := Lib.hid (show ∀ k, v5.ownBlock = some k → w1.heap.size ≤ k from fun k hk => by have h1 := hn5 k hk; have h2 := Hb.out.size; have h3 := Hb3.out.size; have h4 := Hc4.out.size; omega)
      have Hrd := Lib.hid (fun (W : World) (hs : W.heap[r]? = w5.heap[r]?) => whole_calls (hr5.hd.same hs))
      have HV5 := Lib.hid hv5
      obtain ⟨dv, ev, hcl, -⟩ := HL5.out.cells
      have k2 : w5.cell? ⟨l, 2, none⟩ = some (.int .i64 (LedM.none0.base : Int)) := cell_of hcl rfl
      have k3 : w5.cell? ⟨l, 3, none⟩ = some dv := cell_of hcl rfl
      have f2 := frozen_of hcl 2
      have f3 := frozen_of hcl 3
      clear hv5 hn5 hr5 hc5 Hby hcl
      generalize R1.bytes.2 = R2 at *
      generalize R1.bytes.1 = b5 at *
      obtain ⟨p5, c5, rfl, -⟩ := own_cap0 HV5.out
      have HW := Lib.hid (show ((w5.setCell ⟨l, 2, none⟩ (.int .i64 (m : Int))).setCell ⟨l, 3, none⟩ (.slice p5 b5.length c5)).heap[r]? = w5.heap[r]? from (set_other _ hrl).trans (set_other _ hrl))
      have Hch := Lib.hid (show Chg (fun k => k = l) w5 ((w5.setCell ⟨l, 2, none⟩ (.int .i64 (m : Int))).setCell ⟨l, 3, none⟩ (.slice p5 b5.length c5)) from (Chg.setCell w5 ⟨l, 2, none⟩ _).trans (Chg.setCell _ ⟨l, 3, none⟩ _) fun _ _ e => e)
      have hk2 : ((w5.setCell ⟨l, 2, none⟩ (.int .i64 (m : Int))).setCell ⟨l, 3, none⟩ (.slice p5 b5.length c5)).cell? ⟨l, 2, none⟩ = some (.int .i64 (m : Int)) := by
        obtain ⟨dv', ev', hcl, -⟩ := HL5.out.cells
        have h1 := set_block hcl 2 (.int .i64 (m : Int))
        have h2 := set_block h1 3 (.slice p5 b5.length c5)
        exact cell_of h2 (by simp)
      have Hk2 := Lib.hid hk2
      have HS := Lib.hid (show St w ((w5.setCell ⟨l, 2, none⟩ (.int .i64 (m : Int))).setCell ⟨l, 3, none⟩ (.slice p5 b5.length c5)) d D F ∧ Same F w1 ((w5.setCell ⟨l, 2, none⟩ (.int .i64 (m : Int))).setCell ⟨l, 3, none⟩ (.slice p5 b5.length c5)) from by
        obtain ⟨own, dv', ev', vs', hL, hS, hn, hl⟩ := HL5.out
        refine ⟨(hS.move Hch.out (fun k _ e => ⟨.inl (e ▸ hL.ol), (hn k (e ▸ hL.ol)).1⟩) fun k hk => ⟨.inl hk, Nat.lt_of_lt_of_le (hS.flt hk) Hch.out.size⟩).less fun _ h => .inr h, fun k hk => ?_⟩
        have h1 := H.out.same (Hb.out.trans (HB5.out.mono Hb.out.size)) k hk
        exact (Hch.out.block k (hl k hk) fun e => (hn l hL.ol).2 (e ▸ hk)).trans h1)
      clear hk2
      by_cases hw : R2.whole = false
      · have Hwh := Lib.hid (Hrd.out _ HW.out)
        rw [hw] at Hwh
        have HE := Lib.hid (show ImgTold w w1 l d pre D F (imageOf o) (.returned (.int .i64 3)) _ from by rw [HI.out, if_pos (.inl hw)]; exact ⟨rfl, (fun h => by cases h), HS.out⟩)
        clear hw Hrd HI
        go_wp2_with fail
        refine Hwh.out.mono ?_
        rintro e w6 ⟨rfl, rfl⟩
        go_wp2_with fail
        go_ret
        exact HE.out
      · have Hwh := Lib.hid (Hrd.out _ HW.out)
        rw [show R2.whole = true by cases h : R2.whole <;> simp_all] at Hwh
        by_cases hm : 1099511627776 < m
        · have HE := Lib.hid (show ImgTold w w1 l d pre D F (imageOf o) (.returned (.int .i64 3)) _ from by rw [HI.out, if_pos (.inr hm)]; exact ⟨rfl, (fun h => by cases h), HS.out⟩)
          have Hk3 := Hk2.out
          clear hw Hrd HI
          go_wp2_with fail
          refine Hwh.out.mono ?_
          rintro e w6 ⟨rfl, rfl⟩
          go_wp2_with fail
          go_ret
          exact HE.out
        · have HE := Lib.hid (show ImgTold w w1 l d pre D F (imageOf o) (.returned (.int .i64 0)) _ from by
            rw [HI.out, if_neg (fun h => h.elim hw hm)]
            refine ⟨rfl, fun _ => ?_, HS.out⟩
            obtain ⟨own, dv', ev', vs', hL, hS, hn, hl⟩ := H.out
            have hb15 := Hb.out.trans (HB5.out.mono Hb.out.size)
            exact (LedF.turned hS hn hl (img_set (hL.below hb15) HV5.out (fun k hk ho => by have h1 := Hn5.out k hk; have h2 := hL.olt k ho; omega) (by omega) Hbl.out) (((Chg.of_below hb15).mono fun _ _ h => h.elim).trans Hch.out fun k _ e => e ▸ hL.ol) fun k hk => hk.imp id (Hn5.out k)).1)
          have Hk3 := Hk2.out
          clear hw Hrd HI
          go_wp2_with fail
          refine Hwh.out.mono ?_
          rintro e w6 ⟨rfl, rfl⟩
          go_wp2_with fail
          go_ret
          exact HE.out
    · have HI := Lib.hid (imageOf_e h7 h0)
      have h7' : ((loadE o : Int) == 7) = false := by simp; omega
      have h0' : ((loadE o : Int) != 0) = true := by simp; omega
      clear h7 h0
      generalize loadE o = k at *
      go_enter Try.func23, Try.ntmps23
      go_wp2_with fail
      refine ord_start (fun w' : World => w'.cell? ⟨l, 0, none⟩ = some (.pointer (some ⟨d, 0, none⟩)) ∧ w'.cell? ⟨l, 1, none⟩ = some (.string pre)) (n := 12) (by kernel_rfl) rfl (⟨hc0, hc1⟩) (fun hHeld => ?_)
      generalize w1.drew = W1 at *
      refine ord_take 0 (v := ?v3x0) rfl (by kernel_rfl) (by kernel_rfl) (by kernel_rfl) (fun _ _ _ h => h) (by rfl) (by assumption) ?y3x0 ?_
      case y3x0 => (intro w hSw; (try dsimp only at hSw); go_simp; try with_reducible rfl)
      simp only [Act.put, List.setIfInBounds_toArray, List.set_cons_zero, List.set_cons_succ]
      refine ord_take 1 (v := ?v3x1) rfl (by kernel_rfl) (by kernel_rfl) (by kernel_rfl) (fun _ _ _ h => h) (by rfl) (by assumption) ?y3x1 ?_
      case y3x1 => (intro w hSw; (try dsimp only at hSw); go_simp; try with_reducible rfl)
      simp only [Act.put, List.setIfInBounds_toArray, List.set_cons_zero, List.set_cons_succ]
      refine ord_take 2 (v := ?v3x2) rfl (by kernel_rfl) (by kernel_rfl) (by kernel_rfl) (fun _ _ _ h => h) (by rfl) (by assumption) ?y3x2 ?_
      case y3x2 => (intro w hSw; (try dsimp only at hSw); go_simp; try with_reducible rfl)
      simp only [Act.put, List.setIfInBounds_toArray, List.set_cons_zero, List.set_cons_succ]
      refine ord_take 3 (v := ?v3x3) rfl (by kernel_rfl) (by kernel_rfl) (by kernel_rfl) (fun _ _ _ h => h) (by rfl) (by assumption) ?y3x3 ?_
      case y3x3 => (intro w hSw; (try dsimp only at hSw); go_simp; try with_reducible rfl)
      simp only [Act.put, List.setIfInBounds_toArray, List.set_cons_zero, List.set_cons_succ]
      refine ord_take 4 (v := ?v3x4) rfl (by kernel_rfl) (by kernel_rfl) (by kernel_rfl) (fun _ _ _ h => h) (by rfl) (by assumption) ?y3x4 ?_
      case y3x4 => (intro w hSw; (try dsimp only at hSw); go_simp; try with_reducible rfl)
      simp only [Act.put, List.setIfInBounds_toArray, List.set_cons_zero, List.set_cons_succ]
      refine ord_one 5 rfl (by kernel_rfl) (by rfl) (fun K hK => ?_)
      go_wp2_with fail
      refine (imgName_calls ⟨hHeld.1, hHeld.2, hps⟩).mono ?_
      rintro e w9 ⟨rfl, rfl⟩
      go_wp2_with fail
      refine hK.out _ _ (hHeld) (fun hHeld => ?_)
      clear hK
      try simp only [Act.put, List.setIfInBounds_toArray, List.set_cons_zero, List.set_cons_succ]
      refine ord_one 6 rfl (by kernel_rfl) (by rfl) (fun K hK => ?_)
      go_wp2_with fail
      refine Hld.out.mono ?_
      rintro e w2 ⟨v, rfl, hv, hvn, hb, hst⟩
      have Hh3 := Lib.hid (show w2.cell? ⟨l, 0, none⟩ = some (.pointer (some ⟨d, 0, none⟩)) ∧ w2.cell? ⟨l, 1, none⟩ = some (.string pre) from ⟨(hb.cell (World.block_lt_of_cell? _ _ hHeld.1)).trans hHeld.1, (hb.cell (World.block_lt_of_cell? _ _ hHeld.2)).trans hHeld.2⟩)
      have Hb := Lib.hid (show Below w1.heap.size w1 w2 from HB1.out.trans (hb.mono HB1.out.size))
      have Hv := Lib.hid hv
      have hlen : (loadB o).length = n := hn
      obtain ⟨pv, cv, rfl, -⟩ := own_cap0 hv
      rw [hlen]
      clear hv hvn hb hst Hld
      go_wp2_with fail
      refine hK.out _ _ (Hh3.out) (fun hHeld => ?_)
      clear hK
      try simp only [Act.put, List.setIfInBounds_toArray, List.set_cons_zero, List.set_cons_succ]
      refine ord_take 7 (v := ?v3x7) rfl (by kernel_rfl) (by kernel_rfl) (by kernel_rfl) (fun _ _ _ h => h) (by rfl) (by assumption) ?y3x7 ?_
      case y3x7 => (intro w hSw; (try dsimp only at hSw); go_simp; try with_reducible rfl)
      simp only [Act.put, List.setIfInBounds_toArray, List.set_cons_zero, List.set_cons_succ]
      refine ord_take 8 (v := ?v3x8) rfl (by kernel_rfl) (by kernel_rfl) (by kernel_rfl) (fun _ _ _ h => h) (by rfl) (by assumption) ?y3x8 ?_
      case y3x8 => (intro w hSw; (try dsimp only at hSw); go_simp; try with_reducible rfl)
      simp only [Act.put, List.setIfInBounds_toArray, List.set_cons_zero, List.set_cons_succ]
      refine ord_take 9 (v := ?v3x9) rfl (by kernel_rfl) (by kernel_rfl) (by kernel_rfl) (fun _ _ _ h => h) (by rfl) (by assumption) ?y3x9 ?_
      case y3x9 => (intro w hSw; (try dsimp only at hSw); go_simp; try with_reducible rfl)
      simp only [Act.put, List.setIfInBounds_toArray, List.set_cons_zero, List.set_cons_succ]
      refine ord_take 10 (v := ?v3x10) rfl (by kernel_rfl) (by kernel_rfl) (by kernel_rfl) (fun _ _ _ h => h) (by rfl) (by assumption) ?y3x10 ?_
      case y3x10 => (intro w hSw; (try dsimp only at hSw); go_simp; try with_reducible rfl)
      simp only [Act.put, List.setIfInBounds_toArray, List.set_cons_zero, List.set_cons_succ]
      refine ord_take 11 (v := ?v3x11) rfl (by kernel_rfl) (by kernel_rfl) (by kernel_rfl) (fun _ _ _ h => h) (by rfl) (by assumption) ?y3x11 ?_
      case y3x11 => (intro w hSw; (try dsimp only at hSw); go_simp; try with_reducible rfl)
      simp only [Act.put, List.setIfInBounds_toArray, List.set_cons_zero, List.set_cons_succ]
      refine wpAnyH_done (by kernel_rfl) ?_ _
      have HE := Lib.hid (img_end H.out Hb.out k _ HI.out)
      go_wp2_with fail
      go_ret
      exact HE.out
end
end Go.Proofs.Yteohbjkjfnflgaa

namespace Go.Proofs.Yteohbjkjfnflgaa
open Go.RowKit Go.Sat Go.Maps

/-- A list of rows that is laid up, each row in memory of its own. -/
structure RowsIn (w : World) (v : Value) (vs : List Value) (ls : List Bs) : Prop where
  row : OwnR w 33 1 v ls.length vs
  has : ∀ (i : Nat) u b, vs[i]? = some u → ls[i]? = some b → OwnB w 5 u b
  sep : ∀ u ∈ vs, ∀ k, u.ownBlock = some k → v.ownBlock ≠ some k

theorem below_one0 (w : World) (o : Obj) : Below w.heap.size w (w.alloc o) := (Below.refl _ _).alloc (Nat.le_refl _) o

theorem slit_one (w : World) (u : Value) (e : TypeId) (fr : Nat × Nat) : Holds (w.alloc (.cells #[u] e fr)) 1 (.slice (some ⟨w.heap.size, 0, none⟩) 1 1) 1 [u] := by
  refine ⟨rfl, some ⟨w.heap.size, 0, none⟩, 1, rfl, fun e => (by cases e), fun a ha i x hx => ?_⟩
  cases ha
  rw [add_zero]
  refine cell_of (new_block w _) ?_
  simpa using hx

section
variable {w w0 w1 : World} {v v' u : Value} {vs : List Value} {ls : List Bs} {b : Bs}

theorem RowsIn.len (h : RowsIn w v vs ls) : vs.length = ls.length := by have := h.row.1; omega

theorem RowsIn.below (h : RowsIn w v vs ls) (hb : Below w.heap.size w w1) : RowsIn w1 v vs ls :=
  ⟨h.row.keep fun k hk => hb.block k (OwnR.lt h.row hk), fun i u b hu hl => OwnR.keep (h.has i u b hu hl) fun k hk => hb.block k (OwnR.lt (h.has i u b hu hl) hk), h.sep⟩

theorem RowsIn.nil (w : World) : RowsIn w (.slice none 0 0) [] [] := ⟨OwnR.nil _ _ _, fun i u b hu => (by simp at hu), fun u hu => (by simp at hu)⟩

theorem mem_rows (h : RowsIn w v vs ls) {u : Value} (hu : u ∈ vs) : ∃ b, OwnB w 5 u b := by
  obtain ⟨i, hi, rfl⟩ := List.getElem_of_mem hu
  have hl : i < ls.length := by rw [← h.len]; exact hi
  exact ⟨ls[i], h.has i _ _ (List.getElem?_eq_getElem hi) (List.getElem?_eq_getElem hl)⟩

/-- A row was appended. -/
theorem RowsIn.push (h : RowsIn w0 v vs ls) (hu : OwnB w0 5 u b) (hne : ∀ k, u.ownBlock = some k → v.ownBlock ≠ some k) (hown : OwnR w1 33 1 v' (ls.length + 1) (vs ++ [u])) (hg : w0.grownBy w1 v.ownBlock) (hloc : v'.ownBlock = v.ownBlock ∨ ∃ g, v'.ownBlock = some g ∧ w0.heap.size ≤ g) :
    RowsIn w1 v' (vs ++ [u]) (ls ++ [b]) := by
  have hlen := h.len
  have hk : ∀ x c, OwnB w0 5 x c → (∀ k, x.ownBlock = some k → v.ownBlock ≠ some k) → OwnB w1 5 x c := fun x c hx hs => OwnR.keep hx fun k hk => hg.block k (OwnR.lt hx hk) fun e => hs k hk e.symm
  have hs' : ∀ x c, OwnB w0 5 x c → (∀ k, x.ownBlock = some k → v.ownBlock ≠ some k) → ∀ k, x.ownBlock = some k → v'.ownBlock ≠ some k := fun x c hx hs k hk e => by
    rcases hloc with e1 | ⟨g, e1, hge⟩
    · exact hs k hk (e1 ▸ e)
    · rw [e] at e1
      cases e1
      have := OwnR.lt hx hk
      omega
  refine ⟨by rw [List.length_append]; exact hown, fun i x c hx hc => ?_, fun x hx k hk' => ?_⟩
  · by_cases hi : i < vs.length
    · rw [List.getElem?_append_left hi] at hx
      rw [List.getElem?_append_left (by omega)] at hc
      exact hk x c (h.has i x c hx hc) (h.sep x (List.mem_of_getElem? hx))
    · rw [List.getElem?_append_right (by omega)] at hx
      rw [List.getElem?_append_right (by omega)] at hc
      have hi0 : i - vs.length = 0 := by
        have := (List.getElem?_eq_some_iff.1 hx).1
        simp at this
        omega
      rw [hi0] at hx
      rw [show i - ls.length = 0 by omega] at hc
      cases hx
      cases hc
      exact hk u b hu hne
  · rcases List.mem_append.1 hx with hx | hx
    · obtain ⟨c, hc⟩ := mem_rows h hx
      exact hs' x c hc (h.sep x hx) k hk'
    · have : x = u := by simpa using hx
      subst this
      exact hs' x b hu hne k hk'
end

/-- What is new. -/
def NewRows (B : Nat) (v : Value) (vs : List Value) : Prop := (∀ k, v.ownBlock = some k → B ≤ k) ∧ ∀ u ∈ vs, ∀ k, u.ownBlock = some k → B ≤ k

theorem NewRows.push {B : Nat} {w0 : World} {v v' u : Value} {vs : List Value} (h : NewRows B v vs) (hu : ∀ j, u.ownBlock = some j → B ≤ j) (hloc : v'.ownBlock = v.ownBlock ∨ ∃ g, v'.ownBlock = some g ∧ w0.heap.size ≤ g) (hB : B ≤ w0.heap.size) : NewRows B v' (vs ++ [u]) := by
  refine ⟨fun j hj => ?_, fun x hx j hj => ?_⟩
  · rcases hloc with e | ⟨g, e, hge⟩
    · exact h.1 j (e ▸ hj)
    · rw [hj] at e
      cases e
      omega
  · rcases List.mem_append.1 hx with hx | hx
    · exact h.2 x hx j hj
    · rw [List.mem_singleton] at hx
      exact hu j (hx ▸ hj)

def Scanned (w : World) (b : Bs) (e : Ending) (w' : World) : Prop := ∃ v vs, e = .returned (.tuple #[v, .int .i64 ((scan b).2 : Int)]) ∧ RowsIn w' v vs (scan b).1 ∧ NewRows w.heap.size v vs ∧ Below w.heap.size w w'

def ScanRel (w : World) (b : Bs) (n : Nat) (x y : Value) (wr : World) : Prop := ∃ (k : Nat) (v : Value) (vs : List Value) (ls : List Bs), k ≤ n ∧ y = .int .i64 k ∧ v = x ∧ ls.length ≤ k ∧ RowsIn wr v vs ls ∧ NewRows w.heap.size v vs ∧ Below w.heap.size w wr ∧ (scan b).1 = ls ++ (scan (b.drop k)).1 ∧ (scan b).2 = k + (scan (b.drop k)).2

set_option maxRecDepth 100000 in
set_option maxHeartbeats 4000000 in
theorem scan_calls {w : World} {p : Option Addr} {n c : Nat} {b : Bs} (h : HasB w (.slice p n c) b) (hnc : n ≤ c) (hl : b.length ≤ 1073741824) :
    Calls Try.prog 45 #[.slice p n c] w (Scanned w b) := by
  obtain ⟨i1, hi1, -, hs1, -⟩ := info_parts (show (Try.prog.info? 5).map (fun i => (i.zero, i.size, i.bytes)) = some (some (.int .u8 0), 1, 1) by kernel_rfl)
  obtain ⟨i0, hi, hz0, hz1, hz2⟩ := info_parts (show (Try.prog.info? 33).map (fun i => (i.zero, i.size, i.bytes)) = some (some (.slice none 0 0), 1, 24) by kernel_rfl)
  have hn : b.length = n := by obtain ⟨_, _, e⟩ := h.slice; simp only [Value.slice.injEq] at e; exact e.2.1.symm
  have hn30 : n ≤ 1073741824 := by omega
  have H := Lib.hid h
  have Hn := Lib.hid hn
  have Hnc := Lib.hid hnc
  clear h hn hnc hl
  go_enter Try.func45, Try.ntmps45
  go_wp2_with fail
  go_loopw [4, 5] (ScanRel w b n) (fun _ y _ => n - (intOf y).toNat)
  case atStart => exact ⟨0, _, [], [], Nat.zero_le _, rfl, rfl, Nat.zero_le _, RowsIn.nil _, ⟨fun k hk => (by cases hk), fun u hu => (by simp at hu)⟩, Below.refl _ _, by simp, by simp⟩
  case round =>
    obtain ⟨k, v, vs, ls, hk, rfl, rfl, hlk, hrow, hnew, hb, hsc1, hsc2⟩ := hrel
    by_cases hlt : k < n
    · obtain ⟨r0, hr0⟩ : ∃ r0, (Value.slice p n c).ownBlock ≠ some r0 := by
        cases (Value.slice p n c).ownBlock with
        | none => exact ⟨0, by simp⟩
        | some g => exact ⟨g + 1, by simp⟩
      obtain ⟨p', c', hsl, hh, hc', -⟩ := run_tail (P := Try.prog) Try.underlying33 hi1 hs1 (HasB.below H.out hb) Hnc.out r0 k hr0 (Nat.le_of_lt hlt)
      have Hd := Lib.hid (dec_calls hh hc' (by rw [List.length_drop, Hn.out]; omega))
      have Hx := Lib.hid (And.intro hrow (And.intro hnew (And.intro hb (And.intro hsc1 hsc2))))
      have hbl : (b.drop k).length = n - k := by rw [List.length_drop, Hn.out]
      clear hh hc' hrow hnew hb hsc1 hsc2
      by_cases he : decE (b.drop k) = 0
      · have hL := decL_pos he
        rw [hbl] at hL
        have Hgo := Lib.hid (scan_go he)
        rw [List.drop_drop] at Hgo
        unfold Decoded at Hd
        rw [he] at Hd
        generalize decL (b.drop k) = L at *
        generalize decB (b.drop k) = x at *
        clear he
        go_wp2_with fail
        refine Hd.out.mono ?_
        rintro e w2 ⟨v2, rfl, hv2, hn2, hb2⟩
        have hrow2 := Hx.out.1.below hb2
        have Hv2 := Lib.hid hv2
        have Hsep := Lib.hid (show ∀ j, v2.ownBlock = some j → v.ownBlock ≠ some j from fun j hj e => by have h1 := hn2 j hj; have h2 := OwnR.lt Hx.out.1.row e; omega)
        have Hn2 := Lib.hid (show ∀ j, v2.ownBlock = some j → w.heap.size ≤ j from fun j hj => Nat.le_trans Hx.out.2.2.1.size (hn2 j hj))
        have Hb2 := Lib.hid hb2
        have Hr2 := Lib.hid hrow2
        obtain ⟨p2, c2, rfl, -⟩ := own_cap0 hv2
        clear hv2 hn2 hb2 hrow2 Hd
        generalize hq : x.length = q at *
        have Hq := Lib.hid hq
        generalize hm : ls.length = m at *
        have Hm := Lib.hid hm
        clear hq hm
        have Hrow2 := Lib.hid (show OwnR w2 33 1 v m vs by have := Hr2.out.row; rwa [Hm.out] at this)
        go_wp2_with (at_builtin; have hal := Hrow2.out.keep (w' := w2.alloc (.cells #[.slice p2 q c2] 33)) (fun j hj => (below_one0 w2 _).block j (OwnR.lt Hrow2.out hj)); have hxx := slit_one w2 (.slice p2 q c2) 33 (0, 0); refine wpList_app _ rfl (.tmp 23) (.tmp 25) 45 rfl 33 i0 (.slice none 0 0) 1 24 Try.underlying45 hi hz0 hz1 hz2 rfl (by decide) v m _ rfl hal (.slice (some ⟨w2.heap.size, 0, none⟩) 1 1) 1 _ rfl hxx (by simp [Value.oneCell']) (by unfold maxLen; omega) (by omega) ?_; clear hal hxx; intro v3 w3 hown3 hgrow3 hloc3; go_loud (have hE := RowsIn.push (b := x) (Hr2.out.below (below_one0 w2 (.cells #[.slice p2 q c2] 33))) (OwnR.keep Hv2.out fun j hj => (below_one0 w2 _).block j (OwnR.lt Hv2.out hj)) Hsep.out (by rw [Hm.out]; exact hown3) hgrow3 hloc3; have hN := NewRows.push (u := .slice p2 q c2) Hx.out.2.1 Hn2.out hloc3 (by have h1 := Hx.out.2.2.1.size; have h2 := Hb2.out.size; have h3 := (below_one0 w2 (.cells #[.slice p2 q c2] 33)).size; omega); have hB : Below w.heap.size w w3 := by { have h1 := Hx.out.2.2.1.trans ((Hb2.out.trans ((below_one0 w2 (.cells #[.slice p2 q c2] 33)).mono Hb2.out.size)).mono Hx.out.2.2.1.size); exact ((Chg.of_below h1).trans (Chg.of_grown hgrow3) fun j hj e => by have h5 := Hx.out.2.1.1 j e.symm; omega).below (Nat.le_refl _) fun _ _ => id }; have HE := Lib.hid (And.intro hE (And.intro hN hB)); clear hE hN hB hgrow3 hloc3; obtain ⟨p3, q3, rfl⟩ := OwnR.shape hown3; clear hown3))
        go_roundw
        case rel => exact ⟨k + L, _, _, ls ++ [x], by omega, by go_num, rfl, by rw [List.length_append, Hm.out]; simp; omega, HE.out.1, HE.out.2.1, HE.out.2.2, by rw [Hx.out.2.2.2.1, Hgo.out]; simp, by rw [Hx.out.2.2.2.2, Hgo.out]; simp; omega⟩
        case measure => simp [intOf]; omega
      · have Hst := Lib.hid (scan_stop (.inr he))
        have hne : ((decE (b.drop k) : Int) != 0) = true := by simp; omega
        unfold Decoded at Hd
        generalize decE (b.drop k) = E at *
        generalize decL (b.drop k) = L at *
        go_wp2_with fail
        refine Hd.out.mono ?_
        rintro e w2 ⟨v2, rfl, -, -, hb2⟩
        have HE := Lib.hid (show Scanned w b (.returned (.tuple #[v, .int .i64 (k : Int)])) w2 from ⟨v, vs, by rw [Hx.out.2.2.2.2, Hst.out]; rfl, by rw [Hx.out.2.2.2.1, Hst.out, List.append_nil]; exact Hx.out.1.below hb2, Hx.out.2.1, Hx.out.2.2.1.trans (hb2.mono Hx.out.2.2.1.size)⟩)
        clear hb2 Hd
        go_wp2_with fail
        go_ret2
        exact HE.out
    · have he : b.drop k = [] := List.drop_of_length_le (by rw [Hn.out]; omega)
      rw [he, scan_stop (.inl rfl)] at hsc1 hsc2
      have HE := Lib.hid (show Scanned w b (.returned (.tuple #[v, .int .i64 (k : Int)])) wr from ⟨v, vs, by rw [hsc2]; rfl, by rw [hsc1, List.append_nil]; exact hrow, hnew, hb⟩)
      clear hrow hnew hb hsc1 hsc2 he
      go_wp2_with fail
      go_ret2
      exact HE.out
end Go.Proofs.Yteohbjkjfnflgaa
