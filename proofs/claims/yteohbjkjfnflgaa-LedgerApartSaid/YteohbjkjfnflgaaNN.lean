/- Two ledgers of a law's own on one disk. The contract of satrapylaw14.meets. What LedgerApart does with two ledgers of unlike names (plain laws). The walk of satrapylaw14.LedgerApart: it is true. (Printed by mkapart.py.) -/
import Derived.Test.YteohbjkjfnflgaaNM
namespace Go.Proofs.Yteohbjkjfnflgaa
open Go.RowKit Go.Sat Go.Maps

/-- Two ledgers, on one disk. -/
def Led2 (w w1 : World) (lx ly d : Nat) (a b : ByteArray) (D : DiskM) (Mx My : LedM) : Prop :=
  ∃ ox dx ex vx oy dy ey vy, LedIn w1 lx d a ox Mx dx ex vx ∧ LedIn w1 ly d b oy My dy ey vy ∧ St w w1 d D (fun k => ox k ∨ oy k) ∧ (∀ k, ox k → w.heap.size ≤ k ∧ ¬ oy k) ∧ ∀ k, oy k → w.heap.size ≤ k

section
variable {w w1 w2 : World} {lx ly d : Nat} {a b : ByteArray} {D D' : DiskM} {Mx My M' : LedM}

theorem Led2.swap (h : Led2 w w1 lx ly d a b D Mx My) : Led2 w w1 ly lx d b a D My Mx := by
  obtain ⟨ox, dx, ex, vx, oy, dy, ey, vy, hx, hy, hS, hn, hm⟩ := h
  exact ⟨oy, dy, ey, vy, ox, dx, ex, vx, hy, hx, hS.less fun k hk => hk.symm, fun k hk => ⟨hm k hk, fun ho => (hn k ho).2 hk⟩, fun k hk => (hn k hk).1⟩
theorem Led2.st (h : Led2 w w1 lx ly d a b D Mx My) : St w w1 d D NoF := by
  obtain ⟨ox, dx, ex, vx, oy, dy, ey, vy, hx, hy, hS, hn, hm⟩ := h
  exact hS.noF
theorem Led2.ok (h : Led2 w w1 lx ly d a b D Mx My) : D.OK := h.st.ok
theorem Led2.bel (h : Led2 w w1 lx ly d a b D Mx My) : Below w.heap.size w w1 := h.st.below

/-- The first of them, the second's blocks set apart. -/
theorem Led2.fst (h : Led2 w w1 lx ly d a b D Mx My) : ∃ oy, LedF w w1 lx d a D Mx oy ∧ (∀ k, oy k → w.heap.size ≤ k) ∧ ∀ W D' M', LedF w W lx d a D' M' oy → Same oy w1 W → Led2 w W lx ly d a b D' M' My := by
  obtain ⟨ox, dx, ex, vx, oy, dy, ey, vy, hx, hy, hS, hn, hm⟩ := h
  refine ⟨oy, ⟨ox, dx, ex, vx, hx, hS, hn, hy.olt⟩, hm, fun W D' M' hL hs => ?_⟩
  obtain ⟨ox', dx', ex', vx', hx', hS', hn', hl'⟩ := hL
  exact ⟨ox', dx', ex', vx', oy, dy, ey, vy, hx', hy.keep hs hl', hS', hn', hm⟩

/-- A second one is opened. -/
theorem led2_open (h : LedF w w1 lx d a D Mx NoF) (he : ledOpen D (nm b) = (D, 0, My)) :
    Calls Try.prog 11 #[.pointer (some ⟨d, 0, none⟩), .string b] w1 fun e w' => ∃ ly, e = .returned (.tuple #[.pointer (some ⟨ly, 0, none⟩), .int .i64 0]) ∧ Led2 w w' ly lx d b a D My Mx := by
  obtain ⟨ox, dx, ex, vx, hx, hS, hn, hl⟩ := h
  have h1 := open_calls (hS.less (F := ox) fun k hk => .inl hk) b
  rw [he] at h1
  refine h1.mono ?_
  rintro e w' ⟨-, hs, ⟨-, ly, rfl, hL⟩ | ⟨hne, -⟩⟩
  · obtain ⟨oy, dy, ey, vy, hy, hSy, hny, hly⟩ := hL
    exact ⟨ly, rfl, oy, dy, ey, vy, ox, dx, ex, vx, hy, hx.keep hs hly, hSy, hny, fun k hk => (hn k hk).1⟩
  · exact absurd rfl hne

theorem open_one {F : Nat → Prop} (h : St w w1 d D F) (he : ledOpen D (nm a) = (D', 0, Mx)) :
    Calls Try.prog 11 #[.pointer (some ⟨d, 0, none⟩), .string a] w1 fun e w' => ∃ l, e = .returned (.tuple #[.pointer (some ⟨l, 0, none⟩), .int .i64 0]) ∧ LedF w w' l d a D' Mx F := by
  have h1 := open_calls h a
  rw [he] at h1
  refine h1.mono ?_
  rintro e w' ⟨-, hs, ⟨-, l, rfl, hL⟩ | ⟨hne, -⟩⟩
  · exact ⟨l, rfl, hL⟩
  · exact absurd rfl hne

theorem led2_app (h : Led2 w w1 lx ly d a b D Mx My) (cs : Array Value) (p : Bs) (hcs : cs.toList = bytesV p) {n c : Nat} (hn : n = p.length) (hb47 : p.length ≤ 140737488355328) (fr : Nat × Nat) {r : Wrote} (hr : ledAppend (nm a) D Mx p = r) :
    Calls Try.prog 12 #[.pointer (some ⟨lx, 0, none⟩), .slice (some ⟨w1.heap.size, 0, none⟩) n c] (w1.alloc (.cells cs 5 fr)) fun e w' => e = .returned (.tuple #[.int .i64 (r.num : Int), .int .i64 (r.err : Int)]) ∧ Led2 w w' lx ly d a b r.disk r.led My := by
  obtain ⟨oy, hL, -, hb⟩ := h.fst
  subst hr
  refine (app_lit hL cs p hcs hn hb47 fr).mono ?_
  rintro e w' ⟨rfl, hL', hs⟩
  exact ⟨rfl, hb _ _ _ hL' hs⟩

theorem led2_wri (h : Led2 w w1 lx ly d a b D Mx My) (i : Int) (hir : -9223372036854775808 ≤ i ∧ i ≤ 9223372036854775807) (cs : Array Value) (p : Bs) (hcs : cs.toList = bytesV p) {n c : Nat} (hn : n = p.length) (hb47 : p.length ≤ 140737488355328) (fr : Nat × Nat) {r : Wrote} (hr : ledWrite (nm a) D Mx i p = r) :
    Calls Try.prog 13 #[.pointer (some ⟨lx, 0, none⟩), .int .i64 i, .slice (some ⟨w1.heap.size, 0, none⟩) n c] (w1.alloc (.cells cs 5 fr)) fun e w' => e = .returned (.int .i64 (r.err : Int)) ∧ Led2 w w' lx ly d a b r.disk r.led My := by
  obtain ⟨oy, hL, -, hb⟩ := h.fst
  subst hr
  refine (wri_lit hL i hir cs p hcs hn hb47 fr).mono ?_
  rintro e w' ⟨rfl, hL', hs⟩
  exact ⟨rfl, hb _ _ _ hL' hs⟩

theorem led2_drop (h : Led2 w w1 lx ly d a b D Mx My) {r : Wrote} (hr : ledDrop (nm a) D Mx = r) :
    Calls Try.prog 14 #[.pointer (some ⟨lx, 0, none⟩)] w1 fun e w' => e = .returned (.int .i64 (r.err : Int)) ∧ Led2 w w' lx ly d a b r.disk r.led My := by
  obtain ⟨oy, hL, -, hb⟩ := h.fst
  subst hr
  refine (ldrop_calls hL).mono ?_
  rintro e w' ⟨rfl, hL', hs⟩
  exact ⟨rfl, hb _ _ _ hL' hs⟩
end
end Go.Proofs.Yteohbjkjfnflgaa

namespace Go.Proofs.Yteohbjkjfnflgaa
open Go.RowKit Go.Sat Go.Maps

def sufS : Nat → ByteArray
  | 0 => ⟨#[45, 105, 109, 103]⟩
  | 1 => ⟨#[45, 108, 111, 103]⟩
  | _ => ⟨#[45, 105, 109, 103, 126]⟩

theorem suf_cell (w : World) (e : TypeId) (q : Nat) {i : Nat} (h : i < 3) : ((w.alloc (.cells #[.string (sufS 0), .string (sufS 1), .string (sufS 2)] e)).drewN q).cell? ⟨w.heap.size, i, none⟩ = some (.string (sufS i)) := by
  have hb : ((w.alloc (.cells #[.string (sufS 0), .string (sufS 1), .string (sufS 2)] e)).drewN q).heap[w.heap.size]? = some (.cells #[.string (sufS 0), .string (sufS 1), .string (sufS 2)] e (0, 0)) := new_block w _
  refine cell_of hb ?_
  have : i = 0 ∨ i = 1 ∨ i = 2 := by omega
  rcases this with rfl | rfl | rfl <;> rfl

theorem suf_size (i : Nat) : (sufS i).size ≤ 5 := by
  unfold sufS
  split <;> decide

def Unlike (a b : ByteArray) (i k : Nat) : Prop := a ++ sufS i ≠ b ++ sufS k

def MeetsTold (w : World) (a b : ByteArray) (e : Ending) (w' : World) : Prop :=
  ∃ r : Bool, e = .returned (.bool r) ∧ Below w.heap.size w w' ∧ (r = false → ∀ i, i < 3 → ∀ k, k < 3 → Unlike a b i k)

theorem drewN_drew (w : World) (q : Nat) : (w.drewN q).drew = w.drewN (q + 1) := rfl

set_option maxRecDepth 100000 in
set_option maxHeartbeats 4000000 in
theorem meets_calls (w : World) (a b : ByteArray) (ha : a.size ≤ 20) (hb : b.size ≤ 20) : Calls Try.prog 8 #[.string a, .string b] w (MeetsTold w a b) := by
  have hcell := fun (q i : Nat) (h : i < 3) => suf_cell w 9 q h
  have hbel : ∀ q, Below w.heap.size w ((w.alloc (.cells #[.string (sufS 0), .string (sufS 1), .string (sufS 2)] 9)).drewN q) := fun q => (below_one w _).trans ⟨rfl, rfl, rfl, Nat.le_refl _, fun _ _ => rfl⟩
  have Hcell := Lib.hid hcell
  have Hbel := Lib.hid hbel
  clear hcell hbel
  have e0 : (⟨#[45, 105, 109, 103]⟩ : ByteArray) = sufS 0 := rfl
  have e1 : (⟨#[45, 108, 111, 103]⟩ : ByteArray) = sufS 1 := rfl
  have e2 : (⟨#[45, 105, 109, 103, 126]⟩ : ByteArray) = sufS 2 := rfl
  go_enter Try.func8, Try.ntmps8
  go_wp2_with fail
  go_loopw [6] (fun x wr => ∃ i q : Nat, i ≤ 3 ∧ x = .int .i64 i ∧ wr = (w.alloc (.cells #[.string (sufS 0), .string (sufS 1), .string (sufS 2)] 9)).drewN q ∧ ∀ i', i' < i → ∀ k, k < 3 → Unlike a b i' k) (fun x _ => 3 - (intOf x).toNat)
  case atStart => exact ⟨0, 0, by omega, rfl, rfl, fun i' h => absurd h (by omega)⟩
  case round =>
    obtain ⟨i, q, hi3, rfl, hwr, hun⟩ := hrel
    have Hun := Lib.hid hun
    have Hwr := Lib.hid hwr
    clear hun hwr
    by_cases hlt : i < 3
    · go_wp2_with fail
      go_loopw [7] (fun x wr => ∃ k q : Nat, k ≤ 3 ∧ x = .int .i64 k ∧ wr = (w.alloc (.cells #[.string (sufS 0), .string (sufS 1), .string (sufS 2)] 9)).drewN q ∧ ∀ k', k' < k → Unlike a b i k') (fun x _ => 3 - (intOf x).toNat)
      case atStart => exact ⟨0, q, by omega, rfl, Hwr.out, fun k' h => absurd h (by omega)⟩
      case round =>
        obtain ⟨k, q2, hk3, rfl, hwr2, hun2⟩ := hrel
        have Hun2 := Lib.hid hun2
        have Hwr2 := Lib.hid hwr2
        clear hun2
        by_cases hlk : k < 3
        · have hc1 := Hcell.out (q2 + 1) i hlt
          have hc2 := Hcell.out (q2 + 1) k hlk
          rw [← drewN_drew, ← hwr2] at hc1 hc2
          clear hwr2
          have hz1 : ¬ (9223372036854775807 < a.size + (sufS i).size) := by have := suf_size i; omega
          have hz2 : ¬ (9223372036854775807 < b.size + (sufS k).size) := by have := suf_size k; omega
          cases heq : ((a ++ sufS i).toList == (b ++ sufS k).toList) with
          | true =>
            go_wp2_with fail
            refine ord_start (fun W' : World => W' = wr.drew) (n := 13) (by kernel_rfl) rfl rfl (fun hHeld => ?_)
            refine ord_take 0 (v := ?v950x0) rfl (by kernel_rfl) (by kernel_rfl) (by kernel_rfl) (fun _ _ _ h => h) (by rfl) (by assumption) ?y950x0 ?_
            case y950x0 => (intro W hSw; (try dsimp only at hSw); subst hSw; go_simp; try with_reducible rfl)
            simp only [Act.put, List.setIfInBounds_toArray, List.set_cons_zero, List.set_cons_succ]
            refine ord_take 1 (v := ?v950x1) rfl (by kernel_rfl) (by kernel_rfl) (by kernel_rfl) (fun _ _ _ h => h) (by rfl) (by assumption) ?y950x1 ?_
            case y950x1 => (intro W hSw; (try dsimp only at hSw); subst hSw; go_simp; try with_reducible rfl)
            simp only [Act.put, List.setIfInBounds_toArray, List.set_cons_zero, List.set_cons_succ]
            refine ord_take 2 (v := ?v950x2) rfl (by kernel_rfl) (by kernel_rfl) (by kernel_rfl) (fun _ _ _ h => h) (by rfl) (by assumption) ?y950x2 ?_
            case y950x2 => (intro W hSw; (try dsimp only at hSw); subst hSw; go_simp; try with_reducible rfl)
            simp only [Act.put, List.setIfInBounds_toArray, List.set_cons_zero, List.set_cons_succ]
            refine ord_take 3 (v := ?v950x3) rfl (by kernel_rfl) (by kernel_rfl) (by kernel_rfl) (fun _ _ _ h => h) (by rfl) (by assumption) ?y950x3 ?_
            case y950x3 => (intro W hSw; (try dsimp only at hSw); subst hSw; go_simp; try with_reducible rfl)
            simp only [Act.put, List.setIfInBounds_toArray, List.set_cons_zero, List.set_cons_succ]
            refine ord_take 4 (v := ?v950x4) rfl (by kernel_rfl) (by kernel_rfl) (by kernel_rfl) (fun _ _ _ h => h) (by rfl) (by assumption) ?y950x4 ?_
            case y950x4 => (intro W hSw; (try dsimp only at hSw); subst hSw; go_simp; try with_reducible rfl)
            simp only [Act.put, List.setIfInBounds_toArray, List.set_cons_zero, List.set_cons_succ]
            refine ord_take 5 (v := ?v950x5) rfl (by kernel_rfl) (by kernel_rfl) (by kernel_rfl) (fun _ _ _ h => h) (by rfl) (by assumption) ?y950x5 ?_
            case y950x5 => (intro W hSw; (try dsimp only at hSw); subst hSw; go_simp; try with_reducible rfl)
            simp only [Act.put, List.setIfInBounds_toArray, List.set_cons_zero, List.set_cons_succ]
            refine ord_take 6 (v := ?v950x6) rfl (by kernel_rfl) (by kernel_rfl) (by kernel_rfl) (fun _ _ _ h => h) (by rfl) (by assumption) ?y950x6 ?_
            case y950x6 => (intro W hSw; (try dsimp only at hSw); subst hSw; go_simp; try with_reducible rfl)
            simp only [Act.put, List.setIfInBounds_toArray, List.set_cons_zero, List.set_cons_succ]
            refine ord_take 7 (v := ?v950x7) rfl (by kernel_rfl) (by kernel_rfl) (by kernel_rfl) (fun _ _ _ h => h) (by rfl) (by assumption) ?y950x7 ?_
            case y950x7 => (intro W hSw; (try dsimp only at hSw); subst hSw; go_simp; try with_reducible rfl)
            simp only [Act.put, List.setIfInBounds_toArray, List.set_cons_zero, List.set_cons_succ]
            refine ord_take 8 (v := ?v950x8) rfl (by kernel_rfl) (by kernel_rfl) (by kernel_rfl) (fun _ _ _ h => h) (by rfl) (by assumption) ?y950x8 ?_
            case y950x8 => (intro W hSw; (try dsimp only at hSw); subst hSw; go_simp; try with_reducible rfl)
            simp only [Act.put, List.setIfInBounds_toArray, List.set_cons_zero, List.set_cons_succ]
            refine ord_take 9 (v := ?v950x9) rfl (by kernel_rfl) (by kernel_rfl) (by kernel_rfl) (fun _ _ _ h => h) (by rfl) (by assumption) ?y950x9 ?_
            case y950x9 => (intro W hSw; (try dsimp only at hSw); subst hSw; go_simp; try with_reducible rfl)
            simp only [Act.put, List.setIfInBounds_toArray, List.set_cons_zero, List.set_cons_succ]
            refine ord_take 10 (v := ?v950x10) rfl (by kernel_rfl) (by kernel_rfl) (by kernel_rfl) (fun _ _ _ h => h) (by rfl) (by assumption) ?y950x10 ?_
            case y950x10 => (intro W hSw; (try dsimp only at hSw); subst hSw; go_simp; try with_reducible rfl)
            simp only [Act.put, List.setIfInBounds_toArray, List.set_cons_zero, List.set_cons_succ]
            refine ord_take 11 (v := ?v950x11) rfl (by kernel_rfl) (by kernel_rfl) (by kernel_rfl) (fun _ _ _ h => h) (by rfl) (by assumption) ?y950x11 ?_
            case y950x11 => (intro W hSw; (try dsimp only at hSw); subst hSw; go_simp; try with_reducible rfl)
            simp only [Act.put, List.setIfInBounds_toArray, List.set_cons_zero, List.set_cons_succ]
            refine ord_take 12 (v := ?v950x12) rfl (by kernel_rfl) (by kernel_rfl) (by kernel_rfl) (fun _ _ _ h => h) (by rfl) (by assumption) ?y950x12 ?_
            case y950x12 => (intro W hSw; (try dsimp only at hSw); subst hSw; go_simp; try with_reducible rfl)
            simp only [Act.put, List.setIfInBounds_toArray, List.set_cons_zero, List.set_cons_succ]
            refine wpAnyH_done (by kernel_rfl) ?_ _
            go_wp2_with fail
            go_ret
            exact ⟨true, rfl, by rw [Hwr2.out, drewN_drew]; exact Hbel.out _, fun h => by cases h⟩
          | false =>
            go_wp2_with fail
            refine ord_start (fun W' : World => W' = wr.drew) (n := 13) (by kernel_rfl) rfl rfl (fun hHeld => ?_)
            refine ord_take 0 (v := ?v951x0) rfl (by kernel_rfl) (by kernel_rfl) (by kernel_rfl) (fun _ _ _ h => h) (by rfl) (by assumption) ?y951x0 ?_
            case y951x0 => (intro W hSw; (try dsimp only at hSw); subst hSw; go_simp; try with_reducible rfl)
            simp only [Act.put, List.setIfInBounds_toArray, List.set_cons_zero, List.set_cons_succ]
            refine ord_take 1 (v := ?v951x1) rfl (by kernel_rfl) (by kernel_rfl) (by kernel_rfl) (fun _ _ _ h => h) (by rfl) (by assumption) ?y951x1 ?_
            case y951x1 => (intro W hSw; (try dsimp only at hSw); subst hSw; go_simp; try with_reducible rfl)
            simp only [Act.put, List.setIfInBounds_toArray, List.set_cons_zero, List.set_cons_succ]
            refine ord_take 2 (v := ?v951x2) rfl (by kernel_rfl) (by kernel_rfl) (by kernel_rfl) (fun _ _ _ h => h) (by rfl) (by assumption) ?y951x2 ?_
            case y951x2 => (intro W hSw; (try dsimp only at hSw); subst hSw; go_simp; try with_reducible rfl)
            simp only [Act.put, List.setIfInBounds_toArray, List.set_cons_zero, List.set_cons_succ]
            refine ord_take 3 (v := ?v951x3) rfl (by kernel_rfl) (by kernel_rfl) (by kernel_rfl) (fun _ _ _ h => h) (by rfl) (by assumption) ?y951x3 ?_
            case y951x3 => (intro W hSw; (try dsimp only at hSw); subst hSw; go_simp; try with_reducible rfl)
            simp only [Act.put, List.setIfInBounds_toArray, List.set_cons_zero, List.set_cons_succ]
            refine ord_take 4 (v := ?v951x4) rfl (by kernel_rfl) (by kernel_rfl) (by kernel_rfl) (fun _ _ _ h => h) (by rfl) (by assumption) ?y951x4 ?_
            case y951x4 => (intro W hSw; (try dsimp only at hSw); subst hSw; go_simp; try with_reducible rfl)
            simp only [Act.put, List.setIfInBounds_toArray, List.set_cons_zero, List.set_cons_succ]
            refine ord_take 5 (v := ?v951x5) rfl (by kernel_rfl) (by kernel_rfl) (by kernel_rfl) (fun _ _ _ h => h) (by rfl) (by assumption) ?y951x5 ?_
            case y951x5 => (intro W hSw; (try dsimp only at hSw); subst hSw; go_simp; try with_reducible rfl)
            simp only [Act.put, List.setIfInBounds_toArray, List.set_cons_zero, List.set_cons_succ]
            refine ord_take 6 (v := ?v951x6) rfl (by kernel_rfl) (by kernel_rfl) (by kernel_rfl) (fun _ _ _ h => h) (by rfl) (by assumption) ?y951x6 ?_
            case y951x6 => (intro W hSw; (try dsimp only at hSw); subst hSw; go_simp; try with_reducible rfl)
            simp only [Act.put, List.setIfInBounds_toArray, List.set_cons_zero, List.set_cons_succ]
            refine ord_take 7 (v := ?v951x7) rfl (by kernel_rfl) (by kernel_rfl) (by kernel_rfl) (fun _ _ _ h => h) (by rfl) (by assumption) ?y951x7 ?_
            case y951x7 => (intro W hSw; (try dsimp only at hSw); subst hSw; go_simp; try with_reducible rfl)
            simp only [Act.put, List.setIfInBounds_toArray, List.set_cons_zero, List.set_cons_succ]
            refine ord_take 8 (v := ?v951x8) rfl (by kernel_rfl) (by kernel_rfl) (by kernel_rfl) (fun _ _ _ h => h) (by rfl) (by assumption) ?y951x8 ?_
            case y951x8 => (intro W hSw; (try dsimp only at hSw); subst hSw; go_simp; try with_reducible rfl)
            simp only [Act.put, List.setIfInBounds_toArray, List.set_cons_zero, List.set_cons_succ]
            refine ord_take 9 (v := ?v951x9) rfl (by kernel_rfl) (by kernel_rfl) (by kernel_rfl) (fun _ _ _ h => h) (by rfl) (by assumption) ?y951x9 ?_
            case y951x9 => (intro W hSw; (try dsimp only at hSw); subst hSw; go_simp; try with_reducible rfl)
            simp only [Act.put, List.setIfInBounds_toArray, List.set_cons_zero, List.set_cons_succ]
            refine ord_take 10 (v := ?v951x10) rfl (by kernel_rfl) (by kernel_rfl) (by kernel_rfl) (fun _ _ _ h => h) (by rfl) (by assumption) ?y951x10 ?_
            case y951x10 => (intro W hSw; (try dsimp only at hSw); subst hSw; go_simp; try with_reducible rfl)
            simp only [Act.put, List.setIfInBounds_toArray, List.set_cons_zero, List.set_cons_succ]
            refine ord_take 11 (v := ?v951x11) rfl (by kernel_rfl) (by kernel_rfl) (by kernel_rfl) (fun _ _ _ h => h) (by rfl) (by assumption) ?y951x11 ?_
            case y951x11 => (intro W hSw; (try dsimp only at hSw); subst hSw; go_simp; try with_reducible rfl)
            simp only [Act.put, List.setIfInBounds_toArray, List.set_cons_zero, List.set_cons_succ]
            refine ord_take 12 (v := ?v951x12) rfl (by kernel_rfl) (by kernel_rfl) (by kernel_rfl) (fun _ _ _ h => h) (by rfl) (by assumption) ?y951x12 ?_
            case y951x12 => (intro W hSw; (try dsimp only at hSw); subst hSw; go_simp; try with_reducible rfl)
            simp only [Act.put, List.setIfInBounds_toArray, List.set_cons_zero, List.set_cons_succ]
            refine wpAnyH_done (by kernel_rfl) ?_ _
            go_wp2_with fail
            go_roundw
            case rel => exact ⟨k + 1, q2 + 1, by omega, by go_num, by rw [Hwr2.out, drewN_drew], fun k' h => by
              by_cases hkk : k' < k
              · exact Hun2.out k' hkk
              · obtain rfl : k' = k := by omega
                exact fun e => by rw [e] at heq; simp at heq⟩
            case measure => simp [intOf]; omega
        · clear hwr2
          go_wp2_with fail
          go_roundw
          case rel => exact ⟨i + 1, q2, by omega, by go_num, Hwr2.out, fun i' h k' hk' => by
            by_cases hii : i' < i
            · exact Hun.out i' hii k' hk'
            · obtain rfl : i' = i := by omega
              exact Hun2.out k' (by omega)⟩
          case measure => simp [intOf]; omega
    · go_wp2_with fail
      go_ret
      exact ⟨false, rfl, by rw [Hwr.out]; exact Hbel.out q, fun _ i' h => Hun.out i' (by omega)⟩
end Go.Proofs.Yteohbjkjfnflgaa

namespace Go.Proofs.Yteohbjkjfnflgaa
open Go.RowKit Go.Sat Go.Maps

def Names3 (pa x : Bs) : Prop := x = logN pa ∨ x = imgN pa ∨ x = shadowN (imgN pa)
def Apart2 (pa pb : Bs) : Prop := ∀ x, Names3 pa x → ∀ y, Names3 pb y → x ≠ y
theorem Apart2.symm {pa pb : Bs} (h : Apart2 pa pb) : Apart2 pb pa := fun x hx y hy e => h y hy x hx e.symm

theorem nm_inj {a b : ByteArray} (h : nm a = nm b) : a = b := by
  cases a
  cases b
  simp [nm] at h
  rw [h]
theorem nm_suf (a b : ByteArray) : nm (a ++ b) = nm a ++ nm b := by simp [nm]

theorem names_suf {a : ByteArray} {x : Bs} (h : Names3 (nm a) x) : ∃ i, i < 3 ∧ x = nm (a ++ sufS i) := by
  rcases h with rfl | rfl | rfl
  · exact ⟨1, by omega, by rw [nm_suf]; rfl⟩
  · exact ⟨0, by omega, by rw [nm_suf]; rfl⟩
  · refine ⟨2, by omega, ?_⟩
    rw [nm_suf]
    show (nm a ++ imgX) ++ [126] = nm a ++ [45, 105, 109, 103, 126]
    rw [List.append_assoc]
    rfl

theorem apart_of {a b : ByteArray} (h : ∀ i, i < 3 → ∀ k, k < 3 → Unlike a b i k) : Apart2 (nm a) (nm b) := by
  intro x hx y hy e
  obtain ⟨i, hi, rfl⟩ := names_suf hx
  obtain ⟨k, hk, rfl⟩ := names_suf hy
  exact h i hi k hk (nm_inj e)

def reps (p : Bs) (k : Nat) : List Bs := List.replicate k p
theorem reps_len (p : Bs) (k : Nat) : (reps p k).length = k := List.length_replicate
theorem reps_succ (p : Bs) (k : Nat) : reps p k ++ [p] = reps p (k + 1) := (List.replicate_succ' (n := k) (a := p)).symm
theorem reps_fits {p : Bs} (hp : p.length ≤ 65536) {n k : Nat} (h : n + k ≤ 1099511627776) : Fits n (reps p k) := ⟨by rw [reps_len]; exact h, fun e he => by rw [List.eq_of_mem_replicate he]; exact hp⟩

structure Both (pa pb : Bs) (D : DiskM) (ea eb : List Bs) (u c : Nat) : Prop where
  la : Lies pa D none ea
  lb : Lies pb D none eb
  tame : Tame D u c
theorem Both.swap {pa pb : Bs} {D : DiskM} {ea eb : List Bs} {u c : Nat} (h : Both pa pb D ea eb u c) : Both pb pa D eb ea u c := ⟨h.lb, h.la, h.tame⟩

theorem both_app {pa pb : Bs} {D : DiskM} {eb : List Bs} {u c k : Nat} {p : Bs} (hp1 : p.length = 1) (hp : pa.length ≤ 20) (hA : Apart2 pa pb) (hO : D.OK) (h : Both pa pb D (reps p k) eb u c) (hk : k ≤ 100) (hu : u ≤ 60000) (hc : c ≤ 1000) :
    ∃ D2, ledAppend pa D (MM none (reps p k)) p = ⟨D2, MM none (reps p (k + 1)), k + 1, 0⟩ ∧ Both pa pb D2 (reps p (k + 1)) eb (u + 31) (c + 1) := by
  obtain ⟨D2, h1, h2, h3, h4⟩ := app_lies (p := p) hp hO h.tame h.la trivial (by rw [reps_succ]; exact reps_fits (by omega) (by show 0 + (k + 1) ≤ _; omega)) (by omega) (by omega)
  rw [reps_succ, reps_len, show baseOf none + k + 1 = k + 1 by show 0 + k + 1 = _; omega] at h1
  rw [reps_succ] at h2
  rw [hp1] at h3
  exact ⟨D2, h1, h2, h.lb.other fun m hm => h4 m fun e => hA m (.inl e) m hm rfl, h3⟩

/-- The image of one, the end of the other, and what opens then. -/
theorem both_end {pa pb : Bs} {D : DiskM} {ea eb : List Bs} {u c n : Nat} {p : Bs} (hp1 : p.length = 1) (hpa : 1 ≤ pa.length ∧ pa.length ≤ 20) (hpb : 1 ≤ pb.length ∧ pb.length ≤ 20) (hA : Apart2 pa pb) (hO : D.OK) (h : Both pa pb D ea eb u c) (hl : ea.length = n) (hn : n ≤ 100) (hu : u ≤ 60000) (hc : c ≤ 1000) :
    ∃ D2, ledWrite pa D (MM none ea) (n : Int) p = ⟨D2, MM (some (n, p)) [], 0, 0⟩ ∧ (D2.OK → ∃ D3, ledDrop pb D2 (MM none eb) = ⟨D3, (MM none eb).die, 0, 0⟩ ∧
      ledOpen D3 pa = (D3, 0, MM (some (n, p)) []) ∧ ledOpen D3 pb = (D3, 0, MM none [])) := by
  obtain ⟨D2, h1, h2, h3, h4⟩ := wri_lies (n := n) (p := p) hpa hO h.tame h.la (by show 0 + ea.length ≤ n; omega) (by omega) (by omega) (by omega) (by omega)
  refine ⟨D2, h1, fun hO2 => ?_⟩
  have hb2 : Lies pb D2 none eb := h.lb.other fun m hm => h4 m (fun e => hA m (.inl e) m hm rfl) fun e => hA m (.inr (.inl e)) m hm rfl
  obtain ⟨D3, g1, g2, g3, g4⟩ := drop_lies hpb.2 hO2 h3 hb2
  have ha3 : Lies pa D3 (some (n, p)) [] := h2.other fun m hm => g4 m fun e => hA m hm m (.inl e) rfl
  exact ⟨D3, g1, open_lies hpa ha3 ⟨by omega, by omega⟩ ⟨by show n + 0 ≤ _; omega, fun e he => by cases he⟩, open_lies hpb g2 trivial ⟨by show 0 + 0 ≤ _; omega, fun e he => by cases he⟩⟩

theorem both_fresh (pa pb : Bs) (p q : Bs) : Both pa pb (DiskM.fresh 65536) (reps p 0) (reps q 0) 0 0 := ⟨lies_fresh pa, lies_fresh pb, tame_fresh⟩

section
variable {w w1 : World} {lx ly d : Nat} {a b : ByteArray} {D : DiskM} {Mx My : LedM}
theorem led2_last (h : Led2 w w1 lx ly d a b D Mx My) {m : Nat} (hm : Mx.last = m) :
    Calls Try.prog 15 #[.pointer (some ⟨lx, 0, none⟩)] w1 fun e w' => e = .returned (.int .i64 (m : Int)) ∧ Led2 w w' lx ly d a b D Mx My := by
  obtain ⟨oy, hL, -, hb⟩ := h.fst
  refine (last_calls hL).mono ?_
  rintro e w' ⟨rfl, q, rfl⟩
  exact ⟨by rw [hm], hb _ _ _ (hL.next ⟨rfl, rfl, rfl, Nat.le_refl _, fun _ _ => rfl⟩) fun _ _ => rfl⟩
end
end Go.Proofs.Yteohbjkjfnflgaa

namespace Go.Proofs.Yteohbjkjfnflgaa
open Go.RowKit Go.Sat Go.Maps

def bX : Bs := [88]

set_option maxRecDepth 100000 in
set_option maxHeartbeats 32000000 in
theorem lapart_walk {w : World} (a b : ByteArray) (ha : a.size ≤ 9223372036854775807) (hb : b.size ≤ 9223372036854775807) (n m : Int) (hn : -9223372036854775808 ≤ n) (hn' : n ≤ 9223372036854775807) (hm : -9223372036854775808 ≤ m) (hm' : m ≤ 9223372036854775807) :
    Calls Try.prog 3 #[.string a, .string b, .int .i64 n, .int .i64 m] w (True3 w) := by
  have Hkn := Lib.hid fun w => knownL_calls w
  by_cases h0 : a.size < 1
  · go_enter Try.func3, Try.ntmps3
    go_wp2_with fail
    refine (Hkn.out w).mono ?_
    rintro e wk ⟨rfl, hbk⟩
    have Hbk := Lib.hid (hbk)
    clear hbk
    go_wp2_with fail
    go_ret
    exact ⟨rfl, Hbk.out⟩
  by_cases h1 : 20 < a.size
  · go_enter Try.func3, Try.ntmps3
    go_wp2_with fail
    refine (Hkn.out w).mono ?_
    rintro e wk ⟨rfl, hbk⟩
    have Hbk := Lib.hid (hbk)
    clear hbk
    go_wp2_with fail
    go_ret
    exact ⟨rfl, Hbk.out⟩
  by_cases h2 : b.size < 1
  · go_enter Try.func3, Try.ntmps3
    go_wp2_with fail
    refine (Hkn.out w).mono ?_
    rintro e wk ⟨rfl, hbk⟩
    have Hbk := Lib.hid (hbk)
    clear hbk
    go_wp2_with fail
    go_ret
    exact ⟨rfl, Hbk.out⟩
  by_cases h3 : 20 < b.size
  · go_enter Try.func3, Try.ntmps3
    go_wp2_with fail
    refine (Hkn.out w).mono ?_
    rintro e wk ⟨rfl, hbk⟩
    have Hbk := Lib.hid (hbk)
    clear hbk
    go_wp2_with fail
    go_ret
    exact ⟨rfl, Hbk.out⟩
  cases hab : (a.toList == b.toList) with
  | true =>
    go_enter Try.func3, Try.ntmps3
    go_wp2_with fail
    refine (Hkn.out w).mono ?_
    rintro e wk ⟨rfl, hbk⟩
    have Hbk := Lib.hid (hbk)
    clear hbk
    go_wp2_with fail
    go_ret
    exact ⟨rfl, Hbk.out⟩
  | false =>
    have hdum : True := trivial
    by_cases h5 : n < 0
    · go_enter Try.func3, Try.ntmps3
      go_wp2_with fail
      refine (Hkn.out w).mono ?_
      rintro e wk ⟨rfl, hbk⟩
      have Hbk := Lib.hid (hbk)
      clear hbk
      go_wp2_with fail
      go_ret
      exact ⟨rfl, Hbk.out⟩
    by_cases h6 : 20 < n
    · go_enter Try.func3, Try.ntmps3
      go_wp2_with fail
      refine (Hkn.out w).mono ?_
      rintro e wk ⟨rfl, hbk⟩
      have Hbk := Lib.hid (hbk)
      clear hbk
      go_wp2_with fail
      go_ret
      exact ⟨rfl, Hbk.out⟩
    by_cases h7 : m < 0
    · go_enter Try.func3, Try.ntmps3
      go_wp2_with fail
      refine (Hkn.out w).mono ?_
      rintro e wk ⟨rfl, hbk⟩
      have Hbk := Lib.hid (hbk)
      clear hbk
      go_wp2_with fail
      go_ret
      exact ⟨rfl, Hbk.out⟩
    by_cases h8 : 20 < m
    · go_enter Try.func3, Try.ntmps3
      go_wp2_with fail
      refine (Hkn.out w).mono ?_
      rintro e wk ⟨rfl, hbk⟩
      have Hbk := Lib.hid (hbk)
      clear hbk
      go_wp2_with fail
      go_ret
      exact ⟨rfl, Hbk.out⟩
    obtain ⟨n, rfl⟩ : ∃ k : Nat, n = (k : Int) := ⟨n.toNat, by omega⟩
    obtain ⟨m, rfl⟩ : ∃ k : Nat, m = (k : Int) := ⟨m.toNat, by omega⟩
    have hn20 : n ≤ 20 := by omega
    have hm20 : m ≤ 20 := by omega
    have kc := fun (w : World) (C : Array Value) (n c : Nat) => Lib.run_convert_bytes_const (P := Try.prog) w 33 5 C n c Try.underlying33 Try.underlying5
    have Hpa := Lib.hid (show 1 ≤ (nm a).length ∧ (nm a).length ≤ 20 by rw [nm_len]; omega)
    have Hpb := Lib.hid (show 1 ≤ (nm b).length ∧ (nm b).length ≤ 20 by rw [nm_len]; omega)
    have Hm1 := Lib.hid (meets_calls w a b (by omega) (by omega))
    have Hm2 := Lib.hid fun w => meets_calls w b a (by omega) (by omega)
    clear hn hn' hm hm'
    go_enter Try.func3, Try.ntmps3
    go_wp2_with fail
    refine Hm1.out.mono ?_
    rintro e w1 ⟨r, rfl, hb1, hr⟩
    have Hb1 := Lib.hid hb1
    have Hr := Lib.hid hr
    clear hb1 hr Hm1
    cases r with
    | true =>
      go_wp2_with fail
      refine (Hkn.out w1).mono ?_
      rintro e wk ⟨rfl, hbk⟩
      have Hbk := Lib.hid (below_on Hb1.out hbk)
      clear hbk
      go_wp2_with fail
      go_ret
      exact ⟨rfl, Hbk.out⟩
    | false =>
      have hA := apart_of (Hr.out rfl)
      go_wp2_with fail
      refine (Hm2.out w1).mono ?_
      rintro e w2 ⟨r, rfl, hb2, -⟩
      have Hb2 := Lib.hid (below_on Hb1.out hb2)
      clear hb2 Hm2 Hr Hb1
      cases r with
      | true =>
        go_wp2_with fail
        refine (Hkn.out w2).mono ?_
        rintro e wk ⟨rfl, hbk⟩
        have Hbk := Lib.hid (below_on Hb2.out hbk)
        clear hbk
        go_wp2_with fail
        go_ret
        exact ⟨rfl, Hbk.out⟩
      | false =>
        have Hnew := Lib.hid (st_new (w := w) (w1 := w2) 65536 (by decide) (by decide) Hb2.out)
        clear Hb2
        go_wp2_with fail
        refine Hnew.out.mono ?_
        rintro e w3 ⟨d, rfl, hd⟩
        have hB0 := both_fresh (nm a) (nm b) bx by1
        have ho1 := open_lies Hpa.out hB0.la trivial (reps_fits (by decide) (show 0 + 0 ≤ 1099511627776 by decide))
        have ho2 := open_lies Hpb.out hB0.lb trivial (reps_fits (by decide) (show 0 + 0 ≤ 1099511627776 by decide))
        have Hop := Lib.hid (open_one (D := DiskM.fresh 65536) hd ho1)
        have Ho2 := Lib.hid ho2
        have HB0 := Lib.hid hB0
        clear hd Hnew ho1 ho2 hB0
        go_wp2_with fail
        refine Hop.out.mono ?_
        rintro e w4 ⟨lx, rfl, hl⟩
        have Hop := Lib.hid (led2_open hl Ho2.out)
        clear hl Ho2
        go_wp2_with fail
        refine Hop.out.mono ?_
        rintro e w5 ⟨ly, rfl, hl⟩
        have Hl := Lib.hid hl.swap
        clear hl Hop
        go_wp2_with fail
        go_loopw [15] (fun x wr => ∃ k : Nat, k ≤ n ∧ x = .int .i64 k ∧ ∃ D, Both (nm a) (nm b) D (reps bx k) (reps by1 0) (31 * k) k ∧ Led2 w wr lx ly d a b D (MM none (reps bx k)) (MM none (reps by1 0))) (fun x _ => n - (intOf x).toNat)
        case atStart => exact ⟨0, Nat.zero_le _, rfl, _, HB0.out, Hl.out⟩
        case round =>
          clear Hl HB0
          obtain ⟨k, hk, rfl, D, hB, hl⟩ := hrel
          by_cases hlt : k < n
          · obtain ⟨D2, ha2, hB2⟩ := both_app rfl Hpa.out.2 hA hl.ok hB (by omega) (by omega) (by omega)
            have Happ := Lib.hid (led2_app hl #[.int .u8 120] bx rfl (n := 1) (c := 1) rfl (by decide) (1, 2) ha2)
            have HB2 := Lib.hid hB2
            clear hl hB hB2 ha2
            go_wp2_with fail
            refine Happ.out.mono ?_
            rintro e w6 ⟨rfl, hl⟩
            have Hl := Lib.hid hl
            clear hl Happ
            go_wp2_with fail
            go_roundw
            case rel => exact ⟨k + 1, by omega, by go_num, D2, by rw [show 31 * (k + 1) = 31 * k + 31 by omega]; exact HB2.out, Hl.out⟩
            case measure => simp [intOf]; omega
          · obtain rfl : k = n := by omega
            have HB := Lib.hid hB
            have Hl := Lib.hid hl
            clear hl hB
            go_wp2_with fail
            go_loopw [16] (fun x wr => ∃ j : Nat, j ≤ m ∧ x = .int .i64 j ∧ ∃ D, Both (nm a) (nm b) D (reps bx k) (reps by1 j) (31 * k + 31 * j) (k + j) ∧ Led2 w wr lx ly d a b D (MM none (reps bx k)) (MM none (reps by1 j))) (fun x _ => m - (intOf x).toNat)
            case atStart => exact ⟨0, Nat.zero_le _, rfl, D, HB.out, Hl.out⟩
            case round =>
              clear Hl HB
              obtain ⟨j, hj, rfl, D, hB, hl⟩ := hrel
              by_cases hltj : j < m
              · obtain ⟨D2, ha2, hB2⟩ := both_app rfl Hpb.out.2 hA.symm hl.ok hB.swap (by omega) (by omega) (by omega)
                have Happ := Lib.hid (led2_app hl.swap #[.int .u8 121] by1 rfl (n := 1) (c := 1) rfl (by decide) (1, 2) ha2)
                have HB2 := Lib.hid hB2.swap
                clear hl hB hB2 ha2
                go_wp2_with fail
                refine Happ.out.mono ?_
                rintro e w6 ⟨rfl, hl⟩
                have Hl := Lib.hid hl.swap
                clear hl Happ
                go_wp2_with fail
                go_roundw
                case rel => exact ⟨j + 1, by omega, by go_num, D2, by rw [show 31 * k + 31 * (j + 1) = 31 * k + 31 * j + 31 by omega, ← Nat.add_assoc]; exact HB2.out, Hl.out⟩
                case measure => simp [intOf]; omega
              · obtain ⟨D2, hw2, hrest⟩ := both_end (n := k) (p := bX) rfl Hpa.out Hpb.out hA hl.ok hB (reps_len _ _) (by omega) (by omega) (by omega)
                have Hwri := Lib.hid (led2_wri hl (k : Int) (by omega) #[.int .u8 88] bX rfl (n := 1) (c := 1) rfl (by decide) (1, 2) hw2)
                have Hrest := Lib.hid hrest
                clear hl hB hrest hw2
                go_wp2_with fail
                refine Hwri.out.mono ?_
                rintro e w6 ⟨rfl, hl⟩
                obtain ⟨D3, hdr, ho1, ho2⟩ := Hrest.out hl.ok
                have Hdr := Lib.hid (led2_drop hl.swap hdr)
                have Ho1 := Lib.hid ho1
                have Ho2 := Lib.hid ho2
                clear hl Hwri Hrest hdr ho1 ho2
                go_wp2_with fail
                refine Hdr.out.mono ?_
                rintro e w7 ⟨rfl, hl⟩
                have Hop := Lib.hid (open_one (F := NoF) hl.st Ho1.out)
                clear hl Hdr Ho1
                go_wp2_with fail
                refine Hop.out.mono ?_
                rintro e w8 ⟨lv, rfl, hl⟩
                have Hop := Lib.hid (led2_open hl Ho2.out)
                clear hl Ho2
                go_wp2_with fail
                refine Hop.out.mono ?_
                rintro e w9 ⟨lu, rfl, hl⟩
                have Hla := Lib.hid (led2_last hl.swap (m := k) rfl)
                clear hl Hop
                go_wp2_with fail
                refine Hla.out.mono ?_
                rintro e wa ⟨rfl, hl⟩
                have Hla := Lib.hid (led2_last hl.swap (m := 0) rfl)
                clear hl
                go_wp2_with fail
                refine Hla.out.mono ?_
                rintro e wb ⟨rfl, hl⟩
                have Hbb := Lib.hid hl.bel
                clear hl Hla
                go_wp2_with fail
                refine (Hkn.out wb).mono ?_
                rintro e wk ⟨rfl, hbk⟩
                have Hbk := Lib.hid (below_on Hbb.out hbk)
                clear hbk
                go_wp2_with fail
                go_ret
                exact ⟨rfl, Hbk.out⟩
end Go.Proofs.Yteohbjkjfnflgaa
