/- What keep.Load says of what keep.Save left, behind a crash too; rows that are laid out; a nil disk. -/
import Derived.Test.YtdlbamhabenhgaaSaveL
import Derived.Test.YtdlbamhabenhgaaKeepsW
namespace Go.Proofs.Ytdlbamhabenhgaa
open Go.RowKit Go.Sat Go.Maps

theorem stays_whole (b : Bs) (k : Int) : DiskM.stays ⟨b, b.length⟩ k = b.length := by
  show b.length + (max 0 k).toNat % (b.length - b.length + 1) = b.length
  rw [Nat.sub_self, Nat.zero_add, Nat.mod_one, Nat.add_zero]

theorem crash_whole (b : Bs) (k : Int) : DiskM.crashF k ⟨b, b.length⟩ = ⟨b, b.length⟩ := by
  show (⟨b.take (DiskM.stays ⟨b, b.length⟩ k), DiskM.stays ⟨b, b.length⟩ k⟩ : FileM) = _
  rw [stays_whole, List.take_length]

theorem get_crash (D : DiskM) (n : Bs) (k : Int) : Sat.get n (D.crash k).files = (Sat.get n D.files).map (DiskM.crashF k) := mp_get _ _ _

theorem get_crash_whole {D : DiskM} {n b : Bs} (h : Sat.get n D.files = some ⟨b, b.length⟩) (k : Int) : Sat.get n (D.crash k).files = some ⟨b, b.length⟩ := by
  rw [get_crash, h, Option.map_some, crash_whole]
theorem get_crash_none {D : DiskM} {n : Bs} (h : Sat.get n D.files = none) (k : Int) : Sat.get n (D.crash k).files = none := by
  rw [get_crash, h, Option.map_none]

theorem load_frame (l : Bs) (h : l.length ≤ 1048576) (k : Nat) : loadE (some ⟨frameN l, k⟩) = 0 ∧ loadB (some ⟨frameN l, k⟩) = l := by
  have e : dataOf (some ⟨frameN l, k⟩) = frameN l := rfl
  rw [loadE_some, loadB_some, e, frame_oneE l h, frame_oneB l h]
  exact ⟨if_pos rfl, rfl⟩

/-- A list of rows, in a new block. -/
theorem rows_lits {w : World} {vs : List Value} {ls : List Bs} (h : ∀ (i : Nat) (u : Value) (l : Bs), vs[i]? = some u → ls[i]? = some l → HasB w u l) (hlen : vs.length = ls.length) (e : TypeId) (fr : Nat × Nat) (g c : Nat) (hg : g = w.heap.size) (hc : ls.length ≤ c) :
    RowsAt (w.alloc (.cells vs.toArray e fr)) (.slice (some ⟨g, 0, none⟩) ls.length c) ls := by
  subst hg
  refine ⟨_, c, rfl, hc, fun _ => ⟨_, _, vs, rfl, hlen, fun i u hu => ?_, fun i u m hu hm => ?_⟩⟩
  · rw [add_zero]
    refine cell_of (new_block w _) ?_
    simpa using hu
  · exact (has_alloc (h i u m hu hm) _).kit

theorem rows_two' {w : World} {a b : Value} {x y : Bs} (ha : HasB w a x) (hb : HasB w b y) (e : TypeId) (fr : Nat × Nat) (g c : Nat) (hg : g = w.heap.size) (hc : 2 ≤ c) :
    RowsAt (w.alloc (.cells #[a, b] e fr)) (.slice (some ⟨g, 0, none⟩) 2 c) [x, y] :=
  rows_lits (vs := [a, b]) (ls := [x, y]) (fun i u l hu hl => by
    match i, hu, hl with
    | 0, hu, hl => cases hu; cases hl; exact ha
    | 1, hu, hl => cases hu; cases hl; exact hb) rfl e fr g c hg hc

set_option maxRecDepth 100000 in
theorem save_nil (s : ByteArray) (x : Value) (w : World) : Calls Try.prog 25 #[.pointer none, .string s, x] w fun e w' => e = .returned (.int .i64 1) ∧ w' = w := by
  go_enter Try.func25, Try.ntmps25
  go_wp2_with fail
  go_ret
  exact ⟨rfl, rfl⟩

set_option maxRecDepth 100000 in
theorem load_nil (s : ByteArray) (w : World) : Calls Try.prog 26 #[.pointer none, .string s] w fun e w' => e = .returned (.tuple #[.slice none 0 0, .int .i64 1]) ∧ w' = w := by
  go_enter Try.func26, Try.ntmps26
  go_wp2_with fail
  go_ret2
  exact ⟨rfl, rfl⟩

set_option maxRecDepth 100000 in
theorem clear_nil (s : ByteArray) (x : Value) (w : World) : Calls Try.prog 38 #[.pointer none, .string s, x] w fun e w' => e = .returned (.int .i64 1) ∧ w' = w := by
  go_enter Try.func38, Try.ntmps38
  go_wp2_with fail
  go_ret
  exact ⟨rfl, rfl⟩
end Go.Proofs.Ytdlbamhabenhgaa
