/- KeepOfNothing: the walk. -/
import Derived.Test.YtdlbamhabenhgaaKnown4
namespace Go.Proofs.Ytdlbamhabenhgaa
open Go.RowKit Go.Sat Go.Maps

theorem keep_new {n l : Bs} (h : l.length ≤ 5000) : ∃ D', (DiskM.fresh 1048576).save n l = (D', if n.length < 1 ∨ 60 < n.length then 1 else 0) := by
  by_cases hn : n.length < 1 ∨ 60 < n.length
  · refine ⟨DiskM.fresh 1048576, ?_⟩
    unfold DiskM.save
    rw [if_pos hn, if_pos hn]
  · rw [if_neg hn]
    have hr : (DiskM.fresh 1048576).used + l.length + 12 ≤ (DiskM.fresh 1048576).room := by
      have e1 : (DiskM.fresh 1048576).used = 0 := rfl
      have e2 : (DiskM.fresh 1048576).room = 1048576 := rfl
      omega
    exact ⟨_, save_all (ok_fresh 1048576 (by decide)) (fun j h => by cases h) (by omega) (by omega) rfl hr (by decide)⟩

def zeros (n : Nat) : ByteArray := ⟨(List.replicate n (0 : UInt8)).toArray⟩
theorem zeros_size (n : Nat) : (zeros n).size = n := by
  show (List.replicate n (0 : UInt8)).toArray.size = n
  simp

def zcells (y : Nat) : Array Value := madeCells #[.int .u8 0] y

theorem zmk (w : World) (o : Obj) {y : Nat} (hy : y ≤ 100) : (Instr.makeSlice 23 (.int .i64 (y : Int)) (.int .i64 (y : Int))).run Try.prog (w.alloc o) = .ok (.slice (some ⟨w.heap.size + 1, 0, none⟩) y y) ((w.alloc o).alloc (.cells (zcells y) 5)) := by
  obtain ⟨i0, hi, hz0, hz1, hz2⟩ := info_parts (show (Try.prog.info? 5).map (fun i => (i.zero, i.size, i.bytes)) = some (some (.int .u8 0), 1, 1) by kernel_rfl)
  have h := run_makeSlice (P := Try.prog) (w.alloc o) 23 5 i0 (.int .u8 0) Try.underlying23 hi hz0 .i64 .i64 (y : Int) (y : Int) (by omega) (by omega) (by rw [hz1]; omega) (by rw [hz2]; omega) (by omega)
  rw [h, hz1, Nat.mul_one, Int.toNat_natCast, World.size_alloc]
  rfl

theorem zcv (w : World) (o : Obj) {y : Nat} : (convert 23 9 (.slice (some ⟨w.heap.size + 1, 0, none⟩) y y)).run Try.prog ((w.alloc o).alloc (.cells (zcells y) 5)) = .ok (.string (zeros y)) ((w.alloc o).alloc (.cells (zcells y) 5)) := by
  have hb : Lib.Bytes ((w.alloc o).alloc (.cells (zcells y) 5)) (w.heap.size + 1) 0 (zeros y) := by
    intro i h
    rw [zeros_size] at h
    have e : w.heap.size + 1 = (w.alloc o).heap.size := by simp
    rw [e]
    refine cell_of (new_block (w.alloc o) _) ?_
    have e2 : (zcells y).toList = List.replicate y (.int .u8 0) := toList_madeCells_one _ _
    have e3 : (zeros y)[i] = 0 := by
      show (List.replicate y (0 : UInt8)).toArray[i]'_ = 0
      simp
    rw [← Array.getElem?_toList, e2, Nat.zero_add, List.getElem?_replicate, if_pos h, e3]
    rfl
  have h := Lib.run_convert_whole (P := Try.prog) _ 23 5 9 Try.underlying23 Try.underlying5 Try.underlying9 _ _ _ hb y
  rw [zeros_size] at h
  exact h

set_option maxRecDepth 100000 in
set_option maxHeartbeats 4000000 in
theorem knothing_walk {w : World} {p : Option Addr} {n c : Nat} {l : Bs} (hx : HasB w (.slice p n c) l) (_hn : l.length ≤ 140737488355328) (z : Int) (hz : -9223372036854775808 ≤ z) (hz' : z ≤ 9223372036854775807) :
    Calls Try.prog 11 #[.slice p n c, .int .i64 z] w (True3 w) := by
  have hnl : n = l.length := (bytes_in hx).1
  have Hx := Lib.hid hx
  have Hnl := Lib.hid hnl
  clear hx hnl
  by_cases hbig : 5000 < n ∨ z < 0 ∨ 100 < z
  · have Hf := Lib.hid (show True3 w (.returned (.bool true)) w from ⟨rfl, Below.refl _ _⟩)
    by_cases h1 : 5000 < n
    · go_enter Try.func11, Try.ntmps11
      go_wp2_with fail
      go_ret
      exact Hf.out
    · by_cases h2 : z < 0
      · go_enter Try.func11, Try.ntmps11
        go_wp2_with fail
        go_ret
        exact Hf.out
      · have h3 : 100 < z := by omega
        go_enter Try.func11, Try.ntmps11
        go_wp2_with fail
        go_ret
        exact Hf.out
  · have hn5 : n ≤ 5000 := by omega
    obtain ⟨y, rfl⟩ : ∃ y : Nat, z = (y : Int) := ⟨z.toNat, by omega⟩
    have hy : y ≤ 100 := by omega
    have Hnew := Lib.hid (st_new (w := w) (w1 := w) 1048576 (by decide) (by decide) (Below.refl _ _))
    have hln := load_nil sA
    have hsn := save_nil sA
    have hcn := clear_nil sA
    obtain ⟨D', hsv⟩ := keep_new (n := nm (zeros y)) (l := l) (by have := Hnl.out; omega)
    rw [nm_len, zeros_size] at hsv
    have Hsv := Lib.hid hsv
    clear hbig hsv
    have hw3 : y < 1 ∨ 60 < y ∨ (1 ≤ y ∧ y ≤ 60) := by omega
    rcases hw3 with hw | hw | hw
    all_goals
      go_enter Try.func11, Try.ntmps11
      go_wp2_with fail
      refine Hnew.out.mono ?_
      rintro e w1 ⟨d, rfl, hd⟩
      have Hd := Lib.hid (show St w w1 d (DiskM.fresh 1048576) NoF from hd)
      clear hd Hnew
      go_wp2_with fail
      refine (hln _).mono ?_
      rintro e w2 ⟨rfl, rfl⟩
      have Hxw := Lib.hid (HasB.below Hx.out Hd.out.below)
      have hmk := fun o => zmk w2 o hy
      have hcv := fun o => zcv w2 o (y := y)
      go_wp2_with fail
      refine (hsn _ _).mono ?_
      rintro e w3 ⟨rfl, rfl⟩
      go_wp2_with fail
      refine (hcn _ _).mono ?_
      rintro e w4 ⟨rfl, rfl⟩
      go_wp2_with fail
      have hsc := save_calls (((Hd.out.alloc (.cells #[.slice p n c] 23)).alloc (.cells (zcells y) 5)).alloc (.cells #[.slice p n c] 23)) (zeros y) (by rw [zeros_size]; omega) (ls := [l])
        (rows_one (v := .slice p n c) (has_alloc (has_alloc Hxw.out _) _) 23 (0, 0) (w2.heap.size + 1 + 1) 1 (by simp) (Nat.le_refl _)) (by decide) (by rw [List.flatten_cons, List.flatten_nil, List.append_nil]; have := Hnl.out; omega)
      rw [List.flatten_cons, List.flatten_nil, List.append_nil, Hsv.out] at hsc
      first | rw [if_pos (by omega)] at hsc | rw [if_neg (by omega)] at hsc
      refine hsc.mono ?_
      rintro e w5 ⟨rfl, hd5, -⟩
      have Hb5 := Lib.hid hd5.below
      have Hkn := Lib.hid (known4_calls w5)
      clear hd5 hsc
      go_wp2_with fail
      refine Hkn.out.mono ?_
      rintro e w6 ⟨rfl, hb6⟩
      have Hb6 := Lib.hid (Hb5.out.trans (hb6.mono Hb5.out.size))
      clear hb6
      go_wp2_with fail
      go_ret
      exact ⟨rfl, Hb6.out⟩
end Go.Proofs.Ytdlbamhabenhgaa
