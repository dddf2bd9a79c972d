/- The contract of satrapylaw4.known: it is true. -/
import Derived.Test.YtdlbamhabenhgaaSaveN
namespace Go.Proofs.Ytdlbamhabenhgaa
open Go.RowKit Go.Sat Go.Maps

def b12' : Bs := [49, 50]
def b3' : Bs := [51]
def b123 : Bs := [49, 50, 51]
def Q0 : DiskM := DiskM.fresh 1000
def Q1 : DiskM := ⟨1000, [([97], ⟨frameN b123, (frameN b123).length⟩)], none⟩

theorem q1 : Q0.save (nm sA) [b12', b3'].flatten = (Q1, 0) :=
  save_all (D := Q0) (n := [97]) (l := b123) (ok_fresh 1000 (by decide)) (fun j h => by cases h) (by decide) (by decide) rfl (by decide) (by decide)

theorem q2 (k : Int) : Sat.get (nm sA) (Q1.crash k).files = some ⟨frameN b123, (frameN b123).length⟩ := get_crash_whole (D := Q1) (n := [97]) rfl k

theorem conv_at (P : Program) (w : World) (o : Obj) (t e : TypeId) (C : Array Value) (n c : Nat) (ht : P.underlying t = some (.slice e)) (he : P.underlying e = some (.int .u8)) :
    (convert t t (.slice (some ⟨w.heap.size + 1, 0, none⟩) n c)).run P ((w.alloc o).alloc (.cells C e)) = .ok (.slice (some ⟨w.heap.size + 1, 0, none⟩) n c) ((w.alloc o).alloc (.cells C e (C.size, C.size + 1))) := by
  have h := Lib.run_convert_bytes_const (P := P) (w.alloc o) t e C n c ht he
  rw [show (w.alloc o).heap.size = w.heap.size + 1 from World.size_alloc w o] at h
  exact h

set_option maxRecDepth 100000 in
set_option maxHeartbeats 2000000 in
theorem known4_calls (w : World) : Calls Try.prog 24 #[] w (True3 w) := by
  have Hnew := Lib.hid (st_new (w := w) (w1 := w) 1000 (by decide) (by decide) (Below.refl _ _))
  have kc := fun (w : World) (C : Array Value) (n c : Nat) => Lib.run_convert_bytes_const (P := Try.prog) w 23 5 C n c Try.underlying23 Try.underlying5
  have kc2 := fun (o : Obj) (C : Array Value) (n c : Nat) (w : World) => conv_at Try.prog w o 23 5 C n c Try.underlying23 Try.underlying5
  go_enter Try.func24, Try.ntmps24
  go_wp2_with fail
  refine Hnew.out.mono ?_
  rintro e w1 ⟨d, rfl, hd⟩
  have Hd := Lib.hid (show St w w1 d Q0 NoF from hd)
  clear hd Hnew
  go_wp2_with fail
  have hrw := rows_two' (w := (w1.alloc (.cells #[.int .u8 49, .int .u8 50] 5 (2, 3))).alloc (.cells #[.int .u8 51] 5 (1, 2))) (a := .slice (some ⟨w1.heap.size, 0, none⟩) 2 2) (b := .slice (some ⟨w1.heap.size + 1, 0, none⟩) 1 1)
    (has_alloc (has_lit _ b12' _ 2 2 rfl rfl rfl) _) (has_lit _ b3' _ 1 1 (by simp) rfl rfl) 23 (0, 0) (w1.heap.size + 1 + 1) 2 (by simp) (Nat.le_refl _)
  refine (save_calls (((Hd.out.alloc _).alloc _).alloc _) sA (by decide) (ls := [b12', b3']) hrw (by decide) (by decide)).mono ?_
  rw [q1]
  rintro e w2 ⟨rfl, hd2, -⟩
  have Hd2 := Lib.hid hd2
  clear hd2 Hd
  go_wp2_with fail
  refine (st_crash Hd2.out 0 (by decide) (by decide)).mono ?_
  rintro e w3 ⟨rfl, hd3, -⟩
  have hld := load_calls hd3 sA (by decide)
  rw [q2] at hld
  unfold GotL at hld
  rw [(load_frame b123 (by decide) _).1, (load_frame b123 (by decide) _).2] at hld
  have Hld := Lib.hid hld
  clear hld hd3 Hd2
  go_wp2_with fail
  refine Hld.out.mono ?_
  rintro e w4 ⟨v, rfl, hv, -, -, hd4⟩
  have Hd4 := Lib.hid hd4
  have Hv := Lib.hid hv
  clear hv hd4 Hld
  go_wp2_with fail
  refine (same4_calls (has_alloc Hv.out.has _) (has_lit _ b123 _ _ 3 rfl rfl rfl) (by decide) (by decide)).mono ?_
  rintro e w5 ⟨rfl, q, rfl⟩
  have Hb := Lib.hid ((Hd4.out.alloc (.cells ((b123.map fun u => Value.int .u8 (u.toNat : Int)).toArray) 5 (3, 4))).drewN q).below
  go_wp2_with fail
  go_ret
  exact ⟨rfl, Hb.out⟩
end Go.Proofs.Ytdlbamhabenhgaa
