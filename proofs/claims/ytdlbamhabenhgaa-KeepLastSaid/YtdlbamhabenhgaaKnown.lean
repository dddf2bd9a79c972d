/- The contract of satrapylaw3.known: it is true. -/
import Derived.Test.YtdlbamhabenhgaaSt
import Derived.Test.YtdlbamhabenhgaaSame
namespace Go.Proofs.Ytdlbamhabenhgaa
open Go.RowKit Go.Sat Go.Maps

def True3 (w : World) (e : Ending) (w' : World) : Prop := e = .returned (.bool true) ∧ Below w.heap.size w w'

def sA : ByteArray := ⟨#[97]⟩
def b5 : Bs := [49, 50, 51, 52, 53]
def b3 : Bs := [54, 55, 56]
def b6 : Bs := [49, 50, 51, 52, 53, 54]
def K0 : DiskM := DiskM.fresh 100
def K1 : DiskM := (K0.append [97] b5).1
def K2 : DiskM := (K1.sync [[97]]).1
def K3 : DiskM := (K2.append [97] b3).1

theorem k1 : (K0.append (nm sA) [b5].flatten) = (K1, 0) := by rfl
theorem k2 : (K1.sync ([sA].map nm)) = (K2, 0) := by rfl
theorem k3 : (K2.append (nm sA) [b3].flatten) = (K3, 0) := by rfl
theorem k4 : Sat.get (nm sA) (K3.crash 1).files = some ⟨b6, 6⟩ := by rfl

set_option maxRecDepth 100000 in
set_option maxHeartbeats 2000000 in
theorem known_calls (w : World) : Calls Try.prog 14 #[] w (True3 w) := by
  have hnew := st_new (w := w) (w1 := w) 100 (by decide) (by decide) (Below.refl _ _)
  have Hnew := Lib.hid hnew
  clear hnew
  have kc := fun (w : World) (C : Array Value) (n c : Nat) => Lib.run_convert_bytes_const (P := Try.prog) w 23 5 C n c Try.underlying23 Try.underlying5
  go_enter Try.func14, Try.ntmps14
  go_wp2_with fail
  refine Hnew.out.mono ?_
  rintro e w1 ⟨d, rfl, hd⟩
  have Hd := Lib.hid (show St w w1 d K0 NoF from hd)
  clear hd Hnew
  go_wp2_with fail
  refine (st_append ((Hd.out.alloc _).alloc _) sA _ [b5] (rows_one (has_lit _ b5 _ _ 5 rfl rfl rfl) 23 (0, 0) _ 1 (by simp) (Nat.le_refl _)) (by decide) (by decide) (by decide)).mono ?_
  rw [k1]
  rintro e w2 ⟨rfl, hd2, -⟩
  have Hd2 := Lib.hid hd2
  clear hd2 Hd
  go_wp2_with fail
  refine (st_sync Hd2.out [sA] _ 1 (by simp) (0, 0) (by decide) (by decide)).mono ?_
  rw [k2]
  rintro e w3 ⟨rfl, hd3, -⟩
  have Hd3 := Lib.hid hd3
  clear hd3 Hd2
  go_wp2_with fail
  refine (st_append ((Hd3.out.alloc _).alloc _) sA _ [b3] (rows_one (has_lit _ b3 _ _ 3 rfl rfl rfl) 23 (0, 0) _ 1 (by simp) (Nat.le_refl _)) (by decide) (by decide) (by decide)).mono ?_
  rw [k3]
  rintro e w4 ⟨rfl, hd4, -⟩
  have Hd4 := Lib.hid hd4
  clear hd4 Hd3
  go_wp2_with fail
  refine (st_crash Hd4.out 1 (by decide) (by decide)).mono ?_
  rintro e w5 ⟨rfl, hd5, -⟩
  have Hd5 := Lib.hid hd5
  clear hd5 Hd4
  go_wp2_with fail
  refine (st_read Hd5.out sA (by decide)).mono ?_
  rw [k4]
  rintro e w6 ⟨v, rfl, hv, hn, hb, hd6⟩
  have Hd6 := Lib.hid hd6
  have Hv := Lib.hid hv
  clear hd6 hv hn hb Hd5
  go_wp2_with fail
  refine (same_calls (has_alloc Hv.out.has _) (has_lit _ b6 _ _ 6 rfl rfl rfl) (by decide) (by decide)).mono ?_
  rintro e w7 ⟨rfl, q, rfl⟩
  have hb := ((Hd6.out.alloc (.cells ((b6.map fun u => Value.int .u8 (u.toNat : Int)).toArray) 5 (6, 7))).drewN q).below
  have Hb := Lib.hid hb
  clear hb
  go_wp2_with fail
  go_ret
  exact ⟨rfl, Hb.out⟩
end Go.Proofs.Ytdlbamhabenhgaa
