/- What the functions of disk answer where there is no disk (a nil pointer). -/
import Derived.Test.YtdlbamhabenhgaaKnown
namespace Go.Proofs.Ytdlbamhabenhgaa
open Go.RowKit Go.Sat Go.Maps

def Says (w : World) (v : Value) (e : Ending) (w' : World) : Prop := e = .returned v ∧ Below w.heap.size w w'

theorem says_of {w w' : World} {v : Value} (h : Below w.heap.size w w') : Says w v (.returned v) w' := ⟨rfl, h⟩

section
variable (w : World)

theorem nil_may (x : Value) : Calls Try.prog 49 #[.pointer none, x] w (Says w (.int .i64 1)) := by
  go_enter Try.func49, Try.ntmps49
  go_wp2_with fail
  go_ret
  exact says_of (Below.refl _ _)

theorem nil_each (x y : Value) : Calls Try.prog 52 #[.pointer none, x, y] w (Says w (.int .i64 1)) := by
  go_enter Try.func52, Try.ntmps52
  go_wp2_with fail
  go_ret
  exact says_of (Below.refl _ _)

theorem below_alloc (o : Obj) : Below w.heap.size w (w.alloc o) := (Below.refl _ _).alloc (Nat.le_refl _) o

theorem nil_append (s : ByteArray) (x : Value) : Calls Try.prog 16 #[.pointer none, .string s, x] w (Says w (.int .i64 1)) := by
  have H : ∀ w x, Calls Try.prog 49 #[.pointer none, x] w (Says w (.int .i64 1)) := nil_may
  have HH := Lib.hid H
  clear H
  go_enter Try.func16, Try.ntmps16
  go_wp2_with fail
  refine (HH.out _ _).mono ?_
  rintro e w' ⟨rfl, hb⟩
  have Hb := Lib.hid (((below_alloc w _)).trans (hb.mono (below_alloc w _).size))
  clear hb
  go_wp2_with fail
  go_ret
  exact says_of Hb.out

theorem nil_truncate (s : ByteArray) (x : Value) : Calls Try.prog 37 #[.pointer none, .string s, x] w (Says w (.int .i64 1)) := by
  have H : ∀ w x, Calls Try.prog 49 #[.pointer none, x] w (Says w (.int .i64 1)) := nil_may
  have HH := Lib.hid H
  clear H
  go_enter Try.func37, Try.ntmps37
  go_wp2_with fail
  refine (HH.out _ _).mono ?_
  rintro e w' ⟨rfl, hb⟩
  have Hb := Lib.hid (((below_alloc w _)).trans (hb.mono (below_alloc w _).size))
  clear hb
  go_wp2_with fail
  go_ret
  exact says_of Hb.out

theorem nil_rename (s x : ByteArray) : Calls Try.prog 29 #[.pointer none, .string s, .string x] w (Says w (.int .i64 1)) := by
  have H : ∀ w x, Calls Try.prog 49 #[.pointer none, x] w (Says w (.int .i64 1)) := nil_may
  have HH := Lib.hid H
  clear H
  go_enter Try.func29, Try.ntmps29
  go_wp2_with fail
  refine (HH.out _ _).mono ?_
  rintro e w' ⟨rfl, hb⟩
  have Hb := Lib.hid (((below_alloc w _)).trans (hb.mono (below_alloc w _).size))
  clear hb
  go_wp2_with fail
  go_ret
  exact says_of Hb.out

theorem nil_sync (x : Value) : Calls Try.prog 17 #[.pointer none, x] w (Says w (.int .i64 1)) := by
  have H : ∀ w x y, Calls Try.prog 52 #[.pointer none, x, y] w (Says w (.int .i64 1)) := nil_each
  have HH := Lib.hid H
  clear H
  go_enter Try.func17, Try.ntmps17
  go_wp2_with fail
  refine (HH.out _ _ _).mono ?_
  rintro e w' ⟨rfl, hb⟩
  have Hb := Lib.hid hb
  clear hb
  go_wp2_with fail
  go_ret
  exact says_of Hb.out

theorem nil_remove (x : Value) : Calls Try.prog 23 #[.pointer none, x] w (Says w (.int .i64 1)) := by
  have H : ∀ w x y, Calls Try.prog 52 #[.pointer none, x, y] w (Says w (.int .i64 1)) := nil_each
  have HH := Lib.hid H
  clear H
  go_enter Try.func23, Try.ntmps23
  go_wp2_with fail
  refine (HH.out _ _ _).mono ?_
  rintro e w' ⟨rfl, hb⟩
  have Hb := Lib.hid ((below_alloc w _).trans (hb.mono (below_alloc w _).size))
  clear hb
  go_wp2_with fail
  go_ret
  exact says_of Hb.out

theorem nil_read (s : Value) : Calls Try.prog 19 #[.pointer none, s] w (Says w (.tuple #[.slice none 0 0, .int .i64 7])) := by
  go_enter Try.func19, Try.ntmps19
  go_wp2_with fail
  go_ret2
  exact says_of (Below.refl _ _)

theorem nil_list : Calls Try.prog 28 #[.pointer none] w (Says w (.slice none 0 0)) := by
  go_enter Try.func28, Try.ntmps28
  go_wp2_with fail
  go_ret
  exact says_of (Below.refl _ _)

theorem nil_fuse (n : Value) : Calls Try.prog 22 #[.pointer none, n] w (Says w (.tuple #[])) := by
  go_enter Try.func22, Try.ntmps22
  go_wp2_with fail
  go_end0
  exact says_of (Below.refl _ _)

theorem nil_crash (n : Value) : Calls Try.prog 18 #[.pointer none, n] w (Says w (.tuple #[])) := by
  go_enter Try.func18, Try.ntmps18
  go_wp2_with fail
  go_end0
  exact says_of (Below.refl _ _)

theorem nil_used : Calls Try.prog 21 #[.pointer none] w (Says w (.int .i64 0)) := by
  go_enter Try.func21, Try.ntmps21
  go_wp2_with fail
  go_ret
  exact says_of (Below.refl _ _)

theorem nil_copy : Calls Try.prog 33 #[.pointer none] w (Says w (.pointer none)) := by
  go_enter Try.func33, Try.ntmps33
  go_wp2_with fail
  go_ret
  exact says_of (Below.refl _ _)
end
end Go.Proofs.Ytdlbamhabenhgaa
