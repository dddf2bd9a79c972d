/- DiskOfNothing: the walk. -/
import Derived.Test.YtdlbamhabenhgaaNothing
namespace Go.Proofs.Ytdlbamhabenhgaa
open Go.RowKit Go.Sat Go.Maps

theorem below_next {w w1 w2 : World} (h : Below w.heap.size w w1) (hb : Below w1.heap.size w1 w2) : Below w.heap.size w w2 := h.trans (hb.mono h.size)
theorem below_nextA {w w1 w2 : World} {o : Obj} (h : Below w.heap.size w w1) (hb : Below (w1.alloc o).heap.size (w1.alloc o) w2) : Below w.heap.size w w2 := below_next (below_next h (below_alloc w1 o)) hb

set_option maxRecDepth 100000 in
set_option maxHeartbeats 4000000 in
theorem nothing_walk {w : World} (s : ByteArray) (hs : s.size ≤ maxLen) {p : Option Addr} {n c : Nat} (z : Int) :
    Calls Try.prog 10 #[.string s, .slice p n c, .int .i64 z] w (True3 w) := by
  have h1 := Lib.hid nil_fuse
  have h2 := Lib.hid nil_crash
  have h3 := Lib.hid nil_read
  have h4 := Lib.hid nil_append
  have h5 := Lib.hid nil_sync
  have h6 := Lib.hid nil_truncate
  have h7 := Lib.hid nil_rename
  have h9 := Lib.hid nil_remove
  have h10 := Lib.hid nil_list
  have h11 := Lib.hid nil_used
  have h12 := Lib.hid nil_copy
  have h13 := Lib.hid known_calls
  have hm0 := hs
  unfold maxLen at hm0
  generalize hm : s.size = m at *
  go_enter Try.func10, Try.ntmps10
  go_wp2_with fail
  all_goals first | (go_ret; exact ⟨rfl, Below.refl _ _⟩) | skip
  refine (h1.out _ _).mono ?_
  rintro e w1 ⟨rfl, hb⟩
  have B1 := Lib.hid hb
  clear hb
  go_wp2_with fail
  refine (h2.out _ _).mono ?_
  rintro e w2 ⟨rfl, hb⟩
  have B2 := Lib.hid (below_next B1.out hb)
  clear hb
  go_wp2_with fail
  refine (h3.out _ _).mono ?_
  rintro e w3 ⟨rfl, hb⟩
  have B3 := Lib.hid (below_next B2.out hb)
  clear hb
  go_wp2_with fail
  refine (h4.out _ _ _).mono ?_
  rintro e w4 ⟨rfl, hb⟩
  have B4 := Lib.hid (below_nextA B3.out hb)
  clear hb
  go_wp2_with fail
  refine (h5.out _ _).mono ?_
  rintro e w5 ⟨rfl, hb⟩
  have B5 := Lib.hid (below_nextA B4.out hb)
  clear hb
  go_wp2_with fail
  refine (h6.out _ _ _).mono ?_
  rintro e w6 ⟨rfl, hb⟩
  have B6 := Lib.hid (below_next B5.out hb)
  clear hb
  go_wp2_with fail
  refine (h7.out _ _ _).mono ?_
  rintro e w7 ⟨rfl, hb⟩
  have B7 := Lib.hid (below_next B6.out hb)
  clear hb
  go_wp2_with fail
  refine (h9.out _ _).mono ?_
  rintro e w8 ⟨rfl, hb⟩
  have B8 := Lib.hid (below_nextA B7.out hb)
  clear hb
  go_wp2_with fail
  refine (h10.out _).mono ?_
  rintro e w9 ⟨rfl, hb⟩
  have B9 := Lib.hid (below_next B8.out hb)
  clear hb
  go_wp2_with fail
  refine (h11.out _).mono ?_
  rintro e w10 ⟨rfl, hb⟩
  have B10 := Lib.hid (below_next B9.out hb)
  clear hb
  go_wp2_with fail
  refine (h12.out _).mono ?_
  rintro e w11 ⟨rfl, hb⟩
  have B11 := Lib.hid (below_next B10.out hb)
  clear hb
  go_wp2_with fail
  refine (h13.out _).mono ?_
  rintro e w12 ⟨rfl, hb⟩
  have B12 := Lib.hid (below_next B11.out hb)
  clear hb
  go_wp2_with fail
  go_ret
  exact ⟨rfl, B12.out⟩
end Go.Proofs.Ytdlbamhabenhgaa
