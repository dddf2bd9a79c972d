/- source: New, word; what a nil Source answers. source: copies, Next while the image has not come. source: Hear that all has come; Lag. satrapylaw22: pair of nothing, known. KeepOfNothing: the walk. satrapylaw23.known. Hear of no target; like and Same of no word; the law satrapylaw23. Printed by mkti.py. same and Same of no word. Printed by mktj.py. satrapylaw22: like of no word; the law SourceOfNothing: the walk. An argument that is a number. An argument that is a word: its cells as a list; the last is a slice. -/
import Derived.Test.YtogdfkilhpkloaaGreatDoorAA
import Derived.Test.YtogdfkilhpkloaaGreatDoorAH
import Derived.Test.YtogdfkilhpkloaaGreatDoorAJ
import Derived.Test.YtogdfkilhpkloaaGreatDoorAM
namespace Go.Proofs.YtogdfkilhpkloaaGreatDoor
open Go.RowKit Go.Sat Go.Maps

set_option maxHeartbeats 1000000 in
theorem snew_nil (w : World) (ep : Int) : Calls Tryz.prog 28 #[.pointer none, .int .i64 ep] w fun e w' => e = .returned (.pointer none) ∧ w' = w := by
  go_enter Tryz.func28, Tryz.ntmps28
  go_wp2_with fail
  go_ret
  exact ⟨rfl, rfl⟩
set_option maxHeartbeats 1000000 in
theorem slag_nil (w : World) : Calls Tryz.prog 33 #[.pointer none] w fun e w' => e = .returned (.int .i64 (-1)) ∧ w' = w := by
  go_enter Tryz.func33, Tryz.ntmps33
  go_wp2_with fail
  go_ret
  exact ⟨rfl, rfl⟩
set_option maxHeartbeats 1000000 in
theorem sepoch_nil (w : World) : Calls Tryz.prog 34 #[.pointer none] w fun e w' => e = .returned (.int .i64 0) ∧ w' = w := by
  go_enter Tryz.func34, Tryz.ntmps34
  go_wp2_with fail
  go_ret
  exact ⟨rfl, rfl⟩
set_option maxRecDepth 100000 in
set_option maxHeartbeats 2000000 in
theorem snext_nil (w : World) : Calls Tryz.prog 29 #[.pointer none] w fun e w' => e = .returned (.tuple #[.agg W0L.toArray, .bool false]) ∧ Below w.heap.size w w' := by
  go_enter Tryz.func29, Tryz.ntmps29
  go_wp2_with (first
    | (refine balloc rfl 70 rfl (Tryz.zeroValue70 _) (by decide) ?_; intro w2 hn hb hs; have H2 := Lib.hid (And.intro hn hb); clear hn hb hs)
    | (refine bbuild rfl 70 #[] rfl (v := .agg W0L.toArray) (by kernel_rfl) ?_)
    | (refine bstore rfl 70 (.tmp 2) (.tmp 10) rfl w.heap.size rfl (L := W0L) rfl H2.out.1 rfl (by kernel_rfl) W0L_one ?_; intro w3 hn hc; have H3 := Lib.hid (And.intro hn (chgOne H2.out.2 hc (Nat.le_refl _))); clear hn hc))
  refine bodyPost_ret (results_rw2 (p := 2) (u := 3) rfl _ _ w.heap.size _ _ (0, 0) _ rfl H3.out.1 Tryz.underlying70 rfl (by kernel_rfl)) rfl ?_
  exact ⟨rfl, H3.out.2⟩
set_option maxRecDepth 100000 in
set_option maxHeartbeats 2000000 in
theorem shear_nil (w : World) (L : List Value) : Calls Tryz.prog 30 #[.pointer none, .agg L.toArray] w fun e w' => e = .returned (.tuple #[]) ∧ Below w.heap.size w w' := by
  go_enter Tryz.func30, Tryz.ntmps30
  go_upto_region 1 with (refine bbox rfl 70 (.tmp 1) rfl (L := L) rfl ?_; intro w2 hn hb hs; have H2 := Lib.hid hb; clear hn hb hs)
  try simp only [Act.put, uA, uB, uC]
  refine ord_start (fun _ => True) (n := 22) (by kernel_rfl) rfl trivial (fun _ => ?_)
  have H3 := Lib.hid (H2.out.trans ((below_drew w2).mono H2.out.size))
  clear H2
  generalize w2.drew = w3 at *
  refine Pl [0, 1, 2, 3, 4, 5, 6, 7, 8, 9, 10, 11, 12, 13, 14, 15, 16, 17, 18, 19, 20, 21] ?_
  iterate 3 (refine Pc rfl ?_; simp only [Act.put, uA, uB, uC])
  iterate 9 (refine Ps rfl ?_; simp only [Act.put, uA, uB, uC])
  iterate 2 (refine Pc rfl ?_; simp only [Act.put, uA, uB, uC])
  iterate 7 (refine Ps rfl ?_; simp only [Act.put, uA, uB, uC])
  iterate 1 (refine Pc rfl ?_; simp only [Act.put, uA, uB, uC])
  refine Pn ?_
  refine wpAnyH_done (by kernel_rfl) ?_ _
  go_wp2_with fail
  refine bodyPost_ret (results_none rfl _ _ _) rfl ?_
  exact ⟨rfl, H3.out⟩
section
variable {w w1 W W' : World} {z d eb l vm sm tm am : Nat} {h : HeadM} {pre : ByteArray} {D : DiskM} {M : LedM} {own : Nat → Option (Nat × Bs)} {ev : Value} {G G' : Nat → Prop} {sb : Nat} {so so' : Obj}
set_option maxRecDepth 100000 in
set_option maxHeartbeats 4000000 in
theorem snew_calls (hS : DoS w w1 z d eb l vm sm tm am h pre D M E0 own ev NoF G W) {m : Nat} (hm : M.last = m) (ep : Int) :
    Calls Tryz.prog 28 #[.pointer (some ⟨z, 0, none⟩), .int .i64 ep] W fun e w' => ∃ sb pi ci ob p c, e = .returned (.pointer (some ⟨sb, 0, none⟩)) ∧ OutIn w' ob p 4 c [0, 0, 0, 0] 0 ∧ 4 ≤ c ∧ sb < ob ∧ (∀ k, (Value.slice p 4 c).ownBlock = some k → sb < k) ∧ W.heap.size ≤ sb ∧
      SrS w w1 z d eb l vm sm tm am h pre D M own ev (fun k => (G k ∨ k = sb) ∨ k = ob) sb (SrcO z ep (.slice pi 4 ci) (m : Int) (.pointer (some ⟨ob, 0, none⟩)) false 0) w' ∧ Below W.heap.size W w' := by
  have hno := new_block W (SrcO z ep (.slice none 0 0) 0 (.pointer none) false 0)
  have hbo := box_below W (SrcO z ep (.slice none 0 0) 0 (.pointer none) false 0)
  have hlt := lt_of_block hno
  have HS := Lib.hid (And.intro (show SrS w w1 z d eb l vm sm tm am h pre D M own ev (fun k => G k ∨ k = W.heap.size) W.heap.size (SrcO z ep (.slice none 0 0) 0 (.pointer none) false 0) (W.alloc (SrcO z ep (.slice none 0 0) 0 (.pointer none) false 0)) from ⟨hS.add hbo fun k hk => hk.imp id fun e => ⟨by omega, by omega⟩, hno, .inr rfl⟩) (And.intro hbo hlt))
  have HBg := Lib.hid (sbegins_calls HS.out.1 hm)
  unfold SrcO at HBg
  clear hS hno hbo hlt hm
  go_enter Tryz.func28, Tryz.ntmps28
  go_wp2_with fail
  refine HBg.out.mono ?_
  rintro e W2 ⟨pi, ci, ob, p, c, rfl, hO, hcap, hob, hpn, hS2, hc⟩
  have h2 := HS.out.2.2
  have H2 := Lib.hid (show OutIn W2 ob p 4 c [0, 0, 0, 0] 0 ∧ 4 ≤ c ∧ W.heap.size < ob ∧ (∀ k, (Value.slice p 4 c).ownBlock = some k → W.heap.size < k) ∧ W.heap.size ≤ W.heap.size ∧
      SrS w w1 z d eb l vm sm tm am h pre D M own ev (fun k => (G k ∨ k = W.heap.size) ∨ k = ob) W.heap.size (SrcO z ep (.slice pi 4 ci) (m : Int) (.pointer (some ⟨ob, 0, none⟩)) false 0) W2 ∧ Below W.heap.size W W2 from
    ⟨hO, hcap, by unfold SrcO at h2; omega, fun k hk => by have := hpn k hk; unfold SrcO at h2; omega, Nat.le_refl _, hS2, chgOne HS.out.2.1 hc (Nat.le_refl _)⟩)
  clear hO hcap hob hpn hS2 hc h2 HBg HS
  go_wp2_with fail
  go_ret
  exact ⟨_, pi, ci, ob, p, c, rfl, H2.out⟩
end
/-- A word about a zone. -/
def WdL (k zn ep ix sz of : Int) (dv : Value) : List Value := [.int .i64 k, .int .i64 zn, .int .i64 ep, .int .i64 ix, .int .i64 sz, .int .i64 of, .int .i64 0, .int .i64 0, .string ⟨#[]⟩, .string ⟨#[]⟩, .int .i64 0, .int .i64 0, .int .i64 0, .string ⟨#[]⟩, .string ⟨#[]⟩, .string ⟨#[]⟩, .string ⟨#[]⟩, .int .i64 0, .int .i64 0, .int .i64 0, .bool false, .int .i64 0, .int .i64 0, .int .i64 0, .int .i64 0, .int .i64 0, .int .i64 0, .int .i64 0, .int .i64 0, .int .i64 0, .slice none 0 0, .int .i64 0, .int .i64 0, .int .i64 0, .int .i64 0, .string ⟨#[]⟩, dv]
theorem WdL_one (k zn ep ix sz of : Int) (p : Option Addr) (n c : Nat) : ∀ v ∈ WdL k zn ep ix sz of (.slice p n c), v.oneCell' = true := by
  intro v hv
  unfold WdL at hv
  simp only [List.mem_cons, List.not_mem_nil, or_false] at hv
  rcases hv with rfl | rfl | rfl | rfl | rfl | rfl | rfl | rfl | rfl | rfl | rfl | rfl | rfl | rfl | rfl | rfl | rfl | rfl | rfl | rfl | rfl | rfl | rfl | rfl | rfl | rfl | rfl | rfl | rfl | rfl | rfl | rfl | rfl | rfl | rfl | rfl | rfl <;> rfl
set_option maxRecDepth 100000 in
set_option maxHeartbeats 4000000 in
theorem sword_calls {W : World} {z eb l sb : Nat} {ep : Int} {img out : Value} {come : Bool} {sure idx : Int} {ev : Value} (hz : W.heap[z]? = some (ZoneO H5 eb l ev false)) (hs : W.heap[sb]? = some (SrcO z ep img idx out come sure)) (k ix : Int) :
    Calls Tryz.prog 73 #[.pointer (some ⟨sb, 0, none⟩), .int .i64 k, .int .i64 ix] W fun e w' => e = .returned (.agg (WdL k 5 ep ix 0 0 (.slice none 0 0)).toArray) ∧ Below W.heap.size W w' := by
  have hfd : ∀ W : World, (Instr.field 35 (.agg #[.int .i64 H5.id, .string H5.fr, .string H5.tu, .int .i64 H5.epoch, .int .i64 H5.state]) 0).run Tryz.prog W = .ok (.int .i64 5) W := fun _ => by kernel_rfl
  have HZ := Lib.hid (And.intro hz hs)
  clear hz hs
  go_enter Tryz.func73, Tryz.ntmps73
  go_upto_region 1 with (refine balloc rfl 70 rfl (Tryz.zeroValue70 _) (by decide) ?_; intro w2 hn hb hs; have H2 := Lib.hid (And.intro (show w2.heap[W.heap.size]? = some (.cells W0L.toArray 70 (0, 0)) from hn) hb); clear hn hb hs)
  try simp only [Act.put, uA, uB, uC]
  have c0 := cell_of ((H2.out.2.block _ (lt_of_block HZ.out.2)).trans HZ.out.2) (i := 0) (v := .pointer (some ⟨z, 0, none⟩)) rfl
  have c1 := cell_of ((H2.out.2.block _ (lt_of_block HZ.out.2)).trans HZ.out.2) (i := 1) (v := .int .i64 ep) rfl
  refine ord_start (fun W' : World => W'.cell? ⟨sb, 0, none⟩ = some (.pointer (some ⟨z, 0, none⟩)) ∧ W'.cell? ⟨sb, 1, none⟩ = some (.int .i64 ep)) (n := 14) (by kernel_rfl) rfl ⟨c0, c1⟩ (fun hHeld => ?_)
  have H3 := Lib.hid (show w2.drew.heap[W.heap.size]? = some (.cells W0L.toArray 70 (0, 0)) ∧ Below W.heap.size W w2.drew from ⟨H2.out.1, H2.out.2.trans ((below_drew w2).mono H2.out.2.size)⟩)
  clear c0 c1 H2
  generalize w2.drew = w3 at *
  refine Pl [0, 1, 2, 3, 4, 7, 8, 9, 10, 11] ?_
  iterate 10 (refine Pd rfl (by intro w' hSw; have d0 := hSw.1; have d1 := hSw.2; go_simp; try with_reducible rfl) ?_; simp only [Act.put, uA, uB, uC])
  refine Pn ?_
  have HH := Lib.hid (zhead_calls ((H3.out.2.block _ (lt_of_block HZ.out.1)).trans HZ.out.1))
  refine ord_one 5 rfl (by kernel_rfl) (by rfl) (fun K hK => ?_)
  go_wp2_with fail
  refine HH.out.mono ?_
  rintro e w4 ⟨rfl, hb⟩
  have H4 := Lib.hid (And.intro ((hb.block _ (lt_of_block H3.out.1)).trans H3.out.1) (H3.out.2.trans (hb.mono H3.out.2.size)))
  have hH4 := And.intro ((hb.cell (World.block_lt_of_cell? _ _ hHeld.1)).trans hHeld.1) ((hb.cell (World.block_lt_of_cell? _ _ hHeld.2)).trans hHeld.2)
  have hsl := World.block_lt_of_cell? _ _ hHeld.1
  clear hb HH H3 hHeld
  go_wp2_with fail
  refine hK.out _ _ hH4 (fun hHeld => ?_)
  clear hK hH4
  try simp only [Act.put, uA, uB, uC]
  refine Pl [6, 12] ?_
  refine Pd (v := .int .i64 5) rfl (by intro w' hSw; have d := hfd w'; go_simp; try with_reducible rfl) ?_
  simp only [Act.put, uA, uB, uC]
  refine Pd (v := .agg (WdL k 5 ep ix 0 0 (.slice none 0 0)).toArray) rfl (by intro w' hSw; kernel_rfl) ?_
  simp only [Act.put, uA, uB, uC]
  refine Pn ?_
  refine ord_one 13 rfl (by kernel_rfl) (by rfl) (fun K hK => ?_)
  refine wp_bstore 70 (.tmp 6) (.tmp 19) rfl W.heap.size rfl (L := WdL k 5 ep ix 0 0 (.slice none 0 0)) rfl H4.out.1 rfl (by kernel_rfl) (WdL_one _ _ _ _ _ _ _ _ _) ?_
  intro w5 hn hc
  have H5' := Lib.hid (And.intro hn (chgOne H4.out.2 hc (Nat.le_refl _)))
  have hne : sb ≠ W.heap.size := by have := lt_of_block HZ.out.2; omega
  refine hK.out _ _ ⟨(hc.cell hHeld.1 hne), (hc.cell hHeld.2 hne)⟩ (fun _ => ?_)
  clear hK hn hc H4 hHeld
  try simp only [Act.put]
  refine wpAnyH_done (by kernel_rfl) ?_ _
  go_wp2_with fail
  refine bodyPost_ret (results_cell_row rfl _ _ W.heap.size _ _ (0, 0) _ rfl H5'.out.1 Tryz.underlying70 rfl (by kernel_rfl)) rfl ?_
  exact ⟨rfl, H5'.out.2⟩
end Go.Proofs.YtogdfkilhpkloaaGreatDoor

namespace Go.Proofs.YtogdfkilhpkloaaGreatDoor
open Go.RowKit Go.Sat Go.Maps
theorem WdL_size (k ix ep : Int) : (WdL k 5 ep ix 0 0 (.slice none 0 0)).set 4 (.int .i64 4) = WdL k 5 ep ix 4 0 (.slice none 0 0) := rfl
section
variable {W : World} {z eb l sb ob c : Nat} {ep : Int} {img : Value} {come : Bool} {sure idx : Int} {ev : Value} {p : Option Addr}
set_option maxRecDepth 100000 in
set_option maxHeartbeats 8000000 in
theorem scopies_calls (hz : W.heap[z]? = some (ZoneO H5 eb l ev false)) (hs : W.heap[sb]? = some (SrcO z ep img idx (.pointer (some ⟨ob, 0, none⟩)) come sure)) (hO : OutIn W ob p 4 c [0, 0, 0, 0] 0) (hc4 : 4 ≤ c) :
    Calls Tryz.prog 72 #[.pointer (some ⟨sb, 0, none⟩)] W fun e w' => ∃ p' c', e = .returned (.agg (WdL 7 5 ep idx 4 0 (.slice p' 4 c')).toArray) ∧ OwnB w' 5 (.slice p' 4 c') [0, 0, 0, 0] ∧ Below W.heap.size W w' := by
  have hfd : ∀ W : World, (Instr.field 35 (.agg #[.int .i64 H5.id, .string H5.fr, .string H5.tu, .int .i64 H5.epoch, .int .i64 H5.state]) 1).run Tryz.prog W = .ok (.agg #[.string ⟨#[]⟩, .string ⟨#[]⟩]) W := fun _ => by kernel_rfl
  have HZ := Lib.hid (And.intro hz (And.intro hs (And.intro hO hc4)))
  have HLt := Lib.hid (And.intro (lt_of_block hz) (And.intro (lt_of_block hs) (lt_of_block hO.cells)))
  clear hz hs hO hc4
  go_enter Tryz.func72, Tryz.ntmps72
  go_upto_region 1 with (refine balloc rfl 70 rfl (Tryz.zeroValue70 _) (by decide) ?_; intro w2 hn hb hs; have H2 := Lib.hid (And.intro (show w2.heap[W.heap.size]? = some (.cells W0L.toArray 70 (0, 0)) from hn) hb); clear hn hb hs)
  try simp only [Act.put, uA, uB, uC]
  have s2 := (H2.out.2.block _ HLt.out.2.1).trans HZ.out.2.1
  have HWd := Lib.hid (sword_calls ((H2.out.2.block _ HLt.out.1).trans HZ.out.1) s2 7 idx)
  have c3 := cell_of s2 (i := 3) (v := .int .i64 idx) rfl
  clear s2
  go_wp2_with fail
  refine HWd.out.mono ?_
  rintro e w3 ⟨rfl, hb⟩
  have H3 := Lib.hid (And.intro ((hb.block _ (lt_of_block H2.out.1)).trans H2.out.1) (H2.out.2.trans (hb.mono H2.out.2.size)))
  clear hb HWd H2 c3
  go_upto_region 2 with (first
    | (refine balloc rfl 70 rfl (Tryz.zeroValue70 _) (by decide) ?_; intro w4 hn hb hs; have H4 := Lib.hid (And.intro (show w4.heap[w3.heap.size]? = some (.cells W0L.toArray 70 (0, 0)) from hn) hb); clear hn hb hs)
    | (refine bstore rfl 70 (.tmp 3) (.tmp 9) rfl w3.heap.size rfl (L := WdL 7 5 ep idx 0 0 (.slice none 0 0)) rfl H4.out.1 rfl (by kernel_rfl) (WdL_one _ _ _ _ _ _ _ _ _) ?_; intro w5 hn hc; have H5' := Lib.hid (And.intro hn (chgOne H4.out.2 hc (Nat.le_refl _))); clear hn hc))
  try simp only [Act.put, uA, uB, uC]
  obtain ⟨wb, hwb⟩ : ∃ wb, wb = w3.heap.size := ⟨_, rfl⟩
  have hwl : W.heap.size < wb := by rw [hwb]; exact lt_of_block H3.out.1
  have H6 := Lib.hid (show w5.heap[wb]? = some (.cells (WdL 7 5 ep idx 0 0 (.slice none 0 0)).toArray 70 (0, 0)) ∧ w5.heap[W.heap.size]? = some (.cells W0L.toArray 70 (0, 0)) ∧ Below W.heap.size W w5 from by
    rw [hwb]
    exact ⟨H5'.out.1, (H5'.out.2.block _ (lt_of_block H3.out.1)).trans H3.out.1, H3.out.2.trans (H5'.out.2.mono H3.out.2.size)⟩)
  rw [← hwb]
  clear H5' H4 H3 hwb
  have s6 := (H6.out.2.2.block _ HLt.out.2.1).trans HZ.out.2.1
  have c0 := cell_of s6 (i := 0) (v := .pointer (some ⟨z, 0, none⟩)) rfl
  have c4 := cell_of s6 (i := 4) (v := .pointer (some ⟨ob, 0, none⟩)) rfl
  clear s6
  refine ord_start (fun W' : World => W'.cell? ⟨sb, 0, none⟩ = some (.pointer (some ⟨z, 0, none⟩)) ∧ W'.cell? ⟨sb, 4, none⟩ = some (.pointer (some ⟨ob, 0, none⟩))) (n := 15) (by kernel_rfl) rfl ⟨c0, c4⟩ (fun hHeld => ?_)
  have H7 := Lib.hid (show w5.drew.heap[wb]? = some (.cells (WdL 7 5 ep idx 0 0 (.slice none 0 0)).toArray 70 (0, 0)) ∧ w5.drew.heap[W.heap.size]? = some (.cells W0L.toArray 70 (0, 0)) ∧ Below W.heap.size W w5.drew from ⟨H6.out.1, H6.out.2.1, H6.out.2.2.trans ((below_drew w5).mono H6.out.2.2.size)⟩)
  clear c0 c4 H6
  generalize w5.drew = w7 at *
  refine Pl [0, 1, 2, 3, 5, 6, 7, 8] ?_
  iterate 8 (refine Pd rfl (by intro w' hSw; have d0 := hSw.1; have d1 := hSw.2; go_simp; try with_reducible rfl) ?_; simp only [Act.put, uA, uB, uC])
  refine Pn ?_
  have HSz := Lib.hid (psize_calls ((H7.out.2.2.block _ HLt.out.2.2).trans HZ.out.2.2.1.cells))
  refine ord_one 4 rfl (by kernel_rfl) (by rfl) (fun K hK => ?_)
  go_wp2_with fail
  refine HSz.out.mono ?_
  rintro e w8 ⟨rfl, hw8⟩
  obtain rfl := hw8.symm
  clear HSz hw8
  go_wp2_with fail
  refine hK.out _ _ hHeld (fun _ => ?_)
  clear hK
  try simp only [Act.put, uA, uB, uC]
  refine Pl [11] ?_
  iterate 1 (refine Pc rfl ?_; simp only [Act.put, uA, uB, uC])
  refine Pn ?_
  have HH := Lib.hid (zhead_calls ((H7.out.2.2.block _ HLt.out.1).trans HZ.out.1))
  refine ord_one 9 rfl (by kernel_rfl) (by rfl) (fun K hK => ?_)
  go_wp2_with fail
  refine HH.out.mono ?_
  rintro e w8 ⟨rfl, hb⟩
  have H8 := Lib.hid (And.intro ((hb.block _ (lt_of_block H7.out.1)).trans H7.out.1) (And.intro ((hb.block _ (lt_of_block H7.out.2.1)).trans H7.out.2.1) (H7.out.2.2.trans (hb.mono H7.out.2.2.size))))
  have hH8 := And.intro ((hb.cell (World.block_lt_of_cell? _ _ hHeld.1)).trans hHeld.1) ((hb.cell (World.block_lt_of_cell? _ _ hHeld.2)).trans hHeld.2)
  clear hb HH H7 hHeld
  go_wp2_with fail
  refine hK.out _ _ hH8 (fun hHeld => ?_)
  clear hK hH8
  try simp only [Act.put, uA, uB, uC]
  refine Pl [10] ?_
  refine Pd (v := .agg #[.string ⟨#[]⟩, .string ⟨#[]⟩]) rfl (by intro w' hSw; have d := hfd w'; go_simp; try with_reducible rfl) ?_
  simp only [Act.put, uA, uB, uC]
  refine Pn ?_
  have hne : sb ≠ wb := by have := HLt.out.2.1; omega
  have e4 := cell_of H8.out.1 (i := 4) (v := .int .i64 0) rfl
  have f4 := frozen_of H8.out.1 4
  refine ord_one 12 rfl (by kernel_rfl) (by rfl) (fun K hK => ?_)
  go_wp2_with fail
  have hc9 : Chg (fun x => x = wb) w8 (w8.setCell ⟨wb, 4, none⟩ (.int .i64 4)) := Chg.setCell w8 ⟨wb, 4, none⟩ _
  have H9 := Lib.hid (And.intro (show (w8.setCell ⟨wb, 4, none⟩ (.int .i64 4)).heap[wb]? = some (.cells (WdL 7 5 ep idx 4 0 (.slice none 0 0)).toArray 70 (0, 0)) from by rw [← WdL_size]; exact set_blockL H8.out.1 4 _) (And.intro ((hc9.block _ (lt_of_block H8.out.2.1) (by omega)).trans H8.out.2.1) (chgOne H8.out.2.2 hc9 (by omega))))
  refine hK.out _ _ ⟨(hc9.cell hHeld.1 hne), (hc9.cell hHeld.2 hne)⟩ (fun hHeld => ?_)
  clear hK hc9 e4 f4 H8
  generalize w8.setCell ⟨wb, 4, none⟩ (.int .i64 4) = w9 at *
  try simp only [Act.put, uA, uB, uC]
  refine Pl [13] ?_
  iterate 1 (refine Pc rfl ?_; simp only [Act.put, uA, uB, uC])
  refine Pn ?_
  refine ord_one 14 rfl (by kernel_rfl) (by rfl) (fun K hK => ?_)
  refine wp_bstoreAt 27 (.tmp 22) (.tmp 20) rfl wb 8 rfl (v := .agg #[.string ⟨#[]⟩, .string ⟨#[]⟩]) rfl [.string ⟨#[]⟩, .string ⟨#[]⟩] rfl H9.out.1 (by show 8 + 2 ≤ 37; omega) (by kernel_rfl) (by intro v hv; simp only [List.mem_cons, List.not_mem_nil, or_false] at hv; rcases hv with rfl | rfl <;> rfl) ?_
  intro w10 hn hc
  have H10 := Lib.hid (show w10.heap[wb]? = some (.cells (WdL 7 5 ep idx 4 0 (.slice none 0 0)).toArray 70 (0, 0)) ∧ w10.heap[W.heap.size]? = some (.cells W0L.toArray 70 (0, 0)) ∧ Below W.heap.size W w10 from ⟨hn, (hc.block _ (lt_of_block H9.out.2.1) (by omega)).trans H9.out.2.1, chgOne H9.out.2.2 hc (by omega)⟩)
  refine hK.out _ _ ⟨(hc.cell hHeld.1 hne), (hc.cell hHeld.2 hne)⟩ (fun hHeld => ?_)
  clear hK hn hc H9
  try simp only [Act.put]
  refine wpAnyH_done (by kernel_rfl) ?_ _
  have c4 := hHeld.2
  clear hHeld
  have HNx := Lib.hid (pnext_calls (HZ.out.2.2.1.keep (w' := w10) fun k hk => H10.out.2.2.block k (by rcases hk with rfl | hk; exact HLt.out.2.2; exact OwnR.lt HZ.out.2.2.1.row hk)) (by decide) HZ.out.2.2.2)
  go_wp2_with fail
  refine HNx.out.mono ?_
  rintro e w11 ⟨p', c', rfl, hv, hvn, hb⟩
  have H11 := Lib.hid (And.intro ((hb.block _ (lt_of_block H10.out.1)).trans H10.out.1) (And.intro ((hb.block _ (lt_of_block H10.out.2.1)).trans H10.out.2.1) (H10.out.2.2.trans (hb.mono H10.out.2.2.size))))
  have hvw : ∀ k, (Value.slice p' 4 c').ownBlock = some k → k ≠ wb ∧ k ≠ W.heap.size := fun k hk => by
    have h1 := hvn k hk
    have h2 := lt_of_block H10.out.1
    have h3 := lt_of_block H10.out.2.1
    omega
  have HV := Lib.hid (And.intro hv hvw)
  clear hv hvn hb hvw HNx H10 c4
  have e5 := cell_of H11.out.1 (i := 5) (v := .int .i64 0) rfl
  have f5 := frozen_of H11.out.1 5
  have e36 := cell_of H11.out.1 (i := 36) (v := .slice none 0 0) rfl
  have f36 := frozen_of H11.out.1 36
  go_upto_region 4 with (fail)
  try simp only [Act.put, uA, uB, uC]
  have hca : Chg (fun x => x = wb) w11 ((w11.setCell ⟨wb, 5, none⟩ (.int .i64 0)).setCell ⟨wb, 36, none⟩ (.slice p' 4 c')) := (Chg.setCell w11 ⟨wb, 5, none⟩ _).trans (Chg.setCell _ ⟨wb, 36, none⟩ _) fun _ _ e => e
  have H12 := Lib.hid (show ((w11.setCell ⟨wb, 5, none⟩ (.int .i64 0)).setCell ⟨wb, 36, none⟩ (.slice p' 4 c')).heap[wb]? = some (.cells (WdL 7 5 ep idx 4 0 (.slice p' 4 c')).toArray 70 (0, 0)) ∧ ((w11.setCell ⟨wb, 5, none⟩ (.int .i64 0)).setCell ⟨wb, 36, none⟩ (.slice p' 4 c')).heap[W.heap.size]? = some (.cells W0L.toArray 70 (0, 0)) ∧ Below W.heap.size W ((w11.setCell ⟨wb, 5, none⟩ (.int .i64 0)).setCell ⟨wb, 36, none⟩ (.slice p' 4 c')) ∧ OwnB ((w11.setCell ⟨wb, 5, none⟩ (.int .i64 0)).setCell ⟨wb, 36, none⟩ (.slice p' 4 c')) 5 (.slice p' 4 c') [0, 0, 0, 0] from
    ⟨set_blockL (set_blockL H11.out.1 5 _) 36 _, (hca.block _ (lt_of_block H11.out.2.1) (by omega)).trans H11.out.2.1, chgOne H11.out.2.2 hca (by omega), OwnR.keep HV.out.1 fun k hk => hca.block k (OwnR.lt HV.out.1 hk) (HV.out.2 k hk).1⟩)
  have HVn := Lib.hid (fun k hk => (HV.out.2 k hk).2)
  clear hca e5 f5 e36 f36 H11 HV
  generalize (w11.setCell ⟨wb, 5, none⟩ (.int .i64 0)).setCell ⟨wb, 36, none⟩ (.slice p' 4 c') = w12 at *
  go_wp2_with (first
    | (refine bload rfl 70 (.tmp 3) rfl wb rfl (L := WdL 7 5 ep idx 4 0 (.slice p' 4 c')) H12.out.1 Tryz.underlying70 rfl (by kernel_rfl) ?_)
    | (refine bstore rfl 70 (.tmp 2) (.tmp 33) rfl W.heap.size rfl (L := WdL 7 5 ep idx 4 0 (.slice p' 4 c')) rfl H12.out.2.1 rfl (by kernel_rfl) (WdL_one _ _ _ _ _ _ _ _ _) ?_; intro w13 hn hc; have H13 := Lib.hid (And.intro hn (And.intro (chgOne H12.out.2.2.1 hc (Nat.le_refl _)) (OwnR.keep H12.out.2.2.2 fun k hk => hc.block k (OwnR.lt H12.out.2.2.2 hk) (HVn.out k hk)))); clear hn hc))
  refine bodyPost_ret (results_cell_row rfl _ _ W.heap.size _ _ (0, 0) _ rfl H13.out.1 Tryz.underlying70 rfl (by kernel_rfl)) rfl ?_
  exact ⟨p', c', rfl, H13.out.2.2, H13.out.2.1⟩
set_option maxRecDepth 100000 in
set_option maxHeartbeats 8000000 in
theorem snext_calls (hz : W.heap[z]? = some (ZoneO H5 eb l ev false)) (hs : W.heap[sb]? = some (SrcO z ep img idx (.pointer (some ⟨ob, 0, none⟩)) false sure)) (hO : OutIn W ob p 4 c [0, 0, 0, 0] 0) (hc4 : 4 ≤ c) :
    Calls Tryz.prog 29 #[.pointer (some ⟨sb, 0, none⟩)] W fun e w' => ∃ p' c', e = .returned (.tuple #[.agg (WdL 7 5 ep idx 4 0 (.slice p' 4 c')).toArray, .bool true]) ∧ Below W.heap.size W w' := by
  have HZ := Lib.hid (And.intro hz (And.intro hs (And.intro hO hc4)))
  have HLt := Lib.hid (And.intro (lt_of_block hz) (And.intro (lt_of_block hs) (lt_of_block hO.cells)))
  clear hz hs hO hc4
  go_enter Tryz.func29, Tryz.ntmps29
  go_upto_region 1 with (refine balloc rfl 70 rfl (Tryz.zeroValue70 _) (by decide) ?_; intro w2 hn hb hs; have H2 := Lib.hid (And.intro (show w2.heap[W.heap.size]? = some (.cells W0L.toArray 70 (0, 0)) from hn) hb); clear hn hb hs)
  try simp only [Act.put, uA, uB, uC]
  have s2 := (H2.out.2.block _ HLt.out.2.1).trans HZ.out.2.1
  have HC := Lib.hid (scopies_calls ((H2.out.2.block _ HLt.out.1).trans HZ.out.1) s2 (HZ.out.2.2.1.keep (w' := w2) fun k hk => H2.out.2.block k (by rcases hk with rfl | hk; exact HLt.out.2.2; exact OwnR.lt HZ.out.2.2.1.row hk)) HZ.out.2.2.2)
  have c5 := cell_of s2 (i := 5) (v := .bool false) rfl
  clear s2
  go_wp2_with fail
  refine HC.out.mono ?_
  rintro e w3 ⟨p', c', rfl, hv, hb⟩
  have H3 := Lib.hid (And.intro ((hb.block _ (lt_of_block H2.out.1)).trans H2.out.1) (H2.out.2.trans (hb.mono H2.out.2.size)))
  clear hv hb HC c5 H2
  go_wp2_with (refine bstore rfl 70 (.tmp 2) (.tmp 17) rfl W.heap.size rfl (L := WdL 7 5 ep idx 4 0 (.slice p' 4 c')) rfl H3.out.1 rfl (by kernel_rfl) (WdL_one _ _ _ _ _ _ _ _ _) ?_; intro w13 hn hc; have H13 := Lib.hid (And.intro hn (chgOne H3.out.2 hc (Nat.le_refl _))); clear hn hc)
  refine bodyPost_ret (results_rw2 (p := 2) (u := 3) rfl _ _ W.heap.size _ _ (0, 0) _ rfl H13.out.1 Tryz.underlying70 rfl (by kernel_rfl)) rfl ?_
  exact ⟨p', c', rfl, H13.out.2⟩
end
end Go.Proofs.YtogdfkilhpkloaaGreatDoor

namespace Go.Proofs.YtogdfkilhpkloaaGreatDoor
open Go.RowKit Go.Sat Go.Maps
section
variable {W : World} {z eb l sb ob c : Nat} {img : Value} {ev : Value} {p : Option Addr}
set_option maxRecDepth 100000 in
set_option maxHeartbeats 8000000 in
theorem scopied_calls (hs : W.heap[sb]? = some (SrcO z 2 img 0 (.pointer (some ⟨ob, 0, none⟩)) false 0)) (ho : W.heap[ob]? = some (OutO p 4 c 0)) (hne : sb ≠ ob) :
    Calls Tryz.prog 74 #[.pointer (some ⟨sb, 0, none⟩), .agg (WdL 8 5 2 0 0 4 (.slice none 0 0)).toArray] W fun e w' => e = .returned (.tuple #[]) ∧ w'.heap[sb]? = some (SrcO z 2 img 0 (.pointer (some ⟨ob, 0, none⟩)) true 0) ∧ Chg (fun k => k = sb ∨ k = ob) W w' := by
  have HZ := Lib.hid (And.intro hs (And.intro ho hne))
  have HLt := Lib.hid (And.intro (lt_of_block hs) (lt_of_block ho))
  clear hs ho hne
  go_enter Tryz.func74, Tryz.ntmps74
  go_upto_region 1 with (refine bbox rfl 70 (.tmp 1) rfl (L := WdL 8 5 2 0 0 4 (.slice none 0 0)) rfl ?_; intro w2 hn hb hs; have H2 := Lib.hid (And.intro hn hb); clear hn hb hs)
  try simp only [Act.put, uA, uB, uC]
  have s2 := (H2.out.2.block _ HLt.out.1).trans HZ.out.1
  have o2 := (H2.out.2.block _ HLt.out.2).trans HZ.out.2.1
  have c3 := cell_of H2.out.1 (i := 3) (v := .int .i64 0) rfl
  have d3 := cell_of s2 (i := 3) (v := .int .i64 0) rfl
  have d5 := cell_of s2 (i := 5) (v := .bool false) rfl
  refine ord_start (fun W' : World => W'.cell? ⟨W.heap.size, 3, none⟩ = some (.int .i64 0) ∧ W'.cell? ⟨sb, 3, none⟩ = some (.int .i64 0) ∧ W'.cell? ⟨sb, 5, none⟩ = some (.bool false)) (n := 13) (by kernel_rfl) rfl ⟨c3, d3, d5⟩ (fun hHeld => ?_)
  have H3 := Lib.hid (show w2.drew.heap[W.heap.size]? = some (.cells (WdL 8 5 2 0 0 4 (.slice none 0 0)).toArray 70 (0, 0)) ∧ w2.drew.heap[sb]? = some (SrcO z 2 img 0 (.pointer (some ⟨ob, 0, none⟩)) false 0) ∧ w2.drew.heap[ob]? = some (OutO p 4 c 0) ∧ Below W.heap.size W w2.drew from ⟨H2.out.1, s2, o2, H2.out.2.trans ((below_drew w2).mono H2.out.2.size)⟩)
  clear c3 d3 d5 s2 o2 H2
  generalize w2.drew = w3 at *
  refine Pl [0, 1, 2, 3, 4, 5, 6, 7, 8, 9, 10, 11, 12] ?_
  iterate 13 (refine Pd rfl (by intro w' hSw; have q0 := hSw.1; have q1 := hSw.2.1; have q2 := hSw.2.2; go_simp; try with_reducible rfl) ?_; simp only [Act.put, uA, uB, uC])
  refine Pn ?_
  refine wpAnyH_done (by kernel_rfl) ?_ _
  clear hHeld
  have c5 := cell_of H3.out.1 (i := 5) (v := .int .i64 4) rfl
  have d4 := cell_of H3.out.2.1 (i := 4) (v := .pointer (some ⟨ob, 0, none⟩)) rfl
  go_upto_region 4 with (fail)
  try simp only [Act.put, uA, uB, uC]
  refine ord_start (fun W' : World => W'.cell? ⟨W.heap.size, 5, none⟩ = some (.int .i64 4) ∧ W'.cell? ⟨sb, 4, none⟩ = some (.pointer (some ⟨ob, 0, none⟩))) (n := 7) (by kernel_rfl) rfl ⟨c5, d4⟩ (fun hHeld => ?_)
  have H4 := Lib.hid (show w3.drew.heap[sb]? = some (SrcO z 2 img 0 (.pointer (some ⟨ob, 0, none⟩)) false 0) ∧ w3.drew.heap[ob]? = some (OutO p 4 c 0) ∧ Below W.heap.size W w3.drew from ⟨H3.out.2.1, H3.out.2.2.1, H3.out.2.2.2.trans ((below_drew w3).mono H3.out.2.2.2.size)⟩)
  clear c5 d4 H3
  generalize w3.drew = w4 at *
  refine Pl [0, 1, 2, 3, 4, 5] ?_
  iterate 6 (refine Pd rfl (by intro w' hSw; have q0 := hSw.1; have q1 := hSw.2; go_simp; try with_reducible rfl) ?_; simp only [Act.put, uA, uB, uC])
  refine Pn ?_
  have HA := Lib.hid (pack_calls H4.out.2.1 (by decide))
  refine ord_one 6 rfl (by kernel_rfl) (by rfl) (fun K hK => ?_)
  go_wp2_with fail
  refine HA.out.mono ?_
  rintro e w5 ⟨rfl, ho, hc⟩
  have hx : W.heap.size ≠ ob := by have := HLt.out.2; omega
  have H5' := Lib.hid (And.intro ((hc.block _ (lt_of_block H4.out.1) HZ.out.2.2).trans H4.out.1) (And.intro ho (((Chg.of_below H4.out.2.2).mono fun _ _ e => e.elim : Chg (fun k => k = sb ∨ k = ob) W w4).trans hc fun _ _ e => .inr e)))
  have hS5 : w5.cell? ⟨W.heap.size, 5, none⟩ = some (.int .i64 4) ∧ w5.cell? ⟨sb, 4, none⟩ = some (.pointer (some ⟨ob, 0, none⟩)) := ⟨hc.cell hHeld.1 hx, hc.cell hHeld.2 HZ.out.2.2⟩
  clear ho hc hx HA H4 hHeld
  go_wp2_with fail
  refine hK.out _ _ hS5 (fun hHeld => ?_)
  clear hK hS5
  try simp only [Act.put, uA, uB, uC]
  refine wpAnyH_done (by kernel_rfl) ?_ _
  have d4 := hHeld.2
  clear hHeld
  have HD := Lib.hid (pdone_calls (n := 4) H5'.out.2.1)
  go_wp2_with fail
  refine HD.out.mono ?_
  rintro e w6 ⟨rfl, hb⟩
  have H6 := Lib.hid (And.intro ((hb.block _ (lt_of_block H5'.out.1)).trans H5'.out.1) (H5'.out.2.2.trans (Chg.of_below hb) fun _ _ e => e.elim))
  clear hb HD H5' d4
  have e3 := cell_of H6.out.1 (i := 3) (v := .int .i64 0) rfl
  have e5 := cell_of H6.out.1 (i := 5) (v := .bool false) rfl
  have f5 := frozen_of H6.out.1 5
  have e6 := cell_of H6.out.1 (i := 6) (v := .int .i64 0) rfl
  have f6 := frozen_of H6.out.1 6
  go_wp2_with fail
  go_end0
  have hca : Chg (fun k => k = sb ∨ k = ob) w6 ((w6.setCell ⟨sb, 5, none⟩ (.bool true)).setCell ⟨sb, 6, none⟩ (.int .i64 0)) := ((Chg.setCell w6 ⟨sb, 5, none⟩ _).trans (Chg.setCell _ ⟨sb, 6, none⟩ _) fun _ _ e => e).mono fun _ _ e => .inl e
  exact ⟨rfl, set_block (set_block H6.out.1 5 _) 6 _, H6.out.2.trans hca fun _ _ e => e⟩
set_option maxRecDepth 100000 in
set_option maxHeartbeats 8000000 in
theorem shear_calls (hz : W.heap[z]? = some (ZoneO H5 eb l ev false)) (hs : W.heap[sb]? = some (SrcO z 2 img 0 (.pointer (some ⟨ob, 0, none⟩)) false 0)) (ho : W.heap[ob]? = some (OutO p 4 c 0)) (hne : sb ≠ ob) :
    Calls Tryz.prog 30 #[.pointer (some ⟨sb, 0, none⟩), .agg (WdL 8 5 2 0 0 4 (.slice none 0 0)).toArray] W fun e w' => e = .returned (.tuple #[]) ∧ w'.heap[sb]? = some (SrcO z 2 img 0 (.pointer (some ⟨ob, 0, none⟩)) true 0) ∧ Chg (fun k => k = sb ∨ k = ob) W w' := by
  have hfd : ∀ W : World, (Instr.field 35 (.agg #[.int .i64 H5.id, .string H5.fr, .string H5.tu, .int .i64 H5.epoch, .int .i64 H5.state]) 0).run Tryz.prog W = .ok (.int .i64 5) W := fun _ => by kernel_rfl
  have HZ := Lib.hid (And.intro hs (And.intro ho (And.intro hne hz)))
  have HLt := Lib.hid (And.intro (lt_of_block hs) (And.intro (lt_of_block ho) (lt_of_block hz)))
  clear hs ho hne hz
  go_enter Tryz.func30, Tryz.ntmps30
  go_upto_region 1 with (refine bbox rfl 70 (.tmp 1) rfl (L := WdL 8 5 2 0 0 4 (.slice none 0 0)) rfl ?_; intro w2 hn hb hs; have H2 := Lib.hid (And.intro hn hb); clear hn hb hs)
  try simp only [Act.put, uA, uB, uC]
  have s2 := (H2.out.2.block _ HLt.out.1).trans HZ.out.1
  have c1 := cell_of H2.out.1 (i := 1) (v := .int .i64 5) rfl
  have c2 := cell_of H2.out.1 (i := 2) (v := .int .i64 2) rfl
  have d0 := cell_of s2 (i := 0) (v := .pointer (some ⟨z, 0, none⟩)) rfl
  have d1 := cell_of s2 (i := 1) (v := .int .i64 2) rfl
  refine ord_start (fun W' : World => W'.cell? ⟨W.heap.size, 1, none⟩ = some (.int .i64 5) ∧ W'.cell? ⟨W.heap.size, 2, none⟩ = some (.int .i64 2) ∧ W'.cell? ⟨sb, 0, none⟩ = some (.pointer (some ⟨z, 0, none⟩)) ∧ W'.cell? ⟨sb, 1, none⟩ = some (.int .i64 2)) (n := 22) (by kernel_rfl) rfl ⟨c1, c2, d0, d1⟩ (fun hHeld => ?_)
  have H3 := Lib.hid (show w2.drew.heap[W.heap.size]? = some (.cells (WdL 8 5 2 0 0 4 (.slice none 0 0)).toArray 70 (0, 0)) ∧ Below W.heap.size W w2.drew from ⟨H2.out.1, H2.out.2.trans ((below_drew w2).mono H2.out.2.size)⟩)
  clear c1 c2 d0 d1 s2 H2
  generalize w2.drew = w3 at *
  refine Pl [0, 1, 2, 3, 4, 5, 6, 7, 8] ?_
  iterate 9 (refine Pd rfl (by intro w' hSw; have q0 := hSw.1; have q1 := hSw.2.1; have q2 := hSw.2.2.1; have q3 := hSw.2.2.2; go_simp; try with_reducible rfl) ?_; simp only [Act.put, uA, uB, uC])
  refine Pn ?_
  have HH := Lib.hid (zhead_calls ((H3.out.2.block _ HLt.out.2.2).trans HZ.out.2.2.2))
  refine ord_one 9 rfl (by kernel_rfl) (by rfl) (fun K hK => ?_)
  go_wp2_with fail
  refine HH.out.mono ?_
  rintro e w4 ⟨rfl, hb⟩
  have H4 := Lib.hid (And.intro ((hb.block _ (lt_of_block H3.out.1)).trans H3.out.1) (H3.out.2.trans (hb.mono H3.out.2.size)))
  have hH4 := And.intro ((hb.cell (World.block_lt_of_cell? _ _ hHeld.1)).trans hHeld.1) (And.intro ((hb.cell (World.block_lt_of_cell? _ _ hHeld.2.1)).trans hHeld.2.1) (And.intro ((hb.cell (World.block_lt_of_cell? _ _ hHeld.2.2.1)).trans hHeld.2.2.1) ((hb.cell (World.block_lt_of_cell? _ _ hHeld.2.2.2)).trans hHeld.2.2.2)))
  clear hb HH H3 hHeld
  go_wp2_with fail
  refine hK.out _ _ hH4 (fun hHeld => ?_)
  clear hK hH4
  try simp only [Act.put, uA, uB, uC]
  refine Pl [10, 11, 12, 13, 14, 15, 16, 17, 18, 19, 20, 21] ?_
  refine Pd (v := .int .i64 5) rfl (by intro w' hSw; have d := hfd w'; go_simp; try with_reducible rfl) ?_
  simp only [Act.put, uA, uB, uC]
  iterate 11 (refine Pd rfl (by intro w' hSw; have q0 := hSw.1; have q1 := hSw.2.1; have q2 := hSw.2.2.1; have q3 := hSw.2.2.2; go_simp; try with_reducible rfl) ?_; simp only [Act.put, uA, uB, uC])
  refine Pn ?_
  refine wpAnyH_done (by kernel_rfl) ?_ _
  clear hHeld
  have c0 := cell_of H4.out.1 (i := 0) (v := .int .i64 8) rfl
  have HC := Lib.hid (scopied_calls ((H4.out.2.block _ HLt.out.1).trans HZ.out.1) ((H4.out.2.block _ HLt.out.2.1).trans HZ.out.2.1) HZ.out.2.2.1)
  go_wp2_with (refine bload rfl 70 (.tmp 3) rfl W.heap.size rfl (L := WdL 8 5 2 0 0 4 (.slice none 0 0)) H4.out.1 Tryz.underlying70 rfl (by kernel_rfl) ?_)
  refine HC.out.mono ?_
  rintro e w5 ⟨rfl, hs, hc⟩
  have H5' := Lib.hid (And.intro hs (((Chg.of_below H4.out.2).mono fun _ _ e => e.elim : Chg (fun k => k = sb ∨ k = ob) W w4).trans hc fun _ _ e => e))
  clear hs hc HC H4 c0
  go_wp2_with fail
  go_end0
  exact ⟨rfl, H5'.out⟩
end
section
variable {w w1 W W' : World} {z d eb l vm sm tm am : Nat} {h : HeadM} {pre : ByteArray} {D : DiskM} {M : LedM} {own : Nat → Option (Nat × Bs)} {ev : Value} {G G' : Nat → Prop} {sb : Nat} {so so' : Obj}
set_option maxRecDepth 100000 in
set_option maxHeartbeats 4000000 in
theorem slag_calls {ep : Int} {img out : Value} {idx : Int} (hS : SrS w w1 z d eb l vm sm tm am h pre D M own ev G sb (SrcO z ep img idx out true 0) W) (hm : M.last = 0) :
    Calls Tryz.prog 33 #[.pointer (some ⟨sb, 0, none⟩)] W fun e w' => e = .returned (.int .i64 0) ∧ Below W.heap.size W w' := by
  have H := Lib.hid hS
  have d0 := cell_of hS.src (i := 0) (v := .pointer (some ⟨z, 0, none⟩)) rfl
  have d5 := cell_of hS.src (i := 5) (v := .bool true) rfl
  have d6 := cell_of hS.src (i := 6) (v := .int .i64 0) rfl
  clear hS
  go_enter Tryz.func33, Tryz.ntmps33
  go_upto_region 3 with (fail)
  try simp only [Act.put, uA, uB, uC]
  refine ord_start (fun W' : World => W'.cell? ⟨sb, 0, none⟩ = some (.pointer (some ⟨z, 0, none⟩)) ∧ W'.cell? ⟨sb, 6, none⟩ = some (.int .i64 0)) (n := 11) (by kernel_rfl) rfl ⟨d0, d6⟩ (fun hHeld => ?_)
  have H2 := Lib.hid (And.intro (H.out.next (below_drew W)) (below_drew W))
  clear d0 d5 d6 H
  generalize W.drew = W2 at *
  refine Pl [0, 1, 2, 3, 5, 6, 7, 8] ?_
  iterate 8 (refine Pd rfl (by intro w' hSw; have q0 := hSw.1; have q1 := hSw.2; go_simp; try with_reducible rfl) ?_; simp only [Act.put, uA, uB, uC])
  refine Pn ?_
  have HL := Lib.hid (zlast_calls H2.out.1.s.zoneF hm)
  refine ord_one 4 rfl (by kernel_rfl) (by rfl) (fun K hK => ?_)
  go_wp2_with fail
  refine HL.out.mono ?_
  rintro e W3 ⟨rfl, q, rfl⟩
  have HB := Lib.hid (H2.out.2.trans ((below_drewN W2.heap.size W2 q).mono H2.out.2.size))
  have hH3 : (W2.drewN q).cell? ⟨sb, 0, none⟩ = some (.pointer (some ⟨z, 0, none⟩)) ∧ (W2.drewN q).cell? ⟨sb, 6, none⟩ = some (.int .i64 0) := hHeld
  clear HL H2 hHeld
  generalize W2.drewN q = W3 at *
  go_wp2_with fail
  refine hK.out _ _ hH3 (fun hHeld => ?_)
  clear hK hH3
  try simp only [Act.put, uA, uB, uC]
  refine Pl [9, 10] ?_
  refine Pd (v := .int .i64 0) rfl (by intro w' hSw; kernel_rfl) ?_
  simp only [Act.put, uA, uB, uC]
  refine Pc rfl ?_
  simp only [Act.put, uA, uB, uC]
  refine Pn ?_
  refine wpAnyH_done (by kernel_rfl) ?_ _
  clear hHeld
  go_wp2_with fail
  go_ret
  exact ⟨rfl, HB.out⟩
end
end Go.Proofs.YtogdfkilhpkloaaGreatDoor

namespace Go.Proofs.YtogdfkilhpkloaaGreatDoor
open Go.RowKit Go.Sat Go.Maps

set_option maxRecDepth 100000 in
set_option maxHeartbeats 8000000 in
theorem pair22_calls (w : World) : Calls Tryz.prog 76 #[.slice none 0 0] w fun e w' => ∃ z y d D1, e = .returned (.tuple #[.pointer (some ⟨z, 0, none⟩), y]) ∧ ZoneF w w' z d H5 (zpre 5) D1 (MM (some (0, zdata H5 [0, 0, 0, 0])) []) E0 (.slice none 0 0) false NoF := by
  obtain ⟨D1, ho, hw⟩ := laid5
  have Hl := Lib.hid (And.intro ho hw)
  have Hnew := Lib.hid (st_new (w := w) (w1 := w) 262144 (by decide) (by decide) (Below.refl _ _))
  clear ho hw
  go_enter Tryz.func76, Tryz.ntmps76
  go_wp2_with fail
  refine Hnew.out.mono ?_
  rintro e W1 ⟨d, rfl, hd⟩
  have Hd := Lib.hid (show St w W1 d (DiskM.fresh 262144) NoF from hd)
  clear hd Hnew
  go_wp2_with fail
  refine (rnew_calls W1 262144 (by decide) (by decide)).mono ?_
  rintro e W2 ⟨r, rfl, hR, hb, hr⟩
  have H2 := Lib.hid (And.intro (show RefIn W2 r (.slice none 0 0) [] (fun k => k = r) (DiskM.fresh 262144) from hR) (And.intro hb hr))
  clear hR hb hr
  have hno := new_block W2 REconO
  have HB := Lib.hid (box_below W2 REconO)
  have HE := Lib.hid (renc0_calls hno)
  unfold REconO at HE HB
  clear hno
  go_wp2_with fail
  refine HE.out.mono ?_
  rintro e W3 ⟨v, rfl, hv, hvn, hb⟩
  obtain ⟨pv, cv, rfl, hcap⟩ := own_cap0 hv
  have hb23 : Below W2.heap.size W2 W3 := HB.out.trans (hb.mono HB.out.size)
  have hb13 : Below W1.heap.size W1 W3 := H2.out.2.1.trans (hb23.mono H2.out.2.1.size)
  have hrl : r < W2.heap.size := H2.out.1.olt r rfl
  have h32 : r < W3.heap.size := Nat.lt_of_lt_of_le hrl hb23.size
  have hv4 : ∀ k, (Value.slice pv 4 cv).ownBlock = some k → W1.heap.size ≤ k ∧ k < W3.heap.size := fun k hk => ⟨Nat.le_trans H2.out.2.1.size (Nat.le_trans HB.out.size (hvn k hk)), OwnR.lt hv hk⟩
  have HM := Lib.hid (make0_calls (F := fun k => W1.heap.size ≤ k ∧ k < W3.heap.size) (Hd.out.more hb13 fun k hk => ⟨.inr hk.1, hk.2⟩) H5 H5_is 5 rfl (by decide) 0 (by decide) hv.has Hl.out.1 Hl.out.2 (by have := zd5_len; omega))
  have H3 := Lib.hid (And.intro (H2.out.1.below hb23) (And.intro hv (And.intro hcap (And.intro H2.out.2.2 (And.intro h32 (And.intro hv4 Hd.out.below))))))
  clear hv hvn hb hb23 hb13 hrl h32 hv4 HE HB H2 Hd hcap
  go_wp2_with (refine bbuild rfl 35 #[(0, .const (.int .i64 5)), (2, .const (.int .i64 1)), (3, .const (.int .i64 1))] rfl (v := .agg #[.int .i64 H5.id, .string H5.fr, .string H5.tu, .int .i64 H5.epoch, .int .i64 H5.state]) (by kernel_rfl) ?_)
  refine HM.out.mono ?_
  rintro e W4 ⟨z, rfl, hZ, hsm⟩
  have h34 : W3.heap.size ≤ W4.heap.size := by
    obtain ⟨_, _, _, _, _, _, _, hL, _⟩ := hZ
    have h1 := hL.flt (k := W3.heap.size - 1) (.inl ⟨by have := H3.out.2.2.2.1; have := H3.out.2.2.2.2.1; omega, by have := H3.out.2.2.2.2.1; omega⟩)
    have := H3.out.2.2.2.2.1
    omega
  have HR := Lib.hid (rmake0_calls (H3.out.1.keep (w' := W4) h34 (fun k hk => hsm k ⟨by rw [hk]; exact H3.out.2.2.2.1, by rw [hk]; exact H3.out.2.2.2.2.1⟩)) (OwnB.has (OwnR.keep H3.out.2.1 fun k hk => hsm k (H3.out.2.2.2.2.2.1 k hk))) H3.out.2.2.1)
  have HZ := Lib.hid hZ
  have H4 := Lib.hid (And.intro h34 (And.intro H3.out.2.2.2.1 (And.intro H3.out.2.2.2.2.1 H3.out.2.2.2.2.2.2)))
  clear hZ hsm h34 HM H3
  go_wp2_with (refine bbuild rfl 42 #[(0, .const (.int .i64 5)), (2, .const (.int .i64 1)), (3, .const (.int .i64 1))] rfl (v := .agg #[.int .i64 5, .string ⟨#[]⟩, .string ⟨#[]⟩, .int .i64 1, .int .i64 1]) (by kernel_rfl) ?_)
  refine HR.out.mono ?_
  rintro e W5 ⟨y, x, rfl, hc⟩
  have H5' := Lib.hid (HZ.out.move (F' := NoF) hc (fun k hk e => by rw [e]; exact ⟨⟨H4.out.2.1, H4.out.2.2.1⟩, Nat.le_trans H4.out.2.2.2.size H4.out.2.1⟩) fun k hk => hk.elim)
  clear hc HR HZ H4
  go_wp2_with fail
  go_loopw [13] (fun i wr => i = .int .i64 0 ∧ wr = W5) (fun _ _ => 0)
  case atStart => exact ⟨rfl, rfl⟩
  case round =>
    obtain ⟨rfl, hwr⟩ := hrel
    obtain rfl := hwr.symm
    clear Hl
    go_wp2_with fail
    go_ret2
    exact ⟨z, ⟨y, rfl⟩, d, D1, H5'.out⟩
theorem DoS.hitS {w w1 W W' : World} {z d eb l vm sm tm am : Nat} {h : HeadM} {pre : ByteArray} {D : DiskM} {M : LedM} {E : EcoR} {own : Nat → Option (Nat × Bs)} {ev : Value} {F G S : Nat → Prop} (hK : DoS w w1 z d eb l vm sm tm am h pre D M E own ev F G W) (hc : Chg S W W') (hq : ∀ k, S k → G k) : DoS w w1 z d eb l vm sm tm am h pre D M E own ev F G W' :=
  ⟨hK.led.move hc (fun k _ hs => ⟨.inr (.inr (.inr (.inr (hq k hs)))), hK.lg _ (hq k hs)⟩) (fun _ hk => ⟨.inl hk, Nat.lt_of_lt_of_le (hK.flt hk) hc.size⟩), (hc.block z (lt_of_block hK.zon) fun e => (hK.gz _ (hq _ e)).1 rfl).trans hK.zon, hK.eco.keep (fun k hk => hc.block k (hK.eco.oLt k hk) fun e => hk (hK.gz _ (hq _ e)).2.1) hc.size, fun k hk => (hc.block k (hK.flt (.inl hk)) fun e => (hK.fz k hk).2.2.2 (hq _ e)).trans (hK.same k hk), hK.fz, hK.nz, hK.ne, hK.gz, hK.lz, hK.lo, hK.le, hK.lg⟩
set_option maxRecDepth 100000 in
set_option maxHeartbeats 8000000 in
theorem known22_calls (w : World) : Calls Tryz.prog 35 #[] w (RetB true w) := by
  have HP := Lib.hid (pair22_calls w)
  go_enter Tryz.func35, Tryz.ntmps35
  go_wp2_with fail
  refine HP.out.mono ?_
  rintro e W1 ⟨z, y, d, D1, rfl, hZ⟩
  obtain ⟨eb, l, vm, sm, tm, am, own, hS⟩ := hZ.doS
  have HN := Lib.hid (snew_calls hS (m := 0) rfl 2)
  have HB := Lib.hid hZ.bel
  clear hZ hS HP
  go_wp2_with fail
  refine HN.out.mono ?_
  rintro e W2 ⟨sb, pi, ci, ob, p, c, rfl, hO, hcap, hso, hpo, hws, hS, hb⟩
  have H2 := Lib.hid (And.intro hO (And.intro hcap (And.intro hso (And.intro hS (HB.out.trans (hb.mono HB.out.size))))))
  have HX := Lib.hid (snext_calls hS.s.zon hS.src hO hcap)
  clear hO hcap hso hpo hws hS hb HN HB
  go_wp2_with fail
  refine HX.out.mono ?_
  rintro e W3 ⟨p', c', rfl, hb⟩
  have H3 := Lib.hid (show OutIn W2 ob p 4 c [0, 0, 0, 0] 0 ∧ sb < ob ∧ SrS w W1 z d eb l vm sm tm am H5 (zpre 5) D1 (MM (some (0, zdata H5 [0, 0, 0, 0])) []) own (.slice none 0 0) (fun k => (NoF k ∨ k = sb) ∨ k = ob) sb (SrcO z 2 (.slice pi 4 ci) (0 : Nat) (.pointer (some ⟨ob, 0, none⟩)) false 0) W3 ∧ W3.heap[ob]? = some (OutO p 4 c 0) ∧ ob < W3.heap.size ∧ Below w.heap.size w W3 from ⟨H2.out.1, H2.out.2.2.1, H2.out.2.2.2.1.next hb, (hb.block _ (lt_of_block H2.out.1.cells)).trans H2.out.1.cells, Nat.lt_of_lt_of_le (lt_of_block H2.out.1.cells) hb.size, H2.out.2.2.2.2.trans (hb.mono H2.out.2.2.2.2.size)⟩)
  clear hb HX H2
  go_wp2_with (first
    | (refine balloc rfl 70 rfl (Tryz.zeroValue70 _) (by decide) ?_; intro W4 hn hb hs; have H4 := Lib.hid (And.intro hn (And.intro hb hs)); clear hn hb hs)
    | (refine bstore rfl 70 (.tmp 4) (.tmp 17) rfl W3.heap.size rfl (L := WdL 7 5 2 0 4 0 (.slice p' 4 c')) rfl H4.out.1 rfl (by kernel_rfl) (WdL_one _ _ _ _ _ _ _ _ _) ?_; intro W5 hn hc; have H5' := Lib.hid (And.intro hn (chgOne H4.out.2.1 hc (Nat.le_refl _))); clear hn hc H4; have c4 := cell_of H5'.out.1 (i := 4) (v := .int .i64 4) rfl)
    | (refine bbuild rfl 70 #[(0, .const (.int .i64 8)), (1, .const (.int .i64 5)), (2, .const (.int .i64 2)), (3, .const (.int .i64 0)), (5, .tmp 21)] rfl (v := .agg (WdL 8 5 2 0 0 4 (.slice none 0 0)).toArray) (by kernel_rfl) ?_))
  have HH := Lib.hid (shear_calls ((H5'.out.2.block _ (lt_of_block H3.out.2.2.1.s.zon)).trans H3.out.2.2.1.s.zon) ((H5'.out.2.block _ (lt_of_block H3.out.2.2.1.src)).trans H3.out.2.2.1.src) ((H5'.out.2.block _ H3.out.2.2.2.2.1).trans H3.out.2.2.2.1) (by have := H3.out.2.1; omega))
  refine HH.out.mono ?_
  rintro e W6 ⟨rfl, hs, hc⟩
  have hsl := lt_of_block H3.out.2.2.1.src
  have hwb := (hc.block _ (lt_of_block H5'.out.1) (fun e => by have := H3.out.2.2.2.2.1; rcases e with e | e <;> omega)).trans H5'.out.1
  have hS6 : SrS w W1 z d eb l vm sm tm am H5 (zpre 5) D1 (MM (some (0, zdata H5 [0, 0, 0, 0])) []) own (.slice none 0 0) (fun k => (NoF k ∨ k = sb) ∨ k = ob) sb (SrcO z 2 (.slice pi 4 ci) (0 : Nat) (.pointer (some ⟨ob, 0, none⟩)) true 0) W6 := ⟨(H3.out.2.2.1.s.next H5'.out.2).hitS hc fun k e => e.imp .inr id, hs, .inl (.inr rfl)⟩
  have HL := Lib.hid (slag_calls hS6 rfl)
  have HB := Lib.hid (hS6.s.led.bel)
  have d0 := cell_of hwb (i := 0) (v := .int .i64 7) rfl
  have d4 := cell_of hwb (i := 4) (v := .int .i64 4) rfl
  clear hsl hwb hS6 hs hc HH H5' H3 c4
  go_wp2_with fail
  refine HL.out.mono ?_
  rintro e W7 ⟨rfl, hb⟩
  have HE := Lib.hid (HB.out.trans (hb.mono HB.out.size))
  clear hb d0 d4 HL HB
  go_wp2_with fail
  go_ret
  exact ⟨rfl, HE.out⟩
end Go.Proofs.YtogdfkilhpkloaaGreatDoor

namespace Go.Proofs.YtogdfkilhpkloaaGreatDoor
open Go.RowKit Go.Sat Go.Maps

def zcells (y : Nat) : Array Value := madeCells #[.int .u8 0] y

theorem zmk (w : World) (o : Obj) {y : Nat} (hy : y ≤ 100) : (Instr.makeSlice 39 (.int .i64 (y : Int)) (.int .i64 (y : Int))).run Tryz.prog (w.alloc o) = .ok (.slice (some ⟨w.heap.size + 1, 0, none⟩) y y) ((w.alloc o).alloc (.cells (zcells y) 5)) := by
  obtain ⟨i0, hi, hz0, hz1, hz2⟩ := info_parts (show (Tryz.prog.info? 5).map (fun i => (i.zero, i.size, i.bytes)) = some (some (.int .u8 0), 1, 1) by kernel_rfl)
  have h := run_makeSlice (P := Tryz.prog) (w.alloc o) 39 5 i0 (.int .u8 0) Tryz.underlying39 hi hz0 .i64 .i64 (y : Int) (y : Int) (by omega) (by omega) (by rw [hz1]; omega) (by rw [hz2]; omega) (by omega)
  rw [h, hz1, Nat.mul_one, Int.toNat_natCast, World.size_alloc]
  rfl

end Go.Proofs.YtogdfkilhpkloaaGreatDoor

namespace Go.Proofs.YtogdfkilhpkloaaGreatDoor
open Go.RowKit Go.Sat Go.Maps

def S0L : List Value := [.string ⟨#[]⟩, .string ⟨#[]⟩]
def O0L : List Value := (W0L.drop 10).take 12
def R0L : List Value := (W0L.drop 22).take 6
def M0L : List Value := [.int .i64 0, .int .i64 0, .slice none 0 0]
def C0L : List Value := [.int .i64 0, .int .i64 0, .int .i64 0, .int .i64 0, .string ⟨#[]⟩]
theorem range_part {w : World} {b : Nat} {L S : List Value} {t : TypeId} {fr : Nat × Nat} (h : w.heap[b]? = some (.cells L.toArray t fr)) (o : Nat) (hs : (L.drop o).take S.length = S) : w.rangeAt b o S := fun j v hj => by
  refine cell_of h ?_
  have h2 := hj
  rw [← hs, List.getElem?_take] at h2
  split at h2
  · rw [List.getElem?_drop] at h2
    simpa using h2
  · cases h2
section
variable {P : Program} {ops : Array Oper} {rest : List Oper} {op : Oper} {a : Act} {w : World} {Q : Exit → Act → World → Prop}
/-- A struct within a struct is loaded. -/
theorem bloadAt (hw : Region.wanted op (yielded ops a.tmps) = true) (ty : TypeId) (x : Operand) (ho : op.op = .load ty x) (b o : Nat) (hx : a.eval x = .pointer (some ⟨b, o, none⟩)) {L S : List Value} {t : TypeId} {fr : Nat × Nat} (hb : w.heap[b]? = some (.cells L.toArray t fr)) (hs : (L.drop o).take S.length = S) {d : TypeDesc}
    (hu : P.underlying ty = some d) (hd : d.isRow = true) (hi : (P.info? ty).map (·.size) = some S.length) (h : wpList P ops Q rest (a.put op.dst (.agg S.toArray)) w) : wpList P ops Q (op :: rest) a w :=
  BigFrame.wpList_want hw fun _ hK => wp_load_mid ty x ho b o hx S d (range_part hb o hs) hu hd hi (hK _ _ h)
/-- Two values of one type are compared. -/
theorem beql (hw : Region.wanted op (yielded ops a.tmps) = true) (ty rt : TypeId) (x y : Operand) (ho : op.op = .binOp .eql ty x y rt) (u v : Value) (hx : a.eval x = u) (hy : a.eval y = v) (c : Bool) (hr : (do eqGuard .eql ty x y u v; binOp .eql ty u v : Sem Value).run P w = .ok (.bool c) w) (h : wpList P ops Q rest (a.put op.dst (.bool c)) w) : wpList P ops Q (op :: rest) a w := by
  refine BigFrame.wpList_want hw fun K hK => ?_
  unfold Oper.wp execOp
  simp only [ho, hx, hy]
  rw [Sem.run_bind, hr]
  exact hK _ _ h
end

end Go.Proofs.YtogdfkilhpkloaaGreatDoor

namespace Go.Proofs.YtogdfkilhpkloaaGreatDoor
open Go.RowKit Go.Sat Go.Maps

set_option maxRecDepth 100000 in
set_option maxHeartbeats 4000000 in
theorem msame_calls (w : World) : Calls Tryz.prog 75 #[.agg M0L.toArray, .agg M0L.toArray] w (RetB true w) := by
  unfold M0L
  go_enter Tryz.func75, Tryz.ntmps75
  go_wp2_with (first
    | (refine bbox rfl 66 (.tmp 0) rfl (L := M0L) rfl ?_; intro w2 hn1 hb1 hs1; have H2 := Lib.hid (And.intro hn1 (And.intro hb1 hs1)); clear hn1 hb1 hs1)
    | (refine bbox rfl 66 (.tmp 1) rfl (L := M0L) rfl ?_; intro w3 hn2 hb2 hs2; have hk := (hb2.block w.heap.size (lt_of_block H2.out.1)).trans H2.out.1; have ca0 := cell_of hk (i := 0) (v := .int .i64 0) rfl; have ca1 := cell_of hk (i := 1) (v := .int .i64 0) rfl; have ca2 := cell_of hk (i := 2) (v := .slice none 0 0) rfl; have cb0 := cell_of hn2 (i := 0) (v := .int .i64 0) rfl; have cb1 := cell_of hn2 (i := 1) (v := .int .i64 0) rfl; have cb2 := cell_of hn2 (i := 2) (v := .slice none 0 0) rfl; have HB := Lib.hid (H2.out.2.1.trans (hb2.mono H2.out.2.1.size)); clear hn2 hb2 hs2 H2 hk))
  go_loopw [5] (fun i wr => i = .int .i64 0 ∧ wr = w3) (fun _ _ => 0)
  case atStart => exact ⟨rfl, rfl⟩
  case round =>
    obtain ⟨rfl, rfl⟩ := hrel
    go_wp2_with fail
    go_ret
    exact ⟨rfl, HB.out⟩
set_option maxRecDepth 100000 in
set_option maxHeartbeats 8000000 in
theorem wsame_calls (w : World) : Calls Tryz.prog 31 #[.agg W0L.toArray, .agg W0L.toArray] w (RetB true w) := by
  have HM := Lib.hid msame_calls
  have hcv : ∀ W : World, (convert 39 9 (.slice none 0 0)).run Tryz.prog W = .ok (.string ⟨#[]⟩) W := fun W => Go.run_convert_bytes_nil W 39 5 Tryz.underlying39 Tryz.underlying5 _ _ 9 Tryz.underlying9
  go_enter Tryz.func31, Tryz.ntmps31
  go_wp2_with (first
    | (refine bbox rfl 77 (.tmp 0) rfl (L := W0L) rfl ?_; intro w2 hn1 hb1 hs1; have H2 := Lib.hid (And.intro hn1 (And.intro hb1 hs1)); clear hn1 hb1 hs1)
    | (refine bbox rfl 77 (.tmp 1) rfl (L := W0L) rfl ?_; intro w3 hn2 hb2 hs2; have hk := (hb2.block w.heap.size (lt_of_block H2.out.1)).trans H2.out.1; have ca0 := cell_of hk (i := 0) (v := .int .i64 0) rfl; have ca1 := cell_of hk (i := 1) (v := .int .i64 0) rfl; have ca2 := cell_of hk (i := 2) (v := .int .i64 0) rfl; have ca3 := cell_of hk (i := 3) (v := .int .i64 0) rfl; have ca4 := cell_of hk (i := 4) (v := .int .i64 0) rfl; have ca5 := cell_of hk (i := 5) (v := .int .i64 0) rfl; have ca6 := cell_of hk (i := 6) (v := .int .i64 0) rfl; have ca7 := cell_of hk (i := 7) (v := .int .i64 0) rfl; have ca36 := cell_of hk (i := 36) (v := .slice none 0 0) rfl; have cb0 := cell_of hn2 (i := 0) (v := .int .i64 0) rfl; have cb1 := cell_of hn2 (i := 1) (v := .int .i64 0) rfl; have cb2 := cell_of hn2 (i := 2) (v := .int .i64 0) rfl; have cb3 := cell_of hn2 (i := 3) (v := .int .i64 0) rfl; have cb4 := cell_of hn2 (i := 4) (v := .int .i64 0) rfl; have cb5 := cell_of hn2 (i := 5) (v := .int .i64 0) rfl; have cb6 := cell_of hn2 (i := 6) (v := .int .i64 0) rfl; have cb7 := cell_of hn2 (i := 7) (v := .int .i64 0) rfl; have cb36 := cell_of hn2 (i := 36) (v := .slice none 0 0) rfl; have H3x := Lib.hid (And.intro hk (And.intro hn2 (H2.out.2.1.trans (hb2.mono H2.out.2.1.size)))); clear hn2 hb2 hs2 H2 hk)
    | (refine bloadAt rfl 27 (.tmp 60) rfl w.heap.size 8 rfl (S := S0L) H3x.out.1 rfl Tryz.underlying27 rfl (by kernel_rfl) ?_)
    | (refine bloadAt rfl 27 (.tmp 62) rfl w2.heap.size 8 rfl (S := S0L) H3x.out.2.1 rfl Tryz.underlying27 rfl (by kernel_rfl) ?_)
    | (refine bloadAt rfl 25 (.tmp 67) rfl w.heap.size 10 rfl (S := O0L) H3x.out.1 rfl Tryz.underlying25 rfl (by kernel_rfl) ?_)
    | (refine bloadAt rfl 25 (.tmp 69) rfl w2.heap.size 10 rfl (S := O0L) H3x.out.2.1 rfl Tryz.underlying25 rfl (by kernel_rfl) ?_)
    | (refine bloadAt rfl 48 (.tmp 74) rfl w.heap.size 22 rfl (S := R0L) H3x.out.1 rfl Tryz.underlying48 rfl (by kernel_rfl) ?_)
    | (refine bloadAt rfl 48 (.tmp 76) rfl w2.heap.size 22 rfl (S := R0L) H3x.out.2.1 rfl Tryz.underlying48 rfl (by kernel_rfl) ?_)
    | (refine bloadAt rfl 66 (.tmp 81) rfl w.heap.size 28 rfl (S := M0L) H3x.out.1 rfl Tryz.underlying66 rfl (by kernel_rfl) ?_)
    | (refine bloadAt rfl 66 (.tmp 83) rfl w2.heap.size 28 rfl (S := M0L) H3x.out.2.1 rfl Tryz.underlying66 rfl (by kernel_rfl) ?_)
    | (refine bloadAt rfl 68 (.tmp 88) rfl w.heap.size 31 rfl (S := C0L) H3x.out.1 rfl Tryz.underlying68 rfl (by kernel_rfl) ?_)
    | (refine bloadAt rfl 68 (.tmp 90) rfl w2.heap.size 31 rfl (S := C0L) H3x.out.2.1 rfl Tryz.underlying68 rfl (by kernel_rfl) ?_)
    | (refine beql rfl 27 27 (.tmp 61) (.tmp 63) rfl (.agg S0L.toArray) (.agg S0L.toArray) rfl rfl true (by kernel_rfl) ?_)
    | (refine beql rfl 25 25 (.tmp 68) (.tmp 70) rfl (.agg O0L.toArray) (.agg O0L.toArray) rfl rfl true (by kernel_rfl) ?_)
    | (refine beql rfl 48 48 (.tmp 75) (.tmp 77) rfl (.agg R0L.toArray) (.agg R0L.toArray) rfl rfl true (by kernel_rfl) ?_)
    | (refine beql rfl 68 68 (.tmp 89) (.tmp 91) rfl (.agg C0L.toArray) (.agg C0L.toArray) rfl rfl true (by kernel_rfl) ?_)
    )
  refine (HM.out _).mono ?_
  rintro e w4 ⟨rfl, hb⟩
  have H4 := Lib.hid (And.intro ((hb.block _ (lt_of_block H3x.out.1)).trans H3x.out.1) (And.intro ((hb.block _ (lt_of_block H3x.out.2.1)).trans H3x.out.2.1) (H3x.out.2.2.trans (hb.mono H3x.out.2.2.size))))
  clear hb HM ca0 cb0 ca1 cb1 ca2 cb2 ca3 cb3 ca4 cb4 ca5 cb5 ca6 cb6 ca7 cb7 ca36 cb36
  clear H3x
  have ca36 := cell_of H4.out.1 (i := 36) (v := .slice none 0 0) rfl
  have cb36 := cell_of H4.out.2.1 (i := 36) (v := .slice none 0 0) rfl
  go_wp2_with (first
    | (refine bloadAt rfl 68 (.tmp 88) rfl w.heap.size 31 rfl (S := C0L) H4.out.1 rfl Tryz.underlying68 rfl (by kernel_rfl) ?_)
    | (refine bloadAt rfl 68 (.tmp 90) rfl w2.heap.size 31 rfl (S := C0L) H4.out.2.1 rfl Tryz.underlying68 rfl (by kernel_rfl) ?_)
    | (refine beql rfl 68 68 (.tmp 89) (.tmp 91) rfl (.agg C0L.toArray) (.agg C0L.toArray) rfl rfl true (by kernel_rfl) ?_)
    )
  go_ret
  exact ⟨rfl, H4.out.2.2⟩
end Go.Proofs.YtogdfkilhpkloaaGreatDoor

namespace Go.Proofs.YtogdfkilhpkloaaGreatDoor
open Go.RowKit Go.Sat Go.Maps

set_option maxRecDepth 100000 in
set_option maxHeartbeats 8000000 in
theorem like22_calls (w : World) : Calls Tryz.prog 32 #[.agg W0L.toArray] w fun e w' => e = .returned (.agg W0L.toArray) ∧ Below w.heap.size w w' := by
  go_enter Tryz.func32, Tryz.ntmps32
  go_wp2_with (first
    | (refine bbox rfl 70 (.tmp 0) rfl rfl ?_; intro w2 hn1 hb1 hs1; have H2 := Lib.hid (And.intro hn1 (And.intro hb1 hs1)); clear hn1 hb1 hs1)
    | (refine balloc rfl 77 rfl (Tryz.zeroValue77 _) (by decide) ?_; intro w3 hn2 hb2 hs2; have hk := (hb2.block w.heap.size (lt_of_block H2.out.1)).trans H2.out.1; have c0 := cell_of hk (i := 0) (v := .int .i64 0) rfl; have c1 := cell_of hk (i := 1) (v := .int .i64 0) rfl; have c2 := cell_of hk (i := 2) (v := .int .i64 0) rfl; have c3 := cell_of hk (i := 3) (v := .int .i64 0) rfl; have c4 := cell_of hk (i := 4) (v := .int .i64 0) rfl; have c5 := cell_of hk (i := 5) (v := .int .i64 0) rfl; have c6 := cell_of hk (i := 6) (v := .int .i64 0) rfl; have c7 := cell_of hk (i := 7) (v := .int .i64 0) rfl; have c36 := cell_of hk (i := 36) (v := .slice none 0 0) rfl; have H3x := Lib.hid (And.intro hn2 (And.intro (H2.out.2.1.trans (hb2.mono H2.out.2.1.size)) (And.intro (show w.heap.size ≤ w2.heap.size by have := H2.out.2.2; omega) hk))); clear hn2 hb2 hs2 H2 hk)
    | (refine bloadAt rfl 27 (.tmp 19) rfl w.heap.size 8 rfl (S := S0L) H3x.out.2.2.2 rfl Tryz.underlying27 rfl (by kernel_rfl) ?_)
    | (refine bloadAt rfl 25 (.tmp 21) rfl w.heap.size 10 rfl (S := O0L) H3x.out.2.2.2 rfl Tryz.underlying25 rfl (by kernel_rfl) ?_)
    | (refine bloadAt rfl 48 (.tmp 23) rfl w.heap.size 22 rfl (S := R0L) H3x.out.2.2.2 rfl Tryz.underlying48 rfl (by kernel_rfl) ?_)
    | (refine bloadAt rfl 66 (.tmp 25) rfl w.heap.size 28 rfl (S := M0L) H3x.out.2.2.2 rfl Tryz.underlying66 rfl (by kernel_rfl) ?_)
    | (refine bloadAt rfl 68 (.tmp 27) rfl w.heap.size 31 rfl (S := C0L) H3x.out.2.2.2 rfl Tryz.underlying68 rfl (by kernel_rfl) ?_)
    | (refine bbuild rfl 77 #[(0, .tmp 4), (1, .tmp 6), (2, .tmp 8), (3, .tmp 10), (4, .tmp 12), (5, .tmp 14), (6, .tmp 16), (7, .tmp 18), (8, .tmp 20), (9, .tmp 22), (10, .tmp 24), (11, .tmp 26), (12, .tmp 28), (13, .tmp 30)] rfl (v := .agg W0L.toArray) (by kernel_rfl) ?_)
    | (refine bstore rfl 77 (.tmp 2) (.tmp 31) rfl w2.heap.size rfl rfl H3x.out.1 rfl (by kernel_rfl) W0L_one ?_; intro w4 hn hc; have H4 := Lib.hid (And.intro hn (chg_one H3x.out.2.1 hc H3x.out.2.2.1)); clear hn hc))
  refine bodyPost_ret (results_cell_row rfl _ _ w2.heap.size _ _ (0, 0) _ rfl H4.out.1 Tryz.underlying77 rfl (by kernel_rfl)) rfl ?_
  exact ⟨rfl, H4.out.2⟩
set_option maxRecDepth 100000 in
set_option maxHeartbeats 8000000 in
theorem snothing_walk (w : World) (ep : Int) (L : List Value) (hL : L.length = 37) : Calls Tryz.prog 6 #[.int .i64 ep, .agg L.toArray] w (RetB true w) := by
  have HI := Lib.hid (show (Tryz.prog.info? 70).map (·.size) = some L.length by rw [hL]; kernel_rfl)
  clear hL
  have HK := Lib.hid like22_calls
  have HS := Lib.hid wsame_calls
  have HN := Lib.hid known22_calls
  have HX := Lib.hid snext_nil
  have HH := Lib.hid (fun W => shear_nil W L)
  have HG := Lib.hid slag_nil
  have HE := Lib.hid sepoch_nil
  go_enter Tryz.func6, Tryz.ntmps6
  go_wp2_with (refine bbox rfl 70 (.tmp 1) rfl (L := L) rfl ?_; intro w2 hn1 hb1 hs1; have H2 := Lib.hid (And.intro hn1 hb1); clear hn1 hb1 hs1)
  refine (snew_nil _ ep).mono ?_
  rintro e w3 ⟨rfl, hw3⟩
  obtain rfl : w2 = w3 := hw3.symm
  go_wp2_with fail
  refine (HX.out _).mono ?_
  rintro e w3 ⟨rfl, hb⟩
  have H3 := Lib.hid (And.intro ((hb.block _ (lt_of_block H2.out.1)).trans H2.out.1) (H2.out.2.trans (hb.mono H2.out.2.size)))
  clear hb H2 HX
  go_wp2_with (first
    | (refine balloc rfl 70 rfl (Tryz.zeroValue70 _) (by decide) ?_; intro w4 hn2 hb2 hs2; have H4 := Lib.hid (And.intro hn2 hb2); clear hn2 hb2 hs2)
    | (refine bstore rfl 70 (.tmp 6) (.tmp 13) rfl w3.heap.size rfl (L := W0L) rfl H4.out.1 rfl (by kernel_rfl) W0L_one ?_; intro w5 hn hc; have H5 := Lib.hid (And.intro hn (chgOne H4.out.2 hc (Nat.le_refl _))); clear hn hc H4)
    | (refine bload rfl 70 (.tmp 3) rfl w.heap.size rfl (L := L) ((H5.out.2.block _ (lt_of_block H3.out.1)).trans H3.out.1) Tryz.underlying70 rfl HI.out ?_))
  refine (HH.out _).mono ?_
  rintro e w6 ⟨rfl, hb⟩
  have H6 := Lib.hid (And.intro ((hb.block _ (lt_of_block H5.out.1)).trans H5.out.1) (H3.out.2.trans ((H5.out.2.trans (hb.mono H5.out.2.size)).mono H3.out.2.size)))
  clear hb H5 H3 HH
  go_wp2_with (refine bload rfl 70 (.tmp 6) rfl w3.heap.size rfl (L := W0L) H6.out.1 Tryz.underlying70 rfl (by kernel_rfl) ?_)
  refine (HK.out _).mono ?_
  rintro e w7 ⟨rfl, hb⟩
  have H7 := Lib.hid (H6.out.2.trans (hb.mono H6.out.2.size))
  clear hb HK H6
  go_wp2_with (refine bbuild rfl 77 #[] rfl (v := .agg W0L.toArray) (by kernel_rfl) ?_)
  refine (HS.out _).mono ?_
  rintro e w8 ⟨rfl, hb⟩
  have H8 := Lib.hid (H7.out.trans (hb.mono H7.out.size))
  clear hb HS H7
  go_wp2_with fail
  refine (HG.out _).mono ?_
  rintro e w9 ⟨rfl, hw9⟩
  obtain rfl : w8 = w9 := hw9.symm
  go_wp2_with fail
  refine (HE.out _).mono ?_
  rintro e w9 ⟨rfl, hw9⟩
  obtain rfl : w8 = w9 := hw9.symm
  go_wp2_with fail
  refine (HN.out _).mono ?_
  rintro e w9 ⟨rfl, hb⟩
  have H9 := Lib.hid (H8.out.trans (hb.mono H8.out.size))
  clear hb HN H8
  go_wp2_with fail
  go_ret
  exact ⟨rfl, H9.out⟩
end Go.Proofs.YtogdfkilhpkloaaGreatDoor

namespace Go.Proofs.YtogdfkilhpkloaaGreatDoor
open Go.RowKit Go.Sat Go.ChangeShapes Go.WideShapes Go.ChangeAt Go.Deep

set_option maxRecDepth 100000 in
theorem int_argI {W : World} {base : Nat} {v : Value} (hv : Value.okWide Tryz.prog W .any base 3 v) : ∃ z, v = .int .i64 z := by
  simp only [Value.okWide, Tryz.underlying3] at hv
  simp only [Cell.okWide, Tryz.underlying3] at hv
  cases v <;> simp_all [Cell.ok]
end Go.Proofs.YtogdfkilhpkloaaGreatDoor

namespace Go.Proofs.YtogdfkilhpkloaaGreatDoor
open Go.RowKit Go.Sat Go.ChangeShapes Go.WideShapes Go.ChangeAt Go.Deep

set_option maxRecDepth 100000 in
theorem word_arg {W : World} {base : Nat} {v : Value} (hv : Value.okWide Tryz.prog W .any base 70 v) : ∃ (L : List Value) (p : Option Addr) (n c : Nat), v = .agg L.toArray ∧ L.length = 37 ∧ L[36]? = some (.slice p n c) := by
  have h37 : Tryz.prog.cellsOf 70 = 37 := by kernel_rfl
  have hts : (Tryz.prog.cellTypes Tryz.prog.depth 70).map (fun ts => (ts.length, ts[36]?)) = some (37, some 39) := by kernel_rfl
  simp only [Value.okWide, Tryz.underlying70] at hv
  obtain ⟨cs, rfl, hsz, ts, h1, -, h3⟩ := hv
  rw [h37] at hsz
  rw [h1] at hts
  simp only [Option.map_some, Option.some.injEq, Prod.mk.injEq] at hts
  obtain ⟨x, hx⟩ : ∃ x, cs[36]? = some x := ⟨_, Array.getElem?_eq_getElem (by rw [hsz]; exact Nat.lt_of_sub_eq_succ rfl)⟩
  obtain ⟨u, hu, hc⟩ := h3 36 x hx
  rw [hts.1, show 36 % 37 = 36 from rfl, hts.2] at hu
  cases hu
  simp only [Cell.okWide, Tryz.underlying39] at hc
  have hs : ∃ p n c, x = .slice p n c := by
    clear hx h3 hts h1 hsz
    cases x <;> simp_all [Cell.ok]
  obtain ⟨p, n, c, rfl⟩ := hs
  exact ⟨cs.toList, p, n, c, by simp, by simpa using hsz, by rw [Array.getElem?_toList]; exact hx⟩
end Go.Proofs.YtogdfkilhpkloaaGreatDoor
