/- The document's octet: Num, Nums. (Printed by mkrj1.py.) The document's: Nums, List, record, terms. (Printed by mkrj2.py.) The contract of satrapylaw4.known: it is true. KeepApart: what the disk keeps (a plain law). The document's disk: a cell of a file is written; Sync. The document's disk: Truncate. (Its walk is printed by mkr.py.) The document's journal: Group. The document's Is (satrapyref5). (Printed by mkrk1.py out of the text JouB.) The document's journal: List, first. (Printed by mkrj3.py.) journal: lays, SetTerm. (Printed by mkj8.py.) The document's order of a record's checks comes to the same (plain laws). The document's Decode (satrapyref2): the walk. The document's One (satrapyref2). The document's disk: its list of files is laid anew; parts of a list. The document's disk: Append. (Its walk is printed by mkr2.py.) -/
import Derived.StillTailTactics
import Derived.Test.YtogdfkilhpkloaaGreatDoorAA
import Derived.Test.YtogdfkilhpkloaaGreatDoorAE
import Derived.Test.YtogdfkilhpkloaaGreatDoorAI
namespace Go.Proofs.YtogdfkilhpkloaaGreatDoor
open Go.RowKit Go.Sat Go.Maps

/-- Bytes of a walk's own, gathered since w. -/
structure RowB (w W : World) (v : Value) (l : Bs) : Prop where
  own : OwnB W 5 v l
  new : ∀ k, v.ownBlock = some k → w.heap.size ≤ k
  bel : Below w.heap.size w W
theorem RowB.nil (w : World) : RowB w w (.slice none 0 0) [] := ⟨OwnR.nil _ _ _, fun k hk => (by cases hk), Below.refl _ _⟩
theorem RowB.next {w W W2 : World} {v : Value} {l : Bs} (h : RowB w W v l) (hb : Below W.heap.size W W2) : RowB w W2 v l := ⟨ownB_far h.own hb, h.new, h.bel.trans (hb.mono h.bel.size)⟩
theorem RowB.alloc {w W : World} {v : Value} {l : Bs} (h : RowB w W v l) (o : Obj) : RowB w (W.alloc o) v l := h.next (below_one W o)
theorem RowB.told {w W : World} {v : Value} {l : Bs} (h : RowB w W v l) : RowNew w l (.returned v) W := ⟨v, rfl, h.own, h.new, h.bel⟩
theorem RowB.grown {w W0 w3 : World} {v v3 : Value} {l x : Bs} (h : RowB w W0 v l) (hown : OwnR w3 5 1 v3 (l.length + x.length) (bytesV l ++ bytesV x)) (hg : W0.grownBy w3 v.ownBlock) (hloc : v3.ownBlock = v.ownBlock ∨ ∃ g, v3.ownBlock = some g ∧ W0.heap.size ≤ g) : RowB w w3 v3 (l ++ x) := by
  refine ⟨?_, own_ge hloc h.new h.bel.size, h.bel.grown hg h.bel.size fun j e => h.new j e⟩
  show OwnR _ _ _ _ (l ++ x).length (bytesV (l ++ x))
  rw [List.length_append, show bytesV (l ++ x) = bytesV l ++ bytesV x from List.map_append]
  exact hown

theorem or_high2 {a : Nat} (ha : a ≤ 4611686018427387904) : bits .or .u8 (bits .and .u64 (a : Int) 127 % 256) 128 = (((UInt8.ofNat (a % 128 + 128)).toNat : Nat) : Int) := by
  have h1 : bits .and .u64 (a : Int) 127 = ((a % 128 : Nat) : Int) := by
    refine (u64_and_nat a 127 (by omega) (by decide)).trans ?_
    rw [show (127 : Nat) = 2 ^ 7 - 1 from rfl, Nat.and_two_pow_sub_one_eq_mod]
  have h2 : ∀ y : Fin 256, (y.val ||| 128) = y.val % 128 + 128 := by decide +kernel
  have h3 : (a % 128 ||| 128) = a % 128 % 128 + 128 := h2 ⟨a % 128, by omega⟩
  rw [h1, show ((a % 128 : Nat) : Int) % 256 = ((a % 128 : Nat) : Int) by omega]
  refine (u8_or_nat (a % 128) 128 (by omega) (by decide)).trans ?_
  rw [h3, UInt8.toNat_ofNat']
  omega

set_option maxRecDepth 100000 in
set_option maxHeartbeats 4000000 in
theorem rnum1_calls (w : World) (z : Int) (hz : -9223372036854775808 ≤ z ∧ z ≤ 9223372036854775807) :
    Calls Tryz.prog 104 #[.int .i64 z] w (RowNew w (numI z)) := by
  obtain ⟨i0, hi, hz0, hz1, hz2⟩ := info_parts (show (Tryz.prog.info? 5).map (fun i => (i.zero, i.size, i.bytes)) = some (some (.int .u8 0), 1, 1) by kernel_rfl)
  obtain ⟨hza, hzb⟩ := hz
  have main : ∀ (K : Nat), (K = (max 0 (min z 4611686018427387904)).toNat) → K ≤ 4611686018427387904 := fun K hK => by omega
  have HN := Lib.hid (show numI z = numB (max 0 (min z 4611686018427387904)).toNat from rfl)
  generalize hN : (max 0 (min z 4611686018427387904)).toNat = N at *
  have hN2 : N ≤ 4611686018427387904 := main N rfl
  have HNz := Lib.hid hN
  clear main hN
  go_enter Tryz.func104, Tryz.ntmps104
  by_cases h1 : 4611686018427387904 < z
  · have hNe : N = 4611686018427387904 := by have := HNz.out; omega
    have HNe := Lib.hid hNe
    clear hNe
    go_wp2_with fail
    go_loopw [3, 4] (fun u b wr => ∃ (a : Nat) (cur : Bs) (bv : Value), u = .int .u64 a ∧ bv = b ∧ a ≤ 4611686018427387904 ∧ RowB w wr bv cur ∧ cur ++ numB a = numB N) (fun u _ _ => (intOf u).toNat)
    case atStart => exact ⟨4611686018427387904, [], _, rfl, rfl, Nat.le_refl _, RowB.nil w, by rw [HNe.out]; rfl⟩
    case round =>
      obtain ⟨a, cur, bv, rfl, rfl, ha, hst, hcur⟩ := hrel
      have hlen := numB_nine hN2
      rw [← hcur, List.length_append] at hlen
      have hba := numB_len a
      have Hst := Lib.hid hst
      have Hcur := Lib.hid hcur
      obtain ⟨pv, cv, rfl, -⟩ := own_cap0 hst.own
      clear hst hcur
      generalize hL : cur.length = m at *
      have HL := Lib.hid hL
      clear hL
      have Hrow := Lib.hid (show OwnR wr 5 1 (.slice pv m cv) m (bytesV cur) by have := Hst.out.own; unfold OwnB at this; rwa [HL.out] at this)
      by_cases h128 : 128 ≤ a
      · have Hmore := Lib.hid (numB_more h128)
        have hor := or_high2 ha
        generalize UInt8.ofNat (a % 128 + 128) = x at *
        go_wp2_with (at_builtin; have hal := mark_own0 Hrow.out (.cells #[.int .u8 (x.toNat : Int)] 5); have hxx := lit_one wr x; refine wpList_app _ rfl (.tmp 13) (.tmp 18) 39 rfl 5 i0 (.int .u8 0) 1 1 Tryz.underlying39 hi hz0 hz1 hz2 rfl (by decide) (.slice pv m cv) m _ rfl hal (.slice (some ⟨wr.heap.size, 0, none⟩) 1 1) 1 _ rfl hxx (bytesV_one _) (by unfold maxLen; omega) (by omega) ?_; clear hal hxx; intro v3 w3 hown3 hgrow3 hloc3; go_loud (have HE := Lib.hid (RowB.grown (x := [x]) (Hst.out.alloc (.cells #[.int .u8 (x.toNat : Int)] 5)) (by rw [HL.out]; exact hown3) hgrow3 hloc3); clear hgrow3 hloc3; obtain ⟨p3, q3, rfl⟩ := OwnR.shape hown3; clear hown3))
        go_roundw
        case rel => exact ⟨a / 128, cur ++ [x], _, by first | rfl | go_num, rfl, by omega, HE.out, by rw [← Hcur.out, Hmore.out]; simp⟩
        case measure => simp [intOf]; omega
      · have Hless := Lib.hid (numB_small (n := a) (by omega))
        obtain ⟨x, hx⟩ : ∃ x : UInt8, a = x.toNat := ⟨UInt8.ofNat a, by rw [UInt8.toNat_ofNat']; omega⟩
        rw [show UInt8.ofNat a = x by rw [hx]; simp] at Hless
        subst hx
        have hwr : (x.toNat : Int) % 256 = (x.toNat : Int) := by omega
        have hax := x.toNat_lt
        go_wp2_with (at_builtin; have hal := mark_own0 Hrow.out (.cells #[.int .u8 (x.toNat : Int)] 5); have hxx := lit_one wr x; refine wpList_app _ rfl (.tmp 22) (.tmp 25) 39 rfl 5 i0 (.int .u8 0) 1 1 Tryz.underlying39 hi hz0 hz1 hz2 rfl (by decide) (.slice pv m cv) m _ rfl hal (.slice (some ⟨wr.heap.size, 0, none⟩) 1 1) 1 _ rfl hxx (bytesV_one _) (by unfold maxLen; omega) (by omega) ?_; clear hal hxx; intro v3 w3 hown3 hgrow3 hloc3; go_loud (have HE := Lib.hid (RowB.grown (x := [x]) (Hst.out.alloc (.cells #[.int .u8 (x.toNat : Int)] 5)) (by rw [HL.out]; exact hown3) hgrow3 hloc3); clear hgrow3 hloc3; obtain ⟨p3, q3, rfl⟩ := OwnR.shape hown3; clear hown3))
        go_ret
        have := HE.out.told
        rw [HN.out, ← Hcur.out, Hless.out]
        exact this
  · by_cases h2 : 0 < z
    · have hcv : IntKind.u64.wrap z = z := by rw [show IntKind.u64.wrap z = z % 18446744073709551616 from rfl]; omega
      have hcv2 : z % 18446744073709551616 = z := by omega
      have hNe : z = (N : Int) := by have := HNz.out; omega
      have HNe := Lib.hid hNe
      clear hNe
      go_wp2_with fail
      go_loopw [3, 4] (fun u b wr => ∃ (a : Nat) (cur : Bs) (bv : Value), u = .int .u64 a ∧ bv = b ∧ a ≤ 4611686018427387904 ∧ RowB w wr bv cur ∧ cur ++ numB a = numB N) (fun u _ _ => (intOf u).toNat)
      case atStart => exact ⟨N, [], _, by rw [HNe.out], rfl, hN2, RowB.nil w, rfl⟩
      case round =>
        obtain ⟨a, cur, bv, rfl, rfl, ha, hst, hcur⟩ := hrel
        have hlen := numB_nine hN2
        rw [← hcur, List.length_append] at hlen
        have hba := numB_len a
        have Hst := Lib.hid hst
        have Hcur := Lib.hid hcur
        obtain ⟨pv, cv, rfl, -⟩ := own_cap0 hst.own
        clear hst hcur
        generalize hL : cur.length = m at *
        have HL := Lib.hid hL
        clear hL
        have Hrow := Lib.hid (show OwnR wr 5 1 (.slice pv m cv) m (bytesV cur) by have := Hst.out.own; unfold OwnB at this; rwa [HL.out] at this)
        by_cases h128 : 128 ≤ a
        · have Hmore := Lib.hid (numB_more h128)
          have hor := or_high2 ha
          generalize UInt8.ofNat (a % 128 + 128) = x at *
          go_wp2_with (at_builtin; have hal := mark_own0 Hrow.out (.cells #[.int .u8 (x.toNat : Int)] 5); have hxx := lit_one wr x; refine wpList_app _ rfl (.tmp 13) (.tmp 18) 39 rfl 5 i0 (.int .u8 0) 1 1 Tryz.underlying39 hi hz0 hz1 hz2 rfl (by decide) (.slice pv m cv) m _ rfl hal (.slice (some ⟨wr.heap.size, 0, none⟩) 1 1) 1 _ rfl hxx (bytesV_one _) (by unfold maxLen; omega) (by omega) ?_; clear hal hxx; intro v3 w3 hown3 hgrow3 hloc3; go_loud (have HE := Lib.hid (RowB.grown (x := [x]) (Hst.out.alloc (.cells #[.int .u8 (x.toNat : Int)] 5)) (by rw [HL.out]; exact hown3) hgrow3 hloc3); clear hgrow3 hloc3; obtain ⟨p3, q3, rfl⟩ := OwnR.shape hown3; clear hown3))
          go_roundw
          case rel => exact ⟨a / 128, cur ++ [x], _, by first | rfl | go_num, rfl, by omega, HE.out, by rw [← Hcur.out, Hmore.out]; simp⟩
          case measure => simp [intOf]; omega
        · have Hless := Lib.hid (numB_small (n := a) (by omega))
          obtain ⟨x, hx⟩ : ∃ x : UInt8, a = x.toNat := ⟨UInt8.ofNat a, by rw [UInt8.toNat_ofNat']; omega⟩
          rw [show UInt8.ofNat a = x by rw [hx]; simp] at Hless
          subst hx
          have hwr : (x.toNat : Int) % 256 = (x.toNat : Int) := by omega
          have hax := x.toNat_lt
          go_wp2_with (at_builtin; have hal := mark_own0 Hrow.out (.cells #[.int .u8 (x.toNat : Int)] 5); have hxx := lit_one wr x; refine wpList_app _ rfl (.tmp 22) (.tmp 25) 39 rfl 5 i0 (.int .u8 0) 1 1 Tryz.underlying39 hi hz0 hz1 hz2 rfl (by decide) (.slice pv m cv) m _ rfl hal (.slice (some ⟨wr.heap.size, 0, none⟩) 1 1) 1 _ rfl hxx (bytesV_one _) (by unfold maxLen; omega) (by omega) ?_; clear hal hxx; intro v3 w3 hown3 hgrow3 hloc3; go_loud (have HE := Lib.hid (RowB.grown (x := [x]) (Hst.out.alloc (.cells #[.int .u8 (x.toNat : Int)] 5)) (by rw [HL.out]; exact hown3) hgrow3 hloc3); clear hgrow3 hloc3; obtain ⟨p3, q3, rfl⟩ := OwnR.shape hown3; clear hown3))
          go_ret
          have := HE.out.told
          rw [HN.out, ← Hcur.out, Hless.out]
          exact this
    · have hNe : N = 0 := by have := HNz.out; omega
      have HNe := Lib.hid hNe
      clear hNe
      go_wp2_with fail
      go_loopw [3, 4] (fun u b wr => ∃ (a : Nat) (cur : Bs) (bv : Value), u = .int .u64 a ∧ bv = b ∧ a ≤ 4611686018427387904 ∧ RowB w wr bv cur ∧ cur ++ numB a = numB N) (fun u _ _ => (intOf u).toNat)
      case atStart => exact ⟨0, [], _, rfl, rfl, by decide, RowB.nil w, by rw [HNe.out]; rfl⟩
      case round =>
        obtain ⟨a, cur, bv, rfl, rfl, ha, hst, hcur⟩ := hrel
        have hlen := numB_nine hN2
        rw [← hcur, List.length_append] at hlen
        have hba := numB_len a
        have Hst := Lib.hid hst
        have Hcur := Lib.hid hcur
        obtain ⟨pv, cv, rfl, -⟩ := own_cap0 hst.own
        clear hst hcur
        generalize hL : cur.length = m at *
        have HL := Lib.hid hL
        clear hL
        have Hrow := Lib.hid (show OwnR wr 5 1 (.slice pv m cv) m (bytesV cur) by have := Hst.out.own; unfold OwnB at this; rwa [HL.out] at this)
        by_cases h128 : 128 ≤ a
        · have Hmore := Lib.hid (numB_more h128)
          have hor := or_high2 ha
          generalize UInt8.ofNat (a % 128 + 128) = x at *
          go_wp2_with (at_builtin; have hal := mark_own0 Hrow.out (.cells #[.int .u8 (x.toNat : Int)] 5); have hxx := lit_one wr x; refine wpList_app _ rfl (.tmp 13) (.tmp 18) 39 rfl 5 i0 (.int .u8 0) 1 1 Tryz.underlying39 hi hz0 hz1 hz2 rfl (by decide) (.slice pv m cv) m _ rfl hal (.slice (some ⟨wr.heap.size, 0, none⟩) 1 1) 1 _ rfl hxx (bytesV_one _) (by unfold maxLen; omega) (by omega) ?_; clear hal hxx; intro v3 w3 hown3 hgrow3 hloc3; go_loud (have HE := Lib.hid (RowB.grown (x := [x]) (Hst.out.alloc (.cells #[.int .u8 (x.toNat : Int)] 5)) (by rw [HL.out]; exact hown3) hgrow3 hloc3); clear hgrow3 hloc3; obtain ⟨p3, q3, rfl⟩ := OwnR.shape hown3; clear hown3))
          go_roundw
          case rel => exact ⟨a / 128, cur ++ [x], _, by first | rfl | go_num, rfl, by omega, HE.out, by rw [← Hcur.out, Hmore.out]; simp⟩
          case measure => simp [intOf]; omega
        · have Hless := Lib.hid (numB_small (n := a) (by omega))
          obtain ⟨x, hx⟩ : ∃ x : UInt8, a = x.toNat := ⟨UInt8.ofNat a, by rw [UInt8.toNat_ofNat']; omega⟩
          rw [show UInt8.ofNat a = x by rw [hx]; simp] at Hless
          subst hx
          have hwr : (x.toNat : Int) % 256 = (x.toNat : Int) := by omega
          have hax := x.toNat_lt
          go_wp2_with (at_builtin; have hal := mark_own0 Hrow.out (.cells #[.int .u8 (x.toNat : Int)] 5); have hxx := lit_one wr x; refine wpList_app _ rfl (.tmp 22) (.tmp 25) 39 rfl 5 i0 (.int .u8 0) 1 1 Tryz.underlying39 hi hz0 hz1 hz2 rfl (by decide) (.slice pv m cv) m _ rfl hal (.slice (some ⟨wr.heap.size, 0, none⟩) 1 1) 1 _ rfl hxx (bytesV_one _) (by unfold maxLen; omega) (by omega) ?_; clear hal hxx; intro v3 w3 hown3 hgrow3 hloc3; go_loud (have HE := Lib.hid (RowB.grown (x := [x]) (Hst.out.alloc (.cells #[.int .u8 (x.toNat : Int)] 5)) (by rw [HL.out]; exact hown3) hgrow3 hloc3); clear hgrow3 hloc3; obtain ⟨p3, q3, rfl⟩ := OwnR.shape hown3; clear hown3))
          go_ret
          have := HE.out.told
          rw [HN.out, ← Hcur.out, Hless.out]
          exact this
end Go.Proofs.YtogdfkilhpkloaaGreatDoor

namespace Go.Proofs.YtogdfkilhpkloaaGreatDoor
open Go.RowKit Go.Sat Go.Maps

set_option maxRecDepth 100000 in
set_option maxHeartbeats 4000000 in
theorem rnums1_calls {w : World} {p : Option Addr} {n c : Nat} {zs : List Int} (hx : HasI w (.slice p n c) zs) (hz : ∀ z ∈ zs, -9223372036854775808 ≤ z ∧ z ≤ 9223372036854775807) (hl : zs.length ≤ 1099511627776) :
    Calls Tryz.prog 60 #[.slice p n c] w (RowNew w (numsI zs)) := by
  obtain ⟨i0, hi, hz0, hz1, hz2⟩ := info_parts (show (Tryz.prog.info? 5).map (fun i => (i.zero, i.size, i.bytes)) = some (some (.int .u8 0), 1, 1) by kernel_rfl)
  have hn : zs.length = n := by obtain ⟨_, _, e⟩ := hx.slice; simp only [Value.slice.injEq] at e; exact e.2.1.symm
  have Hn := Lib.hid hn
  have Hx := Lib.hid hx
  have Hz := Lib.hid hz
  have hn40 : n ≤ 1099511627776 := by omega
  clear hx hz hl hn
  go_enter Tryz.func60, Tryz.ntmps60
  go_wp2_with fail
  go_loopw [3, 4] (fun b i wr => ∃ (k : Nat) (bv : Value), k ≤ n ∧ i = .int .i64 k ∧ bv = b ∧ RowB w wr bv (numsI (zs.take k))) (fun _ i _ => n - (intOf i).toNat)
  case atStart => exact ⟨0, _, Nat.zero_le _, rfl, rfl, by rw [List.take_zero]; exact RowB.nil w⟩
  case round =>
    obtain ⟨k, bv, hk, rfl, rfl, hst⟩ := hrel
    by_cases hlt : k < n
    · have hkl : k < zs.length := by rw [Hn.out]; exact hlt
      rcases (show HasI wr (.slice p n c) zs from Holds.chg Hx.out (Chg.of_below hst.bel) fun _ _ => id).at with h0 | ⟨b, o, c2, e2, hcell⟩
      · rw [h0] at hkl
        simp at hkl
      rw [Hn.out] at e2
      simp only [Value.slice.injEq] at e2
      obtain ⟨rfl, -, rfl⟩ := e2
      have hcz := hcell k _ (List.getElem?_eq_getElem hkl)
      have hzz := Hz.out _ (List.getElem_mem hkl)
      have Htk := Lib.hid (numsI_take hkl)
      generalize zs[k] = z at *
      have Hnum := Lib.hid (rnum1_calls wr z hzz)
      have Hst := Lib.hid hst
      obtain ⟨pv, cv, rfl, -⟩ := own_cap0 hst.own
      have hlen := numsI_len (zs.take k)
      have hlz := numI_len z
      have hlt2 : (zs.take k).length ≤ n := by rw [List.length_take, Hn.out]; omega
      clear hcell hst hkl hzz
      go_wp2_with fail
      refine Hnum.out.mono ?_
      rintro e w2 ⟨x, rfl, hx2, hxn, hb2⟩
      have HS2 := Lib.hid (Hst.out.next hb2)
      have HX2 := Lib.hid (OwnB.has hx2)
      obtain ⟨px, cx, rfl, -⟩ := own_cap0 hx2
      clear hx2 hxn hb2 Hnum Hst
      generalize hL : (numsI (zs.take k)).length = m at *
      generalize hL2 : (numI z).length = m2 at *
      have HL := Lib.hid (And.intro hL hL2)
      have Hrow := Lib.hid (show OwnR w2 5 1 (.slice pv m cv) m (bytesV (numsI (zs.take k))) by have := HS2.out.own; unfold OwnB at this; rwa [HL.out.1] at this)
      have Hxx := Lib.hid (show Holds w2 1 (.slice px m2 cx) m2 (bytesV (numI z)) by have := HX2.out; unfold HasB at this; rwa [HL.out.2] at this)
      clear hL hL2
      go_wp2_with (at_builtin; refine wpList_app _ rfl (.tmp 11) (.tmp 16) 39 rfl 5 i0 (.int .u8 0) 1 1 Tryz.underlying39 hi hz0 hz1 hz2 rfl (by decide) (.slice pv m cv) m _ rfl Hrow.out (.slice px m2 cx) m2 _ rfl Hxx.out (bytesV_one _) (by unfold maxLen; omega) (by omega) ?_; intro v3 w3 hown3 hgrow3 hloc3; go_loud (have HE := Lib.hid (RowB.grown (x := numI z) HS2.out (by rw [HL.out.1, HL.out.2]; exact hown3) hgrow3 hloc3); clear hgrow3 hloc3; obtain ⟨p3, q3, rfl⟩ := OwnR.shape hown3; clear hown3))
      go_roundw
      case rel => exact ⟨k + 1, _, by omega, by go_num, rfl, by rw [Htk.out]; exact HE.out⟩
      case measure => simp [intOf]; omega
    · have he : zs.take k = zs := List.take_of_length_le (by rw [Hn.out]; omega)
      rw [he] at hst
      have HE := Lib.hid hst.told
      clear hst he
      go_wp2_with fail
      go_ret
      exact HE.out

end Go.Proofs.YtogdfkilhpkloaaGreatDoor

namespace Go.Proofs.YtogdfkilhpkloaaGreatDoor
open Go.RowKit Go.Sat Go.Maps

def b12' : Bs := [49, 50]
def b3' : Bs := [51]
def b123 : Bs := [49, 50, 51]
def Q0 : DiskM := DiskM.fresh 1000
def Q1 : DiskM := ⟨1000, [([97], ⟨frameN b123, (frameN b123).length⟩)], none⟩

theorem q1 : Q0.save (nm sA) [b12', b3'].flatten = (Q1, 0) :=
  save_all (D := Q0) (n := [97]) (l := b123) (ok_fresh 1000 (by decide)) (fun j h => by cases h) (by decide) (by decide) rfl (by decide) (by decide)

theorem q2 (k : Int) : Sat.get (nm sA) (Q1.crash k).files = some ⟨frameN b123, (frameN b123).length⟩ := get_crash_whole (D := Q1) (n := [97]) rfl k

end Go.Proofs.YtogdfkilhpkloaaGreatDoor

namespace Go.Proofs.YtogdfkilhpkloaaGreatDoor
open Go.RowKit Go.Sat Go.Maps

/-- A file that was saved. -/
def fl (x : Bs) : FileM := ⟨frameN x, (frameN x).length⟩

theorem each_one (g : Bs → FileM → List (Bs × FileM) → List (Bs × FileM)) (D : DiskM) (n : Bs) : D.each g [n] = D.each1 g n := by
  cases h : D.each1 g n with
  | mk D1 e1 =>
    unfold DiskM.each
    rw [h]
    by_cases he : e1 = 0
    · subst he
      rw [if_pos rfl]
      rfl
    · rw [if_neg he]

section
variable {a b c : Bs}
end
end Go.Proofs.YtogdfkilhpkloaaGreatDoor

namespace Go.Sat
open Go.RowKit
theorem OwnR.set {w : World} {e : TypeId} {size : Nat} {v : Value} {n : Nat} {xs : List Value} (h : OwnR w e size v n xs) {g : Nat} (hg : v.ownBlock = some g) (j : Nat) (u : Value) : OwnR (w.setCell ⟨g, j, none⟩ u) e size v n (xs.set j u) := by
  refine ⟨by rw [List.length_set]; exact h.1, ?_⟩
  rcases h.2 with ⟨rfl, _⟩ | ⟨g', cap, cur, rfl, hgg, hnc, hcm, hcs, ht⟩
  · cases hg
  · cases hg
    refine .inr ⟨g', cap, cur.setIfInBounds j u, rfl, set_block hgg j u, hnc, hcm, by simpa using hcs, ?_⟩
    rw [← ht, Array.toList_setIfInBounds, List.take_set]
end Go.Sat

namespace Go.Proofs.YtogdfkilhpkloaaGreatDoor
open Go.RowKit Go.Sat Go.Maps

theorem cells_set (L : List RFile) (i : Nat) (x x' : RFile) (h : L[i]? = some x) (j : Nat) (hj : j < 3) (u : Value) (hc : x'.cells = x.cells.set j u) : (L.flatMap RFile.cells).set (i * 3 + j) u = (L.set i x').flatMap RFile.cells := by
  induction L generalizing i with
  | nil => simp at h
  | cons y r ih =>
    have hy : y.cells.length = 3 := rfl
    rw [List.flatMap_cons]
    cases i with
    | zero =>
      simp at h
      subst h
      rw [List.set_cons_zero, List.flatMap_cons, hc, List.set_append_left _ _ (by omega), Nat.zero_mul, Nat.zero_add]
    | succ i =>
      rw [List.set_cons_succ, List.flatMap_cons, List.set_append_right _ _ (by omega), ← ih i (by simpa using h)]
      congr 2
      omega

/-- Where the document's disk lies, whatever it says. -/
structure RefCore (w : World) (r : Nat) (v : Value) (L : List RFile) (own : Nat → Prop) (room : Nat) (fuse : Option Nat) : Prop where
  cells : w.heap[r]? = some (.cells #[.int .i64 (room : Int), v, .int .i64 (leftOf fuse)] 307 (0, 0))
  row : OwnR w 423 3 v L.length (L.flatMap RFile.cells)
  data : ∀ x ∈ L, OwnB w 5 x.b x.f.data
  or : own r
  ov : ∀ k, v.ownBlock = some k → own k ∧ k ≠ r
  ob : ∀ x ∈ L, ∀ k, x.b.ownBlock = some k → own k ∧ k ≠ r ∧ v.ownBlock ≠ some k
  olt : ∀ k, own k → k < w.heap.size

section
variable {w : World} {r : Nat} {v : Value} {L : List RFile} {own : Nat → Prop} {D : DiskM} {room : Nat} {fuse : Option Nat}

theorem RefIn.core (h : RefIn w r v L own D) : RefCore w r v L own D.room D.fuse := ⟨h.cells, h.row, h.data, h.or, h.ov, h.ob, h.olt⟩
theorem RefCore.full (h : RefCore w r v L own room fuse) (hr : D.room = room) (hf : D.fuse = fuse) (hL : D.files = L.map RFile.key) (ok : D.OK) : RefIn w r v L own D := by
  subst hr
  subst hf
  exact ⟨h.cells, h.row, hL, h.data, h.or, h.ov, h.ob, h.olt, ok⟩

theorem RefCore.at (h : RefCore w r v L own room fuse) {g : Nat} (hg : v.ownBlock = some g) {i : Nat} {x : RFile} (hx : L[i]? = some x) : w.cell? ⟨g, i * 3, none⟩ = some (encStr x.n) ∧ w.cell? ⟨g, i * 3 + 1, none⟩ = some x.b ∧ w.cell? ⟨g, i * 3 + 2, none⟩ = some (.int .i64 (x.f.lasts : Int)) := by
  have hc := h.row.cells hg
  refine ⟨?_, ?_, ?_⟩
  · have := hc (i * 3 + 0) (encStr x.n) ((cells_at L i x hx 0 (by omega)).trans rfl)
    rwa [add_zero] at this
  · have := hc (i * 3 + 1) x.b ((cells_at L i x hx 1 (by omega)).trans rfl)
    rwa [add_zero] at this
  · have := hc (i * 3 + 2) _ ((cells_at L i x hx 2 (by omega)).trans rfl)
    rwa [add_zero] at this

theorem mem_set {α : Type} {L : List α} {i : Nat} {x' y : α} (h : y ∈ L.set i x') : y ∈ L ∨ y = x' := List.mem_or_eq_of_mem_set h

/-- A cell of a file is written. -/
theorem RefCore.store (h : RefCore w r v L own room fuse) {g : Nat} (hg : v.ownBlock = some g) {i : Nat} {x : RFile} (hx : L[i]? = some x) (j : Nat) (hj : j < 3) (u : Value) (x' : RFile) (hc : x'.cells = x.cells.set j u)
    {own' : Nat → Prop} (hown : ∀ k, own k → own' k) (hd : OwnB w 5 x'.b x'.f.data) (hb : ∀ k, x'.b.ownBlock = some k → own' k ∧ k ≠ r ∧ k ≠ g) (holt : ∀ k, own' k → k < w.heap.size) :
    RefCore (w.setCell ⟨g, i * 3 + j, none⟩ u) r v (L.set i x') own' room fuse where
  cells := (set_other u (h.ov g hg).2.symm).trans h.cells
  row := by
    rw [List.length_set, ← cells_set L i x x' hx j hj u hc]
    exact h.row.set hg _ _
  data := fun y hy => by
    rcases mem_set hy with hy | rfl
    · exact OwnR.keep (h.data y hy) fun k hk => set_other u (fun e => (h.ob y hy k hk).2.2 (by rw [hg]; exact congrArg some e.symm))
    · exact OwnR.keep hd fun k hk => set_other u (hb k hk).2.2
  or := hown r h.or
  ov := fun k hk => ⟨hown k (h.ov k hk).1, (h.ov k hk).2⟩
  ob := fun y hy k hk => by
    rcases mem_set hy with hy | rfl
    · exact ⟨hown k (h.ob y hy k hk).1, (h.ob y hy k hk).2⟩
    · exact ⟨(hb k hk).1, (hb k hk).2.1, fun e => (hb k hk).2.2 (Option.some.inj (e.symm.trans hg))⟩
  olt := fun k hk => by
    have := holt k hk
    simpa [World.setCell] using this

theorem RefCore.free (h : RefCore w r v L own room fuse) {g : Nat} (hg : v.ownBlock = some g) (j : Nat) : w.frozen? ⟨g, j, none⟩ = false := by
  rcases h.row.2 with ⟨rfl, _⟩ | ⟨g', cap, cur, rfl, hgg, _⟩
  · cases hg
  · cases hg
    exact frozen_of hgg j

/-- What a thing that is done with the document's disk leaves. -/
def RStep (w : World) (r : Nat) (own : Nat → Prop) (R : DiskM × Nat) (e : Ending) (w' : World) : Prop :=
  e = .returned (.int .i64 (R.2 : Int)) ∧ ∃ own', RefAt w' r R.1 own' ∧ Chg own w w' ∧ ∀ k, own' k → own k ∨ w.heap.size ≤ k

theorem RefIn.below (h : RefIn w r v L own D) {w' : World} (hb : Below w.heap.size w w') : RefIn w' r v L own D := h.keep hb.size fun k hk => hb.block k (h.olt k hk)

theorem chg_below {w' w'' : World} (hb : Below w.heap.size w w') (hc : Chg own w' w'') : Chg own w w'' :=
  ((Chg.of_below hb).mono fun _ _ h => h.elim).trans hc fun _ _ h => h

/-- Nothing was done. -/
theorem rstep_same (h : RefIn w r v L own D) {w' : World} (hb : Below w.heap.size w w') (k : Nat) : RStep w r own (D, k) (.returned (.int .i64 (k : Int))) w' :=
  ⟨rfl, own, ⟨v, L, h.below hb⟩, (Chg.of_below hb).mono fun _ _ h => h.elim, fun _ h => .inl h⟩

theorem below_names (w : World) (o : Obj) (q : Nat) : Below w.heap.size w ((w.alloc o).drewN q) := ((Below.refl _ _).alloc (Nat.le_refl _) o).trans ⟨rfl, rfl, rfl, Nat.le_refl _, fun _ _ => rfl⟩

theorem may_fuse {ns : List Bs} (h : D.may ns = 0) : D.fuse ≠ some 0 := fun e => by
  unfold DiskM.may at h
  rw [if_pos e] at h
  cases h

/-- The fuse burns on behind what was done. -/
theorem rstep_did {D1 : DiskM} {v' : Value} {L' : List RFile} {own' : Nat → Prop} {w1 w2 : World} {e : Ending} (hc : Chg own w w1) (hx : ∀ k, own' k → own k ∨ w.heap.size ≤ k) (_ho : w.heap.size ≤ w1.heap.size)
    (h : e = .returned (.int .i64 0) ∧ RefIn w2 r v' L' own' D1.done ∧ Chg own' w1 w2) : RStep w r own (D1.done, 0) e w2 := by
  obtain ⟨rfl, h2, hc2⟩ := h
  refine ⟨rfl, own', ⟨v', L', h2⟩, hc.trans hc2 fun k hk hT => ?_, hx⟩
  rcases hx k hT with h | h
  · exact h
  · omega

theorem map_set_key (L : List RFile) (i : Nat) (x : RFile) : (L.set i x).map RFile.key = (L.map RFile.key).set i x.key := List.map_set ..

theorem RefIn.put (h : RefIn w r v L own D) {n : Bs} {f : FileM} (hg : Sat.get n D.files = some f) (x' : RFile) (hn : x'.n = n) : put n x'.f D.files = (L.set (spotN n (L.map RFile.n)) x').map RFile.key := by
  have h1 : isAt n (D.files.map (·.1)) = true := by rw [(spot_get n h.ok.srt).1, hg]; rfl
  rw [put_at n x'.f h.ok.srt h1, map_set_key, ← h.files, h.names]
  unfold RFile.key
  rw [hn]

set_option maxRecDepth 100000 in
set_option maxHeartbeats 2000000 in
theorem rsync_calls (h : RefIn w r v L own D) (s : ByteArray) (hs : s.size ≤ 9223372036854775807) :
    Calls Tryz.prog 258 #[.pointer (some ⟨r, 0, none⟩), .string s] w (RStep w r own (D.sync [nm s])) := by
  have h1 : RefIn (w.alloc (.cells #[.string s] 9)) r v L own D := h.below ((Below.refl _ _).alloc (Nat.le_refl _) _)
  have hmay := rmay_calls h1 (some ⟨w.heap.size, 0, none⟩) [s] 1 (strs_one w s) (by simp) (by simpa using hs)
  simp only [List.map_cons, List.map_nil] at hmay
  unfold DiskM.sync
  rw [each_one]
  by_cases hm : D.may [nm s] = 0
  · have hsp := spot_calls h1 s
    rw [h.is] at hsp
    rw [hm] at hmay
    cases hg : Sat.get (nm s) D.files with
    | none =>
      rw [hg] at hsp
      have hR : DiskM.each1 DiskM.gSync D (nm s) = (D, 7) := by unfold DiskM.each1; rw [if_neg (by rw [hm]; simp), hg]
      rw [hR]
      have Hf := Lib.hid (fun q => rstep_same h (below_names w (.cells #[.string s] 9) q) 7)
      have Hmay := Lib.hid hmay
      have Hsp := Lib.hid hsp
      clear h h1 hmay hsp hm hR hg
      go_enter Tryz.func258, Tryz.ntmps258
      go_wp2_with fail
      refine Hmay.out.mono ?_
      rintro e w2 ⟨rfl, rfl⟩
      go_wp2_with fail
      refine Hsp.out.mono ?_
      rintro e w3 ⟨rfl, q, rfl⟩
      go_wp2_with fail
      go_ret
      exact Hf.out q
    | some f =>
      rw [hg] at hsp
      obtain ⟨x, hx, hxn, rfl⟩ := h.hit hg
      have hlm := h.len_le hx
      have hput := h.put hg ⟨x.n, x.b, ⟨x.f.data, x.f.data.length⟩⟩ hxn
      have hxm := List.mem_of_getElem? hx
      have hN : spotN (nm s) (L.map RFile.n) < L.length := (List.getElem?_eq_some_iff.1 hx).1
      have hR : DiskM.each1 DiskM.gSync D (nm s) = (DiskM.done { D with files := DiskM.gSync (nm s) x.f D.files }, 0) := by unfold DiskM.each1; rw [if_neg (by rw [hm]; simp), hg]
      rw [hR]
      have hok := ok_sync h.ok hg
      generalize spotN (nm s) (L.map RFile.n) = i at *
      have hFin : ∀ W g, Below w.heap.size w W → v.ownBlock = some g → RefIn (W.setCell ⟨g, i * 3 + 2, none⟩ (.int .i64 (x.f.data.length : Int))) r v (L.set i ⟨x.n, x.b, ⟨x.f.data, x.f.data.length⟩⟩) own { D with files := DiskM.gSync (nm s) x.f D.files } := fun W g hbW hgv => by
        have hW := (h.below hbW).core
        exact (hW.store hgv hx 2 (by omega) _ ⟨x.n, x.b, ⟨x.f.data, x.f.data.length⟩⟩ rfl (fun _ h => h) (hW.data x hxm) (fun k hk => ⟨(h.ob x hxm k hk).1, (h.ob x hxm k hk).2.1, fun e => (h.ob x hxm k hk).2.2 (by rw [hgv, e])⟩) hW.olt).full rfl rfl hput hok
      have hCh : ∀ W g, Below w.heap.size w W → v.ownBlock = some g → Chg own w (W.setCell ⟨g, i * 3 + 2, none⟩ (.int .i64 (x.f.data.length : Int))) := fun W g hbW hgv => chg_below hbW (chg_own (h.ov g hgv).1)
      rcases h.at with h0 | ⟨g, c0, rfl, hlc, -⟩
      · rw [h0] at hN
        simp at hN
      have hDid := fun W hbW => rdid_calls (hFin W g hbW rfl) (may_fuse hm)
      have hCh' := fun W hbW => hCh W g hbW rfl
      have hcell : ∀ W, Below w.heap.size w W → (W.cell? ⟨r, 1, none⟩ = some (.slice (some ⟨g, 0, none⟩) L.length c0) ∧ W.cell? ⟨g, i * 3 + 1, none⟩ = some x.b ∧ W.cell? ⟨g, i * 3 + 2, none⟩ = some (.int .i64 (x.f.lasts : Int)) ∧ W.frozen? ⟨g, i * 3 + 2, none⟩ = false) := fun W hbW => by
        have hW := h.below hbW
        exact ⟨hW.c1, (hW.core.at rfl hx).2.1, (hW.core.at rfl hx).2.2, hW.core.free rfl _⟩
      obtain ⟨pb, cb, eb⟩ := HasB.slice (h.data x hxm).has
      rw [eb] at hcell
      generalize x.f.data.length = m at *
      have HDid := Lib.hid (And.intro hDid hCh')
      have Hcell := Lib.hid hcell
      have Hmay := Lib.hid hmay
      have Hsp := Lib.hid hsp
      clear h h1 hmay hsp hm hR hg hput hok hFin hCh hDid hCh' hcell hx hxm eb
      go_enter Tryz.func258, Tryz.ntmps258
      go_wp2_with fail
      refine Hmay.out.mono ?_
      rintro e w2 ⟨rfl, rfl⟩
      go_wp2_with fail
      refine Hsp.out.mono ?_
      rintro e w3 ⟨rfl, q, rfl⟩
      have HbW := Lib.hid (below_names w (.cells #[.string s] 9) q)
      generalize (w.alloc (.cells #[.string s] 9)).drewN q = W at *
      obtain ⟨hc1, hc2, hc3, hfz⟩ := Hcell.out W HbW.out
      go_wp2_with fail
      go_still_tail 14, (by kernel_rfl)
      change wpList _ _ _ _ _ W.drew
      have hbD : Below w.heap.size w W.drew := HbW.out.trans ⟨rfl, rfl, rfl, Nat.le_refl _, fun _ _ => rfl⟩
      obtain ⟨hc1, hc2, hc3, hfz⟩ := Hcell.out _ hbD
      have Hdid := Lib.hid (HDid.out.1 _ hbD)
      have Hch := Lib.hid (HDid.out.2 _ hbD)
      clear Hcell HDid hbD
      generalize W.drew = Wd at *
      go_wp2_with fail
      refine Hdid.out.mono ?_
      intro e w4 h4
      have hE := rstep_did Hch.out (fun _ h => .inl h) Hch.out.size h4
      obtain ⟨rfl, -⟩ := h4
      have HE := Lib.hid hE
      clear hE
      go_wp2_with fail
      go_ret
      exact HE.out
  · have hR : DiskM.each1 DiskM.gSync D (nm s) = (D, D.may [nm s]) := by unfold DiskM.each1; rw [if_pos hm]
    rw [hR]
    have Hf := Lib.hid (rstep_same h ((Below.refl _ _).alloc (Nat.le_refl _) (.cells #[.string s] 9)) (D.may [nm s]))
    have Hmay := Lib.hid hmay
    generalize D.may [nm s] = m at *
    have hne : ((m : Int) != 0) = true := by simp; omega
    clear h h1 hmay hR
    go_enter Tryz.func258, Tryz.ntmps258
    go_wp2_with fail
    refine Hmay.out.mono ?_
    rintro e w2 ⟨rfl, rfl⟩
    go_wp2_with fail
    go_ret
    exact Hf.out
end
end Go.Proofs.YtogdfkilhpkloaaGreatDoor

namespace Go.Sat
open Go Go.RowKit
/-- Two may come up. -/
theorem ord_two {P : Program} {l : List Oper} {Q : Exit → Act → World → Prop} {md : Region.Mode} {S : World → Prop} {fuel : Nat} {listed : Array Bool} {a : Act} {w : World} (i j : Nat) {oi oj : Oper} {ri rj : List Oper} (hdi : l.drop i = oi :: ri) (hdj : l.drop j = oj :: rj) (hr : Region.ready md l.toArray listed = [i, j])
    (hwi : Region.wanted oi (yielded l.toArray a.tmps) = true) (hwj : Region.wanted oj (yielded l.toArray a.tmps) = true)
    (hi : ∀ K : Act → World → Prop, Shut (∀ a w, S w → (S w → wpAnyH P md l.toArray Q S fuel (listed.setIfInBounds i true) a w) → K a w) → Oper.wp P oi a w K Q)
    (hj : ∀ K : Act → World → Prop, Shut (∀ a w, S w → (S w → wpAnyH P md l.toArray Q S fuel (listed.setIfInBounds j true) a w) → K a w) → Oper.wp P oj a w K Q) : wpAnyH P md l.toArray Q S (fuel + 1) listed a w :=
  wpAnyH_ready hr (by simp) (AllReadyH.cons (ord_get hdi) (fun K hK => by rw [if_pos hwi]; exact hi K hK) (AllReadyH.cons (ord_get hdj) (fun K hK => by rw [if_pos hwj]; exact hj K hK) AllReadyH.nil))
end Go.Sat

namespace Go.Proofs.YtogdfkilhpkloaaGreatDoor
open Go.RowKit Go.Sat Go.Maps

theorem ok_cut {D : DiskM} (h : D.OK) {n : Bs} {f : FileM} (hg : Sat.get n D.files = some f) (k : Nat) : DiskM.OK { D with files := put n ⟨f.data.take k, min f.lasts k⟩ D.files } where
  srt := srt_put h.srt
  room := h.room
  used := by
    show sumBy DiskM.size (put n _ D.files) ≤ D.room
    rw [sum_put]
    have h1 : D.used = DiskM.size f + sumBy DiskM.size (del n D.files) := sum_del h.srt hg
    have := h.used
    simp only [DiskM.size, List.length_take] at h1 ⊢
    omega
  count := by
    show (put n _ D.files).length ≤ 4096
    rw [len_put]
    have := len_del h.srt hg
    have := h.count
    omega
  names p hp := by
    rcases mem_put.1 hp with rfl | ⟨hp, _⟩
    · exact (h.names (n, f) (get_mem hg) : okN n = true)
    · exact h.names p hp
  lasts p hp := by
    rcases mem_put.1 hp with rfl | ⟨hp, _⟩
    · have h1 := h.lasts (n, f) (get_mem hg)
      show min f.lasts k ≤ (f.data.take k).length
      rw [List.length_take]
      have h1 : f.lasts ≤ f.data.length := h1
      omega
    · exact h.lasts p hp
  fuse := h.fuse

section
variable {w : World} {r : Nat} {v : Value} {L : List RFile} {own : Nat → Prop} {D : DiskM} {room : Nat} {fuse : Option Nat}

theorem RefCore.keep {w' : World} (h : RefCore w r v L own room fuse) (hs : w.heap.size ≤ w'.heap.size) (hb : ∀ k, own k → w'.heap[k]? = w.heap[k]?) : RefCore w' r v L own room fuse where
  cells := (hb r h.or).trans h.cells
  row := h.row.keep fun k hk => hb k (h.ov k hk).1
  data := fun x hx => OwnR.keep (h.data x hx) fun k hk => hb k (h.ob x hx k hk).1
  or := h.or
  ov := h.ov
  ob := h.ob
  olt := fun k hk => Nat.lt_of_lt_of_le (h.olt k hk) hs

theorem RefCore.c1 (h : RefCore w r v L own room fuse) : w.cell? ⟨r, 1, none⟩ = some v := cell_of h.cells rfl

set_option maxRecDepth 100000 in
set_option maxHeartbeats 4000000 in
theorem rtrunc_calls (h : RefIn w r v L own D) (s : ByteArray) (hs : s.size ≤ 9223372036854775807) (z : Int) (hz : -9223372036854775808 ≤ z) (hz' : z ≤ 9223372036854775807) :
    Calls Tryz.prog 257 #[.pointer (some ⟨r, 0, none⟩), .string s, .int .i64 z] w (RStep w r own (D.truncate (nm s) z)) := by
  have h1 : RefIn (w.alloc (.cells #[.string s] 9)) r v L own D := h.below ((Below.refl _ _).alloc (Nat.le_refl _) _)
  have hmay := rmay_calls h1 (some ⟨w.heap.size, 0, none⟩) [s] 1 (strs_one w s) (by simp) (by simpa using hs)
  simp only [List.map_cons, List.map_nil] at hmay
  by_cases hm : D.may [nm s] = 0
  · have hsp := spot_calls h1 s
    rw [h.is] at hsp
    rw [hm] at hmay
    cases hg : Sat.get (nm s) D.files with
    | none =>
      rw [hg] at hsp
      have hR : D.truncate (nm s) z = (D, 7) := by unfold DiskM.truncate; rw [if_neg (by rw [hm]; simp), hg]
      rw [hR]
      have Hf := Lib.hid (fun q => rstep_same h (below_names w (.cells #[.string s] 9) q) 7)
      have Hmay := Lib.hid hmay
      have Hsp := Lib.hid hsp
      clear h h1 hmay hsp hm hR hg
      go_enter Tryz.func257, Tryz.ntmps257
      go_wp2_with fail
      refine Hmay.out.mono ?_
      rintro e w2 ⟨rfl, rfl⟩
      go_wp2_with fail
      refine Hsp.out.mono ?_
      rintro e w3 ⟨rfl, q, rfl⟩
      go_wp2_with fail
      go_ret
      exact Hf.out q
    | some f =>
      rw [hg] at hsp
      obtain ⟨x, hx, hxn, rfl⟩ := h.hit hg
      have hlm := h.len_le hx
      have hxm := List.mem_of_getElem? hx
      have hN : spotN (nm s) (L.map RFile.n) < L.length := (List.getElem?_eq_some_iff.1 hx).1
      rcases h.at with h0 | ⟨g, c0, hgv, hlc, -⟩
      · rw [h0] at hN
        simp at hN
      have hgo : v.ownBlock = some g := by rw [hgv]; rfl
      by_cases hzz : 0 ≤ z ∧ z ≤ (x.f.data.length : Int)
      · obtain ⟨y, rfl⟩ : ∃ y : Nat, z = (y : Int) := ⟨z.toNat, by omega⟩
        have hyl : y ≤ x.f.data.length := by omega
        have hR : D.truncate (nm s) (y : Int) = (DiskM.done { D with files := put (nm s) ⟨x.f.data.take y, min x.f.lasts y⟩ D.files }, 0) := by
          unfold DiskM.truncate
          rw [if_neg (by rw [hm]; simp), hg]
          show (if (y : Int) < 0 ∨ (x.f.data.length : Int) < y then _ else _) = _
          rw [if_neg (by omega), Int.toNat_natCast]
        rw [hR]
        have hput : ∀ v', put (nm s) ⟨x.f.data.take y, min x.f.lasts y⟩ D.files = (L.set (spotN (nm s) (L.map RFile.n)) ⟨x.n, v', ⟨x.f.data.take y, min x.f.lasts y⟩⟩).map RFile.key := fun v' => h.put hg ⟨x.n, v', ⟨x.f.data.take y, min x.f.lasts y⟩⟩ hxn
        have hok := ok_cut h.ok hg y
        have hfz := may_fuse hm
        generalize spotN (nm s) (L.map RFile.n) = i at *
        have Hcells := Lib.hid (show ∀ W, Below w.heap.size w W → W.cell? ⟨r, 1, none⟩ = some (.slice (some ⟨g, 0, none⟩) L.length c0) ∧ W.cell? ⟨g, i * 3 + 1, none⟩ = some x.b ∧ W.frozen? ⟨g, i * 3 + 1, none⟩ = false from fun W hb => by
          have hW := h.below hb
          refine ⟨hW.c1.trans (by rw [hgv]), (hW.core.at hgo hx).2.1, hW.core.free hgo _⟩)
        obtain ⟨pb, cb, eb, hmcb⟩ := own_slice (h.data x hxm)
        -- behind both stores
        have Hfin := Lib.hid (show ∀ W v' , Below w.heap.size w W → OwnB W 5 v' (x.f.data.take y) → (∀ k, v'.ownBlock = some k → w.heap.size ≤ k ∧ k < W.heap.size) →
            RefCore (W.setCell ⟨g, i * 3 + 1, none⟩ v') r v (L.set i ⟨x.n, v', ⟨x.f.data.take y, x.f.lasts⟩⟩) (fun k => own k ∨ v'.ownBlock = some k) D.room D.fuse from fun W v' hb hv hn =>
          (h.below hb).core.store hgo hx 1 (by omega) v' ⟨x.n, v', ⟨x.f.data.take y, x.f.lasts⟩⟩ rfl (fun _ h => .inl h) hv (fun k hk => ⟨.inr hk, fun e => by have := h.olt r h.or; have := (hn k hk).1; omega, fun e => by have := h.olt g (h.ov g hgo).1; have := (hn k hk).1; omega⟩)
            (fun k hk => by
              rcases hk with hk | hk
              · exact Nat.lt_of_lt_of_le (h.olt k hk) hb.size
              · exact (hn k hk).2))
        have Hfin2 := Lib.hid (show ∀ W v', RefCore W r v (L.set i ⟨x.n, v', ⟨x.f.data.take y, x.f.lasts⟩⟩) (fun k => own k ∨ v'.ownBlock = some k) D.room D.fuse → OwnB W 5 v' (x.f.data.take y) →
            RefIn (W.setCell ⟨g, i * 3 + 2, none⟩ (.int .i64 ((min x.f.lasts y : Nat) : Int))) r v (L.set i ⟨x.n, v', ⟨x.f.data.take y, min x.f.lasts y⟩⟩) (fun k => own k ∨ v'.ownBlock = some k) { D with files := put (nm s) ⟨x.f.data.take y, min x.f.lasts y⟩ D.files } from fun W v' hc hv => by
          have hi : (L.set i ⟨x.n, v', ⟨x.f.data.take y, x.f.lasts⟩⟩)[i]? = some ⟨x.n, v', ⟨x.f.data.take y, x.f.lasts⟩⟩ := by rw [List.getElem?_set_self (by omega)]
          have hm2 := List.mem_of_getElem? hi
          have h2 := hc.store hgo hi 2 (by omega) (.int .i64 ((min x.f.lasts y : Nat) : Int)) ⟨x.n, v', ⟨x.f.data.take y, min x.f.lasts y⟩⟩ rfl (fun _ h => h) hv (fun k hk => ⟨.inr hk, (hc.ob _ hm2 k hk).2.1, fun e => (hc.ob _ hm2 k hk).2.2 (by rw [hgo, e])⟩) hc.olt
          rw [List.set_set] at h2
          exact h2.full rfl rfl (hput v') hok)
        have Hown := Lib.hid (show own r ∧ own g ∧ r ≠ g ∧ g < w.heap.size from ⟨h.or, (h.ov g hgo).1, (h.ov g hgo).2.symm, h.olt g (h.ov g hgo).1⟩)
        have Hd := Lib.hid (show ∀ W, Below w.heap.size w W → HasB W (.slice pb y cb) (x.f.data.take y) from fun W hb => HasB.cut (by rw [← eb]; exact ((h.below hb).data x hxm).has) hyl cb)
        have Hlen := Lib.hid (show (x.f.data.take y).length = y from by rw [List.length_take]; omega)
        have Hfz := Lib.hid hfz
        rw [eb] at Hcells
        obtain ⟨i0, hi, hz0, hz1, hz2⟩ := info_parts (show (Tryz.prog.info? 5).map (fun i => (i.zero, i.size, i.bytes)) = some (some (.int .u8 0), 1, 1) by kernel_rfl)
        have hcb : y ≤ cb := Nat.le_trans hyl hmcb
        have hsl : ∀ W, (Instr.slice 39 (.slice pb x.f.data.length cb) none (some (.int .i64 (y : Int))) none).run Tryz.prog W = .ok (.slice pb y cb) W := fun W => run_upto W Tryz.underlying39 hi pb _ cb y hcb
        have hmin : min (x.f.lasts : Int) (y : Int) = ((min x.f.lasts y : Nat) : Int) := by omega
        generalize hml : x.f.data.length = m at *
        generalize hla : x.f.lasts = la at *
        have Hmay := Lib.hid hmay
        have Hsp := Lib.hid hsp
        clear h h1 hmay hsp hm hR hg hput hok hx hxm eb hgo hml hla hlc hmcb
        subst hgv
        go_enter Tryz.func257, Tryz.ntmps257
        go_wp2_with fail
        refine Hmay.out.mono ?_
        rintro e w2 ⟨rfl, rfl⟩
        go_wp2_with fail
        refine Hsp.out.mono ?_
        rintro e w3 ⟨rfl, q, rfl⟩
        have HbW := Lib.hid (below_names w (.cells #[.string s] 9) q)
        generalize (w.alloc (.cells #[.string s] 9)).drewN q = W at *
        obtain ⟨hc1, hc2, hfz1⟩ := Hcells.out W HbW.out
        go_wp2_with fail
        have X0 := Lib.hid (show Below w.heap.size w W.drew from HbW.out.trans ⟨rfl, rfl, rfl, Nat.le_refl _, fun _ _ => rfl⟩)
        clear hc1 hc2 hfz1
        have hS := (Hcells.out _ X0.out).1
        refine ord_start (fun W' : World => W'.cell? ⟨r, 1, none⟩ = some (.slice (some ⟨g, 0, none⟩) L.length c0)) (n := 20) (by kernel_rfl) rfl hS (fun hHeld => ?_)
        clear hS
        generalize W.drew = Wd at *
        refine Pl [0,1,2,3,4,6,7,8,9,10,11,12,14] ?_
        iterate 13 (refine Pc rfl ?_;simp only [Act.put, uA, uB, uC])
        refine Pn ?_
        refine ord_two 5 13 rfl rfl (by kernel_rfl) (by rfl) (by rfl) (fun K hK => ?_) (fun K hK => ?_)
        · go_wp2_with fail
          have X1 := Lib.hid (X0.out.alloc X0.out.size (.cells #[] 5))
          refine hK.out _ _ ((Hcells.out _ X1.out).1) (fun hHeld => ?_)
          clear hK
          try simp only [Act.put, List.setIfInBounds_toArray, List.set_cons_zero, List.set_cons_succ]
          refine ord_one 13 rfl (by kernel_rfl) (by rfl) (fun K hK => ?_)
          have hc2 := (Hcells.out _ X1.out).2.1
          go_wp2_with fail
          clear hc2
          refine hK.out _ _ ((Hcells.out _ X1.out).1) (fun hHeld => ?_)
          clear hK
          try simp only [Act.put, List.setIfInBounds_toArray, List.set_cons_zero, List.set_cons_succ]
          refine ord_take 15 (v := ?v1x15) rfl (by kernel_rfl) (by kernel_rfl) (by kernel_rfl) (fun _ _ _ h => h) (by rfl) (by assumption) ?y1x15 ?_
          case y1x15 => (intro w hSw; (try dsimp only at hSw); go_simp; try with_reducible rfl)
          simp only [Act.put, List.setIfInBounds_toArray, List.set_cons_zero, List.set_cons_succ]
          refine ord_one 16 rfl (by kernel_rfl) (by rfl) (fun K hK => ?_)
          have hown0 := own_empty Wd 5
          have hxd := Hd.out _ X1.out
          unfold HasB at hxd
          rw [Hlen.out] at hxd
          refine wp_app (.tmp 45) (.tmp 55) 39 (by rfl) 5 i0 (.int .u8 0) 1 1 Tryz.underlying39 hi hz0 hz1 hz2 rfl (by decide) (.slice (some ⟨Wd.heap.size, 0, none⟩) 0 0) 0 [] (by rfl) hown0 (.slice pb y cb) y _ (by rfl) hxd (bytesV_one _) (by unfold maxLen; omega) (by omega) ?_
          clear hown0 hxd
          intro v6 w6 hown6 hgrow6 hloc6
          have X6 := Lib.hid (X1.out.grown hgrow6 X1.out.size (fun j e => by have := X0.out.size; simp [Value.ownBlock] at e; omega))
          have hnew6 := own_ge (B := w.heap.size) hloc6 (fun k hk => by have := X0.out.size; simp [Value.ownBlock] at hk; omega) X1.out.size
          rw [Nat.zero_add, List.nil_append] at hown6
          obtain ⟨p6, c6, rfl⟩ := OwnR.shape hown6
          have Hv6 := Lib.hid (show OwnB w6 5 (.slice p6 y c6) (x.f.data.take y) from by unfold OwnB; rw [Hlen.out]; exact hown6)
          have Hnew6 := Lib.hid hnew6
          clear hgrow6 hloc6 hown6 hnew6
          refine hK.out _ _ ((Hcells.out _ X6.out).1) (fun hHeld => ?_)
          clear hK
          try simp only [Act.put, List.setIfInBounds_toArray, List.set_cons_zero, List.set_cons_succ]
          refine Pl [17,18] ?_
          iterate 2 (refine Pc rfl ?_;simp only [Act.put, uA, uB, uC])
          refine Pn ?_
          refine ord_one 19 rfl (by kernel_rfl) (by rfl) (fun K hK => ?_)
          obtain ⟨hc1, hc2, hfz1⟩ := Hcells.out _ X6.out
          go_wp2_with fail
          have hcs : (w6.setCell ⟨g, i * 3 + 1, none⟩ (.slice p6 y c6)).cell? ⟨r, 1, none⟩ = some (.slice (some ⟨g, 0, none⟩) L.length c0) := (World.cell?_of_block (set_other _ Hown.out.2.2.1)).trans hc1
          clear hc1 hc2 hfz1
          refine hK.out _ _ (hcs) (fun hHeld => ?_)
          clear hK
          try simp only [Act.put, List.setIfInBounds_toArray, List.set_cons_zero, List.set_cons_succ]
          refine wpAnyH_done (by kernel_rfl) ?_ _
          clear hHeld
          have hcore := Hfin.out w6 (.slice p6 y c6) X6.out Hv6.out (fun k hk => ⟨Hnew6.out k hk, OwnR.lt Hv6.out hk⟩)
          have hv7 : OwnB (w6.setCell ⟨g, i * 3 + 1, none⟩ (.slice p6 y c6)) 5 (.slice p6 y c6) (x.f.data.take y) := OwnR.keep Hv6.out fun k hk => set_other _ (fun e => by have h1 : k = g := e; have := Hnew6.out k hk; have := Hown.out.2.2.2; omega)
          have hch := chg_below X6.out (chg_own (own := own) (w := w6) (a := ⟨g, i * 3 + 1, none⟩) (u := .slice p6 y c6) Hown.out.2.1)
          have hge : w.heap.size ≤ (w6.setCell ⟨g, i * 3 + 1, none⟩ (.slice p6 y c6)).heap.size := by have := X6.out.size; simpa [World.setCell] using this
          have H7 := Lib.hid (And.intro hcore (And.intro hv7 (And.intro hch hge)))
          clear hcore hv7 hch hge
          generalize w6.setCell ⟨g, i * 3 + 1, none⟩ (.slice p6 y c6) = Ws at *
          have hi1 : (L.set i ⟨x.n, .slice p6 y c6, ⟨x.f.data.take y, la⟩⟩)[i]? = some ⟨x.n, .slice p6 y c6, ⟨x.f.data.take y, la⟩⟩ := by rw [List.getElem?_set_self (by omega)]
          have Hi1 := Lib.hid hi1
          clear hi1
          obtain ⟨-, -, hc3⟩ := H7.out.1.at rfl Hi1.out
          have hc1 := H7.out.1.c1
          go_wp2_with fail
          go_still_tail 15, (by kernel_rfl)
          clear hc1 hc3
          change wpList _ _ _ _ _ Ws.drew
          have hkd : RefCore Ws.drew r _ _ _ _ _ := H7.out.1.keep (Nat.le_refl _) (fun _ _ => rfl)
          have hvd : OwnB Ws.drew 5 (.slice p6 y c6) (x.f.data.take y) := OwnR.keep H7.out.2.1 (fun _ _ => rfl)
          have hfin := Hfin2.out _ _ hkd hvd
          obtain ⟨-, -, hc3⟩ := hkd.at rfl Hi1.out
          have hfz2 := hkd.free rfl (i * 3 + 2)
          have hchd : Chg own w Ws.drew := H7.out.2.2.1.trans (Chg.drew Ws) (fun _ _ h => h.elim)
          have hch2 : Chg own w (Ws.drew.setCell ⟨g, i * 3 + 2, none⟩ (.int .i64 ((min la y : Nat) : Int))) := hchd.trans (chg_own (own := own) (w := Ws.drew) (a := ⟨g, i * 3 + 2, none⟩) Hown.out.2.1) (fun _ _ h => h)
          have Hdid := Lib.hid (rdid_calls hfin Hfz.out)
          have Hch := Lib.hid (And.intro hch2 (show w.heap.size ≤ (Ws.drew.setCell ⟨g, i * 3 + 2, none⟩ (.int .i64 ((min la y : Nat) : Int))).heap.size from hch2.size))
          clear hkd hvd hfin hchd hch2 H7
          generalize Ws.drew = Wt at *
          go_wp2_with fail
          refine Hdid.out.mono ?_
          intro e w8 h8
          have hE := rstep_did Hch.out.1 (fun k hk => hk.imp id (fun e => Hnew6.out k e)) Hch.out.2 h8
          obtain ⟨rfl, -⟩ := h8
          have HE := Lib.hid hE
          clear hE
          go_wp2_with fail
          go_ret
          exact HE.out
        · have hc2 := (Hcells.out _ X0.out).2.1
          go_wp2_with fail
          clear hc2
          refine hK.out _ _ ((Hcells.out _ X0.out).1) (fun hHeld => ?_)
          clear hK
          try simp only [Act.put, List.setIfInBounds_toArray, List.set_cons_zero, List.set_cons_succ]
          refine ord_take 15 (v := ?v2x15) rfl (by kernel_rfl) (by kernel_rfl) (by kernel_rfl) (fun _ _ _ h => h) (by rfl) (by assumption) ?y2x15 ?_
          case y2x15 => (intro w hSw; (try dsimp only at hSw); go_simp; try with_reducible rfl)
          simp only [Act.put, List.setIfInBounds_toArray, List.set_cons_zero, List.set_cons_succ]
          refine ord_one 5 rfl (by kernel_rfl) (by rfl) (fun K hK => ?_)
          go_wp2_with fail
          have X1 := Lib.hid (X0.out.alloc X0.out.size (.cells #[] 5))
          refine hK.out _ _ ((Hcells.out _ X1.out).1) (fun hHeld => ?_)
          clear hK
          try simp only [Act.put, List.setIfInBounds_toArray, List.set_cons_zero, List.set_cons_succ]
          refine ord_one 16 rfl (by kernel_rfl) (by rfl) (fun K hK => ?_)
          have hown0 := own_empty Wd 5
          have hxd := Hd.out _ X1.out
          unfold HasB at hxd
          rw [Hlen.out] at hxd
          refine wp_app (.tmp 45) (.tmp 55) 39 (by rfl) 5 i0 (.int .u8 0) 1 1 Tryz.underlying39 hi hz0 hz1 hz2 rfl (by decide) (.slice (some ⟨Wd.heap.size, 0, none⟩) 0 0) 0 [] (by rfl) hown0 (.slice pb y cb) y _ (by rfl) hxd (bytesV_one _) (by unfold maxLen; omega) (by omega) ?_
          clear hown0 hxd
          intro v6 w6 hown6 hgrow6 hloc6
          have X6 := Lib.hid (X1.out.grown hgrow6 X1.out.size (fun j e => by have := X0.out.size; simp [Value.ownBlock] at e; omega))
          have hnew6 := own_ge (B := w.heap.size) hloc6 (fun k hk => by have := X0.out.size; simp [Value.ownBlock] at hk; omega) X1.out.size
          rw [Nat.zero_add, List.nil_append] at hown6
          obtain ⟨p6, c6, rfl⟩ := OwnR.shape hown6
          have Hv6 := Lib.hid (show OwnB w6 5 (.slice p6 y c6) (x.f.data.take y) from by unfold OwnB; rw [Hlen.out]; exact hown6)
          have Hnew6 := Lib.hid hnew6
          clear hgrow6 hloc6 hown6 hnew6
          refine hK.out _ _ ((Hcells.out _ X6.out).1) (fun hHeld => ?_)
          clear hK
          try simp only [Act.put, List.setIfInBounds_toArray, List.set_cons_zero, List.set_cons_succ]
          refine Pl [17,18] ?_
          iterate 2 (refine Pc rfl ?_;simp only [Act.put, uA, uB, uC])
          refine Pn ?_
          refine ord_one 19 rfl (by kernel_rfl) (by rfl) (fun K hK => ?_)
          obtain ⟨hc1, hc2, hfz1⟩ := Hcells.out _ X6.out
          go_wp2_with fail
          have hcs : (w6.setCell ⟨g, i * 3 + 1, none⟩ (.slice p6 y c6)).cell? ⟨r, 1, none⟩ = some (.slice (some ⟨g, 0, none⟩) L.length c0) := (World.cell?_of_block (set_other _ Hown.out.2.2.1)).trans hc1
          clear hc1 hc2 hfz1
          refine hK.out _ _ (hcs) (fun hHeld => ?_)
          clear hK
          try simp only [Act.put, List.setIfInBounds_toArray, List.set_cons_zero, List.set_cons_succ]
          refine wpAnyH_done (by kernel_rfl) ?_ _
          clear hHeld
          have hcore := Hfin.out w6 (.slice p6 y c6) X6.out Hv6.out (fun k hk => ⟨Hnew6.out k hk, OwnR.lt Hv6.out hk⟩)
          have hv7 : OwnB (w6.setCell ⟨g, i * 3 + 1, none⟩ (.slice p6 y c6)) 5 (.slice p6 y c6) (x.f.data.take y) := OwnR.keep Hv6.out fun k hk => set_other _ (fun e => by have h1 : k = g := e; have := Hnew6.out k hk; have := Hown.out.2.2.2; omega)
          have hch := chg_below X6.out (chg_own (own := own) (w := w6) (a := ⟨g, i * 3 + 1, none⟩) (u := .slice p6 y c6) Hown.out.2.1)
          have hge : w.heap.size ≤ (w6.setCell ⟨g, i * 3 + 1, none⟩ (.slice p6 y c6)).heap.size := by have := X6.out.size; simpa [World.setCell] using this
          have H7 := Lib.hid (And.intro hcore (And.intro hv7 (And.intro hch hge)))
          clear hcore hv7 hch hge
          generalize w6.setCell ⟨g, i * 3 + 1, none⟩ (.slice p6 y c6) = Ws at *
          have hi1 : (L.set i ⟨x.n, .slice p6 y c6, ⟨x.f.data.take y, la⟩⟩)[i]? = some ⟨x.n, .slice p6 y c6, ⟨x.f.data.take y, la⟩⟩ := by rw [List.getElem?_set_self (by omega)]
          have Hi1 := Lib.hid hi1
          clear hi1
          obtain ⟨-, -, hc3⟩ := H7.out.1.at rfl Hi1.out
          have hc1 := H7.out.1.c1
          go_wp2_with fail
          go_still_tail 15, (by kernel_rfl)
          clear hc1 hc3
          change wpList _ _ _ _ _ Ws.drew
          have hkd : RefCore Ws.drew r _ _ _ _ _ := H7.out.1.keep (Nat.le_refl _) (fun _ _ => rfl)
          have hvd : OwnB Ws.drew 5 (.slice p6 y c6) (x.f.data.take y) := OwnR.keep H7.out.2.1 (fun _ _ => rfl)
          have hfin := Hfin2.out _ _ hkd hvd
          obtain ⟨-, -, hc3⟩ := hkd.at rfl Hi1.out
          have hfz2 := hkd.free rfl (i * 3 + 2)
          have hchd : Chg own w Ws.drew := H7.out.2.2.1.trans (Chg.drew Ws) (fun _ _ h => h.elim)
          have hch2 : Chg own w (Ws.drew.setCell ⟨g, i * 3 + 2, none⟩ (.int .i64 ((min la y : Nat) : Int))) := hchd.trans (chg_own (own := own) (w := Ws.drew) (a := ⟨g, i * 3 + 2, none⟩) Hown.out.2.1) (fun _ _ h => h)
          have Hdid := Lib.hid (rdid_calls hfin Hfz.out)
          have Hch := Lib.hid (And.intro hch2 (show w.heap.size ≤ (Ws.drew.setCell ⟨g, i * 3 + 2, none⟩ (.int .i64 ((min la y : Nat) : Int))).heap.size from hch2.size))
          clear hkd hvd hfin hchd hch2 H7
          generalize Ws.drew = Wt at *
          go_wp2_with fail
          refine Hdid.out.mono ?_
          intro e w8 h8
          have hE := rstep_did Hch.out.1 (fun k hk => hk.imp id (fun e => Hnew6.out k e)) Hch.out.2 h8
          obtain ⟨rfl, -⟩ := h8
          have HE := Lib.hid hE
          clear hE
          go_wp2_with fail
          go_ret
          exact HE.out
      · have hR : D.truncate (nm s) z = (D, 1) := by
          unfold DiskM.truncate
          rw [if_neg (by rw [hm]; simp), hg]
          show (if z < 0 ∨ (x.f.data.length : Int) < z then _ else _) = _
          rw [if_pos (by omega)]
        rw [hR]
        generalize spotN (nm s) (L.map RFile.n) = i at *
        have Hf := Lib.hid (fun q => rstep_same h (below_names w (.cells #[.string s] 9) q) 1)
        have Hcells := Lib.hid (show ∀ W, Below w.heap.size w W → W.cell? ⟨r, 1, none⟩ = some (.slice (some ⟨g, 0, none⟩) L.length c0) ∧ W.cell? ⟨g, i * 3 + 1, none⟩ = some x.b from fun W hb => by
          have hW := h.below hb
          exact ⟨hW.c1.trans (by rw [hgv]), (hW.core.at hgo hx).2.1⟩)
        obtain ⟨pb, cb, eb⟩ := HasB.slice (h.data x hxm).has
        rw [eb] at Hcells
        generalize x.f.data.length = m at *
        have Hmay := Lib.hid hmay
        have Hsp := Lib.hid hsp
        clear h h1 hmay hsp hm hR hg hx hxm eb hgo hlc
        subst hgv
        by_cases hz0 : z < 0
        · go_enter Tryz.func257, Tryz.ntmps257
          go_wp2_with fail
          refine Hmay.out.mono ?_
          rintro e w2 ⟨rfl, rfl⟩
          go_wp2_with fail
          refine Hsp.out.mono ?_
          rintro e w3 ⟨rfl, q, rfl⟩
          go_wp2_with fail
          go_ret
          exact Hf.out q
        · obtain ⟨y, rfl⟩ : ∃ y : Nat, z = (y : Int) := ⟨z.toNat, by omega⟩
          have hmy : m < y := by omega
          go_enter Tryz.func257, Tryz.ntmps257
          go_wp2_with fail
          refine Hmay.out.mono ?_
          rintro e w2 ⟨rfl, rfl⟩
          go_wp2_with fail
          refine Hsp.out.mono ?_
          rintro e w3 ⟨rfl, q, rfl⟩
          obtain ⟨hc1, hc2⟩ := Hcells.out _ (below_names w (.cells #[.string s] 9) q)
          go_wp2_with fail
          go_ret
          exact Hf.out q
  · have hR : D.truncate (nm s) z = (D, D.may [nm s]) := by unfold DiskM.truncate; rw [if_pos hm]
    rw [hR]
    have Hf := Lib.hid (rstep_same h ((Below.refl _ _).alloc (Nat.le_refl _) (.cells #[.string s] 9)) (D.may [nm s]))
    have Hmay := Lib.hid hmay
    generalize D.may [nm s] = m at *
    have hne : ((m : Int) != 0) = true := by simp; omega
    clear h h1 hmay hR
    go_enter Tryz.func257, Tryz.ntmps257
    go_wp2_with fail
    refine Hmay.out.mono ?_
    rintro e w2 ⟨rfl, rfl⟩
    go_wp2_with fail
    go_ret
    exact Hf.out
end
end Go.Proofs.YtogdfkilhpkloaaGreatDoor

namespace Go.Proofs.YtogdfkilhpkloaaGreatDoor
open Go.RowKit Go.Sat Go.Maps

theorem four_inv (a0 a1 a2 a3 : UInt8) : fourN (ofFour a0 a1 a2 a3) = [a0, a1, a2, a3] := by
  have l0 := a0.toNat_lt
  have l1 := a1.toNat_lt
  have l2 := a2.toNat_lt
  have l3 := a3.toNat_lt
  have e : ∀ (n : Nat) (a : UInt8), n % 256 = a.toNat → UInt8.ofNat n = a := fun n a h => by
    apply UInt8.toNat_inj.1
    rw [UInt8.toNat_ofNat']
    exact h
  unfold fourN ofFour
  rw [e _ a0 (by omega), e _ a1 (by omega), e _ a2 (by omega), e _ a3 (by omega)]

theorem fourAt_inv {b : Bs} (h : 4 ≤ b.length) : fourN (fourAt b) = b.take 4 := by
  match b, h with
  | a0 :: a1 :: a2 :: a3 :: r, _ => exact four_inv a0 a1 a2 a3

theorem four_inj {m n : Nat} (hm : m < 4294967296) (hn : n < 4294967296) (h : fourN m = fourN n) : m = n := by
  have e1 := fourAt_four m hm []
  have e2 := fourAt_four n hn []
  rw [h] at e1
  omega

/-- The head is right: both ways of looking. -/
theorem head_iff {b : Bs} (h : 8 ≤ b.length) : b.take 8 = headN (fourAt b) ↔ fourAt (b.drop 4) = sumN (b.take 4) := by
  have h1 := fourAt_inv (b := b) (by omega)
  have h2 := fourAt_inv (b := b.drop 4) (by rw [List.length_drop]; omega)
  have e8 : b.take 8 = b.take 4 ++ (b.drop 4).take 4 := by rw [← List.take_add]
  have eh : headN (fourAt b) = b.take 4 ++ fourN (sumN (b.take 4)) := by
    show fourN (fourAt b) ++ fourN (sumN (fourN (fourAt b))) = _
    rw [h1]
  rw [e8, eh, List.append_cancel_left_eq, ← h2]
  exact ⟨fun e => four_inj (fourAt_lt _) (sumN_lt _) e, fun e => by rw [e]⟩
end Go.Proofs.YtogdfkilhpkloaaGreatDoor

namespace Go.Proofs.YtogdfkilhpkloaaGreatDoor
open Go.RowKit Go.Sat Go.Maps

theorem quiet_drew {P : Program} {f : FuncId} {args : Array Value} {w : World} {n : Nat} {v : Value} (h : Calls P f args (w.drewN n) fun e w' => e = .returned v ∧ ∃ q, w' = (w.drewN n).drewN q) : Calls P f args (w.drewN n) fun e w'' => e = .returned v ∧ ∃ m, w'' = w.drewN m :=
  h.mono fun _ _ ⟨he, q, hq⟩ => ⟨he, n + q, by rw [hq, World.drewN_drewN]⟩

/-- 'x[l:h]'. -/
theorem run_window {P : Program} (W : World) (t e : TypeId) (ht : P.underlying t = some (.slice e)) (hz : ∀ w, (Go.sizeOf e).run P w = .ok 1 w) (b o len cap l h : Nat) (hlh : l ≤ h) (hh : h ≤ cap) (hl : l < cap) :
    (Instr.slice t (.slice (some ⟨b, o, none⟩) len cap) (some (.int .i64 (l : Int))) (some (.int .i64 (h : Int))) none).run P W = .ok (.slice (some ⟨b, o + l, none⟩) (h - l) (cap - l)) W := by
  have ht' : P.underlying t = some (.slice (P.elem t)) := by simp [Program.elem, ht]
  have he : P.elem t = e := by simp [Program.elem, ht]
  rw [run_slice_lh W t _ _ _ ht' .i64 .i64 _ _ (by omega) (by omega) (by omega), he, hz]
  have hne : ¬ cap = l := by omega
  by_cases h0 : l = 0
  · subst h0
    simp [Result.andThen, sliced, Addr.add, hne]
  · simp [Result.andThen, sliced, Addr.add, hne, h0]

theorem below_drewNJ (w : World) (n : Nat) : Below w.heap.size w (w.drewN n) := ⟨rfl, rfl, rfl, Nat.le_refl _, fun _ _ => rfl⟩

theorem below_dn {w W : World} (h : Below w.heap.size w W) (n : Nat) : Below w.heap.size w (W.drewN n) := h.trans ⟨rfl, rfl, rfl, Nat.le_refl _, fun _ _ => rfl⟩

set_option maxRecDepth 100000 in
set_option maxHeartbeats 4000000 in
theorem rdec_calls {w : World} {p : Option Addr} {n c : Nat} {b : Bs} (h : HasB w (.slice p n c) b) (hnc : n ≤ c) (hl : b.length ≤ 140737488355328) :
    Calls Tryz.prog 377 #[.slice p n c] w (Decoded w b) := by
  have hn : n = b.length := (bytes_in h).1
  subst hn
  obtain ⟨i0, hi, hz0, hz1, hz2⟩ := info_parts (show (Tryz.prog.info? 5).map (fun i => (i.zero, i.size, i.bytes)) = some (some (.int .u8 0), 1, 1) by kernel_rfl)
  by_cases h8 : b.length < 8
  · have Hfin := Lib.hid (decoded_bad (w := w) (w' := w) (b := b) (k := 2) (by unfold decE; rw [if_pos h8]) (by decide) (Below.refl _ _))
    generalize hN : b.length = N at *
    clear hN h
    go_enter Tryz.func377, Tryz.ntmps377
    go_wp2_with fail
    go_ret3
    exact Hfin.out
  · have hpos : 0 < b.length := by omega
    rcases h.at with e | ⟨g, o, c2, e, -⟩
    · rw [e] at hpos
      simp at hpos
    cases e
    have H4 := Lib.hid (fun (W : World) (hb : Below w.heap.size w W) => rfour_at (HasB.from (h.below hb) (k := 4) (by omega) (c - 4)) (by rw [List.length_drop]; omega))
    have HS := Lib.hid (fun (W : World) (hb : Below w.heap.size w W) => rsum_calls (HasB.cut (h.below hb) (k := 4) (by omega) c) (by rw [List.length_take]; omega))
    have hs1 : ∀ W, (Instr.slice 39 (.slice (some ⟨g, o, none⟩) b.length c) (some (.int .i64 4)) none none).run Tryz.prog W = .ok (.slice (some ⟨g, o + 4, none⟩) (b.length - 4) (c - 4)) W := fun W => run_from W Tryz.underlying39 hi hz1 g o b.length c 4 (by omega) hnc (by omega)
    have hs2 : ∀ W, (Instr.slice 39 (.slice (some ⟨g, o, none⟩) b.length c) none (some (.int .i64 4)) none).run Tryz.prog W = .ok (.slice (some ⟨g, o, none⟩) 4 c) W := fun W => run_upto W Tryz.underlying39 hi _ _ c 4 (by omega)
    by_cases hh : fourAt (b.drop 4) = sumN (b.take 4)
    · have hhead := (head_iff (b := b) (by omega)).2 hh
      have heq : ((fourAt (b.drop 4) : Int) != sumF (b.take 4)) = false := by rw [sumF_nat]; simp; omega
      have HF := Lib.hid (fun (W : World) (hb : Below w.heap.size w W) => rfour_at (h.below hb) (by omega))
      by_cases hm : 1048576 < fourAt b
      · have Hfin := Lib.hid (fun W => decoded_bad (w := w) (w' := W) (b := b) (k := 5) (by unfold decE; rw [if_neg h8, if_neg (by simpa using hhead), if_pos hm]) (by decide))
        have hlt := fourAt_lt b
        generalize fourAt (b.drop 4) = x at *
        generalize sumF (b.take 4) = y at *
        generalize fourAt b = z at *
        generalize b.length = N at *
        clear h hh hhead
        go_enter Tryz.func377, Tryz.ntmps377
        go_wp2_with fail
        go_quiet ((first | (go_at_call 406; refine quiet_drew (H4.out _ (below_drewNJ _ _))) | (go_at_call 336; refine Calls.quiet_of_same (HS.out _ (below_drewNJ _ _)))))
        go_wp2_with fail
        refine (HF.out _ (below_drewNJ _ _)).mono ?_
        rintro e w2 ⟨rfl, q2, rfl⟩
        go_wp2_with fail
        go_ret3
        exact Hfin.out _ (below_drewNJ _ _)
      · by_cases hd : b.length < fourAt b + 12
        · have Hfin := Lib.hid (fun W => decoded_bad (w := w) (w' := W) (b := b) (k := 2) (by unfold decE; rw [if_neg h8, if_neg (by simpa using hhead), if_neg hm, if_pos hd]) (by decide))
          have hlt := fourAt_lt b
          generalize fourAt (b.drop 4) = x at *
          generalize sumF (b.take 4) = y at *
          generalize fourAt b = z at *
          generalize b.length = N at *
          clear h hh hhead
          go_enter Tryz.func377, Tryz.ntmps377
          go_wp2_with fail
          go_quiet ((first | (go_at_call 406; refine quiet_drew (H4.out _ (below_drewNJ _ _))) | (go_at_call 336; refine Calls.quiet_of_same (HS.out _ (below_drewNJ _ _)))))
          go_wp2_with fail
          refine (HF.out _ (below_drewNJ _ _)).mono ?_
          rintro e w2 ⟨rfl, q2, rfl⟩
          go_wp2_with fail
          go_ret3
          exact Hfin.out _ (below_drewNJ _ _)
        · have hlt := fourAt_lt b
          have H8 := Lib.hid (fun (W : World) (hb : Below w.heap.size w W) => rfour_at (HasB.from (h.below hb) (k := 8 + fourAt b) (by omega) (c - (8 + fourAt b))) (by rw [List.length_drop]; omega))
          have HS8 := Lib.hid (fun (W : World) (hb : Below w.heap.size w W) => rsum_calls (HasB.cut (h.below hb) (k := 8 + fourAt b) (by omega) c) (by rw [List.length_take]; omega))
          have HxW := Lib.hid (show ∀ W, Below w.heap.size w W → Holds W 1 (.slice (some ⟨g, o + 8, none⟩) (fourAt b) (c - 8)) (fourAt b) (bytesV ((b.drop 8).take (fourAt b))) from fun W hb => by
            have h2 := HasB.cut (HasB.from (h.below hb) (k := 8) (by omega) (c - 8)) (k := fourAt b) (by rw [List.length_drop]; omega) (c - 8)
            unfold HasB at h2
            rw [List.length_take, List.length_drop, Nat.min_eq_left (by omega)] at h2
            exact h2)
          have hs3 : ∀ W, (Instr.slice 39 (.slice (some ⟨g, o, none⟩) b.length c) (some (.int .i64 (8 + (fourAt b : Int)))) none none).run Tryz.prog W = .ok (.slice (some ⟨g, o + (8 + fourAt b), none⟩) (b.length - (8 + fourAt b)) (c - (8 + fourAt b))) W := fun W => by
            have := run_from (P := Tryz.prog) W Tryz.underlying39 hi hz1 g o b.length c (8 + fourAt b) (by omega) hnc (by omega)
            rwa [show ((8 + fourAt b : Nat) : Int) = 8 + (fourAt b : Int) by omega] at this
          have hs4 : ∀ W, (Instr.slice 39 (.slice (some ⟨g, o, none⟩) b.length c) none (some (.int .i64 (8 + (fourAt b : Int)))) none).run Tryz.prog W = .ok (.slice (some ⟨g, o, none⟩) (8 + fourAt b) c) W := fun W => by
            have := run_upto (P := Tryz.prog) W Tryz.underlying39 hi (some ⟨g, o, none⟩) b.length c (8 + fourAt b) (by omega)
            rwa [show ((8 + fourAt b : Nat) : Int) = 8 + (fourAt b : Int) by omega] at this
          have hs5 : ∀ W, (Instr.slice 39 (.slice (some ⟨g, o, none⟩) b.length c) (some (.int .i64 8)) (some (.int .i64 (8 + (fourAt b : Int)))) none).run Tryz.prog W = .ok (.slice (some ⟨g, o + 8, none⟩) (fourAt b) (c - 8)) W := fun W => by
            have := run_window (P := Tryz.prog) W 39 5 Tryz.underlying39 (fun w => by simp [sizeOf, typeInfo, hi, hz1]) g o b.length c 8 (8 + fourAt b) (by omega) (by omega) (by omega)
            rwa [show ((8 + fourAt b : Nat) : Int) = 8 + (fourAt b : Int) by omega, Nat.add_sub_cancel_left] at this
          have hwr : IntKind.i64.wrap (8 + (fourAt b : Int)) = 8 + (fourAt b : Int) := IntWalk.i64_in _ ⟨by omega, by omega⟩
          have hwr2 : IntKind.i64.wrap (12 + (fourAt b : Int)) = 12 + (fourAt b : Int) := IntWalk.i64_in _ ⟨by omega, by omega⟩
          by_cases hs : fourAt (b.drop (8 + fourAt b)) = sumN (b.take (8 + fourAt b))
          · have hE : decE b = 0 := by unfold decE; rw [if_neg h8, if_neg (by simpa using hhead), if_neg hm, if_neg hd, if_neg (by simpa using hs)]
            have Hfin := Lib.hid (show ∀ v W, OwnR W 5 1 v (fourAt b) (bytesV ((b.drop 8).take (fourAt b))) → (∀ k, v.ownBlock = some k → w.heap.size ≤ k) → Below w.heap.size w W → Decoded w b (.returned (.tuple #[v, .int .i64 (12 + (fourAt b : Int)), .int .i64 0])) W from fun v W ho hn hb =>
              ⟨v, by unfold decL; rw [hE, if_pos rfl, show ((fourAt b + 12 : Nat) : Int) = 12 + (fourAt b : Int) by omega]; rfl, by
                unfold decB
                rw [if_pos hE]
                unfold OwnB
                rw [List.length_take, List.length_drop, Nat.min_eq_left (by omega)]
                exact ho, hn, hb⟩)
            have heq2 : ((fourAt (b.drop (8 + fourAt b)) : Int) != sumF (b.take (8 + fourAt b))) = false := by rw [sumF_nat]; simp; omega
            generalize fourAt (b.drop (8 + fourAt b)) = x2 at *
            generalize sumF (b.take (8 + fourAt b)) = y2 at *
            generalize fourAt (b.drop 4) = x at *
            generalize sumF (b.take 4) = y at *
            generalize hz : fourAt b = z at *
            generalize b.length = N at *
            clear h hh hhead hs hE hz
            go_enter Tryz.func377, Tryz.ntmps377
            go_wp2_with fail
            go_quiet ((first | (go_at_call 406; refine quiet_drew (H4.out _ (below_drewNJ _ _))) | (go_at_call 336; refine Calls.quiet_of_same (HS.out _ (below_drewNJ _ _)))))
            go_wp2_with fail
            refine (HF.out _ (below_drewNJ _ _)).mono ?_
            rintro e w2 ⟨rfl, q2, hq2⟩
            have HbX := Lib.hid (show Below w.heap.size w w2 by rw [hq2]; exact below_dn (below_drewNJ _ _) _)
            clear hq2
            go_wp2_with fail
            go_quiet ((first | (go_at_call 406; refine quiet_drew (H8.out _ (below_dn HbX.out _))) | (go_at_call 336; refine Calls.quiet_of_same (HS8.out _ (below_dn HbX.out _)))))
            have HbY := Lib.hid (below_dn HbX.out nq)
            generalize w2.drewN nq = w5 at *
            have HbZ := Lib.hid (HbY.out.alloc HbY.out.size (.cells #[] 5))
            go_wp2_with (at_builtin; refine wpList_app (w5.alloc (.cells #[] 5)) rfl (.tmp 37) (.tmp 41) 39 rfl 5 i0 (.int .u8 0) 1 1 Tryz.underlying39 hi hz0 hz1 hz2 rfl (by decide) (.slice (some ⟨w5.heap.size, 0, none⟩) 0 0) 0 [] rfl (own_empty w5 _) (.slice (some ⟨g, o + 8, none⟩) z (c - 8)) z _ rfl (HxW.out _ HbZ.out) (bytesV_one _) (by unfold maxLen; omega) (by omega) ?_; intro v12 w12 hown12 hgrow12 hloc12; rw [Nat.zero_add, List.nil_append] at hown12; have hX := HbZ.out.grown hgrow12 HbZ.out.size (fun j e => by have := HbY.out.size; simp [Value.ownBlock] at e; omega); have hnew := own_ge (B := w.heap.size) hloc12 (fun k hk => by have := HbY.out.size; simp [Value.ownBlock] at hk; omega) HbZ.out.size; have X12 := Lib.hid (And.intro hX (And.intro hown12 hnew)); clear hown12 hgrow12 hloc12 hX hnew)
            go_ret3
            exact Hfin.out _ _ X12.out.2.1 X12.out.2.2 X12.out.1
          · have Hfin := Lib.hid (fun W => decoded_bad (w := w) (w' := W) (b := b) (k := 4) (by unfold decE; rw [if_neg h8, if_neg (by simpa using hhead), if_neg hm, if_neg hd, if_pos hs]) (by decide))
            have heq2 : ((fourAt (b.drop (8 + fourAt b)) : Int) != sumF (b.take (8 + fourAt b))) = true := by rw [sumF_nat]; simp; omega
            generalize fourAt (b.drop (8 + fourAt b)) = x2 at *
            generalize sumF (b.take (8 + fourAt b)) = y2 at *
            generalize fourAt (b.drop 4) = x at *
            generalize sumF (b.take 4) = y at *
            generalize fourAt b = z at *
            generalize b.length = N at *
            clear h hh hhead hs
            go_enter Tryz.func377, Tryz.ntmps377
            go_wp2_with fail
            go_quiet ((first | (go_at_call 406; refine quiet_drew (H4.out _ (below_drewNJ _ _))) | (go_at_call 336; refine Calls.quiet_of_same (HS.out _ (below_drewNJ _ _)))))
            go_wp2_with fail
            refine (HF.out _ (below_drewNJ _ _)).mono ?_
            rintro e w2 ⟨rfl, q2, hq2⟩
            have HbX := Lib.hid (show Below w.heap.size w w2 by rw [hq2]; exact below_dn (below_drewNJ _ _) _)
            clear hq2
            go_wp2_with fail
            go_quiet ((first | (go_at_call 406; refine quiet_drew (H8.out _ (below_dn HbX.out _))) | (go_at_call 336; refine Calls.quiet_of_same (HS8.out _ (below_dn HbX.out _)))))
            go_wp2_with fail
            go_ret3
            exact Hfin.out _ (below_dn HbX.out _)
    · have Hfin := Lib.hid (fun W => decoded_bad (w := w) (w' := W) (b := b) (k := 4) (by unfold decE; rw [if_neg h8, if_pos (fun e => hh ((head_iff (by omega)).1 e))]) (by decide))
      have hne : ((fourAt (b.drop 4) : Int) != sumF (b.take 4)) = true := by rw [sumF_nat]; simp; omega
      generalize fourAt (b.drop 4) = x at *
      generalize sumF (b.take 4) = y at *
      generalize b.length = N at *
      clear h hh
      go_enter Tryz.func377, Tryz.ntmps377
      go_wp2_with fail
      go_quiet ((first | (go_at_call 406; refine quiet_drew (H4.out _ (below_drewNJ _ _))) | (go_at_call 336; refine Calls.quiet_of_same (HS.out _ (below_drewNJ _ _)))))
      go_wp2
      go_ret3
      exact Hfin.out _ (below_drewNJ _ _)
end Go.Proofs.YtogdfkilhpkloaaGreatDoor

namespace Go.Proofs.YtogdfkilhpkloaaGreatDoor
open Go.RowKit Go.Sat Go.Maps

set_option maxRecDepth 100000 in
set_option maxHeartbeats 1000000 in
theorem rone_calls {w : World} {p : Option Addr} {n c : Nat} {b : Bs} (h : HasB w (.slice p n c) b) (hnc : n ≤ c) (hl : b.length ≤ 140737488355328) :
    Calls Tryz.prog 376 #[.slice p n c] w (OneOf w b) := by
  have hn : n = b.length := (bytes_in h).1
  subst hn
  have Hd := Lib.hid (rdec_calls h hnc hl)
  have hdl : decL b ≤ 4294967307 := by
    have := fourAt_lt b
    unfold decL
    split <;> omega
  clear h
  go_enter Tryz.func376, Tryz.ntmps376
  go_wp2_with fail
  refine Hd.out.mono ?_
  rintro e w1 ⟨v, rfl, hv, hn1, hb1⟩
  by_cases he : decE b = 0
  · by_cases hL : decL b = b.length
    · have hE : oneE b = 0 := by unfold oneE; rw [if_pos he, if_pos hL]
      have Hfin := Lib.hid (show OneOf w b (.returned (.tuple #[v, .int .i64 0])) w1 from ⟨v, by rw [hE]; rfl, by unfold oneB; rw [if_pos hE]; exact hv, hn1, hb1⟩)
      rw [he, hL]
      generalize b.length = N at *
      clear hv hn1 hb1 he hL hE hdl
      go_wp2_with fail
      go_ret2
      exact Hfin.out
    · have Hfin := Lib.hid (one_nil (w := w) (w' := w1) (b := b) (k := 3) (by unfold oneE; rw [if_pos he, if_neg hL]) (by decide) hb1)
      have hne : ((decL b : Int) != (b.length : Int)) = true := by
        simp only [bne_iff_ne, ne_eq, Int.natCast_inj]
        exact hL
      rw [he]
      generalize decL b = M at *
      generalize b.length = N at *
      clear hv hn1 hb1 he hL
      go_wp2_with fail
      go_ret2
      exact Hfin.out
  · have hE : oneE b = decE b := by unfold oneE; rw [if_neg he]
    have Hfin := Lib.hid (one_nil (w := w) (w' := w1) (b := b) (k := decE b) hE he hb1)
    have hne : ((decE b : Int) == 0) = false := by simp; omega
    have hne2 : ((decE b : Int) != 0) = true := by simp; omega
    generalize decE b = E at *
    generalize decL b = M at *
    generalize b.length = N at *
    clear hv hn1 hb1 hE
    go_wp2_with fail
    go_ret2
    exact Hfin.out
end Go.Proofs.YtogdfkilhpkloaaGreatDoor

namespace Go.Sat
open Go Go.RowKit
/-- 'x[k:]', of elements of whatever size. -/
theorem run_from_any {P : Program} (w : World) {t e : TypeId} {i : TypeInfo} (ht : P.underlying t = some (.slice e)) (hi : P.info? e = some i) (p : Option Addr) (len cap k : Nat) (h : k ≤ len) (h2 : len ≤ cap) :
    (Instr.slice t (.slice p len cap) (some (.int .i64 (k : Int))) none none).run P w = .ok (.slice (if cap - k = 0 then p else p.map fun x => x.add (k * i.size)) (len - k) (cap - k)) w := by
  have h1 : (Instr.sliceBound (.int .i64 (k : Int)) len .sliceB).run P w = .ok k w := by
    rw [run_sliceBound _ _ _ _ _ (by omega) (by omega)]
    simp
  simp [Instr.slice, run_underlying ht, Instr.sliceBounds, h1, sizeOf, typeInfo, hi, Result.andThen]
  by_cases hc : cap = k
  · rw [if_pos hc, if_pos (by omega)]
  · rw [if_neg hc, if_neg (by omega)]

theorem Holds.upto {w : World} {size : Nat} {p : Option Addr} {n c : Nat} {xs : List Value} (h : Holds w size (.slice p n c) n xs) {k : Nat} (hk : k ≤ n) (c' : Nat) : Holds w size (.slice p k c') k (xs.take (k * size)) := by
  obtain ⟨hl, p', cap, e, h0, hc⟩ := h
  cases e
  refine ⟨by rw [List.length_take, hl]; exact Nat.min_eq_left (Nat.mul_le_mul_right _ hk), p, c', rfl, fun e => ?_, fun a ha i u hu => hc a ha i u ?_⟩
  · have := h0 e
    omega
  · rw [List.getElem?_take] at hu
    split at hu
    · exact hu
    · cases hu

theorem OwnR.cut_from {w : World} {e : TypeId} {size : Nat} {p : Option Addr} {n c : Nat} {xs : List Value} (h : OwnR w e size (.slice p n c) n xs) {k : Nat} (hk : k ≤ n) : Holds w size (.slice (if c - k = 0 then p else p.map fun x => x.add (k * size)) (n - k) (c - k)) (n - k) (xs.drop (k * size)) := by
  have hl : (xs.drop (k * size)).length = (n - k) * size := by rw [List.length_drop, h.1, Nat.sub_mul]
  rcases h.2 with ⟨e, hn⟩ | ⟨g, cap, cur, e, hg, hnc, _⟩
  · cases e
    have hk0 : k = 0 := by omega
    subst hk0
    exact ⟨hl, none, 0, by simp, fun _ => rfl, fun a ha => by cases ha⟩
  · cases e
    by_cases h0 : c - k = 0
    · rw [if_pos h0]
      have hnk : n - k = 0 := by omega
      rw [hnk] at hl ⊢
      have hx : xs.drop (k * size) = [] := List.eq_nil_of_length_eq_zero (by rw [hl]; simp)
      rw [hx]
      exact ⟨by simp, _, _, rfl, fun e => (by cases e), fun a ha i u hu => by simp at hu⟩
    · rw [if_neg h0]
      refine ⟨hl, _, _, rfl, fun e => (by cases e), fun a ha i u hu => ?_⟩
      cases ha
      have e1 : (⟨g, 0, none⟩ : Addr).add (k * size) = ⟨g, k * size, none⟩ := add_zero _ _
      have e2 : (⟨g, k * size, none⟩ : Addr).add i = ⟨g, k * size + i, none⟩ := by unfold Addr.add; split <;> simp_all
      show w.cell? (((⟨g, 0, none⟩ : Addr).add (k * size)).add i) = some u
      rw [e1, e2]
      rw [List.getElem?_drop] at hu
      have := h.cells (g := g) rfl (k * size + i) u hu
      rwa [add_zero] at this
end Go.Sat

namespace Go.Proofs.YtogdfkilhpkloaaGreatDoor
open Go.RowKit Go.Sat Go.Maps

theorem cells_take (L : List RFile) (i : Nat) : (L.take i).flatMap RFile.cells = (L.flatMap RFile.cells).take (i * 3) := by
  induction L generalizing i with
  | nil => simp
  | cons y r ih =>
    cases i with
    | zero => simp
    | succ i =>
      have hy : y.cells.length = 3 := rfl
      rw [List.take_succ_cons, List.flatMap_cons, List.flatMap_cons, ih i, List.take_append, List.take_of_length_le (l := y.cells) (by omega)]
      congr 2
      omega

theorem cells_drop (L : List RFile) (i : Nat) : (L.drop i).flatMap RFile.cells = (L.flatMap RFile.cells).drop (i * 3) := by
  induction L generalizing i with
  | nil => simp
  | cons y r ih =>
    cases i with
    | zero => simp
    | succ i =>
      have hy : y.cells.length = 3 := rfl
      rw [List.drop_succ_cons, List.flatMap_cons, ih i, List.drop_append, List.drop_of_length_le (l := y.cells) (by omega), List.nil_append]
      congr 1
      omega

section
variable {w : World} {r : Nat} {v : Value} {L : List RFile} {own : Nat → Prop} {D : DiskM} {room : Nat} {fuse : Option Nat}

theorem cells_one {L : List RFile} (h : ∀ x ∈ L, x.b.oneCell' = true) : ∀ u ∈ L.flatMap RFile.cells, u.oneCell' = true := by
  intro u hu
  obtain ⟨x, hx, hux⟩ := List.mem_flatMap.1 hu
  simp only [RFile.cells, List.mem_cons, List.not_mem_nil, or_false] at hux
  rcases hux with rfl | rfl | rfl
  · rfl
  · exact h x hx
  · rfl

theorem RefCore.one (h : RefCore w r v L own room fuse) : ∀ x ∈ L, x.b.oneCell' = true := fun x hx => by
  obtain ⟨p, c, e, _⟩ := own_slice (h.data x hx)
  rw [e]
  rfl

/-- The list is another one. -/
theorem RefCore.relist (h : RefCore w r v L own room fuse) {v' : Value} {L' : List RFile} (hrow : OwnR w 423 3 v' L'.length (L'.flatMap RFile.cells)) (hL : ∀ x ∈ L', x ∈ L ∨ (OwnB w 5 x.b x.f.data ∧ ∀ k, x.b.ownBlock = some k → own k ∧ k ≠ r)) (hn : ∀ k, v'.ownBlock = some k → ¬ own k) :
    RefCore (w.setCell ⟨r, 1, none⟩ v') r v' L' (fun k => own k ∨ v'.ownBlock = some k) room fuse where
  cells := set_block h.cells 1 v'
  row := hrow.keep fun k hk => set_other _ (fun e => hn k hk (by have e : k = r := e; rw [e]; exact h.or))
  data := fun x hx => by
    rcases hL x hx with hx | ⟨e, e2⟩
    · exact OwnR.keep (h.data x hx) fun k hk => set_other _ (h.ob x hx k hk).2.1
    · exact OwnR.keep e fun k hk => set_other _ (e2 k hk).2
  or := .inl h.or
  ov := fun k hk => ⟨.inr hk, fun e => hn k hk (by rw [e]; exact h.or)⟩
  ob := fun x hx k hk => by
    rcases hL x hx with hx | ⟨_, e⟩
    · exact ⟨.inl (h.ob x hx k hk).1, (h.ob x hx k hk).2.1, fun e => hn k e (h.ob x hx k hk).1⟩
    · exact ⟨.inl (e k hk).1, (e k hk).2, fun e2 => hn k e2 (e k hk).1⟩
  olt := fun k hk => by
    have : k < w.heap.size := by
      rcases hk with hk | hk
      · exact h.olt k hk
      · exact hrow.lt hk
    simpa [World.setCell] using this
end
end Go.Proofs.YtogdfkilhpkloaaGreatDoor

namespace Go.Proofs.YtogdfkilhpkloaaGreatDoor
open Go.RowKit Go.Sat Go.Maps

section
variable {w : World} {r : Nat} {v : Value} {L : List RFile} {own : Nat → Prop} {D : DiskM}

theorem RefIn.fit (h : RefIn w r v L own D) : L.length ≤ 4096 := by rw [h.len]; exact h.ok.count

set_option maxRecDepth 100000 in
set_option maxHeartbeats 4000000 in
/-- No room. -/
theorem rappend_full (h : RefIn w r v L own D) (s : ByteArray) (hs : s.size ≤ 9223372036854775807) {pb : Option Addr} {m cb : Nat} (hm2 : m ≤ 140737488355328) (hm : D.may [nm s] = 0)
    (hf : D.room < D.used + m ∨ (Sat.get (nm s) D.files = none ∧ 4096 ≤ D.files.length)) :
    Calls Tryz.prog 266 #[.pointer (some ⟨r, 0, none⟩), .string s, .slice pb m cb] w (RStep w r own (D, 6)) := by
  have h1 : RefIn (w.alloc (.cells #[.string s] 9)) r v L own D := h.below ((Below.refl _ _).alloc (Nat.le_refl _) _)
  have hmay := rmay_calls h1 (some ⟨w.heap.size, 0, none⟩) [s] 1 (strs_one w s) (by simp) (by simpa using hs)
  simp only [List.map_cons, List.map_nil] at hmay
  have hsp := spot_calls h1 s
  rw [h.is] at hsp
  rw [hm] at hmay
  have Hf := Lib.hid (fun W hb => rstep_same h (w' := W) hb 6)
  have HU := Lib.hid (fun W hb => rused_calls (h.below (w' := W) hb))
  obtain ⟨pv, cv, rfl⟩ := h.slice
  have Hcells := Lib.hid (show ∀ W, Below w.heap.size w W → W.cell? ⟨r, 0, none⟩ = some (.int .i64 (D.room : Int)) ∧ W.cell? ⟨r, 1, none⟩ = some (.slice pv L.length cv) from fun W hb => ⟨(h.below hb).c0, (h.below hb).c1⟩)
  have hub : D.used ≤ 1073741824 := Nat.le_trans h.ok.used h.ok.room
  have hrb := h.ok.room
  have hfit := h.fit
  rw [← h.len] at hf
  generalize spotN (nm s) (L.map RFile.n) = i at *
  clear h h1
  generalize D.used = U at *
  generalize D.room = R at *
  generalize L.length = N at *
  by_cases hA : R < U + m
  · have hd1 : decide ((R : Int) < (U : Int) + (m : Int)) = true := by simp; omega
    have hd2 : decide (R < U + m) = true := by simpa using hA
    clear hf hm
    have Hmay := Lib.hid hmay
    have Hsp := Lib.hid hsp
    clear hmay hsp
    go_enter Tryz.func266, Tryz.ntmps266
    go_wp2_with fail
    refine Hmay.out.mono ?_
    rintro e w2 ⟨rfl, rfl⟩
    go_wp2_with fail
    refine Hsp.out.mono ?_
    rintro e w3 ⟨rfl, q, rfl⟩
    have HbW := Lib.hid (below_names w (.cells #[.string s] 9) q)
    have Hused := Lib.hid (fun n => HU.out _ (HbW.out.trans (show Below _ _ (((w.alloc (.cells #[.string s] 9)).drewN q).drewN n) from ⟨rfl, rfl, rfl, Nat.le_refl _, fun _ _ => rfl⟩)))
    obtain ⟨hc0, hc1⟩ := Hcells.out _ HbW.out
    generalize (w.alloc (.cells #[.string s] 9)).drewN q = W at *
    go_wp2_with fail
    go_quiet ((go_at_call 337; refine Calls.quiet_of_same (Hused.out _)))
    clear hc0 hc1
    go_wp2_with fail
    go_ret
    exact Hf.out _ (HbW.out.trans ⟨rfl, rfl, rfl, Nat.le_refl _, fun _ _ => rfl⟩)
  · obtain ⟨hg, h4⟩ : Sat.get (nm s) D.files = none ∧ 4096 ≤ N := by
      rcases hf with hf | hf
      · exact absurd hf hA
      · exact hf
    rw [hg] at hsp
    have hN : N = 4096 := by omega
    subst hN
    have hd1 : decide ((R : Int) < (U : Int) + (m : Int)) = false := by simp; omega
    have hd2 : decide (R < U + m) = false := by simpa using hA
    clear hf hm hg
    have Hmay := Lib.hid hmay
    have Hsp := Lib.hid hsp
    clear hmay hsp
    go_enter Tryz.func266, Tryz.ntmps266
    go_wp2_with fail
    refine Hmay.out.mono ?_
    rintro e w2 ⟨rfl, rfl⟩
    go_wp2_with fail
    refine Hsp.out.mono ?_
    rintro e w3 ⟨rfl, q, rfl⟩
    have HbW := Lib.hid (below_names w (.cells #[.string s] 9) q)
    have Hused := Lib.hid (fun n => HU.out _ (HbW.out.trans (show Below _ _ (((w.alloc (.cells #[.string s] 9)).drewN q).drewN n) from ⟨rfl, rfl, rfl, Nat.le_refl _, fun _ _ => rfl⟩)))
    obtain ⟨hc0, hc1⟩ := Hcells.out _ HbW.out
    generalize (w.alloc (.cells #[.string s] 9)).drewN q = W at *
    go_wp2_with fail
    go_quiet ((go_at_call 337; refine Calls.quiet_of_same (Hused.out _)))
    clear hc0 hc1
    go_wp2_with fail
    go_ret
    exact Hf.out _ (HbW.out.trans ⟨rfl, rfl, rfl, Nat.le_refl _, fun _ _ => rfl⟩)
/-- Behind the row that was laid anew: it is written, and the fuse burns on. -/
theorem rapp_end {W w7 : World} {own1 : Nat → Prop} {g i : Nat} {x : RFile} {v7 : Value} {d7 : Bs} {F : List (Bs × FileM)} (hc : RefCore W r v L own1 D.room D.fuse) (hg : v.ownBlock = some g) (hx : L[i]? = some x) (hb : Below W.heap.size W w7) (h7 : OwnB w7 5 v7 d7) (hn7 : ∀ k, v7.ownBlock = some k → W.heap.size ≤ k)
    (hF : F = (L.set i ⟨x.n, v7, ⟨d7, x.f.lasts⟩⟩).map RFile.key) (hok : DiskM.OK { D with files := F }) (hch : Chg own w W) (hx1 : ∀ k, own1 k → own k ∨ w.heap.size ≤ k) (hfz : D.fuse ≠ some 0) :
    Calls Tryz.prog 330 #[.pointer (some ⟨r, 0, none⟩)] (w7.setCell ⟨g, i * 3 + 1, none⟩ v7) (RStep w r own (DiskM.done { D with files := F }, 0)) := by
  have hk : RefCore w7 r v L own1 D.room D.fuse := hc.keep hb.size fun k hk => hb.block k (hc.olt k hk)
  have hgo := (hc.ov g hg).1
  have hs := hk.store hg hx 1 (by omega) v7 ⟨x.n, v7, ⟨d7, x.f.lasts⟩⟩ rfl (own' := fun k => own1 k ∨ v7.ownBlock = some k) (fun _ h => .inl h) h7
    (fun k hk => ⟨.inr hk, fun e => by have := hc.olt r hc.or; have := hn7 k hk; omega, fun e => by have := hc.olt g hgo; have := hn7 k hk; omega⟩)
    (fun k h => by
      rcases h with h | h
      · exact hk.olt k h
      · exact OwnR.lt h7 h)
  have hin : RefIn (w7.setCell ⟨g, i * 3 + 1, none⟩ v7) r v (L.set i ⟨x.n, v7, ⟨d7, x.f.lasts⟩⟩) (fun k => own1 k ∨ v7.ownBlock = some k) { D with files := F } := hs.full rfl rfl hF hok
  have hsz := hch.size
  have hch2 : Chg own w (w7.setCell ⟨g, i * 3 + 1, none⟩ v7) := by
    refine (hch.trans ((Chg.of_below hb).mono (T := fun _ => False) fun _ _ h => h) fun _ _ h => h.elim).trans (Chg.setCell w7 ⟨g, i * 3 + 1, none⟩ v7) fun k hk e => ?_
    have e : k = g := e
    rcases hx1 g hgo with h | h
    · rw [e]; exact h
    · omega
  refine (rdid_calls hin hfz).mono ?_
  intro e w8 h8
  refine rstep_did hch2 (fun k hk => ?_) hch2.size h8
  rcases hk with hk | hk
  · exact hx1 k hk
  · exact .inr (Nat.le_trans hsz (hn7 k hk))

set_option maxRecDepth 100000 in
set_option maxHeartbeats 8000000 in
/-- The file is there. -/
theorem rappend_is (h : RefIn w r v L own D) (s : ByteArray) (hs : s.size ≤ 9223372036854775807) {pb : Option Addr} {m cb : Nat} {l : Bs} (hl : HasB w (.slice pb m cb) l) (hm : D.may [nm s] = 0) {f : FileM} (hg : Sat.get (nm s) D.files = some f) (hroom : D.used + m ≤ D.room)
    (hok : DiskM.OK { D with files := put (nm s) ⟨f.data ++ l, f.lasts⟩ D.files }) :
    Calls Tryz.prog 266 #[.pointer (some ⟨r, 0, none⟩), .string s, .slice pb m cb] w (RStep w r own (DiskM.done { D with files := put (nm s) ⟨f.data ++ l, f.lasts⟩ D.files }, 0)) := by
  have hml : m = l.length := (bytes_in hl).1
  have h1 : RefIn (w.alloc (.cells #[.string s] 9)) r v L own D := h.below ((Below.refl _ _).alloc (Nat.le_refl _) _)
  have hmay := rmay_calls h1 (some ⟨w.heap.size, 0, none⟩) [s] 1 (strs_one w s) (by simp) (by simpa using hs)
  simp only [List.map_cons, List.map_nil] at hmay
  have hsp := spot_calls h1 s
  rw [h.is, hg] at hsp
  rw [hm] at hmay
  have HU := Lib.hid (fun W hb => rused_calls (h.below (w' := W) hb))
  obtain ⟨x, hx, hxn, rfl⟩ := h.hit hg
  have hlm := h.len_le hx
  have hxm := List.mem_of_getElem? hx
  have hN : spotN (nm s) (L.map RFile.n) < L.length := (List.getElem?_eq_some_iff.1 hx).1
  rcases h.at with h0 | ⟨g, c0, hgv, hlc, -⟩
  · rw [h0] at hN
    simp at hN
  have hgo : v.ownBlock = some g := by rw [hgv]; rfl
  have hub : D.used ≤ 1073741824 := Nat.le_trans h.ok.used h.ok.room
  have hrb := h.ok.room
  have hput := fun v' => h.put hg ⟨x.n, v', ⟨x.f.data ++ l, x.f.lasts⟩⟩ hxn
  have hfz := may_fuse hm
  obtain ⟨px, cx, ex, hxc⟩ := own_slice (h.data x hxm)
  generalize spotN (nm s) (L.map RFile.n) = i at *
  have Hcells := Lib.hid (show ∀ W, Below w.heap.size w W → W.cell? ⟨r, 0, none⟩ = some (.int .i64 (D.room : Int)) ∧ W.cell? ⟨r, 1, none⟩ = some (.slice (some ⟨g, 0, none⟩) L.length c0) from fun W hb => ⟨(h.below hb).c0, (h.below hb).c1.trans (by rw [hgv])⟩)
  have Hcells2 := Lib.hid (show ∀ W, Below w.heap.size w W → W.cell? ⟨r, 1, none⟩ = some (.slice (some ⟨g, 0, none⟩) L.length c0) ∧ W.cell? ⟨g, i * 3 + 1, none⟩ = some (.slice px x.f.data.length cx) ∧ W.frozen? ⟨g, i * 3 + 1, none⟩ = false from fun W hb => by
    have hW := h.below hb
    exact ⟨hW.c1.trans (by rw [hgv]), (hW.core.at hgo hx).2.1.trans (by rw [ex]), hW.core.free hgo _⟩)
  have Hxd := Lib.hid (show ∀ W, Below w.heap.size w W → Holds W 1 (.slice px x.f.data.length cx) x.f.data.length (bytesV x.f.data) from fun W hb => by
    have hW := ((h.below hb).data x hxm).has
    rw [ex] at hW
    exact hW)
  have Hld := Lib.hid (show ∀ W, Below w.heap.size w W → Holds W 1 (.slice pb m cb) m (bytesV l) from fun W hb => by
    have hW := hl.below hb
    unfold HasB at hW
    rw [← hml] at hW
    exact hW)
  have Hend := Lib.hid (show ∀ w7 v7, Below w.heap.size w w7 → OwnB w7 5 v7 (x.f.data ++ l) → (∀ k, v7.ownBlock = some k → w.heap.size ≤ k) → Calls Tryz.prog 330 #[.pointer (some ⟨r, 0, none⟩)] (w7.setCell ⟨g, i * 3 + 1, none⟩ v7) (RStep w r own (DiskM.done { D with files := put (nm s) ⟨x.f.data ++ l, x.f.lasts⟩ D.files }, 0)) from
    fun w7 v7 hb h7 hn7 => rapp_end h.core hgo hx hb h7 hn7 (hput v7) hok (Chg.refl _ _) (fun _ h => .inl h) hfz)
  have Hgr := Lib.hid (show r ≠ g from (h.ov g hgo).2.symm)
  have Hlen := Lib.hid (show (x.f.data ++ l).length = x.f.data.length + m from by rw [List.length_append, hml])
  obtain ⟨i0, hi, hz0, hz1, hz2⟩ := info_parts (show (Tryz.prog.info? 5).map (fun i => (i.zero, i.size, i.bytes)) = some (some (.int .u8 0), 1, 1) by kernel_rfl)
  clear h h1 hm hg hok hx hxm hput hgo ex hml hxc hl hlc hfz
  subst hgv
  generalize hxl : x.f.data.length = mx at *
  have hd1 : decide ((D.room : Int) < (D.used : Int) + (m : Int)) = false := by simp; omega
  have hd2 : decide (D.room < D.used + m) = false := by simp; omega
  generalize D.used = U at *
  generalize hRoom : D.room = R at *
  have Hmay := Lib.hid hmay
  have Hsp := Lib.hid hsp
  clear hmay hsp
  go_enter Tryz.func266, Tryz.ntmps266
  go_wp2_with fail
  refine Hmay.out.mono ?_
  rintro e w2 ⟨rfl, rfl⟩
  go_wp2_with fail
  refine Hsp.out.mono ?_
  rintro e w3 ⟨rfl, q, rfl⟩
  have HbW := Lib.hid (below_names w (.cells #[.string s] 9) q)
  have Hused := Lib.hid (fun n => HU.out _ (HbW.out.trans (show Below _ _ (((w.alloc (.cells #[.string s] 9)).drewN q).drewN n) from ⟨rfl, rfl, rfl, Nat.le_refl _, fun _ _ => rfl⟩)))
  obtain ⟨hc0, hc1⟩ := Hcells.out _ HbW.out
  generalize (w.alloc (.cells #[.string s] 9)).drewN q = W at *
  go_wp2_with fail
  go_quiet ((go_at_call 337; refine Calls.quiet_of_same (Hused.out _)))
  clear hc0 hc1
  go_wp2_with fail
  have X0 := Lib.hid (show Below w.heap.size w (W.drewN nq).drew from HbW.out.trans ⟨rfl, rfl, rfl, Nat.le_refl _, fun _ _ => rfl⟩)
  have hS := (Hcells2.out _ X0.out).1
  refine ord_start (fun W' : World => W'.cell? ⟨r, 1, none⟩ = some (.slice (some ⟨g, 0, none⟩) L.length c0)) (n := 20) (by kernel_rfl) rfl hS (fun hHeld => ?_)
  clear hS
  generalize (W.drewN nq).drew = Wd at *
  refine Pl [0,1,2,3,4,6,7,8,9,10,11,12,15] ?_
  iterate 13 (refine Pc rfl ?_;simp only [Act.put, uA, uB, uC])
  refine Pn ?_
  refine ord_two 5 13 rfl rfl (by kernel_rfl) (by rfl) (by rfl) (fun K hK => ?_) (fun K hK => ?_)
  · go_wp2_with fail
    have X1 := Lib.hid (X0.out.alloc X0.out.size (.cells #[] 5))
    refine hK.out _ _ ((Hcells2.out _ X1.out).1) (fun hHeld => ?_)
    clear hK
    try simp only [Act.put, List.setIfInBounds_toArray, List.set_cons_zero, List.set_cons_succ]
    refine ord_one 13 rfl (by kernel_rfl) (by rfl) (fun K hK => ?_)
    have hc2 := (Hcells2.out _ X1.out).2.1
    go_wp2_with fail
    clear hc2
    refine hK.out _ _ ((Hcells2.out _ X1.out).1) (fun hHeld => ?_)
    clear hK
    try simp only [Act.put, List.setIfInBounds_toArray, List.set_cons_zero, List.set_cons_succ]
    refine ord_one 14 rfl (by kernel_rfl) (by rfl) (fun K hK => ?_)
    have hown0 := own_empty Wd 5
    have hxd := Hxd.out _ X1.out
    refine wp_app (.tmp 77) (.tmp 85) 39 (by rfl) 5 i0 (.int .u8 0) 1 1 Tryz.underlying39 hi hz0 hz1 hz2 rfl (by decide) (.slice (some ⟨Wd.heap.size, 0, none⟩) 0 0) 0 [] (by rfl) hown0 (.slice px mx cx) mx _ (by rfl) hxd (bytesV_one _) (by unfold maxLen; omega) (by omega) ?_
    clear hown0 hxd
    intro v6 w6 hown6 hgrow6 hloc6
    have X6 := Lib.hid (X1.out.grown hgrow6 X1.out.size (fun j e => by have := X0.out.size; simp [Value.ownBlock] at e; omega))
    have hnew6 := own_ge (B := w.heap.size) hloc6 (fun k hk => by have := X0.out.size; simp [Value.ownBlock] at hk; omega) X1.out.size
    rw [Nat.zero_add, List.nil_append] at hown6
    obtain ⟨p6, c6, rfl⟩ := OwnR.shape hown6
    have Hown6 := Lib.hid hown6
    have Hnew6 := Lib.hid hnew6
    clear hgrow6 hloc6 hown6 hnew6
    refine hK.out _ _ ((Hcells2.out _ X6.out).1) (fun hHeld => ?_)
    clear hK
    try simp only [Act.put, List.setIfInBounds_toArray, List.set_cons_zero, List.set_cons_succ]
    refine ord_one 16 rfl (by kernel_rfl) (by rfl) (fun K hK => ?_)
    have hld := Hld.out _ X6.out
    refine wp_app (.tmp 86) (.tmp 87) 39 (by rfl) 5 i0 (.int .u8 0) 1 1 Tryz.underlying39 hi hz0 hz1 hz2 rfl (by decide) (.slice p6 mx c6) mx _ (by rfl) Hown6.out (.slice pb m cb) m _ (by rfl) hld (bytesV_one _) (by unfold maxLen; omega) (by omega) ?_
    clear hld
    intro v7 w7 hown7 hgrow7 hloc7
    have X7 := Lib.hid (X6.out.grown hgrow7 X6.out.size Hnew6.out)
    have hnew7 := own_ge (B := w.heap.size) hloc7 Hnew6.out X6.out.size
    obtain ⟨p7, c7, rfl⟩ := OwnR.shape hown7
    rw [← bytesV_app] at hown7
    have Hend7 := Lib.hid (Hend.out w7 (.slice p7 (mx + m) c7) X7.out (by unfold OwnB; rw [Hlen.out]; exact hown7) hnew7)
    clear hgrow7 hloc7 hown7 hnew7
    refine hK.out _ _ ((Hcells2.out _ X7.out).1) (fun hHeld => ?_)
    clear hK
    try simp only [Act.put, List.setIfInBounds_toArray, List.set_cons_zero, List.set_cons_succ]
    refine Pl [17,18] ?_
    iterate 2 (refine Pc rfl ?_;simp only [Act.put, uA, uB, uC])
    refine Pn ?_
    refine ord_one 19 rfl (by kernel_rfl) (by rfl) (fun K hK => ?_)
    obtain ⟨hc1, hc2, hfz1⟩ := Hcells2.out _ X7.out
    go_wp2_with fail
    have hcs : (w7.setCell ⟨g, i * 3 + 1, none⟩ (.slice p7 (mx + m) c7)).cell? ⟨r, 1, none⟩ = some (.slice (some ⟨g, 0, none⟩) L.length c0) := (World.cell?_of_block (set_other _ Hgr.out)).trans hc1
    clear hc1 hc2 hfz1
    refine hK.out _ _ (hcs) (fun hHeld => ?_)
    clear hK
    try simp only [Act.put, List.setIfInBounds_toArray, List.set_cons_zero, List.set_cons_succ]
    refine wpAnyH_done (by kernel_rfl) ?_ _
    clear hHeld
    go_wp2_with fail
    refine Hend7.out.mono ?_
    intro e w8 hE
    have HE := Lib.hid hE
    obtain ⟨rfl, -⟩ := hE
    go_wp2_with fail
    go_ret
    exact HE.out
  · have hc2 := (Hcells2.out _ X0.out).2.1
    go_wp2_with fail
    clear hc2
    refine hK.out _ _ ((Hcells2.out _ X0.out).1) (fun hHeld => ?_)
    clear hK
    try simp only [Act.put, List.setIfInBounds_toArray, List.set_cons_zero, List.set_cons_succ]
    refine ord_one 5 rfl (by kernel_rfl) (by rfl) (fun K hK => ?_)
    go_wp2_with fail
    have X1 := Lib.hid (X0.out.alloc X0.out.size (.cells #[] 5))
    refine hK.out _ _ ((Hcells2.out _ X1.out).1) (fun hHeld => ?_)
    clear hK
    try simp only [Act.put, List.setIfInBounds_toArray, List.set_cons_zero, List.set_cons_succ]
    refine ord_one 14 rfl (by kernel_rfl) (by rfl) (fun K hK => ?_)
    have hown0 := own_empty Wd 5
    have hxd := Hxd.out _ X1.out
    refine wp_app (.tmp 77) (.tmp 85) 39 (by rfl) 5 i0 (.int .u8 0) 1 1 Tryz.underlying39 hi hz0 hz1 hz2 rfl (by decide) (.slice (some ⟨Wd.heap.size, 0, none⟩) 0 0) 0 [] (by rfl) hown0 (.slice px mx cx) mx _ (by rfl) hxd (bytesV_one _) (by unfold maxLen; omega) (by omega) ?_
    clear hown0 hxd
    intro v6 w6 hown6 hgrow6 hloc6
    have X6 := Lib.hid (X1.out.grown hgrow6 X1.out.size (fun j e => by have := X0.out.size; simp [Value.ownBlock] at e; omega))
    have hnew6 := own_ge (B := w.heap.size) hloc6 (fun k hk => by have := X0.out.size; simp [Value.ownBlock] at hk; omega) X1.out.size
    rw [Nat.zero_add, List.nil_append] at hown6
    obtain ⟨p6, c6, rfl⟩ := OwnR.shape hown6
    have Hown6 := Lib.hid hown6
    have Hnew6 := Lib.hid hnew6
    clear hgrow6 hloc6 hown6 hnew6
    refine hK.out _ _ ((Hcells2.out _ X6.out).1) (fun hHeld => ?_)
    clear hK
    try simp only [Act.put, List.setIfInBounds_toArray, List.set_cons_zero, List.set_cons_succ]
    refine ord_one 16 rfl (by kernel_rfl) (by rfl) (fun K hK => ?_)
    have hld := Hld.out _ X6.out
    refine wp_app (.tmp 86) (.tmp 87) 39 (by rfl) 5 i0 (.int .u8 0) 1 1 Tryz.underlying39 hi hz0 hz1 hz2 rfl (by decide) (.slice p6 mx c6) mx _ (by rfl) Hown6.out (.slice pb m cb) m _ (by rfl) hld (bytesV_one _) (by unfold maxLen; omega) (by omega) ?_
    clear hld
    intro v7 w7 hown7 hgrow7 hloc7
    have X7 := Lib.hid (X6.out.grown hgrow7 X6.out.size Hnew6.out)
    have hnew7 := own_ge (B := w.heap.size) hloc7 Hnew6.out X6.out.size
    obtain ⟨p7, c7, rfl⟩ := OwnR.shape hown7
    rw [← bytesV_app] at hown7
    have Hend7 := Lib.hid (Hend.out w7 (.slice p7 (mx + m) c7) X7.out (by unfold OwnB; rw [Hlen.out]; exact hown7) hnew7)
    clear hgrow7 hloc7 hown7 hnew7
    refine hK.out _ _ ((Hcells2.out _ X7.out).1) (fun hHeld => ?_)
    clear hK
    try simp only [Act.put, List.setIfInBounds_toArray, List.set_cons_zero, List.set_cons_succ]
    refine Pl [17,18] ?_
    iterate 2 (refine Pc rfl ?_;simp only [Act.put, uA, uB, uC])
    refine Pn ?_
    refine ord_one 19 rfl (by kernel_rfl) (by rfl) (fun K hK => ?_)
    obtain ⟨hc1, hc2, hfz1⟩ := Hcells2.out _ X7.out
    go_wp2_with fail
    have hcs : (w7.setCell ⟨g, i * 3 + 1, none⟩ (.slice p7 (mx + m) c7)).cell? ⟨r, 1, none⟩ = some (.slice (some ⟨g, 0, none⟩) L.length c0) := (World.cell?_of_block (set_other _ Hgr.out)).trans hc1
    clear hc1 hc2 hfz1
    refine hK.out _ _ (hcs) (fun hHeld => ?_)
    clear hK
    try simp only [Act.put, List.setIfInBounds_toArray, List.set_cons_zero, List.set_cons_succ]
    refine wpAnyH_done (by kernel_rfl) ?_ _
    clear hHeld
    go_wp2_with fail
    refine Hend7.out.mono ?_
    intro e w8 hE
    have HE := Lib.hid hE
    obtain ⟨rfl, -⟩ := hE
    go_wp2_with fail
    go_ret
    exact HE.out
end
end Go.Proofs.YtogdfkilhpkloaaGreatDoor
