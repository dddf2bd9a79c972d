/- The document's disk: Truncate. (Its walk is printed by mkr.py.) The document's disk: its list of files is laid anew; parts of a list. The document's disk: Append. (Its walk is printed by mkr2.py.) -/
import Derived.Test.YtdlbamhabenhgaaUE
import Derived.Test.YtdlbamhabenhgaaUG
namespace Go.Sat
open Go Go.RowKit
/-- Two may come up. -/
theorem ord_two {P : Program} {l : List Oper} {Q : Exit → Act → World → Prop} {md : Region.Mode} {S : World → Prop} {fuel : Nat} {listed : Array Bool} {a : Act} {w : World} (i j : Nat) {oi oj : Oper} {ri rj : List Oper} (hdi : l.drop i = oi :: ri) (hdj : l.drop j = oj :: rj) (hr : Region.ready md l.toArray listed = [i, j])
    (hwi : Region.wanted oi (yielded l.toArray a.tmps) = true) (hwj : Region.wanted oj (yielded l.toArray a.tmps) = true)
    (hi : ∀ K : Act → World → Prop, Shut (∀ a w, S w → (S w → wpAnyH P md l.toArray Q S fuel (listed.setIfInBounds i true) a w) → K a w) → Oper.wp P oi a w K Q)
    (hj : ∀ K : Act → World → Prop, Shut (∀ a w, S w → (S w → wpAnyH P md l.toArray Q S fuel (listed.setIfInBounds j true) a w) → K a w) → Oper.wp P oj a w K Q) : wpAnyH P md l.toArray Q S (fuel + 1) listed a w :=
  wpAnyH_ready hr (by simp) (AllReadyH.cons (ord_get hdi) (fun K hK => by rw [if_pos hwi]; exact hi K hK) (AllReadyH.cons (ord_get hdj) (fun K hK => by rw [if_pos hwj]; exact hj K hK) AllReadyH.nil))
end Go.Sat

namespace Go.Proofs.Ytdlbamhabenhgaa
open Go.RowKit Go.Sat Go.Maps

theorem ok_cut {D : DiskM} (h : D.OK) {n : Bs} {f : FileM} (hg : Sat.get n D.files = some f) (k : Nat) : DiskM.OK { D with files := put n ⟨f.data.take k, min f.lasts k⟩ D.files } where
  srt := srt_put h.srt
  room := h.room
  used := by
    show sumBy DiskM.size (put n _ D.files) ≤ D.room
    rw [sum_put]
    have h1 : D.used = DiskM.size f + sumBy DiskM.size (del n D.files) := sum_del h.srt hg
    have := h.used
    simp only [DiskM.size, List.length_take] at h1 ⊢
    omega
  count := by
    show (put n _ D.files).length ≤ 4096
    rw [len_put]
    have := len_del h.srt hg
    have := h.count
    omega
  names p hp := by
    rcases mem_put.1 hp with rfl | ⟨hp, _⟩
    · exact (h.names (n, f) (get_mem hg) : okN n = true)
    · exact h.names p hp
  lasts p hp := by
    rcases mem_put.1 hp with rfl | ⟨hp, _⟩
    · have h1 := h.lasts (n, f) (get_mem hg)
      show min f.lasts k ≤ (f.data.take k).length
      rw [List.length_take]
      have h1 : f.lasts ≤ f.data.length := h1
      omega
    · exact h.lasts p hp
  fuse := h.fuse

section
variable {w : World} {r : Nat} {v : Value} {L : List RFile} {own : Nat → Prop} {D : DiskM} {room : Nat} {fuse : Option Nat}

theorem RefCore.keep {w' : World} (h : RefCore w r v L own room fuse) (hs : w.heap.size ≤ w'.heap.size) (hb : ∀ k, own k → w'.heap[k]? = w.heap[k]?) : RefCore w' r v L own room fuse where
  cells := (hb r h.or).trans h.cells
  row := h.row.keep fun k hk => hb k (h.ov k hk).1
  data := fun x hx => OwnR.keep (h.data x hx) fun k hk => hb k (h.ob x hx k hk).1
  or := h.or
  ov := h.ov
  ob := h.ob
  olt := fun k hk => Nat.lt_of_lt_of_le (h.olt k hk) hs

theorem RefCore.c1 (h : RefCore w r v L own room fuse) : w.cell? ⟨r, 1, none⟩ = some v := cell_of h.cells rfl

set_option maxRecDepth 100000 in
set_option maxHeartbeats 4000000 in
theorem rtrunc_calls (h : RefIn w r v L own D) (s : ByteArray) (hs : s.size ≤ 9223372036854775807) (z : Int) (hz : -9223372036854775808 ≤ z) (hz' : z ≤ 9223372036854775807) :
    Calls Try.prog 65 #[.pointer (some ⟨r, 0, none⟩), .string s, .int .i64 z] w (RStep w r own (D.truncate (nm s) z)) := by
  have h1 : RefIn (w.alloc (.cells #[.string s] 9)) r v L own D := h.below ((Below.refl _ _).alloc (Nat.le_refl _) _)
  have hmay := rmay_calls h1 (some ⟨w.heap.size, 0, none⟩) [s] 1 (strs_one w s) (by simp) (by simpa using hs)
  simp only [List.map_cons, List.map_nil] at hmay
  by_cases hm : D.may [nm s] = 0
  · have hsp := spot_calls h1 s
    rw [h.is] at hsp
    rw [hm] at hmay
    cases hg : Sat.get (nm s) D.files with
    | none =>
      rw [hg] at hsp
      have hR : D.truncate (nm s) z = (D, 7) := by unfold DiskM.truncate; rw [if_neg (by rw [hm]; simp), hg]
      rw [hR]
      have Hf := Lib.hid (fun q => rstep_same h (below_names w (.cells #[.string s] 9) q) 7)
      have Hmay := Lib.hid hmay
      have Hsp := Lib.hid hsp
      clear h h1 hmay hsp hm hR hg
      go_enter Try.func65, Try.ntmps65
      go_wp2_with fail
      refine Hmay.out.mono ?_
      rintro e w2 ⟨rfl, rfl⟩
      go_wp2_with fail
      refine Hsp.out.mono ?_
      rintro e w3 ⟨rfl, q, rfl⟩
      go_wp2_with fail
      go_ret
      exact Hf.out q
    | some f =>
      rw [hg] at hsp
      obtain ⟨x, hx, hxn, rfl⟩ := h.hit hg
      have hlm := h.len_le hx
      have hxm := List.mem_of_getElem? hx
      have hN : spotN (nm s) (L.map RFile.n) < L.length := (List.getElem?_eq_some_iff.1 hx).1
      rcases h.at with h0 | ⟨g, c0, hgv, hlc, -⟩
      · rw [h0] at hN
        simp at hN
      have hgo : v.ownBlock = some g := by rw [hgv]; rfl
      by_cases hzz : 0 ≤ z ∧ z ≤ (x.f.data.length : Int)
      · obtain ⟨y, rfl⟩ : ∃ y : Nat, z = (y : Int) := ⟨z.toNat, by omega⟩
        have hyl : y ≤ x.f.data.length := by omega
        have hR : D.truncate (nm s) (y : Int) = (DiskM.done { D with files := put (nm s) ⟨x.f.data.take y, min x.f.lasts y⟩ D.files }, 0) := by
          unfold DiskM.truncate
          rw [if_neg (by rw [hm]; simp), hg]
          show (if (y : Int) < 0 ∨ (x.f.data.length : Int) < y then _ else _) = _
          rw [if_neg (by omega), Int.toNat_natCast]
        rw [hR]
        have hput : ∀ v', put (nm s) ⟨x.f.data.take y, min x.f.lasts y⟩ D.files = (L.set (spotN (nm s) (L.map RFile.n)) ⟨x.n, v', ⟨x.f.data.take y, min x.f.lasts y⟩⟩).map RFile.key := fun v' => h.put hg ⟨x.n, v', ⟨x.f.data.take y, min x.f.lasts y⟩⟩ hxn
        have hok := ok_cut h.ok hg y
        have hfz := may_fuse hm
        generalize spotN (nm s) (L.map RFile.n) = i at *
        have Hcells := Lib.hid (show ∀ W, Below w.heap.size w W → W.cell? ⟨r, 1, none⟩ = some (.slice (some ⟨g, 0, none⟩) L.length c0) ∧ W.cell? ⟨g, i * 3 + 1, none⟩ = some x.b ∧ W.frozen? ⟨g, i * 3 + 1, none⟩ = false from fun W hb => by
          have hW := h.below hb
          refine ⟨hW.c1.trans (by rw [hgv]), (hW.core.at hgo hx).2.1, hW.core.free hgo _⟩)
        obtain ⟨pb, cb, eb, hmcb⟩ := own_slice (h.data x hxm)
        -- behind both stores
        have Hfin := Lib.hid (show ∀ W v' , Below w.heap.size w W → OwnB W 5 v' (x.f.data.take y) → (∀ k, v'.ownBlock = some k → w.heap.size ≤ k ∧ k < W.heap.size) →
            RefCore (W.setCell ⟨g, i * 3 + 1, none⟩ v') r v (L.set i ⟨x.n, v', ⟨x.f.data.take y, x.f.lasts⟩⟩) (fun k => own k ∨ v'.ownBlock = some k) D.room D.fuse from fun W v' hb hv hn =>
          (h.below hb).core.store hgo hx 1 (by omega) v' ⟨x.n, v', ⟨x.f.data.take y, x.f.lasts⟩⟩ rfl (fun _ h => .inl h) hv (fun k hk => ⟨.inr hk, fun e => by have := h.olt r h.or; have := (hn k hk).1; omega, fun e => by have := h.olt g (h.ov g hgo).1; have := (hn k hk).1; omega⟩)
            (fun k hk => by
              rcases hk with hk | hk
              · exact Nat.lt_of_lt_of_le (h.olt k hk) hb.size
              · exact (hn k hk).2))
        have Hfin2 := Lib.hid (show ∀ W v', RefCore W r v (L.set i ⟨x.n, v', ⟨x.f.data.take y, x.f.lasts⟩⟩) (fun k => own k ∨ v'.ownBlock = some k) D.room D.fuse → OwnB W 5 v' (x.f.data.take y) →
            RefIn (W.setCell ⟨g, i * 3 + 2, none⟩ (.int .i64 ((min x.f.lasts y : Nat) : Int))) r v (L.set i ⟨x.n, v', ⟨x.f.data.take y, min x.f.lasts y⟩⟩) (fun k => own k ∨ v'.ownBlock = some k) { D with files := put (nm s) ⟨x.f.data.take y, min x.f.lasts y⟩ D.files } from fun W v' hc hv => by
          have hi : (L.set i ⟨x.n, v', ⟨x.f.data.take y, x.f.lasts⟩⟩)[i]? = some ⟨x.n, v', ⟨x.f.data.take y, x.f.lasts⟩⟩ := by rw [List.getElem?_set_self (by omega)]
          have hm2 := List.mem_of_getElem? hi
          have h2 := hc.store hgo hi 2 (by omega) (.int .i64 ((min x.f.lasts y : Nat) : Int)) ⟨x.n, v', ⟨x.f.data.take y, min x.f.lasts y⟩⟩ rfl (fun _ h => h) hv (fun k hk => ⟨.inr hk, (hc.ob _ hm2 k hk).2.1, fun e => (hc.ob _ hm2 k hk).2.2 (by rw [hgo, e])⟩) hc.olt
          rw [List.set_set] at h2
          exact h2.full rfl rfl (hput v') hok)
        have Hown := Lib.hid (show own r ∧ own g ∧ r ≠ g ∧ g < w.heap.size from ⟨h.or, (h.ov g hgo).1, (h.ov g hgo).2.symm, h.olt g (h.ov g hgo).1⟩)
        have Hd := Lib.hid (show ∀ W, Below w.heap.size w W → HasB W (.slice pb y cb) (x.f.data.take y) from fun W hb => HasB.cut (by rw [← eb]; exact ((h.below hb).data x hxm).has) hyl cb)
        have Hlen := Lib.hid (show (x.f.data.take y).length = y from by rw [List.length_take]; omega)
        have Hfz := Lib.hid hfz
        rw [eb] at Hcells
        obtain ⟨i0, hi, hz0, hz1, hz2⟩ := info_parts (show (Try.prog.info? 5).map (fun i => (i.zero, i.size, i.bytes)) = some (some (.int .u8 0), 1, 1) by kernel_rfl)
        have hcb : y ≤ cb := Nat.le_trans hyl hmcb
        have hsl : ∀ W, (Instr.slice 23 (.slice pb x.f.data.length cb) none (some (.int .i64 (y : Int))) none).run Try.prog W = .ok (.slice pb y cb) W := fun W => run_upto W Try.underlying23 hi pb _ cb y hcb
        have hmin : min (x.f.lasts : Int) (y : Int) = ((min x.f.lasts y : Nat) : Int) := by omega
        generalize hml : x.f.data.length = m at *
        generalize hla : x.f.lasts = la at *
        have Hmay := Lib.hid hmay
        have Hsp := Lib.hid hsp
        clear h h1 hmay hsp hm hR hg hput hok hx hxm eb hgo hml hla hlc hmcb
        subst hgv
        go_enter Try.func65, Try.ntmps65
        go_wp2_with fail
        refine Hmay.out.mono ?_
        rintro e w2 ⟨rfl, rfl⟩
        go_wp2_with fail
        refine Hsp.out.mono ?_
        rintro e w3 ⟨rfl, q, rfl⟩
        have HbW := Lib.hid (below_names w (.cells #[.string s] 9) q)
        generalize (w.alloc (.cells #[.string s] 9)).drewN q = W at *
        obtain ⟨hc1, hc2, hfz1⟩ := Hcells.out W HbW.out
        go_wp2_with fail
        have X0 := Lib.hid (show Below w.heap.size w W.drew from HbW.out.trans ⟨rfl, rfl, rfl, Nat.le_refl _, fun _ _ => rfl⟩)
        clear hc1 hc2 hfz1
        have hS := (Hcells.out _ X0.out).1
        refine ord_start (fun W' : World => W'.cell? ⟨r, 1, none⟩ = some (.slice (some ⟨g, 0, none⟩) L.length c0)) (n := 20) (by kernel_rfl) rfl hS (fun hHeld => ?_)
        clear hS
        generalize W.drew = Wd at *
        refine ord_take 0 (v := ?v0x0) rfl (by kernel_rfl) (by kernel_rfl) (by kernel_rfl) (fun _ _ _ h => h) (by rfl) (by assumption) ?y0x0 ?_
        case y0x0 => (intro w hSw; (try dsimp only at hSw); go_simp; try with_reducible rfl)
        simp only [Act.put, List.setIfInBounds_toArray, List.set_cons_zero, List.set_cons_succ]
        refine ord_take 1 (v := ?v0x1) rfl (by kernel_rfl) (by kernel_rfl) (by kernel_rfl) (fun _ _ _ h => h) (by rfl) (by assumption) ?y0x1 ?_
        case y0x1 => (intro w hSw; (try dsimp only at hSw); go_simp; try with_reducible rfl)
        simp only [Act.put, List.setIfInBounds_toArray, List.set_cons_zero, List.set_cons_succ]
        refine ord_take 2 (v := ?v0x2) rfl (by kernel_rfl) (by kernel_rfl) (by kernel_rfl) (fun _ _ _ h => h) (by rfl) (by assumption) ?y0x2 ?_
        case y0x2 => (intro w hSw; (try dsimp only at hSw); go_simp; try with_reducible rfl)
        simp only [Act.put, List.setIfInBounds_toArray, List.set_cons_zero, List.set_cons_succ]
        refine ord_take 3 (v := ?v0x3) rfl (by kernel_rfl) (by kernel_rfl) (by kernel_rfl) (fun _ _ _ h => h) (by rfl) (by assumption) ?y0x3 ?_
        case y0x3 => (intro w hSw; (try dsimp only at hSw); go_simp; try with_reducible rfl)
        simp only [Act.put, List.setIfInBounds_toArray, List.set_cons_zero, List.set_cons_succ]
        refine ord_take 4 (v := ?v0x4) rfl (by kernel_rfl) (by kernel_rfl) (by kernel_rfl) (fun _ _ _ h => h) (by rfl) (by assumption) ?y0x4 ?_
        case y0x4 => (intro w hSw; (try dsimp only at hSw); go_simp; try with_reducible rfl)
        simp only [Act.put, List.setIfInBounds_toArray, List.set_cons_zero, List.set_cons_succ]
        refine ord_take 6 (v := ?v0x6) rfl (by kernel_rfl) (by kernel_rfl) (by kernel_rfl) (fun _ _ _ h => h) (by rfl) (by assumption) ?y0x6 ?_
        case y0x6 => (intro w hSw; (try dsimp only at hSw); go_simp; try with_reducible rfl)
        simp only [Act.put, List.setIfInBounds_toArray, List.set_cons_zero, List.set_cons_succ]
        refine ord_take 7 (v := ?v0x7) rfl (by kernel_rfl) (by kernel_rfl) (by kernel_rfl) (fun _ _ _ h => h) (by rfl) (by assumption) ?y0x7 ?_
        case y0x7 => (intro w hSw; (try dsimp only at hSw); go_simp; try with_reducible rfl)
        simp only [Act.put, List.setIfInBounds_toArray, List.set_cons_zero, List.set_cons_succ]
        refine ord_take 8 (v := ?v0x8) rfl (by kernel_rfl) (by kernel_rfl) (by kernel_rfl) (fun _ _ _ h => h) (by rfl) (by assumption) ?y0x8 ?_
        case y0x8 => (intro w hSw; (try dsimp only at hSw); go_simp; try with_reducible rfl)
        simp only [Act.put, List.setIfInBounds_toArray, List.set_cons_zero, List.set_cons_succ]
        refine ord_take 9 (v := ?v0x9) rfl (by kernel_rfl) (by kernel_rfl) (by kernel_rfl) (fun _ _ _ h => h) (by rfl) (by assumption) ?y0x9 ?_
        case y0x9 => (intro w hSw; (try dsimp only at hSw); go_simp; try with_reducible rfl)
        simp only [Act.put, List.setIfInBounds_toArray, List.set_cons_zero, List.set_cons_succ]
        refine ord_take 10 (v := ?v0x10) rfl (by kernel_rfl) (by kernel_rfl) (by kernel_rfl) (fun _ _ _ h => h) (by rfl) (by assumption) ?y0x10 ?_
        case y0x10 => (intro w hSw; (try dsimp only at hSw); go_simp; try with_reducible rfl)
        simp only [Act.put, List.setIfInBounds_toArray, List.set_cons_zero, List.set_cons_succ]
        refine ord_take 11 (v := ?v0x11) rfl (by kernel_rfl) (by kernel_rfl) (by kernel_rfl) (fun _ _ _ h => h) (by rfl) (by assumption) ?y0x11 ?_
        case y0x11 => (intro w hSw; (try dsimp only at hSw); go_simp; try with_reducible rfl)
        simp only [Act.put, List.setIfInBounds_toArray, List.set_cons_zero, List.set_cons_succ]
        refine ord_take 12 (v := ?v0x12) rfl (by kernel_rfl) (by kernel_rfl) (by kernel_rfl) (fun _ _ _ h => h) (by rfl) (by assumption) ?y0x12 ?_
        case y0x12 => (intro w hSw; (try dsimp only at hSw); go_simp; try with_reducible rfl)
        simp only [Act.put, List.setIfInBounds_toArray, List.set_cons_zero, List.set_cons_succ]
        refine ord_take 14 (v := ?v0x14) rfl (by kernel_rfl) (by kernel_rfl) (by kernel_rfl) (fun _ _ _ h => h) (by rfl) (by assumption) ?y0x14 ?_
        case y0x14 => (intro w hSw; (try dsimp only at hSw); go_simp; try with_reducible rfl)
        simp only [Act.put, List.setIfInBounds_toArray, List.set_cons_zero, List.set_cons_succ]
        refine ord_two 5 13 rfl rfl (by kernel_rfl) (by rfl) (by rfl) (fun K hK => ?_) (fun K hK => ?_)
        · go_wp2_with fail
          have X1 := Lib.hid (X0.out.alloc X0.out.size (.cells #[] 5))
          refine hK.out _ _ ((Hcells.out _ X1.out).1) (fun hHeld => ?_)
          clear hK
          try simp only [Act.put, List.setIfInBounds_toArray, List.set_cons_zero, List.set_cons_succ]
          refine ord_one 13 rfl (by kernel_rfl) (by rfl) (fun K hK => ?_)
          have hc2 := (Hcells.out _ X1.out).2.1
          go_wp2_with fail
          clear hc2
          refine hK.out _ _ ((Hcells.out _ X1.out).1) (fun hHeld => ?_)
          clear hK
          try simp only [Act.put, List.setIfInBounds_toArray, List.set_cons_zero, List.set_cons_succ]
          refine ord_take 15 (v := ?v1x15) rfl (by kernel_rfl) (by kernel_rfl) (by kernel_rfl) (fun _ _ _ h => h) (by rfl) (by assumption) ?y1x15 ?_
          case y1x15 => (intro w hSw; (try dsimp only at hSw); go_simp; try with_reducible rfl)
          simp only [Act.put, List.setIfInBounds_toArray, List.set_cons_zero, List.set_cons_succ]
          refine ord_one 16 rfl (by kernel_rfl) (by rfl) (fun K hK => ?_)
          have hown0 := own_empty Wd 5
          have hxd := Hd.out _ X1.out
          unfold HasB at hxd
          rw [Hlen.out] at hxd
          refine wp_app (.tmp 45) (.tmp 55) 23 (by rfl) 5 i0 (.int .u8 0) 1 1 Try.underlying23 hi hz0 hz1 hz2 rfl (by decide) (.slice (some ⟨Wd.heap.size, 0, none⟩) 0 0) 0 [] (by rfl) hown0 (.slice pb y cb) y _ (by rfl) hxd (bytesV_one _) (by unfold maxLen; omega) (by omega) ?_
          clear hown0 hxd
          intro v6 w6 hown6 hgrow6 hloc6
          have X6 := Lib.hid (X1.out.grown hgrow6 X1.out.size (fun j e => by have := X0.out.size; simp [Value.ownBlock] at e; omega))
          have hnew6 := own_ge (B := w.heap.size) hloc6 (fun k hk => by have := X0.out.size; simp [Value.ownBlock] at hk; omega) X1.out.size
          rw [Nat.zero_add, List.nil_append] at hown6
          obtain ⟨p6, c6, rfl⟩ := OwnR.shape hown6
          have Hv6 := Lib.hid (show OwnB w6 5 (.slice p6 y c6) (x.f.data.take y) from by unfold OwnB; rw [Hlen.out]; exact hown6)
          have Hnew6 := Lib.hid hnew6
          clear hgrow6 hloc6 hown6 hnew6
          refine hK.out _ _ ((Hcells.out _ X6.out).1) (fun hHeld => ?_)
          clear hK
          try simp only [Act.put, List.setIfInBounds_toArray, List.set_cons_zero, List.set_cons_succ]
          refine ord_take 17 (v := ?v1x17) rfl (by kernel_rfl) (by kernel_rfl) (by kernel_rfl) (fun _ _ _ h => h) (by rfl) (by assumption) ?y1x17 ?_
          case y1x17 => (intro w hSw; (try dsimp only at hSw); go_simp; try with_reducible rfl)
          simp only [Act.put, List.setIfInBounds_toArray, List.set_cons_zero, List.set_cons_succ]
          refine ord_take 18 (v := ?v1x18) rfl (by kernel_rfl) (by kernel_rfl) (by kernel_rfl) (fun _ _ _ h => h) (by rfl) (by assumption) ?y1x18 ?_
          case y1x18 => (intro w hSw; (try dsimp only at hSw); go_simp; try with_reducible rfl)
          simp only [Act.put, List.setIfInBounds_toArray, List.set_cons_zero, List.set_cons_succ]
          refine ord_one 19 rfl (by kernel_rfl) (by rfl) (fun K hK => ?_)
          obtain ⟨hc1, hc2, hfz1⟩ := Hcells.out _ X6.out
          go_wp2_with fail
          have hcs : (w6.setCell ⟨g, i * 3 + 1, none⟩ (.slice p6 y c6)).cell? ⟨r, 1, none⟩ = some (.slice (some ⟨g, 0, none⟩) L.length c0) := (World.cell?_of_block (set_other _ Hown.out.2.2.1)).trans hc1
          clear hc1 hc2 hfz1
          refine hK.out _ _ (hcs) (fun hHeld => ?_)
          clear hK
          try simp only [Act.put, List.setIfInBounds_toArray, List.set_cons_zero, List.set_cons_succ]
          refine wpAnyH_done (by kernel_rfl) ?_ _
          clear hHeld
          have hcore := Hfin.out w6 (.slice p6 y c6) X6.out Hv6.out (fun k hk => ⟨Hnew6.out k hk, OwnR.lt Hv6.out hk⟩)
          have hv7 : OwnB (w6.setCell ⟨g, i * 3 + 1, none⟩ (.slice p6 y c6)) 5 (.slice p6 y c6) (x.f.data.take y) := OwnR.keep Hv6.out fun k hk => set_other _ (fun e => by have h1 : k = g := e; have := Hnew6.out k hk; have := Hown.out.2.2.2; omega)
          have hch := chg_below X6.out (chg_own (own := own) (w := w6) (a := ⟨g, i * 3 + 1, none⟩) (u := .slice p6 y c6) Hown.out.2.1)
          have hge : w.heap.size ≤ (w6.setCell ⟨g, i * 3 + 1, none⟩ (.slice p6 y c6)).heap.size := by have := X6.out.size; simpa [World.setCell] using this
          have H7 := Lib.hid (And.intro hcore (And.intro hv7 (And.intro hch hge)))
          clear hcore hv7 hch hge
          generalize w6.setCell ⟨g, i * 3 + 1, none⟩ (.slice p6 y c6) = Ws at *
          have hi1 : (L.set i ⟨x.n, .slice p6 y c6, ⟨x.f.data.take y, la⟩⟩)[i]? = some ⟨x.n, .slice p6 y c6, ⟨x.f.data.take y, la⟩⟩ := by rw [List.getElem?_set_self (by omega)]
          have Hi1 := Lib.hid hi1
          clear hi1
          obtain ⟨-, -, hc3⟩ := H7.out.1.at rfl Hi1.out
          have hc1 := H7.out.1.c1
          go_wp2_with fail
          go_still_tail 15, (by kernel_rfl)
          clear hc1 hc3
          change wpList _ _ _ _ _ Ws.drew
          have hkd : RefCore Ws.drew r _ _ _ _ _ := H7.out.1.keep (Nat.le_refl _) (fun _ _ => rfl)
          have hvd : OwnB Ws.drew 5 (.slice p6 y c6) (x.f.data.take y) := OwnR.keep H7.out.2.1 (fun _ _ => rfl)
          have hfin := Hfin2.out _ _ hkd hvd
          obtain ⟨-, -, hc3⟩ := hkd.at rfl Hi1.out
          have hfz2 := hkd.free rfl (i * 3 + 2)
          have hchd : Chg own w Ws.drew := H7.out.2.2.1.trans (Chg.drew Ws) (fun _ _ h => h.elim)
          have hch2 : Chg own w (Ws.drew.setCell ⟨g, i * 3 + 2, none⟩ (.int .i64 ((min la y : Nat) : Int))) := hchd.trans (chg_own (own := own) (w := Ws.drew) (a := ⟨g, i * 3 + 2, none⟩) Hown.out.2.1) (fun _ _ h => h)
          have Hdid := Lib.hid (rdid_calls hfin Hfz.out)
          have Hch := Lib.hid (And.intro hch2 (show w.heap.size ≤ (Ws.drew.setCell ⟨g, i * 3 + 2, none⟩ (.int .i64 ((min la y : Nat) : Int))).heap.size from hch2.size))
          clear hkd hvd hfin hchd hch2 H7
          generalize Ws.drew = Wt at *
          go_wp2_with fail
          refine Hdid.out.mono ?_
          intro e w8 h8
          have hE := rstep_did Hch.out.1 (fun k hk => hk.imp id (fun e => Hnew6.out k e)) Hch.out.2 h8
          obtain ⟨rfl, -⟩ := h8
          have HE := Lib.hid hE
          clear hE
          go_wp2_with fail
          go_ret
          exact HE.out
        · have hc2 := (Hcells.out _ X0.out).2.1
          go_wp2_with fail
          clear hc2
          refine hK.out _ _ ((Hcells.out _ X0.out).1) (fun hHeld => ?_)
          clear hK
          try simp only [Act.put, List.setIfInBounds_toArray, List.set_cons_zero, List.set_cons_succ]
          refine ord_take 15 (v := ?v2x15) rfl (by kernel_rfl) (by kernel_rfl) (by kernel_rfl) (fun _ _ _ h => h) (by rfl) (by assumption) ?y2x15 ?_
          case y2x15 => (intro w hSw; (try dsimp only at hSw); go_simp; try with_reducible rfl)
          simp only [Act.put, List.setIfInBounds_toArray, List.set_cons_zero, List.set_cons_succ]
          refine ord_one 5 rfl (by kernel_rfl) (by rfl) (fun K hK => ?_)
          go_wp2_with fail
          have X1 := Lib.hid (X0.out.alloc X0.out.size (.cells #[] 5))
          refine hK.out _ _ ((Hcells.out _ X1.out).1) (fun hHeld => ?_)
          clear hK
          try simp only [Act.put, List.setIfInBounds_toArray, List.set_cons_zero, List.set_cons_succ]
          refine ord_one 16 rfl (by kernel_rfl) (by rfl) (fun K hK => ?_)
          have hown0 := own_empty Wd 5
          have hxd := Hd.out _ X1.out
          unfold HasB at hxd
          rw [Hlen.out] at hxd
          refine wp_app (.tmp 45) (.tmp 55) 23 (by rfl) 5 i0 (.int .u8 0) 1 1 Try.underlying23 hi hz0 hz1 hz2 rfl (by decide) (.slice (some ⟨Wd.heap.size, 0, none⟩) 0 0) 0 [] (by rfl) hown0 (.slice pb y cb) y _ (by rfl) hxd (bytesV_one _) (by unfold maxLen; omega) (by omega) ?_
          clear hown0 hxd
          intro v6 w6 hown6 hgrow6 hloc6
          have X6 := Lib.hid (X1.out.grown hgrow6 X1.out.size (fun j e => by have := X0.out.size; simp [Value.ownBlock] at e; omega))
          have hnew6 := own_ge (B := w.heap.size) hloc6 (fun k hk => by have := X0.out.size; simp [Value.ownBlock] at hk; omega) X1.out.size
          rw [Nat.zero_add, List.nil_append] at hown6
          obtain ⟨p6, c6, rfl⟩ := OwnR.shape hown6
          have Hv6 := Lib.hid (show OwnB w6 5 (.slice p6 y c6) (x.f.data.take y) from by unfold OwnB; rw [Hlen.out]; exact hown6)
          have Hnew6 := Lib.hid hnew6
          clear hgrow6 hloc6 hown6 hnew6
          refine hK.out _ _ ((Hcells.out _ X6.out).1) (fun hHeld => ?_)
          clear hK
          try simp only [Act.put, List.setIfInBounds_toArray, List.set_cons_zero, List.set_cons_succ]
          refine ord_take 17 (v := ?v2x17) rfl (by kernel_rfl) (by kernel_rfl) (by kernel_rfl) (fun _ _ _ h => h) (by rfl) (by assumption) ?y2x17 ?_
          case y2x17 => (intro w hSw; (try dsimp only at hSw); go_simp; try with_reducible rfl)
          simp only [Act.put, List.setIfInBounds_toArray, List.set_cons_zero, List.set_cons_succ]
          refine ord_take 18 (v := ?v2x18) rfl (by kernel_rfl) (by kernel_rfl) (by kernel_rfl) (fun _ _ _ h => h) (by rfl) (by assumption) ?y2x18 ?_
          case y2x18 => (intro w hSw; (try dsimp only at hSw); go_simp; try with_reducible rfl)
          simp only [Act.put, List.setIfInBounds_toArray, List.set_cons_zero, List.set_cons_succ]
          refine ord_one 19 rfl (by kernel_rfl) (by rfl) (fun K hK => ?_)
          obtain ⟨hc1, hc2, hfz1⟩ := Hcells.out _ X6.out
          go_wp2_with fail
          have hcs : (w6.setCell ⟨g, i * 3 + 1, none⟩ (.slice p6 y c6)).cell? ⟨r, 1, none⟩ = some (.slice (some ⟨g, 0, none⟩) L.length c0) := (World.cell?_of_block (set_other _ Hown.out.2.2.1)).trans hc1
          clear hc1 hc2 hfz1
          refine hK.out _ _ (hcs) (fun hHeld => ?_)
          clear hK
          try simp only [Act.put, List.setIfInBounds_toArray, List.set_cons_zero, List.set_cons_succ]
          refine wpAnyH_done (by kernel_rfl) ?_ _
          clear hHeld
          have hcore := Hfin.out w6 (.slice p6 y c6) X6.out Hv6.out (fun k hk => ⟨Hnew6.out k hk, OwnR.lt Hv6.out hk⟩)
          have hv7 : OwnB (w6.setCell ⟨g, i * 3 + 1, none⟩ (.slice p6 y c6)) 5 (.slice p6 y c6) (x.f.data.take y) := OwnR.keep Hv6.out fun k hk => set_other _ (fun e => by have h1 : k = g := e; have := Hnew6.out k hk; have := Hown.out.2.2.2; omega)
          have hch := chg_below X6.out (chg_own (own := own) (w := w6) (a := ⟨g, i * 3 + 1, none⟩) (u := .slice p6 y c6) Hown.out.2.1)
          have hge : w.heap.size ≤ (w6.setCell ⟨g, i * 3 + 1, none⟩ (.slice p6 y c6)).heap.size := by have := X6.out.size; simpa [World.setCell] using this
          have H7 := Lib.hid (And.intro hcore (And.intro hv7 (And.intro hch hge)))
          clear hcore hv7 hch hge
          generalize w6.setCell ⟨g, i * 3 + 1, none⟩ (.slice p6 y c6) = Ws at *
          have hi1 : (L.set i ⟨x.n, .slice p6 y c6, ⟨x.f.data.take y, la⟩⟩)[i]? = some ⟨x.n, .slice p6 y c6, ⟨x.f.data.take y, la⟩⟩ := by rw [List.getElem?_set_self (by omega)]
          have Hi1 := Lib.hid hi1
          clear hi1
          obtain ⟨-, -, hc3⟩ := H7.out.1.at rfl Hi1.out
          have hc1 := H7.out.1.c1
          go_wp2_with fail
          go_still_tail 15, (by kernel_rfl)
          clear hc1 hc3
          change wpList _ _ _ _ _ Ws.drew
          have hkd : RefCore Ws.drew r _ _ _ _ _ := H7.out.1.keep (Nat.le_refl _) (fun _ _ => rfl)
          have hvd : OwnB Ws.drew 5 (.slice p6 y c6) (x.f.data.take y) := OwnR.keep H7.out.2.1 (fun _ _ => rfl)
          have hfin := Hfin2.out _ _ hkd hvd
          obtain ⟨-, -, hc3⟩ := hkd.at rfl Hi1.out
          have hfz2 := hkd.free rfl (i * 3 + 2)
          have hchd : Chg own w Ws.drew := H7.out.2.2.1.trans (Chg.drew Ws) (fun _ _ h => h.elim)
          have hch2 : Chg own w (Ws.drew.setCell ⟨g, i * 3 + 2, none⟩ (.int .i64 ((min la y : Nat) : Int))) := hchd.trans (chg_own (own := own) (w := Ws.drew) (a := ⟨g, i * 3 + 2, none⟩) Hown.out.2.1) (fun _ _ h => h)
          have Hdid := Lib.hid (rdid_calls hfin Hfz.out)
          have Hch := Lib.hid (And.intro hch2 (show w.heap.size ≤ (Ws.drew.setCell ⟨g, i * 3 + 2, none⟩ (.int .i64 ((min la y : Nat) : Int))).heap.size from hch2.size))
          clear hkd hvd hfin hchd hch2 H7
          generalize Ws.drew = Wt at *
          go_wp2_with fail
          refine Hdid.out.mono ?_
          intro e w8 h8
          have hE := rstep_did Hch.out.1 (fun k hk => hk.imp id (fun e => Hnew6.out k e)) Hch.out.2 h8
          obtain ⟨rfl, -⟩ := h8
          have HE := Lib.hid hE
          clear hE
          go_wp2_with fail
          go_ret
          exact HE.out
      · have hR : D.truncate (nm s) z = (D, 1) := by
          unfold DiskM.truncate
          rw [if_neg (by rw [hm]; simp), hg]
          show (if z < 0 ∨ (x.f.data.length : Int) < z then _ else _) = _
          rw [if_pos (by omega)]
        rw [hR]
        generalize spotN (nm s) (L.map RFile.n) = i at *
        have Hf := Lib.hid (fun q => rstep_same h (below_names w (.cells #[.string s] 9) q) 1)
        have Hcells := Lib.hid (show ∀ W, Below w.heap.size w W → W.cell? ⟨r, 1, none⟩ = some (.slice (some ⟨g, 0, none⟩) L.length c0) ∧ W.cell? ⟨g, i * 3 + 1, none⟩ = some x.b from fun W hb => by
          have hW := h.below hb
          exact ⟨hW.c1.trans (by rw [hgv]), (hW.core.at hgo hx).2.1⟩)
        obtain ⟨pb, cb, eb⟩ := HasB.slice (h.data x hxm).has
        rw [eb] at Hcells
        generalize x.f.data.length = m at *
        have Hmay := Lib.hid hmay
        have Hsp := Lib.hid hsp
        clear h h1 hmay hsp hm hR hg hx hxm eb hgo hlc
        subst hgv
        by_cases hz0 : z < 0
        · go_enter Try.func65, Try.ntmps65
          go_wp2_with fail
          refine Hmay.out.mono ?_
          rintro e w2 ⟨rfl, rfl⟩
          go_wp2_with fail
          refine Hsp.out.mono ?_
          rintro e w3 ⟨rfl, q, rfl⟩
          go_wp2_with fail
          go_ret
          exact Hf.out q
        · obtain ⟨y, rfl⟩ : ∃ y : Nat, z = (y : Int) := ⟨z.toNat, by omega⟩
          have hmy : m < y := by omega
          go_enter Try.func65, Try.ntmps65
          go_wp2_with fail
          refine Hmay.out.mono ?_
          rintro e w2 ⟨rfl, rfl⟩
          go_wp2_with fail
          refine Hsp.out.mono ?_
          rintro e w3 ⟨rfl, q, rfl⟩
          obtain ⟨hc1, hc2⟩ := Hcells.out _ (below_names w (.cells #[.string s] 9) q)
          go_wp2_with fail
          go_ret
          exact Hf.out q
  · have hR : D.truncate (nm s) z = (D, D.may [nm s]) := by unfold DiskM.truncate; rw [if_pos hm]
    rw [hR]
    have Hf := Lib.hid (rstep_same h ((Below.refl _ _).alloc (Nat.le_refl _) (.cells #[.string s] 9)) (D.may [nm s]))
    have Hmay := Lib.hid hmay
    generalize D.may [nm s] = m at *
    have hne : ((m : Int) != 0) = true := by simp; omega
    clear h h1 hmay hR
    go_enter Try.func65, Try.ntmps65
    go_wp2_with fail
    refine Hmay.out.mono ?_
    rintro e w2 ⟨rfl, rfl⟩
    go_wp2_with fail
    go_ret
    exact Hf.out
end
end Go.Proofs.Ytdlbamhabenhgaa

namespace Go.Sat
open Go Go.RowKit
/-- 'x[k:]', of elements of whatever size. -/
theorem run_from_any {P : Program} (w : World) {t e : TypeId} {i : TypeInfo} (ht : P.underlying t = some (.slice e)) (hi : P.info? e = some i) (p : Option Addr) (len cap k : Nat) (h : k ≤ len) (h2 : len ≤ cap) :
    (Instr.slice t (.slice p len cap) (some (.int .i64 (k : Int))) none none).run P w = .ok (.slice (if cap - k = 0 then p else p.map fun x => x.add (k * i.size)) (len - k) (cap - k)) w := by
  have h1 : (Instr.sliceBound (.int .i64 (k : Int)) len .sliceB).run P w = .ok k w := by
    rw [run_sliceBound _ _ _ _ _ (by omega) (by omega)]
    simp
  simp [Instr.slice, run_underlying ht, Instr.sliceBounds, h1, sizeOf, typeInfo, hi, Result.andThen]
  by_cases hc : cap = k
  · rw [if_pos hc, if_pos (by omega)]
  · rw [if_neg hc, if_neg (by omega)]

theorem Holds.upto {w : World} {size : Nat} {p : Option Addr} {n c : Nat} {xs : List Value} (h : Holds w size (.slice p n c) n xs) {k : Nat} (hk : k ≤ n) (c' : Nat) : Holds w size (.slice p k c') k (xs.take (k * size)) := by
  obtain ⟨hl, p', cap, e, h0, hc⟩ := h
  cases e
  refine ⟨by rw [List.length_take, hl]; exact Nat.min_eq_left (Nat.mul_le_mul_right _ hk), p, c', rfl, fun e => ?_, fun a ha i u hu => hc a ha i u ?_⟩
  · have := h0 e
    omega
  · rw [List.getElem?_take] at hu
    split at hu
    · exact hu
    · cases hu

theorem OwnR.cut_from {w : World} {e : TypeId} {size : Nat} {p : Option Addr} {n c : Nat} {xs : List Value} (h : OwnR w e size (.slice p n c) n xs) {k : Nat} (hk : k ≤ n) : Holds w size (.slice (if c - k = 0 then p else p.map fun x => x.add (k * size)) (n - k) (c - k)) (n - k) (xs.drop (k * size)) := by
  have hl : (xs.drop (k * size)).length = (n - k) * size := by rw [List.length_drop, h.1, Nat.sub_mul]
  rcases h.2 with ⟨e, hn⟩ | ⟨g, cap, cur, e, hg, hnc, _⟩
  · cases e
    have hk0 : k = 0 := by omega
    subst hk0
    exact ⟨hl, none, 0, by simp, fun _ => rfl, fun a ha => by cases ha⟩
  · cases e
    by_cases h0 : c - k = 0
    · rw [if_pos h0]
      have hnk : n - k = 0 := by omega
      rw [hnk] at hl ⊢
      have hx : xs.drop (k * size) = [] := List.eq_nil_of_length_eq_zero (by rw [hl]; simp)
      rw [hx]
      exact ⟨by simp, _, _, rfl, fun e => (by cases e), fun a ha i u hu => by simp at hu⟩
    · rw [if_neg h0]
      refine ⟨hl, _, _, rfl, fun e => (by cases e), fun a ha i u hu => ?_⟩
      cases ha
      have e1 : (⟨g, 0, none⟩ : Addr).add (k * size) = ⟨g, k * size, none⟩ := add_zero _ _
      have e2 : (⟨g, k * size, none⟩ : Addr).add i = ⟨g, k * size + i, none⟩ := by unfold Addr.add; split <;> simp_all
      show w.cell? (((⟨g, 0, none⟩ : Addr).add (k * size)).add i) = some u
      rw [e1, e2]
      rw [List.getElem?_drop] at hu
      have := h.cells (g := g) rfl (k * size + i) u hu
      rwa [add_zero] at this
end Go.Sat

namespace Go.Proofs.Ytdlbamhabenhgaa
open Go.RowKit Go.Sat Go.Maps

theorem cells_take (L : List RFile) (i : Nat) : (L.take i).flatMap RFile.cells = (L.flatMap RFile.cells).take (i * 3) := by
  induction L generalizing i with
  | nil => simp
  | cons y r ih =>
    cases i with
    | zero => simp
    | succ i =>
      have hy : y.cells.length = 3 := rfl
      rw [List.take_succ_cons, List.flatMap_cons, List.flatMap_cons, ih i, List.take_append, List.take_of_length_le (l := y.cells) (by omega)]
      congr 2
      omega

theorem cells_drop (L : List RFile) (i : Nat) : (L.drop i).flatMap RFile.cells = (L.flatMap RFile.cells).drop (i * 3) := by
  induction L generalizing i with
  | nil => simp
  | cons y r ih =>
    cases i with
    | zero => simp
    | succ i =>
      have hy : y.cells.length = 3 := rfl
      rw [List.drop_succ_cons, List.flatMap_cons, ih i, List.drop_append, List.drop_of_length_le (l := y.cells) (by omega), List.nil_append]
      congr 1
      omega

section
variable {w : World} {r : Nat} {v : Value} {L : List RFile} {own : Nat → Prop} {D : DiskM} {room : Nat} {fuse : Option Nat}

theorem cells_one {L : List RFile} (h : ∀ x ∈ L, x.b.oneCell' = true) : ∀ u ∈ L.flatMap RFile.cells, u.oneCell' = true := by
  intro u hu
  obtain ⟨x, hx, hux⟩ := List.mem_flatMap.1 hu
  simp only [RFile.cells, List.mem_cons, List.not_mem_nil, or_false] at hux
  rcases hux with rfl | rfl | rfl
  · rfl
  · exact h x hx
  · rfl

theorem RefCore.one (h : RefCore w r v L own room fuse) : ∀ x ∈ L, x.b.oneCell' = true := fun x hx => by
  obtain ⟨p, c, e, _⟩ := own_slice (h.data x hx)
  rw [e]
  rfl

/-- The list is another one. -/
theorem RefCore.relist (h : RefCore w r v L own room fuse) {v' : Value} {L' : List RFile} (hrow : OwnR w 96 3 v' L'.length (L'.flatMap RFile.cells)) (hL : ∀ x ∈ L', x ∈ L ∨ (OwnB w 5 x.b x.f.data ∧ ∀ k, x.b.ownBlock = some k → own k ∧ k ≠ r)) (hn : ∀ k, v'.ownBlock = some k → ¬ own k) :
    RefCore (w.setCell ⟨r, 1, none⟩ v') r v' L' (fun k => own k ∨ v'.ownBlock = some k) room fuse where
  cells := set_block h.cells 1 v'
  row := hrow.keep fun k hk => set_other _ (fun e => hn k hk (by have e : k = r := e; rw [e]; exact h.or))
  data := fun x hx => by
    rcases hL x hx with hx | ⟨e, e2⟩
    · exact OwnR.keep (h.data x hx) fun k hk => set_other _ (h.ob x hx k hk).2.1
    · exact OwnR.keep e fun k hk => set_other _ (e2 k hk).2
  or := .inl h.or
  ov := fun k hk => ⟨.inr hk, fun e => hn k hk (by rw [e]; exact h.or)⟩
  ob := fun x hx k hk => by
    rcases hL x hx with hx | ⟨_, e⟩
    · exact ⟨.inl (h.ob x hx k hk).1, (h.ob x hx k hk).2.1, fun e => hn k e (h.ob x hx k hk).1⟩
    · exact ⟨.inl (e k hk).1, (e k hk).2, fun e2 => hn k e2 (e k hk).1⟩
  olt := fun k hk => by
    have : k < w.heap.size := by
      rcases hk with hk | hk
      · exact h.olt k hk
      · exact hrow.lt hk
    simpa [World.setCell] using this
end
end Go.Proofs.Ytdlbamhabenhgaa

namespace Go.Proofs.Ytdlbamhabenhgaa
open Go.RowKit Go.Sat Go.Maps

section
variable {w : World} {r : Nat} {v : Value} {L : List RFile} {own : Nat → Prop} {D : DiskM}

theorem RefIn.fit (h : RefIn w r v L own D) : L.length ≤ 4096 := by rw [h.len]; exact h.ok.count

set_option maxRecDepth 100000 in
set_option maxHeartbeats 4000000 in
/-- No room. -/
theorem rappend_full (h : RefIn w r v L own D) (s : ByteArray) (hs : s.size ≤ 9223372036854775807) {pb : Option Addr} {m cb : Nat} (hm2 : m ≤ 140737488355328) (hm : D.may [nm s] = 0)
    (hf : D.room < D.used + m ∨ (Sat.get (nm s) D.files = none ∧ 4096 ≤ D.files.length)) :
    Calls Try.prog 46 #[.pointer (some ⟨r, 0, none⟩), .string s, .slice pb m cb] w (RStep w r own (D, 6)) := by
  have h1 : RefIn (w.alloc (.cells #[.string s] 9)) r v L own D := h.below ((Below.refl _ _).alloc (Nat.le_refl _) _)
  have hmay := rmay_calls h1 (some ⟨w.heap.size, 0, none⟩) [s] 1 (strs_one w s) (by simp) (by simpa using hs)
  simp only [List.map_cons, List.map_nil] at hmay
  have hsp := spot_calls h1 s
  rw [h.is] at hsp
  rw [hm] at hmay
  have Hf := Lib.hid (fun W hb => rstep_same h (w' := W) hb 6)
  have HU := Lib.hid (fun W hb => rused_calls (h.below (w' := W) hb))
  obtain ⟨pv, cv, rfl⟩ := h.slice
  have Hcells := Lib.hid (show ∀ W, Below w.heap.size w W → W.cell? ⟨r, 0, none⟩ = some (.int .i64 (D.room : Int)) ∧ W.cell? ⟨r, 1, none⟩ = some (.slice pv L.length cv) from fun W hb => ⟨(h.below hb).c0, (h.below hb).c1⟩)
  have hub : D.used ≤ 1073741824 := Nat.le_trans h.ok.used h.ok.room
  have hrb := h.ok.room
  have hfit := h.fit
  rw [← h.len] at hf
  generalize spotN (nm s) (L.map RFile.n) = i at *
  clear h h1
  generalize D.used = U at *
  generalize D.room = R at *
  generalize L.length = N at *
  by_cases hA : R < U + m
  · have hd1 : decide ((R : Int) < (U : Int) + (m : Int)) = true := by simp; omega
    have hd2 : decide (R < U + m) = true := by simpa using hA
    clear hf hm
    have Hmay := Lib.hid hmay
    have Hsp := Lib.hid hsp
    clear hmay hsp
    go_enter Try.func46, Try.ntmps46
    go_wp2_with fail
    refine Hmay.out.mono ?_
    rintro e w2 ⟨rfl, rfl⟩
    go_wp2_with fail
    refine Hsp.out.mono ?_
    rintro e w3 ⟨rfl, q, rfl⟩
    have HbW := Lib.hid (below_names w (.cells #[.string s] 9) q)
    have Hused := Lib.hid (fun n => HU.out _ (HbW.out.trans (show Below _ _ (((w.alloc (.cells #[.string s] 9)).drewN q).drewN n) from ⟨rfl, rfl, rfl, Nat.le_refl _, fun _ _ => rfl⟩)))
    obtain ⟨hc0, hc1⟩ := Hcells.out _ HbW.out
    generalize (w.alloc (.cells #[.string s] 9)).drewN q = W at *
    go_wp2_with fail
    go_quiet ((go_at_call 68; refine Calls.quiet_of_same (Hused.out _)))
    clear hc0 hc1
    go_wp2_with fail
    go_ret
    exact Hf.out _ (HbW.out.trans ⟨rfl, rfl, rfl, Nat.le_refl _, fun _ _ => rfl⟩)
  · obtain ⟨hg, h4⟩ : Sat.get (nm s) D.files = none ∧ 4096 ≤ N := by
      rcases hf with hf | hf
      · exact absurd hf hA
      · exact hf
    rw [hg] at hsp
    have hN : N = 4096 := by omega
    subst hN
    have hd1 : decide ((R : Int) < (U : Int) + (m : Int)) = false := by simp; omega
    have hd2 : decide (R < U + m) = false := by simpa using hA
    clear hf hm hg
    have Hmay := Lib.hid hmay
    have Hsp := Lib.hid hsp
    clear hmay hsp
    go_enter Try.func46, Try.ntmps46
    go_wp2_with fail
    refine Hmay.out.mono ?_
    rintro e w2 ⟨rfl, rfl⟩
    go_wp2_with fail
    refine Hsp.out.mono ?_
    rintro e w3 ⟨rfl, q, rfl⟩
    have HbW := Lib.hid (below_names w (.cells #[.string s] 9) q)
    have Hused := Lib.hid (fun n => HU.out _ (HbW.out.trans (show Below _ _ (((w.alloc (.cells #[.string s] 9)).drewN q).drewN n) from ⟨rfl, rfl, rfl, Nat.le_refl _, fun _ _ => rfl⟩)))
    obtain ⟨hc0, hc1⟩ := Hcells.out _ HbW.out
    generalize (w.alloc (.cells #[.string s] 9)).drewN q = W at *
    go_wp2_with fail
    go_quiet ((go_at_call 68; refine Calls.quiet_of_same (Hused.out _)))
    clear hc0 hc1
    go_wp2_with fail
    go_ret
    exact Hf.out _ (HbW.out.trans ⟨rfl, rfl, rfl, Nat.le_refl _, fun _ _ => rfl⟩)
/-- Behind the row that was laid anew: it is written, and the fuse burns on. -/
theorem rapp_end {W w7 : World} {own1 : Nat → Prop} {g i : Nat} {x : RFile} {v7 : Value} {d7 : Bs} {F : List (Bs × FileM)} (hc : RefCore W r v L own1 D.room D.fuse) (hg : v.ownBlock = some g) (hx : L[i]? = some x) (hb : Below W.heap.size W w7) (h7 : OwnB w7 5 v7 d7) (hn7 : ∀ k, v7.ownBlock = some k → W.heap.size ≤ k)
    (hF : F = (L.set i ⟨x.n, v7, ⟨d7, x.f.lasts⟩⟩).map RFile.key) (hok : DiskM.OK { D with files := F }) (hch : Chg own w W) (hx1 : ∀ k, own1 k → own k ∨ w.heap.size ≤ k) (hfz : D.fuse ≠ some 0) :
    Calls Try.prog 76 #[.pointer (some ⟨r, 0, none⟩)] (w7.setCell ⟨g, i * 3 + 1, none⟩ v7) (RStep w r own (DiskM.done { D with files := F }, 0)) := by
  have hk : RefCore w7 r v L own1 D.room D.fuse := hc.keep hb.size fun k hk => hb.block k (hc.olt k hk)
  have hgo := (hc.ov g hg).1
  have hs := hk.store hg hx 1 (by omega) v7 ⟨x.n, v7, ⟨d7, x.f.lasts⟩⟩ rfl (own' := fun k => own1 k ∨ v7.ownBlock = some k) (fun _ h => .inl h) h7
    (fun k hk => ⟨.inr hk, fun e => by have := hc.olt r hc.or; have := hn7 k hk; omega, fun e => by have := hc.olt g hgo; have := hn7 k hk; omega⟩)
    (fun k h => by
      rcases h with h | h
      · exact hk.olt k h
      · exact OwnR.lt h7 h)
  have hin : RefIn (w7.setCell ⟨g, i * 3 + 1, none⟩ v7) r v (L.set i ⟨x.n, v7, ⟨d7, x.f.lasts⟩⟩) (fun k => own1 k ∨ v7.ownBlock = some k) { D with files := F } := hs.full rfl rfl hF hok
  have hsz := hch.size
  have hch2 : Chg own w (w7.setCell ⟨g, i * 3 + 1, none⟩ v7) := by
    refine (hch.trans ((Chg.of_below hb).mono (T := fun _ => False) fun _ _ h => h) fun _ _ h => h.elim).trans (Chg.setCell w7 ⟨g, i * 3 + 1, none⟩ v7) fun k hk e => ?_
    have e : k = g := e
    rcases hx1 g hgo with h | h
    · rw [e]; exact h
    · omega
  refine (rdid_calls hin hfz).mono ?_
  intro e w8 h8
  refine rstep_did hch2 (fun k hk => ?_) hch2.size h8
  rcases hk with hk | hk
  · exact hx1 k hk
  · exact .inr (Nat.le_trans hsz (hn7 k hk))

set_option maxRecDepth 100000 in
set_option maxHeartbeats 8000000 in
/-- The file is there. -/
theorem rappend_is (h : RefIn w r v L own D) (s : ByteArray) (hs : s.size ≤ 9223372036854775807) {pb : Option Addr} {m cb : Nat} {l : Bs} (hl : HasB w (.slice pb m cb) l) (hm : D.may [nm s] = 0) {f : FileM} (hg : Sat.get (nm s) D.files = some f) (hroom : D.used + m ≤ D.room)
    (hok : DiskM.OK { D with files := put (nm s) ⟨f.data ++ l, f.lasts⟩ D.files }) :
    Calls Try.prog 46 #[.pointer (some ⟨r, 0, none⟩), .string s, .slice pb m cb] w (RStep w r own (DiskM.done { D with files := put (nm s) ⟨f.data ++ l, f.lasts⟩ D.files }, 0)) := by
  have hml : m = l.length := (bytes_in hl).1
  have h1 : RefIn (w.alloc (.cells #[.string s] 9)) r v L own D := h.below ((Below.refl _ _).alloc (Nat.le_refl _) _)
  have hmay := rmay_calls h1 (some ⟨w.heap.size, 0, none⟩) [s] 1 (strs_one w s) (by simp) (by simpa using hs)
  simp only [List.map_cons, List.map_nil] at hmay
  have hsp := spot_calls h1 s
  rw [h.is, hg] at hsp
  rw [hm] at hmay
  have HU := Lib.hid (fun W hb => rused_calls (h.below (w' := W) hb))
  obtain ⟨x, hx, hxn, rfl⟩ := h.hit hg
  have hlm := h.len_le hx
  have hxm := List.mem_of_getElem? hx
  have hN : spotN (nm s) (L.map RFile.n) < L.length := (List.getElem?_eq_some_iff.1 hx).1
  rcases h.at with h0 | ⟨g, c0, hgv, hlc, -⟩
  · rw [h0] at hN
    simp at hN
  have hgo : v.ownBlock = some g := by rw [hgv]; rfl
  have hub : D.used ≤ 1073741824 := Nat.le_trans h.ok.used h.ok.room
  have hrb := h.ok.room
  have hput := fun v' => h.put hg ⟨x.n, v', ⟨x.f.data ++ l, x.f.lasts⟩⟩ hxn
  have hfz := may_fuse hm
  obtain ⟨px, cx, ex, hxc⟩ := own_slice (h.data x hxm)
  generalize spotN (nm s) (L.map RFile.n) = i at *
  have Hcells := Lib.hid (show ∀ W, Below w.heap.size w W → W.cell? ⟨r, 0, none⟩ = some (.int .i64 (D.room : Int)) ∧ W.cell? ⟨r, 1, none⟩ = some (.slice (some ⟨g, 0, none⟩) L.length c0) from fun W hb => ⟨(h.below hb).c0, (h.below hb).c1.trans (by rw [hgv])⟩)
  have Hcells2 := Lib.hid (show ∀ W, Below w.heap.size w W → W.cell? ⟨r, 1, none⟩ = some (.slice (some ⟨g, 0, none⟩) L.length c0) ∧ W.cell? ⟨g, i * 3 + 1, none⟩ = some (.slice px x.f.data.length cx) ∧ W.frozen? ⟨g, i * 3 + 1, none⟩ = false from fun W hb => by
    have hW := h.below hb
    exact ⟨hW.c1.trans (by rw [hgv]), (hW.core.at hgo hx).2.1.trans (by rw [ex]), hW.core.free hgo _⟩)
  have Hxd := Lib.hid (show ∀ W, Below w.heap.size w W → Holds W 1 (.slice px x.f.data.length cx) x.f.data.length (bytesV x.f.data) from fun W hb => by
    have hW := ((h.below hb).data x hxm).has
    rw [ex] at hW
    exact hW)
  have Hld := Lib.hid (show ∀ W, Below w.heap.size w W → Holds W 1 (.slice pb m cb) m (bytesV l) from fun W hb => by
    have hW := hl.below hb
    unfold HasB at hW
    rw [← hml] at hW
    exact hW)
  have Hend := Lib.hid (show ∀ w7 v7, Below w.heap.size w w7 → OwnB w7 5 v7 (x.f.data ++ l) → (∀ k, v7.ownBlock = some k → w.heap.size ≤ k) → Calls Try.prog 76 #[.pointer (some ⟨r, 0, none⟩)] (w7.setCell ⟨g, i * 3 + 1, none⟩ v7) (RStep w r own (DiskM.done { D with files := put (nm s) ⟨x.f.data ++ l, x.f.lasts⟩ D.files }, 0)) from
    fun w7 v7 hb h7 hn7 => rapp_end h.core hgo hx hb h7 hn7 (hput v7) hok (Chg.refl _ _) (fun _ h => .inl h) hfz)
  have Hgr := Lib.hid (show r ≠ g from (h.ov g hgo).2.symm)
  have Hlen := Lib.hid (show (x.f.data ++ l).length = x.f.data.length + m from by rw [List.length_append, hml])
  obtain ⟨i0, hi, hz0, hz1, hz2⟩ := info_parts (show (Try.prog.info? 5).map (fun i => (i.zero, i.size, i.bytes)) = some (some (.int .u8 0), 1, 1) by kernel_rfl)
  clear h h1 hm hg hok hx hxm hput hgo ex hml hxc hl hlc hfz
  subst hgv
  generalize hxl : x.f.data.length = mx at *
  have hd1 : decide ((D.room : Int) < (D.used : Int) + (m : Int)) = false := by simp; omega
  have hd2 : decide (D.room < D.used + m) = false := by simp; omega
  generalize D.used = U at *
  generalize hRoom : D.room = R at *
  have Hmay := Lib.hid hmay
  have Hsp := Lib.hid hsp
  clear hmay hsp
  go_enter Try.func46, Try.ntmps46
  go_wp2_with fail
  refine Hmay.out.mono ?_
  rintro e w2 ⟨rfl, rfl⟩
  go_wp2_with fail
  refine Hsp.out.mono ?_
  rintro e w3 ⟨rfl, q, rfl⟩
  have HbW := Lib.hid (below_names w (.cells #[.string s] 9) q)
  have Hused := Lib.hid (fun n => HU.out _ (HbW.out.trans (show Below _ _ (((w.alloc (.cells #[.string s] 9)).drewN q).drewN n) from ⟨rfl, rfl, rfl, Nat.le_refl _, fun _ _ => rfl⟩)))
  obtain ⟨hc0, hc1⟩ := Hcells.out _ HbW.out
  generalize (w.alloc (.cells #[.string s] 9)).drewN q = W at *
  go_wp2_with fail
  go_quiet ((go_at_call 68; refine Calls.quiet_of_same (Hused.out _)))
  clear hc0 hc1
  go_wp2_with fail
  have X0 := Lib.hid (show Below w.heap.size w (W.drewN nq).drew from HbW.out.trans ⟨rfl, rfl, rfl, Nat.le_refl _, fun _ _ => rfl⟩)
  have hS := (Hcells2.out _ X0.out).1
  refine ord_start (fun W' : World => W'.cell? ⟨r, 1, none⟩ = some (.slice (some ⟨g, 0, none⟩) L.length c0)) (n := 20) (by kernel_rfl) rfl hS (fun hHeld => ?_)
  clear hS
  generalize (W.drewN nq).drew = Wd at *
  refine ord_take 0 (v := ?v1x0) rfl (by kernel_rfl) (by kernel_rfl) (by kernel_rfl) (fun _ _ _ h => h) (by rfl) (by assumption) ?y1x0 ?_
  case y1x0 => (intro w hSw; (try dsimp only at hSw); go_simp; try with_reducible rfl)
  simp only [Act.put, List.setIfInBounds_toArray, List.set_cons_zero, List.set_cons_succ]
  refine ord_take 1 (v := ?v1x1) rfl (by kernel_rfl) (by kernel_rfl) (by kernel_rfl) (fun _ _ _ h => h) (by rfl) (by assumption) ?y1x1 ?_
  case y1x1 => (intro w hSw; (try dsimp only at hSw); go_simp; try with_reducible rfl)
  simp only [Act.put, List.setIfInBounds_toArray, List.set_cons_zero, List.set_cons_succ]
  refine ord_take 2 (v := ?v1x2) rfl (by kernel_rfl) (by kernel_rfl) (by kernel_rfl) (fun _ _ _ h => h) (by rfl) (by assumption) ?y1x2 ?_
  case y1x2 => (intro w hSw; (try dsimp only at hSw); go_simp; try with_reducible rfl)
  simp only [Act.put, List.setIfInBounds_toArray, List.set_cons_zero, List.set_cons_succ]
  refine ord_take 3 (v := ?v1x3) rfl (by kernel_rfl) (by kernel_rfl) (by kernel_rfl) (fun _ _ _ h => h) (by rfl) (by assumption) ?y1x3 ?_
  case y1x3 => (intro w hSw; (try dsimp only at hSw); go_simp; try with_reducible rfl)
  simp only [Act.put, List.setIfInBounds_toArray, List.set_cons_zero, List.set_cons_succ]
  refine ord_take 4 (v := ?v1x4) rfl (by kernel_rfl) (by kernel_rfl) (by kernel_rfl) (fun _ _ _ h => h) (by rfl) (by assumption) ?y1x4 ?_
  case y1x4 => (intro w hSw; (try dsimp only at hSw); go_simp; try with_reducible rfl)
  simp only [Act.put, List.setIfInBounds_toArray, List.set_cons_zero, List.set_cons_succ]
  refine ord_take 6 (v := ?v1x6) rfl (by kernel_rfl) (by kernel_rfl) (by kernel_rfl) (fun _ _ _ h => h) (by rfl) (by assumption) ?y1x6 ?_
  case y1x6 => (intro w hSw; (try dsimp only at hSw); go_simp; try with_reducible rfl)
  simp only [Act.put, List.setIfInBounds_toArray, List.set_cons_zero, List.set_cons_succ]
  refine ord_take 7 (v := ?v1x7) rfl (by kernel_rfl) (by kernel_rfl) (by kernel_rfl) (fun _ _ _ h => h) (by rfl) (by assumption) ?y1x7 ?_
  case y1x7 => (intro w hSw; (try dsimp only at hSw); go_simp; try with_reducible rfl)
  simp only [Act.put, List.setIfInBounds_toArray, List.set_cons_zero, List.set_cons_succ]
  refine ord_take 8 (v := ?v1x8) rfl (by kernel_rfl) (by kernel_rfl) (by kernel_rfl) (fun _ _ _ h => h) (by rfl) (by assumption) ?y1x8 ?_
  case y1x8 => (intro w hSw; (try dsimp only at hSw); go_simp; try with_reducible rfl)
  simp only [Act.put, List.setIfInBounds_toArray, List.set_cons_zero, List.set_cons_succ]
  refine ord_take 9 (v := ?v1x9) rfl (by kernel_rfl) (by kernel_rfl) (by kernel_rfl) (fun _ _ _ h => h) (by rfl) (by assumption) ?y1x9 ?_
  case y1x9 => (intro w hSw; (try dsimp only at hSw); go_simp; try with_reducible rfl)
  simp only [Act.put, List.setIfInBounds_toArray, List.set_cons_zero, List.set_cons_succ]
  refine ord_take 10 (v := ?v1x10) rfl (by kernel_rfl) (by kernel_rfl) (by kernel_rfl) (fun _ _ _ h => h) (by rfl) (by assumption) ?y1x10 ?_
  case y1x10 => (intro w hSw; (try dsimp only at hSw); go_simp; try with_reducible rfl)
  simp only [Act.put, List.setIfInBounds_toArray, List.set_cons_zero, List.set_cons_succ]
  refine ord_take 11 (v := ?v1x11) rfl (by kernel_rfl) (by kernel_rfl) (by kernel_rfl) (fun _ _ _ h => h) (by rfl) (by assumption) ?y1x11 ?_
  case y1x11 => (intro w hSw; (try dsimp only at hSw); go_simp; try with_reducible rfl)
  simp only [Act.put, List.setIfInBounds_toArray, List.set_cons_zero, List.set_cons_succ]
  refine ord_take 12 (v := ?v1x12) rfl (by kernel_rfl) (by kernel_rfl) (by kernel_rfl) (fun _ _ _ h => h) (by rfl) (by assumption) ?y1x12 ?_
  case y1x12 => (intro w hSw; (try dsimp only at hSw); go_simp; try with_reducible rfl)
  simp only [Act.put, List.setIfInBounds_toArray, List.set_cons_zero, List.set_cons_succ]
  refine ord_take 15 (v := ?v1x15) rfl (by kernel_rfl) (by kernel_rfl) (by kernel_rfl) (fun _ _ _ h => h) (by rfl) (by assumption) ?y1x15 ?_
  case y1x15 => (intro w hSw; (try dsimp only at hSw); go_simp; try with_reducible rfl)
  simp only [Act.put, List.setIfInBounds_toArray, List.set_cons_zero, List.set_cons_succ]
  refine ord_two 5 13 rfl rfl (by kernel_rfl) (by rfl) (by rfl) (fun K hK => ?_) (fun K hK => ?_)
  · go_wp2_with fail
    have X1 := Lib.hid (X0.out.alloc X0.out.size (.cells #[] 5))
    refine hK.out _ _ ((Hcells2.out _ X1.out).1) (fun hHeld => ?_)
    clear hK
    try simp only [Act.put, List.setIfInBounds_toArray, List.set_cons_zero, List.set_cons_succ]
    refine ord_one 13 rfl (by kernel_rfl) (by rfl) (fun K hK => ?_)
    have hc2 := (Hcells2.out _ X1.out).2.1
    go_wp2_with fail
    clear hc2
    refine hK.out _ _ ((Hcells2.out _ X1.out).1) (fun hHeld => ?_)
    clear hK
    try simp only [Act.put, List.setIfInBounds_toArray, List.set_cons_zero, List.set_cons_succ]
    refine ord_one 14 rfl (by kernel_rfl) (by rfl) (fun K hK => ?_)
    have hown0 := own_empty Wd 5
    have hxd := Hxd.out _ X1.out
    refine wp_app (.tmp 77) (.tmp 85) 23 (by rfl) 5 i0 (.int .u8 0) 1 1 Try.underlying23 hi hz0 hz1 hz2 rfl (by decide) (.slice (some ⟨Wd.heap.size, 0, none⟩) 0 0) 0 [] (by rfl) hown0 (.slice px mx cx) mx _ (by rfl) hxd (bytesV_one _) (by unfold maxLen; omega) (by omega) ?_
    clear hown0 hxd
    intro v6 w6 hown6 hgrow6 hloc6
    have X6 := Lib.hid (X1.out.grown hgrow6 X1.out.size (fun j e => by have := X0.out.size; simp [Value.ownBlock] at e; omega))
    have hnew6 := own_ge (B := w.heap.size) hloc6 (fun k hk => by have := X0.out.size; simp [Value.ownBlock] at hk; omega) X1.out.size
    rw [Nat.zero_add, List.nil_append] at hown6
    obtain ⟨p6, c6, rfl⟩ := OwnR.shape hown6
    have Hown6 := Lib.hid hown6
    have Hnew6 := Lib.hid hnew6
    clear hgrow6 hloc6 hown6 hnew6
    refine hK.out _ _ ((Hcells2.out _ X6.out).1) (fun hHeld => ?_)
    clear hK
    try simp only [Act.put, List.setIfInBounds_toArray, List.set_cons_zero, List.set_cons_succ]
    refine ord_one 16 rfl (by kernel_rfl) (by rfl) (fun K hK => ?_)
    have hld := Hld.out _ X6.out
    refine wp_app (.tmp 86) (.tmp 87) 23 (by rfl) 5 i0 (.int .u8 0) 1 1 Try.underlying23 hi hz0 hz1 hz2 rfl (by decide) (.slice p6 mx c6) mx _ (by rfl) Hown6.out (.slice pb m cb) m _ (by rfl) hld (bytesV_one _) (by unfold maxLen; omega) (by omega) ?_
    clear hld
    intro v7 w7 hown7 hgrow7 hloc7
    have X7 := Lib.hid (X6.out.grown hgrow7 X6.out.size Hnew6.out)
    have hnew7 := own_ge (B := w.heap.size) hloc7 Hnew6.out X6.out.size
    obtain ⟨p7, c7, rfl⟩ := OwnR.shape hown7
    rw [← bytesV_app] at hown7
    have Hend7 := Lib.hid (Hend.out w7 (.slice p7 (mx + m) c7) X7.out (by unfold OwnB; rw [Hlen.out]; exact hown7) hnew7)
    clear hgrow7 hloc7 hown7 hnew7
    refine hK.out _ _ ((Hcells2.out _ X7.out).1) (fun hHeld => ?_)
    clear hK
    try simp only [Act.put, List.setIfInBounds_toArray, List.set_cons_zero, List.set_cons_succ]
    refine ord_take 17 (v := ?v2x17) rfl (by kernel_rfl) (by kernel_rfl) (by kernel_rfl) (fun _ _ _ h => h) (by rfl) (by assumption) ?y2x17 ?_
    case y2x17 => (intro w hSw; (try dsimp only at hSw); go_simp; try with_reducible rfl)
    simp only [Act.put, List.setIfInBounds_toArray, List.set_cons_zero, List.set_cons_succ]
    refine ord_take 18 (v := ?v2x18) rfl (by kernel_rfl) (by kernel_rfl) (by kernel_rfl) (fun _ _ _ h => h) (by rfl) (by assumption) ?y2x18 ?_
    case y2x18 => (intro w hSw; (try dsimp only at hSw); go_simp; try with_reducible rfl)
    simp only [Act.put, List.setIfInBounds_toArray, List.set_cons_zero, List.set_cons_succ]
    refine ord_one 19 rfl (by kernel_rfl) (by rfl) (fun K hK => ?_)
    obtain ⟨hc1, hc2, hfz1⟩ := Hcells2.out _ X7.out
    go_wp2_with fail
    have hcs : (w7.setCell ⟨g, i * 3 + 1, none⟩ (.slice p7 (mx + m) c7)).cell? ⟨r, 1, none⟩ = some (.slice (some ⟨g, 0, none⟩) L.length c0) := (World.cell?_of_block (set_other _ Hgr.out)).trans hc1
    clear hc1 hc2 hfz1
    refine hK.out _ _ (hcs) (fun hHeld => ?_)
    clear hK
    try simp only [Act.put, List.setIfInBounds_toArray, List.set_cons_zero, List.set_cons_succ]
    refine wpAnyH_done (by kernel_rfl) ?_ _
    clear hHeld
    go_wp2_with fail
    refine Hend7.out.mono ?_
    intro e w8 hE
    have HE := Lib.hid hE
    obtain ⟨rfl, -⟩ := hE
    go_wp2_with fail
    go_ret
    exact HE.out
  · have hc2 := (Hcells2.out _ X0.out).2.1
    go_wp2_with fail
    clear hc2
    refine hK.out _ _ ((Hcells2.out _ X0.out).1) (fun hHeld => ?_)
    clear hK
    try simp only [Act.put, List.setIfInBounds_toArray, List.set_cons_zero, List.set_cons_succ]
    refine ord_one 5 rfl (by kernel_rfl) (by rfl) (fun K hK => ?_)
    go_wp2_with fail
    have X1 := Lib.hid (X0.out.alloc X0.out.size (.cells #[] 5))
    refine hK.out _ _ ((Hcells2.out _ X1.out).1) (fun hHeld => ?_)
    clear hK
    try simp only [Act.put, List.setIfInBounds_toArray, List.set_cons_zero, List.set_cons_succ]
    refine ord_one 14 rfl (by kernel_rfl) (by rfl) (fun K hK => ?_)
    have hown0 := own_empty Wd 5
    have hxd := Hxd.out _ X1.out
    refine wp_app (.tmp 77) (.tmp 85) 23 (by rfl) 5 i0 (.int .u8 0) 1 1 Try.underlying23 hi hz0 hz1 hz2 rfl (by decide) (.slice (some ⟨Wd.heap.size, 0, none⟩) 0 0) 0 [] (by rfl) hown0 (.slice px mx cx) mx _ (by rfl) hxd (bytesV_one _) (by unfold maxLen; omega) (by omega) ?_
    clear hown0 hxd
    intro v6 w6 hown6 hgrow6 hloc6
    have X6 := Lib.hid (X1.out.grown hgrow6 X1.out.size (fun j e => by have := X0.out.size; simp [Value.ownBlock] at e; omega))
    have hnew6 := own_ge (B := w.heap.size) hloc6 (fun k hk => by have := X0.out.size; simp [Value.ownBlock] at hk; omega) X1.out.size
    rw [Nat.zero_add, List.nil_append] at hown6
    obtain ⟨p6, c6, rfl⟩ := OwnR.shape hown6
    have Hown6 := Lib.hid hown6
    have Hnew6 := Lib.hid hnew6
    clear hgrow6 hloc6 hown6 hnew6
    refine hK.out _ _ ((Hcells2.out _ X6.out).1) (fun hHeld => ?_)
    clear hK
    try simp only [Act.put, List.setIfInBounds_toArray, List.set_cons_zero, List.set_cons_succ]
    refine ord_one 16 rfl (by kernel_rfl) (by rfl) (fun K hK => ?_)
    have hld := Hld.out _ X6.out
    refine wp_app (.tmp 86) (.tmp 87) 23 (by rfl) 5 i0 (.int .u8 0) 1 1 Try.underlying23 hi hz0 hz1 hz2 rfl (by decide) (.slice p6 mx c6) mx _ (by rfl) Hown6.out (.slice pb m cb) m _ (by rfl) hld (bytesV_one _) (by unfold maxLen; omega) (by omega) ?_
    clear hld
    intro v7 w7 hown7 hgrow7 hloc7
    have X7 := Lib.hid (X6.out.grown hgrow7 X6.out.size Hnew6.out)
    have hnew7 := own_ge (B := w.heap.size) hloc7 Hnew6.out X6.out.size
    obtain ⟨p7, c7, rfl⟩ := OwnR.shape hown7
    rw [← bytesV_app] at hown7
    have Hend7 := Lib.hid (Hend.out w7 (.slice p7 (mx + m) c7) X7.out (by unfold OwnB; rw [Hlen.out]; exact hown7) hnew7)
    clear hgrow7 hloc7 hown7 hnew7
    refine hK.out _ _ ((Hcells2.out _ X7.out).1) (fun hHeld => ?_)
    clear hK
    try simp only [Act.put, List.setIfInBounds_toArray, List.set_cons_zero, List.set_cons_succ]
    refine ord_take 17 (v := ?v3x17) rfl (by kernel_rfl) (by kernel_rfl) (by kernel_rfl) (fun _ _ _ h => h) (by rfl) (by assumption) ?y3x17 ?_
    case y3x17 => (intro w hSw; (try dsimp only at hSw); go_simp; try with_reducible rfl)
    simp only [Act.put, List.setIfInBounds_toArray, List.set_cons_zero, List.set_cons_succ]
    refine ord_take 18 (v := ?v3x18) rfl (by kernel_rfl) (by kernel_rfl) (by kernel_rfl) (fun _ _ _ h => h) (by rfl) (by assumption) ?y3x18 ?_
    case y3x18 => (intro w hSw; (try dsimp only at hSw); go_simp; try with_reducible rfl)
    simp only [Act.put, List.setIfInBounds_toArray, List.set_cons_zero, List.set_cons_succ]
    refine ord_one 19 rfl (by kernel_rfl) (by rfl) (fun K hK => ?_)
    obtain ⟨hc1, hc2, hfz1⟩ := Hcells2.out _ X7.out
    go_wp2_with fail
    have hcs : (w7.setCell ⟨g, i * 3 + 1, none⟩ (.slice p7 (mx + m) c7)).cell? ⟨r, 1, none⟩ = some (.slice (some ⟨g, 0, none⟩) L.length c0) := (World.cell?_of_block (set_other _ Hgr.out)).trans hc1
    clear hc1 hc2 hfz1
    refine hK.out _ _ (hcs) (fun hHeld => ?_)
    clear hK
    try simp only [Act.put, List.setIfInBounds_toArray, List.set_cons_zero, List.set_cons_succ]
    refine wpAnyH_done (by kernel_rfl) ?_ _
    clear hHeld
    go_wp2_with fail
    refine Hend7.out.mono ?_
    intro e w8 hE
    have HE := Lib.hid hE
    obtain ⟨rfl, -⟩ := hE
    go_wp2_with fail
    go_ret
    exact HE.out
end
end Go.Proofs.Ytdlbamhabenhgaa
