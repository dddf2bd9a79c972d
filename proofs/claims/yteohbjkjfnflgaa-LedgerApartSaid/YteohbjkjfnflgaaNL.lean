/- ledger: Write. (Printed by mkled7.py.) ledger: Drop; a nil Ledger. (Printed by mkled8.py.) What a disk's steps leave where nothing stands in their way, and behind a burnt fuse (plain laws). -/
import Derived.Test.YteohbjkjfnflgaaNF
import Derived.Test.YteohbjkjfnflgaaNK
namespace Go.Proofs.Yteohbjkjfnflgaa
open Go.RowKit Go.Sat Go.Maps

def WriTold (w w1 : World) (l d : Nat) (pre : ByteArray) (F : Nat → Prop) (r : Wrote) (e : Ending) (w' : World) : Prop :=
  e = .returned (.int .i64 (r.err : Int)) ∧ LedF w w' l d pre r.disk r.led F ∧ Same F w1 w'

section
variable {w w1 w2 wc : World} {l d : Nat} {pre : ByteArray} {D : DiskM} {M : LedM} {F : Nat → Prop}

theorem led_save (h : LedF w w1 l d pre D M F) (hb : Below w1.heap.size w1 wc) (s : ByteArray) (hs : s.size ≤ 9223372036854775807) {p : Option Addr} {n c : Nat} {ls : List Bs} (hx : RowsAt wc (.slice p n c) ls) (hn : n ≤ 140737488355328) (hl : ls.flatten.length ≤ 1048576) :
    Calls Try.prog 34 #[.pointer (some ⟨d, 0, none⟩), .string s, .slice p n c] wc fun e w' => e = .returned (.int .i64 ((D.save (nm s) ls.flatten).2 : Int)) ∧ LedF w w' l d pre (D.save (nm s) ls.flatten).1 M F ∧ Same F w1 w' ∧ w'.heap[l]? = w1.heap[l]? :=
  led_disk h hb fun _ hS => save_calls (hS.next hb) s hs hx hn hl

/-- A thing done with the disk, told from further back. -/
theorem led_diskB {P : Program} {f : FuncId} {args : Array Value} {Re : DiskM × Nat} (h : LedF w w1 l d pre D M F) (hx : ∀ G, St w w1 d D G → Calls P f args wc (Told w d G w1 Re)) :
    Calls P f args wc fun e w' => e = .returned (.int .i64 (Re.2 : Int)) ∧ LedF w w' l d pre Re.1 M F ∧ Same F w1 w' ∧ w'.heap[l]? = w1.heap[l]? := by
  obtain ⟨own, dv, ev, vs, hL, hS, hn, hl⟩ := h
  refine (hx _ hS).mono ?_
  rintro e w' ⟨rfl, hS', hs⟩
  exact ⟨rfl, ⟨own, dv, ev, vs, hL.keep (fun k hk => hs k (.inl hk)) fun k hk => hS'.flt (.inl hk), hS', hn, fun k hk => hS'.flt (.inr hk)⟩, fun k hk => hs k (.inr hk), hs l (.inl hL.ol)⟩
theorem led_rid1 (h : LedF w w1 l d pre D M F) (s : ByteArray) (hs : s.size ≤ 9223372036854775807) :
    Calls Try.prog 36 #[.pointer (some ⟨d, 0, none⟩), .slice (some ⟨w1.heap.size, 0, none⟩) 1 1] (w1.alloc (.cells #[.string s] 9)) fun e w' => e = .returned (.int .i64 ((D.rid [nm s]).2 : Int)) ∧ LedF w w' l d pre (D.rid [nm s]).1 M F ∧ Same F w1 w' ∧ w'.heap[l]? = w1.heap[l]? :=
  led_diskB h fun _ hS => told_rid1 hS (Below.refl _ _) s hs

theorem wri_dead (hd : M.dead = true) (i : Int) (b : Bs) : ledWrite (nm pre) D M i b = ⟨D, M, 0, 9⟩ := by unfold ledWrite; rw [if_pos hd]
theorem wri_arg (hd : M.dead = false) (i : Int) (b : Bs) (h : i < (M.last : Int) ∨ 1099511627776 < i) : ledWrite (nm pre) D M i b = ⟨D, M, 0, 1⟩ := by unfold ledWrite; rw [if_neg (by simp [hd]), if_pos h]
theorem wri_long (hd : M.dead = false) (i : Int) (b : Bs) (h : ¬ (i < (M.last : Int) ∨ 1099511627776 < i)) (h2 : 524288 < b.length) : ledWrite (nm pre) D M i b = ⟨D, M, 0, 5⟩ := by unfold ledWrite; rw [if_neg (by simp [hd]), if_neg h, if_pos h2]
theorem wri_err (hd : M.dead = false) (m : Nat) (b : Bs) (h : ¬ ((m : Int) < (M.last : Int) ∨ 1099511627776 < (m : Int))) (h2 : ¬ 524288 < b.length) {r : DiskM × Nat} (hr : imgOn (nm pre) D m b = r) (h1 : r.2 ≠ 0) : ledWrite (nm pre) D M (m : Int) b = ⟨r.1, M.die, 0, r.2⟩ := by
  unfold ledWrite
  rw [if_neg (by simp [hd]), if_neg h, if_neg h2, Int.toNat_natCast, hr, if_pos h1]
theorem wri_ok (hd : M.dead = false) (m : Nat) (b : Bs) (h : ¬ ((m : Int) < (M.last : Int) ∨ 1099511627776 < (m : Int))) (h2 : ¬ 524288 < b.length) {r : DiskM × Nat} (hr : imgOn (nm pre) D m b = r) (h1 : r.2 = 0) : ledWrite (nm pre) D M (m : Int) b = ⟨r.1, ⟨m, b, [], M.dead⟩, 0, 0⟩ := by
  unfold ledWrite
  rw [if_neg (by simp [hd]), if_neg h, if_neg h2, Int.toNat_natCast, hr, if_neg (by simpa using h1)]

/-- The image stands for all. -/
theorem led_reset {own : Nat → Prop} {dv ev : Value} {vs : List Value} (hL : LedIn w1 l d pre own M dv ev vs) {m : Nat} {v : Value} {b : Bs} (hv : OwnB w1 5 v b) (hvo : ∀ k, v.ownBlock = some k → ¬ own k) (hm : m ≤ 1099511627776) (hb : b.length ≤ 1073741824) :
    LedIn (((w1.setCell ⟨l, 2, none⟩ (.int .i64 (m : Int))).setCell ⟨l, 3, none⟩ v).setCell ⟨l, 4, none⟩ (.slice none 0 0)) l d pre (fun k => own k ∨ v.ownBlock = some k) ⟨m, b, [], M.dead⟩ v (.slice none 0 0) [] := by
  have hne : ∀ k, v.ownBlock = some k → k ≠ l := fun k hk e => hvo k hk (e ▸ hL.ol)
  have hk : ∀ k, k ≠ l → (((w1.setCell ⟨l, 2, none⟩ (.int .i64 (m : Int))).setCell ⟨l, 3, none⟩ v).setCell ⟨l, 4, none⟩ (.slice none 0 0)).heap[k]? = w1.heap[k]? := fun k e => (set_other _ e).trans ((set_other _ e).trans (set_other _ e))
  refine ⟨?_, OwnR.keep hv fun k h => hk k (hne k h), OwnR.nil _ _ _, fun i u b hu => (by simp at hu), .inl hL.ol, fun k h => ⟨.inr h, hne k h, fun e => by cases e⟩, fun k h => (by cases h), fun u hu => (by simp at hu), fun k h => ?_, ?_, hL.psz, hb, fun b hb => (by cases hb)⟩
  · have h1 := set_block hL.cells 2 (.int .i64 (m : Int))
    have h2 := set_block h1 3 v
    have h3 := set_block h2 4 (.slice none 0 0)
    simpa using h3
  · have : k < w1.heap.size := h.elim (hL.olt k) fun h => OwnR.lt hv h
    simpa [World.setCell] using this
  · show m + 0 ≤ _
    omega

set_option maxRecDepth 100000 in
set_option maxHeartbeats 16000000 in
theorem lwrite_calls (h : LedF w w1 l d pre D M F) (i : Int) (hir : -9223372036854775808 ≤ i ∧ i ≤ 9223372036854775807) {pp : Option Addr} {n c : Nat} {b : Bs} (hx : ∀ W, Below w.heap.size w W → Same F w1 W → HasB W (.slice pp n c) b) (hb47 : b.length ≤ 140737488355328) :
    Calls Try.prog 13 #[.pointer (some ⟨l, 0, none⟩), .int .i64 i, .slice pp n c] w1 (WriTold w w1 l d pre F (ledWrite (nm pre) D M i b)) := by
  have hn : b.length = n := by obtain ⟨_, _, e⟩ := (hx w1 h.bel fun _ _ => rfl).slice; simp only [Value.slice.injEq] at e; exact e.2.1.symm
  have hps := h.psz.2
  have hlast40 := h.last
  obtain ⟨dv, ev, hcl, -⟩ := h.cells
  have k5 := cell_of hcl (i := 5) rfl
  have H := Lib.hid h
  have Hx := Lib.hid hx
  have Hla := Lib.hid (last_calls h)
  clear h hx hcl
  cases hd : M.dead with
  | true =>
    have HE := Lib.hid (show WriTold w w1 l d pre F (ledWrite (nm pre) D M i b) (.returned (.int .i64 9)) w1 from by rw [wri_dead hd]; exact ⟨rfl, H.out, fun _ _ => rfl⟩)
    have k5' : w1.cell? ⟨l, 5, none⟩ = some (.bool true) := by rw [← hd]; exact k5
    clear k5 hd
    go_enter Try.func13, Try.ntmps13
    go_wp2_with fail
    go_ret
    exact HE.out
  | false =>
    have k5' : w1.cell? ⟨l, 5, none⟩ = some (.bool false) := by rw [← hd]; exact k5
    have Hd := Lib.hid hd
    clear k5 hd
    by_cases harg : i < (M.last : Int) ∨ 1099511627776 < i
    · have HE := Lib.hid (fun q => show WriTold w w1 l d pre F (ledWrite (nm pre) D M i b) (.returned (.int .i64 1)) (w1.drewN q) from by rw [wri_arg Hd.out _ _ harg]; exact ⟨rfl, H.out.next ⟨rfl, rfl, rfl, Nat.le_refl _, fun _ _ => rfl⟩, fun _ _ => rfl⟩)
      generalize M.last = la at *
      by_cases h1 : i < (la : Int)
      · clear harg
        go_enter Try.func13, Try.ntmps13
        go_wp2_with fail
        refine Hla.out.mono ?_
        rintro e w2 ⟨rfl, q, rfl⟩
        go_wp2_with fail
        go_ret
        exact HE.out q
      · have h2 : 1099511627776 < i := harg.resolve_left h1
        clear harg
        go_enter Try.func13, Try.ntmps13
        go_wp2_with fail
        refine Hla.out.mono ?_
        rintro e w2 ⟨rfl, q, rfl⟩
        go_wp2_with fail
        go_ret
        exact HE.out q
    · obtain ⟨m, rfl⟩ : ∃ m : Nat, i = (m : Int) := ⟨i.toNat, by omega⟩
      by_cases hlong : 524288 < n
      · have HE := Lib.hid (fun q => show WriTold w w1 l d pre F (ledWrite (nm pre) D M (m : Int) b) (.returned (.int .i64 5)) (w1.drewN q) from by rw [wri_long Hd.out _ _ harg (by omega)]; exact ⟨rfl, H.out.next ⟨rfl, rfl, rfl, Nat.le_refl _, fun _ _ => rfl⟩, fun _ _ => rfl⟩)
        have h1 : (M.last : Int) ≤ (m : Int) := by omega
        have h2 : (m : Int) ≤ 1099511627776 := by omega
        generalize M.last = la at *
        clear harg
        go_enter Try.func13, Try.ntmps13
        go_wp2_with fail
        refine Hla.out.mono ?_
        rintro e w2 ⟨rfl, q, rfl⟩
        go_wp2_with fail
        go_ret
        exact HE.out q
      · have Hno := Lib.hid harg
        have Hsh := Lib.hid (show ¬ 524288 < b.length by omega)
        have h1 : (M.last : Int) ≤ (m : Int) := by omega
        have h2 : (m : Int) ≤ 1099511627776 := by omega
        have Hm40 := Lib.hid (show m ≤ 1099511627776 by omega)
        have Hb30 := Lib.hid (show b.length ≤ 524288 by omega)
        have Hps := Lib.hid hps
        clear harg
        generalize hlaE : M.last = la at *
        have HlaE := Lib.hid hlaE
        clear hlaE
        go_enter Try.func13, Try.ntmps13
        go_wp2_with fail
        refine Hla.out.mono ?_
        rintro e w2 ⟨rfl, q, rfl⟩
        go_wp2_with fail
        have Hw2 := Lib.hid (show WrIn ((w1.drewN q).alloc (.cells #[.slice none 0 0] 59)) w1.heap.size (.slice none 0 0) [] from wr_fresh (w1.drewN q) (0, 0) rfl)
        have HB2 := Lib.hid (show Below w1.heap.size w1 ((w1.drewN q).alloc (.cells #[.slice none 0 0] 59)) from (show Below w1.heap.size w1 (w1.drewN q) from ⟨rfl, rfl, rfl, Nat.le_refl _, fun _ _ => rfl⟩).alloc (Nat.le_refl _) _)
        have hsz2 : ((w1.drewN q).alloc (.cells #[.slice none 0 0] 59)).heap.size = w1.heap.size + 1 := by simp
        have Hn1 := Lib.hid (wnum_one Hw2.out (m : Int) ⟨by omega, by omega⟩ (by simp) (w1.heap.size + 1) 1 hsz2.symm (0, 0))
        have Hba := Lib.hid (show Below w1.heap.size w1 (((w1.drewN q).alloc (.cells #[.slice none 0 0] 59)).alloc (.cells #[.int .i64 (m : Int)] 3)) from HB2.out.alloc HB2.out.size _)
        clear hsz2
        generalize (w1.drewN q).alloc (.cells #[.slice none 0 0] 59) = W2 at *
        refine Hn1.out.mono ?_
        rintro e w3 ⟨rfl, v3, hv3, hc3, hn3⟩
        have HB3 := Lib.hid (wr_below Hba.out (Nat.le_refl _) (fun j hj => by cases hj) hc3 hn3)
        have Hby := Lib.hid (wbytes_one hv3 (pv := pp) (m := n) (cv := c) (x := b) (fun W hc => by
          have hbW : Below w1.heap.size w1 W := HB3.out.1.trans (hc.below HB3.out.1.size fun j hj hs => by
            rcases hs with rfl | hs
            · omega
            · have := HB3.out.2 j hs
              omega)
          exact Hx.out W (H.out.bel.trans (hbW.mono H.out.bel.size)) fun k hk => hbW.block k (H.out.flt hk)) (by
          have h1 := numI_len (m : Int)
          rw [List.nil_append]
          have := Hb30.out
          omega) w3.heap.size 1 rfl (0, 0))
        have Hbb := Lib.hid (show Below w1.heap.size w1 (w3.alloc (.cells #[.slice pp n c] 33)) from HB3.out.1.alloc HB3.out.1.size _)
        clear hv3 hc3 hn3 Hn1
        go_wp2_with fail
        refine Hby.out.mono ?_
        rintro e w4 ⟨rfl, v4, hv4, hc4, hn4⟩
        have HB4 := Lib.hid (wr_below Hbb.out (Nat.le_refl _) HB3.out.2 hc4 hn4).1
        have hi4 : [] ++ numI (m : Int) ++ rowB b = imgB m b := by
          rw [List.nil_append]
          unfold imgB
          rw [numI_nat (by have := Hm40.out; omega)]
        rw [hi4] at hv4
        have Hil := Lib.hid (show (imgB m b).length ≤ 540000 from by
          unfold imgB rowB
          have h1 := numB_nine (n := m) (by have := Hm40.out; omega)
          have h2 := numB_nine (n := b.length) (by have := Hb30.out; omega)
          have h3 := Hb30.out
          rw [List.length_append, List.length_append]
          omega)
        have Hv4 := Lib.hid hv4
        have HL4 := Lib.hid (H.out.next HB4.out)
        have Hs4 := Lib.hid (H.out.same HB4.out)
        clear hv4 hc4 hn4 hi4 Hby
        generalize hIM : imgB m b = im at *
        have HIM := Lib.hid hIM
        clear hIM
        generalize hml : im.length = ml at *
        have Hml := Lib.hid hml
        clear hml
        cases hsv : D.save (imgN (nm pre)) im with
        | mk D1 e1 =>
          have Hsave := Lib.hid (show ∀ W, LedF w W l d pre D M F → ∀ p c, HasB W (.slice p ml c) im → Calls Try.prog 34 #[.pointer (some ⟨d, 0, none⟩), .string (sImg pre), .slice (some ⟨W.heap.size, 0, none⟩) 1 1] (W.alloc (.cells #[.slice p ml c] 33)) fun e w' => e = .returned (.int .i64 (e1 : Int)) ∧ LedF w w' l d pre D1 M F ∧ Same F W w' ∧ w'.heap[l]? = W.heap[l]? from fun W h p c hf => by
            have hr := rows_one hf 33 (0, 0) W.heap.size 1 rfl (Nat.le_refl _)
            have := led_save h (below_one W (.cells #[.slice p ml c] 33)) (sImg pre) (by rw [size_img]; omega) hr (by decide) (by rw [List.flatten_cons, List.flatten_nil, List.append_nil, Hml.out]; have := Hil.out; omega)
            rwa [nm_img, show [im].flatten = im from by rw [List.flatten_cons, List.flatten_nil, List.append_nil], hsv] at this)
          by_cases he1 : e1 = 0
          · subst he1
            cases hri : D1.rid [logN (nm pre)] with
            | mk D2 e2 =>
              have Hly := Lib.hid (show imgOn (nm pre) D m b = (D2, e2) from by unfold imgOn; rw [HIM.out, hsv]; rw [if_neg (by simp)]; exact hri)
              have Hrid := Lib.hid (show ∀ W, LedF w W l d pre D1 M F → Calls Try.prog 36 #[.pointer (some ⟨d, 0, none⟩), .slice (some ⟨W.heap.size, 0, none⟩) 1 1] (W.alloc (.cells #[.string (sLog pre)] 9)) fun e w' => e = .returned (.int .i64 (e2 : Int)) ∧ LedF w w' l d pre D2 M F ∧ Same F W w' ∧ w'.heap[l]? = W.heap[l]? from fun W h => by
                have := led_rid1 h (sLog pre) (by rw [size_log]; omega)
                rwa [nm_log, hri] at this)
              clear hsv hri
              by_cases he2 : e2 = 0
              · subst he2
                have HR := Lib.hid (wri_ok Hd.out m b (by rw [HlaE.out]; exact Hno.out) Hsh.out Hly.out rfl)
                go_wp2_with fail
                have HLd := Lib.hid (HL4.out.next (below_drew w4))
                have Hsd := Lib.hid (show Same F w1 w4.drew from Hs4.out)
                have Hwd := Lib.hid (show WrIn w4.drew w1.heap.size v4 im from Hv4.out.keep (below_drew w4))
                have HBd := Lib.hid (show Below w1.heap.size w1 w4.drew from HB4.out.trans ((below_drew w4).mono HB4.out.size))
                obtain ⟨hc0, hc1, -⟩ := HL4.out.lc
                refine ord_start (fun w' : World => w'.cell? ⟨l, 0, none⟩ = some (.pointer (some ⟨d, 0, none⟩)) ∧ w'.cell? ⟨l, 1, none⟩ = some (.string pre)) (n := 10) (by kernel_rfl) rfl (⟨hc0, hc1⟩) (fun hHeld => ?_)
                generalize w4.drew = W1 at *
                refine ord_take 0 (v := ?v10x0) rfl (by kernel_rfl) (by kernel_rfl) (by kernel_rfl) (fun _ _ _ h => h) (by rfl) (by assumption) ?y10x0 ?_
                case y10x0 => (intro w hSw; (try dsimp only at hSw); go_simp; try with_reducible rfl)
                simp only [Act.put, List.setIfInBounds_toArray, List.set_cons_zero, List.set_cons_succ]
                refine ord_take 1 (v := ?v10x1) rfl (by kernel_rfl) (by kernel_rfl) (by kernel_rfl) (fun _ _ _ h => h) (by rfl) (by assumption) ?y10x1 ?_
                case y10x1 => (intro w hSw; (try dsimp only at hSw); go_simp; try with_reducible rfl)
                simp only [Act.put, List.setIfInBounds_toArray, List.set_cons_zero, List.set_cons_succ]
                refine ord_take 2 (v := ?v10x2) rfl (by kernel_rfl) (by kernel_rfl) (by kernel_rfl) (fun _ _ _ h => h) (by rfl) (by assumption) ?y10x2 ?_
                case y10x2 => (intro w hSw; (try dsimp only at hSw); go_simp; try with_reducible rfl)
                simp only [Act.put, List.setIfInBounds_toArray, List.set_cons_zero, List.set_cons_succ]
                refine ord_take 3 (v := ?v10x3) rfl (by kernel_rfl) (by kernel_rfl) (by kernel_rfl) (fun _ _ _ h => h) (by rfl) (by assumption) ?y10x3 ?_
                case y10x3 => (intro w hSw; (try dsimp only at hSw); go_simp; try with_reducible rfl)
                simp only [Act.put, List.setIfInBounds_toArray, List.set_cons_zero, List.set_cons_succ]
                refine ord_take 4 (v := ?v10x4) rfl (by kernel_rfl) (by kernel_rfl) (by kernel_rfl) (fun _ _ _ h => h) (by rfl) (by assumption) ?y10x4 ?_
                case y10x4 => (intro w hSw; (try dsimp only at hSw); go_simp; try with_reducible rfl)
                simp only [Act.put, List.setIfInBounds_toArray, List.set_cons_zero, List.set_cons_succ]
                refine ord_one 5 rfl (by kernel_rfl) (by rfl) (fun K hK => ?_)
                go_wp2_with fail
                refine (imgName_calls ⟨hHeld.1, hHeld.2, hps⟩).mono ?_
                rintro e w9 ⟨rfl, rfl⟩
                go_wp2_with fail
                refine hK.out _ _ (hHeld) (fun hHeld => ?_)
                clear hK
                try simp only [Act.put, List.setIfInBounds_toArray, List.set_cons_zero, List.set_cons_succ]
                refine ord_one 6 rfl (by kernel_rfl) (by rfl) (fun K hK => ?_)
                have Hou := Lib.hid (wout_calls Hwd.out (by rw [Hml.out]; have := Hil.out; omega))
                go_wp2_with fail
                refine Hou.out.mono ?_
                rintro e w5 ⟨v5, rfl, hv5, hn5, hb5⟩
                have HL5 := Lib.hid (HLd.out.next hb5)
                have Hs5 := Lib.hid (show Same F w1 w5 from fun k hk => (HLd.out.same hb5 k hk).trans (Hsd.out k hk))
                have Hk5 := Lib.hid (HLd.out.lc.same (hb5.block l HLd.out.llt))
                have Hv5 := Lib.hid (show HasB w5 v5 im from hv5.has)
                obtain ⟨p5, c5, rfl, -⟩ := own_cap0 hv5
                rw [Hml.out] at Hv5
                clear hv5 hn5 hb5 Hou
                rw [Hml.out]
                go_wp2_with fail
                refine hK.out _ _ (⟨Hk5.out.1, Hk5.out.2.1⟩) (fun hHeld => ?_)
                clear hK
                try simp only [Act.put, List.setIfInBounds_toArray, List.set_cons_zero, List.set_cons_succ]
                refine ord_one 7 rfl (by kernel_rfl) (by rfl) (fun K hK => ?_)
                have Hh2 := Lib.hid (show (w5.alloc (.cells #[.slice p5 ml c5] 33)).cell? ⟨l, 0, none⟩ = some (.pointer (some ⟨d, 0, none⟩)) ∧ (w5.alloc (.cells #[.slice p5 ml c5] 33)).cell? ⟨l, 1, none⟩ = some (.string pre) from ⟨al_cell hHeld.1 _, al_cell hHeld.2 _⟩)
                go_wp2_with fail
                refine hK.out _ _ (Hh2.out) (fun hHeld => ?_)
                clear hK
                try simp only [Act.put, List.setIfInBounds_toArray, List.set_cons_zero, List.set_cons_succ]
                refine ord_one 8 rfl (by kernel_rfl) (by rfl) (fun K hK => ?_)
                have Hsv := Lib.hid (Hsave.out w5 HL5.out p5 c5 Hv5.out)
                go_wp2_with fail
                refine Hsv.out.mono ?_
                rintro e w7 ⟨rfl, hl7, hs7, hk7⟩
                have Hh3 := Lib.hid (HL5.out.lc.same hk7)
                have HL7 := Lib.hid hl7
                have Hs7 := Lib.hid (show Same F w1 w7 from fun k hk => (hs7 k hk).trans (Hs5.out k hk))
                clear hl7 hs7 hk7 Hsv
                go_wp2_with fail
                refine hK.out _ _ (⟨Hh3.out.1, Hh3.out.2.1⟩) (fun hHeld => ?_)
                clear hK
                try simp only [Act.put, List.setIfInBounds_toArray, List.set_cons_zero, List.set_cons_succ]
                refine ord_take 9 (v := ?v10x9) rfl (by kernel_rfl) (by kernel_rfl) (by kernel_rfl) (fun _ _ _ h => h) (by rfl) (by assumption) ?y10x9 ?_
                case y10x9 => (intro w hSw; (try dsimp only at hSw); go_simp; try with_reducible rfl)
                simp only [Act.put, List.setIfInBounds_toArray, List.set_cons_zero, List.set_cons_succ]
                refine wpAnyH_done (by kernel_rfl) ?_ _
                clear HLd Hsd Hwd HBd Hh3 HL5 Hs5
                go_wp2_with fail
                have HLd := Lib.hid (HL7.out.next (below_drew w7))
                have Hsd := Lib.hid (show Same F w1 w7.drew from Hs7.out)
                obtain ⟨hc0, hc1, -⟩ := HL7.out.lc
                refine ord_start (fun w' : World => w'.cell? ⟨l, 0, none⟩ = some (.pointer (some ⟨d, 0, none⟩)) ∧ w'.cell? ⟨l, 1, none⟩ = some (.string pre)) (n := 9) (by kernel_rfl) rfl (⟨hc0, hc1⟩) (fun hHeld => ?_)
                generalize w7.drew = W1 at *
                refine ord_take 0 (v := ?v20x0) rfl (by kernel_rfl) (by kernel_rfl) (by kernel_rfl) (fun _ _ _ h => h) (by rfl) (by assumption) ?y20x0 ?_
                case y20x0 => (intro w hSw; (try dsimp only at hSw); go_simp; try with_reducible rfl)
                simp only [Act.put, List.setIfInBounds_toArray, List.set_cons_zero, List.set_cons_succ]
                refine ord_take 1 (v := ?v20x1) rfl (by kernel_rfl) (by kernel_rfl) (by kernel_rfl) (fun _ _ _ h => h) (by rfl) (by assumption) ?y20x1 ?_
                case y20x1 => (intro w hSw; (try dsimp only at hSw); go_simp; try with_reducible rfl)
                simp only [Act.put, List.setIfInBounds_toArray, List.set_cons_zero, List.set_cons_succ]
                refine ord_take 2 (v := ?v20x2) rfl (by kernel_rfl) (by kernel_rfl) (by kernel_rfl) (fun _ _ _ h => h) (by rfl) (by assumption) ?y20x2 ?_
                case y20x2 => (intro w hSw; (try dsimp only at hSw); go_simp; try with_reducible rfl)
                simp only [Act.put, List.setIfInBounds_toArray, List.set_cons_zero, List.set_cons_succ]
                refine ord_take 3 (v := ?v20x3) rfl (by kernel_rfl) (by kernel_rfl) (by kernel_rfl) (fun _ _ _ h => h) (by rfl) (by assumption) ?y20x3 ?_
                case y20x3 => (intro w hSw; (try dsimp only at hSw); go_simp; try with_reducible rfl)
                simp only [Act.put, List.setIfInBounds_toArray, List.set_cons_zero, List.set_cons_succ]
                refine ord_take 4 (v := ?v20x4) rfl (by kernel_rfl) (by kernel_rfl) (by kernel_rfl) (fun _ _ _ h => h) (by rfl) (by assumption) ?y20x4 ?_
                case y20x4 => (intro w hSw; (try dsimp only at hSw); go_simp; try with_reducible rfl)
                simp only [Act.put, List.setIfInBounds_toArray, List.set_cons_zero, List.set_cons_succ]
                refine ord_one 5 rfl (by kernel_rfl) (by rfl) (fun K hK => ?_)
                go_wp2_with fail
                refine (logName_calls ⟨hHeld.1, hHeld.2, hps⟩).mono ?_
                rintro e w9 ⟨rfl, rfl⟩
                go_wp2_with fail
                refine hK.out _ _ (hHeld) (fun hHeld => ?_)
                clear hK
                try simp only [Act.put, List.setIfInBounds_toArray, List.set_cons_zero, List.set_cons_succ]
                refine ord_one 6 rfl (by kernel_rfl) (by rfl) (fun K hK => ?_)
                have Hh2 := Lib.hid (show (W1.alloc (.cells #[.string (sLog pre)] 9)).cell? ⟨l, 0, none⟩ = some (.pointer (some ⟨d, 0, none⟩)) ∧ (W1.alloc (.cells #[.string (sLog pre)] 9)).cell? ⟨l, 1, none⟩ = some (.string pre) from ⟨al_cell hHeld.1 _, al_cell hHeld.2 _⟩)
                go_wp2_with fail
                refine hK.out _ _ (Hh2.out) (fun hHeld => ?_)
                clear hK
                try simp only [Act.put, List.setIfInBounds_toArray, List.set_cons_zero, List.set_cons_succ]
                refine ord_one 7 rfl (by kernel_rfl) (by rfl) (fun K hK => ?_)
                go_wp2_with fail
                refine (Hrid.out W1 HLd.out).mono ?_
                rintro e w8 ⟨rfl, hl8, hs8, hk8⟩
                have Hh3 := Lib.hid (HLd.out.lc.same hk8)
                have HL8 := Lib.hid hl8
                have Hs8 := Lib.hid (show Same F w1 w8 from fun k hk => (hs8 k hk).trans (Hsd.out k hk))
                clear hl8 hs8 hk8
                go_wp2_with fail
                refine hK.out _ _ (⟨Hh3.out.1, Hh3.out.2.1⟩) (fun hHeld => ?_)
                clear hK
                try simp only [Act.put, List.setIfInBounds_toArray, List.set_cons_zero, List.set_cons_succ]
                refine ord_take 8 (v := ?v20x8) rfl (by kernel_rfl) (by kernel_rfl) (by kernel_rfl) (fun _ _ _ h => h) (by rfl) (by assumption) ?y20x8 ?_
                case y20x8 => (intro w hSw; (try dsimp only at hSw); go_simp; try with_reducible rfl)
                simp only [Act.put, List.setIfInBounds_toArray, List.set_cons_zero, List.set_cons_succ]
                refine wpAnyH_done (by kernel_rfl) ?_ _
                clear HLd Hsd Hh3
                have Hdi := Lib.hid (dies_calls HL8.out 0)
                go_wp2_with fail
                refine Hdi.out.mono ?_
                rintro e w10 ⟨rfl, hl10, hs10⟩
                have HL10 := Lib.hid hl10
                have Hs10 := Lib.hid (show Same F w1 w10 from fun k hk => (hs10 k hk).trans (Hs8.out k hk))
                clear hl10 hs10 Hdi
                have HLm := Lib.hid (show LedF w w10 l d pre D2 M F from by
                  have h := HL10.out
                  have e : ({ M with dead := M.dead || decide ((0 : Nat) ≠ 0) } : LedM) = M := by
                    rw [Hd.out]
                    show (⟨M.base, M.data, M.entries, false⟩ : LedM) = M
                    rw [← Hd.out]
                  rwa [e] at h)
                have Hcl := Lib.hid (clone_calls (Hx.out w10 HLm.out.bel Hs10.out) (by have := Hb30.out; omega))
                clear HL10
                go_wp2_with fail
                refine Hcl.out.mono ?_
                rintro e w11 ⟨u, rfl, hu, hun, hb11⟩
                obtain ⟨own, dv, ev, vs, hL, hS, hn', hl⟩ := HLm.out
                have hL11 := hL.below hb11
                have hfin := led_reset hL11 hu (fun k hk ho => by have h1 := hun k hk; have h2 := hL.olt k ho; omega) Hm40.out (by have := Hb30.out; omega)
                have hch : Chg own w10 (((w11.setCell ⟨l, 2, none⟩ (.int .i64 (m : Int))).setCell ⟨l, 3, none⟩ u).setCell ⟨l, 4, none⟩ (.slice none 0 0)) := ((((Chg.of_below hb11).mono fun _ _ h => h.elim).trans (Chg.setCell w11 ⟨l, 2, none⟩ _) fun k _ e => by rw [e]; exact hL.ol).trans (Chg.setCell _ ⟨l, 3, none⟩ _) fun k _ e => by rw [e]; exact hL.ol).trans (Chg.setCell _ ⟨l, 4, none⟩ _) fun k _ e => by rw [e]; exact hL.ol
                have hQ := LedF.turned hS hn' hl hfin hch fun k hk => hk.imp id (hun k)
                have HE := Lib.hid (show WriTold w w1 l d pre F (ledWrite (nm pre) D M (m : Int) b) (.returned (.int .i64 0)) (((w11.setCell ⟨l, 2, none⟩ (.int .i64 (m : Int))).setCell ⟨l, 3, none⟩ u).setCell ⟨l, 4, none⟩ (.slice none 0 0)) from by
                  rw [HR.out]
                  exact ⟨rfl, hQ.1, fun k hk => (hQ.2 k hk).trans (Hs10.out k hk)⟩)
                have k2 := hL11.c2
                have k3 := hL11.c3
                have k4 := hL11.c4
                have f2 := hL11.fr 2
                have f3 := hL11.fr 3
                have f4 := hL11.fr 4
                obtain ⟨pu, cu, rfl, -⟩ := own_cap0 hu
                obtain ⟨pd, cd, rfl, -⟩ := own_cap0 hL.data
                obtain ⟨pe, ce, rfl⟩ := OwnR.shape hL.row
                rw [hn] at HE ⊢
                clear hL hS hn' hl hL11 hfin hch hQ hu hun hb11 Hcl
                go_wp2_with fail
                go_ret
                exact HE.out
              · have hne : ((e2 : Int) != 0) = true := by simp; omega
                have HR := Lib.hid (wri_err Hd.out m b (by rw [HlaE.out]; exact Hno.out) Hsh.out Hly.out he2)
                have He := Lib.hid he2
                have hne2 : ((e2 : Int) == 0) = false := by simp; omega
                clear he2
                go_wp2_with fail
                have HLd := Lib.hid (HL4.out.next (below_drew w4))
                have Hsd := Lib.hid (show Same F w1 w4.drew from Hs4.out)
                have Hwd := Lib.hid (show WrIn w4.drew w1.heap.size v4 im from Hv4.out.keep (below_drew w4))
                have HBd := Lib.hid (show Below w1.heap.size w1 w4.drew from HB4.out.trans ((below_drew w4).mono HB4.out.size))
                obtain ⟨hc0, hc1, -⟩ := HL4.out.lc
                refine ord_start (fun w' : World => w'.cell? ⟨l, 0, none⟩ = some (.pointer (some ⟨d, 0, none⟩)) ∧ w'.cell? ⟨l, 1, none⟩ = some (.string pre)) (n := 10) (by kernel_rfl) rfl (⟨hc0, hc1⟩) (fun hHeld => ?_)
                generalize w4.drew = W1 at *
                refine ord_take 0 (v := ?v30x0) rfl (by kernel_rfl) (by kernel_rfl) (by kernel_rfl) (fun _ _ _ h => h) (by rfl) (by assumption) ?y30x0 ?_
                case y30x0 => (intro w hSw; (try dsimp only at hSw); go_simp; try with_reducible rfl)
                simp only [Act.put, List.setIfInBounds_toArray, List.set_cons_zero, List.set_cons_succ]
                refine ord_take 1 (v := ?v30x1) rfl (by kernel_rfl) (by kernel_rfl) (by kernel_rfl) (fun _ _ _ h => h) (by rfl) (by assumption) ?y30x1 ?_
                case y30x1 => (intro w hSw; (try dsimp only at hSw); go_simp; try with_reducible rfl)
                simp only [Act.put, List.setIfInBounds_toArray, List.set_cons_zero, List.set_cons_succ]
                refine ord_take 2 (v := ?v30x2) rfl (by kernel_rfl) (by kernel_rfl) (by kernel_rfl) (fun _ _ _ h => h) (by rfl) (by assumption) ?y30x2 ?_
                case y30x2 => (intro w hSw; (try dsimp only at hSw); go_simp; try with_reducible rfl)
                simp only [Act.put, List.setIfInBounds_toArray, List.set_cons_zero, List.set_cons_succ]
                refine ord_take 3 (v := ?v30x3) rfl (by kernel_rfl) (by kernel_rfl) (by kernel_rfl) (fun _ _ _ h => h) (by rfl) (by assumption) ?y30x3 ?_
                case y30x3 => (intro w hSw; (try dsimp only at hSw); go_simp; try with_reducible rfl)
                simp only [Act.put, List.setIfInBounds_toArray, List.set_cons_zero, List.set_cons_succ]
                refine ord_take 4 (v := ?v30x4) rfl (by kernel_rfl) (by kernel_rfl) (by kernel_rfl) (fun _ _ _ h => h) (by rfl) (by assumption) ?y30x4 ?_
                case y30x4 => (intro w hSw; (try dsimp only at hSw); go_simp; try with_reducible rfl)
                simp only [Act.put, List.setIfInBounds_toArray, List.set_cons_zero, List.set_cons_succ]
                refine ord_one 5 rfl (by kernel_rfl) (by rfl) (fun K hK => ?_)
                go_wp2_with fail
                refine (imgName_calls ⟨hHeld.1, hHeld.2, hps⟩).mono ?_
                rintro e w9 ⟨rfl, rfl⟩
                go_wp2_with fail
                refine hK.out _ _ (hHeld) (fun hHeld => ?_)
                clear hK
                try simp only [Act.put, List.setIfInBounds_toArray, List.set_cons_zero, List.set_cons_succ]
                refine ord_one 6 rfl (by kernel_rfl) (by rfl) (fun K hK => ?_)
                have Hou := Lib.hid (wout_calls Hwd.out (by rw [Hml.out]; have := Hil.out; omega))
                go_wp2_with fail
                refine Hou.out.mono ?_
                rintro e w5 ⟨v5, rfl, hv5, hn5, hb5⟩
                have HL5 := Lib.hid (HLd.out.next hb5)
                have Hs5 := Lib.hid (show Same F w1 w5 from fun k hk => (HLd.out.same hb5 k hk).trans (Hsd.out k hk))
                have Hk5 := Lib.hid (HLd.out.lc.same (hb5.block l HLd.out.llt))
                have Hv5 := Lib.hid (show HasB w5 v5 im from hv5.has)
                obtain ⟨p5, c5, rfl, -⟩ := own_cap0 hv5
                rw [Hml.out] at Hv5
                clear hv5 hn5 hb5 Hou
                rw [Hml.out]
                go_wp2_with fail
                refine hK.out _ _ (⟨Hk5.out.1, Hk5.out.2.1⟩) (fun hHeld => ?_)
                clear hK
                try simp only [Act.put, List.setIfInBounds_toArray, List.set_cons_zero, List.set_cons_succ]
                refine ord_one 7 rfl (by kernel_rfl) (by rfl) (fun K hK => ?_)
                have Hh2 := Lib.hid (show (w5.alloc (.cells #[.slice p5 ml c5] 33)).cell? ⟨l, 0, none⟩ = some (.pointer (some ⟨d, 0, none⟩)) ∧ (w5.alloc (.cells #[.slice p5 ml c5] 33)).cell? ⟨l, 1, none⟩ = some (.string pre) from ⟨al_cell hHeld.1 _, al_cell hHeld.2 _⟩)
                go_wp2_with fail
                refine hK.out _ _ (Hh2.out) (fun hHeld => ?_)
                clear hK
                try simp only [Act.put, List.setIfInBounds_toArray, List.set_cons_zero, List.set_cons_succ]
                refine ord_one 8 rfl (by kernel_rfl) (by rfl) (fun K hK => ?_)
                have Hsv := Lib.hid (Hsave.out w5 HL5.out p5 c5 Hv5.out)
                go_wp2_with fail
                refine Hsv.out.mono ?_
                rintro e w7 ⟨rfl, hl7, hs7, hk7⟩
                have Hh3 := Lib.hid (HL5.out.lc.same hk7)
                have HL7 := Lib.hid hl7
                have Hs7 := Lib.hid (show Same F w1 w7 from fun k hk => (hs7 k hk).trans (Hs5.out k hk))
                clear hl7 hs7 hk7 Hsv
                go_wp2_with fail
                refine hK.out _ _ (⟨Hh3.out.1, Hh3.out.2.1⟩) (fun hHeld => ?_)
                clear hK
                try simp only [Act.put, List.setIfInBounds_toArray, List.set_cons_zero, List.set_cons_succ]
                refine ord_take 9 (v := ?v30x9) rfl (by kernel_rfl) (by kernel_rfl) (by kernel_rfl) (fun _ _ _ h => h) (by rfl) (by assumption) ?y30x9 ?_
                case y30x9 => (intro w hSw; (try dsimp only at hSw); go_simp; try with_reducible rfl)
                simp only [Act.put, List.setIfInBounds_toArray, List.set_cons_zero, List.set_cons_succ]
                refine wpAnyH_done (by kernel_rfl) ?_ _
                clear HLd Hsd Hwd HBd Hh3 HL5 Hs5
                go_wp2_with fail
                have HLd := Lib.hid (HL7.out.next (below_drew w7))
                have Hsd := Lib.hid (show Same F w1 w7.drew from Hs7.out)
                obtain ⟨hc0, hc1, -⟩ := HL7.out.lc
                refine ord_start (fun w' : World => w'.cell? ⟨l, 0, none⟩ = some (.pointer (some ⟨d, 0, none⟩)) ∧ w'.cell? ⟨l, 1, none⟩ = some (.string pre)) (n := 9) (by kernel_rfl) rfl (⟨hc0, hc1⟩) (fun hHeld => ?_)
                generalize w7.drew = W1 at *
                refine ord_take 0 (v := ?v40x0) rfl (by kernel_rfl) (by kernel_rfl) (by kernel_rfl) (fun _ _ _ h => h) (by rfl) (by assumption) ?y40x0 ?_
                case y40x0 => (intro w hSw; (try dsimp only at hSw); go_simp; try with_reducible rfl)
                simp only [Act.put, List.setIfInBounds_toArray, List.set_cons_zero, List.set_cons_succ]
                refine ord_take 1 (v := ?v40x1) rfl (by kernel_rfl) (by kernel_rfl) (by kernel_rfl) (fun _ _ _ h => h) (by rfl) (by assumption) ?y40x1 ?_
                case y40x1 => (intro w hSw; (try dsimp only at hSw); go_simp; try with_reducible rfl)
                simp only [Act.put, List.setIfInBounds_toArray, List.set_cons_zero, List.set_cons_succ]
                refine ord_take 2 (v := ?v40x2) rfl (by kernel_rfl) (by kernel_rfl) (by kernel_rfl) (fun _ _ _ h => h) (by rfl) (by assumption) ?y40x2 ?_
                case y40x2 => (intro w hSw; (try dsimp only at hSw); go_simp; try with_reducible rfl)
                simp only [Act.put, List.setIfInBounds_toArray, List.set_cons_zero, List.set_cons_succ]
                refine ord_take 3 (v := ?v40x3) rfl (by kernel_rfl) (by kernel_rfl) (by kernel_rfl) (fun _ _ _ h => h) (by rfl) (by assumption) ?y40x3 ?_
                case y40x3 => (intro w hSw; (try dsimp only at hSw); go_simp; try with_reducible rfl)
                simp only [Act.put, List.setIfInBounds_toArray, List.set_cons_zero, List.set_cons_succ]
                refine ord_take 4 (v := ?v40x4) rfl (by kernel_rfl) (by kernel_rfl) (by kernel_rfl) (fun _ _ _ h => h) (by rfl) (by assumption) ?y40x4 ?_
                case y40x4 => (intro w hSw; (try dsimp only at hSw); go_simp; try with_reducible rfl)
                simp only [Act.put, List.setIfInBounds_toArray, List.set_cons_zero, List.set_cons_succ]
                refine ord_one 5 rfl (by kernel_rfl) (by rfl) (fun K hK => ?_)
                go_wp2_with fail
                refine (logName_calls ⟨hHeld.1, hHeld.2, hps⟩).mono ?_
                rintro e w9 ⟨rfl, rfl⟩
                go_wp2_with fail
                refine hK.out _ _ (hHeld) (fun hHeld => ?_)
                clear hK
                try simp only [Act.put, List.setIfInBounds_toArray, List.set_cons_zero, List.set_cons_succ]
                refine ord_one 6 rfl (by kernel_rfl) (by rfl) (fun K hK => ?_)
                have Hh2 := Lib.hid (show (W1.alloc (.cells #[.string (sLog pre)] 9)).cell? ⟨l, 0, none⟩ = some (.pointer (some ⟨d, 0, none⟩)) ∧ (W1.alloc (.cells #[.string (sLog pre)] 9)).cell? ⟨l, 1, none⟩ = some (.string pre) from ⟨al_cell hHeld.1 _, al_cell hHeld.2 _⟩)
                go_wp2_with fail
                refine hK.out _ _ (Hh2.out) (fun hHeld => ?_)
                clear hK
                try simp only [Act.put, List.setIfInBounds_toArray, List.set_cons_zero, List.set_cons_succ]
                refine ord_one 7 rfl (by kernel_rfl) (by rfl) (fun K hK => ?_)
                go_wp2_with fail
                refine (Hrid.out W1 HLd.out).mono ?_
                rintro e w8 ⟨rfl, hl8, hs8, hk8⟩
                have Hh3 := Lib.hid (HLd.out.lc.same hk8)
                have HL8 := Lib.hid hl8
                have Hs8 := Lib.hid (show Same F w1 w8 from fun k hk => (hs8 k hk).trans (Hsd.out k hk))
                clear hl8 hs8 hk8
                go_wp2_with fail
                refine hK.out _ _ (⟨Hh3.out.1, Hh3.out.2.1⟩) (fun hHeld => ?_)
                clear hK
                try simp only [Act.put, List.setIfInBounds_toArray, List.set_cons_zero, List.set_cons_succ]
                refine ord_take 8 (v := ?v40x8) rfl (by kernel_rfl) (by kernel_rfl) (by kernel_rfl) (fun _ _ _ h => h) (by rfl) (by assumption) ?y40x8 ?_
                case y40x8 => (intro w hSw; (try dsimp only at hSw); go_simp; try with_reducible rfl)
                simp only [Act.put, List.setIfInBounds_toArray, List.set_cons_zero, List.set_cons_succ]
                refine wpAnyH_done (by kernel_rfl) ?_ _
                clear HLd Hsd Hh3
                have Hdi := Lib.hid (dies_calls HL8.out e2)
                go_wp2_with fail
                refine Hdi.out.mono ?_
                rintro e w10 ⟨rfl, hl10, hs10⟩
                have HL10 := Lib.hid hl10
                have Hs10 := Lib.hid (show Same F w1 w10 from fun k hk => (hs10 k hk).trans (Hs8.out k hk))
                clear hl10 hs10 Hdi
                have HE := Lib.hid (show WriTold w w1 l d pre F (ledWrite (nm pre) D M (m : Int) b) (.returned (.int .i64 (e2 : Int))) w10 from by
                  rw [HR.out]
                  refine ⟨rfl, ?_, Hs10.out⟩
                  have h := HL10.out
                  rwa [show ({ M with dead := M.dead || decide (e2 ≠ 0) } : LedM) = M.die from by rw [Hd.out]; unfold LedM.die; simp [He.out]] at h)
                go_wp2_with fail
                go_ret
                exact HE.out
          · have hne : ((e1 : Int) != 0) = true := by simp; omega
            have hne' : ((e1 : Int) == 0) = false := by simp; omega
            have Hly := Lib.hid (show imgOn (nm pre) D m b = (D1, e1) from by unfold imgOn; rw [HIM.out, hsv]; exact if_pos he1)
            have HR := Lib.hid (wri_err Hd.out m b (by rw [HlaE.out]; exact Hno.out) Hsh.out Hly.out he1)
            have He := Lib.hid he1
            clear hsv he1
            go_wp2_with fail
            have HLd := Lib.hid (HL4.out.next (below_drew w4))
            have Hsd := Lib.hid (show Same F w1 w4.drew from Hs4.out)
            have Hwd := Lib.hid (show WrIn w4.drew w1.heap.size v4 im from Hv4.out.keep (below_drew w4))
            have HBd := Lib.hid (show Below w1.heap.size w1 w4.drew from HB4.out.trans ((below_drew w4).mono HB4.out.size))
            obtain ⟨hc0, hc1, -⟩ := HL4.out.lc
            refine ord_start (fun w' : World => w'.cell? ⟨l, 0, none⟩ = some (.pointer (some ⟨d, 0, none⟩)) ∧ w'.cell? ⟨l, 1, none⟩ = some (.string pre)) (n := 10) (by kernel_rfl) rfl (⟨hc0, hc1⟩) (fun hHeld => ?_)
            generalize w4.drew = W1 at *
            refine ord_take 0 (v := ?v50x0) rfl (by kernel_rfl) (by kernel_rfl) (by kernel_rfl) (fun _ _ _ h => h) (by rfl) (by assumption) ?y50x0 ?_
            case y50x0 => (intro w hSw; (try dsimp only at hSw); go_simp; try with_reducible rfl)
            simp only [Act.put, List.setIfInBounds_toArray, List.set_cons_zero, List.set_cons_succ]
            refine ord_take 1 (v := ?v50x1) rfl (by kernel_rfl) (by kernel_rfl) (by kernel_rfl) (fun _ _ _ h => h) (by rfl) (by assumption) ?y50x1 ?_
            case y50x1 => (intro w hSw; (try dsimp only at hSw); go_simp; try with_reducible rfl)
            simp only [Act.put, List.setIfInBounds_toArray, List.set_cons_zero, List.set_cons_succ]
            refine ord_take 2 (v := ?v50x2) rfl (by kernel_rfl) (by kernel_rfl) (by kernel_rfl) (fun _ _ _ h => h) (by rfl) (by assumption) ?y50x2 ?_
            case y50x2 => (intro w hSw; (try dsimp only at hSw); go_simp; try with_reducible rfl)
            simp only [Act.put, List.setIfInBounds_toArray, List.set_cons_zero, List.set_cons_succ]
            refine ord_take 3 (v := ?v50x3) rfl (by kernel_rfl) (by kernel_rfl) (by kernel_rfl) (fun _ _ _ h => h) (by rfl) (by assumption) ?y50x3 ?_
            case y50x3 => (intro w hSw; (try dsimp only at hSw); go_simp; try with_reducible rfl)
            simp only [Act.put, List.setIfInBounds_toArray, List.set_cons_zero, List.set_cons_succ]
            refine ord_take 4 (v := ?v50x4) rfl (by kernel_rfl) (by kernel_rfl) (by kernel_rfl) (fun _ _ _ h => h) (by rfl) (by assumption) ?y50x4 ?_
            case y50x4 => (intro w hSw; (try dsimp only at hSw); go_simp; try with_reducible rfl)
            simp only [Act.put, List.setIfInBounds_toArray, List.set_cons_zero, List.set_cons_succ]
            refine ord_one 5 rfl (by kernel_rfl) (by rfl) (fun K hK => ?_)
            go_wp2_with fail
            refine (imgName_calls ⟨hHeld.1, hHeld.2, hps⟩).mono ?_
            rintro e w9 ⟨rfl, rfl⟩
            go_wp2_with fail
            refine hK.out _ _ (hHeld) (fun hHeld => ?_)
            clear hK
            try simp only [Act.put, List.setIfInBounds_toArray, List.set_cons_zero, List.set_cons_succ]
            refine ord_one 6 rfl (by kernel_rfl) (by rfl) (fun K hK => ?_)
            have Hou := Lib.hid (wout_calls Hwd.out (by rw [Hml.out]; have := Hil.out; omega))
            go_wp2_with fail
            refine Hou.out.mono ?_
            rintro e w5 ⟨v5, rfl, hv5, hn5, hb5⟩
            have HL5 := Lib.hid (HLd.out.next hb5)
            have Hs5 := Lib.hid (show Same F w1 w5 from fun k hk => (HLd.out.same hb5 k hk).trans (Hsd.out k hk))
            have Hk5 := Lib.hid (HLd.out.lc.same (hb5.block l HLd.out.llt))
            have Hv5 := Lib.hid (show HasB w5 v5 im from hv5.has)
            obtain ⟨p5, c5, rfl, -⟩ := own_cap0 hv5
            rw [Hml.out] at Hv5
            clear hv5 hn5 hb5 Hou
            rw [Hml.out]
            go_wp2_with fail
            refine hK.out _ _ (⟨Hk5.out.1, Hk5.out.2.1⟩) (fun hHeld => ?_)
            clear hK
            try simp only [Act.put, List.setIfInBounds_toArray, List.set_cons_zero, List.set_cons_succ]
            refine ord_one 7 rfl (by kernel_rfl) (by rfl) (fun K hK => ?_)
            have Hh2 := Lib.hid (show (w5.alloc (.cells #[.slice p5 ml c5] 33)).cell? ⟨l, 0, none⟩ = some (.pointer (some ⟨d, 0, none⟩)) ∧ (w5.alloc (.cells #[.slice p5 ml c5] 33)).cell? ⟨l, 1, none⟩ = some (.string pre) from ⟨al_cell hHeld.1 _, al_cell hHeld.2 _⟩)
            go_wp2_with fail
            refine hK.out _ _ (Hh2.out) (fun hHeld => ?_)
            clear hK
            try simp only [Act.put, List.setIfInBounds_toArray, List.set_cons_zero, List.set_cons_succ]
            refine ord_one 8 rfl (by kernel_rfl) (by rfl) (fun K hK => ?_)
            have Hsv := Lib.hid (Hsave.out w5 HL5.out p5 c5 Hv5.out)
            go_wp2_with fail
            refine Hsv.out.mono ?_
            rintro e w7 ⟨rfl, hl7, hs7, hk7⟩
            have Hh3 := Lib.hid (HL5.out.lc.same hk7)
            have HL7 := Lib.hid hl7
            have Hs7 := Lib.hid (show Same F w1 w7 from fun k hk => (hs7 k hk).trans (Hs5.out k hk))
            clear hl7 hs7 hk7 Hsv
            go_wp2_with fail
            refine hK.out _ _ (⟨Hh3.out.1, Hh3.out.2.1⟩) (fun hHeld => ?_)
            clear hK
            try simp only [Act.put, List.setIfInBounds_toArray, List.set_cons_zero, List.set_cons_succ]
            refine ord_take 9 (v := ?v50x9) rfl (by kernel_rfl) (by kernel_rfl) (by kernel_rfl) (fun _ _ _ h => h) (by rfl) (by assumption) ?y50x9 ?_
            case y50x9 => (intro w hSw; (try dsimp only at hSw); go_simp; try with_reducible rfl)
            simp only [Act.put, List.setIfInBounds_toArray, List.set_cons_zero, List.set_cons_succ]
            refine wpAnyH_done (by kernel_rfl) ?_ _
            clear HLd Hsd Hwd HBd Hh3 HL5 Hs5
            have Hdi := Lib.hid (dies_calls HL7.out e1)
            go_wp2_with fail
            refine Hdi.out.mono ?_
            rintro e w10 ⟨rfl, hl10, hs10⟩
            have HL10 := Lib.hid hl10
            have Hs10 := Lib.hid (show Same F w1 w10 from fun k hk => (hs10 k hk).trans (Hs7.out k hk))
            clear hl10 hs10 Hdi
            have HE := Lib.hid (show WriTold w w1 l d pre F (ledWrite (nm pre) D M (m : Int) b) (.returned (.int .i64 (e1 : Int))) w10 from by
              rw [HR.out]
              refine ⟨rfl, ?_, Hs10.out⟩
              have h := HL10.out
              rwa [show ({ M with dead := M.dead || decide (e1 ≠ 0) } : LedM) = M.die from by rw [Hd.out]; unfold LedM.die; simp [He.out]] at h)
            go_wp2_with fail
            go_ret
            exact HE.out
end
end Go.Proofs.Yteohbjkjfnflgaa

namespace Go.Proofs.Yteohbjkjfnflgaa
open Go.RowKit Go.Sat Go.Maps

set_option maxRecDepth 100000 in
theorem nil_append (w : World) (x : Value) : Calls Try.prog 12 #[.pointer none, x] w fun e w' => e = .returned (.tuple #[.int .i64 0, .int .i64 1]) ∧ w' = w := by
  go_enter Try.func12, Try.ntmps12
  go_wp2_with fail
  go_ret2
  exact ⟨rfl, rfl⟩

set_option maxRecDepth 100000 in
theorem nil_write (w : World) (i : Int) (x : Value) : Calls Try.prog 13 #[.pointer none, .int .i64 i, x] w fun e w' => e = .returned (.int .i64 1) ∧ w' = w := by
  go_enter Try.func13, Try.ntmps13
  go_wp2_with fail
  go_ret
  exact ⟨rfl, rfl⟩

set_option maxRecDepth 100000 in
theorem nil_drop (w : World)  : Calls Try.prog 14 #[.pointer none] w fun e w' => e = .returned (.int .i64 1) ∧ w' = w := by
  go_enter Try.func14, Try.ntmps14
  go_wp2_with fail
  go_ret
  exact ⟨rfl, rfl⟩

set_option maxRecDepth 100000 in
theorem nil_last (w : World)  : Calls Try.prog 15 #[.pointer none] w fun e w' => e = .returned (.int .i64 0) ∧ w' = w := by
  go_enter Try.func15, Try.ntmps15
  go_wp2_with fail
  go_ret
  exact ⟨rfl, rfl⟩

set_option maxRecDepth 100000 in
theorem nil_base (w : World)  : Calls Try.prog 19 #[.pointer none] w fun e w' => e = .returned (.tuple #[.int .i64 0, .slice none 0 0]) ∧ w' = w := by
  go_enter Try.func19, Try.ntmps19
  go_wp2_with fail
  go_ret2
  exact ⟨rfl, rfl⟩

set_option maxRecDepth 100000 in
theorem nil_at (w : World) (i : Int) : Calls Try.prog 18 #[.pointer none, .int .i64 i] w fun e w' => e = .returned (.tuple #[.slice none 0 0, .int .i64 7]) ∧ w' = w := by
  go_enter Try.func18, Try.ntmps18
  go_wp2_with fail
  go_ret2
  exact ⟨rfl, rfl⟩

set_option maxRecDepth 100000 in
theorem nil_open (w : World) (s : ByteArray) : Calls Try.prog 11 #[.pointer none, .string s] w fun e w' => e = .returned (.tuple #[.pointer none, .int .i64 1]) ∧ w' = w := by
  go_enter Try.func11, Try.ntmps11
  go_wp2_with fail
  go_ret2
  exact ⟨rfl, rfl⟩

section
variable {w w1 w2 wc : World} {l d : Nat} {pre : ByteArray} {D : DiskM} {M : LedM} {F : Nat → Prop}

theorem hasN_two (w : World) (s t : ByteArray) (e : TypeId) (fr : Nat × Nat) : HasN (w.alloc (.cells #[.string s, .string t] e fr)) (.slice (some ⟨w.heap.size, 0, none⟩) 2 2) [nm s, nm t] := by
  refine ⟨by simp, some ⟨w.heap.size, 0, none⟩, 2, rfl, fun e => (by cases e), fun a ha i u hu => ?_⟩
  cases ha
  rw [add_zero]
  refine cell_of (new_block w _) ?_
  have : [encStr (nm s), encStr (nm t)] = [Value.string s, Value.string t] := by rw [enc_str, enc_str, str_of, str_of]
  rw [List.map_cons, List.map_cons, List.map_nil, this] at hu
  simpa using hu

theorem led_rid2 (h : LedF w w1 l d pre D M F) (s t : ByteArray) (hs : s.size ≤ 9223372036854775807) (ht : t.size ≤ 9223372036854775807) :
    Calls Try.prog 36 #[.pointer (some ⟨d, 0, none⟩), .slice (some ⟨w1.heap.size, 0, none⟩) 2 2] (w1.alloc (.cells #[.string s, .string t] 9)) fun e w' => e = .returned (.int .i64 ((D.rid [nm s, nm t]).2 : Int)) ∧ LedF w w' l d pre (D.rid [nm s, nm t]).1 M F ∧ Same F w1 w' ∧ w'.heap[l]? = w1.heap[l]? :=
  led_diskB h fun G hS => by
    have hb := below_one w1 (.cells #[.string s, .string t] 9)
    have h1 : St w (w1.alloc (.cells #[.string s, .string t] 9)) d D (fun k => G k ∨ k = w1.heap.size) := hS.move (Chg.of_below hb) (fun _ _ h => h.elim) fun k hk => by
      rcases hk with hk | rfl
      · exact ⟨.inl hk, Nat.lt_of_lt_of_le (hS.flt hk) hb.size⟩
      · exact ⟨.inr (Nat.le_refl _), by simp⟩
    refine (removes_calls h1 (ns := [nm s, nm t]) (fun W _ hs => HasN.same (hasN_two w1 s t _ _) fun k hk => hs k (.inr (by cases hk; rfl))) (fun x hx => by
      rcases List.mem_cons.1 hx with rfl | hx
      · rw [nm_len]; exact hs
      · have : x = nm t := by simpa using hx
        rw [this, nm_len]
        exact ht) (by simp)).mono ?_
    rintro e w' ⟨rfl, hst, hsa⟩
    exact ⟨rfl, hst.less fun _ hk => .inl hk, fun k hk => (hsa k (.inl hk)).trans (hb.block k (hS.flt hk))⟩

set_option maxRecDepth 100000 in
set_option maxHeartbeats 16000000 in
theorem ldrop_calls (h : LedF w w1 l d pre D M F) :
    Calls Try.prog 14 #[.pointer (some ⟨l, 0, none⟩)] w1 (WriTold w w1 l d pre F (ledDrop (nm pre) D M)) := by
  have hps := h.psz.2
  obtain ⟨dv, ev, hcl, -⟩ := h.cells
  have k5 := cell_of hcl (i := 5) rfl
  have f5 := frozen_of hcl 5
  have H := Lib.hid h
  clear h hcl
  cases hd : M.dead with
  | true =>
    have HE := Lib.hid (show WriTold w w1 l d pre F (ledDrop (nm pre) D M) (.returned (.int .i64 9)) w1 from by unfold ledDrop; rw [if_pos hd]; exact ⟨rfl, H.out, fun _ _ => rfl⟩)
    have k5' : w1.cell? ⟨l, 5, none⟩ = some (.bool true) := by rw [← hd]; exact k5
    clear k5 hd
    go_enter Try.func14, Try.ntmps14
    go_wp2_with fail
    go_ret
    exact HE.out
  | false =>
    have k5' : w1.cell? ⟨l, 5, none⟩ = some (.bool false) := by rw [← hd]; exact k5
    have HR := Lib.hid (show ledDrop (nm pre) D M = ⟨(D.rid [logN (nm pre), imgN (nm pre)]).1, M.die, 0, (D.rid [logN (nm pre), imgN (nm pre)]).2⟩ from by unfold ledDrop; rw [if_neg (by simp [hd])])
    clear k5 hd
    have hset : LedF w (w1.setCell ⟨l, 5, none⟩ (.bool true)) l d pre D M.die F ∧ Same F w1 (w1.setCell ⟨l, 5, none⟩ (.bool true)) := by
      obtain ⟨own, dv, ev, vs, hL, hS, hn, hl⟩ := H.out
      exact LedF.turned hS hn hl (dies_set hL true) ((Chg.setCell w1 ⟨l, 5, none⟩ (.bool true)).mono fun j _ e => by rw [e]; exact hL.ol) fun _ h => .inl h
    have HL := Lib.hid hset.1
    have Hs := Lib.hid hset.2
    have Hrid := Lib.hid (fun W (h : LedF w W l d pre D M.die F) => led_rid2 h (sLog pre) (sImg pre) (by rw [size_log]; omega) (by rw [size_img]; omega))
    rw [nm_log, nm_img] at Hrid
    clear hset
    go_enter Try.func14, Try.ntmps14
    go_wp2_with fail
    generalize w1.setCell ⟨l, 5, none⟩ (.bool true) = w2 at *
    have HLd := Lib.hid (HL.out.next (below_drew w2))
    have Hsd := Lib.hid (show Same F w1 w2.drew from Hs.out)
    obtain ⟨hc0, hc1, -⟩ := HL.out.lc
    refine ord_start (fun w' : World => w'.cell? ⟨l, 0, none⟩ = some (.pointer (some ⟨d, 0, none⟩)) ∧ w'.cell? ⟨l, 1, none⟩ = some (.string pre)) (n := 11) (by kernel_rfl) rfl (⟨hc0, hc1⟩) (fun hHeld => ?_)
    generalize w2.drew = W1 at *
    refine ord_take 0 (v := ?v1x0) rfl (by kernel_rfl) (by kernel_rfl) (by kernel_rfl) (fun _ _ _ h => h) (by rfl) (by assumption) ?y1x0 ?_
    case y1x0 => (intro w hSw; (try dsimp only at hSw); go_simp; try with_reducible rfl)
    simp only [Act.put, List.setIfInBounds_toArray, List.set_cons_zero, List.set_cons_succ]
    refine ord_take 1 (v := ?v1x1) rfl (by kernel_rfl) (by kernel_rfl) (by kernel_rfl) (fun _ _ _ h => h) (by rfl) (by assumption) ?y1x1 ?_
    case y1x1 => (intro w hSw; (try dsimp only at hSw); go_simp; try with_reducible rfl)
    simp only [Act.put, List.setIfInBounds_toArray, List.set_cons_zero, List.set_cons_succ]
    refine ord_take 2 (v := ?v1x2) rfl (by kernel_rfl) (by kernel_rfl) (by kernel_rfl) (fun _ _ _ h => h) (by rfl) (by assumption) ?y1x2 ?_
    case y1x2 => (intro w hSw; (try dsimp only at hSw); go_simp; try with_reducible rfl)
    simp only [Act.put, List.setIfInBounds_toArray, List.set_cons_zero, List.set_cons_succ]
    refine ord_take 3 (v := ?v1x3) rfl (by kernel_rfl) (by kernel_rfl) (by kernel_rfl) (fun _ _ _ h => h) (by rfl) (by assumption) ?y1x3 ?_
    case y1x3 => (intro w hSw; (try dsimp only at hSw); go_simp; try with_reducible rfl)
    simp only [Act.put, List.setIfInBounds_toArray, List.set_cons_zero, List.set_cons_succ]
    refine ord_take 4 (v := ?v1x4) rfl (by kernel_rfl) (by kernel_rfl) (by kernel_rfl) (fun _ _ _ h => h) (by rfl) (by assumption) ?y1x4 ?_
    case y1x4 => (intro w hSw; (try dsimp only at hSw); go_simp; try with_reducible rfl)
    simp only [Act.put, List.setIfInBounds_toArray, List.set_cons_zero, List.set_cons_succ]
    refine ord_take 6 (v := ?v1x6) rfl (by kernel_rfl) (by kernel_rfl) (by kernel_rfl) (fun _ _ _ h => h) (by rfl) (by assumption) ?y1x6 ?_
    case y1x6 => (intro w hSw; (try dsimp only at hSw); go_simp; try with_reducible rfl)
    simp only [Act.put, List.setIfInBounds_toArray, List.set_cons_zero, List.set_cons_succ]
    refine ord_one 5 rfl (by kernel_rfl) (by rfl) (fun K hK => ?_)
    go_wp2_with fail
    refine (logName_calls ⟨hHeld.1, hHeld.2, hps⟩).mono ?_
    rintro e w9 ⟨rfl, rfl⟩
    go_wp2_with fail
    refine hK.out _ _ (hHeld) (fun hHeld => ?_)
    clear hK
    try simp only [Act.put, List.setIfInBounds_toArray, List.set_cons_zero, List.set_cons_succ]
    refine ord_one 7 rfl (by kernel_rfl) (by rfl) (fun K hK => ?_)
    go_wp2_with fail
    refine (imgName_calls ⟨hHeld.1, hHeld.2, hps⟩).mono ?_
    rintro e w9 ⟨rfl, rfl⟩
    go_wp2_with fail
    refine hK.out _ _ (hHeld) (fun hHeld => ?_)
    clear hK
    try simp only [Act.put, List.setIfInBounds_toArray, List.set_cons_zero, List.set_cons_succ]
    refine ord_one 8 rfl (by kernel_rfl) (by rfl) (fun K hK => ?_)
    have Hh2 := Lib.hid (show (W1.alloc (.cells #[.string (sLog pre), .string (sImg pre)] 9)).cell? ⟨l, 0, none⟩ = some (.pointer (some ⟨d, 0, none⟩)) ∧ (W1.alloc (.cells #[.string (sLog pre), .string (sImg pre)] 9)).cell? ⟨l, 1, none⟩ = some (.string pre) from ⟨al_cell hHeld.1 _, al_cell hHeld.2 _⟩)
    go_wp2_with fail
    refine hK.out _ _ (Hh2.out) (fun hHeld => ?_)
    clear hK
    try simp only [Act.put, List.setIfInBounds_toArray, List.set_cons_zero, List.set_cons_succ]
    refine ord_one 9 rfl (by kernel_rfl) (by rfl) (fun K hK => ?_)
    go_wp2_with fail
    refine (Hrid.out W1 HLd.out).mono ?_
    rintro e w8 ⟨rfl, hl8, hs8, hk8⟩
    have Hh3 := Lib.hid (HLd.out.lc.same hk8)
    have HE := Lib.hid (show WriTold w w1 l d pre F (ledDrop (nm pre) D M) (.returned (.int .i64 ((D.rid [logN (nm pre), imgN (nm pre)]).2 : Int))) w8 from by rw [HR.out]; exact ⟨rfl, hl8, fun k hk => (hs8 k hk).trans (Hsd.out k hk)⟩)
    clear hl8 hs8 hk8
    generalize (D.rid [logN (nm pre), imgN (nm pre)]).2 = e9 at *
    go_wp2_with fail
    refine hK.out _ _ (⟨Hh3.out.1, Hh3.out.2.1⟩) (fun hHeld => ?_)
    clear hK
    try simp only [Act.put, List.setIfInBounds_toArray, List.set_cons_zero, List.set_cons_succ]
    refine ord_take 10 (v := ?v1x10) rfl (by kernel_rfl) (by kernel_rfl) (by kernel_rfl) (fun _ _ _ h => h) (by rfl) (by assumption) ?y1x10 ?_
    case y1x10 => (intro w hSw; (try dsimp only at hSw); go_simp; try with_reducible rfl)
    simp only [Act.put, List.setIfInBounds_toArray, List.set_cons_zero, List.set_cons_succ]
    refine wpAnyH_done (by kernel_rfl) ?_ _
    go_wp2_with fail
    go_ret
    exact HE.out
end
end Go.Proofs.Yteohbjkjfnflgaa

namespace Go.Proofs.Yteohbjkjfnflgaa
open Go.RowKit Go.Sat Go.Maps

section
variable {D : DiskM} {n b : Bs}

theorem may_ok (hf : D.fuse ≠ some 0) (hn : okN n = true) : D.may [n] = 0 := by
  unfold DiskM.may
  rw [if_neg hf, if_pos (by simp [hn])]
theorem may_dead (hf : D.fuse = some 0) (ns : List Bs) : D.may ns = 9 := by
  unfold DiskM.may
  rw [if_pos hf]

theorem append_ok (hf : D.fuse ≠ some 0) (hn : okN n = true) (hroom : D.used + b.length ≤ D.room) (hc : D.files.length < 4096) :
    D.append n b = (⟨D.room, put n ⟨(D.cur n).data ++ b, (D.cur n).lasts⟩ D.files, offF D.fuse 1⟩, 0) := by
  have hfu : D.full n b = false := by
    unfold DiskM.full
    simp; omega
  unfold DiskM.append
  rw [if_neg (by rw [may_ok hf hn]; simp), if_neg (by rw [hfu]; simp)]
  rfl
theorem append_dead (hf : D.fuse = some 0) : D.append n b = (D, 9) := by
  unfold DiskM.append
  rw [if_pos (by rw [may_dead hf]; decide), may_dead hf]

theorem sync_ok {f : FileM} (hf : D.fuse ≠ some 0) (hn : okN n = true) (hg : Sat.get n D.files = some f) : D.sync [n] = (⟨D.room, put n ⟨f.data, f.data.length⟩ D.files, offF D.fuse 1⟩, 0) := by
  have h1 : DiskM.each1 DiskM.gSync D n = (⟨D.room, put n ⟨f.data, f.data.length⟩ D.files, offF D.fuse 1⟩, 0) := by
    unfold DiskM.each1
    rw [if_neg (by rw [may_ok hf hn]; simp), hg]
    rfl
  show (if (DiskM.each1 _ _ _).2 = 0 then _ else _) = _
  rw [h1, if_pos rfl]
  rfl
theorem sync_dead (hf : D.fuse = some 0) : D.sync [n] = (D, 9) := by
  have h1 : DiskM.each1 DiskM.gSync D n = (D, 9) := by
    unfold DiskM.each1
    rw [if_pos (by rw [may_dead hf]; decide), may_dead hf]
  show (if (DiskM.each1 _ _ _).2 = 0 then _ else _) = _
  rw [h1, if_neg (by simp)]

theorem remove_ok {f : FileM} (hf : D.fuse ≠ some 0) (hn : okN n = true) (hg : Sat.get n D.files = some f) : D.remove [n] = (⟨D.room, del n D.files, offF D.fuse 1⟩, 0) := by
  have h1 : DiskM.each1 DiskM.gRemove D n = (⟨D.room, del n D.files, offF D.fuse 1⟩, 0) := by
    unfold DiskM.each1
    rw [if_neg (by rw [may_ok hf hn]; simp), hg]
    rfl
  show (if (DiskM.each1 _ _ _).2 = 0 then _ else _) = _
  rw [h1, if_pos rfl]
  rfl
theorem remove_dead (hf : D.fuse = some 0) : D.remove [n] = (D, 9) := by
  have h1 : DiskM.each1 DiskM.gRemove D n = (D, 9) := by
    unfold DiskM.each1
    rw [if_pos (by rw [may_dead hf]; decide), may_dead hf]
  show (if (DiskM.each1 _ _ _).2 = 0 then _ else _) = _
  rw [h1, if_neg (by simp)]

theorem truncate_ok {f : FileM} {k : Nat} (hf : D.fuse ≠ some 0) (hn : okN n = true) (hg : Sat.get n D.files = some f) (hk : k ≤ f.data.length) :
    D.truncate n (k : Int) = (⟨D.room, put n ⟨f.data.take k, min f.lasts k⟩ D.files, offF D.fuse 1⟩, 0) := by
  unfold DiskM.truncate
  rw [if_neg (by rw [may_ok hf hn]; simp), hg]
  show (if _ then _ else _) = _
  rw [if_neg (by omega)]
  rfl
end
end Go.Proofs.Yteohbjkjfnflgaa
