/- ledger: Write. (Printed by mkled7.py.) ledger: Drop; a nil Ledger. (Printed by mkled8.py.) What a disk's steps leave where nothing stands in their way, and behind a burnt fuse (plain laws). What a disk holds that a ledger of the prefix "a" has written, and what it opens as (plain laws). What Append, Write and Crash leave on the disk of a ledger "a" (plain laws). What Write leaves on the disk of a ledger "a", and behind a crash (plain laws). Append and Write of a text that stands in the code; a row that is made a string; the contract of satrapylaw14.known: it is true. op.Decode of any bytes. The keys of a map that has none: maps.Keys(m), slices.Sorted and slices.SortedFunc of what it gives: nil. Printed by mkemp.py. An economy of nothing: Keys, Transits, Encode. econ.Encode of an economy of nothing. Printed by mkencz.py. -/
import Derived.RangeFuncGives
import Derived.Test.YtogdfkilhpkloaaGreatDoorBA
import Derived.Test.YtogdfkilhpkloaaGreatDoorBC
import Derived.Test.YtogdfkilhpkloaaGreatDoorBE
import Derived.Test.YtogdfkilhpkloaaGreatDoorBF
import Derived.Test.YtogdfkilhpkloaaGreatDoorBH
import Derived.Test.YtogdfkilhpkloaaGreatDoorBI
import Derived.Test.YtogdfkilhpkloaaGreatDoorBK
import Derived.Test.YtogdfkilhpkloaaGreatDoorIter
namespace Go.Proofs.YtogdfkilhpkloaaGreatDoor
open Go.RowKit Go.Sat Go.Maps

def WriTold (w w1 : World) (l d : Nat) (pre : ByteArray) (F : Nat → Prop) (r : Wrote) (e : Ending) (w' : World) : Prop :=
  e = .returned (.int .i64 (r.err : Int)) ∧ LedF w w' l d pre r.disk r.led F ∧ Same F w1 w'

section
variable {w w1 w2 wc : World} {l d : Nat} {pre : ByteArray} {D : DiskM} {M : LedM} {F : Nat → Prop}

theorem led_save (h : LedF w w1 l d pre D M F) (hb : Below w1.heap.size w1 wc) (s : ByteArray) (hs : s.size ≤ 9223372036854775807) {p : Option Addr} {n c : Nat} {ls : List Bs} (hx : RowsAt wc (.slice p n c) ls) (hn : n ≤ 140737488355328) (hl : ls.flatten.length ≤ 1048576) :
    Calls Tryz.prog 97 #[.pointer (some ⟨d, 0, none⟩), .string s, .slice p n c] wc fun e w' => e = .returned (.int .i64 ((D.save (nm s) ls.flatten).2 : Int)) ∧ LedF w w' l d pre (D.save (nm s) ls.flatten).1 M F ∧ Same F w1 w' ∧ w'.heap[l]? = w1.heap[l]? :=
  led_disk h hb fun _ hS => save_calls (hS.next hb) s hs hx hn hl

/-- A thing done with the disk, told from further back. -/
theorem led_diskB {P : Program} {f : FuncId} {args : Array Value} {Re : DiskM × Nat} (h : LedF w w1 l d pre D M F) (hx : ∀ G, St w w1 d D G → Calls P f args wc (Told w d G w1 Re)) :
    Calls P f args wc fun e w' => e = .returned (.int .i64 (Re.2 : Int)) ∧ LedF w w' l d pre Re.1 M F ∧ Same F w1 w' ∧ w'.heap[l]? = w1.heap[l]? := by
  obtain ⟨own, dv, ev, vs, hL, hS, hn, hl⟩ := h
  refine (hx _ hS).mono ?_
  rintro e w' ⟨rfl, hS', hs⟩
  exact ⟨rfl, ⟨own, dv, ev, vs, hL.keep (fun k hk => hs k (.inl hk)) fun k hk => hS'.flt (.inl hk), hS', hn, fun k hk => hS'.flt (.inr hk)⟩, fun k hk => hs k (.inr hk), hs l (.inl hL.ol)⟩
theorem led_rid1 (h : LedF w w1 l d pre D M F) (s : ByteArray) (hs : s.size ≤ 9223372036854775807) :
    Calls Tryz.prog 100 #[.pointer (some ⟨d, 0, none⟩), .slice (some ⟨w1.heap.size, 0, none⟩) 1 1] (w1.alloc (.cells #[.string s] 9)) fun e w' => e = .returned (.int .i64 ((D.rid [nm s]).2 : Int)) ∧ LedF w w' l d pre (D.rid [nm s]).1 M F ∧ Same F w1 w' ∧ w'.heap[l]? = w1.heap[l]? :=
  led_diskB h fun _ hS => told_rid1 hS (Below.refl _ _) s hs

theorem wri_dead (hd : M.dead = true) (i : Int) (b : Bs) : ledWrite (nm pre) D M i b = ⟨D, M, 0, 9⟩ := by unfold ledWrite; rw [if_pos hd]
theorem wri_arg (hd : M.dead = false) (i : Int) (b : Bs) (h : i < (M.last : Int) ∨ 1099511627776 < i) : ledWrite (nm pre) D M i b = ⟨D, M, 0, 1⟩ := by unfold ledWrite; rw [if_neg (by simp [hd]), if_pos h]
theorem wri_long (hd : M.dead = false) (i : Int) (b : Bs) (h : ¬ (i < (M.last : Int) ∨ 1099511627776 < i)) (h2 : 524288 < b.length) : ledWrite (nm pre) D M i b = ⟨D, M, 0, 5⟩ := by unfold ledWrite; rw [if_neg (by simp [hd]), if_neg h, if_pos h2]
theorem wri_err (hd : M.dead = false) (m : Nat) (b : Bs) (h : ¬ ((m : Int) < (M.last : Int) ∨ 1099511627776 < (m : Int))) (h2 : ¬ 524288 < b.length) {r : DiskM × Nat} (hr : imgOn (nm pre) D m b = r) (h1 : r.2 ≠ 0) : ledWrite (nm pre) D M (m : Int) b = ⟨r.1, M.die, 0, r.2⟩ := by
  unfold ledWrite
  rw [if_neg (by simp [hd]), if_neg h, if_neg h2, Int.toNat_natCast, hr, if_pos h1]
theorem wri_ok (hd : M.dead = false) (m : Nat) (b : Bs) (h : ¬ ((m : Int) < (M.last : Int) ∨ 1099511627776 < (m : Int))) (h2 : ¬ 524288 < b.length) {r : DiskM × Nat} (hr : imgOn (nm pre) D m b = r) (h1 : r.2 = 0) : ledWrite (nm pre) D M (m : Int) b = ⟨r.1, ⟨m, b, [], M.dead⟩, 0, 0⟩ := by
  unfold ledWrite
  rw [if_neg (by simp [hd]), if_neg h, if_neg h2, Int.toNat_natCast, hr, if_neg (by simpa using h1)]

/-- The image stands for all. -/
theorem led_reset {own : Nat → Prop} {dv ev : Value} {vs : List Value} (hL : LedIn w1 l d pre own M dv ev vs) {m : Nat} {v : Value} {b : Bs} (hv : OwnB w1 5 v b) (hvo : ∀ k, v.ownBlock = some k → ¬ own k) (hm : m ≤ 1099511627776) (hb : b.length ≤ 1073741824) :
    LedIn (((w1.setCell ⟨l, 2, none⟩ (.int .i64 (m : Int))).setCell ⟨l, 3, none⟩ v).setCell ⟨l, 4, none⟩ (.slice none 0 0)) l d pre (fun k => own k ∨ v.ownBlock = some k) ⟨m, b, [], M.dead⟩ v (.slice none 0 0) [] := by
  have hne : ∀ k, v.ownBlock = some k → k ≠ l := fun k hk e => hvo k hk (e ▸ hL.ol)
  have hk : ∀ k, k ≠ l → (((w1.setCell ⟨l, 2, none⟩ (.int .i64 (m : Int))).setCell ⟨l, 3, none⟩ v).setCell ⟨l, 4, none⟩ (.slice none 0 0)).heap[k]? = w1.heap[k]? := fun k e => (set_other _ e).trans ((set_other _ e).trans (set_other _ e))
  refine ⟨?_, OwnR.keep hv fun k h => hk k (hne k h), OwnR.nil _ _ _, fun i u b hu => (by simp at hu), .inl hL.ol, fun k h => ⟨.inr h, hne k h, fun e => by cases e⟩, fun k h => (by cases h), fun u hu => (by simp at hu), fun k h => ?_, ?_, hL.psz, hb, fun b hb => (by cases hb)⟩
  · have h1 := set_block hL.cells 2 (.int .i64 (m : Int))
    have h2 := set_block h1 3 v
    have h3 := set_block h2 4 (.slice none 0 0)
    simpa using h3
  · have : k < w1.heap.size := h.elim (hL.olt k) fun h => OwnR.lt hv h
    simpa [World.setCell] using this
  · show m + 0 ≤ _
    omega

set_option maxRecDepth 100000 in
set_option maxHeartbeats 16000000 in
theorem lwrite_calls (h : LedF w w1 l d pre D M F) (i : Int) (hir : -9223372036854775808 ≤ i ∧ i ≤ 9223372036854775807) {pp : Option Addr} {n c : Nat} {b : Bs} (hx : ∀ W, Below w.heap.size w W → Same F w1 W → HasB W (.slice pp n c) b) (hb47 : b.length ≤ 140737488355328) :
    Calls Tryz.prog 45 #[.pointer (some ⟨l, 0, none⟩), .int .i64 i, .slice pp n c] w1 (WriTold w w1 l d pre F (ledWrite (nm pre) D M i b)) := by
  have hn : b.length = n := by obtain ⟨_, _, e⟩ := (hx w1 h.bel fun _ _ => rfl).slice; simp only [Value.slice.injEq] at e; exact e.2.1.symm
  have hps := h.psz.2
  have hlast40 := h.last
  obtain ⟨dv, ev, hcl, -⟩ := h.cells
  have k5 := cell_of hcl (i := 5) rfl
  have H := Lib.hid h
  have Hx := Lib.hid hx
  have Hla := Lib.hid (last_calls h)
  clear h hx hcl
  cases hd : M.dead with
  | true =>
    have HE := Lib.hid (show WriTold w w1 l d pre F (ledWrite (nm pre) D M i b) (.returned (.int .i64 9)) w1 from by rw [wri_dead hd]; exact ⟨rfl, H.out, fun _ _ => rfl⟩)
    have k5' : w1.cell? ⟨l, 5, none⟩ = some (.bool true) := by rw [← hd]; exact k5
    clear k5 hd
    go_enter Tryz.func45, Tryz.ntmps45
    go_wp2_with fail
    go_ret
    exact HE.out
  | false =>
    have k5' : w1.cell? ⟨l, 5, none⟩ = some (.bool false) := by rw [← hd]; exact k5
    have Hd := Lib.hid hd
    clear k5 hd
    by_cases harg : i < (M.last : Int) ∨ 1099511627776 < i
    · have HE := Lib.hid (fun q => show WriTold w w1 l d pre F (ledWrite (nm pre) D M i b) (.returned (.int .i64 1)) (w1.drewN q) from by rw [wri_arg Hd.out _ _ harg]; exact ⟨rfl, H.out.next ⟨rfl, rfl, rfl, Nat.le_refl _, fun _ _ => rfl⟩, fun _ _ => rfl⟩)
      generalize M.last = la at *
      by_cases h1 : i < (la : Int)
      · clear harg
        go_enter Tryz.func45, Tryz.ntmps45
        go_wp2_with fail
        refine Hla.out.mono ?_
        rintro e w2 ⟨rfl, q, rfl⟩
        go_wp2_with fail
        go_ret
        exact HE.out q
      · have h2 : 1099511627776 < i := harg.resolve_left h1
        clear harg
        go_enter Tryz.func45, Tryz.ntmps45
        go_wp2_with fail
        refine Hla.out.mono ?_
        rintro e w2 ⟨rfl, q, rfl⟩
        go_wp2_with fail
        go_ret
        exact HE.out q
    · obtain ⟨m, rfl⟩ : ∃ m : Nat, i = (m : Int) := ⟨i.toNat, by omega⟩
      by_cases hlong : 524288 < n
      · have HE := Lib.hid (fun q => show WriTold w w1 l d pre F (ledWrite (nm pre) D M (m : Int) b) (.returned (.int .i64 5)) (w1.drewN q) from by rw [wri_long Hd.out _ _ harg (by omega)]; exact ⟨rfl, H.out.next ⟨rfl, rfl, rfl, Nat.le_refl _, fun _ _ => rfl⟩, fun _ _ => rfl⟩)
        have h1 : (M.last : Int) ≤ (m : Int) := by omega
        have h2 : (m : Int) ≤ 1099511627776 := by omega
        generalize M.last = la at *
        clear harg
        go_enter Tryz.func45, Tryz.ntmps45
        go_wp2_with fail
        refine Hla.out.mono ?_
        rintro e w2 ⟨rfl, q, rfl⟩
        go_wp2_with fail
        go_ret
        exact HE.out q
      · have Hno := Lib.hid harg
        have Hsh := Lib.hid (show ¬ 524288 < b.length by omega)
        have h1 : (M.last : Int) ≤ (m : Int) := by omega
        have h2 : (m : Int) ≤ 1099511627776 := by omega
        have Hm40 := Lib.hid (show m ≤ 1099511627776 by omega)
        have Hb30 := Lib.hid (show b.length ≤ 524288 by omega)
        have Hps := Lib.hid hps
        clear harg
        generalize hlaE : M.last = la at *
        have HlaE := Lib.hid hlaE
        clear hlaE
        go_enter Tryz.func45, Tryz.ntmps45
        go_wp2_with fail
        refine Hla.out.mono ?_
        rintro e w2 ⟨rfl, q, rfl⟩
        go_wp2_with fail
        have Hw2 := Lib.hid (show WrIn ((w1.drewN q).alloc (.cells #[.slice none 0 0] 160)) w1.heap.size (.slice none 0 0) [] from wr_fresh (w1.drewN q) (0, 0) rfl)
        have HB2 := Lib.hid (show Below w1.heap.size w1 ((w1.drewN q).alloc (.cells #[.slice none 0 0] 160)) from (show Below w1.heap.size w1 (w1.drewN q) from ⟨rfl, rfl, rfl, Nat.le_refl _, fun _ _ => rfl⟩).alloc (Nat.le_refl _) _)
        have hsz2 : ((w1.drewN q).alloc (.cells #[.slice none 0 0] 160)).heap.size = w1.heap.size + 1 := by simp
        have Hn1 := Lib.hid (wnum_one Hw2.out (m : Int) ⟨by omega, by omega⟩ (by simp) (w1.heap.size + 1) 1 hsz2.symm (0, 0))
        have Hba := Lib.hid (show Below w1.heap.size w1 (((w1.drewN q).alloc (.cells #[.slice none 0 0] 160)).alloc (.cells #[.int .i64 (m : Int)] 3)) from HB2.out.alloc HB2.out.size _)
        clear hsz2
        generalize (w1.drewN q).alloc (.cells #[.slice none 0 0] 160) = W2 at *
        refine Hn1.out.mono ?_
        rintro e w3 ⟨rfl, v3, hv3, hc3, hn3⟩
        have HB3 := Lib.hid (wr_below Hba.out (Nat.le_refl _) (fun j hj => by cases hj) hc3 hn3)
        have Hby := Lib.hid (wbytes_one hv3 (pv := pp) (m := n) (cv := c) (x := b) (fun W hc => by
          have hbW : Below w1.heap.size w1 W := HB3.out.1.trans (hc.below HB3.out.1.size fun j hj hs => by
            rcases hs with rfl | hs
            · omega
            · have := HB3.out.2 j hs
              omega)
          exact Hx.out W (H.out.bel.trans (hbW.mono H.out.bel.size)) fun k hk => hbW.block k (H.out.flt hk)) (by
          have h1 := numI_len (m : Int)
          rw [List.nil_append]
          have := Hb30.out
          omega) w3.heap.size 1 rfl (0, 0))
        have Hbb := Lib.hid (show Below w1.heap.size w1 (w3.alloc (.cells #[.slice pp n c] 39)) from HB3.out.1.alloc HB3.out.1.size _)
        clear hv3 hc3 hn3 Hn1
        go_wp2_with fail
        refine Hby.out.mono ?_
        rintro e w4 ⟨rfl, v4, hv4, hc4, hn4⟩
        have HB4 := Lib.hid (wr_below Hbb.out (Nat.le_refl _) HB3.out.2 hc4 hn4).1
        have hi4 : [] ++ numI (m : Int) ++ rowB b = imgB m b := by
          rw [List.nil_append]
          unfold imgB
          rw [numI_nat (by have := Hm40.out; omega)]
        rw [hi4] at hv4
        have Hil := Lib.hid (show (imgB m b).length ≤ 540000 from by
          unfold imgB rowB
          have h1 := numB_nine (n := m) (by have := Hm40.out; omega)
          have h2 := numB_nine (n := b.length) (by have := Hb30.out; omega)
          have h3 := Hb30.out
          rw [List.length_append, List.length_append]
          omega)
        have Hv4 := Lib.hid hv4
        have HL4 := Lib.hid (H.out.next HB4.out)
        have Hs4 := Lib.hid (H.out.same HB4.out)
        clear hv4 hc4 hn4 hi4 Hby
        generalize hIM : imgB m b = im at *
        have HIM := Lib.hid hIM
        clear hIM
        generalize hml : im.length = ml at *
        have Hml := Lib.hid hml
        clear hml
        cases hsv : D.save (imgN (nm pre)) im with
        | mk D1 e1 =>
          have Hsave := Lib.hid (show ∀ W, LedF w W l d pre D M F → ∀ p c, HasB W (.slice p ml c) im → Calls Tryz.prog 97 #[.pointer (some ⟨d, 0, none⟩), .string (sImg pre), .slice (some ⟨W.heap.size, 0, none⟩) 1 1] (W.alloc (.cells #[.slice p ml c] 39)) fun e w' => e = .returned (.int .i64 (e1 : Int)) ∧ LedF w w' l d pre D1 M F ∧ Same F W w' ∧ w'.heap[l]? = W.heap[l]? from fun W h p c hf => by
            have hr := rows_one hf 39 (0, 0) W.heap.size 1 rfl (Nat.le_refl _)
            have := led_save h (below_one W (.cells #[.slice p ml c] 39)) (sImg pre) (by rw [size_img]; omega) hr (by decide) (by rw [List.flatten_cons, List.flatten_nil, List.append_nil, Hml.out]; have := Hil.out; omega)
            rwa [nm_img, show [im].flatten = im from by rw [List.flatten_cons, List.flatten_nil, List.append_nil], hsv] at this)
          by_cases he1 : e1 = 0
          · subst he1
            cases hri : D1.rid [logN (nm pre)] with
            | mk D2 e2 =>
              have Hly := Lib.hid (show imgOn (nm pre) D m b = (D2, e2) from by unfold imgOn; rw [HIM.out, hsv]; rw [if_neg (by simp)]; exact hri)
              have Hrid := Lib.hid (show ∀ W, LedF w W l d pre D1 M F → Calls Tryz.prog 100 #[.pointer (some ⟨d, 0, none⟩), .slice (some ⟨W.heap.size, 0, none⟩) 1 1] (W.alloc (.cells #[.string (sLog pre)] 9)) fun e w' => e = .returned (.int .i64 (e2 : Int)) ∧ LedF w w' l d pre D2 M F ∧ Same F W w' ∧ w'.heap[l]? = W.heap[l]? from fun W h => by
                have := led_rid1 h (sLog pre) (by rw [size_log]; omega)
                rwa [nm_log, hri] at this)
              clear hsv hri
              by_cases he2 : e2 = 0
              · subst he2
                have HR := Lib.hid (wri_ok Hd.out m b (by rw [HlaE.out]; exact Hno.out) Hsh.out Hly.out rfl)
                go_wp2_with fail
                have HLd := Lib.hid (HL4.out.next (below_drew w4))
                have Hsd := Lib.hid (show Same F w1 w4.drew from Hs4.out)
                have Hwd := Lib.hid (show WrIn w4.drew w1.heap.size v4 im from Hv4.out.keep (below_drew w4))
                have HBd := Lib.hid (show Below w1.heap.size w1 w4.drew from HB4.out.trans ((below_drew w4).mono HB4.out.size))
                obtain ⟨hc0, hc1, -⟩ := HL4.out.lc
                refine ord_start (fun w' : World => w'.cell? ⟨l, 0, none⟩ = some (.pointer (some ⟨d, 0, none⟩)) ∧ w'.cell? ⟨l, 1, none⟩ = some (.string pre)) (n := 10) (by kernel_rfl) rfl (⟨hc0, hc1⟩) (fun hHeld => ?_)
                generalize w4.drew = W1 at *
                refine Pl [0,1,2,3,4] ?_
                iterate 5 (refine Pc rfl ?_;simp only [Act.put, uA, uB, uC])
                refine Pn ?_
                refine ord_one 5 rfl (by kernel_rfl) (by rfl) (fun K hK => ?_)
                go_wp2_with fail
                refine (imgName_calls ⟨hHeld.1, hHeld.2, hps⟩).mono ?_
                rintro e w9 ⟨rfl, rfl⟩
                go_wp2_with fail
                refine hK.out _ _ (hHeld) (fun hHeld => ?_)
                clear hK
                try simp only [Act.put, List.setIfInBounds_toArray, List.set_cons_zero, List.set_cons_succ]
                refine ord_one 6 rfl (by kernel_rfl) (by rfl) (fun K hK => ?_)
                have Hou := Lib.hid (wout_calls Hwd.out (by rw [Hml.out]; have := Hil.out; omega))
                go_wp2_with fail
                refine Hou.out.mono ?_
                rintro e w5 ⟨v5, rfl, hv5, hn5, hb5⟩
                have HL5 := Lib.hid (HLd.out.next hb5)
                have Hs5 := Lib.hid (show Same F w1 w5 from fun k hk => (HLd.out.same hb5 k hk).trans (Hsd.out k hk))
                have Hk5 := Lib.hid (HLd.out.lc.same (hb5.block l HLd.out.llt))
                have Hv5 := Lib.hid (show HasB w5 v5 im from hv5.has)
                obtain ⟨p5, c5, rfl, -⟩ := own_cap0 hv5
                rw [Hml.out] at Hv5
                clear hv5 hn5 hb5 Hou
                rw [Hml.out]
                go_wp2_with fail
                refine hK.out _ _ (⟨Hk5.out.1, Hk5.out.2.1⟩) (fun hHeld => ?_)
                clear hK
                try simp only [Act.put, List.setIfInBounds_toArray, List.set_cons_zero, List.set_cons_succ]
                refine ord_one 7 rfl (by kernel_rfl) (by rfl) (fun K hK => ?_)
                have Hh2 := Lib.hid (show (w5.alloc (.cells #[.slice p5 ml c5] 39)).cell? ⟨l, 0, none⟩ = some (.pointer (some ⟨d, 0, none⟩)) ∧ (w5.alloc (.cells #[.slice p5 ml c5] 39)).cell? ⟨l, 1, none⟩ = some (.string pre) from ⟨al_cell hHeld.1 _, al_cell hHeld.2 _⟩)
                go_wp2_with fail
                refine hK.out _ _ (Hh2.out) (fun hHeld => ?_)
                clear hK
                try simp only [Act.put, List.setIfInBounds_toArray, List.set_cons_zero, List.set_cons_succ]
                refine ord_one 8 rfl (by kernel_rfl) (by rfl) (fun K hK => ?_)
                have Hsv := Lib.hid (Hsave.out w5 HL5.out p5 c5 Hv5.out)
                go_wp2_with fail
                refine Hsv.out.mono ?_
                rintro e w7 ⟨rfl, hl7, hs7, hk7⟩
                have Hh3 := Lib.hid (HL5.out.lc.same hk7)
                have HL7 := Lib.hid hl7
                have Hs7 := Lib.hid (show Same F w1 w7 from fun k hk => (hs7 k hk).trans (Hs5.out k hk))
                clear hl7 hs7 hk7 Hsv
                go_wp2_with fail
                refine hK.out _ _ (⟨Hh3.out.1, Hh3.out.2.1⟩) (fun hHeld => ?_)
                clear hK
                try simp only [Act.put, List.setIfInBounds_toArray, List.set_cons_zero, List.set_cons_succ]
                refine ord_take 9 (v := ?v10x9) rfl (by kernel_rfl) (by kernel_rfl) (by kernel_rfl) (fun _ _ _ h => h) (by rfl) (by assumption) ?y10x9 ?_
                case y10x9 => (intro w hSw; (try dsimp only at hSw); go_simp; try with_reducible rfl)
                simp only [Act.put, List.setIfInBounds_toArray, List.set_cons_zero, List.set_cons_succ]
                refine wpAnyH_done (by kernel_rfl) ?_ _
                clear HLd Hsd Hwd HBd Hh3 HL5 Hs5
                go_wp2_with fail
                have HLd := Lib.hid (HL7.out.next (below_drew w7))
                have Hsd := Lib.hid (show Same F w1 w7.drew from Hs7.out)
                obtain ⟨hc0, hc1, -⟩ := HL7.out.lc
                refine ord_start (fun w' : World => w'.cell? ⟨l, 0, none⟩ = some (.pointer (some ⟨d, 0, none⟩)) ∧ w'.cell? ⟨l, 1, none⟩ = some (.string pre)) (n := 9) (by kernel_rfl) rfl (⟨hc0, hc1⟩) (fun hHeld => ?_)
                generalize w7.drew = W1 at *
                refine Pl [0,1,2,3,4] ?_
                iterate 5 (refine Pc rfl ?_;simp only [Act.put, uA, uB, uC])
                refine Pn ?_
                refine ord_one 5 rfl (by kernel_rfl) (by rfl) (fun K hK => ?_)
                go_wp2_with fail
                refine (logName_calls ⟨hHeld.1, hHeld.2, hps⟩).mono ?_
                rintro e w9 ⟨rfl, rfl⟩
                go_wp2_with fail
                refine hK.out _ _ (hHeld) (fun hHeld => ?_)
                clear hK
                try simp only [Act.put, List.setIfInBounds_toArray, List.set_cons_zero, List.set_cons_succ]
                refine ord_one 6 rfl (by kernel_rfl) (by rfl) (fun K hK => ?_)
                have Hh2 := Lib.hid (show (W1.alloc (.cells #[.string (sLog pre)] 9)).cell? ⟨l, 0, none⟩ = some (.pointer (some ⟨d, 0, none⟩)) ∧ (W1.alloc (.cells #[.string (sLog pre)] 9)).cell? ⟨l, 1, none⟩ = some (.string pre) from ⟨al_cell hHeld.1 _, al_cell hHeld.2 _⟩)
                go_wp2_with fail
                refine hK.out _ _ (Hh2.out) (fun hHeld => ?_)
                clear hK
                try simp only [Act.put, List.setIfInBounds_toArray, List.set_cons_zero, List.set_cons_succ]
                refine ord_one 7 rfl (by kernel_rfl) (by rfl) (fun K hK => ?_)
                go_wp2_with fail
                refine (Hrid.out W1 HLd.out).mono ?_
                rintro e w8 ⟨rfl, hl8, hs8, hk8⟩
                have Hh3 := Lib.hid (HLd.out.lc.same hk8)
                have HL8 := Lib.hid hl8
                have Hs8 := Lib.hid (show Same F w1 w8 from fun k hk => (hs8 k hk).trans (Hsd.out k hk))
                clear hl8 hs8 hk8
                go_wp2_with fail
                refine hK.out _ _ (⟨Hh3.out.1, Hh3.out.2.1⟩) (fun hHeld => ?_)
                clear hK
                try simp only [Act.put, List.setIfInBounds_toArray, List.set_cons_zero, List.set_cons_succ]
                refine ord_take 8 (v := ?v20x8) rfl (by kernel_rfl) (by kernel_rfl) (by kernel_rfl) (fun _ _ _ h => h) (by rfl) (by assumption) ?y20x8 ?_
                case y20x8 => (intro w hSw; (try dsimp only at hSw); go_simp; try with_reducible rfl)
                simp only [Act.put, List.setIfInBounds_toArray, List.set_cons_zero, List.set_cons_succ]
                refine wpAnyH_done (by kernel_rfl) ?_ _
                clear HLd Hsd Hh3
                have Hdi := Lib.hid (dies_calls HL8.out 0)
                go_wp2_with fail
                refine Hdi.out.mono ?_
                rintro e w10 ⟨rfl, hl10, hs10⟩
                have HL10 := Lib.hid hl10
                have Hs10 := Lib.hid (show Same F w1 w10 from fun k hk => (hs10 k hk).trans (Hs8.out k hk))
                clear hl10 hs10 Hdi
                have HLm := Lib.hid (show LedF w w10 l d pre D2 M F from by
                  have h := HL10.out
                  have e : ({ M with dead := M.dead || decide ((0 : Nat) ≠ 0) } : LedM) = M := by
                    rw [Hd.out]
                    show (⟨M.base, M.data, M.entries, false⟩ : LedM) = M
                    rw [← Hd.out]
                  rwa [e] at h)
                have Hcl := Lib.hid (clone_calls (Hx.out w10 HLm.out.bel Hs10.out) (by have := Hb30.out; omega))
                clear HL10
                go_wp2_with fail
                refine Hcl.out.mono ?_
                rintro e w11 ⟨u, rfl, hu, hun, hb11⟩
                obtain ⟨own, dv, ev, vs, hL, hS, hn', hl⟩ := HLm.out
                have hL11 := hL.below hb11
                have hfin := led_reset hL11 hu (fun k hk ho => by have h1 := hun k hk; have h2 := hL.olt k ho; omega) Hm40.out (by have := Hb30.out; omega)
                have hch : Chg own w10 (((w11.setCell ⟨l, 2, none⟩ (.int .i64 (m : Int))).setCell ⟨l, 3, none⟩ u).setCell ⟨l, 4, none⟩ (.slice none 0 0)) := ((((Chg.of_below hb11).mono fun _ _ h => h.elim).trans (Chg.setCell w11 ⟨l, 2, none⟩ _) fun k _ e => by rw [e]; exact hL.ol).trans (Chg.setCell _ ⟨l, 3, none⟩ _) fun k _ e => by rw [e]; exact hL.ol).trans (Chg.setCell _ ⟨l, 4, none⟩ _) fun k _ e => by rw [e]; exact hL.ol
                have hQ := LedF.turned hS hn' hl hfin hch fun k hk => hk.imp id (hun k)
                have HE := Lib.hid (show WriTold w w1 l d pre F (ledWrite (nm pre) D M (m : Int) b) (.returned (.int .i64 0)) (((w11.setCell ⟨l, 2, none⟩ (.int .i64 (m : Int))).setCell ⟨l, 3, none⟩ u).setCell ⟨l, 4, none⟩ (.slice none 0 0)) from by
                  rw [HR.out]
                  exact ⟨rfl, hQ.1, fun k hk => (hQ.2 k hk).trans (Hs10.out k hk)⟩)
                have k2 := hL11.c2
                have k3 := hL11.c3
                have k4 := hL11.c4
                have f2 := hL11.fr 2
                have f3 := hL11.fr 3
                have f4 := hL11.fr 4
                obtain ⟨pu, cu, rfl, -⟩ := own_cap0 hu
                obtain ⟨pd, cd, rfl, -⟩ := own_cap0 hL.data
                obtain ⟨pe, ce, rfl⟩ := OwnR.shape hL.row
                rw [hn] at HE ⊢
                clear hL hS hn' hl hL11 hfin hch hQ hu hun hb11 Hcl
                go_wp2_with fail
                go_ret
                exact HE.out
              · have hne : ((e2 : Int) != 0) = true := by simp; omega
                have HR := Lib.hid (wri_err Hd.out m b (by rw [HlaE.out]; exact Hno.out) Hsh.out Hly.out he2)
                have He := Lib.hid he2
                have hne2 : ((e2 : Int) == 0) = false := by simp; omega
                clear he2
                go_wp2_with fail
                have HLd := Lib.hid (HL4.out.next (below_drew w4))
                have Hsd := Lib.hid (show Same F w1 w4.drew from Hs4.out)
                have Hwd := Lib.hid (show WrIn w4.drew w1.heap.size v4 im from Hv4.out.keep (below_drew w4))
                have HBd := Lib.hid (show Below w1.heap.size w1 w4.drew from HB4.out.trans ((below_drew w4).mono HB4.out.size))
                obtain ⟨hc0, hc1, -⟩ := HL4.out.lc
                refine ord_start (fun w' : World => w'.cell? ⟨l, 0, none⟩ = some (.pointer (some ⟨d, 0, none⟩)) ∧ w'.cell? ⟨l, 1, none⟩ = some (.string pre)) (n := 10) (by kernel_rfl) rfl (⟨hc0, hc1⟩) (fun hHeld => ?_)
                generalize w4.drew = W1 at *
                refine Pl [0,1,2,3,4] ?_
                iterate 5 (refine Pc rfl ?_;simp only [Act.put, uA, uB, uC])
                refine Pn ?_
                refine ord_one 5 rfl (by kernel_rfl) (by rfl) (fun K hK => ?_)
                go_wp2_with fail
                refine (imgName_calls ⟨hHeld.1, hHeld.2, hps⟩).mono ?_
                rintro e w9 ⟨rfl, rfl⟩
                go_wp2_with fail
                refine hK.out _ _ (hHeld) (fun hHeld => ?_)
                clear hK
                try simp only [Act.put, List.setIfInBounds_toArray, List.set_cons_zero, List.set_cons_succ]
                refine ord_one 6 rfl (by kernel_rfl) (by rfl) (fun K hK => ?_)
                have Hou := Lib.hid (wout_calls Hwd.out (by rw [Hml.out]; have := Hil.out; omega))
                go_wp2_with fail
                refine Hou.out.mono ?_
                rintro e w5 ⟨v5, rfl, hv5, hn5, hb5⟩
                have HL5 := Lib.hid (HLd.out.next hb5)
                have Hs5 := Lib.hid (show Same F w1 w5 from fun k hk => (HLd.out.same hb5 k hk).trans (Hsd.out k hk))
                have Hk5 := Lib.hid (HLd.out.lc.same (hb5.block l HLd.out.llt))
                have Hv5 := Lib.hid (show HasB w5 v5 im from hv5.has)
                obtain ⟨p5, c5, rfl, -⟩ := own_cap0 hv5
                rw [Hml.out] at Hv5
                clear hv5 hn5 hb5 Hou
                rw [Hml.out]
                go_wp2_with fail
                refine hK.out _ _ (⟨Hk5.out.1, Hk5.out.2.1⟩) (fun hHeld => ?_)
                clear hK
                try simp only [Act.put, List.setIfInBounds_toArray, List.set_cons_zero, List.set_cons_succ]
                refine ord_one 7 rfl (by kernel_rfl) (by rfl) (fun K hK => ?_)
                have Hh2 := Lib.hid (show (w5.alloc (.cells #[.slice p5 ml c5] 39)).cell? ⟨l, 0, none⟩ = some (.pointer (some ⟨d, 0, none⟩)) ∧ (w5.alloc (.cells #[.slice p5 ml c5] 39)).cell? ⟨l, 1, none⟩ = some (.string pre) from ⟨al_cell hHeld.1 _, al_cell hHeld.2 _⟩)
                go_wp2_with fail
                refine hK.out _ _ (Hh2.out) (fun hHeld => ?_)
                clear hK
                try simp only [Act.put, List.setIfInBounds_toArray, List.set_cons_zero, List.set_cons_succ]
                refine ord_one 8 rfl (by kernel_rfl) (by rfl) (fun K hK => ?_)
                have Hsv := Lib.hid (Hsave.out w5 HL5.out p5 c5 Hv5.out)
                go_wp2_with fail
                refine Hsv.out.mono ?_
                rintro e w7 ⟨rfl, hl7, hs7, hk7⟩
                have Hh3 := Lib.hid (HL5.out.lc.same hk7)
                have HL7 := Lib.hid hl7
                have Hs7 := Lib.hid (show Same F w1 w7 from fun k hk => (hs7 k hk).trans (Hs5.out k hk))
                clear hl7 hs7 hk7 Hsv
                go_wp2_with fail
                refine hK.out _ _ (⟨Hh3.out.1, Hh3.out.2.1⟩) (fun hHeld => ?_)
                clear hK
                try simp only [Act.put, List.setIfInBounds_toArray, List.set_cons_zero, List.set_cons_succ]
                refine ord_take 9 (v := ?v30x9) rfl (by kernel_rfl) (by kernel_rfl) (by kernel_rfl) (fun _ _ _ h => h) (by rfl) (by assumption) ?y30x9 ?_
                case y30x9 => (intro w hSw; (try dsimp only at hSw); go_simp; try with_reducible rfl)
                simp only [Act.put, List.setIfInBounds_toArray, List.set_cons_zero, List.set_cons_succ]
                refine wpAnyH_done (by kernel_rfl) ?_ _
                clear HLd Hsd Hwd HBd Hh3 HL5 Hs5
                go_wp2_with fail
                have HLd := Lib.hid (HL7.out.next (below_drew w7))
                have Hsd := Lib.hid (show Same F w1 w7.drew from Hs7.out)
                obtain ⟨hc0, hc1, -⟩ := HL7.out.lc
                refine ord_start (fun w' : World => w'.cell? ⟨l, 0, none⟩ = some (.pointer (some ⟨d, 0, none⟩)) ∧ w'.cell? ⟨l, 1, none⟩ = some (.string pre)) (n := 9) (by kernel_rfl) rfl (⟨hc0, hc1⟩) (fun hHeld => ?_)
                generalize w7.drew = W1 at *
                refine Pl [0,1,2,3,4] ?_
                iterate 5 (refine Pc rfl ?_;simp only [Act.put, uA, uB, uC])
                refine Pn ?_
                refine ord_one 5 rfl (by kernel_rfl) (by rfl) (fun K hK => ?_)
                go_wp2_with fail
                refine (logName_calls ⟨hHeld.1, hHeld.2, hps⟩).mono ?_
                rintro e w9 ⟨rfl, rfl⟩
                go_wp2_with fail
                refine hK.out _ _ (hHeld) (fun hHeld => ?_)
                clear hK
                try simp only [Act.put, List.setIfInBounds_toArray, List.set_cons_zero, List.set_cons_succ]
                refine ord_one 6 rfl (by kernel_rfl) (by rfl) (fun K hK => ?_)
                have Hh2 := Lib.hid (show (W1.alloc (.cells #[.string (sLog pre)] 9)).cell? ⟨l, 0, none⟩ = some (.pointer (some ⟨d, 0, none⟩)) ∧ (W1.alloc (.cells #[.string (sLog pre)] 9)).cell? ⟨l, 1, none⟩ = some (.string pre) from ⟨al_cell hHeld.1 _, al_cell hHeld.2 _⟩)
                go_wp2_with fail
                refine hK.out _ _ (Hh2.out) (fun hHeld => ?_)
                clear hK
                try simp only [Act.put, List.setIfInBounds_toArray, List.set_cons_zero, List.set_cons_succ]
                refine ord_one 7 rfl (by kernel_rfl) (by rfl) (fun K hK => ?_)
                go_wp2_with fail
                refine (Hrid.out W1 HLd.out).mono ?_
                rintro e w8 ⟨rfl, hl8, hs8, hk8⟩
                have Hh3 := Lib.hid (HLd.out.lc.same hk8)
                have HL8 := Lib.hid hl8
                have Hs8 := Lib.hid (show Same F w1 w8 from fun k hk => (hs8 k hk).trans (Hsd.out k hk))
                clear hl8 hs8 hk8
                go_wp2_with fail
                refine hK.out _ _ (⟨Hh3.out.1, Hh3.out.2.1⟩) (fun hHeld => ?_)
                clear hK
                try simp only [Act.put, List.setIfInBounds_toArray, List.set_cons_zero, List.set_cons_succ]
                refine ord_take 8 (v := ?v40x8) rfl (by kernel_rfl) (by kernel_rfl) (by kernel_rfl) (fun _ _ _ h => h) (by rfl) (by assumption) ?y40x8 ?_
                case y40x8 => (intro w hSw; (try dsimp only at hSw); go_simp; try with_reducible rfl)
                simp only [Act.put, List.setIfInBounds_toArray, List.set_cons_zero, List.set_cons_succ]
                refine wpAnyH_done (by kernel_rfl) ?_ _
                clear HLd Hsd Hh3
                have Hdi := Lib.hid (dies_calls HL8.out e2)
                go_wp2_with fail
                refine Hdi.out.mono ?_
                rintro e w10 ⟨rfl, hl10, hs10⟩
                have HL10 := Lib.hid hl10
                have Hs10 := Lib.hid (show Same F w1 w10 from fun k hk => (hs10 k hk).trans (Hs8.out k hk))
                clear hl10 hs10 Hdi
                have HE := Lib.hid (show WriTold w w1 l d pre F (ledWrite (nm pre) D M (m : Int) b) (.returned (.int .i64 (e2 : Int))) w10 from by
                  rw [HR.out]
                  refine ⟨rfl, ?_, Hs10.out⟩
                  have h := HL10.out
                  rwa [show ({ M with dead := M.dead || decide (e2 ≠ 0) } : LedM) = M.die from by rw [Hd.out]; unfold LedM.die; simp [He.out]] at h)
                go_wp2_with fail
                go_ret
                exact HE.out
          · have hne : ((e1 : Int) != 0) = true := by simp; omega
            have hne' : ((e1 : Int) == 0) = false := by simp; omega
            have Hly := Lib.hid (show imgOn (nm pre) D m b = (D1, e1) from by unfold imgOn; rw [HIM.out, hsv]; exact if_pos he1)
            have HR := Lib.hid (wri_err Hd.out m b (by rw [HlaE.out]; exact Hno.out) Hsh.out Hly.out he1)
            have He := Lib.hid he1
            clear hsv he1
            go_wp2_with fail
            have HLd := Lib.hid (HL4.out.next (below_drew w4))
            have Hsd := Lib.hid (show Same F w1 w4.drew from Hs4.out)
            have Hwd := Lib.hid (show WrIn w4.drew w1.heap.size v4 im from Hv4.out.keep (below_drew w4))
            have HBd := Lib.hid (show Below w1.heap.size w1 w4.drew from HB4.out.trans ((below_drew w4).mono HB4.out.size))
            obtain ⟨hc0, hc1, -⟩ := HL4.out.lc
            refine ord_start (fun w' : World => w'.cell? ⟨l, 0, none⟩ = some (.pointer (some ⟨d, 0, none⟩)) ∧ w'.cell? ⟨l, 1, none⟩ = some (.string pre)) (n := 10) (by kernel_rfl) rfl (⟨hc0, hc1⟩) (fun hHeld => ?_)
            generalize w4.drew = W1 at *
            refine Pl [0,1,2,3,4] ?_
            iterate 5 (refine Pc rfl ?_;simp only [Act.put, uA, uB, uC])
            refine Pn ?_
            refine ord_one 5 rfl (by kernel_rfl) (by rfl) (fun K hK => ?_)
            go_wp2_with fail
            refine (imgName_calls ⟨hHeld.1, hHeld.2, hps⟩).mono ?_
            rintro e w9 ⟨rfl, rfl⟩
            go_wp2_with fail
            refine hK.out _ _ (hHeld) (fun hHeld => ?_)
            clear hK
            try simp only [Act.put, List.setIfInBounds_toArray, List.set_cons_zero, List.set_cons_succ]
            refine ord_one 6 rfl (by kernel_rfl) (by rfl) (fun K hK => ?_)
            have Hou := Lib.hid (wout_calls Hwd.out (by rw [Hml.out]; have := Hil.out; omega))
            go_wp2_with fail
            refine Hou.out.mono ?_
            rintro e w5 ⟨v5, rfl, hv5, hn5, hb5⟩
            have HL5 := Lib.hid (HLd.out.next hb5)
            have Hs5 := Lib.hid (show Same F w1 w5 from fun k hk => (HLd.out.same hb5 k hk).trans (Hsd.out k hk))
            have Hk5 := Lib.hid (HLd.out.lc.same (hb5.block l HLd.out.llt))
            have Hv5 := Lib.hid (show HasB w5 v5 im from hv5.has)
            obtain ⟨p5, c5, rfl, -⟩ := own_cap0 hv5
            rw [Hml.out] at Hv5
            clear hv5 hn5 hb5 Hou
            rw [Hml.out]
            go_wp2_with fail
            refine hK.out _ _ (⟨Hk5.out.1, Hk5.out.2.1⟩) (fun hHeld => ?_)
            clear hK
            try simp only [Act.put, List.setIfInBounds_toArray, List.set_cons_zero, List.set_cons_succ]
            refine ord_one 7 rfl (by kernel_rfl) (by rfl) (fun K hK => ?_)
            have Hh2 := Lib.hid (show (w5.alloc (.cells #[.slice p5 ml c5] 39)).cell? ⟨l, 0, none⟩ = some (.pointer (some ⟨d, 0, none⟩)) ∧ (w5.alloc (.cells #[.slice p5 ml c5] 39)).cell? ⟨l, 1, none⟩ = some (.string pre) from ⟨al_cell hHeld.1 _, al_cell hHeld.2 _⟩)
            go_wp2_with fail
            refine hK.out _ _ (Hh2.out) (fun hHeld => ?_)
            clear hK
            try simp only [Act.put, List.setIfInBounds_toArray, List.set_cons_zero, List.set_cons_succ]
            refine ord_one 8 rfl (by kernel_rfl) (by rfl) (fun K hK => ?_)
            have Hsv := Lib.hid (Hsave.out w5 HL5.out p5 c5 Hv5.out)
            go_wp2_with fail
            refine Hsv.out.mono ?_
            rintro e w7 ⟨rfl, hl7, hs7, hk7⟩
            have Hh3 := Lib.hid (HL5.out.lc.same hk7)
            have HL7 := Lib.hid hl7
            have Hs7 := Lib.hid (show Same F w1 w7 from fun k hk => (hs7 k hk).trans (Hs5.out k hk))
            clear hl7 hs7 hk7 Hsv
            go_wp2_with fail
            refine hK.out _ _ (⟨Hh3.out.1, Hh3.out.2.1⟩) (fun hHeld => ?_)
            clear hK
            try simp only [Act.put, List.setIfInBounds_toArray, List.set_cons_zero, List.set_cons_succ]
            refine ord_take 9 (v := ?v50x9) rfl (by kernel_rfl) (by kernel_rfl) (by kernel_rfl) (fun _ _ _ h => h) (by rfl) (by assumption) ?y50x9 ?_
            case y50x9 => (intro w hSw; (try dsimp only at hSw); go_simp; try with_reducible rfl)
            simp only [Act.put, List.setIfInBounds_toArray, List.set_cons_zero, List.set_cons_succ]
            refine wpAnyH_done (by kernel_rfl) ?_ _
            clear HLd Hsd Hwd HBd Hh3 HL5 Hs5
            have Hdi := Lib.hid (dies_calls HL7.out e1)
            go_wp2_with fail
            refine Hdi.out.mono ?_
            rintro e w10 ⟨rfl, hl10, hs10⟩
            have HL10 := Lib.hid hl10
            have Hs10 := Lib.hid (show Same F w1 w10 from fun k hk => (hs10 k hk).trans (Hs7.out k hk))
            clear hl10 hs10 Hdi
            have HE := Lib.hid (show WriTold w w1 l d pre F (ledWrite (nm pre) D M (m : Int) b) (.returned (.int .i64 (e1 : Int))) w10 from by
              rw [HR.out]
              refine ⟨rfl, ?_, Hs10.out⟩
              have h := HL10.out
              rwa [show ({ M with dead := M.dead || decide (e1 ≠ 0) } : LedM) = M.die from by rw [Hd.out]; unfold LedM.die; simp [He.out]] at h)
            go_wp2_with fail
            go_ret
            exact HE.out
end
end Go.Proofs.YtogdfkilhpkloaaGreatDoor

namespace Go.Proofs.YtogdfkilhpkloaaGreatDoor
open Go.RowKit Go.Sat Go.Maps

set_option maxRecDepth 100000 in
theorem nil_append (w : World) (x : Value) : Calls Tryz.prog 55 #[.pointer none, x] w fun e w' => e = .returned (.tuple #[.int .i64 0, .int .i64 1]) ∧ w' = w := by
  go_enter Tryz.func55, Tryz.ntmps55
  go_wp2_with fail
  go_ret2
  exact ⟨rfl, rfl⟩

section
variable {w w1 w2 wc : World} {l d : Nat} {pre : ByteArray} {D : DiskM} {M : LedM} {F : Nat → Prop}

end
end Go.Proofs.YtogdfkilhpkloaaGreatDoor

namespace Go.Proofs.YtogdfkilhpkloaaGreatDoor
open Go.RowKit Go.Sat Go.Maps

section
variable {D : DiskM} {n b : Bs}

theorem may_ok (hf : D.fuse ≠ some 0) (hn : okN n = true) : D.may [n] = 0 := by
  unfold DiskM.may
  rw [if_neg hf, if_pos (by simp [hn])]
theorem append_ok (hf : D.fuse ≠ some 0) (hn : okN n = true) (hroom : D.used + b.length ≤ D.room) (hc : D.files.length < 4096) :
    D.append n b = (⟨D.room, put n ⟨(D.cur n).data ++ b, (D.cur n).lasts⟩ D.files, offF D.fuse 1⟩, 0) := by
  have hfu : D.full n b = false := by
    unfold DiskM.full
    simp; omega
  unfold DiskM.append
  rw [if_neg (by rw [may_ok hf hn]; simp), if_neg (by rw [hfu]; simp)]
  rfl
theorem sync_ok {f : FileM} (hf : D.fuse ≠ some 0) (hn : okN n = true) (hg : Sat.get n D.files = some f) : D.sync [n] = (⟨D.room, put n ⟨f.data, f.data.length⟩ D.files, offF D.fuse 1⟩, 0) := by
  have h1 : DiskM.each1 DiskM.gSync D n = (⟨D.room, put n ⟨f.data, f.data.length⟩ D.files, offF D.fuse 1⟩, 0) := by
    unfold DiskM.each1
    rw [if_neg (by rw [may_ok hf hn]; simp), hg]
    rfl
  show (if (DiskM.each1 _ _ _).2 = 0 then _ else _) = _
  rw [h1, if_pos rfl]
  rfl
theorem remove_ok {f : FileM} (hf : D.fuse ≠ some 0) (hn : okN n = true) (hg : Sat.get n D.files = some f) : D.remove [n] = (⟨D.room, del n D.files, offF D.fuse 1⟩, 0) := by
  have h1 : DiskM.each1 DiskM.gRemove D n = (⟨D.room, del n D.files, offF D.fuse 1⟩, 0) := by
    unfold DiskM.each1
    rw [if_neg (by rw [may_ok hf hn]; simp), hg]
    rfl
  show (if (DiskM.each1 _ _ _).2 = 0 then _ else _) = _
  rw [h1, if_pos rfl]
  rfl
end
end Go.Proofs.YtogdfkilhpkloaaGreatDoor

namespace Go.Proofs.YtogdfkilhpkloaaGreatDoor
open Go.RowKit Go.Sat Go.Maps

/-- A file all of which lasts. -/
def whole (b : Bs) : FileM := ⟨b, b.length⟩

/-- The records of entries behind a number. -/
def recF : Nat → List Bs → List Bs
  | _, [] => []
  | n, e :: r => imgB (n + 1) e :: recF (n + 1) r

theorem recF_app : ∀ (n : Nat) (es fs : List Bs), recF n (es ++ fs) = recF n es ++ recF (n + es.length) fs
  | _, [], _ => rfl
  | n, e :: r, fs => by
    show imgB (n + 1) e :: recF (n + 1) (r ++ fs) = _
    rw [recF_app (n + 1) r fs]
    show _ = imgB (n + 1) e :: (recF (n + 1) r ++ recF (n + (r.length + 1)) fs)
    rw [show n + 1 + r.length = n + (r.length + 1) by omega]
theorem recF_one (n : Nat) (p : Bs) : recF n [p] = [imgB (n + 1) p] := rfl
theorem imgB_len (n : Nat) (p : Bs) (hn : n ≤ 4611686018427387904) (hp : p.length ≤ 4611686018427387904) : (imgB n p).length ≤ p.length + 18 := by
  unfold imgB rowB
  have h1 := numB_nine hn
  have h2 := numB_nine hp
  rw [List.length_append, List.length_append]
  omega

theorem rd_img (n : Nat) (p : Bs) (hn : n ≤ 4611686018427387904) : Rd.num ⟨imgB n p, false⟩ = (n, ⟨rowB p, false⟩) := Rd.num_of hn _ _
theorem rd_row (p : Bs) (hp : p.length ≤ 4611686018427387904) : Rd.bytes ⟨rowB p, false⟩ = (p, ⟨[], false⟩) := by
  have := Rd.bytes_of hp [] false
  rwa [List.append_nil] at this

/-- What is asked of entries. -/
def Fits (n : Nat) (es : List Bs) : Prop := n + es.length ≤ 1099511627776 ∧ ∀ e ∈ es, e.length ≤ 65536

theorem take1_next {base : Nat} {la : Int} {es : List Bs} {p : Bs} (hla : la = -1 ∨ la = ((base + es.length : Nat) : Int)) (hn : base + es.length + 1 ≤ 1099511627776) (hp : p.length ≤ 65536) :
    take1 base (la, es) (imgB (base + es.length + 1) p) = some (((base + es.length + 1 : Nat) : Int), es ++ [p]) := by
  unfold take1
  rw [rd_img _ _ (by omega)]
  dsimp only
  rw [rd_row _ (by omega)]
  rw [if_neg (by
    rintro (h | h | h | ⟨h1, h2⟩)
    · cases h
    · omega
    · omega
    · rcases hla with e | e <;> omega), if_neg (by omega), if_neg (by simp)]

theorem takeAll_new (base : Nat) : ∀ (fs es : List Bs) (la : Int), (la = -1 ∨ la = ((base + es.length : Nat) : Int)) → Fits (base + es.length) fs →
    ∃ lb, takeAll base (la, es) (recF (base + es.length) fs) = some (lb, es ++ fs)
  | [], es, la, _, _ => ⟨la, by rw [List.append_nil]; rfl⟩
  | f :: fs, es, la, hla, hf => by
    have h1 := take1_next (p := f) hla (by have := hf.1; simp at this; omega) (hf.2 f (by simp))
    obtain ⟨lb, h2⟩ := takeAll_new base fs (es ++ [f]) ((base + es.length + 1 : Nat) : Int) (.inr (by rw [List.length_append]; rfl)) ⟨by have := hf.1; simp at this ⊢; omega, fun e he => hf.2 e (by simp [he])⟩
    refine ⟨lb, ?_⟩
    show (match take1 base (la, es) (imgB (base + es.length + 1) f) with | none => none | some t => takeAll base t (recF (base + es.length + 1) fs)) = _
    rw [h1]
    rw [List.length_append, List.append_assoc] at h2
    exact h2

/-! ### The disk -/
def baseOf : Option (Nat × Bs) → Nat
  | none => 0
  | some (n, _) => n
def dataI : Option (Nat × Bs) → Bs
  | none => []
  | some (_, b) => b

/-! ### What it opens as -/
theorem image_none : imageOf none = (0, 0, []) := by
  unfold imageOf
  rw [if_pos loadE_none]
theorem image_some (n : Nat) (p : Bs) (hn : n ≤ 1099511627776) (hp : p.length ≤ 524288) : imageOf (some (whole (frameN (imgB n p)))) = (0, n, p) := by
  have hl := imgB_len n p (by omega) (by omega)
  have h := load_frame (imgB n p) (by omega) (frameN (imgB n p)).length
  unfold imageOf whole
  rw [h.1, h.2, if_neg (by decide), if_neg (by decide), rd_img _ _ (by omega)]
  dsimp only
  rw [rd_row _ (by omega), if_neg (by
    rintro (h | h)
    · cases h
    · omega)]

def OkI : Option (Nat × Bs) → Prop
  | none => True
  | some (n, p) => n ≤ 1099511627776 ∧ p.length ≤ 524288

theorem rid_none {D : DiskM} {n : Bs} (h : Sat.get n D.files = none) : D.rid [n] = (D, 0) := by
  have : DiskM.rid1 D n = (D, 0) := by unfold DiskM.rid1; rw [h]; rfl
  show (if (DiskM.rid1 D n).2 = 0 then _ else _) = _
  rw [this]
  rfl
theorem rid_some {D : DiskM} {n : Bs} {f : FileM} (hf : D.fuse ≠ some 0) (hn : okN n = true) (h : Sat.get n D.files = some f) : D.rid [n] = (⟨D.room, del n D.files, offF D.fuse 1⟩, 0) := by
  have : DiskM.rid1 D n = (⟨D.room, del n D.files, offF D.fuse 1⟩, 0) := by unfold DiskM.rid1; rw [h]; exact remove_ok hf hn h
  show (if (DiskM.rid1 D n).2 = 0 then _ else _) = _
  rw [this]
  rfl
theorem Fits.rows {n : Nat} {es : List Bs} (h : Fits n es) : ∀ l ∈ recF n es, l.length ≤ 1048576 := by
  induction es generalizing n with
  | nil => intro l hl; cases hl
  | cons e r ih =>
    intro l hl
    have h1 := h.1
    simp only [List.length_cons] at h1
    cases hl with
    | head =>
      have h2 := h.2 e (by simp)
      have := imgB_len (n + 1) e (by omega) (by omega)
      omega
    | tail _ hl => exact ih ⟨by omega, fun e he => h.2 e (by simp [he])⟩ l hl

end Go.Proofs.YtogdfkilhpkloaaGreatDoor

namespace Go.Proofs.YtogdfkilhpkloaaGreatDoor
open Go.RowKit Go.Sat Go.Maps

def MM (im : Option (Nat × Bs)) (es : List Bs) : LedM := ⟨baseOf im, dataI im, es, false⟩

theorem MM_last (im : Option (Nat × Bs)) (es : List Bs) : (MM im es).last = baseOf im + es.length := rfl

theorem recs_app (n : Nat) (es : List Bs) (p : Bs) : recsB (recF n (es ++ [p])) = recsB (recF n es) ++ frameN (imgB (n + es.length + 1) p) := by
  rw [recF_app, recsB_app, recF_one, recsB_one]

/-! ### A crash -/
/-! ### With a shadow beside -/
/-! ### Append -/
section
variable {im : Option (Nat × Bs)} {es : List Bs} {p : Bs}

theorem app_first (hi : OkI im) (hf : Fits (baseOf im) (es ++ [p])) : ¬ (65536 < p.length ∨ 1099511627776 ≤ (MM im es).last) := by
  have h1 := hf.1
  have h2 := hf.2 p (by simp)
  rw [List.length_append] at h1
  rw [MM_last]
  simp only [List.length_cons, List.length_nil] at h1
  omega

end
end Go.Proofs.YtogdfkilhpkloaaGreatDoor

namespace Go.Proofs.YtogdfkilhpkloaaGreatDoor
open Go.RowKit Go.Sat Go.Maps

/-- A row, made a string. -/
theorem conv_str {P : Program} {W : World} {src dst e : TypeId} (hs : P.underlying src = some (.slice e)) (he : P.underlying e = some (.int .u8)) (hd : P.underlying dst = some .string) {v : Value} {l : Bs} (h : HasB W v l) :
    (convert src dst v).run P W = .ok (.string ⟨l.toArray⟩) W := by
  obtain ⟨_, p, c, rfl, h0, hc⟩ := h
  cases p with
  | none =>
    obtain rfl : l = [] := List.eq_nil_of_length_eq_zero (h0 rfl)
    exact Go.run_convert_bytes_nil W src e hs he _ _ dst hd
  | some a =>
    have hl := run_loadCells_list (P := P) W a (bytesV l) (fun j v hj => hc a rfl j v hj)
    have e1 : bytesV l = (Lib.numsL l).map (Value.int .u8) := by simp [bytesV, Lib.numsL, List.map_map, Function.comp_def]
    have e2 : (bytesV l).length = l.length := bytesV_len l
    rw [e2, e1] at hl
    rw [run_convert_bytes_string W src dst e _ _ c hs he hd, run_bytesToString W a l.length c (Lib.numsL l) hl, foldl_push_bytes]
    congr 2
    simp [Lib.numsL, List.map_map, Function.comp_def, ByteArray.empty, ByteArray.emptyWithCapacity]
    rfl

section
variable {w w1 : World} {l d : Nat} {pre : ByteArray} {D : DiskM} {M : LedM} {F : Nat → Prop}

end

end Go.Proofs.YtogdfkilhpkloaaGreatDoor

namespace Go.Proofs.YtogdfkilhpkloaaGreatDoor
open Go.RowKit Go.Sat Go.Maps

set_option maxHeartbeats 2000000 in
theorem openo_calls (w : World) (o : OpM) (h : o.wf) (hm : o.may = false) : Calls Tryz.prog 54 #[.agg (OpL o).toArray] w fun e w' => e = .returned (.tuple #[.slice none 0 0, .int .i64 1]) ∧ Below w.heap.size w w' := by
  have Hm := Lib.hid (fun W => opmay_calls W o h)
  rw [hm] at Hm
  have Hb := Lib.hid (fun x : Obj => box_below w x)
  have e0 : o.v = .agg #[.int .i64 o.kind, .int .i64 o.client, .int .i64 o.seq, .string o.atK, .string o.atW, .string o.toK, .string o.toW, .int .i64 o.item, .int .i64 o.count, .int .i64 o.price, .bool o.buy, .int .i64 o.id] := rfl
  rw [← OpM.v_L, e0]
  rw [e0] at Hm
  go_enter Tryz.func54, Tryz.ntmps54
  go_wp2_with fail
  refine (Hm.out _).mono ?_
  rintro e w2 ⟨rfl, hb⟩
  have HB := Lib.hid ((Hb.out _).trans (hb.mono (Hb.out _).size))
  clear hb Hm Hb
  go_wp2_with fail
  go_ret2
  exact ⟨rfl, HB.out⟩

def OpZL : List Value := [.int .i64 0, .int .i64 0, .int .i64 0, .string ⟨#[]⟩, .string ⟨#[]⟩, .string ⟨#[]⟩, .string ⟨#[]⟩, .int .i64 0, .int .i64 0, .int .i64 0, .bool false, .int .i64 0]
def DecA (b2 rb : Nat) (k : Nat) : Prop := b2 < k ∧ k < rb
/-- What op.Decode has made so far. -/
structure DecS (w W : World) (b0 b1 b2 rb : Nat) (o : OpM) (buy : Int) (R : Rd) : Prop where
  res : W.heap[b0]? = some (.cells OpZL.toArray 25 (0, 0))
  op : W.heap[b1]? = some (.cells (OpL o).toArray 25 (0, 0))
  buy : W.heap[b2]? = some (.cells #[.int .i64 buy] 3 (0, 0))
  rd : RdX (DecA b2 rb) W rb R
  l0 : w.heap.size ≤ b0
  l1 : b0 < b1
  l2 : b1 < b2
  l3 : b2 < rb
  bel : Below w.heap.size w W
section
variable {w W W' : World} {b0 b1 b2 rb : Nat} {o o' : OpM} {buy : Int} {R R' : Rd}
theorem DecS.read (h : DecS w W b0 b1 b2 rb o buy R) (hr : RdX (DecA b2 rb) W' rb R') (hc : Chg (fun k => k = rb) W W') : DecS w W' b0 b1 b2 rb o buy R' := by
  have l0 := h.l0
  have l1 := h.l1
  have l2 := h.l2
  have l3 := h.l3
  exact ⟨(hc.block b0 (lt_of_block h.res) (by omega)).trans h.res, (hc.block b1 (lt_of_block h.op) (by omega)).trans h.op, (hc.block b2 (lt_of_block h.buy) (by omega)).trans h.buy, hr, h.l0, h.l1, h.l2, h.l3, chgOne h.bel hc (by omega)⟩
theorem DecS.next (h : DecS w W b0 b1 b2 rb o buy R) (hb : Below W.heap.size W W') : DecS w W' b0 b1 b2 rb o buy R :=
  ⟨(hb.block b0 (lt_of_block h.res)).trans h.res, (hb.block b1 (lt_of_block h.op)).trans h.op, (hb.block b2 (lt_of_block h.buy)).trans h.buy, h.rd.chg (Chg.of_below hb) (fun e => e) (fun _ _ e => e), h.l0, h.l1, h.l2, h.l3, h.bel.trans (hb.mono h.bel.size)⟩
theorem DecS.put (h : DecS w W b0 b1 b2 rb o buy R) {i : Nat} {v : Value} (hL : (OpL o).set i v = OpL o') : DecS w (W.setCell ⟨b1, i, none⟩ v) b0 b1 b2 rb o' buy R := by
  have l0 := h.l0
  have l1 := h.l1
  have l2 := h.l2
  have l3 := h.l3
  have hc : Chg (fun k => k = b1) W (W.setCell ⟨b1, i, none⟩ v) := Chg.setCell W ⟨b1, i, none⟩ v
  exact ⟨(hc.block b0 (lt_of_block h.res) (by omega)).trans h.res, by rw [← hL]; exact set_blockL h.op i v, (hc.block b2 (lt_of_block h.buy) (by omega)).trans h.buy, h.rd.chg hc (by omega) (fun k hk e => by have := hk.1; omega), h.l0, h.l1, h.l2, h.l3, chgOne h.bel hc (by omega)⟩
theorem DecS.places (h : DecS w W b0 b1 b2 rb o buy R) (ps : List Addr) (hps : ∀ a ∈ ps, (∃ i z, a = ⟨b1, i, none⟩ ∧ (OpL o)[i]? = some (.int .i64 z)) ∨ a = ⟨b2, 0, none⟩) : Places W rb ps := by
  have l2 := h.l2
  have l3 := h.l3
  refine ⟨fun a ha => ?_, fun a ha => ?_, fun a ha => ?_, fun a ha => ?_⟩ <;> rcases hps a ha with ⟨i, z, rfl, hz⟩ | rfl
  · exact ⟨z, cell_of h.op (by simpa using hz)⟩
  · exact ⟨buy, cell_of h.buy (i := 0) rfl⟩
  · exact frozen_of h.op i
  · exact frozen_of h.buy 0
  · show b1 ≠ rb; omega
  · show b2 ≠ rb; omega
  · rfl
  · rfl
theorem DecS.nums (h : DecS w W b0 b1 b2 rb o buy R) {ps : List Addr} {e : Ending} (hps : ∀ a ∈ ps, a.block = b1 ∨ a.block = b2) (ht : NumsTold (DecA b2 rb) W rb R ps W') {zs : List Int} {R' : Rd} (hz : Rd.ints ps.length R = (zs, R')) {buy' : Int}
    (h1 : (putN W ps zs).heap[b1]? = some (.cells (OpL o').toArray 25 (0, 0))) (h2 : (putN W ps zs).heap[b2]? = some (.cells #[.int .i64 buy'] 3 (0, 0))) : DecS w W' b0 b1 b2 rb o' buy' R' := by
  obtain ⟨hr, hc, hp⟩ := ht
  rw [hz] at hr hp
  have l0 := h.l0
  have l1 := h.l1
  have l2 := h.l2
  have l3 := h.l3
  refine ⟨(hc.block b0 (lt_of_block h.res) ?_).trans h.res, (hp b1 (lt_of_block h.op) (by omega)).trans h1, (hp b2 (lt_of_block h.buy) (by omega)).trans h2, hr, h.l0, h.l1, h.l2, h.l3, h.bel.trans (hc.below h.bel.size ?_)⟩
  · rintro (e | ⟨a, ha, e⟩)
    · omega
    · rcases hps a ha with e2 | e2 <;> omega
  · rintro k hk (e | ⟨a, ha, e⟩)
    · omega
    · rcases hps a ha with e2 | e2 <;> omega
end
def opDecV (b : Bs) : Value := match opDec b with
  | some o => .tuple #[.agg (OpL o).toArray, .int .i64 0]
  | none => .tuple #[.agg OpZL.toArray, .int .i64 3]
theorem opDecV_no {b : Bs} (h : ¬ ((opE b).whole = true ∧ (opQ b).may = true ∧ (opQ b).enc = b)) : opDecV b = .tuple #[.agg OpZL.toArray, .int .i64 3] := by
  unfold opDecV opDec
  rw [opRd_Q, if_neg h]
theorem opDecV_yes {b : Bs} (h : (opE b).whole = true ∧ (opQ b).may = true ∧ (opQ b).enc = b) : opDecV b = .tuple #[.agg (OpL (opQ b)).toArray, .int .i64 0] := by
  unfold opDecV opDec
  rw [opRd_Q, if_pos h]
def PtrsL (b1 : Nat) : List Value := [.pointer (some ⟨b1, 3, none⟩), .pointer (some ⟨b1, 4, none⟩), .pointer (some ⟨b1, 5, none⟩), .pointer (some ⟨b1, 6, none⟩)]
theorem PtrsL_at (b1 : Nat) : ∀ {k : Nat}, k < 4 → (PtrsL b1).toArray[k]? = some (.pointer (some ⟨b1, 3 + k, none⟩))
  | 0, _ => rfl
  | 1, _ => rfl
  | 2, _ => rfl
  | 3, _ => rfl
  | n + 4, h => by omega
theorem OpL_nameAt (o : OpM) : ∀ {k : Nat}, k < 4 → ∃ s, (OpL o)[3 + k]? = some (.string s)
  | 0, _ => ⟨_, rfl⟩
  | 1, _ => ⟨_, rfl⟩
  | 2, _ => ⟨_, rfl⟩
  | 3, _ => ⟨_, rfl⟩
  | n + 4, h => by omega
theorem OpZL_one : ∀ v ∈ OpZL, v.oneCell' = true := OpL_one OpM.zero
set_option maxRecDepth 100000 in
set_option maxHeartbeats 8000000 in
theorem opdec_calls {w : World} {p : Option Addr} {c n : Nat} (b : Bs) (hn : n = b.length) (hx : HasB w (.slice p n c) b) (hlen : b.length ≤ 1099511627776) :
    Calls Tryz.prog 63 #[.slice p n c] w fun e w' => e = .returned (opDecV b) ∧ Below w.heap.size w w' := by
  obtain ⟨hwf, hto⟩ := opQ_wf b hlen
  have HEn := Lib.hid (show ∀ W, (opQ b).may = true → Calls Tryz.prog 54 #[.agg (OpL (opQ b)).toArray] W (EncR W (opQ b).enc) from fun W hm => by
    rw [← OpM.v_L]
    exact openc_calls W (opQ b) hwf hm hto)
  have HEo := Lib.hid (fun W hm => openo_calls W (opQ b) hwf hm)
  have Hx := Lib.hid (And.intro hx (show b.length ≤ 140737488355328 by omega))
  have HVn := Lib.hid (fun h => opDecV_no (b := b) h)
  have HVy := Lib.hid (fun h => opDecV_yes (b := b) h)
  clear hwf hto hx hlen hn
  generalize opDecV b = V at *
  go_enter Tryz.func63, Tryz.ntmps63
  go_upto_region 1 with (refine balloc rfl 25 rfl (Tryz.zeroValue25 _) (by decide) ?_; intro w2 hn hb hs; have H2 := Lib.hid (And.intro hn (And.intro hb hs)); clear hn hb hs)
  try simp only [Act.put, uA, uB, uC]
  go_upto_region 2 with (refine balloc rfl 25 rfl (Tryz.zeroValue25 _) (by decide) ?_; intro w3 hn hb hs; have H3 := Lib.hid (And.intro hn (And.intro ((hb.block _ (lt_of_block H2.out.1)).trans H2.out.1) (H2.out.2.1.trans (hb.mono H2.out.2.1.size)))); clear hn hb hs)
  try simp only [Act.put, uA, uB, uC]
  go_upto_region 3 with (refine balloc rfl 3 rfl (Tryz.zeroValue3 _) (by decide) ?_; intro w4 hn hb hs; have H4 := Lib.hid (And.intro hn (And.intro ((hb.block _ (lt_of_block H3.out.1)).trans H3.out.1) (And.intro ((hb.block _ (lt_of_block H3.out.2.1)).trans H3.out.2.1) (H3.out.2.2.trans (hb.mono H3.out.2.2.size))))); have c50 := cell_of hn (i := 0) (v := .int .i64 0) rfl; have f50 := frozen_of hn 0; clear hn hb hs)
  have hsc : Chg (fun k => k = w3.heap.size) w4 (w4.setCell ⟨w3.heap.size, 0, none⟩ (.int .i64 0)) := Chg.setCell w4 ⟨w3.heap.size, 0, none⟩ (.int .i64 0)
  have H5 := Lib.hid (show (w4.setCell ⟨w3.heap.size, 0, none⟩ (.int .i64 0)).heap[w3.heap.size]? = some (.cells #[.int .i64 0] 3 (0, 0)) ∧ (w4.setCell ⟨w3.heap.size, 0, none⟩ (.int .i64 0)).heap[w2.heap.size]? = some (.cells OpZL.toArray 25 (0, 0)) ∧ (w4.setCell ⟨w3.heap.size, 0, none⟩ (.int .i64 0)).heap[w.heap.size]? = some (.cells OpZL.toArray 25 (0, 0)) ∧ Below w.heap.size w (w4.setCell ⟨w3.heap.size, 0, none⟩ (.int .i64 0)) from
    ⟨set_block H4.out.1 0 (.int .i64 0), (hsc.block _ (lt_of_block H4.out.2.1) (Nat.ne_of_lt (lt_of_block H3.out.1))).trans H4.out.2.1, (hsc.block _ (lt_of_block H4.out.2.2.1) (Nat.ne_of_lt (lt_of_block H3.out.2.1))).trans H4.out.2.2.1, chgOne H4.out.2.2.2 hsc H3.out.2.2.size⟩)
  have Hlt := Lib.hid (And.intro (lt_of_block H2.out.1) (lt_of_block H3.out.1))
  clear hsc c50 f50 H4 H3 H2
  generalize w4.setCell ⟨w3.heap.size, 0, none⟩ (.int .i64 0) = w5 at *
  have Hnr := Lib.hid (newrdX_calls (Hx.out.1.below H5.out.2.2.2) Hx.out.2)
  go_wp2_with fail
  refine Hnr.out.mono ?_
  rintro e w6 ⟨rb, rfl, hrd, hr1, hr2, hb⟩
  have HS := Lib.hid (show DecS w w6 w.heap.size w2.heap.size w3.heap.size rb OpM.zero 0 ⟨b, false⟩ from by
    have h5 := lt_of_block H5.out.1
    obtain ⟨p', n', c', h1, h2⟩ := hrd
    exact ⟨(hb.block _ (lt_of_block H5.out.2.2.1)).trans H5.out.2.2.1, (hb.block _ (lt_of_block H5.out.2.1)).trans H5.out.2.1, (hb.block _ (lt_of_block H5.out.1)).trans H5.out.1, ⟨p', n', c', h1, fun k hk => ⟨by have := (h2 k hk).1; omega, (h2 k hk).2⟩⟩, Nat.le_refl _, Hlt.out.1, Hlt.out.2, by omega, H5.out.2.2.2.trans (hb.mono H5.out.2.2.2.size)⟩)
  clear hrd hr1 hr2 hb Hnr H5 Hlt
  go_wp2_with fail
  have hbo := box_below w6 (.cells #[.pointer (some ⟨w2.heap.size, 0, none⟩), .pointer (some ⟨w2.heap.size, 1, none⟩), .pointer (some ⟨w2.heap.size, 2, none⟩)] 205)
  have hno := new_block w6 (.cells #[.pointer (some ⟨w2.heap.size, 0, none⟩), .pointer (some ⟨w2.heap.size, 1, none⟩), .pointer (some ⟨w2.heap.size, 2, none⟩)] 205)
  have HS7 := Lib.hid (And.intro (HS.out.next hbo) (And.intro hno (lt_of_block hno)))
  have hrl := HS.out.rd.lt
  clear hbo hno
  generalize w6.alloc (.cells #[.pointer (some ⟨w2.heap.size, 0, none⟩), .pointer (some ⟨w2.heap.size, 1, none⟩), .pointer (some ⟨w2.heap.size, 2, none⟩)] 205) = w7 at *
  have l2 := HS.out.l2
  have l3 := HS.out.l3
  clear HS
  generalize w2.heap.size = b1 at *
  generalize w3.heap.size = b2 at *
  have hps : ∀ a ∈ [(⟨b1, 0, none⟩ : Addr), ⟨b1, 1, none⟩, ⟨b1, 2, none⟩], a.block = b1 ∨ a.block = b2 := fun a ha => by
    simp only [List.mem_cons, List.not_mem_nil, or_false] at ha
    rcases ha with rfl | rfl | rfl <;> exact .inl rfl
  have hnu := rnums_calls HS7.out.1.rd (g := w6.heap.size) (c := 3) (HS7.out.1.places [⟨b1, 0, none⟩, ⟨b1, 1, none⟩, ⟨b1, 2, none⟩] (fun a ha => by
      simp only [List.mem_cons, List.not_mem_nil, or_false] at ha
      rcases ha with rfl | rfl | rfl
      · exact .inl ⟨0, 0, rfl, rfl⟩
      · exact .inl ⟨1, 0, rfl, rfl⟩
      · exact .inl ⟨2, 0, rfl, rfl⟩)) (by simp) (fun i a hi => by
      match i, hi with
      | 0, hi => cases hi; exact cell_of HS7.out.2.1 (i := 0) rfl
      | 1, hi => cases hi; exact cell_of HS7.out.2.1 (i := 1) rfl
      | 2, hi => cases hi; exact cell_of HS7.out.2.1 (i := 2) rfl
      | n + 3, hi => simp at hi) (by omega) (fun a ha => by
      rcases hps a ha with e | e <;> omega) (fun k hk => ⟨by have := hk.2; omega, fun a ha => by
      have := hk.1
      rcases hps a ha with e | e <;> omega⟩)
  have Hnu := Lib.hid (And.intro hnu hps)
  clear hnu hps
  refine Hnu.out.1.mono ?_
  rintro e w8 ⟨rfl, ht⟩
  have HS8 := Lib.hid (HS7.out.1.nums (e := .returned (.tuple #[])) (o' := (opP b 0).1) (buy' := 0) Hnu.out.2 ht (opP_zero b) (set_blockL (set_blockL (set_blockL HS7.out.1.op 0 _) 1 _) 2 _) (by
    show (((w7.setCell ⟨b1, 0, none⟩ _).setCell ⟨b1, 1, none⟩ _).setCell ⟨b1, 2, none⟩ _).heap[b2]? = _
    rw [set_other _ (show b2 ≠ b1 by omega), set_other _ (show b2 ≠ b1 by omega), set_other _ (show b2 ≠ b1 by omega)]
    exact HS7.out.1.buy))
  clear ht Hnu HS7 hrl l2 l3
  go_wp2_with fail
  have hbo := box_below w8 (.cells (PtrsL b1).toArray 206)
  have hno := new_block w8 (.cells (PtrsL b1).toArray 206)
  have HS9 := Lib.hid (And.intro (HS8.out.next hbo) hno)
  clear hbo hno
  have hPL : (PtrsL b1).toArray = #[.pointer (some ⟨b1, 3, none⟩), .pointer (some ⟨b1, 4, none⟩), .pointer (some ⟨b1, 5, none⟩), .pointer (some ⟨b1, 6, none⟩)] := rfl
  rw [← hPL]
  clear hPL
  generalize w8.alloc (.cells (PtrsL b1).toArray 206) = w9 at *
  go_loopw [29] (fun i wr => ∃ k : Nat, k ≤ 4 ∧ i = .int .i64 k ∧ DecS w wr w.heap.size b1 b2 rb (opP b k).1 0 (opP b k).2 ∧ wr.heap[w8.heap.size]? = some (.cells (PtrsL b1).toArray 206 (0, 0))) (fun i _ => 4 - (intOf i).toNat)
  case atStart => exact ⟨0, by omega, rfl, HS9.out.1, HS9.out.2⟩
  case round =>
    clear HS9
    obtain ⟨k, hk, rfl, hS, hp⟩ := hrel
    by_cases hlt : k < 4
    · have Hsuc := Lib.hid (show opP b (k + 1) = (setS k (opP b k).1 (bsA (opP b k).2.bytes.1), (opP b k).2.bytes.2) from by rw [opP])
      have hcg := cell_of hp (i := k) (v := .pointer (some ⟨b1, 3 + k, none⟩)) (PtrsL_at b1 hlt)
      have HP := Lib.hid hp
      have Hrb := Lib.hid (rbytesX_calls hS.rd)
      have HS := Lib.hid hS
      obtain ⟨s, hs⟩ := OpL_nameAt (opP b k).1 hlt
      have Hs := Lib.hid hs
      clear hp hS hs
      generalize hR : (opP b k).2 = R at *
      generalize hx : R.bytes.1 = x at *
      generalize hR2 : R.bytes.2 = R2 at *
      generalize ho : (opP b k).1 = o at *
      clear hR hx hR2 ho
      go_wp2_with fail
      refine Hrb.out.mono ?_
      rintro e wa ⟨v, rfl, hv, hvn, hr2, hc2⟩
      have hS2 := HS.out.read hr2 hc2
      have hcv := conv_str (P := Tryz.prog) (W := wa) Tryz.underlying39 Tryz.underlying5 Tryz.underlying9 hv.has
      have cs := cell_of hS2.op (i := 3 + k) (v := .string s) (by simpa using Hs.out)
      have fs := frozen_of hS2.op (3 + k)
      have hne : w8.heap.size ≠ rb := by have := HS8.out.rd.lt; omega
      have hne1 : w8.heap.size ≠ b1 := by have := lt_of_block HS8.out.op; omega
      have hpa := (hc2.block _ (lt_of_block HP.out) hne).trans HP.out
      have HE := Lib.hid (And.intro (hS2.put (OpL_setS k hlt o (bsA x))) ((set_other (w := wa) (a := ⟨b1, 3 + k, none⟩) (.string (bsA x)) hne1).trans hpa))
      clear hS2 hv hvn hr2 hc2 hpa hne hne1 Hrb HS HP
      go_wp2_with fail
      go_round
      case rel => exact ⟨k + 1, by omega, by go_num, by rw [Hsuc.out]; exact HE.out.1, HE.out.2⟩
      case measure => simp [intOf]; omega
    · obtain rfl : k = 4 := by omega
      have HS := Lib.hid hS
      clear hS hp HS8
      go_wp2_with fail
      have hbo := box_below wr (.cells #[.pointer (some ⟨b1, 7, none⟩), .pointer (some ⟨b1, 8, none⟩), .pointer (some ⟨b1, 9, none⟩), .pointer (some ⟨b2, 0, none⟩), .pointer (some ⟨b1, 11, none⟩)] 205)
      have hno := new_block wr (.cells #[.pointer (some ⟨b1, 7, none⟩), .pointer (some ⟨b1, 8, none⟩), .pointer (some ⟨b1, 9, none⟩), .pointer (some ⟨b2, 0, none⟩), .pointer (some ⟨b1, 11, none⟩)] 205)
      have HS7 := Lib.hid (And.intro (HS.out.next hbo) (And.intro hno (lt_of_block hno)))
      have hrl := HS.out.rd.lt
      clear hbo hno
      generalize wr.alloc (.cells #[.pointer (some ⟨b1, 7, none⟩), .pointer (some ⟨b1, 8, none⟩), .pointer (some ⟨b1, 9, none⟩), .pointer (some ⟨b2, 0, none⟩), .pointer (some ⟨b1, 11, none⟩)] 205) = w10 at *
      have l2 := HS.out.l2
      have l3 := HS.out.l3
      clear HS
      have hps : ∀ a ∈ [(⟨b1, 7, none⟩ : Addr), ⟨b1, 8, none⟩, ⟨b1, 9, none⟩, ⟨b2, 0, none⟩, ⟨b1, 11, none⟩], a.block = b1 ∨ a.block = b2 := fun a ha => by
        simp only [List.mem_cons, List.not_mem_nil, or_false] at ha
        rcases ha with rfl | rfl | rfl | rfl | rfl
        · exact .inl rfl
        · exact .inl rfl
        · exact .inl rfl
        · exact .inr rfl
        · exact .inl rfl
      have hnu := rnums_calls HS7.out.1.rd (g := wr.heap.size) (c := 5) (HS7.out.1.places [⟨b1, 7, none⟩, ⟨b1, 8, none⟩, ⟨b1, 9, none⟩, ⟨b2, 0, none⟩, ⟨b1, 11, none⟩] (fun a ha => by
          simp only [List.mem_cons, List.not_mem_nil, or_false] at ha
          rcases ha with rfl | rfl | rfl | rfl | rfl
          · exact .inl ⟨7, _, rfl, rfl⟩
          · exact .inl ⟨8, _, rfl, rfl⟩
          · exact .inl ⟨9, _, rfl, rfl⟩
          · exact .inr rfl
          · exact .inl ⟨11, _, rfl, rfl⟩)) (by simp) (fun i a hi => by
          match i, hi with
          | 0, hi => cases hi; exact cell_of HS7.out.2.1 (i := 0) rfl
          | 1, hi => cases hi; exact cell_of HS7.out.2.1 (i := 1) rfl
          | 2, hi => cases hi; exact cell_of HS7.out.2.1 (i := 2) rfl
          | 3, hi => cases hi; exact cell_of HS7.out.2.1 (i := 3) rfl
          | 4, hi => cases hi; exact cell_of HS7.out.2.1 (i := 4) rfl
          | n + 5, hi => simp at hi) (by omega) (fun a ha => by
          rcases hps a ha with e | e <;> omega) (fun k hk => ⟨by have := hk.2; omega, fun a ha => by
          have := hk.1
          rcases hps a ha with e | e <;> omega⟩)
      have Hnu := Lib.hid (And.intro hnu hps)
      clear hnu hps
      refine Hnu.out.1.mono ?_
      rintro e w11 ⟨rfl, ht⟩
      have hne1 : b1 ≠ b2 := by omega
      have HS11 := Lib.hid (HS7.out.1.nums (e := .returned (.tuple #[])) (o' := { opQ b with buy := false }) (buy' := (opB b : Int)) Hnu.out.2 ht (opQ_ints b) (by
        show (((((w10.setCell ⟨b1, 7, none⟩ _).setCell ⟨b1, 8, none⟩ _).setCell ⟨b1, 9, none⟩ _).setCell ⟨b2, 0, none⟩ _).setCell ⟨b1, 11, none⟩ _).heap[b1]? = _
        rw [← OpL_nums]
        exact set_blockL ((set_other _ hne1).trans (set_blockL (set_blockL (set_blockL HS7.out.1.op 7 _) 8 _) 9 _)) 11 _) (by
        show (((((w10.setCell ⟨b1, 7, none⟩ _).setCell ⟨b1, 8, none⟩ _).setCell ⟨b1, 9, none⟩ _).setCell ⟨b2, 0, none⟩ (.int .i64 (opB b : Int))).setCell ⟨b1, 11, none⟩ _).heap[b2]? = _
        rw [set_other _ (Ne.symm hne1)]
        refine (set_block (c := #[.int .i64 0]) ?_ 0 _).trans rfl
        rw [set_other _ (Ne.symm hne1), set_other _ (Ne.symm hne1), set_other _ (Ne.symm hne1)]
        exact HS7.out.1.buy))
      clear ht Hnu HS7 hrl l2 l3 hne1
      have cb := cell_of HS11.out.buy (i := 0) (v := .int .i64 (opB b : Int)) rfl
      have c10 := cell_of HS11.out.op (i := 10) (v := .bool false) rfl
      have f10 := frozen_of HS11.out.op 10
      have hbq : ((opB b : Int) == 1) = (opQ b).buy := by
        rw [opQ_buy]
        by_cases h : opB b = 1
        · rw [h]; rfl
        · rw [decide_eq_false h]
          simp
          omega
      have HS12 := Lib.hid (HS11.out.put (OpL_buy b))
      clear HS11
      generalize opB b = m at *
      generalize hy : (opQ b).buy = y at *
      clear hy
      generalize opQ b = O at *
      generalize opE b = RE at *
      go_upto_region 12 with (fail)
      try simp only [Act.put, uA, uB, uC]
      clear cb c10 f10 hbq
      generalize w11.setCell ⟨b1, 10, none⟩ (.bool y) = w12 at *
      have Hd := Lib.hid (fun (W : World) (h : Below w12.heap.size w12 W) => DecS.next HS12.out h)
      go_wp2_with (refine bload rfl 25 (.tmp 4) rfl b1 rfl (L := OpL O) HS12.out.op Tryz.underlying25 rfl (by kernel_rfl) ?_)
      cases hm : O.may with
      | false =>
        have HV := Lib.hid (HVn.out (fun h => by rw [hm] at h; exact Bool.false_ne_true h.2.1))
        refine (HEo.out _ hm).mono ?_
        rintro e w13 ⟨rfl, hb⟩
        have HS13 := Lib.hid (Hd.out _ hb)
        clear hb Hd HS12 HEn HEo hm
        have HW := Lib.hid (whole_calls HS13.out.rd.at.hd)
        generalize RE.whole = q at *
        go_wp2_with fail
        refine HW.out.mono ?_
        rintro e w14 ⟨rfl, rfl⟩
        clear HW
        cases q <;>
        · go_wp2_with (first
            | (refine bbuild rfl 25 #[] rfl (v := .agg OpZL.toArray) (by kernel_rfl) ?_)
            | (refine bstore rfl 25 (.tmp 2) (.tmp 67) rfl w.heap.size rfl (L := OpZL) rfl HS13.out.res rfl (by kernel_rfl) OpZL_one ?_; intro w15 hn hc; have H15 := Lib.hid (And.intro hn (chgOne HS13.out.bel hc (Nat.le_refl _))); clear hn hc))
          refine bodyPost_ret (results_rw2 (p := 2) (u := 3) rfl _ _ w.heap.size _ _ (0, 0) _ rfl H15.out.1 Tryz.underlying25 rfl (by kernel_rfl)) rfl ?_
          exact ⟨by rw [HV.out]; rfl, H15.out.2⟩
      | true =>
        refine (HEn.out _ hm).mono ?_
        rintro e w13 ⟨v, rfl, hv, hvn, hb⟩
        have HS13 := Lib.hid (And.intro (Hd.out _ hb) (equal_calls (Hx.out.1.below ((Hd.out _ hb).bel)) hv.has))
        have Hm := Lib.hid hm
        clear hb Hd HS12 HEn HEo hm hv hvn
        have HW := Lib.hid (whole_calls HS13.out.1.rd.at.hd)
        cases hq : RE.whole with
        | false =>
          rw [hq] at HW
          have HV := Lib.hid (HVn.out (fun h => by rw [hq] at h; exact Bool.false_ne_true h.1))
          clear hq HVn HVy
          go_wp2_with fail
          refine HW.out.mono ?_
          rintro e w14 ⟨rfl, rfl⟩
          clear HW
          go_wp2_with (first
            | (refine bbuild rfl 25 #[] rfl (v := .agg OpZL.toArray) (by kernel_rfl) ?_)
            | (refine bstore rfl 25 (.tmp 2) (.tmp 67) rfl w.heap.size rfl (L := OpZL) rfl HS13.out.1.res rfl (by kernel_rfl) OpZL_one ?_; intro w15 hn hc; have H15 := Lib.hid (And.intro hn (chgOne HS13.out.1.bel hc (Nat.le_refl _))); clear hn hc))
          refine bodyPost_ret (results_rw2 (p := 2) (u := 3) rfl _ _ w.heap.size _ _ (0, 0) _ rfl H15.out.1 Tryz.underlying25 rfl (by kernel_rfl)) rfl ?_
          exact ⟨by rw [HV.out]; rfl, H15.out.2⟩
        | true =>
          rw [hq] at HW
          cases he : (b == O.enc) with
          | false =>
            have HV := Lib.hid (HVn.out (fun h => by rw [h.2.2] at he; simp at he))
            have HQ := Lib.hid (show Calls Tryz.prog 87 #[.slice p n c, v] w13 (fun e w' => e = .returned (.bool false) ∧ w' = w13) from by have h := HS13.out.2; rw [he] at h; exact h)
            clear hq HVn HVy he
            go_wp2_with fail
            refine HW.out.mono ?_
            rintro e w14 ⟨rfl, rfl⟩
            clear HW
            go_wp2_with fail
            refine HQ.out.mono ?_
            rintro e w14 ⟨rfl, rfl⟩
            clear HQ
            go_wp2_with (first
              | (refine bbuild rfl 25 #[] rfl (v := .agg OpZL.toArray) (by kernel_rfl) ?_)
              | (refine bstore rfl 25 (.tmp 2) (.tmp 67) rfl w.heap.size rfl (L := OpZL) rfl HS13.out.1.res rfl (by kernel_rfl) OpZL_one ?_; intro w15 hn hc; have H15 := Lib.hid (And.intro hn (chgOne HS13.out.1.bel hc (Nat.le_refl _))); clear hn hc))
            refine bodyPost_ret (results_rw2 (p := 2) (u := 3) rfl _ _ w.heap.size _ _ (0, 0) _ rfl H15.out.1 Tryz.underlying25 rfl (by kernel_rfl)) rfl ?_
            exact ⟨by rw [HV.out]; rfl, H15.out.2⟩
          | true =>
            have HV := Lib.hid (HVy.out ⟨hq, Hm.out, (by simpa using Eq.symm (eq_of_beq he))⟩)
            have HQ := Lib.hid (show Calls Tryz.prog 87 #[.slice p n c, v] w13 (fun e w' => e = .returned (.bool true) ∧ w' = w13) from by have h := HS13.out.2; rw [he] at h; exact h)
            clear hq HVn HVy he
            go_wp2_with fail
            refine HW.out.mono ?_
            rintro e w14 ⟨rfl, rfl⟩
            clear HW
            go_wp2_with fail
            refine HQ.out.mono ?_
            rintro e w14 ⟨rfl, rfl⟩
            clear HQ
            go_wp2_with (first
              | (refine bload rfl 25 (.tmp 4) rfl b1 rfl (L := OpL O) HS13.out.1.op Tryz.underlying25 rfl (by kernel_rfl) ?_)
              | (refine bstore rfl 25 (.tmp 2) (.tmp 68) rfl w.heap.size rfl (L := OpL O) rfl HS13.out.1.res rfl (by kernel_rfl) (OpL_one _) ?_; intro w15 hn hc; have H15 := Lib.hid (And.intro hn (chgOne HS13.out.1.bel hc (Nat.le_refl _))); clear hn hc))
            refine bodyPost_ret (results_rw2 (p := 2) (u := 3) rfl _ _ w.heap.size _ _ (0, 0) _ rfl H15.out.1 Tryz.underlying25 rfl (by kernel_rfl)) rfl ?_
            exact ⟨by rw [HV.out]; rfl, H15.out.2⟩
end Go.Proofs.YtogdfkilhpkloaaGreatDoor

namespace Go.Proofs.YtogdfkilhpkloaaGreatDoor
open Go.RowKit Go.Sat Go.Maps Go.Sort Go.Shelf

/-- Nothing is handed back. -/
def NilR (w : World) (e : Ending) (w' : World) : Prop := e = .returned (.slice none 0 0) ∧ Below w.heap.size w w'
/-- A range over a function whose iterator gives nothing. -/
theorem wpIn_rangeNone {P : Program} {n : Nat} {g : Operand} {ps : Array Tmp} {assign body : Code} {Q : Exit → Act → World → Prop} {a : Act} {w : World} {f : Nat} {lb : Array Value}
    (h1 : 1 ≤ n) (hsv : a.eval g = .func (.func f) #[] lb) (eg : ∀ args w, (callFunc f args).run P w = .ok (.enter f args) w)
    (hseq : SeqGives Fence.wide (n - 1) P f lb encStr (fun ss : List (List UInt8) => ss = []) 0 w)
    (hQ : ∀ W, Below w.heap.size w W → W.heap[w.heap.size]? = some (.deferred (some [])) → Q .normal { a with defers := [{ target := .collected w.heap.size, args := #[] }] ++ a.defers } W) :
    (Code.rangeFunc g ps assign body).wpIn Fence.wide n P Q a w := by
  refine wpIn_rangeFunc ?_
  intro fn _
  obtain ⟨r, hr⟩ : ∃ r : Loop, r = { state := .ready, pending := none, fn := fn, tmps := a.tmps, params := ps, assign := assign, body := body, defers := w.heap.size } := ⟨_, rfl⟩
  obtain ⟨W1, hW1⟩ : ∃ W1, (w.alloc (.deferred (some []))).alloc (.loop r) = W1 := ⟨_, rfl⟩
  have hb1 : Below w.heap.size w W1 := by rw [← hW1]; exact ((Below.refl _ w).alloc (Nat.le_refl _) _).alloc (by simp) _
  have hD1 : W1.heap[w.heap.size]? = some (.deferred (some [])) := by rw [← hW1]; exact old_block _ (new_block w _)
  have hL1 : W1.heap[w.heap.size + 1]? = some (.loop r) := by rw [← hW1]; exact new_block2 _ _ _
  refine ⟨w.heap.size + 1, [{ target := .collected w.heap.size, args := #[] }], W1, { target := .fn (.func f) lb, args := #[.func (.yield (w.heap.size + 1)) #[] #[]] }, W1, f, #[.func (.yield (w.heap.size + 1)) #[] #[]] ++ lb, W1, ?_, ?_, fun _ _ => trivial, ?_, fun _ => h1, ?_⟩
  · rw [← hW1, hr]
    exact run_enterLoop_outer _ _ _ _ _
  · have h2 : ∀ ev : Operand → Value, ev g = .func (.func f) #[] lb → (∀ v, ev (.const v) = v) → (resolve ev (rangeCall g (w.heap.size + 1)) 0).run P W1 = .ok { target := .fn (.func f) lb, args := #[.func (.yield (w.heap.size + 1)) #[] #[]] } W1 := fun ev h h' => by simp [resolve, go_sem, h, h']
    exact h2 _ hsv fun _ => rfl
  · simp [invoke, go_sem, eg]
  · refine (hseq (w.heap.size + 1) (fun _ W => W.heap[w.heap.size]? = some (.deferred (some [])) ∧ W.heap[w.heap.size + 1]? = some (.loop r) ∧ Below w.heap.size w W) W1 hb1 (fun s A B row hs hg hrow => ⟨(grownBy_keeps hg (fun r e => (hrow r e).2) hs.1 rfl).trans hs.1, (grownBy_keeps hg (fun r e => (hrow r e).2) hs.2.1 rfl).trans hs.2.1, hs.2.2.grown hg hs.2.2.size (fun k e => Nat.le_trans hb1.size (hrow k e).1)⟩) (fun pre x W _ hl => absurd hl (Nat.not_lt_zero _)) ⟨hD1, hL1, hb1⟩).mono ?_
    rintro e W2 ⟨⟨v, rfl⟩, ss, -, hD2, hL2, hb2⟩
    refine ⟨none, W2.putObj (w.heap.size + 1) (.loop { r with state := .exhausted }), ?_, ?_⟩
    · refine (run_endLoop (P := P) hL2 (by rw [hr]; simp)).trans ?_
      rw [hr]
    · exact hQ _ (hb2.grown (grownBy_putObj_a _ _ _) hb2.size (fun k e => by cases e; omega)) ((World.putObj_heap_other (by omega)).trans hD2)
/-- What an iterator that gives nothing does. -/
def GivesNone (g : FuncId) (lb : Array Value) (w : World) : Prop := SeqGives Fence.wide 2 Tryz.prog g lb encStr (fun ss : List (List UInt8) => ss = []) 0 w

section
variable {w : World} {b : Nat}
set_option maxRecDepth 100000 in
set_option maxHeartbeats 1000000 in
theorem iterS_none (W : World) (l Bm : Nat) (J : List (List UInt8) → World → Prop) (hJ : AbidesFrom W.heap.size J) (hm : W.cell? ⟨Bm, 0, none⟩ = some (.map (some b))) (h : MapIs W Tryz.prog 3 (intK Tryz.underlying3) sessE b ([] : List (Int × Sess))) (h0 : J [] W) :
    CallsIn Fence.wide 2 Tryz.prog 194 #[.func (.yield l) #[] #[], .pointer (some ⟨Bm, 0, none⟩)] W fun e W' => (∃ v, e = .returned v) ∧ ∃ ss : List (List UInt8), ss = [] ∧ J ss W' := by
  obtain ⟨w1, hrg, hR, hg, hsz⟩ := h.range intKeyed Tryz.underlying180
  have hnx : ∀ ty, (Instr.next (.pointer (some ⟨W.heap.size, 0, none⟩)) false ty).run Tryz.prog w1 = .ok (.tuple #[.bool false]) w1 := fun ty => by
    rcases hR.next intKeyed ty with ⟨-, h⟩ | ⟨p, _, _, hp, hpL, _⟩
    · exact h
    · cases hpL
  refine callsIn_of_wp Tryz.func194 rfl trivial ?_ rfl
  simp only [Tryz.ntmps194, List.size_toArray, List.length_cons, List.length_nil, Nat.reduceAdd, Nat.reduceSub, Array.replicate_succ, Array.replicate_zero, List.push_toArray, List.append_toArray, List.nil_append, List.cons_append]
  gi_wp2
  refine wpIn_loop_rounds 1 ?_
  rw [roundsIn_succ]
  gi_wp2
  go_end0
  exact ⟨⟨_, rfl⟩, [], rfl, hJ [] W _ none h0 hg (fun r e => by cases e)⟩
theorem givesS_none {Bm : Nat} (hm : w.cell? ⟨Bm, 0, none⟩ = some (.map (some b))) (h : MapIs w Tryz.prog 3 (intK Tryz.underlying3) sessE b ([] : List (Int × Sess))) : GivesNone 194 #[.pointer (some ⟨Bm, 0, none⟩)] w := fun l J W hW hJ _ h0 =>
  iterS_none W l Bm J hJ ((hW.cell (p := ⟨Bm, 0, none⟩) (World.block_lt_of_cell? w _ hm)).trans hm) (h.keep (hW.block b h.lt)) h0
set_option maxHeartbeats 1000000 in
theorem keysS_calls (W : World) (mb : Option Nat) : Calls Tryz.prog 131 #[.map mb] W fun e w' => e = .returned (.func (.func 194) #[] #[.pointer (some ⟨W.heap.size, 0, none⟩)]) ∧ w' = W.alloc (.cells #[.map mb] 180) := by
  go_enter Tryz.func131, Tryz.ntmps131
  go_wp2_with fail
  go_ret
  exact ⟨rfl, rfl⟩
end

section
variable {w : World} {b : Nat}
set_option maxRecDepth 100000 in
set_option maxHeartbeats 1000000 in
theorem iterT_none (W : World) (l Bm : Nat) (J : List (List UInt8) → World → Prop) (hJ : AbidesFrom W.heap.size J) (hm : W.cell? ⟨Bm, 0, none⟩ = some (.map (some b))) (h : MapIs W Tryz.prog 191 (whichK) transE b ([] : List ((Int × Int) × TransM))) (h0 : J [] W) :
    CallsIn Fence.wide 2 Tryz.prog 246 #[.func (.yield l) #[] #[], .pointer (some ⟨Bm, 0, none⟩)] W fun e W' => (∃ v, e = .returned v) ∧ ∃ ss : List (List UInt8), ss = [] ∧ J ss W' := by
  obtain ⟨w1, hrg, hR, hg, hsz⟩ := h.range whichKeyed Tryz.underlying181
  have hnx : ∀ ty, (Instr.next (.pointer (some ⟨W.heap.size, 0, none⟩)) false ty).run Tryz.prog w1 = .ok (.tuple #[.bool false]) w1 := fun ty => by
    rcases hR.next whichKeyed ty with ⟨-, h⟩ | ⟨p, _, _, hp, hpL, _⟩
    · exact h
    · cases hpL
  refine callsIn_of_wp Tryz.func246 rfl trivial ?_ rfl
  simp only [Tryz.ntmps246, List.size_toArray, List.length_cons, List.length_nil, Nat.reduceAdd, Nat.reduceSub, Array.replicate_succ, Array.replicate_zero, List.push_toArray, List.append_toArray, List.nil_append, List.cons_append]
  gi_wp2
  refine wpIn_loop_rounds 1 ?_
  rw [roundsIn_succ]
  gi_wp2
  go_end0
  exact ⟨⟨_, rfl⟩, [], rfl, hJ [] W _ none h0 hg (fun r e => by cases e)⟩
theorem givesT_none {Bm : Nat} (hm : w.cell? ⟨Bm, 0, none⟩ = some (.map (some b))) (h : MapIs w Tryz.prog 191 (whichK) transE b ([] : List ((Int × Int) × TransM))) : GivesNone 246 #[.pointer (some ⟨Bm, 0, none⟩)] w := fun l J W hW hJ _ h0 =>
  iterT_none W l Bm J hJ ((hW.cell (p := ⟨Bm, 0, none⟩) (World.block_lt_of_cell? w _ hm)).trans hm) (h.keep (hW.block b h.lt)) h0
set_option maxHeartbeats 1000000 in
theorem keysT_calls (W : World) (mb : Option Nat) : Calls Tryz.prog 196 #[.map mb] W fun e w' => e = .returned (.func (.func 246) #[] #[.pointer (some ⟨W.heap.size, 0, none⟩)]) ∧ w' = W.alloc (.cells #[.map mb] 181) := by
  go_enter Tryz.func196, Tryz.ntmps196
  go_wp2_with fail
  go_ret
  exact ⟨rfl, rfl⟩
end

section
variable {w : World} {b : Nat}
set_option maxRecDepth 100000 in
set_option maxHeartbeats 1000000 in
theorem iterA_none (W : World) (l Bm : Nat) (J : List (List UInt8) → World → Prop) (hJ : AbidesFrom W.heap.size J) (hm : W.cell? ⟨Bm, 0, none⟩ = some (.map (some b))) (h : MapIs W Tryz.prog 191 (whichK) boolE b ([] : List ((Int × Int) × Bool))) (h0 : J [] W) :
    CallsIn Fence.wide 2 Tryz.prog 199 #[.func (.yield l) #[] #[], .pointer (some ⟨Bm, 0, none⟩)] W fun e W' => (∃ v, e = .returned v) ∧ ∃ ss : List (List UInt8), ss = [] ∧ J ss W' := by
  obtain ⟨w1, hrg, hR, hg, hsz⟩ := h.range whichKeyed Tryz.underlying182
  have hnx : ∀ ty, (Instr.next (.pointer (some ⟨W.heap.size, 0, none⟩)) false ty).run Tryz.prog w1 = .ok (.tuple #[.bool false]) w1 := fun ty => by
    rcases hR.next whichKeyed ty with ⟨-, h⟩ | ⟨p, _, _, hp, hpL, _⟩
    · exact h
    · cases hpL
  refine callsIn_of_wp Tryz.func199 rfl trivial ?_ rfl
  simp only [Tryz.ntmps199, List.size_toArray, List.length_cons, List.length_nil, Nat.reduceAdd, Nat.reduceSub, Array.replicate_succ, Array.replicate_zero, List.push_toArray, List.append_toArray, List.nil_append, List.cons_append]
  gi_wp2
  refine wpIn_loop_rounds 1 ?_
  rw [roundsIn_succ]
  gi_wp2
  go_end0
  exact ⟨⟨_, rfl⟩, [], rfl, hJ [] W _ none h0 hg (fun r e => by cases e)⟩
theorem givesA_none {Bm : Nat} (hm : w.cell? ⟨Bm, 0, none⟩ = some (.map (some b))) (h : MapIs w Tryz.prog 191 (whichK) boolE b ([] : List ((Int × Int) × Bool))) : GivesNone 199 #[.pointer (some ⟨Bm, 0, none⟩)] w := fun l J W hW hJ _ h0 =>
  iterA_none W l Bm J hJ ((hW.cell (p := ⟨Bm, 0, none⟩) (World.block_lt_of_cell? w _ hm)).trans hm) (h.keep (hW.block b h.lt)) h0
set_option maxHeartbeats 1000000 in
theorem keysA_calls (W : World) (mb : Option Nat) : Calls Tryz.prog 135 #[.map mb] W fun e w' => e = .returned (.func (.func 199) #[] #[.pointer (some ⟨W.heap.size, 0, none⟩)]) ∧ w' = W.alloc (.cells #[.map mb] 182) := by
  go_enter Tryz.func135, Tryz.ntmps135
  go_wp2_with fail
  go_ret
  exact ⟨rfl, rfl⟩
end

set_option maxRecDepth 100000 in
set_option maxHeartbeats 2000000 in
theorem appendI_none (w : World) (g : Nat) (lb : Array Value) (hFg : Fence.wide.fn g) (eg : ∀ args w, (callFunc g args).run Tryz.prog w = .ok (.enter g args) w) (hseq : GivesNone g lb w) :
    CallsIn Fence.wide 3 Tryz.prog 243 #[.slice none 0 0, .func (.func g) #[] lb] w fun e w' => e = .returned (.slice none 0 0) ∧ Below w.heap.size w w' := by
  refine callsIn_of_wp_marks Tryz.func243 rfl trivial ?_ rfl
  simp only [Tryz.ntmps243, List.size_toArray, List.length_cons, List.length_nil, Nat.reduceAdd, Nat.reduceSub, Array.replicate_succ, Array.replicate_zero, List.push_toArray, List.append_toArray, List.nil_append, List.cons_append]
  gi_wp2
  have hb0 := box_below w (.cells #[.slice none 0 0] 203)
  refine wpIn_rangeNone (by decide) rfl eg (SeqGives.later hseq hb0) ?_
  intro W hbW hD
  have hv : W.heap[w.heap.size]? = some (.cells #[.slice none 0 0] 203 (0, 0)) := (hbW.block w.heap.size (by simp)).trans (new_block w _)
  have hc : W.cell? ⟨w.heap.size, 0, none⟩ = some (.slice none 0 0) := cell_of hv rfl
  gi_wp2
  refine ⟨by simp, .inl ⟨_, _, rfl, run_takeDeferred hD, ?_⟩⟩
  have hbb := hb0.trans (hbW.mono hb0.size)
  exact ⟨_, results_tmp rfl _ _ _, rfl, hbb.grown (grownBy_putObj_a _ _ _) hbb.size (fun k e => by cases e; simp)⟩

set_option maxHeartbeats 2000000 in
theorem collectI_none (w : World) (g : Nat) (lb : Array Value) (eg : ∀ args w, (callFunc g args).run Tryz.prog w = .ok (.enter g args) w) (hseq : GivesNone g lb w) :
    Calls Tryz.prog 192 #[.func (.func g) #[] lb] w (NilR w) := by
  have HA := Lib.hid ((callsIn_wide (n := 3)).1 (appendI_none w g lb trivial eg hseq))
  clear hseq eg
  go_enter Tryz.func192, Tryz.ntmps192
  go_wp2_with fail
  refine HA.out.mono ?_
  rintro e w' ⟨rfl, hb⟩
  have HB := Lib.hid hb
  clear hb
  go_wp2_with fail
  go_ret
  exact ⟨rfl, HB.out⟩

set_option maxRecDepth 100000 in
set_option maxHeartbeats 2000000 in
theorem appendW_none (w : World) (g : Nat) (lb : Array Value) (hFg : Fence.wide.fn g) (eg : ∀ args w, (callFunc g args).run Tryz.prog w = .ok (.enter g args) w) (hseq : GivesNone g lb w) :
    CallsIn Fence.wide 3 Tryz.prog 247 #[.slice none 0 0, .func (.func g) #[] lb] w fun e w' => e = .returned (.slice none 0 0) ∧ Below w.heap.size w w' := by
  refine callsIn_of_wp_marks Tryz.func247 rfl trivial ?_ rfl
  simp only [Tryz.ntmps247, List.size_toArray, List.length_cons, List.length_nil, Nat.reduceAdd, Nat.reduceSub, Array.replicate_succ, Array.replicate_zero, List.push_toArray, List.append_toArray, List.nil_append, List.cons_append]
  gi_wp2
  have hb0 := box_below w (.cells #[.slice none 0 0] 214)
  refine wpIn_rangeNone (by decide) rfl eg (SeqGives.later hseq hb0) ?_
  intro W hbW hD
  have hv : W.heap[w.heap.size]? = some (.cells #[.slice none 0 0] 214 (0, 0)) := (hbW.block w.heap.size (by simp)).trans (new_block w _)
  have hc : W.cell? ⟨w.heap.size, 0, none⟩ = some (.slice none 0 0) := cell_of hv rfl
  gi_wp2
  refine ⟨by simp, .inl ⟨_, _, rfl, run_takeDeferred hD, ?_⟩⟩
  have hbb := hb0.trans (hbW.mono hb0.size)
  exact ⟨_, results_tmp rfl _ _ _, rfl, hbb.grown (grownBy_putObj_a _ _ _) hbb.size (fun k e => by cases e; simp)⟩

set_option maxHeartbeats 2000000 in
theorem collectW_none (w : World) (g : Nat) (lb : Array Value) (eg : ∀ args w, (callFunc g args).run Tryz.prog w = .ok (.enter g args) w) (hseq : GivesNone g lb w) :
    Calls Tryz.prog 197 #[.func (.func g) #[] lb] w (NilR w) := by
  have HA := Lib.hid ((callsIn_wide (n := 3)).1 (appendW_none w g lb trivial eg hseq))
  clear hseq eg
  go_enter Tryz.func197, Tryz.ntmps197
  go_wp2_with fail
  refine HA.out.mono ?_
  rintro e w' ⟨rfl, hb⟩
  have HB := Lib.hid hb
  clear hb
  go_wp2_with fail
  go_ret
  exact ⟨rfl, HB.out⟩

set_option maxHeartbeats 2000000 in
theorem sortedI_none (w : World) (g : Nat) (lb : Array Value) (eg : ∀ args w, (callFunc g args).run Tryz.prog w = .ok (.enter g args) w) (hseq : GivesNone g lb w) :
    Calls Tryz.prog 130 #[.func (.func g) #[] lb] w (NilR w) := by
  have HA := Lib.hid (collectI_none w g lb eg hseq)
  have HS := Lib.hid (fun W => Tryz.slices_Sort_int_none none 0 W)
  clear hseq eg
  go_enter Tryz.func130, Tryz.ntmps130
  go_wp2_with fail
  refine HA.out.mono ?_
  rintro e w' ⟨rfl, hb⟩
  have HB := Lib.hid hb
  clear hb
  go_wp2_with fail
  refine (HS.out _).mono ?_
  rintro e w3 ⟨rfl, rfl⟩
  go_wp2_with fail
  go_ret
  exact ⟨rfl, HB.out⟩
set_option maxHeartbeats 2000000 in
theorem insertW_none (w : World) (fv : Value) :
    Calls Tryz.prog 312 #[.slice none 0 0, .int .i64 0, .int .i64 0, fv] w fun e w' => e = .returned (.tuple #[]) ∧ w' = w := by
  go_enter Tryz.func312, Tryz.ntmps312
  go_wp2_with fail
  refine wp_loop_rounds 1 ?_
  rw [rounds_succ]
  go_wp2_with fail
  go_end0
  exact ⟨rfl, rfl⟩
set_option maxHeartbeats 4000000 in
theorem pdqW_none (w : World) (fv : Value) :
    Calls Tryz.prog 248 #[.slice none 0 0, .int .i64 0, .int .i64 0, .int .i64 0, fv] w fun e w' => e = .returned (.tuple #[]) ∧ w' = w := by
  have HI := Lib.hid (fun W => insertW_none W fv)
  go_enter Tryz.func248, Tryz.ntmps248
  go_wp2_with fail
  refine wp_loop_rounds 1 ?_
  rw [rounds_succ]
  go_wp2_with fail
  refine (HI.out _).mono ?_
  rintro e w3 ⟨rfl, rfl⟩
  go_wp2_with fail
  (try simp only [Exit.inBlock, Exit.then])
  refine bodyPost_ret (results_none rfl _ _ _) rfl ?_
  exact ⟨rfl, rfl⟩
set_option maxHeartbeats 4000000 in
theorem sortFW_none (w : World) (fv : Value) :
    Calls Tryz.prog 198 #[.slice none 0 0, fv] w fun e w' => e = .returned (.tuple #[]) ∧ w' = w := by
  have HI := Lib.hid (fun W => pdqW_none W fv)
  have HL := Lib.hid (fun W => Tryz.bits_Len 0 W (by decide) (by decide))
  go_enter Tryz.func198, Tryz.ntmps198
  go_wp2_with fail
  refine (HL.out _).mono ?_
  rintro e w3 ⟨rfl, rfl⟩
  rw [show Lib.bitLen (Int.toNat 0) = 0 from rfl]
  go_wp2_with fail
  refine (HI.out _).mono ?_
  rintro e w3 ⟨rfl, rfl⟩
  go_wp2_with fail
  go_end0
  exact ⟨rfl, rfl⟩
set_option maxHeartbeats 2000000 in
theorem sortedW_none (w : World) (g : Nat) (lb : Array Value) (fv : Value) (eg : ∀ args w, (callFunc g args).run Tryz.prog w = .ok (.enter g args) w) (hseq : GivesNone g lb w) :
    Calls Tryz.prog 134 #[.func (.func g) #[] lb, fv] w (NilR w) := by
  have HA := Lib.hid (collectW_none w g lb eg hseq)
  have HS := Lib.hid (fun W => sortFW_none W fv)
  clear hseq eg
  go_enter Tryz.func134, Tryz.ntmps134
  go_wp2_with fail
  refine HA.out.mono ?_
  rintro e w' ⟨rfl, hb⟩
  have HB := Lib.hid hb
  clear hb
  go_wp2_with fail
  refine (HS.out _).mono ?_
  rintro e w3 ⟨rfl, rfl⟩
  go_wp2_with fail
  go_ret
  exact ⟨rfl, HB.out⟩
theorem nilR_box {w : World} {o : Obj} {e : Ending} {w' : World} (h : NilR (w.alloc o) e w') : NilR w e w' := ⟨h.1, (box_below w o).trans (h.2.mono (box_below w o).size)⟩
theorem box_map (w : World) (b : Nat) (t : TypeId) : (w.alloc (.cells #[.map (some b)] t)).cell? ⟨w.heap.size, 0, none⟩ = some (.map (some b)) := cell_of (new_block w _) rfl

theorem sortedS_none {w : World} {b : Nat} (h : MapIs w Tryz.prog 3 (intK Tryz.underlying3) sessE b ([] : List (Int × Sess))) :
    Calls Tryz.prog 130 #[.func (.func 194) #[] #[.pointer (some ⟨w.heap.size, 0, none⟩)]] (w.alloc (.cells #[.map (some b)] 180)) (NilR w) :=
  (sortedI_none _ _ _ (enters_of Tryz.func194 (by kernel_rfl) rfl) (givesS_none (box_map w b _) (h.keep ((box_below w _).block b h.lt)))).mono fun _ _ h => nilR_box h

theorem sortedT_none {w : World} {b : Nat} (h : MapIs w Tryz.prog 191 (whichK) transE b ([] : List ((Int × Int) × TransM))) :
    Calls Tryz.prog 134 #[.func (.func 246) #[] #[.pointer (some ⟨w.heap.size, 0, none⟩)], .func (.func 136) #[] #[]] (w.alloc (.cells #[.map (some b)] 181)) (NilR w) :=
  (sortedW_none _ _ _ _ (enters_of Tryz.func246 (by kernel_rfl) rfl) (givesT_none (box_map w b _) (h.keep ((box_below w _).block b h.lt)))).mono fun _ _ h => nilR_box h

theorem sortedA_none {w : World} {b : Nat} (h : MapIs w Tryz.prog 191 (whichK) boolE b ([] : List ((Int × Int) × Bool))) :
    Calls Tryz.prog 134 #[.func (.func 199) #[] #[.pointer (some ⟨w.heap.size, 0, none⟩)], .func (.func 136) #[] #[]] (w.alloc (.cells #[.map (some b)] 182)) (NilR w) :=
  (sortedW_none _ _ _ _ (enters_of Tryz.func199 (by kernel_rfl) rfl) (givesA_none (box_map w b _) (h.keep ((box_below w _).block b h.lt)))).mono fun _ _ h => nilR_box h
end Go.Proofs.YtogdfkilhpkloaaGreatDoor

namespace Go.Proofs.YtogdfkilhpkloaaGreatDoor
open Go.RowKit Go.Sat Go.Maps

/-- Nothing. -/
def E0 : EcoR := ⟨[], [], [], []⟩
theorem EconIn.bel {w w' : World} {eb vm sm tm am : Nat} {E : EcoR} {own : Nat → Option (Nat × Bs)} (h : EconIn w eb vm sm tm am E own) (hb : Below w.heap.size w w') : EconIn w' eb vm sm tm am E own := h.keep (fun k hk => hb.block k (h.oLt k hk)) hb.size
theorem vk_calls (w : World) (pm : Nat) :
    Calls Tryz.prog 159 #[.map (some pm)] w fun e w' => e = .returned (.func (.func 222) #[] #[.pointer (some ⟨w.heap.size, 0, none⟩)]) ∧ w' = w.alloc (.cells #[.map (some pm)] 179) :=
  (callsIn_wide (n := 5)).1 (Tryz.maps_Keys_159 (some pm) w)
theorem vs_none {w : World} {vm : Nat} (h : VsIs w vm []) :
    Calls Tryz.prog 158 #[.func (.func 222) #[] #[.pointer (some ⟨w.heap.size, 0, none⟩)]] (w.alloc (.cells #[.map (some vm)] 179)) (NilR w) := by
  obtain ⟨es, h1, h2, h3⟩ := mapIs_strKeys _ h
  refine ((callsIn_wide (n := 5)).1 (Tryz.slices_Sorted_keys_158_159 vm 0 (.map es) ptrE.R w h1 (by rw [h3]; exact Nat.zero_le _) (by rw [h3]; decide))).mono ?_
  rintro e w' ⟨v, ss, rfl, hp, hr, hn, hb⟩
  have hs : ss = [] := by
    have := (hp.trans h2).length_eq
    exact List.eq_nil_of_length_eq_zero this
  exact ⟨by rw [hn.2 hs], (box_below w _).trans (hb.mono (by simp))⟩
section
variable {w : World} {eb vm sm tm am : Nat} {own : Nat → Option (Nat × Bs)}
set_option maxRecDepth 100000 in
set_option maxHeartbeats 4000000 in
theorem keys0_calls (h : EconIn w eb vm sm tm am E0 own) : Calls Tryz.prog 89 #[.pointer (some ⟨eb, 0, none⟩)] w (NilR w) := by
  have c0 : w.cell? ⟨eb, 0, none⟩ = some (.map (some vm)) := cell_of h.cells rfl
  have HK := Lib.hid (vk_calls w vm)
  have HS := Lib.hid (vs_none (w := w) (vm := vm) h.vaults)
  clear h
  go_enter Tryz.func89, Tryz.ntmps89
  go_wp2_with fail
  refine HK.out.mono ?_
  rintro e w' ⟨rfl, rfl⟩
  go_wp2_with fail
  refine HS.out.mono ?_
  rintro e w2 ⟨rfl, hb⟩
  have HB := Lib.hid hb
  clear hb
  go_wp2_with fail
  go_ret
  exact ⟨rfl, HB.out⟩
set_option maxRecDepth 100000 in
set_option maxHeartbeats 4000000 in
theorem transits0_calls (h : EconIn w eb vm sm tm am E0 own) : Calls Tryz.prog 133 #[.pointer (some ⟨eb, 0, none⟩)] w (NilR w) := by
  have c2 : w.cell? ⟨eb, 2, none⟩ = some (.map (some tm)) := cell_of h.cells rfl
  have HK := Lib.hid (keysT_calls w (some tm))
  have HS := Lib.hid (sortedT_none (w := w) h.trans)
  clear h
  go_enter Tryz.func133, Tryz.ntmps133
  go_wp2_with fail
  refine HK.out.mono ?_
  rintro e w' ⟨rfl, rfl⟩
  go_wp2_with fail
  refine HS.out.mono ?_
  rintro e w2 ⟨rfl, hb⟩
  have HB := Lib.hid hb
  clear hb
  go_wp2_with fail
  refine wp_loop_rounds 1 ?_
  rw [rounds_succ]
  go_wp2_with fail
  go_ret
  exact ⟨rfl, HB.out⟩
/-- What Encode leaves: a new row of bytes. -/
def NewR (w : World) (l : Bs) (e : Ending) (w' : World) : Prop := ∃ v, e = .returned v ∧ OwnB w' 5 v l ∧ (∀ j, v.ownBlock = some j → w.heap.size ≤ j) ∧ Below w.heap.size w w'
end
end Go.Proofs.YtogdfkilhpkloaaGreatDoor

namespace Go.Proofs.YtogdfkilhpkloaaGreatDoor
open Go.RowKit Go.Sat Go.Maps
theorem nums0 : numsI [0] = [0] := by
  unfold numsI
  rw [List.map_cons, List.map_nil, List.flatten_cons, List.flatten_nil, show ((0 : Int)) = ((0 : Nat) : Int) from rfl, numI_nat (by decide), numB_small (by decide)]
  rfl
section
variable {w : World} {eb vm sm tm am : Nat} {own : Nat → Option (Nat × Bs)}
set_option maxRecDepth 100000 in
set_option maxHeartbeats 8000000 in
theorem encode0_calls (h : EconIn w eb vm sm tm am E0 own) : Calls Tryz.prog 64 #[.pointer (some ⟨eb, 0, none⟩)] w (NewR w [0, 0, 0, 0]) := by
  have HB0 := Lib.hid (box_below w (.cells #[.slice none 0 0] 160))
  have H0 := Lib.hid (h.bel HB0.out)
  have c0 : (w.alloc (.cells #[.slice none 0 0] 160)).cell? ⟨eb, 0, none⟩ = some (.map (some vm)) := cell_of H0.out.cells rfl
  have l0 : ∀ ty, (Builtin.len_ #[179] ty #[.map (some vm)]).run Tryz.prog (w.alloc (.cells #[.slice none 0 0] 160)) = .ok (.int .i64 0) (w.alloc (.cells #[.slice none 0 0] 160)) := fun ty => MapIs.len H0.out.vaults Tryz.underlying179 ty
  obtain ⟨W0, hW0⟩ : ∃ W0, W0 = w.alloc (.cells #[.slice none 0 0] 160) := ⟨_, rfl⟩
  have HW0 := Lib.hid (show WrB w.heap.size W0 w.heap.size [] from hW0 ▸ wrB_new w)
  have HX0 := Lib.hid (show EconIn W0 eb vm sm tm am E0 own ∧ Below w.heap.size w W0 from ⟨hW0 ▸ H0.out, hW0 ▸ HB0.out⟩)
  have Hs0 := Lib.hid (show w.heap.size + 1 = W0.heap.size by rw [hW0]; simp)
  have HE := Lib.hid hW0
  have H := Lib.hid h
  clear h hW0 H0 HB0
  go_enter Tryz.func64, Tryz.ntmps64
  go_wp2_with fail
  rw [← HE.out]
  clear HE c0 l0
  refine (wrB_nums HW0.out [0] #[.int .i64 0] rfl (by simp) (by decide) (w.heap.size + 1) 1 1 Hs0.out rfl (0, 0)).mono ?_
  rintro e W1 ⟨rfl, hw, hb⟩
  rw [nums0] at hw
  have HW1 := Lib.hid (show WrB w.heap.size W1 w.heap.size [0] from hw)
  have HX1 := Lib.hid (And.intro (H.out.bel (HX0.out.2.trans hb)) (HX0.out.2.trans hb))
  clear hw hb
  have HK := Lib.hid (keys0_calls HX1.out.1)
  go_wp2_with fail
  refine HK.out.mono ?_
  rintro e W2 ⟨rfl, hb⟩
  have HW2 := Lib.hid (HW1.out.keep hb)
  have HX2 := Lib.hid (And.intro (HX1.out.1.bel hb) (HX1.out.2.trans (hb.mono HX1.out.2.size)))
  clear hb HK HW0 HW1 HX0 HX1
  have c0 : W2.cell? ⟨eb, 1, none⟩ = some (.map (some sm)) := cell_of HX2.out.1.cells rfl
  have l0 : ∀ ty, (Builtin.len_ #[180] ty #[.map (some sm)]).run Tryz.prog W2 = .ok (.int .i64 0) W2 := fun ty => MapIs.len HX2.out.1.sess Tryz.underlying180 ty
  go_wp2_with fail
  refine wp_loop_rounds 1 ?_
  rw [rounds_succ]
  go_wp2_with fail
  clear c0 l0
  refine (wrB_nums HW2.out [0] #[.int .i64 0] rfl (by simp) (by decide) W2.heap.size 1 1 rfl rfl (0, 0)).mono ?_
  rintro e W3 ⟨rfl, hw, hb⟩
  rw [nums0] at hw
  have HW3 := Lib.hid (show WrB w.heap.size W3 w.heap.size [0, 0] from hw)
  have HX3 := Lib.hid (And.intro (H.out.bel (HX2.out.2.trans hb)) (HX2.out.2.trans hb))
  clear hw hb
  have HK := Lib.hid (keysS_calls W3 (some sm))
  have HS := Lib.hid (sortedS_none HX3.out.1.sess)
  have c0 : W3.cell? ⟨eb, 1, none⟩ = some (.map (some sm)) := cell_of HX3.out.1.cells rfl
  go_wp2_with fail
  refine HK.out.mono ?_
  rintro e w' ⟨rfl, rfl⟩
  go_wp2_with fail
  refine HS.out.mono ?_
  rintro e W4 ⟨rfl, hb⟩
  clear c0 HS
  have HW4 := Lib.hid (HW3.out.keep hb)
  have HX4 := Lib.hid (And.intro (HX3.out.1.bel hb) (HX3.out.2.trans (hb.mono HX3.out.2.size)))
  clear hb HK HW2 HW3 HX2 HX3
  have c0 : W4.cell? ⟨eb, 2, none⟩ = some (.map (some tm)) := cell_of HX4.out.1.cells rfl
  have l0 : ∀ ty, (Builtin.len_ #[181] ty #[.map (some tm)]).run Tryz.prog W4 = .ok (.int .i64 0) W4 := fun ty => MapIs.len HX4.out.1.trans Tryz.underlying181 ty
  go_wp2_with fail
  refine wp_loop_rounds 1 ?_
  rw [rounds_succ]
  go_wp2_with fail
  clear c0 l0
  refine (wrB_nums HW4.out [0] #[.int .i64 0] rfl (by simp) (by decide) W4.heap.size 1 1 rfl rfl (0, 0)).mono ?_
  rintro e W5 ⟨rfl, hw, hb⟩
  rw [nums0] at hw
  have HW5 := Lib.hid (show WrB w.heap.size W5 w.heap.size [0, 0, 0] from hw)
  have HX5 := Lib.hid (And.intro (H.out.bel (HX4.out.2.trans hb)) (HX4.out.2.trans hb))
  clear hw hb
  have HK := Lib.hid (transits0_calls HX5.out.1)
  go_wp2_with fail
  refine HK.out.mono ?_
  rintro e W6 ⟨rfl, hb⟩
  have HW6 := Lib.hid (HW5.out.keep hb)
  have HX6 := Lib.hid (And.intro (HX5.out.1.bel hb) (HX5.out.2.trans (hb.mono HX5.out.2.size)))
  clear hb HK HW4 HW5 HX4 HX5
  have c0 : W6.cell? ⟨eb, 3, none⟩ = some (.map (some am)) := cell_of HX6.out.1.cells rfl
  have l0 : ∀ ty, (Builtin.len_ #[182] ty #[.map (some am)]).run Tryz.prog W6 = .ok (.int .i64 0) W6 := fun ty => MapIs.len HX6.out.1.arr Tryz.underlying182 ty
  go_wp2_with fail
  refine wp_loop_rounds 1 ?_
  rw [rounds_succ]
  go_wp2_with fail
  clear c0 l0
  refine (wrB_nums HW6.out [0] #[.int .i64 0] rfl (by simp) (by decide) W6.heap.size 1 1 rfl rfl (0, 0)).mono ?_
  rintro e W7 ⟨rfl, hw, hb⟩
  rw [nums0] at hw
  have HW7 := Lib.hid (show WrB w.heap.size W7 w.heap.size [0, 0, 0, 0] from hw)
  have HX7 := Lib.hid (And.intro (H.out.bel (HX6.out.2.trans hb)) (HX6.out.2.trans hb))
  clear hw hb
  have HK := Lib.hid (keysA_calls W7 (some am))
  have HS := Lib.hid (sortedA_none HX7.out.1.arr)
  have c0 : W7.cell? ⟨eb, 3, none⟩ = some (.map (some am)) := cell_of HX7.out.1.cells rfl
  go_wp2_with fail
  refine HK.out.mono ?_
  rintro e w' ⟨rfl, rfl⟩
  go_wp2_with fail
  refine HS.out.mono ?_
  rintro e W8 ⟨rfl, hb⟩
  clear c0 HS
  have HW8 := Lib.hid (HW7.out.keep hb)
  have HX8 := Lib.hid (And.intro (HX7.out.1.bel hb) (HX7.out.2.trans (hb.mono HX7.out.2.size)))
  clear hb HK HW6 HW7 HX6 HX7
  go_wp2_with fail
  refine wp_loop_rounds 1 ?_
  rw [rounds_succ]
  go_wp2_with fail
  refine (wrB_out HW8.out (by decide)).mono ?_
  rintro e w9 ⟨v, rfl, hv, hn, hb⟩
  have HE := Lib.hid (And.intro hv (And.intro hn (HX8.out.2.trans hb)))
  clear hv hn hb
  go_wp2_with fail
  go_ret
  exact ⟨v, rfl, HE.out.1, HE.out.2.1, HE.out.2.2⟩
end
end Go.Proofs.YtogdfkilhpkloaaGreatDoor
