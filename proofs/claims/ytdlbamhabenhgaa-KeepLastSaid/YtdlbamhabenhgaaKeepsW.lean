/- DiskKeeps: the walk. -/
import Derived.Test.YtdlbamhabenhgaaKeeps
namespace Go.Proofs.Ytdlbamhabenhgaa
open Go.RowKit Go.Sat Go.Maps

theorem cost_mono (ls : List Bs) (k : Nat) : cost (ls.take k) ≤ cost ls := by
  conv => rhs; rw [← List.take_append_drop k ls]
  simp only [cost, List.map_append, List.sum_append]
  omega

/-- Behind k rounds of the law's loop. -/
structure KRel (w wr : World) (d : Nat) (va vs : Value) (ls : List Bs) (sy k : Nat) : Prop where
  st : St w wr d (keepsD ls sy k) (fun j => va.ownBlock = some j)
  all : OwnB wr 5 va (ls.take k).flatten
  new : ∀ j, va.ownBlock = some j → w.heap.size ≤ j
  sure : ∃ ps cs, vs = .slice ps (ls.take (min k sy)).flatten.length cs

def sF : ByteArray := ⟨#[102]⟩

theorem own_same {F : Nat → Prop} {w1 w2 : World} {e : TypeId} {v : Value} {l : Bs} (h : OwnB w1 e v l) (hs : Same F w1 w2) (hF : ∀ j, v.ownBlock = some j → F j) : OwnB w2 e v l := h.keep fun k hk => hs k (hF k hk)

theorem own_alloc {w1 : World} {e : TypeId} {v : Value} {l : Bs} (h : OwnB w1 e v l) (o : Obj) : OwnB (w1.alloc o) e v l := h.keep fun _ hk => heap_alloc_old w1 o (OwnR.lt h hk)

/-- all = append(all, row...): the disk is where it was. -/
theorem st_grow {w w2 w3 : World} {d : Nat} {D : DiskM} {va va' : Value} {e : TypeId} {size m : Nat} {ys : List Value} (h : St w w2 d D (fun j => va.ownBlock = some j)) (hn : ∀ j, va.ownBlock = some j → w.heap.size ≤ j)
    (hg : w2.grownBy w3 va.ownBlock) (hl : va'.ownBlock = va.ownBlock ∨ ∃ g, va'.ownBlock = some g ∧ w2.heap.size ≤ g) (hr : OwnR w3 e size va' m ys) :
    St w w3 d D (fun j => va'.ownBlock = some j) ∧ ∀ j, va'.ownBlock = some j → w.heap.size ≤ j := by
  refine ⟨h.move (Chg.of_grown hg) (fun k _ e => ⟨e.symm, hn k e.symm⟩) fun k hk => ⟨?_, hr.lt hk⟩, fun j hj => ?_⟩
  · rcases hl with e | ⟨g, e, hge⟩
    · exact .inl (by rw [← e]; exact hk)
    · rw [e] at hk
      cases hk
      exact .inr hge
  · rcases hl with e | ⟨g, e, hge⟩
    · exact hn j (by rw [← e]; exact hj)
    · rw [e] at hj
      cases hj
      have := h.below.size
      omega

/-- A new row of nobody's. -/
theorem st_grow0 {w w2 w3 : World} {d : Nat} {D : DiskM} {F : Nat → Prop} {row : Option Nat} (h : St w w2 d D F) (hg : w2.grownBy w3 row) (hr : ∀ j, row = some j → w2.heap.size ≤ j) : St w w3 d D F :=
  h.next ((Chg.of_grown hg).below (Nat.le_refl _) fun k hk e => by have := hr k e.symm; omega)

theorem own_empty (w : World) (e : TypeId) : OwnR (w.alloc (.cells #[] e)) e 1 (.slice (some ⟨w.heap.size, 0, none⟩) 0 0) 0 [] :=
  ⟨rfl, .inr ⟨_, 0, #[], rfl, new_block w _, Nat.le_refl _, Nat.zero_le _, Nat.le_refl _, rfl⟩⟩

/-- A row behind an append to another row. -/
theorem own_other {w2 w3 : World} {e : TypeId} {v : Value} {l : Bs} {row : Option Nat} (h : OwnB w2 e v l) (hg : w2.grownBy w3 row) (hr : ∀ j, v.ownBlock = some j → row ≠ some j) : OwnB w3 e v l :=
  h.keep fun k hk => hg.block k (OwnR.lt h hk) fun e => hr k hk e.symm

set_option maxRecDepth 100000 in
set_option maxHeartbeats 4000000 in
theorem keeps_walk {w : World} {p : Option Addr} {n c : Nat} {ls : List Bs} (hx : RowsAt w (.slice p n c) ls) (hn : n ≤ 140737488355328) (hrow : ∀ l ∈ ls, l.length ≤ 140737488355328) (sy dr : Int)
    (hsy : -9223372036854775808 ≤ sy) (hsy' : sy ≤ 9223372036854775807) (hdr : -9223372036854775808 ≤ dr) (hdr' : dr ≤ 9223372036854775807) :
    Calls Try.prog 3 #[.slice p n c, .int .i64 sy, .int .i64 dr] w (True3 w) := by
  have hnl := RowsAt.len hx
  have Hx := Lib.hid hx
  have Hrow := Lib.hid hrow
  have Hnl := Lib.hid hnl
  clear hx hrow hnl
  go_enter Try.func3, Try.ntmps3
  go_wp2_with fail
  go_loop [7, 8] (fun a i => ∃ k : Nat, k ≤ n ∧ i = .int .i64 k ∧ a = .int .i64 ((cost (ls.take k) : Nat) : Int) ∧ cost (ls.take k) ≤ 150000000000000) (fun _ i => n - (intOf i).toNat)
  case atStart => exact ⟨0, Nat.zero_le _, rfl, rfl, by simp [cost]⟩
  case round =>
    obtain ⟨k, hk, rfl, rfl, hck⟩ := hrel
    by_cases h8 : cost (ls.take k) ≤ 8000
    · by_cases hlt : k < n
      · have hltl : k < ls.length := by rw [← Hnl.out]; exact hlt
        obtain ⟨-, b, o, v, rfl, hcell, hv⟩ := RowsAt.row Hx.out hltl
        have hct := cost_take ls k hltl
        have hrl := Hrow.out _ (List.getElem_mem hltl)
        obtain ⟨pv, cv, rfl⟩ := hv.slice
        have Hct := Lib.hid hct
        clear hv hct
        generalize hm : ls[k].length = m at *
        have Hc8 := Lib.hid (show cost (ls.take (k + 1)) ≤ 150000000000000 by rw [Hct.out]; omega)
        generalize hC : cost (ls.take k) = C at *
        have HC := Lib.hid hC
        have Hm := Lib.hid hm
        clear hC hm
        go_wp2_with fail
        go_round
        case rel => exact ⟨k + 1, by omega, by go_num, by rw [Hct.out]; go_num, Hc8.out⟩
        case measure => simp [intOf]; omega
      · have hls : ls.take k = ls := List.take_of_length_le (by have := Hnl.out; omega)
        rw [hls] at h8 hck ⊢
        have hkn : k = n := by omega
        have hfl : ls.flatten.length ≤ 8000 := by
          have := cost_flat ls
          omega
        have hnle : n ≤ 8000 := by
          have := cost_flat ls
          have := Hnl.out
          omega
        have Hfl := Lib.hid hfl
        have Hkn := Lib.hid hkn
        generalize hC : cost ls = C at *
        have HC := Lib.hid hC
        have Hnew := Lib.hid (st_new (w := w) (w1 := w) 1048576 (by decide) (by decide) (Below.refl _ _))
        clear hC hfl hkn hls
        go_wp2_with fail
        refine Hnew.out.mono ?_
        rintro e w1 ⟨d, rfl, hd⟩
        have Hd := Lib.hid (show St w w1 d (keepsD ls sy.toNat 0) NoF from hd)
        clear hd Hnew hk h8 hck
        clear HC Hkn
        obtain ⟨i0, hi, hz0, hz1, hz2⟩ := info_parts (show (Try.prog.info? 5).map (fun i => (i.zero, i.size, i.bytes)) = some (some (.int .u8 0), 1, 1) by kernel_rfl)
        go_wp2_with fail
        go_loopw [11, 12, 13] (fun va vs i wr => ∃ k : Nat, k ≤ n ∧ i = .int .i64 k ∧ KRel w wr d va vs ls sy.toNat k) (fun _ _ i _ => n - (intOf i).toNat)
        case atStart =>
          refine ⟨0, Nat.zero_le _, rfl, ?_, OwnR.nil _ _ _, fun j hj => (by cases hj), none, 0, by simp⟩
          exact Hd.out.move (S := fun _ => False) (Chg.refl _ _) (fun _ _ h => h.elim) fun k hk => (by cases hk)
        case round =>
          clear Hd
          obtain ⟨k, hk, rfl, hr⟩ := hrel
          obtain ⟨ps, cs, rfl⟩ := hr.sure
          by_cases hlt : k < n
          · have hltl : k < ls.length := by rw [← Hnl.out]; exact hlt
            obtain ⟨-, b, o, v, rfl, hcell, hv⟩ := RowsAt.row Hx.out hltl
            have hcell2 := (hr.st.below.cell (World.block_lt_of_cell? w _ hcell)).trans hcell
            obtain ⟨pv, cv, rfl⟩ := hv.slice
            generalize hml : ls[k].length = ml at *
            have hap := keeps_append sy.toNat hltl Hfl.out
            have happ := st_append (hr.st.alloc (.cells #[.slice pv ml cv] 23)) sF (.slice (some ⟨wr.heap.size, 0, none⟩) 1 1) [ls[k]] (rows_one (v := .slice pv ml cv) (hv.below hr.st.below) 23 (0, 0) _ 1 rfl (Nat.le_refl _)) (by simp) (by have := flat_take hltl; have h2 := flat_take_le ls (k + 1); rw [this, List.length_append] at h2; have := Hfl.out; rw [List.flatten_cons, List.flatten_nil, List.append_nil]; omega) (by decide)
            rw [show nm sF = fN from rfl, hap] at happ
            have Happ := Lib.hid happ
            have Hr := Lib.hid hr
            have Hv := Lib.hid hv
            have Hml := Lib.hid hml
            have Hcell := Lib.hid hcell
            generalize hms : (ls.take (min k sy.toNat)).flatten.length = ms at *
            have Hms := Lib.hid hms
            clear happ hr hv hcell hap hml hms
            go_wp2_with fail
            refine Happ.out.mono ?_
            rintro e w2 ⟨rfl, hst2, hsame2⟩
            have hall2 : OwnB w2 5 u11 (ls.take k).flatten := own_same (own_alloc Hr.out.all _) hsame2 fun j hj => hj
            have hv2 : HasB w2 (.slice pv ml cv) ls[k] := Hv.out.below hst2.below
            have hva := flat_take hltl
            have hvl : (ls.take k).flatten.length + ml ≤ 8000 := by
              have h2 := flat_take_le ls (k + 1)
              rw [hva, List.length_append, Hml.out] at h2
              have := Hfl.out
              omega
            unfold HasB at hv2
            rw [Hml.out] at hv2
            have hcell3 := (hst2.below.cell (World.block_lt_of_cell? w _ Hcell.out)).trans Hcell.out
            have Hst2 := Lib.hid hst2
            have Hall2 := Lib.hid hall2
            have Hv2 := Lib.hid hv2
            have Hva := Lib.hid hva
            have Hvl := Lib.hid hvl
            clear hst2 hsame2 hall2 hv2 hva hcell2 hvl
            by_cases hs : k < sy.toNat
            · have hsd : decide ((k : Int) < sy) = true := by simp; omega
              go_wp2_with (first | (at_builtin; refine wpList_app w2 rfl (.tmp 61) (.tmp 65) 23 rfl 5 i0 (.int .u8 0) 1 1 Try.underlying23 hi hz0 hz1 hz2 rfl (by decide) u11 (ls.take k).flatten.length (bytesV (ls.take k).flatten) rfl Hall2.out (.slice pv ml cv) ml (bytesV ls[k]) rfl Hv2.out (bytesV_one _) (by have := Hvl.out; unfold maxLen; omega) (by have := Hvl.out; omega) ?_; intro va' w3 hown' hgrow hloc; have Hg3 := Lib.hid (And.intro hown' (And.intro hgrow hloc)); clear hown' hgrow hloc))
              obtain ⟨hown', hgrow, hloc⟩ := Hg3.out
              obtain ⟨hst3, hnew3⟩ := st_grow Hst2.out Hr.out.new hgrow hloc hown'
              have hall3 : OwnB w3 5 va' (ls.take (k + 1)).flatten := by
                unfold OwnB
                rw [Hva.out, List.length_append, Hml.out, bytesV_app]
                exact hown'
              have hsy := st_sync hst3 [sF] w3.heap.size 1 rfl (0, 0) (by decide) (by decide)
              rw [show [sF].map nm = [fN] from rfl, keeps_sync hs] at hsy
              have Hsy := Lib.hid hsy
              have Hall3 := Lib.hid hall3
              have Hnew3 := Lib.hid hnew3
              clear hown' hgrow hloc hst3 hall3 hnew3 hsy Hg3
              refine Hsy.out.mono ?_
              rintro e w4 ⟨rfl, hst4, hsame4⟩
              have hall4 : OwnB w4 5 va' (ls.take (k + 1)).flatten := own_same (own_alloc Hall3.out _) hsame4 fun j hj => hj
              have hM := flat_take_le ls (k + 1)
              have hMf := Hfl.out
              generalize hMM : (ls.take (k + 1)).flatten.length = M at *
              have Hst4 := Lib.hid hst4
              have Hall4 := Lib.hid hall4
              have HMM := Lib.hid hMM
              have HM := Lib.hid (show M ≤ 8000 by omega)
              clear hst4 hall4 hsame4 hMM hM hMf
              go_wp2_with (first | (at_builtin; have hx4 := (own_alloc Hall4.out (.cells #[] 5)).has; unfold HasB at hx4; rw [HMM.out] at hx4; refine wpList_app _ rfl (.tmp 74) (.tmp 75) 23 rfl 5 i0 (.int .u8 0) 1 1 Try.underlying23 hi hz0 hz1 hz2 rfl (by decide) (.slice (some ⟨w4.heap.size, 0, none⟩) 0 0) 0 [] rfl (own_empty w4 _) va' M _ rfl hx4 (bytesV_one _) (by have := HM.out; unfold maxLen; omega) (by have := HM.out; omega) ?_; clear hx4; intro vs w5 hown5 hgrow5 hloc5; rw [Nat.zero_add] at hown5; obtain ⟨p5, c5, rfl⟩ := OwnR.shape hown5; have Hg5 := Lib.hid (And.intro hown5 (And.intro hgrow5 hloc5)); clear hown5 hgrow5 hloc5))
              go_roundw
              case rel =>
                obtain ⟨_, hgrow5, _⟩ := Hg5.out
                refine ⟨k + 1, by omega, by go_num, ?_, ?_, Hnew3.out, p5, c5, ?_⟩
                · exact Hst4.out.next (((Below.refl _ _).alloc (Nat.le_refl _) _).grown hgrow5 (by simp) fun j e => by simp [Value.ownBlock] at e; omega)
                · exact own_other (own_alloc Hall4.out _) hgrow5 (fun j hj e => by simp [Value.ownBlock] at e; have := OwnR.lt Hall4.out hj; omega)
                · rw [show min (k + 1) sy.toNat = k + 1 by omega, HMM.out]
              case measure => simp [intOf]; omega
            · have hsd : decide ((k : Int) < sy) = false := by simp; omega
              go_wp2_with (first | (at_builtin; refine wpList_app w2 rfl (.tmp 61) (.tmp 65) 23 rfl 5 i0 (.int .u8 0) 1 1 Try.underlying23 hi hz0 hz1 hz2 rfl (by decide) u11 (ls.take k).flatten.length (bytesV (ls.take k).flatten) rfl Hall2.out (.slice pv ml cv) ml (bytesV ls[k]) rfl Hv2.out (bytesV_one _) (by have := Hvl.out; unfold maxLen; omega) (by have := Hvl.out; omega) ?_; intro va' w3 hown' hgrow hloc; have Hg3 := Lib.hid (And.intro hown' (And.intro hgrow hloc)); clear hown' hgrow hloc))
              go_roundw
              case rel =>
                obtain ⟨hown', hgrow, hloc⟩ := Hg3.out
                obtain ⟨hst3, hnew3⟩ := st_grow Hst2.out Hr.out.new hgrow hloc hown'
                rw [keeps_stay (by omega)] at hst3
                refine ⟨k + 1, by omega, by go_num, hst3, ?_, hnew3, ps, cs, ?_⟩
                · unfold OwnB
                  rw [Hva.out, List.length_append, Hml.out, bytesV_app]
                  exact hown'
                · rw [show min (k + 1) sy.toNat = min k sy.toNat by omega, Hms.out]
              case measure => simp [intOf]; omega
          · have hkl : ls.take k = ls := List.take_of_length_le (by have := Hnl.out; omega)
            have hall := hr.all
            rw [hkl] at hall
            have hcr := st_crash hr.st dr hdr hdr'
            have Hcr := Lib.hid hcr
            have Hall := Lib.hid hall
            have Hr := Lib.hid hr
            generalize hms : (ls.take (min k sy.toNat)).flatten.length = ms at *
            have Hms := Lib.hid hms
            clear hcr hall hr hms hkl
            go_wp2_with fail
            refine Hcr.out.mono ?_
            rintro e w2 ⟨rfl, hst2, hsame2⟩
            have hall2 : OwnB w2 5 u11 ls.flatten := own_same Hall.out hsame2 fun j hj => hj
            have hrd := st_read hst2 sF (by decide)
            have Hrd := Lib.hid hrd
            have Hall2 := Lib.hid hall2
            clear hst2 hsame2 hall2 hrd
            by_cases h0 : k = 0
            · subst h0
              have hn0 : n = 0 := by omega
              rw [show nm sF = fN from rfl, keeps_get0] at Hrd
              subst hn0
              go_wp2_with fail
              refine Hrd.out.mono ?_
              rintro e w3 ⟨v, rfl, -, -, -, hst3⟩
              have Hkn := Lib.hid (known_calls w3)
              have Hb3 := Lib.hid hst3.below
              clear hst3
              go_wp2_with fail
              refine Hkn.out.mono ?_
              rintro e w4 ⟨rfl, hb4⟩
              have Hb4 := Lib.hid (Hb3.out.trans (hb4.mono Hb3.out.size))
              clear hb4
              go_wp2_with fail
              go_ret
              exact ⟨rfl, Hb4.out⟩
            · have hn0 : ((n : Int) == 0) = false := by simp; omega
              rw [show nm sF = fN from rfl, keeps_get dr h0, List.take_of_length_le (show ls.length ≤ k by have := Hnl.out; omega), Hms.out] at Hrd
              have hmsN : ms ≤ ls.flatten.length := by rw [← Hms.out]; exact flat_take_le ls _
              have hst := stays_le ⟨ls.flatten, ms⟩ dr hmsN
              simp only at hst
              have Hst := Lib.hid hst
              clear hst hmsN
              go_wp2_with fail
              refine Hrd.out.mono ?_
              rintro e w3 ⟨v, rfl, hv, -, hb3, hst3⟩
              have hv' : OwnB w3 5 v (ls.flatten.take (DiskM.stays ⟨ls.flatten, ms⟩ dr)) := hv
              have hall3 : OwnB w3 5 u11 ls.flatten := Hall2.out.keep fun j hj => hb3.block j (OwnR.lt Hall2.out hj)
              have hcap : ∃ pa ca, u11 = .slice pa ls.flatten.length ca ∧ ls.flatten.length ≤ ca := by
                obtain ⟨pa, ca, rfl⟩ := hall3.slice
                exact ⟨pa, ca, rfl, (OwnR.cap_le hall3).1⟩
              obtain ⟨pa, ca, rfl, hca⟩ := hcap
              generalize hst' : DiskM.stays ⟨ls.flatten, ms⟩ dr = st at *
              have hcut := HasB.cut hall3.has (k := st) (by have := Hst.out; omega) ca
              obtain ⟨pv, cv, rfl⟩ := hv'.slice
              have hlen : (ls.flatten.take st).length = st := by rw [List.length_take]; have := Hst.out; omega
              have hsame := same_calls hv'.has hcut (by have := Hfl.out; have := Hst.out; omega) (by have := Hfl.out; have := Hst.out; omega)
              rw [beq_self_eq_true] at hsame
              rw [hlen] at hsame ⊢
              have hsl : ∀ W, (Instr.slice 23 (.slice pa ls.flatten.length ca) none (some (.int .i64 (st : Int))) none).run Try.prog W = .ok (.slice pa st ca) W := fun W => run_upto W Try.underlying23 hi pa _ ca st (by have := Hst.out; omega)
              have hge : (ms : Int) ≤ (st : Int) := by have := Hst.out; omega
              have hle : (st : Int) ≤ (ls.flatten.length : Int) := by have := Hst.out; omega
              generalize ls.flatten.length = N at *
              have Hsame := Lib.hid hsame
              have Hst3 := Lib.hid hst3
              clear hsame hv hv' hall3 hcut hlen hb3 hst3 hst' Hcr Hall2 Hall
              go_wp2_with fail
              refine Hsame.out.mono ?_
              rintro e w4 ⟨rfl, q, rfl⟩
              have Hkn := Lib.hid (known_calls (w3.drewN q))
              have Hb3 := Lib.hid (Hst3.out.drewN q).below
              go_wp2_with fail
              refine Hkn.out.mono ?_
              rintro e w4 ⟨rfl, hb4⟩
              have Hb4 := Lib.hid (Hb3.out.trans (hb4.mono Hb3.out.size))
              clear hb4
              go_wp2_with fail
              go_ret
              exact ⟨rfl, Hb4.out⟩
    · have Hkn := Lib.hid (known_calls w)
      by_cases hlt : k < n
      all_goals
        generalize cost (ls.take k) = C at *
        go_wp2_with fail
        refine Hkn.out.mono ?_
        rintro e w' ⟨rfl, hb⟩
        go_wp2_with fail
        go_ret
        exact ⟨rfl, hb⟩
end Go.Proofs.Ytdlbamhabenhgaa
