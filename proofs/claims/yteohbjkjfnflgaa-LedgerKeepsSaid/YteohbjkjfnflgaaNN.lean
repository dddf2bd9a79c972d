/- The walk of satrapylaw14.LedgerTorn: it is true. -/
import Derived.Test.YteohbjkjfnflgaaNM
namespace Go.Proofs.Yteohbjkjfnflgaa
open Go.RowKit Go.Sat Go.Maps

def sLogA : ByteArray := ⟨#[97, 45, 108, 111, 103]⟩
def endsV (ls : List Bs) (k : Nat) : List Value := (List.range k).map fun j => Value.int .i64 ((endN ls j : Nat) : Int)
theorem endsV_succ (ls : List Bs) (k : Nat) : endsV ls (k + 1) = endsV ls k ++ [.int .i64 ((endN ls k : Nat) : Int)] := by
  unfold endsV
  rw [List.range_succ, List.map_append]
  rfl
theorem endsV_at {ls : List Bs} {k j : Nat} (h : j < k) : (endsV ls k)[j]? = some (.int .i64 ((endN ls j : Nat) : Int)) := by
  unfold endsV
  rw [List.getElem?_map, List.getElem?_range h]
  rfl

theorem holds_one {w : World} {x : Value} (e : TypeId) : Holds (w.alloc (.cells #[x] e)) 1 (.slice (some ⟨w.heap.size, 0, none⟩) 1 1) 1 [x] :=
  ⟨rfl, _, 1, rfl, fun e => (by cases e), fun a ha i u hu => by
    cases ha
    rw [add_zero]
    exact cell_of (new_block w _) (by simpa using hu)⟩

theorem own_cells {w : World} {e : TypeId} {v : Value} {n : Nat} {xs : List Value} (h : OwnR w e 1 v n xs) (hn : 0 < n) : ∃ g c, v = .slice (some ⟨g, 0, none⟩) n c ∧ ∀ (i : Nat) u, xs[i]? = some u → w.cell? ⟨g, i, none⟩ = some u := by
  have hh := h.holds
  obtain ⟨_, ⟨rfl, h0⟩ | ⟨g, cap, cur, rfl, _⟩⟩ := h
  · omega
  · refine ⟨g, cap, rfl, fun i u hu => ?_⟩
    obtain ⟨_, p, c, e, _, hc⟩ := hh
    cases e
    have := hc _ rfl i u hu
    rwa [add_zero] at this

theorem at_is {w w1 : World} {l d : Nat} {pre : ByteArray} {D : DiskM} {es : List Bs} {F : Nat → Prop} (h : LedF w w1 l d pre D (MM none es) F) {j : Nat} (hj : j < es.length) :
    Calls Try.prog 18 #[.pointer (some ⟨l, 0, none⟩), .int .i64 ((j : Int) + 1)] w1 fun e w' => ∃ v, e = .returned (.tuple #[v, .int .i64 0]) ∧ HasB w'.drew v es[j] ∧ LedF w w' l d pre D (MM none es) F := by
  have h1 := at_yes h j hj
  rw [show (((MM none es).base + 1 + j : Nat) : Int) = (j : Int) + 1 by show ((0 + 1 + j : Nat) : Int) = _; omega] at h1
  refine h1.mono ?_
  rintro e w' ⟨v, rfl, hv, -, hb⟩
  exact ⟨v, rfl, HasB.same (OwnB.has hv) fun _ _ => rfl, h.next hb⟩

theorem last_take {ls : List Bs} {W : Nat} (h : W ≤ ls.length) : (MM none (ls.take W)).last = W := by
  show 0 + (ls.take W).length = W
  rw [List.length_take]
  omega

/-- Behind k rounds of the law's loop. -/
def TRel (w wr : World) (l d : Nat) (ve : Value) (ls : List Bs) (k : Nat) : Prop :=
  LedF w wr l d sA (sD none (ls.take k) none) (MM none (ls.take k)) (fun j => ve.ownBlock = some j) ∧ OwnR wr 3 1 ve k (endsV ls k) ∧ ∀ j, ve.ownBlock = some j → w.heap.size ≤ j

set_option maxRecDepth 100000 in
set_option maxHeartbeats 16000000 in
theorem ltorn_walk {w : World} {p : Option Addr} {n c : Nat} {ls : List Bs} (hx : RowsAt w (.slice p n c) ls) (hn : n ≤ 140737488355328) (hrow : ∀ l ∈ ls, l.length ≤ 140737488355328) (z : Int)
    (hz : -9223372036854775808 ≤ z) (hz' : z ≤ 9223372036854775807) :
    Calls Try.prog 6 #[.slice p n c, .int .i64 z] w (True3 w) := by
  have hnl := RowsAt.len hx
  have Hf := Lib.hid (show True3 w (.returned (.bool true)) w from ⟨rfl, Below.refl _ _⟩)
  have Hx := Lib.hid hx
  have Hrow := Lib.hid hrow
  have Hnl := Lib.hid hnl
  clear hx hrow hnl
  by_cases h1 : n < 1
  · go_enter Try.func6, Try.ntmps6
    go_wp2_with fail
    go_ret
    exact Hf.out
  by_cases h20 : 20 < n
  · go_enter Try.func6, Try.ntmps6
    go_wp2_with fail
    go_ret
    exact Hf.out
  go_enter Try.func6, Try.ntmps6
  go_wp2_with fail
  go_loop [5, 6] (fun a i => ∃ k : Nat, k ≤ n ∧ i = .int .i64 k ∧ a = .int .i64 (((ls.take k).flatten.length : Nat) : Int) ∧ (ls.take k).flatten.length ≤ 2000 * k) (fun _ i => n - (intOf i).toNat)
  case atStart => exact ⟨0, Nat.zero_le _, rfl, rfl, by simp⟩
  case round =>
    obtain ⟨k, hk, rfl, rfl, hck⟩ := hrel
    by_cases hlt : k < n
    · have hltl : k < ls.length := by rw [← Hnl.out]; exact hlt
      obtain ⟨-, b, o, v, rfl, hcell, hv⟩ := RowsAt.row Hx.out hltl
      have hct := flat_take hltl
      have hrl := Hrow.out _ (List.getElem_mem hltl)
      obtain ⟨pv, cv, rfl⟩ := hv.slice
      have Hct := Lib.hid (show (ls.take (k + 1)).flatten.length = (ls.take k).flatten.length + ls[k].length by rw [hct, List.length_append])
      clear hv hct
      generalize hm : ls[k].length = m at *
      generalize hC : (ls.take k).flatten.length = C at *
      have HC := Lib.hid hC
      have Hm := Lib.hid hm
      clear hC hm
      by_cases hm2 : 2000 < m
      · go_wp2_with fail
        go_ret
        exact Hf.out
      · go_wp2_with fail
        go_round
        case rel => exact ⟨k + 1, by omega, by go_num, by rw [Hct.out]; go_num, by rw [Hct.out]; omega⟩
        case measure => simp [intOf]; omega
    · have hls : ls.take k = ls := List.take_of_length_le (by have := Hnl.out; omega)
      rw [hls] at hck ⊢
      have hkn : k = n := by omega
      have H14 := Lib.hid (fun h : ls.flatten.length ≤ 2000 => (⟨by have := Hnl.out; omega, h⟩ : Rows14 ls))
      generalize hC : ls.flatten.length = C at *
      by_cases h2000 : 2000 < C
      · go_wp2_with fail
        go_ret
        exact Hf.out
      · have h14 := H14.out (by omega)
        have Hnew := Lib.hid (st_new (w := w) (w1 := w) 65536 (by decide) (by decide) (Below.refl _ _))
        have kc := fun (w : World) (C : Array Value) (n c : Nat) => Lib.run_convert_bytes_const (P := Try.prog) w 33 5 C n c Try.underlying33 Try.underlying5
        clear H14 hls hck hkn hC
        go_wp2_with fail
        refine Hnew.out.mono ?_
        rintro e w1 ⟨d, rfl, hd⟩
        have Hop := Lib.hid (open_is (D := DiskM.fresh 65536) hd open_fresh)
        clear hd Hnew
        go_wp2_with fail
        refine Hop.out.mono ?_
        rintro e w2 ⟨l, rfl, hl, -⟩
        have Hl := Lib.hid hl
        clear hl Hop
        obtain ⟨i0, hi, hz0, hz1, hz2⟩ := info_parts (show (Try.prog.info? 3).map (fun i => (i.zero, i.size, i.bytes)) = some (some (.int .i64 0), 1, 8) by kernel_rfl)
        go_wp2_with fail
        go_loopw [11, 12] (fun ve i wr => ∃ k : Nat, k ≤ n ∧ i = .int .i64 k ∧ TRel w wr l d ve ls k) (fun _ i _ => n - (intOf i).toNat)
        case atStart => exact ⟨0, Nat.zero_le _, rfl, Hl.out.less (fun k hk => by cases hk), OwnR.nil _ _ _, fun j hj => by cases hj⟩
        case round =>
          clear Hl hlt
          obtain ⟨k, hk, rfl, hr⟩ := hrel
          obtain ⟨hled, hown, hnew⟩ := hr
          by_cases hlt : k < n
          · have hltl : k < ls.length := by rw [← Hnl.out]; exact hlt
            obtain ⟨-, b, o, v, rfl, hcell, hv⟩ := RowsAt.row Hx.out hltl
            have hcell2 := (hled.bel.cell (World.block_lt_of_cell? w _ hcell)).trans hcell
            obtain ⟨pv, cv, rfl⟩ := hv.slice
            have happ := app_arg hled hv (Hrow.out _ (List.getElem_mem hltl))
            rw [app_row h14 hltl (f := none) (fun j e => by cases e)] at happ
            generalize hml : ls[k].length = ml at *
            have Happ := Lib.hid happ
            have Hown := Lib.hid hown
            have Hnew := Lib.hid hnew
            clear happ hown hnew hv hled hml hcell
            go_wp2_with fail
            refine Happ.out.mono ?_
            rintro e w3 ⟨rfl, hl3, hs3⟩
            have hne : ls.take (k + 1) ≠ [] := fun e => by have := congrArg List.length e; rw [List.length_take, List.length_nil] at this; omega
            have hrd := led_get hl3 sLogA (by decide)
            rw [show nm sLogA = logA from rfl, log_len hne, show (recsB (recF 0 (ls.take (k + 1)))).length = endN ls k from rfl] at hrd
            have hown3 : OwnR w3 3 1 _ k (endsV ls k) := OwnR.keep Hown.out hs3
            have Hown3 := Lib.hid hown3
            have Hrd := Lib.hid hrd
            clear hl3 hs3 hne hrd hown3 Happ Hown
            go_wp2_with fail
            refine Hrd.out.mono ?_
            rintro e w4 ⟨p4, c4, rfl, hb4, hl4⟩
            have hown4 : OwnR w4 3 1 _ k (endsV ls k) := OwnR.keep Hown3.out fun j hj => hb4.block j (OwnR.lt Hown3.out hj)
            have Hown4 := Lib.hid hown4
            have Hl4 := Lib.hid hl4
            clear hl4 hown4 hb4 Hown3 Hrd
            generalize hE : endN ls k = E at *
            have HE := Lib.hid hE
            have hk20 : k ≤ 20 := by omega
            go_wp2_with (first | (at_builtin; refine wpList_app (w4.alloc (.cells #[.int .i64 (E : Int)] 3)) rfl (.tmp 86) (.tmp 89) 46 rfl 3 i0 (.int .i64 0) 1 8 Try.underlying46 hi hz0 hz1 hz2 rfl (by decide) u11 k (endsV ls k) rfl (OwnR.keep Hown4.out fun j hj => (Below.block ((Below.refl _ _).alloc (Nat.le_refl _) _) j (OwnR.lt Hown4.out hj))) (.slice (some ⟨w4.heap.size, 0, none⟩) 1 1) 1 [.int .i64 (E : Int)] rfl (holds_one _) (fun u hu => by simp at hu; subst hu; rfl) (by unfold maxLen; omega) (by omega) ?_; intro ve5 w5 hown5 hgrow5 hloc5; have Hg5 := Lib.hid (And.intro hown5 (And.intro hgrow5 hloc5)); clear hown5 hgrow5 hloc5))
            go_roundw
            case rel =>
              obtain ⟨hown5, hgrow5, hloc5⟩ := Hg5.out
              obtain ⟨hl5, hn5⟩ := led_grow (Hl4.out.next (below_one w4 _)) Hnew.out hgrow5 (hloc5.imp id fun ⟨g, e, hg⟩ => ⟨g, e, hg⟩) hown5
              refine ⟨k + 1, by omega, by go_num, hl5, ?_, hn5⟩
              rw [endsV_succ, HE.out]
              exact hown5
            case measure => simp [intOf]; omega
          · obtain rfl : k = n := by omega
            have hls : ls.take k = ls := List.take_of_length_le (by have := Hnl.out; omega)
            have hlsne : ls ≠ [] := fun e => by have := Hnl.out; rw [e, List.length_nil] at this; omega
            rw [hls] at hled
            obtain ⟨N, hN⟩ : ∃ N, k = N + 1 := ⟨k - 1, by omega⟩
            obtain ⟨g, ce, rfl, hcells⟩ := own_cells hown (by omega)
            obtain ⟨cm, hcm, hcm2⟩ := mask_30 z
            have hlen14 := h14.len
            have hT : endN ls N = (recsB (recF 0 ls)).length := by unfold endN; rw [show N + 1 = k by omega, hls]
            have hcT := hcells N _ (endsV_at (ls := ls) (k := k) (j := N) (by omega))
            have HT := Lib.hid hT
            have hTle : endN ls N ≤ 2900 := by omega
            have HTT := Lib.hid (rfl : endN ls N = endN ls N)
            generalize hTg : endN ls N = T at *
            have HTg := Lib.hid hTg
            have hsub : IntKind.i64.wrap ((k : Int) - 1) = (N : Int) := by rw [IntWalk.i64_in _ (by omega)]; omega
            have hrem : Int.tmod (cm : Int) ((T : Int) + 1) = ((cm % (T + 1) : Nat) : Int) := rfl
            have hK : cm % (T + 1) ≤ T := by have := Nat.mod_lt cm (show 0 < T + 1 by omega); omega
            have htr := st_trunc hled.stF sLogA (by decide) ((cm % (T + 1) : Nat) : Int) (by omega) (by omega)
            rw [show nm sLogA = logA from rfl, trunc_s hlsne (by rw [← HT.out]; exact hK)] at htr
            have Htr := Lib.hid htr
            have Hcells := Lib.hid hcells
            have Hglt := Lib.hid (OwnR.lt hown (k := g) rfl)
            clear htr hT HTT hlen14 hls hlsne hled hown hnew hTg hcells
            generalize hKK : cm % (T + 1) = K at *
            have hNk : N < k := by omega
            have HN := Lib.hid hN
            clear hKK hN hcm2
            go_wp2_with fail
            refine Htr.out.mono ?_
            rintro e w3 ⟨rfl, hd3, hs3⟩
            have Hc3 := Lib.hid (fun (j : Nat) (hj : j < k) => (World.cell?_of_block (a := ⟨g, j, none⟩) (hs3 g rfl)).trans (Hcells.out j _ (endsV_at hj)))
            have Hd3 := Lib.hid hd3
            have HKT := Lib.hid hK
            clear hd3 hs3 Htr Hcells hcT hK hcm hsub hrem hTle
            go_wp2_with fail
            go_loop [16] (fun x => ∃ W : Nat, W ≤ k ∧ x = .int .i64 W ∧ (W = 0 ∨ endN ls (W - 1) ≤ K)) (fun x => k - (intOf x).toNat)
            case atStart => exact ⟨0, Nat.zero_le _, rfl, .inl rfl⟩
            case round =>
              obtain ⟨W, hW, rfl, hWlo⟩ := hrel
              have hex : (W < k ∧ endN ls W ≤ K) ∨ (W < k ∧ K < endN ls W) ∨ ¬ W < k := by omega
              rcases hex with ⟨hWk, hEK⟩ | ⟨hWk, hEK⟩ | hWk
              · have hcW := Hc3.out W hWk
                have HEK := Lib.hid (show endN ls (W + 1 - 1) ≤ K from hEK)
                generalize endN ls W = E at *
                clear hWlo
                go_wp2_with fail
                go_round
                case rel => exact ⟨W + 1, by omega, by go_num, .inr HEK.out⟩
                case measure => simp [intOf]; omega
              · have hcW := Hc3.out W hWk
                have hopn := torn_open h14.fits (k := K) (W := W) (by have := Hnl.out; omega) hWlo (fun _ => hEK) (by have := HT.out; have := HKT.out; omega)
                clear hWlo
                generalize endN ls W = E at *
                have Hop := Lib.hid (open_is Hd3.out hopn)
                have HW := Lib.hid (show W ≤ ls.length by have := Hnl.out; omega)
                clear hopn Hd3
                go_wp2_with fail
                refine Hop.out.mono ?_
                rintro e w4 ⟨l2, rfl, hl, -⟩
                have Hl := Lib.hid (hl.less (F' := NoF) fun _ h => h.elim)
                clear hl Hop
                go_wp2_with fail
                refine (last_is Hl.out (last_take HW.out)).mono ?_
                rintro e w5 ⟨rfl, hl⟩
                have Hl := Lib.hid hl
                clear hl
                go_wp2_with fail
                go_loopw [18] (fun x wr => ∃ j : Nat, j ≤ W ∧ x = .int .i64 ((j : Int) + 1) ∧ LedF w wr l2 d sA (sD none (ls.take W) none) (MM none (ls.take W)) NoF) (fun x _ => W + 1 - (intOf x).toNat)
                case atStart => exact ⟨0, Nat.zero_le _, rfl, Hl.out⟩
                case round =>
                  clear Hl
                  obtain ⟨j, hj, rfl, hr⟩ := hrel
                  by_cases hjW : j < W
                  · have hltl : j < ls.length := by have := HW.out; omega
                    have hjn : j < k := by omega
                    have hj20 : j ≤ 20 := by omega
                    have hwj : IntKind.i64.wrap (j : Int) = (j : Int) := IntWalk.i64_in _ (by omega)
                    obtain ⟨-, b, o, v, rfl, hcell, hv⟩ := RowsAt.row Hx.out hltl
                    obtain ⟨pv, cv, rfl⟩ := hv.slice
                    have hat := at_is hr (j := j) (by rw [List.length_take]; omega)
                    rw [List.getElem_take] at hat
                    have Hat := Lib.hid hat
                    have Hcell := Lib.hid hcell
                    have Hv := Lib.hid hv
                    generalize ls[j].length = ml at *
                    clear hat hcell hv hr
                    go_wp2_with fail
                    refine Hat.out.mono ?_
                    rintro e w6 ⟨v6, rfl, hv6, hl6⟩
                    have hb6 : Below w.heap.size w w6.drew := (hl6.next (below_drew w6)).bel
                    have hcell6 : w6.drew.cell? ⟨b, o + j, none⟩ = some (.slice pv ml cv) := (hb6.cell (World.block_lt_of_cell? w _ Hcell.out)).trans Hcell.out
                    have hcv1 := conv_str (P := Try.prog) (W := w6.drew) (dst := 9) Try.underlying33 Try.underlying5 Try.underlying9 hv6
                    have hcv2 := conv_str (P := Try.prog) (W := w6.drew) (dst := 9) Try.underlying33 Try.underlying5 Try.underlying9 (HasB.old Hv.out hb6)
                    have Hl6 := Lib.hid (hl6.next (below_drew w6))
                    clear hv6 hl6 hb6 Hat
                    generalize ls[j].toArray = sj at *
                    go_wp2_with fail
                    refine ord_start (fun W' : World => W' = w6.drew) (n := 13) (by kernel_rfl) rfl rfl (fun hHeld => ?_)
                    refine ord_take 0 (v := ?v901x0) rfl (by kernel_rfl) (by kernel_rfl) (by kernel_rfl) (fun _ _ _ h => h) (by rfl) (by assumption) ?y901x0 ?_
                    case y901x0 => (intro W hSw; (try dsimp only at hSw); subst hSw; go_simp; try with_reducible rfl)
                    simp only [Act.put, List.setIfInBounds_toArray, List.set_cons_zero, List.set_cons_succ]
                    refine ord_take 1 (v := ?v901x1) rfl (by kernel_rfl) (by kernel_rfl) (by kernel_rfl) (fun _ _ _ h => h) (by rfl) (by assumption) ?y901x1 ?_
                    case y901x1 => (intro W hSw; (try dsimp only at hSw); subst hSw; go_simp; try with_reducible rfl)
                    simp only [Act.put, List.setIfInBounds_toArray, List.set_cons_zero, List.set_cons_succ]
                    refine ord_take 2 (v := ?v901x2) rfl (by kernel_rfl) (by kernel_rfl) (by kernel_rfl) (fun _ _ _ h => h) (by rfl) (by assumption) ?y901x2 ?_
                    case y901x2 => (intro W hSw; (try dsimp only at hSw); subst hSw; go_simp; try with_reducible rfl)
                    simp only [Act.put, List.setIfInBounds_toArray, List.set_cons_zero, List.set_cons_succ]
                    refine ord_take 3 (v := ?v901x3) rfl (by kernel_rfl) (by kernel_rfl) (by kernel_rfl) (fun _ _ _ h => h) (by rfl) (by assumption) ?y901x3 ?_
                    case y901x3 => (intro W hSw; (try dsimp only at hSw); subst hSw; go_simp; try with_reducible rfl)
                    simp only [Act.put, List.setIfInBounds_toArray, List.set_cons_zero, List.set_cons_succ]
                    refine ord_take 4 (v := ?v901x4) rfl (by kernel_rfl) (by kernel_rfl) (by kernel_rfl) (fun _ _ _ h => h) (by rfl) (by assumption) ?y901x4 ?_
                    case y901x4 => (intro W hSw; (try dsimp only at hSw); subst hSw; go_simp; try with_reducible rfl)
                    simp only [Act.put, List.setIfInBounds_toArray, List.set_cons_zero, List.set_cons_succ]
                    refine ord_take 5 (v := ?v901x5) rfl (by kernel_rfl) (by kernel_rfl) (by kernel_rfl) (fun _ _ _ h => h) (by rfl) (by assumption) ?y901x5 ?_
                    case y901x5 => (intro W hSw; (try dsimp only at hSw); subst hSw; go_simp; try with_reducible rfl)
                    simp only [Act.put, List.setIfInBounds_toArray, List.set_cons_zero, List.set_cons_succ]
                    refine ord_take 6 (v := ?v901x6) rfl (by kernel_rfl) (by kernel_rfl) (by kernel_rfl) (fun _ _ _ h => h) (by rfl) (by assumption) ?y901x6 ?_
                    case y901x6 => (intro W hSw; (try dsimp only at hSw); subst hSw; go_simp; try with_reducible rfl)
                    simp only [Act.put, List.setIfInBounds_toArray, List.set_cons_zero, List.set_cons_succ]
                    refine ord_take 7 (v := ?v901x7) rfl (by kernel_rfl) (by kernel_rfl) (by kernel_rfl) (fun _ _ _ h => h) (by rfl) (by assumption) ?y901x7 ?_
                    case y901x7 => (intro W hSw; (try dsimp only at hSw); subst hSw; go_simp; try with_reducible rfl)
                    simp only [Act.put, List.setIfInBounds_toArray, List.set_cons_zero, List.set_cons_succ]
                    refine ord_take 8 (v := ?v901x8) rfl (by kernel_rfl) (by kernel_rfl) (by kernel_rfl) (fun _ _ _ h => h) (by rfl) (by assumption) ?y901x8 ?_
                    case y901x8 => (intro W hSw; (try dsimp only at hSw); subst hSw; go_simp; try with_reducible rfl)
                    simp only [Act.put, List.setIfInBounds_toArray, List.set_cons_zero, List.set_cons_succ]
                    refine ord_take 9 (v := ?v901x9) rfl (by kernel_rfl) (by kernel_rfl) (by kernel_rfl) (fun _ _ _ h => h) (by rfl) (by assumption) ?y901x9 ?_
                    case y901x9 => (intro W hSw; (try dsimp only at hSw); subst hSw; go_simp; try with_reducible rfl)
                    simp only [Act.put, List.setIfInBounds_toArray, List.set_cons_zero, List.set_cons_succ]
                    refine ord_take 10 (v := ?v901x10) rfl (by kernel_rfl) (by kernel_rfl) (by kernel_rfl) (fun _ _ _ h => h) (by rfl) (by assumption) ?y901x10 ?_
                    case y901x10 => (intro W hSw; (try dsimp only at hSw); subst hSw; go_simp; try with_reducible rfl)
                    simp only [Act.put, List.setIfInBounds_toArray, List.set_cons_zero, List.set_cons_succ]
                    refine ord_take 11 (v := ?v901x11) rfl (by kernel_rfl) (by kernel_rfl) (by kernel_rfl) (fun _ _ _ h => h) (by rfl) (by assumption) ?y901x11 ?_
                    case y901x11 => (intro W hSw; (try dsimp only at hSw); subst hSw; go_simp; try with_reducible rfl)
                    simp only [Act.put, List.setIfInBounds_toArray, List.set_cons_zero, List.set_cons_succ]
                    refine ord_take 12 (v := ?v901x12) rfl (by kernel_rfl) (by kernel_rfl) (by kernel_rfl) (fun _ _ _ h => h) (by rfl) (by assumption) ?y901x12 ?_
                    case y901x12 => (intro W hSw; (try dsimp only at hSw); subst hSw; go_simp; try with_reducible rfl)
                    simp only [Act.put, List.setIfInBounds_toArray, List.set_cons_zero, List.set_cons_succ]
                    refine wpAnyH_done (by kernel_rfl) ?_ _
                    go_wp2_with fail
                    go_roundw
                    case rel => exact ⟨j + 1, by omega, by go_num, Hl6.out⟩
                    case measure => simp [intOf]; omega
                  · obtain ⟨hnx, hop2, hla2⟩ := app_next h14 W HW.out
                    have happ := app_lit hr #[.int .u8 110, .int .u8 101, .int .u8 120, .int .u8 116] bnext rfl (n := 4) (c := 4) rfl (by decide) (4, 5)
                    rw [hnx] at happ
                    have Happ := Lib.hid happ
                    have hW20 : W ≤ 20 := by omega
                    have hjW2 : j = W := by omega
                    clear happ hr hnx
                    go_wp2_with fail
                    refine Happ.out.mono ?_
                    rintro e wb ⟨rfl, hl, -⟩
                    have Hcr := Lib.hid (st_crash hl.st 0 (by decide) (by decide))
                    clear hl Happ
                    go_wp2_with fail
                    refine Hcr.out.mono ?_
                    rintro e wc ⟨rfl, hd, -⟩
                    have Hop := Lib.hid (open_is hd (hop2 0))
                    clear hd Hcr
                    go_wp2_with fail
                    refine Hop.out.mono ?_
                    rintro e wd ⟨l3, rfl, hl, -⟩
                    have Hl := Lib.hid hl
                    clear hl Hop
                    go_wp2_with fail
                    refine (last_is Hl.out hla2).mono ?_
                    rintro e we ⟨rfl, hl⟩
                    have Hl := Lib.hid hl
                    clear hl
                    go_wp2_with fail
                    refine (knownL_calls we).mono ?_
                    rintro e wf ⟨rfl, hb⟩
                    have Hb := Lib.hid (below_on Hl.out.bel hb)
                    clear hb
                    go_wp2_with fail
                    go_ret
                    exact ⟨rfl, Hb.out⟩
              · have hopn := torn_open h14.fits (k := K) (W := W) (by have := Hnl.out; omega) hWlo (fun h => by have := Hnl.out; omega) (by have := HT.out; have := HKT.out; omega)
                clear hWlo
                have Hop := Lib.hid (open_is Hd3.out hopn)
                have HW := Lib.hid (show W ≤ ls.length by have := Hnl.out; omega)
                clear hopn Hd3
                go_wp2_with fail
                refine Hop.out.mono ?_
                rintro e w4 ⟨l2, rfl, hl, -⟩
                have Hl := Lib.hid (hl.less (F' := NoF) fun _ h => h.elim)
                clear hl Hop
                go_wp2_with fail
                refine (last_is Hl.out (last_take HW.out)).mono ?_
                rintro e w5 ⟨rfl, hl⟩
                have Hl := Lib.hid hl
                clear hl
                go_wp2_with fail
                go_loopw [18] (fun x wr => ∃ j : Nat, j ≤ W ∧ x = .int .i64 ((j : Int) + 1) ∧ LedF w wr l2 d sA (sD none (ls.take W) none) (MM none (ls.take W)) NoF) (fun x _ => W + 1 - (intOf x).toNat)
                case atStart => exact ⟨0, Nat.zero_le _, rfl, Hl.out⟩
                case round =>
                  clear Hl
                  obtain ⟨j, hj, rfl, hr⟩ := hrel
                  by_cases hjW : j < W
                  · have hltl : j < ls.length := by have := HW.out; omega
                    have hjn : j < k := by omega
                    have hj20 : j ≤ 20 := by omega
                    have hwj : IntKind.i64.wrap (j : Int) = (j : Int) := IntWalk.i64_in _ (by omega)
                    obtain ⟨-, b, o, v, rfl, hcell, hv⟩ := RowsAt.row Hx.out hltl
                    obtain ⟨pv, cv, rfl⟩ := hv.slice
                    have hat := at_is hr (j := j) (by rw [List.length_take]; omega)
                    rw [List.getElem_take] at hat
                    have Hat := Lib.hid hat
                    have Hcell := Lib.hid hcell
                    have Hv := Lib.hid hv
                    generalize ls[j].length = ml at *
                    clear hat hcell hv hr
                    go_wp2_with fail
                    refine Hat.out.mono ?_
                    rintro e w6 ⟨v6, rfl, hv6, hl6⟩
                    have hb6 : Below w.heap.size w w6.drew := (hl6.next (below_drew w6)).bel
                    have hcell6 : w6.drew.cell? ⟨b, o + j, none⟩ = some (.slice pv ml cv) := (hb6.cell (World.block_lt_of_cell? w _ Hcell.out)).trans Hcell.out
                    have hcv1 := conv_str (P := Try.prog) (W := w6.drew) (dst := 9) Try.underlying33 Try.underlying5 Try.underlying9 hv6
                    have hcv2 := conv_str (P := Try.prog) (W := w6.drew) (dst := 9) Try.underlying33 Try.underlying5 Try.underlying9 (HasB.old Hv.out hb6)
                    have Hl6 := Lib.hid (hl6.next (below_drew w6))
                    clear hv6 hl6 hb6 Hat
                    generalize ls[j].toArray = sj at *
                    go_wp2_with fail
                    refine ord_start (fun W' : World => W' = w6.drew) (n := 13) (by kernel_rfl) rfl rfl (fun hHeld => ?_)
                    refine ord_take 0 (v := ?v902x0) rfl (by kernel_rfl) (by kernel_rfl) (by kernel_rfl) (fun _ _ _ h => h) (by rfl) (by assumption) ?y902x0 ?_
                    case y902x0 => (intro W hSw; (try dsimp only at hSw); subst hSw; go_simp; try with_reducible rfl)
                    simp only [Act.put, List.setIfInBounds_toArray, List.set_cons_zero, List.set_cons_succ]
                    refine ord_take 1 (v := ?v902x1) rfl (by kernel_rfl) (by kernel_rfl) (by kernel_rfl) (fun _ _ _ h => h) (by rfl) (by assumption) ?y902x1 ?_
                    case y902x1 => (intro W hSw; (try dsimp only at hSw); subst hSw; go_simp; try with_reducible rfl)
                    simp only [Act.put, List.setIfInBounds_toArray, List.set_cons_zero, List.set_cons_succ]
                    refine ord_take 2 (v := ?v902x2) rfl (by kernel_rfl) (by kernel_rfl) (by kernel_rfl) (fun _ _ _ h => h) (by rfl) (by assumption) ?y902x2 ?_
                    case y902x2 => (intro W hSw; (try dsimp only at hSw); subst hSw; go_simp; try with_reducible rfl)
                    simp only [Act.put, List.setIfInBounds_toArray, List.set_cons_zero, List.set_cons_succ]
                    refine ord_take 3 (v := ?v902x3) rfl (by kernel_rfl) (by kernel_rfl) (by kernel_rfl) (fun _ _ _ h => h) (by rfl) (by assumption) ?y902x3 ?_
                    case y902x3 => (intro W hSw; (try dsimp only at hSw); subst hSw; go_simp; try with_reducible rfl)
                    simp only [Act.put, List.setIfInBounds_toArray, List.set_cons_zero, List.set_cons_succ]
                    refine ord_take 4 (v := ?v902x4) rfl (by kernel_rfl) (by kernel_rfl) (by kernel_rfl) (fun _ _ _ h => h) (by rfl) (by assumption) ?y902x4 ?_
                    case y902x4 => (intro W hSw; (try dsimp only at hSw); subst hSw; go_simp; try with_reducible rfl)
                    simp only [Act.put, List.setIfInBounds_toArray, List.set_cons_zero, List.set_cons_succ]
                    refine ord_take 5 (v := ?v902x5) rfl (by kernel_rfl) (by kernel_rfl) (by kernel_rfl) (fun _ _ _ h => h) (by rfl) (by assumption) ?y902x5 ?_
                    case y902x5 => (intro W hSw; (try dsimp only at hSw); subst hSw; go_simp; try with_reducible rfl)
                    simp only [Act.put, List.setIfInBounds_toArray, List.set_cons_zero, List.set_cons_succ]
                    refine ord_take 6 (v := ?v902x6) rfl (by kernel_rfl) (by kernel_rfl) (by kernel_rfl) (fun _ _ _ h => h) (by rfl) (by assumption) ?y902x6 ?_
                    case y902x6 => (intro W hSw; (try dsimp only at hSw); subst hSw; go_simp; try with_reducible rfl)
                    simp only [Act.put, List.setIfInBounds_toArray, List.set_cons_zero, List.set_cons_succ]
                    refine ord_take 7 (v := ?v902x7) rfl (by kernel_rfl) (by kernel_rfl) (by kernel_rfl) (fun _ _ _ h => h) (by rfl) (by assumption) ?y902x7 ?_
                    case y902x7 => (intro W hSw; (try dsimp only at hSw); subst hSw; go_simp; try with_reducible rfl)
                    simp only [Act.put, List.setIfInBounds_toArray, List.set_cons_zero, List.set_cons_succ]
                    refine ord_take 8 (v := ?v902x8) rfl (by kernel_rfl) (by kernel_rfl) (by kernel_rfl) (fun _ _ _ h => h) (by rfl) (by assumption) ?y902x8 ?_
                    case y902x8 => (intro W hSw; (try dsimp only at hSw); subst hSw; go_simp; try with_reducible rfl)
                    simp only [Act.put, List.setIfInBounds_toArray, List.set_cons_zero, List.set_cons_succ]
                    refine ord_take 9 (v := ?v902x9) rfl (by kernel_rfl) (by kernel_rfl) (by kernel_rfl) (fun _ _ _ h => h) (by rfl) (by assumption) ?y902x9 ?_
                    case y902x9 => (intro W hSw; (try dsimp only at hSw); subst hSw; go_simp; try with_reducible rfl)
                    simp only [Act.put, List.setIfInBounds_toArray, List.set_cons_zero, List.set_cons_succ]
                    refine ord_take 10 (v := ?v902x10) rfl (by kernel_rfl) (by kernel_rfl) (by kernel_rfl) (fun _ _ _ h => h) (by rfl) (by assumption) ?y902x10 ?_
                    case y902x10 => (intro W hSw; (try dsimp only at hSw); subst hSw; go_simp; try with_reducible rfl)
                    simp only [Act.put, List.setIfInBounds_toArray, List.set_cons_zero, List.set_cons_succ]
                    refine ord_take 11 (v := ?v902x11) rfl (by kernel_rfl) (by kernel_rfl) (by kernel_rfl) (fun _ _ _ h => h) (by rfl) (by assumption) ?y902x11 ?_
                    case y902x11 => (intro W hSw; (try dsimp only at hSw); subst hSw; go_simp; try with_reducible rfl)
                    simp only [Act.put, List.setIfInBounds_toArray, List.set_cons_zero, List.set_cons_succ]
                    refine ord_take 12 (v := ?v902x12) rfl (by kernel_rfl) (by kernel_rfl) (by kernel_rfl) (fun _ _ _ h => h) (by rfl) (by assumption) ?y902x12 ?_
                    case y902x12 => (intro W hSw; (try dsimp only at hSw); subst hSw; go_simp; try with_reducible rfl)
                    simp only [Act.put, List.setIfInBounds_toArray, List.set_cons_zero, List.set_cons_succ]
                    refine wpAnyH_done (by kernel_rfl) ?_ _
                    go_wp2_with fail
                    go_roundw
                    case rel => exact ⟨j + 1, by omega, by go_num, Hl6.out⟩
                    case measure => simp [intOf]; omega
                  · obtain ⟨hnx, hop2, hla2⟩ := app_next h14 W HW.out
                    have happ := app_lit hr #[.int .u8 110, .int .u8 101, .int .u8 120, .int .u8 116] bnext rfl (n := 4) (c := 4) rfl (by decide) (4, 5)
                    rw [hnx] at happ
                    have Happ := Lib.hid happ
                    have hW20 : W ≤ 20 := by omega
                    have hjW2 : j = W := by omega
                    clear happ hr hnx
                    go_wp2_with fail
                    refine Happ.out.mono ?_
                    rintro e wb ⟨rfl, hl, -⟩
                    have Hcr := Lib.hid (st_crash hl.st 0 (by decide) (by decide))
                    clear hl Happ
                    go_wp2_with fail
                    refine Hcr.out.mono ?_
                    rintro e wc ⟨rfl, hd, -⟩
                    have Hop := Lib.hid (open_is hd (hop2 0))
                    clear hd Hcr
                    go_wp2_with fail
                    refine Hop.out.mono ?_
                    rintro e wd ⟨l3, rfl, hl, -⟩
                    have Hl := Lib.hid hl
                    clear hl Hop
                    go_wp2_with fail
                    refine (last_is Hl.out hla2).mono ?_
                    rintro e we ⟨rfl, hl⟩
                    have Hl := Lib.hid hl
                    clear hl
                    go_wp2_with fail
                    refine (knownL_calls we).mono ?_
                    rintro e wf ⟨rfl, hb⟩
                    have Hb := Lib.hid (below_on Hl.out.bel hb)
                    clear hb
                    go_wp2_with fail
                    go_ret
                    exact ⟨rfl, Hb.out⟩
end Go.Proofs.Yteohbjkjfnflgaa
