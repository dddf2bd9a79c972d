/- journal: Append. (Printed by mkj12.py.) journal: writes. (Printed by mkj13.py.) -/
import Derived.Test.YtngflpaooppmhaaGreatWC
import Derived.Test.YtngflpaooppmhaaGreatWE
namespace Go.Proofs.YtngflpaooppmhaaGreat
open Go.RowKit Go.Sat Go.Maps

/-- A block for an entry. -/
structure EntBox (w : World) (b : Nat) : Prop where
  all : w.heap[b]? = some (.cells #[.int .i64 0, .int .i64 0, .slice none 0 0, .slice none 0 0] 47)
theorem entBox_new (w : World) : EntBox (w.alloc (.cells #[.int .i64 0, .int .i64 0, .slice none 0 0, .slice none 0 0] 47)) w.heap.size := ⟨new_block w _⟩

section
variable {w w1 : World} {j d : Nat} {pre : ByteArray} {D : DiskM} {M : JouM} {F : Nat → Prop}

set_option maxRecDepth 100000 in
set_option maxHeartbeats 8000000 in
theorem jappend_calls (h : JouF w w1 j d pre D M F) {p : Option Addr} {n c : Nat} {es : List Ent} {vs : List EV} (hx : ∀ W, Below w.heap.size w W → Same F w1 W → EntsHas W (.slice p n c) es vs) (hn : n ≤ 1000000) :
    Calls Tryz.prog 60 #[.pointer (some ⟨j, 0, none⟩), .slice p n c] w1 (JouTold w w1 j d pre F (jouAppend (nm pre) D M es)) := by
  obtain ⟨i0, hi, hz0, hz1, hz2⟩ := info_parts (show (Tryz.prog.info? 23).map (fun i => (i.zero, i.size, i.bytes)) = some (some (.slice none 0 0), 1, 24) by kernel_rfl)
  obtain ⟨i4, hi4, hz40, hz41, hz42⟩ := info_parts (show (Tryz.prog.info? 47).map (fun i => (i.zero, i.size, i.bytes)) = some (some (.agg #[.int .i64 0, .int .i64 0, .slice none 0 0, .slice none 0 0]), 4, 64) by kernel_rfl)
  have Hmay := Lib.hid (jmay_calls h)
  have Hla := Lib.hid (jlast_calls h)
  have Hid := Lib.hid (fun k w2 (hb : Below w1.heap.size w1 w2) (hr : jouAppend (nm pre) D M es = ⟨D, M, k⟩) => jouTold_id h hb hr)
  have HR := Lib.hid (show jouAppend (nm pre) D M es = if M.dead then ⟨D, M, 9⟩ else if 1099511627776 < M.last + es.length ∨ es.all isEnt = false then ⟨D, M, 1⟩ else if es = [] then ⟨D, M, 0⟩ else laysJ (nm pre) D M (entsB M.last es) { M with entries := M.entries ++ es } from rfl)
  have hla := h.okM.last
  have hnn := (hx w1 h.bel fun _ _ => rfl).len
  cases hd : M.dead with
  | true =>
    rw [hd] at Hmay
    have HE := Lib.hid (Hid.out 9 w1 (Below.refl _ _) (by rw [HR.out, hd]; rfl))
    clear h
    go_enter Tryz.func60, Tryz.ntmps60
    go_wp2_with fail
    refine Hmay.out.mono ?_
    rintro e w2 ⟨rfl, rfl⟩
    go_wp2_with fail
    go_ret
    exact HE.out
  | false =>
    rw [hd] at Hmay
    generalize hL : M.last = la at *
    generalize hLT : M.lastT = lt at *
    have hw1 : IntKind.i64.wrap (1099511627776 - (la : Int)) = 1099511627776 - (la : Int) := IntWalk.i64_in _ (by omega)
    by_cases hbig : 1099511627776 < la + n
    · have HE := Lib.hid (fun q => Hid.out 1 (w1.drewN q) ⟨rfl, rfl, rfl, Nat.le_refl _, fun _ _ => rfl⟩ (by rw [HR.out, hd, if_neg (by simp), if_pos (.inl (by rw [hnn]; exact hbig))]))
      have hgt : (1099511627776 : Int) - (la : Int) < (n : Int) := by omega
      clear h hbig
      go_enter Tryz.func60, Tryz.ntmps60
      go_wp2_with fail
      refine Hmay.out.mono ?_
      rintro e w2 ⟨rfl, rfl⟩
      go_wp2_with fail
      refine Hla.out.mono ?_
      rintro e w2 ⟨rfl, q, rfl⟩
      go_wp2_with fail
      go_ret
      exact HE.out q
    · have hgt : decide ((1099511627776 : Int) - (la : Int) < (n : Int)) = false := by simp; omega
      have HD := Lib.hid hd
      have H := Lib.hid h
      have Hx := Lib.hid hx
      have Hnn := Lib.hid hnn
      have Hbig := Lib.hid hbig
      have HL := Lib.hid hL
      have hla40 : la ≤ 1099511627776 := hla
      clear h hx hnn hbig hL hLT hla hd
      go_enter Tryz.func60, Tryz.ntmps60
      go_wp2_with fail
      refine Hmay.out.mono ?_
      rintro e w2 ⟨rfl, rfl⟩
      go_wp2_with fail
      refine Hla.out.mono ?_
      rintro e w3 ⟨rfl, q, rfl⟩
      have HBq := Lib.hid (show Below w2.heap.size w2 (w2.drewN q) from ⟨rfl, rfl, rfl, Nat.le_refl _, fun _ _ => rfl⟩)
      generalize hW0 : w2.drewN q = W0 at *
      clear hW0
      go_wp2_with fail
      go_loopw [8, 31] (fun x i wr => ∃ (k : Nat) (us : List Value) (xv : Value), k ≤ n ∧ i = .int .i64 k ∧ xv = x ∧ (∀ e ∈ es.take k, isEnt e = true) ∧ RowsN W0 wr xv us (entsB la (es.take k))) (fun _ i _ => n - (intOf i).toNat)
      case atStart => exact ⟨0, [], _, Nat.zero_le _, rfl, rfl, fun e he => (by simp at he), RowsN.nil _⟩
      case round =>
        obtain ⟨k, us, xv, hk, rfl, rfl, hes, hrn⟩ := hrel
        have hb2r : Below w2.heap.size w2 wr := HBq.out.trans (hrn.bel.mono HBq.out.size)
        by_cases hlt : k < n
        · have hkl : k < es.length := by rw [Hnn.out]; exact hlt
          obtain ⟨b, o, v, rfl, heh, k0, k1, k2, k3⟩ := (Hx.out wr (H.out.bel.trans (hb2r.mono H.out.bel.size)) (H.out.same hb2r)).ent hkl
          have HTk := Lib.hid (entsB_take (n := la) hkl)
          have HTe := Lib.hid (List.take_succ_eq_append_getElem hkl)
          have Hall := Lib.hid (show isEnt es[k] = false → es.all isEnt = false from fun hf => by
            rw [Bool.eq_false_iff]
            intro ht
            have := List.all_eq_true.1 ht _ (List.getElem_mem hkl)
            rw [hf] at this
            cases this)
          generalize es[k] = e at *
          obtain ⟨v1, v2⟩ := v
          obtain ⟨p1, c1, e1⟩ := heh.data.slice
          obtain ⟨p2, c2, e2⟩ := heh.nodes.slice
          have e1' : v1 = .slice p1 e.data.length c1 := e1
          have e2' : v2 = .slice p2 e.nodes.length c2 := e2
          subst e1'
          subst e2'
          have k2 : wr.cell? ⟨b, o + k * 4 + 2, none⟩ = some (.slice p1 e.data.length c1) := k2
          have k3 : wr.cell? ⟨b, o + k * 4 + 3, none⟩ = some (.slice p2 e.nodes.length c2) := k3
          have Heh := Lib.hid heh
          have hdl := heh.dl
          have hnl := heh.nl
          have Hrn := Lib.hid hrn
          have Hes := Lib.hid hes
          have HB2 := Lib.hid hb2r
          have hR := (entBox_new wr).all
          have r0 := cell_of hR (i := 0) rfl
          have r1 := cell_of hR (i := 1) rfl
          have r2 := cell_of hR (i := 2) rfl
          have r3 := cell_of hR (i := 3) rfl
          have fr := frozen_of hR
          clear hkl heh e1 e2 hrn hes hb2r hR
          go_wp2_with fail
          have hb1 := below_one wr (.cells #[.int .i64 e.term, .int .i64 e.kind, .slice p1 e.data.length c1, .slice p2 e.nodes.length c2] 47)
          have HBX := Lib.hid (new_block wr (.cells #[.int .i64 e.term, .int .i64 e.kind, .slice p1 e.data.length c1, .slice p2 e.nodes.length c2] 47))
          refine (isone_calls (Heh.out.below hb1)).mono ?_
          rintro r w4 ⟨rfl, hb4⟩
          have HB4 := Lib.hid (show Below wr.heap.size wr w4 from hb1.trans (hb4.mono hb1.size))
          have hbx := (hb4.block _ (lt_of_block HBX.out)).trans HBX.out
          have q0 := cell_of hbx (i := 0) rfl
          have q1 := cell_of hbx (i := 1) rfl
          have q2 := cell_of hbx (i := 2) rfl
          have q3 := cell_of hbx (i := 3) rfl
          have q0 : w4.cell? ⟨wr.heap.size, 0, none⟩ = some (.int .i64 e.term) := q0
          have q1 : w4.cell? ⟨wr.heap.size, 1, none⟩ = some (.int .i64 e.kind) := q1
          have q2 : w4.cell? ⟨wr.heap.size, 2, none⟩ = some (.slice p1 e.data.length c1) := q2
          have q3 : w4.cell? ⟨wr.heap.size, 3, none⟩ = some (.slice p2 e.nodes.length c2) := q3
          clear hb1 hb4 hbx
          cases hie : isEnt e with
          | false =>
            have HE := Lib.hid (Hid.out 1 w4 (HB2.out.trans (HB4.out.mono HB2.out.size)) (by rw [HR.out, HD.out]; simp [Hall.out hie]))
            clear hie
            go_wp2_with fail
            go_ret
            exact HE.out
          | true =>
            have hw2 : IntKind.i64.wrap ((la : Int) + 1) = (la : Int) + 1 := IntWalk.i64_in _ (by omega)
            have hw3 : IntKind.i64.wrap ((la : Int) + 1 + (k : Int)) = (la : Int) + 1 + (k : Int) := IntWalk.i64_in _ (by omega)
            have Her := Lib.hid (show Calls Tryz.prog 107 #[.int .i64 ((la : Int) + 1 + (k : Int)), .agg #[.int .i64 e.term, .int .i64 e.kind, .slice p1 e.data.length c1, .slice p2 e.nodes.length c2]] w4 (RowNew w4 (entB (la + k + 1) e)) from by
              have := entRec_calls (la + k + 1) (by omega) (Heh.out.below HB4.out) hie
              rwa [show ((la + k + 1 : Nat) : Int) = (la : Int) + 1 + (k : Int) by omega] at this)
            have Hie := Lib.hid hie
            clear hie
            go_wp2_with fail
            refine Her.out.mono ?_
            rintro r w5 ⟨y, rfl, hy, hyn, hb5⟩
            have HB5 := Lib.hid (show Below wr.heap.size wr w5 from HB4.out.trans (hb5.mono HB4.out.size))
            have HY := Lib.hid (And.intro hy (show ∀ z, y.ownBlock = some z → wr.heap.size ≤ z from fun z hz => Nat.le_trans HB4.out.size (hyn z hz)))
            obtain ⟨py, cy, rfl, -⟩ := own_cap0 hy
            clear hy hyn hb5 Her
            generalize hyl : (entB (la + k + 1) e).length = yl at *
            have hek : (entsB la (es.take k)).length = k := by rw [entsB_len, List.length_take, Hnn.out]; omega
            have HYL := Lib.hid hyl
            have Hek := Lib.hid hek
            have Hrow := Lib.hid (show OwnR w5 23 1 xv k us from by
              have := (Hrn.out.next HB5.out).rows.row
              rwa [Hek.out] at this)
            clear hyl hek q0 q1 q2 q3
            go_wp2_with (at_builtin; have hal := Hrow.out.keep (w' := w5.alloc (.cells #[.slice py yl cy] 23)) (fun z hz => (below_one0 w5 _).block z (OwnR.lt Hrow.out hz)); have hxx := slit_one w5 (.slice py yl cy) 23 (0, 0); refine wpList_app _ rfl (.tmp 39) (.tmp 46) 22 rfl 23 i0 (.slice none 0 0) 1 24 Tryz.underlying22 hi hz0 hz1 hz2 rfl (by decide) xv k _ rfl hal (.slice (some ⟨w5.heap.size, 0, none⟩) 1 1) 1 _ rfl hxx (by simp [Value.oneCell']) (by unfold maxLen; omega) (by omega) ?_; clear hal hxx; intro v3 w3 hown3 hgrow3 hloc3; go_loud (have HE := Lib.hid (RowsN.push Hrn.out HB5.out HY.out.1 HY.out.2 (by rw [Hek.out]; exact hown3) hgrow3 hloc3); clear hgrow3 hloc3; obtain ⟨p3, q3, rfl⟩ := OwnR.shape hown3; clear hown3))
            go_roundw
            case rel =>
              refine ⟨k + 1, us ++ [.slice py yl cy], _, by omega, by go_num, rfl, ?_, ?_⟩
              · intro z hz
                rw [HTe.out] at hz
                rcases List.mem_append.1 hz with hz | hz
                · exact Hes.out z hz
                · rw [show z = e by simpa using hz]
                  exact Hie.out
              · rw [HTk.out]
                exact HE.out
            case measure => simp [intOf]; omega
        · have hkn : k = n := by omega
          have het : es.take k = es := List.take_of_length_le (by rw [Hnn.out]; omega)
          rw [het] at hes hrn
          have hall : es.all isEnt = true := List.all_eq_true.2 hes
          have hrow := hrn.rows.row
          have hlb : (entsB la es).length = n := by rw [entsB_len, Hnn.out]
          rw [hlb] at hrow
          obtain ⟨px, cx, rfl⟩ := hrow.shape
          by_cases hn0 : n = 0
          · have he0 : es = [] := List.eq_nil_of_length_eq_zero (by rw [Hnn.out, hn0])
            have HE := Lib.hid (Hid.out 0 wr hb2r (by rw [HR.out, HD.out, if_neg (by simp), if_neg (by rw [Hnn.out, hall]; simp; have := Hbig.out; omega), if_pos he0]))
            have e0 : ((n : Int) == 0) = true := by simp; omega
            clear hes hrn hall hrow hlb he0 hb2r hkn het
            go_wp2_with fail
            go_ret
            exact HE.out
          · have he0 : es ≠ [] := fun e => hn0 (by rw [← Hnn.out, e]; rfl)
            have e0 : ((n : Int) == 0) = false := by simp; omega
            have HR2 := Lib.hid (show jouAppend (nm pre) D M es = laysJ (nm pre) D M (entsB la es) { M with entries := M.entries ++ es } from by rw [HR.out, HD.out, if_neg (by simp), if_neg (by rw [Hnn.out, hall]; simp; have := Hbig.out; omega), if_neg he0])
            have hrl := entsB_rows la es hes (by rw [Hnn.out]; omega)
            have hrl2 := recsB_le (c := 65800) (entsB la es) hrl
            have Hly := Lib.hid (jlays_calls (H.out.next hb2r) hrn.rows.at (by omega) (fun l hl => Nat.le_trans (hrl l hl) (by decide)) (by rw [hlb] at hrl2; omega))
            have HSr := Lib.hid (H.out.same hb2r)
            have Hes := Lib.hid hes
            have HBR := Lib.hid hb2r
            clear hes hrn hall hrow hlb he0 hb2r hkn het hrl hrl2
            cases hly : layOn D (logN (nm pre)) (recsB (entsB la es)) with
            | mk D1 e1 =>
              rw [hly] at Hly
              by_cases he1 : e1 = 0
              · subst he1
                have HZ := Lib.hid (HR2.out.trans (laysJ_ok hly))
                rw [deadIf_zero] at Hly
                clear hly
                go_wp2_with fail
                refine Hly.out.mono ?_
                rintro r w6 ⟨rfl, hj6, hs6⟩
                have HJ6 := Lib.hid hj6
                have HS6 := Lib.hid (HSr.out.trans hs6)
                clear hj6 hs6 Hly
                go_wp2_with fail
                go_loopw [60] (fun i wr => ∃ k : Nat, k ≤ n ∧ i = .int .i64 k ∧ JouF w wr j d pre D1 { M with entries := M.entries ++ es.take k } F ∧ Same F w2 wr) (fun i _ => n - (intOf i).toNat)
                case atStart => exact ⟨0, Nat.zero_le _, rfl, by rw [List.take_zero, List.append_nil]; exact HJ6.out, HS6.out⟩
                case round =>
                  clear HJ6 HS6
                  obtain ⟨k, hk, rfl, hjk, hsk⟩ := hrel
                  by_cases hlt : k < n
                  · have hkl : k < es.length := by rw [Hnn.out]; exact hlt
                    obtain ⟨b, o, v, rfl, heh, k0, k1, k2, k3⟩ := (Hx.out wr hjk.bel hsk).ent hkl
                    have hie := Hes.out _ (List.getElem_mem hkl)
                    have HTe := Lib.hid (List.take_succ_eq_append_getElem hkl)
                    generalize es[k] = e at *
                    obtain ⟨v1, v2⟩ := v
                    obtain ⟨p1, c1, e1⟩ := heh.data.slice
                    obtain ⟨p2, c2, e2⟩ := heh.nodes.slice
                    have e1' : v1 = .slice p1 e.data.length c1 := e1
                    have e2' : v2 = .slice p2 e.nodes.length c2 := e2
                    subst e1'
                    subst e2'
                    have k2 : wr.cell? ⟨b, o + k * 4 + 2, none⟩ = some (.slice p1 e.data.length c1) := k2
                    have k3 : wr.cell? ⟨b, o + k * 4 + 3, none⟩ = some (.slice p2 e.nodes.length c2) := k3
                    have Heh := Lib.hid heh
                    have hdl := heh.dl
                    have hnl := heh.nl
                    have Hie := Lib.hid hie
                    have hlk : ({ M with entries := M.entries ++ es.take k } : JouM).last = la + k := by
                      show M.number + (M.entries ++ es.take k).length = la + k
                      rw [List.length_append, List.length_take, ← HL.out, Nat.min_eq_left (by omega)]
                      show _ = M.number + M.entries.length + k
                      omega
                    obtain ⟨own, gv, dv, ev, us, hJ, hS, hno, hlF⟩ := hjk
                    obtain ⟨pe, ce, rfl⟩ := hJ.row.shape
                    have c8 := hJ.c 8 rfl
                    have hml : ({ M with entries := M.entries ++ es.take k } : JouM).entries.length ≤ la + k := by rw [← hlk]; exact Nat.le_add_left _ _
                    have HJ := Lib.hid (And.intro hJ (And.intro hS (And.intro hno hlF)))
                    have Hlk := Lib.hid hlk
                    have Hsk := Lib.hid hsk
                    have HN40 := Lib.hid (show la + k + 1 ≤ 1099511627776 from by have := Hbig.out; omega)
                    generalize hm : ({ M with entries := M.entries ++ es.take k } : JouM).entries.length = m at *
                    have Hm := Lib.hid hm
                    have Hml := Lib.hid hml
                    clear hkl heh e1 e2 hie hJ hS hno hlF hlk hm hml hsk
                    go_wp2_with fail
                    refine g_start [11] (fun w' : World => w'.cell? ⟨j, 8, none⟩ = some (.slice pe m ce) ∧ w'.heap[wr.heap.size]? = some (.cells #[.int .i64 e.term, .int .i64 e.kind, .slice p1 e.data.length c1, .slice p2 e.nodes.length c2] 47 (0, 0))) (n := 12) (by kernel_rfl) rfl (⟨al_cell c8 _, new_block wr _⟩) (fun hHeld => ?_)
                    have HB1 := Lib.hid (show Below wr.heap.size wr (wr.alloc (.cells #[.int .i64 e.term, .int .i64 e.kind, .slice p1 e.data.length c1, .slice p2 e.nodes.length c2] 47)).drew from (below_one wr _).trans ⟨rfl, rfl, rfl, by simp, fun _ _ => rfl⟩)
                    generalize (wr.alloc (.cells #[.int .i64 e.term, .int .i64 e.kind, .slice p1 e.data.length c1, .slice p2 e.nodes.length c2] 47)).drew = W1 at *
                    refine Gl [0,1,2,3] ?_
                    iterate 4 (refine Gp rfl ?_;simp only [Act.put, uA, uB, uC])
                    refine Gn ?_
                    refine g_take 4 (v := ?v23x4) rfl (by kernel_rfl) (by kernel_rfl) (by kernel_rfl) (by kernel_rfl) (fun _ _ _ h => h) (by rfl) (by assumption) ?y23x4 ?_
                    case y23x4 => (intro w hSw; (try dsimp only at hSw); go_simp; try with_reducible rfl)
                    simp only [Act.put, List.setIfInBounds_toArray, List.set_cons_zero, List.set_cons_succ]
                    refine g_take 5 (v := .agg #[.int .i64 e.term, .int .i64 e.kind, .slice p1 e.data.length c1, .slice p2 e.nodes.length c2]) rfl (by kernel_rfl) (by kernel_rfl) (by kernel_rfl) (by kernel_rfl) (fun _ _ _ h => h) (by rfl) (by assumption) (fun W hSw => by have q0 := cell_of hSw.2 (i := 0) rfl; have q1 := cell_of hSw.2 (i := 1) rfl; have q2 := cell_of hSw.2 (i := 2) rfl; have q3 := cell_of hSw.2 (i := 3) rfl; go_simp; try with_reducible rfl) ?_
                    simp only [Act.put, List.setIfInBounds_toArray, List.set_cons_zero, List.set_cons_succ]
                    refine g_one 6 rfl (by kernel_rfl) (by rfl) (fun K hK => ?_)
                    have Hown := Lib.hid (own_calls (Heh.out.below HB1.out))
                    go_wp2_with fail
                    refine Hown.out.mono ?_
                    rintro r w9 ⟨⟨u1, u2⟩, rfl, hu, hun, hb9⟩
                    have HB9 := Lib.hid (HB1.out.trans (hb9.mono HB1.out.size))
                    have Hh9 := Lib.hid (And.intro (cell_far hHeld.1 hb9) ((hb9.block _ (lt_of_block hHeld.2)).trans hHeld.2))
                    have HU := Lib.hid (And.intro hu (show ∀ x, ((u1, u2) : EV).1.ownBlock = some x ∨ ((u1, u2) : EV).2.ownBlock = some x → wr.heap.size ≤ x from fun x hx => Nat.le_trans HB1.out.size (hun x hx)))
                    obtain ⟨pu, cu, eu, -⟩ := own_cap0 hu.data
                    obtain ⟨pn, cn, en, -⟩ := own_capI hu.nodes
                    have eu' : u1 = .slice pu e.data.length cu := eu
                    have en' : u2 = .slice pn e.nodes.length cn := en
                    subst eu'
                    subst en'
                    clear hu hun hb9 Hown eu en
                    unfold entV
                    go_wp2_with fail
                    refine hK.out _ _ (Hh9.out) (fun hHeld => ?_)
                    clear hK
                    try simp only [Act.put, List.setIfInBounds_toArray, List.set_cons_zero, List.set_cons_succ]
                    refine g_one 7 rfl (by kernel_rfl) (by rfl) (fun K hK => ?_)
                    have Hh10 := Lib.hid (And.intro (al_cell hHeld.1 (.cells #[.int .i64 e.term, .int .i64 e.kind, .slice pu e.data.length cu, .slice pn e.nodes.length cn] 47)) ((al_old _ (.cells #[.int .i64 e.term, .int .i64 e.kind, .slice pu e.data.length cu, .slice pn e.nodes.length cn] 47) (lt_of_block hHeld.2)).trans hHeld.2))
                    go_wp2_with fail
                    refine hK.out _ _ (Hh10.out) (fun hHeld => ?_)
                    clear hK
                    try simp only [Act.put, List.setIfInBounds_toArray, List.set_cons_zero, List.set_cons_succ]
                    refine g_one 8 rfl (by kernel_rfl) (by rfl) (fun K hK => ?_)
                    obtain ⟨hJ, hS, hno, hlF⟩ := HJ.out
                    have hb9 := HB9.out
                    have hJ9 := hJ.below hb9
                    have hba := below_one w9 (.cells #[.int .i64 e.term, .int .i64 e.kind, .slice pu e.data.length cu, .slice pn e.nodes.length cn] 47)
                    have hal := (hJ9.below hba).row
                    rw [Hm.out] at hal
                    have hxx : Holds (w9.alloc (.cells #[.int .i64 e.term, .int .i64 e.kind, .slice pu e.data.length cu, .slice pn e.nodes.length cn] 47)) 4 (.slice (some ⟨w9.heap.size, 0, none⟩) 1 1) 1 (entC e (.slice pu e.data.length cu, .slice pn e.nodes.length cn)) := ⟨rfl, some ⟨w9.heap.size, 0, none⟩, 1, rfl, fun e => (by cases e), fun a ha i u hu => by
                      cases ha
                      rw [add_zero]
                      refine cell_of (new_block w9 _) ?_
                      simpa [entC] using hu⟩
                    refine wp_app (.tmp 68) (.tmp 71) 38 rfl 47 i4 (.agg #[.int .i64 0, .int .i64 0, .slice none 0 0, .slice none 0 0]) 4 64 Tryz.underlying38 hi4 hz40 hz41 hz42 rfl (by decide) _ m _ rfl hal (.slice (some ⟨w9.heap.size, 0, none⟩) 1 1) 1 _ rfl hxx (by simp [entC, Value.oneCell']) (by unfold maxLen; have := Hml.out; have := HN40.out; omega) (by have := Hml.out; have := HN40.out; omega) ?_
                    intro v3 w3 hown3 hgrow3 hloc3
                    obtain ⟨hP1, hP2, hP3, hP4⟩ := jouIn_push hJ9 HU.out.1 (fun x hx ho => by have h1 := HU.out.2 x hx; have h2 := hJ.olt x ho; omega) Hie.out (by rw [Hlk.out]; exact HN40.out) hba (by rw [Hm.out]; exact hown3) hgrow3 hloc3
                    obtain ⟨hQ1, hQ2⟩ := JouF.turned hS hno hlF hP1 (((Chg.of_below hb9).mono fun _ _ h => h.elim).trans hP2 fun _ _ h => h) fun x hx => by
                      rcases hx with hx | hx | hx
                      · exact .inl hx
                      · exact .inr (HU.out.2 x hx)
                      · exact (hP3 x hx).imp id fun h => Nat.le_trans hb9.size h
                    have HE := Lib.hid (show JouF w (w3.setCell ⟨j, 8, none⟩ v3) j d pre D1 { M with entries := M.entries ++ es.take (k + 1) } F ∧ Same F w2 (w3.setCell ⟨j, 8, none⟩ v3) from ⟨by rw [HTe.out, ← List.append_assoc]; exact hQ1, Hsk.out.trans hQ2⟩)
                    have hbne : ∀ x, (Value.slice pe m ce).ownBlock = some x → x ≠ wr.heap.size := fun x hx e => by have := hJ.olt x (hJ.oe x hx).1; omega
                    have hc8 : w3.cell? ⟨j, 8, none⟩ = some (.slice pe m ce) := cell_of (hP4.trans hJ9.cells) (i := 8) rfl
                    have hf8 : w3.frozen? ⟨j, 8, none⟩ = false := frozen_of (hP4.trans hJ9.cells) 8
                    have hbx : w3.heap[wr.heap.size]? = some (.cells #[.int .i64 e.term, .int .i64 e.kind, .slice p1 e.data.length c1, .slice p2 e.nodes.length c2] 47 (0, 0)) := (hgrow3.block _ (lt_of_block hHeld.2) fun e => hbne _ e.symm rfl).trans hHeld.2
                    obtain ⟨p3, q3, rfl⟩ := OwnR.shape hown3
                    clear hJ hS hno hlF hJ9 hba hal hxx hown3 hgrow3 hloc3 hP1 hP2 hP3 hP4 hQ1 hQ2 hbne hb9
                    refine hK.out _ _ ⟨hc8, hbx⟩ (fun hHeld => ?_)
                    clear hK
                    try simp only [Act.put, List.setIfInBounds_toArray, List.set_cons_zero, List.set_cons_succ]
                    refine Gl [9,10] ?_
                    iterate 2 (refine Gp rfl ?_;simp only [Act.put, uA, uB, uC])
                    refine Gn ?_
                    refine g_end 11 rfl (by kernel_rfl) (by rfl) (by kernel_rfl) (fun K hK => ?_)
                    go_wp2_with fail
                    refine hK.out _ _ ?_
                    clear hK
                    try simp only [Act.put, List.setIfInBounds_toArray, List.set_cons_zero, List.set_cons_succ]
                    refine g_done (by kernel_rfl) ?_ _
                    go_wp2_with fail
                    go_roundw
                    case rel => exact ⟨k + 1, by omega, by go_num, HE.out.1, HE.out.2⟩
                    case measure => simp [intOf]; omega
                  · have het : es.take k = es := List.take_of_length_le (by rw [Hnn.out]; omega)
                    rw [het] at hjk
                    have HF := Lib.hid (And.intro hjk hsk)
                    clear hjk hsk het
                    go_wp2_with fail
                    go_ret
                    rw [HZ.out]
                    exact ⟨rfl, HF.out.1, HF.out.2⟩
              · have HZ := Lib.hid (HR2.out.trans (laysJ_err hly he1))
                rw [deadIf_ne M he1] at Hly
                have hne : ((e1 : Int) != 0) = true := by simp; omega
                clear hly he1
                go_wp2_with fail
                refine Hly.out.mono ?_
                rintro r w6 ⟨rfl, hj6, hs6⟩
                have HF := Lib.hid (And.intro hj6 (HSr.out.trans hs6))
                clear hj6 hs6 Hly
                go_wp2_with fail
                go_ret
                rw [HZ.out]
                exact ⟨rfl, HF.out.1, HF.out.2⟩
end
end Go.Proofs.YtngflpaooppmhaaGreat

namespace Go.Proofs.YtngflpaooppmhaaGreat
open Go.RowKit Go.Sat Go.Maps

theorem rowsIn_keep {w w' : World} {v : Value} {vs : List Value} {ls : List Bs} (h : RowsIn w v vs ls) (hs : ∀ k, (v.ownBlock = some k ∨ ∃ u ∈ vs, u.ownBlock = some k) → w'.heap[k]? = w.heap[k]?) : RowsIn w' v vs ls :=
  ⟨h.row.keep fun k hk => hs k (.inl hk), fun i u b hu hl => OwnR.keep (h.has i u b hu hl) fun k hk => hs k (.inr ⟨u, List.mem_of_getElem? hu, hk⟩), h.sep⟩

/-- With the rows set apart besides. -/
def FR (F : Nat → Prop) (v : Value) (vs : List Value) (k : Nat) : Prop := F k ∨ v.ownBlock = some k ∨ ∃ u ∈ vs, u.ownBlock = some k

theorem RowsN.two {w W : World} {u1 u2 : Value} {x1 x2 : Bs} (hb : Below w.heap.size w W) (h1 : OwnB W 5 u1 x1) (n1 : ∀ k, u1.ownBlock = some k → w.heap.size ≤ k) (h2 : OwnB W 5 u2 x2) (n2 : ∀ k, u2.ownBlock = some k → w.heap.size ≤ k) :
    RowsN w (W.alloc (.cells #[u1, u2] 23)) (.slice (some ⟨W.heap.size, 0, none⟩) 2 2) [u1, u2] [x1, x2] := by
  have ha := below_one W (.cells #[u1, u2] 23)
  have hs := hb.size
  refine ⟨⟨⟨rfl, .inr ⟨W.heap.size, 2, #[u1, u2], rfl, new_block W _, Nat.le_refl _, by decide, Nat.le_refl _, rfl⟩⟩, fun i u b hu hl => ?_, fun u hu k hk e => ?_⟩, ⟨fun k hk => ?_, fun u hu k hk => ?_⟩, hb.trans (ha.mono hs)⟩
  · match i, hu, hl with
    | 0, hu, hl => cases hu; cases hl; exact ownB_far h1 ha
    | 1, hu, hl => cases hu; cases hl; exact ownB_far h2 ha
  · obtain rfl : W.heap.size = k := Option.some.inj e
    rcases List.mem_cons.1 hu with rfl | hu
    · have := OwnR.lt h1 hk
      omega
    · obtain rfl : u = u2 := by simpa using hu
      have := OwnR.lt h2 hk
      omega
  · cases hk
    exact hs
  · rcases List.mem_cons.1 hu with rfl | hu
    · exact n1 k hk
    · obtain rfl : u = u2 := by simpa using hu
      exact n2 k hk

section
variable {w w1 w2 : World} {j d : Nat} {pre : ByteArray} {D : DiskM} {M : JouM} {F : Nat → Prop}

theorem jou_read (h : JouF w w1 j d pre D M F) (s : ByteArray) (hs : s.size ≤ 9223372036854775807) :
    Calls Tryz.prog 54 #[.pointer (some ⟨d, 0, none⟩), .string s] w1 fun e w' => ∃ v, e = .returned (.tuple #[v, .int .i64 (readE (Sat.get (nm s) D.files))]) ∧ OwnB w' 5 v (dataOf (Sat.get (nm s) D.files)) ∧ (∀ k, v.ownBlock = some k → w1.heap.size ≤ k) ∧ Below w1.heap.size w1 w' := by
  refine (st_read h.st s hs).mono ?_
  rintro e w' ⟨v, rfl, hv, hn, hb, -⟩
  exact ⟨v, rfl, hv, hn, hb⟩
theorem jou_rename (h : JouF w w1 j d pre D M F) (o s : ByteArray) (hso : o.size ≤ 9223372036854775807) (hss : s.size ≤ 9223372036854775807) :
    Calls Tryz.prog 110 #[.pointer (some ⟨d, 0, none⟩), .string o, .string s] w1 fun e w' => e = .returned (.int .i64 ((D.rename (nm o) (nm s)).2 : Int)) ∧ JouF w w' j d pre (D.rename (nm o) (nm s)).1 M F ∧ Same F w1 w' ∧ w'.heap[j]? = w1.heap[j]? :=
  jou_disk h (Below.refl _ _) fun _ hS => st_rename hS o s hso hss

theorem FR_more (h : JouF w w1 j d pre D M F) {v : Value} {vs : List Value} {ls : List Bs} (hr : RowsN w1 w2 v vs ls) : JouF w w2 j d pre D M (FR F v vs) :=
  h.more hr.bel fun k hk => by
    rcases hk with hk | hk | ⟨u, hu, hk⟩
    · exact .inl hk
    · exact .inr ⟨hr.new.1 k hk, OwnR.lt hr.rows.row hk⟩
    · obtain ⟨c, hc⟩ := mem_rows hr.rows hu
      exact .inr ⟨hr.new.2 u hu k hk, OwnR.lt hc hk⟩

/-- What writing the log anew leaves. -/
def WritTold (w w1 : World) (j d : Nat) (pre : ByteArray) (M : JouM) (F : Nat → Prop) (r : DiskM × Nat) (e : Ending) (w' : World) : Prop :=
  e = .returned (.int .i64 (r.2 : Int)) ∧ JouF w w' j d pre r.1 M F ∧ Same F w1 w'

theorem rows_rows {M : JouM} (h : M.OK) : (∀ l ∈ M.rows, l.length ≤ 65800) ∧ M.rows.length = M.entries.length + 2 := by
  have hl := h.last
  unfold JouM.last at hl
  have hg := (grp_len h.group).2
  refine ⟨fun l hl' => ?_, ?_⟩
  · unfold JouM.rows at hl'
    rcases List.mem_cons.1 hl' with rfl | hl'
    · unfold fstB
      simp only [List.length_cons, List.length_append]
      have h1 := numB_nine (n := M.number) (by omega)
      have h2 := numI_len M.term
      have h3 := grpB_len M.group (by omega)
      omega
    · rcases List.mem_cons.1 hl' with rfl | hl'
      · exact Nat.le_trans (trmB_len _ _) (by decide)
      · exact entsB_rows _ _ h.ents (by omega) l hl'
  · unfold JouM.rows
    simp [entsB_len]

set_option maxRecDepth 100000 in
set_option maxHeartbeats 16000000 in
theorem jwrites_calls (h : JouF w w1 j d pre D M F) (hm : M.entries.length ≤ 1000000) :
    Calls Tryz.prog 59 #[.pointer (some ⟨j, 0, none⟩)] w1 (WritTold w w1 j d pre M F (writesJ D (nm pre) M)) := by
  obtain ⟨i0, hi, hz0, hz1, hz2⟩ := info_parts (show (Tryz.prog.info? 23).map (fun i => (i.zero, i.size, i.bytes)) = some (some (.slice none 0 0), 1, 24) by kernel_rfl)
  have hps := h.psz
  have hsl : (sLog pre).size = pre.size + 4 := size_log pre
  have hok := h.okM
  have hlast := hok.last
  have hnow := isTm_iff.1 hok.now
  have hvote := hok.vote
  have HrR := Lib.hid (rows_rows hok)
  have HrecL := Lib.hid (recsB_le (c := 65800) M.rows (rows_rows hok).1)
  have Hents := Lib.hid hok.ents
  have Hfi := Lib.hid (jfirst_calls (h.next (below_drew w1)))
  have Htr := Lib.hid (fun W => termRec_calls W M.now M.vote (by omega) (by omega))
  obtain ⟨own, gv, dv, ev, vs, hJ, hS, hn, hl⟩ := id h
  have HJ := Lib.hid hJ
  have c0 := hJ.c 0 rfl
  have c3 := hJ.c 3 rfl
  have c4 := hJ.c 4 rfl
  have c5 := hJ.c 5 rfl
  have c6 := hJ.c 6 rfl
  have c8 := hJ.c 8 rfl
  obtain ⟨pv8, cv8, hev⟩ := hJ.row.shape
  rw [hev] at c8
  have Hev := Lib.hid hev
  have H := Lib.hid h
  unfold JouM.last at hlast
  clear h hJ hS hn hl hok hev
  generalize hen : M.entries.length = n at *
  have Hen := Lib.hid hen
  generalize hnum : M.number = b at *
  have Hnum := Lib.hid hnum
  clear hen hnum
  go_enter Tryz.func59, Tryz.ntmps59
  go_wp2_with fail
  refine ord_start (fun w' : World => w'.cell? ⟨j, 5, none⟩ = some (.int .i64 M.now) ∧ w'.cell? ⟨j, 6, none⟩ = some (.int .i64 M.vote)) (n := 13) (by kernel_rfl) rfl (⟨c5, c6⟩) (fun hHeld => ?_)
  refine Pl [0,2,3,4,5,6,7,8,9] ?_
  iterate 9 (refine Pc rfl ?_;simp only [Act.put, uA, uB, uC])
  refine Pn ?_
  refine ord_one 1 rfl (by kernel_rfl) (by rfl) (fun K hK => ?_)
  go_wp2_with fail
  refine Hfi.out.mono ?_
  rintro e w3 ⟨u1, rfl, hu1, hn1, hb3⟩
  have HB3 := Lib.hid ((below_drew w1).trans hb3)
  have Hh3 := Lib.hid (And.intro (cell_far hHeld.1 hb3) (cell_far hHeld.2 hb3))
  have HU1 := Lib.hid (And.intro hu1 (show ∀ x, u1.ownBlock = some x → w1.heap.size ≤ x from hn1))
  obtain ⟨p1, q1, rfl, -⟩ := own_cap0 hu1
  clear hu1 hn1 hb3 Hfi
  go_wp2_with fail
  refine hK.out _ _ (Hh3.out) (fun hHeld => ?_)
  clear hK
  try simp only [Act.put, List.setIfInBounds_toArray, List.set_cons_zero, List.set_cons_succ]
  refine ord_one 10 rfl (by kernel_rfl) (by rfl) (fun K hK => ?_)
  go_wp2_with fail
  refine (Htr.out w3).mono ?_
  rintro e w4 ⟨u2, rfl, hu2, hn2, hb4⟩
  have HB4 := Lib.hid (HB3.out.trans (hb4.mono HB3.out.size))
  have Hh4 := Lib.hid (And.intro (cell_far hHeld.1 hb4) (cell_far hHeld.2 hb4))
  have HU2 := Lib.hid (And.intro (ownB_far HU1.out.1 hb4) (And.intro hu2 (show ∀ x, u2.ownBlock = some x → w1.heap.size ≤ x from fun x hx => Nat.le_trans HB3.out.size (hn2 x hx))))
  obtain ⟨p2, q2, rfl, -⟩ := own_cap0 hu2
  clear hu2 hn2 hb4 Htr
  go_wp2_with fail
  refine hK.out _ _ (Hh4.out) (fun hHeld => ?_)
  clear hK
  try simp only [Act.put, List.setIfInBounds_toArray, List.set_cons_zero, List.set_cons_succ]
  refine ord_one 11 rfl (by kernel_rfl) (by rfl) (fun K hK => ?_)
  have Hh5 := Lib.hid (And.intro (al_cell hHeld.1 (.cells #[.slice p1 (fstB b M.term M.group).length q1, .slice p2 (trmB M.now M.vote).length q2] 23)) (al_cell hHeld.2 (.cells #[.slice p1 (fstB b M.term M.group).length q1, .slice p2 (trmB M.now M.vote).length q2] 23)))
  go_wp2_with fail
  refine hK.out _ _ (Hh5.out) (fun hHeld => ?_)
  clear hK
  try simp only [Act.put, List.setIfInBounds_toArray, List.set_cons_zero, List.set_cons_succ]
  refine ord_take 12 (v := ?v1x12) rfl (by kernel_rfl) (by kernel_rfl) (by kernel_rfl) (fun _ _ _ h => h) (by rfl) (by assumption) ?y1x12 ?_
  case y1x12 => (intro w hSw; (try dsimp only at hSw); go_simp; try with_reducible rfl)
  simp only [Act.put, List.setIfInBounds_toArray, List.set_cons_zero, List.set_cons_succ]
  refine wpAnyH_done (by kernel_rfl) ?_ _
  have hrn0 := RowsN.two HB4.out HU2.out.1 HU1.out.2 HU2.out.2.1 HU2.out.2.2
  have HrM := Lib.hid (show [fstB b M.term M.group, trmB M.now M.vote] ++ entsB b M.entries = M.rows from by rw [← Hnum.out]; rfl)
  clear HU1 HU2 HB3 HB4
  generalize hWa : w4.alloc (.cells #[.slice p1 (fstB b M.term M.group).length q1, .slice p2 (trmB M.now M.vote).length q2] 23) = W0 at *
  have HR0 := Lib.hid hrn0
  have c8 := cell_far c8 hrn0.bel
  clear hrn0 hWa
  go_wp2_with fail
  go_loopw [3, 29] (fun x i wr => ∃ (k : Nat) (us : List Value) (xv : Value), k ≤ n ∧ i = .int .i64 k ∧ xv = x ∧ RowsN w1 wr xv us ([fstB b M.term M.group, trmB M.now M.vote] ++ entsB b (M.entries.take k))) (fun _ i _ => n - (intOf i).toNat)
  case atStart => exact ⟨0, _, _, Nat.zero_le _, rfl, rfl, HR0.out⟩
  case round =>
    clear HR0
    obtain ⟨k, us, xv, hk, rfl, rfl, hrn⟩ := hrel
    by_cases hlt : k < n
    · have hkl : k < M.entries.length := by rw [Hen.out]; exact hlt
      obtain ⟨g, c, v, hev', -, hat, k0, k1, k2, k3⟩ := HJ.out.ent (List.getElem?_eq_getElem hkl)
      rw [Hev.out] at hev'
      simp only [Value.slice.injEq] at hev'
      obtain ⟨rfl, -, rfl⟩ := hev'
      have HTk := Lib.hid (entsB_take (n := b) hkl)
      have hie := Hents.out _ (List.getElem_mem hkl)
      have hf := ent_bound hie
      generalize M.entries[k] = e at *
      have hhas := hat.has (by omega) (by omega)
      obtain ⟨pe, ce, e1, -⟩ := own_cap0 hat.data
      obtain ⟨pn, cn, e2, -⟩ := own_capI hat.nodes
      obtain ⟨v1, v2⟩ := v
      have e1' : v1 = .slice pe e.data.length ce := e1
      have e2' : v2 = .slice pn e.nodes.length cn := e2
      subst e1'
      subst e2'
      have k0 := cell_far k0 hrn.bel
      have k1 := cell_far k1 hrn.bel
      have k2 : wr.cell? ⟨g, k * 4 + 2, none⟩ = some (.slice pe e.data.length ce) := cell_far k2 hrn.bel
      have k3 : wr.cell? ⟨g, k * 4 + 3, none⟩ = some (.slice pn e.nodes.length cn) := cell_far k3 hrn.bel
      have c0r := cell_far c0 hrn.bel
      have Hhas := Lib.hid hhas
      have Hie := Lib.hid hie
      have Hrn := Lib.hid hrn
      have hdl := hhas.dl
      have hnl := hhas.nl
      have hw2 : IntKind.i64.wrap ((b : Int) + 1) = (b : Int) + 1 := IntWalk.i64_in _ (by omega)
      have hw3 : IntKind.i64.wrap ((b : Int) + 1 + (k : Int)) = (b : Int) + 1 + (k : Int) := IntWalk.i64_in _ (by omega)
      have Her := Lib.hid (fun W (hb : Below w1.heap.size w1 W) => show Calls Tryz.prog 107 #[.int .i64 ((b : Int) + 1 + (k : Int)), .agg #[.int .i64 e.term, .int .i64 e.kind, .slice pe e.data.length ce, .slice pn e.nodes.length cn]] W (RowNew W (entB (b + k + 1) e)) from by
        have := entRec_calls (b + k + 1) (by omega) (hhas.below hb) hie
        rwa [show ((b + k + 1 : Nat) : Int) = (b : Int) + 1 + (k : Int) by omega] at this)
      have Hek := Lib.hid (show ([fstB b M.term M.group, trmB M.now M.vote] ++ entsB b (M.entries.take k)).length = k + 2 from by rw [List.length_append, entsB_len, List.length_take, Hen.out, Nat.min_eq_left (by omega)]; simp; omega)
      clear hkl hat e1 e2 hhas hie hf hrn
      go_wp2_with fail
      refine ord_start (fun w' : World => w'.cell? ⟨j, 0, none⟩ = some (.int .i64 (b : Int)) ∧ w'.heap[wr.heap.size]? = some (.cells #[.int .i64 e.term, .int .i64 e.kind, .slice pe e.data.length ce, .slice pn e.nodes.length cn] 47 (0, 0))) (n := 14) (by kernel_rfl) rfl (⟨al_cell c0r _, new_block wr _⟩) (fun hHeld => ?_)
      have HB1 := Lib.hid (show Below wr.heap.size wr (wr.alloc (.cells #[.int .i64 e.term, .int .i64 e.kind, .slice pe e.data.length ce, .slice pn e.nodes.length cn] 47)).drew from (below_one wr _).trans ⟨rfl, rfl, rfl, by simp, fun _ _ => rfl⟩)
      generalize (wr.alloc (.cells #[.int .i64 e.term, .int .i64 e.kind, .slice pe e.data.length ce, .slice pn e.nodes.length cn] 47)).drew = W1 at *
      refine Pl [0,1,2,3,4,5,6,7,8] ?_
      iterate 9 (refine Pc rfl ?_;simp only [Act.put, uA, uB, uC])
      refine Pn ?_
      refine ord_take 9 (v := .agg #[.int .i64 e.term, .int .i64 e.kind, .slice pe e.data.length ce, .slice pn e.nodes.length cn]) rfl (by kernel_rfl) (by kernel_rfl) (by kernel_rfl) (fun _ _ _ h => h) (by rfl) (by assumption) (fun W hSw => by have q0 := cell_of hSw.2 (i := 0) rfl; have q1 := cell_of hSw.2 (i := 1) rfl; have q2 := cell_of hSw.2 (i := 2) rfl; have q3 := cell_of hSw.2 (i := 3) rfl; go_simp; try with_reducible rfl) ?_
      simp only [Act.put, List.setIfInBounds_toArray, List.set_cons_zero, List.set_cons_succ]
      refine ord_one 10 rfl (by kernel_rfl) (by rfl) (fun K hK => ?_)
      go_wp2_with fail
      refine (Her.out W1 (Hrn.out.bel.trans (HB1.out.mono Hrn.out.bel.size))).mono ?_
      rintro r w9 ⟨y, rfl, hy, hyn, hb9⟩
      have HB9 := Lib.hid (HB1.out.trans (hb9.mono HB1.out.size))
      have Hh9 := Lib.hid (And.intro (cell_far hHeld.1 hb9) ((hb9.block _ (lt_of_block hHeld.2)).trans hHeld.2))
      have HY := Lib.hid (And.intro hy (show ∀ z, y.ownBlock = some z → wr.heap.size ≤ z from fun z hz => Nat.le_trans HB1.out.size (hyn z hz)))
      obtain ⟨py, cy, rfl, -⟩ := own_cap0 hy
      clear hy hyn hb9 Her
      generalize hyl : (entB (b + k + 1) e).length = yl at *
      have HYL := Lib.hid hyl
      clear hyl
      go_wp2_with fail
      refine hK.out _ _ (Hh9.out) (fun hHeld => ?_)
      clear hK
      try simp only [Act.put, List.setIfInBounds_toArray, List.set_cons_zero, List.set_cons_succ]
      refine ord_one 11 rfl (by kernel_rfl) (by rfl) (fun K hK => ?_)
      have Hh10 := Lib.hid (And.intro (al_cell hHeld.1 (.cells #[.slice py yl cy] 23)) ((al_old _ (.cells #[.slice py yl cy] 23) (lt_of_block hHeld.2)).trans hHeld.2))
      go_wp2_with fail
      refine hK.out _ _ (Hh10.out) (fun hHeld => ?_)
      clear hK
      try simp only [Act.put, List.setIfInBounds_toArray, List.set_cons_zero, List.set_cons_succ]
      refine ord_one 12 rfl (by kernel_rfl) (by rfl) (fun K hK => ?_)
      have hrow := (Hrn.out.next HB9.out).rows.row
      rw [Hek.out] at hrow
      have hal := hrow.keep (w' := w9.alloc (.cells #[.slice py yl cy] 23)) (fun z hz => (below_one0 w9 _).block z (OwnR.lt hrow hz))
      have hxx := slit_one w9 (.slice py yl cy) 23 (0, 0)
      refine wp_app (.tmp 34) (.tmp 45) 22 rfl 23 i0 (.slice none 0 0) 1 24 Tryz.underlying22 hi hz0 hz1 hz2 rfl (by decide) xv (k + 2) _ rfl hal (.slice (some ⟨w9.heap.size, 0, none⟩) 1 1) 1 _ rfl hxx (by simp [Value.oneCell']) (by unfold maxLen; omega) (by omega) ?_
      intro v3 w3 hown3 hgrow3 hloc3
      have HE := Lib.hid (RowsN.push Hrn.out HB9.out HY.out.1 HY.out.2 (by rw [Hek.out]; exact hown3) hgrow3 hloc3)
      have hbne : ∀ x, xv.ownBlock = some x → w1.heap.size ≤ x ∧ x < wr.heap.size := fun x hx => ⟨Hrn.out.new.1 x hx, OwnR.lt Hrn.out.rows.row hx⟩
      have hc0 : w3.cell? ⟨j, 0, none⟩ = some (.int .i64 (b : Int)) := (World.cell?_of_block (a := ⟨j, 0, none⟩) (hgrow3.block j (World.block_lt_of_cell? _ ⟨j, 0, none⟩ hHeld.1) fun e => by have h1 := (hbne j e.symm).1; have h2 := World.block_lt_of_cell? w1 ⟨j, 0, none⟩ c0; have h3 : j < w1.heap.size := h2; omega)).trans hHeld.1
      have hbx : w3.heap[wr.heap.size]? = some (.cells #[.int .i64 e.term, .int .i64 e.kind, .slice pe e.data.length ce, .slice pn e.nodes.length cn] 47 (0, 0)) := (hgrow3.block _ (lt_of_block hHeld.2) fun e => by have := (hbne _ e.symm).2; omega).trans hHeld.2
      obtain ⟨p3, q3, rfl⟩ := OwnR.shape hown3
      clear hrow hal hxx hown3 hgrow3 hloc3 hbne
      refine hK.out _ _ ⟨hc0, hbx⟩ (fun hHeld => ?_)
      clear hK
      try simp only [Act.put, List.setIfInBounds_toArray, List.set_cons_zero, List.set_cons_succ]
      refine ord_take 13 (v := ?v5x13) rfl (by kernel_rfl) (by kernel_rfl) (by kernel_rfl) (fun _ _ _ h => h) (by rfl) (by assumption) ?y5x13 ?_
      case y5x13 => (intro w hSw; (try dsimp only at hSw); go_simp; try with_reducible rfl)
      simp only [Act.put, List.setIfInBounds_toArray, List.set_cons_zero, List.set_cons_succ]
      refine wpAnyH_done (by kernel_rfl) ?_ _
      go_wp2_with fail
      go_roundw
      case rel => exact ⟨k + 1, us ++ [.slice py yl cy], _, by omega, by go_num, rfl, by rw [HTk.out, ← List.append_assoc]; exact HE.out⟩
      case measure => simp [intOf]; omega
    · have hkn : k = n := by omega
      have het : M.entries.take k = M.entries := List.take_of_length_le (by rw [Hen.out]; omega)
      rw [het, HrM.out] at hrn
      have hrow := hrn.rows.row
      rw [HrR.out.2] at hrow
      obtain ⟨px, cx, rfl⟩ := hrow.shape
      have HJG := Lib.hid (FR_more H.out hrn)
      have HRW := Lib.hid hrn.rows
      have HsF := Lib.hid (H.out.same hrn.bel)
      have Hrd := Lib.hid (jou_read HJG.out (sShadow (sLog pre)) (by rw [size_sha, hsl]; omega))
      rw [nm_sha, nm_log] at Hrd
      have c3 := HJG.out.jc.1
      have c4 := HJG.out.jc.2.1
      have hss : (sShadow (sLog pre)).size ≤ 9223372036854775807 := by rw [size_sha, hsl]; omega
      have HSr := Lib.hid (show Same (FR F (.slice px (n + 2) cx) us) wr wr from fun _ _ => rfl)
      clear hrn hrow het hkn c0 c5 c6 c8
      cases hg : Sat.get (shadowN (logN (nm pre))) D.files with
      | none =>
        have h0 : D.save0 (logN (nm pre)) = (D, 0) := by unfold DiskM.save0; rw [hg]; rfl
        have HZa := Lib.hid (fun D1 e1 (h1 : D.append (shadowN (logN (nm pre))) (recsB M.rows) = (D1, e1)) (he : e1 ≠ 0) => (save1_app h0 h1 he : writesJ D (nm pre) M = _))
        have HZs := Lib.hid (fun D1 D2 e2 (h1 : D.append (shadowN (logN (nm pre))) (recsB M.rows) = (D1, 0)) (h2 : D1.sync [shadowN (logN (nm pre))] = (D2, e2)) (he : e2 ≠ 0) => (save1_syn h0 h1 h2 he : writesJ D (nm pre) M = _))
        have HZr := Lib.hid (fun D1 D2 (h1 : D.append (shadowN (logN (nm pre))) (recsB M.rows) = (D1, 0)) (h2 : D1.sync [shadowN (logN (nm pre))] = (D2, 0)) => (save1_ren h0 h1 h2 : writesJ D (nm pre) M = _))
        have hr7 : readE (none : Option FileM) = 7 := rfl
        rw [hg, hr7] at Hrd
        clear hg h0 hr7
        go_wp2_with fail
        refine Hrd.out.mono ?_
        rintro e w3 ⟨v3, rfl, -, -, hb3⟩
        have HJ3 := Lib.hid (HJG.out.next hb3)
        have HS3 := Lib.hid (show Same (FR F (.slice px (n + 2) cx) us) wr w3 from HJG.out.same hb3)
        clear hb3 Hrd c3 c4
        have c3 := HJ3.out.jc.1
        cases hap : DiskM.append D (shadowN (logN (nm pre))) (recsB M.rows) with
        | mk D1 e1 =>
          have Hap := Lib.hid (fun W (hb : Below (w3).heap.size (w3) W) x (hx : RowsAt W x [recsB M.rows]) => show Calls Tryz.prog 108 #[.pointer (some ⟨d, 0, none⟩), .string (sShadow (sLog pre)), x] W fun e w' => e = .returned (.int .i64 (e1 : Int)) ∧ JouF w w' j d pre D1 M (FR F (.slice px (n + 2) cx) us) ∧ Same (FR F (.slice px (n + 2) cx) us) (w3) w' ∧ w'.heap[j]? = (w3).heap[j]? from by
            have := jou_append HJ3.out hb (sShadow (sLog pre)) x [recsB M.rows] hx (by simp) (by simp; have := HrecL.out; have := HrR.out.2; omega) (by rw [size_sha, hsl]; omega)
            rw [show [recsB M.rows].flatten = recsB M.rows by simp, nm_sha, nm_log, hap] at this
            exact this)
          have Hfr := Lib.hid (fun W (hb : Below (w3).heap.size (w3) W) => framed_calls (RowsIn.at ((rowsIn_keep HRW.out fun x hx => HS3.out x (.inr hx)).below hb)) (by omega) (fun l hl => Nat.le_trans (HrR.out.1 l hl) (by decide)) (by have := HrecL.out; have := HrR.out.2; omega))
          have HAP := Lib.hid hap
          clear hap
          go_wp2_with fail
          refine ord_start (fun w' : World => w'.cell? ⟨j, 3, none⟩ = some (.pointer (some ⟨d, 0, none⟩))) (n := 11) (by kernel_rfl) rfl (c3) (fun hHeld => ?_)
          refine Pl [0,1,2,3,4,5,6] ?_
          iterate 7 (refine Pc rfl ?_;simp only [Act.put, uA, uB, uC])
          refine Pn ?_
          refine ord_one 7 rfl (by kernel_rfl) (by rfl) (fun K hK => ?_)
          have HBd := Lib.hid (below_drew (w3))
          go_wp2_with fail
          refine (Hfr.out _ HBd.out).mono ?_
          rintro e wf ⟨v, rfl, hv, -, hbf⟩
          have HBf := Lib.hid (HBd.out.trans hbf)
          have Hhf := Lib.hid (cell_far hHeld hbf)
          have HV := Lib.hid (OwnB.has hv)
          obtain ⟨pv, cv, rfl, -⟩ := own_cap0 hv
          clear hv hbf Hfr
          go_wp2_with fail
          refine hK.out _ _ (Hhf.out) (fun hHeld => ?_)
          clear hK
          try simp only [Act.put, List.setIfInBounds_toArray, List.set_cons_zero, List.set_cons_succ]
          refine ord_one 8 rfl (by kernel_rfl) (by rfl) (fun K hK => ?_)
          have Hha := Lib.hid (al_cell hHeld (.cells #[.slice pv (recsB M.rows).length cv] 23))
          go_wp2_with fail
          refine hK.out _ _ (Hha.out) (fun hHeld => ?_)
          clear hK
          try simp only [Act.put, List.setIfInBounds_toArray, List.set_cons_zero, List.set_cons_succ]
          refine ord_one 9 rfl (by kernel_rfl) (by rfl) (fun K hK => ?_)
          have Hcl := Lib.hid (Hap.out _ (HBf.out.trans ((below_one wf (.cells #[.slice pv (recsB M.rows).length cv] 23)).mono HBf.out.size)) _ (rows_one HV.out 23 (0, 0) wf.heap.size 1 rfl (Nat.le_refl _)))
          go_wp2_with fail
          refine Hcl.out.mono ?_
          rintro e wa ⟨rfl, hja, hsa, hha⟩
          have HJa := Lib.hid hja
          have HSa := Lib.hid (HS3.out.trans hsa)
          have Hhb := Lib.hid ((World.cell?_of_block (a := ⟨j, 3, none⟩) hha).trans c3)
          clear hja hsa hha Hcl
          go_wp2_with fail
          refine hK.out _ _ (Hhb.out) (fun hHeld => ?_)
          clear hK
          try simp only [Act.put, List.setIfInBounds_toArray, List.set_cons_zero, List.set_cons_succ]
          refine ord_take 10 (v := ?v13x10) rfl (by kernel_rfl) (by kernel_rfl) (by kernel_rfl) (fun _ _ _ h => h) (by rfl) (by assumption) ?y13x10 ?_
          case y13x10 => (intro w hSw; (try dsimp only at hSw); go_simp; try with_reducible rfl)
          simp only [Act.put, List.setIfInBounds_toArray, List.set_cons_zero, List.set_cons_succ]
          refine wpAnyH_done (by kernel_rfl) ?_ _
          clear HV HBf HBd
          have c3 : wa.cell? ⟨j, 3, none⟩ = some (.pointer (some ⟨d, 0, none⟩)) := Hhb.out
          by_cases he1 : e1 = 0
          · subst he1
            cases hsy : D1.sync [shadowN (logN (nm pre))] with
            | mk D2 e2 =>
              have hsyc := jou_sync HJa.out (sShadow (sLog pre)) (by rw [size_sha, hsl]; omega)
              rw [nm_sha, nm_log, hsy] at hsyc
              have Hsy := Lib.hid hsyc
              clear hsyc
              by_cases he2 : e2 = 0
              · subst he2
                cases hre : D2.rename (shadowN (logN (nm pre))) (logN (nm pre)) with
                | mk D3 e3 =>
                  have HZ := Lib.hid (show writesJ D (nm pre) M = (D3, e3) from (HZr.out D1 D2 HAP.out hsy).trans hre)
                  have Hre := Lib.hid (fun W (h : JouF w W j d pre D2 M (FR F (.slice px (n + 2) cx) us)) => show Calls Tryz.prog 110 #[.pointer (some ⟨d, 0, none⟩), .string (sShadow (sLog pre)), .string (sLog pre)] W fun e w' => e = .returned (.int .i64 (e3 : Int)) ∧ JouF w w' j d pre D3 M (FR F (.slice px (n + 2) cx) us) ∧ Same (FR F (.slice px (n + 2) cx) us) W w' ∧ w'.heap[j]? = W.heap[j]? from by
                    have := jou_rename h (sShadow (sLog pre)) (sLog pre) (by rw [size_sha, hsl]; omega) (by rw [hsl]; omega)
                    rw [nm_sha, nm_log, hre] at this
                    exact this)
                  clear hsy hre
                  go_wp2_with fail
                  refine Hsy.out.mono ?_
                  rintro e wb ⟨rfl, hjb, hsb, hhb⟩
                  have HSb := Lib.hid (HSa.out.trans hsb)
                  have c3b : wb.cell? ⟨j, 3, none⟩ = some (.pointer (some ⟨d, 0, none⟩)) := (World.cell?_of_block (a := ⟨j, 3, none⟩) hhb).trans c3
                  have Hrc := Lib.hid (Hre.out wb hjb)
                  clear hjb hsb hhb Hsy Hre
                  go_wp2_with fail
                  refine Hrc.out.mono ?_
                  rintro e wc ⟨rfl, hjc, hsc, -⟩
                  have HJc := Lib.hid hjc
                  have HSc := Lib.hid (HSb.out.trans hsc)
                  clear hjc hsc Hrc
                  have HE := Lib.hid (show WritTold w w1 j d pre M F (writesJ D (nm pre) M) (.returned (.int .i64 (e3 : Int))) _ from ⟨by rw [HZ.out], by rw [HZ.out]; exact HJc.out.less fun _ h => .inl h, fun x hx => (HSc.out x (.inl hx)).trans (HsF.out x hx)⟩)
                  go_wp2_with fail
                  go_ret
                  exact HE.out
              · have HZ := Lib.hid (show writesJ D (nm pre) M = (D2, e2) from HZs.out D1 D2 e2 HAP.out hsy he2)
                have hne : ((e2 : Int) != 0) = true := by simp; omega
                clear hsy he2
                go_wp2_with fail
                refine Hsy.out.mono ?_
                rintro e wb ⟨rfl, hjb, hsb, -⟩
                have HJb := Lib.hid hjb
                have HSb := Lib.hid (HSa.out.trans hsb)
                clear hjb hsb Hsy
                have HE := Lib.hid (show WritTold w w1 j d pre M F (writesJ D (nm pre) M) (.returned (.int .i64 (e2 : Int))) _ from ⟨by rw [HZ.out], by rw [HZ.out]; exact HJb.out.less fun _ h => .inl h, fun x hx => (HSb.out x (.inl hx)).trans (HsF.out x hx)⟩)
                go_wp2_with fail
                go_ret
                exact HE.out
          · have HZ := Lib.hid (show writesJ D (nm pre) M = (D1, e1) from HZa.out D1 e1 HAP.out he1)
            have hne : ((e1 : Int) != 0) = true := by simp; omega
            clear he1
            have HE := Lib.hid (show WritTold w w1 j d pre M F (writesJ D (nm pre) M) (.returned (.int .i64 (e1 : Int))) _ from ⟨by rw [HZ.out], by rw [HZ.out]; exact HJa.out.less fun _ h => .inl h, fun x hx => (HSa.out x (.inl hx)).trans (HsF.out x hx)⟩)
            go_wp2_with fail
            go_ret
            exact HE.out
      | some f =>
        cases hrm : D.remove [shadowN (logN (nm pre))] with
        | mk D0 e0 =>
          have hs0 : D.save0 (logN (nm pre)) = (D0, e0) := by unfold DiskM.save0; rw [hg]; exact hrm
          have Hrm := Lib.hid (fun W (h : JouF w W j d pre D M (FR F (.slice px (n + 2) cx) us)) => show Calls Tryz.prog 55 #[.pointer (some ⟨d, 0, none⟩), .slice (some ⟨W.heap.size, 0, none⟩) 1 1] (W.alloc (.cells #[.string (sShadow (sLog pre))] 9)) fun e w' => e = .returned (.int .i64 (e0 : Int)) ∧ JouF w w' j d pre D0 M (FR F (.slice px (n + 2) cx) us) ∧ Same (FR F (.slice px (n + 2) cx) us) W w' ∧ w'.heap[j]? = W.heap[j]? from by
            have := jou_remove h (sShadow (sLog pre)) hss
            rw [nm_sha, nm_log, hrm] at this
            exact this)
          have hr0 : readE (some f) = 0 := rfl
          rw [hg, hr0] at Hrd
          by_cases he0 : e0 = 0
          · subst he0
            have HZa := Lib.hid (fun D1 e1 (h1 : D0.append (shadowN (logN (nm pre))) (recsB M.rows) = (D1, e1)) (he : e1 ≠ 0) => (save1_app hs0 h1 he : writesJ D (nm pre) M = _))
            have HZs := Lib.hid (fun D1 D2 e2 (h1 : D0.append (shadowN (logN (nm pre))) (recsB M.rows) = (D1, 0)) (h2 : D1.sync [shadowN (logN (nm pre))] = (D2, e2)) (he : e2 ≠ 0) => (save1_syn hs0 h1 h2 he : writesJ D (nm pre) M = _))
            have HZr := Lib.hid (fun D1 D2 (h1 : D0.append (shadowN (logN (nm pre))) (recsB M.rows) = (D1, 0)) (h2 : D1.sync [shadowN (logN (nm pre))] = (D2, 0)) => (save1_ren hs0 h1 h2 : writesJ D (nm pre) M = _))
            clear hg hrm hs0 hr0
            go_wp2_with fail
            refine Hrd.out.mono ?_
            rintro e w3 ⟨v3, rfl, -, -, hb3⟩
            have HJ3 := Lib.hid (HJG.out.next hb3)
            have HS3 := Lib.hid (show Same (FR F (.slice px (n + 2) cx) us) wr w3 from HJG.out.same hb3)
            have c3b := cell_far c3 hb3
            have Hrc := Lib.hid (Hrm.out w3 HJ3.out)
            clear hb3 Hrd Hrm
            go_wp2_with fail
            refine Hrc.out.mono ?_
            rintro e w4 ⟨rfl, hj4, hs4, -⟩
            have HJ4 := Lib.hid hj4
            have HS4 := Lib.hid (HS3.out.trans hs4)
            clear hj4 hs4 Hrc c3 c4 c3b
            have c3 := HJ4.out.jc.1
            cases hap : DiskM.append D0 (shadowN (logN (nm pre))) (recsB M.rows) with
            | mk D1 e1 =>
              have Hap := Lib.hid (fun W (hb : Below (w4).heap.size (w4) W) x (hx : RowsAt W x [recsB M.rows]) => show Calls Tryz.prog 108 #[.pointer (some ⟨d, 0, none⟩), .string (sShadow (sLog pre)), x] W fun e w' => e = .returned (.int .i64 (e1 : Int)) ∧ JouF w w' j d pre D1 M (FR F (.slice px (n + 2) cx) us) ∧ Same (FR F (.slice px (n + 2) cx) us) (w4) w' ∧ w'.heap[j]? = (w4).heap[j]? from by
                have := jou_append HJ4.out hb (sShadow (sLog pre)) x [recsB M.rows] hx (by simp) (by simp; have := HrecL.out; have := HrR.out.2; omega) (by rw [size_sha, hsl]; omega)
                rw [show [recsB M.rows].flatten = recsB M.rows by simp, nm_sha, nm_log, hap] at this
                exact this)
              have Hfr := Lib.hid (fun W (hb : Below (w4).heap.size (w4) W) => framed_calls (RowsIn.at ((rowsIn_keep HRW.out fun x hx => HS4.out x (.inr hx)).below hb)) (by omega) (fun l hl => Nat.le_trans (HrR.out.1 l hl) (by decide)) (by have := HrecL.out; have := HrR.out.2; omega))
              have HAP := Lib.hid hap
              clear hap
              go_wp2_with fail
              refine ord_start (fun w' : World => w'.cell? ⟨j, 3, none⟩ = some (.pointer (some ⟨d, 0, none⟩))) (n := 11) (by kernel_rfl) rfl (c3) (fun hHeld => ?_)
              refine Pl [0,1,2,3,4,5,6] ?_
              iterate 7 (refine Pc rfl ?_;simp only [Act.put, uA, uB, uC])
              refine Pn ?_
              refine ord_one 7 rfl (by kernel_rfl) (by rfl) (fun K hK => ?_)
              have HBd := Lib.hid (below_drew (w4))
              go_wp2_with fail
              refine (Hfr.out _ HBd.out).mono ?_
              rintro e wf ⟨v, rfl, hv, -, hbf⟩
              have HBf := Lib.hid (HBd.out.trans hbf)
              have Hhf := Lib.hid (cell_far hHeld hbf)
              have HV := Lib.hid (OwnB.has hv)
              obtain ⟨pv, cv, rfl, -⟩ := own_cap0 hv
              clear hv hbf Hfr
              go_wp2_with fail
              refine hK.out _ _ (Hhf.out) (fun hHeld => ?_)
              clear hK
              try simp only [Act.put, List.setIfInBounds_toArray, List.set_cons_zero, List.set_cons_succ]
              refine ord_one 8 rfl (by kernel_rfl) (by rfl) (fun K hK => ?_)
              have Hha := Lib.hid (al_cell hHeld (.cells #[.slice pv (recsB M.rows).length cv] 23))
              go_wp2_with fail
              refine hK.out _ _ (Hha.out) (fun hHeld => ?_)
              clear hK
              try simp only [Act.put, List.setIfInBounds_toArray, List.set_cons_zero, List.set_cons_succ]
              refine ord_one 9 rfl (by kernel_rfl) (by rfl) (fun K hK => ?_)
              have Hcl := Lib.hid (Hap.out _ (HBf.out.trans ((below_one wf (.cells #[.slice pv (recsB M.rows).length cv] 23)).mono HBf.out.size)) _ (rows_one HV.out 23 (0, 0) wf.heap.size 1 rfl (Nat.le_refl _)))
              go_wp2_with fail
              refine Hcl.out.mono ?_
              rintro e wa ⟨rfl, hja, hsa, hha⟩
              have HJa := Lib.hid hja
              have HSa := Lib.hid (HS4.out.trans hsa)
              have Hhb := Lib.hid ((World.cell?_of_block (a := ⟨j, 3, none⟩) hha).trans c3)
              clear hja hsa hha Hcl
              go_wp2_with fail
              refine hK.out _ _ (Hhb.out) (fun hHeld => ?_)
              clear hK
              try simp only [Act.put, List.setIfInBounds_toArray, List.set_cons_zero, List.set_cons_succ]
              refine ord_take 10 (v := ?v14x10) rfl (by kernel_rfl) (by kernel_rfl) (by kernel_rfl) (fun _ _ _ h => h) (by rfl) (by assumption) ?y14x10 ?_
              case y14x10 => (intro w hSw; (try dsimp only at hSw); go_simp; try with_reducible rfl)
              simp only [Act.put, List.setIfInBounds_toArray, List.set_cons_zero, List.set_cons_succ]
              refine wpAnyH_done (by kernel_rfl) ?_ _
              clear HV HBf HBd
              have c3 : wa.cell? ⟨j, 3, none⟩ = some (.pointer (some ⟨d, 0, none⟩)) := Hhb.out
              by_cases he1 : e1 = 0
              · subst he1
                cases hsy : D1.sync [shadowN (logN (nm pre))] with
                | mk D2 e2 =>
                  have hsyc := jou_sync HJa.out (sShadow (sLog pre)) (by rw [size_sha, hsl]; omega)
                  rw [nm_sha, nm_log, hsy] at hsyc
                  have Hsy := Lib.hid hsyc
                  clear hsyc
                  by_cases he2 : e2 = 0
                  · subst he2
                    cases hre : D2.rename (shadowN (logN (nm pre))) (logN (nm pre)) with
                    | mk D3 e3 =>
                      have HZ := Lib.hid (show writesJ D (nm pre) M = (D3, e3) from (HZr.out D1 D2 HAP.out hsy).trans hre)
                      have Hre := Lib.hid (fun W (h : JouF w W j d pre D2 M (FR F (.slice px (n + 2) cx) us)) => show Calls Tryz.prog 110 #[.pointer (some ⟨d, 0, none⟩), .string (sShadow (sLog pre)), .string (sLog pre)] W fun e w' => e = .returned (.int .i64 (e3 : Int)) ∧ JouF w w' j d pre D3 M (FR F (.slice px (n + 2) cx) us) ∧ Same (FR F (.slice px (n + 2) cx) us) W w' ∧ w'.heap[j]? = W.heap[j]? from by
                        have := jou_rename h (sShadow (sLog pre)) (sLog pre) (by rw [size_sha, hsl]; omega) (by rw [hsl]; omega)
                        rw [nm_sha, nm_log, hre] at this
                        exact this)
                      clear hsy hre
                      go_wp2_with fail
                      refine Hsy.out.mono ?_
                      rintro e wb ⟨rfl, hjb, hsb, hhb⟩
                      have HSb := Lib.hid (HSa.out.trans hsb)
                      have c3b : wb.cell? ⟨j, 3, none⟩ = some (.pointer (some ⟨d, 0, none⟩)) := (World.cell?_of_block (a := ⟨j, 3, none⟩) hhb).trans c3
                      have Hrc := Lib.hid (Hre.out wb hjb)
                      clear hjb hsb hhb Hsy Hre
                      go_wp2_with fail
                      refine Hrc.out.mono ?_
                      rintro e wc ⟨rfl, hjc, hsc, -⟩
                      have HJc := Lib.hid hjc
                      have HSc := Lib.hid (HSb.out.trans hsc)
                      clear hjc hsc Hrc
                      have HE := Lib.hid (show WritTold w w1 j d pre M F (writesJ D (nm pre) M) (.returned (.int .i64 (e3 : Int))) _ from ⟨by rw [HZ.out], by rw [HZ.out]; exact HJc.out.less fun _ h => .inl h, fun x hx => (HSc.out x (.inl hx)).trans (HsF.out x hx)⟩)
                      go_wp2_with fail
                      go_ret
                      exact HE.out
                  · have HZ := Lib.hid (show writesJ D (nm pre) M = (D2, e2) from HZs.out D1 D2 e2 HAP.out hsy he2)
                    have hne : ((e2 : Int) != 0) = true := by simp; omega
                    clear hsy he2
                    go_wp2_with fail
                    refine Hsy.out.mono ?_
                    rintro e wb ⟨rfl, hjb, hsb, -⟩
                    have HJb := Lib.hid hjb
                    have HSb := Lib.hid (HSa.out.trans hsb)
                    clear hjb hsb Hsy
                    have HE := Lib.hid (show WritTold w w1 j d pre M F (writesJ D (nm pre) M) (.returned (.int .i64 (e2 : Int))) _ from ⟨by rw [HZ.out], by rw [HZ.out]; exact HJb.out.less fun _ h => .inl h, fun x hx => (HSb.out x (.inl hx)).trans (HsF.out x hx)⟩)
                    go_wp2_with fail
                    go_ret
                    exact HE.out
              · have HZ := Lib.hid (show writesJ D (nm pre) M = (D1, e1) from HZa.out D1 e1 HAP.out he1)
                have hne : ((e1 : Int) != 0) = true := by simp; omega
                clear he1
                have HE := Lib.hid (show WritTold w w1 j d pre M F (writesJ D (nm pre) M) (.returned (.int .i64 (e1 : Int))) _ from ⟨by rw [HZ.out], by rw [HZ.out]; exact HJa.out.less fun _ h => .inl h, fun x hx => (HSa.out x (.inl hx)).trans (HsF.out x hx)⟩)
                go_wp2_with fail
                go_ret
                exact HE.out
          · have HZ := Lib.hid (show writesJ D (nm pre) M = (D0, e0) from save1_rem hs0 he0)
            have hne : ((e0 : Int) != 0) = true := by simp; omega
            clear hg hrm hs0 hr0 he0
            go_wp2_with fail
            refine Hrd.out.mono ?_
            rintro e w3 ⟨v3, rfl, -, -, hb3⟩
            have HJ3 := Lib.hid (HJG.out.next hb3)
            have HS3 := Lib.hid (show Same (FR F (.slice px (n + 2) cx) us) wr w3 from HJG.out.same hb3)
            have c3b := cell_far c3 hb3
            have Hrc := Lib.hid (Hrm.out w3 HJ3.out)
            clear hb3 Hrd Hrm
            go_wp2_with fail
            refine Hrc.out.mono ?_
            rintro e w4 ⟨rfl, hj4, hs4, -⟩
            have HJ4 := Lib.hid hj4
            have HS4 := Lib.hid (HS3.out.trans hs4)
            clear hj4 hs4 Hrc
            have HE := Lib.hid (show WritTold w w1 j d pre M F (writesJ D (nm pre) M) (.returned (.int .i64 (e0 : Int))) _ from ⟨by rw [HZ.out], by rw [HZ.out]; exact HJ4.out.less fun _ h => .inl h, fun x hx => (HS4.out x (.inl hx)).trans (HsF.out x hx)⟩)
            go_wp2_with fail
            go_ret
            exact HE.out
end
end Go.Proofs.YtngflpaooppmhaaGreat
