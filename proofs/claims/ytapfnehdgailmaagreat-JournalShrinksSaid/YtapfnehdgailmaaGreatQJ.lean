/- journal: Open. (Printed by mkj26.py.) The document's check sum (satrapyref1.Sum) is the program's. The document's Four and FromFour. DiskNames: what the disk keeps (a plain law). DiskNames: the walk. The document's Encode (satrapyref2). The document's octet: Num, Nums. (Printed by mkrj1.py.) The document's: Nums, List, record, terms. (Printed by mkrj2.py.) The document's disk (satrapyref3) in memory. The document's disk: may, did, Used, Fuse, New, Read; where names stand. The document's disk: Used, Read, List. The contract of satrapylaw4.known: it is true. KeepApart: what the disk keeps (a plain law). The document's disk: a cell of a file is written; Sync. -/
import Derived.Sort.Walk0
import Derived.StillTailTactics
import Derived.Test.YtapfnehdgailmaaGreatQC
import Derived.Test.YtapfnehdgailmaaGreatQE
import Derived.Test.YtapfnehdgailmaaGreatQI
namespace Go.Proofs.YtapfnehdgailmaaGreat
open Go.RowKit Go.Sat Go.Maps

section
variable {w w1 w2 : World} {j d : Nat} {pre : ByteArray} {D : DiskM} {M : JouM} {F F2 : Nat → Prop}

theorem open_bad {D' : DiskM} {M' : JouM} {k : Nat} {r : DiskM × Nat × JouM} (h : St w w2 d D' F) (hs : Same F w1 w2) (hr : r = (D', k, M')) (hk : k ≠ 0) : OpenJTold w w1 d pre F r (.returned (.tuple #[.pointer none, .int .i64 (k : Int)])) w2 := by
  subst hr
  exact ⟨h, hs, .inr ⟨hk, rfl⟩⟩
theorem open_good {D' : DiskM} {M' : JouM} {r : DiskM × Nat × JouM} (h : JouF w w2 j d pre D' M' F) (hs : Same F w1 w2) (hr : r = (D', 0, M')) : OpenJTold w w1 d pre F r (.returned (.tuple #[.pointer (some ⟨j, 0, none⟩), .int .i64 0])) w2 := by
  subst hr
  exact ⟨h.stF, hs, .inl ⟨rfl, j, rfl, h⟩⟩

/-- The data is laid into the journal's cell. -/
theorem jou_data (h : JouF w w1 j d pre D M F) {dv : Value} {b : Bs} (hd : OwnB w1 5 dv b) (hF : ∀ k, dv.ownBlock = some k → F k ∧ w.heap.size ≤ k) (hF2 : ∀ k, F2 k → F k ∧ dv.ownBlock ≠ some k) (hb : b.length ≤ 1073741824) :
    JouF w (w1.setCell ⟨j, 7, none⟩ dv) j d pre D { M with data := b } F2 ∧ Same F2 w1 (w1.setCell ⟨j, 7, none⟩ dv) := by
  obtain ⟨own, gv, dv0, ev, vs, hJ, hS, hn, hl⟩ := h
  have hnd : ∀ k, dv.ownBlock = some k → ¬ own k := fun k hk ho => (hn k ho).2 (hF k hk).1
  have hs : ∀ k, k ≠ j → (w1.setCell ⟨j, 7, none⟩ dv).heap[k]? = w1.heap[k]? := fun k hk => set_other _ hk
  have hdj : ∀ k, dv.ownBlock = some k → k ≠ j := fun k hk e => hnd k hk (e ▸ hJ.ol)
  refine JouF.turned2 (M' := { M with data := b }) (own' := fun k => own k ∨ dv.ownBlock = some k) (gv' := gv) (dv' := dv) (ev' := ev) (vs' := vs) hS hn hl ⟨?_, OwnR.keep hJ.group fun k hk => hs k (hJ.og k hk).2.1, OwnR.keep hd fun k hk => hs k (hdj k hk), hJ.row.keep fun k hk => hs k (hJ.oe k hk).2, ⟨hJ.rows.1, fun i e v h1 h2 => (hJ.rows.2 i e v h1 h2).keep fun k hk => hs k (hJ.ov v (List.mem_of_getElem? h2) k hk).2.1⟩, .inl hJ.ol, fun k hk => ⟨.inl (hJ.og k hk).1, (hJ.og k hk).2⟩, fun k hk => ⟨.inr hk, hdj k hk, fun e => hnd k hk (hJ.oe k e).1⟩, fun k hk => ⟨.inl (hJ.oe k hk).1, (hJ.oe k hk).2⟩, fun u hu k hk => ⟨.inl (hJ.ov u hu k hk).1, (hJ.ov u hu k hk).2⟩, fun k hk => ?_, hJ.psz, ⟨hJ.ok.last, hJ.ok.term, hJ.ok.group, hJ.ok.now, hJ.ok.vote, hb, hJ.ok.ents⟩⟩ ((Chg.setCell w1 ⟨j, 7, none⟩ dv).mono fun x _ e => by rw [e]; exact hJ.ol) (fun k hk => ?_) fun k hk => ⟨(hF2 k hk).1, fun ho => ?_⟩
  · have h1 := set_block hJ.cells 7 dv
    simpa using h1
  · have : k < w1.heap.size := hk.elim (hJ.olt k) fun h => OwnR.lt hd h
    simpa [World.setCell] using this
  · exact hk.imp id fun h => .inr (hF k h)
  · rcases ho with ho | ho
    · exact (hn k ho).2 (hF2 k hk).1
    · exact (hF2 k hk).2 ho

set_option maxRecDepth 100000 in
set_option maxHeartbeats 32000000 in
theorem jopen_calls (h : St w w1 d D F) (hroom : D.room ≤ 1048576) (pre : ByteArray) {nodes : List Int} {pn : Option Addr} {nn cn : Nat} (hx : HasI w1 (.slice pn nn cn) nodes) (hnl : nodes.length ≤ 1099511627776) :
    Calls Tryz.prog 17 #[.pointer (some ⟨d, 0, none⟩), .string pre, .slice pn nn cn] w1 (OpenJTold w w1 d pre F (jouOpen D (nm pre) nodes)) := by
  have hsz : (nm pre).length = pre.size := nm_len pre
  have Hgr := Lib.hid (isgrp_calls hx hnl)
  by_cases hp : pre.size < 1 ∨ 20 < pre.size
  · have HE := Lib.hid (open_bad (pre := pre) (k := 1) h (fun _ _ => rfl) (oj_arg (pre := nm pre) (nodes := nodes) (by rw [hsz]; exact hp.elim .inl fun h => .inr (.inl h))) (by decide))
    clear h hsz hx
    generalize hzz : pre.size = z at *
    by_cases hz : z < 1
    · have hz0 : z = 0 := by omega
      subst hz0
      go_enter Tryz.func17, Tryz.ntmps17
      go_wp2_with fail
      go_ret2
      exact HE.out
    · have hz6 : 20 < z := by omega
      go_enter Tryz.func17, Tryz.ntmps17
      go_wp2_with fail
      go_ret2
      exact HE.out
  · cases hgg : isGrp nodes with
    | false =>
      rw [hgg] at Hgr
      have HE := Lib.hid (open_bad (pre := pre) (k := 1) h (fun _ _ => rfl) (oj_arg (pre := nm pre) (nodes := nodes) (.inr (.inr hgg))) (by decide))
      clear h hsz hx hgg
      generalize hzz : pre.size = z at *
      go_enter Tryz.func17, Tryz.ntmps17
      go_wp2_with fail
      refine Hgr.out.mono ?_
      rintro e w2 ⟨rfl, rfl⟩
      go_wp2_with fail
      go_ret2
      exact HE.out
    | true =>
      rw [hgg] at Hgr
      have hps : 1 ≤ pre.size ∧ pre.size ≤ 20 := by omega
      have hok : ¬ ((nm pre).length < 1 ∨ 20 < (nm pre).length ∨ isGrp nodes = false) := by
        rw [hsz]
        rintro (h | h | h)
        · omega
        · omega
        · rw [hgg] at h
          cases h
      obtain ⟨O⟩ := opensJ_of D (nm pre) nodes
      have hrm1 := rid1_room D (shadowN (logN (nm pre)))
      rw [O.h1] at hrm1
      have hrm2 := rid1_room O.D1 (shadowN (snpN (nm pre)))
      rw [O.h2] at hrm2
      have Hrm := Lib.hid (show O.D2.room ≤ 1048576 by have h1 : O.D1.room = D.room := hrm1; have h2 : O.D2.room = O.D1.room := hrm2; omega)
      have Hh1 := Lib.hid O.h1
      have Hh2 := Lib.hid O.h2
      have Hhs := Lib.hid O.hs
      have Hhl := Lib.hid O.hl
      have HE1 := Lib.hid (oj_e1 O hok)
      have HE2 := Lib.hid (oj_e2 O hok)
      have HE3 := Lib.hid (oj_e3 O hok)
      have HE4 := Lib.hid (oj_e4 O hok)
      have HNo := Lib.hid (oj_no O hok)
      have HKp := Lib.hid (fun M => oj_keep O hok (M := M))
      have HAn := Lib.hid (fun M => oj_anew O hok (M := M))
      clear hrm1 hrm2
      generalize O.D1 = D1 at *
      generalize O.e1 = e1 at *
      generalize O.D2 = D2 at *
      generalize O.e2 = e2 at *
      generalize O.s = sn at *
      generalize O.l = li at *
      clear O
      obtain ⟨ks, so⟩ := sn
      obtain ⟨D3, e3, a3, M3⟩ := li
      have HE3 := Lib.hid (show e1 = 0 → e2 = 0 → ks ≠ 0 → jouOpen D (nm pre) nodes = (D2, ks, JouM.none0 nodes) from HE3.out)
      have HE4 := Lib.hid (show e1 = 0 → e2 = 0 → ks = 0 → e3 ≠ 0 → jouOpen D (nm pre) nodes = (D3, e3, JouM.none0 nodes) from HE4.out)
      have HNo := Lib.hid (show e1 = 0 → e2 = 0 → ks = 0 → e3 = 0 → joins so M3 a3 = none → jouOpen D (nm pre) nodes = (D3, 3, JouM.none0 nodes) from HNo.out)
      have HKp := Lib.hid (show ∀ M, e1 = 0 → e2 = 0 → ks = 0 → e3 = 0 → joins so M3 a3 = some (false, M) → jouOpen D (nm pre) nodes = (D3, 0, M) from HKp.out)
      have HAn := Lib.hid (show ∀ M, e1 = 0 → e2 = 0 → ks = 0 → e3 = 0 → joins so M3 a3 = some (true, M) → jouOpen D (nm pre) nodes = ((writesJ D3 (nm pre) M).1, (writesJ D3 (nm pre) M).2, M) from HAn.out)
      have Hcl := Lib.hid (icl_calls hx hnl)
      have HS := Lib.hid h
      have hpz1 := hps.1
      have hpz2 := hps.2
      have hsl : (sLog pre).size = pre.size + 4 := size_log pre
      have hssn : (sSnp pre).size = pre.size + 5 := size_snp pre
      have Hgg := Lib.hid hgg
      have i0 : ∀ (W : World) (a b : ByteArray), (Instr.index 133 (.agg #[.string a, .string b]) (.int .i64 0)).run Tryz.prog W = .ok (.string a) W := fun _ _ _ => by kernel_rfl
      have i1 : ∀ (W : World) (a b : ByteArray), (Instr.index 133 (.agg #[.string a, .string b]) (.int .i64 1)).run Tryz.prog W = .ok (.string b) W := fun _ _ _ => by kernel_rfl
      clear h hsz hx hgg hok hp
      go_enter Tryz.func17, Tryz.ntmps17
      go_wp2_with fail
      refine Hgr.out.mono ?_
      rintro e w2 ⟨rfl, rfl⟩
      go_wp2_with fail
      refine Hcl.out.mono ?_
      rintro e w3 ⟨gv, rfl, hgv, hgn, hb3⟩
      obtain ⟨pg, cg, rfl, -⟩ := own_capI hgv
      have HJ0 := Lib.hid (jou_fresh (F := F) (HS.out.move (F' := fun k => F k ∨ (Value.slice pg nodes.length cg).ownBlock = some k) (Chg.of_below hb3) (fun _ _ h => h.elim) fun k hk => hk.elim (fun h => ⟨.inl h, Nat.lt_of_lt_of_le (HS.out.flt h) hb3.size⟩) fun h => ⟨.inr (hgn k h), OwnR.lt hgv h⟩) pre hps Hgg.out hgv fun k hk => ⟨Nat.le_trans HS.out.below.size (hgn k hk), fun hf => by have h1 := HS.out.flt hf; have h2 := hgn k hk; omega⟩)
      have HS0 := Lib.hid (show Same F w2 (w3.alloc (.cells #[.int .i64 0, .int .i64 0, .slice pg nodes.length cg, .pointer (some ⟨d, 0, none⟩), .string pre, .int .i64 0, .int .i64 (-1), .slice none 0 0, .slice none 0 0, .bool false] 132)) from fun k hk => ((below_one w3 (.cells #[.int .i64 0, .int .i64 0, .slice pg nodes.length cg, .pointer (some ⟨d, 0, none⟩), .string pre, .int .i64 0, .int .i64 (-1), .slice none 0 0, .slice none 0 0, .bool false] 132)).block k (Nat.lt_of_lt_of_le (HS.out.flt hk) hb3.size)).trans (hb3.block k (HS.out.flt hk)))
      clear hgv hgn hb3 Hcl Hgr HS
      generalize hw1 : w2 = w1 at *
      clear hw1
      go_wp2_with fail
      generalize w3.heap.size = j at *
      generalize w3.alloc (.cells #[.int .i64 0, .int .i64 0, .slice pg nodes.length cg, .pointer (some ⟨d, 0, none⟩), .string pre, .int .i64 0, .int .i64 (-1), .slice none 0 0, .slice none 0 0, .bool false] 132) = W0 at *
      go_loopw [51] (fun x wr => Same F w1 wr ∧ ((x = .int .i64 0 ∧ JouF w wr j d pre D (JouM.none0 nodes) F) ∨ (x = .int .i64 1 ∧ e1 = 0 ∧ JouF w wr j d pre D1 (JouM.none0 nodes) F) ∨ (x = .int .i64 2 ∧ e1 = 0 ∧ e2 = 0 ∧ JouF w wr j d pre D2 (JouM.none0 nodes) F))) (fun i _ => 2 - (intOf i).toNat)
      case atStart => exact ⟨HS0.out, .inl ⟨rfl, HJ0.out⟩⟩
      case round =>
        clear HJ0 HS0
        obtain ⟨hsm, hx⟩ := hrel
        rcases hx with ⟨rfl, hJ⟩ | ⟨rfl, he1, hJ⟩ | ⟨rfl, he1, he2, hJ⟩
        · have Hrd := Lib.hid (jou_read hJ (sShadow (sLog pre)) (by rw [size_sha, hsl]; omega))
          rw [nm_sha, nm_log] at Hrd
          have HJw := Lib.hid hJ
          have HSw := Lib.hid hsm
          cases hg : Sat.get (shadowN (logN (nm pre))) D.files with
          | none =>
            have hr : D.rid1 (shadowN (logN (nm pre))) = (D, 0) := by unfold DiskM.rid1; rw [hg]; rfl
            have hr2 := Hh1.out
            rw [hr] at hr2
            have hr3 : D = D1 := congrArg Prod.fst hr2
            have hr4 : 0 = e1 := congrArg Prod.snd hr2
            have hr7 : readE (none : Option FileM) = 7 := rfl
            rw [hg, hr7] at Hrd
            have He0 := Lib.hid (show e1 = 0 from hr4.symm)
            have HJn := Lib.hid (show JouF w wr j d pre D1 (JouM.none0 nodes) F from hr3 ▸ HJw.out)
            clear hJ hsm hg hr hr2 hr3 hr4 hr7
            go_wp2_with fail
            refine Hrd.out.mono ?_
            rintro e w3 ⟨v3, rfl, -, -, hb3⟩
            have HE := Lib.hid (And.intro (HSw.out.trans (HJw.out.same hb3)) (HJn.out.next hb3))
            clear hb3 Hrd
            go_wp2_with fail
            go_roundw
            case rel => first | exact ⟨HE.out.1, .inr (.inl ⟨rfl, He0.out, HE.out.2⟩)⟩ | ((repeat apply Exists.intro); exact ⟨⟨HE.out.1, .inr (.inl ⟨rfl, He0.out, HE.out.2⟩)⟩, rfl⟩)
            case measure => simp [intOf]
          | some f =>
            have hr : D.remove [shadowN (logN (nm pre))] = (D1, e1) := by
              have := Hh1.out
              unfold DiskM.rid1 at this
              rw [hg] at this
              exact this
            have hr0 : readE (some f) = 0 := rfl
            rw [hg, hr0] at Hrd
            have Hrm := Lib.hid (fun W (h : JouF w W j d pre D (JouM.none0 nodes) F) => show Calls Tryz.prog 76 #[.pointer (some ⟨d, 0, none⟩), .slice (some ⟨W.heap.size, 0, none⟩) 1 1] (W.alloc (.cells #[.string (sShadow (sLog pre))] 9)) fun e w' => e = .returned (.int .i64 (e1 : Int)) ∧ JouF w w' j d pre D1 (JouM.none0 nodes) F ∧ Same F W w' ∧ w'.heap[j]? = W.heap[j]? from by
              have := jou_remove h (sShadow (sLog pre)) (by rw [size_sha, hsl]; omega)
              rwa [nm_sha, nm_log, hr] at this)
            clear hJ hsm hg hr hr0
            by_cases he : e1 = 0
            · have He0 := Lib.hid he
              rw [he] at Hrm
              clear he
              go_wp2_with fail
              refine Hrd.out.mono ?_
              rintro e w3 ⟨v3, rfl, -, -, hb3⟩
              have HJ3 := Lib.hid (HJw.out.next hb3)
              have HS3 := Lib.hid (HSw.out.trans (HJw.out.same hb3))
              clear hb3 Hrd
              go_wp2_with fail
              refine (Hrm.out w3 HJ3.out).mono ?_
              rintro e w4 ⟨rfl, hj4, hs4, -⟩
              have HE := Lib.hid (And.intro (HS3.out.trans hs4) hj4)
              clear hj4 hs4 Hrm
              go_wp2_with fail
              go_roundw
              case rel => first | exact ⟨HE.out.1, .inr (.inl ⟨rfl, He0.out, HE.out.2⟩)⟩ | ((repeat apply Exists.intro); exact ⟨⟨HE.out.1, .inr (.inl ⟨rfl, He0.out, HE.out.2⟩)⟩, rfl⟩)
              case measure => simp [intOf]
            · have hne : ((e1 : Int) != 0) = true := by simp; omega
              have HR := Lib.hid (HE1.out he)
              have He := Lib.hid he
              clear he
              go_wp2_with fail
              refine Hrd.out.mono ?_
              rintro e w3 ⟨v3, rfl, -, -, hb3⟩
              have HJ3 := Lib.hid (HJw.out.next hb3)
              have HS3 := Lib.hid (HSw.out.trans (HJw.out.same hb3))
              clear hb3 Hrd
              go_wp2_with fail
              refine (Hrm.out w3 HJ3.out).mono ?_
              rintro e w4 ⟨rfl, hj4, hs4, -⟩
              have HE := Lib.hid (open_bad (pre := pre) (w1 := w1) hj4.stF (HS3.out.trans hs4) HR.out He.out)
              clear hj4 hs4 Hrm
              go_wp2_with fail
              go_ret2
              exact HE.out
        · have He1 := Lib.hid he1
          clear he1
          have Hrd := Lib.hid (jou_read hJ (sShadow (sSnp pre)) (by rw [size_sha, hssn]; omega))
          rw [nm_sha, nm_snp] at Hrd
          have HJw := Lib.hid hJ
          have HSw := Lib.hid hsm
          cases hg : Sat.get (shadowN (snpN (nm pre))) D1.files with
          | none =>
            have hr : D1.rid1 (shadowN (snpN (nm pre))) = (D1, 0) := by unfold DiskM.rid1; rw [hg]; rfl
            have hr2 := Hh2.out
            rw [hr] at hr2
            have hr3 : D1 = D2 := congrArg Prod.fst hr2
            have hr4 : 0 = e2 := congrArg Prod.snd hr2
            have hr7 : readE (none : Option FileM) = 7 := rfl
            rw [hg, hr7] at Hrd
            have He0 := Lib.hid (show e2 = 0 from hr4.symm)
            have HJn := Lib.hid (show JouF w wr j d pre D2 (JouM.none0 nodes) F from hr3 ▸ HJw.out)
            clear hJ hsm hg hr hr2 hr3 hr4 hr7
            go_wp2_with fail
            refine Hrd.out.mono ?_
            rintro e w3 ⟨v3, rfl, -, -, hb3⟩
            have HE := Lib.hid (And.intro (HSw.out.trans (HJw.out.same hb3)) (HJn.out.next hb3))
            clear hb3 Hrd
            go_wp2_with fail
            go_roundw
            case rel => first | exact ⟨HE.out.1, .inr (.inr ⟨rfl, He1.out, He0.out, HE.out.2⟩)⟩ | ((repeat apply Exists.intro); exact ⟨⟨HE.out.1, .inr (.inr ⟨rfl, He1.out, He0.out, HE.out.2⟩)⟩, rfl⟩)
            case measure => simp [intOf]
          | some f =>
            have hr : D1.remove [shadowN (snpN (nm pre))] = (D2, e2) := by
              have := Hh2.out
              unfold DiskM.rid1 at this
              rw [hg] at this
              exact this
            have hr0 : readE (some f) = 0 := rfl
            rw [hg, hr0] at Hrd
            have Hrm := Lib.hid (fun W (h : JouF w W j d pre D1 (JouM.none0 nodes) F) => show Calls Tryz.prog 76 #[.pointer (some ⟨d, 0, none⟩), .slice (some ⟨W.heap.size, 0, none⟩) 1 1] (W.alloc (.cells #[.string (sShadow (sSnp pre))] 9)) fun e w' => e = .returned (.int .i64 (e2 : Int)) ∧ JouF w w' j d pre D2 (JouM.none0 nodes) F ∧ Same F W w' ∧ w'.heap[j]? = W.heap[j]? from by
              have := jou_remove h (sShadow (sSnp pre)) (by rw [size_sha, hssn]; omega)
              rwa [nm_sha, nm_snp, hr] at this)
            clear hJ hsm hg hr hr0
            by_cases he : e2 = 0
            · have He0 := Lib.hid he
              rw [he] at Hrm
              clear he
              go_wp2_with fail
              refine Hrd.out.mono ?_
              rintro e w3 ⟨v3, rfl, -, -, hb3⟩
              have HJ3 := Lib.hid (HJw.out.next hb3)
              have HS3 := Lib.hid (HSw.out.trans (HJw.out.same hb3))
              clear hb3 Hrd
              go_wp2_with fail
              refine (Hrm.out w3 HJ3.out).mono ?_
              rintro e w4 ⟨rfl, hj4, hs4, -⟩
              have HE := Lib.hid (And.intro (HS3.out.trans hs4) hj4)
              clear hj4 hs4 Hrm
              go_wp2_with fail
              go_roundw
              case rel => first | exact ⟨HE.out.1, .inr (.inr ⟨rfl, He1.out, He0.out, HE.out.2⟩)⟩ | ((repeat apply Exists.intro); exact ⟨⟨HE.out.1, .inr (.inr ⟨rfl, He1.out, He0.out, HE.out.2⟩)⟩, rfl⟩)
              case measure => simp [intOf]
            · have hne : ((e2 : Int) != 0) = true := by simp; omega
              have HR := Lib.hid (HE2.out He1.out he)
              have He := Lib.hid he
              clear he
              go_wp2_with fail
              refine Hrd.out.mono ?_
              rintro e w3 ⟨v3, rfl, -, -, hb3⟩
              have HJ3 := Lib.hid (HJw.out.next hb3)
              have HS3 := Lib.hid (HSw.out.trans (HJw.out.same hb3))
              clear hb3 Hrd
              go_wp2_with fail
              refine (Hrm.out w3 HJ3.out).mono ?_
              rintro e w4 ⟨rfl, hj4, hs4, -⟩
              have HE := Lib.hid (open_bad (pre := pre) (w1 := w1) hj4.stF (HS3.out.trans hs4) HR.out He.out)
              clear hj4 hs4 Hrm
              go_wp2_with fail
              go_ret2
              exact HE.out
        · have He1 := Lib.hid he1
          have He2 := Lib.hid he2
          have HJ2 := Lib.hid hJ
          have HS2 := Lib.hid hsm
          have Hsn := Lib.hid (rsnap_calls hJ)
          rw [Hhs.out] at Hsn
          have Hlen := Lib.hid (fun (h3 : e3 = 0) => readLog_len hJ.okD Hrm.out (show (JouM.none0 nodes).entries = [] from rfl) (Hhl.out.trans (by rw [h3])))
          clear he1 he2 hJ hsm
          go_wp2_with fail
          refine Hsn.out.mono ?_
          intro e w4 hT
          obtain ⟨hb4, n, t, gp, gn, gc, dv, rfl, hsn⟩ := hT
          have HJ4 := Lib.hid (HJ2.out.next hb4)
          have HS4 := Lib.hid (HS2.out.trans (HJ2.out.same hb4))
          have Hb4 := Lib.hid hb4
          have Hsn4 := Lib.hid hsn
          clear hb4 hsn Hsn
          by_cases hks : ks = 0
          · have Hks := Lib.hid hks
            cases so with
            | none =>
              have HRL := Lib.hid (rlog_calls (HJ4.out.box (.cells #[.int .i64 n, .int .i64 t, .slice gp gn gc] 130)) (show (JouM.none0 nodes).entries = [] from rfl))
              rw [Hhl.out] at HRL
              have HSB := Lib.hid (HS4.out.trans (HJ4.out.same (below_one w4 (.cells #[.int .i64 n, .int .i64 t, .slice gp gn gc] 130))))
              have HBX := Lib.hid (new_block w4 (.cells #[.int .i64 n, .int .i64 t, .slice gp gn gc] 130))
              subst hks
              go_wp2_with fail
              generalize w4.alloc (.cells #[.int .i64 n, .int .i64 t, .slice gp gn gc] 130) = w5 at *
              refine HRL.out.mono ?_
              rintro e w6 ⟨rfl, hst6, hs6, hj6⟩
              by_cases he3 : e3 = 0
              · have He3 := Lib.hid he3
                have HJ6 := Lib.hid ((hj6 he3).less (F' := F) fun k hk => .inl hk)
                have HS6 := Lib.hid (HSB.out.trans fun k hk => hs6 k (.inl hk))
                subst he3
                clear hst6 hs6 hj6
                obtain ⟨own, gv, dv0, ev, vs, hJ6, -⟩ := id HJ6.out
                have c0 := hJ6.c 0 rfl
                clear hJ6
                by_cases hn0 : 0 < M3.number
                · have HR := Lib.hid (HNo.out He1.out He2.out Hks.out He3.out (show joins none M3 a3 = none from by unfold joins; exact if_pos hn0))
                  have HE := Lib.hid (fun q => open_bad (pre := pre) (w1 := w1) (HJ6.out.drewN q).stF HS6.out HR.out (by decide))
                  have d0 : decide ((0 : Int) < (M3.number : Int)) = true := by simp; omega
                  have d0n : decide (0 < M3.number) = true := by simp; omega
                  clear hn0
                  go_wp2_with fail
                  go_quiet (fail)
                  go_wp2_with fail
                  go_quiet (fail)
                  go_wp2_with fail
                  go_ret2
                  exact HE.out _
                · have HJn := Lib.hid (show joins none M3 a3 = some (a3, M3) from by unfold joins; exact if_neg hn0)
                  have d0 : decide ((0 : Int) < (M3.number : Int)) = false := by simp; omega
                  have d0n : decide (0 < M3.number) = false := by simp; omega
                  clear hn0
                  cases a3 with
                  | false =>
                    have HR := Lib.hid (HKp.out M3 He1.out He2.out Hks.out He3.out HJn.out)
                    have HE := Lib.hid (fun q => open_good (pre := pre) (w1 := w1) (HJ6.out.drewN q) HS6.out HR.out)
                    go_wp2_with fail
                    go_quiet (fail)
                    go_wp2_with fail
                    go_quiet (fail)
                    go_wp2_with fail
                    go_ret2
                    exact HE.out _
                  | true =>
                    have HR0 := HAn.out M3 He1.out He2.out Hks.out He3.out HJn.out
                    go_wp2_with fail
                    go_quiet (fail)
                    go_wp2_with fail
                    go_quiet (fail)
                    go_wp2_with fail
                    generalize hWQ : (World.drewN _ _) = WQ
                    have HJQ := Lib.hid (show JouF w WQ j d pre D3 M3 F from by rw [← hWQ]; exact HJ6.out.drewN _)
                    have HSQ := Lib.hid (show Same F w1 WQ from by rw [← hWQ]; exact HS6.out)
                    clear hWQ c0
                    cases hwj : writesJ D3 (nm pre) M3 with
                    | mk D4 e4 =>
                      have Hwj := Lib.hid (show Calls Tryz.prog 80 #[.pointer (some ⟨j, 0, none⟩)] WQ (WritTold w WQ j d pre M3 F (D4, e4)) from by
                        have := jwrites_calls HJQ.out (Hlen.out He3.out)
                        rwa [hwj] at this)
                      have HR := HR0
                      rw [hwj] at HR
                      have HR := Lib.hid HR
                      clear hwj
                      by_cases he4 : e4 = 0
                      · subst he4
                        go_wp2_with fail
                        refine Hwj.out.mono ?_
                        rintro e w9 ⟨rfl, hj9, hs9⟩
                        have HE := Lib.hid (open_good (pre := pre) (w1 := w1) hj9 (HSQ.out.trans hs9) HR.out)
                        clear hj9 hs9 Hwj
                        go_wp2_with fail
                        go_ret2
                        exact HE.out
                      · have hne : ((e4 : Int) != 0) = true := by simp; omega
                        have He4 := Lib.hid he4
                        clear he4
                        go_wp2_with fail
                        refine Hwj.out.mono ?_
                        rintro e w9 ⟨rfl, hj9, hs9⟩
                        have HE := Lib.hid (open_bad (pre := pre) (w1 := w1) (show St w w9 d D4 F from hj9.stF) (HSQ.out.trans hs9) HR.out He4.out)
                        clear hj9 hs9 Hwj
                        go_wp2_with fail
                        go_ret2
                        exact HE.out
              · have hne : ((e3 : Int) != 0) = true := by simp; omega
                have HE := Lib.hid (open_bad (pre := pre) (w1 := w1) (hst6.less (F := F) fun k hk => .inl hk) (HSB.out.trans fun k hk => hs6 k (.inl hk)) (HE4.out He1.out He2.out Hks.out he3) he3)
                clear hst6 hs6 hj6 he3
                go_wp2_with fail
                go_ret2
                exact HE.out
            | some s =>
              obtain ⟨rfl, rfl, hog, hod, hnw⟩ := Hsn4.out s rfl
              have hso := snapOf_ok (o := Sat.get (snpN (nm pre)) D2.files) (s := s) (by rw [Hhs.out])
              obtain ⟨pg2, cg2, eg, -⟩ := own_capI hog
              simp only [Value.slice.injEq] at eg
              obtain ⟨rfl, rfl, rfl⟩ := eg
              obtain ⟨pd, cd, rfl, -⟩ := own_cap0 hod
              have Hso := Lib.hid hso
              have Hnw := Lib.hid hnw
              have HOG := Lib.hid hog
              have HOD := Lib.hid hod
              have HJG := Lib.hid (show JouF w (w4.alloc (.cells #[.int .i64 (s.number : Int), .int .i64 s.term, .slice gp s.group.length gc] 130)) j d pre D2 (JouM.none0 nodes) (fun k => F k ∨ k = w4.heap.size ∨ ((Value.slice gp s.group.length gc).ownBlock = some k ∨ (Value.slice pd s.data.length cd).ownBlock = some k)) from (HJ2.out.more (Hb4.out.trans ((below_one w4 (.cells #[.int .i64 (s.number : Int), .int .i64 s.term, .slice gp s.group.length gc] 130)).mono Hb4.out.size)) fun k hk => by
                have hs4 : w4.heap.size < (w4.alloc (.cells #[.int .i64 (s.number : Int), .int .i64 s.term, .slice gp s.group.length gc] 130)).heap.size := by simp
                rcases hk with hk | hk | hk
                · exact .inl hk
                · exact .inr ⟨by rw [hk]; exact Hb4.out.size, by rw [hk]; exact hs4⟩
                · refine .inr ⟨Hnw.out k hk, Nat.lt_trans ?_ hs4⟩
                  exact hk.elim (OwnR.lt HOG.out) (OwnR.lt HOD.out)))
              have HRL := Lib.hid (rlog_calls HJG.out (show (JouM.none0 nodes).entries = [] from rfl))
              rw [Hhl.out] at HRL
              have HSB := Lib.hid (HS4.out.trans (HJ4.out.same (below_one w4 (.cells #[.int .i64 (s.number : Int), .int .i64 s.term, .slice gp s.group.length gc] 130))))
              have HBX := Lib.hid (new_block w4 (.cells #[.int .i64 (s.number : Int), .int .i64 s.term, .slice gp s.group.length gc] 130))
              have HOG2 := Lib.hid (ownI_far HOG.out (below_one w4 (.cells #[.int .i64 (s.number : Int), .int .i64 s.term, .slice gp s.group.length gc] 130)))
              have HOD2 := Lib.hid (ownB_far HOD.out (below_one w4 (.cells #[.int .i64 (s.number : Int), .int .i64 s.term, .slice gp s.group.length gc] 130)))
              have Hwl := Lib.hid (show ∀ k, ((Value.slice gp s.group.length gc).ownBlock = some k ∨ (Value.slice pd s.data.length cd).ownBlock = some k) → w.heap.size ≤ k ∧ ¬ F k from fun k hk => ⟨Nat.le_trans HJ2.out.bel.size (Hnw.out k hk), fun hf => by have h1 := HJ2.out.flt hf; have h2 := Hnw.out k hk; omega⟩)
              have Hbl := Lib.hid (show ∀ k, ((Value.slice gp s.group.length gc).ownBlock = some k ∨ (Value.slice pd s.data.length cd).ownBlock = some k) → k ≠ w4.heap.size from fun k hk e => by
                have := hk.elim (OwnR.lt HOG.out) (OwnR.lt HOD.out)
                omega)
              have Hb4F := Lib.hid (show ∀ k, F k → k ≠ w4.heap.size from fun k hf e => by have h1 := HJ4.out.flt hf; omega)
              subst hks
              clear hog hod hnw hso Hsn4
              go_wp2_with fail
              generalize w4.heap.size = b4 at *
              generalize w4.alloc (.cells #[.int .i64 (s.number : Int), .int .i64 s.term, .slice gp s.group.length gc] 130) = w5 at *
              refine HRL.out.mono ?_
              rintro e w6 ⟨rfl, hst6, hs6, hj6⟩
              by_cases he3 : e3 = 0
              · have He3 := Lib.hid he3
                have HJ6 := Lib.hid (hj6 he3)
                have HS6 := Lib.hid (HSB.out.trans fun k hk => hs6 k (.inl hk))
                have HX6 := Lib.hid ((hs6 b4 (.inr (.inl rfl))).trans HBX.out)
                have HOG6 := Lib.hid (OwnR.keep HOG2.out fun k hk => hs6 k (.inr (.inr (.inl hk))))
                have HOD6 := Lib.hid (OwnR.keep HOD2.out fun k hk => hs6 k (.inr (.inr (.inr hk))))
                subst he3
                clear hst6 hs6 hj6
                obtain ⟨own, gv, dv0, ev, vs, hJ6, -⟩ := id HJ6.out
                have c0 := hJ6.c 0 rfl
                have c7 := hJ6.c 7 rfl
                have f7 := hJ6.fr 7
                have z0 := cell_of HX6.out (i := 0) rfl
                have z1 := cell_of HX6.out (i := 1) rfl
                have z2 := cell_of HX6.out (i := 2) rfl
                clear hJ6
                by_cases hlt : M3.number < s.number
                · have HJn := Lib.hid (show joins (some s) M3 a3 = some (true, M3.rebase s) from by unfold joins; exact if_pos hlt)
                  have d0 : decide ((M3.number : Int) < (s.number : Int)) = true := by simp; omega
                  have d0n : decide (M3.number < s.number) = true := by simp; omega
                  have HR0 := HAn.out _ He1.out He2.out Hks.out He3.out HJn.out
                  clear hlt c7 f7
                  go_wp2_with fail
                  go_quiet (fail)
                  go_wp2_with fail
                  generalize hWQ : (World.drewN _ _) = WQ
                  have HJQ := Lib.hid (show JouF w WQ j d pre D3 M3 _ from by rw [← hWQ]; exact HJ6.out.drewN _)
                  have HSQ := Lib.hid (show Same F w1 WQ from by rw [← hWQ]; exact HS6.out)
                  have HXQ := Lib.hid (show WQ.heap[b4]? = some (.cells #[.int .i64 (s.number : Int), .int .i64 s.term, .slice gp s.group.length gc] 130 (0, 0)) from by rw [← hWQ]; exact HX6.out)
                  have Hrb := Lib.hid (jrebase_calls (F2 := F) HJQ.out Hso.out.1 (pg := gp) (cg := gc) (pd := pd) (cd := cd) (OwnR.keep HOG6.out fun k _ => by rw [← hWQ]; rfl) (OwnR.keep HOD6.out fun k _ => by rw [← hWQ]; rfl) (fun k hk => ⟨.inr (.inr hk), (Hwl.out k hk).1⟩) fun k hk => ⟨.inl hk, fun e => (Hwl.out k (.inl e)).2 hk, fun e => (Hwl.out k (.inr e)).2 hk⟩)
                  have z0 := cell_of HXQ.out (i := 0) rfl
                  have z1 := cell_of HXQ.out (i := 1) rfl
                  have z2 := cell_of HXQ.out (i := 2) rfl
                  clear hWQ c0
                  go_wp2_with fail
                  refine Hrb.out.mono ?_
                  rintro e w7 ⟨rfl, hj7, hs7⟩
                  have HJ7 := Lib.hid hj7
                  have HS7 := Lib.hid (HSQ.out.trans hs7)
                  clear hj7 hs7 Hrb z0 z1 z2
                  go_wp2_with fail
                  cases hwj : writesJ D3 (nm pre) (M3.rebase s) with
                  | mk D4 e4 =>
                    have Hwj := Lib.hid (show Calls Tryz.prog 80 #[.pointer (some ⟨j, 0, none⟩)] w7 (WritTold w w7 j d pre (M3.rebase s) F (D4, e4)) from by
                      have := jwrites_calls HJ7.out (Nat.le_trans (rebase_len M3 s) (Hlen.out He3.out))
                      rwa [hwj] at this)
                    have HR := HR0
                    rw [hwj] at HR
                    have HR := Lib.hid HR
                    clear hwj
                    by_cases he4 : e4 = 0
                    · subst he4
                      go_wp2_with fail
                      refine Hwj.out.mono ?_
                      rintro e w9 ⟨rfl, hj9, hs9⟩
                      have HE := Lib.hid (open_good (pre := pre) (w1 := w1) hj9 (HS7.out.trans hs9) HR.out)
                      clear hj9 hs9 Hwj
                      go_wp2_with fail
                      go_ret2
                      exact HE.out
                    · have hne : ((e4 : Int) != 0) = true := by simp; omega
                      have He4 := Lib.hid he4
                      clear he4
                      go_wp2_with fail
                      refine Hwj.out.mono ?_
                      rintro e w9 ⟨rfl, hj9, hs9⟩
                      have HE := Lib.hid (open_bad (pre := pre) (w1 := w1) (show St w w9 d D4 F from hj9.stF) (HS7.out.trans hs9) HR.out He4.out)
                      clear hj9 hs9 Hwj
                      go_wp2_with fail
                      go_ret2
                      exact HE.out
                · have d0 : decide ((M3.number : Int) < (s.number : Int)) = false := by simp; omega
                  have d0n : decide (M3.number < s.number) = false := by simp; omega
                  by_cases hgt : s.number < M3.number
                  · have HJn := Lib.hid (show joins (some s) M3 a3 = none from by unfold joins; exact (if_neg hlt).trans (if_pos hgt))
                    have d1 : decide ((s.number : Int) < (M3.number : Int)) = true := by simp; omega
                    have d1n : decide (s.number < M3.number) = true := by simp; omega
                    have HE := Lib.hid (fun q q2 => open_bad (pre := pre) (w1 := w1) (((HJ6.out.drewN q).drewN q2).stF.less (F := F) fun k hk => .inl hk) HS6.out (HNo.out He1.out He2.out Hks.out He3.out HJn.out) (by decide))
                    clear hlt hgt c7 f7
                    go_wp2_with fail
                    go_quiet (fail)
                    go_wp2_with fail
                    go_quiet (fail)
                    go_wp2_with fail
                    go_ret2
                    exact HE.out _ _
                  · have HJn := Lib.hid (show joins (some s) M3 a3 = some (a3, { M3 with data := s.data }) from by unfold joins; exact (if_neg hlt).trans (if_neg hgt))
                    have d1 : decide ((s.number : Int) < (M3.number : Int)) = false := by simp; omega
                    have d1n : decide (s.number < M3.number) = false := by simp; omega
                    clear hlt hgt
                    have Hdt := Lib.hid (fun q => jou_data (F2 := F) (HJ6.out.drewN q) (dv := .slice pd s.data.length cd) (OwnR.keep HOD6.out fun _ _ => rfl) (fun k hk => ⟨.inr (.inr (.inr hk)), (Hwl.out k (.inr hk)).1⟩) (fun k hk => ⟨.inl hk, fun e => (Hwl.out k (.inr e)).2 hk⟩) (Nat.le_trans Hso.out.2.1 (by decide)))
                    cases a3 with
                    | false =>
                      have HR := Lib.hid (HKp.out _ He1.out He2.out Hks.out He3.out HJn.out)
                      have HE := Lib.hid (fun q => open_good (pre := pre) (w1 := w1) (Hdt.out q).1 (HS6.out.trans (Hdt.out q).2) HR.out)
                      go_wp2_with fail
                      go_quiet (fail)
                      go_wp2_with fail
                      go_quiet (fail)
                      go_wp2_with fail
                      go_ret2
                      exact HE.out _
                    | true =>
                      have HR0 := HAn.out _ He1.out He2.out Hks.out He3.out HJn.out
                      go_wp2_with fail
                      go_quiet (fail)
                      go_wp2_with fail
                      go_quiet (fail)
                      go_wp2_with fail
                      generalize hWQ : (World.setCell _ _ _) = WQ
                      have HJQ := Lib.hid (show JouF w WQ j d pre D3 { M3 with data := s.data } F from by rw [← hWQ]; exact (Hdt.out _).1)
                      have HSQ := Lib.hid (show Same F w1 WQ from by rw [← hWQ]; exact HS6.out.trans (Hdt.out _).2)
                      clear hWQ c0 c7 f7 z0 z1 z2
                      cases hwj : writesJ D3 (nm pre) { M3 with data := s.data } with
                      | mk D4 e4 =>
                        have Hwj := Lib.hid (show Calls Tryz.prog 80 #[.pointer (some ⟨j, 0, none⟩)] WQ (WritTold w WQ j d pre { M3 with data := s.data } F (D4, e4)) from by
                          have := jwrites_calls HJQ.out (Hlen.out He3.out)
                          rwa [hwj] at this)
                        have HR := HR0
                        rw [hwj] at HR
                        have HR := Lib.hid HR
                        clear hwj
                        by_cases he4 : e4 = 0
                        · subst he4
                          go_wp2_with fail
                          refine Hwj.out.mono ?_
                          rintro e w9 ⟨rfl, hj9, hs9⟩
                          have HE := Lib.hid (open_good (pre := pre) (w1 := w1) hj9 (HSQ.out.trans hs9) HR.out)
                          clear hj9 hs9 Hwj
                          go_wp2_with fail
                          go_ret2
                          exact HE.out
                        · have hne : ((e4 : Int) != 0) = true := by simp; omega
                          have He4 := Lib.hid he4
                          clear he4
                          go_wp2_with fail
                          refine Hwj.out.mono ?_
                          rintro e w9 ⟨rfl, hj9, hs9⟩
                          have HE := Lib.hid (open_bad (pre := pre) (w1 := w1) (show St w w9 d D4 F from hj9.stF) (HSQ.out.trans hs9) HR.out He4.out)
                          clear hj9 hs9 Hwj
                          go_wp2_with fail
                          go_ret2
                          exact HE.out
              · have hne : ((e3 : Int) != 0) = true := by simp; omega
                have HE := Lib.hid (open_bad (pre := pre) (w1 := w1) (hst6.less (F := F) fun k hk => .inl hk) (HSB.out.trans fun k hk => hs6 k (.inl hk)) (HE4.out He1.out He2.out Hks.out he3) he3)
                clear hst6 hs6 hj6 he3
                go_wp2_with fail
                go_ret2
                exact HE.out
          · have hne : ((ks : Int) != 0) = true := by simp; omega
            have HE := Lib.hid (open_bad (pre := pre) (w1 := w1) ((HJ4.out.box (.cells #[.int .i64 n, .int .i64 t, .slice gp gn gc] 130)).stF.less (F := F) fun k hk => .inl hk) (HS4.out.trans (HJ4.out.same (below_one w4 _))) (HE3.out He1.out He2.out hks) hks)
            clear hks
            go_wp2_with fail
            go_ret2
            exact HE.out
end
end Go.Proofs.YtapfnehdgailmaaGreat

namespace Go.Proofs.YtapfnehdgailmaaGreat
open Go.RowKit Go.Sat Go.Maps

theorem xor_range (a b : Int) (h1 : 0 ≤ a) (h2 : a < 4294967296) (h3 : 0 ≤ b) (h4 : b < 4294967296) : 0 ≤ bits .xor .u32 a b ∧ bits .xor .u32 a b < 4294967296 := by
  rw [u32_xor a b h1 h2 h3 h4]
  have : a.toNat ^^^ b.toNat < 2 ^ 32 := Nat.xor_lt_two_pow (by omega) (by omega)
  omega

theorem and_one (z : Int) (h1 : 0 ≤ z) (h2 : z < 4294967296) : bits .and .u32 z 1 = 0 ∨ bits .and .u32 z 1 = 1 := by
  rw [u32_and z 1 h1 h2 (by decide) (by decide)]
  have : z.toNat &&& (1 : Int).toNat = z.toNat % 2 := Nat.and_one_is_mod _
  rw [this]
  omega

theorem bitF_one {z : Int} (h : bits .and .u32 z 1 = 1) : bitF z = bits .xor .u32 (z / 2) 3988292384 := by
  unfold bitF
  rw [h]
  congr 1

theorem bitF_zero {z : Int} (h1 : 0 ≤ z) (h2 : z < 4294967296) (h : bits .and .u32 z 1 = 0) : bitF z = z / 2 := by
  unfold bitF
  rw [h]
  have e : bits .and .u32 3988292384 (-0 % 4294967296) = 0 := by decide
  rw [e, u32_xor (z / 2) 0 (by omega) (by omega) (by decide) (by decide)]
  have : (z / 2).toNat ^^^ (0 : Int).toNat = (z / 2).toNat := Nat.xor_zero _
  rw [this]
  omega

theorem bitF_range {z : Int} (h1 : 0 ≤ z) (h2 : z < 4294967296) : 0 ≤ bitF z ∧ bitF z < 4294967296 := by
  rcases and_one z h1 h2 with h | h
  · rw [bitF_zero h1 h2 h]; omega
  · rw [bitF_one h]; exact xor_range _ _ (by omega) (by omega) (by decide) (by decide)

theorem iterF_range {z : Int} (h1 : 0 ≤ z) (h2 : z < 4294967296) : ∀ k, 0 ≤ iterF k z ∧ iterF k z < 4294967296
  | 0 => ⟨h1, h2⟩
  | k + 1 => bitF_range (iterF_range h1 h2 k).1 (iterF_range h1 h2 k).2

theorem byteF_range {z : Int} (h1 : 0 ≤ z) (h2 : z < 4294967296) (c : UInt8) : 0 ≤ byteF z c ∧ byteF z c < 4294967296 := by
  have hc : c.toNat < 256 := c.toNat_lt
  have := xor_range z (c.toNat : Int) h1 h2 (by omega) (by omega)
  exact iterF_range this.1 this.2 8

theorem rowF_range {z : Int} (h1 : 0 ≤ z) (h2 : z < 4294967296) (l : Bs) : 0 ≤ rowF z l ∧ rowF z l < 4294967296 := by
  induction l generalizing z with
  | nil => exact ⟨h1, h2⟩
  | cons c r ih => exact ih (byteF_range h1 h2 c).1 (byteF_range h1 h2 c).2

set_option maxRecDepth 100000 in
set_option maxHeartbeats 4000000 in
theorem rsum_calls {w : World} {p : Option Addr} {m c : Nat} {l : Bs} (hx : HasB w (.slice p m c) l) (hl : l.length ≤ 140737488355328) :
    Calls Tryz.prog 184 #[.slice p m c] w (fun e w' => e = .returned (.int .u32 (sumF l)) ∧ w' = w) := by
  have hm : m = l.length := (bytes_in hx).1
  have Hat := Lib.hid hx.at
  have Hm := Lib.hid hm.symm
  have hmm : m ≤ 140737488355328 := by omega
  clear hx hm hl
  go_enter Tryz.func184, Tryz.ntmps184
  go_wp2_with fail
  go_loop [3, 4] (fun v i => ∃ j : Nat, j ≤ m ∧ i = .int .i64 j ∧ v = .int .u32 (rowF 4294967295 (l.take j))) (fun _ i => m - (intOf i).toNat)
  case atStart => exact ⟨0, Nat.zero_le _, rfl, rfl⟩
  case round =>
    obtain ⟨j, hj, rfl, rfl⟩ := hrel
    by_cases hlj : j < m
    · have hljl : j < l.length := by rw [Hm.out]; exact hlj
      have Hbt := Lib.hid (rowF_take 4294967295 l hljl)
      rcases Hat.out with h | ⟨b2, o2, c2, e1, hcx⟩
      · rw [h] at hljl
        simp at hljl
      rw [Hm.out] at e1
      cases e1
      have hcb := hcx j _ (List.getElem?_eq_getElem hljl)
      have hry := rowF_range (z := 4294967295) (by decide) (by decide) (l.take j)
      generalize l[j] = cc at *
      generalize rowF 4294967295 (l.take j) = y at *
      have hcc : cc.toNat < 256 := cc.toNat_lt
      clear hcx
      go_wp2_with fail
      have HB := Lib.hid (show byteF y cc = iterF 8 (bits .xor .u32 y (cc.toNat : Int)) from rfl)
      have hz0r := xor_range y (cc.toNat : Int) hry.1 hry.2 (by omega) (by omega)
      generalize bits .xor .u32 y (cc.toNat : Int) = z0 at *
      go_loop [3, 5] (fun v i => ∃ q : Nat, q ≤ 8 ∧ i = .int .i64 q ∧ v = .int .u32 (iterF q z0)) (fun _ i => 8 - (intOf i).toNat)
      case atStart => exact ⟨0, Nat.zero_le _, rfl, rfl⟩
      case round =>
        obtain ⟨q, hq, rfl, rfl⟩ := hrel
        by_cases hlq : q < 8
        · have Hit := Lib.hid (show iterF (q + 1) z0 = bitF (iterF q z0) from rfl)
          have hrq := iterF_range hz0r.1 hz0r.2 q
          generalize iterF q z0 = z at *
          rcases and_one z hrq.1 hrq.2 with hb | hb
          · have Hbf := Lib.hid (bitF_zero hrq.1 hrq.2 hb)
            go_wp2_with fail
            go_round
            case rel => exact ⟨q + 1, by omega, by go_num, by rw [Hit.out, Hbf.out]⟩
            case measure => simp [intOf]; omega
          · have Hbf := Lib.hid (bitF_one hb)
            go_wp2_with fail
            go_round
            case rel => exact ⟨q + 1, by omega, by go_num, by rw [Hit.out, Hbf.out]⟩
            case measure => simp [intOf]; omega
        · have hq8 : q = 8 := by omega
          subst hq8
          go_wp2_with fail
          go_round
          case rel => exact ⟨j + 1, by omega, by go_num, by rw [Hbt.out, HB.out]⟩
          case measure => simp [intOf]; omega
    · have hjm : j = m := by omega
      have hlk : l.take j = l := List.take_of_length_le (by rw [Hm.out]; omega)
      rw [hlk]
      clear hlk
      have He := Lib.hid (show sumF l = bits .xor .u32 IntKind.u32.max (rowF 4294967295 l) from rfl)
      generalize rowF 4294967295 l = x at *
      go_wp2_with fail
      go_ret
      exact ⟨by rw [He.out]; rfl, rfl⟩
end Go.Proofs.YtapfnehdgailmaaGreat

namespace Go.Proofs.YtapfnehdgailmaaGreat
open Go.RowKit Go.Sat Go.Maps

/-- What a function hands back that lays its bytes anew, in a block of one's own. -/
def NewO (w : World) (l : Bs) (e : Ending) (w' : World) : Prop := ∃ v, e = .returned v ∧ OwnB w' 5 v l ∧ (∀ k, v.ownBlock = some k → w.heap.size ≤ k) ∧ Below w.heap.size w w'

theorem own_lit {w : World} (cs : Array Value) (l : Bs) (e : TypeId) (h : cs.toList = bytesV l) (n : Nat) (hn : n = l.length) (hm : n ≤ maxLen) : OwnB (w.alloc (.cells cs e)) e (.slice (some ⟨w.heap.size, 0, none⟩) n n) l := by
  subst hn
  refine ⟨by rw [bytesV_len, Nat.mul_one], .inr ⟨_, _, cs, rfl, new_block w _, Nat.le_refl _, ?_, ?_, ?_⟩⟩
  · exact hm
  · have := congrArg List.length h
    rw [bytesV_len] at this
    simpa using Nat.le_of_eq this.symm
  · rw [h, ← bytesV_len l, Nat.mul_one, List.take_length]

set_option maxRecDepth 100000 in
set_option maxHeartbeats 4000000 in
theorem rfour_calls {w : World} (v : Nat) (h1 : v < 4294967296) :
    Calls Tryz.prog 183 #[.int .u32 (v : Int)] w (NewO w (fourN v)) := by
  have hfin : NewO w (fourN v) (.returned (.slice (some ⟨w.heap.size, 0, none⟩) 4 4)) (w.alloc (.cells #[.int .u8 ((v : Int) % 256), .int .u8 ((v : Int) / 256 % 256), .int .u8 ((v : Int) / 65536 % 256), .int .u8 ((v : Int) / 16777216)] 5)) :=
    ⟨_, rfl, own_lit _ (fourN v) _ (by
      simp only [fourN, bytesV, List.map_cons, List.map_nil, UInt8.toNat_ofNat']
      have e1 : (v : Int) / 16777216 = ((v / 16777216 % 256 : Nat) : Int) := by omega
      have e2 : (v : Int) % 256 = ((v % 256 : Nat) : Int) := by omega
      have e3 : (v : Int) / 256 % 256 = ((v / 256 % 256 : Nat) : Int) := by omega
      have e4 : (v : Int) / 65536 % 256 = ((v / 65536 % 256 : Nat) : Int) := by omega
      rw [e1, e2, e3, e4]) 4 rfl (by decide), fun k hk => (by cases hk; exact Nat.le_refl _), (Below.refl _ _).alloc (Nat.le_refl _) _⟩
  have Hfin := Lib.hid hfin
  clear hfin
  go_enter Tryz.func183, Tryz.ntmps183
  go_wp2_with fail
  go_ret
  exact Hfin.out

set_option maxRecDepth 100000 in
set_option maxHeartbeats 4000000 in
theorem rfromFour_calls {w : World} {b o n c : Nat} {a0 a1 a2 a3 : UInt8} (hn : 4 ≤ n) (h0 : w.cell? ⟨b, o, none⟩ = some (.int .u8 (a0.toNat : Int))) (h1 : w.cell? ⟨b, o + 1, none⟩ = some (.int .u8 (a1.toNat : Int)))
    (h2 : w.cell? ⟨b, o + 2, none⟩ = some (.int .u8 (a2.toNat : Int))) (h3 : w.cell? ⟨b, o + 3, none⟩ = some (.int .u8 (a3.toNat : Int))) :
    Calls Tryz.prog 197 #[.slice (some ⟨b, o, none⟩) n c] w (fun e w' => e = .returned (.int .u32 (ofFour a0 a1 a2 a3 : Int)) ∧ ∃ q, w' = w.drewN q) := by
  have l0 := a0.toNat_lt
  have l1 := a1.toNat_lt
  have l2 := a2.toNat_lt
  have l3 := a3.toNat_lt
  have i0 : (0 : Int) < (n : Int) := by omega
  have i1 : (1 : Int) < (n : Int) := by omega
  have i2 : (2 : Int) < (n : Int) := by omega
  have i3 : (3 : Int) < (n : Int) := by omega
  have hF := or_four l0 l1 l2 l3
  have HF := Lib.hid (show bits .or .u32 (bits .or .u32 (bits .or .u32 (a0.toNat : Int) ((a1.toNat : Int) * 256)) ((a2.toNat : Int) * 65536)) ((a3.toNat : Int) * 16777216) = (ofFour a0 a1 a2 a3 : Int) from hF)
  clear hF
  generalize ofFour a0 a1 a2 a3 = r at *
  generalize a0.toNat = x0 at *
  generalize a1.toNat = x1 at *
  generalize a2.toNat = x2 at *
  generalize a3.toNat = x3 at *
  go_enter Tryz.func197, Tryz.ntmps197
  go_wp2_with fail
  go_quiet (fail)
  go_wp2
  go_ret
  exact ⟨by rw [← HF.out]; rfl, _, rfl⟩
theorem rfour_at {w : World} {p : Option Addr} {n c : Nat} {b : Bs} (h : HasB w (.slice p n c) b) (h4 : 4 ≤ b.length) :
    Calls Tryz.prog 197 #[.slice p n c] w (fun e w' => e = .returned (.int .u32 (fourAt b : Int)) ∧ ∃ q, w' = w.drewN q) := by
  have h1 := h.at
  obtain ⟨p', c', e⟩ := h.slice
  cases e
  rcases h1 with e | ⟨g, o, c2, e, hc⟩
  · rw [e] at h4
    simp at h4
  · cases e
    have hb : ∀ i, i < b.length → b[i]? = some (b.getD i 0) := fun i hi => by simp [List.getD, List.getElem?_eq_getElem hi]
    exact rfromFour_calls h4 (by simpa using hc 0 _ (hb 0 (by omega))) (hc 1 _ (hb 1 (by omega))) (hc 2 _ (hb 2 (by omega))) (hc 3 _ (hb 3 (by omega)))

end Go.Proofs.YtapfnehdgailmaaGreat

namespace Go.Proofs.YtapfnehdgailmaaGreat
open Go.RowKit Go.Sat Go.Maps

theorem OwnN.has {w : World} {v : Value} {ns : List Bs} (h : OwnN w v ns) : HasN w v ns := OwnR.holds h

theorem own_ge {wa : World} {v v' : Value} {B : Nat} (hloc : v'.ownBlock = v.ownBlock ∨ ∃ g, v'.ownBlock = some g ∧ wa.heap.size ≤ g) (hv : ∀ k, v.ownBlock = some k → B ≤ k) (hB : B ≤ wa.heap.size) : ∀ k, v'.ownBlock = some k → B ≤ k := fun k hk => by
  rcases hloc with e | ⟨g, e, hge⟩
  · exact hv k (by rw [← e]; exact hk)
  · rw [e] at hk
    cases hk
    omega

theorem HasN.below {w w1 : World} {v : Value} {l : List Bs} (h : HasN w v l) (hb : Below w.heap.size w w1) : HasN w1 v l := Holds.chg h (Chg.of_below hb) fun _ _ => id

end Go.Proofs.YtapfnehdgailmaaGreat

namespace Go.Proofs.YtapfnehdgailmaaGreat
open Go.RowKit Go.Sat Go.Maps

theorem ownB_keep {w w' : World} {v : Value} {l : Bs} (h : OwnB w 5 v l) (hb : Below w.heap.size w w') : OwnB w' 5 v l := OwnB.keep h fun k hk => hb.block k (OwnR.lt h hk)

set_option maxRecDepth 100000 in
set_option maxHeartbeats 4000000 in
theorem renc_calls {w : World} {p : Option Addr} {m c : Nat} {l : Bs} (hx : HasB w (.slice p m c) l) (hl : l.length ≤ 1048576) :
    Calls Tryz.prog 132 #[.slice p m c] w fun e w' => ∃ v, e = .returned (.tuple #[v, .int .i64 0]) ∧ OwnB w' 5 v (frameN l) ∧ (∀ k, v.ownBlock = some k → w.heap.size ≤ k) ∧ Below w.heap.size w w' := by
  have hml : m = l.length := (bytes_in hx).1
  have hm : m ≤ 1048576 := by omega
  have Hx := Lib.hid hx
  have Hml := Lib.hid hml
  have Hf1 := Lib.hid (rfour_calls (w := w) m (by omega))
  obtain ⟨i0, hi, hz0, hz1, hz2⟩ := info_parts (show (Tryz.prog.info? 5).map (fun i => (i.zero, i.size, i.bytes)) = some (some (.int .u8 0), 1, 1) by kernel_rfl)
  clear hx hml hl
  go_enter Tryz.func132, Tryz.ntmps132
  go_wp2_with fail
  refine Hf1.out.mono ?_
  rintro e w1 ⟨v1, rfl, ho1, hn1, hb1⟩
  obtain ⟨p1, c1, rfl⟩ := OwnR.shape ho1
  have Ho1 := Lib.hid (And.intro ho1 (And.intro hn1 hb1))
  have Hs1 := Lib.hid (rsum_calls (p := p1) (m := 4) (c := c1) ho1.has (by rw [show (fourN m).length = 4 from rfl]; decide))
  rw [show (fourN m).length = 4 from rfl]
  clear ho1 hn1 hb1 Hf1
  go_wp2_with fail
  refine Hs1.out.mono ?_
  rintro e w2 ⟨rfl, rfl⟩
  rw [sumF_nat]
  have Hf2 := Lib.hid (rfour_calls (w := w2) (sumN (fourN m)) (sumN_lt _))
  have hhd : headN l.length = fourN m ++ fourN (sumN (fourN m)) := by rw [← Hml.out]; rfl
  have Hhd := Lib.hid hhd
  generalize sumN (fourN m) = q at *
  clear hhd Hs1
  go_wp2_with fail
  refine Hf2.out.mono ?_
  rintro e w3 ⟨v2, rfl, ho2, hn2, hb2⟩
  obtain ⟨p2, c2, rfl⟩ := OwnR.shape ho2
  have X3 := Lib.hid (Ho1.out.2.2.trans (hb2.mono Ho1.out.2.2.size))
  have hown1 : OwnR w3 5 1 (.slice p1 4 c1) 4 (bytesV (fourN m)) := ownB_keep Ho1.out.1 hb2
  have Hown1 := Lib.hid hown1
  have H2 := Lib.hid (show Holds w3 1 (.slice p2 4 c2) 4 (bytesV (fourN q)) from ho2.has)
  have Hxs := Lib.hid (show ∀ W, Below w.heap.size w W → Holds W 1 (.slice p m c) m (bytesV l) from fun W hb => by
    have h := Hx.out.below hb
    unfold HasB at h
    rw [← Hml.out] at h
    exact h)
  rw [show (fourN q).length = 4 from rfl]
  clear ho2 hn2 hb2 hown1 Hf2
  go_wp2_with (first | (at_builtin; refine wpList_app w3 rfl (.tmp 12) (.tmp 15) 22 rfl 5 i0 (.int .u8 0) 1 1 Tryz.underlying22 hi hz0 hz1 hz2 rfl (by decide) (.slice p1 4 c1) 4 _ rfl Hown1.out (.slice p2 4 c2) 4 _ rfl H2.out (bytesV_one _) (by decide) (by decide) ?_; intro v12 w12 hown12 hgrow12 hloc12; have hX := X3.out.grown hgrow12 X3.out.size (fun j e => Ho1.out.2.1 j e); have hnew := own_ge (B := w.heap.size) hloc12 Ho1.out.2.1 X3.out.size; obtain ⟨p12, c12, rfl⟩ := OwnR.shape hown12; have X12 := Lib.hid (And.intro hX (And.intro hown12 hnew)); clear hown12 hgrow12 hloc12 hX hnew) | (at_builtin; refine wpList_app w12 rfl (.tmp 17) (.tmp 18) 22 rfl 5 i0 (.int .u8 0) 1 1 Tryz.underlying22 hi hz0 hz1 hz2 rfl (by decide) (.slice p12 8 c12) 8 _ rfl X12.out.2.1 (.slice p m c) m _ rfl (Hxs.out _ X12.out.1) (bytesV_one _) (by unfold maxLen; omega) (by omega) ?_; intro v13 w13 hown13 hgrow13 hloc13; have hX := X12.out.1.grown hgrow13 X12.out.1.size (fun j e => X12.out.2.2 j e); have hnew := own_ge (B := w.heap.size) hloc13 X12.out.2.2 X12.out.1.size; obtain ⟨p13, c13, rfl⟩ := OwnR.shape hown13; have X13 := Lib.hid (And.intro hX (And.intro hown13 hnew)); clear hown13 hgrow13 hloc13 hX hnew))
  have ho13 : OwnB w13 5 (.slice p13 (8 + m) c13) (headN l.length ++ l) := by
    unfold OwnB
    rw [Hhd.out, bytesV_app, bytesV_app, List.length_append, List.length_append, show (fourN m).length = 4 from rfl, show (fourN q).length = 4 from rfl, ← Hml.out]
    exact X13.out.2.1
  have hl13 : (headN l.length ++ l).length = 8 + m := by rw [List.length_append, head_len, ← Hml.out]
  have Hs2 := Lib.hid (rsum_calls (p := p13) (m := 8 + m) (c := c13) ho13.has (by rw [hl13]; omega))
  have Ho13 := Lib.hid ho13
  have Hl13 := Lib.hid hl13
  have Hfr := Lib.hid (show frameN l = (headN l.length ++ l) ++ fourN (sumN (headN l.length ++ l)) from rfl)
  clear ho13 hl13
  generalize headN l.length ++ l = Y at *
  refine Hs2.out.mono ?_
  rintro e w14 ⟨rfl, rfl⟩
  rw [sumF_nat]
  have Hf3 := Lib.hid (rfour_calls (w := w14) (sumN Y) (sumN_lt _))
  generalize sumN Y = q2 at *
  clear Hs2
  go_wp2_with fail
  refine Hf3.out.mono ?_
  rintro e w15 ⟨v15, rfl, ho15, hn15, hb15⟩
  obtain ⟨p15, c15, rfl⟩ := OwnR.shape ho15
  have X15 := Lib.hid (X13.out.1.trans (hb15.mono X13.out.1.size))
  have hown13 : OwnR w15 5 1 (.slice p13 (8 + m) c13) (8 + m) (bytesV Y) := by
    have h := ownB_keep Ho13.out hb15
    unfold OwnB at h
    rw [Hl13.out] at h
    exact h
  have Hown13 := Lib.hid hown13
  have H15 := Lib.hid (show Holds w15 1 (.slice p15 4 c15) 4 (bytesV (fourN q2)) from ho15.has)
  rw [show (fourN q2).length = 4 from rfl]
  clear ho15 hn15 hb15 hown13 Hf3
  go_wp2_with (at_builtin; refine wpList_app w15 rfl (.tmp 20) (.tmp 23) 22 rfl 5 i0 (.int .u8 0) 1 1 Tryz.underlying22 hi hz0 hz1 hz2 rfl (by decide) (.slice p13 (8 + m) c13) (8 + m) _ rfl Hown13.out (.slice p15 4 c15) 4 _ rfl H15.out (bytesV_one _) (by unfold maxLen; omega) (by omega) ?_; intro v16 w16 hown16 hgrow16 hloc16; have hX := X15.out.grown hgrow16 X15.out.size (fun j e => X13.out.2.2 j e); have hnew := own_ge (B := w.heap.size) hloc16 X13.out.2.2 X15.out.size; obtain ⟨p16, c16, rfl⟩ := OwnR.shape hown16; have X16 := Lib.hid (And.intro hX (And.intro hown16 hnew)); clear hown16 hgrow16 hloc16 hX hnew)
  go_ret2
  refine ⟨_, rfl, ?_, X16.out.2.2, X16.out.1⟩
  unfold OwnB
  rw [Hfr.out, List.length_append, Hl13.out, show (fourN q2).length = 4 from rfl, bytesV_app]
  exact X16.out.2.1
end Go.Proofs.YtapfnehdgailmaaGreat

namespace Go.Proofs.YtapfnehdgailmaaGreat
open Go.RowKit Go.Sat Go.Maps

/-- Bytes of a walk's own, gathered since w. -/
structure RowB (w W : World) (v : Value) (l : Bs) : Prop where
  own : OwnB W 5 v l
  new : ∀ k, v.ownBlock = some k → w.heap.size ≤ k
  bel : Below w.heap.size w W
theorem RowB.nil (w : World) : RowB w w (.slice none 0 0) [] := ⟨OwnR.nil _ _ _, fun k hk => (by cases hk), Below.refl _ _⟩
theorem RowB.next {w W W2 : World} {v : Value} {l : Bs} (h : RowB w W v l) (hb : Below W.heap.size W W2) : RowB w W2 v l := ⟨ownB_far h.own hb, h.new, h.bel.trans (hb.mono h.bel.size)⟩
theorem RowB.alloc {w W : World} {v : Value} {l : Bs} (h : RowB w W v l) (o : Obj) : RowB w (W.alloc o) v l := h.next (below_one W o)
theorem RowB.told {w W : World} {v : Value} {l : Bs} (h : RowB w W v l) : RowNew w l (.returned v) W := ⟨v, rfl, h.own, h.new, h.bel⟩
theorem RowB.grown {w W0 w3 : World} {v v3 : Value} {l x : Bs} (h : RowB w W0 v l) (hown : OwnR w3 5 1 v3 (l.length + x.length) (bytesV l ++ bytesV x)) (hg : W0.grownBy w3 v.ownBlock) (hloc : v3.ownBlock = v.ownBlock ∨ ∃ g, v3.ownBlock = some g ∧ W0.heap.size ≤ g) : RowB w w3 v3 (l ++ x) := by
  refine ⟨?_, own_ge hloc h.new h.bel.size, h.bel.grown hg h.bel.size fun j e => h.new j e⟩
  show OwnR _ _ _ _ (l ++ x).length (bytesV (l ++ x))
  rw [List.length_append, show bytesV (l ++ x) = bytesV l ++ bytesV x from List.map_append]
  exact hown

theorem or_high2 {a : Nat} (ha : a ≤ 4611686018427387904) : bits .or .u8 (bits .and .u64 (a : Int) 127 % 256) 128 = (((UInt8.ofNat (a % 128 + 128)).toNat : Nat) : Int) := by
  have h1 : bits .and .u64 (a : Int) 127 = ((a % 128 : Nat) : Int) := by
    refine (u64_and_nat a 127 (by omega) (by decide)).trans ?_
    rw [show (127 : Nat) = 2 ^ 7 - 1 from rfl, Nat.and_two_pow_sub_one_eq_mod]
  have h2 : ∀ y : Fin 256, (y.val ||| 128) = y.val % 128 + 128 := by decide +kernel
  have h3 : (a % 128 ||| 128) = a % 128 % 128 + 128 := h2 ⟨a % 128, by omega⟩
  rw [h1, show ((a % 128 : Nat) : Int) % 256 = ((a % 128 : Nat) : Int) by omega]
  refine (u8_or_nat (a % 128) 128 (by omega) (by decide)).trans ?_
  rw [h3, UInt8.toNat_ofNat']
  omega

set_option maxRecDepth 100000 in
set_option maxHeartbeats 4000000 in
theorem rnum1_calls (w : World) (z : Int) (hz : -9223372036854775808 ≤ z ∧ z ≤ 9223372036854775807) :
    Calls Tryz.prog 118 #[.int .i64 z] w (RowNew w (numI z)) := by
  obtain ⟨i0, hi, hz0, hz1, hz2⟩ := info_parts (show (Tryz.prog.info? 5).map (fun i => (i.zero, i.size, i.bytes)) = some (some (.int .u8 0), 1, 1) by kernel_rfl)
  obtain ⟨hza, hzb⟩ := hz
  have main : ∀ (K : Nat), (K = (max 0 (min z 4611686018427387904)).toNat) → K ≤ 4611686018427387904 := fun K hK => by omega
  have HN := Lib.hid (show numI z = numB (max 0 (min z 4611686018427387904)).toNat from rfl)
  generalize hN : (max 0 (min z 4611686018427387904)).toNat = N at *
  have hN2 : N ≤ 4611686018427387904 := main N rfl
  have HNz := Lib.hid hN
  clear main hN
  go_enter Tryz.func118, Tryz.ntmps118
  by_cases h1 : 4611686018427387904 < z
  · have hNe : N = 4611686018427387904 := by have := HNz.out; omega
    have HNe := Lib.hid hNe
    clear hNe
    go_wp2_with fail
    go_loopw [3, 4] (fun u b wr => ∃ (a : Nat) (cur : Bs) (bv : Value), u = .int .u64 a ∧ bv = b ∧ a ≤ 4611686018427387904 ∧ RowB w wr bv cur ∧ cur ++ numB a = numB N) (fun u _ _ => (intOf u).toNat)
    case atStart => exact ⟨4611686018427387904, [], _, rfl, rfl, Nat.le_refl _, RowB.nil w, by rw [HNe.out]; rfl⟩
    case round =>
      obtain ⟨a, cur, bv, rfl, rfl, ha, hst, hcur⟩ := hrel
      have hlen := numB_nine hN2
      rw [← hcur, List.length_append] at hlen
      have hba := numB_len a
      have Hst := Lib.hid hst
      have Hcur := Lib.hid hcur
      obtain ⟨pv, cv, rfl, -⟩ := own_cap0 hst.own
      clear hst hcur
      generalize hL : cur.length = m at *
      have HL := Lib.hid hL
      clear hL
      have Hrow := Lib.hid (show OwnR wr 5 1 (.slice pv m cv) m (bytesV cur) by have := Hst.out.own; unfold OwnB at this; rwa [HL.out] at this)
      by_cases h128 : 128 ≤ a
      · have Hmore := Lib.hid (numB_more h128)
        have hor := or_high2 ha
        generalize UInt8.ofNat (a % 128 + 128) = x at *
        go_wp2_with (at_builtin; have hal := mark_own0 Hrow.out (.cells #[.int .u8 (x.toNat : Int)] 5); have hxx := lit_one wr x; refine wpList_app _ rfl (.tmp 13) (.tmp 18) 22 rfl 5 i0 (.int .u8 0) 1 1 Tryz.underlying22 hi hz0 hz1 hz2 rfl (by decide) (.slice pv m cv) m _ rfl hal (.slice (some ⟨wr.heap.size, 0, none⟩) 1 1) 1 _ rfl hxx (bytesV_one _) (by unfold maxLen; omega) (by omega) ?_; clear hal hxx; intro v3 w3 hown3 hgrow3 hloc3; go_loud (have HE := Lib.hid (RowB.grown (x := [x]) (Hst.out.alloc (.cells #[.int .u8 (x.toNat : Int)] 5)) (by rw [HL.out]; exact hown3) hgrow3 hloc3); clear hgrow3 hloc3; obtain ⟨p3, q3, rfl⟩ := OwnR.shape hown3; clear hown3))
        go_roundw
        case rel => exact ⟨a / 128, cur ++ [x], _, by first | rfl | go_num, rfl, by omega, HE.out, by rw [← Hcur.out, Hmore.out]; simp⟩
        case measure => simp [intOf]; omega
      · have Hless := Lib.hid (numB_small (n := a) (by omega))
        obtain ⟨x, hx⟩ : ∃ x : UInt8, a = x.toNat := ⟨UInt8.ofNat a, by rw [UInt8.toNat_ofNat']; omega⟩
        rw [show UInt8.ofNat a = x by rw [hx]; simp] at Hless
        subst hx
        have hwr : (x.toNat : Int) % 256 = (x.toNat : Int) := by omega
        have hax := x.toNat_lt
        go_wp2_with (at_builtin; have hal := mark_own0 Hrow.out (.cells #[.int .u8 (x.toNat : Int)] 5); have hxx := lit_one wr x; refine wpList_app _ rfl (.tmp 22) (.tmp 25) 22 rfl 5 i0 (.int .u8 0) 1 1 Tryz.underlying22 hi hz0 hz1 hz2 rfl (by decide) (.slice pv m cv) m _ rfl hal (.slice (some ⟨wr.heap.size, 0, none⟩) 1 1) 1 _ rfl hxx (bytesV_one _) (by unfold maxLen; omega) (by omega) ?_; clear hal hxx; intro v3 w3 hown3 hgrow3 hloc3; go_loud (have HE := Lib.hid (RowB.grown (x := [x]) (Hst.out.alloc (.cells #[.int .u8 (x.toNat : Int)] 5)) (by rw [HL.out]; exact hown3) hgrow3 hloc3); clear hgrow3 hloc3; obtain ⟨p3, q3, rfl⟩ := OwnR.shape hown3; clear hown3))
        go_ret
        have := HE.out.told
        rw [HN.out, ← Hcur.out, Hless.out]
        exact this
  · by_cases h2 : 0 < z
    · have hcv : IntKind.u64.wrap z = z := by rw [show IntKind.u64.wrap z = z % 18446744073709551616 from rfl]; omega
      have hcv2 : z % 18446744073709551616 = z := by omega
      have hNe : z = (N : Int) := by have := HNz.out; omega
      have HNe := Lib.hid hNe
      clear hNe
      go_wp2_with fail
      go_loopw [3, 4] (fun u b wr => ∃ (a : Nat) (cur : Bs) (bv : Value), u = .int .u64 a ∧ bv = b ∧ a ≤ 4611686018427387904 ∧ RowB w wr bv cur ∧ cur ++ numB a = numB N) (fun u _ _ => (intOf u).toNat)
      case atStart => exact ⟨N, [], _, by rw [HNe.out], rfl, hN2, RowB.nil w, rfl⟩
      case round =>
        obtain ⟨a, cur, bv, rfl, rfl, ha, hst, hcur⟩ := hrel
        have hlen := numB_nine hN2
        rw [← hcur, List.length_append] at hlen
        have hba := numB_len a
        have Hst := Lib.hid hst
        have Hcur := Lib.hid hcur
        obtain ⟨pv, cv, rfl, -⟩ := own_cap0 hst.own
        clear hst hcur
        generalize hL : cur.length = m at *
        have HL := Lib.hid hL
        clear hL
        have Hrow := Lib.hid (show OwnR wr 5 1 (.slice pv m cv) m (bytesV cur) by have := Hst.out.own; unfold OwnB at this; rwa [HL.out] at this)
        by_cases h128 : 128 ≤ a
        · have Hmore := Lib.hid (numB_more h128)
          have hor := or_high2 ha
          generalize UInt8.ofNat (a % 128 + 128) = x at *
          go_wp2_with (at_builtin; have hal := mark_own0 Hrow.out (.cells #[.int .u8 (x.toNat : Int)] 5); have hxx := lit_one wr x; refine wpList_app _ rfl (.tmp 13) (.tmp 18) 22 rfl 5 i0 (.int .u8 0) 1 1 Tryz.underlying22 hi hz0 hz1 hz2 rfl (by decide) (.slice pv m cv) m _ rfl hal (.slice (some ⟨wr.heap.size, 0, none⟩) 1 1) 1 _ rfl hxx (bytesV_one _) (by unfold maxLen; omega) (by omega) ?_; clear hal hxx; intro v3 w3 hown3 hgrow3 hloc3; go_loud (have HE := Lib.hid (RowB.grown (x := [x]) (Hst.out.alloc (.cells #[.int .u8 (x.toNat : Int)] 5)) (by rw [HL.out]; exact hown3) hgrow3 hloc3); clear hgrow3 hloc3; obtain ⟨p3, q3, rfl⟩ := OwnR.shape hown3; clear hown3))
          go_roundw
          case rel => exact ⟨a / 128, cur ++ [x], _, by first | rfl | go_num, rfl, by omega, HE.out, by rw [← Hcur.out, Hmore.out]; simp⟩
          case measure => simp [intOf]; omega
        · have Hless := Lib.hid (numB_small (n := a) (by omega))
          obtain ⟨x, hx⟩ : ∃ x : UInt8, a = x.toNat := ⟨UInt8.ofNat a, by rw [UInt8.toNat_ofNat']; omega⟩
          rw [show UInt8.ofNat a = x by rw [hx]; simp] at Hless
          subst hx
          have hwr : (x.toNat : Int) % 256 = (x.toNat : Int) := by omega
          have hax := x.toNat_lt
          go_wp2_with (at_builtin; have hal := mark_own0 Hrow.out (.cells #[.int .u8 (x.toNat : Int)] 5); have hxx := lit_one wr x; refine wpList_app _ rfl (.tmp 22) (.tmp 25) 22 rfl 5 i0 (.int .u8 0) 1 1 Tryz.underlying22 hi hz0 hz1 hz2 rfl (by decide) (.slice pv m cv) m _ rfl hal (.slice (some ⟨wr.heap.size, 0, none⟩) 1 1) 1 _ rfl hxx (bytesV_one _) (by unfold maxLen; omega) (by omega) ?_; clear hal hxx; intro v3 w3 hown3 hgrow3 hloc3; go_loud (have HE := Lib.hid (RowB.grown (x := [x]) (Hst.out.alloc (.cells #[.int .u8 (x.toNat : Int)] 5)) (by rw [HL.out]; exact hown3) hgrow3 hloc3); clear hgrow3 hloc3; obtain ⟨p3, q3, rfl⟩ := OwnR.shape hown3; clear hown3))
          go_ret
          have := HE.out.told
          rw [HN.out, ← Hcur.out, Hless.out]
          exact this
    · have hNe : N = 0 := by have := HNz.out; omega
      have HNe := Lib.hid hNe
      clear hNe
      go_wp2_with fail
      go_loopw [3, 4] (fun u b wr => ∃ (a : Nat) (cur : Bs) (bv : Value), u = .int .u64 a ∧ bv = b ∧ a ≤ 4611686018427387904 ∧ RowB w wr bv cur ∧ cur ++ numB a = numB N) (fun u _ _ => (intOf u).toNat)
      case atStart => exact ⟨0, [], _, rfl, rfl, by decide, RowB.nil w, by rw [HNe.out]; rfl⟩
      case round =>
        obtain ⟨a, cur, bv, rfl, rfl, ha, hst, hcur⟩ := hrel
        have hlen := numB_nine hN2
        rw [← hcur, List.length_append] at hlen
        have hba := numB_len a
        have Hst := Lib.hid hst
        have Hcur := Lib.hid hcur
        obtain ⟨pv, cv, rfl, -⟩ := own_cap0 hst.own
        clear hst hcur
        generalize hL : cur.length = m at *
        have HL := Lib.hid hL
        clear hL
        have Hrow := Lib.hid (show OwnR wr 5 1 (.slice pv m cv) m (bytesV cur) by have := Hst.out.own; unfold OwnB at this; rwa [HL.out] at this)
        by_cases h128 : 128 ≤ a
        · have Hmore := Lib.hid (numB_more h128)
          have hor := or_high2 ha
          generalize UInt8.ofNat (a % 128 + 128) = x at *
          go_wp2_with (at_builtin; have hal := mark_own0 Hrow.out (.cells #[.int .u8 (x.toNat : Int)] 5); have hxx := lit_one wr x; refine wpList_app _ rfl (.tmp 13) (.tmp 18) 22 rfl 5 i0 (.int .u8 0) 1 1 Tryz.underlying22 hi hz0 hz1 hz2 rfl (by decide) (.slice pv m cv) m _ rfl hal (.slice (some ⟨wr.heap.size, 0, none⟩) 1 1) 1 _ rfl hxx (bytesV_one _) (by unfold maxLen; omega) (by omega) ?_; clear hal hxx; intro v3 w3 hown3 hgrow3 hloc3; go_loud (have HE := Lib.hid (RowB.grown (x := [x]) (Hst.out.alloc (.cells #[.int .u8 (x.toNat : Int)] 5)) (by rw [HL.out]; exact hown3) hgrow3 hloc3); clear hgrow3 hloc3; obtain ⟨p3, q3, rfl⟩ := OwnR.shape hown3; clear hown3))
          go_roundw
          case rel => exact ⟨a / 128, cur ++ [x], _, by first | rfl | go_num, rfl, by omega, HE.out, by rw [← Hcur.out, Hmore.out]; simp⟩
          case measure => simp [intOf]; omega
        · have Hless := Lib.hid (numB_small (n := a) (by omega))
          obtain ⟨x, hx⟩ : ∃ x : UInt8, a = x.toNat := ⟨UInt8.ofNat a, by rw [UInt8.toNat_ofNat']; omega⟩
          rw [show UInt8.ofNat a = x by rw [hx]; simp] at Hless
          subst hx
          have hwr : (x.toNat : Int) % 256 = (x.toNat : Int) := by omega
          have hax := x.toNat_lt
          go_wp2_with (at_builtin; have hal := mark_own0 Hrow.out (.cells #[.int .u8 (x.toNat : Int)] 5); have hxx := lit_one wr x; refine wpList_app _ rfl (.tmp 22) (.tmp 25) 22 rfl 5 i0 (.int .u8 0) 1 1 Tryz.underlying22 hi hz0 hz1 hz2 rfl (by decide) (.slice pv m cv) m _ rfl hal (.slice (some ⟨wr.heap.size, 0, none⟩) 1 1) 1 _ rfl hxx (bytesV_one _) (by unfold maxLen; omega) (by omega) ?_; clear hal hxx; intro v3 w3 hown3 hgrow3 hloc3; go_loud (have HE := Lib.hid (RowB.grown (x := [x]) (Hst.out.alloc (.cells #[.int .u8 (x.toNat : Int)] 5)) (by rw [HL.out]; exact hown3) hgrow3 hloc3); clear hgrow3 hloc3; obtain ⟨p3, q3, rfl⟩ := OwnR.shape hown3; clear hown3))
          go_ret
          have := HE.out.told
          rw [HN.out, ← Hcur.out, Hless.out]
          exact this
end Go.Proofs.YtapfnehdgailmaaGreat

namespace Go.Proofs.YtapfnehdgailmaaGreat
open Go.RowKit Go.Sat Go.Maps

set_option maxRecDepth 100000 in
set_option maxHeartbeats 4000000 in
theorem rnums1_calls {w : World} {p : Option Addr} {n c : Nat} {zs : List Int} (hx : HasI w (.slice p n c) zs) (hz : ∀ z ∈ zs, -9223372036854775808 ≤ z ∧ z ≤ 9223372036854775807) (hl : zs.length ≤ 1099511627776) :
    Calls Tryz.prog 172 #[.slice p n c] w (RowNew w (numsI zs)) := by
  obtain ⟨i0, hi, hz0, hz1, hz2⟩ := info_parts (show (Tryz.prog.info? 5).map (fun i => (i.zero, i.size, i.bytes)) = some (some (.int .u8 0), 1, 1) by kernel_rfl)
  have hn : zs.length = n := by obtain ⟨_, _, e⟩ := hx.slice; simp only [Value.slice.injEq] at e; exact e.2.1.symm
  have Hn := Lib.hid hn
  have Hx := Lib.hid hx
  have Hz := Lib.hid hz
  have hn40 : n ≤ 1099511627776 := by omega
  clear hx hz hl hn
  go_enter Tryz.func172, Tryz.ntmps172
  go_wp2_with fail
  go_loopw [3, 4] (fun b i wr => ∃ (k : Nat) (bv : Value), k ≤ n ∧ i = .int .i64 k ∧ bv = b ∧ RowB w wr bv (numsI (zs.take k))) (fun _ i _ => n - (intOf i).toNat)
  case atStart => exact ⟨0, _, Nat.zero_le _, rfl, rfl, by rw [List.take_zero]; exact RowB.nil w⟩
  case round =>
    obtain ⟨k, bv, hk, rfl, rfl, hst⟩ := hrel
    by_cases hlt : k < n
    · have hkl : k < zs.length := by rw [Hn.out]; exact hlt
      rcases (show HasI wr (.slice p n c) zs from Holds.chg Hx.out (Chg.of_below hst.bel) fun _ _ => id).at with h0 | ⟨b, o, c2, e2, hcell⟩
      · rw [h0] at hkl
        simp at hkl
      rw [Hn.out] at e2
      simp only [Value.slice.injEq] at e2
      obtain ⟨rfl, -, rfl⟩ := e2
      have hcz := hcell k _ (List.getElem?_eq_getElem hkl)
      have hzz := Hz.out _ (List.getElem_mem hkl)
      have Htk := Lib.hid (numsI_take hkl)
      generalize zs[k] = z at *
      have Hnum := Lib.hid (rnum1_calls wr z hzz)
      have Hst := Lib.hid hst
      obtain ⟨pv, cv, rfl, -⟩ := own_cap0 hst.own
      have hlen := numsI_len (zs.take k)
      have hlz := numI_len z
      have hlt2 : (zs.take k).length ≤ n := by rw [List.length_take, Hn.out]; omega
      clear hcell hst hkl hzz
      go_wp2_with fail
      refine Hnum.out.mono ?_
      rintro e w2 ⟨x, rfl, hx2, hxn, hb2⟩
      have HS2 := Lib.hid (Hst.out.next hb2)
      have HX2 := Lib.hid (OwnB.has hx2)
      obtain ⟨px, cx, rfl, -⟩ := own_cap0 hx2
      clear hx2 hxn hb2 Hnum Hst
      generalize hL : (numsI (zs.take k)).length = m at *
      generalize hL2 : (numI z).length = m2 at *
      have HL := Lib.hid (And.intro hL hL2)
      have Hrow := Lib.hid (show OwnR w2 5 1 (.slice pv m cv) m (bytesV (numsI (zs.take k))) by have := HS2.out.own; unfold OwnB at this; rwa [HL.out.1] at this)
      have Hxx := Lib.hid (show Holds w2 1 (.slice px m2 cx) m2 (bytesV (numI z)) by have := HX2.out; unfold HasB at this; rwa [HL.out.2] at this)
      clear hL hL2
      go_wp2_with (at_builtin; refine wpList_app _ rfl (.tmp 11) (.tmp 16) 22 rfl 5 i0 (.int .u8 0) 1 1 Tryz.underlying22 hi hz0 hz1 hz2 rfl (by decide) (.slice pv m cv) m _ rfl Hrow.out (.slice px m2 cx) m2 _ rfl Hxx.out (bytesV_one _) (by unfold maxLen; omega) (by omega) ?_; intro v3 w3 hown3 hgrow3 hloc3; go_loud (have HE := Lib.hid (RowB.grown (x := numI z) HS2.out (by rw [HL.out.1, HL.out.2]; exact hown3) hgrow3 hloc3); clear hgrow3 hloc3; obtain ⟨p3, q3, rfl⟩ := OwnR.shape hown3; clear hown3))
      go_roundw
      case rel => exact ⟨k + 1, _, by omega, by go_num, rfl, by rw [Htk.out]; exact HE.out⟩
      case measure => simp [intOf]; omega
    · have he : zs.take k = zs := List.take_of_length_le (by rw [Hn.out]; omega)
      rw [he] at hst
      have HE := Lib.hid hst.told
      clear hst he
      go_wp2_with fail
      go_ret
      exact HE.out

set_option maxRecDepth 100000 in
set_option maxHeartbeats 4000000 in
theorem rrecord_calls {w : World} {p : Option Addr} {m c : Nat} {l : Bs} (hx : HasB w (.slice p m c) l) (hl : l.length ≤ 1048576) :
    Calls Tryz.prog 117 #[.slice p m c] w (RowNew w (frameN l)) := by
  have H := Lib.hid (renc_calls hx hl)
  clear hx hl
  go_enter Tryz.func117, Tryz.ntmps117
  go_wp2_with fail
  refine H.out.mono ?_
  rintro e w1 ⟨v, rfl, hv, hn, hb⟩
  have HE := Lib.hid (show RowNew w (frameN l) (.returned v) w1 from ⟨v, rfl, hv, hn, hb⟩)
  clear hv hn hb H
  go_wp2_with fail
  go_ret
  exact HE.out

/-- One byte, and numbers. -/
theorem rowB_lit (w : World) (x : UInt8) : RowB w (w.alloc (.cells #[.int .u8 (x.toNat : Int)] 5)) (.slice (some ⟨w.heap.size, 0, none⟩) 1 1) [x] :=
  ⟨own_lit #[.int .u8 (x.toNat : Int)] [x] 5 rfl 1 rfl (by decide), fun k hk => by cases hk; exact Nat.le_refl _, below_one w _⟩

set_option maxRecDepth 100000 in
set_option maxHeartbeats 4000000 in
theorem rterms_calls (w : World) (t v : Int) (ht : -9223372036854775808 ≤ t ∧ t ≤ 9223372036854775807) (hv : -9223372036854775808 ≤ v ∧ v ≤ 1099511627776) :
    Calls Tryz.prog 116 #[.int .i64 t, .int .i64 v] w (RowNew w (frameN (trmB t v))) := by
  obtain ⟨i0, hi, hz0, hz1, hz2⟩ := info_parts (show (Tryz.prog.info? 5).map (fun i => (i.zero, i.size, i.bytes)) = some (some (.int .u8 0), 1, 1) by kernel_rfl)
  have hw : IntKind.i64.wrap (v + 1) = v + 1 := IntWalk.i64_in _ (by omega)
  have Hlit := Lib.hid (rowB_lit w 2)
  have HT := Lib.hid (show [2] ++ numsI [t, v + 1] = trmB t v from by simp [numsI, trmB])
  have hnl := numsI_len [t, v + 1]
  have Hnl := Lib.hid hnl
  have hn2 : (numsI [t, v + 1]).length ≤ 18 := by simpa using hnl
  have Hnum := Lib.hid (rnums1_calls (w := (w.alloc (.cells #[.int .u8 2] 5)).alloc (.cells #[.int .i64 t, .int .i64 (v + 1)] 3)) (p := some ⟨w.heap.size + 1, 0, none⟩) (n := 2) (c := 2) (zs := [t, v + 1]) ⟨by simp, some ⟨w.heap.size + 1, 0, none⟩, 2, rfl, fun e => (by cases e), fun a ha i u hu => by
    cases ha
    rw [add_zero]
    refine cell_of (by have := new_block (w.alloc (.cells #[.int .u8 2] 5)) (.cells #[.int .i64 t, .int .i64 (v + 1)] 3); simpa using this) ?_
    simpa using hu⟩ (by simp; omega) (by simp))
  clear hnl
  go_enter Tryz.func116, Tryz.ntmps116
  go_wp2_with fail
  refine Hnum.out.mono ?_
  rintro e w2 ⟨x, rfl, hx2, hxn, hb2⟩
  have HS2 := Lib.hid ((Hlit.out.alloc (.cells #[.int .i64 t, .int .i64 (v + 1)] 3)).next hb2)
  have HX2 := Lib.hid (OwnB.has hx2)
  obtain ⟨px, cx, rfl, -⟩ := own_cap0 hx2
  clear hx2 hxn hb2 Hnum Hlit
  generalize hL2 : (numsI [t, v + 1]).length = m2 at *
  have HL := Lib.hid hL2
  have Hrow := Lib.hid (show OwnR w2 5 1 (.slice (some ⟨w.heap.size, 0, none⟩) 1 1) 1 (bytesV [2]) from HS2.out.own)
  have Hxx := Lib.hid (show Holds w2 1 (.slice px m2 cx) m2 (bytesV (numsI [t, v + 1])) by have := HX2.out; unfold HasB at this; rwa [HL.out] at this)
  clear hL2
  go_wp2_with (at_builtin; refine wpList_app _ rfl (.tmp 5) (.tmp 10) 22 rfl 5 i0 (.int .u8 0) 1 1 Tryz.underlying22 hi hz0 hz1 hz2 rfl (by decide) (.slice (some ⟨w.heap.size, 0, none⟩) 1 1) 1 _ rfl Hrow.out (.slice px m2 cx) m2 _ rfl Hxx.out (bytesV_one _) (by unfold maxLen; omega) (by omega) ?_; intro v3 w3 hown3 hgrow3 hloc3; go_loud (have hE := RowB.grown (x := numsI [t, v + 1]) HS2.out (by rw [HL.out]; exact hown3) hgrow3 hloc3; rw [HT.out] at hE; have HE := Lib.hid hE; have Hr := Lib.hid (rrecord_calls (p := none) (m := 0) (c := 0) (w := w3) (l := []) ⟨rfl, none, 0, rfl, fun _ => rfl, fun a ha => by cases ha⟩ (by decide)); clear hgrow3 hloc3 hE; obtain ⟨p3, q3, rfl⟩ := OwnR.shape hown3; clear hown3))
  have Hrec := Lib.hid (rrecord_calls (p := p3) (m := 1 + m2) (c := q3) (l := trmB t v) (w := w3) HE.out.own.has (by rw [← HT.out, List.length_append, HL.out]; simp; omega))
  refine Hrec.out.mono ?_
  rintro e w4 ⟨y, rfl, hy, hyn, hb4⟩
  have HF := Lib.hid (show RowNew w (frameN (trmB t v)) (.returned y) w4 from ⟨y, rfl, hy, fun k hk => Nat.le_trans HE.out.bel.size (hyn k hk), HE.out.bel.trans (hb4.mono HE.out.bel.size)⟩)
  clear hy hyn hb4 Hrec
  go_wp2_with fail
  go_ret
  exact HF.out
end Go.Proofs.YtapfnehdgailmaaGreat

namespace Go.Proofs.YtapfnehdgailmaaGreat
open Go.RowKit Go.Sat Go.Maps

/-- A file of the document's disk: its name, the value of its bytes, what it is. -/
structure RFile where
  n : Bs
  b : Value
  f : FileM

def RFile.cells (x : RFile) : List Value := [encStr x.n, x.b, .int .i64 (x.f.lasts : Int)]
def RFile.key (x : RFile) : Bs × FileM := (x.n, x.f)

def leftOf : Option Nat → Int
  | none => -1
  | some k => k

theorem cells_at (L : List RFile) (i : Nat) (x : RFile) (h : L[i]? = some x) (j : Nat) (hj : j < 3) : (L.flatMap RFile.cells)[i * 3 + j]? = x.cells[j]? := by
  induction L generalizing i with
  | nil => simp at h
  | cons y r ih =>
    rw [List.flatMap_cons]
    cases i with
    | zero =>
      simp at h
      subst h
      rw [List.getElem?_append_left (by simp [RFile.cells]; omega)]
      simp
    | succ i =>
      rw [List.getElem?_append_right (by simp [RFile.cells]; omega)]
      have e : (i + 1) * 3 + j - y.cells.length = i * 3 + j := by simp [RFile.cells]; omega
      rw [e]
      exact ih i (by simpa using h)

structure RefIn (w : World) (r : Nat) (v : Value) (L : List RFile) (own : Nat → Prop) (D : DiskM) : Prop where
  cells : w.heap[r]? = some (.cells #[.int .i64 (D.room : Int), v, .int .i64 (leftOf D.fuse)] 118 (0, 0))
  row : OwnR w 127 3 v L.length (L.flatMap RFile.cells)
  files : D.files = L.map RFile.key
  data : ∀ x ∈ L, OwnB w 5 x.b x.f.data
  or : own r
  ov : ∀ k, v.ownBlock = some k → own k ∧ k ≠ r
  ob : ∀ x ∈ L, ∀ k, x.b.ownBlock = some k → own k ∧ k ≠ r ∧ v.ownBlock ≠ some k
  olt : ∀ k, own k → k < w.heap.size
  ok : D.OK

def RefAt (w : World) (r : Nat) (D : DiskM) (own : Nat → Prop) : Prop := ∃ v L, RefIn w r v L own D

theorem RefIn.keep {w w' : World} {r : Nat} {v : Value} {L : List RFile} {own : Nat → Prop} {D : DiskM} (h : RefIn w r v L own D) (hs : w.heap.size ≤ w'.heap.size) (hb : ∀ k, own k → w'.heap[k]? = w.heap[k]?) : RefIn w' r v L own D where
  cells := (hb r h.or).trans h.cells
  row := h.row.keep fun k hk => hb k (h.ov k hk).1
  files := h.files
  data := fun x hx => OwnR.keep (h.data x hx) fun k hk => hb k (h.ob x hx k hk).1
  or := h.or
  ov := h.ov
  ob := h.ob
  olt := fun k hk => Nat.lt_of_lt_of_le (h.olt k hk) hs
  ok := h.ok

theorem RefAt.keep {w w' : World} {r : Nat} {own : Nat → Prop} {D : DiskM} (h : RefAt w r D own) (hs : w.heap.size ≤ w'.heap.size) (hb : ∀ k, own k → w'.heap[k]? = w.heap[k]?) : RefAt w' r D own := by
  obtain ⟨v, L, h⟩ := h
  exact ⟨v, L, h.keep hs hb⟩

section
variable {w : World} {r : Nat} {v : Value} {L : List RFile} {own : Nat → Prop} {D : DiskM}

theorem RefIn.c0 (h : RefIn w r v L own D) : w.cell? ⟨r, 0, none⟩ = some (.int .i64 (D.room : Int)) := cell_of h.cells rfl
theorem RefIn.c1 (h : RefIn w r v L own D) : w.cell? ⟨r, 1, none⟩ = some v := cell_of h.cells rfl
theorem RefIn.c2 (h : RefIn w r v L own D) : w.cell? ⟨r, 2, none⟩ = some (.int .i64 (leftOf D.fuse)) := cell_of h.cells rfl
theorem RefIn.len (h : RefIn w r v L own D) : L.length = D.files.length := by rw [h.files, List.length_map]

/-- The cells of a file. -/
theorem RefIn.at (h : RefIn w r v L own D) : L = [] ∨ ∃ g c, v = .slice (some ⟨g, 0, none⟩) L.length c ∧ L.length ≤ c ∧ ∀ i x, L[i]? = some x → w.cell? ⟨g, i * 3, none⟩ = some (encStr x.n) ∧ w.cell? ⟨g, i * 3 + 1, none⟩ = some x.b ∧ w.cell? ⟨g, i * 3 + 2, none⟩ = some (.int .i64 (x.f.lasts : Int)) := by
  rcases h.row.2 with ⟨rfl, hn⟩ | ⟨g, cap, cur, e, hg, hnc, _⟩
  · exact .inl (List.eq_nil_of_length_eq_zero hn)
  · refine .inr ⟨g, cap, e, hnc, fun i x hx => ?_⟩
    have hc := h.row.cells (g := g) (by rw [e]; rfl)
    refine ⟨?_, ?_, ?_⟩
    · have := hc (i * 3 + 0) (encStr x.n) ((cells_at L i x hx 0 (by omega)).trans rfl)
      rwa [add_zero] at this
    · have := hc (i * 3 + 1) x.b ((cells_at L i x hx 1 (by omega)).trans rfl)
      rwa [add_zero] at this
    · have := hc (i * 3 + 2) _ ((cells_at L i x hx 2 (by omega)).trans rfl)
      rwa [add_zero] at this

theorem RefIn.slice (h : RefIn w r v L own D) : ∃ p c, v = .slice p L.length c := OwnR.shape h.row
end

/-- Where a name stands, or would stand. -/
def spotN (n : Bs) : List Bs → Nat
  | [] => 0
  | x :: r => if bytesBefore x n then spotN n r + 1 else 0
def isAt (n : Bs) (l : List Bs) : Bool := l[spotN n l]? == some n

theorem less_before (x : Bs) (s : ByteArray) : Op.bytesLess x s.toList = bytesBefore x (nm s) := by
  have e : s.toList = nm s := ByteArray.toList_eq s
  rw [e, Bool.eq_iff_iff, bb_lt, bytesLess_eq, decide_eq_true_eq]

theorem drop_cons {α : Type} {l : List α} {k : Nat} {x : α} (h : l[k]? = some x) : l.drop k = x :: l.drop (k + 1) := by
  obtain ⟨hk, rfl⟩ := List.getElem?_eq_some_iff.1 h
  exact List.drop_eq_getElem_cons hk

theorem spotN_yes {n x : Bs} {r : List Bs} (h : bytesBefore x n = true) : spotN n (x :: r) = spotN n r + 1 := by
  show (if bytesBefore x n then _ else _) = _
  rw [if_pos h]
theorem spotN_no {n x : Bs} {r : List Bs} (h : bytesBefore x n = false) : spotN n (x :: r) = 0 := by
  show (if bytesBefore x n then _ else _) = _
  rw [if_neg (by simp [h])]
theorem spotN_le (n : Bs) : ∀ l, spotN n l ≤ l.length
  | [] => Nat.le_refl _
  | x :: r => by
    have := spotN_le n r
    cases h : bytesBefore x n with
    | true => rw [spotN_yes h]; simp; omega
    | false => rw [spotN_no h]; exact Nat.zero_le _

set_option maxRecDepth 100000 in
theorem spot_calls {w : World} {r : Nat} {v : Value} {L : List RFile} {own : Nat → Prop} {D : DiskM} (h : RefIn w r v L own D) (s : ByteArray) :
    Calls Tryz.prog 70 #[.pointer (some ⟨r, 0, none⟩), .string s] w fun e w' => e = .returned (.tuple #[.int .i64 (spotN (nm s) (L.map RFile.n) : Int), .bool (isAt (nm s) (L.map RFile.n))]) ∧ ∃ q, w' = w.drewN q := by
  obtain ⟨p, c, rfl⟩ := h.slice
  have c1 := h.c1
  have Hat := Lib.hid h.at
  have hcount : L.length ≤ 4096 := by rw [h.len]; exact h.ok.count
  clear h
  have hNn : (L.map RFile.n).length = L.length := List.length_map ..
  generalize hN : L.length = N at *
  have HN := Lib.hid hN
  have HNn := Lib.hid hNn
  clear hN hNn
  go_enter Tryz.func70, Tryz.ntmps70
  go_wp2_with fail
  go_loop [6] (fun i => ∃ k : Nat, k ≤ N ∧ i = .int .i64 k ∧ spotN (nm s) (L.map RFile.n) = k + spotN (nm s) ((L.map RFile.n).drop k)) (fun i => N - (intOf i).toNat)
  case atStart => exact ⟨0, Nat.zero_le _, rfl, by simp⟩
  case round =>
    obtain ⟨k, hk, rfl, hsp⟩ := hrel
    by_cases hlt : k < N
    · have hkl : k < L.length := by rw [HN.out]; exact hlt
      obtain ⟨y, hy⟩ : ∃ y, L[k]? = some y := ⟨_, List.getElem?_eq_getElem hkl⟩
      have hmk : (L.map RFile.n)[k]? = some y.n := by rw [List.getElem?_map, hy]; rfl
      rw [drop_cons hmk] at hsp
      rcases Hat.out with h0 | ⟨g, c1, e1, -, hc⟩
      · rw [h0] at hkl
        simp at hkl
      cases e1
      obtain ⟨hn0, -, -⟩ := hc k y hy
      rw [enc_str] at hn0
      have Hsp := Lib.hid hsp
      have Hmk := Lib.hid hmk
      clear hc hkl hy hsp hmk
      generalize y.n = x at *
      cases hb : bytesBefore x (nm s) with
      | true =>
        have hb1 : Op.bytesLess x s.toList = true := by rw [less_before]; exact hb
        go_wp2_with fail
        go_round
        case rel => exact ⟨k + 1, by omega, by go_num, by rw [Hsp.out, spotN_yes hb]; omega⟩
        case measure => simp [intOf]; omega
      | false =>
        have hb1 : Op.bytesLess x s.toList = false := by rw [less_before]; exact hb
        have Hfin : spotN (nm s) (L.map RFile.n) = k := by rw [Hsp.out, spotN_no hb]; rfl
        have Hfa : isAt (nm s) (L.map RFile.n) = (x == nm s) := by unfold isAt; rw [Hfin, Hmk.out]; rfl
        have Hres := Lib.hid (show Value.tuple #[.int .i64 (k : Int), .bool (x == s.toList)] = .tuple #[.int .i64 (spotN (nm s) (L.map RFile.n) : Int), .bool (isAt (nm s) (L.map RFile.n))] by rw [Hfin, Hfa, ByteArray.toList_eq]; rfl)
        clear Hsp Hfin Hfa hb
        go_wp2_with fail
        go_quiet (fail)
        go_wp2
        go_ret2
        exact ⟨congrArg Ending.returned Hres.out, _, rfl⟩
    · have hkN : k = N := by omega
      subst hkN
      have hd : (L.map RFile.n).drop k = [] := List.drop_of_length_le (by rw [HNn.out]; exact Nat.le_refl _)
      rw [hd] at hsp
      have hsp' : spotN (nm s) (L.map RFile.n) = k := hsp
      have hfa : isAt (nm s) (L.map RFile.n) = false := by unfold isAt; rw [hsp', List.getElem?_eq_none (by rw [HNn.out]; exact Nat.le_refl _)]; rfl
      have Hres := Lib.hid (show Value.tuple #[.int .i64 (k : Int), .bool false] = .tuple #[.int .i64 (spotN (nm s) (L.map RFile.n) : Int), .bool (isAt (nm s) (L.map RFile.n))] by rw [hsp', hfa])
      clear hsp hsp' hfa hd
      go_wp2_with fail
      go_quiet (fail)
      go_wp2
      go_ret2
      exact ⟨congrArg Ending.returned Hres.out, _, rfl⟩
end Go.Proofs.YtapfnehdgailmaaGreat

namespace Go.Proofs.YtapfnehdgailmaaGreat
open Go.RowKit Go.Sat Go.Maps

/-! ### Where names stand -/
section
variable {α : Type}
theorem key_ne {n m : Bs} (h : n ≠ m) : (n == m) = false := by simpa using h

theorem get_cons (n m : Bs) (a : α) (r : List (Bs × α)) : Sat.get n ((m, a) :: r) = if m = n then some a else Sat.get n r := by
  unfold Sat.get
  rw [List.find?_cons]
  by_cases e : m = n
  · rw [if_pos e]
    simp [e]
  · rw [if_neg e]
    simp [key_ne e]

theorem del_cons (n m : Bs) (a : α) (r : List (Bs × α)) : del n ((m, a) :: r) = if m = n then del n r else (m, a) :: del n r := by
  unfold del
  rw [List.filter_cons]
  by_cases e : m = n
  · rw [if_pos e]
    simp [e]
  · rw [if_neg e]
    simp [key_ne e]

/-- All that stands behind what is not ahead of n is not n. -/
theorem srt_after {n m : Bs} {a : α} {r : List (Bs × α)} (h : Srt ((m, a) :: r)) (hb : bytesBefore m n = false) : ∀ p ∈ r, p.1 ≠ n ∧ bytesBefore n p.1 = true := by
  intro p hp
  have h1 := (List.pairwise_cons.1 h).1 p hp
  have h1 : bytesBefore m p.1 = true := h1
  by_cases e : m = n
  · subst e
    exact ⟨(bb_ne h1).symm, h1⟩
  · rcases bb_total m n e with h2 | h2
    · rw [hb] at h2; cases h2
    · have h3 := bb_trans h2 h1
      exact ⟨(bb_ne h3).symm, h3⟩

theorem spot_get (n : Bs) : ∀ {L : List (Bs × α)}, Srt L → isAt n (L.map (·.1)) = (Sat.get n L).isSome ∧ ∀ a, Sat.get n L = some a → L[spotN n (L.map (·.1))]? = some (n, a)
  | [], _ => ⟨rfl, fun a h => by cases h⟩
  | (m, a) :: r, h => by
    have hr : Srt r := (List.pairwise_cons.1 h).2
    obtain ⟨h1, h2⟩ := spot_get n hr
    cases hb : bytesBefore m n with
    | true =>
      have e : m ≠ n := bb_ne hb
      have es : spotN n (((m, a) :: r).map (·.1)) = spotN n (r.map (·.1)) + 1 := spotN_yes hb
      rw [get_cons, if_neg e]
      refine ⟨?_, fun x hx => ?_⟩
      · rw [← h1]
        unfold isAt
        rw [es]
        rfl
      · rw [es]
        exact h2 x hx
    | false =>
      have es : spotN n (((m, a) :: r).map (·.1)) = 0 := spotN_no hb
      by_cases e : m = n
      · subst e
        rw [get_cons, if_pos rfl]
        refine ⟨?_, fun x hx => ?_⟩
        · unfold isAt
          rw [es]
          simp
        · rw [es]
          cases hx
          rfl
      · have hg : Sat.get n r = none := get_none.2 fun p hp => (srt_after h hb p hp).1
        rw [get_cons, if_neg e, hg]
        refine ⟨?_, fun x hx => by cases hx⟩
        unfold isAt
        rw [es]
        simp [e]

theorem del_after {n m : Bs} {a : α} {r : List (Bs × α)} (h : Srt ((m, a) :: r)) (hb : bytesBefore m n = false) : del n r = r := del_none (get_none.2 fun p hp => (srt_after h hb p hp).1)

theorem del_at (n : Bs) : ∀ {L : List (Bs × α)}, Srt L → isAt n (L.map (·.1)) = true → del n L = L.take (spotN n (L.map (·.1))) ++ L.drop (spotN n (L.map (·.1)) + 1)
  | [], _, h => by cases h
  | (m, a) :: r, h, ha => by
    have hr : Srt r := (List.pairwise_cons.1 h).2
    cases hb : bytesBefore m n with
    | true =>
      have es : spotN n (((m, a) :: r).map (·.1)) = spotN n (r.map (·.1)) + 1 := spotN_yes hb
      have ha' : isAt n (r.map (·.1)) = true := by
        rw [← ha]
        unfold isAt
        rw [es]
        rfl
      rw [del_cons, if_neg (bb_ne hb), es, List.take_succ_cons, List.drop_succ_cons, del_at n hr ha']
      rfl
    | false =>
      have es : spotN n (((m, a) :: r).map (·.1)) = 0 := spotN_no hb
      have e : m = n := by
        unfold isAt at ha
        rw [es] at ha
        simpa using ha
      rw [del_cons, if_pos e, es, del_after h hb]
      rfl

theorem ins_at (n : Bs) (f : α) : ∀ {L : List (Bs × α)}, Srt L → Sat.get n L = none → ins (n, f) L = L.take (spotN n (L.map (·.1))) ++ (n, f) :: L.drop (spotN n (L.map (·.1)))
  | [], _, _ => rfl
  | (m, a) :: r, h, hg => by
    have hr : Srt r := (List.pairwise_cons.1 h).2
    have hne : m ≠ n := fun e => by rw [get_cons, if_pos e] at hg; cases hg
    cases hb : bytesBefore m n with
    | true =>
      have es : spotN n (((m, a) :: r).map (·.1)) = spotN n (r.map (·.1)) + 1 := spotN_yes hb
      have hb2 : bytesBefore n m = false := by
        cases h2 : bytesBefore n m with
        | false => rfl
        | true =>
          have := bb_trans h2 hb
          rw [bb_irrefl] at this
          cases this
      rw [get_cons, if_neg hne] at hg
      show (if bytesBefore n m then _ else _) = _
      rw [if_neg (by simp [hb2]), es, List.take_succ_cons, List.drop_succ_cons, ins_at n f hr hg]
      rfl
    | false =>
      have es : spotN n (((m, a) :: r).map (·.1)) = 0 := spotN_no hb
      have hb2 : bytesBefore n m = true := by
        rcases bb_total m n hne with h2 | h2
        · rw [hb] at h2; cases h2
        · exact h2
      show (if bytesBefore n m then _ else _) = _
      rw [if_pos hb2, es]
      rfl

theorem put_at (n : Bs) (f : α) : ∀ {L : List (Bs × α)}, Srt L → isAt n (L.map (·.1)) = true → put n f L = L.set (spotN n (L.map (·.1))) (n, f)
  | [], _, h => by cases h
  | (m, a) :: r, h, ha => by
    have hr : Srt r := (List.pairwise_cons.1 h).2
    cases hb : bytesBefore m n with
    | true =>
      have es : spotN n (((m, a) :: r).map (·.1)) = spotN n (r.map (·.1)) + 1 := spotN_yes hb
      have ha' : isAt n (r.map (·.1)) = true := by
        rw [← ha]
        unfold isAt
        rw [es]
        rfl
      have hb2 : bytesBefore n m = false := by
        cases h2 : bytesBefore n m with
        | false => rfl
        | true =>
          have := bb_trans h2 hb
          rw [bb_irrefl] at this
          cases this
      rw [es, List.set_cons_succ, ← put_at n f hr ha']
      show ins (n, f) (del n ((m, a) :: r)) = _
      rw [del_cons, if_neg (bb_ne hb)]
      show (if bytesBefore n m then _ else _) = _
      rw [if_neg (by simp [hb2])]
      rfl
    | false =>
      have es : spotN n (((m, a) :: r).map (·.1)) = 0 := spotN_no hb
      have e : m = n := by
        unfold isAt at ha
        rw [es] at ha
        simpa using ha
      rw [es, List.set_cons_zero]
      show ins (n, f) (del n ((m, a) :: r)) = _
      rw [del_cons, if_pos e, del_after h hb]
      cases r with
      | nil => rfl
      | cons p q =>
        have := (srt_after h hb p (List.mem_cons_self ..)).2
        show (if bytesBefore n p.1 then _ else _) = _
        rw [if_pos this]
end

section
variable {w : World} {r : Nat} {v : Value} {L : List RFile} {own : Nat → Prop} {D : DiskM}

theorem RefIn.names (h : RefIn w r v L own D) : L.map RFile.n = D.files.map (·.1) := by
  rw [h.files, List.map_map]
  rfl

theorem RefIn.is (h : RefIn w r v L own D) (n : Bs) : isAt n (L.map RFile.n) = (Sat.get n D.files).isSome := by
  rw [h.names]
  exact (spot_get n h.ok.srt).1

theorem RefIn.hit (h : RefIn w r v L own D) {n : Bs} {f : FileM} (hg : Sat.get n D.files = some f) : ∃ x, L[spotN n (L.map RFile.n)]? = some x ∧ x.n = n ∧ x.f = f := by
  have h1 := (spot_get n h.ok.srt).2 f hg
  rw [h.names]
  rw [h.files] at h1 ⊢
  rw [List.getElem?_map] at h1
  cases hx : L[spotN n (List.map (fun x => x.fst) (List.map RFile.key L))]? with
  | none => rw [hx] at h1; cases h1
  | some x =>
    rw [hx] at h1
    have := Option.some.inj h1
    exact ⟨x, rfl, congrArg Prod.fst this, congrArg Prod.snd this⟩
end

/-! ### may, did -/
set_option maxHeartbeats 400000 in
theorem rmay_burnt (d : Nat) (p : Option Addr) (n c : Nat) (w : World) (h2 : w.cell? ⟨d, 2, none⟩ = some (.int .i64 0)) :
    Calls Tryz.prog 69 #[.pointer (some ⟨d, 0, none⟩), .slice p n c] w fun e w' => e = .returned (.int .i64 9) ∧ w = w' := by
  go_enter Tryz.func69, Tryz.ntmps69
  go_wp2
  go_ret
  exact ⟨rfl, rfl⟩

set_option maxHeartbeats 1000000 in
theorem rmay_names (d : Nat) (p : Option Addr) (ss : List ByteArray) (c : Nat) (w : World) (l : Int) (h2 : w.cell? ⟨d, 2, none⟩ = some (.int .i64 l))
    (hl : (l == 0) = false) (hs : StrsAt w p ss) (hm : ss.length ≤ 140737488355328) (hsz : ∀ s ∈ ss, s.size ≤ 9223372036854775807) :
    Calls Tryz.prog 69 #[.pointer (some ⟨d, 0, none⟩), .slice p ss.length c] w fun e w' => e = .returned (.int .i64 (namesE ss)) ∧ w = w' := by
  go_enter Tryz.func69, Tryz.ntmps69
  go_wp2
  go_loop [5] (fun i => ∃ k : Nat, k ≤ ss.length ∧ i = .int .i64 k ∧ ((ss.take k).map nm).all okN = true) (fun i => ss.length - (intOf i).toNat)
  case atStart => exact ⟨0, Nat.zero_le _, rfl, rfl⟩
  case round =>
    obtain ⟨k, hk, rfl, hall⟩ := hrel
    by_cases hlt : k < ss.length
    · have hss : ss[k]? = some ss[k] := List.getElem?_eq_getElem hlt
      rcases hs with h | ⟨b, o, rfl, hc⟩
      · subst h
        simp at hlt
      have hcell := hc k _ hss
      have hz : ss[k].size ≤ 9223372036854775807 := hsz _ (List.getElem_mem hlt)
      have Hkey := Lib.hid (take_ok hlt hall)
      have Hno := Lib.hid (bad_at hlt)
      clear hc hsz hall hss
      rw [okN_nm] at Hkey Hno
      generalize ss[k] = s at *
      by_cases h1 : 1 ≤ s.size
      · by_cases h64 : s.size ≤ 64
        · go_wp2
          go_round
          case rel => exact ⟨k + 1, by omega, by go_num, Hkey.out (by simp [h1, h64])⟩
          case measure => simp [intOf]; omega
        · go_wp2
          go_ret
          exact ⟨by rw [Hno.out (by simp [h64])]; rfl, rfl⟩
      · go_wp2
        go_ret
        exact ⟨by rw [Hno.out (by simp [h1])]; rfl, rfl⟩
    · have Hall := Lib.hid hall
      clear hall
      go_wp2
      go_ret
      have h := Hall.out
      rw [List.take_of_length_le (by omega)] at h
      exact ⟨by simp [namesE, h], rfl⟩

section
variable {w : World} {r : Nat} {v : Value} {L : List RFile} {own : Nat → Prop} {D : DiskM}

theorem left_zero {f : Option Nat} (h : f ≠ some 0) : (leftOf f == 0) = false := by
  cases f with
  | none => rfl
  | some k =>
    have : k ≠ 0 := fun e => h (by rw [e])
    simp [leftOf]
    omega

theorem rmay_calls (h : RefIn w r v L own D) (p : Option Addr) (ss : List ByteArray) (c : Nat) (hs : StrsAt w p ss) (hm : ss.length ≤ 140737488355328) (hsz : ∀ s ∈ ss, s.size ≤ 9223372036854775807) :
    Calls Tryz.prog 69 #[.pointer (some ⟨r, 0, none⟩), .slice p ss.length c] w fun e w' => e = .returned (.int .i64 (D.may (ss.map nm) : Int)) ∧ w = w' := by
  have h2 := h.c2
  by_cases hb : D.fuse = some 0
  · rw [hb] at h2
    refine (rmay_burnt r p ss.length c w h2).mono ?_
    rintro e w' ⟨rfl, rfl⟩
    exact ⟨by simp [DiskM.may, hb], rfl⟩
  · refine (rmay_names r p ss c w _ h2 (left_zero hb) hs hm hsz).mono ?_
    rintro e w' ⟨rfl, rfl⟩
    refine ⟨?_, rfl⟩
    unfold namesE DiskM.may
    rw [if_neg hb]
    split <;> rfl

/-- The fuse alone. -/
theorem RefIn.fuse_set (h : RefIn w r v L own D) (f : Option Nat) (hf : ∀ k, f = some k → k ≤ 9223372036854775807) : RefIn (w.setCell ⟨r, 2, none⟩ (.int .i64 (leftOf f))) r v L own { D with fuse := f } where
  cells := set_block h.cells 2 _
  row := h.row.keep fun k hk => set_other _ (h.ov k hk).2
  files := h.files
  data := fun x hx => OwnR.keep (h.data x hx) fun k hk => set_other _ (h.ob x hx k hk).2.1
  or := h.or
  ov := h.ov
  ob := h.ob
  olt := fun k hk => by
    have := h.olt k hk
    simpa [World.setCell] using this
  ok := { h.ok with fuse := hf }

theorem chg_own {a : Addr} {u : Value} (h : own a.block) : Chg own w (w.setCell a u) := (Chg.setCell w a u).mono fun k _ e => by rw [e]; exact h

theorem rdid_calls (h : RefIn w r v L own D) (hf : D.fuse ≠ some 0) :
    Calls Tryz.prog 72 #[.pointer (some ⟨r, 0, none⟩)] w fun e w' => e = .returned (.int .i64 0) ∧ RefIn w' r v L own D.done ∧ Chg own w w' := by
  have c2 := h.c2
  have hz := frozen_of h.cells 2
  cases hfu : D.fuse with
  | none =>
    rw [hfu] at c2
    have hD : D.done = D := by unfold DiskM.done; rw [hfu]; cases D; simp at hfu; subst hfu; rfl
    have Hf := Lib.hid (show RefIn w r v L own D.done ∧ Chg own w w from ⟨by rw [hD]; exact h, Chg.refl _ _⟩)
    have c2' : w.cell? ⟨r, 2, none⟩ = some (.int .i64 (-1)) := c2
    clear h hf hfu hD c2
    go_enter Tryz.func72, Tryz.ntmps72
    go_wp2
    go_ret
    exact ⟨rfl, Hf.out⟩
  | some k =>
    rw [hfu] at c2
    have hk0 : k ≠ 0 := fun e => hf (by rw [hfu, e])
    have hkm : k ≤ 9223372036854775807 := h.ok.fuse k hfu
    have hD : D.done = { D with fuse := some (k - 1) } := by unfold DiskM.done; rw [hfu]; rfl
    have h2 := h.fuse_set (some (k - 1)) (fun j e => by have := Option.some.inj e; omega)
    have e1 : leftOf (some (k - 1)) = (k : Int) - 1 := by show ((k - 1 : Nat) : Int) = _; omega
    rw [e1, ← hD] at h2
    have Hf := Lib.hid (And.intro h2 (chg_own (w := w) (a := ⟨r, 2, none⟩) (u := .int .i64 ((k : Int) - 1)) h.or))
    have c2' : w.cell? ⟨r, 2, none⟩ = some (.int .i64 (k : Int)) := c2
    clear h hf hfu hD c2 h2 e1
    go_enter Tryz.func72, Tryz.ntmps72
    go_wp2
    go_ret
    exact ⟨rfl, Hf.out⟩

end

theorem rnew_calls (w : World) (n : Int) (h0 : 0 ≤ n) (h1 : n ≤ 1073741824) :
    Calls Tryz.prog 14 #[.int .i64 n] w fun e w' => ∃ r, e = .returned (.tuple #[.pointer (some ⟨r, 0, none⟩), .int .i64 0]) ∧ RefIn w' r (.slice none 0 0) [] (fun k => k = r) (DiskM.fresh n.toNat) ∧ Below w.heap.size w w' ∧ w.heap.size ≤ r := by
  obtain ⟨m, rfl⟩ : ∃ m : Nat, n = (m : Int) := ⟨n.toNat, by omega⟩
  go_enter Tryz.func14, Tryz.ntmps14
  go_wp2
  go_ret2
  refine ⟨w.heap.size, rfl, ?_, (Below.refl _ _).alloc (Nat.le_refl _) _, Nat.le_refl _⟩
  exact {
    cells := new_block w _
    row := OwnR.nil _ _ _
    files := rfl
    data := fun x hx => by cases hx
    or := rfl
    ov := fun k hk => by cases hk
    ob := fun x hx => by cases hx
    olt := fun k hk => by rw [hk]; simp
    ok := ok_fresh _ (by rw [Int.toNat_natCast]; omega) }

end Go.Proofs.YtapfnehdgailmaaGreat

namespace Go.Proofs.YtapfnehdgailmaaGreat
open Go.RowKit Go.Sat Go.Maps

theorem alloc_was (w : World) (o : Obj) {k : Nat} (h : k < w.heap.size) : (w.alloc o).heap[k]? = w.heap[k]? := ((Below.refl w.heap.size w).alloc (Nat.le_refl _) o).block k h

def flens (L : List RFile) : Nat := (L.map fun x => x.f.data.length).sum

theorem flens_take (L : List RFile) {k : Nat} {x : RFile} (h : L[k]? = some x) : flens (L.take (k + 1)) = flens (L.take k) + x.f.data.length := by
  obtain ⟨hk, rfl⟩ := List.getElem?_eq_some_iff.1 h
  rw [List.take_succ_eq_append_getElem hk]
  simp only [flens, List.map_append, List.map_cons, List.map_nil, List.sum_append, List.sum_cons, List.sum_nil, Nat.add_zero]

theorem flens_le (L : List RFile) (k : Nat) : flens (L.take k) ≤ flens L := by
  have e : flens L = flens (L.take k) + flens (L.drop k) := by
    conv => lhs; rw [← List.take_append_drop k L]
    simp only [flens, List.map_append, List.sum_append]
  omega

section
variable {w : World} {r : Nat} {v : Value} {L : List RFile} {own : Nat → Prop} {D : DiskM}

theorem RefIn.used (h : RefIn w r v L own D) : D.used = flens L := by
  unfold DiskM.used sumBy flens
  rw [h.files, List.map_map]
  rfl

theorem RefIn.len_le (h : RefIn w r v L own D) {k : Nat} {x : RFile} (hx : L[k]? = some x) : x.f.data.length ≤ 1073741824 := by
  have h1 := flens_take L hx
  have h2 := flens_le L (k + 1)
  have h3 := h.used
  have h4 := h.ok.used
  have h5 := h.ok.room
  omega

set_option maxRecDepth 100000 in
set_option maxHeartbeats 1000000 in
theorem rused_calls (h : RefIn w r v L own D) :
    Calls Tryz.prog 71 #[.pointer (some ⟨r, 0, none⟩)] w fun e w' => e = .returned (.int .i64 (D.used : Int)) ∧ w' = w := by
  obtain ⟨p, c, rfl⟩ := h.slice
  have c1 := h.c1
  have Hat := Lib.hid h.at
  have Hda := Lib.hid h.data
  have hcount : L.length ≤ 4096 := by rw [h.len]; exact h.ok.count
  have Hus := Lib.hid h.used
  have hub : D.used ≤ 1073741824 := Nat.le_trans h.ok.used h.ok.room
  rw [h.used] at hub ⊢
  have Hub := Lib.hid hub
  clear h hub
  generalize hN : L.length = N at *
  have HN := Lib.hid hN
  clear hN
  go_enter Tryz.func71, Tryz.ntmps71
  go_wp2_with fail
  go_loop [3, 4] (fun a i => ∃ k : Nat, k ≤ N ∧ i = .int .i64 k ∧ a = .int .i64 (flens (L.take k) : Int)) (fun _ i => N - (intOf i).toNat)
  case atStart => exact ⟨0, Nat.zero_le _, rfl, rfl⟩
  case round =>
    obtain ⟨k, hk, rfl, rfl⟩ := hrel
    by_cases hlt : k < N
    · have hkl : k < L.length := by rw [HN.out]; exact hlt
      obtain ⟨y, hy⟩ : ∃ y, L[k]? = some y := ⟨_, List.getElem?_eq_getElem hkl⟩
      have hym : y ∈ L := List.mem_of_getElem? hy
      rcases Hat.out with h0 | ⟨g, c1, e1, -, hc⟩
      · rw [h0] at hkl
        simp at hkl
      cases e1
      obtain ⟨-, hn1, -⟩ := hc k y hy
      obtain ⟨pb, cb, eb⟩ := HasB.slice (Hda.out y hym).has
      rw [eb] at hn1
      have hl := flens_take L hy
      have hle := flens_le L (k + 1)
      have Hl := Lib.hid hl
      have hb1 : flens (L.take k) + y.f.data.length ≤ 1073741824 := by have := Hub.out; omega
      clear hc hkl hy hym eb hl hle
      generalize y.f.data.length = m at *
      generalize hC : flens (L.take k) = C at *
      go_wp2_with fail
      go_round
      case rel => exact ⟨k + 1, by omega, by go_num, by rw [Hl.out]; go_num⟩
      case measure => simp [intOf]; omega
    · have e : L.take k = L := List.take_of_length_le (by rw [HN.out]; omega)
      rw [e]
      go_wp2_with fail
      go_ret
      exact ⟨rfl, rfl⟩

set_option maxRecDepth 100000 in
set_option maxHeartbeats 1000000 in
theorem rread_calls (h : RefIn w r v L own D) (s : ByteArray) :
    Calls Tryz.prog 81 #[.pointer (some ⟨r, 0, none⟩), .string s] w (ReadPost w (Sat.get (nm s) D.files)) := by
  have hsp := spot_calls h s
  rw [h.is] at hsp
  have c1 := h.c1
  cases hg : Sat.get (nm s) D.files with
  | none =>
    rw [hg] at hsp
    have Hsp := Lib.hid hsp
    clear hsp c1 h
    go_enter Tryz.func81, Tryz.ntmps81
    go_wp2_with fail
    refine Hsp.out.mono ?_
    rintro e w2 ⟨rfl, q, rfl⟩
    go_wp2_with fail
    go_ret2
    exact ⟨.slice none 0 0, rfl, OwnR.nil _ _ _, fun k hk => (by cases hk), ⟨rfl, rfl, rfl, Nat.le_refl _, fun _ _ => rfl⟩⟩
  | some f =>
    rw [hg] at hsp
    obtain ⟨x, hx, hxn, rfl⟩ := h.hit hg
    have hlm := h.len_le hx
    have hd := (h.data x (List.mem_of_getElem? hx)).has
    have hN : spotN (nm s) (L.map RFile.n) < L.length := (List.getElem?_eq_some_iff.1 hx).1
    generalize spotN (nm s) (L.map RFile.n) = i at *
    rcases h.at with h0 | ⟨g, c0, rfl, hlc, hc⟩
    · rw [h0] at hN
      simp at hN
    obtain ⟨-, hn1, -⟩ := hc i x hx
    obtain ⟨pb, cb, eb⟩ := HasB.slice hd
    rw [eb] at hn1 hd
    have hrlt : r < w.heap.size := h.olt r h.or
    have hglt : g < w.heap.size := h.olt g (h.ov g rfl).1
    have Hsp := Lib.hid hsp
    have Hd := Lib.hid hd
    have hDa : dataOf (some x.f) = x.f.data := rfl
    generalize x.f.data = l at *
    generalize hlen : l.length = m at *
    have Hlen := Lib.hid hlen
    obtain ⟨i0, hi, hz0, hz1, hz2⟩ := info_parts (show (Tryz.prog.info? 5).map (fun i => (i.zero, i.size, i.bytes)) = some (some (.int .u8 0), 1, 1) by kernel_rfl)
    clear hsp h hc hx hd hg hlen
    go_enter Tryz.func81, Tryz.ntmps81
    go_wp2_with fail
    refine Hsp.out.mono ?_
    rintro e w2 ⟨rfl, q, rfl⟩
    have hX8 : Below w.heap.size w (w.drewN q) := ⟨rfl, rfl, rfl, Nat.le_refl _, fun _ _ => rfl⟩
    have X11 := Lib.hid (hX8.alloc (Nat.le_refl _) (.cells #[] 5))
    have Hdw := Lib.hid (show Holds ((w.drewN q).alloc (.cells #[] 5)) 1 (.slice pb m cb) m (bytesV l) from by
      have h := Hd.out.below X11.out
      unfold HasB at h
      rw [Hlen.out] at h
      exact h)
    have c1w := (X11.out.cell (p := ⟨r, 1, none⟩) hrlt).trans c1
    have hn1w := (X11.out.cell (p := ⟨g, i * 3 + 1, none⟩) hglt).trans hn1
    clear hX8
    go_wp2_with (at_builtin; refine wpList_app ((w.drewN q).alloc (.cells #[] 5)) rfl (.tmp 16) (.tmp 24) 22 rfl 5 i0 (.int .u8 0) 1 1 Tryz.underlying22 hi hz0 hz1 hz2 rfl (by decide) (.slice (some ⟨w.heap.size, 0, none⟩) 0 0) 0 [] rfl (own_empty (w.drewN q) _) (.slice pb m cb) m (bytesV l) rfl Hdw.out (bytesV_one _) (by unfold maxLen; omega) (by omega) ?_; intro v12 w12 hown12 hgrow12 hloc12; rw [Nat.zero_add, List.nil_append] at hown12; have hX := X11.out.grown hgrow12 X11.out.size (fun j e => by simp [Value.ownBlock] at e; omega); have hnew := own_ge (B := w.heap.size) hloc12 (fun k hk => by simp [Value.ownBlock] at hk; omega) X11.out.size; have X12 := Lib.hid (And.intro hX (And.intro hown12 hnew)); clear hown12 hgrow12 hloc12 hX hnew)
    go_ret2
    refine ⟨v12, rfl, ?_, X12.out.2.2, X12.out.1⟩
    unfold OwnB
    rw [hDa, Hlen.out]
    exact X12.out.2.1

end
end Go.Proofs.YtapfnehdgailmaaGreat

namespace Go.Proofs.YtapfnehdgailmaaGreat
open Go.RowKit Go.Sat Go.Maps

def b12' : Bs := [49, 50]
def b3' : Bs := [51]
def b123 : Bs := [49, 50, 51]
def Q0 : DiskM := DiskM.fresh 1000
def Q1 : DiskM := ⟨1000, [([97], ⟨frameN b123, (frameN b123).length⟩)], none⟩

theorem q1 : Q0.save (nm sA) [b12', b3'].flatten = (Q1, 0) :=
  save_all (D := Q0) (n := [97]) (l := b123) (ok_fresh 1000 (by decide)) (fun j h => by cases h) (by decide) (by decide) rfl (by decide) (by decide)

theorem q2 (k : Int) : Sat.get (nm sA) (Q1.crash k).files = some ⟨frameN b123, (frameN b123).length⟩ := get_crash_whole (D := Q1) (n := [97]) rfl k

end Go.Proofs.YtapfnehdgailmaaGreat

namespace Go.Proofs.YtapfnehdgailmaaGreat
open Go.RowKit Go.Sat Go.Maps

/-- A file that was saved. -/
def fl (x : Bs) : FileM := ⟨frameN x, (frameN x).length⟩

theorem each_one (g : Bs → FileM → List (Bs × FileM) → List (Bs × FileM)) (D : DiskM) (n : Bs) : D.each g [n] = D.each1 g n := by
  cases h : D.each1 g n with
  | mk D1 e1 =>
    unfold DiskM.each
    rw [h]
    by_cases he : e1 = 0
    · subst he
      rw [if_pos rfl]
      rfl
    · rw [if_neg he]

section
variable {a b c : Bs}
end
end Go.Proofs.YtapfnehdgailmaaGreat

namespace Go.Sat
open Go.RowKit
theorem OwnR.set {w : World} {e : TypeId} {size : Nat} {v : Value} {n : Nat} {xs : List Value} (h : OwnR w e size v n xs) {g : Nat} (hg : v.ownBlock = some g) (j : Nat) (u : Value) : OwnR (w.setCell ⟨g, j, none⟩ u) e size v n (xs.set j u) := by
  refine ⟨by rw [List.length_set]; exact h.1, ?_⟩
  rcases h.2 with ⟨rfl, _⟩ | ⟨g', cap, cur, rfl, hgg, hnc, hcm, hcs, ht⟩
  · cases hg
  · cases hg
    refine .inr ⟨g', cap, cur.setIfInBounds j u, rfl, set_block hgg j u, hnc, hcm, by simpa using hcs, ?_⟩
    rw [← ht, Array.toList_setIfInBounds, List.take_set]
end Go.Sat

namespace Go.Proofs.YtapfnehdgailmaaGreat
open Go.RowKit Go.Sat Go.Maps

theorem cells_set (L : List RFile) (i : Nat) (x x' : RFile) (h : L[i]? = some x) (j : Nat) (hj : j < 3) (u : Value) (hc : x'.cells = x.cells.set j u) : (L.flatMap RFile.cells).set (i * 3 + j) u = (L.set i x').flatMap RFile.cells := by
  induction L generalizing i with
  | nil => simp at h
  | cons y r ih =>
    have hy : y.cells.length = 3 := rfl
    rw [List.flatMap_cons]
    cases i with
    | zero =>
      simp at h
      subst h
      rw [List.set_cons_zero, List.flatMap_cons, hc, List.set_append_left _ _ (by omega), Nat.zero_mul, Nat.zero_add]
    | succ i =>
      rw [List.set_cons_succ, List.flatMap_cons, List.set_append_right _ _ (by omega), ← ih i (by simpa using h)]
      congr 2
      omega

/-- Where the document's disk lies, whatever it says. -/
structure RefCore (w : World) (r : Nat) (v : Value) (L : List RFile) (own : Nat → Prop) (room : Nat) (fuse : Option Nat) : Prop where
  cells : w.heap[r]? = some (.cells #[.int .i64 (room : Int), v, .int .i64 (leftOf fuse)] 118 (0, 0))
  row : OwnR w 127 3 v L.length (L.flatMap RFile.cells)
  data : ∀ x ∈ L, OwnB w 5 x.b x.f.data
  or : own r
  ov : ∀ k, v.ownBlock = some k → own k ∧ k ≠ r
  ob : ∀ x ∈ L, ∀ k, x.b.ownBlock = some k → own k ∧ k ≠ r ∧ v.ownBlock ≠ some k
  olt : ∀ k, own k → k < w.heap.size

section
variable {w : World} {r : Nat} {v : Value} {L : List RFile} {own : Nat → Prop} {D : DiskM} {room : Nat} {fuse : Option Nat}

theorem RefIn.core (h : RefIn w r v L own D) : RefCore w r v L own D.room D.fuse := ⟨h.cells, h.row, h.data, h.or, h.ov, h.ob, h.olt⟩
theorem RefCore.full (h : RefCore w r v L own room fuse) (hr : D.room = room) (hf : D.fuse = fuse) (hL : D.files = L.map RFile.key) (ok : D.OK) : RefIn w r v L own D := by
  subst hr
  subst hf
  exact ⟨h.cells, h.row, hL, h.data, h.or, h.ov, h.ob, h.olt, ok⟩

theorem RefCore.at (h : RefCore w r v L own room fuse) {g : Nat} (hg : v.ownBlock = some g) {i : Nat} {x : RFile} (hx : L[i]? = some x) : w.cell? ⟨g, i * 3, none⟩ = some (encStr x.n) ∧ w.cell? ⟨g, i * 3 + 1, none⟩ = some x.b ∧ w.cell? ⟨g, i * 3 + 2, none⟩ = some (.int .i64 (x.f.lasts : Int)) := by
  have hc := h.row.cells hg
  refine ⟨?_, ?_, ?_⟩
  · have := hc (i * 3 + 0) (encStr x.n) ((cells_at L i x hx 0 (by omega)).trans rfl)
    rwa [add_zero] at this
  · have := hc (i * 3 + 1) x.b ((cells_at L i x hx 1 (by omega)).trans rfl)
    rwa [add_zero] at this
  · have := hc (i * 3 + 2) _ ((cells_at L i x hx 2 (by omega)).trans rfl)
    rwa [add_zero] at this

theorem mem_set {α : Type} {L : List α} {i : Nat} {x' y : α} (h : y ∈ L.set i x') : y ∈ L ∨ y = x' := List.mem_or_eq_of_mem_set h

/-- A cell of a file is written. -/
theorem RefCore.store (h : RefCore w r v L own room fuse) {g : Nat} (hg : v.ownBlock = some g) {i : Nat} {x : RFile} (hx : L[i]? = some x) (j : Nat) (hj : j < 3) (u : Value) (x' : RFile) (hc : x'.cells = x.cells.set j u)
    {own' : Nat → Prop} (hown : ∀ k, own k → own' k) (hd : OwnB w 5 x'.b x'.f.data) (hb : ∀ k, x'.b.ownBlock = some k → own' k ∧ k ≠ r ∧ k ≠ g) (holt : ∀ k, own' k → k < w.heap.size) :
    RefCore (w.setCell ⟨g, i * 3 + j, none⟩ u) r v (L.set i x') own' room fuse where
  cells := (set_other u (h.ov g hg).2.symm).trans h.cells
  row := by
    rw [List.length_set, ← cells_set L i x x' hx j hj u hc]
    exact h.row.set hg _ _
  data := fun y hy => by
    rcases mem_set hy with hy | rfl
    · exact OwnR.keep (h.data y hy) fun k hk => set_other u (fun e => (h.ob y hy k hk).2.2 (by rw [hg]; exact congrArg some e.symm))
    · exact OwnR.keep hd fun k hk => set_other u (hb k hk).2.2
  or := hown r h.or
  ov := fun k hk => ⟨hown k (h.ov k hk).1, (h.ov k hk).2⟩
  ob := fun y hy k hk => by
    rcases mem_set hy with hy | rfl
    · exact ⟨hown k (h.ob y hy k hk).1, (h.ob y hy k hk).2⟩
    · exact ⟨(hb k hk).1, (hb k hk).2.1, fun e => (hb k hk).2.2 (Option.some.inj (e.symm.trans hg))⟩
  olt := fun k hk => by
    have := holt k hk
    simpa [World.setCell] using this

theorem RefCore.free (h : RefCore w r v L own room fuse) {g : Nat} (hg : v.ownBlock = some g) (j : Nat) : w.frozen? ⟨g, j, none⟩ = false := by
  rcases h.row.2 with ⟨rfl, _⟩ | ⟨g', cap, cur, rfl, hgg, _⟩
  · cases hg
  · cases hg
    exact frozen_of hgg j

/-- What a thing that is done with the document's disk leaves. -/
def RStep (w : World) (r : Nat) (own : Nat → Prop) (R : DiskM × Nat) (e : Ending) (w' : World) : Prop :=
  e = .returned (.int .i64 (R.2 : Int)) ∧ ∃ own', RefAt w' r R.1 own' ∧ Chg own w w' ∧ ∀ k, own' k → own k ∨ w.heap.size ≤ k

theorem RefIn.below (h : RefIn w r v L own D) {w' : World} (hb : Below w.heap.size w w') : RefIn w' r v L own D := h.keep hb.size fun k hk => hb.block k (h.olt k hk)

theorem chg_below {w' w'' : World} (hb : Below w.heap.size w w') (hc : Chg own w' w'') : Chg own w w'' :=
  ((Chg.of_below hb).mono fun _ _ h => h.elim).trans hc fun _ _ h => h

/-- Nothing was done. -/
theorem rstep_same (h : RefIn w r v L own D) {w' : World} (hb : Below w.heap.size w w') (k : Nat) : RStep w r own (D, k) (.returned (.int .i64 (k : Int))) w' :=
  ⟨rfl, own, ⟨v, L, h.below hb⟩, (Chg.of_below hb).mono fun _ _ h => h.elim, fun _ h => .inl h⟩

theorem below_names (w : World) (o : Obj) (q : Nat) : Below w.heap.size w ((w.alloc o).drewN q) := ((Below.refl _ _).alloc (Nat.le_refl _) o).trans ⟨rfl, rfl, rfl, Nat.le_refl _, fun _ _ => rfl⟩

theorem may_fuse {ns : List Bs} (h : D.may ns = 0) : D.fuse ≠ some 0 := fun e => by
  unfold DiskM.may at h
  rw [if_pos e] at h
  cases h

/-- The fuse burns on behind what was done. -/
theorem rstep_did {D1 : DiskM} {v' : Value} {L' : List RFile} {own' : Nat → Prop} {w1 w2 : World} {e : Ending} (hc : Chg own w w1) (hx : ∀ k, own' k → own k ∨ w.heap.size ≤ k) (_ho : w.heap.size ≤ w1.heap.size)
    (h : e = .returned (.int .i64 0) ∧ RefIn w2 r v' L' own' D1.done ∧ Chg own' w1 w2) : RStep w r own (D1.done, 0) e w2 := by
  obtain ⟨rfl, h2, hc2⟩ := h
  refine ⟨rfl, own', ⟨v', L', h2⟩, hc.trans hc2 fun k hk hT => ?_, hx⟩
  rcases hx k hT with h | h
  · exact h
  · omega

theorem map_set_key (L : List RFile) (i : Nat) (x : RFile) : (L.set i x).map RFile.key = (L.map RFile.key).set i x.key := List.map_set ..

theorem RefIn.put (h : RefIn w r v L own D) {n : Bs} {f : FileM} (hg : Sat.get n D.files = some f) (x' : RFile) (hn : x'.n = n) : put n x'.f D.files = (L.set (spotN n (L.map RFile.n)) x').map RFile.key := by
  have h1 : isAt n (D.files.map (·.1)) = true := by rw [(spot_get n h.ok.srt).1, hg]; rfl
  rw [put_at n x'.f h.ok.srt h1, map_set_key, ← h.files, h.names]
  unfold RFile.key
  rw [hn]

set_option maxRecDepth 100000 in
set_option maxHeartbeats 2000000 in
theorem rsync_calls (h : RefIn w r v L own D) (s : ByteArray) (hs : s.size ≤ 9223372036854775807) :
    Calls Tryz.prog 91 #[.pointer (some ⟨r, 0, none⟩), .string s] w (RStep w r own (D.sync [nm s])) := by
  have h1 : RefIn (w.alloc (.cells #[.string s] 9)) r v L own D := h.below ((Below.refl _ _).alloc (Nat.le_refl _) _)
  have hmay := rmay_calls h1 (some ⟨w.heap.size, 0, none⟩) [s] 1 (strs_one w s) (by simp) (by simpa using hs)
  simp only [List.map_cons, List.map_nil] at hmay
  unfold DiskM.sync
  rw [each_one]
  by_cases hm : D.may [nm s] = 0
  · have hsp := spot_calls h1 s
    rw [h.is] at hsp
    rw [hm] at hmay
    cases hg : Sat.get (nm s) D.files with
    | none =>
      rw [hg] at hsp
      have hR : DiskM.each1 DiskM.gSync D (nm s) = (D, 7) := by unfold DiskM.each1; rw [if_neg (by rw [hm]; simp), hg]
      rw [hR]
      have Hf := Lib.hid (fun q => rstep_same h (below_names w (.cells #[.string s] 9) q) 7)
      have Hmay := Lib.hid hmay
      have Hsp := Lib.hid hsp
      clear h h1 hmay hsp hm hR hg
      go_enter Tryz.func91, Tryz.ntmps91
      go_wp2_with fail
      refine Hmay.out.mono ?_
      rintro e w2 ⟨rfl, rfl⟩
      go_wp2_with fail
      refine Hsp.out.mono ?_
      rintro e w3 ⟨rfl, q, rfl⟩
      go_wp2_with fail
      go_ret
      exact Hf.out q
    | some f =>
      rw [hg] at hsp
      obtain ⟨x, hx, hxn, rfl⟩ := h.hit hg
      have hlm := h.len_le hx
      have hput := h.put hg ⟨x.n, x.b, ⟨x.f.data, x.f.data.length⟩⟩ hxn
      have hxm := List.mem_of_getElem? hx
      have hN : spotN (nm s) (L.map RFile.n) < L.length := (List.getElem?_eq_some_iff.1 hx).1
      have hR : DiskM.each1 DiskM.gSync D (nm s) = (DiskM.done { D with files := DiskM.gSync (nm s) x.f D.files }, 0) := by unfold DiskM.each1; rw [if_neg (by rw [hm]; simp), hg]
      rw [hR]
      have hok := ok_sync h.ok hg
      generalize spotN (nm s) (L.map RFile.n) = i at *
      have hFin : ∀ W g, Below w.heap.size w W → v.ownBlock = some g → RefIn (W.setCell ⟨g, i * 3 + 2, none⟩ (.int .i64 (x.f.data.length : Int))) r v (L.set i ⟨x.n, x.b, ⟨x.f.data, x.f.data.length⟩⟩) own { D with files := DiskM.gSync (nm s) x.f D.files } := fun W g hbW hgv => by
        have hW := (h.below hbW).core
        exact (hW.store hgv hx 2 (by omega) _ ⟨x.n, x.b, ⟨x.f.data, x.f.data.length⟩⟩ rfl (fun _ h => h) (hW.data x hxm) (fun k hk => ⟨(h.ob x hxm k hk).1, (h.ob x hxm k hk).2.1, fun e => (h.ob x hxm k hk).2.2 (by rw [hgv, e])⟩) hW.olt).full rfl rfl hput hok
      have hCh : ∀ W g, Below w.heap.size w W → v.ownBlock = some g → Chg own w (W.setCell ⟨g, i * 3 + 2, none⟩ (.int .i64 (x.f.data.length : Int))) := fun W g hbW hgv => chg_below hbW (chg_own (h.ov g hgv).1)
      rcases h.at with h0 | ⟨g, c0, rfl, hlc, -⟩
      · rw [h0] at hN
        simp at hN
      have hDid := fun W hbW => rdid_calls (hFin W g hbW rfl) (may_fuse hm)
      have hCh' := fun W hbW => hCh W g hbW rfl
      have hcell : ∀ W, Below w.heap.size w W → (W.cell? ⟨r, 1, none⟩ = some (.slice (some ⟨g, 0, none⟩) L.length c0) ∧ W.cell? ⟨g, i * 3 + 1, none⟩ = some x.b ∧ W.cell? ⟨g, i * 3 + 2, none⟩ = some (.int .i64 (x.f.lasts : Int)) ∧ W.frozen? ⟨g, i * 3 + 2, none⟩ = false) := fun W hbW => by
        have hW := h.below hbW
        exact ⟨hW.c1, (hW.core.at rfl hx).2.1, (hW.core.at rfl hx).2.2, hW.core.free rfl _⟩
      obtain ⟨pb, cb, eb⟩ := HasB.slice (h.data x hxm).has
      rw [eb] at hcell
      generalize x.f.data.length = m at *
      have HDid := Lib.hid (And.intro hDid hCh')
      have Hcell := Lib.hid hcell
      have Hmay := Lib.hid hmay
      have Hsp := Lib.hid hsp
      clear h h1 hmay hsp hm hR hg hput hok hFin hCh hDid hCh' hcell hx hxm eb
      go_enter Tryz.func91, Tryz.ntmps91
      go_wp2_with fail
      refine Hmay.out.mono ?_
      rintro e w2 ⟨rfl, rfl⟩
      go_wp2_with fail
      refine Hsp.out.mono ?_
      rintro e w3 ⟨rfl, q, rfl⟩
      have HbW := Lib.hid (below_names w (.cells #[.string s] 9) q)
      generalize (w.alloc (.cells #[.string s] 9)).drewN q = W at *
      obtain ⟨hc1, hc2, hc3, hfz⟩ := Hcell.out W HbW.out
      go_wp2_with fail
      go_still_tail 14, (by kernel_rfl)
      change wpList _ _ _ _ _ W.drew
      have hbD : Below w.heap.size w W.drew := HbW.out.trans ⟨rfl, rfl, rfl, Nat.le_refl _, fun _ _ => rfl⟩
      obtain ⟨hc1, hc2, hc3, hfz⟩ := Hcell.out _ hbD
      have Hdid := Lib.hid (HDid.out.1 _ hbD)
      have Hch := Lib.hid (HDid.out.2 _ hbD)
      clear Hcell HDid hbD
      generalize W.drew = Wd at *
      go_wp2_with fail
      refine Hdid.out.mono ?_
      intro e w4 h4
      have hE := rstep_did Hch.out (fun _ h => .inl h) Hch.out.size h4
      obtain ⟨rfl, -⟩ := h4
      have HE := Lib.hid hE
      clear hE
      go_wp2_with fail
      go_ret
      exact HE.out
  · have hR : DiskM.each1 DiskM.gSync D (nm s) = (D, D.may [nm s]) := by unfold DiskM.each1; rw [if_pos hm]
    rw [hR]
    have Hf := Lib.hid (rstep_same h ((Below.refl _ _).alloc (Nat.le_refl _) (.cells #[.string s] 9)) (D.may [nm s]))
    have Hmay := Lib.hid hmay
    generalize D.may [nm s] = m at *
    have hne : ((m : Int) != 0) = true := by simp; omega
    clear h h1 hmay hR
    go_enter Tryz.func91, Tryz.ntmps91
    go_wp2_with fail
    refine Hmay.out.mono ?_
    rintro e w2 ⟨rfl, rfl⟩
    go_wp2_with fail
    go_ret
    exact Hf.out
end
end Go.Proofs.YtapfnehdgailmaaGreat
