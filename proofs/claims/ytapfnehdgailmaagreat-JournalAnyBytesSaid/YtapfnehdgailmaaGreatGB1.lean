/- journal: Open. (Printed by mkj26.py.) satrapylaw5: pair.open, start. satrapylaw5.known: the walk. -/
import Derived.Test.YtapfnehdgailmaaGreatGA1
import Derived.Test.YtapfnehdgailmaaGreatGG
import Derived.Test.YtapfnehdgailmaaGreatGH
import Derived.Test.YtapfnehdgailmaaGreatGK
import Derived.Test.YtapfnehdgailmaaGreatGM
import Derived.Test.YtapfnehdgailmaaGreatGU
import Derived.Test.YtapfnehdgailmaaGreatGZ
set_option maxRecDepth 100000
set_option maxHeartbeats 64000000
namespace Go.Proofs.YtapfnehdgailmaaGreat
open Go.RowKit Go.Sat Go.Maps
section
variable {w w1 w2:World} {j d:Nat} {pre:ByteArray} {D:zAB} {M:JouM} {F F2:Nat→Prop}
theorem zBl {D':zAB} {M':JouM} {k:Nat} {r:zAB × Nat × JouM} (h:St w w2 d D' F) (hs:Same F w1 w2) (hr:r=(D',k,M')) (hk:k≠0):OpenJTold w w1 d pre F r (.returned (.tuple #[.pointer none,.int .i64 (k:Int)])) w2:=by
 subst hr
 exact ⟨h,hs,.inr ⟨hk,rfl⟩⟩
theorem zDq {D':zAB} {M':JouM} {r:zAB × Nat × JouM} (h:JouF w w2 j d pre D' M' F) (hs:Same F w1 w2) (hr:r=(D',0,M')):OpenJTold w w1 d pre F r (.returned (.tuple #[.pointer (some ⟨j,0,none⟩),.int .i64 0])) w2:=by
 subst hr
 exact ⟨h.stF,hs,.inl ⟨rfl,j,rfl,h⟩⟩
theorem jou_data (h:JouF w w1 j d pre D M F) {dv:Value} {b:Bs} (hd:OwnB w1 5 dv b) (hF:∀ k,dv.ownBlock=some k→F k∧w.heap.size≤k) (hF2:∀ k,F2 k→F k∧dv.ownBlock≠some k) (hb:b.length≤1073741824) :
  JouF w (w1.setCell ⟨j,7,none⟩ dv) j d pre D { M with data:=b } F2∧Same F2 w1 (w1.setCell ⟨j,7,none⟩ dv):=by
 obtain ⟨own,gv,dv0,ev,vs,hJ,hS,hn,hl⟩:=h
 have hnd:∀ k,dv.ownBlock=some k→¬ own k:=fun k hk ho=>(hn k ho).2 (hF k hk).1
 have hs:∀ k,k≠j→(w1.setCell ⟨j,7,none⟩ dv).heap[k]?=w1.heap[k]?:=fun k hk=>set_other _ hk
 have hdj:∀ k,dv.ownBlock=some k→k≠j:=fun k hk e=>hnd k hk (e ▸ hJ.ol)
 refine JouF.turned2 (M':={ M with data:=b }) (own':=fun k=>own k∨dv.ownBlock=some k) (gv':=gv) (dv':=dv) (ev':=ev) (vs':=vs) hS hn hl ⟨?_,OwnR.keep hJ.group fun k hk=>hs k (hJ.og k hk).2.1,OwnR.keep hd fun k hk=>hs k (hdj k hk),hJ.row.keep fun k hk=>hs k (hJ.oe k hk).2,⟨hJ.rows.1,fun i e v h1 h2=>(hJ.rows.2 i e v h1 h2).keep fun k hk=>hs k (hJ.ov v (List.mem_of_getElem? h2) k hk).2.1⟩,.inl hJ.ol,fun k hk=>⟨.inl (hJ.og k hk).1,(hJ.og k hk).2⟩,fun k hk=>⟨.inr hk,hdj k hk,fun e=>hnd k hk (hJ.oe k e).1⟩,fun k hk=>⟨.inl (hJ.oe k hk).1,(hJ.oe k hk).2⟩,fun u hu k hk=>⟨.inl (hJ.ov u hu k hk).1,(hJ.ov u hu k hk).2⟩,fun k hk=>?_,hJ.psz,⟨hJ.ok.last,hJ.ok.term,hJ.ok.group,hJ.ok.now,hJ.ok.vote,hb,hJ.ok.ents⟩⟩ ((Chg.setCell w1 ⟨j,7,none⟩ dv).mono fun x _ e=>by rw [e];exact hJ.ol) (fun k hk=>?_) fun k hk=>⟨(hF2 k hk).1,fun ho=>?_⟩
 ·have h1:=zAE hJ.cells 7 dv
  simpa using h1
 ·have:k < w1.heap.size:=hk.elim (hJ.olt k) fun h=>OwnR.lt hd h
  simpa [World.setCell] using this
 ·exact hk.imp id fun h=>.inr (hF k h)
 ·rcases ho with ho | ho
  ·exact (hn k ho).2 (hF2 k hk).1
  ·exact (hF2 k hk).2 ho
theorem zCo (h:St w w1 d D F) (hroom:D.room≤1048576) (pre:ByteArray) {nodes:List Int} {pn:Option Addr} {nn cn:Nat} (hx:HasI w1 (.slice pn nn cn) nodes) (hnl:nodes.length≤1099511627776) :
  Calls Tryz.prog 17 #[.pointer (some ⟨d,0,none⟩),.string pre,.slice pn nn cn] w1 (OpenJTold w w1 d pre F (zAS D (nm pre) nodes)):=by
 have hsz:(nm pre).length=pre.size:=nm_len pre
 have Hgr:=zh (zEJ hx hnl)
 by_cases hp:pre.size < 1∨20 < pre.size
 ·have HE:=zh (zBl (pre:=pre) (k:=1) h (fun _ _=>rfl) (oj_arg (pre:=nm pre) (nodes:=nodes) (by rw [hsz];exact hp.elim .inl fun h=>.inr (.inl h))) (by decide))
  clear h hsz hx
  generalize hzz:pre.size=z at *
  by_cases hz:z < 1
  ·have hz0:z=0:=by omega
   subst hz0
   go_enter Tryz.func17,Tryz.ntmps17
   go_wp2_with fail
   go_ret2
   exact HE.out
  ·have hz6:20 < z:=by omega
   go_enter Tryz.func17,Tryz.ntmps17
   go_wp2_with fail
   go_ret2
   exact HE.out
 ·cases hgg:zAW nodes with
  | false =>
   rw [hgg] at Hgr
   have HE:=zh (zBl (pre:=pre) (k:=1) h (fun _ _=>rfl) (oj_arg (pre:=nm pre) (nodes:=nodes) (.inr (.inr hgg))) (by decide))
   clear h hsz hx hgg
   generalize hzz:pre.size=z at *
   go_enter Tryz.func17,Tryz.ntmps17
   go_wp2_with fail
   refine Hgr.out.mono ?_
   rintro e w2 ⟨rfl,rfl⟩
   go_wp2_with fail
   go_ret2
   exact HE.out
  | true =>
   rw [hgg] at Hgr
   have hps:1≤pre.size∧pre.size≤20:=by omega
   have hok:¬ ((nm pre).length < 1∨20 < (nm pre).length∨zAW nodes=false):=by
    rw [hsz]
    rintro (h | h | h)
    ·omega
    ·omega
    ·rw [hgg] at h
     cases h
   obtain ⟨O⟩:=zEo D (nm pre) nodes
   have hrm1:=zEu D (zAH (logN (nm pre)))
   rw [O.h1] at hrm1
   have hrm2:=zEu O.D1 (zAH (snpN (nm pre)))
   rw [O.h2] at hrm2
   have Hrm:=zh (show O.D2.room≤1048576 by have h1:O.D1.room=D.room:=hrm1;have h2:O.D2.room=O.D1.room:=hrm2;omega)
   have Hh1:=zh O.h1
   have Hh2:=zh O.h2
   have Hhs:=zh O.hs
   have Hhl:=zh O.hl
   have HE1:=zh (oj_e1 O hok)
   have HE2:=zh (oj_e2 O hok)
   have HE3:=zh (oj_e3 O hok)
   have HE4:=zh (oj_e4 O hok)
   have HNo:=zh (oj_no O hok)
   have HKp:=zh (fun M=>oj_keep O hok (M:=M))
   have HAn:=zh (fun M=>oj_anew O hok (M:=M))
   clear hrm1 hrm2
   generalize O.D1=D1 at *
   generalize O.e1=e1 at *
   generalize O.D2=D2 at *
   generalize O.e2=e2 at *
   generalize O.s=sn at *
   generalize O.l=li at *
   clear O
   obtain ⟨ks,so⟩:=sn
   obtain ⟨D3,e3,a3,M3⟩:=li
   have HE3:=zh (show e1=0→e2=0→ks≠0→zAS D (nm pre) nodes=(D2,ks,JouM.none0 nodes) from HE3.out)
   have HE4:=zh (show e1=0→e2=0→ks=0→e3≠0→zAS D (nm pre) nodes=(D3,e3,JouM.none0 nodes) from HE4.out)
   have HNo:=zh (show e1=0→e2=0→ks=0→e3=0→zAd so M3 a3=none→zAS D (nm pre) nodes=(D3,3,JouM.none0 nodes) from HNo.out)
   have HKp:=zh (show ∀ M,e1=0→e2=0→ks=0→e3=0→zAd so M3 a3=some (false,M)→zAS D (nm pre) nodes=(D3,0,M) from HKp.out)
   have HAn:=zh (show ∀ M,e1=0→e2=0→ks=0→e3=0→zAd so M3 a3=some (true,M)→zAS D (nm pre) nodes=((zAR D3 (nm pre) M).1,(zAR D3 (nm pre) M).2,M) from HAn.out)
   have Hcl:=zh (zDo hx hnl)
   have HS:=zh h
   have hpz1:=hps.1
   have hpz2:=hps.2
   have hsl:(sLog pre).size=pre.size+4:=zEC pre
   have hssn:(sSnp pre).size=pre.size+5:=size_snp pre
   have Hgg:=zh hgg
   have i0:∀ (W:World) (a b:ByteArray),(Instr.index 133 (.agg #[.string a,.string b]) (.int .i64 0)).run Tryz.prog W=.ok (.string a) W:=fun _ _ _=>by kernel_rfl
   have i1:∀ (W:World) (a b:ByteArray),(Instr.index 133 (.agg #[.string a,.string b]) (.int .i64 1)).run Tryz.prog W=.ok (.string b) W:=fun _ _ _=>by kernel_rfl
   clear h hsz hx hgg hok hp
   go_enter Tryz.func17,Tryz.ntmps17
   go_wp2_with fail
   refine Hgr.out.mono ?_
   rintro e w2 ⟨rfl,rfl⟩
   go_wp2_with fail
   refine Hcl.out.mono ?_
   rintro e w3 ⟨gv,rfl,hgv,hgn,hb3⟩
   obtain ⟨pg,cg,rfl,-⟩:=zAl hgv
   have HJ0:=zh (jou_fresh (F:=F) (HS.out.move (F':=fun k=>F k∨(Value.slice pg nodes.length cg).ownBlock=some k) (Chg.of_below hb3) (fun _ _ h=>h.elim) fun k hk=>hk.elim (fun h=>⟨.inl h,Nat.lt_of_lt_of_le (HS.out.flt h) hb3.size⟩) fun h=>⟨.inr (hgn k h),OwnR.lt hgv h⟩) pre hps Hgg.out hgv fun k hk=>⟨Nat.le_trans HS.out.below.size (hgn k hk),fun hf=>by have h1:=HS.out.flt hf;have h2:=hgn k hk;omega⟩)
   have HS0:=zh (show Same F w2 (w3.alloc (.cells #[.int .i64 0,.int .i64 0,.slice pg nodes.length cg,.pointer (some ⟨d,0,none⟩),.string pre,.int .i64 0,.int .i64 (-1),.slice none 0 0,.slice none 0 0,.bool false] 132)) from fun k hk=>((zAD w3 (.cells #[.int .i64 0,.int .i64 0,.slice pg nodes.length cg,.pointer (some ⟨d,0,none⟩),.string pre,.int .i64 0,.int .i64 (-1),.slice none 0 0,.slice none 0 0,.bool false] 132)).block k (Nat.lt_of_lt_of_le (HS.out.flt hk) hb3.size)).trans (hb3.block k (HS.out.flt hk)))
   clear hgv hgn hb3 Hcl Hgr HS
   generalize hw1:w2=w1 at *
   clear hw1
   go_wp2_with fail
   generalize w3.heap.size=j at *
   generalize w3.alloc (.cells #[.int .i64 0,.int .i64 0,.slice pg nodes.length cg,.pointer (some ⟨d,0,none⟩),.string pre,.int .i64 0,.int .i64 (-1),.slice none 0 0,.slice none 0 0,.bool false] 132)=W0 at *
   go_loopw [51] (fun x wr=>Same F w1 wr∧((x=.int .i64 0∧JouF w wr j d pre D (JouM.none0 nodes) F)∨(x=.int .i64 1∧e1=0∧JouF w wr j d pre D1 (JouM.none0 nodes) F)∨(x=.int .i64 2∧e1=0∧e2=0∧JouF w wr j d pre D2 (JouM.none0 nodes) F))) (fun i _=>2 - (intOf i).toNat)
   case atStart=>exact ⟨HS0.out,.inl ⟨rfl,HJ0.out⟩⟩
   case round =>
    clear HJ0 HS0
    obtain ⟨hsm,hx⟩:=hrel
    rcases hx with ⟨rfl,hJ⟩ | ⟨rfl,he1,hJ⟩ | ⟨rfl,he1,he2,hJ⟩
    ·have Hrd:=zh (jou_read hJ (zA2 (sLog pre)) (by rw [zBn,hsl];omega))
     rw [zDf,zBf] at Hrd
     have HJw:=zh hJ
     have HSw:=zh hsm
     cases hg:Sat.get (zAH (logN (nm pre))) D.files with
     | none =>
      have hr:D.rid1 (zAH (logN (nm pre)))=(D,0):=by unfold zAB.rid1;rw [hg];rfl
      have hr2:=Hh1.out
      rw [hr] at hr2
      have hr3:D=D1:=congrArg Prod.fst hr2
      have hr4:0=e1:=congrArg Prod.snd hr2
      have hr7:zCq (none:Option zAV)=7:=rfl
      rw [hg,hr7] at Hrd
      have He0:=zh (show e1=0 from hr4.symm)
      have HJn:=zh (show JouF w wr j d pre D1 (JouM.none0 nodes) F from hr3 ▸ HJw.out)
      clear hJ hsm hg hr hr2 hr3 hr4 hr7
      go_wp2_with fail
      refine Hrd.out.mono ?_
      rintro e w3 ⟨v3,rfl,-,-,hb3⟩
      have HE:=zh (And.intro (HSw.out.trans (HJw.out.same hb3)) (HJn.out.next hb3))
      clear hb3 Hrd
      go_wp2_with fail
      go_roundw
      case rel=>first | exact ⟨HE.out.1,.inr (.inl ⟨rfl,He0.out,HE.out.2⟩)⟩ | ((repeat apply Exists.intro);exact ⟨⟨HE.out.1,.inr (.inl ⟨rfl,He0.out,HE.out.2⟩)⟩,rfl⟩)
      case measure=>simp [intOf]
     | some f =>
      have hr:D.remove [zAH (logN (nm pre))]=(D1,e1):=by
       have:=Hh1.out
       unfold zAB.rid1 at this
       rw [hg] at this
       exact this
      have hr0:zCq (some f)=0:=rfl
      rw [hg,hr0] at Hrd
      have Hrm:=zh (fun W (h:JouF w W j d pre D (JouM.none0 nodes) F)=>show Calls Tryz.prog 76 #[.pointer (some ⟨d,0,none⟩),.slice (some ⟨W.heap.size,0,none⟩) 1 1] (W.alloc (.cells #[.string (zA2 (sLog pre))] 9)) fun e w'=>e=.returned (.int .i64 (e1:Int))∧JouF w w' j d pre D1 (JouM.none0 nodes) F∧Same F W w'∧w'.heap[j]?=W.heap[j]? from by
       have:=jou_remove h (zA2 (sLog pre)) (by rw [zBn,hsl];omega)
       rwa [zDf,zBf,hr] at this)
      clear hJ hsm hg hr hr0
      by_cases he:e1=0
      ·have He0:=zh he
       rw [he] at Hrm
       clear he
       go_wp2_with fail
       refine Hrd.out.mono ?_
       rintro e w3 ⟨v3,rfl,-,-,hb3⟩
       have HJ3:=zh (HJw.out.next hb3)
       have HS3:=zh (HSw.out.trans (HJw.out.same hb3))
       clear hb3 Hrd
       go_wp2_with fail
       refine (Hrm.out w3 HJ3.out).mono ?_
       rintro e w4 ⟨rfl,hj4,hs4,-⟩
       have HE:=zh (And.intro (HS3.out.trans hs4) hj4)
       clear hj4 hs4 Hrm
       go_wp2_with fail
       go_roundw
       case rel=>first | exact ⟨HE.out.1,.inr (.inl ⟨rfl,He0.out,HE.out.2⟩)⟩ | ((repeat apply Exists.intro);exact ⟨⟨HE.out.1,.inr (.inl ⟨rfl,He0.out,HE.out.2⟩)⟩,rfl⟩)
       case measure=>simp [intOf]
      ·have hne:((e1:Int) != 0)=true:=by simp;omega
       have HR:=zh (HE1.out he)
       have He:=zh he
       clear he
       go_wp2_with fail
       refine Hrd.out.mono ?_
       rintro e w3 ⟨v3,rfl,-,-,hb3⟩
       have HJ3:=zh (HJw.out.next hb3)
       have HS3:=zh (HSw.out.trans (HJw.out.same hb3))
       clear hb3 Hrd
       go_wp2_with fail
       refine (Hrm.out w3 HJ3.out).mono ?_
       rintro e w4 ⟨rfl,hj4,hs4,-⟩
       have HE:=zh (zBl (pre:=pre) (w1:=w1) hj4.stF (HS3.out.trans hs4) HR.out He.out)
       clear hj4 hs4 Hrm
       go_wp2_with fail
       go_ret2
       exact HE.out
    ·have He1:=zh he1
     clear he1
     have Hrd:=zh (jou_read hJ (zA2 (sSnp pre)) (by rw [zBn,hssn];omega))
     rw [zDf,nm_snp] at Hrd
     have HJw:=zh hJ
     have HSw:=zh hsm
     cases hg:Sat.get (zAH (snpN (nm pre))) D1.files with
     | none =>
      have hr:D1.rid1 (zAH (snpN (nm pre)))=(D1,0):=by unfold zAB.rid1;rw [hg];rfl
      have hr2:=Hh2.out
      rw [hr] at hr2
      have hr3:D1=D2:=congrArg Prod.fst hr2
      have hr4:0=e2:=congrArg Prod.snd hr2
      have hr7:zCq (none:Option zAV)=7:=rfl
      rw [hg,hr7] at Hrd
      have He0:=zh (show e2=0 from hr4.symm)
      have HJn:=zh (show JouF w wr j d pre D2 (JouM.none0 nodes) F from hr3 ▸ HJw.out)
      clear hJ hsm hg hr hr2 hr3 hr4 hr7
      go_wp2_with fail
      refine Hrd.out.mono ?_
      rintro e w3 ⟨v3,rfl,-,-,hb3⟩
      have HE:=zh (And.intro (HSw.out.trans (HJw.out.same hb3)) (HJn.out.next hb3))
      clear hb3 Hrd
      go_wp2_with fail
      go_roundw
      case rel=>first | exact ⟨HE.out.1,.inr (.inr ⟨rfl,He1.out,He0.out,HE.out.2⟩)⟩ | ((repeat apply Exists.intro);exact ⟨⟨HE.out.1,.inr (.inr ⟨rfl,He1.out,He0.out,HE.out.2⟩)⟩,rfl⟩)
      case measure=>simp [intOf]
     | some f =>
      have hr:D1.remove [zAH (snpN (nm pre))]=(D2,e2):=by
       have:=Hh2.out
       unfold zAB.rid1 at this
       rw [hg] at this
       exact this
      have hr0:zCq (some f)=0:=rfl
      rw [hg,hr0] at Hrd
      have Hrm:=zh (fun W (h:JouF w W j d pre D1 (JouM.none0 nodes) F)=>show Calls Tryz.prog 76 #[.pointer (some ⟨d,0,none⟩),.slice (some ⟨W.heap.size,0,none⟩) 1 1] (W.alloc (.cells #[.string (zA2 (sSnp pre))] 9)) fun e w'=>e=.returned (.int .i64 (e2:Int))∧JouF w w' j d pre D2 (JouM.none0 nodes) F∧Same F W w'∧w'.heap[j]?=W.heap[j]? from by
       have:=jou_remove h (zA2 (sSnp pre)) (by rw [zBn,hssn];omega)
       rwa [zDf,nm_snp,hr] at this)
      clear hJ hsm hg hr hr0
      by_cases he:e2=0
      ·have He0:=zh he
       rw [he] at Hrm
       clear he
       go_wp2_with fail
       refine Hrd.out.mono ?_
       rintro e w3 ⟨v3,rfl,-,-,hb3⟩
       have HJ3:=zh (HJw.out.next hb3)
       have HS3:=zh (HSw.out.trans (HJw.out.same hb3))
       clear hb3 Hrd
       go_wp2_with fail
       refine (Hrm.out w3 HJ3.out).mono ?_
       rintro e w4 ⟨rfl,hj4,hs4,-⟩
       have HE:=zh (And.intro (HS3.out.trans hs4) hj4)
       clear hj4 hs4 Hrm
       go_wp2_with fail
       go_roundw
       case rel=>first | exact ⟨HE.out.1,.inr (.inr ⟨rfl,He1.out,He0.out,HE.out.2⟩)⟩ | ((repeat apply Exists.intro);exact ⟨⟨HE.out.1,.inr (.inr ⟨rfl,He1.out,He0.out,HE.out.2⟩)⟩,rfl⟩)
       case measure=>simp [intOf]
      ·have hne:((e2:Int) != 0)=true:=by simp;omega
       have HR:=zh (HE2.out He1.out he)
       have He:=zh he
       clear he
       go_wp2_with fail
       refine Hrd.out.mono ?_
       rintro e w3 ⟨v3,rfl,-,-,hb3⟩
       have HJ3:=zh (HJw.out.next hb3)
       have HS3:=zh (HSw.out.trans (HJw.out.same hb3))
       clear hb3 Hrd
       go_wp2_with fail
       refine (Hrm.out w3 HJ3.out).mono ?_
       rintro e w4 ⟨rfl,hj4,hs4,-⟩
       have HE:=zh (zBl (pre:=pre) (w1:=w1) hj4.stF (HS3.out.trans hs4) HR.out He.out)
       clear hj4 hs4 Hrm
       go_wp2_with fail
       go_ret2
       exact HE.out
    ·have He1:=zh he1
     have He2:=zh he2
     have HJ2:=zh hJ
     have HS2:=zh hsm
     have Hsn:=zh (rsnap_calls hJ)
     rw [Hhs.out] at Hsn
     have Hlen:=zh (fun (h3:e3=0)=>zBq hJ.okD Hrm.out (show (JouM.none0 nodes).entries=[] from rfl) (Hhl.out.trans (by rw [h3])))
     clear he1 he2 hJ hsm
     go_wp2_with fail
     refine Hsn.out.mono ?_
     intro e w4 hT
     obtain ⟨hb4,n,t,gp,gn,gc,dv,rfl,hsn⟩:=hT
     have HJ4:=zh (HJ2.out.next hb4)
     have HS4:=zh (HS2.out.trans (HJ2.out.same hb4))
     have Hb4:=zh hb4
     have Hsn4:=zh hsn
     clear hb4 hsn Hsn
     by_cases hks:ks=0
     ·have Hks:=zh hks
      cases so with
      | none =>
       have HRL:=zh (rlog_calls (HJ4.out.box (.cells #[.int .i64 n,.int .i64 t,.slice gp gn gc] 130)) (show (JouM.none0 nodes).entries=[] from rfl))
       rw [Hhl.out] at HRL
       have HSB:=zh (HS4.out.trans (HJ4.out.same (zAD w4 (.cells #[.int .i64 n,.int .i64 t,.slice gp gn gc] 130))))
       have HBX:=zh (zAI w4 (.cells #[.int .i64 n,.int .i64 t,.slice gp gn gc] 130))
       subst hks
       go_wp2_with fail
       generalize w4.alloc (.cells #[.int .i64 n,.int .i64 t,.slice gp gn gc] 130)=w5 at *
       refine HRL.out.mono ?_
       rintro e w6 ⟨rfl,hst6,hs6,hj6⟩
       by_cases he3:e3=0
       ·have He3:=zh he3
        have HJ6:=zh ((hj6 he3).less (F':=F) fun k hk=>.inl hk)
        have HS6:=zh (HSB.out.trans fun k hk=>hs6 k (.inl hk))
        subst he3
        clear hst6 hs6 hj6
        obtain ⟨own,gv,dv0,ev,vs,hJ6,-⟩:=id HJ6.out
        have c0:=hJ6.c 0 rfl
        clear hJ6
        by_cases hn0:0 < M3.number
        ·have HR:=zh (HNo.out He1.out He2.out Hks.out He3.out (show zAd none M3 a3=none from by unfold zAd;exact if_pos hn0))
         have HE:=zh (fun q=>zBl (pre:=pre) (w1:=w1) (HJ6.out.drewN q).stF HS6.out HR.out (by decide))
         have d0:decide ((0:Int) < (M3.number:Int))=true:=by simp;omega
         have d0n:decide (0 < M3.number)=true:=by simp;omega
         clear hn0
         go_wp2_with fail
         go_quiet (fail)
         go_wp2_with fail
         go_quiet (fail)
         go_wp2_with fail
         go_ret2
         exact HE.out _
        ·have HJn:=zh (show zAd none M3 a3=some (a3,M3) from by unfold zAd;exact if_neg hn0)
         have d0:decide ((0:Int) < (M3.number:Int))=false:=by simp;omega
         have d0n:decide (0 < M3.number)=false:=by simp;omega
         clear hn0
         cases a3 with
         | false =>
          have HR:=zh (HKp.out M3 He1.out He2.out Hks.out He3.out HJn.out)
          have HE:=zh (fun q=>zDq (pre:=pre) (w1:=w1) (HJ6.out.drewN q) HS6.out HR.out)
          go_wp2_with fail
          go_quiet (fail)
          go_wp2_with fail
          go_quiet (fail)
          go_wp2_with fail
          go_ret2
          exact HE.out _
         | true =>
          have HR0:=HAn.out M3 He1.out He2.out Hks.out He3.out HJn.out
          go_wp2_with fail
          go_quiet (fail)
          go_wp2_with fail
          go_quiet (fail)
          go_wp2_with fail
          generalize hWQ:(World.drewN _ _)=WQ
          have HJQ:=zh (show JouF w WQ j d pre D3 M3 F from by rw [← hWQ];exact HJ6.out.drewN _)
          have HSQ:=zh (show Same F w1 WQ from by rw [← hWQ];exact HS6.out)
          clear hWQ c0
          cases hwj:zAR D3 (nm pre) M3 with
          | mk D4 e4 =>
           have Hwj:=zh (show Calls Tryz.prog 80 #[.pointer (some ⟨j,0,none⟩)] WQ (zBk w WQ j d pre M3 F (D4,e4)) from by
            have:=zCc HJQ.out (Hlen.out He3.out)
            rwa [hwj] at this)
           have HR:=HR0
           rw [hwj] at HR
           have HR:=zh HR
           clear hwj
           by_cases he4:e4=0
           ·subst he4
            go_wp2_with fail
            refine Hwj.out.mono ?_
            rintro e w9 ⟨rfl,hj9,hs9⟩
            have HE:=zh (zDq (pre:=pre) (w1:=w1) hj9 (HSQ.out.trans hs9) HR.out)
            clear hj9 hs9 Hwj
            go_wp2_with fail
            go_ret2
            exact HE.out
           ·have hne:((e4:Int) != 0)=true:=by simp;omega
            have He4:=zh he4
            clear he4
            go_wp2_with fail
            refine Hwj.out.mono ?_
            rintro e w9 ⟨rfl,hj9,hs9⟩
            have HE:=zh (zBl (pre:=pre) (w1:=w1) (show St w w9 d D4 F from hj9.stF) (HSQ.out.trans hs9) HR.out He4.out)
            clear hj9 hs9 Hwj
            go_wp2_with fail
            go_ret2
            exact HE.out
       ·have hne:((e3:Int) != 0)=true:=by simp;omega
        have HE:=zh (zBl (pre:=pre) (w1:=w1) (hst6.less (F:=F) fun k hk=>.inl hk) (HSB.out.trans fun k hk=>hs6 k (.inl hk)) (HE4.out He1.out He2.out Hks.out he3) he3)
        clear hst6 hs6 hj6 he3
        go_wp2_with fail
        go_ret2
        exact HE.out
      | some s =>
       obtain ⟨rfl,rfl,hog,hod,hnw⟩:=Hsn4.out s rfl
       have hso:=snapOf_ok (o:=Sat.get (snpN (nm pre)) D2.files) (s:=s) (by rw [Hhs.out])
       obtain ⟨pg2,cg2,eg,-⟩:=zAl hog
       simp only [Value.slice.injEq] at eg
       obtain ⟨rfl,rfl,rfl⟩:=eg
       obtain ⟨pd,cd,rfl,-⟩:=zAO hod
       have Hso:=zh hso
       have Hnw:=zh hnw
       have HOG:=zh hog
       have HOD:=zh hod
       have HJG:=zh (show JouF w (w4.alloc (.cells #[.int .i64 (s.number:Int),.int .i64 s.term,.slice gp s.group.length gc] 130)) j d pre D2 (JouM.none0 nodes) (fun k=>F k∨k=w4.heap.size∨((Value.slice gp s.group.length gc).ownBlock=some k∨(Value.slice pd s.data.length cd).ownBlock=some k)) from (HJ2.out.more (Hb4.out.trans ((zAD w4 (.cells #[.int .i64 (s.number:Int),.int .i64 s.term,.slice gp s.group.length gc] 130)).mono Hb4.out.size)) fun k hk=>by
        have hs4:w4.heap.size < (w4.alloc (.cells #[.int .i64 (s.number:Int),.int .i64 s.term,.slice gp s.group.length gc] 130)).heap.size:=by simp
        rcases hk with hk | hk | hk
        ·exact .inl hk
        ·exact .inr ⟨by rw [hk];exact Hb4.out.size,by rw [hk];exact hs4⟩
        ·refine .inr ⟨Hnw.out k hk,Nat.lt_trans ?_ hs4⟩
         exact hk.elim (OwnR.lt HOG.out) (OwnR.lt HOD.out)))
       have HRL:=zh (rlog_calls HJG.out (show (JouM.none0 nodes).entries=[] from rfl))
       rw [Hhl.out] at HRL
       have HSB:=zh (HS4.out.trans (HJ4.out.same (zAD w4 (.cells #[.int .i64 (s.number:Int),.int .i64 s.term,.slice gp s.group.length gc] 130))))
       have HBX:=zh (zAI w4 (.cells #[.int .i64 (s.number:Int),.int .i64 s.term,.slice gp s.group.length gc] 130))
       have HOG2:=zh (zEp HOG.out (zAD w4 (.cells #[.int .i64 (s.number:Int),.int .i64 s.term,.slice gp s.group.length gc] 130)))
       have HOD2:=zh (zBm HOD.out (zAD w4 (.cells #[.int .i64 (s.number:Int),.int .i64 s.term,.slice gp s.group.length gc] 130)))
       have Hwl:=zh (show ∀ k,((Value.slice gp s.group.length gc).ownBlock=some k∨(Value.slice pd s.data.length cd).ownBlock=some k)→w.heap.size≤k∧¬ F k from fun k hk=>⟨Nat.le_trans HJ2.out.bel.size (Hnw.out k hk),fun hf=>by have h1:=HJ2.out.flt hf;have h2:=Hnw.out k hk;omega⟩)
       have Hbl:=zh (show ∀ k,((Value.slice gp s.group.length gc).ownBlock=some k∨(Value.slice pd s.data.length cd).ownBlock=some k)→k≠w4.heap.size from fun k hk e=>by
        have:=hk.elim (OwnR.lt HOG.out) (OwnR.lt HOD.out)
        omega)
       have Hb4F:=zh (show ∀ k,F k→k≠w4.heap.size from fun k hf e=>by have h1:=HJ4.out.flt hf;omega)
       subst hks
       clear hog hod hnw hso Hsn4
       go_wp2_with fail
       generalize w4.heap.size=b4 at *
       generalize w4.alloc (.cells #[.int .i64 (s.number:Int),.int .i64 s.term,.slice gp s.group.length gc] 130)=w5 at *
       refine HRL.out.mono ?_
       rintro e w6 ⟨rfl,hst6,hs6,hj6⟩
       by_cases he3:e3=0
       ·have He3:=zh he3
        have HJ6:=zh (hj6 he3)
        have HS6:=zh (HSB.out.trans fun k hk=>hs6 k (.inl hk))
        have HX6:=zh ((hs6 b4 (.inr (.inl rfl))).trans HBX.out)
        have HOG6:=zh (OwnR.keep HOG2.out fun k hk=>hs6 k (.inr (.inr (.inl hk))))
        have HOD6:=zh (OwnR.keep HOD2.out fun k hk=>hs6 k (.inr (.inr (.inr hk))))
        subst he3
        clear hst6 hs6 hj6
        obtain ⟨own,gv,dv0,ev,vs,hJ6,-⟩:=id HJ6.out
        have c0:=hJ6.c 0 rfl
        have c7:=hJ6.c 7 rfl
        have f7:=hJ6.fr 7
        have z0:=zAA HX6.out (i:=0) rfl
        have z1:=zAA HX6.out (i:=1) rfl
        have z2:=zAA HX6.out (i:=2) rfl
        clear hJ6
        by_cases hlt:M3.number < s.number
        ·have HJn:=zh (show zAd (some s) M3 a3=some (true,M3.rebase s) from by unfold zAd;exact if_pos hlt)
         have d0:decide ((M3.number:Int) < (s.number:Int))=true:=by simp;omega
         have d0n:decide (M3.number < s.number)=true:=by simp;omega
         have HR0:=HAn.out _ He1.out He2.out Hks.out He3.out HJn.out
         clear hlt c7 f7
         go_wp2_with fail
         go_quiet (fail)
         go_wp2_with fail
         generalize hWQ:(World.drewN _ _)=WQ
         have HJQ:=zh (show JouF w WQ j d pre D3 M3 _ from by rw [← hWQ];exact HJ6.out.drewN _)
         have HSQ:=zh (show Same F w1 WQ from by rw [← hWQ];exact HS6.out)
         have HXQ:=zh (show WQ.heap[b4]?=some (.cells #[.int .i64 (s.number:Int),.int .i64 s.term,.slice gp s.group.length gc] 130 (0,0)) from by rw [← hWQ];exact HX6.out)
         have Hrb:=zh (zEl (F2:=F) HJQ.out Hso.out.1 (pg:=gp) (cg:=gc) (pd:=pd) (cd:=cd) (OwnR.keep HOG6.out fun k _=>by rw [← hWQ];rfl) (OwnR.keep HOD6.out fun k _=>by rw [← hWQ];rfl) (fun k hk=>⟨.inr (.inr hk),(Hwl.out k hk).1⟩) fun k hk=>⟨.inl hk,fun e=>(Hwl.out k (.inl e)).2 hk,fun e=>(Hwl.out k (.inr e)).2 hk⟩)
         have z0:=zAA HXQ.out (i:=0) rfl
         have z1:=zAA HXQ.out (i:=1) rfl
         have z2:=zAA HXQ.out (i:=2) rfl
         clear hWQ c0
         go_wp2_with fail
         refine Hrb.out.mono ?_
         rintro e w7 ⟨rfl,hj7,hs7⟩
         have HJ7:=zh hj7
         have HS7:=zh (HSQ.out.trans hs7)
         clear hj7 hs7 Hrb z0 z1 z2
         go_wp2_with fail
         cases hwj:zAR D3 (nm pre) (M3.rebase s) with
         | mk D4 e4 =>
          have Hwj:=zh (show Calls Tryz.prog 80 #[.pointer (some ⟨j,0,none⟩)] w7 (zBk w w7 j d pre (M3.rebase s) F (D4,e4)) from by
           have:=zCc HJ7.out (Nat.le_trans (zDC M3 s) (Hlen.out He3.out))
           rwa [hwj] at this)
          have HR:=HR0
          rw [hwj] at HR
          have HR:=zh HR
          clear hwj
          by_cases he4:e4=0
          ·subst he4
           go_wp2_with fail
           refine Hwj.out.mono ?_
           rintro e w9 ⟨rfl,hj9,hs9⟩
           have HE:=zh (zDq (pre:=pre) (w1:=w1) hj9 (HS7.out.trans hs9) HR.out)
           clear hj9 hs9 Hwj
           go_wp2_with fail
           go_ret2
           exact HE.out
          ·have hne:((e4:Int) != 0)=true:=by simp;omega
           have He4:=zh he4
           clear he4
           go_wp2_with fail
           refine Hwj.out.mono ?_
           rintro e w9 ⟨rfl,hj9,hs9⟩
           have HE:=zh (zBl (pre:=pre) (w1:=w1) (show St w w9 d D4 F from hj9.stF) (HS7.out.trans hs9) HR.out He4.out)
           clear hj9 hs9 Hwj
           go_wp2_with fail
           go_ret2
           exact HE.out
        ·have d0:decide ((M3.number:Int) < (s.number:Int))=false:=by simp;omega
         have d0n:decide (M3.number < s.number)=false:=by simp;omega
         by_cases hgt:s.number < M3.number
         ·have HJn:=zh (show zAd (some s) M3 a3=none from by unfold zAd;exact (if_neg hlt).trans (if_pos hgt))
          have d1:decide ((s.number:Int) < (M3.number:Int))=true:=by simp;omega
          have d1n:decide (s.number < M3.number)=true:=by simp;omega
          have HE:=zh (fun q q2=>zBl (pre:=pre) (w1:=w1) (((HJ6.out.drewN q).drewN q2).stF.less (F:=F) fun k hk=>.inl hk) HS6.out (HNo.out He1.out He2.out Hks.out He3.out HJn.out) (by decide))
          clear hlt hgt c7 f7
          go_wp2_with fail
          go_quiet (fail)
          go_wp2_with fail
          go_quiet (fail)
          go_wp2_with fail
          go_ret2
          exact HE.out _ _
         ·have HJn:=zh (show zAd (some s) M3 a3=some (a3,{ M3 with data:=s.data }) from by unfold zAd;exact (if_neg hlt).trans (if_neg hgt))
          have d1:decide ((s.number:Int) < (M3.number:Int))=false:=by simp;omega
          have d1n:decide (s.number < M3.number)=false:=by simp;omega
          clear hlt hgt
          have Hdt:=zh (fun q=>jou_data (F2:=F) (HJ6.out.drewN q) (dv:=.slice pd s.data.length cd) (OwnR.keep HOD6.out fun _ _=>rfl) (fun k hk=>⟨.inr (.inr (.inr hk)),(Hwl.out k (.inr hk)).1⟩) (fun k hk=>⟨.inl hk,fun e=>(Hwl.out k (.inr e)).2 hk⟩) (Nat.le_trans Hso.out.2.1 (by decide)))
          cases a3 with
          | false =>
           have HR:=zh (HKp.out _ He1.out He2.out Hks.out He3.out HJn.out)
           have HE:=zh (fun q=>zDq (pre:=pre) (w1:=w1) (Hdt.out q).1 (HS6.out.trans (Hdt.out q).2) HR.out)
           go_wp2_with fail
           go_quiet (fail)
           go_wp2_with fail
           go_quiet (fail)
           go_wp2_with fail
           go_ret2
           exact HE.out _
          | true =>
           have HR0:=HAn.out _ He1.out He2.out Hks.out He3.out HJn.out
           go_wp2_with fail
           go_quiet (fail)
           go_wp2_with fail
           go_quiet (fail)
           go_wp2_with fail
           generalize hWQ:(World.setCell _ _ _)=WQ
           have HJQ:=zh (show JouF w WQ j d pre D3 { M3 with data:=s.data } F from by rw [← hWQ];exact (Hdt.out _).1)
           have HSQ:=zh (show Same F w1 WQ from by rw [← hWQ];exact HS6.out.trans (Hdt.out _).2)
           clear hWQ c0 c7 f7 z0 z1 z2
           cases hwj:zAR D3 (nm pre) { M3 with data:=s.data } with
           | mk D4 e4 =>
            have Hwj:=zh (show Calls Tryz.prog 80 #[.pointer (some ⟨j,0,none⟩)] WQ (zBk w WQ j d pre { M3 with data:=s.data } F (D4,e4)) from by
             have:=zCc HJQ.out (Hlen.out He3.out)
             rwa [hwj] at this)
            have HR:=HR0
            rw [hwj] at HR
            have HR:=zh HR
            clear hwj
            by_cases he4:e4=0
            ·subst he4
             go_wp2_with fail
             refine Hwj.out.mono ?_
             rintro e w9 ⟨rfl,hj9,hs9⟩
             have HE:=zh (zDq (pre:=pre) (w1:=w1) hj9 (HSQ.out.trans hs9) HR.out)
             clear hj9 hs9 Hwj
             go_wp2_with fail
             go_ret2
             exact HE.out
            ·have hne:((e4:Int) != 0)=true:=by simp;omega
             have He4:=zh he4
             clear he4
             go_wp2_with fail
             refine Hwj.out.mono ?_
             rintro e w9 ⟨rfl,hj9,hs9⟩
             have HE:=zh (zBl (pre:=pre) (w1:=w1) (show St w w9 d D4 F from hj9.stF) (HSQ.out.trans hs9) HR.out He4.out)
             clear hj9 hs9 Hwj
             go_wp2_with fail
             go_ret2
             exact HE.out
       ·have hne:((e3:Int) != 0)=true:=by simp;omega
        have HE:=zh (zBl (pre:=pre) (w1:=w1) (hst6.less (F:=F) fun k hk=>.inl hk) (HSB.out.trans fun k hk=>hs6 k (.inl hk)) (HE4.out He1.out He2.out Hks.out he3) he3)
        clear hst6 hs6 hj6 he3
        go_wp2_with fail
        go_ret2
        exact HE.out
     ·have hne:((ks:Int) != 0)=true:=by simp;omega
      have HE:=zh (zBl (pre:=pre) (w1:=w1) ((HJ4.out.box (.cells #[.int .i64 n,.int .i64 t,.slice gp gn gc] 130)).stF.less (F:=F) fun k hk=>.inl hk) (HS4.out.trans (HJ4.out.same (zAD w4 _))) (HE3.out He1.out He2.out hks) hks)
      clear hks
      go_wp2_with fail
      go_ret2
      exact HE.out
end
abbrev PairO (d r:Nat) (j x:Value) (over:Bool):Obj:=.cells #[.pointer (some ⟨d,0,none⟩),.pointer (some ⟨r,0,none⟩),j,x,.bool over] 47 (0,0)
abbrev g012:List Int:=[0,1,2]
abbrev LitO:Obj:=.cells #[.int .i64 0,.int .i64 1,.int .i64 2] 3 (0,0)
theorem zCI (W:World):HasI (W.alloc LitO) (.slice (some ⟨W.heap.size,0,none⟩) 3 3) g012 :=
 ⟨by simp,some ⟨W.heap.size,0,none⟩,3,rfl,fun e=>(by cases e),fun a ha i u hu=>by
  cases ha
  rw [add_zero]
  refine zAA (zAI W _) ?_
  simpa using hu⟩
theorem refIn_move {w w':World} {r:Nat} {D:zAB} (h:zAY w r (.slice none 0 0) [] (fun k=>k=r) D) (hs:∀ k,k=r→w'.heap[k]?=w.heap[k]?) (hl:r < w'.heap.size):zAY w' r (.slice none 0 0) [] (fun k=>k=r) D where
 cells:=(hs r rfl).trans h.cells
 row:=OwnR.nil _ _ _
 files:=h.files
 data:=fun x hx=>by cases hx
 or:=rfl
 ov:=fun k hk=>by cases hk
 ob:=fun x hx=>by cases hx
 olt:=fun k hk=>by rw [hk];exact hl
 ok:=h.ok
def Opened (w:World) (p d r room:Nat) (w':World):Prop :=
 ∃ j x,JouF w w' j d sA (zCy room [97] g012) (JouM.none0 g012) (fun k=>k=p)∧w'.heap[p]?=some (PairO d r (.pointer (some ⟨j,0,none⟩)) (.pointer (some ⟨x,0,none⟩)) false)
def Opened2 (w:World) (p d r room:Nat) (w':World):Prop :=
 ∃ j x Hot Cold,JouF w w' j d sA (zCy room [97] g012) (JouM.none0 g012) (fun k=>k=p∨Hot k∨Cold k)∧w'.heap[p]?=some (PairO d r (.pointer (some ⟨j,0,none⟩)) (.pointer (some ⟨x,0,none⟩)) false) ∧
  RJF w' x r sA (zCy room [97] g012) (JouM.none0 g012) Hot Cold∧∀ k,Hot k∨Cold k→w.heap.size≤k∧k≠p
theorem Opened2.opened {w:World} {p d r room:Nat} {w':World} (h:Opened2 w p d r room w'):Opened w p d r room w':=by
 obtain ⟨j,x,Hot,Cold,hJ,hp,-,-⟩:=h
 exact ⟨j,x,hJ.less fun k hk=>.inl hk,hp⟩
theorem popen2_calls {w w1:World} {d r p room:Nat} (h:St w w1 d (zAB.fresh room) (fun k=>k=p∨k=r)) (hR:zAY w1 r (.slice none 0 0) [] (fun k=>k=r) (zAB.fresh room)) (hp:w1.heap[p]?=some (PairO d r (.pointer none) (.pointer none) false)) (hge:w.heap.size≤r∧w.heap.size≤p) (hpr:p≠r) (hr1:200≤room) (hr2:room≤1048576) :
  Calls Tryz.prog 97 #[.pointer (some ⟨p,0,none⟩)] w1 fun e w'=>e=.returned (.bool true)∧Opened2 w p d r room w':=by
 have hjo:zAS (zAB.fresh room) (nm sA) g012=(zCy room [97] g012,0,JouM.none0 g012):=jopen_fresh hr1 (by omega) (pre:=[97]) ⟨by decide,by decide⟩ (by rfl)
 have Hop:=zh (zCo (h.next (zAD w1 LitO)) (show (zAB.fresh room).room≤1048576 from hr2) sA (zCI w1) (by simp))
 rw [hjo] at Hop
 have Hro:=zh (fun W (hW:zAY W r (.slice none 0 0) [] (fun k=>k=r) (zAB.fresh room))=>show Calls Tryz.prog 18 #[.pointer (some ⟨r,0,none⟩),.string sA,.slice (some ⟨W.heap.size,0,none⟩) 3 3] (W.alloc LitO) (ROpened (W.alloc LitO) r sA (fun k=>k=r) (zCy room [97] g012,0,JouM.none0 g012)) from by
  have:=zCr (hW.below (zAD W LitO)) (show (zAB.fresh room).room≤1048576 from hr2) sA (zCI W) (by simp) fun O=>zCp (D:=zAB.fresh room) List.Pairwise.nil (show (zAB.fresh room).used≤524288 from Nat.zero_le _) O
  rwa [hjo] at this)
 have HR:=zh hR
 have Hge:=zh hge
 have Hpr:=zh hpr
 have Hp:=zh hp
 have Hsa:=zh (fun k (hk:k=p∨k=r)=>h.flt hk)
 have hpa:=zAt LitO hp
 have c0:=zAA hp (i:=0) rfl
 clear h hR hp hge hpr hpa hjo
 go_enter Tryz.func97,Tryz.ntmps97
 go_wp2_with fail
 refine Hop.out.mono ?_
 rintro e w2 ⟨hst,hs,hcase⟩
 rcases hcase with ⟨-,j,rfl,hj⟩ | ⟨hne,-⟩
 ·have HJ:=zh hj
  have Hp2:=zh ((hs p (.inl rfl)).trans (zAt LitO Hp.out))
  have hr2':∀ k,k=r→w2.heap[k]?=w1.heap[k]?:=fun k hk=>by
   rw [hk]
   exact (hs r (.inr rfl)).trans (alloc_was w1 LitO (Hsa.out r (.inr rfl)))
  have HR2:=zh (refIn_move HR.out hr2' (HJ.out.flt (.inr rfl)))
  have c1:=zAA Hp2.out (i:=1) rfl
  clear hst hs hj hr2' Hop c0
  have Hro2:=zh (Hro.out w2 HR2.out)
  go_wp2_with fail
  refine Hro2.out.mono ?_
  rintro e w4 hT
  rcases hT with ⟨-,jx,Hot,Cold,rfl,hF,hc4,hwd⟩ | ⟨hne,-⟩
  rotate_left
  ·exact absurd rfl hne
  have hs2:=(zAD w2 LitO).size
  have hs1:=HJ.out.bel.size
  have hrl:r < w2.heap.size:=HJ.out.flt (.inr rfl)
  have hpl:p < w2.heap.size:=HJ.out.flt (.inl rfl)
  have HW:=zh (show ∀ k,Hot k∨Cold k→w.heap.size≤k∧k≠p∧k < w4.heap.size from fun k hk=>by
   refine ⟨?_,?_,hk.elim (fun h=>hF.hlt h) fun h=>hF.clt h⟩
   ·rcases hwd k hk with e | e
    ·rw [e];exact Hge.out.1
    ·omega
   ·rcases hwd k hk with e | e
    ·rw [e];exact fun e=>Hpr.out e.symm
    ·omega)
  have HF:=zh hF
  have HJ4:=zh (show JouF w w4 j d sA (zCy room [97] g012) (JouM.none0 g012) (fun k=>k=p∨Hot k∨Cold k) from (HJ.out.next (zAD w2 LitO)).move hc4 (fun k _ e=>⟨.inr e,by rw [e];exact Hge.out.1⟩) fun k hk=>by
   rcases hk with hk | hk
   ·exact ⟨.inl (.inl hk),by rw [hk];have:=hc4.size;omega⟩
   ·refine ⟨?_,(HW.out k hk).2.2⟩
    rcases hwd k hk with e | e
    ·exact .inl (.inr e)
    ·exact .inr e)
  have hp4:=(hc4.block p (by omega) Hpr.out).trans (zAt LitO Hp2.out)
  have Hp4:=zh hp4
  have d2:=zAA hp4 (i:=2) rfl
  have d3:=zAA hp4 (i:=3) rfl
  have f2:=zAF hp4 2
  have f3:=zAF hp4 3
  have hC5:Chg (fun k=>k=p) w4 ((w4.setCell ⟨p,2,none⟩ (.pointer (some ⟨j,0,none⟩))).setCell ⟨p,3,none⟩ (.pointer (some ⟨jx,0,none⟩))):=(Chg.setCell w4 ⟨p,2,none⟩ _).trans (Chg.setCell _ ⟨p,3,none⟩ _) fun _ _ e=>e
  have HF5:=zh (HF.out.chg hC5 fun k e=>⟨fun h=>(HW.out k (.inl h)).2.1 e,fun h=>(HW.out k (.inr h)).2.1 e⟩)
  have HJ5:=zh (show JouF w ((w4.setCell ⟨p,2,none⟩ (.pointer (some ⟨j,0,none⟩))).setCell ⟨p,3,none⟩ (.pointer (some ⟨jx,0,none⟩))) j d sA (zCy room [97] g012) (JouM.none0 g012) (fun k=>k=p∨Hot k∨Cold k) from HJ4.out.move (S:=fun k=>k=p) hC5 (fun k _ e=>⟨.inl e,by rw [e];exact Hge.out.2⟩) fun k hk=>⟨.inl hk,Nat.lt_of_lt_of_le (HJ4.out.flt hk) hC5.size⟩)
  have Hp5:=zh (show ((w4.setCell ⟨p,2,none⟩ (.pointer (some ⟨j,0,none⟩))).setCell ⟨p,3,none⟩ (.pointer (some ⟨jx,0,none⟩))).heap[p]?=some (PairO d r (.pointer (some ⟨j,0,none⟩)) (.pointer (some ⟨jx,0,none⟩)) false) from by
   have h1:=zAE Hp4.out 2 (.pointer (some ⟨j,0,none⟩))
   have h2:=zAE h1 3 (.pointer (some ⟨jx,0,none⟩))
   simpa using h2)
  clear hc4 hp4 hrl hpl Hro2 Hro c1 hF hwd hs2 hs1 hC5
  go_wp2_with fail
  go_ret
  exact ⟨rfl,j,jx,Hot,Cold,HJ5.out,Hp5.out,HF5.out,fun k hk=>⟨(HW.out k hk).1,(HW.out k hk).2.1⟩⟩
 ·exact absurd rfl hne
theorem start2_calls (w:World) (room:Nat) (hr1:200≤room) (hr2:room≤1048576) :
  Calls Tryz.prog 21 #[.int .i64 (room:Int)] w fun e w'=>∃ p d r,e=.returned (.tuple #[.pointer (some ⟨p,0,none⟩),.bool true])∧Opened2 w p d r room w'∧w.heap.size≤p:=by
 have Hnew:=zh (st_new (w:=w) (w1:=w) (room:Int) (by omega) (by omega) (Below.refl _ _))
 have Hrn:=zh (fun W=>rnew_calls W (room:Int) (by omega) (by omega))
 have Hpo:=zh (fun W d r p a b c e f=>popen2_calls (w:=w) (w1:=W) (d:=d) (r:=r) (p:=p) a b c e f hr1 hr2)
 rw [Int.toNat_natCast] at Hnew
 go_enter Tryz.func21,Tryz.ntmps21
 go_wp2_with fail
 refine Hnew.out.mono ?_
 rintro e w2 ⟨d,rfl,hst⟩
 have HS2:=zh hst
 have Hr2:=zh (Hrn.out w2)
 rw [Int.toNat_natCast] at Hr2
 clear hst Hnew Hrn
 go_wp2_with fail
 refine Hr2.out.mono ?_
 rintro e w3 ⟨r,rfl,hR,hb3,hge3⟩
 have hrl:=hR.olt r rfl
 have Hst:=zh (show St w (w3.alloc (PairO d r (.pointer none) (.pointer none) false)) d (zAB.fresh room) (fun k=>k=w3.heap.size∨k=r) from HS2.out.move (Chg.of_below (hb3.trans ((zAD w3 _).mono hb3.size))) (fun _ _ h=>h.elim) fun k hk=>by
  have hs:=hb3.size
  have hs2:(w3.alloc (PairO d r (.pointer none) (.pointer none) false)).heap.size=w3.heap.size+1:=by simp
  rcases hk with hk | hk
  ·exact ⟨.inr (by omega),by omega⟩
  ·exact ⟨.inr (by omega),by omega⟩)
 have HRb:=zh (hR.below (zAD w3 (PairO d r (.pointer none) (.pointer none) false)))
 have Hge:=zh (show w.heap.size≤r∧w.heap.size≤w3.heap.size from ⟨Nat.le_trans HS2.out.below.size hge3,Nat.le_trans HS2.out.below.size hb3.size⟩)
 have Hne:=zh (show w3.heap.size≠r by omega)
 have Hop:=zh (Hpo.out _ _ _ _ Hst.out HRb.out (zAI w3 _) Hge.out Hne.out)
 clear hR hb3 hge3 hrl Hr2
 go_wp2_with fail
 refine Hop.out.mono ?_
 rintro e w4 ⟨rfl,ho⟩
 have HO:=zh ho
 clear ho Hop
 go_wp2_with fail
 go_ret2
 exact ⟨_,_,_,rfl,HO.out,Hge.out.2⟩
theorem start_calls (w:World) (room:Nat) (hr1:200≤room) (hr2:room≤1048576) :
  Calls Tryz.prog 21 #[.int .i64 (room:Int)] w fun e w'=>∃ p d r,e=.returned (.tuple #[.pointer (some ⟨p,0,none⟩),.bool true])∧Opened w p d r room w'∧w.heap.size≤p:=by
 refine (start2_calls w room hr1 hr2).mono ?_
 rintro e w' ⟨p,d,r,he,ho,hb⟩
 exact ⟨p,d,r,he,ho.opened,hb⟩
theorem zBP (w:World):Calls Tryz.prog 20 #[] w fun e w'=>e=.returned (.bool true)∧Below w.heap.size w w':=by
 have Hst:=zh (start_calls w 65536 (by decide) (by decide))
 obtain ⟨D1,D2,hk1,hk2⟩:=known5
 have Hk1:=zh hk1
 have Hk2:=zh hk2
 clear hk1 hk2
 have kc:=fun (w:World) (C:Array Value) (n c:Nat)=>Lib.run_convert_bytes_const (P:=Tryz.prog) w 22 5 C n c Tryz.underlying22 Tryz.underlying5
 go_enter Tryz.func20,Tryz.ntmps20
 go_wp2_with fail
 refine Hst.out.mono ?_
 rintro e w1 ⟨p,d,r,rfl,⟨j,x,hJ,hp⟩,-⟩
 have HJ:=zh hJ
 have Hp:=zh hp
 have c2:=zAA hp (i:=2) rfl
 clear hJ hp Hst
 have HJ3:=zh (show JouF w ((w1.alloc (.cells #[.int .u8 120] 5 (1,2))).alloc (.cells #[.int .i64 1,.int .i64 0,.slice none 0 0,.slice none 0 0,.int .i64 2,.int .i64 1,.slice (some ⟨w1.heap.size,0,none⟩) 1 1,.slice none 0 0] 50)) j d sA (zCy 65536 [97] g012) (JouM.none0 g012) (fun k=>(k=p∨k=w1.heap.size)∨k=w1.heap.size+1) from by
  have:=(HJ.out.box (.cells #[.int .u8 120] 5 (1,2))).box (.cells #[.int .i64 1,.int .i64 0,.slice none 0 0,.slice none 0 0,.int .i64 2,.int .i64 1,.slice (some ⟨w1.heap.size,0,none⟩) 1 1,.slice none 0 0] 50)
  simpa using this)
 have hb1:((w1.alloc (.cells #[.int .u8 120] 5 (1,2))).alloc (.cells #[.int .i64 1,.int .i64 0,.slice none 0 0,.slice none 0 0,.int .i64 2,.int .i64 1,.slice (some ⟨w1.heap.size,0,none⟩) 1 1,.slice none 0 0] 50)).heap[w1.heap.size]?=some (.cells #[.int .u8 120] 5 (1,2)):=zAt _ (zAI w1 _)
 have hb2:((w1.alloc (.cells #[.int .u8 120] 5 (1,2))).alloc (.cells #[.int .i64 1,.int .i64 0,.slice none 0 0,.slice none 0 0,.int .i64 2,.int .i64 1,.slice (some ⟨w1.heap.size,0,none⟩) 1 1,.slice none 0 0] 50)).heap[w1.heap.size+1]?=some (.cells #[.int .i64 1,.int .i64 0,.slice none 0 0,.slice none 0 0,.int .i64 2,.int .i64 1,.slice (some ⟨w1.heap.size,0,none⟩) 1 1,.slice none 0 0] 50):=by have:=zAI (w1.alloc (.cells #[.int .u8 120] 5 (1,2))) (.cells #[.int .i64 1,.int .i64 0,.slice none 0 0,.slice none 0 0,.int .i64 2,.int .i64 1,.slice (some ⟨w1.heap.size,0,none⟩) 1 1,.slice none 0 0] 50);simpa using this
 have HEn:=zh (show ∀ W,Below w.heap.size w W→Same (fun k=>(k=p∨k=w1.heap.size)∨k=w1.heap.size+1) ((w1.alloc (.cells #[.int .u8 120] 5 (1,2))).alloc (.cells #[.int .i64 1,.int .i64 0,.slice none 0 0,.slice none 0 0,.int .i64 2,.int .i64 1,.slice (some ⟨w1.heap.size,0,none⟩) 1 1,.slice none 0 0] 50)) W→EntsHas W (.slice (some ⟨w1.heap.size+1,0,none⟩) 2 2) [ke1,ke2] [(.slice none 0 0,.slice none 0 0),(.slice (some ⟨w1.heap.size,0,none⟩) 1 1,.slice none 0 0)] from fun W _ hs=>by
  have h1:=(hs w1.heap.size (.inl (.inr rfl))).trans hb1
  have h2:=(hs (w1.heap.size+1) (.inr rfl)).trans hb2
  have hnil:∀ l:List Value,l=[]→zAL W 1 (.slice none 0 0) 0 l:=fun l e=>by rw [e];exact ⟨rfl,none,0,rfl,fun _=>rfl,fun a ha=>by cases ha⟩
  refine ⟨rfl,⟨rfl,some ⟨w1.heap.size+1,0,none⟩,2,rfl,fun e=>(by cases e),fun a ha i u hu=>?_⟩,fun i e v he hv=>?_⟩
  ·cases ha
   rw [add_zero]
   refine zAA h2 ?_
   simpa [zA1,entC,ke1,ke2] using hu
  ·match i,he,hv with
   | 0,he,hv =>
    cases he
    cases hv
    exact ⟨hnil _ rfl,hnil _ rfl,by decide,by decide⟩
   | 1,he,hv =>
    cases he
    cases hv
    refine ⟨⟨rfl,some ⟨w1.heap.size,0,none⟩,1,rfl,fun e=>(by cases e),fun a ha i u hu=>?_⟩,hnil _ rfl,by decide,by decide⟩
    cases ha
    rw [add_zero]
    refine zAA h1 ?_
    simpa [zAQ,ke2] using hu)
 have Hap:=zh (jappend_calls HJ3.out HEn.out (by decide))
 rw [show zCQ (nm sA) (zCy 65536 [97] g012) (JouM.none0 g012) [ke1,ke2]=⟨D1,kM1,0⟩ from Hk1.out] at Hap
 have Hp3:=zh (zAt (.cells #[.int .i64 1,.int .i64 0,.slice none 0 0,.slice none 0 0,.int .i64 2,.int .i64 1,.slice (some ⟨w1.heap.size,0,none⟩) 1 1,.slice none 0 0] 50) (zAt (.cells #[.int .u8 120] 5 (1,2)) Hp.out))
 clear hb1 hb2 HEn
 go_wp2_with fail
 refine Hap.out.mono ?_
 rintro e w2 ⟨rfl,hj2,hs2⟩
 have HJ4:=zh (hj2.less (F':=fun k=>k=p) fun k hk=>.inl (.inl hk))
 have Hp4:=zh ((hs2 p (.inl (.inl rfl))).trans Hp3.out)
 have d2:=zAA Hp4.out (i:=2) rfl
 clear hj2 hs2 Hap c2
 have HJ5:=zh (HJ4.out.box (.cells #[.int .u8 115] 5 (1,2)))
 have hb3:=zAI w2 (.cells #[.int .u8 115] 5 (1,2))
 have Hco:=zh (jcompact_calls HJ5.out (show kM1.entries.length≤1000000 by decide) 1 (by decide) (pd:=some ⟨w2.heap.size,0,none⟩) (n:=1) (cd:=1) (b:=[115]) rfl (by decide) fun W _ hs=>⟨rfl,some ⟨w2.heap.size,0,none⟩,1,rfl,fun e=>(by cases e),fun a ha i u hu=>by
  cases ha
  rw [add_zero]
  refine zAA ((hs w2.heap.size (.inr rfl)).trans hb3) ?_
  simpa [zAQ] using hu⟩)
 rw [show zBc (nm sA) D1 kM1 1 [115]=⟨D2,kM2,0⟩ from Hk2.out] at Hco
 have Hp5:=zh (zAt (.cells #[.int .u8 115] 5 (1,2)) Hp4.out)
 clear hb3
 go_wp2_with fail
 refine Hco.out.mono ?_
 rintro e w3 ⟨rfl,hj3,hs3⟩
 have HJ6:=zh hj3
 have Hp6:=zh ((hs3 p (.inl rfl)).trans Hp5.out)
 have e2:=zAA Hp6.out (i:=2) rfl
 have Hba:=zh (zEK HJ6.out)
 clear hj3 hs3 Hco d2
 go_wp2_with fail
 refine Hba.out.mono ?_
 rintro e w4 ⟨rfl,q4,rfl⟩
 have HJ7:=zh (HJ6.out.drewN q4)
 have Hla:=zh (zB5 HJ7.out)
 have e2:(w3.drewN q4).cell? ⟨p,2,none⟩=some (.pointer (some ⟨j,0,none⟩)):=e2
 rw [show ((kM2.number:Nat):Int)=1 from rfl,show kM2.term=1 from rfl]
 go_wp2_with fail
 refine Hla.out.mono ?_
 rintro e w5 ⟨rfl,q5,rfl⟩
 rw [show ((kM2.last:Nat):Int)=2 from rfl,show kM2.lastT=2 from rfl]
 have HJ8:=zh (HJ6.out.drewN (q4+q5))
 have Hsn:=zh (jsnap_calls HJ8.out)
 have e3:((w3.drewN q4).drewN q5).cell? ⟨p,2,none⟩=some (.pointer (some ⟨j,0,none⟩)):=e2
 go_wp2_with fail
 refine Hsn.out.mono ?_
 rintro e w6 ⟨v,u,rfl,hv,-,-,hb6⟩
 have HB6:=zh (show Below w.heap.size w w6 from HJ8.out.bel.trans (hb6.mono HJ8.out.bel.size))
 have hv:OwnB w6 5 v [115]:=hv
 have Hv:=zh (show HasB (w6.alloc (.cells #[.int .u8 115] 5 (1,2))) v [115] from (zBm hv (zAD w6 (.cells #[.int .u8 115] 5 (1,2)))).has)
 obtain ⟨pv,cv,rfl,-⟩:=zAO hv
 have Hl:=zh (show HasB (w6.alloc (.cells #[.int .u8 115] 5 (1,2))) (.slice (some ⟨w6.heap.size,0,none⟩) 1 1) [115] from ⟨rfl,some ⟨w6.heap.size,0,none⟩,1,rfl,fun e=>(by cases e),fun a ha i u hu=>by
  cases ha
  rw [add_zero]
  refine zAA (zAI w6 _) ?_
  simpa [zAQ] using hu⟩)
 have Hsm:=zh (zEQ Hv.out Hl.out (by decide) (by decide))
 have HB7:=zh (HB6.out.alloc HB6.out.size (.cells #[.int .u8 115] 5 (1,2)))
 clear hv hb6 Hsn
 go_wp2_with fail
 refine Hsm.out.mono ?_
 rintro e w7 ⟨rfl,n7,rfl⟩
 have HB8:=zh (HB7.out.trans ⟨rfl,rfl,rfl,Nat.le_refl _,fun _ _=>rfl⟩:Below w.heap.size w ((w6.alloc (.cells #[.int .u8 115] 5 (1,2))).drewN n7))
 rw [show ((([115]:Bs) == [115]):Bool)=true from rfl]
 clear Hsm
 go_wp2_with fail
 go_ret
 exact ⟨rfl,HB8.out⟩
end Go.Proofs.YtapfnehdgailmaaGreat
