/- The document's journal: anew. (Printed by mkrk10.py.) The document's journal: its base turned. (Printed by mkrk11.py.) -/
import Derived.Test.YtapfnehdgailmaaGreatGI
import Derived.Test.YtapfnehdgailmaaGreatGJ
import Derived.Test.YtapfnehdgailmaaGreatGV
set_option maxRecDepth 100000
set_option maxHeartbeats 64000000
namespace Go.Proofs.YtapfnehdgailmaaGreat
open Go.RowKit Go.Sat Go.Maps
def JouM.rowsTo (M:JouM) (k:Nat):List Bs:=fstB M.number M.term M.group :: trmB M.now M.vote :: zBK M.number (M.entries.take k)
theorem rowsTo_all {M:JouM} {k:Nat} (h:M.entries.length≤k):M.rowsTo k=M.rows:=by
 unfold JouM.rowsTo JouM.rows
 rw [List.take_of_length_le h]
theorem rowsTo_succ {M:JouM} {k:Nat} (h:k < M.entries.length):zAU (M.rowsTo (k+1))=zAU (M.rowsTo k) ++ zAK (entB (M.number+k+1) M.entries[k]):=by
 unfold JouM.rowsTo
 rw [entsB_take (n:=M.number) h,zCC,zCC,zCC,zCC,zDt,zDu]
 simp
theorem rowsTo_len {M:JouM} (h:M.OK) (k:Nat):(zAU (M.rowsTo k)).length≤65812 * (k+2):=by
 have hr:=(rows_rows h).1
 have h1:=zDW (c:=65800) (M.rowsTo k) fun l hl=>by
  rcases List.mem_cons.1 hl with rfl | hl
  ·exact hr _ (by simp [JouM.rows])
  ·rcases List.mem_cons.1 hl with rfl | hl
   ·exact hr _ (by simp [JouM.rows])
   ·have:=h.last
    unfold JouM.last at this
    exact zC6 M.number (M.entries.take k) (fun e he=>h.ents e (List.mem_of_mem_take he)) (by rw [List.length_take];omega) l hl
 have h2:(M.rowsTo k).length≤k+2:=by
  show (zBK M.number (M.entries.take k)).length+1+1≤k+2
  rw [zCN,List.length_take]
  omega
 exact Nat.le_trans h1 (Nat.mul_le_mul_left _ h2)
section
variable {w:World} {j r:Nat} {pre:ByteArray} {D:zAB} {M:JouM} {Hot Cold:Nat→Prop}
theorem rjanew_calls (h:RJF w j r pre D M Hot Cold) (hmx:M.entries.length≤1000000) :
  Calls Tryz.prog 93 #[.pointer (some ⟨j,0,none⟩)] w fun e w'=>e=.returned (.int .i64 ((zAR D (nm pre) M).2:Int))∧zBF w j r pre Hot Cold w' (zAR D (nm pre) M).1 M∧w'.heap[j]?=w.heap[j]?:=by
 obtain ⟨i0,hi,hz0,hz1,hz2⟩:=info_parts (show (Tryz.prog.info? 5).map (fun i=>(i.zero,i.size,i.bytes))=some (some (.int .u8 0),1,1) by kernel_rfl)
 have hsl:(sLog pre).size=pre.size+4:=zEC pre
 have hps:=h.psz
 have HF:=zh h
 have hok:=h.okM
 have Hok:=zh hok
 have hlast:=hok.last
 have hg7:=zCP hok.group
 have htm:=zAr.1 hok.term
 have hnw:=zAr.1 hok.now
 have hvt:=hok.vote
 have Hrl:=zh (fun k=>rowsTo_len hok k)
 obtain ⟨O,own,gv,dv,ev,vs,v,L,hJ,hR,hO,hCo,hH⟩:=h
 obtain ⟨p,c,hgv⟩:=hJ.group.slice
 obtain ⟨pe,ce,hev⟩:=hJ.row.shape
 generalize hm:M.group.length=m at *
 generalize hn:M.entries.length=n at *
 subst hgv
 have hc:w.heap[j]?=some (RJC r (M.number:Int) M.term (.slice p m c) pre M.now M.vote dv ev M.dead):=hJ.cells
 rw [hev] at hc
 have hg:HasI w (.slice p m c) M.group:=hJ.group
 have Hent:=zh (fun k (hk:k < M.entries.length)=>hJ.ent (List.getElem?_eq_getElem hk))
 have Hev:=zh hev
 have Hn:=zh hn
 unfold JouM.last at hlast
 rw [hn] at hlast
 have Hl1:=zh (show (zAK (fstB M.number M.term M.group)).length≤100000 from by
  have h1:=grpB_len0 M.group (by rw [hm];omega)
  have h2:=zAe (n:=M.number) (by omega)
  have h3:=zA9 M.term
  have h4:(fstB M.number M.term M.group).length≤9100:=by unfold fstB;simp only [List.length_cons,List.length_append];omega
  have h5:=zAk (fstB M.number M.term M.group)
  omega)
 have Hl2:=zh (show (zAK (trmB M.now M.vote)).length≤100000 from by
  have h4:=trmB_len M.now M.vote
  have h5:=zAk (trmB M.now M.vote)
  omega)
 have Hfi:=zh (fun W (hb:Below w.heap.size w W) (hW:W.heap[j]?=some (RJC r (M.number:Int) M.term (.slice p m c) pre M.now M.vote dv (.slice pe n ce) M.dead))=>by
  have:=rfirst_calls (w:=W) hW (zAL.chg hg (Chg.of_below hb) fun _ _=>id) (fun z hz=>by have:=hg7.2 z hz;omega) (by rw [hm];omega) (by omega) (by omega)
  rw [fstB0_nat (by omega)] at this
  exact this)
 have Htr:=zh (fun W=>rterms_calls W M.now M.vote (by omega) (by omega))
 have Hjl:=zh (zAC hc)
 have Hc:=zh hc
 generalize hZ:zAR D (nm pre) M=Z at *
 have HZ:=zh hZ
 clear hZ hJ hR hO hCo hH hg hev hg7 htm hvt hm hn hnw hok
 go_enter Tryz.func93,Tryz.ntmps93
 go_wp2_with fail
 refine zAT (fun w':World=>w'.heap[j]?=some (RJC r (M.number:Int) M.term (.slice p m c) pre M.now M.vote dv (.slice pe n ce) M.dead)) (n:=13) (by kernel_rfl) rfl (hc) (fun hHeld=>?_)
 have HB1:=zh (zAb w)
 clear hc
 generalize w.drew=W1 at *
 refine otc 0 (v:=?v1x0) rfl ?y1x0 ?_
 case y1x0=>(intro w hSw;have q5:=zAA hSw (i:=5) rfl;have q6:=zAA hSw (i:=6) rfl;go_simp;try with_reducible rfl)
 simp only [Act.put,uA,uB,uC]
 refine otc 2 (v:=?v1x2) rfl ?y1x2 ?_
 case y1x2=>(intro w hSw;have q5:=zAA hSw (i:=5) rfl;have q6:=zAA hSw (i:=6) rfl;go_simp;try with_reducible rfl)
 simp only [Act.put,uA,uB,uC]
 refine otc 3 (v:=?v1x3) rfl ?y1x3 ?_
 case y1x3=>(intro w hSw;have q5:=zAA hSw (i:=5) rfl;have q6:=zAA hSw (i:=6) rfl;go_simp;try with_reducible rfl)
 simp only [Act.put,uA,uB,uC]
 refine otc 4 (v:=?v1x4) rfl ?y1x4 ?_
 case y1x4=>(intro w hSw;have q5:=zAA hSw (i:=5) rfl;have q6:=zAA hSw (i:=6) rfl;go_simp;try with_reducible rfl)
 simp only [Act.put,uA,uB,uC]
 refine otc 5 (v:=?v1x5) rfl ?y1x5 ?_
 case y1x5=>(intro w hSw;have q5:=zAA hSw (i:=5) rfl;have q6:=zAA hSw (i:=6) rfl;go_simp;try with_reducible rfl)
 simp only [Act.put,uA,uB,uC]
 refine otc 6 (v:=?v1x6) rfl ?y1x6 ?_
 case y1x6=>(intro w hSw;have q5:=zAA hSw (i:=5) rfl;have q6:=zAA hSw (i:=6) rfl;go_simp;try with_reducible rfl)
 simp only [Act.put,uA,uB,uC]
 refine otc 7 (v:=?v1x7) rfl ?y1x7 ?_
 case y1x7=>(intro w hSw;have q5:=zAA hSw (i:=5) rfl;have q6:=zAA hSw (i:=6) rfl;go_simp;try with_reducible rfl)
 simp only [Act.put,uA,uB,uC]
 refine otc 8 (v:=?v1x8) rfl ?y1x8 ?_
 case y1x8=>(intro w hSw;have q5:=zAA hSw (i:=5) rfl;have q6:=zAA hSw (i:=6) rfl;go_simp;try with_reducible rfl)
 simp only [Act.put,uA,uB,uC]
 refine otc 9 (v:=?v1x9) rfl ?y1x9 ?_
 case y1x9=>(intro w hSw;have q5:=zAA hSw (i:=5) rfl;have q6:=zAA hSw (i:=6) rfl;go_simp;try with_reducible rfl)
 simp only [Act.put,uA,uB,uC]
 refine zAG 1 rfl (by kernel_rfl) (by rfl) (fun K hK=>?_)
 have Hf1:=zh (Hfi.out W1 HB1.out hHeld)
 go_wp2_with fail
 refine Hf1.out.mono ?_
 rintro e w2 ⟨u1,rfl,hu1,hn1,hb2⟩
 have Hj2:=zh ((hb2.block _ (zAC hHeld)).trans hHeld)
 have HR2:=zh (show RowB w w2 u1 (zAK (fstB M.number M.term M.group)) from ⟨hu1,fun k hk=>Nat.le_trans HB1.out.size (hn1 k hk),HB1.out.trans (hb2.mono HB1.out.size)⟩)
 obtain ⟨p1,c1,rfl,-⟩:=zAO hu1
 clear hu1 hn1 hb2 Hf1
 generalize hL1:(zAK (fstB M.number M.term M.group)).length=m1 at *
 have HL1:=zh hL1
 clear hL1
 go_wp2_with fail
 refine hK.out _ _ (Hj2.out) (fun hHeld=>?_)
 clear hK
 try simp only [Act.put,uA,uB,uC]
 refine zAG 10 rfl (by kernel_rfl) (by rfl) (fun K hK=>?_)
 have Ht1:=zh (Htr.out w2)
 go_wp2_with fail
 refine Ht1.out.mono ?_
 rintro e w3 ⟨u2,rfl,hu2,hn2,hb3⟩
 have Hj3:=zh ((hb3.block _ (zAC hHeld)).trans hHeld)
 have HR3:=zh (HR2.out.next hb3)
 have HX3:=zh (OwnB.has hu2)
 obtain ⟨p2,c2,rfl,-⟩:=zAO hu2
 clear hu2 hn2 hb3 Ht1
 generalize hL2:(zAK (trmB M.now M.vote)).length=m2 at *
 have HL2:=zh hL2
 clear hL2
 go_wp2_with fail
 refine hK.out _ _ (Hj3.out) (fun hHeld=>?_)
 clear hK
 try simp only [Act.put,uA,uB,uC]
 have hm1:=Hl1.out
 have hm2:=Hl2.out
 have Hrow:=zh (show OwnR w3 5 1 (.slice p1 m1 c1) m1 (zAQ (zAK (fstB M.number M.term M.group))) by have:=HR3.out.own;unfold OwnB at this;rwa [HL1.out] at this)
 have Hxx:=zh (show zAL w3 1 (.slice p2 m2 c2) m2 (zAQ (zAK (trmB M.now M.vote))) by have:=HX3.out;unfold HasB at this;rwa [HL2.out] at this)
 refine zAG 11 rfl (by kernel_rfl) (by rfl) (fun K hK=>?_)
 refine zAj (.tmp 6) (.tmp 15) 22 rfl 5 i0 (.int .u8 0) 1 1 Tryz.underlying22 hi hz0 hz1 hz2 rfl (by decide) (.slice p1 m1 c1) m1 _ rfl Hrow.out (.slice p2 m2 c2) m2 _ rfl Hxx.out (zAM _) (by unfold maxLen;omega) (by omega) ?_
 intro v4 w4 hown4 hgrow4 hloc4
 have HR4:=zh (RowB.grown (x:=zAK (trmB M.now M.vote)) HR3.out (by rw [HL1.out,HL2.out];exact hown4) hgrow4 hloc4)
 have Hj4:=zh ((HR4.out.bel.block j Hjl.out).trans Hc.out)
 obtain ⟨p4,c4,rfl⟩:=OwnR.shape hown4
 clear hown4 hgrow4 hloc4
 refine hK.out _ _ (Hj4.out) (fun hHeld=>?_)
 clear hK
 try simp only [Act.put,uA,uB,uC]
 refine otk 12 (v:=?v1x12) rfl ?_
 simp only [Act.put,uA,uB,uC]
 refine wpAnyH_done (by kernel_rfl) ?_ _
 have HS4:=zh (show RowB w w4 (.slice p4 (m1+m2) c4) (zAU (M.rowsTo 0)) from by
  have e1:zAU (M.rowsTo 0)=zAK (fstB M.number M.term M.group) ++ zAK (trmB M.now M.vote):=by
   unfold JouM.rowsTo
   rw [List.take_zero]
   show zAU [_,_]=_
   rw [zCC,zDu]
  rw [e1]
  exact HR4.out)
 clear Htr Hfi HR4 Hj4 HR3 HR2 HX3 Hrow Hxx
 go_wp2_with fail
 go_loopw [3,4] (fun b i wr=>∃ (k:Nat) (y:Value),k≤n∧i=.int .i64 k∧y=b∧RowB w wr y (zAU (M.rowsTo k))) (fun _ i _=>n - (intOf i).toNat)
 case atStart=>exact ⟨0,_,Nat.zero_le _,rfl,rfl,HS4.out⟩
 case round =>
  clear HS4
  obtain ⟨k,y,hk,rfl,rfl,hrn⟩:=hrel
  have hcr:=(hrn.bel.block j Hjl.out).trans Hc.out
  have c8r:=zAA hcr (i:=8) rfl
  have hml:=Hrl.out k
  obtain ⟨py,cy,rfl,-⟩:=zAO hrn.own
  by_cases hlt:k < n
  ·have hkl:k < M.entries.length:=by rw [Hn.out];exact hlt
   obtain ⟨g,cg,v,hev2,-,heh,k0,k1,k2,k3⟩:=Hent.out k hkl
   rw [Hev.out,Hn.out] at hev2
   cases hev2
   have Hsc:=zh (rowsTo_succ hkl)
   have hie:=Hok.out.ents _ (List.getElem_mem hkl)
   generalize M.entries[k]=e at *
   obtain ⟨v1,v2⟩:=v
   obtain ⟨p1,c1,e1⟩:=heh.data.slice
   obtain ⟨p2,c2,e2⟩:=heh.nodes.slice
   have e1':v1=.slice p1 e.data.length c1:=e1
   have e2':v2=.slice p2 e.nodes.length c2:=e2
   subst e1'
   subst e2'
   have HX:=zh (show EntIn w j g n ce M.number k e (.slice p1 e.data.length c1,.slice p2 e.nodes.length c2) from ⟨zAA Hc.out (i:=8) rfl,zAA Hc.out (i:=0) rfl,k0,k1,k2,k3⟩)
   have Heh:=zh heh
   have Hie:=zh hie
   have Hrn:=zh hrn
   generalize hm1:(zAU (M.rowsTo k)).length=m1 at *
   have Hm1:=zh hm1
   generalize hb0:M.number=b0 at *
   have Hb0:=zh hb0
   obtain ⟨x0,hx0⟩:∃ x0,x0=b0+k:=⟨_,rfl⟩
   obtain ⟨x1,hx1⟩:∃ x1,x1=b0+k+1:=⟨_,rfl⟩
   have hw1:IntKind.i64.wrap ((b0:Int)+(k:Int))=(x0:Int):=by rw [IntWalk.i64_in _ (by omega)];omega
   have hw2:IntKind.i64.wrap ((x0:Int)+1)=(x1:Int):=by rw [IntWalk.i64_in _ (by omega)];omega
   have hx40:x1≤4611686018427387904:=by omega
   have HX1:=zh hx1
   clear hkl heh e1 e2 hie hm1 hb0 hx0 hx1 k0 k1 k2 k3 hcr
   go_wp2_with fail
   have HBd:=zh (show Below w.heap.size w wr.drew from Hrn.out.bel.trans ((zAb wr).mono Hrn.out.bel.size))
   refine zAT (fun w':World=>w'.cell? ⟨j,8,none⟩=some (.slice (some ⟨g,0,none⟩) n ce)∧w'.cell? ⟨j,0,none⟩=some (.int .i64 (b0:Int))∧w'.cell? ⟨g,k * 4,none⟩=some (.int .i64 e.term)∧w'.cell? ⟨g,k * 4+1,none⟩=some (.int .i64 e.kind)∧w'.cell? ⟨g,k * 4+2,none⟩=some (.slice p1 e.data.length c1)∧w'.cell? ⟨g,k * 4+3,none⟩=some (.slice p2 e.nodes.length c2)) (n:=19) (by kernel_rfl) rfl ((zCU HX.out HBd.out).all) (fun hHeld=>?_)
   have HRd:=zh (show RowB w wr.drew (.slice py m1 cy) (zAU (M.rowsTo k)) from Hrn.out.next (zAb wr))
   generalize wr.drew=W5 at *
   refine otk 0 (v:=?v3x0) rfl ?_
   simp only [Act.put,uA,uB,uC]
   refine otk 1 (v:=?v3x1) rfl ?_
   simp only [Act.put,uA,uB,uC]
   refine otk 2 (v:=?v3x2) rfl ?_
   simp only [Act.put,uA,uB,uC]
   refine otk 3 (v:=?v3x3) rfl ?_
   simp only [Act.put,uA,uB,uC]
   refine otk 4 (v:=?v3x4) rfl ?_
   simp only [Act.put,uA,uB,uC]
   refine otk 5 (v:=?v3x5) rfl ?_
   simp only [Act.put,uA,uB,uC]
   refine otk 6 (v:=?v3x6) rfl ?_
   simp only [Act.put,uA,uB,uC]
   refine otk 7 (v:=?v3x7) rfl ?_
   simp only [Act.put,uA,uB,uC]
   refine otk 8 (v:=?v3x8) rfl ?_
   simp only [Act.put,uA,uB,uC]
   refine otk 9 (v:=?v3x9) rfl ?_
   simp only [Act.put,uA,uB,uC]
   refine otk 10 (v:=?v3x10) rfl ?_
   simp only [Act.put,uA,uB,uC]
   refine otk 11 (v:=?v3x11) rfl ?_
   simp only [Act.put,uA,uB,uC]
   refine otk 12 (v:=?v3x12) rfl ?_
   simp only [Act.put,uA,uB,uC]
   refine otk 13 (v:=?v3x13) rfl ?_
   simp only [Act.put,uA,uB,uC]
   refine otk 14 (v:=?v3x14) rfl ?_
   simp only [Act.put,uA,uB,uC]
   refine otk 15 (v:=?v3x15) rfl ?_
   simp only [Act.put,uA,uB,uC]
   refine zAG 16 rfl (by kernel_rfl) (by rfl) (fun K hK=>?_)
   have Her:=zh (rentry_calls (n:=x1) (Heh.out.below HBd.out) Hie.out hx40)
   unfold entV at Her
   dsimp only at Her
   go_wp2_with fail
   refine Her.out.mono ?_
   rintro r6 w6 ⟨z,rfl,hz,hzn,hb6⟩
   have HS6:=zh (show RowB w w6 (.slice py m1 cy) (zAU (M.rowsTo k)) from (HRd.out).next hb6)
   have HZ:=zh (OwnB.has hz)
   have Hh6:=zh (zCU HX.out HS6.out.bel).all
   have hzl:(zAK (entB x1 e)).length≤65812:=by
    rw [zAk]
    have h1:=zA8 Hie.out
    have h2:=entB_len2 (n:=x1) hx40 Hie.out
    omega
   obtain ⟨pz,cz,rfl,-⟩:=zAO hz
   clear hz hzn hb6 Her
   generalize hm2:(zAK (entB x1 e)).length=m3 at *
   have Hm2:=zh hm2
   clear hm2
   go_wp2_with fail
   refine hK.out _ _ (Hh6.out) (fun hHeld=>?_)
   clear hK
   try simp only [Act.put,uA,uB,uC]
   refine zAG 17 rfl (by kernel_rfl) (by rfl) (fun K hK=>?_)
   have Hrow7:=zh (show OwnR w6 5 1 (.slice py m1 cy) m1 (zAQ (zAU (M.rowsTo k))) from by have:=HS6.out.own;unfold OwnB at this;rwa [Hm1.out] at this)
   have Hxx7:=zh (show zAL w6 1 (.slice pz m3 cz) m3 (zAQ (zAK (entB x1 e))) from by have:=HZ.out;unfold HasB at this;rwa [Hm2.out] at this)
   refine zAj (.tmp 26) (.tmp 42) 22 rfl 5 i0 (.int .u8 0) 1 1 Tryz.underlying22 hi hz0 hz1 hz2 rfl (by decide) (.slice py m1 cy) m1 _ rfl Hrow7.out (.slice pz m3 cz) m3 _ rfl Hxx7.out (zAM _) (by unfold maxLen;omega) (by omega) ?_
   intro v7 w7 hown hgrow hloc
   have HE7:=zh (RowB.grown (x:=zAK (entB x1 e)) HS6.out (by rw [Hm1.out,Hm2.out];exact hown) hgrow hloc)
   have Hh7:=zh (zCU HX.out HE7.out.bel).all
   obtain ⟨p7,c7,rfl⟩:=OwnR.shape hown
   clear hown hgrow hloc Hrow7 Hxx7
   refine hK.out _ _ (Hh7.out) (fun hHeld=>?_)
   clear hK
   try simp only [Act.put,uA,uB,uC]
   refine otk 18 (v:=?v3x18) rfl ?_
   simp only [Act.put,uA,uB,uC]
   refine wpAnyH_done (by kernel_rfl) ?_ _
   go_wp2_with fail
   go_roundw
   case rel=>exact ⟨k+1,_,by omega,by go_num,rfl,by rw [Hsc.out,← HX1.out];exact HE7.out⟩
   case measure=>simp [intOf];omega
  ·have hkn:n=k:=by omega
   subst hkn
   have hfl:decide ((n:Int) < (n:Int))=false:=by simp
   generalize hm1:(zAU (M.rowsTo n)).length=m1 at *
   have Hm1:=zh hm1
   rw [rowsTo_all (Nat.le_of_eq Hn.out)] at hrn
   have HRN:=zh hrn
   have hjr:=hcr
   clear hrn hm1 hcr Hent
   go_wp2_with fail
   clear c8r
   refine zAT (fun w':World=>w'.heap[j]?=some (RJC r (M.number:Int) M.term (.slice p m c) pre M.now M.vote dv (.slice pe n ce) M.dead)) (n:=12) (by kernel_rfl) rfl (hjr) (fun hHeld=>?_)
   have HBd:=zh (show Below w.heap.size w wr.drew from HRN.out.bel.trans ((zAb wr).mono HRN.out.bel.size))
   have HX:=zh (show HasB wr.drew (.slice py m1 cy) (zAU M.rows) from (HRN.out.next (zAb wr)).own.has)
   have HN4:=zh (show ∀ k,(Value.slice py m1 cy).ownBlock=some k→w.heap.size≤k∧k < wr.drew.heap.size from fun k hk=>⟨HRN.out.new k hk,OwnR.lt (HRN.out.next (zAb wr)).own hk⟩)
   clear hjr
   generalize wr.drew=W5 at *
   refine otc 0 (v:=?v6x0) rfl ?y6x0 ?_
   case y6x0=>(intro w hSw;have q3:=zAA hSw (i:=3) rfl;have q4:=zAA hSw (i:=4) rfl;go_simp;try with_reducible rfl)
   simp only [Act.put,uA,uB,uC]
   refine otc 1 (v:=?v6x1) rfl ?y6x1 ?_
   case y6x1=>(intro w hSw;have q3:=zAA hSw (i:=3) rfl;have q4:=zAA hSw (i:=4) rfl;go_simp;try with_reducible rfl)
   simp only [Act.put,uA,uB,uC]
   refine otc 2 (v:=?v6x2) rfl ?y6x2 ?_
   case y6x2=>(intro w hSw;have q3:=zAA hSw (i:=3) rfl;have q4:=zAA hSw (i:=4) rfl;go_simp;try with_reducible rfl)
   simp only [Act.put,uA,uB,uC]
   refine otc 3 (v:=?v6x3) rfl ?y6x3 ?_
   case y6x3=>(intro w hSw;have q3:=zAA hSw (i:=3) rfl;have q4:=zAA hSw (i:=4) rfl;go_simp;try with_reducible rfl)
   simp only [Act.put,uA,uB,uC]
   refine otc 4 (v:=?v6x4) rfl ?y6x4 ?_
   case y6x4=>(intro w hSw;have q3:=zAA hSw (i:=3) rfl;have q4:=zAA hSw (i:=4) rfl;go_simp;try with_reducible rfl)
   simp only [Act.put,uA,uB,uC]
   refine otc 5 (v:=?v6x5) rfl ?y6x5 ?_
   case y6x5=>(intro w hSw;have q3:=zAA hSw (i:=3) rfl;have q4:=zAA hSw (i:=4) rfl;go_simp;try with_reducible rfl)
   simp only [Act.put,uA,uB,uC]
   refine otc 6 (v:=?v6x6) rfl ?y6x6 ?_
   case y6x6=>(intro w hSw;have q3:=zAA hSw (i:=3) rfl;have q4:=zAA hSw (i:=4) rfl;go_simp;try with_reducible rfl)
   simp only [Act.put,uA,uB,uC]
   refine otc 7 (v:=?v6x7) rfl ?y6x7 ?_
   case y6x7=>(intro w hSw;have q3:=zAA hSw (i:=3) rfl;have q4:=zAA hSw (i:=4) rfl;go_simp;try with_reducible rfl)
   simp only [Act.put,uA,uB,uC]
   refine otc 8 (v:=?v6x8) rfl ?y6x8 ?_
   case y6x8=>(intro w hSw;(try dsimp only at hSw);go_simp;rw [if_neg (by omega)];try with_reducible rfl)
   simp only [Act.put,uA,uB,uC]
   refine otk 9 (v:=?v6x9) rfl ?_
   simp only [Act.put,uA,uB,uC]
   refine zAG 10 rfl (by kernel_rfl) (by rfl) (fun K hK=>?_)
   have Hwh:=zh (rj_disk (P:=Tryz.prog) (f:=168) (args:=#[.pointer (some ⟨r,0,none⟩),.string (sLog pre),.slice py m1 cy]) (Re:=Z) HF.out HBd.out fun v L own hR hown=>by
    have h1:=rwhole_calls hR (sLog pre) (by rw [hsl];omega) HX.out (by have h3:=Hrl.out n;rw [rowsTo_all (Nat.le_of_eq Hn.out)] at h3;omega) fun k hk=>⟨fun ho=>by have h1:=HF.out.hlt (hown k ho);have h2:=(HN4.out k hk).1;omega,(HN4.out k hk).2⟩
    rw [zBf] at h1
    rw [← HZ.out]
    exact h1)
   go_wp2_with fail
   refine Hwh.out.mono ?_
   rintro e w6 ⟨rfl,hst,hj6⟩
   have Hj6:=zh (hj6.trans Hc.out)
   have HE:=zh (And.intro hst hj6)
   clear Hwh hst hj6
   go_wp2_with fail
   refine hK.out _ _ (Hj6.out) (fun hHeld=>?_)
   clear hK
   try simp only [Act.put,uA,uB,uC]
   refine otk 11 (v:=?v6x11) rfl ?_
   simp only [Act.put,uA,uB,uC]
   refine wpAnyH_done (by kernel_rfl) ?_ _
   go_wp2_with fail
   go_ret
   exact ⟨rfl,HE.out.1,HE.out.2⟩
end
theorem run_ab {P:Program} (w:World) {t e:TypeId} {i:TypeInfo} (ht:P.underlying t=some (.slice e)) (hi:P.info? e=some i) (p:Option Addr) (len cap a b:Nat) (h:a≤b) (h2:b≤cap) :
  (Instr.slice t (.slice p len cap) (some (.int .i64 (a:Int))) (some (.int .i64 (b:Int))) none).run P w=.ok (.slice (if cap - a=0 then p else p.map fun x=>x.add (a * i.size)) (b - a) (cap - a)) w:=by
 have h1:(Instr.sliceBound (.int .i64 (b:Int)) cap .sliceAcap).run P w=.ok b w:=by
  rw [run_sliceBound _ _ _ _ _ (by omega) (by omega)]
  simp
 have h3:(Instr.sliceBound (.int .i64 (a:Int)) b .sliceB).run P w=.ok a w:=by
  rw [run_sliceBound _ _ _ _ _ (by omega) (by omega)]
  simp
 simp [Instr.slice,run_underlying ht,Instr.sliceBounds,h1,h3,sizeOf,typeInfo,hi,Result.andThen]
 by_cases hc:cap=a
 ·rw [if_pos hc,if_pos (by omega)]
 ·rw [if_neg hc,if_neg (by omega)]
section
variable {w w1 w2:World} {j r:Nat} {pre:ByteArray} {D:zAB} {M:JouM} {Hot Cold:Nat→Prop}
theorem rj_base (h:RJF w j r pre D M Hot Cold) (hb:Below w.heap.size w w2) {n2:Nat} {t2:Int} {g2:List Int} {gv2:Value} (hg:HasI w2 gv2 g2) (hnew:∀ k,gv2.ownBlock=some k→w.heap.size≤k∧k < w2.heap.size) (ok:({ M with number:=n2,term:=t2,group:=g2 }:JouM).OK) :
  zBF w j r pre Hot Cold (((w2.setCell ⟨j,0,none⟩ (.int .i64 (n2:Int))).setCell ⟨j,1,none⟩ (.int .i64 t2)).setCell ⟨j,2,none⟩ gv2) D { M with number:=n2,term:=t2,group:=g2 }:=by
 have hjl:=h.hlt h.jhot
 have hlt:∀ k,Hot k→k < w.heap.size:=fun k hk=>h.hlt hk
 have hcl:∀ k,Cold k→k < w.heap.size:=fun k hk=>h.clt hk
 obtain ⟨O,own,gv,dv,ev,vs,v,L,hJ,hR,hO,hC,hH⟩:=h.below hb
 have hS:Chg (fun k=>k=j) w2 (((w2.setCell ⟨j,0,none⟩ (.int .i64 (n2:Int))).setCell ⟨j,1,none⟩ (.int .i64 t2)).setCell ⟨j,2,none⟩ gv2):=((Chg.setCell w2 ⟨j,0,none⟩ _).trans (Chg.setCell _ ⟨j,1,none⟩ _) fun _ _ e=>e).trans (Chg.setCell _ ⟨j,2,none⟩ _) fun _ _ e=>e
 have hc:=zAE (zAE (zAE hJ.cells 0 (.int .i64 (n2:Int))) 1 (.int .i64 t2)) 2 gv2
 have hne:∀ k,gv2.ownBlock=some k→k≠j:=fun k hk e=>by
  have:=(hnew k hk).1
  omega
 have hcj:∀ k,Cold k→k≠j:=fun k hk e=>hJ.dis k hk (e ▸ hJ.oj)
 generalize ((w2.setCell ⟨j,0,none⟩ (.int .i64 (n2:Int))).setCell ⟨j,1,none⟩ (.int .i64 t2)).setCell ⟨j,2,none⟩ gv2=w3 at *
 have hJ':RJIn w3 j r pre O (fun k=>Cold k∨gv2.ownBlock=some k) { M with number:=n2,term:=t2,group:=g2 } gv2 dv ev vs:={
  cells:=by simpa using hc
  group:=zAL.chg hg hS fun k hk=>hne k hk
  data:=zAL.chg hJ.data hS fun k hk=>hcj k (hJ.cd k hk)
  row:=hJ.row.keep fun k hk=>hS.block k (hJ.olt k (hJ.oe k hk).1) (hJ.oe k hk).2
  rlen:=hJ.rlen
  rows:=fun i e v he hv=>(hJ.rows i e v he hv).keep fun k hk=>hS.block k (hJ.clt k (hJ.cv v (List.mem_of_getElem? hv) k hk)) (hcj k (hJ.cv v (List.mem_of_getElem? hv) k hk))
  oj:=hJ.oj
  oe:=hJ.oe
  cg:=fun k hk=>.inr hk
  cd:=fun k hk=>.inl (hJ.cd k hk)
  cv:=fun u hu k hk=>.inl (hJ.cv u hu k hk)
  dis:=fun k hk ho=>by
   rcases hk with hk | hk
   ·exact hJ.dis k hk ho
   ·have h1:=(hnew k hk).1
    have h2:=hlt k ((hH k).2 (.inl ho))
    omega
  olt:=fun k hk=>Nat.lt_of_lt_of_le (hJ.olt k hk) hS.size
  clt:=fun k hk=>Nat.lt_of_lt_of_le (hk.elim (hJ.clt k) fun e=>(hnew k e).2) hS.size
  psz:=hJ.psz
  ok:=ok }
 refine ⟨Hot,_,⟨O,own,gv2,dv,ev,vs,v,L,hJ',hR.keep hS.size (fun k hk=>hS.block k (hR.olt k hk) fun e=>hO j hJ.oj (e ▸ hk)),hO,fun k hk ho=>?_,hH⟩,((Chg.of_below hb).mono fun _ _ h=>h.elim).trans (hS.mono fun k _ e=>(hH k).2 (.inl (e ▸ hJ.oj))) fun _ _ h=>h,fun k hk=>.inl hk,fun k hk=>hk.imp id fun e=>(hnew k e).1⟩
 rcases hk with hk | hk
 ·exact hC k hk ho
 ·have h1:=(hnew k hk).1
  have h2:=hlt k ((hH k).2 (.inr ho))
  omega
theorem rj_drop (h:RJF w j r pre D M Hot Cold) (hb:Below w.heap.size w w2) {k:Nat} {p:Option Addr} {n c:Nat} {vs:List EV} {ev gv dv:Value} {O own:Nat→Prop} {v0:Value} {L:List zAN} (hJ:RJIn w j r pre O Cold M gv dv ev vs) (hR1:zAY w r v0 L own D) (hO:∀ k,O k→¬ own k) (hCo:∀ k,Cold k→¬ own k) (hH:∀ k,Hot k ↔ O k∨own k)
  (hown:OwnR w2 50 4 (.slice p n c) n (zA1 (M.entries.drop k) (vs.drop k))) (hn:n=(M.entries.drop k).length) (hnew:∀ y,(Value.slice p n c).ownBlock=some y→w.heap.size≤y) :
  zBF w j r pre Hot Cold (w2.setCell ⟨j,8,none⟩ (.slice p n c)) D { M with entries:=M.entries.drop k }:=by
 have hok:=h.okM
 subst hn
 refine rj_list (C':=Cold) (vs':=vs.drop k) hJ hR1 hO hCo hH ((Chg.of_below hb).mono fun _ _ h=>h.elim) hown (fun y hy=>.inr (hnew y hy)) (by rw [List.length_drop,List.length_drop,hJ.rlen]) (fun i e v he hv=>?_) (fun u hu y hy=>hJ.cv u (List.mem_of_mem_drop hu) y hy) (fun _ h=>h) (fun y hy=>⟨.inl hy,Nat.lt_of_lt_of_le (hJ.clt y hy) hb.size,fun e=>by have h1:=hnew y e;have h2:=hJ.clt y hy;omega⟩) ⟨?_,hok.term,hok.group,hok.now,hok.vote,hok.data,fun e he=>hok.ents e (List.mem_of_mem_drop he)⟩
 ·rw [List.getElem?_drop] at he hv
  exact (hJ.rows _ e v he hv).below hb
 ·have h1:=hok.last
  unfold JouM.last at h1 ⊢
  show M.number+(M.entries.drop k).length≤_
  rw [List.length_drop]
  omega
end
end Go.Proofs.YtapfnehdgailmaaGreat
