/- What the program's functions and the document's do, and plain laws, for PJournalKept. -/
import Derived.Test.YtapfnehdgailmaaGreatMA
import Derived.Test.YtapfnehdgailmaaGreatME
import Derived.Test.YtapfnehdgailmaaGreatMG
import Derived.Test.YtapfnehdgailmaaGreatMJ
import Derived.Test.YtapfnehdgailmaaGreatMK
import Derived.Test.YtapfnehdgailmaaGreatMO
open Go.Proofs.Tryz
set_option maxRecDepth 100000
set_option maxHeartbeats 64000000
namespace Go.Proofs.YtapfnehdgailmaaGreat
open Go.RowKit Go.Sat Go.Maps
section
variable {w w1 w2:World} {j r:Nat} {pre:ByteArray} {D:zAA} {M:zAH} {Hot Cold:Nat→Prop}
theorem rj_data (h:RJF w j r pre D M Hot Cold)(a:Below w.heap.size w w2){m:Bs}{v2:Value}(G:zAY w2 v2 m)(d:∀k,v2.ownBlock=some k→w.heap.size≤k∧k<w2.heap.size)(ok:({M with data:=m}:zAH).OK) :
  zAs w j r pre Hot Cold (w2.setCell ⟨j,7,none⟩ v2) D {M with data:=m}:=by
 have H:=h.hlt h.jhot;have g:∀k,Hot k→k<w.heap.size:=fun k b=>h.hlt b;obtain⟨O,own,t,dv,s,vs,v,L,c,z,y,C,n⟩:=h.below a;have hS:Chg (fun k=>k=j) w2 (w2.setCell ⟨j,7,none⟩ v2):=Chg.setCell w2 ⟨j,7,none⟩ _;have E:=zAD c.cells 7 v2;have p:∀k,v2.ownBlock=some k→k≠j:=fun k b e=>by
  have:=(d k b).1;omega
 have f:∀k,Cold k→k≠j:=fun k b e=>c.dis k b (e▸c.oj);generalize w2.setCell ⟨j,7,none⟩ v2=w3 at *;have o:zFx w3 j r pre O (fun k=>Cold k∨v2.ownBlock=some k) {M with data:=m} t v2 s vs:={
  cells:=by simpa using E
  group:=zAM.chg c.group hS fun k b=>f k (c.cg k b)
  data:=zAM.chg G hS fun k b=>p k b
  row:=c.row.keep fun k b=>hS.block k (c.olt k (c.oe k b).1) (c.oe k b).2
  rlen:=c.rlen
  rows:=fun i e v F q=>(c.rows i e v F q).keep fun k b=>hS.block k (c.clt k (c.cv v (List.mem_of_getElem? q) k b)) (f k (c.cv v (List.mem_of_getElem? q) k b))
  oj:=c.oj
  oe:=c.oe
  cg:=fun k b=>.inl (c.cg k b)
  cd:=fun k b=>.inr b
  cv:=fun u I k b=>.inl (c.cv u I k b)
  dis:=fun k b l=>by
   rcases b with b|b
   ·exact c.dis k b l
   ·have A:=(d k b).1;have B:=g k ((n k).2 (.inl l));omega
  olt:=fun k b=>Nat.lt_of_lt_of_le (c.olt k b) hS.size
  clt:=fun k b=>Nat.lt_of_lt_of_le (b.elim (c.clt k) fun e=>(d k e).2) hS.size
  psz:=c.psz
  ok:=ok}
 refine⟨Hot,_,⟨O,own,t,v2,s,vs,v,L,o,z.keep hS.size (fun k b=>hS.block k (z.olt k b) fun e=>y j c.oj (e▸b)),y,fun k b l=>?_,n⟩,((Chg.of_below a).mono fun _ _ h=>h.elim).trans (hS.mono fun k _ e=>(n k).2 (.inl (e▸c.oj))) fun _ _ h=>h,fun k b=>.inl b,fun k b=>b.imp id fun e=>(d k e).1⟩;rcases b with b|b
 ·exact C k b l
 ·have A:=(d k b).1;have B:=g k ((n k).2 (.inr l));omega
theorem holds_keep0 {w w':World}{S:Nat→Prop}{size n:Nat}{v:Value}{xs:List Value}(h:zAM w size v n xs)(g:Chg S w w')(c:xs≠[]→∀k,v.ownBlock=some k→¬S k):zAM w' size v n xs:=by
 by_cases d:xs=[]
 ·subst d;obtain⟨j,p,b,rfl,f,-⟩:=h;exact⟨j,p,b,rfl,f,fun a m i u l=>by simp at l⟩
 ·exact zAM.chg h g (c d)
theorem ne_of_bytes {b:Bs}(h:zAQ b≠[]):b≠[]:=fun e=>h (by rw[e];rfl)
theorem zGX (h:RJF w1 j r pre D M Hot Cold){n2:Nat}{t2:Int}{g2:List Int}{dd:Bs}(cu:M.entries.length≤1000000)(bY:M.number<n2)(hs:(⟨n2,t2,g2,dd⟩:zC8).OK)(hd:dd.length≤524288){pg pd:Option Addr}{cg cd:Nat}(hg:zBg w1 (.slice pg g2.length cg) g2)(bm:∀k,(Value.slice pg g2.length cg).ownBlock=some k→¬Hot k)(aE:zAY w1 (.slice pd dd.length cd) dd)(bl:dd≠[]→∀k,(Value.slice pd dd.length cd).ownBlock=some k→¬Hot k) :
  Calls prog 120 #[.pointer (some ⟨j,0,none⟩),.agg #[.int .i64 (n2:Int),.int .i64 t2,.slice pg g2.length cg],.slice pd dd.length cd] w1 (zB1 w1 j r pre Hot Cold (zA0 (nm pre) D M ⟨n2,t2,g2,dd⟩)):=by
 obtain⟨i0,hi,ag,ah,aG⟩:=info_parts (show(prog.info? 5).map (fun i=>(i.zero,i.size,i.bytes))=some (some (.int .u8 0),1,1) by kernel_rfl);have cv:n2≤1099511627776:=hs.number;have cB:=zAl.1 (show zDG t2=true from hs.term);have ci:g2.length≤7:=(zES hs.group).2;have be:=zCi (show zAX g2=true from hs.group);have Hs:=zh hs;have bZ:=h.hlt h.jhot;have bk:=zA9 [(n2:Int),t2];have ck:(zAp [(n2:Int),t2]).length≤18:=by simpa using bk
 have cj:=zGD g2 (by omega);have Hz:=zW (∀z∈g2,-9223372036854775808≤z∧z≤9223372036854775807) (fun z hz=>by have:=be.2 z hz;omega);unfold zBg at hg;unfold zAY at aE;generalize bf:g2.length=gl at *;generalize bc:dd.length=dl at *;have I:=zh bf;have ax:=zh bc;have Hg:=zh hg;have aR:=zh aE;have aU:=zh bm;have bO:=zh bl;have H:=zh h;have bH:=zh (zAJ w1 (.cells #[.int .i64 (n2:Int),.int .i64 t2,.slice pg gl cg] 82));have bu:=zh (zAC w1 (.cells #[.int .i64 (n2:Int),.int .i64 t2,.slice pg gl cg] 82));have S:=zh (show zA0 (nm pre) D M ⟨n2,t2,g2,dd⟩=if(D.save (zBR (nm pre)) (zEj n2 t2 g2 dd)).2≠0 then⟨(D.save (zBR (nm pre)) (zEj n2 t2 g2 dd)).1,M.die,(D.save (zBR (nm pre)) (zEj n2 t2 g2 dd)).2⟩
  else if(zAT (D.save (zBR (nm pre)) (zEj n2 t2 g2 dd)).1 (nm pre) (M.rebase ⟨n2,t2,g2,dd⟩)).2≠0 then⟨(zAT (D.save (zBR (nm pre)) (zEj n2 t2 g2 dd)).1 (nm pre) (M.rebase ⟨n2,t2,g2,dd⟩)).1,(M.rebase ⟨n2,t2,g2,dd⟩).die,(zAT (D.save (zBR (nm pre)) (zEj n2 t2 g2 dd)).1 (nm pre) (M.rebase ⟨n2,t2,g2,dd⟩)).2⟩
  else⟨(zAT (D.save (zBR (nm pre)) (zEj n2 t2 g2 dd)).1 (nm pre) (M.rebase ⟨n2,t2,g2,dd⟩)).1,M.rebase ⟨n2,t2,g2,dd⟩,0⟩from rfl)
 generalize zA0 (nm pre) D M ⟨n2,t2,g2,dd⟩=aH at *;generalize bb:D.save (zBR (nm pre)) (zEj n2 t2 g2 dd)=Z1 at *;have bB:=zh bb;clear bb;have cw:=h.psz;have bn:(sSnp pre).size=pre.size+5:=zGb pre;obtain⟨gv,dv,ev,s⟩:=h.cellsD;have C3:=zW (w1.cell? ⟨j,3,none⟩=some (.pointer (some ⟨r,0,none⟩))) (zAG s rfl);have C4:=zW (w1.cell? ⟨j,4,none⟩=some (.string pre)) (zAG s rfl);have CJ:=zh s;clear s;have cA:(zE5 dd).length≤600000:=by
  have J:=zAg (n:=dd.length) (by omega);have h2:(zE5 dd).length=(zD8 dd.length).length+dd.length:=by unfold zE5;rw[List.length_append]
  omega
 have HT:=zW (zAp [(n2:Int),t2]++zDq g2++zE5 dd=zEj n2 t2 g2 dd) (by
  have J:zDf (n2:Int)=zD8 n2:=zB8 (by omega);simp[zAp,zEj,J])
 clear h hs bf bc hg aE bm bl bk be
 go_enter func120,ntmps120
 go_wp2_with fail;generalize bV:w1.alloc (.cells #[.int .i64 (n2:Int),.int .i64 t2,.slice pg gl cg] 82)=WA at *;have bW:WA.heap[w1.heap.size]?=some (.cells #[.int .i64 (n2:Int),.int .i64 t2,.slice pg gl cg] 82 (0,0)):=bH.o;have d:=zW (Below w1.heap.size w1 WA.drew) (bu.o.trans ⟨rfl,rfl,rfl,Nat.le_refl _,fun _ _=>rfl⟩);clear bV;refine ost (fun w':World=>w'.heap[w1.heap.size]?=some (.cells #[.int .i64 (n2:Int),.int .i64 t2,.slice pg gl cg] 82 (0,0))) 11 ((bW:WA.drew.heap[w1.heap.size]?=_)) fun b=>?_;generalize WA.drew=W1 at *;refine Pl [0,1,2,3,6,7] ?_
 iterate 6 (refine Pd rfl (by intro w az;have p0:=zAd az;have p1:=zAn az;have p2:=zAo az;go_simp;try with_reducible rfl) ?_;simp only[uZ])
 refine Pn ?_;refine oon 4 rfl fun K m=>?_;have HI:=zh (hasI_two W1 (n2:Int) t2 (W1.heap.size) rfl);have ar:=zh (zAC W1 (.cells #[.int .i64 (n2:Int),.int .i64 t2] 3));have g:=zh b;have bD:=zh ((zDU W1 (.cells #[.int .i64 (n2:Int),.int .i64 t2] 3) (zAB b)).trans b);go_wp2_with fail;refine m.o _ _ (bD.o) fun b=>?_;clear m
 try simp only[uZ]
 refine oon 5 rfl fun K m=>?_;have aT:=zh (zB5 HI.o (by simp;omega) (by simp));go_wp2_with fail;refine aT.o.mono ?_;rintro e w3 ⟨x,rfl,aF,bp,aA⟩;have bE:=zh ((aA.block _ (zAB b)).trans b);have aK:=zW (zCm W1 w3 x (zAp [(n2:Int),t2])) (⟨aF,fun k hk=>Nat.le_trans ar.o.size (bp k hk),ar.o.trans (aA.mono ar.o.size)⟩);obtain⟨px,cx,rfl,-⟩:=zAN aF;clear aF bp aA;generalize aY:(zAp [(n2:Int),t2]).length=m2 at *;have O:=zh aY;clear aY;go_wp2_with fail;refine m.o _ _ (bE.o) fun b=>?_;clear m
 try simp only[uZ]
 refine oon 8 rfl fun K m=>?_;have bN:=zh (zC6 (w:=w3) (p:=pg) (n:=gl) (c:=cg) (l:=g2) (by have:=Hg.o;unfold zBg;rw[I.o];exact zAM.chg this (Chg.of_below (d.o.trans (aK.o.bel.mono d.o.size))) fun _ _=>id) Hz.o (by rw[I.o];omega));go_wp2_with fail;refine bN.o.mono ?_;rintro e w4 ⟨y,rfl,hy,cb,aB⟩;have bF:=zh ((aB.block _ (zAB b)).trans b);have aL:=zh (aK.o.next aB);have bA:=zh (zAk.has hy);obtain⟨py,cy,rfl,-⟩:=zAN hy;clear hy cb aB;generalize aZ:(zDq g2).length=m3 at *;have Q:=zh aZ;clear aZ;go_wp2_with fail;refine m.o _ _ (bF.o) fun b=>?_;clear m
 try simp only[uZ]
 have a:=zh (show OwnR w4 5 1 (.slice px m2 cx) m2 (zAQ (zAp [(n2:Int),t2])) by have:=aL.o.own;unfold zAk at this;rwa[O.o]at this);have A:=zh (show zAM w4 1 (.slice py m3 cy) m3 (zAQ (zDq g2)) by have:=bA.o;unfold zAY at this;rwa[Q.o]at this);refine oon 9 rfl fun K m=>?_;refine zAq (.tmp 14) (.tmp 17) 22 rfl 5 i0 (.int .u8 0) 1 1 underlying22 hi ag ah aG rfl (by decide) (.slice px m2 cx) m2 _ rfl a.o (.slice py m3 cy) m3 _ rfl A.o (zAO _) (by unfold maxLen;omega) (by omega) ?_;intro v5 w5 B F X;have R:=zh (zCm.grown (x:=zDq g2) aL.o (by rw[O.o,Q.o];exact B) F X);have bG:=zh ((R.o.bel.block _ (zAB g.o)).trans g.o);obtain⟨p5,c5,rfl⟩:=OwnR.shape B;clear B F X a A;refine m.o _ _ (bG.o) fun b=>?_;clear m
 try simp only[uZ]
 refine otk 10 (v:=?v1x10) rfl ?_;simp only[uZ];refine odn ?_;go_wp2_with fail;have bS:=zAI C3.out (d.o.trans (R.o.bel.mono d.o.size));have bT:=zAI C4.out (d.o.trans (R.o.bel.mono d.o.size));have bz:=zW (Below w1.heap.size w1 w5.drew) ((d.o.trans (R.o.bel.mono d.o.size)).trans ⟨rfl,rfl,rfl,Nat.le_refl _,fun _ _=>rfl⟩);have bx:=zh (R.o.next (zAU w5));have bM:=zW (zAY w1 (.slice pd dl cd) dd) (by unfold zAY;rw[ax.o];exact aR.o);refine ost (fun w':World=>w'.cell? ⟨j,3,none⟩=some (.pointer (some ⟨r,0,none⟩))∧w'.cell? ⟨j,4,none⟩=some (.string pre)) 15 ((And.intro (bS:w5.drew.cell? _=_) (bT:w5.drew.cell? _=_))) fun b=>?_;generalize w5.drew=W6 at *;refine Pl [0,1,2,3,4,5,6,7,8,9,10] ?_
 iterate 11 (refine Pc rfl ?_;simp only[uZ])
 refine Pn ?_;refine oon 11 rfl fun K m=>?_;have bI:=zh (zGR (w:=W6) (p:=pd) (n:=dl) (c:=cd) (l:=dd) (zAM.chg bM.o (Chg.of_below bz.o) fun _ _=>id) (by rw[ax.o];omega));go_wp2_with fail;refine bI.o.mono ?_;rintro e w7 ⟨z,rfl,hz,cc,ae⟩;have bJ:=zh (And.intro (zAI b.1 ae) (zAI b.2 ae));have aM:=zh (bx.o.next ae);have bC:=zh (zAk.has hz);obtain⟨pz,cz,rfl,-⟩:=zAN hz;clear hz cc ae;generalize ba:(zE5 dd).length=m4 at *;have aw:=zh ba;clear ba;go_wp2_with fail;refine m.o _ _ (bJ.o) fun b=>?_;clear m
 try simp only[uZ]
 have a:=zh (show OwnR w7 5 1 (.slice p5 (m2+m3) c5) (m2+m3) (zAQ (zAp [(n2:Int),t2]++zDq g2)) by have:=aM.o.own;unfold zAk at this;rwa[List.length_append,O.o,Q.o]at this);have A:=zh (show zAM w7 1 (.slice pz m4 cz) m4 (zAQ (zE5 dd)) by have:=bC.o;unfold zAY at this;rwa[aw.o]at this);refine oon 12 rfl fun K m=>?_;refine zAq (.tmp 28) (.tmp 30) 22 rfl 5 i0 (.int .u8 0) 1 1 underlying22 hi ag ah aG rfl (by decide) (.slice p5 (m2+m3) c5) (m2+m3) _ rfl a.o (.slice pz m4 cz) m4 _ rfl A.o (zAO _) (by unfold maxLen;omega) (by omega) ?_;intro v8 w8 C G Y;have ac:=zh (zCm.grown (x:=zE5 dd) aM.o (by rw[List.length_append,O.o,Q.o,aw.o];exact C) G Y);have t:=zh (d.o.trans (ac.o.bel.mono d.o.size));have bK:=zh (And.intro (zAI C3.out t.o) (zAI C4.out t.o));obtain⟨p8,c8,rfl⟩:=OwnR.shape C;clear C G Y a A;refine m.o _ _ (bK.o) fun b=>?_;clear m
 try simp only[uZ]
 refine oon 13 rfl fun K m=>?_;have bw:=zW ((zEj n2 t2 g2 dd).length=m2+m3+m4) (by rw[←HT.o,List.length_append,List.length_append,O.o,Q.o,aw.o]);have bR:=zW (zAY w8 (.slice p8 (m2+m3+m4) c8) (zEj n2 t2 g2 dd)) (by have:=ac.o.own.has;rwa[HT.o]at this);have bQ:=zh (rj_disk (P:=prog) (f:=138) (args:=#[.pointer (some ⟨r,0,none⟩),.string (sSnp pre),.slice p8 (m2+m3+m4) c8]) (Re:=Z1) (H.o.below t.o) (Below.refl _ _) fun v L own hR Z=>by
  have J:=rsave_calls hR (sSnp pre) (by rw[bn];omega) bR.o (by rw[bw.o];omega);rw[nm_snp]at J;rw[←bB.o];exact J)
 go_wp2_with fail;refine bQ.o.mono ?_;rintro e w9 ⟨rfl,bo,bj⟩;have ab:=zh (bj.trans ((t.o.block j bZ).trans CJ.out));have bL:=zW (w9.cell? ⟨j,3,none⟩=some (.pointer (some ⟨r,0,none⟩))∧w9.cell? ⟨j,4,none⟩=some (.string pre)) (⟨zBI ab.o,cell4 ab.o⟩);have aO:=zh bo;clear bo bj;go_wp2_with fail;refine m.o _ _ (bL.o) fun b=>?_;clear m
 try simp only[uZ]
 refine otk 14 (v:=?v2x14) rfl ?_;simp only[uZ];refine odn ?_;obtain⟨D1,e1⟩:=Z1;dsimp only at aO;obtain⟨ak,N,ad,q,af,E⟩:=aO.o;have T:w9.heap[w1.heap.size]?=some (.cells #[.int .i64 (n2:Int),.int .i64 t2,.slice pg gl cg] 82 (0,0)):=(q.block w1.heap.size (zAB ((ac.o.bel.block _ (zAB g.o)).trans g.o)) fun ho=>by have:=H.o.hlt ho;omega).trans ((ac.o.bel.block _ (zAB g.o)).trans g.o);have aJ:=zh ad;have aV:=zh (zAs.since ⟨ak,N,ad,q,af,E⟩ t.o)
 by_cases he:e1=0
 ·subst he;have ao:zBg w9 (.slice pg gl cg) g2:=zAM.chg (show zBg w8 (.slice pg gl cg) g2 by unfold zBg;rw[I.o];exact zAM.chg Hg.o (Chg.of_below t.o) fun _ _=>id) q fun k hk=>aU.o k hk;have y0:=zAd T;have y1:=zAn T;have y2:=zAo T;have bP:=zW (Calls prog 92 #[.pointer (some ⟨j,0,none⟩),.agg #[.int .i64 (n2:Int),.int .i64 t2,.slice pg gl cg]] w9 fun e w'=>e=.returned (.tuple #[])∧zAs w9 j r pre ak N w' D1 (M.rebase ⟨n2,t2,g2,M.data⟩)) (by
   have J:=zFe (pg:=pg) (cg:=cg) (g2:=g2) (t2:=t2) aJ.o bY ⟨Hs.o.number,Hs.o.term,Hs.o.group,aJ.o.okM.data⟩ (by rw[I.o];exact ao) (by rw[I.o];exact fun k hk e=>aU.o k hk (e▸H.o.jhot));rwa[I.o]at J)
  have au:=zh (And.intro q (And.intro af E));have ct:((0:Int)==0)=true:=by decide
  clear q af E ad T ao;go_wp2_with fail;refine bP.o.mono ?_;rintro e ai ⟨rfl,aq⟩;obtain⟨ce,bs,ay,V,bg,am⟩:=zAs.comp au.o.1 au.o.2.1 au.o.2.2 aq;have bv:=zh ay;have av:=zh (And.intro V (And.intro bg am));have A:=zW (zAM (ai.alloc (.cells #[] 5)) 1 (.slice pd dl cd) dl (zAQ dd)) (zAM.chg (holds_keep0 (zAM.chg aR.o (Chg.of_below t.o) fun _ _=>id) V fun ca=>bO.o (ne_of_bytes ca)) (Chg.of_below (zAC ai _)) fun _ _=>id);have aP:=zh (zBH ai 5);have aS:=zh (ay.cellsD);clear aq V bg am ay y0 y1 y2;go_wp2_with (at_builtin;refine zAP _ rfl (.tmp 39) (.tmp 40) 22 rfl 5 i0 (.int .u8 0) 1 1 underlying22 hi ag ah aG rfl (by decide) (.slice (some ⟨ai.heap.size,0,none⟩) 0 0) 0 [] rfl aP.o (.slice pd dl cd) dl _ rfl A.o (zAO _) (by unfold maxLen;omega) (by omega) ?_;intro cC br Z W ap;have HN:=zh (copy_new ax.o Z W ap);clear Z W ap A aP;obtain⟨cr,cn,cp,aC⟩:=aS.o;have U:=(HN.o.2.2.block j (zAB aC)).trans aC;have c7:=zAG U (i:=7) rfl;have f7:=zAE U 7;clear aC U;obtain⟨bq,aW,rfl,-⟩:=zAN HN.o.1)
  have aN:=zW (zAs w8 j r pre Hot Cold (br.setCell ⟨j,7,none⟩ (.slice bq dd.length aW)) D1 (M.rebase ⟨n2,t2,g2,dd⟩)) (zAs.comp av.o.1 av.o.2.1 av.o.2.2 (rj_data bv.o HN.o.2.2 HN.o.1.has (fun k hk=>⟨HN.o.2.1 k hk,OwnR.lt HN.o.1 hk⟩) (zGU H.o.okM Hs.o)));obtain⟨cf,bt,aX,al,bh,an⟩:=aN.o;have bX:(M.rebase ⟨n2,t2,g2,dd⟩).entries.length≤1000000:=by
   show(if M.number<n2∧M.termAt n2=some t2 then M.entries.drop (n2-M.number)else []).length≤_
   split
   ·rw[List.length_drop];omega
   ·simp
  have aQ:=zh (rjanew_calls aX bX);generalize br.setCell ⟨j,7,none⟩ (.slice bq dd.length aW)=cD at *
  try dsimp only at S
  generalize zAT D1 (nm pre) (M.rebase ⟨n2,t2,g2,dd⟩)=Z2 at *;obtain⟨D2,e2⟩:=Z2
  try dsimp only at S
  try dsimp only at aQ
  refine aQ.o.mono ?_;rintro e aI ⟨rfl,aa,bi⟩;obtain⟨cs,co,cq,aD⟩:∃gv dv ev,aI.heap[j]?=some (RJC r ((M.rebase ⟨n2,t2,g2,dd⟩).number:Int) (M.rebase ⟨n2,t2,g2,dd⟩).term gv pre (M.rebase ⟨n2,t2,g2,dd⟩).now (M.rebase ⟨n2,t2,g2,dd⟩).vote dv ev (M.rebase ⟨n2,t2,g2,dd⟩).dead):=by
   obtain⟨_,_,bU,_⟩:=aa;exact bU.cellsD
  have c9:=zAG aD (i:=9) rfl;have f9:=zAE aD 9;have aj:=zh ((zAs.comp al bh an aa).since t.o);clear aa bi aX al bh an aD
  by_cases bd:e2=0
  ·subst bd;have ch:((0:Int) != 0)=false:=by decide
   have HE:=zW (zB1 w1 j r pre Hot Cold aH (.returned (.int .i64 0)) aI) (by
    have J:=S.o;rw[if_neg (fun h=>h rfl),if_neg (fun h=>h rfl)]at J;rw[J];exact⟨rfl,aj.o⟩)
   clear c9 f9;go_wp2_with fail;go_ret;exact HE.o
  ·have cl:((e2:Int) != 0)=true:=by simp;omega
   have cm:((e2:Int)==0)=false:=by simp;omega
   have HE:=zW (zB1 w1 j r pre Hot Cold aH (.returned (.int .i64 (e2:Int))) (aI.setCell ⟨j,9,none⟩ (.bool true))) (by
    have J:=S.o;rw[if_neg (fun h=>h rfl),if_pos bd]at J;rw[J];exact⟨rfl,zAs.trans aj.o fun _ _ hF=>rj_die hF⟩)
   go_wp2_with fail;go_ret;exact HE.o
 ·have ag:((e1:Int)==0)=false:=by simp;omega
  have ah:((e1:Int) != 0)=true:=by simp;omega
  have c9:=zAG ab.o (i:=9) rfl;have f9:=zAE ab.o 9;have HE:=zW (zB1 w1 j r pre Hot Cold aH (.returned (.int .i64 (e1:Int))) (w9.setCell ⟨j,9,none⟩ (.bool true))) (by
   rw[S.o,if_pos he];exact⟨rfl,zAs.trans aV.o fun _ _ hF=>rj_die hF⟩)
  clear q af E ad T;go_wp2_with fail;go_ret;exact HE.o
end
section
variable {w w1 w2:World} {j r:Nat} {pre:ByteArray} {D:zAA} {M:zAH} {Hot Cold:Nat→Prop}
theorem rjcompact_calls (h:RJF w1 j r pre D M Hot Cold)(P:M.entries.length≤1000000)(i:Int)(hi:-9223372036854775808≤i∧i≤9223372036854775807){pd:Option Addr}{n cd:Nat}{b:Bs}(hn:b.length=n)(Q:n≤140737488355328)(I:zAY w1 (.slice pd n cd) b)(S:b≠[]→∀k,(Value.slice pd n cd).ownBlock=some k→¬Hot k) :
  Calls prog 47 #[.pointer (some ⟨j,0,none⟩),.int .i64 i,.slice pd n cd] w1 (zB1 w1 j r pre Hot Cold (zAW (nm pre) D M i b)):=by
 obtain⟨gv,dv,ev,c⟩:=h.cellsD;have c9:w1.cell? ⟨j,9,none⟩=some (.bool M.dead):=zAG c rfl;have CJ:=zh c;have m:=zh (fun k w2 (hb:Below w1.heap.size w1 w2) (hr:zAW (nm pre) D M i b=⟨D,M,k⟩)=>rj_same h hr hb);have Y:=zW (zAW (nm pre) D M i b=if M.dead then⟨D,M,9⟩else if i≤(M.number:Int)∨(M.last:Int)<i∨524288<b.length then⟨D,M,1⟩else zA0 (nm pre) D M ⟨i.toNat,(M.termAt i).getD 0,(M.grpIn (i.toNat-M.number)).1,b⟩) rfl;have d:=zh (zDr h.new i hi);have g:=h.okM;have f:=g.last;cases B:M.dead with
 | true =>
  rw[B]at c9;have s:=zh (m.o 9 w1 (Below.refl _ _) (by rw[Y.o,B];rfl));clear h c
  go_enter func47,ntmps47
  go_wp2_with fail;go_ret;exact s.o
 | false =>
  rw[B]at c9
  by_cases l:(M.number:Int)<i∧i≤(M.last:Int)
  ·have O:(M.last:Int)=(M.number:Int)+(M.entries.length:Int):=by unfold zAH.last;omega
   obtain⟨t,K⟩:∃t,M.termAt i=some t:=by
    have ae:(i-(M.number:Int)-1).toNat<M.entries.length:=by omega
    exact⟨_,zFa l.1 (List.getElem?_eq_getElem ae)⟩
   rw[K]at d;simp only[Option.getD_some,Option.isSome_some]at d;have A:∀q,(w1.drewN q).cell? ⟨j,0,none⟩=some (.int .i64 (M.number:Int)):=fun q=>zAd CJ.out;have af:((i:Int)==(M.number:Int))=false:=by simp;omega
   by_cases y:524288<n
   ·have H:decide (524288<(n:Int))=true:=by simp;omega
    have s:=zh (fun q=>m.o 1 (w1.drewN q) ⟨rfl,rfl,rfl,Nat.le_refl _,fun _ _=>rfl⟩ (by rw[Y.o,B,if_neg (by simp),if_pos (.inr (.inr (by rw[hn];exact y)))]));clear h c g f O l
    go_enter func47,ntmps47
    go_wp2_with fail;refine d.o.mono ?_;rintro e w2 ⟨rfl,q,rfl⟩;have Z:=A q;go_wp2_with fail;go_ret;exact s.o q
   ·have H:decide (524288<(n:Int))=false:=by simp;omega
    have ab:=zW (zAW (nm pre) D M i b=zA0 (nm pre) D M ⟨i.toNat,t,(M.grpIn (i.toNat-M.number)).1,b⟩) (by rw[Y.o,B,if_neg (by simp),if_neg (by rw[hn];omega),K];rfl);have T:=termAt_ok g K;have U:M.upto i=i.toNat-M.number:=by unfold zAH.upto;omega
    have L:=zFO g (i.toNat-M.number);have z:=zh (fun q=>zGY (h.drewN q).new i (by omega) hi.2);rw[U]at z;have N:((i.toNat:Nat):Int)=i:=by omega
    have C:=zh (fun W pg cg (hb:Below w1.heap.size w1 W) (V:zCp W (.slice pg (M.grpIn (i.toNat-M.number)).1.length cg) (M.grpIn (i.toNat-M.number)).1) (p:∀k,(Value.slice pg (M.grpIn (i.toNat-M.number)).1.length cg).ownBlock=some k→w1.heap.size≤k)=>show Calls prog 120 #[.pointer (some ⟨j,0,none⟩),.agg #[.int .i64 i,.int .i64 t,.slice pg (M.grpIn (i.toNat-M.number)).1.length cg],.slice pd n cd] W (zB1 w1 j r pre Hot Cold (zAW (nm pre) D M i b)) by
     have h1:=zGX (h.below hb) P (n2:=i.toNat) (t2:=t) (g2:=(M.grpIn (i.toNat-M.number)).1) (dd:=b) (by omega) ⟨by show i.toNat≤_;omega,T,L,by show b.length≤_;omega⟩ (by omega) (pg:=pg) (cg:=cg) (pd:=pd) (cd:=cd) (OwnR.holds V) (fun k hk ho=>by have h1:=p k hk;have h2:=h.hlt ho;omega) (by rw[hn];exact zAM.chg I (Chg.of_below hb) fun _ _=>id) (by rw[hn];exact S);rw[N,hn]at h1;rw[ab.o];exact h1.mono fun e w' E=>⟨E.1,E.step.since hb⟩)
    clear h c g f O l T U N I S L K hn Q P hi y;generalize zAW (nm pre) D M i b=ag at *;generalize M.grpIn (i.toNat-M.number)=G at *;obtain⟨G1,G2⟩:=G;dsimp only at z C;generalize J:G1.length=gl at *;have ad:=zh J;clear J
    go_enter func47,ntmps47
    go_wp2_with fail;refine d.o.mono ?_;rintro e w2 ⟨rfl,q,rfl⟩;have Z:=A q;have ac:=zh (z.o q);go_wp2_with fail;clear Z A c9 af H;refine ac.o.mono ?_;rintro e w3 ⟨v,rfl,V,p,F⟩;have aa:=zh ((⟨rfl,rfl,rfl,Nat.le_refl _,fun _ _=>rfl⟩:Below w1.heap.size w1 (w1.drewN q)).trans F);obtain⟨pg,cg,X⟩:=OwnR.shape V;rw[ad.o]at X;subst X;have Hs:=zh (C.o w3 pg cg aa.o V p);clear V p F;go_wp2_with fail;refine Hs.o.mono ?_;rintro e w4 E;have s:=zh E;obtain⟨rfl,-⟩:=E;go_wp2_with fail;go_ret;exact s.o
  ·have R:i≤(M.number:Int)∨(M.last:Int)<i:=by omega
   have s:=zh (fun q=>m.o 1 (w1.drewN q) ⟨rfl,rfl,rfl,Nat.le_refl _,fun _ _=>rfl⟩ (by rw[Y.o,B,if_neg (by simp),if_pos (by omega)]));have A:∀q,(w1.drewN q).cell? ⟨j,0,none⟩=some (.int .i64 (M.number:Int)):=fun q=>zAd CJ.out
   by_cases a:i=(M.number:Int)
   focus rw[a,zFv]at d;simp only[Option.getD_some,Option.isSome_some]at d;subst a
   rotate_left
   focus rw[termAt_no l a]at d;simp only[Option.getD_none,Option.isSome_none]at d
   all_goals
    clear h c g f l R;go_enter func47,ntmps47;go_wp2_with fail;refine d.o.mono ?_;rintro e w2 ⟨rfl,q,rfl⟩;have Z:=A q;go_wp2_with fail;go_ret;exact s.o q
end
section
variable {w w1 w2:World} {j r:Nat} {pre:ByteArray} {D:zAA} {M:zAH} {Hot Cold:Nat→Prop}
theorem rjinstall_calls (h:RJF w1 j r pre D M Hot Cold)(J:M.entries.length≤1000000)(i t:Int)(hi:-9223372036854775808≤i∧i≤9223372036854775807){g:List Int}{pg:Option Addr}{F cg:Nat}(O:zBg w1 (.slice pg F cg) g)(I:g.length≤1099511627776)(N:g≠[]→∀k,(Value.slice pg F cg).ownBlock=some k→¬Hot k)
  {pd:Option Addr} {n cd:Nat} {b:Bs} (hn:b.length=n) (H:zAY w1 (.slice pd n cd) b) (L:b≠[]→∀k,(Value.slice pd n cd).ownBlock=some k→¬Hot k) :
  Calls prog 48 #[.pointer (some ⟨j,0,none⟩),.int .i64 i,.int .i64 t,.slice pg F cg,.slice pd n cd] w1 (zB1 w1 j r pre Hot Cold (zAa (nm pre) D M i t g b)):=by
 obtain⟨gv,dv,ev,d⟩:=h.cellsD;have T:w1.cell? ⟨j,9,none⟩=some (.bool M.dead):=zAG d rfl;have c0:w1.cell? ⟨j,0,none⟩=some (.int .i64 (M.number:Int)):=zAG d rfl;have a:=zh (fun k w2 (C:Below w1.heap.size w1 w2) (hr:zAa (nm pre) D M i t g b=⟨D,M,k⟩)=>rj_same h hr C);have P:=zW (zAa (nm pre) D M i t g b=if M.dead then⟨D,M,9⟩else if i≤(M.number:Int)∨1099511627776<i∨zDG t=false∨zAX g=false∨524288<b.length then⟨D,M,1⟩else zA0 (nm pre) D M ⟨i.toNat,t,g,b⟩) rfl;have m:=zh (zC7 O I);have s:g.length=F:=by obtain⟨_,_,e⟩:=O.slice;simp only[Value.slice.injEq]at e;exact e.2.1.symm
 have aa:=zh s;have Hn:=zh hn;have R:=zh (fun q (p:(M.number:Int)<i) (v:i≤1099511627776) (y:zDG t=true) (z:zAX g=true) (E:n≤524288) (A:M.dead=false)=>show Calls prog 120 #[.pointer (some ⟨j,0,none⟩),.agg #[.int .i64 i,.int .i64 t,.slice pg F cg],.slice pd n cd] (w1.drewN q) (zB1 w1 j r pre Hot Cold (zAa (nm pre) D M i t g b)) by
  have C:Below w1.heap.size w1 (w1.drewN q):=⟨rfl,rfl,rfl,Nat.le_refl _,fun _ _=>rfl⟩;have h9:=zGX (h.below C) J (n2:=i.toNat) (t2:=t) (g2:=g) (dd:=b) (by omega) ⟨by show i.toNat≤_;omega,y,z,by show b.length≤_;omega⟩ (by omega) (pg:=pg) (cg:=cg) (pd:=pd) (cd:=cd) (by rw[s];exact zAM.chg O (Chg.of_below C) fun _ _=>id) (by rw[s];exact N (by rintro rfl;simp[zAX]at z)) (by rw[hn];exact zAM.chg H (Chg.of_below C) fun _ _=>id) (by rw[hn];exact L);have V:((i.toNat:Nat):Int)=i:=by omega
  rw[V,hn,s]at h9;rw[P.o,A,if_neg (by simp),if_neg (by rw[y,z,hn];simp;omega)];exact h9.mono fun e w' G=>⟨G.1,G.step.since C⟩)
 have B:=zW (zDG t=true↔0≤t∧t≤1099511627776) zAl;clear h d O I N H L s hn J hi;generalize zAa (nm pre) D M i t g b=X at *;cases A:M.dead with
 | true =>
  rw[A]at T;have c:=zh (a.o 9 w1 (Below.refl _ _) (by rw[P.o,A];rfl))
  go_enter func48,ntmps48
  go_wp2_with fail;go_ret;exact c.o
 | false =>
  rw[A]at T;have Q:=zW (X=if i≤(M.number:Int)∨1099511627776<i∨zDG t=false∨zAX g=false∨524288<b.length then⟨D,M,1⟩else zA0 (nm pre) D M ⟨i.toNat,t,g,b⟩) (by rw[P.o,A];rfl);have Hd:=zh A;have l:=zh (fun q ho=>a.o 1 (w1.drewN q) ⟨rfl,rfl,rfl,Nat.le_refl _,fun _ _=>rfl⟩ (by rw[Q.o,if_pos ho]));clear A;generalize C:M.number=W at *
  by_cases p:i≤(W:Int)
  ·have Y:decide (i≤(W:Int))=true:=decide_eq_true p;have c:=zh (l.o 0 (.inl p));clear p
   go_enter func48,ntmps48
   go_wp2_with fail;go_ret;exact c.o
  have Y:decide (i≤(W:Int))=false:=decide_eq_false p
  by_cases v:1099511627776<i
  ·have Z:decide (1099511627776<i)=true:=decide_eq_true v;have c:=zh (l.o 0 (.inr (.inl v)));clear p v
   go_enter func48,ntmps48
   go_wp2_with fail;go_ret;exact c.o
  have Z:decide (1099511627776<i)=false:=decide_eq_false v
  by_cases y:t<0
  ·have K:decide (t<0)=true:=decide_eq_true y;have c:=zh (l.o 0 (.inr (.inr (.inl (by rw[Bool.eq_false_iff];intro e;have:=B.o.1 e;omega)))));clear p v y
   go_enter func48,ntmps48
   go_wp2_with fail;go_ret;exact c.o
  have K:decide (t<0)=false:=decide_eq_false y
  by_cases z:1099511627776<t
  ·have d4:decide (1099511627776<t)=true:=decide_eq_true z;have c:=zh (l.o 0 (.inr (.inr (.inl (by rw[Bool.eq_false_iff];intro e;have:=B.o.1 e;omega)))));clear p v y z
   go_enter func48,ntmps48
   go_wp2_with fail;go_ret;exact c.o
  have d4:decide (1099511627776<t)=false:=decide_eq_false z;have HT:=zh (B.o.2 ⟨by omega,by omega⟩);cases f:zAX g with
  | false =>
   rw[f]at m;have c:=zh (fun q=>l.o q (.inr (.inr (.inr (.inl f)))));clear p v y z f
   go_enter func48,ntmps48
   go_wp2_with fail;refine m.o.mono ?_;rintro e w2 ⟨rfl,q,rfl⟩;go_wp2_with fail;go_ret;exact c.o q
  | true =>
   rw[f]at m
   by_cases E:524288<n
   ·have d5:decide ((524288:Int)<(n:Int))=true:=decide_eq_true (by omega);have U:decide (524288<n)=true:=decide_eq_true E;have c:=zh (fun q=>l.o q (.inr (.inr (.inr (.inr (by rw[Hn.o];exact E))))));clear p v y z E f
    go_enter func48,ntmps48
    go_wp2_with fail;refine m.o.mono ?_;rintro e w2 ⟨rfl,q,rfl⟩;go_wp2_with fail;go_ret;exact c.o q
   ·have d5:decide ((524288:Int)<(n:Int))=false:=decide_eq_false (by omega);have U:decide (524288<n)=false:=decide_eq_false E;have Hs:=zh (fun q=>R.o q (by omega) (by omega) HT.o f (by omega) Hd.o);clear p v y z E f
    go_enter func48,ntmps48
    go_wp2_with fail;refine m.o.mono ?_;rintro e w2 ⟨rfl,q,rfl⟩;have S:=zh (Hs.o q);clear c0 T Y Z K d4;go_wp2_with fail;refine S.o.mono ?_;rintro e w4 G;have c:=zh G;obtain⟨rfl,-⟩:=G;go_wp2_with fail;go_ret;exact c.o
end
theorem rscan_calls {w:World}{p:Option Addr}{n c:Nat}{b:Bs}(h:zAY w (.slice p n c) b)(Z:n≤c)(hl:b.length≤1073741824) :
  Calls prog 88 #[.slice p n c] w (Scanned w b):=by
 obtain⟨i1,ad,-,ag,-⟩:=info_parts (show(prog.info? 5).map (fun i=>(i.zero,i.size,i.bytes))=some (some (.int .u8 0),1,1) by kernel_rfl);obtain⟨i0,hi,ah,ai,aj⟩:=info_parts (show(prog.info? 22).map (fun i=>(i.zero,i.size,i.bytes))=some (some (.slice none 0 0),1,24) by kernel_rfl);have hn:b.length=n:=by obtain⟨_,_,e⟩:=h.slice;simp only[Value.slice.injEq]at e;exact e.2.1.symm
 have ak:n≤1073741824:=by omega
 have H:=zh h;have Hn:=zh hn;have ab:=zh Z;clear h hn Z hl
 go_enter func88,ntmps88
 go_wp2_with fail
 go_loopw [4,5] (ScanRel w b n) (fun _ y _=>n-(intOf y).toNat)
 case atStart=>exact⟨0,_,[],[],Nat.zero_le _,rfl,rfl,Nat.zero_le _,zBa.nil _,⟨fun k hk=>(by cases hk),fun u hu=>(by simp at hu)⟩,Below.refl _ _,by simp,by simp⟩
 case round =>
  obtain⟨k,v,vs,ls,hk,rfl,rfl,al,A,a,X,f,l⟩:=hrel
  by_cases ae:k<n
  ·obtain⟨r0,af⟩:∃r0,(Value.slice p n c).ownBlock≠some r0:=by
    cases(Value.slice p n c).ownBlock with
    | none=>exact⟨0,by simp⟩
    | some g=>exact⟨g+1,by simp⟩
   obtain⟨p',c',an,hh,Y,-⟩:=run_tail (P:=prog) underlying22 ad ag (zAY.below H.o X) ab.o r0 k af (Nat.le_of_lt ae);have R:=zh (rdec_calls hh Y (by rw[List.length_drop,Hn.o];omega));have r:=zh (And.intro A (And.intro a (And.intro X (And.intro f l))));have ac:(b.drop k).length=n-k:=by rw[List.length_drop,Hn.o]
   clear hh Y A a X f l
   by_cases D:decE (b.drop k)=0
   ·have hL:=zEL D;rw[ac]at hL;have J:=zh (scan_go D);rw[List.drop_drop]at J;unfold zEG at R;rw[D]at R;generalize decL (b.drop k)=L at *;generalize decB (b.drop k)=x at *;clear D;go_wp2_with fail;refine R.o.mono ?_;rintro e w2 ⟨v2,rfl,N,M,s⟩;have C:=r.o.1.below s;have V:=zh N;have T:=zW (∀j,v2.ownBlock=some j→v.ownBlock≠some j) (fun j F e=>by have h1:=M j F;have h2:=OwnR.lt r.o.1.row e;omega);have aa:=zW (∀j,v2.ownBlock=some j→w.heap.size≤j) fun j F=>Nat.le_trans r.o.2.2.1.size (M j F);have I:=zh s;have S:=zh C;obtain⟨Q,O,rfl,-⟩:=zAN N;clear N M s C;generalize hq:x.length=q at *;have Hq:=zh hq;generalize hm:ls.length=m at *;have Hm:=zh hm;clear hq hm;have B:=zh (show OwnR w2 22 1 v m vs by have:=S.o.row;rwa[Hm.o]at this);go_wp2_with (at_builtin;have W:=B.o.keep (w':=w2.alloc (.cells #[.slice Q q O] 22)) (fun j F=>(zAv w2 _).block j (OwnR.lt B.o F));have K:=zDn w2 (.slice Q q O) 22 (0,0);refine zAP _ rfl (.tmp 23) (.tmp 25) 108 rfl 22 i0 (.slice none 0 0) 1 24 underlying108 hi ah ai aj rfl (by decide) v m _ rfl W (.slice (some ⟨w2.heap.size,0,none⟩) 1 1) 1 _ rfl K (by simp[Value.oneCell']) (by unfold maxLen;omega) (by omega) ?_;clear W K;intro v3 w3 z d t;go_loud (have hE:=zBa.push (b:=x) (S.o.below (zAv w2 (.cells #[.slice Q q O] 22))) (OwnR.keep V.o fun j F=>(zAv w2 _).block j (OwnR.lt V.o F)) T.o (by rw[Hm.o];exact z) d t;have hN:=zEI.push (u:=.slice Q q O) r.o.2.1 aa.o t (by have h1:=r.o.2.2.1.size;have h2:=I.o.size;have h3:=(zAv w2 (.cells #[.slice Q q O] 22)).size;omega);have hB:Below w.heap.size w w3:=by {have h1:=r.o.2.2.1.trans ((I.o.trans ((zAv w2 (.cells #[.slice Q q O] 22)).mono I.o.size)).mono r.o.2.2.1.size);exact((Chg.of_below h1).trans (Chg.of_grown d) fun j F e=>by have h5:=r.o.2.1.1 j e.symm;omega).below (Nat.le_refl _) fun _ _=>id};have G:=zh (And.intro hE (And.intro hN hB));clear hE hN hB d t;obtain⟨p3,q3,rfl⟩:=OwnR.shape z;clear z))
    go_roundw
    case rel=>exact⟨k+L,_,_,ls++[x],by omega,by go_num,rfl,by rw[List.length_append,Hm.o];simp;omega,G.o.1,G.o.2.1,G.o.2.2,by rw[r.o.2.2.2.1,J.o];simp,by rw[r.o.2.2.2.2,J.o];simp;omega⟩
    case measure=>simp[intOf];omega
   ·have U:=zh (zB6 (.inr D));have am:((decE (b.drop k):Int) != 0)=true:=by simp;omega
    unfold zEG at R;generalize decE (b.drop k)=E at *;generalize decL (b.drop k)=L at *;go_wp2_with fail;refine R.o.mono ?_;rintro e w2 ⟨v2,rfl,-,-,s⟩;have G:=zW (Scanned w b (.returned (.tuple #[v,.int .i64 (k:Int)])) w2) (⟨v,vs,by rw[r.o.2.2.2.2,U.o];rfl,by rw[r.o.2.2.2.1,U.o,List.append_nil];exact r.o.1.below s,r.o.2.1,r.o.2.2.1.trans (s.mono r.o.2.2.1.size)⟩);clear s;go_wp2_with fail
    go_ret2
    exact G.o
  ·have D:b.drop k=[]:=List.drop_of_length_le (by rw[Hn.o];omega);rw[D,zB6 (.inl rfl)]at f l;have G:=zW (Scanned w b (.returned (.tuple #[v,.int .i64 (k:Int)])) wr) (⟨v,vs,by rw[l];rfl,by rw[f,List.append_nil];exact A,a,X⟩);clear A a X f l D;go_wp2_with fail
   go_ret2
   exact G.o
def ROS (w:World)(F:Nat→Prop)(j r:Nat)(pre:ByteArray)(own:Nat→Prop)(W:World)(D:zAA)(M:zAH):Prop :=
 ∃Hot Cold,RJF W j r pre D M Hot Cold∧Chg own w W∧(∀k,Hot k∨Cold k→own k∨w.heap.size≤k)∧∀k,F k→k<W.heap.size∧¬Hot k∧¬Cold k
section
variable {w W W2:World} {F F' own:Nat→Prop} {j r:Nat} {pre:ByteArray} {D:zAA} {M:zAH}
theorem ROS.okM (h:ROS w F j r pre own W D M):M.OK:=let ⟨_,_,h,_⟩:=h;h.okM
theorem ROS.okD (h:ROS w F j r pre own W D M):D.OK:=let ⟨_,_,h,_⟩:=h;h.okD
theorem ROS.flt (h:ROS w F j r pre own W D M){k:Nat}(b:F k):k<W.heap.size:=let ⟨_,_,_,_,_,hf⟩:=h;(hf k b).1
theorem ROS.jlt (h:ROS w F j r pre own W D M):j<W.heap.size:=let ⟨_,_,h,_⟩:=h;h.hlt h.jhot
theorem ROS.fj (h:ROS w F j r pre own W D M){k:Nat}(c:F k):k≠j:=by
 obtain⟨_,_,h,_,_,b⟩:=h;exact fun e=>(b k c).2.1 (e▸h.jhot)
theorem ROS.cells (h:ROS w F j r pre own W D M):∃gv dv ev,W.heap[j]?=some (RJC r (M.number:Int) M.term gv pre M.now M.vote dv ev M.dead):=let ⟨_,_,h,_⟩:=h;h.cellsD
theorem ROS.next (h:ROS w F j r pre own W D M)(b:Below W.heap.size W W2):ROS w F j r pre own W2 D M:=by
 obtain⟨Hot,Cold,hF,f,g,c⟩:=h;exact⟨Hot,Cold,hF.below b,f.trans ((Chg.of_below b).mono (T:=own) fun _ _ e=>e.elim) fun _ _ h=>h,g,fun k d=>⟨Nat.lt_of_lt_of_le (c k d).1 b.size,(c k d).2⟩⟩
theorem ROS.same (h:ROS w F j r pre own W D M)(b:Below W.heap.size W W2):Same F W W2:=fun k c=>b.block k (h.flt c)
theorem ROS.less (h:ROS w F j r pre own W D M)(hF:∀k,F' k→F k):ROS w F' j r pre own W D M:=by
 obtain⟨Hot,Cold,b,c,f,d⟩:=h;exact⟨Hot,Cold,b,c,f,fun k g=>d k (hF k g)⟩
theorem ROS.more (h:ROS w F j r pre own W D M)(b:Below W.heap.size W W2)(hF:∀k,F' k→F k∨(W.heap.size≤k∧k<W2.heap.size)):ROS w F' j r pre own W2 D M:=by
 have l:=h.next b;obtain⟨Hot,Cold,c,f,g,d⟩:=h;refine⟨Hot,Cold,c.below b,f.trans ((Chg.of_below b).mono (T:=own) fun _ _ e=>e.elim) fun _ _ h=>h,g,fun k i=>?_⟩;rcases hF k i with h|h
 ·exact⟨Nat.lt_of_lt_of_le (d k h).1 b.size,(d k h).2⟩
 ·exact⟨h.2,fun e=>by have:=c.hlt e;omega,fun e=>by have:=c.clt e;omega⟩
theorem ros_step {D':zAA}{M':zAH}{Hot Cold:Nat→Prop}(o:Chg own w W)(n:∀k,Hot k∨Cold k→own k∨w.heap.size≤k)(g:∀k,F k→k<W.heap.size∧¬Hot k∧¬Cold k)(q:zAs W j r pre Hot Cold W2 D' M'):ROS w F j r pre own W2 D' M'∧Same F W W2:=by
 obtain⟨i,d,m,f,l,c⟩:=q;have s:=o.size;refine⟨⟨i,d,m,o.trans f fun k b p=>(n k (.inl p)).resolve_right (by omega),fun k b=>?_,fun k b=>⟨Nat.lt_of_lt_of_le (g k b).1 f.size,fun e=>?_,fun e=>?_⟩⟩,fun k b=>f.block k (g k b).1 (g k b).2.1⟩
 ·rcases b with b|b
  ·rcases l k b with h|h
   ·exact n k (.inl h)
   ·exact .inr (by omega)
  ·rcases c k b with h|h
   ·exact n k (.inr h)
   ·exact .inr (by omega)
 ·rcases l k e with h|h
  ·exact(g k b).2.1 h
  ·have:=(g k b).1;omega
 ·rcases c k e with h|h
  ·exact(g k b).2.2 h
  ·have:=(g k b).1;omega
theorem ros_ref (h:ROS w F j r pre own W D M):∃v L b,zAf W r v L b D:=by
 obtain⟨_,_,⟨_,b,_,_,_,_,v,L,_,c,_⟩,_⟩:=h;exact⟨v,L,b,c⟩
theorem zFT {P:Program}{f:FuncId}{args:Array Value}{Re:zAA×Nat}{wc:World}(h:ROS w F j r pre own W D M)(g:Below W.heap.size W wc)(m:∀v L b,zAf wc r v L b D→Calls P f args wc (zCn wc r b Re)) :
  Calls P f args wc fun e w'=>e=.returned (.int .i64 (Re.2:Int))∧ROS w F j r pre own w' Re.1 M∧Same F W w':=by
 obtain⟨Hot,Cold,hF,i,l,k⟩:=h;refine(rj_disk hF g fun v L b d _=>m v L b d).mono ?_;rintro e w' ⟨rfl,c,-⟩;exact⟨rfl,ros_step i l k c⟩
theorem zGZ (h:ROS w F j r pre own W D M)(b:M.entries.length≤1000000) :
  Calls prog 93 #[.pointer (some ⟨j,0,none⟩)] W fun e w'=>e=.returned (.int .i64 ((zAT D (nm pre) M).2:Int))∧ROS w F j r pre own w' (zAT D (nm pre) M).1 M∧Same F W w':=by
 obtain⟨Hot,Cold,hF,d,g,f⟩:=h;refine(rjanew_calls hF b).mono ?_;rintro e w' ⟨rfl,c,-⟩;exact⟨rfl,ros_step d g f c⟩
theorem ros_stands (h:ROS w F j r pre own W D M){n2:Nat}{t2:Int}{g2:List Int}(c:M.number<n2)(o:(⟨n2,t2,g2,M.data⟩:zC8).OK){pg:Option Addr}{cg:Nat}(l:zBg W (.slice pg g2.length cg) g2)(d:∀k,(Value.slice pg g2.length cg).ownBlock=some k→F k) :
  Calls prog 92 #[.pointer (some ⟨j,0,none⟩),.agg #[.int .i64 (n2:Int),.int .i64 t2,.slice pg g2.length cg]] W fun e w'=>e=.returned (.tuple #[])∧ROS w F j r pre own w' D (M.rebase ⟨n2,t2,g2,M.data⟩)∧Same F W w':=by
 have b:=fun k n=>h.fj (k:=k) (d k n);obtain⟨Hot,Cold,hF,g,m,i⟩:=h;refine(zFe hF c o l b).mono ?_;rintro e w' ⟨rfl,f⟩;exact⟨rfl,ros_step g m i f⟩
theorem ros_data (h:ROS w F j r pre own W D M){q:Bs}{v2:Value}(P:zAY W v2 q)(hF:∀k,v2.ownBlock=some k→F k∧w.heap.size≤k)(d:∀k,F' k→F k∧v2.ownBlock≠some k)(z:q.length≤1073741824) :
  ROS w F' j r pre own (W.setCell ⟨j,7,none⟩ v2) D {M with data:=q}∧Same F W (W.setCell ⟨j,7,none⟩ v2):=by
 have n:=fun k b=>h.fj (k:=k) b;have Q:=h.jlt;obtain⟨Hot,Cold,l,J,a,g⟩:=h;have A:=l.jhot;obtain⟨O,p,G,dv,E,vs,v,L,c,I,H,s,t⟩:=l;have hS:Chg (fun k=>k=j) W (W.setCell ⟨j,7,none⟩ v2):=Chg.setCell W ⟨j,7,none⟩ _;have f:=zAD c.cells 7 v2;have B:∀k,v2.ownBlock=some k→k≠j:=fun k b=>n k (hF k b).1;have m:∀k,Cold k→k≠j:=fun k b e=>c.dis k b (e▸c.oj);have T:=J.size;have y:zFx (W.setCell ⟨j,7,none⟩ v2) j r pre O (fun k=>Cold k∨v2.ownBlock=some k) {M with data:=q} G v2 E vs:={
  cells:=by simpa using f
  group:=zAM.chg c.group hS fun k b=>m k (c.cg k b)
  data:=zAY.chg P hS fun k b=>B k b
  row:=c.row.keep fun k b=>hS.block k (c.olt k (c.oe k b).1) (c.oe k b).2
  rlen:=c.rlen
  rows:=fun i e v N C=>(c.rows i e v N C).keep fun k b=>hS.block k (c.clt k (c.cv v (List.mem_of_getElem? C) k b)) (m k (c.cv v (List.mem_of_getElem? C) k b))
  oj:=c.oj
  oe:=c.oe
  cg:=fun k b=>.inl (c.cg k b)
  cd:=fun k b=>.inr b
  cv:=fun u R k b=>.inl (c.cv u R k b)
  dis:=fun k b o=>by
   rcases b with b|b
   ·exact c.dis k b o
   ·exact(g k (hF k b).1).2.1 ((t k).2 (.inl o))
  olt:=fun k b=>Nat.lt_of_lt_of_le (c.olt k b) hS.size
  clt:=fun k b=>Nat.lt_of_lt_of_le (b.elim (c.clt k) fun e=>(g k (hF k e).1).1) hS.size
  psz:=c.psz
  ok:=⟨c.ok.last,c.ok.term,c.ok.group,c.ok.now,c.ok.vote,z,c.ok.ents⟩ }
 refine⟨⟨Hot,_,⟨O,p,G,v2,E,vs,v,L,y,I.keep hS.size (fun k b=>hS.block k (I.olt k b) fun e=>H j c.oj (e▸b)),H,fun k b o=>?_,t⟩,J.trans hS fun k b e=>?_,fun k b=>?_,fun k b=>⟨?_,?_,?_⟩⟩,fun k b=>hS.block k (g k b).1 (n k b)⟩
 ·rcases b with b|b
  ·exact s k b o
  ·exact(g k (hF k b).1).2.1 ((t k).2 (.inr o))
 ·exact(a j (.inl A)).elim (fun h=>e▸h) fun h=>by have S:k=j:=e;omega
 ·rcases b with b|b|b
  ·exact a k (.inl b)
  ·exact a k (.inr b)
  ·exact .inr (hF k b).2
 ·exact Nat.lt_of_lt_of_le (g k (d k b).1).1 hS.size
 ·exact(g k (d k b).1).2.1
 ·exact fun e=>e.elim (g k (d k b).1).2.2 (d k b).2
theorem ros_new (h:ROS w F j r pre own W D M):∃S,zA4 S W j r pre M∧(∀k,S k→k<W.heap.size∧¬F k) ∧
  (∀f M',zA4 (fun k=>S k∨W.heap.size≤k) f j r pre M'→Chg (fun k=>S k∨W.heap.size≤k) W f→ROS w F j r pre own f D M'∧Same F W f) ∧
  ∀f,Chg (fun k=>S k∨W.heap.size≤k) W f→∃own',RefAt f r D own'∧Chg own w f∧∀k,own' k→own k∨w.heap.size≤k:=by
 obtain⟨Hot,Cold,C,G,H,p⟩:=h;obtain⟨O,c,N,dv,J,vs,v,L,A,l,Q,a,y⟩:=C;have R:=G.size;have q:∀k,F k→¬(O k∨Cold k):=fun k b e=>e.elim (fun o=>(p k b).2.1 ((y k).2 (.inl o))) (p k b).2.2;have m:∀k,(O k∨Cold k)→own k∨w.heap.size≤k:=fun k b=>H k (b.imp (fun o=>(y k).2 (.inl o)) id);have n:∀k,(O k∨Cold k)→¬c k:=fun k b=>b.elim (Q k) (a k);refine⟨fun k=>O k∨Cold k,⟨O,Cold,N,dv,J,vs,A,fun _ h=>h⟩,fun k b=>⟨b.elim (A.olt k) (A.clt k),fun e=>q k e b⟩,fun f M' P g=>?_,fun f g=>⟨c,⟨v,L,l.keep g.size fun k b=>g.block k (l.olt k b) fun e=>e.elim (fun e=>n k e b) fun e=>by have:=l.olt k b;omega⟩,G.trans g fun k b e=>e.elim (fun e=>(m k e).resolve_right (by omega)) fun e=>by omega,fun k b=>H k (.inl ((y k).2 (.inr b)))⟩⟩;obtain⟨t,C',gv',dv',ev',vs',B,s⟩:=P;have E:=l.keep g.size fun k b=>g.block k (l.olt k b) fun e=>e.elim (fun e=>n k e b) fun e=>by have:=l.olt k b;omega
 have i:∀k,(t k∨C' k)→¬c k:=fun k b I=>by
  rcases s k b with e|e
  ·exact n k e I
  ·have:=l.olt k I;omega
 have d:∀k,(t k∨C' k)→own k∨w.heap.size≤k:=fun k b=>by
  rcases s k b with e|e
  ·exact m k e
  ·exact .inr (by omega)
 have z:∀k,F k→¬(t k∨C' k):=fun k b e=>by
  rcases s k e with e|e
  ·exact q k b e
  ·have:=(p k b).1;omega
 refine⟨⟨fun k=>t k∨c k,C',⟨t,c,gv',dv',ev',vs',v,L,B,E,fun k b=>i k (.inl b),fun k b=>i k (.inr b),fun k=>Iff.rfl⟩,G.trans g fun k b e=>?_,fun k b=>?_,fun k b=>⟨Nat.lt_of_lt_of_le (p k b).1 g.size,fun e=>?_,fun e=>z k b (.inr e)⟩⟩,fun k b=>g.block k (p k b).1 fun e=>?_⟩
 ·rcases e with e|e
  ·exact(m k e).resolve_right (by omega)
  ·omega
 ·rcases b with(b|b)|b
  ·exact d k (.inl b)
  ·exact H k (.inl ((y k).2 (.inr b)))
  ·exact d k (.inr b)
 ·rcases e with e|e
  ·exact z k b (.inl e)
  ·exact(p k b).2.1 ((y k).2 (.inr e))
 ·rcases e with e|e
  ·exact q k b e
  ·have:=(p k b).1;omega
def ROpened (w:World)(r:Nat)(pre:ByteArray)(own:Nat→Prop)(R:zAA×Nat×zAH)(e:Ending)(w':World):Prop :=
 (R.2.1=0∧∃j Hot Cold,e=.returned (.tuple #[.pointer (some ⟨j,0,none⟩),.int .i64 0])∧RJF w' j r pre R.1 R.2.2 Hot Cold∧Chg own w w'∧∀k,Hot k∨Cold k→own k∨w.heap.size≤k) ∨
 (R.2.1≠0∧e=.returned (.tuple #[.pointer none,.int .i64 (R.2.1:Int)])∧∃own',RefAt w' r R.1 own'∧Chg own w w'∧∀k,own' k→own k∨w.heap.size≤k)
theorem zBb {R:zAA×Nat×zAH}(h:ROS w F j r pre own W D M)(b:R=(D,0,M)):ROpened w r pre own R (.returned (.tuple #[.pointer (some ⟨j,0,none⟩),.int .i64 0])) W:=by
 subst b;obtain⟨Hot,Cold,hF,c,d,-⟩:=h;exact .inl ⟨rfl,j,Hot,Cold,rfl,hF,c,d⟩
theorem zAi {R:zAA×Nat×zAH}{M':zAH}{k:Nat}(h:ROS w F j r pre own W D M)(c:R=(D,k,M'))(d:k≠0):ROpened w r pre own R (.returned (.tuple #[.pointer none,.int .i64 (k:Int)])) W:=by
 subst c;obtain⟨Hot,Cold,hF,i,l,-⟩:=h;obtain⟨O,b,n,dv,m,vs,v,L,o,c,p,f,g⟩:=hF;exact .inr ⟨d,rfl,b,⟨v,L,c⟩,i,fun k d=>l k (.inl ((g k).2 (.inr d)))⟩
theorem ropened_bad2 {R:zAA×Nat×zAH}{M':zAH}{k:Nat}(h:∃own',RefAt W r D own'∧Chg own w W∧∀k,own' k→own k∨w.heap.size≤k)(b:R=(D,k,M'))(c:k≠0):ROpened w r pre own R (.returned (.tuple #[.pointer none,.int .i64 (k:Int)])) W:=by
 subst b;exact .inr ⟨c,rfl,h⟩
theorem ropened_arg {R:zAA×Nat×zAH}{M':zAH}{k:Nat}{v:Value}{L:List zAR}(h:zAf w r v L own D)(c:Below w.heap.size w W)(d:R=(D,k,M'))(b:k≠0):ROpened w r pre own R (.returned (.tuple #[.pointer none,.int .i64 (k:Int)])) W:=by
 subst d;exact .inr ⟨b,rfl,own,⟨v,L,h.below c⟩,(Chg.of_below c).mono fun _ _ e=>e.elim,fun k b=>.inl b⟩
theorem ros_fresh {v:Value}{L:List zAR}{nodes:List Int}{g:Value}(h:zAf w r v L own D)(n:Below w.heap.size w W)(q:1≤pre.size∧pre.size≤20)(p:zAX nodes=true)(c:W.heap[j]?=some (RJC r 0 0 g pre 0 (-1) (.slice none 0 0) (.slice none 0 0) false))(a:w.heap.size≤j)(l:zBg W g nodes)(d:∀k,g.ownBlock=some k→w.heap.size≤k∧k<W.heap.size∧k≠j)(hF:∀k,F k→k<W.heap.size∧w.heap.size≤k∧k≠j∧g.ownBlock≠some k) :
  ROS w F j r pre own W D (zAH.none0 nodes):=by
 have f:=h.olt;refine⟨fun k=>k=j∨own k,fun k=>g.ownBlock=some k,⟨fun k=>k=j,own,g,.slice none 0 0,.slice none 0 0,[],v,L,{
  cells:=c
  group:=l
  data:=zAk.has (e:=0) (OwnR.nil _ _ _)
  row:=OwnR.nil _ _ _
  rlen:=rfl
  rows:=fun i e v o t=>by simp at t
  oj:=rfl
  oe:=fun k b=>by cases b
  cg:=fun k b=>b
  cd:=fun k b=>by cases b
  cv:=fun u s=>by simp at s
  dis:=fun k b e=>(d k b).2.2 e
  olt:=fun k b=>by rw[b];exact zAB c
  clt:=fun k b=>(d k b).2.1
  psz:=q
  ok:=⟨Nat.zero_le _,rfl,p,rfl,⟨show(-1:Int)≤-1 by decide,show(-1:Int)<7 by decide⟩,Nat.zero_le _,fun e o=>(by cases o)⟩ },h.below n,fun k b m=>?_,fun k b m=>?_,fun k=>Iff.rfl⟩,(Chg.of_below n).mono fun _ _ e=>e.elim,fun k b=>?_,fun k b=>⟨(hF k b).1,fun e=>?_,(hF k b).2.2.2⟩⟩
 ·have:=f k m;rw[b]at this;omega
 ·have:=f k m;have:=(d k b).1;omega
 ·rcases b with(b|b)|b
  ·exact .inr (by omega)
  ·exact .inl b
  ·exact .inr (d k b).1
 ·rcases e with e|e
  ·exact(hF k b).2.2.1 e
  ·have y:=f k e;have z:=(hF k b).2.1;omega
end
theorem rsnap_len {b:Bs}{l:List Int}{c:Rd}(h:RLst (Rd.num ⟨b,false⟩).2.num.2 l c)(d:c.bad=false):c.bytes.1.length≤b.length:=by
 refine Nat.le_trans (rbytes_le c) ?_;rcases h with⟨-,-,-,rfl⟩|⟨-,h⟩
 ·refine Nat.le_trans (zDZ _ _) ?_;exact Nat.le_trans (Rd.num_rest _) (zDZ 2 ⟨b,false⟩)
 ·rw[h]at d;cases d
end Go.Proofs.YtapfnehdgailmaaGreat
