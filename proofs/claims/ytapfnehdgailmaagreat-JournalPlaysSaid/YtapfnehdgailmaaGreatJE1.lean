/- What the program's functions and the document's do, and plain laws, for PJournalPlays. -/
import Derived.Test.YtapfnehdgailmaaGreatJD1
import Derived.Test.YtapfnehdgailmaaGreatJH
open Go.Proofs.Tryz
set_option maxRecDepth 100000
set_option maxHeartbeats 64000000
namespace Go.Proofs.YtapfnehdgailmaaGreat
open Go.RowKit Go.Sat Go.Maps
def JEq (M N:zAJ):Prop:=M.number=N.number∧M.term=N.term∧M.group=N.group∧M.now=N.now∧M.vote=N.vote∧M.data=N.data∧M.entries=N.entries
theorem JEq.refl (M:zAJ):JEq M M:=⟨rfl,rfl,rfl,rfl,rfl,rfl,rfl⟩
theorem JEq.is {M N:zAJ}(h:JEq M N):M={N with dead:=M.dead}:=by
 obtain⟨a,b,c,d,e,f,g,x⟩:=M;obtain⟨i,j,k,l,m,n,o⟩:=h;simp only at i j k l m n o;subst i j k l m n o;rfl
theorem grpIn_dead (N:zAJ)(x:Bool):∀k,({N with dead:=x}:zAJ).grpIn k=N.grpIn k
 | 0=>rfl
 | k+1=>by
  show(match N.entries[k]? with|some e=>if e.kind=2 then(e.nodes,N.number+k+1)else({N with dead:=x}:zAJ).grpIn k|none=>({N with dead:=x}:zAJ).grpIn k)=_
  rw[grpIn_dead N x k];rfl
theorem JEq.grp {M N:zAJ}(h:JEq M N):M.grpIn M.entries.length=N.grpIn N.entries.length:=by
 rw[h.is];exact grpIn_dead N M.dead _
theorem JEq.last {M N:zAJ}(h:JEq M N):M.last=N.last:=by rw[h.is];rfl
theorem JEq.lastT {M N:zAJ}(h:JEq M N):M.lastT=N.lastT:=by rw[h.is];rfl
theorem JEq.termAt {M N:zAJ}(h:JEq M N)(i:Int):M.termAt i=N.termAt i:=by rw[h.is];rfl
theorem termAt_some (M:zAJ)(i:Int):(M.termAt i).isSome=decide ((M.number:Int)≤i∧i≤(M.last:Int)):=by
 have f:M.last=M.number+M.entries.length:=rfl;unfold zAJ.termAt
 by_cases b:i=(M.number:Int)
 ·rw[if_pos b,decide_eq_true (by omega)];rfl
 ·rw[if_neg b]
  by_cases c:i<(M.number:Int)
  ·rw[if_pos c,decide_eq_false (by omega)];rfl
  ·rw[if_neg c]
   by_cases d:i≤(M.last:Int)
   ·rw[List.getElem?_eq_getElem (by omega),decide_eq_true (by omega)];rfl
   ·rw[List.getElem?_eq_none (by omega),decide_eq_false (by omega)];rfl
def zBL (w1:World)(M N:zAJ)(e:Ending)(w':World):Prop:=∃b,e=.returned (.bool b)∧(JEq M N→b=true)∧Below w1.heap.size w1 w'
abbrev EZero:Ent:=⟨0,0,[],[]⟩
theorem ent_nil (W:World):zBH W EZero (.slice none 0 0,.slice none 0 0):=⟨zAi.has (e:=0) (OwnR.nil _ _ _),zCd.has (OwnR.nil _ _ _),Nat.zero_le _,Nat.zero_le _⟩
section
variable {w w1:World} {j d x r:Nat} {pre pre2:ByteArray} {D:zAA} {M N:zAJ} {F S:Nat→Prop}
theorem ent_len {e:Ent}(h:zA1 e=true):e.data.length≤1099511627776∧e.nodes.length≤1099511627776:=by
 have:=zBF h;omega
theorem jat_any (h:zAk w w1 j d pre D M F)(i:Int)(m:-9223372036854775808≤i∧i≤9223372036854775807) :
  ∃(e:Ent) (k:Int),(∀N:zAJ,JEq M N→(N.entries[(i-(N.number:Int)-1).toNat]?=some e∧(N.number:Int)<i)∨(e=EZero∧¬((N.number:Int)<i∧i≤(N.last:Int))))∧k=(if(M.number:Int)<i∧i≤(M.last:Int)then 0 else 7) ∧
  Calls prog 34 #[.pointer (some ⟨j,0,none⟩),.int .i64 i] w1 fun r w'=>∃v:EV,r=.returned (.tuple #[zCf e v,.int .i64 k])∧zBH w' e v∧Below w1.heap.size w1 w':=by
 by_cases b:(M.number:Int)<i∧i≤(M.last:Int)
 ·have o:M.last=M.number+M.entries.length:=rfl;have g:(i-(M.number:Int)-1).toNat<M.entries.length:=by omega
  have l:=ent_len (h.okM.ents _ (List.getElem_mem g));refine⟨M.entries[(i-(M.number:Int)-1).toNat],0,fun N f=>.inl ⟨?_,by rw[←f.1];exact b.1⟩,by rw[if_pos b],(jat_yes h i m b.1 (List.getElem?_eq_getElem g)).mono ?_⟩
  ·rw[←f.1,←f.2.2.2.2.2.2];exact List.getElem?_eq_getElem g
  ·rintro r w' ⟨v,rfl,n,-,c⟩;exact⟨v,rfl,n.has l.1 l.2,c⟩
 ·refine⟨EZero,7,fun N f=>.inr ⟨rfl,by rw[←f.1,←f.last];exact b⟩,by rw[if_neg b],(jat_no h i m b).mono ?_⟩;rintro r w' ⟨rfl,c⟩;exact⟨(.slice none 0 0,.slice none 0 0),rfl,ent_nil w',c⟩
theorem rnat_any (h:zBc S w1 x r pre2 N)(i:Int)(g:-9223372036854775808≤i∧i≤9223372036854775807) :
  ∃(e:Ent) (k:Int),((N.entries[(i-(N.number:Int)-1).toNat]?=some e∧(N.number:Int)<i∧i≤(N.last:Int))∨(e=EZero∧¬((N.number:Int)<i∧i≤(N.last:Int))))∧k=(if(N.number:Int)<i∧i≤(N.last:Int)then 0 else 7) ∧
  Calls prog 96 #[.pointer (some ⟨x,0,none⟩),.int .i64 i] w1 fun r w'=>∃v:EV,r=.returned (.tuple #[zCf e v,.int .i64 k])∧zBH w' e v∧Below w1.heap.size w1 w':=by
 by_cases b:(N.number:Int)<i∧i≤(N.last:Int)
 ·have l:N.last=N.number+N.entries.length:=rfl;have d:(i-(N.number:Int)-1).toNat<N.entries.length:=by omega
  have f:=ent_len (h.ok.ents _ (List.getElem_mem d));refine⟨N.entries[(i-(N.number:Int)-1).toNat],0,.inl ⟨List.getElem?_eq_getElem d,b⟩,by rw[if_pos b],(rnat_yes h i g b.1 (List.getElem?_eq_getElem d)).mono ?_⟩;rintro r w' ⟨v,rfl,j,-,c⟩;exact⟨v,rfl,j.has f.1 f.2,c⟩
 ·refine⟨EZero,7,.inr ⟨rfl,b⟩,by rw[if_neg b],(rnat_no h i g b).mono ?_⟩;rintro r w' ⟨rfl,c⟩;exact⟨(.slice none 0 0,.slice none 0 0),rfl,ent_nil w',c⟩
theorem alike_calls (h:zAk w w1 j d pre D M F)(hx:zBc S w1 x r pre2 N) :
  Calls prog 19 #[.pointer (some ⟨j,0,none⟩),.pointer (some ⟨x,0,none⟩)] w1 (zBL w1 M N):=by
 have H:=zh (fun W (hb:Below w1.heap.size w1 W)=>h.next hb);have HX:=zh (fun W (hb:Below w1.heap.size w1 W)=>hx.below hb);have bU:=zh (jterm_calls h);have ct:=h.okM.last;have cu:=hx.ok.last;have aZ:=zW (M.data.length≤140737488355328∧M.group.length≤7∧(M.grpIn M.entries.length).1.length≤7) (⟨Nat.le_trans h.okM.data (by decide),grp7 h.okM.group,grp7 (zFM h.okM _)⟩);have ba:=zW (N.data.length≤140737488355328∧N.group.length≤7∧(N.grpIn N.entries.length).1.length≤7) (⟨Nat.le_trans hx.ok.data (by decide),grp7 hx.ok.group,grp7 (zFM hx.ok _)⟩);clear h hx
 go_enter func19,ntmps19
 go_wp2_with fail;refine bU.o.mono ?_;rintro e w2 ⟨rfl,q2,rfl⟩;have aP:=zh (zAa (B:=w1.heap.size) w1 q2);generalize w1.drewN q2=w2 at *;have bM:=zh (zFh (H.o w2 aP.o));go_wp2_with fail;refine bM.o.mono ?_;rintro e w3 ⟨rfl,q3,rfl⟩;have aQ:=zh (aP.o.trans (zAa w2 q3));generalize w2.drewN q3=w3 at *;have bP:=zh (zCl (H.o w3 aQ.o));go_wp2_with fail;refine bP.o.mono ?_;rintro e w4 ⟨rfl,q4,rfl⟩;have aR:=zh (aQ.o.trans (zAa w3 q4));generalize w3.drewN q4=w4 at *;have U:=zh (HX.o w4 aR.o).last_calls;go_wp2_with fail;refine U.o.mono ?_;rintro e w5 ⟨rfl,q5,rfl⟩;have av:=zh (aR.o.trans (zAa w4 q5));generalize w4.drewN q5=w5 at *;have bQ:=zh (jnodes_calls (H.o w5 av.o));clear U;go_wp2_with fail;refine bQ.o.mono ?_;rintro e w6 ⟨v1,rfl,aJ,-,bp⟩;have aw:=zh (av.o.trans (bp.mono av.o.size));have v:=zh (zCd.has aJ);have bN:=zh (rnconf_calls (HX.o w6 aw.o));obtain⟨p1,c1,rfl,-⟩:=zAw aJ;clear aJ bp;go_wp2_with fail;refine bN.o.mono ?_;rintro e w7 ⟨v2,rfl,aK,-,aH⟩;have ax:=zh (aw.o.trans (aH.mono aw.o.size));have v:=zh (zAK.chg v.o (Chg.of_below aH) fun _ _=>id);have Q:=zh (zCd.has aK);have bS:=zh (jsnap_calls (H.o w7 ax.o));obtain⟨p2,c2,rfl,-⟩:=zAw aK;clear aK aH;go_wp2_with fail;refine bS.o.mono ?_;rintro e p ⟨v3,v4,rfl,aL,aM,-,ab⟩;have q:=zh (ax.o.trans (ab.mono ax.o.size));have v:=zW (zBY p _ (M.grpIn M.entries.length).1) (zAK.chg v.o (Chg.of_below ab) fun _ _=>id);have Q:=zW (zBY p _ (N.grpIn N.entries.length).1) (zAK.chg Q.o (Chg.of_below ab) fun _ _=>id);have bL:=zh (zAi.has aL);have R:=zh (zCd.has aM);obtain⟨p3,c3,rfl,-⟩:=zAL aL;obtain⟨p4,c4,rfl,-⟩:=zAw aM;clear aL aM ab;obtain⟨O,C,cp,cn,co,cC,E,ci⟩:=HX.o p q.o;have P:=zh E.group;have bE:=zh E.data;obtain⟨pg,cg,eg⟩:=E.group.slice;obtain⟨pd,cd,ed⟩:=E.data.slice;subst eg;subst ed;have x0:=E.c 0 rfl;have x1:=E.c 1 rfl;have x2:=E.c 2 rfl;have x5:=E.c 5 rfl;have x6:=E.c 6 rfl;have x7:=E.c 7 rfl;have X2:=zh x2;have X7:=zh x7;have X0:=zh x0;have t:=zh (And.intro aZ.o ba.o);clear E ci x2 x7;simp only[List.append]at *;have bO:=zh (zFf v.o Q.o (by have:=aZ.o;omega) (by have:=ba.o;omega));generalize ap:M.data.length=cz at *;have bc:=zh ap;clear ap;generalize aq:N.data.length=ck at *;have bd:=zh aq;clear aq;generalize ar:M.group.length=cl at *;have be:=zh ar;clear ar;generalize au:N.group.length=aN at *;have bf:=zh au;clear au;have aX:=zW (JEq M N→M.grpIn M.entries.length=N.grpIn N.entries.length) fun h=>h.grp;generalize M.grpIn M.entries.length=G1 at *;generalize N.grpIn N.entries.length=G2 at *;obtain⟨g1,n1⟩:=G1;obtain⟨g2,n2⟩:=G2;dsimp only at *;generalize g1.length=cA at *;generalize g2.length=cB at *
 by_cases b:M.now=N.now
 rotate_left
 ·have bl:(M.now != N.now)=true:=by simpa using b
  have l:=zW (zBL w1 M N (.returned (.bool false)) p) (⟨false,rfl,fun k=>absurd (k.2.2.2.1) b,q.o⟩);clear b;go_wp2_with fail;go_ret;exact l.o
 have bl:(M.now != N.now)=false:=by simpa using b
 by_cases g:M.vote=N.vote
 rotate_left
 ·have bo:(M.vote != N.vote)=true:=by simpa using g
  have l:=zW (zBL w1 M N (.returned (.bool false)) p) (⟨false,rfl,fun k=>absurd (k.2.2.2.2.1) g,q.o⟩);clear b g;go_wp2_with fail;go_ret;exact l.o
 have bo:(M.vote != N.vote)=false:=by simpa using g
 by_cases f:(M.number:Int)=(N.number:Int)
 rotate_left
 ·have bm:((M.number:Int) != (N.number:Int))=true:=by simpa using f
  have l:=zW (zBL w1 M N (.returned (.bool false)) p) (⟨false,rfl,fun k=>absurd (by rw[k.1]) f,q.o⟩);clear b g f;go_wp2_with fail;go_ret;exact l.o
 have bm:((M.number:Int) != (N.number:Int))=false:=by simpa using f
 by_cases n:M.term=N.term
 rotate_left
 ·have bn:(M.term != N.term)=true:=by simpa using n
  have l:=zW (zBL w1 M N (.returned (.bool false)) p) (⟨false,rfl,fun k=>absurd (k.2.1) n,q.o⟩);clear b g f n;go_wp2_with fail;go_ret;exact l.o
 have bn:(M.term != N.term)=false:=by simpa using n
 by_cases m:(M.last:Int)=(N.last:Int)
 rotate_left
 ·have bj:((M.last:Int) != (N.last:Int))=true:=by simpa using m
  have l:=zW (zBL w1 M N (.returned (.bool false)) p) (⟨false,rfl,fun k=>absurd (by rw[k.last]) m,q.o⟩);clear b g f n m;go_wp2_with fail;go_ret;exact l.o
 have bj:((M.last:Int) != (N.last:Int))=false:=by simpa using m
 by_cases s:M.lastT=N.lastT
 rotate_left
 ·have bk:(M.lastT != N.lastT)=true:=by simpa using s
  have l:=zW (zBL w1 M N (.returned (.bool false)) p) (⟨false,rfl,fun k=>absurd (k.lastT) s,q.o⟩);clear b g f n m s
  go_wp2_with fail;go_ret;exact l.o
 have bk:(M.lastT != N.lastT)=false:=by simpa using s
 have ao:=zh f;have an:=zh m;clear b g f n m s
 go_wp2_with fail;refine bO.o.mono ?_;rintro e w9 ⟨rfl,L,rfl⟩;have ay:=zh (q.o.trans (zAa p L));have y7:(p.drewN L).cell? ⟨x,7,none⟩=some (.slice pd ck cd):=X7.o;have Y2:=zW ((p.drewN L).cell? ⟨x,2,none⟩=some (.slice pg aN cg)) X2.o;have Y0:=zW ((p.drewN L).cell? ⟨x,0,none⟩=some (.int .i64 (N.number:Int))) X0.o;have bR:=zh (zEb (w:=p.drewN L) (zAb.below bL.o (zAa p L)) (zAb.below bE.o (zAa p L)) (by rw[bc.o];exact t.o.1.1) (by rw[bd.o];exact t.o.2.1));have R:=zW (zBY (p.drewN L) (.slice p4 cl c4) M.group) (zAK.keep R.o fun _ _=>rfl);have P:=zW (zBY (p.drewN L) (.slice pg aN cg) N.group) (zAK.keep P.o fun _ _=>rfl);clear x0 x1 x5 x6 v Q;generalize p.drewN L=w9 at *;cases af:(g1==g2)with
 | false =>
  have l:=zW (zBL w1 M N (.returned (.bool false)) w9) (⟨false,rfl,fun k=>by have h9:=aX.o k;rw[Prod.mk.injEq]at h9;rw[h9.1]at af;simp at af,ay.o⟩);clear af;go_wp2_with fail;go_ret;exact l.o
 | true =>
  clear af
  by_cases y:(n1:Int)=(n2:Int)
  rotate_left
  ·have bW:((n1:Int) != (n2:Int))=true:=by simpa using y
   have l:=zW (zBL w1 M N (.returned (.bool false)) w9) (⟨false,rfl,fun k=>by have h9:=aX.o k;rw[Prod.mk.injEq]at h9;rw[h9.2]at y;exact absurd rfl y,ay.o⟩);clear y;go_wp2_with fail;go_ret;exact l.o
  have bW:((n1:Int) != (n2:Int))=false:=by simpa using y
  clear y;go_wp2_with fail;refine bR.o.mono ?_;rintro e J ⟨rfl,I,rfl⟩;have am:=zh (ay.o.trans (zAa w9 I));have y2:(w9.drewN I).cell? ⟨x,2,none⟩=some (.slice pg aN cg):=Y2.out;have Z0:=zW ((w9.drewN I).cell? ⟨x,0,none⟩=some (.int .i64 (N.number:Int))) Y0.out;have bb:=zh (zFf (w:=w9.drewN I) (zAK.keep R.o fun _ _=>rfl) (zAK.keep P.o fun _ _=>rfl) (by rw[be.o];have:=t.o.1.2.1;omega) (by rw[bf.o];have:=t.o.2.2.1;omega));clear y7 R P;generalize w9.drewN I=J at *;cases ad:(M.data==N.data)with
  | false =>
   have l:=zW (zBL w1 M N (.returned (.bool false)) J) (⟨false,rfl,fun k=>by rw[k.2.2.2.2.2.1]at ad;simp at ad,am.o⟩);clear ad;go_wp2_with fail;go_ret;exact l.o
  | true =>
   clear ad;go_wp2_with fail;refine bb.o.mono ?_;rintro e cD ⟨rfl,aO,rfl⟩;have aW:=zh (am.o.trans (zAa J aO));have z0:(J.drewN aO).cell? ⟨x,0,none⟩=some (.int .i64 (N.number:Int)):=Z0.out;clear y2;generalize ca:J.drewN aO=W0 at *;clear ca;cases ag:(M.group==N.group)with
   | false =>
    have l:=zW (zBL w1 M N (.returned (.bool false)) W0) (⟨false,rfl,fun k=>by rw[k.2.2.1]at ag;simp at ag,aW.o⟩);clear ag;go_wp2_with fail;go_ret;exact l.o
   | true =>
    clear ag;have bB:N.last=N.number+N.entries.length:=rfl;have U:=zh bB;have cr:N.number≤N.last:=by omega
    clear bB;have cj:IntKind.i64.wrap ((N.number:Int)-1)=(N.number:Int)-1:=IntWalk.i64_in _ (by omega);have cv:IntKind.i64.wrap ((N.last:Int)+1)=(N.last:Int)+1:=IntWalk.i64_in _ (by omega);go_wp2_with fail
    go_loopw [19] (fun i wr=>∃z:Int,i=.int .i64 z∧(N.number:Int)-1≤z∧z≤(N.last:Int)+2∧Below w1.heap.size w1 wr) (fun i _=>((N.last:Int)+2-intOf i).toNat)
    case atStart=>exact⟨_,rfl,by omega,by omega,aW.o⟩
    case round =>
     clear z0 cj;obtain⟨z,rfl,cw,cx,hb⟩:=hrel
     by_cases bA:z≤(N.last:Int)+1
     ·have bZ:decide (z≤(N.last:Int)+1)=true:=decide_eq_true bA;have ah:-9223372036854775808≤z∧z≤9223372036854775807:=by omega
      have HB:=zh hb;have bi:=zh (zES (H.o wr hb) z ah);have bV:=zW ((M.termAt z).isSome=(N.termAt z).isSome) (by rw[termAt_some,termAt_some,ao.o,an.o]);have cy:IntKind.i64.wrap (z+1)=z+1:=IntWalk.i64_in _ (by omega);rw[bV.o]at bi;have bH:=zh (fun k:JEq M N=>show(M.termAt z).getD 0=(N.termAt z).getD 0 by rw[k.termAt]);clear hb;generalize (M.termAt z).getD 0=ta at *;go_wp2_with fail;refine bi.o.mono ?_;rintro e wA ⟨rfl,qA,rfl⟩;have aS:=zh (HB.o.trans (zAa wr qA));generalize wr.drewN qA=wA at *;have bT:=zh (rntermAt_calls (HX.o wA aS.o) z ah);generalize (N.termAt z).getD 0=tb at *;generalize (N.termAt z).isSome=ts at *;go_wp2_with fail;refine bT.o.mono ?_;rintro e wB ⟨rfl,qB,rfl⟩;have az:=zh (aS.o.trans (zAa wA qB));generalize wA.drewN qB=wB at *;obtain⟨a,k1,bu,bv,bs⟩:=jat_any (H.o wB az.o) z ah;have bC:=zh bs;have bF:=zh bu;have bI:=zh bv;clear bs bu bv;go_wp2_with fail;refine bC.o.mono ?_;rintro e wC ⟨⟨u1,u2⟩,rfl,hu,bq⟩;have aT:=zh (az.o.trans (bq.mono az.o.size));obtain⟨ai,Y,aD⟩:=hu.data.slice;obtain⟨aj,Z,aE⟩:=hu.nodes.slice;have aD:u1=.slice ai a.data.length Y:=aD;have aE:u2=.slice aj a.nodes.length Z:=aE;subst aD;subst aE;have HU:=zh hu;clear hu bq;unfold zCf;generalize cc:a.data.length=m1 at *;generalize ce:a.nodes.length=m2 at *;have aY:=zh (zAD wC (.cells #[.int .i64 a.term,.int .i64 a.kind,.slice ai m1 Y,.slice aj m2 Z] 50));have bg:=zh (zAI wC (.cells #[.int .i64 a.term,.int .i64 a.kind,.slice ai m1 Y,.slice aj m2 Z] 50));have aA:=zh (aT.o.trans (aY.o.mono aT.o.size));have bJ:=zh (HU.o.below aY.o);clear cc ce;obtain⟨A,k2,aI,bw,bt⟩:=rnat_any (HX.o _ aA.o) z ah;have bD:=zh bt;have bG:=zW (JEq M N→a=A) (fun k=>by
       rcases bF.o N k with⟨h1,h2⟩|⟨h1,h2⟩
       ·rcases aI with⟨h3,h4⟩|⟨h3,h4⟩
        ·rw[h1]at h3;exact Option.some.inj h3
        ·exfalso;have h5:=(List.getElem?_eq_some_iff.1 h1).1;have h6:=U.o;exact h4 ⟨h2,by omega⟩
       ·rcases aI with⟨h3,h4⟩|⟨h3,h4⟩
        ·exact absurd h4 h2
        ·rw[h1,h3])
      have cb:k1=k2:=by rw[bI.o,bw,ao.o,an.o]
      subst cb;have cs:(k1 != k1)=false:=by simp
      clear bt aI bw;go_wp2_with fail;generalize cq:wC.heap.size=bY at *;generalize wC.alloc (.cells #[.int .i64 a.term,.int .i64 a.kind,.slice ai m1 Y,.slice aj m2 Z] 50)=wD at *;refine bD.o.mono ?_;rintro e wE ⟨⟨y1,y2⟩,rfl,hy,ac⟩;have aU:=zh (aA.o.trans (ac.mono aA.o.size));obtain⟨ak,K,aF⟩:=hy.data.slice;obtain⟨al,aa,aG⟩:=hy.nodes.slice;have aF:y1=.slice ak A.data.length K:=aF;have aG:y2=.slice al A.nodes.length aa:=aG;subst aF;subst aG;have bK:=zh (bJ.o.below ac);have bh:=zh ((ac.block bY (zAB bg.o)).trans bg.o);have HY:=zh hy;clear hy ac;unfold zCf;generalize cf:A.data.length=m3 at *;generalize ch:A.nodes.length=m4 at *;have T:=zh (zAD wE (.cells #[.int .i64 A.term,.int .i64 A.kind,.slice ak m3 K,.slice al m4 aa] 50));have V:=zh (zAI wE (.cells #[.int .i64 A.term,.int .i64 A.kind,.slice ak m3 K,.slice al m4 aa] 50));have X:=zh ((T.o.block bY (zAB bh.o)).trans bh.o);have aB:=zh (aU.o.trans (T.o.mono aU.o.size));have aC:=zh (zCx (bK.o.below T.o) (HY.o.below T.o));unfold zCf at aC;dsimp only at aC;clear cf ch;have s0:=zAU X.o;have s1:=zAY X.o;have s2:=zAX X.o;have s3:=zAf X.o;have t0:=zAU V.o;have t1:=zAY V.o;have t2:=zAX V.o;have t3:=zAf V.o
      by_cases G:ta=tb
      rotate_left
      ·have bX:(ta != tb)=true:=by simpa using G
       have l:=zW (zBL w1 M N (.returned (.bool false)) (wE.alloc (.cells #[.int .i64 A.term,.int .i64 A.kind,.slice ak m3 K,.slice al m4 aa] 50))) (⟨false,rfl,fun k=>absurd (bH.o k) G,aB.o⟩);clear G;go_wp2_with fail;go_ret;exact l.o
      have bX:(ta != tb)=false:=by simpa using G
      have cm:(ts != ts)=false:=by cases ts<;>rfl
      clear G;go_wp2_with fail;refine aC.o.mono ?_;rintro e wG ⟨rfl,br⟩;have aV:=zh (aB.o.trans (br.mono aB.o.size));clear br s0 s1 s2 s3 t0 t1 t2 t3;cases ae:entEq a A with
      | false =>
       have l:=zW (zBL w1 M N (.returned (.bool false)) wG) (⟨false,rfl,fun k=>(by rw[bG.o k,zFF]at ae;cases ae),aV.o⟩);clear ae;go_wp2_with fail;go_ret;exact l.o
      | true =>
       clear ae;go_wp2_with fail;go_roundw
       case rel=>exact⟨z+1,by go_num,by omega,by omega,aV.o⟩
       case measure=>simp[intOf];omega
     ·have bZ:decide (z≤(N.last:Int)+1)=false:=decide_eq_false bA;have l:=zW (zBL w1 M N (.returned (.bool true)) wr) (⟨true,rfl,fun _=>rfl,hb⟩);clear hb;go_wp2_with fail;go_ret;exact l.o
end
end Go.Proofs.YtapfnehdgailmaaGreat
