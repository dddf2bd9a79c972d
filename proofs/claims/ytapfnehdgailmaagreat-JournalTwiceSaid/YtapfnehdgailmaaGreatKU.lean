/- What the program's functions and the document's do, and plain laws, for PJournalTwice. -/
import Derived.Deep.CutBlock
import Derived.Deep.CutRange
import Derived.Deep.DeepCutAuto
import Derived.Test.YtapfnehdgailmaaGreatKA
import Derived.Test.YtapfnehdgailmaaGreatKC
import Derived.Test.YtapfnehdgailmaaGreatKE
import Derived.Test.YtapfnehdgailmaaGreatKF
import Derived.Test.YtapfnehdgailmaaGreatKG
import Derived.Test.YtapfnehdgailmaaGreatKI
import Derived.Test.YtapfnehdgailmaaGreatKJ
import Derived.Test.YtapfnehdgailmaaGreatKS
import Derived.Test.YtapfnehdgailmaaGreatKT
open Go.Proofs.Tryz
set_option maxRecDepth 100000
set_option maxHeartbeats 64000000
namespace Go.Proofs.YtapfnehdgailmaaGreat
open Go.RowKit Go.Sat Go.Maps
def JEq (M N:zAJ):Prop:=M.number=N.number∧M.term=N.term∧M.group=N.group∧M.now=N.now∧M.vote=N.vote∧M.data=N.data∧M.entries=N.entries
theorem JEq.refl (M:zAJ):JEq M M:=⟨rfl,rfl,rfl,rfl,rfl,rfl,rfl⟩
theorem JEq.is {M N:zAJ}(h:JEq M N):M={N with dead:=M.dead}:=by
 obtain⟨a,b,c,d,e,f,g,x⟩:=M;obtain⟨i,j,k,l,m,n,o⟩:=h;simp only at i j k l m n o;subst i j k l m n o;rfl
theorem grpIn_dead (N:zAJ)(x:Bool):∀k,({N with dead:=x}:zAJ).grpIn k=N.grpIn k
 | 0=>rfl
 | k+1=>by
  show(match N.entries[k]? with|some e=>if e.kind=2 then(e.nodes,N.number+k+1)else({N with dead:=x}:zAJ).grpIn k|none=>({N with dead:=x}:zAJ).grpIn k)=_
  rw[grpIn_dead N x k];rfl
theorem JEq.grp {M N:zAJ}(h:JEq M N):M.grpIn M.entries.length=N.grpIn N.entries.length:=by
 rw[h.is];exact grpIn_dead N M.dead _
theorem JEq.last {M N:zAJ}(h:JEq M N):M.last=N.last:=by rw[h.is];rfl
theorem JEq.lastT {M N:zAJ}(h:JEq M N):M.lastT=N.lastT:=by rw[h.is];rfl
theorem JEq.termAt {M N:zAJ}(h:JEq M N)(i:Int):M.termAt i=N.termAt i:=by rw[h.is];rfl
theorem termAt_some (M:zAJ)(i:Int):(M.termAt i).isSome=decide ((M.number:Int)≤i∧i≤(M.last:Int)):=by
 have f:M.last=M.number+M.entries.length:=rfl;unfold zAJ.termAt
 by_cases b:i=(M.number:Int)
 ·rw[if_pos b,decide_eq_true (by omega)];rfl
 ·rw[if_neg b]
  by_cases c:i<(M.number:Int)
  ·rw[if_pos c,decide_eq_false (by omega)];rfl
  ·rw[if_neg c]
   by_cases d:i≤(M.last:Int)
   ·rw[List.getElem?_eq_getElem (by omega),decide_eq_true (by omega)];rfl
   ·rw[List.getElem?_eq_none (by omega),decide_eq_false (by omega)];rfl
def zBW (w1:World)(M N:zAJ)(e:Ending)(w':World):Prop:=∃b,e=.returned (.bool b)∧(JEq M N→b=true)∧Below w1.heap.size w1 w'
abbrev EZero:Ent:=⟨0,0,[],[]⟩
theorem ent_nil (W:World):zBP W EZero (.slice none 0 0,.slice none 0 0):=⟨zAj.has (e:=0) (OwnR.nil _ _ _),zCm.has (OwnR.nil _ _ _),Nat.zero_le _,Nat.zero_le _⟩
section
variable {w w1:World} {j d x r:Nat} {pre pre2:ByteArray} {D:zAA} {M N:zAJ} {F S:Nat→Prop}
theorem ent_len {e:Ent}(h:zA1 e=true):e.data.length≤1099511627776∧e.nodes.length≤1099511627776:=by
 have:=zBE h;omega
theorem jat_any (h:zAl w w1 j d pre D M F)(i:Int)(m:-9223372036854775808≤i∧i≤9223372036854775807) :
  ∃(e:Ent) (k:Int),(∀N:zAJ,JEq M N→(N.entries[(i-(N.number:Int)-1).toNat]?=some e∧(N.number:Int)<i)∨(e=EZero∧¬((N.number:Int)<i∧i≤(N.last:Int))))∧k=(if(M.number:Int)<i∧i≤(M.last:Int)then 0 else 7) ∧
  Calls prog 34 #[.pointer (some ⟨j,0,none⟩),.int .i64 i] w1 fun r w'=>∃v:EV,r=.returned (.tuple #[zC7 e v,.int .i64 k])∧zBP w' e v∧Below w1.heap.size w1 w':=by
 by_cases b:(M.number:Int)<i∧i≤(M.last:Int)
 ·have o:M.last=M.number+M.entries.length:=rfl;have g:(i-(M.number:Int)-1).toNat<M.entries.length:=by omega
  have l:=ent_len (h.okM.ents _ (List.getElem_mem g));refine⟨M.entries[(i-(M.number:Int)-1).toNat],0,fun N f=>.inl ⟨?_,by rw[←f.1];exact b.1⟩,by rw[if_pos b],(jat_yes h i m b.1 (List.getElem?_eq_getElem g)).mono ?_⟩
  ·rw[←f.1,←f.2.2.2.2.2.2];exact List.getElem?_eq_getElem g
  ·rintro r w' ⟨v,rfl,n,-,c⟩;exact⟨v,rfl,n.has l.1 l.2,c⟩
 ·refine⟨EZero,7,fun N f=>.inr ⟨rfl,by rw[←f.1,←f.last];exact b⟩,by rw[if_neg b],(jat_no h i m b).mono ?_⟩;rintro r w' ⟨rfl,c⟩;exact⟨(.slice none 0 0,.slice none 0 0),rfl,ent_nil w',c⟩
theorem rnat_any (h:zBi S w1 x r pre2 N)(i:Int)(g:-9223372036854775808≤i∧i≤9223372036854775807) :
  ∃(e:Ent) (k:Int),((N.entries[(i-(N.number:Int)-1).toNat]?=some e∧(N.number:Int)<i∧i≤(N.last:Int))∨(e=EZero∧¬((N.number:Int)<i∧i≤(N.last:Int))))∧k=(if(N.number:Int)<i∧i≤(N.last:Int)then 0 else 7) ∧
  Calls prog 96 #[.pointer (some ⟨x,0,none⟩),.int .i64 i] w1 fun r w'=>∃v:EV,r=.returned (.tuple #[zC7 e v,.int .i64 k])∧zBP w' e v∧Below w1.heap.size w1 w':=by
 by_cases b:(N.number:Int)<i∧i≤(N.last:Int)
 ·have l:N.last=N.number+N.entries.length:=rfl;have d:(i-(N.number:Int)-1).toNat<N.entries.length:=by omega
  have f:=ent_len (h.ok.ents _ (List.getElem_mem d));refine⟨N.entries[(i-(N.number:Int)-1).toNat],0,.inl ⟨List.getElem?_eq_getElem d,b⟩,by rw[if_pos b],(rnat_yes h i g b.1 (List.getElem?_eq_getElem d)).mono ?_⟩;rintro r w' ⟨v,rfl,j,-,c⟩;exact⟨v,rfl,j.has f.1 f.2,c⟩
 ·refine⟨EZero,7,.inr ⟨rfl,b⟩,by rw[if_neg b],(rnat_no h i g b).mono ?_⟩;rintro r w' ⟨rfl,c⟩;exact⟨(.slice none 0 0,.slice none 0 0),rfl,ent_nil w',c⟩
theorem alike_calls (h:zAl w w1 j d pre D M F)(hx:zBi S w1 x r pre2 N) :
  Calls prog 19 #[.pointer (some ⟨j,0,none⟩),.pointer (some ⟨x,0,none⟩)] w1 (zBW w1 M N):=by
 have H:=zh (fun W (hb:Below w1.heap.size w1 W)=>h.next hb);have HX:=zh (fun W (hb:Below w1.heap.size w1 W)=>hx.below hb);have bU:=zh (jterm_calls h);have ct:=h.okM.last;have cu:=hx.ok.last;have aZ:=zW (M.data.length≤140737488355328∧M.group.length≤7∧(M.grpIn M.entries.length).1.length≤7) (⟨Nat.le_trans h.okM.data (by decide),grp7 h.okM.group,grp7 (zFS h.okM _)⟩);have ba:=zW (N.data.length≤140737488355328∧N.group.length≤7∧(N.grpIn N.entries.length).1.length≤7) (⟨Nat.le_trans hx.ok.data (by decide),grp7 hx.ok.group,grp7 (zFS hx.ok _)⟩);clear h hx
 go_enter func19,ntmps19
 go_wp2_with fail;refine bU.o.mono ?_;rintro e w2 ⟨rfl,q2,rfl⟩;have aP:=zh (zAZ (B:=w1.heap.size) w1 q2);generalize w1.drewN q2=w2 at *;have bM:=zh (zFr (H.o w2 aP.o));go_wp2_with fail;refine bM.o.mono ?_;rintro e w3 ⟨rfl,q3,rfl⟩;have aQ:=zh (aP.o.trans (zAZ w2 q3));generalize w2.drewN q3=w3 at *;have bP:=zh (zCs (H.o w3 aQ.o));go_wp2_with fail;refine bP.o.mono ?_;rintro e w4 ⟨rfl,q4,rfl⟩;have aR:=zh (aQ.o.trans (zAZ w3 q4));generalize w3.drewN q4=w4 at *;have U:=zh (HX.o w4 aR.o).last_calls;go_wp2_with fail;refine U.o.mono ?_;rintro e w5 ⟨rfl,q5,rfl⟩;have av:=zh (aR.o.trans (zAZ w4 q5));generalize w4.drewN q5=w5 at *;have bQ:=zh (jnodes_calls (H.o w5 av.o));clear U;go_wp2_with fail;refine bQ.o.mono ?_;rintro e w6 ⟨v1,rfl,aJ,-,bp⟩;have aw:=zh (av.o.trans (bp.mono av.o.size));have v:=zh (zCm.has aJ);have bN:=zh (rnconf_calls (HX.o w6 aw.o));obtain⟨p1,c1,rfl,-⟩:=zAw aJ;clear aJ bp;go_wp2_with fail;refine bN.o.mono ?_;rintro e w7 ⟨v2,rfl,aK,-,aH⟩;have ax:=zh (aw.o.trans (aH.mono aw.o.size));have v:=zh (zAM.chg v.o (Chg.of_below aH) fun _ _=>id);have Q:=zh (zCm.has aK);have bS:=zh (jsnap_calls (H.o w7 ax.o));obtain⟨p2,c2,rfl,-⟩:=zAw aK;clear aK aH;go_wp2_with fail;refine bS.o.mono ?_;rintro e p ⟨v3,v4,rfl,aL,aM,-,ab⟩;have q:=zh (ax.o.trans (ab.mono ax.o.size));have v:=zW (zBe p _ (M.grpIn M.entries.length).1) (zAM.chg v.o (Chg.of_below ab) fun _ _=>id);have Q:=zW (zBe p _ (N.grpIn N.entries.length).1) (zAM.chg Q.o (Chg.of_below ab) fun _ _=>id);have bL:=zh (zAj.has aL);have R:=zh (zCm.has aM);obtain⟨p3,c3,rfl,-⟩:=zAN aL;obtain⟨p4,c4,rfl,-⟩:=zAw aM;clear aL aM ab;obtain⟨O,C,cp,cn,co,cC,E,ci⟩:=HX.o p q.o;have P:=zh E.group;have bE:=zh E.data;obtain⟨pg,cg,eg⟩:=E.group.slice;obtain⟨pd,cd,ed⟩:=E.data.slice;subst eg;subst ed;have x0:=E.c 0 rfl;have x1:=E.c 1 rfl;have x2:=E.c 2 rfl;have x5:=E.c 5 rfl;have x6:=E.c 6 rfl;have x7:=E.c 7 rfl;have X2:=zh x2;have X7:=zh x7;have X0:=zh x0;have t:=zh (And.intro aZ.o ba.o);clear E ci x2 x7;simp only[List.append]at *;have bO:=zh (zFp v.o Q.o (by have:=aZ.o;omega) (by have:=ba.o;omega));generalize ap:M.data.length=cz at *;have bc:=zh ap;clear ap;generalize aq:N.data.length=ck at *;have bd:=zh aq;clear aq;generalize ar:M.group.length=cl at *;have be:=zh ar;clear ar;generalize au:N.group.length=aN at *;have bf:=zh au;clear au;have aX:=zW (JEq M N→M.grpIn M.entries.length=N.grpIn N.entries.length) fun h=>h.grp;generalize M.grpIn M.entries.length=G1 at *;generalize N.grpIn N.entries.length=G2 at *;obtain⟨g1,n1⟩:=G1;obtain⟨g2,n2⟩:=G2;dsimp only at *;generalize g1.length=cA at *;generalize g2.length=cB at *
 by_cases b:M.now=N.now
 rotate_left
 ·have bl:(M.now != N.now)=true:=by simpa using b
  have l:=zW (zBW w1 M N (.returned (.bool false)) p) (⟨false,rfl,fun k=>absurd (k.2.2.2.1) b,q.o⟩);clear b;go_wp2_with fail;go_ret;exact l.o
 have bl:(M.now != N.now)=false:=by simpa using b
 by_cases g:M.vote=N.vote
 rotate_left
 ·have bo:(M.vote != N.vote)=true:=by simpa using g
  have l:=zW (zBW w1 M N (.returned (.bool false)) p) (⟨false,rfl,fun k=>absurd (k.2.2.2.2.1) g,q.o⟩);clear b g;go_wp2_with fail;go_ret;exact l.o
 have bo:(M.vote != N.vote)=false:=by simpa using g
 by_cases f:(M.number:Int)=(N.number:Int)
 rotate_left
 ·have bm:((M.number:Int) != (N.number:Int))=true:=by simpa using f
  have l:=zW (zBW w1 M N (.returned (.bool false)) p) (⟨false,rfl,fun k=>absurd (by rw[k.1]) f,q.o⟩);clear b g f;go_wp2_with fail;go_ret;exact l.o
 have bm:((M.number:Int) != (N.number:Int))=false:=by simpa using f
 by_cases n:M.term=N.term
 rotate_left
 ·have bn:(M.term != N.term)=true:=by simpa using n
  have l:=zW (zBW w1 M N (.returned (.bool false)) p) (⟨false,rfl,fun k=>absurd (k.2.1) n,q.o⟩);clear b g f n;go_wp2_with fail;go_ret;exact l.o
 have bn:(M.term != N.term)=false:=by simpa using n
 by_cases m:(M.last:Int)=(N.last:Int)
 rotate_left
 ·have bj:((M.last:Int) != (N.last:Int))=true:=by simpa using m
  have l:=zW (zBW w1 M N (.returned (.bool false)) p) (⟨false,rfl,fun k=>absurd (by rw[k.last]) m,q.o⟩);clear b g f n m;go_wp2_with fail;go_ret;exact l.o
 have bj:((M.last:Int) != (N.last:Int))=false:=by simpa using m
 by_cases s:M.lastT=N.lastT
 rotate_left
 ·have bk:(M.lastT != N.lastT)=true:=by simpa using s
  have l:=zW (zBW w1 M N (.returned (.bool false)) p) (⟨false,rfl,fun k=>absurd (k.lastT) s,q.o⟩);clear b g f n m s
  go_wp2_with fail;go_ret;exact l.o
 have bk:(M.lastT != N.lastT)=false:=by simpa using s
 have ao:=zh f;have an:=zh m;clear b g f n m s
 go_wp2_with fail;refine bO.o.mono ?_;rintro e w9 ⟨rfl,L,rfl⟩;have ay:=zh (q.o.trans (zAZ p L));have y7:(p.drewN L).cell? ⟨x,7,none⟩=some (.slice pd ck cd):=X7.o;have Y2:=zW ((p.drewN L).cell? ⟨x,2,none⟩=some (.slice pg aN cg)) X2.o;have Y0:=zW ((p.drewN L).cell? ⟨x,0,none⟩=some (.int .i64 (N.number:Int))) X0.o;have bR:=zh (zFz (w:=p.drewN L) (zAY.below bL.o (zAZ p L)) (zAY.below bE.o (zAZ p L)) (by rw[bc.o];exact t.o.1.1) (by rw[bd.o];exact t.o.2.1));have R:=zW (zBe (p.drewN L) (.slice p4 cl c4) M.group) (zAM.keep R.o fun _ _=>rfl);have P:=zW (zBe (p.drewN L) (.slice pg aN cg) N.group) (zAM.keep P.o fun _ _=>rfl);clear x0 x1 x5 x6 v Q;generalize p.drewN L=w9 at *;cases af:(g1==g2)with
 | false =>
  have l:=zW (zBW w1 M N (.returned (.bool false)) w9) (⟨false,rfl,fun k=>by have h9:=aX.o k;rw[Prod.mk.injEq]at h9;rw[h9.1]at af;simp at af,ay.o⟩);clear af;go_wp2_with fail;go_ret;exact l.o
 | true =>
  clear af
  by_cases y:(n1:Int)=(n2:Int)
  rotate_left
  ·have bW:((n1:Int) != (n2:Int))=true:=by simpa using y
   have l:=zW (zBW w1 M N (.returned (.bool false)) w9) (⟨false,rfl,fun k=>by have h9:=aX.o k;rw[Prod.mk.injEq]at h9;rw[h9.2]at y;exact absurd rfl y,ay.o⟩);clear y;go_wp2_with fail;go_ret;exact l.o
  have bW:((n1:Int) != (n2:Int))=false:=by simpa using y
  clear y;go_wp2_with fail;refine bR.o.mono ?_;rintro e J ⟨rfl,I,rfl⟩;have am:=zh (ay.o.trans (zAZ w9 I));have y2:(w9.drewN I).cell? ⟨x,2,none⟩=some (.slice pg aN cg):=Y2.out;have Z0:=zW ((w9.drewN I).cell? ⟨x,0,none⟩=some (.int .i64 (N.number:Int))) Y0.out;have bb:=zh (zFp (w:=w9.drewN I) (zAM.keep R.o fun _ _=>rfl) (zAM.keep P.o fun _ _=>rfl) (by rw[be.o];have:=t.o.1.2.1;omega) (by rw[bf.o];have:=t.o.2.2.1;omega));clear y7 R P;generalize w9.drewN I=J at *;cases ad:(M.data==N.data)with
  | false =>
   have l:=zW (zBW w1 M N (.returned (.bool false)) J) (⟨false,rfl,fun k=>by rw[k.2.2.2.2.2.1]at ad;simp at ad,am.o⟩);clear ad;go_wp2_with fail;go_ret;exact l.o
  | true =>
   clear ad;go_wp2_with fail;refine bb.o.mono ?_;rintro e cD ⟨rfl,aO,rfl⟩;have aW:=zh (am.o.trans (zAZ J aO));have z0:(J.drewN aO).cell? ⟨x,0,none⟩=some (.int .i64 (N.number:Int)):=Z0.out;clear y2;generalize ca:J.drewN aO=W0 at *;clear ca;cases ag:(M.group==N.group)with
   | false =>
    have l:=zW (zBW w1 M N (.returned (.bool false)) W0) (⟨false,rfl,fun k=>by rw[k.2.2.1]at ag;simp at ag,aW.o⟩);clear ag;go_wp2_with fail;go_ret;exact l.o
   | true =>
    clear ag;have bB:N.last=N.number+N.entries.length:=rfl;have U:=zh bB;have cr:N.number≤N.last:=by omega
    clear bB;have cj:IntKind.i64.wrap ((N.number:Int)-1)=(N.number:Int)-1:=IntWalk.i64_in _ (by omega);have cv:IntKind.i64.wrap ((N.last:Int)+1)=(N.last:Int)+1:=IntWalk.i64_in _ (by omega);go_wp2_with fail
    go_loopw [19] (fun i wr=>∃z:Int,i=.int .i64 z∧(N.number:Int)-1≤z∧z≤(N.last:Int)+2∧Below w1.heap.size w1 wr) (fun i _=>((N.last:Int)+2-intOf i).toNat)
    case atStart=>exact⟨_,rfl,by omega,by omega,aW.o⟩
    case round =>
     clear z0 cj;obtain⟨z,rfl,cw,cx,hb⟩:=hrel
     by_cases bA:z≤(N.last:Int)+1
     ·have bZ:decide (z≤(N.last:Int)+1)=true:=decide_eq_true bA;have ah:-9223372036854775808≤z∧z≤9223372036854775807:=by omega
      have HB:=zh hb;have bi:=zh (zEX (H.o wr hb) z ah);have bV:=zW ((M.termAt z).isSome=(N.termAt z).isSome) (by rw[termAt_some,termAt_some,ao.o,an.o]);have cy:IntKind.i64.wrap (z+1)=z+1:=IntWalk.i64_in _ (by omega);rw[bV.o]at bi;have bH:=zh (fun k:JEq M N=>show(M.termAt z).getD 0=(N.termAt z).getD 0 by rw[k.termAt]);clear hb;generalize (M.termAt z).getD 0=ta at *;go_wp2_with fail;refine bi.o.mono ?_;rintro e wA ⟨rfl,qA,rfl⟩;have aS:=zh (HB.o.trans (zAZ wr qA));generalize wr.drewN qA=wA at *;have bT:=zh (rntermAt_calls (HX.o wA aS.o) z ah);generalize (N.termAt z).getD 0=tb at *;generalize (N.termAt z).isSome=ts at *;go_wp2_with fail;refine bT.o.mono ?_;rintro e wB ⟨rfl,qB,rfl⟩;have az:=zh (aS.o.trans (zAZ wA qB));generalize wA.drewN qB=wB at *;obtain⟨a,k1,bu,bv,bs⟩:=jat_any (H.o wB az.o) z ah;have bC:=zh bs;have bF:=zh bu;have bI:=zh bv;clear bs bu bv;go_wp2_with fail;refine bC.o.mono ?_;rintro e wC ⟨⟨u1,u2⟩,rfl,hu,bq⟩;have aT:=zh (az.o.trans (bq.mono az.o.size));obtain⟨ai,Y,aD⟩:=hu.data.slice;obtain⟨aj,Z,aE⟩:=hu.nodes.slice;have aD:u1=.slice ai a.data.length Y:=aD;have aE:u2=.slice aj a.nodes.length Z:=aE;subst aD;subst aE;have HU:=zh hu;clear hu bq;unfold zC7;generalize cc:a.data.length=m1 at *;generalize ce:a.nodes.length=m2 at *;have aY:=zh (zAD wC (.cells #[.int .i64 a.term,.int .i64 a.kind,.slice ai m1 Y,.slice aj m2 Z] 50));have bg:=zh (zAI wC (.cells #[.int .i64 a.term,.int .i64 a.kind,.slice ai m1 Y,.slice aj m2 Z] 50));have aA:=zh (aT.o.trans (aY.o.mono aT.o.size));have bJ:=zh (HU.o.below aY.o);clear cc ce;obtain⟨A,k2,aI,bw,bt⟩:=rnat_any (HX.o _ aA.o) z ah;have bD:=zh bt;have bG:=zW (JEq M N→a=A) (fun k=>by
       rcases bF.o N k with⟨h1,h2⟩|⟨h1,h2⟩
       ·rcases aI with⟨h3,h4⟩|⟨h3,h4⟩
        ·rw[h1]at h3;exact Option.some.inj h3
        ·exfalso;have h5:=(List.getElem?_eq_some_iff.1 h1).1;have h6:=U.o;exact h4 ⟨h2,by omega⟩
       ·rcases aI with⟨h3,h4⟩|⟨h3,h4⟩
        ·exact absurd h4 h2
        ·rw[h1,h3])
      have cb:k1=k2:=by rw[bI.o,bw,ao.o,an.o]
      subst cb;have cs:(k1 != k1)=false:=by simp
      clear bt aI bw;go_wp2_with fail;generalize cq:wC.heap.size=bY at *;generalize wC.alloc (.cells #[.int .i64 a.term,.int .i64 a.kind,.slice ai m1 Y,.slice aj m2 Z] 50)=wD at *;refine bD.o.mono ?_;rintro e wE ⟨⟨y1,y2⟩,rfl,hy,ac⟩;have aU:=zh (aA.o.trans (ac.mono aA.o.size));obtain⟨ak,K,aF⟩:=hy.data.slice;obtain⟨al,aa,aG⟩:=hy.nodes.slice;have aF:y1=.slice ak A.data.length K:=aF;have aG:y2=.slice al A.nodes.length aa:=aG;subst aF;subst aG;have bK:=zh (bJ.o.below ac);have bh:=zh ((ac.block bY (zAB bg.o)).trans bg.o);have HY:=zh hy;clear hy ac;unfold zC7;generalize cf:A.data.length=m3 at *;generalize ch:A.nodes.length=m4 at *;have T:=zh (zAD wE (.cells #[.int .i64 A.term,.int .i64 A.kind,.slice ak m3 K,.slice al m4 aa] 50));have V:=zh (zAI wE (.cells #[.int .i64 A.term,.int .i64 A.kind,.slice ak m3 K,.slice al m4 aa] 50));have X:=zh ((T.o.block bY (zAB bh.o)).trans bh.o);have aB:=zh (aU.o.trans (T.o.mono aU.o.size));have aC:=zh (zDr (bK.o.below T.o) (HY.o.below T.o));unfold zC7 at aC;dsimp only at aC;clear cf ch;have s0:=zAW X.o;have s1:=zAd X.o;have s2:=zAb X.o;have s3:=zAu X.o;have t0:=zAW V.o;have t1:=zAd V.o;have t2:=zAb V.o;have t3:=zAu V.o
      by_cases G:ta=tb
      rotate_left
      ·have bX:(ta != tb)=true:=by simpa using G
       have l:=zW (zBW w1 M N (.returned (.bool false)) (wE.alloc (.cells #[.int .i64 A.term,.int .i64 A.kind,.slice ak m3 K,.slice al m4 aa] 50))) (⟨false,rfl,fun k=>absurd (bH.o k) G,aB.o⟩);clear G;go_wp2_with fail;go_ret;exact l.o
      have bX:(ta != tb)=false:=by simpa using G
      have cm:(ts != ts)=false:=by cases ts<;>rfl
      clear G;go_wp2_with fail;refine aC.o.mono ?_;rintro e wG ⟨rfl,br⟩;have aV:=zh (aB.o.trans (br.mono aB.o.size));clear br s0 s1 s2 s3 t0 t1 t2 t3;cases ae:entEq a A with
      | false =>
       have l:=zW (zBW w1 M N (.returned (.bool false)) wG) (⟨false,rfl,fun k=>(by rw[bG.o k,entEq_refl]at ae;cases ae),aV.o⟩);clear ae;go_wp2_with fail;go_ret;exact l.o
      | true =>
       clear ae;go_wp2_with fail;go_roundw
       case rel=>exact⟨z+1,by go_num,by omega,by omega,aV.o⟩
       case measure=>simp[intOf];omega
     ·have bZ:decide (z≤(N.last:Int)+1)=false:=decide_eq_false bA;have l:=zW (zBW w1 M N (.returned (.bool true)) wr) (⟨true,rfl,fun _=>rfl,hb⟩);clear hb;go_wp2_with fail;go_ret;exact l.o
end
def zCQ.off (s:zCQ)(M:zAJ):Int:=(M.last:Int)+max (-6) (min s.a 6)
def zDy (s:zCQ)(D:zAA)(M:zAJ):zAA×zAJ×Bool :=
 if s.kind=1 then((zAr [97] D M s.es).disk,(zAr [97] D M s.es).jou,false)
 else if s.kind=2 then((zBQ [97] D M (M.now+max (-1) (min s.a 3)) s.b).disk,(zBQ [97] D M (M.now+max (-1) (min s.a 3)) s.b).jou,false)
 else if s.kind=3 then((zB2 [97] D M (s.off M)).disk,(zB2 [97] D M (s.off M)).jou,false)
 else if s.kind=4 then((zAe [97] D M (s.off M) s.data).disk,(zAe [97] D M (s.off M) s.data).jou,false)
 else if s.kind=5 then((zAh [97] D M (s.off M) s.b s.nodes s.data).disk,(zAh [97] D M (s.off M) s.b s.nodes s.data).jou,false)
 else if s.kind=6 then if(zAS (D.crash s.a) [97] zDw).2.1=0 then((zAS (D.crash s.a) [97] zDw).1,(zAS (D.crash s.a) [97] zDw).2.2,false)else((zAS (D.crash s.a) [97] zDw).1,M,true)
 else if s.kind=7 then(D.setFuse s.a,M,false)
 else(D,M,false)
def zEK (w:World)(pb d r:Nat)(Z:zAA×zAJ×Bool)(e:Ending)(w':World):Prop :=
 e=.returned (.bool true)∧∃j x,w'.heap[pb]?=some (zEm d r (.pointer (some ⟨j,0,none⟩)) (.pointer (some ⟨x,0,none⟩)) Z.2.2)∧(Z.2.2=true→Below w.heap.size w w')∧(Z.2.2=false→zA7 w w' j d x r Z.1 Z.2.1 Z.1 Z.2.1 (fun k=>k=pb))
section
variable {w w1 w2:World} {pb j d x r:Nat} {D D2:zAA} {M M2:zAJ} {G:Nat→Prop}
theorem zA7.chg {S:Nat→Prop}(h:zA7 w w1 j d x r D M D2 M2 G)(i:Chg S w1 w2)(hS:∀k,S k→G k∧w.heap.size≤k):zA7 w w2 j d x r D M D2 M2 G:=by
 obtain⟨F,f,b,l,m,c,g⟩:=h;exact⟨F,f,b,l.move i (fun k _ e=>⟨(g k (hS k e).1).1,(hS k e).2⟩) fun k c=>⟨.inl c,Nat.lt_of_lt_of_le (l.flt c) i.size⟩,m.chg i fun k e=>(g k (hS k e).1).2,c,g⟩
end
section
variable {g:List Int} {A c r r':Nat} {M M':zAJ} {D:zAA} {P:zAJ→Prop} {ol os:Option zAT}
theorem zFl.more (h:zFl g r ol os M)(l:r≤r'):zFl g r' ol os M:=by
 obtain⟨m,d,b,f,i,j,k,c⟩:=h;exact⟨m,d,b,f,i,j,k,fun e=>⟨(c e).1,Nat.le_trans (c e).2 l⟩⟩
theorem AftJ.more (h:AftJ g A P D)(c:Nat):AftJ g (A+c) P D:=⟨h.srt,h.room,by have:=h.used;omega,h.cnt,fun k=>by
 obtain⟨N,a,b⟩:=h.says k;exact⟨N,a,b.more (by omega)⟩⟩
theorem zCZ.fuse (h:zCZ g A M D)(k:Int):zCZ g A M (D.setFuse k):=⟨h.ex,h.room,h.ok,h.ents,h.alive⟩
theorem zEv {W:zDW}{B:Nat}(h:zCZ g A M D)(i:Ends g A c M D M' P W)(k:c≤B):(W.jou.dead=false→zCZ g (A+B) W.jou W.disk)∧AftJ g (A+B) (fun _=>True) W.disk:=by
 obtain⟨x,rfl⟩:∃x,B=c+x:=⟨B-c,by omega⟩;rcases i with⟨-,rfl⟩|⟨-,j,b⟩|⟨-,f,d⟩
 ·exact⟨fun _=>h.more _,(h.more _).aft.mono fun _ _=>trivial⟩
 ·rw[j,←Nat.add_assoc];exact⟨fun _=>b.more x,(b.more x).aft.mono fun _ _=>trivial⟩
 ·rw[f,←Nat.add_assoc];exact⟨(fun e=>by cases e),(d.more x).mono fun _ _=>trivial⟩
theorem live_does {s:zCQ}(h:zCZ g A M D)(f:g=zDw)(i:s.light)(k:s.kind≤5)(j:A+wt5 s≤6100) :
  ((zDy s D M).2.1.dead=false→zCZ g (A+wt5 s) (zDy s D M).2.1 (zDy s D M).1)∧AftJ g (A+wt5 s) (fun _=>True) (zDy s D M).1:=by
 subst f;obtain⟨d,-⟩:=i;have l:zCa s.es+5≤wt5 s:=by unfold wt5;omega
 unfold zDy
 by_cases k1:s.kind=1
 ·rw[if_pos k1];exact zEv h (live_append h (c:=zCa s.es) (Nat.le_refl _) (by omega)) (by omega)
 rw[if_neg k1]
 by_cases k2:s.kind=2
 ·rw[if_pos k2];exact zEv h (live_term h _ _ (by omega)) (by omega)
 rw[if_neg k2]
 by_cases k3:s.kind=3
 ·rw[if_pos k3];exact zEv h (live_cut h _ (by omega)) (by omega)
 rw[if_neg k3]
 by_cases k4:s.kind=4
 ·rw[if_pos k4];exact zEv h (live_compact h _ d (by omega)) (Nat.zero_le _)
 rw[if_neg k4]
 by_cases b:s.kind=5
 ·rw[if_pos b];exact zEv h (live_install h _ _ d (by omega)) (Nat.zero_le _)
 rw[if_neg b,if_neg (by omega),if_neg (by omega)];exact⟨fun _=>h.more _,(h.more _).aft.mono fun _ _=>trivial⟩
end
theorem does_over {s:zCQ}(h:s.kind≤5)(D:zAA)(M:zAJ):(zDy s D M).2.2=false:=by
 unfold zDy;rw[if_neg (show ¬s.kind=6 by omega),if_neg (show ¬s.kind=7 by omega)]
 repeat' split
 all_goals rfl
def TwI (l:List zCQ)(k:Nat)(D:zAA)(M:zAJ):Prop:=(M.dead=false→zCZ zDw (wts (l.take k)) M D)∧AftJ zDw (wts (l.take k)) (fun _=>True) D
section
variable {l:List zCQ} {k:Nat} {D:zAA} {M:zAJ} {s:zCQ}
theorem tw_start (l:List zCQ)(f:Int):TwI l 0 ((zC6 1048576 [97] zDw).setFuse f) (zAJ.none0 zDw) :=
 ⟨fun _=>live_start.fuse f,(live_start.fuse f).aft.mono fun _ _=>trivial⟩
theorem tw_skip (h:TwI l k D M)(b:l[k]?=some s):TwI l (k+1) D M:=by
 unfold TwI;rw[wts_succ b];exact⟨fun e=>(h.1 e).more _,h.2.more _⟩
theorem tw_does (h:TwI l k D M)(i:l[k]?=some s)(g:s.light)(f:s.kind≤5)(d:M.dead=false)(j:wts (l.take 80)≤6000)(c:k<80):TwI l (k+1) (zDy s D M).1 (zDy s D M).2.1:=by
 have b:=wts_le l (show k+1≤80 by omega);unfold TwI;rw[wts_succ i]at b ⊢;exact live_does (h.1 d) rfl g f (by omega)
theorem tw_end (h:TwI l k D M)(i:wts (l.take 80)≤6000)(f:k≤80)(d:Int) :
  ∃c,(zAS (D.crash d) [97] zDw).2=(0,c)∧∀a t:Int,(zAS ((D.crash d).setFuse a) [97] zDw).1.room=1048576∧(zAS ((zAS ((D.crash d).setFuse a) [97] zDw).1.crash t) [97] zDw).2=(0,c):=by
 have g:=wts_le l f;obtain⟨c,-,a,b⟩:=aft_open rfl h.2 (by omega) d;exact⟨c,a,b⟩
theorem tw_room (h:TwI l k D M):D.room=1048576:=h.2.room
theorem tw_few (h:TwI l k D M)(d:M.dead=false)(i:wts (l.take 80)≤6000)(b:k≤80):M.entries.length≤500000:=by
 have f:=wts_le l b;have g:=(h.1 d).ents;have c:∀es:List Ent,es.length≤zCa es:=fun es=>by
  unfold zCa
  induction es with
  | nil=>exact Nat.le_refl _
  | cons e r ih =>
   rw[List.map_cons,List.sum_cons,List.length_cons];have:5≤entW e:=by unfold entW;omega
   omega
 have:=c M.entries;omega
theorem tw_snp (h:TwI l k D M)(A:wts (l.take 80)≤6000)(b:k≤80)(a:Int):∀O:OpensJ (D.crash a) (nm sA) zDw,(zD8 (Sat.get (zBL (nm sA)) O.D2.files)).length≤524288:=fun O=>by
 have t:=wts_le l b;have z:=h.2.used;have n:=crash_used D a;obtain⟨j,r,q1,c,-⟩:=jc_rid1 (show Srt (D.crash a).files from mp_srt h.2.srt) n_shl;have g:=O.h1;rw[show zAF (zAm (nm sA))=zAF (zAm [97])from rfl,q1]at g;obtain rfl:j=O.D1:=congrArg Prod.fst g;obtain⟨D2,s,q2,d,-⟩:=jc_rid1 c.srt n_shs;have i:=O.h2;rw[show zAF (zBL (nm sA))=zAF (zBL [97])from rfl,q2]at i;obtain rfl:D2=O.D2:=congrArg Prod.fst i;have p:=c.used;have q:=d.used;cases o:Sat.get (zBL (nm sA)) O.D2.files with
 | none =>
  rw[zFV];exact Nat.zero_le _
 | some f =>
  rw[zD9];have m:zAA.size f≤O.D2.used:=le_sum d.srt o;have v:=oneB_short (zCq (some f));have y:(zCq (some f)).length=f.data.length:=rfl;unfold zAA.size at m;omega
end
def SnN (q:Bs):Prop:=q=zBL [97]∨q=zAF (zBL [97])
structure Inv5 (R i:Nat)(D:zAA)(M:zAJ):Prop where
 small:zBJ SnN 100000 R D
 ents:M.entries.length≤90000+1200*i
section
variable {R i k:Nat} {D:zAA} {M:zAJ}
theorem Inv5.more (h:Inv5 R i D M):Inv5 R (i+1) D M:=⟨h.small,by have:=h.ents;omega⟩
end
theorem known5_calls (w:World):Calls prog 20 #[] w fun e w'=>e=.returned (.bool true)∧Below w.heap.size w w':=by
 have ai:=zh (start_calls w 65536 (by decide) (by decide));obtain⟨D1,D2,L,M⟩:=known5;have aa:=zh L;have ab:=zh M;clear L M;have kc:=fun(w:World) (C:Array Value) (n c:Nat)=>Lib.run_convert_bytes_const (P:=prog) w 22 5 C n c underlying22 underlying5
 go_enter func20,ntmps20
 go_wp2_with fail;refine ai.o.mono ?_;rintro e w1 ⟨p,d,r,rfl,⟨j,x,hJ,hp⟩,-⟩;have HJ:=zh hJ;have Hp:=zh hp;have c2:=zAb hp;clear hJ hp;have V:=zW (zAl w ((w1.alloc (.cells #[.int .u8 120] 5 (1,2))).alloc (.cells #[.int .i64 1,.int .i64 0,.slice none 0 0,.slice none 0 0,.int .i64 2,.int .i64 1,.slice (some ⟨w1.heap.size,0,none⟩) 1 1,.slice none 0 0] 50)) j d sA (zC6 65536 [97] zDw) (zAJ.none0 zDw) (fun k=>(k=p∨k=w1.heap.size)∨k=w1.heap.size+1)) (by
  have:=(HJ.o.box (.cells #[.int .u8 120] 5 (1,2))).box (.cells #[.int .i64 1,.int .i64 0,.slice none 0 0,.slice none 0 0,.int .i64 2,.int .i64 1,.slice (some ⟨w1.heap.size,0,none⟩) 1 1,.slice none 0 0] 50);simpa using this)
 have D:((w1.alloc (.cells #[.int .u8 120] 5 (1,2))).alloc (.cells #[.int .i64 1,.int .i64 0,.slice none 0 0,.slice none 0 0,.int .i64 2,.int .i64 1,.slice (some ⟨w1.heap.size,0,none⟩) 1 1,.slice none 0 0] 50)).heap[w1.heap.size]?=some (.cells #[.int .u8 120] 5 (1,2)):=zAy _ (zAI w1 _);have E:((w1.alloc (.cells #[.int .u8 120] 5 (1,2))).alloc (.cells #[.int .i64 1,.int .i64 0,.slice none 0 0,.slice none 0 0,.int .i64 2,.int .i64 1,.slice (some ⟨w1.heap.size,0,none⟩) 1 1,.slice none 0 0] 50)).heap[w1.heap.size+1]?=some (.cells #[.int .i64 1,.int .i64 0,.slice none 0 0,.slice none 0 0,.int .i64 2,.int .i64 1,.slice (some ⟨w1.heap.size,0,none⟩) 1 1,.slice none 0 0] 50):=by have:=zAI (w1.alloc (.cells #[.int .u8 120] 5 (1,2))) (.cells #[.int .i64 1,.int .i64 0,.slice none 0 0,.slice none 0 0,.int .i64 2,.int .i64 1,.slice (some ⟨w1.heap.size,0,none⟩) 1 1,.slice none 0 0] 50);simpa using this
 have U:=zW (∀W,Below w.heap.size w W→Same (fun k=>(k=p∨k=w1.heap.size)∨k=w1.heap.size+1) ((w1.alloc (.cells #[.int .u8 120] 5 (1,2))).alloc (.cells #[.int .i64 1,.int .i64 0,.slice none 0 0,.slice none 0 0,.int .i64 2,.int .i64 1,.slice (some ⟨w1.heap.size,0,none⟩) 1 1,.slice none 0 0] 50)) W→zCO W (.slice (some ⟨w1.heap.size+1,0,none⟩) 2 2) [ke1,ke2] [(.slice none 0 0,.slice none 0 0),(.slice (some ⟨w1.heap.size,0,none⟩) 1 1,.slice none 0 0)]) (fun W _ Q=>by
  have h1:=(Q w1.heap.size (.inl (.inr rfl))).trans D;have h2:=(Q (w1.heap.size+1) (.inr rfl)).trans E;have f:∀l:List Value,l=[]→zAM W 1 (.slice none 0 0) 0 l:=fun l e=>by rw[e];exact⟨rfl,none,0,rfl,fun _=>rfl,fun a m=>by cases m⟩
  refine⟨rfl,⟨rfl,some ⟨w1.heap.size+1,0,none⟩,2,rfl,fun e=>(by cases e),fun a m i u y=>?_⟩,fun i e v H g=>?_⟩
  ·cases m;rw[add_zero];refine zAG h2 ?_;simpa[zA3,zEy,ke1,ke2]using y
  ·match i,H,g with
   | 0,H,g =>
    cases H;cases g;exact⟨f _ rfl,f _ rfl,by decide,by decide⟩
   | 1,H,g =>
    cases H;cases g;refine⟨⟨rfl,some ⟨w1.heap.size,0,none⟩,1,rfl,fun e=>(by cases e),fun a m i u y=>?_⟩,f _ rfl,by decide,by decide⟩;cases m;rw[add_zero];refine zAG h1 ?_;simpa[zAQ,ke2]using y)
 have h:=zh (zGL V.o U.o (by decide));rw[show zAr (nm sA) (zC6 65536 [97] zDw) (zAJ.none0 zDw) [ke1,ke2]=⟨D1,kM1,0⟩from aa.o]at h;have ad:=zh (zAy (.cells #[.int .i64 1,.int .i64 0,.slice none 0 0,.slice none 0 0,.int .i64 2,.int .i64 1,.slice (some ⟨w1.heap.size,0,none⟩) 1 1,.slice none 0 0] 50) (zAy (.cells #[.int .u8 120] 5 (1,2)) Hp.o));clear D E;go_wp2_with fail;refine h.o.mono ?_;rintro e w2 ⟨rfl,I,N⟩;have X:=zh (I.less (F':=fun k=>k=p) fun k hk=>.inl (.inl hk));have B:=zh ((N p (.inl (.inl rfl))).trans ad.o);have d2:=zAb B.o;clear I N c2;have Y:=zh (X.o.box (.cells #[.int .u8 115] 5 (1,2)));have F:=zAI w2 (.cells #[.int .u8 115] 5 (1,2));have A:=zh (zFf Y.o (show kM1.entries.length≤1000000 by decide) 1 (by decide) (pd:=some ⟨w2.heap.size,0,none⟩) (n:=1) (cd:=1) (b:=[115]) rfl (by decide) fun W _ Q=>⟨rfl,some ⟨w2.heap.size,0,none⟩,1,rfl,fun e=>(by cases e),fun a m i u y=>by
  cases m;rw[add_zero];refine zAG ((Q w2.heap.size (.inr rfl)).trans F) ?_;simpa[zAQ]using y⟩)
 rw[show zAe (nm sA) D1 kM1 1 [115]=⟨D2,kM2,0⟩from ab.o]at A;have ae:=zh (zAy (.cells #[.int .u8 115] 5 (1,2)) B.o);clear F;go_wp2_with fail;refine A.o.mono ?_;rintro e w3 ⟨rfl,J,O⟩;have s:=zh J;have af:=zh ((O p (.inl rfl)).trans ae.o);have e2:=zAb af.o;have K:=zh (zFr s.o);clear J O d2;go_wp2_with fail;refine K.o.mono ?_;rintro e w4 ⟨rfl,R,rfl⟩;have Z:=zh (s.o.drewN R);have ac:=zh (zCs Z.o);have e2:(w3.drewN R).cell? ⟨p,2,none⟩=some (.pointer (some ⟨j,0,none⟩)):=e2;rw[show((kM2.number:Nat):Int)=1 from rfl,show kM2.term=1 from rfl];go_wp2_with fail;refine ac.o.mono ?_;rintro e w5 ⟨rfl,q5,rfl⟩;rw[show((kM2.last:Nat):Int)=2 from rfl,show kM2.lastT=2 from rfl];have t:=zh (s.o.drewN (R+q5));have ah:=zh (jsnap_calls t.o);have e3:((w3.drewN R).drewN q5).cell? ⟨p,2,none⟩=some (.pointer (some ⟨j,0,none⟩)):=e2;go_wp2_with fail;refine ah.o.mono ?_;rintro e q ⟨v,u,rfl,g,-,-,G⟩;have z:=zW (Below w.heap.size w q) (t.o.bel.trans (G.mono t.o.bel.size));have g:zAj q 5 v [115]:=g;have Hv:=zW (zAY (q.alloc (.cells #[.int .u8 115] 5 (1,2))) v [115]) ((zCL g (zAD q (.cells #[.int .u8 115] 5 (1,2)))).has);obtain⟨pv,cv,rfl,-⟩:=zAN g;have Hl:=zW (zAY (q.alloc (.cells #[.int .u8 115] 5 (1,2))) (.slice (some ⟨q.heap.size,0,none⟩) 1 1) [115]) (⟨rfl,some ⟨q.heap.size,0,none⟩,1,rfl,fun e=>(by cases e),fun a m i u y=>by
  cases m;rw[add_zero];refine zAG (zAI q _) ?_;simpa[zAQ]using y⟩)
 have ag:=zh (zFz Hv.o Hl.o (by decide) (by decide));have S:=zh (z.o.alloc z.o.size (.cells #[.int .u8 115] 5 (1,2)));clear g G;go_wp2_with fail;refine ag.o.mono ?_;rintro e w7 ⟨rfl,n7,rfl⟩;have T:=zh (S.o.trans ⟨rfl,rfl,rfl,Nat.le_refl _,fun _ _=>rfl⟩:Below w.heap.size w ((q.alloc (.cells #[.int .u8 115] 5 (1,2))).drewN n7));rw[show((([115]:Bs)==[115]):Bool)=true from rfl];go_wp2_with fail;go_ret;exact⟨rfl,T.o⟩
theorem zDD.below {w W:World}{v:Value}{es:List Ent}{f:List EV}(h:zDD w v es f)(b:Below w.heap.size w W):zDD W v es f :=
 ⟨h.1,zAM.chg h.2.1 (Chg.of_below b) fun _ _=>id,fun i e u c d=>⟨zAY.below (h.2.2 i e u c d).1 b,zAM.chg (h.2.2 i e u c d).2.1 (Chg.of_below b) fun _ _=>id,(h.2.2 i e u c d).2.2⟩⟩
theorem Step5At.below {w W:World}{g j:Nat}{s:zCQ}(h:Step5At w g j s)(b:Below w.heap.size w W):Step5At W g j s :=
 ⟨zBG b h.ck,zBG b h.ca,zBG b h.cb,zBG b h.c3,zBG b h.c4,zBG b h.c5,h.he.below b,zAM.chg h.hn (Chg.of_below b) fun _ _=>id,zAY.below h.hd b,h.ok⟩
theorem Steps5.below {w W:World}{p:Option Addr}{n:Nat}{l:List zCQ}(h:Steps5 w p n l)(c:Below w.heap.size w W):Steps5 W p n l :=
 ⟨h.1,h.2.imp id fun⟨g,o,e,b⟩=>⟨g,o,e,fun i s d=>(b i s d).below c⟩⟩
theorem doesk_calls {w w1:World}{pb j d x r:Nat}{D:zAA}{M:zAJ}(h:zA7 w w1 j d x r D M D M (fun k=>k=pb))(hp:w1.heap[pb]?=some (zEm d r (.pointer (some ⟨j,0,none⟩)) (.pointer (some ⟨x,0,none⟩)) false))
  {kd a b:Int} {pl pn pd:Option Addr} {J cl nn cn Y cd:Nat} {es:List Ent} {vs:List EV} {nodes:List Int} {E:Bs}
  (bg:zCO w (.slice pl J cl) es vs) (ag:zBe w (.slice pn nn cn) nodes) (be:zAY w (.slice pd Y cd) E)
  (dk:-9223372036854775808≤a∧a≤9223372036854775807) (bR:-9223372036854775808≤b∧b≤9223372036854775807) (ay:(⟨kd,a,b,pl,J,cl,pn,nn,cn,pd,Y,cd,es,vs,nodes,E⟩:zCQ).light) (hM:M.entries.length≤500000) (cb:w.heap.size≤pb) (az:D.room≤1048576) (dj:kd≤5) :
  Calls prog 50 #[.pointer (some ⟨pb,0,none⟩),.agg #[.int .i64 kd,.int .i64 a,.int .i64 b,.slice pl J cl,.slice pn nn cn,.slice pd Y cd]] w1 (zEK w pb d r (zDy ⟨kd,a,b,pl,J,cl,pn,nn,cn,pd,Y,cd,es,vs,nodes,E⟩ D M)):=by
 have bk:=zAB hp;have H0:=zh ((h.box (.cells #[.int .i64 kd,.int .i64 a,.int .i64 b,.slice pl J cl,.slice pn nn cn,.slice pd Y cd] 80)).less (G':=fun k=>k=pb∨k=w1.heap.size) fun k hk=>hk);have HP:=zh (((zAD w1 (.cells #[.int .i64 kd,.int .i64 a,.int .i64 b,.slice pl J cl,.slice pn nn cn,.slice pd Y cd] 80)).block pb bk).trans hp);have HS:=zh (zAI w1 (.cells #[.int .i64 kd,.int .i64 a,.int .i64 b,.slice pl J cl,.slice pn nn cn,.slice pd Y cd] 80));obtain⟨bS,bT,bU,bV⟩:=ay;have bj:nodes.length=nn:=by obtain⟨_,_,e⟩:=ag.slice;simp only[Value.slice.injEq]at e;exact e.2.1.symm
 have bh:E.length=Y:=by obtain⟨_,_,e⟩:=be.slice;simp only[Value.slice.injEq]at e;exact e.2.1.symm
 have bi:es.length=J:=bg.len;have aQ:=zh bg;have bC:=zh ag;have aB:=zh be;have aR:=zh bV;have bA:=zh bj;have aD:=zh bh;have aE:=zh bi;have HM:=zh hM;have cQ:=zh az;have df:=zh cb;dsimp only at bS bT bU;rw[bh]at bS;rw[bj]at bT;rw[bi]at bU;have HZ:=zW (∀Z,zDy ⟨kd,a,b,pl,J,cl,pn,nn,cn,pd,Y,cd,es,vs,nodes,E⟩ D M=Z→zDy ⟨kd,a,b,pl,J,cl,pn,nn,cn,pd,Y,cd,es,vs,nodes,E⟩ D M=Z) fun _ h=>h;generalize hZ:zDy ⟨kd,a,b,pl,J,cl,pn,nn,cn,pd,Y,cd,es,vs,nodes,E⟩ D M=Z at *;have al:=zh hZ;clear hZ;have dq:pb<w1.heap.size:=bk;clear h hp bg ag be bV bj bh bi hM bk az cb;have B:=HP.o;have s:=HS.o;have p0:=zAW B;have p1:=zAd B;have p2:=zAb B;have p3:=zAu B;have s1:=zAd s;have s2:=zAb s;have T:=zAu s;have s4:=cell4 s;have s5:=cell5 s;clear B s
 go_enter func50,ntmps50
 go_upto_region 1 with(fail)
 have HL:=zW (∀W,zA7 w W j d x r D M D M (fun k=>k=pb∨k=w1.heap.size)→Calls prog 42 #[.pointer (some ⟨x,0,none⟩)] W fun e w'=>e=.returned (.tuple #[.int .i64 (M.last:Int),.int .i64 M.lastT])∧∃q,w'=W.drewN q) (fun W h=>by
  obtain⟨F,aG,aj,-,hR,-⟩:=h;exact zDp hR)
 have da:M.last≤1099511627776:=by
  obtain⟨F,aG,aj,-,hR,-⟩:=H0.o;exact hR.okM.last
 generalize cW:w1.alloc (.cells #[.int .i64 kd,.int .i64 a,.int .i64 b,.slice pl J cl,.slice pn nn cn,.slice pd Y cd] 80)=W0 at *;generalize di:w1.heap.size=S at *;clear cW;have cr:=zh (HL.o W0 H0.o);generalize bW:M.last=la at *;go_wp2_with fail;refine cr.o.mono ?_;rintro e w2 ⟨rfl,q,rfl⟩;have H1:=zh (H0.o.next (zAZ W0 q));have C:=zW ((W0.drewN q).heap[pb]?=_) HP.o;have A:=zW ((W0.drewN q).heap[S]?=_) HS.o;clear HL HP HS p0 p1 p2 p3 s1 s2 T s4 s5;generalize W0.drewN q=W1 at *;have B:=C.o;have s:=A.o;have p0:=zAW B;have p1:=zAd B;have p2:=zAb B;have p3:=zAu B;have s1:=zAd s;have s2:=zAb s;have T:=zAu s;have s4:=cell4 s;have s5:=cell5 s;clear B s;have s0:=zAW A.o
 go_upto_region 4 with(fail)
 have aC:=zh bW;generalize bZ:(la:Int)+max (-6) (min a 6)=l at *;have aF:=zh bZ;have dp:-10≤l∧l≤1099511627790:=by omega
 have aa:=zh (show -9223372036854775808≤l∧l≤9223372036854775807 by omega);clear bZ bW;have aA:=zh (show M.entries.length≤1000000 by have:=HM.o;omega)
 by_cases k3:kd=3
 ·subst k3;go_wp2_with fail;refine ost (fun w':World=>w'.heap[pb]?=some (zEm d r (.pointer (some ⟨j,0,none⟩)) (.pointer (some ⟨x,0,none⟩)) false)∧w'.heap[S]?=some (.cells #[.int .i64 3,.int .i64 a,.int .i64 b,.slice pl J cl,.slice pn nn cn,.slice pd Y cd] 80 (0,0))) 14 ⟨C.o,A.o⟩ fun f=>?_;have H2:=zh (H1.o.next (zAV W1));clear C A H1 p0 p1 p2 p3 s1 s2 T s4 s5 s0;generalize W1.drew=W2 at *;refine Pl [0,1,2,3,4,6,7,8,9,10] ?_
  iterate 10 (refine Pd rfl (by intro w g;have p0:=zAW g.1;have p1:=zAd g.1;have p2:=zAb g.1;have p3:=zAu g.1;have s1:=zAd g.2;have s2:=zAb g.2;have T:=zAu g.2;have s4:=cell4 g.2;have s5:=cell5 g.2;go_simp;try with_reducible rfl) ?_;simp only[uZ])
  refine Pn ?_;have G:=zh (py_cut H2.o l aa.o);have Q:Z=((zB2 [97] D M l).disk,(zB2 [97] D M l).jou,false):=by
   rw[←al.o];unfold zDy
   try unfold zCQ.off
   dsimp only;rw[if_neg (by decide),if_neg (by decide),if_pos rfl]
   try rw[aC.o]
   try rw[aF.o]
  have X:=zh Q;clear Q;generalize L:zB2 [97] D M l=Z1 at *;refine oon 5 rfl fun K O=>?_;go_wp2_with fail;refine G.o.mono ?_;rintro e w3 ⟨rfl,U,t⟩;have m:=zh (And.intro ((t pb (.inl rfl)).trans f.1) ((t S (.inr rfl)).trans f.2));have H:=zh (py_rcut U l aa.o);rw[L]at H;clear L G H2;clear U t f;go_wp2_with fail;refine O.o _ _ m.o fun f=>?_;clear O m
  try simp only[uZ]
  refine oon 11 rfl fun K O=>?_;go_wp2_with fail;refine H.o.mono ?_;rintro e w4 ⟨rfl,h4,I⟩;have m:=zh (And.intro ((I pb (.inl rfl)).trans f.1) ((I S (.inr rfl)).trans f.2));have HE:=zW (zEK w pb d r Z (.returned (.bool true)) w4) (by
   rw[X.o];exact⟨rfl,j,x,m.o.1,(fun e=>by cases e),fun _=>h4.less fun k hk=>.inl hk⟩)
  clear H;clear h4 I f;go_wp2_with fail;refine O.o _ _ m.o fun f=>?_;clear O m
  try simp only[uZ]
  refine Pl [12,13] ?_
  iterate 2 (refine Pc rfl ?_;simp only[uZ])
  refine Pn ?_;refine odn ?_;clear f;go_wp2_with fail;go_ret;exact HE.o
 by_cases k4:kd=4
 ·subst k4;go_wp2_with fail;refine ost (fun w':World=>w'.heap[pb]?=some (zEm d r (.pointer (some ⟨j,0,none⟩)) (.pointer (some ⟨x,0,none⟩)) false)∧w'.heap[S]?=some (.cells #[.int .i64 4,.int .i64 a,.int .i64 b,.slice pl J cl,.slice pn nn cn,.slice pd Y cd] 80 (0,0))) 18 ⟨C.o,A.o⟩ fun f=>?_;have H2:=zh (H1.o.next (zAV W1));clear C A H1 p0 p1 p2 p3 s1 s2 T s4 s5 s0;generalize W1.drew=W2 at *;refine Pl [0,1,2,3,4,5,6,8,9,10,11,12,13,14] ?_
  iterate 14 (refine Pd rfl (by intro w g;have p0:=zAW g.1;have p1:=zAd g.1;have p2:=zAb g.1;have p3:=zAu g.1;have s1:=zAd g.2;have s2:=zAb g.2;have T:=zAu g.2;have s4:=cell4 g.2;have s5:=cell5 g.2;go_simp;try with_reducible rfl) ?_;simp only[uZ])
  refine Pn ?_;have G:=zh (py_compact H2.o aA.o l aa.o aD.o (by omega) aB.o);have Q:Z=((zAe [97] D M l E).disk,(zAe [97] D M l E).jou,false):=by
   rw[←al.o];unfold zDy
   try unfold zCQ.off
   dsimp only;rw[if_neg (by decide),if_neg (by decide),if_neg (by decide),if_pos rfl]
   try rw[aC.o]
   try rw[aF.o]
  have X:=zh Q;clear Q;generalize L:zAe [97] D M l E=Z1 at *;refine oon 7 rfl fun K O=>?_;go_wp2_with fail;refine G.o.mono ?_;rintro e w3 ⟨rfl,U,t⟩;have m:=zh (And.intro ((t pb (.inl rfl)).trans f.1) ((t S (.inr rfl)).trans f.2));have H:=zh (py_rcompact U aA.o l aa.o aD.o (by omega) aB.o);rw[L]at H;clear L G H2;clear U t f;go_wp2_with fail;refine O.o _ _ m.o fun f=>?_;clear O m
  try simp only[uZ]
  refine oon 15 rfl fun K O=>?_;go_wp2_with fail;refine H.o.mono ?_;rintro e w4 ⟨rfl,h4,I⟩;have m:=zh (And.intro ((I pb (.inl rfl)).trans f.1) ((I S (.inr rfl)).trans f.2));have HE:=zW (zEK w pb d r Z (.returned (.bool true)) w4) (by
   rw[X.o];exact⟨rfl,j,x,m.o.1,(fun e=>by cases e),fun _=>h4.less fun k hk=>.inl hk⟩)
  clear H;clear h4 I f;go_wp2_with fail;refine O.o _ _ m.o fun f=>?_;clear O m
  try simp only[uZ]
  refine Pl [16,17] ?_
  iterate 2 (refine Pc rfl ?_;simp only[uZ])
  refine Pn ?_;refine odn ?_;clear f;go_wp2_with fail;go_ret;exact HE.o
 by_cases k5:kd=5
 ·subst k5;go_wp2_with fail;refine ost (fun w':World=>w'.heap[pb]?=some (zEm d r (.pointer (some ⟨j,0,none⟩)) (.pointer (some ⟨x,0,none⟩)) false)∧w'.heap[S]?=some (.cells #[.int .i64 5,.int .i64 a,.int .i64 b,.slice pl J cl,.slice pn nn cn,.slice pd Y cd] 80 (0,0))) 26 ⟨C.o,A.o⟩ fun f=>?_;have H2:=zh (H1.o.next (zAV W1));clear C A H1 p0 p1 p2 p3 s1 s2 T s4 s5 s0;generalize W1.drew=W2 at *;refine Pl [0,1,2,3,4,5,6,7,8,9,10,12,13,14,15,16,17,18,19,20,21,22] ?_
  iterate 22 (refine Pd rfl (by intro w g;have p0:=zAW g.1;have p1:=zAd g.1;have p2:=zAb g.1;have p3:=zAu g.1;have s1:=zAd g.2;have s2:=zAb g.2;have T:=zAu g.2;have s4:=cell4 g.2;have s5:=cell5 g.2;go_simp;try with_reducible rfl) ?_;simp only[uZ])
  refine Pn ?_;have G:=zh (py_install H2.o aA.o l b aa.o aD.o (by omega) bA.o (by omega) bC.o aB.o);have Q:Z=((zAh [97] D M l b nodes E).disk,(zAh [97] D M l b nodes E).jou,false):=by
   rw[←al.o];unfold zDy
   try unfold zCQ.off
   dsimp only;rw[if_neg (by decide),if_neg (by decide),if_neg (by decide),if_neg (by decide),if_pos rfl]
   try rw[aC.o]
   try rw[aF.o]
  have X:=zh Q;clear Q;generalize L:zAh [97] D M l b nodes E=Z1 at *;refine oon 11 rfl fun K O=>?_;go_wp2_with fail;refine G.o.mono ?_;rintro e w3 ⟨rfl,U,t⟩;have m:=zh (And.intro ((t pb (.inl rfl)).trans f.1) ((t S (.inr rfl)).trans f.2));have H:=zh (py_rinstall U aA.o l b aa.o aD.o (by rw[bA.o];omega) bC.o aB.o);rw[L]at H;clear L G H2;clear U t f;go_wp2_with fail;refine O.o _ _ m.o fun f=>?_;clear O m
  try simp only[uZ]
  refine oon 23 rfl fun K O=>?_;go_wp2_with fail;refine H.o.mono ?_;rintro e w4 ⟨rfl,h4,I⟩;have m:=zh (And.intro ((I pb (.inl rfl)).trans f.1) ((I S (.inr rfl)).trans f.2));have HE:=zW (zEK w pb d r Z (.returned (.bool true)) w4) (by
   rw[X.o];exact⟨rfl,j,x,m.o.1,(fun e=>by cases e),fun _=>h4.less fun k hk=>.inl hk⟩)
  clear H;clear h4 I f;go_wp2_with fail;refine O.o _ _ m.o fun f=>?_;clear O m
  try simp only[uZ]
  refine Pl [24,25] ?_
  iterate 2 (refine Pc rfl ?_;simp only[uZ])
  refine Pn ?_;refine odn ?_;clear f;go_wp2_with fail;go_ret;exact HE.o
 by_cases k2:kd=2
 ·subst k2;have aK:W1.cell? ⟨x,5,none⟩=some (.int .i64 M.now)∧0≤M.now∧M.now≤1099511627776:=by
   obtain⟨F,aG,aj,-,hR,-⟩:=H1.o;obtain⟨gv,dv,ev,hc⟩:=hR.cellsD;have h1:=zAo.1 hR.okM.now;exact⟨zAG hc rfl,h1.1,h1.2⟩
  obtain⟨aK,dl,dn⟩:=aK;generalize bX:M.now=nw at *;have cP:=zh bX;clear bX;have dd:IntKind.i64.wrap (nw+max (-1) (min a 3))=nw+max (-1) (min a 3):=IntWalk.i64_in _ (by omega);go_wp2_with fail;refine ost (fun w':World=>w'.heap[pb]?=some (zEm d r (.pointer (some ⟨j,0,none⟩)) (.pointer (some ⟨x,0,none⟩)) false)∧w'.heap[S]?=some (.cells #[.int .i64 2,.int .i64 a,.int .i64 b,.slice pl J cl,.slice pn nn cn,.slice pd Y cd] 80 (0,0))∧w'.cell? ⟨x,5,none⟩=some (.int .i64 nw)) 13 ⟨C.o,A.o,aK⟩ fun f=>?_;refine Pl [0,1,2,3,4,5,6,7,8,9,10,11,12] ?_
  iterate 13 (refine Pd rfl (by intro w g;have p0:=zAW g.1;have p1:=zAd g.1;have p2:=zAb g.1;have p3:=zAu g.1;have s1:=zAd g.2.1;have s2:=zAb g.2.1;have T:=zAu g.2.1;have s4:=cell4 g.2.1;have s5:=cell5 g.2.1;have x5:=g.2.2;go_simp;try with_reducible rfl) ?_;simp only[uZ])
  refine Pn ?_;refine odn ?_;have H1:=zh (H1.o.next (zAV W1));have C:=zh f.1;have A:=zh f.2.1;clear f aK p0 p1 p2 p3 s1 s2 T s4 s5 s0;generalize W1.drew=W1 at *;have B:=C.o;have s:=A.o;have p0:=zAW B;have p1:=zAd B;have p2:=zAb B;have p3:=zAu B;have s1:=zAd s;have s2:=zAb s;have T:=zAu s;have s4:=cell4 s;have s5:=cell5 s;clear B s;have s0:=zAW A.o;clear dd;generalize ce:nw+max (-1) (min a 3)=tt at *;have cT:=zh ce;have bI:=zh (show -9223372036854775808≤tt∧tt≤9223372036854775807 by omega);clear ce;go_wp2_with fail;refine ost (fun w':World=>w'.heap[pb]?=some (zEm d r (.pointer (some ⟨j,0,none⟩)) (.pointer (some ⟨x,0,none⟩)) false)∧w'.heap[S]?=some (.cells #[.int .i64 2,.int .i64 a,.int .i64 b,.slice pl J cl,.slice pn nn cn,.slice pd Y cd] 80 (0,0))) 18 ⟨C.o,A.o⟩ fun f=>?_;have H2:=zh (H1.o.next (zAV W1));clear C A H1 p0 p1 p2 p3 s1 s2 T s4 s5 s0;generalize W1.drew=W2 at *;refine Pl [0,1,2,3,4,5,6,8,9,10,11,12,13,14] ?_
  iterate 14 (refine Pd rfl (by intro w g;have p0:=zAW g.1;have p1:=zAd g.1;have p2:=zAb g.1;have p3:=zAu g.1;have s1:=zAd g.2;have s2:=zAb g.2;have T:=zAu g.2;have s4:=cell4 g.2;have s5:=cell5 g.2;go_simp;try with_reducible rfl) ?_;simp only[uZ])
  refine Pn ?_;have G:=zh (py_term H2.o tt b bI.o bR);have Q:Z=((zBQ [97] D M tt b).disk,(zBQ [97] D M tt b).jou,false):=by
   rw[←al.o];unfold zDy
   try unfold zCQ.off
   dsimp only;rw[if_neg (by decide),if_pos rfl,cP.o,cT.o]
   try rw[aC.o]
   try rw[aF.o]
  have X:=zh Q;clear Q;generalize L:zBQ [97] D M tt b=Z1 at *;refine oon 7 rfl fun K O=>?_;go_wp2_with fail;refine G.o.mono ?_;rintro e w3 ⟨rfl,U,t⟩;have m:=zh (And.intro ((t pb (.inl rfl)).trans f.1) ((t S (.inr rfl)).trans f.2));have H:=zh (py_rterm U tt b bI.o bR);rw[L]at H;clear L G H2;clear U t f;go_wp2_with fail;refine O.o _ _ m.o fun f=>?_;clear O m
  try simp only[uZ]
  refine oon 15 rfl fun K O=>?_;go_wp2_with fail;refine H.o.mono ?_;rintro e w4 ⟨rfl,h4,I⟩;have m:=zh (And.intro ((I pb (.inl rfl)).trans f.1) ((I S (.inr rfl)).trans f.2));have HE:=zW (zEK w pb d r Z (.returned (.bool true)) w4) (by
   rw[X.o];exact⟨rfl,j,x,m.o.1,(fun e=>by cases e),fun _=>h4.less fun k hk=>.inl hk⟩)
  clear H;clear h4 I f;go_wp2_with fail;refine O.o _ _ m.o fun f=>?_;clear O m
  try simp only[uZ]
  refine Pl [16,17] ?_
  iterate 2 (refine Pc rfl ?_;simp only[uZ])
  refine Pn ?_;refine odn ?_;clear f;go_wp2_with fail;go_ret;exact HE.o
 by_cases k1:kd=1
 ·subst k1;obtain⟨i4,cY,cg,ch,ci⟩:=info_parts (show(prog.info? 50).map (fun i=>(i.zero,i.size,i.bytes))=some (some (.agg #[.int .i64 0,.int .i64 0,.slice none 0 0,.slice none 0 0]),4,64) by kernel_rfl);have Q:Z=((zAr [97] D M es).disk,(zAr [97] D M es).jou,false):=by
   rw[←al.o];unfold zDy;dsimp only;rw[if_pos rfl]
  have X:=zh Q;have ar:=zh (zAB A.o);clear Q p0 p1 p2 p3 s0 s1 s2 T s4 s5;have T:=zAu A.o;go_wp2_with fail
  go_loopw [8,9] (fun vl i wr=>∃(k:Nat) (us:List EV),k≤J∧i=.int .i64 k∧zEl W1 wr vl (es.take k) us) (fun _ i _=>J-(intOf i).toNat)
  case atStart=>exact⟨0,[],Nat.zero_le _,rfl,zEl.nil W1⟩
  case round =>
   obtain⟨k,us,hk,rfl,hO⟩:=hrel;have HO:=zh hO;have cB:=zh ((hO.bel.block S ar.o).trans A.o);clear hO T;have T:=zAu cB.o
   by_cases ay:k<J
   ·have ab:k<es.length:=by rw[aE.o];exact ay
    have ck:=zh (H1.o.bel.trans (HO.o.bel.mono H1.o.bel.size));obtain⟨bl,ol,v,rfl,ae,q0,q1,q2,q3⟩:=(aQ.o.below ck.o).ent ab;have cX:=aR.o _ (List.getElem_mem ab);have cS:=zW (es.take (k+1)=es.take k++[es[k]]) (List.take_succ_eq_append_getElem ab);have aU:=zh (show(es.take k).length=k by rw[List.length_take];omega);generalize es[k]=R at *;obtain⟨v1,v2⟩:=v;obtain⟨pa,ca,ea⟩:=ae.data.slice;obtain⟨pc,cc,ec⟩:=ae.nodes.slice;replace ea:v1=.slice pa R.data.length ca:=ea;replace ec:v2=.slice pc R.nodes.length cc:=ec;subst ea;subst ec;have av:=zh (own5_calls ae);unfold zC7 at av;dsimp only at av q2 q3;generalize af:R.data.length=m1 at *;generalize am:R.nodes.length=m2 at *;have cN:=zh af;have cO:=zh am;obtain⟨pv,cv,ev⟩:=OwnR.shape HO.o.row;rw[aU.o]at ev;subst ev;clear af am ae ab;go_wp2_with fail;refine av.o.mono ?_;rintro e w3 ⟨⟨u1,u2⟩,rfl,hu,cf,aM,bL⟩;have HU:=zh (And.intro hu (And.intro cf aM));have aO:=zh bL;obtain⟨pu,cu,eu,-⟩:=zAN hu.data;obtain⟨pw,cw,ew,-⟩:=zAw hu.nodes;replace eu:u1=.slice pu R.data.length cu:=eu;replace ew:u2=.slice pw R.nodes.length cw:=ew;rw[cN.o]at eu;rw[cO.o]at ew;subst eu;subst ew;clear hu cf aM bL q0 q1 q2 q3 T;unfold zC7;have bp:=zh (zAD w3 (.cells #[.int .i64 R.term,.int .i64 R.kind,.slice pu m1 cu,.slice pw m2 cw] 50));have bw:=zW (OwnR (w3.alloc (.cells #[.int .i64 R.term,.int .i64 R.kind,.slice pu m1 cu,.slice pw m2 cw] 50)) 50 4 (.slice pv k cv) k (zA3 (es.take k) us)) (by
     have h1:=HO.o.row;rw[aU.o]at h1;exact h1.keep fun y hy=>(aO.o.trans (bp.o.mono aO.o.size)).block y (OwnR.lt h1 hy))
    have bJ:=zh (zE5 w3 #[.int .i64 R.term,.int .i64 R.kind,.slice pu m1 cu,.slice pw m2 cw] _ 4 1 1 rfl rfl 50 (0,0));go_wp2_with (at_builtin;refine zAP _ rfl (.tmp 47) (.tmp 54) 78 rfl 50 i4 (.agg #[.int .i64 0,.int .i64 0,.slice none 0 0,.slice none 0 0]) 4 64 underlying78 cY cg ch ci rfl (by decide) (.slice pv k cv) k _ rfl bw.o (.slice (some ⟨w3.heap.size,0,none⟩) 1 1) 1 _ rfl bJ.o (fun u hu=>by simp at hu;rcases hu with rfl|rfl|rfl|rfl<;>rfl) (by unfold maxLen;omega) (by omega) ?_;intro v4 w4 aN ax aL;go_loud (have ao:=zh (zEl.push (u:=(.slice pu m1 cu,.slice pw m2 cw)) HO.o aO.o HU.o.1 HU.o.2.1 HU.o.2.2 bp.o (by rw[aU.o];exact aN) ax aL);clear aN ax aL bw bJ))
    go_roundw
    case rel=>exact⟨k+1,us++[(.slice pu m1 cu,.slice pw m2 cw)],by omega,by go_num,by rw[cS.o];exact ao.o⟩
    case measure=>simp[intOf];omega
   ·obtain rfl:J=k:=by omega
    have hO:=HO.o;rw[List.take_of_length_le (by rw[aE.o];exact Nat.le_refl _)]at hO;obtain⟨pv,cv,ev⟩:=OwnR.shape hO.row;rw[aE.o]at ev;subst ev;have HO:=zh hO;have bK:=H1.o.more (G':=fun z=>z=pb∨z=S∨(W1.heap.size≤z∧z<wr.heap.size)) hO.bel fun z L=>by
     rcases L with L|L|L
     ·exact .inl (.inl L)
     ·exact .inl (.inr L)
     ·exact .inr L
    have ak:=zh ((hO.bel.block pb (zAB C.o)).trans C.o);have bH:=zh (And.intro (zAB C.o) ar.o);have cV:=zh H1.o.bel.size;have ap:=zh ((hO.bel.block S ar.o).trans A.o);have p2:=zAb ak.o;have cK:=zh (py_append bK (es:=es) (vs:=us) (p:=pv) (n:=J) (c:=cv) (fun W hs=>HO.o.keep (fun z h1 h2=>hs z (.inr (.inr ⟨h1,h2⟩))) aR.o) (by omega));clear hO bK;generalize L:zAr [97] D M es=Z1 at *;obtain⟨wl,rfl⟩:∃wl:World,wl=wr:=⟨_,rfl⟩;generalize dg:W1.heap.size=z9 at *;go_wp2_with fail;refine cK.o.mono ?_;rintro e w2 ⟨rfl,U,t⟩;have H1:=zh U;have C:=zh ((t pb (.inl rfl)).trans ak.o);have A:=zh ((t S (.inr (.inl rfl))).trans ap.o);have cs:=zh (HO.o.loop0 fun z h1 h2=>t z (.inr (.inr ⟨by omega,h2⟩)));clear U t ak ap p2 T;have B:=C.o;have s:=A.o;have p0:=zAW B;have p1:=zAd B;have p2:=zAb B;have p3:=zAu B;have s1:=zAd s;have s2:=zAb s;have T:=zAu s;have s4:=cell4 s;have s5:=cell5 s;clear B s;have s0:=zAW A.o;go_wp2_with fail;refine ost (fun w':World=>w'.heap[pb]?=some (zEm d r (.pointer (some ⟨j,0,none⟩)) (.pointer (some ⟨x,0,none⟩)) false)∧w'.heap[S]?=some (.cells #[.int .i64 1,.int .i64 a,.int .i64 b,.slice pl J cl,.slice pn nn cn,.slice pd Y cd] 80 (0,0))) 8 ⟨C.o,A.o⟩ fun f=>?_;have H2:=zh (H1.o.next (zAV w2));have an:=zh (cs.o.next (zAV w2));clear C A H1 p0 p1 p2 p3 s1 s2 T s4 s5 s0;generalize w2.drew=W2 at *;refine Pl [0,1,2,3,4,5] ?_
    iterate 6 (refine Pd rfl (by intro w g;have p0:=zAW g.1;have p1:=zAd g.1;have p2:=zAb g.1;have p3:=zAu g.1;have s1:=zAd g.2;have s2:=zAb g.2;have T:=zAu g.2;have s4:=cell4 g.2;have s5:=cell5 g.2;go_simp;try with_reducible rfl) ?_;simp only[uZ])
    refine Pn ?_;have G:=zh (py_rappend H2.o aQ.o (by omega));rw[L]at G;clear L;refine oon 6 rfl fun K O=>?_;go_wp2_with fail;refine G.o.mono ?_;rintro e w3 ⟨rfl,U,t⟩;have m:=zh (And.intro ((t pb (.inl rfl)).trans f.1) ((t S (.inr (.inl rfl))).trans f.2));have ct:=zh (HO.o.moved an.o fun z h1 h2=>t z (.inr (.inr ⟨by omega,h2⟩)));have H3:=zh U;clear an H2 G;clear U t f;go_wp2_with fail;refine O.o _ _ m.o fun f=>?_;clear O m
    try simp only[uZ]
    refine Pl [7] ?_
    iterate 1 (refine Pc rfl ?_;simp only[uZ])
    refine Pn ?_;refine odn ?_;have ak:=zh f.1;have ap:=zh f.2;clear f;go_wp2_with fail
    go_loopw [12] (fun i wr=>∃k:Nat,k≤J∧i=.int .i64 k∧zA7 w wr j d x r Z1.disk Z1.jou Z1.disk Z1.jou (fun z=>z=pb∨z=S∨(z9≤z∧z<wl.heap.size))∧wr.heap[pb]?=some (zEm d r (.pointer (some ⟨j,0,none⟩)) (.pointer (some ⟨x,0,none⟩)) false)∧wr.heap[S]?=some ((.cells #[.int .i64 1,.int .i64 a,.int .i64 b,.slice pl J cl,.slice pn nn cn,.slice pd Y cd] 80))∧OwnL wr (.slice pv J cv) es us k) (fun i _=>J-(intOf i).toNat)
    case atStart=>exact⟨0,Nat.zero_le _,rfl,H3.o,ak.o,ap.o,ct.o⟩
    case round =>
     obtain⟨k,hk,rfl,hY,hP,hS,hL⟩:=hrel;have HY:=zh hY;have HP:=zh hP;have HS:=zh hS;have HL:=zh hL;clear hY hP hS hL ak ap
     by_cases ay:k<J
     ·have ab:k<es.length:=by rw[aE.o];exact ay
      obtain⟨bu,ou,u,rfl,aJ,bb,z0,z1,z2,z3⟩:=HL.o.ent HO.o.len ab;have cX:=aR.o _ (List.getElem_mem ab);have HU:=zh (bb.has (by omega) (by omega));have cj:=zh bb
      obtain⟨bl,ol,v,rfl,ae,q0,q1,q2,q3⟩:=(aQ.o.below HY.o.bel).ent ab;have HV:=zh ae;clear bb ae;generalize es[k]=R at *;have cU:=zh aJ;have au:=zh (HO.o.new k u aJ);have bB:=zh (fun z L=>HO.o.lt aJ (k:=z) L);obtain⟨u1,u2⟩:=u;obtain⟨v1,v2⟩:=v;obtain⟨pa,ca,ea⟩:=HV.o.data.slice;obtain⟨pc,cc,ec⟩:=HV.o.nodes.slice;obtain⟨pu,cu,eu⟩:=HU.o.data.slice;obtain⟨pw,cw,ew⟩:=HU.o.nodes.slice;replace ea:v1=.slice pa R.data.length ca:=ea;replace ec:v2=.slice pc R.nodes.length cc:=ec;replace eu:u1=.slice pu R.data.length cu:=eu;replace ew:u2=.slice pw R.nodes.length cw:=ew;subst ea;subst ec;subst eu;subst ew;dsimp only at z2 z3 q2 q3 au bB;have cL:=zh (show R.data.length≤1099511627776 by omega);generalize af:R.data.length=m1 at *;generalize am:R.nodes.length=m2 at *;have cM:=zh af;clear af am aJ;go_wp2_with fail;refine ost (fun w:World=>w.heap[S]?=some ((.cells #[.int .i64 1,.int .i64 a,.int .i64 b,.slice (some ⟨bl,ol,none⟩) J cl,.slice pn nn cn,.slice pd Y cd] 80))∧w.cell? ⟨bu,ou+k*4,none⟩=some (.int .i64 R.term)∧w.cell? ⟨bu,ou+k*4+1,none⟩=some (.int .i64 R.kind)∧w.cell? ⟨bu,ou+k*4+2,none⟩=some (.slice pu m1 cu)∧w.cell? ⟨bu,ou+k*4+3,none⟩=some (.slice pw m2 cw)∧w.cell? ⟨bl,ol+k*4,none⟩=some (.int .i64 R.term)∧w.cell? ⟨bl,ol+k*4+1,none⟩=some (.int .i64 R.kind)∧w.cell? ⟨bl,ol+k*4+2,none⟩=some (.slice pa m1 ca)∧w.cell? ⟨bl,ol+k*4+3,none⟩=some (.slice pc m2 cc)) 11 ⟨HS.o,z0,z1,z2,z3,q0,q1,q2,q3⟩ fun f=>?_;have cE:=zh (HY.o.next (zAV wr));have br:=zW (wr.drew.heap[pb]?=_) HP.o;have an:=zh (HL.o.next (zAV wr));have bo:=zh (cj.o.keep (w':=wr.drew) fun _ _=>rfl);have V:=zh (zDr (HU.o.below (zAV wr)) (HV.o.below (zAV wr)));rw[entEq_refl]at V;unfold zC7 at V;dsimp only at V;clear HY HP HS HL HU z0 z1 z2 z3 q0 q1 q2 q3;generalize wr.drew=W2 at *;refine Pl [0,1,2,3,4,5,6,7,8] ?_
      iterate 9 (refine Pd rfl (by intro w g;obtain⟨hb,z0,z1,z2,z3,q0,q1,q2,q3⟩:=g;have T:=zAu hb;go_simp;try with_reducible rfl) ?_;simp only[uZ])
      refine Pn ?_;refine oon 9 rfl fun K O=>?_;go_wp2_with fail;refine V.o.mono ?_;rintro e w4 ⟨rfl,P⟩;have m:=zW ((fun w:World=>w.heap[S]?=some ((.cells #[.int .i64 1,.int .i64 a,.int .i64 b,.slice (some ⟨bl,ol,none⟩) J cl,.slice pn nn cn,.slice pd Y cd] 80))∧w.cell? ⟨bu,ou+k*4,none⟩=some (.int .i64 R.term)∧w.cell? ⟨bu,ou+k*4+1,none⟩=some (.int .i64 R.kind)∧w.cell? ⟨bu,ou+k*4+2,none⟩=some (.slice pu m1 cu)∧w.cell? ⟨bu,ou+k*4+3,none⟩=some (.slice pw m2 cw)∧w.cell? ⟨bl,ol+k*4,none⟩=some (.int .i64 R.term)∧w.cell? ⟨bl,ol+k*4+1,none⟩=some (.int .i64 R.kind)∧w.cell? ⟨bl,ol+k*4+2,none⟩=some (.slice pa m1 ca)∧w.cell? ⟨bl,ol+k*4+3,none⟩=some (.slice pc m2 cc)) w4) (by
       obtain⟨hb,z0,z1,z2,z3,q0,q1,q2,q3⟩:=f;exact⟨(P.block S (zAB hb)).trans hb,zBG P z0,zBG P z1,zBG P z2,zBG P z3,zBG P q0,zBG P q1,zBG P q2,zBG P q3⟩)
      have cF:=zh (cE.o.next P);have ao:=zh ((P.block pb (zAB br.o)).trans br.o);have cx:=zh (an.o.next P);have cR:=zh (spoil5_calls (bo.o.keep fun z L=>P.block z (bo.o.lt L)).data (by rw[cM.o];exact cL.o));clear P f an V;go_wp2_with fail;refine O.o _ _ m.o fun f=>?_;clear O m
      try simp only[uZ]
      refine Pl [10] ?_
      iterate 1 (refine Pc rfl ?_;simp only[uZ])
      refine Pn ?_;refine odn ?_;have bt:=zh f.1;have z2:=f.2.2.2.1;clear f;go_wp2_with fail;refine cR.o.mono ?_;rintro e w5 ⟨rfl,hc⟩;have ag:∀z,z<z9→¬(Value.slice pu m1 cu).ownBlock=some z:=fun z L e=>by
       have h1:=(au.o z (.inl e)).1;omega
      have cG:=zh (cF.o.chg hc fun z L=>by
       have h1:=(au.o z (.inl L)).1;have h2:=bB.o z (.inl L);have U:=cV.o;exact⟨.inr (.inr ⟨by omega,h2⟩),by omega⟩)
      have cz:=zh ((hc.block pb (zAB ao.o) (ag pb bH.o.1)).trans ao.o);have cA:=zh ((hc.block S (zAB bt.o) (ag S bH.o.2)).trans bt.o);have cy:=zh (HO.o.spoilt cx.o cU.o hc);clear hc ag z2 ao;go_wp2_with fail;go_roundw
      case rel=>exact⟨k+1,by omega,by go_num,cG.o,cz.o,cA.o,cy.o⟩
      case measure=>simp[intOf];omega
     ·obtain rfl:J=k:=by omega
      have HE:=zW (zEK w pb d r Z (.returned (.bool true)) wr) (by
       rw[X.o];exact⟨rfl,j,x,HP.o,(fun e=>by cases e),fun _=>HY.o.less fun k hk=>.inl hk⟩)
      go_wp2_with fail;go_ret;exact HE.o
 have k6:¬kd=6:=by omega
 have k7:¬kd=7:=by omega
 have q1:(kd==1)=false:=by simpa using k1
 have q2:(kd==2)=false:=by simpa using k2
 have q3:(kd==3)=false:=by simpa using k3
 have q4:(kd==4)=false:=by simpa using k4
 have q5:(kd==5)=false:=by simpa using k5
 have q6:(kd==6)=false:=by simpa using k6
 have q7:(kd==7)=false:=by simpa using k7
 have X:=zW (Z=(D,M,false)) (by
  rw[←al.o];unfold zDy;dsimp only;rw[if_neg k1,if_neg k2,if_neg k3,if_neg k4,if_neg k5,if_neg k6,if_neg k7])
 clear k1 k2 k3 k4 k5 k6 k7 s0 s1 s2 T s4 s5;obtain⟨e1,k1,bO,bP,bM⟩:∃(e:Ent) (k:Int),(∀N:zAJ,JEq M N→(N.entries[(l-(N.number:Int)-1).toNat]?=some e∧(N.number:Int)<l)∨(e=EZero∧¬((N.number:Int)<l∧l≤(N.last:Int))))∧k=(if(M.number:Int)<l∧l≤(M.last:Int)then 0 else 7) ∧
   Calls prog 34 #[.pointer (some ⟨j,0,none⟩),.int .i64 l] W1 fun r w'=>∃v:EV,r=.returned (.tuple #[zC7 e v,.int .i64 k])∧zBP w' e v∧Below W1.heap.size W1 w':=by
  obtain⟨F,aG,aj,hJ,-⟩:=H1.o;exact jat_any hJ l aa.o
 have cm:=zh bM;have cp:=zh bO;have cq:=zh bP;clear bM bO bP;go_wp2_with fail;refine cm.o.mono ?_;rintro e wC ⟨⟨u1,u2⟩,rfl,hu,bc⟩;have cH:=zh (H1.o.next bc);have aS:=zh ((bc.block pb (zAB C.o)).trans C.o);obtain⟨ah,ac,aX⟩:=hu.data.slice;obtain⟨ai,ad,aY⟩:=hu.nodes.slice;have aX:u1=.slice ah e1.data.length ac:=aX;have aY:u2=.slice ai e1.nodes.length ad:=aY;subst aX;subst aY;have HU:=zh hu;clear hu bc p0 p1 p2 p3;unfold zC7;generalize af:e1.data.length=m1 at *;generalize am:e1.nodes.length=m2 at *;have aP:=zh (zAD wC (.cells #[.int .i64 e1.term,.int .i64 e1.kind,.slice ah m1 ac,.slice ai m2 ad] 50));have bF:=zh (zAI wC (.cells #[.int .i64 e1.term,.int .i64 e1.kind,.slice ah m1 ac,.slice ai m2 ad] 50));have bv:=zh (cH.o.next aP.o);have aT:=zh ((aP.o.block pb (zAB aS.o)).trans aS.o);have cC:=zh (HU.o.below aP.o);clear af am HU;obtain⟨e2,k2,bf,bQ,bN⟩:∃(e:Ent) (k:Int),((M.entries[(l-(M.number:Int)-1).toNat]?=some e∧(M.number:Int)<l∧l≤(M.last:Int))∨(e=EZero∧¬((M.number:Int)<l∧l≤(M.last:Int))))∧k=(if(M.number:Int)<l∧l≤(M.last:Int)then 0 else 7) ∧
   Calls prog 96 #[.pointer (some ⟨x,0,none⟩),.int .i64 l] (wC.alloc (.cells #[.int .i64 e1.term,.int .i64 e1.kind,.slice ah m1 ac,.slice ai m2 ad] 50)) fun r w'=>∃v:EV,r=.returned (.tuple #[zC7 e v,.int .i64 k])∧zBP w' e v∧Below (wC.alloc (.cells #[.int .i64 e1.term,.int .i64 e1.kind,.slice ah m1 ac,.slice ai m2 ad] 50)).heap.size (wC.alloc (.cells #[.int .i64 e1.term,.int .i64 e1.kind,.slice ah m1 ac,.slice ai m2 ad] 50)) w':=by
  obtain⟨F,aG,aj,-,hR,-⟩:=bv.o;exact rnat_any hR.new l aa.o
 have co:=zh bN;have bq:=zW (e1=e2) (by
  have h7:M.last=M.number+M.entries.length:=rfl;rcases cp.o M (JEq.refl M)with⟨h1,h2⟩|⟨h1,h2⟩
  ·rcases bf with⟨U,h4⟩|⟨U,h4⟩
   ·rw[h1]at U;exact Option.some.inj U
   ·exfalso;have h5:=(List.getElem?_eq_some_iff.1 h1).1;exact h4 ⟨h2,by omega⟩
  ·rcases bf with⟨U,h4⟩|⟨U,h4⟩
   ·exact absurd h4 h2
   ·rw[h1,U])
 have cZ:k1=k2:=by rw[cq.o,bQ]
 subst cZ;clear bN bf bQ;have p3:=zAu aS.o;have de:=zAu aT.o;go_wp2_with fail;generalize dh:wC.heap.size=bY at *;generalize wC.alloc (.cells #[.int .i64 e1.term,.int .i64 e1.kind,.slice ah m1 ac,.slice ai m2 ad] 50)=wD at *;refine co.o.mono ?_;rintro e wE ⟨⟨y1,y2⟩,rfl,hy,aw⟩;have cI:=zh (bv.o.next aw);have bD:=zh ((aw.block pb (zAB aT.o)).trans aT.o);obtain⟨bm,aV,aZ⟩:=hy.data.slice;obtain⟨bn,aW,ba⟩:=hy.nodes.slice;have aZ:y1=.slice bm e2.data.length aV:=aZ;have ba:y2=.slice bn e2.nodes.length aW:=ba;subst aZ;subst ba;have cD:=zh (cC.o.below aw);have bG:=zh ((aw.block bY (zAB bF.o)).trans bF.o);have HY:=zh hy;clear hy aw p3 de;unfold zC7;generalize db:e2.data.length=m3 at *;generalize dc:e2.nodes.length=m4 at *;have aq:=zh (zAD wE (.cells #[.int .i64 e2.term,.int .i64 e2.kind,.slice bm m3 aV,.slice bn m4 aW] 50));have aH:=zh (zAI wE (.cells #[.int .i64 e2.term,.int .i64 e2.kind,.slice bm m3 aV,.slice bn m4 aW] 50));have aI:=zh ((aq.o.block bY (zAB bG.o)).trans bG.o);have cJ:=zh (cI.o.next aq.o);have bE:=zh ((aq.o.block pb (zAB bD.o)).trans bD.o);have V:=zh (zDr (cD.o.below aq.o) (HY.o.below aq.o));rw[bq.o,entEq_refl]at V;unfold zC7 at V;dsimp only at V;clear db dc HY;have s0:=zAW aI.o;have s1:=zAd aI.o;have s2:=zAb aI.o;have T:=zAu aI.o;have t0:=zAW aH.o;have t1:=zAd aH.o;have t2:=zAb aH.o;have t3:=zAu aH.o;rw[bq.o]at s0 s1;go_wp2_with fail;refine V.o.mono ?_;rintro e wG ⟨rfl,bd⟩;have HE:=zW (zEK w pb d r Z (.returned (.bool true)) wG) (by
  rw[X.o];exact⟨rfl,j,x,(bd.block pb (zAB bE.o)).trans bE.o,(fun e=>by cases e),fun _=>(cJ.o.next bd).less fun k hk=>.inl hk⟩)
 clear bd s0 s1 s2 T t0 t1 t2 t3 V;go_wp2_with fail;go_ret;exact HE.o
theorem jtwice_walk {w:World}{p:Option Addr}{n c:Nat}{l:List zCQ}(hx:Steps5 w p n l)(hn:n≤140737488355328)(fu U ag th:Int)(bQ:-9223372036854775808≤fu∧fu≤9223372036854775807)(ac:-9223372036854775808≤U∧U≤9223372036854775807)(bP:-9223372036854775808≤ag∧ag≤9223372036854775807)(ba:-9223372036854775808≤th∧th≤9223372036854775807) :
  Calls prog 9 #[.slice p n c,.int .i64 fu,.int .i64 U,.int .i64 ag,.int .i64 th] w (True3 w):=by
 have bA:=zh (heavy6_calls (c:=c) hx hn);have J:=zh (fun W=>known5_calls W)
 go_enter func9,ntmps9
 go_wp2_with fail;refine bA.o.mono ?_;rintro e w1 ⟨hv,rfl,I,q,rfl⟩;have H:=zh I;have Hx:=zh (hx.below (zAZ w q));have O:=zW (Below w.heap.size w (w.drewN q)) (zAZ w q);clear I hx;generalize w.drewN q=N at *;cases hv with
 | true =>
  go_wp2_with fail;refine(J.o _).mono ?_;rintro e P ⟨rfl,A⟩;have Q:=zW (Below w.heap.size w P) ((O.o).trans (A.mono (O.o).size));go_wp2_with fail;go_ret;exact⟨rfl,Q.o⟩
 | false =>
  by_cases h1:fu<0
  ·have bK:=h1;go_wp2_with fail;refine(J.o _).mono ?_;rintro e P ⟨rfl,A⟩;have Q:=zW (Below w.heap.size w P) ((O.o).trans (A.mono (O.o).size));go_wp2_with fail;go_ret;exact⟨rfl,Q.o⟩
  by_cases h2:1000<fu
  ·have bL:=h2;go_wp2_with fail;refine(J.o _).mono ?_;rintro e P ⟨rfl,A⟩;have Q:=zW (Below w.heap.size w P) ((O.o).trans (A.mono (O.o).size));go_wp2_with fail;go_ret;exact⟨rfl,Q.o⟩
  by_cases h3:ag<0
  ·have bM:=h3;go_wp2_with fail;refine(J.o _).mono ?_;rintro e P ⟨rfl,A⟩;have Q:=zW (Below w.heap.size w P) ((O.o).trans (A.mono (O.o).size));go_wp2_with fail;go_ret;exact⟨rfl,Q.o⟩
  by_cases h4:100<ag
  ·have bN:=h4;go_wp2_with fail;refine(J.o _).mono ?_;rintro e P ⟨rfl,A⟩;have Q:=zW (Below w.heap.size w P) ((O.o).trans (A.mono (O.o).size));go_wp2_with fail;go_ret;exact⟨rfl,Q.o⟩
  have aa:=zh (H.o rfl).2;have bG:=zh (start2_calls N 1048576 (by decide) (by decide));go_wp2_with fail;refine bG.o.mono ?_;rintro e w2 ⟨pb,d,r,rfl,⟨j,x,z,t,hJ,hp,hR,C⟩,aT⟩;have bl:=zW (zA7 N w2 j d x r _ _ _ _ (fun k=>k=pb)) (⟨fun k=>k=pb∨z k∨t k,z,t,hJ,hR,fun k m=>⟨.inr m,(C k m).1⟩,fun k m=>⟨.inl m,fun e=>(C k (.inl e)).2 m,fun e=>(C k (.inr e)).2 m⟩⟩);have ay:=zh hp;have bw:=zh aT;clear hJ hp hR C aT;have K:=zAW ay.o;have bt:=zh (py_fuse bl.o fu (by omega) (by omega));go_wp2_with fail;refine bt.o.mono ?_;rintro e w3 ⟨rfl,aP,X⟩;have bm:=zh aP;have h:=zh ((X pb rfl).trans ay.o);clear aP X K;have p1:=zAd h.o;have bu:=zh (py_rfuse bm.o fu (by omega) (by omega));go_wp2_with fail;refine bu.o.mono ?_;rintro e w4 ⟨rfl,aQ,aY⟩;have bn:=zh aQ;have E:=zh ((aY pb rfl).trans h.o);have bj:=zh (tw_start l fu);clear aQ aY h p1;generalize (zC6 1048576 [97] zDw).setFuse fu=D0 at *
  go_upto_block 0 with fail
  go_cut [13] (fun bU wx=>∃(k j x:Nat) (D:zAA) (M:zAJ),k≤80∧zA7 N wx j d x r D M D M (fun k=>k=pb)∧wx.heap[pb]?=some (zEm d r (.pointer (some ⟨j,0,none⟩)) (.pointer (some ⟨x,0,none⟩)) false)∧TwI l k D M)
  case first =>
   go_wp2_with fail
   go_loopw [13] (fun i wr=>∃(k j x:Nat) (D:zAA) (M:zAJ),k≤n∧k≤80∧i=.int .i64 k∧zA7 N wr j d x r D M D M (fun k=>k=pb)∧wr.heap[pb]?=some (zEm d r (.pointer (some ⟨j,0,none⟩)) (.pointer (some ⟨x,0,none⟩)) false)∧TwI l k D M) (fun i _=>n-(intOf i).toNat)
   case atStart=>exact⟨0,j,x,_,_,Nat.zero_le _,by omega,rfl,bn.o,E.o,bj.o⟩
   case round =>
    clear E;obtain⟨k,j,x,D,M,m,G,rfl,hY,hP,hT⟩:=hrel;have HY:=zh hY;have S:=zh hP;have HT:=zh hT;clear hY hP hT;have p3:=zAu S.o;have ar:wr.cell? ⟨x,9,none⟩=some (.bool M.dead):=by
     obtain⟨F,z,t,-,hR,-⟩:=HY.o;obtain⟨gv,dv,ev,hc⟩:=hR.cellsD;exact zAG hc rfl
    by_cases bS:k<n
    ·by_cases aL:k<80
     ·cases V:M.dead with
      | true =>
       rw[V]at ar;clear V;go_wp2_with fail
       go_meet
       exact⟨k,j,x,D,M,G,HY.o,S.o,HT.o⟩
      | false =>
       rw[V]at ar;have aC:=zh V;clear V;have ad:k<l.length:=by have:=Hx.o.1;omega
       obtain⟨s,hs⟩:∃s,l[k]?=some s:=⟨_,List.getElem?_eq_getElem ad⟩;rcases Hx.o.2 with al|⟨g,o,rfl,aR⟩
       ·rw[al]at ad;simp at ad
       have f:=aR k s hs;have am:=(H.o rfl).1 k s aL hs;have aD:=zh (f.he.has fun e he=>by have:=am.2.2.2 e he;omega);have aH:=zh f.hn;have aB:=zh f.hd;obtain⟨bI,bb,bc,-⟩:=f.ok;obtain⟨kd,a,b,pl,nl,cl,pn,nn,cn,pd,nd,cd,es,vs,nodes,ae⟩:=s;have y:=HY.o.bel;have c0:wr.cell? ⟨g,o+k*6,none⟩=some (.int .i64 kd):=(y.cell (World.block_lt_of_cell? N _ f.ck)).trans f.ck;have c1:wr.cell? ⟨g,o+k*6+1,none⟩=some (.int .i64 a):=(y.cell (World.block_lt_of_cell? N _ f.ca)).trans f.ca;have c2:wr.cell? ⟨g,o+k*6+2,none⟩=some (.int .i64 b):=(y.cell (World.block_lt_of_cell? N _ f.cb)).trans f.cb;have c3:wr.cell? ⟨g,o+k*6+3,none⟩=some (.slice pl nl cl):=(y.cell (World.block_lt_of_cell? N _ f.c3)).trans f.c3;have c4:wr.cell? ⟨g,o+k*6+4,none⟩=some (.slice pn nn cn):=(y.cell (World.block_lt_of_cell? N _ f.c4)).trans f.c4;have c5:wr.cell? ⟨g,o+k*6+5,none⟩=some (.slice pd nd cd):=(y.cell (World.block_lt_of_cell? N _ f.c5)).trans f.c5;have Hs:=zh hs;have aG:=zh am;have aE:=zh bb;have aF:=zh bc;dsimp only at bI aE aF aD aH aB;clear f aR hs ad am bb bc y
       by_cases k5:kd≤5
       ·have Hd:=zh (doesk_calls (kd:=kd) (a:=a) (b:=b) HY.o S.o aD.o aH.o aB.o aE.o aF.o aG.o (tw_few HT.o aC.o aa.o G) bw.o (Nat.le_of_eq (tw_room HT.o)) k5);have bk:=zh (tw_does HT.o Hs.o aG.o k5 aC.o aa.o aL);have ao:=does_over (s:=⟨kd,a,b,pl,nl,cl,pn,nn,cn,pd,nd,cd,es,vs,nodes,ae⟩) k5 D M;generalize zDy ⟨kd,a,b,pl,nl,cl,pn,nn,cn,pd,nd,cd,es,vs,nodes,ae⟩ D M=Z at *;obtain⟨D9,M9,ov⟩:=Z;have ao:ov=false:=ao;subst ao;go_wp2_with fail;refine Hd.o.mono ?_;rintro e w5 ⟨rfl,j',x',aW,-,hF⟩;have T:=zh aW;have bo:=zh (hF rfl);clear S c0 c1 c2 c3 c4 c5 ar p3 aW hF;go_wp2_with fail;go_roundw
        case rel=>exact⟨k+1,j',x',D9,M9,by omega,by omega,by go_num,bo.o,T.o,bk.o⟩
        case measure=>simp[intOf];omega
       ·have bT:decide (kd≤5)=false:=decide_eq_false k5;go_wp2_with fail;go_roundw
        case rel=>exact⟨k+1,j,x,D,M,by omega,by omega,by go_num,HY.o,S.o,tw_skip HT.o Hs.o⟩
        case measure=>simp[intOf];omega
     ·have bJ:decide ((k:Int)<80)=false:=by simp;omega
      go_wp2_with fail
      go_meet
      exact⟨k,j,x,D,M,G,HY.o,S.o,HT.o⟩
    ·have bR:decide ((k:Int)<(n:Int))=false:=by simp;omega
     go_wp2_with fail
     go_meet
     exact⟨k,j,x,D,M,G,HY.o,S.o,HT.o⟩
  case rest =>
   clear E;obtain⟨k,j,x,D,M,G,hY,hP,hT⟩:=hcut;obtain⟨M1,aV,an⟩:=tw_end hT aa.o G U;have bB:=zh aV;have ai:=zh (an ag th).2;have bD:=zh (an ag th).1;have H0:=zh hY.pairF;have S:=zh hP;have bF:=zh (tw_snp hT aa.o G U);have bE:=zW (D.room≤1048576) (Nat.le_of_eq (tw_room hT));have bO:=zh hY.bel;clear hY hP hT aV an;have K:=zAW S.o;have bq:=zh (pairf_disk0 (D':=D.crash U) H0.o (Below.refl _ _) fun _ hS=>st_crash hS U ac.1 ac.2);go_wp2_with fail;refine bq.o.mono ?_;rintro e w2 ⟨rfl,h2,aX⟩;have az:=zh ((aX pb rfl).trans S.o);have H2:=zh h2;clear h2 aX S K;have p1:=zAd az.o;have br:=zh (pairf_rcrash H2.o U ac.1 ac.2);go_wp2_with fail;refine br.o.mono ?_;rintro e w3 ⟨rfl,h3,X⟩;have h:=zh ((X pb rfl).trans az.o);obtain⟨own,v,L,hS,hR,aU,al⟩:=h3;have HS:=zh hS;have Hn:=zh aU;have aJ:=zW ((D.crash U).room≤1048576) bE.o;have aK:=zW (Calls prog 18 #[.pointer (some ⟨r,0,none⟩),.string sA,.slice (some ⟨w3.heap.size,0,none⟩) 3 3] (w3.alloc LitO) (zFk (w3.alloc LitO) r sA own (zAS (D.crash U) [97] zDw))) (ropen_calls (hR.below (zAD w3 LitO)) aJ.o sA (zGI w3) (by simp) bF.o);clear hS hR aU al X p1;have p1:=zAd h.o;generalize D.crash U=DX at *;have aj:=zW ((zAS DX [97] zDw).2=(0,M1)) bB.o;generalize zAS DX [97] zDw=R at aK aj;obtain⟨D9,k9,M9⟩:=R;obtain⟨rfl,rfl⟩:k9=0∧M9=M1:=⟨congrArg Prod.fst aj.o,congrArg Prod.snd aj.o⟩;go_wp2_with fail;refine aK.o.mono ?_;rintro e w4 hT;rcases hT with⟨-,x',z,t,rfl,hF,ab,hh⟩|⟨C,-⟩
   rotate_left
   ·exact absurd rfl C
   have aO:St N w4 d DX (fun k=>(z k∨t k)∨k=pb):=by
    refine(HS.o.next (zAD w3 LitO)).move ab (fun k _ m=>⟨.inl m,(Hn.o k m).1⟩) fun k m=>?_;rcases m with m|m
    ·exact⟨(hh k m).imp .inl id,m.elim hF.hlt hF.clt⟩
    ·exact⟨.inl (.inr m),Nat.lt_of_lt_of_le (by rw[m];exact zAB (zAy LitO h.o)) ab.size⟩
   have E:=zh ((ab.block pb (zAB (zAy LitO h.o)) fun e=>(Hn.o pb e).2 rfl).trans (zAy LitO h.o));have bd:=zh hF;have bh:=zh aO;clear aO hF ab hh h p1;have K:=zAW E.o;have bv:=zh (st_fuse bh.o ag (by omega) (by omega));go_wp2_with fail;refine bv.o.mono ?_;rintro e w5 ⟨rfl,h5,ap⟩;have T:=zh ((ap pb (.inr rfl)).trans E.o);have af:=zh (bd.o.same fun k m=>⟨ap k (.inl m),h5.flt (.inl m)⟩);have bC:=zW (Calls prog 17 #[.pointer (some ⟨d,0,none⟩),.string sA,.slice (some ⟨w5.heap.size,0,none⟩) 3 3] (w5.alloc LitO) (zEr N (w5.alloc LitO) d sA (fun k=>(z k∨t k)∨k=pb) (zAS (DX.setFuse ag) [97] zDw))) (zFt (h5.next (zAD w5 LitO)) aJ.o sA (zGI w5) (by simp));have be:=zh (fun(w6:World) (Y:Same (fun k=>(z k∨t k)∨k=pb) (w5.alloc LitO) w6) (hl6:∀k,((z k∨t k)∨k=pb)→k<w6.heap.size)=>show RJF w6 x' r sA D9 M9 z t∧w6.heap[pb]?=_ from⟨af.o.same fun k m=>⟨(Y k (.inl m)).trans (zEt w5 LitO (m.elim af.o.hlt af.o.clt)),hl6 k (.inl m)⟩,(Y pb (.inr rfl)).trans (zAy LitO T.o)⟩);clear h5 ap E K;have K:=zAW T.o;generalize zAS (DX.setFuse ag) [97] zDw=R at *;obtain⟨D6,k6,M6⟩:=R;dsimp only at ai;go_wp2_with fail;refine bC.o.mono ?_;rintro e w6 ⟨f,Y,B⟩;obtain⟨ve,rfl⟩:∃ve,e=.returned ve:=by
    rcases B with⟨-,j',rfl,-⟩|⟨-,rfl⟩
    ·exact⟨_,rfl⟩
    ·exact⟨_,rfl⟩
   obtain⟨aM,aN⟩:=be.o w6 Y fun k m=>f.flt m;have bg:=zW (D6.room≤1048576) (Nat.le_of_eq bD.o);have bi:=zh f;have aw:=zh aM;have aA:=zh aN;clear f Y B aM aN T K;have K:=zAW aA.o;have bs:=zh (st_crash bi.o th ba.1 ba.2);go_wp2_with fail;refine bs.o.mono ?_;rintro e w7 ⟨rfl,h7,aq⟩;have bf:=zh ((aq pb (.inr rfl)).trans aA.o);have ah:=zh (aw.o.same fun k m=>⟨aq k (.inl m),h7.flt (.inl m)⟩);have aI:=zW (Calls prog 17 #[.pointer (some ⟨d,0,none⟩),.string sA,.slice (some ⟨w7.heap.size,0,none⟩) 3 3] (w7.alloc LitO) (zEr N (w7.alloc LitO) d sA (fun k=>(z k∨t k)∨k=pb) (zAS (D6.crash th) [97] zDw))) (zFt (h7.next (zAD w7 LitO)) bg.o sA (zGI w7) (by simp));clear h7 aq K;have K:=zAW bf.o;generalize zAS (D6.crash th) [97] zDw=R at *;obtain⟨D8,k8,M8⟩:=R;obtain⟨rfl,rfl⟩:k8=0∧M8=M9:=⟨congrArg Prod.fst ai.o,congrArg Prod.snd ai.o⟩;go_wp2_with fail;refine aI.o.mono ?_;rintro e P ⟨f,aZ,B⟩;rcases B with⟨-,j8,rfl,ak⟩|⟨C,-⟩
   rotate_left
   ·exact absurd rfl C
   have ax:=ah.o.same (w2:=P) fun k m=>⟨(aZ k (.inl m)).trans (zEt w7 LitO (m.elim ah.o.hlt ah.o.clt)),f.flt (.inl m)⟩;have bp:=zh (alike_calls ak ax.new);have au:=zW (Below w.heap.size w P) (O.o.trans (ak.bel.mono O.o.size));clear f aZ ak ax K;go_wp2_with fail;refine bp.o.mono ?_;rintro e w9 ⟨b9,rfl,aS,hb⟩;obtain rfl:b9=true:=aS (JEq.refl _);have av:=zh (au.o.trans (hb.mono au.o.size));clear aS hb;go_wp2_with fail;refine(J.o _).mono ?_;rintro e wA ⟨rfl,bH⟩;have Q:=zW (Below w.heap.size w wA) ((av.o).trans (bH.mono (av.o).size));go_wp2_with fail;go_ret;exact⟨rfl,Q.o⟩
end Go.Proofs.YtapfnehdgailmaaGreat
