/- What the program's functions and the document's do, and plain laws, for PJournalPlays. -/
import Derived.Deep.CutRange
import Derived.Test.YtapfnehdgailmaaGreatJC1
import Derived.Test.YtapfnehdgailmaaGreatJD1
import Derived.Test.YtapfnehdgailmaaGreatJE1
import Derived.Test.YtapfnehdgailmaaGreatJF
import Derived.Test.YtapfnehdgailmaaGreatJL
import Derived.Test.YtapfnehdgailmaaGreatJN
import Derived.Test.YtapfnehdgailmaaGreatJT
open Go.Proofs.Tryz
set_option maxRecDepth 100000
set_option maxHeartbeats 64000000
namespace Go.Proofs.YtapfnehdgailmaaGreat
open Go.RowKit Go.Sat Go.Maps
def zDn.off (s:zDn)(M:zAJ):Int:=(M.last:Int)+max (-6) (min s.a 6)
def zEo (s:zDn)(D:zAA)(M:zAJ):zAA×zAJ×Bool :=
 if s.kind=1 then((zAn [97] D M s.es).disk,(zAn [97] D M s.es).jou,false)
 else if s.kind=2 then((zBI [97] D M (M.now+max (-1) (min s.a 3)) s.b).disk,(zBI [97] D M (M.now+max (-1) (min s.a 3)) s.b).jou,false)
 else if s.kind=3 then((zBp [97] D M (s.off M)).disk,(zBp [97] D M (s.off M)).jou,false)
 else if s.kind=4 then((zAe [97] D M (s.off M) s.data).disk,(zAe [97] D M (s.off M) s.data).jou,false)
 else if s.kind=5 then((zAg [97] D M (s.off M) s.b s.nodes s.data).disk,(zAg [97] D M (s.off M) s.b s.nodes s.data).jou,false)
 else if s.kind=6 then if(zAV (D.crash s.a) [97] zEL).2.1=0 then((zAV (D.crash s.a) [97] zEL).1,(zAV (D.crash s.a) [97] zEL).2.2,false)else((zAV (D.crash s.a) [97] zEL).1,M,true)
 else if s.kind=7 then(D.setFuse s.a,M,false)
 else(D,M,false)
def zCw (w:World)(pb d r:Nat)(Z:zAA×zAJ×Bool)(e:Ending)(w':World):Prop :=
 e=.returned (.bool true)∧∃j x,w'.heap[pb]?=some (zCg d r (.pointer (some ⟨j,0,none⟩)) (.pointer (some ⟨x,0,none⟩)) Z.2.2)∧(Z.2.2=true→Below w.heap.size w w')∧(Z.2.2=false→zA6 w w' j d x r Z.1 Z.2.1 Z.1 Z.2.1 (fun k=>k=pb))
section
variable {w w1 w2:World} {pb j d x r:Nat} {D D2:zAA} {M M2:zAJ} {G:Nat→Prop}
theorem py_opened {l:World}{own f c:Nat→Prop}(hn:∀k,own k→w.heap.size≤k∧¬G k)(g:zAk w w2 j d sA D M (fun k=>own k∨G k))(hF:RJF l x r sA D M f c)(m:Chg own w2 l)(i:∀k,f k∨c k→own k∨w2.heap.size≤k):zA6 w l j d x r D M D M G∧Same G w2 l:=by
 have n:=m.size;have o:=g.bel.size;refine⟨⟨fun k=>(f k∨c k)∨G k,f,c,g.move m (fun k _ b=>⟨.inl b,(hn k b).1⟩) fun k b=>?_,hF,fun k b=>⟨.inl b,?_⟩,fun k b=>⟨.inr b,fun e=>?_,fun e=>?_⟩⟩,fun k b=>m.block k (g.flt (.inr b)) fun e=>(hn k e).2 b⟩
 ·rcases b with b|b
  ·exact⟨(i k b).imp .inl id,b.elim hF.hlt hF.clt⟩
  ·exact⟨.inl (.inr b),Nat.lt_of_lt_of_le (g.flt (.inr b)) n⟩
 ·rcases i k b with e|e
  ·exact(hn k e).1
  ·omega
 ·rcases i k (.inl e)with e|e
  ·exact(hn k e).2 b
  ·have:=g.flt (k:=k) (.inr b);omega
 ·rcases i k (.inr e)with e|e
  ·exact(hn k e).2 b
  ·have:=g.flt (k:=k) (.inr b);omega
theorem zA6.chg {S:Nat→Prop}(h:zA6 w w1 j d x r D M D2 M2 G)(i:Chg S w1 w2)(hS:∀k,S k→G k∧w.heap.size≤k):zA6 w w2 j d x r D M D2 M2 G:=by
 obtain⟨F,f,b,l,m,c,g⟩:=h;exact⟨F,f,b,l.move i (fun k _ e=>⟨(g k (hS k e).1).1,(hS k e).2⟩) fun k c=>⟨.inl c,Nat.lt_of_lt_of_le (l.flt c) i.size⟩,m.chg i fun k e=>(g k (hS k e).1).2,c,g⟩
end
theorem does_calls {w w1:World}{pb j d x r:Nat}{D:zAA}{M:zAJ}(h:zA6 w w1 j d x r D M D M (fun k=>k=pb))(hp:w1.heap[pb]?=some (zCg d r (.pointer (some ⟨j,0,none⟩)) (.pointer (some ⟨x,0,none⟩)) false))
  {kd a b:Int} {pl pn pd:Option Addr} {nl cl nn cn nd cd:Nat} {es:List Ent} {vs:List EV} {nodes:List Int} {J:Bs}
  (bV:zCG w (.slice pl nl cl) es vs) (aO:zBY w (.slice pn nn cn) nodes) (bU:zAb w (.slice pd nd cd) J)
  (au:-9223372036854775808≤a∧a≤9223372036854775807) (cE:-9223372036854775808≤b∧b≤9223372036854775807) (bp:(⟨kd,a,b,pl,nl,cl,pn,nn,cn,pd,nd,cd,es,vs,nodes,J⟩:zDn).light) (hM:M.entries.length≤500000) (cN:w.heap.size≤pb) (bq:D.room≤1048576) (cP:kd=6→∀O:OpensJ (D.crash a) (nm sA) zEL,(zDq (Sat.get (zBt (nm sA)) O.D2.files)).length≤524288) :
  Calls prog 50 #[.pointer (some ⟨pb,0,none⟩),.agg #[.int .i64 kd,.int .i64 a,.int .i64 b,.slice pl nl cl,.slice pn nn cn,.slice pd nd cd]] w1 (zCw w pb d r (zEo ⟨kd,a,b,pl,nl,cl,pn,nn,cn,pd,nd,cd,es,vs,nodes,J⟩ D M)):=by
 have ch:=zAB hp;have H0:=zh ((h.box (.cells #[.int .i64 kd,.int .i64 a,.int .i64 b,.slice pl nl cl,.slice pn nn cn,.slice pd nd cd] 80)).less (G':=fun k=>k=pb∨k=w1.heap.size) fun k hk=>hk);have HP:=zh (((zAD w1 (.cells #[.int .i64 kd,.int .i64 a,.int .i64 b,.slice pl nl cl,.slice pn nn cn,.slice pd nd cd] 80)).block pb ch).trans hp);have HS:=zh (zAI w1 (.cells #[.int .i64 kd,.int .i64 a,.int .i64 b,.slice pl nl cl,.slice pn nn cn,.slice pd nd cd] 80));obtain⟨cF,cG,cH,cI⟩:=bp;have cb:nodes.length=nn:=by obtain⟨_,_,e⟩:=aO.slice;simp only[Value.slice.injEq]at e;exact e.2.1.symm
 have bX:J.length=nd:=by obtain⟨_,_,e⟩:=bU.slice;simp only[Value.slice.injEq]at e;exact e.2.1.symm
 have bZ:es.length=nl:=bV.len;have bN:=zh bV;have ct:=zh aO;have bt:=zh bU;have bO:=zh cI;have cr:=zh cb;have bw:=zh bX;have bA:=zh bZ;have HM:=zh hM;have dx:=zh cP;have bP:=zh bq;have cx:=zh cN;dsimp only at cF cG cH;rw[bX]at cF;rw[cb]at cG;rw[bZ]at cH;have HZ:=zW (∀Z,zEo ⟨kd,a,b,pl,nl,cl,pn,nn,cn,pd,nd,cd,es,vs,nodes,J⟩ D M=Z→zEo ⟨kd,a,b,pl,nl,cl,pn,nn,cn,pd,nd,cd,es,vs,nodes,J⟩ D M=Z) fun _ h=>h;generalize hZ:zEo ⟨kd,a,b,pl,nl,cl,pn,nn,cn,pd,nd,cd,es,vs,nodes,J⟩ D M=Z at *;have ar:=zh hZ;clear hZ;have dS:pb<w1.heap.size:=ch;clear h hp bV aO bU cI cb bX bZ hM ch cP bq cN;have s:=HP.o;have l:=HS.o;have p0:=zAU s;have p1:=zAY s;have p2:=zAX s;have U:=zAf s;have V:=zAY l;have s2:=zAX l;have I:=zAf l;have s4:=zDD l;have s5:=zDv l;clear s l
 go_enter func50,ntmps50
 go_upto_region 1 with(fail)
 have HL:=zW (∀W,zA6 w W j d x r D M D M (fun k=>k=pb∨k=w1.heap.size)→Calls prog 42 #[.pointer (some ⟨x,0,none⟩)] W fun e w'=>e=.returned (.tuple #[.int .i64 (M.last:Int),.int .i64 M.lastT])∧∃q,w'=W.drewN q) (fun W h=>by
  obtain⟨F,az,aj,-,hR,-⟩:=h;exact zDm hR)
 have dH:M.last≤1099511627776:=by
  obtain⟨F,az,aj,-,hR,-⟩:=H0.o;exact hR.okM.last
 generalize dD:w1.alloc (.cells #[.int .i64 kd,.int .i64 a,.int .i64 b,.slice pl nl cl,.slice pn nn cn,.slice pd nd cd] 80)=W0 at *;generalize dO:w1.heap.size=X at *;clear dD;have cY:=zh (HL.o W0 H0.o);generalize cJ:M.last=la at *;go_wp2_with fail;refine cY.o.mono ?_;rintro e w2 ⟨rfl,q,rfl⟩;have Q:=zh (H0.o.next (zAa W0 q));have B:=zW ((W0.drewN q).heap[pb]?=_) HP.o;have A:=zW ((W0.drewN q).heap[X]?=_) HS.o;clear HL H0 HP HS p0 p1 p2 U V s2 I s4 s5;generalize W0.drewN q=W1 at *;have s:=B.o;have l:=A.o;have p0:=zAU s;have p1:=zAY s;have p2:=zAX s;have U:=zAf s;have V:=zAY l;have s2:=zAX l;have I:=zAf l;have s4:=zDD l;have s5:=zDv l;clear s l;have s0:=zAU A.o
 go_upto_region 4 with(fail)
 have bv:=zh cJ;generalize cL:(la:Int)+max (-6) (min a 6)=m at *;have bB:=zh cL;have dR:-10≤m∧m≤1099511627790:=by omega
 have an:=zh (show -9223372036854775808≤m∧m≤9223372036854775807 by omega);clear cL cJ;have br:=zh (show M.entries.length≤1000000 by have:=HM.o;omega)
 by_cases k3:kd=3
 ·subst k3;go_wp2_with fail;refine ost (fun w':World=>w'.heap[pb]?=some (zCg d r (.pointer (some ⟨j,0,none⟩)) (.pointer (some ⟨x,0,none⟩)) false)∧w'.heap[X]?=some (.cells #[.int .i64 3,.int .i64 a,.int .i64 b,.slice pl nl cl,.slice pn nn cn,.slice pd nd cd] 80 (0,0))) 14 ⟨B.o,A.o⟩ fun f=>?_;have H2:=zh (Q.o.next (zAP W1));clear B A Q p0 p1 p2 U V s2 I s4 s5 s0;generalize W1.drew=W2 at *;refine Pl [0,1,2,3,4,6,7,8,9,10] ?_
  iterate 10 (refine Pd rfl (by intro w g;have p0:=zAU g.1;have p1:=zAY g.1;have p2:=zAX g.1;have U:=zAf g.1;have V:=zAY g.2;have s2:=zAX g.2;have I:=zAf g.2;have s4:=zDD g.2;have s5:=zDv g.2;go_simp;try with_reducible rfl) ?_;simp only[uZ])
  refine Pn ?_;have E:=zh (py_cut H2.o m an.o);have ab:Z=((zBp [97] D M m).disk,(zBp [97] D M m).jou,false):=by
   rw[←ar.o];unfold zEo
   try unfold zDn.off
   dsimp only;rw[if_neg (by decide),if_neg (by decide),if_pos rfl]
   try rw[bv.o]
   try rw[bB.o]
  have T:=zh ab;clear ab;generalize Y:zBp [97] D M m=Z1 at *;refine oon 5 rfl fun K P=>?_;go_wp2_with fail;refine E.o.mono ?_;rintro e w3 ⟨rfl,H,C⟩;have t:=zh (And.intro ((C pb (.inl rfl)).trans f.1) ((C X (.inr rfl)).trans f.2));have ac:=zh (py_rcut H m an.o);rw[Y]at ac;clear Y E H2;clear H C f;go_wp2_with fail;refine P.o _ _ t.o fun f=>?_;clear P t
  try simp only[uZ]
  refine oon 11 rfl fun K P=>?_;go_wp2_with fail;refine ac.o.mono ?_;rintro e w4 ⟨rfl,h4,af⟩;have t:=zh (And.intro ((af pb (.inl rfl)).trans f.1) ((af X (.inr rfl)).trans f.2));have HE:=zW (zCw w pb d r Z (.returned (.bool true)) w4) (by
   rw[T.o];exact⟨rfl,j,x,t.o.1,(fun e=>by cases e),fun _=>h4.less fun k hk=>.inl hk⟩)
  clear ac;clear h4 af f;go_wp2_with fail;refine P.o _ _ t.o fun f=>?_;clear P t
  try simp only[uZ]
  refine Pl [12,13] ?_
  iterate 2 (refine Pc rfl ?_;simp only[uZ])
  refine Pn ?_;refine odn ?_;clear f;go_wp2_with fail;go_ret;exact HE.o
 by_cases k4:kd=4
 ·subst k4;go_wp2_with fail;refine ost (fun w':World=>w'.heap[pb]?=some (zCg d r (.pointer (some ⟨j,0,none⟩)) (.pointer (some ⟨x,0,none⟩)) false)∧w'.heap[X]?=some (.cells #[.int .i64 4,.int .i64 a,.int .i64 b,.slice pl nl cl,.slice pn nn cn,.slice pd nd cd] 80 (0,0))) 18 ⟨B.o,A.o⟩ fun f=>?_;have H2:=zh (Q.o.next (zAP W1));clear B A Q p0 p1 p2 U V s2 I s4 s5 s0;generalize W1.drew=W2 at *;refine Pl [0,1,2,3,4,5,6,8,9,10,11,12,13,14] ?_
  iterate 14 (refine Pd rfl (by intro w g;have p0:=zAU g.1;have p1:=zAY g.1;have p2:=zAX g.1;have U:=zAf g.1;have V:=zAY g.2;have s2:=zAX g.2;have I:=zAf g.2;have s4:=zDD g.2;have s5:=zDv g.2;go_simp;try with_reducible rfl) ?_;simp only[uZ])
  refine Pn ?_;have E:=zh (py_compact H2.o br.o m an.o bw.o (by omega) bt.o);have ab:Z=((zAe [97] D M m J).disk,(zAe [97] D M m J).jou,false):=by
   rw[←ar.o];unfold zEo
   try unfold zDn.off
   dsimp only;rw[if_neg (by decide),if_neg (by decide),if_neg (by decide),if_pos rfl]
   try rw[bv.o]
   try rw[bB.o]
  have T:=zh ab;clear ab;generalize Y:zAe [97] D M m J=Z1 at *;refine oon 7 rfl fun K P=>?_;go_wp2_with fail;refine E.o.mono ?_;rintro e w3 ⟨rfl,H,C⟩;have t:=zh (And.intro ((C pb (.inl rfl)).trans f.1) ((C X (.inr rfl)).trans f.2));have ac:=zh (py_rcompact H br.o m an.o bw.o (by omega) bt.o);rw[Y]at ac;clear Y E H2;clear H C f;go_wp2_with fail;refine P.o _ _ t.o fun f=>?_;clear P t
  try simp only[uZ]
  refine oon 15 rfl fun K P=>?_;go_wp2_with fail;refine ac.o.mono ?_;rintro e w4 ⟨rfl,h4,af⟩;have t:=zh (And.intro ((af pb (.inl rfl)).trans f.1) ((af X (.inr rfl)).trans f.2));have HE:=zW (zCw w pb d r Z (.returned (.bool true)) w4) (by
   rw[T.o];exact⟨rfl,j,x,t.o.1,(fun e=>by cases e),fun _=>h4.less fun k hk=>.inl hk⟩)
  clear ac;clear h4 af f;go_wp2_with fail;refine P.o _ _ t.o fun f=>?_;clear P t
  try simp only[uZ]
  refine Pl [16,17] ?_
  iterate 2 (refine Pc rfl ?_;simp only[uZ])
  refine Pn ?_;refine odn ?_;clear f;go_wp2_with fail;go_ret;exact HE.o
 by_cases k5:kd=5
 ·subst k5;go_wp2_with fail;refine ost (fun w':World=>w'.heap[pb]?=some (zCg d r (.pointer (some ⟨j,0,none⟩)) (.pointer (some ⟨x,0,none⟩)) false)∧w'.heap[X]?=some (.cells #[.int .i64 5,.int .i64 a,.int .i64 b,.slice pl nl cl,.slice pn nn cn,.slice pd nd cd] 80 (0,0))) 26 ⟨B.o,A.o⟩ fun f=>?_;have H2:=zh (Q.o.next (zAP W1));clear B A Q p0 p1 p2 U V s2 I s4 s5 s0;generalize W1.drew=W2 at *;refine Pl [0,1,2,3,4,5,6,7,8,9,10,12,13,14,15,16,17,18,19,20,21,22] ?_
  iterate 22 (refine Pd rfl (by intro w g;have p0:=zAU g.1;have p1:=zAY g.1;have p2:=zAX g.1;have U:=zAf g.1;have V:=zAY g.2;have s2:=zAX g.2;have I:=zAf g.2;have s4:=zDD g.2;have s5:=zDv g.2;go_simp;try with_reducible rfl) ?_;simp only[uZ])
  refine Pn ?_;have E:=zh (py_install H2.o br.o m b an.o bw.o (by omega) cr.o (by omega) ct.o bt.o);have ab:Z=((zAg [97] D M m b nodes J).disk,(zAg [97] D M m b nodes J).jou,false):=by
   rw[←ar.o];unfold zEo
   try unfold zDn.off
   dsimp only;rw[if_neg (by decide),if_neg (by decide),if_neg (by decide),if_neg (by decide),if_pos rfl]
   try rw[bv.o]
   try rw[bB.o]
  have T:=zh ab;clear ab;generalize Y:zAg [97] D M m b nodes J=Z1 at *;refine oon 11 rfl fun K P=>?_;go_wp2_with fail;refine E.o.mono ?_;rintro e w3 ⟨rfl,H,C⟩;have t:=zh (And.intro ((C pb (.inl rfl)).trans f.1) ((C X (.inr rfl)).trans f.2));have ac:=zh (py_rinstall H br.o m b an.o bw.o (by rw[cr.o];omega) ct.o bt.o);rw[Y]at ac;clear Y E H2;clear H C f;go_wp2_with fail;refine P.o _ _ t.o fun f=>?_;clear P t
  try simp only[uZ]
  refine oon 23 rfl fun K P=>?_;go_wp2_with fail;refine ac.o.mono ?_;rintro e w4 ⟨rfl,h4,af⟩;have t:=zh (And.intro ((af pb (.inl rfl)).trans f.1) ((af X (.inr rfl)).trans f.2));have HE:=zW (zCw w pb d r Z (.returned (.bool true)) w4) (by
   rw[T.o];exact⟨rfl,j,x,t.o.1,(fun e=>by cases e),fun _=>h4.less fun k hk=>.inl hk⟩)
  clear ac;clear h4 af f;go_wp2_with fail;refine P.o _ _ t.o fun f=>?_;clear P t
  try simp only[uZ]
  refine Pl [24,25] ?_
  iterate 2 (refine Pc rfl ?_;simp only[uZ])
  refine Pn ?_;refine odn ?_;clear f;go_wp2_with fail;go_ret;exact HE.o
 by_cases k2:kd=2
 ·subst k2;have bD:W1.cell? ⟨x,5,none⟩=some (.int .i64 M.now)∧0≤M.now∧M.now≤1099511627776:=by
   obtain⟨F,az,aj,-,hR,-⟩:=Q.o;obtain⟨gv,dv,ev,hc⟩:=hR.cellsD;have h1:=zAs.1 hR.okM.now;exact⟨zAG hc rfl,h1.1,h1.2⟩
  obtain⟨bD,dP,dQ⟩:=bD;generalize cK:M.now=nw at *;have ds:=zh cK;clear cK;have dI:IntKind.i64.wrap (nw+max (-1) (min a 3))=nw+max (-1) (min a 3):=IntWalk.i64_in _ (by omega);go_wp2_with fail;refine ost (fun w':World=>w'.heap[pb]?=some (zCg d r (.pointer (some ⟨j,0,none⟩)) (.pointer (some ⟨x,0,none⟩)) false)∧w'.heap[X]?=some (.cells #[.int .i64 2,.int .i64 a,.int .i64 b,.slice pl nl cl,.slice pn nn cn,.slice pd nd cd] 80 (0,0))∧w'.cell? ⟨x,5,none⟩=some (.int .i64 nw)) 13 ⟨B.o,A.o,bD⟩ fun f=>?_;refine Pl [0,1,2,3,4,5,6,7,8,9,10,11,12] ?_
  iterate 13 (refine Pd rfl (by intro w g;have p0:=zAU g.1;have p1:=zAY g.1;have p2:=zAX g.1;have U:=zAf g.1;have V:=zAY g.2.1;have s2:=zAX g.2.1;have I:=zAf g.2.1;have s4:=zDD g.2.1;have s5:=zDv g.2.1;have x5:=g.2.2;go_simp;try with_reducible rfl) ?_;simp only[uZ])
  refine Pn ?_;refine odn ?_;have Q:=zh (Q.o.next (zAP W1));have B:=zh f.1;have A:=zh f.2.1;clear f bD p0 p1 p2 U V s2 I s4 s5 s0;generalize W1.drew=W1 at *;have s:=B.o;have l:=A.o;have p0:=zAU s;have p1:=zAY s;have p2:=zAX s;have U:=zAf s;have V:=zAY l;have s2:=zAX l;have I:=zAf l;have s4:=zDD l;have s5:=zDv l;clear s l;have s0:=zAU A.o;clear dI;generalize cQ:nw+max (-1) (min a 3)=tt at *;have dA:=zh cQ;have cA:=zh (show -9223372036854775808≤tt∧tt≤9223372036854775807 by omega);clear cQ;go_wp2_with fail;refine ost (fun w':World=>w'.heap[pb]?=some (zCg d r (.pointer (some ⟨j,0,none⟩)) (.pointer (some ⟨x,0,none⟩)) false)∧w'.heap[X]?=some (.cells #[.int .i64 2,.int .i64 a,.int .i64 b,.slice pl nl cl,.slice pn nn cn,.slice pd nd cd] 80 (0,0))) 18 ⟨B.o,A.o⟩ fun f=>?_;have H2:=zh (Q.o.next (zAP W1));clear B A Q p0 p1 p2 U V s2 I s4 s5 s0;generalize W1.drew=W2 at *;refine Pl [0,1,2,3,4,5,6,8,9,10,11,12,13,14] ?_
  iterate 14 (refine Pd rfl (by intro w g;have p0:=zAU g.1;have p1:=zAY g.1;have p2:=zAX g.1;have U:=zAf g.1;have V:=zAY g.2;have s2:=zAX g.2;have I:=zAf g.2;have s4:=zDD g.2;have s5:=zDv g.2;go_simp;try with_reducible rfl) ?_;simp only[uZ])
  refine Pn ?_;have E:=zh (py_term H2.o tt b cA.o cE);have ab:Z=((zBI [97] D M tt b).disk,(zBI [97] D M tt b).jou,false):=by
   rw[←ar.o];unfold zEo
   try unfold zDn.off
   dsimp only;rw[if_neg (by decide),if_pos rfl,ds.o,dA.o]
   try rw[bv.o]
   try rw[bB.o]
  have T:=zh ab;clear ab;generalize Y:zBI [97] D M tt b=Z1 at *;refine oon 7 rfl fun K P=>?_;go_wp2_with fail;refine E.o.mono ?_;rintro e w3 ⟨rfl,H,C⟩;have t:=zh (And.intro ((C pb (.inl rfl)).trans f.1) ((C X (.inr rfl)).trans f.2));have ac:=zh (py_rterm H tt b cA.o cE);rw[Y]at ac;clear Y E H2;clear H C f;go_wp2_with fail;refine P.o _ _ t.o fun f=>?_;clear P t
  try simp only[uZ]
  refine oon 15 rfl fun K P=>?_;go_wp2_with fail;refine ac.o.mono ?_;rintro e w4 ⟨rfl,h4,af⟩;have t:=zh (And.intro ((af pb (.inl rfl)).trans f.1) ((af X (.inr rfl)).trans f.2));have HE:=zW (zCw w pb d r Z (.returned (.bool true)) w4) (by
   rw[T.o];exact⟨rfl,j,x,t.o.1,(fun e=>by cases e),fun _=>h4.less fun k hk=>.inl hk⟩)
  clear ac;clear h4 af f;go_wp2_with fail;refine P.o _ _ t.o fun f=>?_;clear P t
  try simp only[uZ]
  refine Pl [16,17] ?_
  iterate 2 (refine Pc rfl ?_;simp only[uZ])
  refine Pn ?_;refine odn ?_;clear f;go_wp2_with fail;go_ret;exact HE.o
 by_cases k1:kd=1
 ·subst k1;obtain⟨i4,dG,cS,cT,cU⟩:=info_parts (show(prog.info? 50).map (fun i=>(i.zero,i.size,i.bytes))=some (some (.agg #[.int .i64 0,.int .i64 0,.slice none 0 0,.slice none 0 0]),4,64) by kernel_rfl);have ab:Z=((zAn [97] D M es).disk,(zAn [97] D M es).jou,false):=by
   rw[←ar.o];unfold zEo;dsimp only;rw[if_pos rfl]
  have T:=zh ab;have bc:=zh (zAB A.o);clear ab p0 p1 p2 U s0 V s2 I s4 s5;have I:=zAf A.o;go_wp2_with fail
  go_loopw [8,9] (fun vl i wr=>∃(k:Nat) (us:List EV),k≤nl∧i=.int .i64 k∧zEi W1 wr vl (es.take k) us) (fun _ i _=>nl-(intOf i).toNat)
  case atStart=>exact⟨0,[],Nat.zero_le _,rfl,zEi.nil W1⟩
  case round =>
   obtain⟨k,us,hk,rfl,hO⟩:=hrel;have HO:=zh hO;have dg:=zh ((hO.bel.block X bc.o).trans A.o);clear hO I;have I:=zAf dg.o
   by_cases bp:k<nl
   ·have av:k<es.length:=by rw[bA.o];exact bp
    have cW:=zh (Q.o.bel.trans (HO.o.bel.mono Q.o.bel.size));obtain⟨bl,ol,v,rfl,aN,q0,q1,q2,q3⟩:=(bN.o.below cW.o).ent av;have dE:=bO.o _ (List.getElem_mem av);have dz:=zW (es.take (k+1)=es.take k++[es[k]]) (List.take_succ_eq_append_getElem av);have bQ:=zh (show(es.take k).length=k by rw[List.length_take];omega);generalize es[k]=ee at *;obtain⟨v1,v2⟩:=v;obtain⟨pa,ca,ea⟩:=aN.data.slice;obtain⟨pc,cc,ec⟩:=aN.nodes.slice;replace ea:v1=.slice pa ee.data.length ca:=ea;replace ec:v2=.slice pc ee.nodes.length cc:=ec;subst ea;subst ec;have be:=zh (own5_calls aN);unfold zCf at be;dsimp only at be q2 q3;generalize aq:ee.data.length=m1 at *;generalize aw:ee.nodes.length=m2 at *;have dq:=zh aq;have dr:=zh aw;obtain⟨pv,cv,ev⟩:=OwnR.shape HO.o.row;rw[bQ.o]at ev;subst ev;clear aq aw aN av;go_wp2_with fail;refine be.o.mono ?_;rintro e w3 ⟨⟨u1,u2⟩,rfl,hu,cR,bG,cD⟩;have HU:=zh (And.intro hu (And.intro cR bG));have bJ:=zh cD;obtain⟨pu,cu,eu,-⟩:=zAL hu.data;obtain⟨pw,cw,ew,-⟩:=zAw hu.nodes;replace eu:u1=.slice pu ee.data.length cu:=eu;replace ew:u2=.slice pw ee.nodes.length cw:=ew;rw[dq.o]at eu;rw[dr.o]at ew;subst eu;subst ew;clear hu cR bG cD q0 q1 q2 q3 I;unfold zCf;have co:=zh (zAD w3 (.cells #[.int .i64 ee.term,.int .i64 ee.kind,.slice pu m1 cu,.slice pw m2 cw] 50));have cq:=zW (OwnR (w3.alloc (.cells #[.int .i64 ee.term,.int .i64 ee.kind,.slice pu m1 cu,.slice pw m2 cw] 50)) 50 4 (.slice pv k cv) k (zA3 (es.take k) us)) (by
     have h1:=HO.o.row;rw[bQ.o]at h1;exact h1.keep fun y hy=>(bJ.o.trans (co.o.mono bJ.o.size)).block y (OwnR.lt h1 hy))
    have cB:=zh (zEx w3 #[.int .i64 ee.term,.int .i64 ee.kind,.slice pu m1 cu,.slice pw m2 cw] _ 4 1 1 rfl rfl 50 (0,0));go_wp2_with (at_builtin;refine zAO _ rfl (.tmp 47) (.tmp 54) 78 rfl 50 i4 (.agg #[.int .i64 0,.int .i64 0,.slice none 0 0,.slice none 0 0]) 4 64 underlying78 dG cS cT cU rfl (by decide) (.slice pv k cv) k _ rfl cq.o (.slice (some ⟨w3.heap.size,0,none⟩) 1 1) 1 _ rfl cB.o (fun u hu=>by simp at hu;rcases hu with rfl|rfl|rfl|rfl<;>rfl) (by unfold maxLen;omega) (by omega) ?_;intro v4 w4 bH bk bF;go_loud (have S:=zh (zEi.push (u:=(.slice pu m1 cu,.slice pw m2 cw)) HO.o bJ.o HU.o.1 HU.o.2.1 HU.o.2.2 co.o (by rw[bQ.o];exact bH) bk bF);clear bH bk bF cq cB))
    go_roundw
    case rel=>exact⟨k+1,us++[(.slice pu m1 cu,.slice pw m2 cw)],by omega,by go_num,by rw[dz.o];exact S.o⟩
    case measure=>simp[intOf];omega
   ·obtain rfl:nl=k:=by omega
    have hO:=HO.o;rw[List.take_of_length_le (by rw[bA.o];exact Nat.le_refl _)]at hO;obtain⟨pv,cv,ev⟩:=OwnR.shape hO.row;rw[bA.o]at ev;subst ev;have HO:=zh hO;have cC:=Q.o.more (G':=fun z=>z=pb∨z=X∨(W1.heap.size≤z∧z<wr.heap.size)) hO.bel fun z Y=>by
     rcases Y with Y|Y|Y
     ·exact .inl (.inl Y)
     ·exact .inl (.inr Y)
     ·exact .inr Y
    have aR:=zh ((hO.bel.block pb (zAB B.o)).trans B.o);have cz:=zh (And.intro (zAB B.o) bc.o);have dC:=zh Q.o.bel.size;have aZ:=zh ((hO.bel.block X bc.o).trans A.o);have p2:=zAX aR.o;have dk:=zh (py_append cC (es:=es) (vs:=us) (p:=pv) (n:=nl) (c:=cv) (fun W hs=>HO.o.keep (fun z h1 h2=>hs z (.inr (.inr ⟨h1,h2⟩))) bO.o) (by omega));clear hO cC;generalize Y:zAn [97] D M es=Z1 at *;obtain⟨wl,rfl⟩:∃wl:World,wl=wr:=⟨_,rfl⟩;generalize dN:W1.heap.size=z9 at *;go_wp2_with fail;refine dk.o.mono ?_;rintro e w2 ⟨rfl,H,C⟩;have Q:=zh H;have B:=zh ((C pb (.inl rfl)).trans aR.o);have A:=zh ((C X (.inr (.inl rfl))).trans aZ.o);have cZ:=zh (HO.o.loop0 fun z h1 h2=>C z (.inr (.inr ⟨by omega,h2⟩)));clear H C aR aZ p2 I;have s:=B.o;have l:=A.o;have p0:=zAU s;have p1:=zAY s;have p2:=zAX s;have U:=zAf s;have V:=zAY l;have s2:=zAX l;have I:=zAf l;have s4:=zDD l;have s5:=zDv l;clear s l;have s0:=zAU A.o;go_wp2_with fail;refine ost (fun w':World=>w'.heap[pb]?=some (zCg d r (.pointer (some ⟨j,0,none⟩)) (.pointer (some ⟨x,0,none⟩)) false)∧w'.heap[X]?=some (.cells #[.int .i64 1,.int .i64 a,.int .i64 b,.slice pl nl cl,.slice pn nn cn,.slice pd nd cd] 80 (0,0))) 8 ⟨B.o,A.o⟩ fun f=>?_;have H2:=zh (Q.o.next (zAP w2));have aY:=zh (cZ.o.next (zAP w2));clear B A Q p0 p1 p2 U V s2 I s4 s5 s0;generalize w2.drew=W2 at *;refine Pl [0,1,2,3,4,5] ?_
    iterate 6 (refine Pd rfl (by intro w g;have p0:=zAU g.1;have p1:=zAY g.1;have p2:=zAX g.1;have U:=zAf g.1;have V:=zAY g.2;have s2:=zAX g.2;have I:=zAf g.2;have s4:=zDD g.2;have s5:=zDv g.2;go_simp;try with_reducible rfl) ?_;simp only[uZ])
    refine Pn ?_;have E:=zh (py_rappend H2.o bN.o (by omega));rw[Y]at E;clear Y;refine oon 6 rfl fun K P=>?_;go_wp2_with fail;refine E.o.mono ?_;rintro e w3 ⟨rfl,H,C⟩;have t:=zh (And.intro ((C pb (.inl rfl)).trans f.1) ((C X (.inr (.inl rfl))).trans f.2));have da:=zh (HO.o.moved aY.o fun z h1 h2=>C z (.inr (.inr ⟨by omega,h2⟩)));have H3:=zh H;clear aY H2 E;clear H C f;go_wp2_with fail;refine P.o _ _ t.o fun f=>?_;clear P t
    try simp only[uZ]
    refine Pl [7] ?_
    iterate 1 (refine Pc rfl ?_;simp only[uZ])
    refine Pn ?_;refine odn ?_;have aR:=zh f.1;have aZ:=zh f.2;clear f;go_wp2_with fail
    go_loopw [12] (fun i wr=>∃k:Nat,k≤nl∧i=.int .i64 k∧zA6 w wr j d x r Z1.disk Z1.jou Z1.disk Z1.jou (fun z=>z=pb∨z=X∨(z9≤z∧z<wl.heap.size))∧wr.heap[pb]?=some (zCg d r (.pointer (some ⟨j,0,none⟩)) (.pointer (some ⟨x,0,none⟩)) false)∧wr.heap[X]?=some ((.cells #[.int .i64 1,.int .i64 a,.int .i64 b,.slice pl nl cl,.slice pn nn cn,.slice pd nd cd] 80))∧OwnL wr (.slice pv nl cv) es us k) (fun i _=>nl-(intOf i).toNat)
    case atStart=>exact⟨0,Nat.zero_le _,rfl,H3.o,aR.o,aZ.o,da.o⟩
    case round =>
     obtain⟨k,hk,rfl,hY,hP,hS,hL⟩:=hrel;have HY:=zh hY;have HP:=zh hP;have HS:=zh hS;have HL:=zh hL;clear hY hP hS hL aR aZ
     by_cases bp:k<nl
     ·have av:k<es.length:=by rw[bA.o];exact bp
      obtain⟨bu,ou,u,rfl,bC,bS,z0,z1,z2,z3⟩:=HL.o.ent HO.o.len av;have dE:=bO.o _ (List.getElem_mem av);have HU:=zh (bS.has (by omega) (by omega));have cV:=zh bS
      obtain⟨bl,ol,v,rfl,aN,q0,q1,q2,q3⟩:=(bN.o.below HY.o.bel).ent av;have HV:=zh aN;clear bS aN;generalize es[k]=ee at *;have dB:=zh bC;have bd:=zh (HO.o.new k u bC);have cs:=zh (fun z Y=>HO.o.lt bC (k:=z) Y);obtain⟨u1,u2⟩:=u;obtain⟨v1,v2⟩:=v;obtain⟨pa,ca,ea⟩:=HV.o.data.slice;obtain⟨pc,cc,ec⟩:=HV.o.nodes.slice;obtain⟨pu,cu,eu⟩:=HU.o.data.slice;obtain⟨pw,cw,ew⟩:=HU.o.nodes.slice;replace ea:v1=.slice pa ee.data.length ca:=ea;replace ec:v2=.slice pc ee.nodes.length cc:=ec;replace eu:u1=.slice pu ee.data.length cu:=eu;replace ew:u2=.slice pw ee.nodes.length cw:=ew;subst ea;subst ec;subst eu;subst ew;dsimp only at z2 z3 q2 q3 bd cs;have dl:=zh (show ee.data.length≤1099511627776 by omega);generalize aq:ee.data.length=m1 at *;generalize aw:ee.nodes.length=m2 at *;have dn:=zh aq;clear aq aw bC;go_wp2_with fail;refine ost (fun w:World=>w.heap[X]?=some ((.cells #[.int .i64 1,.int .i64 a,.int .i64 b,.slice (some ⟨bl,ol,none⟩) nl cl,.slice pn nn cn,.slice pd nd cd] 80))∧w.cell? ⟨bu,ou+k*4,none⟩=some (.int .i64 ee.term)∧w.cell? ⟨bu,ou+k*4+1,none⟩=some (.int .i64 ee.kind)∧w.cell? ⟨bu,ou+k*4+2,none⟩=some (.slice pu m1 cu)∧w.cell? ⟨bu,ou+k*4+3,none⟩=some (.slice pw m2 cw)∧w.cell? ⟨bl,ol+k*4,none⟩=some (.int .i64 ee.term)∧w.cell? ⟨bl,ol+k*4+1,none⟩=some (.int .i64 ee.kind)∧w.cell? ⟨bl,ol+k*4+2,none⟩=some (.slice pa m1 ca)∧w.cell? ⟨bl,ol+k*4+3,none⟩=some (.slice pc m2 cc)) 11 ⟨HS.o,z0,z1,z2,z3,q0,q1,q2,q3⟩ fun f=>?_;have dh:=zh (HY.o.next (zAP wr));have am:=zW (wr.drew.heap[pb]?=_) HP.o;have aY:=zh (HL.o.next (zAP wr));have ck:=zh (cV.o.keep (w':=wr.drew) fun _ _=>rfl);have aa:=zh (zCx (HU.o.below (zAP wr)) (HV.o.below (zAP wr)));rw[zFF]at aa;unfold zCf at aa;dsimp only at aa;clear HY HP HS HL HU z0 z1 z2 z3 q0 q1 q2 q3;generalize wr.drew=W2 at *;refine Pl [0,1,2,3,4,5,6,7,8] ?_
      iterate 9 (refine Pd rfl (by intro w g;obtain⟨hb,z0,z1,z2,z3,q0,q1,q2,q3⟩:=g;have I:=zAf hb;go_simp;try with_reducible rfl) ?_;simp only[uZ])
      refine Pn ?_;refine oon 9 rfl fun K P=>?_;go_wp2_with fail;refine aa.o.mono ?_;rintro e w4 ⟨rfl,ai⟩;have t:=zW ((fun w:World=>w.heap[X]?=some ((.cells #[.int .i64 1,.int .i64 a,.int .i64 b,.slice (some ⟨bl,ol,none⟩) nl cl,.slice pn nn cn,.slice pd nd cd] 80))∧w.cell? ⟨bu,ou+k*4,none⟩=some (.int .i64 ee.term)∧w.cell? ⟨bu,ou+k*4+1,none⟩=some (.int .i64 ee.kind)∧w.cell? ⟨bu,ou+k*4+2,none⟩=some (.slice pu m1 cu)∧w.cell? ⟨bu,ou+k*4+3,none⟩=some (.slice pw m2 cw)∧w.cell? ⟨bl,ol+k*4,none⟩=some (.int .i64 ee.term)∧w.cell? ⟨bl,ol+k*4+1,none⟩=some (.int .i64 ee.kind)∧w.cell? ⟨bl,ol+k*4+2,none⟩=some (.slice pa m1 ca)∧w.cell? ⟨bl,ol+k*4+3,none⟩=some (.slice pc m2 cc)) w4) (by
       obtain⟨hb,z0,z1,z2,z3,q0,q1,q2,q3⟩:=f;exact⟨(ai.block X (zAB hb)).trans hb,zA2 ai z0,zA2 ai z1,zA2 ai z2,zA2 ai z3,zA2 ai q0,zA2 ai q1,zA2 ai q2,zA2 ai q3⟩)
      have di:=zh (dh.o.next ai);have S:=zh ((ai.block pb (zAB am.o)).trans am.o);have db:=zh (aY.o.next ai);have dy:=zh (spoil5_calls (ck.o.keep fun z Y=>ai.block z (ck.o.lt Y)).data (by rw[dn.o];exact dl.o));clear ai f am aY aa;go_wp2_with fail;refine P.o _ _ t.o fun f=>?_;clear P t
      try simp only[uZ]
      refine Pl [10] ?_
      iterate 1 (refine Pc rfl ?_;simp only[uZ])
      refine Pn ?_;refine odn ?_;have cp:=zh f.1;have z2:=f.2.2.2.1;clear f;go_wp2_with fail;refine dy.o.mono ?_;rintro e w5 ⟨rfl,hc⟩;have aO:∀z,z<z9→¬(Value.slice pu m1 cu).ownBlock=some z:=fun z Y e=>by
       have h1:=(bd.o z (.inl e)).1;omega
      have dj:=zh (di.o.chg hc fun z Y=>by
       have h1:=(bd.o z (.inl Y)).1;have h2:=cs.o z (.inl Y);have H:=dC.o;exact⟨.inr (.inr ⟨by omega,h2⟩),by omega⟩)
      have dd:=zh ((hc.block pb (zAB S.o) (aO pb cz.o.1)).trans S.o);have df:=zh ((hc.block X (zAB cp.o) (aO X cz.o.2)).trans cp.o);have dc:=zh (HO.o.spoilt db.o dB.o hc);clear hc aO z2 S;go_wp2_with fail;go_roundw
      case rel=>exact⟨k+1,by omega,by go_num,dj.o,dd.o,df.o,dc.o⟩
      case measure=>simp[intOf];omega
     ·obtain rfl:nl=k:=by omega
      have HE:=zW (zCw w pb d r Z (.returned (.bool true)) wr) (by
       rw[T.o];exact⟨rfl,j,x,HP.o,(fun e=>by cases e),fun _=>HY.o.less fun k hk=>.inl hk⟩)
      go_wp2_with fail;go_ret;exact HE.o
 by_cases k6:kd=6
 ·subst k6;have ab:Z=if(zAV (D.crash a) [97] zEL).2.1=0 then((zAV (D.crash a) [97] zEL).1,(zAV (D.crash a) [97] zEL).2.2,false)else((zAV (D.crash a) [97] zEL).1,M,true):=by
   rw[←ar.o];unfold zEo;dsimp only;rw[if_neg (by decide),if_neg (by decide),if_neg (by decide),if_neg (by decide),if_neg (by decide),if_pos rfl]
  have T:=zh ab;have H0:=zh Q.o.pairF;have cy:=zW ((D.crash a).room≤1048576) bP.o;have dw:=zh (dx.o rfl);clear ab Q;obtain⟨Q,-⟩:=And.intro H0 trivial;clear H0;go_wp2_with fail;refine ost (fun w':World=>w'.heap[pb]?=some (zCg d r (.pointer (some ⟨j,0,none⟩)) (.pointer (some ⟨x,0,none⟩)) false)∧w'.heap[X]?=some (.cells #[.int .i64 6,.int .i64 a,.int .i64 b,.slice pl nl cl,.slice pn nn cn,.slice pd nd cd] 80 (0,0))) 7 ⟨B.o,A.o⟩ fun f=>?_;have H2:=zh (Q.o.next (zAP W1));clear B A Q p0 p1 p2 U V s2 I s4 s5 s0;generalize W1.drew=W2 at *;refine Pl [0,1,2,3,4,5] ?_
  iterate 6 (refine Pd rfl (by intro w g;have p0:=zAU g.1;have p1:=zAY g.1;have p2:=zAX g.1;have U:=zAf g.1;have V:=zAY g.2;have s2:=zAX g.2;have I:=zAf g.2;have s4:=zDD g.2;have s5:=zDv g.2;go_simp;try with_reducible rfl) ?_;simp only[uZ])
  refine Pn ?_;have E:=zh (pairf_disk0 (D':=D.crash a) H2.o (Below.refl _ _) fun _ hS=>st_crash hS a au.1 au.2);refine oon 6 rfl fun K P=>?_;go_wp2_with fail;refine E.o.mono ?_;rintro e w3 ⟨rfl,H,C⟩;have t:=zh (And.intro ((C pb (.inl rfl)).trans f.1) ((C X (.inr rfl)).trans f.2));have Q:=zh H;clear E H2;clear H C f;go_wp2_with fail;refine P.o _ _ t.o fun f=>?_;clear P t
  try simp only[uZ]
  refine odn ?_;have B:=zh f.1;have A:=zh f.2;clear f;have s:=B.o;have l:=A.o;have p0:=zAU s;have p1:=zAY s;have p2:=zAX s;have U:=zAf s;have V:=zAY l;have s2:=zAX l;have I:=zAf l;have s4:=zDD l;have s5:=zDv l;clear s l;have s0:=zAU A.o;go_wp2_with fail;refine ost (fun w':World=>w'.heap[pb]?=some (zCg d r (.pointer (some ⟨j,0,none⟩)) (.pointer (some ⟨x,0,none⟩)) false)∧w'.heap[X]?=some (.cells #[.int .i64 6,.int .i64 a,.int .i64 b,.slice pl nl cl,.slice pn nn cn,.slice pd nd cd] 80 (0,0))) 7 ⟨B.o,A.o⟩ fun f=>?_;have H2:=zh (Q.o.next (zAP w3));clear B A Q p0 p1 p2 U V s2 I s4 s5 s0;generalize w3.drew=W2 at *;refine Pl [0,1,2,3,4,5] ?_
  iterate 6 (refine Pd rfl (by intro w g;have p0:=zAU g.1;have p1:=zAY g.1;have p2:=zAX g.1;have U:=zAf g.1;have V:=zAY g.2;have s2:=zAX g.2;have I:=zAf g.2;have s4:=zDD g.2;have s5:=zDv g.2;go_simp;try with_reducible rfl) ?_;simp only[uZ])
  refine Pn ?_;have E:=zh (pairf_rcrash H2.o a au.1 au.2);refine oon 6 rfl fun K P=>?_;go_wp2_with fail;refine E.o.mono ?_;rintro e W1 ⟨rfl,H,C⟩;have t:=zh (And.intro ((C pb (.inl rfl)).trans f.1) ((C X (.inr rfl)).trans f.2));have Q:=zh H;clear E H2;clear H C f;go_wp2_with fail;refine P.o _ _ t.o fun f=>?_;clear P t
  try simp only[uZ]
  refine odn ?_;have B:=zh f.1;have A:=zh f.2;clear f;have s:=B.o;have l:=A.o;have p0:=zAU s;have p1:=zAY s;have p2:=zAX s;have U:=zAf s;have V:=zAY l;have s2:=zAX l;have I:=zAf l;have s4:=zDD l;have s5:=zDv l;clear s l;have s0:=zAU A.o;clear s0 V s2 I s4 s5;generalize D.crash a=DX at *;obtain⟨own,v,L,hS,hR,hn,hl⟩:=Q.o;have Hn:=zh hn;have dM:=zh hl;have HR:=zh hR;have dt:=zW (Calls prog 17 #[.pointer (some ⟨d,0,none⟩),.string sA,.slice (some ⟨W1.heap.size,0,none⟩) 3 3] (W1.alloc LitO) (zFs w (W1.alloc LitO) d sA (fun k=>own k∨(k=pb∨k=X)) (zAV DX [97] zEL))) (jopen_calls (hS.next (zAD W1 LitO)) cy.o sA (hasI_012 W1) (by simp));have du:=zh (fun W (hW:zAd W r v L own DX)=>show Calls prog 18 #[.pointer (some ⟨r,0,none⟩),.string sA,.slice (some ⟨W.heap.size,0,none⟩) 3 3] (W.alloc LitO) (zFc (W.alloc LitO) r sA own (zAV DX [97] zEL))from ropen_calls (hW.below (zAD W LitO)) cy.o sA (hasI_012 W) (by simp) dw.o);clear hS hR hn hl Q;generalize zAV DX [97] zEL=R at *;obtain⟨D9,k9,M9⟩:=R;dsimp only at T;go_wp2_with fail;refine dt.o.mono ?_;rintro e w2 ⟨ci,hs,bT⟩;have am:=zh ((hs pb (.inr (.inl rfl))).trans (((zAD W1 LitO).block pb (zAB B.o)).trans B.o));have de:=zh ((HR.o.below (zAD W1 LitO)).same (ci.less fun _ hk=>.inl hk) fun k hk=>hs k (.inl hk));have bE:=zh (du.o w2 de.o);have bI:=zh (St.below ci);clear hs ci p0 p1 p2 U;have p1:=zAY am.o;rcases bT with⟨Y,j',rfl,hj⟩|⟨Y,rfl⟩
  ·have cX:=zh hj;have bo:k9=0:=Y;subst bo;have bR:=zW (Z=(D9,M9,false)) (by rw[T.o];rfl);clear hj Y T;go_wp2_with fail;refine bE.o.mono ?_;rintro e w4 hT;rcases hT with⟨-,x',az,aj,rfl,hF,aS,hh⟩|⟨cg,-⟩
   rotate_left
   ·exact absurd rfl cg
   obtain⟨hY,cO⟩:=py_opened (G:=fun k=>k=pb∨k=X) Hn.o (cX.o.next (zAD w2 LitO)) hF aS hh;have S:=zh ((cO pb (.inl rfl)).trans (((zAD w2 LitO).block pb (zAB am.o)).trans am.o));have HY:=zh hY;clear hY cO hF aS hh p1;have p0:=zAU S.o;have p2:=zAX S.o;have U:=zAf S.o;have p4:=zDD S.o;have pf:=zAE S.o;have HE:=zW (zCw w pb d r Z (.returned (.bool true)) (((w4.setCell ⟨pb,4,none⟩ (.bool false)).setCell ⟨pb,2,none⟩ (.pointer (some ⟨j',0,none⟩))).setCell ⟨pb,3,none⟩ (.pointer (some ⟨x',0,none⟩)))) (by
    rw[bR.o];refine⟨rfl,j',x',?_,(fun e=>by cases e),fun _=>(HY.o.chg (((Chg.setCell w4 ⟨pb,4,none⟩ _).trans (Chg.setCell _ ⟨pb,2,none⟩ _) fun _ _ e=>e).trans (Chg.setCell _ ⟨pb,3,none⟩ _) fun _ _ e=>e) fun k e=>⟨.inl e,by have:=cx.o;have e:k=pb:=e;omega⟩).less fun k hk=>.inl hk⟩;have h1:=zAC S.o 4 (.bool false);have h2:=zAC h1 2 (.pointer (some ⟨j',0,none⟩));have H:=zAC h2 3 (.pointer (some ⟨x',0,none⟩));simpa using H)
   go_wp2_with fail;go_ret;exact HE.o
  ·have bo:k9≠0:=Y;have bR:=zW (Z=(D9,M,true)) (by rw[T.o,if_neg bo]);have dp:=zh bo;have dL:((k9:Int) != 0)=true:=by simp;omega
   have dK:((k9:Int)==0)=false:=by simp;omega
   clear Y T bo;dsimp only;go_wp2_with fail;refine bE.o.mono ?_;rintro e w4 hT;rcases hT with⟨cg,-⟩|⟨-,rfl,own',-,aS,-⟩
   ·exact absurd cg dp.o
   have cM:¬own pb:=fun e=>(Hn.o pb e).2 (.inl rfl);have S:=zh ((aS.block pb (Nat.lt_of_lt_of_le (zAB am.o) (zAD w2 LitO).size) cM).trans (((zAD w2 LitO).block pb (zAB am.o)).trans am.o));have cm:=zW (Below w.heap.size w w4) ((bI.o.trans ((zAD w2 LitO).mono bI.o.size)).trans (aS.below (Nat.le_trans bI.o.size (zAD w2 LitO).size) fun k hk e=>by have:=(Hn.o k e).1;omega));clear aS cM p1;have p0:=zAU S.o;have p2:=zAX S.o;have U:=zAf S.o;have p4:=zDD S.o;have pf:=zAE S.o;have HE:=zW (zCw w pb d r Z (.returned (.bool true)) (w4.setCell ⟨pb,4,none⟩ (.bool true))) (by
    rw[bR.o];refine⟨rfl,j,x,by simpa using zAC S.o 4 (.bool true),(fun _=>cm.o.trans ((Chg.setCell w4 ⟨pb,4,none⟩ (.bool true)).below cm.o.size fun k hk e=>by have:=cx.o;have e:k=pb:=e;omega)),fun e=>by cases e⟩)
   dsimp only;go_wp2_with fail;go_ret;exact HE.o
 by_cases k7:kd=7
 ·subst k7;have T:=zW (Z=(D.setFuse a,M,false)) (by
   rw[←ar.o];unfold zEo;dsimp only;rw[if_neg (by decide),if_neg (by decide),if_neg (by decide),if_neg (by decide),if_neg (by decide),if_neg (by decide),if_pos rfl])
  go_wp2_with fail;refine ost (fun w':World=>w'.heap[pb]?=some (zCg d r (.pointer (some ⟨j,0,none⟩)) (.pointer (some ⟨x,0,none⟩)) false)∧w'.heap[X]?=some (.cells #[.int .i64 7,.int .i64 a,.int .i64 b,.slice pl nl cl,.slice pn nn cn,.slice pd nd cd] 80 (0,0))) 7 ⟨B.o,A.o⟩ fun f=>?_;have H2:=zh (Q.o.next (zAP W1));clear B A Q p0 p1 p2 U V s2 I s4 s5 s0;generalize W1.drew=W2 at *;refine Pl [0,1,2,3,4,5] ?_
  iterate 6 (refine Pd rfl (by intro w g;have p0:=zAU g.1;have p1:=zAY g.1;have p2:=zAX g.1;have U:=zAf g.1;have V:=zAY g.2;have s2:=zAX g.2;have I:=zAf g.2;have s4:=zDD g.2;have s5:=zDv g.2;go_simp;try with_reducible rfl) ?_;simp only[uZ])
  refine Pn ?_;have E:=zh (py_fuse H2.o a au.1 au.2);refine oon 6 rfl fun K P=>?_;go_wp2_with fail;refine E.o.mono ?_;rintro e w3 ⟨rfl,H,C⟩;have t:=zh (And.intro ((C pb (.inl rfl)).trans f.1) ((C X (.inr rfl)).trans f.2));have Q:=zh H;clear E H2;clear H C f;go_wp2_with fail;refine P.o _ _ t.o fun f=>?_;clear P t
  try simp only[uZ]
  refine odn ?_;have B:=zh f.1;have A:=zh f.2;clear f;have s:=B.o;have l:=A.o;have p0:=zAU s;have p1:=zAY s;have p2:=zAX s;have U:=zAf s;have V:=zAY l;have s2:=zAX l;have I:=zAf l;have s4:=zDD l;have s5:=zDv l;clear s l;have s0:=zAU A.o;go_wp2_with fail;refine ost (fun w':World=>w'.heap[pb]?=some (zCg d r (.pointer (some ⟨j,0,none⟩)) (.pointer (some ⟨x,0,none⟩)) false)∧w'.heap[X]?=some (.cells #[.int .i64 7,.int .i64 a,.int .i64 b,.slice pl nl cl,.slice pn nn cn,.slice pd nd cd] 80 (0,0))) 7 ⟨B.o,A.o⟩ fun f=>?_;have H2:=zh (Q.o.next (zAP w3));clear B A Q p0 p1 p2 U V s2 I s4 s5 s0;generalize w3.drew=W2 at *;refine Pl [0,1,2,3,4,5] ?_
  iterate 6 (refine Pd rfl (by intro w g;have p0:=zAU g.1;have p1:=zAY g.1;have p2:=zAX g.1;have U:=zAf g.1;have V:=zAY g.2;have s2:=zAX g.2;have I:=zAf g.2;have s4:=zDD g.2;have s5:=zDv g.2;go_simp;try with_reducible rfl) ?_;simp only[uZ])
  refine Pn ?_;have E:=zh (py_rfuse H2.o a au.1 au.2);refine oon 6 rfl fun K P=>?_;go_wp2_with fail;refine E.o.mono ?_;rintro e W1 ⟨rfl,H,C⟩;have t:=zh (And.intro ((C pb (.inl rfl)).trans f.1) ((C X (.inr rfl)).trans f.2));have Q:=zh H;clear E H2;clear H C f;go_wp2_with fail;refine P.o _ _ t.o fun f=>?_;clear P t
  try simp only[uZ]
  refine odn ?_;have B:=zh f.1;have A:=zh f.2;clear f;have s:=B.o;have l:=A.o;have p0:=zAU s;have p1:=zAY s;have p2:=zAX s;have U:=zAf s;have V:=zAY l;have s2:=zAX l;have I:=zAf l;have s4:=zDD l;have s5:=zDv l;clear s l;have s0:=zAU A.o;clear s0 V s2 I s4 s5;obtain⟨e1,k1,bj,bm,bh⟩:∃(e:Ent) (k:Int),(∀N:zAJ,JEq M N→(N.entries[(m-(N.number:Int)-1).toNat]?=some e∧(N.number:Int)<m)∨(e=EZero∧¬((N.number:Int)<m∧m≤(N.last:Int))))∧k=(if(M.number:Int)<m∧m≤(M.last:Int)then 0 else 7) ∧
    Calls prog 34 #[.pointer (some ⟨j,0,none⟩),.int .i64 m] W1 fun r w'=>∃v:EV,r=.returned (.tuple #[zCf e v,.int .i64 k])∧zBH w' e v∧Below W1.heap.size W1 w':=by
   obtain⟨F,az,aj,hJ,-⟩:=Q.o;exact jat_any hJ m an.o
  have aT:=zh bh;have aV:=zh bj;have aX:=zh bm;clear bh bj bm;go_wp2_with fail;refine aT.o.mono ?_;rintro e wC ⟨⟨u1,u2⟩,rfl,hu,aK⟩;have bK:=zh (Q.o.next aK);have aA:=zh ((aK.block pb (zAB B.o)).trans B.o);obtain⟨ag,ad,aG⟩:=hu.data.slice;obtain⟨ah,ae,aH⟩:=hu.nodes.slice;have aG:u1=.slice ag e1.data.length ad:=aG;have aH:u2=.slice ah e1.nodes.length ae:=aH;subst aG;subst aH;have HU:=zh hu;clear hu aK aT p0 p1 p2 U;unfold zCf;generalize aq:e1.data.length=m1 at *;generalize aw:e1.nodes.length=m2 at *;have ay:=zh (zAD wC (.cells #[.int .i64 e1.term,.int .i64 e1.kind,.slice ag m1 ad,.slice ah m2 ae] 50));have aC:=zh (zAI wC (.cells #[.int .i64 e1.term,.int .i64 e1.kind,.slice ag m1 ad,.slice ah m2 ae] 50));have ax:=zh (bK.o.next ay.o);have aB:=zh ((ay.o.block pb (zAB aA.o)).trans aA.o);have ba:=zh (HU.o.below ay.o);clear aq aw HU;obtain⟨e2,k2,aM,bn,bi⟩:∃(e:Ent) (k:Int),((M.entries[(m-(M.number:Int)-1).toNat]?=some e∧(M.number:Int)<m∧m≤(M.last:Int))∨(e=EZero∧¬((M.number:Int)<m∧m≤(M.last:Int))))∧k=(if(M.number:Int)<m∧m≤(M.last:Int)then 0 else 7) ∧
    Calls prog 96 #[.pointer (some ⟨x,0,none⟩),.int .i64 m] (wC.alloc (.cells #[.int .i64 e1.term,.int .i64 e1.kind,.slice ag m1 ad,.slice ah m2 ae] 50)) fun r w'=>∃v:EV,r=.returned (.tuple #[zCf e v,.int .i64 k])∧zBH w' e v∧Below (wC.alloc (.cells #[.int .i64 e1.term,.int .i64 e1.kind,.slice ag m1 ad,.slice ah m2 ae] 50)).heap.size (wC.alloc (.cells #[.int .i64 e1.term,.int .i64 e1.kind,.slice ag m1 ad,.slice ah m2 ae] 50)) w':=by
   obtain⟨F,az,aj,-,hR,-⟩:=ax.o;exact rnat_any hR.new m an.o
  have aU:=zh bi;have aW:=zW (e1=e2) (by
   have h7:M.last=M.number+M.entries.length:=rfl;rcases aV.o M (JEq.refl M)with⟨h1,h2⟩|⟨h1,h2⟩
   ·rcases aM with⟨H,h4⟩|⟨H,h4⟩
    ·rw[h1]at H;exact Option.some.inj H
    ·exfalso;have h5:=(List.getElem?_eq_some_iff.1 h1).1;exact h4 ⟨h2,by omega⟩
   ·rcases aM with⟨H,h4⟩|⟨H,h4⟩
    ·exact absurd h4 h2
    ·rw[h1,H])
  have bW:k1=k2:=by rw[aX.o,bn]
  subst bW;clear bi aM bn aV aX;have U:=zAf aA.o;have cj:=zAf aB.o;go_wp2_with fail;generalize dF:wC.heap.size=bY at *;generalize wC.alloc (.cells #[.int .i64 e1.term,.int .i64 e1.kind,.slice ag m1 ad,.slice ah m2 ae] 50)=wD at *;refine aU.o.mono ?_;rintro e wE ⟨⟨y1,y2⟩,rfl,hy,al⟩;have bL:=zh (ax.o.next al);have bf:=zh ((al.block pb (zAB aB.o)).trans aB.o);obtain⟨aP,aE,aI⟩:=hy.data.slice;obtain⟨aQ,aF,aJ⟩:=hy.nodes.slice;have aI:y1=.slice aP e2.data.length aE:=aI;have aJ:y2=.slice aQ e2.nodes.length aF:=aJ;subst aI;subst aJ;have bb:=zh (ba.o.below al);have aD:=zh ((al.block bY (zAB aC.o)).trans aC.o);have HY:=zh hy;clear hy al aU ax ba aC U cj;unfold zCf;generalize ce:e2.data.length=m3 at *;generalize cf:e2.nodes.length=m4 at *;have ak:=zh (zAD wE (.cells #[.int .i64 e2.term,.int .i64 e2.kind,.slice aP m3 aE,.slice aQ m4 aF] 50));have ao:=zh (zAI wE (.cells #[.int .i64 e2.term,.int .i64 e2.kind,.slice aP m3 aE,.slice aQ m4 aF] 50));have ap:=zh ((ak.o.block bY (zAB aD.o)).trans aD.o);have bM:=zh (bL.o.next ak.o);have bg:=zh ((ak.o.block pb (zAB bf.o)).trans bf.o);have aa:=zh (zCx (bb.o.below ak.o) (HY.o.below ak.o));rw[aW.o,zFF]at aa;unfold zCf at aa;dsimp only at aa;clear ce cf bb HY aD;have s0:=zAU ap.o;have V:=zAY ap.o;have s2:=zAX ap.o;have I:=zAf ap.o;have t0:=zAU ao.o;have t1:=zAY ao.o;have t2:=zAX ao.o;have t3:=zAf ao.o;rw[aW.o]at s0 V;go_wp2_with fail;refine aa.o.mono ?_;rintro e wG ⟨rfl,aL⟩;have HE:=zW (zCw w pb d r Z (.returned (.bool true)) wG) (by
   rw[T.o];exact⟨rfl,j,x,(aL.block pb (zAB bg.o)).trans bg.o,(fun e=>by cases e),fun _=>(bM.o.next aL).less fun k hk=>.inl hk⟩)
  clear aL s0 V s2 I t0 t1 t2 t3 aa;go_wp2_with fail;go_ret;exact HE.o
 have q1:(kd==1)=false:=by simpa using k1
 have q2:(kd==2)=false:=by simpa using k2
 have q3:(kd==3)=false:=by simpa using k3
 have q4:(kd==4)=false:=by simpa using k4
 have q5:(kd==5)=false:=by simpa using k5
 have q6:(kd==6)=false:=by simpa using k6
 have q7:(kd==7)=false:=by simpa using k7
 have T:=zW (Z=(D,M,false)) (by
  rw[←ar.o];unfold zEo;dsimp only;rw[if_neg k1,if_neg k2,if_neg k3,if_neg k4,if_neg k5,if_neg k6,if_neg k7])
 clear k1 k2 k3 k4 k5 k6 k7 s0 V s2 I s4 s5;obtain⟨e1,k1,bj,bm,bh⟩:∃(e:Ent) (k:Int),(∀N:zAJ,JEq M N→(N.entries[(m-(N.number:Int)-1).toNat]?=some e∧(N.number:Int)<m)∨(e=EZero∧¬((N.number:Int)<m∧m≤(N.last:Int))))∧k=(if(M.number:Int)<m∧m≤(M.last:Int)then 0 else 7) ∧
   Calls prog 34 #[.pointer (some ⟨j,0,none⟩),.int .i64 m] W1 fun r w'=>∃v:EV,r=.returned (.tuple #[zCf e v,.int .i64 k])∧zBH w' e v∧Below W1.heap.size W1 w':=by
  obtain⟨F,az,aj,hJ,-⟩:=Q.o;exact jat_any hJ m an.o
 have aT:=zh bh;have aV:=zh bj;have aX:=zh bm;clear bh bj bm;go_wp2_with fail;refine aT.o.mono ?_;rintro e wC ⟨⟨u1,u2⟩,rfl,hu,aK⟩;have bK:=zh (Q.o.next aK);have aA:=zh ((aK.block pb (zAB B.o)).trans B.o);obtain⟨ag,ad,aG⟩:=hu.data.slice;obtain⟨ah,ae,aH⟩:=hu.nodes.slice;have aG:u1=.slice ag e1.data.length ad:=aG;have aH:u2=.slice ah e1.nodes.length ae:=aH;subst aG;subst aH;have HU:=zh hu;clear hu aK aT p0 p1 p2 U;unfold zCf;generalize aq:e1.data.length=m1 at *;generalize aw:e1.nodes.length=m2 at *;have ay:=zh (zAD wC (.cells #[.int .i64 e1.term,.int .i64 e1.kind,.slice ag m1 ad,.slice ah m2 ae] 50));have aC:=zh (zAI wC (.cells #[.int .i64 e1.term,.int .i64 e1.kind,.slice ag m1 ad,.slice ah m2 ae] 50));have ax:=zh (bK.o.next ay.o);have aB:=zh ((ay.o.block pb (zAB aA.o)).trans aA.o);have ba:=zh (HU.o.below ay.o);clear aq aw HU;obtain⟨e2,k2,aM,bn,bi⟩:∃(e:Ent) (k:Int),((M.entries[(m-(M.number:Int)-1).toNat]?=some e∧(M.number:Int)<m∧m≤(M.last:Int))∨(e=EZero∧¬((M.number:Int)<m∧m≤(M.last:Int))))∧k=(if(M.number:Int)<m∧m≤(M.last:Int)then 0 else 7) ∧
   Calls prog 96 #[.pointer (some ⟨x,0,none⟩),.int .i64 m] (wC.alloc (.cells #[.int .i64 e1.term,.int .i64 e1.kind,.slice ag m1 ad,.slice ah m2 ae] 50)) fun r w'=>∃v:EV,r=.returned (.tuple #[zCf e v,.int .i64 k])∧zBH w' e v∧Below (wC.alloc (.cells #[.int .i64 e1.term,.int .i64 e1.kind,.slice ag m1 ad,.slice ah m2 ae] 50)).heap.size (wC.alloc (.cells #[.int .i64 e1.term,.int .i64 e1.kind,.slice ag m1 ad,.slice ah m2 ae] 50)) w':=by
  obtain⟨F,az,aj,-,hR,-⟩:=ax.o;exact rnat_any hR.new m an.o
 have aU:=zh bi;have aW:=zW (e1=e2) (by
  have h7:M.last=M.number+M.entries.length:=rfl;rcases aV.o M (JEq.refl M)with⟨h1,h2⟩|⟨h1,h2⟩
  ·rcases aM with⟨H,h4⟩|⟨H,h4⟩
   ·rw[h1]at H;exact Option.some.inj H
   ·exfalso;have h5:=(List.getElem?_eq_some_iff.1 h1).1;exact h4 ⟨h2,by omega⟩
  ·rcases aM with⟨H,h4⟩|⟨H,h4⟩
   ·exact absurd h4 h2
   ·rw[h1,H])
 have bW:k1=k2:=by rw[aX.o,bn]
 subst bW;clear bi aM bn aV aX;have U:=zAf aA.o;have cj:=zAf aB.o;go_wp2_with fail;generalize dF:wC.heap.size=bY at *;generalize wC.alloc (.cells #[.int .i64 e1.term,.int .i64 e1.kind,.slice ag m1 ad,.slice ah m2 ae] 50)=wD at *;refine aU.o.mono ?_;rintro e wE ⟨⟨y1,y2⟩,rfl,hy,al⟩;have bL:=zh (ax.o.next al);have bf:=zh ((al.block pb (zAB aB.o)).trans aB.o);obtain⟨aP,aE,aI⟩:=hy.data.slice;obtain⟨aQ,aF,aJ⟩:=hy.nodes.slice;have aI:y1=.slice aP e2.data.length aE:=aI;have aJ:y2=.slice aQ e2.nodes.length aF:=aJ;subst aI;subst aJ;have bb:=zh (ba.o.below al);have aD:=zh ((al.block bY (zAB aC.o)).trans aC.o);have HY:=zh hy;clear hy al aU ax ba aC U cj;unfold zCf;generalize ce:e2.data.length=m3 at *;generalize cf:e2.nodes.length=m4 at *;have ak:=zh (zAD wE (.cells #[.int .i64 e2.term,.int .i64 e2.kind,.slice aP m3 aE,.slice aQ m4 aF] 50));have ao:=zh (zAI wE (.cells #[.int .i64 e2.term,.int .i64 e2.kind,.slice aP m3 aE,.slice aQ m4 aF] 50));have ap:=zh ((ak.o.block bY (zAB aD.o)).trans aD.o);have bM:=zh (bL.o.next ak.o);have bg:=zh ((ak.o.block pb (zAB bf.o)).trans bf.o);have aa:=zh (zCx (bb.o.below ak.o) (HY.o.below ak.o));rw[aW.o,zFF]at aa;unfold zCf at aa;dsimp only at aa;clear ce cf bb HY aD;have s0:=zAU ap.o;have V:=zAY ap.o;have s2:=zAX ap.o;have I:=zAf ap.o;have t0:=zAU ao.o;have t1:=zAY ao.o;have t2:=zAX ao.o;have t3:=zAf ao.o;rw[aW.o]at s0 V;go_wp2_with fail;refine aa.o.mono ?_;rintro e wG ⟨rfl,aL⟩;have HE:=zW (zCw w pb d r Z (.returned (.bool true)) wG) (by
  rw[T.o];exact⟨rfl,j,x,(aL.block pb (zAB bg.o)).trans bg.o,(fun e=>by cases e),fun _=>(bM.o.next aL).less fun k hk=>.inl hk⟩)
 clear aL s0 V s2 I t0 t1 t2 t3 aa;go_wp2_with fail;go_ret;exact HE.o
def SnN (q:Bs):Prop:=q=zBt [97]∨q=zAF (zBt [97])
theorem snN_log:¬SnN (zAu [97]):=by unfold SnN;decide
theorem snN_logs:¬SnN (zAF (zAu [97])):=by unfold SnN;decide
structure Inv5 (R i:Nat)(D:zAA)(M:zAJ):Prop where
 small:zAz SnN 100000 R D
 ents:M.entries.length≤90000+1200*i
section
variable {R i k:Nat} {D:zAA} {M:zAJ}
theorem zE7 (h:zAz SnN 100000 R D)(M:zAJ):zAz SnN 100000 R (zAT D [97] M).1 :=
 h.save1 (fun e=>absurd e snN_log) fun e=>absurd e snN_logs
theorem small_lays (h:zAz SnN 100000 R D)(M M':zAJ)(rows:List Bs):zAz SnN 100000 R (zB7 [97] D M rows M').disk:=by
 unfold zB7
 split
 ·exact h.layOn snN_log _
 ·exact h.layOn snN_log _
theorem snp_len {s:zDP}(hn:s.number≤1099511627776)(b:zAZ s.group=true)(j:s.data.length≤6000):(zAM (zEd s.number s.term s.group s.data)).length≤100000:=by
 have c:=zEP b;have d:=zFL s.group (by omega);have f:=zBJ s.term;have g:=zAh (n:=s.number) (by omega);have i:=zAh (n:=s.data.length) (by omega);rw[zAl];unfold zEd zE3;simp only[List.length_append];omega
theorem small_goes (h:zAz SnN 100000 R D)(M:zAJ){s:zDP}(hn:s.number≤1099511627776)(d:zAZ s.group=true)(c:s.data.length≤6000):zAz SnN 100000 R (zA8 [97] D M s).disk:=by
 have b:zAz SnN 100000 R (D.save (zBt [97]) (zEd s.number s.term s.group s.data)).1:=h.save (fun _=>.inr rfl) fun _=>snp_len hn d c;unfold zA8
 split
 ·exact b
 ·split
  ·exact zE7 b _
  ·exact zE7 b _
theorem goes_ents (D:zAA)(M:zAJ)(s:zDP):(zA8 [97] D M s).jou.entries.length≤M.entries.length:=by
 unfold zA8
 split
 ·exact Nat.le_refl _
 ·split
  ·exact zCR M s
  ·exact zCR M s
theorem lays_ents (D:zAA)(M M':zAJ)(rows:List Bs)(h:M'.entries.length≤M.entries.length+k):(zB7 [97] D M rows M').jou.entries.length≤M.entries.length+k:=by
 unfold zB7
 split
 ·exact Nat.le_add_right _ _
 ·exact h
theorem inv_append (h:Inv5 R i D M){l:List Ent}(c:l.length≤1200):Inv5 R (i+1) (zAn [97] D M l).disk (zAn [97] D M l).jou:=by
 have b:=h.ents;unfold zAn
 split
 ·exact⟨h.small,by dsimp only;omega⟩
 ·split
  ·exact⟨h.small,by dsimp only;omega⟩
  ·split
   ·exact⟨h.small,by dsimp only;omega⟩
   ·refine⟨small_lays h.small _ _ _,?_⟩;have:=lays_ents (k:=1200) D M {M with entries:=M.entries++l} (zA7 M.last l) (by simp;omega);omega
theorem inv_term (h:Inv5 R i D M)(t v:Int):Inv5 R (i+1) (zBI [97] D M t v).disk (zBI [97] D M t v).jou:=by
 have b:=h.ents;unfold zBI
 split
 ·exact⟨h.small,by dsimp only;omega⟩
 ·split
  ·exact⟨h.small,by dsimp only;omega⟩
  ·split
   ·exact⟨h.small,by dsimp only;omega⟩
   ·refine⟨small_lays h.small _ _ _,?_⟩;have:=lays_ents (k:=0) D M {M with now:=t,vote:=v} [zCU t v] (Nat.le_refl _);omega
theorem inv_cut (h:Inv5 R i D M)(a:Int):Inv5 R (i+1) (zBp [97] D M a).disk (zBp [97] D M a).jou:=by
 have b:=h.ents;unfold zBp
 split
 ·exact⟨h.small,by dsimp only;omega⟩
 ·split
  ·exact⟨h.small,by dsimp only;omega⟩
  ·split
   ·exact⟨h.small,by dsimp only;omega⟩
   ·refine⟨small_lays h.small _ _ _,?_⟩;have:=lays_ents (k:=0) D M {M with entries:=M.entries.take (a.toNat-M.number-1) } [cutB a.toNat] (by simp only[List.length_take];omega);omega
theorem inv_goes (h:Inv5 R i D M){s:zDP}(hn:s.number≤1099511627776)(c:zAZ s.group=true)(b:s.data.length≤6000):Inv5 R (i+1) (zA8 [97] D M s).disk (zA8 [97] D M s).jou :=
 ⟨small_goes h.small M hn c b,by have:=h.ents;have:=goes_ents D M s;omega⟩
theorem inv_compact (h:Inv5 R i D M)(c:M.OK)(a:Int){b:Bs}(d:b.length≤6000):Inv5 R (i+1) (zAe [97] D M a b).disk (zAe [97] D M a b).jou:=by
 have f:=h.ents;have g:=c.last;unfold zAe
 split
 ·exact⟨h.small,by dsimp only;omega⟩
 ·split
  ·exact⟨h.small,by dsimp only;omega⟩
  ·next e=>exact inv_goes h (by dsimp only;omega) (zFM c _) d
theorem inv_install (h:Inv5 R i D M)(a t:Int){g:List Int}{b:Bs}(d:b.length≤6000):Inv5 R (i+1) (zAg [97] D M a t g b).disk (zAg [97] D M a t g b).jou:=by
 have j:=h.ents;unfold zAg
 split
 ·exact⟨h.small,by dsimp only;omega⟩
 ·split
  ·exact⟨h.small,by dsimp only;omega⟩
  ·next e =>
   have c:¬(1099511627776<a)∧zAZ g=true:=⟨fun q=>e (.inr (.inl q)),by
    cases f:zAZ g with
    | true=>rfl
    | false=>exact absurd (.inr (.inr (.inr (.inl f)))) e⟩
   exact inv_goes h (by dsimp only;omega) c.2 d
theorem readLog_few {D:zAA}{pre:Bs}{M:zAJ}(d:zAz (fun _=>True) 1048576 R D)(b:M.entries=[]):(zBP D pre M).2.2.2.entries.length≤90000:=by
 unfold zBP
 split
 ·rw[b];exact Nat.zero_le _
 ·rename_i f hf
  have g:=d.get hf trivial;have i:=scanJ_twelve _ f.data (Nat.le_refl _)
  split
  ·rw[b];exact Nat.zero_le _
  ·rename_i M1 hM1
   have c:=recAll_len hM1;rw[b]at c;simp only[List.length_nil]at c;dsimp only;omega
theorem joins_few {s:Option zDP}{M M':zAJ}{a b:Bool}(h:zAo s M a=some (b,M')):M'.entries.length≤M.entries.length:=by
 unfold zAo at h
 split at h
 ·split at h
  ·cases h
  ·cases h;exact Nat.le_refl _
 ·split at h
  ·cases h;exact zCR _ _
  ·split at h
   ·cases h
   ·cases h;exact Nat.le_refl _
theorem open_inv (h:zAz SnN 100000 R D)(d:zAz (fun _=>True) 1048576 R D)(k:M.entries.length≤90000+1200*i):zAz SnN 100000 R (zAV D [97] zEL).1∧(zAV D [97] zEL).2.2.entries.length≤90000:=by
 unfold zAV
 split
 ·exact⟨h,Nat.zero_le _⟩
 ·have b:=h.rid [zAF (zAu [97]),zAF (zBt [97])];have f:=d.rid [zAF (zAu [97]),zAF (zBt [97])];dsimp only
  split
  ·exact⟨b,Nat.zero_le _⟩
  ·split
   ·exact⟨b,Nat.zero_le _⟩
   ·have c:zAz SnN 100000 R (zBP (D.rid [zAF (zAu [97]),zAF (zBt [97])]).1 [97] (zAJ.none0 zEL)).1:=by
     unfold zBP
     split
     ·exact b
     ·split
      ·exact b
      ·exact b.tornOff _ _ _
    have g:=readLog_few (pre:=[97]) f (M:=zAJ.none0 zEL) rfl
    split
    ·exact⟨c,Nat.zero_le _⟩
    ·split
     ·exact⟨c,Nat.zero_le _⟩
     ·rename_i anew M' hj
      have j:=joins_few hj
      split
      ·exact⟨zE7 c _,by dsimp only;omega⟩
      ·exact⟨c,by dsimp only;omega⟩
theorem small_all (h:D.OK)(d:D.room=R)(g:R≤1048576):zAz (fun _=>True) 1048576 R D:=⟨d,fun q c _=>by
 have b:zAA.size q.2≤D.used:=le_sum h.srt (zCk h.srt c);have f:=h.used;unfold zAA.size at b;omega⟩
theorem inv_does (h:Inv5 R i D M)(g:M.OK)(f:D.OK)(j:R≤1048576){s:zDn}(k:s.light):Inv5 R (i+1) (zEo s D M).1 (zEo s D M).2.1:=by
 obtain⟨c,m,l,n⟩:=k;have d:=h.ents;unfold zEo
 split
 ·exact inv_append h l
 ·split
  ·exact inv_term h _ _
  ·split
   ·exact inv_cut h _
   ·split
    ·exact inv_compact h g _ c
    ·split
     ·exact inv_install h _ _ c
     ·split
      ·have b:=open_inv (i:=i) (M:=M) (h.small.crash s.a) ((small_all f h.small.1 j).crash s.a) d
       split
       ·exact⟨b.1,by have:=b.2;dsimp only;omega⟩
       ·exact⟨b.1,by dsimp only;omega⟩
      ·split
       ·exact⟨h.small.setFuse _,by dsimp only;omega⟩
       ·exact⟨h.small,by dsimp only;omega⟩
theorem Inv5.more (h:Inv5 R i D M):Inv5 R (i+1) D M:=⟨h.small,by have:=h.ents;omega⟩
theorem inv_start {room:Nat}:Inv5 room 0 (zDS room [97] zEL) (zAJ.none0 zEL) :=
 ⟨⟨rfl,fun q b hn=>by
  have e:q=(zAu [97],_):=List.mem_singleton.1 b;rw[e]at hn;exact absurd hn snN_log⟩,Nat.zero_le _⟩
theorem snp_few (h:zAz SnN 100000 R D)(a:Int):∀O:OpensJ (D.crash a) (nm sA) zEL,(zDq (Sat.get (zBt (nm sA)) O.D2.files)).length≤524288:=fun O=>by
 have c:=(h.crash a).rid1 (zAF (zAu (nm sA)));rw[O.h1]at c;have b:=c.rid1 (zAF (zBt (nm sA)));rw[O.h2]at b;dsimp only at b;cases d:Sat.get (zBt (nm sA)) O.D2.files with
 | none =>
  rw[zFO];exact Nat.zero_le _
 | some f =>
  rw[zD4];have g:=b.get d (.inl rfl);have i:=oneB_short (zCj (some f));have j:(zCj (some f)).length=f.data.length:=rfl;omega
end
end Go.Proofs.YtapfnehdgailmaaGreat
