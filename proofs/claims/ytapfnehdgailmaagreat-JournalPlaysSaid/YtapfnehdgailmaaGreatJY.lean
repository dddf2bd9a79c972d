/- What the program's functions and the document's do, and plain laws, for PJournalPlays. -/
import Derived.Test.YtapfnehdgailmaaGreatJB
import Derived.Test.YtapfnehdgailmaaGreatJI
import Derived.Test.YtapfnehdgailmaaGreatJJ
import Derived.Test.YtapfnehdgailmaaGreatJK
import Derived.Test.YtapfnehdgailmaaGreatJQ
import Derived.Test.YtapfnehdgailmaaGreatJV
import Derived.Test.YtapfnehdgailmaaGreatJX
open Go.Proofs.Tryz
set_option maxRecDepth 100000
set_option maxHeartbeats 64000000
namespace Go.Proofs.YtapfnehdgailmaaGreat
open Go.RowKit Go.Sat Go.Maps
section
variable {S:Nat→Prop} {w w1 w2:World} {j r:Nat} {pre:ByteArray} {M:zAJ}
theorem rds_k4 (h:zBc S w1 j r pre M){p:Option Addr}{n c:Nat}{l:Bs}(hx:zAb w1 (.slice p n c) (4::l))(I:n≤c)(hl:n≤1073741824)(an:∀k,(Value.slice p n c).ownBlock=some k→k<w1.heap.size) :
  Calls prog 89 #[.pointer (some ⟨j,0,none⟩),.slice p n c,.bool false] w1 (zDO S w1 j r pre (zBs false M (4::l))):=by
 obtain⟨i4,am,ar,au,av⟩:=info_parts (show(prog.info? 50).map (fun i=>(i.zero,i.size,i.bytes))=some (some (.agg #[.int .i64 0,.int .i64 0,.slice none 0 0,.slice none 0 0]),4,64) by kernel_rfl);have az:=zh (zFj (w:=w1) hx I an (by omega));have HF:=zh (zE4 az.o);have HJ:=zh h;have ae:=zh (zAD w1 (.cells #[.slice p n c,.bool false] 148));have HM:=zW (zBs false M (4::l)=(if(Rd.num ⟨l,false⟩).2.whole∧M.number<(Rd.num ⟨l,false⟩).1∧(Rd.num ⟨l,false⟩).1≤M.last+1 then some {M with entries:=M.entries.take ((Rd.num ⟨l,false⟩).1-M.number-1) }else none)) rfl;have bd:=Rd.num_le ⟨l,false⟩;generalize zBs false M (4::l)=O at *;have aR:=h.ok.last;have aH:=zW (M.last=M.number+M.entries.length) rfl;clear h hx hl I an
 go_enter func89,ntmps89
 go_wp2_with fail;generalize bb:w1.alloc (.cells #[.slice p n c,.bool false] 148)=Wq at *;refine HF.o.mono ?_;rintro e w3 ⟨g,q,rfl,hg,al,ad,aj⟩;have P:=zW (Below w1.heap.size w1 w3) (ae.o.trans (aj.below ae.o.size fun i hi e=>by omega));have aY:=zh (HJ.o.below P.o);have aA:=zh ad;have aX:=zh al;have bc:=ad.c1;have aP:w3.cell? ⟨g,0,none⟩=some (.int .u8 4):=hg;clear ad aj hg al;go_wp2_with fail;have ay:=zh (zBD aA.o);refine ay.o.mono ?_;rintro e N ⟨rfl,ap,ak⟩;have Q:=zW (Below w1.heap.size w1 N) (P.o.trans (ak.below P.o.size fun i hi e=>by omega));have aB:=zh ap;clear ap ak;have HW:=zh (fun q=>zCb (aB.o.below (⟨rfl,rfl,rfl,Nat.le_refl _,fun _ _=>rfl⟩:Below N.heap.size N (N.drewN q))));have ax:=zh (HJ.o.below Q.o).last_calls;generalize (Rd.num ⟨l,false⟩).2=R5 at *;generalize (Rd.num ⟨l,false⟩).1=z at *;have aJ:=zh (fun q (ho:O=none)=>zE0 (S:=S) (w1:=w1) (j:=j) (r:=r) (pre:=pre) ((zBa Q.o).trans (zBa (zAa N q)) fun _ _ h=>h) ho);go_wp2_with fail;refine ax.o.mono ?_;rintro e w5 ⟨rfl,q,rfl⟩;have aC:=zh (HW.o q);have R:=zh (Q.o.trans (⟨rfl,rfl,rfl,Nat.le_refl _,fun _ _=>rfl⟩:Below w1.heap.size N (N.drewN q)));have aw:=zh (HJ.o.below R.o);have Z:=zh (aJ.o q);generalize N.drewN q=t at *;obtain⟨O1,C1,gv,dv,ev,vs,d,a⟩:=aw.o;have s0:=d.c 0 rfl;have bi:IntKind.i64.wrap ((M.last:Int)+1)=(M.last:Int)+1:=IntWalk.i64_in _ (by omega);go_wp2_with fail;refine aC.o.mono ?_;rintro e w7 ⟨rfl,aq⟩;obtain rfl:=aq.symm;cases hw:R5.whole with
 | false =>
  have V:=zh (Z.o (by rw[HM.o,hw];simp));clear hw d;go_wp2_with fail;go_ret;exact V.o
 | true =>
  have X:=zW (O=if M.number<z∧z≤M.last+1 then some {M with entries:=M.entries.take (z-M.number-1) }else none) (by rw[HM.o,hw];simp);clear hw
  by_cases G:z≤M.number
  ·have d1:decide ((z:Int)≤(M.number:Int))=true:=decide_eq_true (by omega);have aL:decide (z≤M.number)=true:=decide_eq_true G;have V:=zh (Z.o (by rw[X.o,if_neg (by omega)]));clear d G;go_wp2_with fail;go_ret;exact V.o
  have d1:decide ((z:Int)≤(M.number:Int))=false:=decide_eq_false (by omega);have aL:decide (z≤M.number)=false:=decide_eq_false G
  by_cases h2:M.last+1<z
  ·have d2:decide ((M.last:Int)+1<(z:Int))=true:=decide_eq_true (by omega);have aM:decide (M.last+1<z)=true:=decide_eq_true h2;have V:=zh (Z.o (by rw[X.o,if_neg (by omega)]));clear d G h2;go_wp2_with fail;go_ret;exact V.o
  have d2:decide ((M.last:Int)+1<(z:Int))=false:=decide_eq_false (by omega);have aM:decide (M.last+1<z)=false:=decide_eq_false h2;have af:=zW (O=some {M with entries:=M.entries.take (z-M.number-1) }) (by rw[X.o,if_pos (by omega)]);have aS:=aH.o;have s8:=d.c 8 rfl;have aO:=d.fr 8;obtain⟨p8,D,m⟩:=d.row.shape;have aW:M.entries.length≤D:=by
   rcases d.row.2 with⟨h8,h0⟩|⟨g,aZ,cur,h8,-,aT,-⟩
   ·omega
   ·rw[m]at h8;cases h8;exact aT
  have t8:t.cell? ⟨j,8,none⟩=some (.slice p8 M.entries.length D):=by rw[←m];exact s8
  clear s8;have HX:=zh (And.intro d (And.intro a m));obtain⟨k,hk⟩:∃k,k=z-M.number-1:=⟨_,rfl⟩;have aQ:k≤M.entries.length:=by omega
  have ah:=zh (zEs (M.entries.take k) (vs.take k) fun v hv=>d.one v (List.mem_of_mem_take hv));have C:=d.row;rw[m]at C;have E:=zW (zAK t 4 (.slice p8 k D) k (zA3 (M.entries.take k) (vs.take k))) (by
   rw[zFH k _ _ d.rlen];exact zAK.upto (OwnR.holds C) aQ D)
  have aU:z=M.number+1+k:=by omega
  rw[←hk]at af;have Ht:=zh (show(M.entries.take k).length=k by rw[List.length_take];omega);have be:=zh d.ok;clear d a m C hk G h2;generalize ao:M.entries.length=n8 at *;generalize ai:M.number=b at *;have aE:=zh ai;have aI:=zh ao;have bg:IntKind.i64.wrap ((z:Int)-(b:Int))=(k:Int)+1:=by rw[IntWalk.i64_in _ (by omega)];omega
  have bh:IntKind.i64.wrap (k:Int)=(k:Int):=IntWalk.i64_in _ (by omega);have aP:k≤D:=by omega
  have aV:k≤1099511627776:=by omega
  clear aU ai ao aS;go_wp2_with fail;have aa:=zW (∀W,Below t.drew.heap.size t.drew W→zAK W 4 (.slice p8 k D) k (zA3 (M.entries.take k) (vs.take k))) fun W ab=>zAK.chg E.o (Chg.of_below ((⟨rfl,rfl,rfl,Nat.le_refl _,fun _ _=>rfl⟩:Below t.heap.size t t.drew).trans ab)) fun _ _=>id;have aF:=zW (∀W,Below t.drew.heap.size t.drew W→W.frozen? ⟨j,8,none⟩=false) fun W ab=>zAE ((ab.block j (zAB HX.o.1.cells)).trans HX.o.1.cells) 8;have U:=zh (⟨rfl,rfl,rfl,Nat.le_refl _,fun _ _=>rfl⟩:Below t.heap.size t t.drew);clear aO;refine zDV [18] (fun w':World=>w'.cell? ⟨j,8,none⟩=some (.slice p8 n8 D)∧w'.cell? ⟨j,0,none⟩=some (.int .i64 (b:Int))) (n:=19) (by kernel_rfl) rfl (⟨t8,s0⟩) fun f=>?_;generalize t.drew=W1 at *;refine Gl [0,2,3,4,5,6,7,8,9,10,11,12,13] ?_
  iterate 13 (refine Gc rfl ?_;simp only[uZ])
  refine Gn ?_;refine zEw 14 (v:=.slice p8 k D) rfl (by kernel_rfl) (by kernel_rfl) (by kernel_rfl) (by kernel_rfl) (fun _ _ _ h=>h) (by rfl) (by assumption) (fun W ba=>by have bf:=zB3 W underlying78 am p8 n8 D k (by omega);go_simp;try with_reducible rfl) ?_;simp only[uZ];refine zEM 1 rfl (by kernel_rfl) (by rfl) (fun K H=>?_);have T:=zh (zAD W1 (.cells #[] 50));have aG:=zh (And.intro (zAH f.1 T.o) (zAH f.2 T.o));have A:=zh f;go_wp2_with fail;refine H.o _ _ (aG.o) fun f=>?_;clear H
  try simp only[uZ]
  refine zEM 15 rfl (by kernel_rfl) (by rfl) (fun K H=>?_);have aD:=zh (zBK W1 50 4);have aK:=zh (aa.o _ T.o);refine zAm (.tmp 203) (.tmp 216) 78 rfl 50 i4 (.agg #[.int .i64 0,.int .i64 0,.slice none 0 0,.slice none 0 0]) 4 64 underlying78 am ar au av rfl (by decide) (.slice (some ⟨W1.heap.size,0,none⟩) 0 0) 0 [] rfl aD.o (.slice p8 k D) k _ rfl aK.o ah.o (by unfold maxLen;omega) (by omega) ?_;intro v7 w7 L B J;have Y:=zh (copy_newE L B J);have ag:=zh (And.intro (zAH A.o.1 Y.o.2.2) (zAH A.o.2 Y.o.2.2));clear L B J;obtain⟨p6,c6,rfl⟩:=OwnR.shape Y.o.1;go_wp2_with fail;refine H.o _ _ (ag.o) fun f=>?_;clear H
  try simp only[uZ]
  refine Gl [16,17] ?_
  iterate 2 (refine Gp rfl ?_;simp only[uZ])
  refine Gn ?_;refine g_end 18 rfl (by kernel_rfl) (by rfl) (by kernel_rfl) (fun K H=>?_);have bj:=ag.o.1;have f8:=aF.o _ Y.o.2.2;go_wp2_with fail;refine H.o _ _ ?_;clear H
  try simp only[uZ]
  refine zEv (by kernel_rfl) ?_ _;have V:=zW (zDO S w1 j r pre O (.returned (.bool true)) (w7.setCell ⟨j,8,none⟩ (.slice p6 k c6))) (by
   obtain⟨d,a,m⟩:=HX.o;have F:Below t.heap.size t w7:=U.o.trans (Y.o.2.2.mono U.o.size);have ac:∀y,(Value.slice p6 k c6).ownBlock=some y→t.heap.size≤y:=fun y s=>Nat.le_trans U.o.size (Y.o.2.1 y s);have aN:=R.o.size;refine rds_yes (((zBa R.o).trans (zBa F) fun _ _ h=>h).trans (Chg.setCell w7 ⟨j,8,none⟩ _) fun x _ e=>by rw[show x=j from e];exact a j (.inl d.oj)) ⟨_,C1,gv,dv,_,vs.take k,d.list (es':=M.entries.take k) (vs':=vs.take k) (C':=C1) ((Chg.of_below F).mono fun _ _ h=>h.elim) (by rw[Ht.o];exact Y.o.1) (fun y s=>.inr (ac y s)) (by rw[List.length_take,List.length_take,d.rlen]) (fun i e v he hv=>?_) (fun u hu y s=>d.cv u (List.mem_of_mem_take hu) y s) (fun _ h=>h) (fun y s=>⟨.inl s,Nat.lt_of_lt_of_le (d.clt y s) F.size,fun e=>by have G:=ac y e;have h2:=d.clt y s;omega⟩) ⟨?_,d.ok.term,d.ok.group,d.ok.now,d.ok.vote,d.ok.data,fun e he=>d.ok.ents e (List.mem_of_mem_take he)⟩,fun y s=>?_⟩ (by rw[aE.o];exact af.o)
   ·rw[List.getElem?_take]at he hv
    split at he
    ·rw[if_pos (by assumption)]at hv;exact(d.rows i e v he hv).below F
    ·cases he
   ·have G:=d.ok.last;unfold zAJ.last at G ⊢
    show M.number+(M.entries.take k).length≤_
    rw[Ht.o];have h2:=aI.o;omega
   ·rcases s with(s|s)|s
    ·exact .inl (a y (.inl s))
    ·exact .inr (Nat.le_trans aN (ac y s))
    ·exact .inl (a y (.inr s)))
  go_wp2_with fail;go_ret;exact V.o
theorem rds_k3 (h:zBc S w1 j r pre M){p:Option Addr}{n c:Nat}{l:Bs}(hx:zAb w1 (.slice p n c) (3::l))(ak:n≤c)(hl:n≤1073741824)(ax:∀k,(Value.slice p n c).ownBlock=some k→k<w1.heap.size)(bT:M.entries.length≤1073741824) :
  Calls prog 89 #[.pointer (some ⟨j,0,none⟩),.slice p n c,.bool false] w1 (zDO S w1 j r pre (zBs false M (3::l))):=by
 obtain⟨i4,bu,aW,aX,aY⟩:=info_parts (show(prog.info? 50).map (fun i=>(i.zero,i.size,i.bytes))=some (some (.agg #[.int .i64 0,.int .i64 0,.slice none 0 0,.slice none 0 0]),4,64) by kernel_rfl);have bw:l.length≤1073741824:=by
  obtain⟨_,_,e⟩:=hx.slice;simp only[Value.slice.injEq,List.length_cons]at e;omega
 have bg:=zh (zFj (w:=w1) hx ak ax (by omega));have HF:=zh (zE4 bg.o);have HJ:=zh h;have aB:=zh (zAD w1 (.cells #[.slice p n c,.bool false] 148));have HM:=zh (show zBs false M (3::l)=(if((Rd.num ⟨l,false⟩).2.num.2.num.2.bytes.2.grp anyG).2.whole∧(Rd.num ⟨l,false⟩).1=M.last+1∧(Rd.num ⟨l,false⟩).1≤1099511627776∧zA1 ⟨((Rd.num ⟨l,false⟩).2.num.1:Int),((Rd.num ⟨l,false⟩).2.num.2.num.1:Int),(Rd.num ⟨l,false⟩).2.num.2.num.2.bytes.1,((Rd.num ⟨l,false⟩).2.num.2.num.2.bytes.2.grp anyG).1⟩then
    some {M with entries:=M.entries++[⟨((Rd.num ⟨l,false⟩).2.num.1:Int),((Rd.num ⟨l,false⟩).2.num.2.num.1:Int),(Rd.num ⟨l,false⟩).2.num.2.num.2.bytes.1,((Rd.num ⟨l,false⟩).2.num.2.num.2.bytes.2.grp anyG).1⟩] }else none)from rfl)
 have bS:=Rd.num_le ⟨l,false⟩;have bA:(Rd.num ⟨l,false⟩).2.rest.length≤1073741824:=Nat.le_trans (Rd.num_rest _) bw;generalize zBs false M (3::l)=O at *;have bv:=h.ok.last;have bK:=zW (M.last=M.number+M.entries.length) rfl;have HA:=zh ax;clear h hx hl ak ax
 go_enter func89,ntmps89
 go_wp2_with fail;generalize bM:w1.alloc (.cells #[.slice p n c,.bool false] 148)=Wq at *;refine HF.o.mono ?_;rintro e w3 ⟨g,q,rfl,hg,aQ,ay,aN⟩;have al:=zW (Below w1.heap.size w1 w3) (aB.o.trans (aN.below aB.o.size fun i hi e=>by omega));have bG:=zh (HJ.o.below al.o);have bh:=zh ay;have bF:=zh aQ;have bN:=ay.c1;have bR:w3.cell? ⟨g,0,none⟩=some (.int .u8 3):=hg;clear ay aN hg aQ;go_wp2_with fail;have bf:=zh (zBD bh.o);refine bf.o.mono ?_;rintro e w4 ⟨rfl,aT,aO⟩;have ae:=zW (Below w1.heap.size w1 w4) (al.o.trans (aO.below al.o.size fun i hi e=>by omega));have bi:=zh aT;clear aT aO;have bU:=ae.o.size;have bk:=zh (rrdent_calls bi.o (fun k hk=>⟨by have:=HA.o k hk;omega,fun e=>by have:=HA.o k hk;omega⟩) bA);have bb:=zh (fun e R' (hR:REntR (Rd.num ⟨l,false⟩).2 e R')=>rent_whole hR);generalize (Rd.num ⟨l,false⟩).1=z at *;generalize (Rd.num ⟨l,false⟩).2=R1 at *;go_wp2_with fail;refine bk.o.mono ?_;rintro x w5 ⟨e,⟨v1,v2⟩,R',rfl,aL,P,aK,aU,aP⟩;have am:=zW (Below w1.heap.size w1 w5) (ae.o.trans (aP.below ae.o.size fun i hi e=>by omega));have hE:=bb.o e R' aL;have bI:=zh hE;have aE:=zW (O=if R'.whole=true∧z=M.last+1∧z≤1099511627776 then some {M with entries:=M.entries++[e] }else none) (by
  rw[HM.o]
  by_cases L:R'.whole=true
  ·have v:=hE.1.1 L;have h2:=hE.2 L
   by_cases hc:z=M.last+1∧z≤1099511627776
   ·rw[if_pos ⟨v.1,hc.1,hc.2,v.2⟩,if_pos ⟨L,hc⟩,←h2]
   ·rw[if_neg (fun e=>hc ⟨e.2.1,e.2.2.1⟩),if_neg (fun e=>hc e.2)]
  ·rw[if_neg (fun e=>L (hE.1.2 ⟨e.1,e.2.2.2⟩)),if_neg (fun e=>L e.1)])
 have bc:=zW (R'.whole=true→zA1 e=true) (fun L=>by rw[hE.2 L];exact(hE.1.1 L).2);obtain⟨X,U,e1⟩:=P.data.slice;obtain⟨Y,V,e2⟩:=P.nodes.slice;have e1:v1=.slice X e.data.length U:=e1;have e2:v2=.slice Y e.nodes.length V:=e2;subst e1;subst e2;have bJ:=zh (And.intro P.dl P.nl);generalize aR:e.data.length=n1 at *;generalize aS:e.nodes.length=n2 at *;have bC:=zh (And.intro aR aS);have ap:=zh (zAD w5 (.cells #[.int .i64 e.term,.int .i64 e.kind,.slice X n1 U,.slice Y n2 V] 50));have bp:=zh (zAI w5 (.cells #[.int .i64 e.term,.int .i64 e.kind,.slice X n1 U,.slice Y n2 V] 50));have bj:=zh (aU.below ap.o);have aZ:=zh (P.below ap.o);have ba:=zh aK;have aA:=zh (am.o.trans (ap.o.mono am.o.size));have aD:=zh (HJ.o.below aA.o);have bd:=zh aD.o.last_calls;have aF:=zW (w5.heap.size<(w5.alloc (.cells #[.int .i64 e.term,.int .i64 e.kind,.slice X n1 U,.slice Y n2 V] 50)).heap.size) (by simp);have bV:=am.o.size;clear aL P aK aU aP hE aR aS;unfold zCf;go_wp2_with fail;generalize bP:w5.heap.size=C at *;generalize w5.alloc (.cells #[.int .i64 e.term,.int .i64 e.kind,.slice X n1 U,.slice Y n2 V] 50)=N at *;refine bd.o.mono ?_;rintro x w7 ⟨rfl,q,rfl⟩;have af:=zh (aA.o.trans (⟨rfl,rfl,rfl,Nat.le_refl _,fun _ _=>rfl⟩:Below w1.heap.size N (N.drewN q)));have bH:=zh (aD.o.below (⟨rfl,rfl,rfl,Nat.le_refl _,fun _ _=>rfl⟩:Below N.heap.size N (N.drewN q)));have bl:=zh (zCb (bj.o.below (⟨rfl,rfl,rfl,Nat.le_refl _,fun _ _=>rfl⟩:Below N.heap.size N (N.drewN q))));have aC:=zh (aZ.o.below (⟨rfl,rfl,rfl,Nat.le_refl _,fun _ _=>rfl⟩:Below N.heap.size N (N.drewN q)));have I:=zW ((N.drewN q).heap[C]?=_) bp.o;have ai:=zW (C<(N.drewN q).heap.size) aF.o;have ao:=zh (fun(ho:O=none)=>zE0 (S:=S) (w1:=w1) (j:=j) (r:=r) (pre:=pre) (zBa af.o) ho);have bY:IntKind.i64.wrap ((M.last:Int)+1)=(M.last:Int)+1:=IntWalk.i64_in _ (by omega);generalize N.drewN q=A at *;go_wp2_with fail;refine bl.o.mono ?_;rintro x w9 ⟨rfl,aV⟩;obtain rfl:=aV.symm;cases L:R'.whole with
 | false =>
  have HE:=zh (ao.o (by rw[aE.o,L];simp));clear L;go_wp2_with fail;go_ret;exact HE.o
 | true =>
  have bn:=zh (bc.o L);have an:=zW (O=if z=M.last+1∧z≤1099511627776 then some {M with entries:=M.entries++[e] }else none) (by rw[aE.o,L];simp);clear L
  by_cases v:z=M.last+1
  ·have d1:((z:Int) != (M.last:Int)+1)=false:=by simp;omega
   by_cases h2:z≤1099511627776
   ·have d2:decide ((1099511627776:Int)<(z:Int))=false:=decide_eq_false (by omega);have br:decide (1099511627776<z)=false:=decide_eq_false (by omega);have be:=zW (O=some {M with entries:=M.entries++[e] }) (by rw[an.o,if_pos ⟨v,h2⟩]);have Hz:=zW (M.last+1≤1099511627776) (by omega);obtain⟨O1,C1,gv,dv,ev,vs,aa,F⟩:=HJ.o;have d:=aa.below af.o;obtain⟨pe,ce,s⟩:=d.row.shape;have t8:A.cell? ⟨j,8,none⟩=some (.slice pe M.entries.length ce):=by rw[←s];exact d.c 8 rfl
    have k0:=zAU I.o;have k1:=zAY I.o;have k2:=zAX I.o;have k3:=zAf I.o;have aM:∀x,O1 x∨C1 x→x≠C:=fun x hx=>by have:=hx.elim (aa.olt x) (aa.clt x);omega
    have aq:=zh (fun W (hb:Below A.heap.size A W)=>show OwnR W 50 4 (.slice pe M.entries.length ce) M.entries.length (zA3 M.entries vs) by rw[←s];exact d.row.keep fun y b=>hb.block y (OwnR.lt d.row b));have aJ:=zW (j<A.heap.size∧(Value.slice pe M.entries.length ce).ownBlock≠some j) (⟨d.olt j d.oj,fun e=>(d.oe j (by rw[s];exact e)).2 rfl⟩);have aG:=zW (C<A.heap.size∧(Value.slice pe M.entries.length ce).ownBlock≠some C) (⟨ai.o,fun e=>aM C (.inl (d.oe C (by rw[s];exact e)).1) rfl⟩);have aH:=zh (fun(W:World) (hj:W.heap[j]?=A.heap[j]?)=>zAE (hj.trans d.cells) 8);have HX:=zh (And.intro aa (And.intro F s));have B:=zh (⟨rfl,rfl,rfl,Nat.le_refl _,fun _ _=>rfl⟩:Below A.heap.size A A.drew);clear d aa F s aM v h2;generalize ah:M.entries.length=ne at *;have bo:=zh ah;clear ah;go_wp2_with fail;refine zDV [10] (fun w':World=>w'.cell? ⟨j,8,none⟩=some (.slice pe ne ce)∧w'.cell? ⟨C,0,none⟩=some (.int .i64 e.term)∧w'.cell? ⟨C,1,none⟩=some (.int .i64 e.kind)∧w'.cell? ⟨C,2,none⟩=some (.slice X n1 U)∧w'.cell? ⟨C,3,none⟩=some (.slice Y n2 V)) (n:=11) (by kernel_rfl) rfl (⟨t8,k0,k1,k2,k3⟩) fun f=>?_;generalize A.drew=W1 at *;refine Gl [0,1,2,3,4,5] ?_
    iterate 6 (refine Gc rfl ?_;simp only[uZ])
    refine Gn ?_;refine zEM 6 rfl (by kernel_rfl) (by rfl) (fun K hK=>?_);have H:=zAD W1 (.cells #[.int .i64 e.term,.int .i64 e.kind,.slice X n1 U,.slice Y n2 V] 50);have aI:=zh (And.intro (zAH f.1 H) (And.intro (zAH f.2.1 H) (And.intro (zAH f.2.2.1 H) (And.intro (zAH f.2.2.2.1 H) (zAH f.2.2.2.2 H)))));have Z:=zh H;clear H;go_wp2_with fail;refine hK.o _ _ (aI.o) fun f=>?_;clear hK
    try simp only[uZ]
    refine zEM 7 rfl (by kernel_rfl) (by rfl) (fun K hK=>?_);have bm:=zh (aq.o _ (B.o.trans (Z.o.mono B.o.size)));have bq:=zh (zEx W1 #[.int .i64 e.term,.int .i64 e.kind,.slice X n1 U,.slice Y n2 V] _ 4 1 1 rfl rfl 50 (0,0));refine zAm (.tmp 169) (.tmp 171) 78 rfl 50 i4 (.agg #[.int .i64 0,.int .i64 0,.slice none 0 0,.slice none 0 0]) 4 64 underlying78 bu aW aX aY rfl (by decide) (.slice pe ne ce) ne _ rfl bm.o (.slice (some ⟨W1.heap.size,0,none⟩) 1 1) 1 _ rfl bq.o (fun u hu=>by simp at hu;rcases hu with rfl|rfl|rfl|rfl<;>rfl) (by unfold maxLen;omega) (by omega) ?_;intro bZ R G m E;have HN:=zh (And.intro G (And.intro m E));have av:=fun(x:Nat) (hx:x<A.heap.size) (ah:(Value.slice pe ne ce).ownBlock≠some x)=>show R.heap[x]?=A.heap[x]? from((Chg.of_grown m).block x (Nat.lt_of_lt_of_le hx (Nat.le_trans B.o.size Z.o.size)) (fun e=>ah e.symm)).trans ((B.o.trans (Z.o.mono B.o.size)).block x hx)
    have aw:=av j aJ.o.1 aJ.o.2;have ab:=av C aG.o.1 aG.o.2;obtain⟨az,ar,rfl⟩:=OwnR.shape G;have aj:=zh (And.intro ((World.cell?_of_block (a:=⟨j,8,none⟩) aw).trans t8) (And.intro ((World.cell?_of_block (a:=⟨C,0,none⟩) ab).trans k0) (And.intro ((World.cell?_of_block (a:=⟨C,1,none⟩) ab).trans k1) (And.intro ((World.cell?_of_block (a:=⟨C,2,none⟩) ab).trans k2) ((World.cell?_of_block (a:=⟨C,3,none⟩) ab).trans k3)))));have f8:=aH.o R aw;clear G m E aw ab av;go_wp2_with fail;refine hK.o _ _ (aj.o) fun f=>?_;clear hK
    try simp only[uZ]
    refine Gl [8,9] ?_
    iterate 2 (refine Gp rfl ?_;simp only[uZ])
    refine Gn ?_;refine g_end 10 rfl (by kernel_rfl) (by rfl) (by kernel_rfl) (fun K hK=>?_);have s8:=aj.o.1;go_wp2_with fail;refine hK.o _ _ ?_;clear hK
    try simp only[uZ]
    refine zEv (by kernel_rfl) ?_ _;have HE:=zW (zDO S w1 j r pre O (.returned (.bool true)) (R.setCell ⟨j,8,none⟩ (.slice az (ne+1) ar))) (by
     obtain⟨d,F,s⟩:=HX.o;obtain⟨G,m,E⟩:=HN.o;rw[←s]at m E;have bs:Below A.heap.size A (W1.alloc (.cells #[.int .i64 e.term,.int .i64 e.kind,.slice X n1 U,.slice Y n2 V] 50)):=B.o.trans (Z.o.mono B.o.size);have bX:=Z.o.size;have bB:=B.o.size;have bW:A.heap.size≤W1.heap.size:=bB;have au:Chg (fun y=>ev.ownBlock=some y) A R:=((Chg.of_below bs).mono fun _ _ h=>h.elim).trans ((Chg.of_grown m).mono fun _ _ h=>h.symm) fun _ _ h=>h;have hC:Chg (fun y=>ev.ownBlock=some y) w1 R:=((Chg.of_below af.o).mono fun _ _ h=>h.elim).trans au fun _ _ h=>h;have bL:=af.o.size;have J:∀y,(Value.slice az (ne+1) ar).ownBlock=some y→(ev.ownBlock=some y∨A.heap.size≤y):=fun y b=>by
      rcases E with e3|⟨g3,e3,bQ⟩
      ·exact .inl (e3▸b)
      ·rw[e3]at b;cases b;exact .inr (by omega)
     have D:M.entries.length=ne:=bo.o;have ad:vs.length=M.entries.length:=d.rlen;have ag:∀y,((Value.slice X n1 U).ownBlock=some y∨(Value.slice Y n2 V).ownBlock=some y)→w4.heap.size≤y∧y<C:=ba.o;have bO:=ae.o.size;have bD:=ai.o;have ac:∀y,ev.ownBlock=some y→y<w1.heap.size:=fun y b=>OwnR.lt d.row b;refine rds_yes ((hC.mono (T:=fun y=>ev.ownBlock=some y∨y=j) fun _ _ q=>.inl q).trans (Chg.setCell R ⟨j,8,none⟩ (.slice az (ne+1) ar)) (fun x _ q=>.inr q) |>.mono (T:=S) fun x hx hq=>?_) ⟨_,_,gv,dv,_,_,d.list (es':=M.entries++[e]) (vs':=vs++[(.slice X n1 U,.slice Y n2 V)]) (C':=fun y=>C1 y∨((Value.slice X n1 U).ownBlock=some y∨(Value.slice Y n2 V).ownBlock=some y)) hC ?_ (fun y b=>(J y b).imp id fun h=>by omega) (by rw[List.length_append,List.length_append,ad];rfl) (fun i e' v' t Q=>?_) (fun u hu y b=>?_) (fun _ h=>.inl h) (fun y b=>?_) ⟨?_,d.ok.term,d.ok.group,d.ok.now,d.ok.vote,d.ok.data,fun e' t=>?_⟩,fun y b=>?_⟩ be.o
     ·rcases hq with hq|hq
      ·exact F x (.inl (d.oe x hq).1)
      ·rw[hq];exact F j (.inl d.oj)
     ·rw[zEr _ _ _ _ ad,List.length_append,D];exact G
     ·by_cases hi:i<ne
      ·rw[List.getElem?_append_left (by rw[D];exact hi)]at t;rw[List.getElem?_append_left (by rw[ad,D];exact hi)]at Q;exact(d.rows i e' v' t Q).keep fun y b=>hC.block y (d.clt y (d.cv v' (List.mem_of_getElem? Q) y b)) fun e3=>d.dis y (d.cv v' (List.mem_of_getElem? Q) y b) (d.oe y e3).1
      ·have bt:=(List.getElem?_eq_some_iff.1 t).1;rw[List.length_append,D,List.length_singleton]at bt;obtain rfl:i=ne:=by omega
       rw[List.getElem?_append_right (by rw[D];exact Nat.le_refl _),D,Nat.sub_self]at t;rw[List.getElem?_append_right (by rw[ad,D];exact Nat.le_refl _),ad,D,Nat.sub_self]at Q;cases t;cases Q;exact aC.o.keep fun y b=>au.block y (by have:=ag y b;omega) fun e3=>by
        have v:=ac y e3;have h2:=ag y b;omega
     ·rcases List.mem_append.1 hu with hu|hu
      ·exact .inl (d.cv u hu y b)
      ·rw[List.mem_singleton.1 hu]at b;exact .inr b
     ·rcases b with b|b
      ·refine⟨.inl b,Nat.lt_of_lt_of_le (d.clt y b) hC.size,fun e3=>?_⟩;rcases J y e3 with v|v
       ·exact d.dis y b (d.oe y v).1
       ·have:=d.clt y b;omega
      ·have h2:=ag y b;refine⟨.inr (by omega),Nat.lt_of_lt_of_le (show y<A.heap.size by omega) au.size,fun e3=>?_⟩;rcases J y e3 with v|v
       ·have:=ac y v;omega
       ·omega
     ·have v:=Hz.o;unfold zAJ.last at v ⊢
      show M.number+(M.entries++[e]).length≤_
      rw[List.length_append,List.length_singleton];omega
     ·rcases List.mem_append.1 t with t|t
      ·exact d.ok.ents e' t
      ·rw[List.mem_singleton.1 t];exact bn.o
     ·rcases b with(b|b)|(b|b)
      ·exact .inl (F y (.inl b))
      ·rcases J y b with v|v
       ·exact .inl (F y (.inl (d.oe y v).1))
       ·exact .inr (by omega)
      ·exact .inl (F y (.inr b))
      ·exact .inr (by have:=ag y b;omega))
    go_wp2_with fail;go_ret;exact HE.o
   ·have d2:decide ((1099511627776:Int)<(z:Int))=true:=decide_eq_true (by omega);have br:decide (1099511627776<z)=true:=decide_eq_true (by omega);have HE:=zh (ao.o (by rw[an.o,if_neg (fun e=>h2 e.2)]));clear v h2;go_wp2_with fail;go_ret;exact HE.o
  ·have d1:((z:Int) != (M.last:Int)+1)=true:=by simp;omega
   have HE:=zh (ao.o (by rw[an.o,if_neg (fun e=>v e.1)]));clear v;go_wp2_with fail;go_ret;exact HE.o
end
theorem rreads_calls {S:Nat→Prop}{w1:World}{j r:Nat}{pre:ByteArray}{M:zAJ}(h:zBc S w1 j r pre M)(f:Bool)(a:f=true→M.entries=[]){p:Option Addr}{n c:Nat}{b:Bs}(i:zAb w1 (.slice p n c) b)(d:n≤c)(q:n≤1073741824)(g:∀k,(Value.slice p n c).ownBlock=some k→k<w1.heap.size)(z:∀k,(Value.slice p n c).ownBlock=some k→k≠j)(y:M.entries.length≤1073741824) :
  Calls prog 89 #[.pointer (some ⟨j,0,none⟩),.slice p n c,.bool f] w1 (zDO S w1 j r pre (zBs f M b)):=by
 have hn:n=b.length:=by
  obtain⟨_,_,e⟩:=i.slice;simp only[Value.slice.injEq]at e;exact e.2.1
 cases b with
 | nil =>
  subst hn;exact rds_nil h f i g
 | cons k l =>
  by_cases m:f≠decide (k=1)
  ·exact rds_else h i d q g (.inl m)
  ·have m:f=decide (k=1):=by simpa using m
   by_cases o:k=1
   ·subst o;rw[m];exact rds_k1 h i d q g (a (by rw[m];rfl)) z
   ·rw[decide_eq_false o]at m;subst m
    by_cases s:k=2
    ·subst s;exact rds_k2 h i d q g
    ·by_cases t:k=3
     ·subst t;exact rds_k3 h i d q g y
     ·by_cases v:k=4
      ·subst v;exact rds_k4 h i d q g
      ·exact rds_else h i d q g (.inr ⟨o,s,t,v⟩)
def zAJ.rowsTo (M:zAJ)(k:Nat):List Bs:=zFJ M.number M.term M.group::zCU M.now M.vote::zA7 M.number (M.entries.take k)
theorem rowsTo_all {M:zAJ}{k:Nat}(h:M.entries.length≤k):M.rowsTo k=M.rows:=by
 unfold zAJ.rowsTo zAJ.rows;rw[List.take_of_length_le h]
theorem rowsTo_succ {M:zAJ}{k:Nat}(h:k<M.entries.length):zAS (M.rowsTo (k+1))=zAS (M.rowsTo k)++zAM (zEp (M.number+k+1) M.entries[k]):=by
 unfold zAJ.rowsTo;rw[zFG (n:=M.number) h,zCs,zCs,zCs,zCs,zD8,zCA];simp
theorem rowsTo_len {M:zAJ}(h:M.OK)(k:Nat):(zAS (M.rowsTo k)).length≤65812*(k+2):=by
 have d:=(rows_rows h).1;have f:=zDl (c:=65800) (M.rowsTo k) fun l b=>by
  rcases List.mem_cons.1 b with rfl|b
  ·exact d _ (by simp[zAJ.rows])
  ·rcases List.mem_cons.1 b with rfl|b
   ·exact d _ (by simp[zAJ.rows])
   ·have:=h.last;unfold zAJ.last at this;exact zDK M.number (M.entries.take k) (fun e i=>h.ents e (List.mem_of_mem_take i)) (by rw[List.length_take];omega) l b
 have g:(M.rowsTo k).length≤k+2:=by
  show(zA7 M.number (M.entries.take k)).length+1+1≤k+2
  rw[zCX,List.length_take];omega
 exact Nat.le_trans f (Nat.mul_le_mul_left _ g)
section
variable {w:World} {j r:Nat} {pre:ByteArray} {D:zAA} {M:zAJ} {Hot Cold:Nat→Prop}
theorem rjanew_calls (h:RJF w j r pre D M Hot Cold)(bF:M.entries.length≤1000000) :
  Calls prog 93 #[.pointer (some ⟨j,0,none⟩)] w fun e w'=>e=.returned (.int .i64 ((zAT D (nm pre) M).2:Int))∧zAq w j r pre Hot Cold w' (zAT D (nm pre) M).1 M∧w'.heap[j]?=w.heap[j]?:=by
 obtain⟨i0,hi,aL,aM,aN⟩:=info_parts (show(prog.info? 5).map (fun i=>(i.zero,i.size,i.bytes))=some (some (.int .u8 0),1,1) by kernel_rfl);have bu:(zCN pre).size=pre.size+4:=zFT pre;have bG:=h.psz;have HF:=zh h;have q:=h.okM;have bf:=zh q;have H:=q.last;have aF:=zCZ q.group;have bv:=zAs.1 q.term;have bt:=zAs.1 q.now;have bw:=q.vote;have ay:=zh (fun k=>rowsTo_len q k);obtain⟨O,own,gv,dv,ev,vs,v,L,hJ,hR,hO,bo,hH⟩:=h;obtain⟨p,c,bp⟩:=hJ.group.slice;obtain⟨pe,ce,ai⟩:=hJ.row.shape;generalize hm:M.group.length=m at *;generalize hn:M.entries.length=n at *;subst bp;have hc:w.heap[j]?=some (RJC r (M.number:Int) M.term (.slice p m c) pre M.now M.vote dv ev M.dead):=hJ.cells;rw[ai]at hc;have hg:zBY w (.slice p m c) M.group:=hJ.group;have av:=zh (fun k (J:k<M.entries.length)=>hJ.ent (List.getElem?_eq_getElem J));have aU:=zh ai;have Hn:=zh hn;unfold zAJ.last at H;rw[hn]at H;have bd:=zW ((zAM (zFJ M.number M.term M.group)).length≤100000) (by
  have h1:=zF2 M.group (by rw[hm];omega);have h2:=zAh (n:=M.number) (by omega);have h3:=zBJ M.term;have h4:(zFJ M.number M.term M.group).length≤9100:=by unfold zFJ;simp only[List.length_cons,List.length_append];omega
  have h5:=zAl (zFJ M.number M.term M.group);omega)
 have be:=zW ((zAM (zCU M.now M.vote)).length≤100000) (by
  have h4:=zEf M.now M.vote;have h5:=zAl (zCU M.now M.vote);omega)
 have aW:=zh (fun W (hb:Below w.heap.size w W) (hW:W.heap[j]?=some (RJC r (M.number:Int) M.term (.slice p m c) pre M.now M.vote dv (.slice pe n ce) M.dead))=>by
  have:=rfirst_calls (w:=W) hW (zAK.chg hg (Chg.of_below hb) fun _ _=>id) (fun z hz=>by have:=aF.2 z hz;omega) (by rw[hm];omega) (by omega) (by omega);rw[fstB0_nat (by omega)]at this;exact this)
 have bi:=zh (fun W=>rterms_calls W M.now M.vote (by omega) (by omega));have aw:=zh (zAB hc);have Hc:=zh hc;generalize hZ:zAT D (nm pre) M=Z at *;have HZ:=zh hZ;clear hZ hJ hR hO bo hH hg ai aF bv bw hm hn bt q
 go_enter func93,ntmps93
 go_wp2_with fail;refine ost (fun w':World=>w'.heap[j]?=some (RJC r (M.number:Int) M.term (.slice p m c) pre M.now M.vote dv (.slice pe n ce) M.dead)) 13 (hc) fun d=>?_;have Q:=zh (zAP w);clear hc;generalize w.drew=W1 at *;refine Pl [0,2,3,4,5,6,7,8,9] ?_
 iterate 9 (refine Pd rfl (by intro w F;have q5:=zDv F;have q6:=zAG F (i:=6) rfl;go_simp;try with_reducible rfl) ?_;simp only[uZ])
 refine Pn ?_;refine oon 1 rfl fun K l=>?_;have aV:=zh (aW.o W1 Q.o d);go_wp2_with fail;refine aV.o.mono ?_;rintro e w2 ⟨u1,rfl,al,aI,ag⟩;have aZ:=zh ((ag.block _ (zAB d)).trans d);have aO:=zW (zCe w w2 u1 (zAM (zFJ M.number M.term M.group))) (⟨al,fun k J=>Nat.le_trans Q.o.size (aI k J),Q.o.trans (ag.mono Q.o.size)⟩);obtain⟨p1,c1,rfl,-⟩:=zAL al;clear al aI ag;generalize aB:(zAM (zFJ M.number M.term M.group)).length=t at *;have ao:=zh aB;clear aB;go_wp2_with fail;refine l.o _ _ (aZ.o) fun d=>?_;clear l
 try simp only[uZ]
 refine oon 10 rfl fun K l=>?_;have bh:=zh (bi.o w2);go_wp2_with fail;refine bh.o.mono ?_;rintro e w3 ⟨u2,rfl,am,bs,ah⟩;have ba:=zh ((ah.block _ (zAB d)).trans d);have ar:=zh (aO.o.next ah);have aS:=zh (zAi.has am);obtain⟨p2,c2,rfl,-⟩:=zAL am;clear am bs ah;generalize aC:(zAM (zCU M.now M.vote)).length=m2 at *;have ap:=zh aC;clear aC;go_wp2_with fail;refine l.o _ _ (ba.o) fun d=>?_;clear l
 try simp only[uZ]
 have B:=bd.o;have ak:=be.o;have az:=zh (show OwnR w3 5 1 (.slice p1 t c1) t (zAR (zAM (zFJ M.number M.term M.group))) by have:=ar.o.own;unfold zAi at this;rwa[ao.o]at this);have bk:=zh (show zAK w3 1 (.slice p2 m2 c2) m2 (zAR (zAM (zCU M.now M.vote))) by have:=aS.o;unfold zAb at this;rwa[ap.o]at this);refine oon 11 rfl fun K l=>?_;refine zAm (.tmp 6) (.tmp 15) 22 rfl 5 i0 (.int .u8 0) 1 1 underlying22 hi aL aM aN rfl (by decide) (.slice p1 t c1) t _ rfl az.o (.slice p2 m2 c2) m2 _ rfl bk.o (zAN _) (by unfold maxLen;omega) (by omega) ?_;intro v4 w4 a A I;have au:=zh (zCe.grown (x:=zAM (zCU M.now M.vote)) ar.o (by rw[ao.o,ap.o];exact a) A I);have bb:=zh ((au.o.bel.block j aw.o).trans Hc.o);obtain⟨p4,c4,rfl⟩:=OwnR.shape a;clear a A I;refine l.o _ _ (bb.o) fun d=>?_;clear l
 try simp only[uZ]
 refine otk 12 (v:=?v1x12) rfl ?_;simp only[uZ];refine odn ?_;have aQ:=zW (zCe w w4 (.slice p4 (t+m2) c4) (zAS (M.rowsTo 0))) (by
  have e1:zAS (M.rowsTo 0)=zAM (zFJ M.number M.term M.group)++zAM (zCU M.now M.vote):=by
   unfold zAJ.rowsTo;rw[List.take_zero]
   show zAS [_,_]=_
   rw[zCs,zCA]
  rw[e1];exact au.o)
 go_wp2_with fail
 go_loopw [3,4] (fun b i wr=>∃(k:Nat) (y:Value),k≤n∧i=.int .i64 k∧y=b∧zCe w wr y (zAS (M.rowsTo k))) (fun _ i _=>n-(intOf i).toNat)
 case atStart=>exact⟨0,_,Nat.zero_le _,rfl,rfl,aQ.o⟩
 case round =>
  obtain⟨k,y,J,rfl,rfl,C⟩:=hrel;have S:=(C.bel.block j aw.o).trans Hc.o;have bl:=zAG S (i:=8) rfl;have bE:=ay.o k;obtain⟨py,cy,rfl,-⟩:=zAL C.own
  by_cases br:k<n
  ·have U:k<M.entries.length:=by rw[Hn.o];exact br
   obtain⟨g,cg,v,V,-,T,k0,k1,k2,k3⟩:=av.o k U;rw[aU.o,Hn.o]at V;cases V;have bg:=zh (rowsTo_succ U);have aG:=bf.o.ents _ (List.getElem_mem U);generalize M.entries[k]=e at *;obtain⟨v1,v2⟩:=v;obtain⟨p1,c1,e1⟩:=T.data.slice;obtain⟨p2,c2,e2⟩:=T.nodes.slice;have bm:v1=.slice p1 e.data.length c1:=e1;have bn:v2=.slice p2 e.nodes.length c2:=e2;subst bm;subst bn;have HX:=zW (EntIn w j g n ce M.number k e (.slice p1 e.data.length c1,.slice p2 e.nodes.length c2)) (⟨zAG Hc.o (i:=8) rfl,zAU Hc.o,k0,k1,k2,k3⟩);have aT:=zh T;have ac:=zh aG;have ae:=zh C;generalize B:(zAS (M.rowsTo k)).length=t at *;have ad:=zh B;generalize aD:M.number=b0 at *;have bC:=zh aD;obtain⟨x0,bA⟩:∃x0,x0=b0+k:=⟨_,rfl⟩;obtain⟨N,aK⟩:∃N,N=b0+k+1:=⟨_,rfl⟩;have bH:IntKind.i64.wrap ((b0:Int)+(k:Int))=(x0:Int):=by rw[IntWalk.i64_in _ (by omega)];omega
   have bI:IntKind.i64.wrap ((x0:Int)+1)=(N:Int):=by rw[IntWalk.i64_in _ (by omega)];omega
   have Y:N≤4611686018427387904:=by omega
   have aR:=zh aK;clear U T e1 e2 aG B aD bA aK k0 k1 k2 k3 S;go_wp2_with fail;have R:=zW (Below w.heap.size w wr.drew) (ae.o.bel.trans ((zAP wr).mono ae.o.bel.size));refine ost (fun w':World=>w'.cell? ⟨j,8,none⟩=some (.slice (some ⟨g,0,none⟩) n ce)∧w'.cell? ⟨j,0,none⟩=some (.int .i64 (b0:Int))∧w'.cell? ⟨g,k*4,none⟩=some (.int .i64 e.term)∧w'.cell? ⟨g,k*4+1,none⟩=some (.int .i64 e.kind)∧w'.cell? ⟨g,k*4+2,none⟩=some (.slice p1 e.data.length c1)∧w'.cell? ⟨g,k*4+3,none⟩=some (.slice p2 e.nodes.length c2)) 19 ((zC7 HX.o R.o).all) fun d=>?_;have aP:=zW (zCe w wr.drew (.slice py t cy) (zAS (M.rowsTo k))) (ae.o.next (zAP wr));generalize wr.drew=W5 at *;refine Pl [0,1,2,3,4,5,6,7,8,9,10,11,12,13,14,15] ?_
   iterate 16 (refine Pc rfl ?_;simp only[uZ])
   refine Pn ?_;refine oon 16 rfl fun K l=>?_;have ab:=zh (rentry_calls (n:=N) (aT.o.below R.o) ac.o Y);unfold zCf at ab;dsimp only at ab;go_wp2_with fail;refine ab.o.mono ?_;rintro r6 w6 ⟨z,rfl,hz,bB,aE⟩;have aa:=zW (zCe w w6 (.slice py t cy) (zAS (M.rowsTo k))) ((aP.o).next aE);have HZ:=zh (zAi.has hz);have aX:=zh (zC7 HX.o aa.o.bel).all;have bJ:(zAM (zEp N e)).length≤65812:=by
    rw[zAl];have h1:=zBF ac.o;have h2:=zFx (n:=N) Y ac.o;omega
   obtain⟨pz,cz,rfl,-⟩:=zAL hz;clear hz bB aE;generalize ak:(zAM (zEp N e)).length=m3 at *;have ax:=zh ak;clear ak;go_wp2_with fail;refine l.o _ _ (aX.o) fun d=>?_;clear l
   try simp only[uZ]
   refine oon 17 rfl fun K l=>?_;have af:=zW (OwnR w6 5 1 (.slice py t cy) t (zAR (zAS (M.rowsTo k)))) (by have:=aa.o.own;unfold zAi at this;rwa[ad.o]at this);have aA:=zW (zAK w6 1 (.slice pz m3 cz) m3 (zAR (zAM (zEp N e)))) (by have:=HZ.o;unfold zAb at this;rwa[ax.o]at this);refine zAm (.tmp 26) (.tmp 42) 22 rfl 5 i0 (.int .u8 0) 1 1 underlying22 hi aL aM aN rfl (by decide) (.slice py t cy) t _ rfl af.o (.slice pz m3 cz) m3 _ rfl aA.o (zAN _) (by unfold maxLen;omega) (by omega) ?_;intro v7 w7 s G X;have an:=zh (zCe.grown (x:=zAM (zEp N e)) aa.o (by rw[ad.o,ax.o];exact s) G X);have aY:=zh (zC7 HX.o an.o.bel).all;obtain⟨p7,c7,rfl⟩:=OwnR.shape s;clear s G X;refine l.o _ _ (aY.o) fun d=>?_;clear l
   try simp only[uZ]
   refine otk 18 (v:=?v3x18) rfl ?_;simp only[uZ];refine odn ?_;go_wp2_with fail;go_roundw
   case rel=>exact⟨k+1,_,by omega,by go_num,rfl,by rw[bg.o,←aR.o];exact an.o⟩
   case measure=>simp[intOf];omega
  ·have bq:n=k:=by omega
   subst bq;have bD:decide ((n:Int)<(n:Int))=false:=by simp
   generalize B:(zAS (M.rowsTo n)).length=t at *;have ad:=zh B;rw[rowsTo_all (Nat.le_of_eq Hn.o)]at C;have E:=zh C;have aH:=S;clear C B S;go_wp2_with fail;clear bl;refine ost (fun w':World=>w'.heap[j]?=some (RJC r (M.number:Int) M.term (.slice p m c) pre M.now M.vote dv (.slice pe n ce) M.dead)) 12 (aH) fun d=>?_;have R:=zW (Below w.heap.size w wr.drew) (E.o.bel.trans ((zAP wr).mono E.o.bel.size));have HX:=zW (zAb wr.drew (.slice py t cy) (zAS M.rows)) ((E.o.next (zAP wr)).own.has);have aq:=zW (∀k,(Value.slice py t cy).ownBlock=some k→w.heap.size≤k∧k<wr.drew.heap.size) fun k J=>⟨E.o.new k J,OwnR.lt (E.o.next (zAP wr)).own J⟩;clear aH;generalize wr.drew=W5 at *;refine Pl [0,1,2,3,4,5,6,7] ?_
   iterate 8 (refine Pd rfl (by intro w F;have q3:=zAf F;have q4:=zDD F;go_simp;try with_reducible rfl) ?_;simp only[uZ])
   refine Pn ?_;refine Pl [8,9] ?_
   iterate 2 (refine Pc rfl ?_;simp only[uZ])
   refine Pn ?_;refine oon 10 rfl fun K l=>?_;have bj:=zh (rj_disk (P:=prog) (f:=168) (args:=#[.pointer (some ⟨r,0,none⟩),.string (zCN pre),.slice py t cy]) (Re:=Z) HF.o R.o fun v L own hR s=>by
    have h1:=rwhole_calls hR (zCN pre) (by rw[bu];omega) HX.o (by have h3:=ay.o n;rw[rowsTo_all (Nat.le_of_eq Hn.o)]at h3;omega) fun k J=>⟨fun ho=>by have h1:=HF.o.hlt (s k ho);have h2:=(aq.o k J).1;omega,(aq.o k J).2⟩;rw[zBq]at h1;rw[←HZ.o];exact h1)
   go_wp2_with fail;refine bj.o.mono ?_;rintro e w6 ⟨rfl,aJ,aj⟩;have bc:=zh (aj.trans Hc.o);have HE:=zh (And.intro aJ aj);clear aJ aj;go_wp2_with fail;refine l.o _ _ (bc.o) fun d=>?_;clear l
   try simp only[uZ]
   refine otk 11 (v:=?v6x11) rfl ?_;simp only[uZ];refine odn ?_;go_wp2_with fail;go_ret;exact⟨rfl,HE.o.1,HE.o.2⟩
end
theorem run_ab {P:Program}(w:World){t e:TypeId}{i:TypeInfo}(l:P.underlying t=some (.slice e))(k:P.info? e=some i)(p:Option Addr)(d c a b:Nat)(h:a≤b)(m:b≤c) :
  (Instr.slice t (.slice p d c) (some (.int .i64 (a:Int))) (some (.int .i64 (b:Int))) none).run P w=.ok (.slice (if c-a=0 then p else p.map fun x=>x.add (a*i.size)) (b-a) (c-a)) w:=by
 have g:(Instr.sliceBound (.int .i64 (b:Int)) c .sliceAcap).run P w=.ok b w:=by
  rw[run_sliceBound _ _ _ _ _ (by omega) (by omega)];simp
 have j:(Instr.sliceBound (.int .i64 (a:Int)) b .sliceB).run P w=.ok a w:=by
  rw[run_sliceBound _ _ _ _ _ (by omega) (by omega)];simp
 simp[Instr.slice,run_underlying l,Instr.sliceBounds,g,j,sizeOf,typeInfo,k,Result.andThen]
 by_cases f:c=a
 ·rw[if_pos f,if_pos (by omega)]
 ·rw[if_neg f,if_neg (by omega)]
section
variable {w w1 w2:World} {j r:Nat} {pre:ByteArray} {D:zAA} {M:zAJ} {Hot Cold:Nat→Prop}
theorem rj_base (h:RJF w j r pre D M Hot Cold)(z:Below w.heap.size w w2){n2:Nat}{t2:Int}{g2:List Int}{d:Value}(G:zBY w2 d g2)(f:∀k,d.ownBlock=some k→w.heap.size≤k∧k<w2.heap.size)(ok:({M with number:=n2,term:=t2,group:=g2}:zAJ).OK) :
  zAq w j r pre Hot Cold (((w2.setCell ⟨j,0,none⟩ (.int .i64 (n2:Int))).setCell ⟨j,1,none⟩ (.int .i64 t2)).setCell ⟨j,2,none⟩ d) D {M with number:=n2,term:=t2,group:=g2}:=by
 have H:=h.hlt h.jhot;have l:∀k,Hot k→k<w.heap.size:=fun k b=>h.hlt b;have E:∀k,Cold k→k<w.heap.size:=fun k b=>h.clt b;obtain⟨O,own,J,dv,s,vs,v,L,c,y,t,B,n⟩:=h.below z;have hS:Chg (fun k=>k=j) w2 (((w2.setCell ⟨j,0,none⟩ (.int .i64 (n2:Int))).setCell ⟨j,1,none⟩ (.int .i64 t2)).setCell ⟨j,2,none⟩ d):=((Chg.setCell w2 ⟨j,0,none⟩ _).trans (Chg.setCell _ ⟨j,1,none⟩ _) fun _ _ e=>e).trans (Chg.setCell _ ⟨j,2,none⟩ _) fun _ _ e=>e;have C:=zAC (zAC (zAC c.cells 0 (.int .i64 (n2:Int))) 1 (.int .i64 t2)) 2 d;have p:∀k,d.ownBlock=some k→k≠j:=fun k b e=>by
  have:=(f k b).1;omega
 have g:∀k,Cold k→k≠j:=fun k b e=>c.dis k b (e▸c.oj);generalize ((w2.setCell ⟨j,0,none⟩ (.int .i64 (n2:Int))).setCell ⟨j,1,none⟩ (.int .i64 t2)).setCell ⟨j,2,none⟩ d=w3 at *;have o:zFq w3 j r pre O (fun k=>Cold k∨d.ownBlock=some k) {M with number:=n2,term:=t2,group:=g2} d dv s vs:={
  cells:=by simpa using C
  group:=zAK.chg G hS fun k b=>p k b
  data:=zAK.chg c.data hS fun k b=>g k (c.cd k b)
  row:=c.row.keep fun k b=>hS.block k (c.olt k (c.oe k b).1) (c.oe k b).2
  rlen:=c.rlen
  rows:=fun i e v F q=>(c.rows i e v F q).keep fun k b=>hS.block k (c.clt k (c.cv v (List.mem_of_getElem? q) k b)) (g k (c.cv v (List.mem_of_getElem? q) k b))
  oj:=c.oj
  oe:=c.oe
  cg:=fun k b=>.inr b
  cd:=fun k b=>.inl (c.cd k b)
  cv:=fun u I k b=>.inl (c.cv u I k b)
  dis:=fun k b m=>by
   rcases b with b|b
   ·exact c.dis k b m
   ·have a:=(f k b).1;have A:=l k ((n k).2 (.inl m));omega
  olt:=fun k b=>Nat.lt_of_lt_of_le (c.olt k b) hS.size
  clt:=fun k b=>Nat.lt_of_lt_of_le (b.elim (c.clt k) fun e=>(f k e).2) hS.size
  psz:=c.psz
  ok:=ok}
 refine⟨Hot,_,⟨O,own,d,dv,s,vs,v,L,o,y.keep hS.size (fun k b=>hS.block k (y.olt k b) fun e=>t j c.oj (e▸b)),t,fun k b m=>?_,n⟩,((Chg.of_below z).mono fun _ _ h=>h.elim).trans (hS.mono fun k _ e=>(n k).2 (.inl (e▸c.oj))) fun _ _ h=>h,fun k b=>.inl b,fun k b=>b.imp id fun e=>(f k e).1⟩;rcases b with b|b
 ·exact B k b m
 ·have a:=(f k b).1;have A:=l k ((n k).2 (.inr m));omega
theorem rj_drop (h:RJF w j r pre D M Hot Cold)(s:Below w.heap.size w w2){k:Nat}{p:Option Addr}{n c:Nat}{vs:List EV}{a A dv:Value}{O own:Nat→Prop}{F:Value}{L:List zAQ}(g:zFq w j r pre O Cold M A dv a vs)(q:zAd w r F L own D)(C:∀k,O k→¬own k)(o:∀k,Cold k→¬own k)(B:∀k,Hot k↔O k∨own k)
  (l:OwnR w2 50 4 (.slice p n c) n (zA3 (M.entries.drop k) (vs.drop k))) (hn:n=(M.entries.drop k).length) (d:∀y,(Value.slice p n c).ownBlock=some y→w.heap.size≤y) :
  zAq w j r pre Hot Cold (w2.setCell ⟨j,8,none⟩ (.slice p n c)) D {M with entries:=M.entries.drop k}:=by
 have b:=h.okM;subst hn;refine rj_list (C':=Cold) (vs':=vs.drop k) g q C o B ((Chg.of_below s).mono fun _ _ h=>h.elim) l (fun y f=>.inr (d y f)) (by rw[List.length_drop,List.length_drop,g.rlen]) (fun i e v m z=>?_) (fun u E y f=>g.cv u (List.mem_of_mem_drop E) y f) (fun _ h=>h) (fun y f=>⟨.inl f,Nat.lt_of_lt_of_le (g.clt y f) s.size,fun e=>by have t:=d y e;have G:=g.clt y f;omega⟩) ⟨?_,b.term,b.group,b.now,b.vote,b.data,fun e m=>b.ents e (List.mem_of_mem_drop m)⟩
 ·rw[List.getElem?_drop]at m z;exact(g.rows _ e v m z).below s
 ·have t:=b.last;unfold zAJ.last at t ⊢
  show M.number+(M.entries.drop k).length≤_
  rw[List.length_drop];omega
end
end Go.Proofs.YtapfnehdgailmaaGreat
