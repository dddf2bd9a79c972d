/- What the program's functions and the document's do, and plain laws, for PJournalTwice. -/
import Derived.Test.YtapfnehdgailmaaGreatKA
import Derived.Test.YtapfnehdgailmaaGreatKF
import Derived.Test.YtapfnehdgailmaaGreatKG
import Derived.Test.YtapfnehdgailmaaGreatKK
import Derived.Test.YtapfnehdgailmaaGreatKN
import Derived.Test.YtapfnehdgailmaaGreatKO
open Go.Proofs.Tryz
set_option maxRecDepth 100000
set_option maxHeartbeats 64000000
namespace Go.Proofs.YtapfnehdgailmaaGreat
open Go.RowKit Go.Sat Go.Maps
section
variable {S:Nat→Prop} {w w1 w2:World} {j r:Nat} {pre:ByteArray} {M:zAJ}
theorem rds_k4 (h:zBi S w1 j r pre M){p:Option Addr}{n c:Nat}{l:Bs}(hx:zAY w1 (.slice p n c) (4::l))(I:n≤c)(hl:n≤1073741824)(an:∀k,(Value.slice p n c).ownBlock=some k→k<w1.heap.size) :
  Calls prog 89 #[.pointer (some ⟨j,0,none⟩),.slice p n c,.bool false] w1 (zDV S w1 j r pre (zBc false M (4::l))):=by
 obtain⟨i4,am,ar,au,av⟩:=info_parts (show(prog.info? 50).map (fun i=>(i.zero,i.size,i.bytes))=some (some (.agg #[.int .i64 0,.int .i64 0,.slice none 0 0,.slice none 0 0]),4,64) by kernel_rfl);have az:=zh (zFv (w:=w1) hx I an (by omega));have HF:=zh (zFD az.o);have HJ:=zh h;have ae:=zh (zAD w1 (.cells #[.slice p n c,.bool false] 148));have HM:=zW (zBc false M (4::l)=(if(Rd.num ⟨l,false⟩).2.whole∧M.number<(Rd.num ⟨l,false⟩).1∧(Rd.num ⟨l,false⟩).1≤M.last+1 then some {M with entries:=M.entries.take ((Rd.num ⟨l,false⟩).1-M.number-1) }else none)) rfl;have bd:=Rd.num_le ⟨l,false⟩;generalize zBc false M (4::l)=O at *;have aR:=h.ok.last;have aH:=zW (M.last=M.number+M.entries.length) rfl;clear h hx hl I an
 go_enter func89,ntmps89
 go_wp2_with fail;generalize bb:w1.alloc (.cells #[.slice p n c,.bool false] 148)=Wq at *;refine HF.o.mono ?_;rintro e w3 ⟨g,q,rfl,hg,al,ad,aj⟩;have P:=zW (Below w1.heap.size w1 w3) (ae.o.trans (aj.below ae.o.size fun i hi e=>by omega));have aY:=zh (HJ.o.below P.o);have aA:=zh ad;have aX:=zh al;have bc:=ad.c1;have aP:w3.cell? ⟨g,0,none⟩=some (.int .u8 4):=hg;clear ad aj hg al;go_wp2_with fail;have ay:=zh (zBC aA.o);refine ay.o.mono ?_;rintro e N ⟨rfl,ap,ak⟩;have Q:=zW (Below w1.heap.size w1 N) (P.o.trans (ak.below P.o.size fun i hi e=>by omega));have aB:=zh ap;clear ap ak;have HW:=zh (fun q=>zCk (aB.o.below (⟨rfl,rfl,rfl,Nat.le_refl _,fun _ _=>rfl⟩:Below N.heap.size N (N.drewN q))));have ax:=zh (HJ.o.below Q.o).last_calls;generalize (Rd.num ⟨l,false⟩).2=R5 at *;generalize (Rd.num ⟨l,false⟩).1=z at *;have aJ:=zh (fun q (ho:O=none)=>zE8 (S:=S) (w1:=w1) (j:=j) (r:=r) (pre:=pre) ((zBf Q.o).trans (zBf (zAZ N q)) fun _ _ h=>h) ho);go_wp2_with fail;refine ax.o.mono ?_;rintro e w5 ⟨rfl,q,rfl⟩;have aC:=zh (HW.o q);have R:=zh (Q.o.trans (⟨rfl,rfl,rfl,Nat.le_refl _,fun _ _=>rfl⟩:Below w1.heap.size N (N.drewN q)));have aw:=zh (HJ.o.below R.o);have Z:=zh (aJ.o q);generalize N.drewN q=t at *;obtain⟨O1,C1,gv,dv,ev,vs,d,a⟩:=aw.o;have s0:=d.c 0 rfl;have bi:IntKind.i64.wrap ((M.last:Int)+1)=(M.last:Int)+1:=IntWalk.i64_in _ (by omega);go_wp2_with fail;refine aC.o.mono ?_;rintro e w7 ⟨rfl,aq⟩;obtain rfl:=aq.symm;cases hw:R5.whole with
 | false =>
  have V:=zh (Z.o (by rw[HM.o,hw];simp));clear hw d;go_wp2_with fail;go_ret;exact V.o
 | true =>
  have X:=zW (O=if M.number<z∧z≤M.last+1 then some {M with entries:=M.entries.take (z-M.number-1) }else none) (by rw[HM.o,hw];simp);clear hw
  by_cases G:z≤M.number
  ·have d1:decide ((z:Int)≤(M.number:Int))=true:=decide_eq_true (by omega);have aL:decide (z≤M.number)=true:=decide_eq_true G;have V:=zh (Z.o (by rw[X.o,if_neg (by omega)]));clear d G;go_wp2_with fail;go_ret;exact V.o
  have d1:decide ((z:Int)≤(M.number:Int))=false:=decide_eq_false (by omega);have aL:decide (z≤M.number)=false:=decide_eq_false G
  by_cases h2:M.last+1<z
  ·have d2:decide ((M.last:Int)+1<(z:Int))=true:=decide_eq_true (by omega);have aM:decide (M.last+1<z)=true:=decide_eq_true h2;have V:=zh (Z.o (by rw[X.o,if_neg (by omega)]));clear d G h2;go_wp2_with fail;go_ret;exact V.o
  have d2:decide ((M.last:Int)+1<(z:Int))=false:=decide_eq_false (by omega);have aM:decide (M.last+1<z)=false:=decide_eq_false h2;have af:=zW (O=some {M with entries:=M.entries.take (z-M.number-1) }) (by rw[X.o,if_pos (by omega)]);have aS:=aH.o;have s8:=d.c 8 rfl;have aO:=d.fr 8;obtain⟨p8,D,m⟩:=d.row.shape;have aW:M.entries.length≤D:=by
   rcases d.row.2 with⟨h8,h0⟩|⟨g,aZ,cur,h8,-,aT,-⟩
   ·omega
   ·rw[m]at h8;cases h8;exact aT
  have t8:t.cell? ⟨j,8,none⟩=some (.slice p8 M.entries.length D):=by rw[←m];exact s8
  clear s8;have HX:=zh (And.intro d (And.intro a m));obtain⟨k,hk⟩:∃k,k=z-M.number-1:=⟨_,rfl⟩;have aQ:k≤M.entries.length:=by omega
  have ah:=zh (zE0 (M.entries.take k) (vs.take k) fun v hv=>d.one v (List.mem_of_mem_take hv));have C:=d.row;rw[m]at C;have E:=zW (zAM t 4 (.slice p8 k D) k (zA3 (M.entries.take k) (vs.take k))) (by
   rw[zFO k _ _ d.rlen];exact zAM.upto (OwnR.holds C) aQ D)
  have aU:z=M.number+1+k:=by omega
  rw[←hk]at af;have Ht:=zh (show(M.entries.take k).length=k by rw[List.length_take];omega);have be:=zh d.ok;clear d a m C hk G h2;generalize ao:M.entries.length=n8 at *;generalize ai:M.number=b at *;have aE:=zh ai;have aI:=zh ao;have bg:IntKind.i64.wrap ((z:Int)-(b:Int))=(k:Int)+1:=by rw[IntWalk.i64_in _ (by omega)];omega
  have bh:IntKind.i64.wrap (k:Int)=(k:Int):=IntWalk.i64_in _ (by omega);have aP:k≤D:=by omega
  have aV:k≤1099511627776:=by omega
  clear aU ai ao aS;go_wp2_with fail;have aa:=zW (∀W,Below t.drew.heap.size t.drew W→zAM W 4 (.slice p8 k D) k (zA3 (M.entries.take k) (vs.take k))) fun W ab=>zAM.chg E.o (Chg.of_below ((⟨rfl,rfl,rfl,Nat.le_refl _,fun _ _=>rfl⟩:Below t.heap.size t t.drew).trans ab)) fun _ _=>id;have aF:=zW (∀W,Below t.drew.heap.size t.drew W→W.frozen? ⟨j,8,none⟩=false) fun W ab=>zAE ((ab.block j (zAB HX.o.1.cells)).trans HX.o.1.cells) 8;have U:=zh (⟨rfl,rfl,rfl,Nat.le_refl _,fun _ _=>rfl⟩:Below t.heap.size t t.drew);clear aO;refine zDa [18] (fun w':World=>w'.cell? ⟨j,8,none⟩=some (.slice p8 n8 D)∧w'.cell? ⟨j,0,none⟩=some (.int .i64 (b:Int))) (n:=19) (by kernel_rfl) rfl (⟨t8,s0⟩) fun f=>?_;generalize t.drew=W1 at *;refine Gl [0,2,3,4,5,6,7,8,9,10,11,12,13] ?_
  iterate 13 (refine Gc rfl ?_;simp only[uZ])
  refine Gn ?_;refine zE4 14 (v:=.slice p8 k D) rfl (by kernel_rfl) (by kernel_rfl) (by kernel_rfl) (by kernel_rfl) (fun _ _ _ h=>h) (by rfl) (by assumption) (fun W ba=>by have bf:=zB9 W underlying78 am p8 n8 D k (by omega);go_simp;try with_reducible rfl) ?_;simp only[uZ];refine zER 1 rfl (by kernel_rfl) (by rfl) (fun K H=>?_);have T:=zh (zAD W1 (.cells #[] 50));have aG:=zh (And.intro (zAH f.1 T.o) (zAH f.2 T.o));have A:=zh f;go_wp2_with fail;refine H.o _ _ (aG.o) fun f=>?_;clear H
  try simp only[uZ]
  refine zER 15 rfl (by kernel_rfl) (by rfl) (fun K H=>?_);have aD:=zh (zBO W1 50 4);have aK:=zh (aa.o _ T.o);refine zAn (.tmp 203) (.tmp 216) 78 rfl 50 i4 (.agg #[.int .i64 0,.int .i64 0,.slice none 0 0,.slice none 0 0]) 4 64 underlying78 am ar au av rfl (by decide) (.slice (some ⟨W1.heap.size,0,none⟩) 0 0) 0 [] rfl aD.o (.slice p8 k D) k _ rfl aK.o ah.o (by unfold maxLen;omega) (by omega) ?_;intro v7 w7 L B J;have Y:=zh (copy_newE L B J);have ag:=zh (And.intro (zAH A.o.1 Y.o.2.2) (zAH A.o.2 Y.o.2.2));clear L B J;obtain⟨p6,c6,rfl⟩:=OwnR.shape Y.o.1;go_wp2_with fail;refine H.o _ _ (ag.o) fun f=>?_;clear H
  try simp only[uZ]
  refine Gl [16,17] ?_
  iterate 2 (refine Gp rfl ?_;simp only[uZ])
  refine Gn ?_;refine g_end 18 rfl (by kernel_rfl) (by rfl) (by kernel_rfl) (fun K H=>?_);have bj:=ag.o.1;have f8:=aF.o _ Y.o.2.2;go_wp2_with fail;refine H.o _ _ ?_;clear H
  try simp only[uZ]
  refine zE3 (by kernel_rfl) ?_ _;have V:=zW (zDV S w1 j r pre O (.returned (.bool true)) (w7.setCell ⟨j,8,none⟩ (.slice p6 k c6))) (by
   obtain⟨d,a,m⟩:=HX.o;have F:Below t.heap.size t w7:=U.o.trans (Y.o.2.2.mono U.o.size);have ac:∀y,(Value.slice p6 k c6).ownBlock=some y→t.heap.size≤y:=fun y s=>Nat.le_trans U.o.size (Y.o.2.1 y s);have aN:=R.o.size;refine rds_yes (((zBf R.o).trans (zBf F) fun _ _ h=>h).trans (Chg.setCell w7 ⟨j,8,none⟩ _) fun x _ e=>by rw[show x=j from e];exact a j (.inl d.oj)) ⟨_,C1,gv,dv,_,vs.take k,d.list (es':=M.entries.take k) (vs':=vs.take k) (C':=C1) ((Chg.of_below F).mono fun _ _ h=>h.elim) (by rw[Ht.o];exact Y.o.1) (fun y s=>.inr (ac y s)) (by rw[List.length_take,List.length_take,d.rlen]) (fun i e v he hv=>?_) (fun u hu y s=>d.cv u (List.mem_of_mem_take hu) y s) (fun _ h=>h) (fun y s=>⟨.inl s,Nat.lt_of_lt_of_le (d.clt y s) F.size,fun e=>by have G:=ac y e;have h2:=d.clt y s;omega⟩) ⟨?_,d.ok.term,d.ok.group,d.ok.now,d.ok.vote,d.ok.data,fun e he=>d.ok.ents e (List.mem_of_mem_take he)⟩,fun y s=>?_⟩ (by rw[aE.o];exact af.o)
   ·rw[List.getElem?_take]at he hv
    split at he
    ·rw[if_pos (by assumption)]at hv;exact(d.rows i e v he hv).below F
    ·cases he
   ·have G:=d.ok.last;unfold zAJ.last at G ⊢
    show M.number+(M.entries.take k).length≤_
    rw[Ht.o];have h2:=aI.o;omega
   ·rcases s with(s|s)|s
    ·exact .inl (a y (.inl s))
    ·exact .inr (Nat.le_trans aN (ac y s))
    ·exact .inl (a y (.inr s)))
  go_wp2_with fail;go_ret;exact V.o
theorem rds_k3 (h:zBi S w1 j r pre M){p:Option Addr}{n c:Nat}{l:Bs}(hx:zAY w1 (.slice p n c) (3::l))(ak:n≤c)(hl:n≤1073741824)(ax:∀k,(Value.slice p n c).ownBlock=some k→k<w1.heap.size)(bT:M.entries.length≤1073741824) :
  Calls prog 89 #[.pointer (some ⟨j,0,none⟩),.slice p n c,.bool false] w1 (zDV S w1 j r pre (zBc false M (3::l))):=by
 obtain⟨i4,bu,aW,aX,aY⟩:=info_parts (show(prog.info? 50).map (fun i=>(i.zero,i.size,i.bytes))=some (some (.agg #[.int .i64 0,.int .i64 0,.slice none 0 0,.slice none 0 0]),4,64) by kernel_rfl);have bw:l.length≤1073741824:=by
  obtain⟨_,_,e⟩:=hx.slice;simp only[Value.slice.injEq,List.length_cons]at e;omega
 have bg:=zh (zFv (w:=w1) hx ak ax (by omega));have HF:=zh (zFD bg.o);have HJ:=zh h;have aB:=zh (zAD w1 (.cells #[.slice p n c,.bool false] 148));have HM:=zh (show zBc false M (3::l)=(if((Rd.num ⟨l,false⟩).2.num.2.num.2.bytes.2.grp anyG).2.whole∧(Rd.num ⟨l,false⟩).1=M.last+1∧(Rd.num ⟨l,false⟩).1≤1099511627776∧zA1 ⟨((Rd.num ⟨l,false⟩).2.num.1:Int),((Rd.num ⟨l,false⟩).2.num.2.num.1:Int),(Rd.num ⟨l,false⟩).2.num.2.num.2.bytes.1,((Rd.num ⟨l,false⟩).2.num.2.num.2.bytes.2.grp anyG).1⟩then
    some {M with entries:=M.entries++[⟨((Rd.num ⟨l,false⟩).2.num.1:Int),((Rd.num ⟨l,false⟩).2.num.2.num.1:Int),(Rd.num ⟨l,false⟩).2.num.2.num.2.bytes.1,((Rd.num ⟨l,false⟩).2.num.2.num.2.bytes.2.grp anyG).1⟩] }else none)from rfl)
 have bS:=Rd.num_le ⟨l,false⟩;have bA:(Rd.num ⟨l,false⟩).2.rest.length≤1073741824:=Nat.le_trans (Rd.num_rest _) bw;generalize zBc false M (3::l)=O at *;have bv:=h.ok.last;have bK:=zW (M.last=M.number+M.entries.length) rfl;have HA:=zh ax;clear h hx hl ak ax
 go_enter func89,ntmps89
 go_wp2_with fail;generalize bM:w1.alloc (.cells #[.slice p n c,.bool false] 148)=Wq at *;refine HF.o.mono ?_;rintro e w3 ⟨g,q,rfl,hg,aQ,ay,aN⟩;have al:=zW (Below w1.heap.size w1 w3) (aB.o.trans (aN.below aB.o.size fun i hi e=>by omega));have bG:=zh (HJ.o.below al.o);have bh:=zh ay;have bF:=zh aQ;have bN:=ay.c1;have bR:w3.cell? ⟨g,0,none⟩=some (.int .u8 3):=hg;clear ay aN hg aQ;go_wp2_with fail;have bf:=zh (zBC bh.o);refine bf.o.mono ?_;rintro e w4 ⟨rfl,aT,aO⟩;have ae:=zW (Below w1.heap.size w1 w4) (al.o.trans (aO.below al.o.size fun i hi e=>by omega));have bi:=zh aT;clear aT aO;have bU:=ae.o.size;have bk:=zh (rrdent_calls bi.o (fun k hk=>⟨by have:=HA.o k hk;omega,fun e=>by have:=HA.o k hk;omega⟩) bA);have bb:=zh (fun e R' (hR:REntR (Rd.num ⟨l,false⟩).2 e R')=>rent_whole hR);generalize (Rd.num ⟨l,false⟩).1=z at *;generalize (Rd.num ⟨l,false⟩).2=R1 at *;go_wp2_with fail;refine bk.o.mono ?_;rintro x w5 ⟨e,⟨v1,v2⟩,R',rfl,aL,P,aK,aU,aP⟩;have am:=zW (Below w1.heap.size w1 w5) (ae.o.trans (aP.below ae.o.size fun i hi e=>by omega));have hE:=bb.o e R' aL;have bI:=zh hE;have aE:=zW (O=if R'.whole=true∧z=M.last+1∧z≤1099511627776 then some {M with entries:=M.entries++[e] }else none) (by
  rw[HM.o]
  by_cases L:R'.whole=true
  ·have v:=hE.1.1 L;have h2:=hE.2 L
   by_cases hc:z=M.last+1∧z≤1099511627776
   ·rw[if_pos ⟨v.1,hc.1,hc.2,v.2⟩,if_pos ⟨L,hc⟩,←h2]
   ·rw[if_neg (fun e=>hc ⟨e.2.1,e.2.2.1⟩),if_neg (fun e=>hc e.2)]
  ·rw[if_neg (fun e=>L (hE.1.2 ⟨e.1,e.2.2.2⟩)),if_neg (fun e=>L e.1)])
 have bc:=zW (R'.whole=true→zA1 e=true) (fun L=>by rw[hE.2 L];exact(hE.1.1 L).2);obtain⟨X,U,e1⟩:=P.data.slice;obtain⟨Y,V,e2⟩:=P.nodes.slice;have e1:v1=.slice X e.data.length U:=e1;have e2:v2=.slice Y e.nodes.length V:=e2;subst e1;subst e2;have bJ:=zh (And.intro P.dl P.nl);generalize aR:e.data.length=n1 at *;generalize aS:e.nodes.length=n2 at *;have bC:=zh (And.intro aR aS);have ap:=zh (zAD w5 (.cells #[.int .i64 e.term,.int .i64 e.kind,.slice X n1 U,.slice Y n2 V] 50));have bp:=zh (zAI w5 (.cells #[.int .i64 e.term,.int .i64 e.kind,.slice X n1 U,.slice Y n2 V] 50));have bj:=zh (aU.below ap.o);have aZ:=zh (P.below ap.o);have ba:=zh aK;have aA:=zh (am.o.trans (ap.o.mono am.o.size));have aD:=zh (HJ.o.below aA.o);have bd:=zh aD.o.last_calls;have aF:=zW (w5.heap.size<(w5.alloc (.cells #[.int .i64 e.term,.int .i64 e.kind,.slice X n1 U,.slice Y n2 V] 50)).heap.size) (by simp);have bV:=am.o.size;clear aL P aK aU aP hE aR aS;unfold zC7;go_wp2_with fail;generalize bP:w5.heap.size=C at *;generalize w5.alloc (.cells #[.int .i64 e.term,.int .i64 e.kind,.slice X n1 U,.slice Y n2 V] 50)=N at *;refine bd.o.mono ?_;rintro x w7 ⟨rfl,q,rfl⟩;have af:=zh (aA.o.trans (⟨rfl,rfl,rfl,Nat.le_refl _,fun _ _=>rfl⟩:Below w1.heap.size N (N.drewN q)));have bH:=zh (aD.o.below (⟨rfl,rfl,rfl,Nat.le_refl _,fun _ _=>rfl⟩:Below N.heap.size N (N.drewN q)));have bl:=zh (zCk (bj.o.below (⟨rfl,rfl,rfl,Nat.le_refl _,fun _ _=>rfl⟩:Below N.heap.size N (N.drewN q))));have aC:=zh (aZ.o.below (⟨rfl,rfl,rfl,Nat.le_refl _,fun _ _=>rfl⟩:Below N.heap.size N (N.drewN q)));have I:=zW ((N.drewN q).heap[C]?=_) bp.o;have ai:=zW (C<(N.drewN q).heap.size) aF.o;have ao:=zh (fun(ho:O=none)=>zE8 (S:=S) (w1:=w1) (j:=j) (r:=r) (pre:=pre) (zBf af.o) ho);have bY:IntKind.i64.wrap ((M.last:Int)+1)=(M.last:Int)+1:=IntWalk.i64_in _ (by omega);generalize N.drewN q=A at *;go_wp2_with fail;refine bl.o.mono ?_;rintro x w9 ⟨rfl,aV⟩;obtain rfl:=aV.symm;cases L:R'.whole with
 | false =>
  have HE:=zh (ao.o (by rw[aE.o,L];simp));clear L;go_wp2_with fail;go_ret;exact HE.o
 | true =>
  have bn:=zh (bc.o L);have an:=zW (O=if z=M.last+1∧z≤1099511627776 then some {M with entries:=M.entries++[e] }else none) (by rw[aE.o,L];simp);clear L
  by_cases v:z=M.last+1
  ·have d1:((z:Int) != (M.last:Int)+1)=false:=by simp;omega
   by_cases h2:z≤1099511627776
   ·have d2:decide ((1099511627776:Int)<(z:Int))=false:=decide_eq_false (by omega);have br:decide (1099511627776<z)=false:=decide_eq_false (by omega);have be:=zW (O=some {M with entries:=M.entries++[e] }) (by rw[an.o,if_pos ⟨v,h2⟩]);have Hz:=zW (M.last+1≤1099511627776) (by omega);obtain⟨O1,C1,gv,dv,ev,vs,aa,F⟩:=HJ.o;have d:=aa.below af.o;obtain⟨pe,ce,s⟩:=d.row.shape;have t8:A.cell? ⟨j,8,none⟩=some (.slice pe M.entries.length ce):=by rw[←s];exact d.c 8 rfl
    have k0:=zAW I.o;have k1:=zAd I.o;have k2:=zAb I.o;have k3:=zAu I.o;have aM:∀x,O1 x∨C1 x→x≠C:=fun x hx=>by have:=hx.elim (aa.olt x) (aa.clt x);omega
    have aq:=zh (fun W (hb:Below A.heap.size A W)=>show OwnR W 50 4 (.slice pe M.entries.length ce) M.entries.length (zA3 M.entries vs) by rw[←s];exact d.row.keep fun y b=>hb.block y (OwnR.lt d.row b));have aJ:=zW (j<A.heap.size∧(Value.slice pe M.entries.length ce).ownBlock≠some j) (⟨d.olt j d.oj,fun e=>(d.oe j (by rw[s];exact e)).2 rfl⟩);have aG:=zW (C<A.heap.size∧(Value.slice pe M.entries.length ce).ownBlock≠some C) (⟨ai.o,fun e=>aM C (.inl (d.oe C (by rw[s];exact e)).1) rfl⟩);have aH:=zh (fun(W:World) (hj:W.heap[j]?=A.heap[j]?)=>zAE (hj.trans d.cells) 8);have HX:=zh (And.intro aa (And.intro F s));have B:=zh (⟨rfl,rfl,rfl,Nat.le_refl _,fun _ _=>rfl⟩:Below A.heap.size A A.drew);clear d aa F s aM v h2;generalize ah:M.entries.length=ne at *;have bo:=zh ah;clear ah;go_wp2_with fail;refine zDa [10] (fun w':World=>w'.cell? ⟨j,8,none⟩=some (.slice pe ne ce)∧w'.cell? ⟨C,0,none⟩=some (.int .i64 e.term)∧w'.cell? ⟨C,1,none⟩=some (.int .i64 e.kind)∧w'.cell? ⟨C,2,none⟩=some (.slice X n1 U)∧w'.cell? ⟨C,3,none⟩=some (.slice Y n2 V)) (n:=11) (by kernel_rfl) rfl (⟨t8,k0,k1,k2,k3⟩) fun f=>?_;generalize A.drew=W1 at *;refine Gl [0,1,2,3,4,5] ?_
    iterate 6 (refine Gc rfl ?_;simp only[uZ])
    refine Gn ?_;refine zER 6 rfl (by kernel_rfl) (by rfl) (fun K hK=>?_);have H:=zAD W1 (.cells #[.int .i64 e.term,.int .i64 e.kind,.slice X n1 U,.slice Y n2 V] 50);have aI:=zh (And.intro (zAH f.1 H) (And.intro (zAH f.2.1 H) (And.intro (zAH f.2.2.1 H) (And.intro (zAH f.2.2.2.1 H) (zAH f.2.2.2.2 H)))));have Z:=zh H;clear H;go_wp2_with fail;refine hK.o _ _ (aI.o) fun f=>?_;clear hK
    try simp only[uZ]
    refine zER 7 rfl (by kernel_rfl) (by rfl) (fun K hK=>?_);have bm:=zh (aq.o _ (B.o.trans (Z.o.mono B.o.size)));have bq:=zh (zE5 W1 #[.int .i64 e.term,.int .i64 e.kind,.slice X n1 U,.slice Y n2 V] _ 4 1 1 rfl rfl 50 (0,0));refine zAn (.tmp 169) (.tmp 171) 78 rfl 50 i4 (.agg #[.int .i64 0,.int .i64 0,.slice none 0 0,.slice none 0 0]) 4 64 underlying78 bu aW aX aY rfl (by decide) (.slice pe ne ce) ne _ rfl bm.o (.slice (some ⟨W1.heap.size,0,none⟩) 1 1) 1 _ rfl bq.o (fun u hu=>by simp at hu;rcases hu with rfl|rfl|rfl|rfl<;>rfl) (by unfold maxLen;omega) (by omega) ?_;intro bZ R G m E;have HN:=zh (And.intro G (And.intro m E));have av:=fun(x:Nat) (hx:x<A.heap.size) (ah:(Value.slice pe ne ce).ownBlock≠some x)=>show R.heap[x]?=A.heap[x]? from((Chg.of_grown m).block x (Nat.lt_of_lt_of_le hx (Nat.le_trans B.o.size Z.o.size)) (fun e=>ah e.symm)).trans ((B.o.trans (Z.o.mono B.o.size)).block x hx)
    have aw:=av j aJ.o.1 aJ.o.2;have ab:=av C aG.o.1 aG.o.2;obtain⟨az,ar,rfl⟩:=OwnR.shape G;have aj:=zh (And.intro ((World.cell?_of_block (a:=⟨j,8,none⟩) aw).trans t8) (And.intro ((World.cell?_of_block (a:=⟨C,0,none⟩) ab).trans k0) (And.intro ((World.cell?_of_block (a:=⟨C,1,none⟩) ab).trans k1) (And.intro ((World.cell?_of_block (a:=⟨C,2,none⟩) ab).trans k2) ((World.cell?_of_block (a:=⟨C,3,none⟩) ab).trans k3)))));have f8:=aH.o R aw;clear G m E aw ab av;go_wp2_with fail;refine hK.o _ _ (aj.o) fun f=>?_;clear hK
    try simp only[uZ]
    refine Gl [8,9] ?_
    iterate 2 (refine Gp rfl ?_;simp only[uZ])
    refine Gn ?_;refine g_end 10 rfl (by kernel_rfl) (by rfl) (by kernel_rfl) (fun K hK=>?_);have s8:=aj.o.1;go_wp2_with fail;refine hK.o _ _ ?_;clear hK
    try simp only[uZ]
    refine zE3 (by kernel_rfl) ?_ _;have HE:=zW (zDV S w1 j r pre O (.returned (.bool true)) (R.setCell ⟨j,8,none⟩ (.slice az (ne+1) ar))) (by
     obtain⟨d,F,s⟩:=HX.o;obtain⟨G,m,E⟩:=HN.o;rw[←s]at m E;have bs:Below A.heap.size A (W1.alloc (.cells #[.int .i64 e.term,.int .i64 e.kind,.slice X n1 U,.slice Y n2 V] 50)):=B.o.trans (Z.o.mono B.o.size);have bX:=Z.o.size;have bB:=B.o.size;have bW:A.heap.size≤W1.heap.size:=bB;have au:Chg (fun y=>ev.ownBlock=some y) A R:=((Chg.of_below bs).mono fun _ _ h=>h.elim).trans ((Chg.of_grown m).mono fun _ _ h=>h.symm) fun _ _ h=>h;have hC:Chg (fun y=>ev.ownBlock=some y) w1 R:=((Chg.of_below af.o).mono fun _ _ h=>h.elim).trans au fun _ _ h=>h;have bL:=af.o.size;have J:∀y,(Value.slice az (ne+1) ar).ownBlock=some y→(ev.ownBlock=some y∨A.heap.size≤y):=fun y b=>by
      rcases E with e3|⟨g3,e3,bQ⟩
      ·exact .inl (e3▸b)
      ·rw[e3]at b;cases b;exact .inr (by omega)
     have D:M.entries.length=ne:=bo.o;have ad:vs.length=M.entries.length:=d.rlen;have ag:∀y,((Value.slice X n1 U).ownBlock=some y∨(Value.slice Y n2 V).ownBlock=some y)→w4.heap.size≤y∧y<C:=ba.o;have bO:=ae.o.size;have bD:=ai.o;have ac:∀y,ev.ownBlock=some y→y<w1.heap.size:=fun y b=>OwnR.lt d.row b;refine rds_yes ((hC.mono (T:=fun y=>ev.ownBlock=some y∨y=j) fun _ _ q=>.inl q).trans (Chg.setCell R ⟨j,8,none⟩ (.slice az (ne+1) ar)) (fun x _ q=>.inr q) |>.mono (T:=S) fun x hx hq=>?_) ⟨_,_,gv,dv,_,_,d.list (es':=M.entries++[e]) (vs':=vs++[(.slice X n1 U,.slice Y n2 V)]) (C':=fun y=>C1 y∨((Value.slice X n1 U).ownBlock=some y∨(Value.slice Y n2 V).ownBlock=some y)) hC ?_ (fun y b=>(J y b).imp id fun h=>by omega) (by rw[List.length_append,List.length_append,ad];rfl) (fun i e' v' t Q=>?_) (fun u hu y b=>?_) (fun _ h=>.inl h) (fun y b=>?_) ⟨?_,d.ok.term,d.ok.group,d.ok.now,d.ok.vote,d.ok.data,fun e' t=>?_⟩,fun y b=>?_⟩ be.o
     ·rcases hq with hq|hq
      ·exact F x (.inl (d.oe x hq).1)
      ·rw[hq];exact F j (.inl d.oj)
     ·rw[zEz _ _ _ _ ad,List.length_append,D];exact G
     ·by_cases hi:i<ne
      ·rw[List.getElem?_append_left (by rw[D];exact hi)]at t;rw[List.getElem?_append_left (by rw[ad,D];exact hi)]at Q;exact(d.rows i e' v' t Q).keep fun y b=>hC.block y (d.clt y (d.cv v' (List.mem_of_getElem? Q) y b)) fun e3=>d.dis y (d.cv v' (List.mem_of_getElem? Q) y b) (d.oe y e3).1
      ·have bt:=(List.getElem?_eq_some_iff.1 t).1;rw[List.length_append,D,List.length_singleton]at bt;obtain rfl:i=ne:=by omega
       rw[List.getElem?_append_right (by rw[D];exact Nat.le_refl _),D,Nat.sub_self]at t;rw[List.getElem?_append_right (by rw[ad,D];exact Nat.le_refl _),ad,D,Nat.sub_self]at Q;cases t;cases Q;exact aC.o.keep fun y b=>au.block y (by have:=ag y b;omega) fun e3=>by
        have v:=ac y e3;have h2:=ag y b;omega
     ·rcases List.mem_append.1 hu with hu|hu
      ·exact .inl (d.cv u hu y b)
      ·rw[List.mem_singleton.1 hu]at b;exact .inr b
     ·rcases b with b|b
      ·refine⟨.inl b,Nat.lt_of_lt_of_le (d.clt y b) hC.size,fun e3=>?_⟩;rcases J y e3 with v|v
       ·exact d.dis y b (d.oe y v).1
       ·have:=d.clt y b;omega
      ·have h2:=ag y b;refine⟨.inr (by omega),Nat.lt_of_lt_of_le (show y<A.heap.size by omega) au.size,fun e3=>?_⟩;rcases J y e3 with v|v
       ·have:=ac y v;omega
       ·omega
     ·have v:=Hz.o;unfold zAJ.last at v ⊢
      show M.number+(M.entries++[e]).length≤_
      rw[List.length_append,List.length_singleton];omega
     ·rcases List.mem_append.1 t with t|t
      ·exact d.ok.ents e' t
      ·rw[List.mem_singleton.1 t];exact bn.o
     ·rcases b with(b|b)|(b|b)
      ·exact .inl (F y (.inl b))
      ·rcases J y b with v|v
       ·exact .inl (F y (.inl (d.oe y v).1))
       ·exact .inr (by omega)
      ·exact .inl (F y (.inr b))
      ·exact .inr (by have:=ag y b;omega))
    go_wp2_with fail;go_ret;exact HE.o
   ·have d2:decide ((1099511627776:Int)<(z:Int))=true:=decide_eq_true (by omega);have br:decide (1099511627776<z)=true:=decide_eq_true (by omega);have HE:=zh (ao.o (by rw[an.o,if_neg (fun e=>h2 e.2)]));clear v h2;go_wp2_with fail;go_ret;exact HE.o
  ·have d1:((z:Int) != (M.last:Int)+1)=true:=by simp;omega
   have HE:=zh (ao.o (by rw[an.o,if_neg (fun e=>v e.1)]));clear v;go_wp2_with fail;go_ret;exact HE.o
end
theorem rreads_calls {S:Nat→Prop}{w1:World}{j r:Nat}{pre:ByteArray}{M:zAJ}(h:zBi S w1 j r pre M)(f:Bool)(a:f=true→M.entries=[]){p:Option Addr}{n c:Nat}{b:Bs}(i:zAY w1 (.slice p n c) b)(d:n≤c)(q:n≤1073741824)(g:∀k,(Value.slice p n c).ownBlock=some k→k<w1.heap.size)(z:∀k,(Value.slice p n c).ownBlock=some k→k≠j)(y:M.entries.length≤1073741824) :
  Calls prog 89 #[.pointer (some ⟨j,0,none⟩),.slice p n c,.bool f] w1 (zDV S w1 j r pre (zBc f M b)):=by
 have hn:n=b.length:=by
  obtain⟨_,_,e⟩:=i.slice;simp only[Value.slice.injEq]at e;exact e.2.1
 cases b with
 | nil =>
  subst hn;exact rds_nil h f i g
 | cons k l =>
  by_cases m:f≠decide (k=1)
  ·exact rds_else h i d q g (.inl m)
  ·have m:f=decide (k=1):=by simpa using m
   by_cases o:k=1
   ·subst o;rw[m];exact rds_k1 h i d q g (a (by rw[m];rfl)) z
   ·rw[decide_eq_false o]at m;subst m
    by_cases s:k=2
    ·subst s;exact rds_k2 h i d q g
    ·by_cases t:k=3
     ·subst t;exact rds_k3 h i d q g y
     ·by_cases v:k=4
      ·subst v;exact rds_k4 h i d q g
      ·exact rds_else h i d q g (.inr ⟨o,s,t,v⟩)
def zAJ.rowsTo (M:zAJ)(k:Nat):List Bs:=zEp M.number M.term M.group::zCW M.now M.vote::zA0 M.number (M.entries.take k)
theorem rowsTo_all {M:zAJ}{k:Nat}(h:M.entries.length≤k):M.rowsTo k=M.rows:=by
 unfold zAJ.rowsTo zAJ.rows;rw[List.take_of_length_le h]
theorem rowsTo_succ {M:zAJ}{k:Nat}(h:k<M.entries.length):zAL (M.rowsTo (k+1))=zAL (M.rowsTo k)++zAK (zEw (M.number+k+1) M.entries[k]):=by
 unfold zAJ.rowsTo;rw[zFN (n:=M.number) h,zBB,zBB,zBB,zBB,zCj,zCI];simp
theorem rowsTo_len {M:zAJ}(h:M.OK)(k:Nat):(zAL (M.rowsTo k)).length≤65812*(k+2):=by
 have d:=(zFC h).1;have f:=zDn (c:=65800) (M.rowsTo k) fun l b=>by
  rcases List.mem_cons.1 b with rfl|b
  ·exact d _ (by simp[zAJ.rows])
  ·rcases List.mem_cons.1 b with rfl|b
   ·exact d _ (by simp[zAJ.rows])
   ·have:=h.last;unfold zAJ.last at this;exact zCr M.number (M.entries.take k) (fun e i=>h.ents e (List.mem_of_mem_take i)) (by rw[List.length_take];omega) l b
 have g:(M.rowsTo k).length≤k+2:=by
  show(zA0 M.number (M.entries.take k)).length+1+1≤k+2
  rw[zCe,List.length_take];omega
 exact Nat.le_trans f (Nat.mul_le_mul_left _ g)
section
variable {w:World} {j r:Nat} {pre:ByteArray} {D:zAA} {M:zAJ} {Hot Cold:Nat→Prop}
theorem rjanew_calls (h:RJF w j r pre D M Hot Cold)(bF:M.entries.length≤1000000) :
  Calls prog 93 #[.pointer (some ⟨j,0,none⟩)] w fun e w'=>e=.returned (.int .i64 ((zAU D (nm pre) M).2:Int))∧zAq w j r pre Hot Cold w' (zAU D (nm pre) M).1 M∧w'.heap[j]?=w.heap[j]?:=by
 obtain⟨i0,hi,aL,aM,aN⟩:=info_parts (show(prog.info? 5).map (fun i=>(i.zero,i.size,i.bytes))=some (some (.int .u8 0),1,1) by kernel_rfl);have bu:(zCT pre).size=pre.size+4:=zFa pre;have bG:=h.psz;have HF:=zh h;have q:=h.okM;have bf:=zh q;have H:=q.last;have aF:=zCi q.group;have bv:=zAo.1 q.term;have bt:=zAo.1 q.now;have bw:=q.vote;have ay:=zh (fun k=>rowsTo_len q k);obtain⟨O,own,gv,dv,ev,vs,v,L,hJ,hR,hO,bo,hH⟩:=h;obtain⟨p,c,bp⟩:=hJ.group.slice;obtain⟨pe,ce,ai⟩:=hJ.row.shape;generalize hm:M.group.length=m at *;generalize hn:M.entries.length=n at *;subst bp;have hc:w.heap[j]?=some (RJC r (M.number:Int) M.term (.slice p m c) pre M.now M.vote dv ev M.dead):=hJ.cells;rw[ai]at hc;have hg:zBe w (.slice p m c) M.group:=hJ.group;have av:=zh (fun k (J:k<M.entries.length)=>hJ.ent (List.getElem?_eq_getElem J));have aU:=zh ai;have Hn:=zh hn;unfold zAJ.last at H;rw[hn]at H;have bd:=zW ((zAK (zEp M.number M.term M.group)).length≤100000) (by
  have h1:=zGH M.group (by rw[hm];omega);have h2:=zAg (n:=M.number) (by omega);have h3:=zBI M.term;have h4:(zEp M.number M.term M.group).length≤9100:=by unfold zEp;simp only[List.length_cons,List.length_append];omega
  have h5:=zAf (zEp M.number M.term M.group);omega)
 have be:=zW ((zAK (zCW M.now M.vote)).length≤100000) (by
  have h4:=zDN M.now M.vote;have h5:=zAf (zCW M.now M.vote);omega)
 have aW:=zh (fun W (hb:Below w.heap.size w W) (hW:W.heap[j]?=some (RJC r (M.number:Int) M.term (.slice p m c) pre M.now M.vote dv (.slice pe n ce) M.dead))=>by
  have:=rfirst_calls (w:=W) hW (zAM.chg hg (Chg.of_below hb) fun _ _=>id) (fun z hz=>by have:=aF.2 z hz;omega) (by rw[hm];omega) (by omega) (by omega);rw[fstB0_nat (by omega)]at this;exact this)
 have bi:=zh (fun W=>rterms_calls W M.now M.vote (by omega) (by omega));have aw:=zh (zAB hc);have Hc:=zh hc;generalize hZ:zAU D (nm pre) M=Z at *;have HZ:=zh hZ;clear hZ hJ hR hO bo hH hg ai aF bv bw hm hn bt q
 go_enter func93,ntmps93
 go_wp2_with fail;refine ost (fun w':World=>w'.heap[j]?=some (RJC r (M.number:Int) M.term (.slice p m c) pre M.now M.vote dv (.slice pe n ce) M.dead)) 13 (hc) fun d=>?_;have Q:=zh (zAV w);clear hc;generalize w.drew=W1 at *;refine Pl [0,2,3,4,5,6,7,8,9] ?_
 iterate 9 (refine Pd rfl (by intro w F;have q5:=cell5 F;have q6:=zAG F (i:=6) rfl;go_simp;try with_reducible rfl) ?_;simp only[uZ])
 refine Pn ?_;refine oon 1 rfl fun K l=>?_;have aV:=zh (aW.o W1 Q.o d);go_wp2_with fail;refine aV.o.mono ?_;rintro e w2 ⟨u1,rfl,al,aI,ag⟩;have aZ:=zh ((ag.block _ (zAB d)).trans d);have aO:=zW (zCn w w2 u1 (zAK (zEp M.number M.term M.group))) (⟨al,fun k J=>Nat.le_trans Q.o.size (aI k J),Q.o.trans (ag.mono Q.o.size)⟩);obtain⟨p1,c1,rfl,-⟩:=zAN al;clear al aI ag;generalize aB:(zAK (zEp M.number M.term M.group)).length=t at *;have ao:=zh aB;clear aB;go_wp2_with fail;refine l.o _ _ (aZ.o) fun d=>?_;clear l
 try simp only[uZ]
 refine oon 10 rfl fun K l=>?_;have bh:=zh (bi.o w2);go_wp2_with fail;refine bh.o.mono ?_;rintro e w3 ⟨u2,rfl,am,bs,ah⟩;have ba:=zh ((ah.block _ (zAB d)).trans d);have ar:=zh (aO.o.next ah);have aS:=zh (zAj.has am);obtain⟨p2,c2,rfl,-⟩:=zAN am;clear am bs ah;generalize aC:(zAK (zCW M.now M.vote)).length=m2 at *;have ap:=zh aC;clear aC;go_wp2_with fail;refine l.o _ _ (ba.o) fun d=>?_;clear l
 try simp only[uZ]
 have B:=bd.o;have ak:=be.o;have az:=zh (show OwnR w3 5 1 (.slice p1 t c1) t (zAQ (zAK (zEp M.number M.term M.group))) by have:=ar.o.own;unfold zAj at this;rwa[ao.o]at this);have bk:=zh (show zAM w3 1 (.slice p2 m2 c2) m2 (zAQ (zAK (zCW M.now M.vote))) by have:=aS.o;unfold zAY at this;rwa[ap.o]at this);refine oon 11 rfl fun K l=>?_;refine zAn (.tmp 6) (.tmp 15) 22 rfl 5 i0 (.int .u8 0) 1 1 underlying22 hi aL aM aN rfl (by decide) (.slice p1 t c1) t _ rfl az.o (.slice p2 m2 c2) m2 _ rfl bk.o (zAO _) (by unfold maxLen;omega) (by omega) ?_;intro v4 w4 a A I;have au:=zh (zCn.grown (x:=zAK (zCW M.now M.vote)) ar.o (by rw[ao.o,ap.o];exact a) A I);have bb:=zh ((au.o.bel.block j aw.o).trans Hc.o);obtain⟨p4,c4,rfl⟩:=OwnR.shape a;clear a A I;refine l.o _ _ (bb.o) fun d=>?_;clear l
 try simp only[uZ]
 refine otk 12 (v:=?v1x12) rfl ?_;simp only[uZ];refine odn ?_;have aQ:=zW (zCn w w4 (.slice p4 (t+m2) c4) (zAL (M.rowsTo 0))) (by
  have e1:zAL (M.rowsTo 0)=zAK (zEp M.number M.term M.group)++zAK (zCW M.now M.vote):=by
   unfold zAJ.rowsTo;rw[List.take_zero]
   show zAL [_,_]=_
   rw[zBB,zCI]
  rw[e1];exact au.o)
 go_wp2_with fail
 go_loopw [3,4] (fun b i wr=>∃(k:Nat) (y:Value),k≤n∧i=.int .i64 k∧y=b∧zCn w wr y (zAL (M.rowsTo k))) (fun _ i _=>n-(intOf i).toNat)
 case atStart=>exact⟨0,_,Nat.zero_le _,rfl,rfl,aQ.o⟩
 case round =>
  obtain⟨k,y,J,rfl,rfl,C⟩:=hrel;have S:=(C.bel.block j aw.o).trans Hc.o;have bl:=zAG S (i:=8) rfl;have bE:=ay.o k;obtain⟨py,cy,rfl,-⟩:=zAN C.own
  by_cases br:k<n
  ·have U:k<M.entries.length:=by rw[Hn.o];exact br
   obtain⟨g,cg,v,V,-,T,k0,k1,k2,k3⟩:=av.o k U;rw[aU.o,Hn.o]at V;cases V;have bg:=zh (rowsTo_succ U);have aG:=bf.o.ents _ (List.getElem_mem U);generalize M.entries[k]=e at *;obtain⟨v1,v2⟩:=v;obtain⟨p1,c1,e1⟩:=T.data.slice;obtain⟨p2,c2,e2⟩:=T.nodes.slice;have bm:v1=.slice p1 e.data.length c1:=e1;have bn:v2=.slice p2 e.nodes.length c2:=e2;subst bm;subst bn;have HX:=zW (EntIn w j g n ce M.number k e (.slice p1 e.data.length c1,.slice p2 e.nodes.length c2)) (⟨zAG Hc.o (i:=8) rfl,zAW Hc.o,k0,k1,k2,k3⟩);have aT:=zh T;have ac:=zh aG;have ae:=zh C;generalize B:(zAL (M.rowsTo k)).length=t at *;have ad:=zh B;generalize aD:M.number=b0 at *;have bC:=zh aD;obtain⟨x0,bA⟩:∃x0,x0=b0+k:=⟨_,rfl⟩;obtain⟨N,aK⟩:∃N,N=b0+k+1:=⟨_,rfl⟩;have bH:IntKind.i64.wrap ((b0:Int)+(k:Int))=(x0:Int):=by rw[IntWalk.i64_in _ (by omega)];omega
   have bI:IntKind.i64.wrap ((x0:Int)+1)=(N:Int):=by rw[IntWalk.i64_in _ (by omega)];omega
   have Y:N≤4611686018427387904:=by omega
   have aR:=zh aK;clear U T e1 e2 aG B aD bA aK k0 k1 k2 k3 S;go_wp2_with fail;have R:=zW (Below w.heap.size w wr.drew) (ae.o.bel.trans ((zAV wr).mono ae.o.bel.size));refine ost (fun w':World=>w'.cell? ⟨j,8,none⟩=some (.slice (some ⟨g,0,none⟩) n ce)∧w'.cell? ⟨j,0,none⟩=some (.int .i64 (b0:Int))∧w'.cell? ⟨g,k*4,none⟩=some (.int .i64 e.term)∧w'.cell? ⟨g,k*4+1,none⟩=some (.int .i64 e.kind)∧w'.cell? ⟨g,k*4+2,none⟩=some (.slice p1 e.data.length c1)∧w'.cell? ⟨g,k*4+3,none⟩=some (.slice p2 e.nodes.length c2)) 19 ((zDF HX.o R.o).all) fun d=>?_;have aP:=zW (zCn w wr.drew (.slice py t cy) (zAL (M.rowsTo k))) (ae.o.next (zAV wr));generalize wr.drew=W5 at *;refine Pl [0,1,2,3,4,5,6,7,8,9,10,11,12,13,14,15] ?_
   iterate 16 (refine Pc rfl ?_;simp only[uZ])
   refine Pn ?_;refine oon 16 rfl fun K l=>?_;have ab:=zh (rentry_calls (n:=N) (aT.o.below R.o) ac.o Y);unfold zC7 at ab;dsimp only at ab;go_wp2_with fail;refine ab.o.mono ?_;rintro r6 w6 ⟨z,rfl,hz,bB,aE⟩;have aa:=zW (zCn w w6 (.slice py t cy) (zAL (M.rowsTo k))) ((aP.o).next aE);have HZ:=zh (zAj.has hz);have aX:=zh (zDF HX.o aa.o.bel).all;have bJ:(zAK (zEw N e)).length≤65812:=by
    rw[zAf];have h1:=zBE ac.o;have h2:=zEx (n:=N) Y ac.o;omega
   obtain⟨pz,cz,rfl,-⟩:=zAN hz;clear hz bB aE;generalize ak:(zAK (zEw N e)).length=m3 at *;have ax:=zh ak;clear ak;go_wp2_with fail;refine l.o _ _ (aX.o) fun d=>?_;clear l
   try simp only[uZ]
   refine oon 17 rfl fun K l=>?_;have af:=zW (OwnR w6 5 1 (.slice py t cy) t (zAQ (zAL (M.rowsTo k)))) (by have:=aa.o.own;unfold zAj at this;rwa[ad.o]at this);have aA:=zW (zAM w6 1 (.slice pz m3 cz) m3 (zAQ (zAK (zEw N e)))) (by have:=HZ.o;unfold zAY at this;rwa[ax.o]at this);refine zAn (.tmp 26) (.tmp 42) 22 rfl 5 i0 (.int .u8 0) 1 1 underlying22 hi aL aM aN rfl (by decide) (.slice py t cy) t _ rfl af.o (.slice pz m3 cz) m3 _ rfl aA.o (zAO _) (by unfold maxLen;omega) (by omega) ?_;intro v7 w7 s G X;have an:=zh (zCn.grown (x:=zAK (zEw N e)) aa.o (by rw[ad.o,ax.o];exact s) G X);have aY:=zh (zDF HX.o an.o.bel).all;obtain⟨p7,c7,rfl⟩:=OwnR.shape s;clear s G X;refine l.o _ _ (aY.o) fun d=>?_;clear l
   try simp only[uZ]
   refine otk 18 (v:=?v3x18) rfl ?_;simp only[uZ];refine odn ?_;go_wp2_with fail;go_roundw
   case rel=>exact⟨k+1,_,by omega,by go_num,rfl,by rw[bg.o,←aR.o];exact an.o⟩
   case measure=>simp[intOf];omega
  ·have bq:n=k:=by omega
   subst bq;have bD:decide ((n:Int)<(n:Int))=false:=by simp
   generalize B:(zAL (M.rowsTo n)).length=t at *;have ad:=zh B;rw[rowsTo_all (Nat.le_of_eq Hn.o)]at C;have E:=zh C;have aH:=S;clear C B S;go_wp2_with fail;clear bl;refine ost (fun w':World=>w'.heap[j]?=some (RJC r (M.number:Int) M.term (.slice p m c) pre M.now M.vote dv (.slice pe n ce) M.dead)) 12 (aH) fun d=>?_;have R:=zW (Below w.heap.size w wr.drew) (E.o.bel.trans ((zAV wr).mono E.o.bel.size));have HX:=zW (zAY wr.drew (.slice py t cy) (zAL M.rows)) ((E.o.next (zAV wr)).own.has);have aq:=zW (∀k,(Value.slice py t cy).ownBlock=some k→w.heap.size≤k∧k<wr.drew.heap.size) fun k J=>⟨E.o.new k J,OwnR.lt (E.o.next (zAV wr)).own J⟩;clear aH;generalize wr.drew=W5 at *;refine Pl [0,1,2,3,4,5,6,7] ?_
   iterate 8 (refine Pd rfl (by intro w F;have q3:=zAu F;have q4:=cell4 F;go_simp;try with_reducible rfl) ?_;simp only[uZ])
   refine Pn ?_;refine Pl [8,9] ?_
   iterate 2 (refine Pc rfl ?_;simp only[uZ])
   refine Pn ?_;refine oon 10 rfl fun K l=>?_;have bj:=zh (rj_disk (P:=prog) (f:=168) (args:=#[.pointer (some ⟨r,0,none⟩),.string (zCT pre),.slice py t cy]) (Re:=Z) HF.o R.o fun v L own hR s=>by
    have h1:=rwhole_calls hR (zCT pre) (by rw[bu];omega) HX.o (by have h3:=ay.o n;rw[rowsTo_all (Nat.le_of_eq Hn.o)]at h3;omega) fun k J=>⟨fun ho=>by have h1:=HF.o.hlt (s k ho);have h2:=(aq.o k J).1;omega,(aq.o k J).2⟩;rw[zBw]at h1;rw[←HZ.o];exact h1)
   go_wp2_with fail;refine bj.o.mono ?_;rintro e w6 ⟨rfl,aJ,aj⟩;have bc:=zh (aj.trans Hc.o);have HE:=zh (And.intro aJ aj);clear aJ aj;go_wp2_with fail;refine l.o _ _ (bc.o) fun d=>?_;clear l
   try simp only[uZ]
   refine otk 11 (v:=?v6x11) rfl ?_;simp only[uZ];refine odn ?_;go_wp2_with fail;go_ret;exact⟨rfl,HE.o.1,HE.o.2⟩
end
theorem run_ab {P:Program}(w:World){t e:TypeId}{i:TypeInfo}(l:P.underlying t=some (.slice e))(k:P.info? e=some i)(p:Option Addr)(d c a b:Nat)(h:a≤b)(m:b≤c) :
  (Instr.slice t (.slice p d c) (some (.int .i64 (a:Int))) (some (.int .i64 (b:Int))) none).run P w=.ok (.slice (if c-a=0 then p else p.map fun x=>x.add (a*i.size)) (b-a) (c-a)) w:=by
 have g:(Instr.sliceBound (.int .i64 (b:Int)) c .sliceAcap).run P w=.ok b w:=by
  rw[run_sliceBound _ _ _ _ _ (by omega) (by omega)];simp
 have j:(Instr.sliceBound (.int .i64 (a:Int)) b .sliceB).run P w=.ok a w:=by
  rw[run_sliceBound _ _ _ _ _ (by omega) (by omega)];simp
 simp[Instr.slice,run_underlying l,Instr.sliceBounds,g,j,sizeOf,typeInfo,k,Result.andThen]
 by_cases f:c=a
 ·rw[if_pos f,if_pos (by omega)]
 ·rw[if_neg f,if_neg (by omega)]
section
variable {w w1 w2:World} {j r:Nat} {pre:ByteArray} {D:zAA} {M:zAJ} {Hot Cold:Nat→Prop}
theorem rj_base (h:RJF w j r pre D M Hot Cold)(z:Below w.heap.size w w2){n2:Nat}{t2:Int}{g2:List Int}{d:Value}(G:zBe w2 d g2)(f:∀k,d.ownBlock=some k→w.heap.size≤k∧k<w2.heap.size)(ok:({M with number:=n2,term:=t2,group:=g2}:zAJ).OK) :
  zAq w j r pre Hot Cold (((w2.setCell ⟨j,0,none⟩ (.int .i64 (n2:Int))).setCell ⟨j,1,none⟩ (.int .i64 t2)).setCell ⟨j,2,none⟩ d) D {M with number:=n2,term:=t2,group:=g2}:=by
 have H:=h.hlt h.jhot;have l:∀k,Hot k→k<w.heap.size:=fun k b=>h.hlt b;have E:∀k,Cold k→k<w.heap.size:=fun k b=>h.clt b;obtain⟨O,own,J,dv,s,vs,v,L,c,y,t,B,n⟩:=h.below z;have hS:Chg (fun k=>k=j) w2 (((w2.setCell ⟨j,0,none⟩ (.int .i64 (n2:Int))).setCell ⟨j,1,none⟩ (.int .i64 t2)).setCell ⟨j,2,none⟩ d):=((Chg.setCell w2 ⟨j,0,none⟩ _).trans (Chg.setCell _ ⟨j,1,none⟩ _) fun _ _ e=>e).trans (Chg.setCell _ ⟨j,2,none⟩ _) fun _ _ e=>e;have C:=zAC (zAC (zAC c.cells 0 (.int .i64 (n2:Int))) 1 (.int .i64 t2)) 2 d;have p:∀k,d.ownBlock=some k→k≠j:=fun k b e=>by
  have:=(f k b).1;omega
 have g:∀k,Cold k→k≠j:=fun k b e=>c.dis k b (e▸c.oj);generalize ((w2.setCell ⟨j,0,none⟩ (.int .i64 (n2:Int))).setCell ⟨j,1,none⟩ (.int .i64 t2)).setCell ⟨j,2,none⟩ d=w3 at *;have o:zF3 w3 j r pre O (fun k=>Cold k∨d.ownBlock=some k) {M with number:=n2,term:=t2,group:=g2} d dv s vs:={
  cells:=by simpa using C
  group:=zAM.chg G hS fun k b=>p k b
  data:=zAM.chg c.data hS fun k b=>g k (c.cd k b)
  row:=c.row.keep fun k b=>hS.block k (c.olt k (c.oe k b).1) (c.oe k b).2
  rlen:=c.rlen
  rows:=fun i e v F q=>(c.rows i e v F q).keep fun k b=>hS.block k (c.clt k (c.cv v (List.mem_of_getElem? q) k b)) (g k (c.cv v (List.mem_of_getElem? q) k b))
  oj:=c.oj
  oe:=c.oe
  cg:=fun k b=>.inr b
  cd:=fun k b=>.inl (c.cd k b)
  cv:=fun u I k b=>.inl (c.cv u I k b)
  dis:=fun k b m=>by
   rcases b with b|b
   ·exact c.dis k b m
   ·have a:=(f k b).1;have A:=l k ((n k).2 (.inl m));omega
  olt:=fun k b=>Nat.lt_of_lt_of_le (c.olt k b) hS.size
  clt:=fun k b=>Nat.lt_of_lt_of_le (b.elim (c.clt k) fun e=>(f k e).2) hS.size
  psz:=c.psz
  ok:=ok}
 refine⟨Hot,_,⟨O,own,d,dv,s,vs,v,L,o,y.keep hS.size (fun k b=>hS.block k (y.olt k b) fun e=>t j c.oj (e▸b)),t,fun k b m=>?_,n⟩,((Chg.of_below z).mono fun _ _ h=>h.elim).trans (hS.mono fun k _ e=>(n k).2 (.inl (e▸c.oj))) fun _ _ h=>h,fun k b=>.inl b,fun k b=>b.imp id fun e=>(f k e).1⟩;rcases b with b|b
 ·exact B k b m
 ·have a:=(f k b).1;have A:=l k ((n k).2 (.inr m));omega
theorem rj_drop (h:RJF w j r pre D M Hot Cold)(s:Below w.heap.size w w2){k:Nat}{p:Option Addr}{n c:Nat}{vs:List EV}{a A dv:Value}{O own:Nat→Prop}{F:Value}{L:List zAR}(g:zF3 w j r pre O Cold M A dv a vs)(q:zAc w r F L own D)(C:∀k,O k→¬own k)(o:∀k,Cold k→¬own k)(B:∀k,Hot k↔O k∨own k)
  (l:OwnR w2 50 4 (.slice p n c) n (zA3 (M.entries.drop k) (vs.drop k))) (hn:n=(M.entries.drop k).length) (d:∀y,(Value.slice p n c).ownBlock=some y→w.heap.size≤y) :
  zAq w j r pre Hot Cold (w2.setCell ⟨j,8,none⟩ (.slice p n c)) D {M with entries:=M.entries.drop k}:=by
 have b:=h.okM;subst hn;refine rj_list (C':=Cold) (vs':=vs.drop k) g q C o B ((Chg.of_below s).mono fun _ _ h=>h.elim) l (fun y f=>.inr (d y f)) (by rw[List.length_drop,List.length_drop,g.rlen]) (fun i e v m z=>?_) (fun u E y f=>g.cv u (List.mem_of_mem_drop E) y f) (fun _ h=>h) (fun y f=>⟨.inl f,Nat.lt_of_lt_of_le (g.clt y f) s.size,fun e=>by have t:=d y e;have G:=g.clt y f;omega⟩) ⟨?_,b.term,b.group,b.now,b.vote,b.data,fun e m=>b.ents e (List.mem_of_mem_drop m)⟩
 ·rw[List.getElem?_drop]at m z;exact(g.rows _ e v m z).below s
 ·have t:=b.last;unfold zAJ.last at t ⊢
  show M.number+(M.entries.drop k).length≤_
  rw[List.length_drop];omega
end
section
variable {w w1 w2:World} {j r:Nat} {pre:ByteArray} {D:zAA} {M:zAJ} {Hot Cold:Nat→Prop}
theorem zFh (h:RJF w1 j r pre D M Hot Cold){n2:Nat}{t2:Int}{g2:List Int}(aZ:M.number<n2)(hs:(⟨n2,t2,g2,M.data⟩:zDE).OK){pg:Option Addr}{cg:Nat}(hg:zBe w1 (.slice pg g2.length cg) g2)(bc:∀k,(Value.slice pg g2.length cg).ownBlock=some k→k≠j) :
  Calls prog 92 #[.pointer (some ⟨j,0,none⟩),.agg #[.int .i64 (n2:Int),.int .i64 t2,.slice pg g2.length cg]] w1 fun e w'=>e=.returned (.tuple #[])∧zAq w1 j r pre Hot Cold w' D (M.rebase ⟨n2,t2,g2,M.data⟩):=by
 obtain⟨i0,hi,aQ,aR,aS⟩:=info_parts (show(prog.info? 3).map (fun i=>(i.zero,i.size,i.bytes))=some (some (.int .i64 0),1,8) by kernel_rfl);obtain⟨i4,ba,be,aC,bf⟩:=info_parts (show(prog.info? 50).map (fun i=>(i.zero,i.size,i.bytes))=some (some (.agg #[.int .i64 0,.int .i64 0,.slice none 0 0,.slice none 0 0]),4,64) by kernel_rfl);have bt:n2≤1099511627776:=hs.number;have bq:g2.length≤7:=(zDt hs.group).2;have aq:=zh (zGY h.okM hs);have bj:=h.okM.last;have aN:=h.hlt h.jhot;have aW:=zW (M.rebase ⟨n2,t2,g2,M.data⟩={M with number:=n2,term:=t2,group:=g2,entries:=if M.number<n2∧M.termAt n2=some t2 then M.entries.drop (n2-M.number)else [] }) rfl;rw[aW.o]at aq;rw[aW.o];obtain⟨es,P⟩:∃es,es=(if M.number<n2∧M.termAt n2=some t2 then M.entries.drop (n2-M.number)else []):=⟨_,rfl⟩;rw[←P]at aq ⊢;unfold zBe at hg;generalize aY:g2.length=C at *;have aG:=zh aY;have Hg:=zh hg;have aI:=zh bc;have H:=zh h;have au:=zh (zAD w1 (.cells #[.int .i64 (n2:Int),.int .i64 t2,.slice pg C cg] 82));have aE:=zh (zAI w1 (.cells #[.int .i64 (n2:Int),.int .i64 t2,.slice pg C cg] 82));have V:=zh (zFi (h.below au.o) (n2:Int) (by omega));have aH:=zh (fun W (hb:Below w1.heap.size w1 W)=>zDp (h.below hb));obtain⟨O,own,gv,dv,ev,vs,v0,L,hJ,aM,hO,aL,hH⟩:=id h;obtain⟨p8,c8,ae⟩:=hJ.row.shape;have bb:M.entries.length≤c8:=by
  rcases hJ.row.2 with⟨h8,h0⟩|⟨g,bn,cur,h8,-,bl,-⟩
  ·omega
  ·rw[ae]at h8;cases h8;exact bl
 have HX:=zh (And.intro hJ (And.intro aM (And.intro hO (And.intro aL (And.intro hH ae)))));have Hc:=zW (w1.heap[j]?=some (RJC r (M.number:Int) M.term gv pre M.now M.vote dv (.slice p8 M.entries.length c8) M.dead)) (by rw[←ae];exact hJ.cells);have br:M.last=M.number+M.entries.length:=rfl;have ay:=zh (fun(W:World) (hb:Below w1.heap.size w1 W)=>show zAq w1 j r pre Hot Cold (W.setCell ⟨j,8,none⟩ (.slice none 0 0)) D {M with entries:=[] } by
  have h1:=rj_drop (k:=M.entries.length) (p:=none) (n:=0) (c:=0) h hb hJ aM hO aL hH (by rw[List.drop_length,entsC_nil];exact OwnR.nil _ _ _) (by rw[List.drop_length];rfl) (fun y hy=>by cases hy);rwa[List.drop_length]at h1)
 clear h hs aY hg bc hJ aM hO aL hH ae;cases ad:M.termAt (n2:Int)with
 | none =>
  rw[if_neg (fun e=>by rw[ad]at e;cases e.2)]at P;subst P;rw[ad]at V;simp only[Option.getD_none,Option.isSome_none]at V;generalize aX:M.entries.length=n8 at *;generalize hb:M.number=b at *
  go_enter func92,ntmps92
  go_wp2_with fail;refine V.o.mono ?_;rintro e w2 ⟨rfl,q,rfl⟩;have X:=zh (au.o.trans (⟨rfl,rfl,rfl,Nat.le_refl _,fun _ _=>rfl⟩:Below w1.heap.size (w1.alloc (.cells #[.int .i64 (n2:Int),.int .i64 t2,.slice pg C cg] 82)) ((w1.alloc (.cells #[.int .i64 (n2:Int),.int .i64 t2,.slice pg C cg] 82)).drewN q)));have ap:=zh (aH.o _ X.o);go_wp2_with fail;refine ap.o.mono ?_;rintro e w3 ⟨rfl,q2,rfl⟩;generalize U:World.drewN (World.drewN _ _) _=WQ;have Y:=zW (Below w1.heap.size w1 WQ) (by rw[←U];exact X.o.trans ⟨rfl,rfl,rfl,Nat.le_refl _,fun _ _=>rfl⟩);have ah:WQ.heap[w1.heap.size]?=some (.cells #[.int .i64 (n2:Int),.int .i64 t2,.slice pg C cg] 82 (0,0)):=by rw[←U];exact aE.o
  have ai:WQ.heap[j]?=some (RJC r (b:Int) M.term gv pre M.now M.vote dv (.slice p8 n8 c8) M.dead):=(Y.o.block j aN).trans Hc.o;have R:=zW (Below w1.heap.size w1 WQ.drew) (Y.o.trans ⟨rfl,rfl,rfl,Nat.le_refl _,fun _ _=>rfl⟩);clear U;go_wp2_with fail;refine ost (fun w':World=>w'.heap[w1.heap.size]?=some (.cells #[.int .i64 (n2:Int),.int .i64 t2,.slice pg C cg] 82 (0,0))∧w'.heap[j]?=some (RJC r (b:Int) M.term gv pre M.now M.vote dv (.slice p8 n8 c8) M.dead)) 17 (⟨(ah:WQ.drew.heap[w1.heap.size]?=_),(ai:WQ.drew.heap[j]?=_)⟩) fun d=>?_;generalize WQ.drew=J at *;refine Pl [0,1,2,3,4,5,6,7,8,9,10,11,12,13,14,15,16] ?_
  iterate 17 ((first|refine Ps rfl ?_|refine Pd rfl (by intro w f;have p0:=zAW f.1;have p1:=zAd f.1;have p2:=zAb f.1;have q0:=zAW f.2;have q8:=zAG f.2 (i:=8) rfl;go_simp;try with_reducible rfl) ?_);simp only[uZ])
  refine Pn ?_;refine odn ?_;have l:=d;have aJ:=zAG d.2 (i:=8) rfl;have aK:=zAE d.2 8;go_wp2_with fail;have HS:=zh (ay.o J R.o);have ak:=zh ((set_other (w:=J) (a:=⟨j,8,none⟩) (.slice none 0 0) (show w1.heap.size≠j by omega)).trans l.1);have ao:=zW ((J.setCell ⟨j,8,none⟩ (.slice none 0 0)).heap[j]?=some (RJC r (b:Int) M.term gv pre M.now M.vote dv (.slice none 0 0) M.dead)) (by
   have h1:=zAC l.2 8 (.slice none 0 0);simpa using h1)
  have am:=zW (zAM (J.setCell ⟨j,8,none⟩ (.slice none 0 0)) 1 (.slice pg C cg) C (g2.map (Value.int .i64))) (zAM.chg (zAM.chg Hg.o (Chg.of_below R.o) fun _ _=>id) (Chg.setCell J ⟨j,8,none⟩ _) fun k hk=>aI.o k hk);clear aJ aK l d;generalize J.setCell ⟨j,8,none⟩ (.slice none 0 0)=I at *;have aa:=zW (I.drew.heap[j]?=some (RJC r (b:Int) M.term gv pre M.now M.vote dv (.slice none 0 0) M.dead)) ao.o;have Q:=zh (⟨rfl,rfl,rfl,Nat.le_refl _,fun _ _=>rfl⟩:Below I.heap.size I I.drew);have Z:=zh (fun W (hb2:Below I.drew.heap.size I.drew W)=>zAM.chg (am.o) (Chg.of_below ((⟨rfl,rfl,rfl,Nat.le_refl _,fun _ _=>rfl⟩:Below I.heap.size I I.drew).trans hb2)) fun _ _=>id);refine ost (fun w':World=>w'.heap[w1.heap.size]?=some (.cells #[.int .i64 (n2:Int),.int .i64 t2,.slice pg C cg] 82 (0,0))) 13 ((ak.o:I.drew.heap[w1.heap.size]?=_)) fun d=>?_;generalize I.drew=W6 at *;refine Pl [0,1,2,3,4,6,7] ?_
  iterate 7 (refine Pd rfl (by intro w f;have p0:=zAW f;have p1:=zAd f;have p2:=zAb f;go_simp;try with_reducible rfl) ?_;simp only[uZ])
  refine Pn ?_;refine oon 5 rfl fun K E=>?_;have N:=zh (zAD W6 (.cells #[] 3));have ac:=zh ((N.o.block w1.heap.size (zAB d)).trans d);have s:=zh d;go_wp2_with fail;refine E.o _ _ (ac.o) fun d=>?_;clear E
  try simp only[uZ]
  refine oon 8 rfl fun K E=>?_;have T:=zh (zAx W6 3);have ab:=zh (Z.o _ N.o);refine zAn (.tmp 70) (.tmp 72) 38 rfl 3 i0 (.int .i64 0) 1 8 underlying38 hi aQ aR aS rfl (by decide) (.slice (some ⟨W6.heap.size,0,none⟩) 0 0) 0 [] rfl T.o (.slice pg C cg) C _ rfl ab.o (fun u hu=>by obtain⟨z,-,rfl⟩:=List.mem_map.1 hu;rfl) (by unfold maxLen;omega) (by omega) ?_;intro v9 w9 G A F;have S:=zh (zC5 G A F);have an:=zh ((S.o.2.2.block w1.heap.size (zAB s.o)).trans s.o);clear G A F T ab;obtain⟨p9,c9,rfl⟩:=OwnR.shape S.o.1;refine E.o _ _ (an.o) fun d=>?_;clear E
  try simp only[uZ]
  refine Pl [9,10,11] ?_
  iterate 3 (refine Pc rfl ?_;simp only[uZ])
  refine Pn ?_;refine oon 12 rfl fun K E=>?_;have B:=zh ((S.o.2.2.block j (zAB aa.o)).trans aa.o);have s0:=zAW B.o;have s1:=zAd B.o;have s2:=zAb B.o;have f0:=zAE B.o 0;have f1:=zAE B.o 1;have f2:=zAE B.o 2;have al:=zh ((set_other (w:=(w9.setCell ⟨j,0,none⟩ (.int .i64 (n2:Int))).setCell ⟨j,1,none⟩ (.int .i64 t2)) (a:=⟨j,2,none⟩) (.slice p9 C c9) (show w1.heap.size≠j by omega)).trans ((set_other (w:=w9.setCell ⟨j,0,none⟩ (.int .i64 (n2:Int))) (a:=⟨j,1,none⟩) (.int .i64 t2) (show w1.heap.size≠j by omega)).trans ((set_other (w:=w9) (a:=⟨j,0,none⟩) (.int .i64 (n2:Int)) (show w1.heap.size≠j by omega)).trans d)));go_wp2_with fail;refine E.o _ _ (al.o) fun d=>?_;clear E
  try simp only[uZ]
  refine odn ?_;have HE:=zh (HS.o.trans fun az aj hF=>rj_base hF (Q.o.trans (S.o.2.2.mono Q.o.size)) (show zBe w9 (.slice p9 C c9) g2 by unfold zBe;rw[aG.o];exact OwnR.holds S.o.1) (fun k hk=>⟨Nat.le_trans Q.o.size (S.o.2.1 k hk),OwnR.lt S.o.1 hk⟩) aq.o);go_wp2_with fail
  go_end0
  first
   | exact⟨rfl,HE.o⟩
   | (have h9:=HE.o;rw[P]at h9;exact⟨rfl,h9⟩)
 | some t =>
  by_cases ax:t=t2
  focus
   have bd:=ax.symm;clear ax;subst bd;rw[if_pos ⟨aZ,ad⟩]at P;have bk:=termAt_le ad;obtain⟨k,hk⟩:∃k,k=n2-M.number:=⟨_,rfl⟩;rw[←hk]at P;have aO:k≤M.entries.length:=by omega
   obtain⟨m,hm⟩:∃m,m=M.entries.length-k:=⟨_,rfl⟩;obtain⟨pa,aP⟩:∃pa,pa=(if c8-k=0 then p8 else p8.map fun x=>x.add (k*4)):=⟨_,rfl⟩;have bg:=zh (fun(W:World)=>show(Instr.slice 78 (.slice p8 M.entries.length c8) (some (.int .i64 (k:Int))) (some (.int .i64 (M.entries.length:Int))) none).run prog W=.ok (.slice pa m (c8-k)) W by
    have h1:=run_ab W underlying78 ba p8 M.entries.length c8 k M.entries.length aO bb;rw[aC]at h1;rw[aP,hm];exact h1)
   have av:=zW (zAM w1 4 (.slice pa m (c8-k)) m (zA3 (M.entries.drop k) (vs.drop k))) (by
    have aB:=HX.o.1.row;rw[HX.o.2.2.2.2.2]at aB;rw[entsC_drop k _ _ HX.o.1.rlen,aP,hm];exact OwnR.cut_from aB aO)
   have aV:=zh (zE0 (M.entries.drop k) (vs.drop k) fun v hv=>HX.o.1.one v (List.mem_of_mem_drop hv));have aU:=zh (fun(W:World) (hb:Below w1.heap.size w1 W) (p:Option Addr) (c:Nat) (af:OwnR W 50 4 (.slice p m c) m (zA3 (M.entries.drop k) (vs.drop k))) (hnew:∀y,(Value.slice p m c).ownBlock=some y→w1.heap.size≤y)=>rj_drop H.o hb HX.o.1 HX.o.2.1 HX.o.2.2.1 HX.o.2.2.2.1 HX.o.2.2.2.2.1 af (by rw[List.length_drop,hm]) hnew);rw[←P]at aU;have bv:IntKind.i64.wrap ((n2:Int)-(M.number:Int))=(k:Int):=by rw[IntWalk.i64_in _ (by omega)];omega
   have bw:IntKind.i64.wrap ((M.number:Int)+(M.entries.length:Int)-(M.number:Int))=(M.entries.length:Int):=by rw[IntWalk.i64_in _ (by omega)];omega
   have bA:IntKind.i64.wrap (M.entries.length:Int)=(M.entries.length:Int):=IntWalk.i64_in _ (by omega);have bo:decide ((M.number:Int)<(n2:Int))=true:=decide_eq_true (by omega);have bp:decide (M.number<n2)=true:=decide_eq_true aZ;have bs:m≤1099511627776:=by omega
   clear hk hm aP bk aO;rw[ad]at V;simp only[Option.getD_some,Option.isSome_some]at V;generalize aX:M.entries.length=n8 at *;generalize hb:M.number=b at *;go_enter func92,ntmps92;go_wp2_with fail;refine V.o.mono ?_;rintro e w2 ⟨rfl,q,rfl⟩;have X:=zh (au.o.trans (⟨rfl,rfl,rfl,Nat.le_refl _,fun _ _=>rfl⟩:Below w1.heap.size (w1.alloc (.cells #[.int .i64 (n2:Int),.int .i64 t2,.slice pg C cg] 82)) ((w1.alloc (.cells #[.int .i64 (n2:Int),.int .i64 t2,.slice pg C cg] 82)).drewN q)));have ap:=zh (aH.o _ X.o);go_wp2_with fail;refine ap.o.mono ?_;rintro e w3 ⟨rfl,q2,rfl⟩;generalize U:World.drewN (World.drewN _ _) _=WQ;have Y:=zW (Below w1.heap.size w1 WQ) (by rw[←U];exact X.o.trans ⟨rfl,rfl,rfl,Nat.le_refl _,fun _ _=>rfl⟩);have ah:WQ.heap[w1.heap.size]?=some (.cells #[.int .i64 (n2:Int),.int .i64 t2,.slice pg C cg] 82 (0,0)):=by rw[←U];exact aE.o
   have ai:WQ.heap[j]?=some (RJC r (b:Int) M.term gv pre M.now M.vote dv (.slice p8 n8 c8) M.dead):=(Y.o.block j aN).trans Hc.o;have R:=zW (Below w1.heap.size w1 WQ.drew) (Y.o.trans ⟨rfl,rfl,rfl,Nat.le_refl _,fun _ _=>rfl⟩);clear U;go_wp2_with fail;refine ost (fun w':World=>w'.heap[w1.heap.size]?=some (.cells #[.int .i64 (n2:Int),.int .i64 t2,.slice pg C cg] 82 (0,0))∧w'.heap[j]?=some (RJC r (b:Int) M.term gv pre M.now M.vote dv (.slice p8 n8 c8) M.dead)) 17 (⟨(ah:WQ.drew.heap[w1.heap.size]?=_),(ai:WQ.drew.heap[j]?=_)⟩) fun d=>?_;generalize WQ.drew=J at *;refine otc 0 (v:=(.bool true)) rfl (fun W f=>by skip;go_simp;try with_reducible rfl) ?_;simp only[uZ];refine otc 1 (v:=(.bool true)) rfl (fun W f=>by skip;go_simp;try with_reducible rfl) ?_;simp only[uZ];refine Pl [2,3,4] ?_;iterate 3 (refine Pd rfl (by intro w f;have p0:=zAW f.1;have p1:=zAd f.1;have p2:=zAb f.1;have q0:=zAW f.2;have q8:=zAG f.2 (i:=8) rfl;go_simp;try with_reducible rfl) ?_;simp only[uZ])
   refine Pn ?_;refine otc 5 (v:=(.bool true)) rfl (fun W f=>by skip;go_simp;try with_reducible rfl) ?_;simp only[uZ];refine otc 6 (v:=(.bool true)) rfl (fun W f=>by skip;go_simp;try with_reducible rfl) ?_;simp only[uZ];refine otc 7 (v:=(.bool true)) rfl (fun W f=>by skip;go_simp;try with_reducible rfl) ?_;simp only[uZ];refine Pl [8,9,10,11,12,13,14] ?_;iterate 7 (refine Pd rfl (by intro w f;have p0:=zAW f.1;have p1:=zAd f.1;have p2:=zAb f.1;have q0:=zAW f.2;have q8:=zAG f.2 (i:=8) rfl;go_simp;try with_reducible rfl) ?_;simp only[uZ])
   refine Pn ?_;refine otc 15 (v:=(.bool true)) rfl (fun W f=>by skip;go_simp;try with_reducible rfl) ?_;simp only[uZ];refine otc 16 (v:=(.bool true)) rfl (fun W f=>by skip;go_simp;try with_reducible rfl) ?_;simp only[uZ];refine odn ?_;have aF:=zW (∀W,Below J.drew.heap.size J.drew W→zAM W 4 (.slice pa m (c8-k)) m (zA3 (M.entries.drop k) (vs.drop k))) fun W bi=>zAM.chg av.o (Chg.of_below ((R.o.trans ((⟨rfl,rfl,rfl,Nat.le_refl _,fun _ _=>rfl⟩:Below J.heap.size J J.drew).mono R.o.size)).trans (bi.mono R.o.size))) fun _ _=>id;have aD:=zW (Below w1.heap.size w1 J.drew) (R.o.trans ((⟨rfl,rfl,rfl,Nat.le_refl _,fun _ _=>rfl⟩:Below J.heap.size J J.drew).mono R.o.size));clear ah ai;go_wp2_with fail;refine zDa [25] (fun w':World=>w'.heap[w1.heap.size]?=some (.cells #[.int .i64 (n2:Int),.int .i64 t2,.slice pg C cg] 82 (0,0))∧w'.heap[j]?=some (RJC r (b:Int) M.term gv pre M.now M.vote dv (.slice p8 n8 c8) M.dead)) (n:=26) (by kernel_rfl) rfl (⟨(d.1:J.drew.heap[w1.heap.size]?=_),(d.2:J.drew.heap[j]?=_)⟩) fun d=>?_;generalize J.drew=W4 at *;refine Gl [0,2,3,4,5,6,7,8,9,10,11,12,13,14,15,16,17,18,19,20] ?_;iterate 20 (refine Gd rfl (by intro w f;have p0:=zAW f.1;have p1:=zAd f.1;have p2:=zAb f.1;have q0:=zAW f.2;have q8:=zAG f.2 (i:=8) rfl;go_simp;try with_reducible rfl) ?_;simp only[uZ])
   refine Gn ?_;refine zE4 21 (v:=.slice pa m (c8-k)) rfl (by kernel_rfl) (by kernel_rfl) (by kernel_rfl) (by kernel_rfl) (fun _ _ _ h=>h) (by rfl) (by assumption) (fun W f=>by have bu:=bg.o W;go_simp;try with_reducible rfl) ?_;simp only[uZ];refine zER 1 rfl (by kernel_rfl) (by rfl) (fun K E=>?_);have N:=zh (zAD W4 (.cells #[] 50));have ac:=zh (And.intro ((N.o.block w1.heap.size (zAB d.1)).trans d.1) ((N.o.block j (zAB d.2)).trans d.2));have s:=zh d;go_wp2_with fail;refine E.o _ _ (ac.o) fun d=>?_;clear E;try simp only[uZ]
   refine zER 22 rfl (by kernel_rfl) (by rfl) (fun K E=>?_);have T:=zh (zBO W4 50 4);have bh:=zh (aF.o _ N.o);refine zAn (.tmp 38) (.tmp 58) 78 rfl 50 i4 (.agg #[.int .i64 0,.int .i64 0,.slice none 0 0,.slice none 0 0]) 4 64 underlying78 ba be aC bf rfl (by decide) (.slice (some ⟨W4.heap.size,0,none⟩) 0 0) 0 [] rfl T.o (.slice pa m (c8-k)) m _ rfl bh.o aV.o (by unfold maxLen;omega) (by omega) ?_;intro v7 w7 af ar aA;have ag:=zh (copy_newE af ar aA);have aw:=zh (And.intro ((ag.o.2.2.block w1.heap.size (zAB s.o.1)).trans s.o.1) ((ag.o.2.2.block j (zAB s.o.2)).trans s.o.2));clear af ar aA T;obtain⟨p7,c7,rfl⟩:=OwnR.shape ag.o.1;go_wp2_with fail;refine E.o _ _ (aw.o) fun d=>?_;clear E;try simp only[uZ]
   refine Gl [23,24] ?_;iterate 2 (refine Gp rfl ?_;simp only[uZ])
   refine Gn ?_;refine g_end 25 rfl (by kernel_rfl) (by rfl) (by kernel_rfl) (fun K E=>?_);have bB:=zAG aw.o.2 (i:=8) rfl;have f8:=zAE aw.o.2 8;go_wp2_with fail;refine E.o _ _ ?_;clear E;try simp only[uZ]
   refine zE3 (by kernel_rfl) ?_ _;go_wp2_with fail;have aT:=zh (aD.o.trans (ag.o.2.2.mono aD.o.size));have HS:=zh (aU.o w7 aT.o p7 c7 (by rw[P];exact ag.o.1) fun y hy=>Nat.le_trans aD.o.size (ag.o.2.1 y hy));have l:=aw.o;have ak:=zh ((set_other (w:=w7) (a:=⟨j,8,none⟩) (.slice p7 m c7) (show w1.heap.size≠j by omega)).trans l.1);have ao:=zW ((w7.setCell ⟨j,8,none⟩ (.slice p7 m c7)).heap[j]?=some (RJC r (b:Int) M.term gv pre M.now M.vote dv (.slice p7 m c7) M.dead)) (by
    have h1:=zAC l.2 8 (.slice p7 m c7);simpa using h1)
   have am:=zW (zAM (w7.setCell ⟨j,8,none⟩ (.slice p7 m c7)) 1 (.slice pg C cg) C (g2.map (Value.int .i64))) (zAM.chg (zAM.chg Hg.o (Chg.of_below aT.o) fun _ _=>id) (Chg.setCell w7 ⟨j,8,none⟩ _) fun k hk=>aI.o k hk);clear l;generalize w7.setCell ⟨j,8,none⟩ (.slice p7 m c7)=I at *;have aa:=zW (I.drew.heap[j]?=some (RJC r (b:Int) M.term gv pre M.now M.vote dv (.slice p7 m c7) M.dead)) ao.o
  rotate_left
  focus
   have bm:((t:Int)==t2)=false:=by simpa using ax
   rw[if_neg (fun e=>by rw[ad]at e;exact ax (Option.some.inj e.2))]at P;subst P;rw[ad]at V;simp only[Option.getD_some,Option.isSome_some]at V;generalize aX:M.entries.length=n8 at *;generalize hb:M.number=b at *;go_enter func92,ntmps92;go_wp2_with fail;refine V.o.mono ?_;rintro e w2 ⟨rfl,q,rfl⟩;have X:=zh (au.o.trans (⟨rfl,rfl,rfl,Nat.le_refl _,fun _ _=>rfl⟩:Below w1.heap.size (w1.alloc (.cells #[.int .i64 (n2:Int),.int .i64 t2,.slice pg C cg] 82)) ((w1.alloc (.cells #[.int .i64 (n2:Int),.int .i64 t2,.slice pg C cg] 82)).drewN q)));have ap:=zh (aH.o _ X.o);go_wp2_with fail;refine ap.o.mono ?_;rintro e w3 ⟨rfl,q2,rfl⟩;generalize U:World.drewN (World.drewN _ _) _=WQ;have Y:=zW (Below w1.heap.size w1 WQ) (by rw[←U];exact X.o.trans ⟨rfl,rfl,rfl,Nat.le_refl _,fun _ _=>rfl⟩);have ah:WQ.heap[w1.heap.size]?=some (.cells #[.int .i64 (n2:Int),.int .i64 t2,.slice pg C cg] 82 (0,0)):=by rw[←U];exact aE.o
   have ai:WQ.heap[j]?=some (RJC r (b:Int) M.term gv pre M.now M.vote dv (.slice p8 n8 c8) M.dead):=(Y.o.block j aN).trans Hc.o;have R:=zW (Below w1.heap.size w1 WQ.drew) (Y.o.trans ⟨rfl,rfl,rfl,Nat.le_refl _,fun _ _=>rfl⟩);clear U;go_wp2_with fail;refine ost (fun w':World=>w'.heap[w1.heap.size]?=some (.cells #[.int .i64 (n2:Int),.int .i64 t2,.slice pg C cg] 82 (0,0))∧w'.heap[j]?=some (RJC r (b:Int) M.term gv pre M.now M.vote dv (.slice p8 n8 c8) M.dead)) 17 (⟨(ah:WQ.drew.heap[w1.heap.size]?=_),(ai:WQ.drew.heap[j]?=_)⟩) fun d=>?_;generalize WQ.drew=J at *;refine otc 0 (v:=(.bool true)) rfl (fun W f=>by skip;go_simp;try with_reducible rfl) ?_;simp only[uZ];refine otc 1 (v:=(.bool true)) rfl (fun W f=>by skip;go_simp;try with_reducible rfl) ?_;simp only[uZ];refine Pl [2,3,4] ?_;iterate 3 (refine Pd rfl (by intro w f;have p0:=zAW f.1;have p1:=zAd f.1;have p2:=zAb f.1;have q0:=zAW f.2;have q8:=zAG f.2 (i:=8) rfl;go_simp;try with_reducible rfl) ?_;simp only[uZ])
   refine Pn ?_;refine otc 5 (v:=(.bool false)) rfl (fun W f=>by skip;go_simp;try with_reducible rfl) ?_;simp only[uZ];refine otc 6 (v:=(.bool false)) rfl (fun W f=>by skip;go_simp;try with_reducible rfl) ?_;simp only[uZ];refine otc 7 (v:=(.bool false)) rfl (fun W f=>by skip;go_simp;try with_reducible rfl) ?_;simp only[uZ];refine Pl [8,9,10,11,12,13,14,15,16] ?_;iterate 9 ((first|refine Ps rfl ?_|refine Pd rfl (by intro w f;have p0:=zAW f.1;have p1:=zAd f.1;have p2:=zAb f.1;have q0:=zAW f.2;have q8:=zAG f.2 (i:=8) rfl;go_simp;try with_reducible rfl) ?_);simp only[uZ])
   refine Pn ?_;refine odn ?_;have l:=d;have aJ:=zAG d.2 (i:=8) rfl;have aK:=zAE d.2 8;go_wp2_with fail;have HS:=zh (ay.o J R.o);have ak:=zh ((set_other (w:=J) (a:=⟨j,8,none⟩) (.slice none 0 0) (show w1.heap.size≠j by omega)).trans l.1);have ao:=zW ((J.setCell ⟨j,8,none⟩ (.slice none 0 0)).heap[j]?=some (RJC r (b:Int) M.term gv pre M.now M.vote dv (.slice none 0 0) M.dead)) (by
    have h1:=zAC l.2 8 (.slice none 0 0);simpa using h1)
   have am:=zW (zAM (J.setCell ⟨j,8,none⟩ (.slice none 0 0)) 1 (.slice pg C cg) C (g2.map (Value.int .i64))) (zAM.chg (zAM.chg Hg.o (Chg.of_below R.o) fun _ _=>id) (Chg.setCell J ⟨j,8,none⟩ _) fun k hk=>aI.o k hk);clear aJ aK l d;generalize J.setCell ⟨j,8,none⟩ (.slice none 0 0)=I at *;have aa:=zW (I.drew.heap[j]?=some (RJC r (b:Int) M.term gv pre M.now M.vote dv (.slice none 0 0) M.dead)) ao.o
  all_goals
   have Q:=zh (⟨rfl,rfl,rfl,Nat.le_refl _,fun _ _=>rfl⟩:Below I.heap.size I I.drew);have Z:=zh (fun W (hb2:Below I.drew.heap.size I.drew W)=>zAM.chg (am.o) (Chg.of_below ((⟨rfl,rfl,rfl,Nat.le_refl _,fun _ _=>rfl⟩:Below I.heap.size I I.drew).trans hb2)) fun _ _=>id);refine ost (fun w':World=>w'.heap[w1.heap.size]?=some (.cells #[.int .i64 (n2:Int),.int .i64 t2,.slice pg C cg] 82 (0,0))) 13 ((ak.o:I.drew.heap[w1.heap.size]?=_)) fun d=>?_;generalize I.drew=W6 at *;refine Pl [0,1,2,3,4,6,7] ?_;iterate 7 (refine Pd rfl (by intro w f;have p0:=zAW f;have p1:=zAd f;have p2:=zAb f;go_simp;try with_reducible rfl) ?_;simp only[uZ])
   refine Pn ?_;refine oon 5 rfl fun K E=>?_;have N:=zh (zAD W6 (.cells #[] 3));have ac:=zh ((N.o.block w1.heap.size (zAB d)).trans d);have s:=zh d;go_wp2_with fail;refine E.o _ _ (ac.o) fun d=>?_;clear E;try simp only[uZ]
   refine oon 8 rfl fun K E=>?_;have T:=zh (zAx W6 3);have ab:=zh (Z.o _ N.o);refine zAn (.tmp 70) (.tmp 72) 38 rfl 3 i0 (.int .i64 0) 1 8 underlying38 hi aQ aR aS rfl (by decide) (.slice (some ⟨W6.heap.size,0,none⟩) 0 0) 0 [] rfl T.o (.slice pg C cg) C _ rfl ab.o (fun u hu=>by obtain⟨z,-,rfl⟩:=List.mem_map.1 hu;rfl) (by unfold maxLen;omega) (by omega) ?_;intro v9 w9 G A F;have S:=zh (zC5 G A F);have an:=zh ((S.o.2.2.block w1.heap.size (zAB s.o)).trans s.o);clear G A F T ab;obtain⟨p9,c9,rfl⟩:=OwnR.shape S.o.1;refine E.o _ _ (an.o) fun d=>?_;clear E;try simp only[uZ]
   refine Pl [9,10,11] ?_;iterate 3 (refine Pc rfl ?_;simp only[uZ])
   refine Pn ?_;refine oon 12 rfl fun K E=>?_;have B:=zh ((S.o.2.2.block j (zAB aa.o)).trans aa.o);have s0:=zAW B.o;have s1:=zAd B.o;have s2:=zAb B.o;have f0:=zAE B.o 0;have f1:=zAE B.o 1;have f2:=zAE B.o 2;have al:=zh ((set_other (w:=(w9.setCell ⟨j,0,none⟩ (.int .i64 (n2:Int))).setCell ⟨j,1,none⟩ (.int .i64 t2)) (a:=⟨j,2,none⟩) (.slice p9 C c9) (show w1.heap.size≠j by omega)).trans ((set_other (w:=w9.setCell ⟨j,0,none⟩ (.int .i64 (n2:Int))) (a:=⟨j,1,none⟩) (.int .i64 t2) (show w1.heap.size≠j by omega)).trans ((set_other (w:=w9) (a:=⟨j,0,none⟩) (.int .i64 (n2:Int)) (show w1.heap.size≠j by omega)).trans d)));go_wp2_with fail;refine E.o _ _ (al.o) fun d=>?_;clear E;try simp only[uZ]
   refine odn ?_;have HE:=zh (HS.o.trans fun az aj hF=>rj_base hF (Q.o.trans (S.o.2.2.mono Q.o.size)) (show zBe w9 (.slice p9 C c9) g2 by unfold zBe;rw[aG.o];exact OwnR.holds S.o.1) (fun k hk=>⟨Nat.le_trans Q.o.size (S.o.2.1 k hk),OwnR.lt S.o.1 hk⟩) aq.o);go_wp2_with fail;go_end0;first
    | exact⟨rfl,HE.o⟩
    | (have h9:=HE.o;rw[P]at h9;exact⟨rfl,h9⟩)
end
section
variable {w:World} {r:Nat} {v:Value} {L:List zAR} {own:Nat→Prop} {D:zAA}
theorem rsave_calls (h:zAc w r v L own D)(s:ByteArray)(F:s.size≤9223372036854775000){p:Option Addr}{m c:Nat}{l:Bs}(y:zAY w (.slice p m c) l)(E:l.length≤1048576) :
  Calls prog 138 #[.pointer (some ⟨r,0,none⟩),.string s,.slice p m c] w (zCo w r own (D.save (nm s) l)):=by
 have j:(nm s).length=s.size:=nm_len s
 by_cases b:(nm s).length<1∨60<(nm s).length
 ·have g:D.save (nm s) l=(D,1):=by unfold zAA.save;rw[if_pos b]
  rw[g];have d:=zh (zBV h (Below.refl _ _) 1);rw[j]at b;generalize R:s.size=z at *;clear g h y;have O:(decide ((z:Int)<1)||decide (60<(z:Int)))=true:=by simp;omega
  by_cases G:z<1
  ·have a:z=0:=by omega
   subst a
   go_enter func138,ntmps138
   go_wp2_with fail;go_ret;exact d.o
  ·have Q:60<z:=by omega
   go_enter func138,ntmps138
   go_wp2_with fail;go_ret;exact d.o
 ·have g:D.save (nm s) l=D.save1 (nm s) (zAK l):=by unfold zAA.save;rw[if_neg b]
  rw[g];have I:=zh (renc_calls y E);have A:=zh h;have J:=zh F;rw[j]at b;generalize G:s.size=z at *;have N:=zh G;have i:(zAK l).length≤140737488355328:=by rw[zAf];omega
  have q:=zh i;clear g h y E F i
  go_enter func138,ntmps138
  go_wp2_with fail;refine I.o.mono ?_;rintro e w2 ⟨v2,rfl,n,f,t⟩;obtain⟨W,S,rfl⟩:=n.slice;have M:=zh ((rwhole_calls (A.o.below t) s (by rw[N.o];exact J.o) n.has q.o (fun k C=>⟨fun P=>by have U:=f k C;have V:=A.o.olt k P;omega,OwnR.lt n C⟩)).mono fun e w' h=>rstep_below t h);clear n f t;go_wp2_with fail;refine M.o.mono ?_;intro e w3 B;have H:=zh B;obtain⟨rfl,-⟩:=B;generalize (D.save1 (nm s) (zAK l)).2=T at *;go_wp2_with fail;go_ret;exact H.o
end
section
variable {w w1 w2:World} {j r:Nat} {pre:ByteArray} {D:zAA} {M:zAJ} {Hot Cold:Nat→Prop}
theorem rj_data (h:RJF w j r pre D M Hot Cold)(a:Below w.heap.size w w2){m:Bs}{v2:Value}(G:zAY w2 v2 m)(d:∀k,v2.ownBlock=some k→w.heap.size≤k∧k<w2.heap.size)(ok:({M with data:=m}:zAJ).OK) :
  zAq w j r pre Hot Cold (w2.setCell ⟨j,7,none⟩ v2) D {M with data:=m}:=by
 have H:=h.hlt h.jhot;have g:∀k,Hot k→k<w.heap.size:=fun k b=>h.hlt b;obtain⟨O,own,t,dv,s,vs,v,L,c,z,y,C,n⟩:=h.below a;have hS:Chg (fun k=>k=j) w2 (w2.setCell ⟨j,7,none⟩ v2):=Chg.setCell w2 ⟨j,7,none⟩ _;have E:=zAC c.cells 7 v2;have p:∀k,v2.ownBlock=some k→k≠j:=fun k b e=>by
  have:=(d k b).1;omega
 have f:∀k,Cold k→k≠j:=fun k b e=>c.dis k b (e▸c.oj);generalize w2.setCell ⟨j,7,none⟩ v2=w3 at *;have o:zF3 w3 j r pre O (fun k=>Cold k∨v2.ownBlock=some k) {M with data:=m} t v2 s vs:={
  cells:=by simpa using E
  group:=zAM.chg c.group hS fun k b=>f k (c.cg k b)
  data:=zAM.chg G hS fun k b=>p k b
  row:=c.row.keep fun k b=>hS.block k (c.olt k (c.oe k b).1) (c.oe k b).2
  rlen:=c.rlen
  rows:=fun i e v F q=>(c.rows i e v F q).keep fun k b=>hS.block k (c.clt k (c.cv v (List.mem_of_getElem? q) k b)) (f k (c.cv v (List.mem_of_getElem? q) k b))
  oj:=c.oj
  oe:=c.oe
  cg:=fun k b=>.inl (c.cg k b)
  cd:=fun k b=>.inr b
  cv:=fun u I k b=>.inl (c.cv u I k b)
  dis:=fun k b l=>by
   rcases b with b|b
   ·exact c.dis k b l
   ·have A:=(d k b).1;have B:=g k ((n k).2 (.inl l));omega
  olt:=fun k b=>Nat.lt_of_lt_of_le (c.olt k b) hS.size
  clt:=fun k b=>Nat.lt_of_lt_of_le (b.elim (c.clt k) fun e=>(d k e).2) hS.size
  psz:=c.psz
  ok:=ok}
 refine⟨Hot,_,⟨O,own,t,v2,s,vs,v,L,o,z.keep hS.size (fun k b=>hS.block k (z.olt k b) fun e=>y j c.oj (e▸b)),y,fun k b l=>?_,n⟩,((Chg.of_below a).mono fun _ _ h=>h.elim).trans (hS.mono fun k _ e=>(n k).2 (.inl (e▸c.oj))) fun _ _ h=>h,fun k b=>.inl b,fun k b=>b.imp id fun e=>(d k e).1⟩;rcases b with b|b
 ·exact C k b l
 ·have A:=(d k b).1;have B:=g k ((n k).2 (.inr l));omega
theorem holds_keep0 {w w':World}{S:Nat→Prop}{size n:Nat}{v:Value}{xs:List Value}(h:zAM w size v n xs)(g:Chg S w w')(c:xs≠[]→∀k,v.ownBlock=some k→¬S k):zAM w' size v n xs:=by
 by_cases d:xs=[]
 ·subst d;obtain⟨j,p,b,rfl,f,-⟩:=h;exact⟨j,p,b,rfl,f,fun a m i u l=>by simp at l⟩
 ·exact zAM.chg h g (c d)
theorem ne_of_bytes {b:Bs}(h:zAQ b≠[]):b≠[]:=fun e=>h (by rw[e];rfl)
theorem zGb (h:RJF w1 j r pre D M Hot Cold){n2:Nat}{t2:Int}{g2:List Int}{dd:Bs}(cw:M.entries.length≤1000000)(ca:M.number<n2)(hs:(⟨n2,t2,g2,dd⟩:zDE).OK)(hd:dd.length≤524288){pg pd:Option Addr}{cg cd:Nat}(hg:zBe w1 (.slice pg g2.length cg) g2)(bm:∀k,(Value.slice pg g2.length cg).ownBlock=some k→¬Hot k)(aE:zAY w1 (.slice pd dd.length cd) dd)(bl:dd≠[]→∀k,(Value.slice pd dd.length cd).ownBlock=some k→¬Hot k) :
  Calls prog 120 #[.pointer (some ⟨j,0,none⟩),.agg #[.int .i64 (n2:Int),.int .i64 t2,.slice pg g2.length cg],.slice pd dd.length cd] w1 (zBz w1 j r pre Hot Cold (zA5 (nm pre) D M ⟨n2,t2,g2,dd⟩)):=by
 obtain⟨i0,hi,ag,ah,aG⟩:=info_parts (show(prog.info? 5).map (fun i=>(i.zero,i.size,i.bytes))=some (some (.int .u8 0),1,1) by kernel_rfl);have cA:n2≤1099511627776:=hs.number;have cD:=zAo.1 (show zDR t2=true from hs.term);have ck:g2.length≤7:=(zDt hs.group).2;have be:=zCi (show zAX g2=true from hs.group);have Hs:=zh hs;have cb:=h.hlt h.jhot;have bk:=zA9 [(n2:Int),t2];have cm:(zAp [(n2:Int),t2]).length≤18:=by simpa using bk
 have cl:=zGH g2 (by omega);have Hz:=zW (∀z∈g2,-9223372036854775808≤z∧z≤9223372036854775807) (fun z hz=>by have:=be.2 z hz;omega);unfold zBe at hg;unfold zAY at aE;generalize bf:g2.length=gl at *;generalize bc:dd.length=dl at *;have I:=zh bf;have ax:=zh bc;have Hg:=zh hg;have aR:=zh aE;have aU:=zh bm;have bQ:=zh bl;have H:=zh h;have bJ:=zh (zAI w1 (.cells #[.int .i64 (n2:Int),.int .i64 t2,.slice pg gl cg] 82));have bu:=zh (zAD w1 (.cells #[.int .i64 (n2:Int),.int .i64 t2,.slice pg gl cg] 82));have S:=zh (show zA5 (nm pre) D M ⟨n2,t2,g2,dd⟩=if(D.save (zBL (nm pre)) (zEk n2 t2 g2 dd)).2≠0 then⟨(D.save (zBL (nm pre)) (zEk n2 t2 g2 dd)).1,M.die,(D.save (zBL (nm pre)) (zEk n2 t2 g2 dd)).2⟩
  else if(zAU (D.save (zBL (nm pre)) (zEk n2 t2 g2 dd)).1 (nm pre) (M.rebase ⟨n2,t2,g2,dd⟩)).2≠0 then⟨(zAU (D.save (zBL (nm pre)) (zEk n2 t2 g2 dd)).1 (nm pre) (M.rebase ⟨n2,t2,g2,dd⟩)).1,(M.rebase ⟨n2,t2,g2,dd⟩).die,(zAU (D.save (zBL (nm pre)) (zEk n2 t2 g2 dd)).1 (nm pre) (M.rebase ⟨n2,t2,g2,dd⟩)).2⟩
  else⟨(zAU (D.save (zBL (nm pre)) (zEk n2 t2 g2 dd)).1 (nm pre) (M.rebase ⟨n2,t2,g2,dd⟩)).1,M.rebase ⟨n2,t2,g2,dd⟩,0⟩from rfl)
 generalize zA5 (nm pre) D M ⟨n2,t2,g2,dd⟩=aH at *;generalize bb:D.save (zBL (nm pre)) (zEk n2 t2 g2 dd)=Z1 at *;have bD:=zh bb;clear bb;have cB:=h.psz;have bn:(sSnp pre).size=pre.size+5:=zGe pre;obtain⟨gv,dv,ev,s⟩:=h.cellsD;have C3:=zW (w1.cell? ⟨j,3,none⟩=some (.pointer (some ⟨r,0,none⟩))) (zAG s rfl);have C4:=zW (w1.cell? ⟨j,4,none⟩=some (.string pre)) (zAG s rfl);have CJ:=zh s;clear s;have cC:(zFB dd).length≤600000:=by
  have J:=zAg (n:=dd.length) (by omega);have h2:(zFB dd).length=(zEB dd.length).length+dd.length:=by unfold zFB;rw[List.length_append]
  omega
 have HT:=zW (zAp [(n2:Int),t2]++zDs g2++zFB dd=zEk n2 t2 g2 dd) (by
  have J:zDj (n2:Int)=zEB n2:=zB7 (by omega);simp[zAp,zEk,J])
 clear h hs bf bc hg aE bm bl bk be
 go_enter func120,ntmps120
 go_wp2_with fail;generalize bX:w1.alloc (.cells #[.int .i64 (n2:Int),.int .i64 t2,.slice pg gl cg] 82)=WA at *;have bY:WA.heap[w1.heap.size]?=some (.cells #[.int .i64 (n2:Int),.int .i64 t2,.slice pg gl cg] 82 (0,0)):=bJ.o;have d:=zW (Below w1.heap.size w1 WA.drew) (bu.o.trans ⟨rfl,rfl,rfl,Nat.le_refl _,fun _ _=>rfl⟩);clear bX;refine ost (fun w':World=>w'.heap[w1.heap.size]?=some (.cells #[.int .i64 (n2:Int),.int .i64 t2,.slice pg gl cg] 82 (0,0))) 11 ((bY:WA.drew.heap[w1.heap.size]?=_)) fun b=>?_;generalize WA.drew=W1 at *;refine Pl [0,1,2,3,6,7] ?_
 iterate 6 (refine Pd rfl (by intro w az;have p0:=zAW az;have p1:=zAd az;have p2:=zAb az;go_simp;try with_reducible rfl) ?_;simp only[uZ])
 refine Pn ?_;refine oon 4 rfl fun K m=>?_;have HI:=zh (hasI_two W1 (n2:Int) t2 (W1.heap.size) rfl);have ar:=zh (zAD W1 (.cells #[.int .i64 (n2:Int),.int .i64 t2] 3));have g:=zh b;have bF:=zh ((zDG W1 (.cells #[.int .i64 (n2:Int),.int .i64 t2] 3) (zAB b)).trans b);go_wp2_with fail;refine m.o _ _ (bF.o) fun b=>?_;clear m
 try simp only[uZ]
 refine oon 5 rfl fun K m=>?_;have aT:=zh (zB4 HI.o (by simp;omega) (by simp));go_wp2_with fail;refine aT.o.mono ?_;rintro e w3 ⟨x,rfl,aF,bp,aA⟩;have bG:=zh ((aA.block _ (zAB b)).trans b);have aK:=zW (zCn W1 w3 x (zAp [(n2:Int),t2])) (⟨aF,fun k hk=>Nat.le_trans ar.o.size (bp k hk),ar.o.trans (aA.mono ar.o.size)⟩);obtain⟨px,cx,rfl,-⟩:=zAN aF;clear aF bp aA;generalize aY:(zAp [(n2:Int),t2]).length=m2 at *;have O:=zh aY;clear aY;go_wp2_with fail;refine m.o _ _ (bG.o) fun b=>?_;clear m
 try simp only[uZ]
 refine oon 8 rfl fun K m=>?_;have bP:=zh (zDB (w:=w3) (p:=pg) (n:=gl) (c:=cg) (l:=g2) (by have:=Hg.o;unfold zBe;rw[I.o];exact zAM.chg this (Chg.of_below (d.o.trans (aK.o.bel.mono d.o.size))) fun _ _=>id) Hz.o (by rw[I.o];omega));go_wp2_with fail;refine bP.o.mono ?_;rintro e w4 ⟨y,rfl,hy,ce,aB⟩;have bH:=zh ((aB.block _ (zAB b)).trans b);have aL:=zh (aK.o.next aB);have bC:=zh (zAj.has hy);obtain⟨py,cy,rfl,-⟩:=zAN hy;clear hy ce aB;generalize aZ:(zDs g2).length=m3 at *;have Q:=zh aZ;clear aZ;go_wp2_with fail;refine m.o _ _ (bH.o) fun b=>?_;clear m
 try simp only[uZ]
 have a:=zh (show OwnR w4 5 1 (.slice px m2 cx) m2 (zAQ (zAp [(n2:Int),t2])) by have:=aL.o.own;unfold zAj at this;rwa[O.o]at this);have A:=zh (show zAM w4 1 (.slice py m3 cy) m3 (zAQ (zDs g2)) by have:=bC.o;unfold zAY at this;rwa[Q.o]at this);refine oon 9 rfl fun K m=>?_;refine zAn (.tmp 14) (.tmp 17) 22 rfl 5 i0 (.int .u8 0) 1 1 underlying22 hi ag ah aG rfl (by decide) (.slice px m2 cx) m2 _ rfl a.o (.slice py m3 cy) m3 _ rfl A.o (zAO _) (by unfold maxLen;omega) (by omega) ?_;intro v5 w5 B F X;have R:=zh (zCn.grown (x:=zDs g2) aL.o (by rw[O.o,Q.o];exact B) F X);have bI:=zh ((R.o.bel.block _ (zAB g.o)).trans g.o);obtain⟨p5,c5,rfl⟩:=OwnR.shape B;clear B F X a A;refine m.o _ _ (bI.o) fun b=>?_;clear m
 try simp only[uZ]
 refine otk 10 (v:=?v1x10) rfl ?_;simp only[uZ];refine odn ?_;go_wp2_with fail;have bU:=zAH C3.out (d.o.trans (R.o.bel.mono d.o.size));have bV:=zAH C4.out (d.o.trans (R.o.bel.mono d.o.size));have bB:=zW (Below w1.heap.size w1 w5.drew) ((d.o.trans (R.o.bel.mono d.o.size)).trans ⟨rfl,rfl,rfl,Nat.le_refl _,fun _ _=>rfl⟩);have bA:=zh (R.o.next (zAV w5));have bO:=zW (zAY w1 (.slice pd dl cd) dd) (by unfold zAY;rw[ax.o];exact aR.o);refine ost (fun w':World=>w'.cell? ⟨j,3,none⟩=some (.pointer (some ⟨r,0,none⟩))∧w'.cell? ⟨j,4,none⟩=some (.string pre)) 15 ((And.intro (bU:w5.drew.cell? _=_) (bV:w5.drew.cell? _=_))) fun b=>?_;generalize w5.drew=W6 at *;refine Pl [0,1,2,3,4,5,6,7,8,9,10] ?_
 iterate 11 (refine Pc rfl ?_;simp only[uZ])
 refine Pn ?_;refine oon 11 rfl fun K m=>?_;have bK:=zh (zGV (w:=W6) (p:=pd) (n:=dl) (c:=cd) (l:=dd) (zAM.chg bO.o (Chg.of_below bB.o) fun _ _=>id) (by rw[ax.o];omega));go_wp2_with fail;refine bK.o.mono ?_;rintro e w7 ⟨z,rfl,hz,cf,ae⟩;have bL:=zh (And.intro (zAH b.1 ae) (zAH b.2 ae));have aM:=zh (bA.o.next ae);have bE:=zh (zAj.has hz);obtain⟨pz,cz,rfl,-⟩:=zAN hz;clear hz cf ae;generalize ba:(zFB dd).length=m4 at *;have aw:=zh ba;clear ba;go_wp2_with fail;refine m.o _ _ (bL.o) fun b=>?_;clear m
 try simp only[uZ]
 have a:=zh (show OwnR w7 5 1 (.slice p5 (m2+m3) c5) (m2+m3) (zAQ (zAp [(n2:Int),t2]++zDs g2)) by have:=aM.o.own;unfold zAj at this;rwa[List.length_append,O.o,Q.o]at this);have A:=zh (show zAM w7 1 (.slice pz m4 cz) m4 (zAQ (zFB dd)) by have:=bE.o;unfold zAY at this;rwa[aw.o]at this);refine oon 12 rfl fun K m=>?_;refine zAn (.tmp 28) (.tmp 30) 22 rfl 5 i0 (.int .u8 0) 1 1 underlying22 hi ag ah aG rfl (by decide) (.slice p5 (m2+m3) c5) (m2+m3) _ rfl a.o (.slice pz m4 cz) m4 _ rfl A.o (zAO _) (by unfold maxLen;omega) (by omega) ?_;intro v8 w8 C G Y;have ac:=zh (zCn.grown (x:=zFB dd) aM.o (by rw[List.length_append,O.o,Q.o,aw.o];exact C) G Y);have t:=zh (d.o.trans (ac.o.bel.mono d.o.size));have bM:=zh (And.intro (zAH C3.out t.o) (zAH C4.out t.o));obtain⟨p8,c8,rfl⟩:=OwnR.shape C;clear C G Y a A;refine m.o _ _ (bM.o) fun b=>?_;clear m
 try simp only[uZ]
 refine oon 13 rfl fun K m=>?_;have bw:=zW ((zEk n2 t2 g2 dd).length=m2+m3+m4) (by rw[←HT.o,List.length_append,List.length_append,O.o,Q.o,aw.o]);have bT:=zW (zAY w8 (.slice p8 (m2+m3+m4) c8) (zEk n2 t2 g2 dd)) (by have:=ac.o.own.has;rwa[HT.o]at this);have bS:=zh (rj_disk (P:=prog) (f:=138) (args:=#[.pointer (some ⟨r,0,none⟩),.string (sSnp pre),.slice p8 (m2+m3+m4) c8]) (Re:=Z1) (H.o.below t.o) (Below.refl _ _) fun v L own hR Z=>by
  have J:=rsave_calls hR (sSnp pre) (by rw[bn];omega) bT.o (by rw[bw.o];omega);rw[nm_snp]at J;rw[←bD.o];exact J)
 go_wp2_with fail;refine bS.o.mono ?_;rintro e w9 ⟨rfl,bo,bj⟩;have ab:=zh (bj.trans ((t.o.block j cb).trans CJ.out));have bN:=zW (w9.cell? ⟨j,3,none⟩=some (.pointer (some ⟨r,0,none⟩))∧w9.cell? ⟨j,4,none⟩=some (.string pre)) (⟨zAu ab.o,cell4 ab.o⟩);have aO:=zh bo;clear bo bj;go_wp2_with fail;refine m.o _ _ (bN.o) fun b=>?_;clear m
 try simp only[uZ]
 refine otk 14 (v:=?v2x14) rfl ?_;simp only[uZ];refine odn ?_;obtain⟨D1,e1⟩:=Z1;dsimp only at aO;obtain⟨ak,N,ad,q,af,E⟩:=aO.o;have T:w9.heap[w1.heap.size]?=some (.cells #[.int .i64 (n2:Int),.int .i64 t2,.slice pg gl cg] 82 (0,0)):=(q.block w1.heap.size (zAB ((ac.o.bel.block _ (zAB g.o)).trans g.o)) fun ho=>by have:=H.o.hlt ho;omega).trans ((ac.o.bel.block _ (zAB g.o)).trans g.o);have aJ:=zh ad;have aV:=zh (zAq.since ⟨ak,N,ad,q,af,E⟩ t.o)
 by_cases he:e1=0
 ·subst he;have ao:zBe w9 (.slice pg gl cg) g2:=zAM.chg (show zBe w8 (.slice pg gl cg) g2 by unfold zBe;rw[I.o];exact zAM.chg Hg.o (Chg.of_below t.o) fun _ _=>id) q fun k hk=>aU.o k hk;have y0:=zAW T;have y1:=zAd T;have y2:=zAb T;have bR:=zW (Calls prog 92 #[.pointer (some ⟨j,0,none⟩),.agg #[.int .i64 (n2:Int),.int .i64 t2,.slice pg gl cg]] w9 fun e w'=>e=.returned (.tuple #[])∧zAq w9 j r pre ak N w' D1 (M.rebase ⟨n2,t2,g2,M.data⟩)) (by
   have J:=zFh (pg:=pg) (cg:=cg) (g2:=g2) (t2:=t2) aJ.o ca ⟨Hs.o.number,Hs.o.term,Hs.o.group,aJ.o.okM.data⟩ (by rw[I.o];exact ao) (by rw[I.o];exact fun k hk e=>aU.o k hk (e▸H.o.jhot));rwa[I.o]at J)
  have au:=zh (And.intro q (And.intro af E));have cv:((0:Int)==0)=true:=by decide
  clear q af E ad T ao;go_wp2_with fail;refine bR.o.mono ?_;rintro e ai ⟨rfl,aq⟩;obtain⟨ch,bs,ay,V,bg,am⟩:=zAq.comp au.o.1 au.o.2.1 au.o.2.2 aq;have bv:=zh ay;have av:=zh (And.intro V (And.intro bg am));have A:=zW (zAM (ai.alloc (.cells #[] 5)) 1 (.slice pd dl cd) dl (zAQ dd)) (zAM.chg (holds_keep0 (zAM.chg aR.o (Chg.of_below t.o) fun _ _=>id) V fun cc=>bQ.o (ne_of_bytes cc)) (Chg.of_below (zAD ai _)) fun _ _=>id);have aP:=zh (zAx ai 5);have aS:=zh (ay.cellsD);clear aq V bg am ay y0 y1 y2;go_wp2_with (at_builtin;refine zAP _ rfl (.tmp 39) (.tmp 40) 22 rfl 5 i0 (.int .u8 0) 1 1 underlying22 hi ag ah aG rfl (by decide) (.slice (some ⟨ai.heap.size,0,none⟩) 0 0) 0 [] rfl aP.o (.slice pd dl cd) dl _ rfl A.o (zAO _) (by unfold maxLen;omega) (by omega) ?_;intro cE br Z W ap;have HN:=zh (copy_new ax.o Z W ap);clear Z W ap A aP;obtain⟨ct,cp,cr,aC⟩:=aS.o;have U:=(HN.o.2.2.block j (zAB aC)).trans aC;have c7:=zAG U (i:=7) rfl;have f7:=zAE U 7;clear aC U;obtain⟨bq,aW,rfl,-⟩:=zAN HN.o.1)
  have aN:=zW (zAq w8 j r pre Hot Cold (br.setCell ⟨j,7,none⟩ (.slice bq dd.length aW)) D1 (M.rebase ⟨n2,t2,g2,dd⟩)) (zAq.comp av.o.1 av.o.2.1 av.o.2.2 (rj_data bv.o HN.o.2.2 HN.o.1.has (fun k hk=>⟨HN.o.2.1 k hk,OwnR.lt HN.o.1 hk⟩) (zGY H.o.okM Hs.o)));obtain⟨ci,bt,aX,al,bh,an⟩:=aN.o;have bZ:(M.rebase ⟨n2,t2,g2,dd⟩).entries.length≤1000000:=by
   show(if M.number<n2∧M.termAt n2=some t2 then M.entries.drop (n2-M.number)else []).length≤_
   split
   ·rw[List.length_drop];omega
   ·simp
  have aQ:=zh (rjanew_calls aX bZ);generalize br.setCell ⟨j,7,none⟩ (.slice bq dd.length aW)=cF at *
  try dsimp only at S
  generalize zAU D1 (nm pre) (M.rebase ⟨n2,t2,g2,dd⟩)=Z2 at *;obtain⟨D2,e2⟩:=Z2
  try dsimp only at S
  try dsimp only at aQ
  refine aQ.o.mono ?_;rintro e aI ⟨rfl,aa,bi⟩;obtain⟨cu,cq,cs,aD⟩:∃gv dv ev,aI.heap[j]?=some (RJC r ((M.rebase ⟨n2,t2,g2,dd⟩).number:Int) (M.rebase ⟨n2,t2,g2,dd⟩).term gv pre (M.rebase ⟨n2,t2,g2,dd⟩).now (M.rebase ⟨n2,t2,g2,dd⟩).vote dv ev (M.rebase ⟨n2,t2,g2,dd⟩).dead):=by
   obtain⟨_,_,bW,_⟩:=aa;exact bW.cellsD
  have c9:=zAG aD (i:=9) rfl;have f9:=zAE aD 9;have aj:=zh ((zAq.comp al bh an aa).since t.o);clear aa bi aX al bh an aD
  by_cases bd:e2=0
  ·subst bd;have cj:((0:Int) != 0)=false:=by decide
   have HE:=zW (zBz w1 j r pre Hot Cold aH (.returned (.int .i64 0)) aI) (by
    have J:=S.o;rw[if_neg (fun h=>h rfl),if_neg (fun h=>h rfl)]at J;rw[J];exact⟨rfl,aj.o⟩)
   clear c9 f9;go_wp2_with fail;go_ret;exact HE.o
  ·have cn:((e2:Int) != 0)=true:=by simp;omega
   have co:((e2:Int)==0)=false:=by simp;omega
   have HE:=zW (zBz w1 j r pre Hot Cold aH (.returned (.int .i64 (e2:Int))) (aI.setCell ⟨j,9,none⟩ (.bool true))) (by
    have J:=S.o;rw[if_neg (fun h=>h rfl),if_pos bd]at J;rw[J];exact⟨rfl,zAq.trans aj.o fun _ _ hF=>rj_die hF⟩)
   go_wp2_with fail;go_ret;exact HE.o
 ·have ag:((e1:Int)==0)=false:=by simp;omega
  have ah:((e1:Int) != 0)=true:=by simp;omega
  have c9:=zAG ab.o (i:=9) rfl;have f9:=zAE ab.o 9;have HE:=zW (zBz w1 j r pre Hot Cold aH (.returned (.int .i64 (e1:Int))) (w9.setCell ⟨j,9,none⟩ (.bool true))) (by
   rw[S.o,if_pos he];exact⟨rfl,zAq.trans aV.o fun _ _ hF=>rj_die hF⟩)
  clear q af E ad T;go_wp2_with fail;go_ret;exact HE.o
end
end Go.Proofs.YtapfnehdgailmaaGreat
