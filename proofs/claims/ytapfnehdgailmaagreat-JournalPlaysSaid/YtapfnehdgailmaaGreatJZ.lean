/- What the program's functions and the document's do, and plain laws, for PJournalPlays. -/
import Derived.Test.YtapfnehdgailmaaGreatJB
import Derived.Test.YtapfnehdgailmaaGreatJK
import Derived.Test.YtapfnehdgailmaaGreatJV
import Derived.Test.YtapfnehdgailmaaGreatJY
open Go.Proofs.Tryz
set_option maxRecDepth 100000
set_option maxHeartbeats 64000000
namespace Go.Proofs.YtapfnehdgailmaaGreat
open Go.RowKit Go.Sat Go.Maps
section
variable {w w1 w2:World} {j r:Nat} {pre:ByteArray} {D:zAA} {M:zAJ} {Hot Cold:Nat→Prop}
theorem zFZ (h:RJF w1 j r pre D M Hot Cold){n2:Nat}{t2:Int}{g2:List Int}(aZ:M.number<n2)(hs:(⟨n2,t2,g2,M.data⟩:zDP).OK){pg:Option Addr}{cg:Nat}(hg:zBY w1 (.slice pg g2.length cg) g2)(bc:∀k,(Value.slice pg g2.length cg).ownBlock=some k→k≠j) :
  Calls prog 92 #[.pointer (some ⟨j,0,none⟩),.agg #[.int .i64 (n2:Int),.int .i64 t2,.slice pg g2.length cg]] w1 fun e w'=>e=.returned (.tuple #[])∧zAq w1 j r pre Hot Cold w' D (M.rebase ⟨n2,t2,g2,M.data⟩):=by
 obtain⟨i0,hi,aQ,aR,aS⟩:=info_parts (show(prog.info? 3).map (fun i=>(i.zero,i.size,i.bytes))=some (some (.int .i64 0),1,8) by kernel_rfl);obtain⟨i4,ba,be,aC,bf⟩:=info_parts (show(prog.info? 50).map (fun i=>(i.zero,i.size,i.bytes))=some (some (.agg #[.int .i64 0,.int .i64 0,.slice none 0 0,.slice none 0 0]),4,64) by kernel_rfl);have bt:n2≤1099511627776:=hs.number;have bq:g2.length≤7:=(zEP hs.group).2;have aq:=zh (rebase_ok h.okM hs);have bj:=h.okM.last;have aN:=h.hlt h.jhot;have aW:=zW (M.rebase ⟨n2,t2,g2,M.data⟩={M with number:=n2,term:=t2,group:=g2,entries:=if M.number<n2∧M.termAt n2=some t2 then M.entries.drop (n2-M.number)else [] }) rfl;rw[aW.o]at aq;rw[aW.o];obtain⟨es,P⟩:∃es,es=(if M.number<n2∧M.termAt n2=some t2 then M.entries.drop (n2-M.number)else []):=⟨_,rfl⟩;rw[←P]at aq ⊢;unfold zBY at hg;generalize aY:g2.length=C at *;have aG:=zh aY;have Hg:=zh hg;have aI:=zh bc;have H:=zh h;have au:=zh (zAD w1 (.cells #[.int .i64 (n2:Int),.int .i64 t2,.slice pg C cg] 82));have aE:=zh (zAI w1 (.cells #[.int .i64 (n2:Int),.int .i64 t2,.slice pg C cg] 82));have V:=zh (zFa (h.below au.o) (n2:Int) (by omega));have aH:=zh (fun W (hb:Below w1.heap.size w1 W)=>zDm (h.below hb));obtain⟨O,own,gv,dv,ev,vs,v0,L,hJ,aM,hO,aL,hH⟩:=id h;obtain⟨p8,c8,ae⟩:=hJ.row.shape;have bb:M.entries.length≤c8:=by
  rcases hJ.row.2 with⟨h8,h0⟩|⟨g,bn,cur,h8,-,bl,-⟩
  ·omega
  ·rw[ae]at h8;cases h8;exact bl
 have HX:=zh (And.intro hJ (And.intro aM (And.intro hO (And.intro aL (And.intro hH ae)))));have Hc:=zW (w1.heap[j]?=some (RJC r (M.number:Int) M.term gv pre M.now M.vote dv (.slice p8 M.entries.length c8) M.dead)) (by rw[←ae];exact hJ.cells);have br:M.last=M.number+M.entries.length:=rfl;have ay:=zh (fun(W:World) (hb:Below w1.heap.size w1 W)=>show zAq w1 j r pre Hot Cold (W.setCell ⟨j,8,none⟩ (.slice none 0 0)) D {M with entries:=[] } by
  have h1:=rj_drop (k:=M.entries.length) (p:=none) (n:=0) (c:=0) h hb hJ aM hO aL hH (by rw[List.drop_length,entsC_nil];exact OwnR.nil _ _ _) (by rw[List.drop_length];rfl) (fun y hy=>by cases hy);rwa[List.drop_length]at h1)
 clear h hs aY hg bc hJ aM hO aL hH ae;cases ad:M.termAt (n2:Int)with
 | none =>
  rw[if_neg (fun e=>by rw[ad]at e;cases e.2)]at P;subst P;rw[ad]at V;simp only[Option.getD_none,Option.isSome_none]at V;generalize aX:M.entries.length=n8 at *;generalize hb:M.number=b at *
  go_enter func92,ntmps92
  go_wp2_with fail;refine V.o.mono ?_;rintro e w2 ⟨rfl,q,rfl⟩;have X:=zh (au.o.trans (⟨rfl,rfl,rfl,Nat.le_refl _,fun _ _=>rfl⟩:Below w1.heap.size (w1.alloc (.cells #[.int .i64 (n2:Int),.int .i64 t2,.slice pg C cg] 82)) ((w1.alloc (.cells #[.int .i64 (n2:Int),.int .i64 t2,.slice pg C cg] 82)).drewN q)));have ap:=zh (aH.o _ X.o);go_wp2_with fail;refine ap.o.mono ?_;rintro e w3 ⟨rfl,q2,rfl⟩;generalize U:World.drewN (World.drewN _ _) _=WQ;have Y:=zW (Below w1.heap.size w1 WQ) (by rw[←U];exact X.o.trans ⟨rfl,rfl,rfl,Nat.le_refl _,fun _ _=>rfl⟩);have ah:WQ.heap[w1.heap.size]?=some (.cells #[.int .i64 (n2:Int),.int .i64 t2,.slice pg C cg] 82 (0,0)):=by rw[←U];exact aE.o
  have ai:WQ.heap[j]?=some (RJC r (b:Int) M.term gv pre M.now M.vote dv (.slice p8 n8 c8) M.dead):=(Y.o.block j aN).trans Hc.o;have R:=zW (Below w1.heap.size w1 WQ.drew) (Y.o.trans ⟨rfl,rfl,rfl,Nat.le_refl _,fun _ _=>rfl⟩);clear U;go_wp2_with fail;refine ost (fun w':World=>w'.heap[w1.heap.size]?=some (.cells #[.int .i64 (n2:Int),.int .i64 t2,.slice pg C cg] 82 (0,0))∧w'.heap[j]?=some (RJC r (b:Int) M.term gv pre M.now M.vote dv (.slice p8 n8 c8) M.dead)) 17 (⟨(ah:WQ.drew.heap[w1.heap.size]?=_),(ai:WQ.drew.heap[j]?=_)⟩) fun d=>?_;generalize WQ.drew=J at *;refine Pl [0,1,2,3,4,5,6,7,8,9,10,11,12,13,14,15,16] ?_
  iterate 17 ((first|refine Ps rfl ?_|refine Pd rfl (by intro w f;have p0:=zAU f.1;have p1:=zAY f.1;have p2:=zAX f.1;have q0:=zAU f.2;have q8:=zAG f.2 (i:=8) rfl;go_simp;try with_reducible rfl) ?_);simp only[uZ])
  refine Pn ?_;refine odn ?_;have l:=d;have aJ:=zAG d.2 (i:=8) rfl;have aK:=zAE d.2 8;go_wp2_with fail;have HS:=zh (ay.o J R.o);have ak:=zh ((set_other (w:=J) (a:=⟨j,8,none⟩) (.slice none 0 0) (show w1.heap.size≠j by omega)).trans l.1);have ao:=zW ((J.setCell ⟨j,8,none⟩ (.slice none 0 0)).heap[j]?=some (RJC r (b:Int) M.term gv pre M.now M.vote dv (.slice none 0 0) M.dead)) (by
   have h1:=zAC l.2 8 (.slice none 0 0);simpa using h1)
  have am:=zW (zAK (J.setCell ⟨j,8,none⟩ (.slice none 0 0)) 1 (.slice pg C cg) C (g2.map (Value.int .i64))) (zAK.chg (zAK.chg Hg.o (Chg.of_below R.o) fun _ _=>id) (Chg.setCell J ⟨j,8,none⟩ _) fun k hk=>aI.o k hk);clear aJ aK l d;generalize J.setCell ⟨j,8,none⟩ (.slice none 0 0)=I at *;have aa:=zW (I.drew.heap[j]?=some (RJC r (b:Int) M.term gv pre M.now M.vote dv (.slice none 0 0) M.dead)) ao.o;have Q:=zh (⟨rfl,rfl,rfl,Nat.le_refl _,fun _ _=>rfl⟩:Below I.heap.size I I.drew);have Z:=zh (fun W (hb2:Below I.drew.heap.size I.drew W)=>zAK.chg (am.o) (Chg.of_below ((⟨rfl,rfl,rfl,Nat.le_refl _,fun _ _=>rfl⟩:Below I.heap.size I I.drew).trans hb2)) fun _ _=>id);refine ost (fun w':World=>w'.heap[w1.heap.size]?=some (.cells #[.int .i64 (n2:Int),.int .i64 t2,.slice pg C cg] 82 (0,0))) 13 ((ak.o:I.drew.heap[w1.heap.size]?=_)) fun d=>?_;generalize I.drew=W6 at *;refine Pl [0,1,2,3,4,6,7] ?_
  iterate 7 (refine Pd rfl (by intro w f;have p0:=zAU f;have p1:=zAY f;have p2:=zAX f;go_simp;try with_reducible rfl) ?_;simp only[uZ])
  refine Pn ?_;refine oon 5 rfl fun K E=>?_;have N:=zh (zAD W6 (.cells #[] 3));have ac:=zh ((N.o.block w1.heap.size (zAB d)).trans d);have s:=zh d;go_wp2_with fail;refine E.o _ _ (ac.o) fun d=>?_;clear E
  try simp only[uZ]
  refine oon 8 rfl fun K E=>?_;have T:=zh (zAx W6 3);have ab:=zh (Z.o _ N.o);refine zAm (.tmp 70) (.tmp 72) 38 rfl 3 i0 (.int .i64 0) 1 8 underlying38 hi aQ aR aS rfl (by decide) (.slice (some ⟨W6.heap.size,0,none⟩) 0 0) 0 [] rfl T.o (.slice pg C cg) C _ rfl ab.o (fun u hu=>by obtain⟨z,-,rfl⟩:=List.mem_map.1 hu;rfl) (by unfold maxLen;omega) (by omega) ?_;intro v9 w9 G A F;have S:=zh (zC0 G A F);have an:=zh ((S.o.2.2.block w1.heap.size (zAB s.o)).trans s.o);clear G A F T ab;obtain⟨p9,c9,rfl⟩:=OwnR.shape S.o.1;refine E.o _ _ (an.o) fun d=>?_;clear E
  try simp only[uZ]
  refine Pl [9,10,11] ?_
  iterate 3 (refine Pc rfl ?_;simp only[uZ])
  refine Pn ?_;refine oon 12 rfl fun K E=>?_;have B:=zh ((S.o.2.2.block j (zAB aa.o)).trans aa.o);have s0:=zAU B.o;have s1:=zAY B.o;have s2:=zAX B.o;have f0:=zAE B.o 0;have f1:=zAE B.o 1;have f2:=zAE B.o 2;have al:=zh ((set_other (w:=(w9.setCell ⟨j,0,none⟩ (.int .i64 (n2:Int))).setCell ⟨j,1,none⟩ (.int .i64 t2)) (a:=⟨j,2,none⟩) (.slice p9 C c9) (show w1.heap.size≠j by omega)).trans ((set_other (w:=w9.setCell ⟨j,0,none⟩ (.int .i64 (n2:Int))) (a:=⟨j,1,none⟩) (.int .i64 t2) (show w1.heap.size≠j by omega)).trans ((set_other (w:=w9) (a:=⟨j,0,none⟩) (.int .i64 (n2:Int)) (show w1.heap.size≠j by omega)).trans d)));go_wp2_with fail;refine E.o _ _ (al.o) fun d=>?_;clear E
  try simp only[uZ]
  refine odn ?_;have HE:=zh (HS.o.trans fun az aj hF=>rj_base hF (Q.o.trans (S.o.2.2.mono Q.o.size)) (show zBY w9 (.slice p9 C c9) g2 by unfold zBY;rw[aG.o];exact OwnR.holds S.o.1) (fun k hk=>⟨Nat.le_trans Q.o.size (S.o.2.1 k hk),OwnR.lt S.o.1 hk⟩) aq.o);go_wp2_with fail
  go_end0
  first
   | exact⟨rfl,HE.o⟩
   | (have h9:=HE.o;rw[P]at h9;exact⟨rfl,h9⟩)
 | some t =>
  by_cases ax:t=t2
  focus
   have bd:=ax.symm;clear ax;subst bd;rw[if_pos ⟨aZ,ad⟩]at P;have bk:=termAt_le ad;obtain⟨k,hk⟩:∃k,k=n2-M.number:=⟨_,rfl⟩;rw[←hk]at P;have aO:k≤M.entries.length:=by omega
   obtain⟨m,hm⟩:∃m,m=M.entries.length-k:=⟨_,rfl⟩;obtain⟨pa,aP⟩:∃pa,pa=(if c8-k=0 then p8 else p8.map fun x=>x.add (k*4)):=⟨_,rfl⟩;have bg:=zh (fun(W:World)=>show(Instr.slice 78 (.slice p8 M.entries.length c8) (some (.int .i64 (k:Int))) (some (.int .i64 (M.entries.length:Int))) none).run prog W=.ok (.slice pa m (c8-k)) W by
    have h1:=run_ab W underlying78 ba p8 M.entries.length c8 k M.entries.length aO bb;rw[aC]at h1;rw[aP,hm];exact h1)
   have av:=zW (zAK w1 4 (.slice pa m (c8-k)) m (zA3 (M.entries.drop k) (vs.drop k))) (by
    have aB:=HX.o.1.row;rw[HX.o.2.2.2.2.2]at aB;rw[entsC_drop k _ _ HX.o.1.rlen,aP,hm];exact OwnR.cut_from aB aO)
   have aV:=zh (zEs (M.entries.drop k) (vs.drop k) fun v hv=>HX.o.1.one v (List.mem_of_mem_drop hv));have aU:=zh (fun(W:World) (hb:Below w1.heap.size w1 W) (p:Option Addr) (c:Nat) (af:OwnR W 50 4 (.slice p m c) m (zA3 (M.entries.drop k) (vs.drop k))) (hnew:∀y,(Value.slice p m c).ownBlock=some y→w1.heap.size≤y)=>rj_drop H.o hb HX.o.1 HX.o.2.1 HX.o.2.2.1 HX.o.2.2.2.1 HX.o.2.2.2.2.1 af (by rw[List.length_drop,hm]) hnew);rw[←P]at aU;have bv:IntKind.i64.wrap ((n2:Int)-(M.number:Int))=(k:Int):=by rw[IntWalk.i64_in _ (by omega)];omega
   have bw:IntKind.i64.wrap ((M.number:Int)+(M.entries.length:Int)-(M.number:Int))=(M.entries.length:Int):=by rw[IntWalk.i64_in _ (by omega)];omega
   have bA:IntKind.i64.wrap (M.entries.length:Int)=(M.entries.length:Int):=IntWalk.i64_in _ (by omega);have bo:decide ((M.number:Int)<(n2:Int))=true:=decide_eq_true (by omega);have bp:decide (M.number<n2)=true:=decide_eq_true aZ;have bs:m≤1099511627776:=by omega
   clear hk hm aP bk aO;rw[ad]at V;simp only[Option.getD_some,Option.isSome_some]at V;generalize aX:M.entries.length=n8 at *;generalize hb:M.number=b at *;go_enter func92,ntmps92;go_wp2_with fail;refine V.o.mono ?_;rintro e w2 ⟨rfl,q,rfl⟩;have X:=zh (au.o.trans (⟨rfl,rfl,rfl,Nat.le_refl _,fun _ _=>rfl⟩:Below w1.heap.size (w1.alloc (.cells #[.int .i64 (n2:Int),.int .i64 t2,.slice pg C cg] 82)) ((w1.alloc (.cells #[.int .i64 (n2:Int),.int .i64 t2,.slice pg C cg] 82)).drewN q)));have ap:=zh (aH.o _ X.o);go_wp2_with fail;refine ap.o.mono ?_;rintro e w3 ⟨rfl,q2,rfl⟩;generalize U:World.drewN (World.drewN _ _) _=WQ;have Y:=zW (Below w1.heap.size w1 WQ) (by rw[←U];exact X.o.trans ⟨rfl,rfl,rfl,Nat.le_refl _,fun _ _=>rfl⟩);have ah:WQ.heap[w1.heap.size]?=some (.cells #[.int .i64 (n2:Int),.int .i64 t2,.slice pg C cg] 82 (0,0)):=by rw[←U];exact aE.o
   have ai:WQ.heap[j]?=some (RJC r (b:Int) M.term gv pre M.now M.vote dv (.slice p8 n8 c8) M.dead):=(Y.o.block j aN).trans Hc.o;have R:=zW (Below w1.heap.size w1 WQ.drew) (Y.o.trans ⟨rfl,rfl,rfl,Nat.le_refl _,fun _ _=>rfl⟩);clear U;go_wp2_with fail;refine ost (fun w':World=>w'.heap[w1.heap.size]?=some (.cells #[.int .i64 (n2:Int),.int .i64 t2,.slice pg C cg] 82 (0,0))∧w'.heap[j]?=some (RJC r (b:Int) M.term gv pre M.now M.vote dv (.slice p8 n8 c8) M.dead)) 17 (⟨(ah:WQ.drew.heap[w1.heap.size]?=_),(ai:WQ.drew.heap[j]?=_)⟩) fun d=>?_;generalize WQ.drew=J at *;refine otc 0 (v:=(.bool true)) rfl (fun W f=>by skip;go_simp;try with_reducible rfl) ?_;simp only[uZ];refine otc 1 (v:=(.bool true)) rfl (fun W f=>by skip;go_simp;try with_reducible rfl) ?_;simp only[uZ];refine Pl [2,3,4] ?_;iterate 3 (refine Pd rfl (by intro w f;have p0:=zAU f.1;have p1:=zAY f.1;have p2:=zAX f.1;have q0:=zAU f.2;have q8:=zAG f.2 (i:=8) rfl;go_simp;try with_reducible rfl) ?_;simp only[uZ])
   refine Pn ?_;refine otc 5 (v:=(.bool true)) rfl (fun W f=>by skip;go_simp;try with_reducible rfl) ?_;simp only[uZ];refine otc 6 (v:=(.bool true)) rfl (fun W f=>by skip;go_simp;try with_reducible rfl) ?_;simp only[uZ];refine otc 7 (v:=(.bool true)) rfl (fun W f=>by skip;go_simp;try with_reducible rfl) ?_;simp only[uZ];refine Pl [8,9,10,11,12,13,14] ?_;iterate 7 (refine Pd rfl (by intro w f;have p0:=zAU f.1;have p1:=zAY f.1;have p2:=zAX f.1;have q0:=zAU f.2;have q8:=zAG f.2 (i:=8) rfl;go_simp;try with_reducible rfl) ?_;simp only[uZ])
   refine Pn ?_;refine otc 15 (v:=(.bool true)) rfl (fun W f=>by skip;go_simp;try with_reducible rfl) ?_;simp only[uZ];refine otc 16 (v:=(.bool true)) rfl (fun W f=>by skip;go_simp;try with_reducible rfl) ?_;simp only[uZ];refine odn ?_;have aF:=zW (∀W,Below J.drew.heap.size J.drew W→zAK W 4 (.slice pa m (c8-k)) m (zA3 (M.entries.drop k) (vs.drop k))) fun W bi=>zAK.chg av.o (Chg.of_below ((R.o.trans ((⟨rfl,rfl,rfl,Nat.le_refl _,fun _ _=>rfl⟩:Below J.heap.size J J.drew).mono R.o.size)).trans (bi.mono R.o.size))) fun _ _=>id;have aD:=zW (Below w1.heap.size w1 J.drew) (R.o.trans ((⟨rfl,rfl,rfl,Nat.le_refl _,fun _ _=>rfl⟩:Below J.heap.size J J.drew).mono R.o.size));clear ah ai;go_wp2_with fail;refine zDV [25] (fun w':World=>w'.heap[w1.heap.size]?=some (.cells #[.int .i64 (n2:Int),.int .i64 t2,.slice pg C cg] 82 (0,0))∧w'.heap[j]?=some (RJC r (b:Int) M.term gv pre M.now M.vote dv (.slice p8 n8 c8) M.dead)) (n:=26) (by kernel_rfl) rfl (⟨(d.1:J.drew.heap[w1.heap.size]?=_),(d.2:J.drew.heap[j]?=_)⟩) fun d=>?_;generalize J.drew=W4 at *;refine Gl [0,2,3,4,5,6,7,8,9,10,11,12,13,14,15,16,17,18,19,20] ?_;iterate 20 (refine Gd rfl (by intro w f;have p0:=zAU f.1;have p1:=zAY f.1;have p2:=zAX f.1;have q0:=zAU f.2;have q8:=zAG f.2 (i:=8) rfl;go_simp;try with_reducible rfl) ?_;simp only[uZ])
   refine Gn ?_;refine zEw 21 (v:=.slice pa m (c8-k)) rfl (by kernel_rfl) (by kernel_rfl) (by kernel_rfl) (by kernel_rfl) (fun _ _ _ h=>h) (by rfl) (by assumption) (fun W f=>by have bu:=bg.o W;go_simp;try with_reducible rfl) ?_;simp only[uZ];refine zEM 1 rfl (by kernel_rfl) (by rfl) (fun K E=>?_);have N:=zh (zAD W4 (.cells #[] 50));have ac:=zh (And.intro ((N.o.block w1.heap.size (zAB d.1)).trans d.1) ((N.o.block j (zAB d.2)).trans d.2));have s:=zh d;go_wp2_with fail;refine E.o _ _ (ac.o) fun d=>?_;clear E;try simp only[uZ]
   refine zEM 22 rfl (by kernel_rfl) (by rfl) (fun K E=>?_);have T:=zh (zBK W4 50 4);have bh:=zh (aF.o _ N.o);refine zAm (.tmp 38) (.tmp 58) 78 rfl 50 i4 (.agg #[.int .i64 0,.int .i64 0,.slice none 0 0,.slice none 0 0]) 4 64 underlying78 ba be aC bf rfl (by decide) (.slice (some ⟨W4.heap.size,0,none⟩) 0 0) 0 [] rfl T.o (.slice pa m (c8-k)) m _ rfl bh.o aV.o (by unfold maxLen;omega) (by omega) ?_;intro v7 w7 af ar aA;have ag:=zh (copy_newE af ar aA);have aw:=zh (And.intro ((ag.o.2.2.block w1.heap.size (zAB s.o.1)).trans s.o.1) ((ag.o.2.2.block j (zAB s.o.2)).trans s.o.2));clear af ar aA T;obtain⟨p7,c7,rfl⟩:=OwnR.shape ag.o.1;go_wp2_with fail;refine E.o _ _ (aw.o) fun d=>?_;clear E;try simp only[uZ]
   refine Gl [23,24] ?_;iterate 2 (refine Gp rfl ?_;simp only[uZ])
   refine Gn ?_;refine g_end 25 rfl (by kernel_rfl) (by rfl) (by kernel_rfl) (fun K E=>?_);have bB:=zAG aw.o.2 (i:=8) rfl;have f8:=zAE aw.o.2 8;go_wp2_with fail;refine E.o _ _ ?_;clear E;try simp only[uZ]
   refine zEv (by kernel_rfl) ?_ _;go_wp2_with fail;have aT:=zh (aD.o.trans (ag.o.2.2.mono aD.o.size));have HS:=zh (aU.o w7 aT.o p7 c7 (by rw[P];exact ag.o.1) fun y hy=>Nat.le_trans aD.o.size (ag.o.2.1 y hy));have l:=aw.o;have ak:=zh ((set_other (w:=w7) (a:=⟨j,8,none⟩) (.slice p7 m c7) (show w1.heap.size≠j by omega)).trans l.1);have ao:=zW ((w7.setCell ⟨j,8,none⟩ (.slice p7 m c7)).heap[j]?=some (RJC r (b:Int) M.term gv pre M.now M.vote dv (.slice p7 m c7) M.dead)) (by
    have h1:=zAC l.2 8 (.slice p7 m c7);simpa using h1)
   have am:=zW (zAK (w7.setCell ⟨j,8,none⟩ (.slice p7 m c7)) 1 (.slice pg C cg) C (g2.map (Value.int .i64))) (zAK.chg (zAK.chg Hg.o (Chg.of_below aT.o) fun _ _=>id) (Chg.setCell w7 ⟨j,8,none⟩ _) fun k hk=>aI.o k hk);clear l;generalize w7.setCell ⟨j,8,none⟩ (.slice p7 m c7)=I at *;have aa:=zW (I.drew.heap[j]?=some (RJC r (b:Int) M.term gv pre M.now M.vote dv (.slice p7 m c7) M.dead)) ao.o
  rotate_left
  focus
   have bm:((t:Int)==t2)=false:=by simpa using ax
   rw[if_neg (fun e=>by rw[ad]at e;exact ax (Option.some.inj e.2))]at P;subst P;rw[ad]at V;simp only[Option.getD_some,Option.isSome_some]at V;generalize aX:M.entries.length=n8 at *;generalize hb:M.number=b at *;go_enter func92,ntmps92;go_wp2_with fail;refine V.o.mono ?_;rintro e w2 ⟨rfl,q,rfl⟩;have X:=zh (au.o.trans (⟨rfl,rfl,rfl,Nat.le_refl _,fun _ _=>rfl⟩:Below w1.heap.size (w1.alloc (.cells #[.int .i64 (n2:Int),.int .i64 t2,.slice pg C cg] 82)) ((w1.alloc (.cells #[.int .i64 (n2:Int),.int .i64 t2,.slice pg C cg] 82)).drewN q)));have ap:=zh (aH.o _ X.o);go_wp2_with fail;refine ap.o.mono ?_;rintro e w3 ⟨rfl,q2,rfl⟩;generalize U:World.drewN (World.drewN _ _) _=WQ;have Y:=zW (Below w1.heap.size w1 WQ) (by rw[←U];exact X.o.trans ⟨rfl,rfl,rfl,Nat.le_refl _,fun _ _=>rfl⟩);have ah:WQ.heap[w1.heap.size]?=some (.cells #[.int .i64 (n2:Int),.int .i64 t2,.slice pg C cg] 82 (0,0)):=by rw[←U];exact aE.o
   have ai:WQ.heap[j]?=some (RJC r (b:Int) M.term gv pre M.now M.vote dv (.slice p8 n8 c8) M.dead):=(Y.o.block j aN).trans Hc.o;have R:=zW (Below w1.heap.size w1 WQ.drew) (Y.o.trans ⟨rfl,rfl,rfl,Nat.le_refl _,fun _ _=>rfl⟩);clear U;go_wp2_with fail;refine ost (fun w':World=>w'.heap[w1.heap.size]?=some (.cells #[.int .i64 (n2:Int),.int .i64 t2,.slice pg C cg] 82 (0,0))∧w'.heap[j]?=some (RJC r (b:Int) M.term gv pre M.now M.vote dv (.slice p8 n8 c8) M.dead)) 17 (⟨(ah:WQ.drew.heap[w1.heap.size]?=_),(ai:WQ.drew.heap[j]?=_)⟩) fun d=>?_;generalize WQ.drew=J at *;refine otc 0 (v:=(.bool true)) rfl (fun W f=>by skip;go_simp;try with_reducible rfl) ?_;simp only[uZ];refine otc 1 (v:=(.bool true)) rfl (fun W f=>by skip;go_simp;try with_reducible rfl) ?_;simp only[uZ];refine Pl [2,3,4] ?_;iterate 3 (refine Pd rfl (by intro w f;have p0:=zAU f.1;have p1:=zAY f.1;have p2:=zAX f.1;have q0:=zAU f.2;have q8:=zAG f.2 (i:=8) rfl;go_simp;try with_reducible rfl) ?_;simp only[uZ])
   refine Pn ?_;refine otc 5 (v:=(.bool false)) rfl (fun W f=>by skip;go_simp;try with_reducible rfl) ?_;simp only[uZ];refine otc 6 (v:=(.bool false)) rfl (fun W f=>by skip;go_simp;try with_reducible rfl) ?_;simp only[uZ];refine otc 7 (v:=(.bool false)) rfl (fun W f=>by skip;go_simp;try with_reducible rfl) ?_;simp only[uZ];refine Pl [8,9,10,11,12,13,14,15,16] ?_;iterate 9 ((first|refine Ps rfl ?_|refine Pd rfl (by intro w f;have p0:=zAU f.1;have p1:=zAY f.1;have p2:=zAX f.1;have q0:=zAU f.2;have q8:=zAG f.2 (i:=8) rfl;go_simp;try with_reducible rfl) ?_);simp only[uZ])
   refine Pn ?_;refine odn ?_;have l:=d;have aJ:=zAG d.2 (i:=8) rfl;have aK:=zAE d.2 8;go_wp2_with fail;have HS:=zh (ay.o J R.o);have ak:=zh ((set_other (w:=J) (a:=⟨j,8,none⟩) (.slice none 0 0) (show w1.heap.size≠j by omega)).trans l.1);have ao:=zW ((J.setCell ⟨j,8,none⟩ (.slice none 0 0)).heap[j]?=some (RJC r (b:Int) M.term gv pre M.now M.vote dv (.slice none 0 0) M.dead)) (by
    have h1:=zAC l.2 8 (.slice none 0 0);simpa using h1)
   have am:=zW (zAK (J.setCell ⟨j,8,none⟩ (.slice none 0 0)) 1 (.slice pg C cg) C (g2.map (Value.int .i64))) (zAK.chg (zAK.chg Hg.o (Chg.of_below R.o) fun _ _=>id) (Chg.setCell J ⟨j,8,none⟩ _) fun k hk=>aI.o k hk);clear aJ aK l d;generalize J.setCell ⟨j,8,none⟩ (.slice none 0 0)=I at *;have aa:=zW (I.drew.heap[j]?=some (RJC r (b:Int) M.term gv pre M.now M.vote dv (.slice none 0 0) M.dead)) ao.o
  all_goals
   have Q:=zh (⟨rfl,rfl,rfl,Nat.le_refl _,fun _ _=>rfl⟩:Below I.heap.size I I.drew);have Z:=zh (fun W (hb2:Below I.drew.heap.size I.drew W)=>zAK.chg (am.o) (Chg.of_below ((⟨rfl,rfl,rfl,Nat.le_refl _,fun _ _=>rfl⟩:Below I.heap.size I I.drew).trans hb2)) fun _ _=>id);refine ost (fun w':World=>w'.heap[w1.heap.size]?=some (.cells #[.int .i64 (n2:Int),.int .i64 t2,.slice pg C cg] 82 (0,0))) 13 ((ak.o:I.drew.heap[w1.heap.size]?=_)) fun d=>?_;generalize I.drew=W6 at *;refine Pl [0,1,2,3,4,6,7] ?_;iterate 7 (refine Pd rfl (by intro w f;have p0:=zAU f;have p1:=zAY f;have p2:=zAX f;go_simp;try with_reducible rfl) ?_;simp only[uZ])
   refine Pn ?_;refine oon 5 rfl fun K E=>?_;have N:=zh (zAD W6 (.cells #[] 3));have ac:=zh ((N.o.block w1.heap.size (zAB d)).trans d);have s:=zh d;go_wp2_with fail;refine E.o _ _ (ac.o) fun d=>?_;clear E;try simp only[uZ]
   refine oon 8 rfl fun K E=>?_;have T:=zh (zAx W6 3);have ab:=zh (Z.o _ N.o);refine zAm (.tmp 70) (.tmp 72) 38 rfl 3 i0 (.int .i64 0) 1 8 underlying38 hi aQ aR aS rfl (by decide) (.slice (some ⟨W6.heap.size,0,none⟩) 0 0) 0 [] rfl T.o (.slice pg C cg) C _ rfl ab.o (fun u hu=>by obtain⟨z,-,rfl⟩:=List.mem_map.1 hu;rfl) (by unfold maxLen;omega) (by omega) ?_;intro v9 w9 G A F;have S:=zh (zC0 G A F);have an:=zh ((S.o.2.2.block w1.heap.size (zAB s.o)).trans s.o);clear G A F T ab;obtain⟨p9,c9,rfl⟩:=OwnR.shape S.o.1;refine E.o _ _ (an.o) fun d=>?_;clear E;try simp only[uZ]
   refine Pl [9,10,11] ?_;iterate 3 (refine Pc rfl ?_;simp only[uZ])
   refine Pn ?_;refine oon 12 rfl fun K E=>?_;have B:=zh ((S.o.2.2.block j (zAB aa.o)).trans aa.o);have s0:=zAU B.o;have s1:=zAY B.o;have s2:=zAX B.o;have f0:=zAE B.o 0;have f1:=zAE B.o 1;have f2:=zAE B.o 2;have al:=zh ((set_other (w:=(w9.setCell ⟨j,0,none⟩ (.int .i64 (n2:Int))).setCell ⟨j,1,none⟩ (.int .i64 t2)) (a:=⟨j,2,none⟩) (.slice p9 C c9) (show w1.heap.size≠j by omega)).trans ((set_other (w:=w9.setCell ⟨j,0,none⟩ (.int .i64 (n2:Int))) (a:=⟨j,1,none⟩) (.int .i64 t2) (show w1.heap.size≠j by omega)).trans ((set_other (w:=w9) (a:=⟨j,0,none⟩) (.int .i64 (n2:Int)) (show w1.heap.size≠j by omega)).trans d)));go_wp2_with fail;refine E.o _ _ (al.o) fun d=>?_;clear E;try simp only[uZ]
   refine odn ?_;have HE:=zh (HS.o.trans fun az aj hF=>rj_base hF (Q.o.trans (S.o.2.2.mono Q.o.size)) (show zBY w9 (.slice p9 C c9) g2 by unfold zBY;rw[aG.o];exact OwnR.holds S.o.1) (fun k hk=>⟨Nat.le_trans Q.o.size (S.o.2.1 k hk),OwnR.lt S.o.1 hk⟩) aq.o);go_wp2_with fail;go_end0;first
    | exact⟨rfl,HE.o⟩
    | (have h9:=HE.o;rw[P]at h9;exact⟨rfl,h9⟩)
end
section
variable {w:World} {r:Nat} {v:Value} {L:List zAQ} {own:Nat→Prop} {D:zAA}
theorem rsave_calls (h:zAd w r v L own D)(s:ByteArray)(F:s.size≤9223372036854775000){p:Option Addr}{m c:Nat}{l:Bs}(y:zAb w (.slice p m c) l)(E:l.length≤1048576) :
  Calls prog 138 #[.pointer (some ⟨r,0,none⟩),.string s,.slice p m c] w (zCh w r own (D.save (nm s) l)):=by
 have j:(nm s).length=s.size:=nm_len s
 by_cases b:(nm s).length<1∨60<(nm s).length
 ·have g:D.save (nm s) l=(D,1):=by unfold zAA.save;rw[if_pos b]
  rw[g];have d:=zh (zBR h (Below.refl _ _) 1);rw[j]at b;generalize R:s.size=z at *;clear g h y;have O:(decide ((z:Int)<1)||decide (60<(z:Int)))=true:=by simp;omega
  by_cases G:z<1
  ·have a:z=0:=by omega
   subst a
   go_enter func138,ntmps138
   go_wp2_with fail;go_ret;exact d.o
  ·have Q:60<z:=by omega
   go_enter func138,ntmps138
   go_wp2_with fail;go_ret;exact d.o
 ·have g:D.save (nm s) l=D.save1 (nm s) (zAM l):=by unfold zAA.save;rw[if_neg b]
  rw[g];have I:=zh (renc_calls y E);have A:=zh h;have J:=zh F;rw[j]at b;generalize G:s.size=z at *;have N:=zh G;have i:(zAM l).length≤140737488355328:=by rw[zAl];omega
  have q:=zh i;clear g h y E F i
  go_enter func138,ntmps138
  go_wp2_with fail;refine I.o.mono ?_;rintro e w2 ⟨v2,rfl,n,f,t⟩;obtain⟨W,S,rfl⟩:=n.slice;have M:=zh ((rwhole_calls (A.o.below t) s (by rw[N.o];exact J.o) n.has q.o (fun k C=>⟨fun P=>by have U:=f k C;have V:=A.o.olt k P;omega,OwnR.lt n C⟩)).mono fun e w' h=>rstep_below t h);clear n f t;go_wp2_with fail;refine M.o.mono ?_;intro e w3 B;have H:=zh B;obtain⟨rfl,-⟩:=B;generalize (D.save1 (nm s) (zAM l)).2=T at *;go_wp2_with fail;go_ret;exact H.o
end
section
variable {w w1 w2:World} {j r:Nat} {pre:ByteArray} {D:zAA} {M:zAJ} {Hot Cold:Nat→Prop}
theorem rj_data (h:RJF w j r pre D M Hot Cold)(a:Below w.heap.size w w2){m:Bs}{v2:Value}(G:zAb w2 v2 m)(d:∀k,v2.ownBlock=some k→w.heap.size≤k∧k<w2.heap.size)(ok:({M with data:=m}:zAJ).OK) :
  zAq w j r pre Hot Cold (w2.setCell ⟨j,7,none⟩ v2) D {M with data:=m}:=by
 have H:=h.hlt h.jhot;have g:∀k,Hot k→k<w.heap.size:=fun k b=>h.hlt b;obtain⟨O,own,t,dv,s,vs,v,L,c,z,y,C,n⟩:=h.below a;have hS:Chg (fun k=>k=j) w2 (w2.setCell ⟨j,7,none⟩ v2):=Chg.setCell w2 ⟨j,7,none⟩ _;have E:=zAC c.cells 7 v2;have p:∀k,v2.ownBlock=some k→k≠j:=fun k b e=>by
  have:=(d k b).1;omega
 have f:∀k,Cold k→k≠j:=fun k b e=>c.dis k b (e▸c.oj);generalize w2.setCell ⟨j,7,none⟩ v2=w3 at *;have o:zFq w3 j r pre O (fun k=>Cold k∨v2.ownBlock=some k) {M with data:=m} t v2 s vs:={
  cells:=by simpa using E
  group:=zAK.chg c.group hS fun k b=>f k (c.cg k b)
  data:=zAK.chg G hS fun k b=>p k b
  row:=c.row.keep fun k b=>hS.block k (c.olt k (c.oe k b).1) (c.oe k b).2
  rlen:=c.rlen
  rows:=fun i e v F q=>(c.rows i e v F q).keep fun k b=>hS.block k (c.clt k (c.cv v (List.mem_of_getElem? q) k b)) (f k (c.cv v (List.mem_of_getElem? q) k b))
  oj:=c.oj
  oe:=c.oe
  cg:=fun k b=>.inl (c.cg k b)
  cd:=fun k b=>.inr b
  cv:=fun u I k b=>.inl (c.cv u I k b)
  dis:=fun k b l=>by
   rcases b with b|b
   ·exact c.dis k b l
   ·have A:=(d k b).1;have B:=g k ((n k).2 (.inl l));omega
  olt:=fun k b=>Nat.lt_of_lt_of_le (c.olt k b) hS.size
  clt:=fun k b=>Nat.lt_of_lt_of_le (b.elim (c.clt k) fun e=>(d k e).2) hS.size
  psz:=c.psz
  ok:=ok}
 refine⟨Hot,_,⟨O,own,t,v2,s,vs,v,L,o,z.keep hS.size (fun k b=>hS.block k (z.olt k b) fun e=>y j c.oj (e▸b)),y,fun k b l=>?_,n⟩,((Chg.of_below a).mono fun _ _ h=>h.elim).trans (hS.mono fun k _ e=>(n k).2 (.inl (e▸c.oj))) fun _ _ h=>h,fun k b=>.inl b,fun k b=>b.imp id fun e=>(d k e).1⟩;rcases b with b|b
 ·exact C k b l
 ·have A:=(d k b).1;have B:=g k ((n k).2 (.inr l));omega
theorem holds_keep0 {w w':World}{S:Nat→Prop}{size n:Nat}{v:Value}{xs:List Value}(h:zAK w size v n xs)(g:Chg S w w')(c:xs≠[]→∀k,v.ownBlock=some k→¬S k):zAK w' size v n xs:=by
 by_cases d:xs=[]
 ·subst d;obtain⟨j,p,b,rfl,f,-⟩:=h;exact⟨j,p,b,rfl,f,fun a m i u l=>by simp at l⟩
 ·exact zAK.chg h g (c d)
theorem ne_of_bytes {b:Bs}(h:zAR b≠[]):b≠[]:=fun e=>h (by rw[e];rfl)
theorem zGJ (h:RJF w1 j r pre D M Hot Cold){n2:Nat}{t2:Int}{g2:List Int}{dd:Bs}(cw:M.entries.length≤1000000)(ca:M.number<n2)(hs:(⟨n2,t2,g2,dd⟩:zDP).OK)(hd:dd.length≤524288){pg pd:Option Addr}{cg cd:Nat}(hg:zBY w1 (.slice pg g2.length cg) g2)(bm:∀k,(Value.slice pg g2.length cg).ownBlock=some k→¬Hot k)(aE:zAb w1 (.slice pd dd.length cd) dd)(bl:dd≠[]→∀k,(Value.slice pd dd.length cd).ownBlock=some k→¬Hot k) :
  Calls prog 120 #[.pointer (some ⟨j,0,none⟩),.agg #[.int .i64 (n2:Int),.int .i64 t2,.slice pg g2.length cg],.slice pd dd.length cd] w1 (zBu w1 j r pre Hot Cold (zA8 (nm pre) D M ⟨n2,t2,g2,dd⟩)):=by
 obtain⟨i0,hi,ag,ah,aG⟩:=info_parts (show(prog.info? 5).map (fun i=>(i.zero,i.size,i.bytes))=some (some (.int .u8 0),1,1) by kernel_rfl);have cA:n2≤1099511627776:=hs.number;have cD:=zAs.1 (show zDe t2=true from hs.term);have ck:g2.length≤7:=(zEP hs.group).2;have be:=zCZ (show zAZ g2=true from hs.group);have Hs:=zh hs;have cb:=h.hlt h.jhot;have bk:=zBA [(n2:Int),t2];have cm:(zAp [(n2:Int),t2]).length≤18:=by simpa using bk
 have cl:=zF2 g2 (by omega);have Hz:=zW (∀z∈g2,-9223372036854775808≤z∧z≤9223372036854775807) (fun z hz=>by have:=be.2 z hz;omega);unfold zBY at hg;unfold zAb at aE;generalize bf:g2.length=gl at *;generalize bc:dd.length=dl at *;have I:=zh bf;have ax:=zh bc;have Hg:=zh hg;have aR:=zh aE;have aU:=zh bm;have bQ:=zh bl;have H:=zh h;have bJ:=zh (zAI w1 (.cells #[.int .i64 (n2:Int),.int .i64 t2,.slice pg gl cg] 82));have bu:=zh (zAD w1 (.cells #[.int .i64 (n2:Int),.int .i64 t2,.slice pg gl cg] 82));have S:=zh (show zA8 (nm pre) D M ⟨n2,t2,g2,dd⟩=if(D.save (zBt (nm pre)) (zEd n2 t2 g2 dd)).2≠0 then⟨(D.save (zBt (nm pre)) (zEd n2 t2 g2 dd)).1,M.die,(D.save (zBt (nm pre)) (zEd n2 t2 g2 dd)).2⟩
  else if(zAT (D.save (zBt (nm pre)) (zEd n2 t2 g2 dd)).1 (nm pre) (M.rebase ⟨n2,t2,g2,dd⟩)).2≠0 then⟨(zAT (D.save (zBt (nm pre)) (zEd n2 t2 g2 dd)).1 (nm pre) (M.rebase ⟨n2,t2,g2,dd⟩)).1,(M.rebase ⟨n2,t2,g2,dd⟩).die,(zAT (D.save (zBt (nm pre)) (zEd n2 t2 g2 dd)).1 (nm pre) (M.rebase ⟨n2,t2,g2,dd⟩)).2⟩
  else⟨(zAT (D.save (zBt (nm pre)) (zEd n2 t2 g2 dd)).1 (nm pre) (M.rebase ⟨n2,t2,g2,dd⟩)).1,M.rebase ⟨n2,t2,g2,dd⟩,0⟩from rfl)
 generalize zA8 (nm pre) D M ⟨n2,t2,g2,dd⟩=aH at *;generalize bb:D.save (zBt (nm pre)) (zEd n2 t2 g2 dd)=Z1 at *;have bD:=zh bb;clear bb;have cB:=h.psz;have bn:(sSnp pre).size=pre.size+5:=zGM pre;obtain⟨gv,dv,ev,s⟩:=h.cellsD;have C3:=zW (w1.cell? ⟨j,3,none⟩=some (.pointer (some ⟨r,0,none⟩))) (zAG s rfl);have C4:=zW (w1.cell? ⟨j,4,none⟩=some (.string pre)) (zAG s rfl);have CJ:=zh s;clear s;have cC:(zE3 dd).length≤600000:=by
  have J:=zAh (n:=dd.length) (by omega);have h2:(zE3 dd).length=(zD5 dd.length).length+dd.length:=by unfold zE3;rw[List.length_append]
  omega
 have HT:=zW (zAp [(n2:Int),t2]++zDp g2++zE3 dd=zEd n2 t2 g2 dd) (by
  have J:zDf (n2:Int)=zD5 n2:=zB1 (by omega);simp[zAp,zEd,J])
 clear h hs bf bc hg aE bm bl bk be
 go_enter func120,ntmps120
 go_wp2_with fail;generalize bX:w1.alloc (.cells #[.int .i64 (n2:Int),.int .i64 t2,.slice pg gl cg] 82)=WA at *;have bY:WA.heap[w1.heap.size]?=some (.cells #[.int .i64 (n2:Int),.int .i64 t2,.slice pg gl cg] 82 (0,0)):=bJ.o;have d:=zW (Below w1.heap.size w1 WA.drew) (bu.o.trans ⟨rfl,rfl,rfl,Nat.le_refl _,fun _ _=>rfl⟩);clear bX;refine ost (fun w':World=>w'.heap[w1.heap.size]?=some (.cells #[.int .i64 (n2:Int),.int .i64 t2,.slice pg gl cg] 82 (0,0))) 11 ((bY:WA.drew.heap[w1.heap.size]?=_)) fun b=>?_;generalize WA.drew=W1 at *;refine Pl [0,1,2,3,6,7] ?_
 iterate 6 (refine Pd rfl (by intro w az;have p0:=zAU az;have p1:=zAY az;have p2:=zAX az;go_simp;try with_reducible rfl) ?_;simp only[uZ])
 refine Pn ?_;refine oon 4 rfl fun K m=>?_;have HI:=zh (hasI_two W1 (n2:Int) t2 (W1.heap.size) rfl);have ar:=zh (zAD W1 (.cells #[.int .i64 (n2:Int),.int .i64 t2] 3));have g:=zh b;have bF:=zh ((zC8 W1 (.cells #[.int .i64 (n2:Int),.int .i64 t2] 3) (zAB b)).trans b);go_wp2_with fail;refine m.o _ _ (bF.o) fun b=>?_;clear m
 try simp only[uZ]
 refine oon 5 rfl fun K m=>?_;have aT:=zh (zBy HI.o (by simp;omega) (by simp));go_wp2_with fail;refine aT.o.mono ?_;rintro e w3 ⟨x,rfl,aF,bp,aA⟩;have bG:=zh ((aA.block _ (zAB b)).trans b);have aK:=zW (zCe W1 w3 x (zAp [(n2:Int),t2])) (⟨aF,fun k hk=>Nat.le_trans ar.o.size (bp k hk),ar.o.trans (aA.mono ar.o.size)⟩);obtain⟨px,cx,rfl,-⟩:=zAL aF;clear aF bp aA;generalize aY:(zAp [(n2:Int),t2]).length=m2 at *;have O:=zh aY;clear aY;go_wp2_with fail;refine m.o _ _ (bG.o) fun b=>?_;clear m
 try simp only[uZ]
 refine oon 8 rfl fun K m=>?_;have bP:=zh (zC3 (w:=w3) (p:=pg) (n:=gl) (c:=cg) (l:=g2) (by have:=Hg.o;unfold zBY;rw[I.o];exact zAK.chg this (Chg.of_below (d.o.trans (aK.o.bel.mono d.o.size))) fun _ _=>id) Hz.o (by rw[I.o];omega));go_wp2_with fail;refine bP.o.mono ?_;rintro e w4 ⟨y,rfl,hy,ce,aB⟩;have bH:=zh ((aB.block _ (zAB b)).trans b);have aL:=zh (aK.o.next aB);have bC:=zh (zAi.has hy);obtain⟨py,cy,rfl,-⟩:=zAL hy;clear hy ce aB;generalize aZ:(zDp g2).length=m3 at *;have Q:=zh aZ;clear aZ;go_wp2_with fail;refine m.o _ _ (bH.o) fun b=>?_;clear m
 try simp only[uZ]
 have a:=zh (show OwnR w4 5 1 (.slice px m2 cx) m2 (zAR (zAp [(n2:Int),t2])) by have:=aL.o.own;unfold zAi at this;rwa[O.o]at this);have A:=zh (show zAK w4 1 (.slice py m3 cy) m3 (zAR (zDp g2)) by have:=bC.o;unfold zAb at this;rwa[Q.o]at this);refine oon 9 rfl fun K m=>?_;refine zAm (.tmp 14) (.tmp 17) 22 rfl 5 i0 (.int .u8 0) 1 1 underlying22 hi ag ah aG rfl (by decide) (.slice px m2 cx) m2 _ rfl a.o (.slice py m3 cy) m3 _ rfl A.o (zAN _) (by unfold maxLen;omega) (by omega) ?_;intro v5 w5 B F X;have R:=zh (zCe.grown (x:=zDp g2) aL.o (by rw[O.o,Q.o];exact B) F X);have bI:=zh ((R.o.bel.block _ (zAB g.o)).trans g.o);obtain⟨p5,c5,rfl⟩:=OwnR.shape B;clear B F X a A;refine m.o _ _ (bI.o) fun b=>?_;clear m
 try simp only[uZ]
 refine otk 10 (v:=?v1x10) rfl ?_;simp only[uZ];refine odn ?_;go_wp2_with fail;have bU:=zAH C3.out (d.o.trans (R.o.bel.mono d.o.size));have bV:=zAH C4.out (d.o.trans (R.o.bel.mono d.o.size));have bB:=zW (Below w1.heap.size w1 w5.drew) ((d.o.trans (R.o.bel.mono d.o.size)).trans ⟨rfl,rfl,rfl,Nat.le_refl _,fun _ _=>rfl⟩);have bA:=zh (R.o.next (zAP w5));have bO:=zW (zAb w1 (.slice pd dl cd) dd) (by unfold zAb;rw[ax.o];exact aR.o);refine ost (fun w':World=>w'.cell? ⟨j,3,none⟩=some (.pointer (some ⟨r,0,none⟩))∧w'.cell? ⟨j,4,none⟩=some (.string pre)) 15 ((And.intro (bU:w5.drew.cell? _=_) (bV:w5.drew.cell? _=_))) fun b=>?_;generalize w5.drew=W6 at *;refine Pl [0,1,2,3,4,5,6,7,8,9,10] ?_
 iterate 11 (refine Pc rfl ?_;simp only[uZ])
 refine Pn ?_;refine oon 11 rfl fun K m=>?_;have bK:=zh (zGF (w:=W6) (p:=pd) (n:=dl) (c:=cd) (l:=dd) (zAK.chg bO.o (Chg.of_below bB.o) fun _ _=>id) (by rw[ax.o];omega));go_wp2_with fail;refine bK.o.mono ?_;rintro e w7 ⟨z,rfl,hz,cf,ae⟩;have bL:=zh (And.intro (zAH b.1 ae) (zAH b.2 ae));have aM:=zh (bA.o.next ae);have bE:=zh (zAi.has hz);obtain⟨pz,cz,rfl,-⟩:=zAL hz;clear hz cf ae;generalize ba:(zE3 dd).length=m4 at *;have aw:=zh ba;clear ba;go_wp2_with fail;refine m.o _ _ (bL.o) fun b=>?_;clear m
 try simp only[uZ]
 have a:=zh (show OwnR w7 5 1 (.slice p5 (m2+m3) c5) (m2+m3) (zAR (zAp [(n2:Int),t2]++zDp g2)) by have:=aM.o.own;unfold zAi at this;rwa[List.length_append,O.o,Q.o]at this);have A:=zh (show zAK w7 1 (.slice pz m4 cz) m4 (zAR (zE3 dd)) by have:=bE.o;unfold zAb at this;rwa[aw.o]at this);refine oon 12 rfl fun K m=>?_;refine zAm (.tmp 28) (.tmp 30) 22 rfl 5 i0 (.int .u8 0) 1 1 underlying22 hi ag ah aG rfl (by decide) (.slice p5 (m2+m3) c5) (m2+m3) _ rfl a.o (.slice pz m4 cz) m4 _ rfl A.o (zAN _) (by unfold maxLen;omega) (by omega) ?_;intro v8 w8 C G Y;have ac:=zh (zCe.grown (x:=zE3 dd) aM.o (by rw[List.length_append,O.o,Q.o,aw.o];exact C) G Y);have t:=zh (d.o.trans (ac.o.bel.mono d.o.size));have bM:=zh (And.intro (zAH C3.out t.o) (zAH C4.out t.o));obtain⟨p8,c8,rfl⟩:=OwnR.shape C;clear C G Y a A;refine m.o _ _ (bM.o) fun b=>?_;clear m
 try simp only[uZ]
 refine oon 13 rfl fun K m=>?_;have bw:=zW ((zEd n2 t2 g2 dd).length=m2+m3+m4) (by rw[←HT.o,List.length_append,List.length_append,O.o,Q.o,aw.o]);have bT:=zW (zAb w8 (.slice p8 (m2+m3+m4) c8) (zEd n2 t2 g2 dd)) (by have:=ac.o.own.has;rwa[HT.o]at this);have bS:=zh (rj_disk (P:=prog) (f:=138) (args:=#[.pointer (some ⟨r,0,none⟩),.string (sSnp pre),.slice p8 (m2+m3+m4) c8]) (Re:=Z1) (H.o.below t.o) (Below.refl _ _) fun v L own hR Z=>by
  have J:=rsave_calls hR (sSnp pre) (by rw[bn];omega) bT.o (by rw[bw.o];omega);rw[nm_snp]at J;rw[←bD.o];exact J)
 go_wp2_with fail;refine bS.o.mono ?_;rintro e w9 ⟨rfl,bo,bj⟩;have ab:=zh (bj.trans ((t.o.block j cb).trans CJ.out));have bN:=zW (w9.cell? ⟨j,3,none⟩=some (.pointer (some ⟨r,0,none⟩))∧w9.cell? ⟨j,4,none⟩=some (.string pre)) (⟨zAf ab.o,zDD ab.o⟩);have aO:=zh bo;clear bo bj;go_wp2_with fail;refine m.o _ _ (bN.o) fun b=>?_;clear m
 try simp only[uZ]
 refine otk 14 (v:=?v2x14) rfl ?_;simp only[uZ];refine odn ?_;obtain⟨D1,e1⟩:=Z1;dsimp only at aO;obtain⟨ak,N,ad,q,af,E⟩:=aO.o;have T:w9.heap[w1.heap.size]?=some (.cells #[.int .i64 (n2:Int),.int .i64 t2,.slice pg gl cg] 82 (0,0)):=(q.block w1.heap.size (zAB ((ac.o.bel.block _ (zAB g.o)).trans g.o)) fun ho=>by have:=H.o.hlt ho;omega).trans ((ac.o.bel.block _ (zAB g.o)).trans g.o);have aJ:=zh ad;have aV:=zh (zAq.since ⟨ak,N,ad,q,af,E⟩ t.o)
 by_cases he:e1=0
 ·subst he;have ao:zBY w9 (.slice pg gl cg) g2:=zAK.chg (show zBY w8 (.slice pg gl cg) g2 by unfold zBY;rw[I.o];exact zAK.chg Hg.o (Chg.of_below t.o) fun _ _=>id) q fun k hk=>aU.o k hk;have y0:=zAU T;have y1:=zAY T;have y2:=zAX T;have bR:=zW (Calls prog 92 #[.pointer (some ⟨j,0,none⟩),.agg #[.int .i64 (n2:Int),.int .i64 t2,.slice pg gl cg]] w9 fun e w'=>e=.returned (.tuple #[])∧zAq w9 j r pre ak N w' D1 (M.rebase ⟨n2,t2,g2,M.data⟩)) (by
   have J:=zFZ (pg:=pg) (cg:=cg) (g2:=g2) (t2:=t2) aJ.o ca ⟨Hs.o.number,Hs.o.term,Hs.o.group,aJ.o.okM.data⟩ (by rw[I.o];exact ao) (by rw[I.o];exact fun k hk e=>aU.o k hk (e▸H.o.jhot));rwa[I.o]at J)
  have au:=zh (And.intro q (And.intro af E));have cv:((0:Int)==0)=true:=by decide
  clear q af E ad T ao;go_wp2_with fail;refine bR.o.mono ?_;rintro e ai ⟨rfl,aq⟩;obtain⟨ch,bs,ay,V,bg,am⟩:=zAq.comp au.o.1 au.o.2.1 au.o.2.2 aq;have bv:=zh ay;have av:=zh (And.intro V (And.intro bg am));have A:=zW (zAK (ai.alloc (.cells #[] 5)) 1 (.slice pd dl cd) dl (zAR dd)) (zAK.chg (holds_keep0 (zAK.chg aR.o (Chg.of_below t.o) fun _ _=>id) V fun cc=>bQ.o (ne_of_bytes cc)) (Chg.of_below (zAD ai _)) fun _ _=>id);have aP:=zh (zAx ai 5);have aS:=zh (ay.cellsD);clear aq V bg am ay y0 y1 y2;go_wp2_with (at_builtin;refine zAO _ rfl (.tmp 39) (.tmp 40) 22 rfl 5 i0 (.int .u8 0) 1 1 underlying22 hi ag ah aG rfl (by decide) (.slice (some ⟨ai.heap.size,0,none⟩) 0 0) 0 [] rfl aP.o (.slice pd dl cd) dl _ rfl A.o (zAN _) (by unfold maxLen;omega) (by omega) ?_;intro cE br Z W ap;have HN:=zh (copy_new ax.o Z W ap);clear Z W ap A aP;obtain⟨ct,cp,cr,aC⟩:=aS.o;have U:=(HN.o.2.2.block j (zAB aC)).trans aC;have c7:=zAG U (i:=7) rfl;have f7:=zAE U 7;clear aC U;obtain⟨bq,aW,rfl,-⟩:=zAL HN.o.1)
  have aN:=zW (zAq w8 j r pre Hot Cold (br.setCell ⟨j,7,none⟩ (.slice bq dd.length aW)) D1 (M.rebase ⟨n2,t2,g2,dd⟩)) (zAq.comp av.o.1 av.o.2.1 av.o.2.2 (rj_data bv.o HN.o.2.2 HN.o.1.has (fun k hk=>⟨HN.o.2.1 k hk,OwnR.lt HN.o.1 hk⟩) (rebase_ok H.o.okM Hs.o)));obtain⟨ci,bt,aX,al,bh,an⟩:=aN.o;have bZ:(M.rebase ⟨n2,t2,g2,dd⟩).entries.length≤1000000:=by
   show(if M.number<n2∧M.termAt n2=some t2 then M.entries.drop (n2-M.number)else []).length≤_
   split
   ·rw[List.length_drop];omega
   ·simp
  have aQ:=zh (rjanew_calls aX bZ);generalize br.setCell ⟨j,7,none⟩ (.slice bq dd.length aW)=cF at *
  try dsimp only at S
  generalize zAT D1 (nm pre) (M.rebase ⟨n2,t2,g2,dd⟩)=Z2 at *;obtain⟨D2,e2⟩:=Z2
  try dsimp only at S
  try dsimp only at aQ
  refine aQ.o.mono ?_;rintro e aI ⟨rfl,aa,bi⟩;obtain⟨cu,cq,cs,aD⟩:∃gv dv ev,aI.heap[j]?=some (RJC r ((M.rebase ⟨n2,t2,g2,dd⟩).number:Int) (M.rebase ⟨n2,t2,g2,dd⟩).term gv pre (M.rebase ⟨n2,t2,g2,dd⟩).now (M.rebase ⟨n2,t2,g2,dd⟩).vote dv ev (M.rebase ⟨n2,t2,g2,dd⟩).dead):=by
   obtain⟨_,_,bW,_⟩:=aa;exact bW.cellsD
  have c9:=zAG aD (i:=9) rfl;have f9:=zAE aD 9;have aj:=zh ((zAq.comp al bh an aa).since t.o);clear aa bi aX al bh an aD
  by_cases bd:e2=0
  ·subst bd;have cj:((0:Int) != 0)=false:=by decide
   have HE:=zW (zBu w1 j r pre Hot Cold aH (.returned (.int .i64 0)) aI) (by
    have J:=S.o;rw[if_neg (fun h=>h rfl),if_neg (fun h=>h rfl)]at J;rw[J];exact⟨rfl,aj.o⟩)
   clear c9 f9;go_wp2_with fail;go_ret;exact HE.o
  ·have cn:((e2:Int) != 0)=true:=by simp;omega
   have co:((e2:Int)==0)=false:=by simp;omega
   have HE:=zW (zBu w1 j r pre Hot Cold aH (.returned (.int .i64 (e2:Int))) (aI.setCell ⟨j,9,none⟩ (.bool true))) (by
    have J:=S.o;rw[if_neg (fun h=>h rfl),if_pos bd]at J;rw[J];exact⟨rfl,zAq.trans aj.o fun _ _ hF=>rj_die hF⟩)
   go_wp2_with fail;go_ret;exact HE.o
 ·have ag:((e1:Int)==0)=false:=by simp;omega
  have ah:((e1:Int) != 0)=true:=by simp;omega
  have c9:=zAG ab.o (i:=9) rfl;have f9:=zAE ab.o 9;have HE:=zW (zBu w1 j r pre Hot Cold aH (.returned (.int .i64 (e1:Int))) (w9.setCell ⟨j,9,none⟩ (.bool true))) (by
   rw[S.o,if_pos he];exact⟨rfl,zAq.trans aV.o fun _ _ hF=>rj_die hF⟩)
  clear q af E ad T;go_wp2_with fail;go_ret;exact HE.o
end
section
variable {w w1 w2:World} {j r:Nat} {pre:ByteArray} {D:zAA} {M:zAJ} {Hot Cold:Nat→Prop}
theorem rjcompact_calls (h:RJF w1 j r pre D M Hot Cold)(P:M.entries.length≤1000000)(i:Int)(hi:-9223372036854775808≤i∧i≤9223372036854775807){pd:Option Addr}{n cd:Nat}{b:Bs}(hn:b.length=n)(Q:n≤140737488355328)(I:zAb w1 (.slice pd n cd) b)(S:b≠[]→∀k,(Value.slice pd n cd).ownBlock=some k→¬Hot k) :
  Calls prog 47 #[.pointer (some ⟨j,0,none⟩),.int .i64 i,.slice pd n cd] w1 (zBu w1 j r pre Hot Cold (zAe (nm pre) D M i b)):=by
 obtain⟨gv,dv,ev,c⟩:=h.cellsD;have c9:w1.cell? ⟨j,9,none⟩=some (.bool M.dead):=zAG c rfl;have CJ:=zh c;have m:=zh (fun k w2 (hb:Below w1.heap.size w1 w2) (hr:zAe (nm pre) D M i b=⟨D,M,k⟩)=>rj_same h hr hb);have Y:=zW (zAe (nm pre) D M i b=if M.dead then⟨D,M,9⟩else if i≤(M.number:Int)∨(M.last:Int)<i∨524288<b.length then⟨D,M,1⟩else zA8 (nm pre) D M ⟨i.toNat,(M.termAt i).getD 0,(M.grpIn (i.toNat-M.number)).1,b⟩) rfl;have d:=zh (zFa h i hi);have g:=h.okM;have f:=g.last;cases B:M.dead with
 | true =>
  rw[B]at c9;have s:=zh (m.o 9 w1 (Below.refl _ _) (by rw[Y.o,B];rfl));clear h c
  go_enter func47,ntmps47
  go_wp2_with fail;go_ret;exact s.o
 | false =>
  rw[B]at c9
  by_cases l:(M.number:Int)<i∧i≤(M.last:Int)
  ·have O:(M.last:Int)=(M.number:Int)+(M.entries.length:Int):=by unfold zAJ.last;omega
   obtain⟨t,K⟩:∃t,M.termAt i=some t:=by
    have ae:(i-(M.number:Int)-1).toNat<M.entries.length:=by omega
    exact⟨_,zED l.1 (List.getElem?_eq_getElem ae)⟩
   rw[K]at d;simp only[Option.getD_some,Option.isSome_some]at d;have A:∀q,(w1.drewN q).cell? ⟨j,0,none⟩=some (.int .i64 (M.number:Int)):=fun q=>zAU CJ.out;have af:((i:Int)==(M.number:Int))=false:=by simp;omega
   by_cases y:524288<n
   ·have H:decide (524288<(n:Int))=true:=by simp;omega
    have s:=zh (fun q=>m.o 1 (w1.drewN q) ⟨rfl,rfl,rfl,Nat.le_refl _,fun _ _=>rfl⟩ (by rw[Y.o,B,if_neg (by simp),if_pos (.inr (.inr (by rw[hn];exact y)))]));clear h c g f O l
    go_enter func47,ntmps47
    go_wp2_with fail;refine d.o.mono ?_;rintro e w2 ⟨rfl,q,rfl⟩;have Z:=A q;go_wp2_with fail;go_ret;exact s.o q
   ·have H:decide (524288<(n:Int))=false:=by simp;omega
    have ab:=zW (zAe (nm pre) D M i b=zA8 (nm pre) D M ⟨i.toNat,t,(M.grpIn (i.toNat-M.number)).1,b⟩) (by rw[Y.o,B,if_neg (by simp),if_neg (by rw[hn];omega),K];rfl);have T:=termAt_ok g K;have U:M.upto i=i.toNat-M.number:=by unfold zAJ.upto;omega
    have L:=zFM g (i.toNat-M.number);have z:=zh (fun q=>rjgrpAt_calls (h.drewN q) i (by omega) hi.2);rw[U]at z;have N:((i.toNat:Nat):Int)=i:=by omega
    have C:=zh (fun W pg cg (hb:Below w1.heap.size w1 W) (V:zCd W (.slice pg (M.grpIn (i.toNat-M.number)).1.length cg) (M.grpIn (i.toNat-M.number)).1) (p:∀k,(Value.slice pg (M.grpIn (i.toNat-M.number)).1.length cg).ownBlock=some k→w1.heap.size≤k)=>show Calls prog 120 #[.pointer (some ⟨j,0,none⟩),.agg #[.int .i64 i,.int .i64 t,.slice pg (M.grpIn (i.toNat-M.number)).1.length cg],.slice pd n cd] W (zBu w1 j r pre Hot Cold (zAe (nm pre) D M i b)) by
     have h1:=zGJ (h.below hb) P (n2:=i.toNat) (t2:=t) (g2:=(M.grpIn (i.toNat-M.number)).1) (dd:=b) (by omega) ⟨by show i.toNat≤_;omega,T,L,by show b.length≤_;omega⟩ (by omega) (pg:=pg) (cg:=cg) (pd:=pd) (cd:=cd) (OwnR.holds V) (fun k hk ho=>by have h1:=p k hk;have h2:=h.hlt ho;omega) (by rw[hn];exact zAK.chg I (Chg.of_below hb) fun _ _=>id) (by rw[hn];exact S);rw[N,hn]at h1;rw[ab.o];exact h1.mono fun e w' E=>⟨E.1,E.step.since hb⟩)
    clear h c g f O l T U N I S L K hn Q P hi y;generalize zAe (nm pre) D M i b=ag at *;generalize M.grpIn (i.toNat-M.number)=G at *;obtain⟨G1,G2⟩:=G;dsimp only at z C;generalize J:G1.length=gl at *;have ad:=zh J;clear J
    go_enter func47,ntmps47
    go_wp2_with fail;refine d.o.mono ?_;rintro e w2 ⟨rfl,q,rfl⟩;have Z:=A q;have ac:=zh (z.o q);go_wp2_with fail;clear Z A c9 af H;refine ac.o.mono ?_;rintro e w3 ⟨v,rfl,V,p,F⟩;have aa:=zh ((⟨rfl,rfl,rfl,Nat.le_refl _,fun _ _=>rfl⟩:Below w1.heap.size w1 (w1.drewN q)).trans F);obtain⟨pg,cg,X⟩:=OwnR.shape V;rw[ad.o]at X;subst X;have Hs:=zh (C.o w3 pg cg aa.o V p);clear V p F;go_wp2_with fail;refine Hs.o.mono ?_;rintro e w4 E;have s:=zh E;obtain⟨rfl,-⟩:=E;go_wp2_with fail;go_ret;exact s.o
  ·have R:i≤(M.number:Int)∨(M.last:Int)<i:=by omega
   have s:=zh (fun q=>m.o 1 (w1.drewN q) ⟨rfl,rfl,rfl,Nat.le_refl _,fun _ _=>rfl⟩ (by rw[Y.o,B,if_neg (by simp),if_pos (by omega)]));have A:∀q,(w1.drewN q).cell? ⟨j,0,none⟩=some (.int .i64 (M.number:Int)):=fun q=>zAU CJ.out
   by_cases a:i=(M.number:Int)
   focus rw[a,zEe]at d;simp only[Option.getD_some,Option.isSome_some]at d;subst a
   rotate_left
   focus rw[termAt_no l a]at d;simp only[Option.getD_none,Option.isSome_none]at d
   all_goals
    clear h c g f l R;go_enter func47,ntmps47;go_wp2_with fail;refine d.o.mono ?_;rintro e w2 ⟨rfl,q,rfl⟩;have Z:=A q;go_wp2_with fail;go_ret;exact s.o q
end
section
variable {w w1 w2:World} {j r:Nat} {pre:ByteArray} {D:zAA} {M:zAJ} {Hot Cold:Nat→Prop}
theorem rjinstall_calls (h:RJF w1 j r pre D M Hot Cold)(J:M.entries.length≤1000000)(i t:Int)(hi:-9223372036854775808≤i∧i≤9223372036854775807){g:List Int}{pg:Option Addr}{F cg:Nat}(O:zBY w1 (.slice pg F cg) g)(I:g.length≤1099511627776)(N:g≠[]→∀k,(Value.slice pg F cg).ownBlock=some k→¬Hot k)
  {pd:Option Addr} {n cd:Nat} {b:Bs} (hn:b.length=n) (H:zAb w1 (.slice pd n cd) b) (L:b≠[]→∀k,(Value.slice pd n cd).ownBlock=some k→¬Hot k) :
  Calls prog 48 #[.pointer (some ⟨j,0,none⟩),.int .i64 i,.int .i64 t,.slice pg F cg,.slice pd n cd] w1 (zBu w1 j r pre Hot Cold (zAg (nm pre) D M i t g b)):=by
 obtain⟨gv,dv,ev,d⟩:=h.cellsD;have T:w1.cell? ⟨j,9,none⟩=some (.bool M.dead):=zAG d rfl;have c0:w1.cell? ⟨j,0,none⟩=some (.int .i64 (M.number:Int)):=zAG d rfl;have a:=zh (fun k w2 (C:Below w1.heap.size w1 w2) (hr:zAg (nm pre) D M i t g b=⟨D,M,k⟩)=>rj_same h hr C);have P:=zW (zAg (nm pre) D M i t g b=if M.dead then⟨D,M,9⟩else if i≤(M.number:Int)∨1099511627776<i∨zDe t=false∨zAZ g=false∨524288<b.length then⟨D,M,1⟩else zA8 (nm pre) D M ⟨i.toNat,t,g,b⟩) rfl;have m:=zh (zC4 O I);have s:g.length=F:=by obtain⟨_,_,e⟩:=O.slice;simp only[Value.slice.injEq]at e;exact e.2.1.symm
 have aa:=zh s;have Hn:=zh hn;have R:=zh (fun q (p:(M.number:Int)<i) (v:i≤1099511627776) (y:zDe t=true) (z:zAZ g=true) (E:n≤524288) (A:M.dead=false)=>show Calls prog 120 #[.pointer (some ⟨j,0,none⟩),.agg #[.int .i64 i,.int .i64 t,.slice pg F cg],.slice pd n cd] (w1.drewN q) (zBu w1 j r pre Hot Cold (zAg (nm pre) D M i t g b)) by
  have C:Below w1.heap.size w1 (w1.drewN q):=⟨rfl,rfl,rfl,Nat.le_refl _,fun _ _=>rfl⟩;have h9:=zGJ (h.below C) J (n2:=i.toNat) (t2:=t) (g2:=g) (dd:=b) (by omega) ⟨by show i.toNat≤_;omega,y,z,by show b.length≤_;omega⟩ (by omega) (pg:=pg) (cg:=cg) (pd:=pd) (cd:=cd) (by rw[s];exact zAK.chg O (Chg.of_below C) fun _ _=>id) (by rw[s];exact N (by rintro rfl;simp[zAZ]at z)) (by rw[hn];exact zAK.chg H (Chg.of_below C) fun _ _=>id) (by rw[hn];exact L);have V:((i.toNat:Nat):Int)=i:=by omega
  rw[V,hn,s]at h9;rw[P.o,A,if_neg (by simp),if_neg (by rw[y,z,hn];simp;omega)];exact h9.mono fun e w' G=>⟨G.1,G.step.since C⟩)
 have B:=zW (zDe t=true↔0≤t∧t≤1099511627776) zAs;clear h d O I N H L s hn J hi;generalize zAg (nm pre) D M i t g b=X at *;cases A:M.dead with
 | true =>
  rw[A]at T;have c:=zh (a.o 9 w1 (Below.refl _ _) (by rw[P.o,A];rfl))
  go_enter func48,ntmps48
  go_wp2_with fail;go_ret;exact c.o
 | false =>
  rw[A]at T;have Q:=zW (X=if i≤(M.number:Int)∨1099511627776<i∨zDe t=false∨zAZ g=false∨524288<b.length then⟨D,M,1⟩else zA8 (nm pre) D M ⟨i.toNat,t,g,b⟩) (by rw[P.o,A];rfl);have Hd:=zh A;have l:=zh (fun q ho=>a.o 1 (w1.drewN q) ⟨rfl,rfl,rfl,Nat.le_refl _,fun _ _=>rfl⟩ (by rw[Q.o,if_pos ho]));clear A;generalize C:M.number=W at *
  by_cases p:i≤(W:Int)
  ·have Y:decide (i≤(W:Int))=true:=decide_eq_true p;have c:=zh (l.o 0 (.inl p));clear p
   go_enter func48,ntmps48
   go_wp2_with fail;go_ret;exact c.o
  have Y:decide (i≤(W:Int))=false:=decide_eq_false p
  by_cases v:1099511627776<i
  ·have Z:decide (1099511627776<i)=true:=decide_eq_true v;have c:=zh (l.o 0 (.inr (.inl v)));clear p v
   go_enter func48,ntmps48
   go_wp2_with fail;go_ret;exact c.o
  have Z:decide (1099511627776<i)=false:=decide_eq_false v
  by_cases y:t<0
  ·have K:decide (t<0)=true:=decide_eq_true y;have c:=zh (l.o 0 (.inr (.inr (.inl (by rw[Bool.eq_false_iff];intro e;have:=B.o.1 e;omega)))));clear p v y
   go_enter func48,ntmps48
   go_wp2_with fail;go_ret;exact c.o
  have K:decide (t<0)=false:=decide_eq_false y
  by_cases z:1099511627776<t
  ·have d4:decide (1099511627776<t)=true:=decide_eq_true z;have c:=zh (l.o 0 (.inr (.inr (.inl (by rw[Bool.eq_false_iff];intro e;have:=B.o.1 e;omega)))));clear p v y z
   go_enter func48,ntmps48
   go_wp2_with fail;go_ret;exact c.o
  have d4:decide (1099511627776<t)=false:=decide_eq_false z;have HT:=zh (B.o.2 ⟨by omega,by omega⟩);cases f:zAZ g with
  | false =>
   rw[f]at m;have c:=zh (fun q=>l.o q (.inr (.inr (.inr (.inl f)))));clear p v y z f
   go_enter func48,ntmps48
   go_wp2_with fail;refine m.o.mono ?_;rintro e w2 ⟨rfl,q,rfl⟩;go_wp2_with fail;go_ret;exact c.o q
  | true =>
   rw[f]at m
   by_cases E:524288<n
   ·have d5:decide ((524288:Int)<(n:Int))=true:=decide_eq_true (by omega);have U:decide (524288<n)=true:=decide_eq_true E;have c:=zh (fun q=>l.o q (.inr (.inr (.inr (.inr (by rw[Hn.o];exact E))))));clear p v y z E f
    go_enter func48,ntmps48
    go_wp2_with fail;refine m.o.mono ?_;rintro e w2 ⟨rfl,q,rfl⟩;go_wp2_with fail;go_ret;exact c.o q
   ·have d5:decide ((524288:Int)<(n:Int))=false:=decide_eq_false (by omega);have U:decide (524288<n)=false:=decide_eq_false E;have Hs:=zh (fun q=>R.o q (by omega) (by omega) HT.o f (by omega) Hd.o);clear p v y z E f
    go_enter func48,ntmps48
    go_wp2_with fail;refine m.o.mono ?_;rintro e w2 ⟨rfl,q,rfl⟩;have S:=zh (Hs.o q);clear c0 T Y Z K d4;go_wp2_with fail;refine S.o.mono ?_;rintro e w4 G;have c:=zh G;obtain⟨rfl,-⟩:=G;go_wp2_with fail;go_ret;exact c.o
end
end Go.Proofs.YtapfnehdgailmaaGreat
