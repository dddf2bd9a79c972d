/- What the program's functions and the document's do, and plain laws, for PJournalKept. -/
import Derived.Test.YtapfnehdgailmaaGreatMA
import Derived.Test.YtapfnehdgailmaaGreatMF
import Derived.Test.YtapfnehdgailmaaGreatMM
open Go.Proofs.Tryz
set_option maxRecDepth 100000
set_option maxHeartbeats 64000000
namespace Go.Proofs.YtapfnehdgailmaaGreat
open Go.RowKit Go.Sat Go.Maps
theorem zF4 {w w':World}{e:TypeId}{v:Value}{m:Nat}{xs:List Value}(b:OwnR w' e 4 v (0+m) ([]++xs))(f:(w.alloc (.cells #[] e)).grownBy w' (some w.heap.size))(i:v.ownBlock=some w.heap.size∨∃g,v.ownBlock=some g∧(w.alloc (.cells #[] e)).heap.size≤g) :
  OwnR w' e 4 v m xs∧(∀k,v.ownBlock=some k→w.heap.size≤k)∧Below w.heap.size w w':=by
 rw[Nat.zero_add,List.nil_append]at b;refine⟨b,fun k c=>?_,(zAC w _).trans ((Chg.of_grown f).below (by simp) fun k c e=>?_)⟩
 ·rcases i with h|⟨g,h,d⟩
  ·rw[h]at c;cases c;exact Nat.le_refl _
  ·rw[h]at c;cases c;simp at d;omega
 ·have:=Option.some.inj e;omega
section
variable {w w1 w2:World} {j r:Nat} {pre:ByteArray} {D:zAA} {M:zAH} {Hot Cold O C C':Nat→Prop} {gv dv ev v':Value} {vs vs':List EV} {es':List Ent}
theorem zFx.one (h:zFx w j r pre O C M gv dv ev vs):∀v∈vs,v.1.oneCell'=true∧v.2.oneCell'=true:=fun v k=>by
 obtain⟨i,d,rfl⟩:=List.getElem_of_mem k;have b:i<M.entries.length:=by rw[←h.rlen];exact d
 have c:=h.rows i _ _ (List.getElem?_eq_getElem b) (List.getElem?_eq_getElem d);obtain⟨_,_,f⟩:=c.data.slice;obtain⟨_,_,g⟩:=c.nodes.slice;rw[f,g];exact⟨rfl,rfl⟩
theorem zFx.list (h:zFx w j r pre O C M gv dv ev vs)(z:Chg (fun k=>ev.ownBlock=some k) w w2)(g:OwnR w2 50 4 v' es'.length (zAz es' vs'))(s:∀k,v'.ownBlock=some k→(ev.ownBlock=some k∨w.heap.size≤k))(A:vs'.length=es'.length)
  (m:∀(i:Nat) e v,es'[i]?=some e→vs'[i]?=some v→zBS w2 e v) (p:∀u∈vs',∀k,(u.1.ownBlock=some k∨u.2.ownBlock=some k)→C' k) (y:∀k,C k→C' k) (d:∀k,C' k→(C k∨w.heap.size≤k)∧k<w2.heap.size∧v'.ownBlock≠some k) (ok:({M with entries:=es'}:zAH).OK) :
  zFx (w2.setCell ⟨j,8,none⟩ v') j r pre (fun k=>O k∨v'.ownBlock=some k) C' {M with entries:=es'} gv dv v' vs':=by
 have q:=h.olt j h.oj;have f:ev.ownBlock≠some j:=fun e=>(h.oe j e).2 rfl;have t:v'.ownBlock≠some j:=fun e=>(s j e).elim f (by omega);have a:w2.heap[j]?=w.heap[j]?:=z.block j q f;have o:∀k,C k→¬(ev.ownBlock=some k):=fun k b e=>h.dis k b (h.oe k e).1;have c:∀k,C' k→k≠j:=fun k b e=>by
  rcases(d k b).1 with l|l
  ·exact h.dis k l (e▸h.oj)
  ·omega
 have hS:∀k,k≠j→(w2.setCell ⟨j,8,none⟩ v').heap[k]?=w2.heap[k]?:=fun k b=>set_other _ b;have D:(w2.setCell ⟨j,8,none⟩ v').heap.size=w2.heap.size:=by simp[World.setCell]
 exact {
  cells:=by
   have l:=zAD (a.trans h.cells) 8 v';simpa using l
  group:=zAM.keep (zAM.chg h.group z fun k b=>o k (h.cg k b)) fun k b=>hS k (c k (y k (h.cg k b)))
  data:=zAM.keep (zAM.chg h.data z fun k b=>o k (h.cd k b)) fun k b=>hS k (c k (y k (h.cd k b)))
  row:=OwnR.keep g fun k b=>hS k fun e=>t (e▸b)
  rlen:=A
  rows:=fun i e v E B=>(m i e v E B).keep fun k b=>hS k (c k (p v (List.mem_of_getElem? B) k b))
  oj:=.inl h.oj
  oe:=fun k b=>⟨.inr b,fun e=>t (e▸b)⟩
  cg:=fun k b=>y k (h.cg k b)
  cd:=fun k b=>y k (h.cd k b)
  cv:=p
  dis:=fun k b n=>by
   rcases n with n|n
   ·rcases(d k b).1 with l|l
    ·exact h.dis k l n
    ·have:=h.olt k n;omega
   ·exact(d k b).2.2 n
  olt:=fun k b=>by
   rw[D];rcases b with b|b
   ·exact Nat.lt_of_lt_of_le (h.olt k b) z.size
   ·exact OwnR.lt g b
  clt:=fun k b=>by
   rw[D];exact(d k b).2.1
  psz:=h.psz
  ok:=ok}
theorem rj_list {own:Nat→Prop}{y:Value}{L:List zAR}(h:zFx w j r pre O C M gv dv ev vs)(o:zAf w r y L own D)(n:∀k,O k→¬own k)(p:∀k,C k→¬own k)(m:∀k,Hot k↔O k∨own k)(t:Chg (fun k=>ev.ownBlock=some k) w w2)(l:OwnR w2 50 4 v' es'.length (zAz es' vs'))(d:∀k,v'.ownBlock=some k→(ev.ownBlock=some k∨w.heap.size≤k))(s:vs'.length=es'.length)
  (g:∀(i:Nat) e v,es'[i]?=some e→vs'[i]?=some v→zBS w2 e v) (q:∀u∈vs',∀k,(u.1.ownBlock=some k∨u.2.ownBlock=some k)→C' k) (z:∀k,C k→C' k) (f:∀k,C' k→(C k∨w.heap.size≤k)∧k<w2.heap.size∧v'.ownBlock≠some k) (A:({M with entries:=es'}:zAH).OK) :
  zAs w j r pre Hot C (w2.setCell ⟨j,8,none⟩ v') D {M with entries:=es'}:=by
 have a:=h.list t l d s g q z f A;have hS:Chg (fun k=>k=j∨ev.ownBlock=some k) w (w2.setCell ⟨j,8,none⟩ v'):=(t.mono fun _ _ e=>.inr e).trans (Chg.setCell w2 ⟨j,8,none⟩ v') fun _ _ e=>.inl e;refine⟨fun k=>(O k∨v'.ownBlock=some k)∨own k,C',⟨_,own,gv,dv,v',vs',y,L,a,o.keep hS.size (fun k b=>hS.block k (o.olt k b) fun e=>?_),fun k b c=>?_,fun k b c=>?_,fun k=>Iff.rfl⟩,hS.mono fun k _ b=>(m k).2 (.inl ?_),fun k b=>?_,fun k b=>(f k b).1⟩
 ·rcases e with e|e
  ·exact n j h.oj (e▸b)
  ·exact n k (h.oe k e).1 b
 ·rcases b with b|b
  ·exact n k b c
  ·rcases d k b with e|e
   ·exact n k (h.oe k e).1 c
   ·have:=o.olt k c;omega
 ·rcases(f k b).1 with e|e
  ·exact p k e c
  ·have:=o.olt k c;omega
 ·rcases b with e|e
  ·exact e▸h.oj
  ·exact(h.oe k e).1
 ·rcases b with(b|b)|b
  ·exact .inl ((m k).2 (.inl b))
  ·rcases d k b with e|e
   ·exact .inl ((m k).2 (.inl (h.oe k e).1))
   ·exact .inr e
  ·exact .inl ((m k).2 (.inr b))
theorem rjcut_calls (h:RJF w1 j r pre D M Hot Cold)(i:Int)(hi:-9223372036854775808≤i∧i≤9223372036854775807) :
  Calls prog 46 #[.pointer (some ⟨j,0,none⟩),.int .i64 i] w1 (zB1 w1 j r pre Hot Cold (zBW (nm pre) D M i)):=by
 obtain⟨i0,bd,aP,bi,bj⟩:=info_parts (show(prog.info? 5).map (fun i=>(i.zero,i.size,i.bytes))=some (some (.int .u8 0),1,1) by kernel_rfl);obtain⟨i4,aI,aQ,aR,aS⟩:=info_parts (show(prog.info? 50).map (fun i=>(i.zero,i.size,i.bytes))=some (some (.agg #[.int .i64 0,.int .i64 0,.slice none 0 0,.slice none 0 0]),4,64) by kernel_rfl);obtain⟨gv,dv,ev,E⟩:=h.cellsD;have c0:w1.cell? ⟨j,0,none⟩=some (.int .i64 (M.number:Int)):=zAG E rfl;have c9:w1.cell? ⟨j,9,none⟩=some (.bool M.dead):=zAG E rfl;have J:=zh (fun k w2 (hb:Below w1.heap.size w1 w2) (hr:zBW (nm pre) D M i=⟨D,M,k⟩)=>rj_same h hr hb);have HR:=zW (zBW (nm pre) D M i=if M.dead then⟨D,M,9⟩else if i≤(M.number:Int)then⟨D,M,1⟩else if(M.last:Int)<i then⟨D,M,0⟩else zBw (nm pre) D M [cutB i.toNat] {M with entries:=M.entries.take (i.toNat-M.number-1) }) rfl;have ay:=zh (zDm h);have H:=zh h;have A:=zh h.okM;clear h E;generalize zBW (nm pre) D M i=ac at *;cases hd:M.dead with
 | true =>
  rw[hd]at c9;have R:=zh (J.o 9 _ (Below.refl _ _) (by rw[HR.o,hd];rfl));clear c0
  go_enter func46,ntmps46
  go_wp2_with fail;go_ret;exact R.o
 | false =>
  rw[hd]at c9;have al:=zW (ac=if i≤(M.number:Int)then⟨D,M,1⟩else if(M.last:Int)<i then⟨D,M,0⟩else zBw (nm pre) D M [cutB i.toNat] {M with entries:=M.entries.take (i.toNat-M.number-1) }) (by rw[HR.o,hd];rfl)
  by_cases V:i≤(M.number:Int)
  ·have d1:decide (i≤(M.number:Int))=true:=decide_eq_true V;have R:=zh (J.o 1 _ (Below.refl _ _) (by rw[al.o,if_pos V]))
   go_enter func46,ntmps46
   go_wp2_with fail;go_ret;exact R.o
  ·have d1:decide (i≤(M.number:Int))=false:=decide_eq_false V
   by_cases h2:(M.last:Int)<i
   ·have d2:decide ((M.last:Int)<i)=true:=decide_eq_true h2;have R:=zh (fun q=>J.o 0 (w1.drewN q) ⟨rfl,rfl,rfl,Nat.le_refl _,fun _ _=>rfl⟩ (by rw[al.o,if_neg V,if_pos h2]))
    go_enter func46,ntmps46
    go_wp2_with fail;refine ay.o.mono ?_;rintro e w2 ⟨rfl,q,rfl⟩;go_wp2_with fail;go_ret;exact R.o q
   ·have d2:decide ((M.last:Int)<i)=false:=decide_eq_false h2;have am:=zW (ac=zBw (nm pre) D M [cutB i.toNat] {M with entries:=M.entries.take (i.toNat-M.number-1) }) (by rw[al.o,if_neg V,if_neg h2]);obtain⟨z,rfl⟩:∃z:Nat,i=(z:Int):=⟨i.toNat,by omega⟩;rw[Int.toNat_natCast]at am;have be:=A.o.last;have bk:z≤1099511627776:=by omega
    have HT:=zW ([4]++zDf (z:Int)=cutB z) (by rw[zB8 (by omega)];rfl);have ag:=cutB_len z (by omega);have ae:=zh ag;clear ag
    go_enter func46,ntmps46
    go_wp2_with fail;refine ay.o.mono ?_;rintro e w2 ⟨rfl,q,rfl⟩;have az:=zh (rowB_lit (w1.drewN q) 4);have aB:=zh (zEa ((w1.drewN q).alloc (.cells #[.int .u8 4] 5)) (z:Int) (by omega));have bv:(zDf (z:Int)).length≤9:=zBK _;go_wp2_with fail;refine aB.o.mono ?_;rintro r w3 ⟨x,rfl,ar,bh,aF⟩;have aw:=zh (az.o.next aF);have aV:=zh (zAk.has ar);obtain⟨px,cx,rfl,-⟩:=zAN ar;clear ar bh aF;generalize aE:(zDf (z:Int)).length=m2 at *;have av:=zh aE;have aU:=zW (([4]:Bs).length=1) rfl;have L:=zW (OwnR w3 5 1 (.slice (some ⟨w1.heap.size,0,none⟩) 1 1) 1 (zAQ [4])) aw.o.own;have af:=zh (show zAM w3 1 (.slice px m2 cx) m2 (zAQ (zDf (z:Int))) by have:=aV.o;unfold zAY at this;rwa[av.o]at this);clear aE;go_wp2_with (at_builtin;refine zAP _ rfl (.tmp 28) (.tmp 30) 22 rfl 5 i0 (.int .u8 0) 1 1 underlying22 bd aP bi bj rfl (by decide) (.slice (some ⟨w1.heap.size,0,none⟩) 1 1) 1 _ rfl L.o (.slice px m2 cx) m2 _ rfl af.o (zAO _) (by unfold maxLen;omega) (by omega) ?_;intro v4 w4 t f C;go_loud (have S:=zh (zCm.grown (x:=zDf (z:Int)) aw.o (by rw[aU.o,av.o];exact t) f C);clear f C;obtain⟨p4,q4,rfl⟩:=OwnR.shape t;clear t;have aD:=zh (zBp (p:=p4) (m:=1+m2) (c:=q4) (l:=cutB z) (by have:=S.o.own.has;rw[HT.o]at this;exact this) (by have:=ae.o;omega));clear L af))
    refine aD.o.mono ?_;rintro r w5 ⟨y,rfl,G,aO,aG⟩;have au:=zW (Below w1.heap.size w1 w5) (((⟨rfl,rfl,rfl,Nat.le_refl _,fun _ _=>rfl⟩:Below w1.heap.size w1 (w1.drewN q)).trans S.o.bel).trans (aG.mono (show w1.heap.size≤w4.heap.size from S.o.bel.size)));obtain⟨py,cy,rfl,-⟩:=zAN G;have ah:∀k,(Value.slice py (zAK (cutB z)).length cy).ownBlock=some k→w1.heap.size≤k:=fun k hk=>Nat.le_trans (show w1.heap.size≤w4.heap.size from S.o.bel.size) (aO k hk);have ao:=zh (zEZ (H.o.below au.o) G.has (by rw[zAe];have:=ae.o;omega) (rj_new H.o G ah));clear G aO ah aG;generalize (zAK (cutB z)).length=ly at *;rw[←zCJ]at ao;have HL:=zW (zBw (nm pre) D M [cutB z] {M with entries:=M.entries.take (z-M.number-1) }=if(layOn D (zAm (nm pre)) (zAL [cutB z])).2≠0 then⟨(layOn D (zAm (nm pre)) (zAL [cutB z])).1,M.die,(layOn D (zAm (nm pre)) (zAL [cutB z])).2⟩else⟨(layOn D (zAm (nm pre)) (zAL [cutB z])).1,{M with entries:=M.entries.take (z-M.number-1) },0⟩) rfl;generalize layOn D (zAm (nm pre)) (zAL [cutB z])=Z at *;obtain⟨D2,e2⟩:=Z;dsimp only at ao HL;clear c0 c9;go_wp2_with fail;refine ao.o.mono ?_;rintro e a ⟨rfl,aN⟩;have T:=zh (aN.since au.o);clear aN
    by_cases Q:e2=0
    ·subst Q;rw[zBo]at T;obtain⟨bl,ai,hF,aa,ab,F⟩:=T.o;obtain⟨O,own,bs,bq,br,ad,bB,L1,B,Y,hO,X,hH⟩:=hF;have s0:a.cell? ⟨j,0,none⟩=some (.int .i64 (M.number:Int)):=B.c 0 rfl;have s8:=B.c 8 rfl;have bc:=B.fr 8;obtain⟨p8,P,s⟩:=B.row.shape;have bn:M.entries.length≤P:=by
      rcases B.row.2 with⟨h8,h0⟩|⟨g,bp,cur,h8,-,bg,-⟩
      ·omega
      ·rw[s]at h8;cases h8;exact bg
     have t8:a.cell? ⟨j,8,none⟩=some (.slice p8 M.entries.length P):=by rw[←s];exact s8
     clear s8;have HX:=zh (And.intro B (And.intro Y (And.intro hO (And.intro X (And.intro hH (And.intro aa (And.intro ab (And.intro F s))))))));have bf:M.last=M.number+M.entries.length:=rfl;obtain⟨k,hk⟩:∃k,k=z-M.number-1:=⟨_,rfl⟩;have aJ:k≤M.entries.length:=by omega
     have aC:=zh (zDz (M.entries.take k) (ad.take k) fun v hv=>B.one v (List.mem_of_mem_take hv));have N:=B.row;rw[s]at N;have U:=zW (zAM a 4 (.slice p8 k P) k (zAz (M.entries.take k) (ad.take k))) (by
      rw[zFK k _ _ B.rlen];exact zAM.upto (OwnR.holds N) aJ P)
     have aM:M.number+1≤z:=by omega
     have aT:z=M.number+1+k:=by omega
     have Hz:=zh aT;have ba:=zh hk;have bo:=zh aJ;clear B Y hO X hH aa ab F s N hk V h2 d1 d2 bf;generalize aL:M.entries.length=n8 at *;generalize aH:M.number=b at *;have aX:=zh aH;have aA:=zh aL;have bx:IntKind.i64.wrap ((z:Int)-(b:Int))=(k:Int)+1:=by rw[IntWalk.i64_in _ (by omega)];omega
     have bz:IntKind.i64.wrap (k:Int)=(k:Int):=IntWalk.i64_in _ (by omega);have bu:k≤P:=by omega
     have bm:k≤1099511627776:=by omega
     clear aT aM aH aL;go_wp2_with fail;have an:=zW (∀W,Below a.drew.heap.size a.drew W→zAM W 4 (.slice p8 k P) k (zAz (M.entries.take k) (ad.take k))) fun W aq=>zAM.chg U.o (Chg.of_below ((⟨rfl,rfl,rfl,Nat.le_refl _,fun _ _=>rfl⟩:Below a.heap.size a a.drew).trans aq)) fun _ _=>id;have aY:=zW (∀W,Below a.drew.heap.size a.drew W→W.frozen? ⟨j,8,none⟩=false) fun W aq=>zAE ((aq.block j (zAB HX.o.1.cells)).trans HX.o.1.cells) 8;have ak:=zh (⟨rfl,rfl,rfl,Nat.le_refl _,fun _ _=>rfl⟩:Below a.heap.size a a.drew);clear bc;have Ht:=zh (show(M.entries.take k).length=k by rw[List.length_take,aA.o];omega);refine zDX [18] (fun w':World=>w'.cell? ⟨j,8,none⟩=some (.slice p8 n8 P)∧w'.cell? ⟨j,0,none⟩=some (.int .i64 (b:Int))) (n:=19) (by kernel_rfl) rfl (⟨t8,s0⟩) fun d=>?_;generalize a.drew=W1 at *;refine Gl [0,2,3,4,5,6,7,8,9,10,11,12,13] ?_
     iterate 13 (refine Gc rfl ?_;simp only[uZ])
     refine Gn ?_;refine zEz 14 (v:=.slice p8 k P) rfl (by kernel_rfl) (by kernel_rfl) (by kernel_rfl) (by kernel_rfl) (fun _ _ _ h=>h) (by rfl) (by assumption) (fun W bt=>by have bw:=zCO W underlying78 aI p8 n8 P k (by omega);go_simp;try with_reducible rfl) ?_;simp only[uZ];refine zEP 1 rfl (by kernel_rfl) (by rfl) (fun K hK=>?_);have aj:=zh (zAC W1 (.cells #[] 50));have aZ:=zh (And.intro (zAI d.1 aj.o) (zAI d.2 aj.o));have I:=zh d;go_wp2_with fail;refine hK.o _ _ (aZ.o) fun d=>?_;clear hK
     try simp only[uZ]
     refine zEP 15 rfl (by kernel_rfl) (by rfl) (fun K hK=>?_);have aW:=zh (zBC W1 50 4);have bb:=zh (an.o _ aj.o);refine zAq (.tmp 37) (.tmp 50) 78 rfl 50 i4 (.agg #[.int .i64 0,.int .i64 0,.slice none 0 0,.slice none 0 0]) 4 64 underlying78 aI aQ aR aS rfl (by decide) (.slice (some ⟨W1.heap.size,0,none⟩) 0 0) 0 [] rfl aW.o (.slice p8 k P) k _ rfl bb.o aC.o (by unfold maxLen;omega) (by omega) ?_;intro v7 w7 t f C;have HN:=zh (zF4 t f C);have ax:=zh (And.intro (zAI I.o.1 HN.o.2.2) (zAI I.o.2 HN.o.2.2));clear t f C;obtain⟨p6,c6,rfl⟩:=OwnR.shape HN.o.1;go_wp2_with fail;refine hK.o _ _ (ax.o) fun d=>?_;clear hK
     try simp only[uZ]
     refine Gl [16,17] ?_
     iterate 2 (refine Gp rfl ?_;simp only[uZ])
     refine Gn ?_;refine g_end 18 rfl (by kernel_rfl) (by rfl) (by kernel_rfl) (fun K hK=>?_);have bA:=ax.o.1;have f8:=aY.o _ HN.o.2.2;go_wp2_with fail;refine hK.o _ _ ?_;clear hK
     try simp only[uZ]
     refine zEy (by kernel_rfl) ?_ _;have R:=zW (zB1 w1 j r pre Hot Cold ac (.returned (.int .i64 0)) (w7.setCell ⟨j,8,none⟩ (.slice p6 k c6))) (by
      rw[am.o,HL.o,if_neg (by simp)];obtain⟨B,Y,hO,X,hH,aa,ab,F,s⟩:=HX.o;rw[←ba.o,←aX.o];have ap:Below a.heap.size a w7:=ak.o.trans (HN.o.2.2.mono ak.o.size);have aK:∀y,(Value.slice p6 k c6).ownBlock=some y→a.heap.size≤y:=fun y G=>Nat.le_trans ak.o.size (HN.o.2.1 y G);refine⟨rfl,zAs.comp aa ab F (rj_list (C':=ai) (vs':=ad.take k) B Y hO X hH ((Chg.of_below ap).mono fun _ _ h=>h.elim) (by rw[Ht.o];exact HN.o.1) (fun y G=>.inr (aK y G)) (by rw[List.length_take,List.length_take,B.rlen]) (fun i e v Q hv=>?_) (fun u hu y G=>B.cv u (List.mem_of_mem_take hu) y G) (fun _ h=>h) (fun y G=>⟨.inl G,Nat.lt_of_lt_of_le (B.clt y G) ap.size,fun e=>by have V:=aK y e;have h2:=B.clt y G;omega⟩) ⟨?_,A.o.term,A.o.group,A.o.now,A.o.vote,A.o.data,fun e Q=>A.o.ents e (List.mem_of_mem_take Q)⟩)⟩
      ·rw[List.getElem?_take]at Q hv
       split at Q
       ·rw[if_pos (by assumption)]at hv;exact(B.rows i e v Q hv).below ap
       ·cases Q
      ·have V:=A.o.last;unfold zAH.last at V ⊢
       show M.number+(M.entries.take k).length≤_
       rw[Ht.o];have h2:=aA.o;omega)
     go_wp2_with fail;go_ret;exact R.o
    ·have aP:((e2:Int)==0)=false:=by simp;omega
     have R:=zW (zB1 w1 j r pre Hot Cold ac (.returned (.int .i64 (e2:Int))) a) (by
      rw[am.o,HL.o,if_pos Q];rw[zB3 M Q]at T;exact⟨rfl,T.o⟩)
     go_wp2_with fail;go_ret;exact R.o
end
def zA4 (S:Nat→Prop)(w:World)(j r:Nat)(pre:ByteArray)(M:zAH):Prop :=
 ∃O C gv dv ev vs,zFx w j r pre O C M gv dv ev vs∧∀k,(O k∨C k)→S k
section
variable {S:Nat→Prop} {w w1 w2:World} {j r:Nat} {pre:ByteArray} {M:zAH}
theorem zA4.below (h:zA4 S w1 j r pre M)(c:Below w1.heap.size w1 w2):zA4 S w2 j r pre M:=by
 obtain⟨O,C,gv,dv,ev,vs,b,hn⟩:=h;exact⟨O,C,gv,dv,ev,vs,b.below c,hn⟩
theorem zA4.ok (h:zA4 S w j r pre M):M.OK:=let ⟨_,_,_,_,_,_,hJ,_⟩:=h;hJ.ok
theorem zA4.lt (h:zA4 S w j r pre M):S j∧j<w.heap.size:=let ⟨_,_,_,_,_,_,hJ,hn⟩:=h;⟨hn j (.inl hJ.oj),hJ.olt j hJ.oj⟩
theorem zA4.cells (h:zA4 S w j r pre M):∃gv dv ev,w.heap[j]?=some (RJC r (M.number:Int) M.term gv pre M.now M.vote dv ev M.dead):=let ⟨_,_,gv,dv,ev,_,hJ,_⟩:=h;⟨gv,dv,ev,hJ.cells⟩
theorem zA4.last_calls (h:zA4 S w1 j r pre M):Calls prog 42 #[.pointer (some ⟨j,0,none⟩)] w1 fun e w'=>e=.returned (.tuple #[.int .i64 (M.last:Int),.int .i64 M.lastT])∧∃q,w'=w1.drewN q:=by
 have d:=h.ok.last;obtain⟨O,C,gv,dv,ev,vs,k,hn⟩:=h;have I:=k.c 0 rfl;have J:=k.c 1 rfl;have v:=k.c 8 rfl;obtain⟨p,c,l⟩:=k.row.shape;have t:=zW (M.last=M.number+M.entries.length) rfl
 by_cases m:M.entries.length=0
 ·have z:M.entries=[]:=List.eq_nil_of_length_eq_zero m;have s:=zW ((M.last:Int)=(M.number:Int)∧M.lastT=M.term) (⟨by rw[t.o,m];rfl,by unfold zAH.lastT;rw[z];rfl⟩);rw[l,m]at v;clear k hn l z m d
  go_enter func42,ntmps42
  go_wp2_with fail
  go_quiet (fail)
  go_wp2_with fail
  go_ret2
  exact⟨by rw[s.o.1,s.o.2];rfl,_,rfl⟩
 ·have f:M.entries.length-1<M.entries.length:=by omega
  obtain⟨g,H,v',i,B,-,F,-,-,-⟩:=k.ent (List.getElem?_eq_getElem f);have y:M.lastT=M.entries[M.entries.length-1].term:=by
   unfold zAH.lastT;rw[List.getLast?_eq_getElem?,List.getElem?_eq_getElem f]
  rw[←y]at F;rw[i]at v;unfold zAH.last at d;clear k hn l i B f y;generalize M.entries.length=n at *;generalize M.number=b at *;generalize M.last=G at *;generalize M.lastT=L at *;have A:((n:Int)==0)=false:=by simp;omega
  have D:IntKind.i64.wrap ((b:Int)+(n:Int))=(G:Int):=by rw[IntWalk.i64_in _ (by omega),t.o];omega
  have E:IntKind.i64.wrap ((n:Int)-1)=((n-1:Nat):Int):=by rw[IntWalk.i64_in _ (by omega)];omega
  have a:n-1<n:=by omega
  go_enter func42,ntmps42
  go_wp2_with fail
  go_quiet (fail)
  go_wp2_with fail
  go_ret2
  exact⟨rfl,_,rfl⟩
def zDR (S:Nat→Prop)(w1:World)(j r:Nat)(pre:ByteArray)(o:Option zAH)(e:Ending)(w':World):Prop :=
 Chg S w1 w'∧match o with
 | none=>e=.returned (.bool false)
 | some M'=>e=.returned (.bool true)∧zA4 (fun k=>S k∨w1.heap.size≤k) w' j r pre M'
theorem zA4.wide {T:Nat→Prop}(h:zA4 S w1 j r pre M)(c:∀k,S k→T k):zA4 T w1 j r pre M:=by
 obtain⟨O,C,gv,dv,ev,vs,b,hn⟩:=h;exact⟨O,C,gv,dv,ev,vs,b,fun k d=>c k (hn k d)⟩
theorem zBh (h:Below w1.heap.size w1 w2):Chg S w1 w2:=(Chg.of_below h).mono fun _ _ e=>e.elim
theorem zE2 {o:Option zAH}(b:Chg S w1 w2)(c:o=none):zDR S w1 j r pre o (.returned (.bool false)) w2:=by
 subst c;exact⟨b,rfl⟩
theorem rds_yes {M':zAH}{o:Option zAH}(b:Chg S w1 w2)(h:zA4 (fun k=>S k∨w1.heap.size≤k) w2 j r pre M')(c:o=some M'):zDR S w1 j r pre o (.returned (.bool true)) w2:=by
 subst c;exact⟨b,rfl,h⟩
theorem zAb {B:Nat}(w:World)(q:Nat):Below B w (w.drewN q):=⟨rfl,rfl,rfl,Nat.le_refl _,fun _ _=>rfl⟩
theorem zFo {p:Option Addr}{n c:Nat}{l:Bs}(f:zAY w (.slice p n c) l)(b:n≤c)(d:∀k,(Value.slice p n c).ownBlock=some k→k<w.heap.size)(i:n≤140737488355328) :
  RdY (fun k=>(Value.slice p n c).ownBlock=some k) (w.alloc (.cells #[.slice p n c,.bool false] 148)) w.heap.size ⟨l,false⟩:=by
 have hn:l.length=n:=by obtain⟨_,_,e⟩:=f.slice;simp only[Value.slice.injEq]at e;exact e.2.1.symm
 exact⟨p,n,c,⟨zAJ w _,f.below (zAC w _),b,fun e=>by have:=d _ e;omega,by rw[hn];exact i,fun e=>by cases e⟩,fun k g=>g⟩
theorem zE7 {A:Nat→Prop}{q:Nat}{k:UInt8}{l:Bs}(h:RdY A w q ⟨k::l,false⟩) :
  Calls prog 163 #[.pointer (some ⟨q,0,none⟩),.int .i64 1] w fun e w'=>∃g cc,e=.returned (.slice (some ⟨g,0,none⟩) 1 cc)∧w'.cell? ⟨g,0,none⟩=some (.int .u8 (k.toNat:Int))∧(w.heap.size≤g∧g<w'.heap.size)∧RdY A w' q ⟨l,false⟩∧Chg (fun j=>j=q) w w':=by
 refine(zEe h 1 (by decide)).mono ?_;rintro e w' ⟨v,rfl,b,f,i,n⟩;rw[take_one rfl]at b i;have d:=fun x=>OwnR.lt (k:=x) b;rcases b.2 with⟨-,m⟩|⟨g,c,cur,rfl,-⟩
 ·simp at m
 ·have:=OwnR.cells b (g:=g) rfl 0 (.int .u8 (k.toNat:Int)) rfl;rw[add_zero]at this;exact⟨g,c,rfl,this,⟨f g rfl,d g rfl⟩,i,n⟩
theorem rds_nil (h:zA4 S w1 j r pre M){p:Option Addr}{c:Nat}(f:Bool)(a:zAY w1 (.slice p 0 c) [])(l:∀k,(Value.slice p 0 c).ownBlock=some k→k<w1.heap.size) :
  Calls prog 89 #[.pointer (some ⟨j,0,none⟩),.slice p 0 c,.bool f] w1 (zDR S w1 j r pre (zBe f M [])):=by
 have g:=zh (zFo (w:=w1) a (Nat.zero_le _) l (by omega));have n:=zh (zEe g.o 1 (by decide));have b:=zh (zAC w1 (.cells #[.slice p 0 c,.bool false] 148));clear h;rw[raw_nil]at n
 go_enter func89,ntmps89
 go_wp2_with fail;refine n.o.mono ?_;rintro e w3 ⟨v,rfl,t,m,s,q⟩;have d:=zW (Below w1.heap.size w1 w3) (b.o.trans (q.below b.o.size fun i A e=>by omega));have z:w3.cell? ⟨w1.heap.size,1,none⟩=some (.bool true):=s.c1;obtain⟨pv,cv,rfl,-⟩:=zAN t;have y:=zh (zE2 (S:=S) (j:=j) (r:=r) (pre:=pre) (o:=zBe f M []) (zBh d.o) rfl);clear t m s q;go_wp2_with fail;go_ret;exact y.o
theorem rds_else (h:zA4 S w1 j r pre M){p:Option Addr}{n c:Nat}{f:Bool}{k:UInt8}{l:Bs}(K:zAY w1 (.slice p n c) (k::l))(m:n≤c)(hl:n≤1073741824)(G:∀k,(Value.slice p n c).ownBlock=some k→k<w1.heap.size)(b:f≠decide (k=1)∨(k≠1∧k≠2∧k≠3∧k≠4)) :
  Calls prog 89 #[.pointer (some ⟨j,0,none⟩),.slice p n c,.bool f] w1 (zDR S w1 j r pre (zBe f M (k::l))):=by
 have J:=zh (zFo (w:=w1) K m G (by omega));have HF:=zh (zE7 J.o);have HJ:=zh h;have C:=zh (zAC w1 (.cells #[.slice p n c,.bool false] 148));have X:zBe f M (k::l)=none:=by
  rcases b with b|⟨s,U,V,W⟩
  ·exact rec1_early b
  ·exact rec1_other s U V W
 have HM:=zh X;have L:k.toNat<256:=k.toNat_lt;have d:∀z:UInt8,k=z↔k.toNat=z.toNat:=fun z=>⟨fun e=>by rw[e],fun e=>UInt8.toNat.inj e⟩;have t:=d 1;have v:=d 2;have y:=d 3;have a:=d 4;have P:(1:UInt8).toNat=1:=rfl;have Q:(2:UInt8).toNat=2:=rfl;have R:(3:UInt8).toNat=3:=rfl;have T:(4:UInt8).toNat=4:=rfl;rw[P]at t;rw[Q]at v;rw[R]at y;rw[T]at a;clear d P Q R T X h K hl m G
 go_enter func89,ntmps89
 go_wp2_with fail;generalize ad:w1.alloc (.cells #[.slice p n c,.bool false] 148)=Wq at *;refine HF.o.mono ?_;rintro e w3 ⟨g,q,rfl,Z,F,A,E⟩;have B:=zW (Below w1.heap.size w1 w3) (C.o.trans (E.below C.o.size fun i hi e=>by omega));have ab:=zh (HJ.o.below B.o);have ac:=zh A;have aa:=zh F;have ae:=A.c1;have N:w3.cell? ⟨g,0,none⟩=some (.int .u8 (k.toNat:Int)):=Z;clear A E Z F;have I:=zh (zE2 (S:=S) (j:=j) (r:=r) (pre:=pre) (o:=zBe f M (k::l)) (zBh B.o) HM.o);have O:=zh b;have D:=zh (And.intro t (And.intro v (And.intro y a)));clear b t v y a
 by_cases s:k.toNat=1
 ·have b:k=1:=D.o.1.2 s;have hf:f=false:=by
   rcases O.o with h|h
   ·rw[decide_eq_true b]at h;simpa using h
   ·exact absurd b h.1
  subst hf;rw[s]at N;clear s b L;go_wp2_with fail;go_ret;exact I.o
 ·have b:¬k=1:=fun e=>s (D.o.1.1 e);have af:decide (k.toNat=1)=false:=decide_eq_false s;have Y:((k.toNat:Int)==1)=false:=beq_eq_false_iff_ne.2 (by omega);cases f with
  | true =>
   clear b;go_wp2_with fail;go_ret;exact I.o
  | false =>
   have H:k≠1∧k≠2∧k≠3∧k≠4:=by
    rcases O.o with h|h
    ·exact absurd (decide_eq_false b).symm h
    ·exact h
   have U:¬k.toNat=2:=fun e=>H.2.1 (D.o.2.1.2 e);have V:¬k.toNat=3:=fun e=>H.2.2.1 (D.o.2.2.1.2 e);have W:¬k.toNat=4:=fun e=>H.2.2.2 (D.o.2.2.2.2 e);have ag:((k.toNat:Int)==2)=false:=beq_eq_false_iff_ne.2 (by omega);have ah:((k.toNat:Int)==3)=false:=beq_eq_false_iff_ne.2 (by omega);have ai:((k.toNat:Int)==4)=false:=beq_eq_false_iff_ne.2 (by omega);clear b H;go_wp2_with fail;go_ret;exact I.o
end
section
variable {S:Nat→Prop} {w w1 w2:World} {j r:Nat} {pre:ByteArray} {M:zAH}
theorem zA4.vote (h:zA4 S w1 j r pre M){t v:Int}(f:zDG t=true)(g:-1≤v∧v<7):zA4 S ((w1.setCell ⟨j,5,none⟩ (.int .i64 t)).setCell ⟨j,6,none⟩ (.int .i64 v)) j r pre {M with now:=t,vote:=v}:=by
 obtain⟨O,C,gv,dv,ev,vs,b,hn⟩:=h;refine⟨O,C,gv,dv,ev,vs,b.set ?_ ((Chg.setCell w1 ⟨j,5,none⟩ _).trans (Chg.setCell _ ⟨j,6,none⟩ _) fun _ _ e=>e) rfl rfl rfl ⟨b.ok.last,b.ok.term,b.ok.group,f,g,b.ok.data,b.ok.ents⟩,hn⟩;have c:=zAD b.cells 5 (.int .i64 t);have d:=zAD c 6 (.int .i64 v);simpa using d
theorem zA4.base (h:zA4 S w1 j r pre M)(q:M.entries=[])(c:∀k,k<w1.heap.size→k≠j→w2.heap[k]?=w1.heap[k]?)(p:w1.heap.size≤w2.heap.size){n:Nat}{t:Int}{g:List Int}{gv:Value}(d:∀l dv ev,w1.heap[j]?=some (RJC r (M.number:Int) M.term l pre M.now M.vote dv ev M.dead)→w2.heap[j]?=some (RJC r (n:Int) t gv pre M.now M.vote dv ev M.dead))
  (a:zBg w2 gv g) (f:∀k,gv.ownBlock=some k→w1.heap.size≤k∧k<w2.heap.size) (o:n≤1099511627776) (B:zDG t=true) (s:zAX g=true):zA4 (fun k=>S k∨w1.heap.size≤k) w2 j r pre {M with number:=n,term:=t,group:=g}:=by
 obtain⟨O,C,l,dv,ev,vs,b,hn⟩:=h;have A:=b.olt j b.oj;have m:∀k,C k→k≠j:=fun k c e=>b.dis k c (e▸b.oj);refine⟨O,fun k=>C k∨gv.ownBlock=some k,gv,dv,ev,vs,{
  cells:=d _ _ _ b.cells
  group:=a
  data:=zAM.keep b.data fun k h=>c k (b.clt k (b.cd k h)) (m k (b.cd k h))
  row:=b.row.keep fun k h=>c k (b.olt k (b.oe k h).1) (b.oe k h).2
  rlen:=b.rlen
  rows:=fun i e v q y=>(b.rows i e v q y).keep fun k h=>c k (b.clt k (b.cv v (List.mem_of_getElem? y) k h)) (m k (b.cv v (List.mem_of_getElem? y) k h))
  oj:=b.oj
  oe:=b.oe
  cg:=fun k c=>.inr c
  cd:=fun k c=>.inl (b.cd k c)
  cv:=fun u D k c=>.inl (b.cv u D k c)
  dis:=fun k c z=>by
   rcases c with c|c
   ·exact b.dis k c z
   ·have E:=(f k c).1;have F:=b.olt k z;omega
  olt:=fun k h=>Nat.lt_of_lt_of_le (b.olt k h) p
  clt:=fun k h=>h.elim (fun h=>Nat.lt_of_lt_of_le (b.clt k h) p) fun h=>(f k h).2
  psz:=b.psz
  ok:=⟨by show n+M.entries.length≤_;rw[q];exact o,B,s,b.ok.now,b.ok.vote,b.ok.data,b.ok.ents⟩ },fun k c=>?_⟩
 rcases c with c|c|c
 ·exact .inl (hn k (.inl c))
 ·exact .inl (hn k (.inr c))
 ·exact .inr (f k c).1
theorem rds_k2 (h:zA4 S w1 j r pre M){p:Option Addr}{n c:Nat}{l:Bs}(hx:zAY w1 (.slice p n c) (2::l))(A:n≤c)(hl:n≤1073741824)(P:∀k,(Value.slice p n c).ownBlock=some k→k<w1.heap.size) :
  Calls prog 89 #[.pointer (some ⟨j,0,none⟩),.slice p n c,.bool false] w1 (zDR S w1 j r pre (zBe false M (2::l))):=by
 have aa:=zh (zFo (w:=w1) hx A P (by omega));have HF:=zh (zE7 aa.o);have T:=zh h;have G:=zh (zAC w1 (.cells #[.slice p n c,.bool false] 148));have Y:=zh (show zBe false M (2::l)=(if(Rd.num ⟨l,false⟩).2.num.2.whole&&M.mayVote ((Rd.num ⟨l,false⟩).1:Int) (((Rd.num ⟨l,false⟩).2.num.1:Int)-1)then
    some {M with now:=((Rd.num ⟨l,false⟩).1:Int),vote:=(((Rd.num ⟨l,false⟩).2.num.1:Int)-1) }else none)from rfl)
 have ao:=Rd.num_le ⟨l,false⟩;have ag:=Rd.num_le (Rd.num ⟨l,false⟩).2;generalize zBe false M (2::l)=O at *;have ai:=zAl.1 h.ok.now;clear h hx hl A P
 go_enter func89,ntmps89
 go_wp2_with fail;generalize al:w1.alloc (.cells #[.slice p n c,.bool false] 148)=Wq at *;refine HF.o.mono ?_;rintro e w3 ⟨g,q,rfl,hg,N,E,I⟩;have B:=zW (Below w1.heap.size w1 w3) (G.o.trans (I.below G.o.size fun i hi e=>by omega));have ak:=zh (T.o.below B.o);have ab:=zh E;have aj:=zh N;have am:=E.c1;have an:w3.cell? ⟨g,0,none⟩=some (.int .u8 2):=hg;clear E I hg N;go_wp2_with fail;have Z:=zh (zBE ab.o);refine Z.o.mono ?_;rintro e w4 ⟨rfl,Q,J⟩;have K:=zh (zBE Q);have F:=zW (Below w1.heap.size w1 w4) (B.o.trans (J.below B.o.size fun i hi e=>by omega));clear Q J;go_wp2_with fail;refine K.o.mono ?_;rintro e w5 ⟨rfl,R,L⟩;have m:=zW (Below w1.heap.size w1 w5) (F.o.trans (L.below F.o.size fun i hi e=>by omega));have ac:=zh R;clear R L;have HW:=zh (zCk ac.o);obtain⟨gv,dv,ev,b⟩:=(T.o.below m.o).cells;have c5:=cell5 b;have c6:=zAG b (i:=6) rfl;have f5:=zAE b 5;have f6:=zAE b 6;have y:=zW (∀t v,M.mayVote t v=(decide (M.now≤t∧t≤1099511627776∧-1≤v∧v<7)&& !decide (t=M.now∧M.vote≠-1∧v≠M.vote))) fun _ _=>rfl;generalize (Rd.num ⟨l,false⟩).2.num.2=R5 at *;generalize (Rd.num ⟨l,false⟩).2.num.1=m2 at *;generalize (Rd.num ⟨l,false⟩).1=f at *;obtain⟨v,hv⟩:∃v:Int,v=(m2:Int)-1:=⟨_,rfl⟩;have ar:IntKind.i64.wrap ((m2:Int)-1)=v:=by rw[IntWalk.i64_in _ (by omega)];omega
 rw[←hv]at Y;have ah:-1≤v:=by omega
 have HV:=zh (fun(V:zDG (f:Int)=true) (U:v<7)=>(T.o.below m.o).vote V ⟨ah,U⟩);have X:=zh (fun t v=>show Chg S w1 ((w5.setCell ⟨j,5,none⟩ (.int .i64 t)).setCell ⟨j,6,none⟩ (.int .i64 v))from(zBh m.o).trans ((Chg.setCell w5 ⟨j,5,none⟩ (.int .i64 t)).trans (Chg.setCell _ ⟨j,6,none⟩ (.int .i64 v)) fun _ _ e=>e) fun k _ e=>by have e2:k=j:=e;rw[e2];exact T.o.lt.1);clear hv ag;go_wp2_with fail;refine HW.o.mono ?_;rintro e w6 ⟨rfl,rfl⟩;cases W:R5.whole with
 | false =>
  have s:=zh (zE2 (S:=S) (j:=j) (r:=r) (pre:=pre) (o:=O) (zBh m.o) (by rw[Y.o,W];rfl));clear W b;go_wp2_with fail;go_ret;exact s.o
 | true =>
  have H:=zW (O=if M.mayVote (f:Int) v=true then some {M with now:=(f:Int),vote:=v}else none) (by rw[Y.o,W];simp);have a:=zh (fun(hm:M.mayVote (f:Int) v=false)=>show O=none by rw[H.o,hm];rfl);clear W;generalize ap:M.now=now at *;generalize aq:M.vote=vote at *
  by_cases U:7≤v
  ·have d7:decide ((7:Int)≤v)=true:=decide_eq_true U;have s:=zh (zE2 (S:=S) (j:=j) (r:=r) (pre:=pre) (o:=O) (zBh m.o) (a.o (by rw[y.o,decide_eq_false (by omega)];rfl)));clear b;go_wp2_with fail;go_ret;exact s.o
  ·have d7:decide ((7:Int)≤v)=false:=decide_eq_false U
   by_cases V:1099511627776<f
   ·have dt:decide ((1099511627776:Int)<(f:Int))=true:=decide_eq_true (by omega);have ad:decide (1099511627776<f)=true:=decide_eq_true V;have s:=zh (zE2 (S:=S) (j:=j) (r:=r) (pre:=pre) (o:=O) (zBh m.o) (a.o (by rw[y.o,decide_eq_false (by omega)];rfl)));clear b;go_wp2_with fail;go_ret;exact s.o
   ·have dt:decide ((1099511627776:Int)<(f:Int))=false:=decide_eq_false (by omega);have ad:decide (1099511627776<f)=false:=decide_eq_false V
    by_cases hn:(f:Int)<now
    ·have dn:decide ((f:Int)<now)=true:=decide_eq_true hn;have s:=zh (zE2 (S:=S) (j:=j) (r:=r) (pre:=pre) (o:=O) (zBh m.o) (a.o (by rw[y.o,decide_eq_false (by omega)];rfl)));clear b;go_wp2_with fail;go_ret;exact s.o
    ·have dn:decide ((f:Int)<now)=false:=decide_eq_false hn;have hT:zDG (f:Int)=true:=zAl.2 ⟨by omega,by omega⟩;have C:=zh (fun(hm:M.mayVote (f:Int) v=true)=>rds_yes (S:=S) (w1:=w1) (o:=O) (X.o (f:Int) v) ((HV.o hT (by omega)).wide fun _ h=>.inl h) (by rw[H.o,if_pos hm]))
     by_cases D:(f:Int)=now
     ·have de:((f:Int)==now)=true:=by simpa using D
      by_cases d:vote=-1
      ·have ae:(vote != -1)=false:=by simpa using d
       have s:=zh (C.o (by rw[y.o,decide_eq_true (by omega),decide_eq_false (by omega)];rfl));clear b D d;go_wp2_with fail;go_ret;exact s.o
      ·have ae:(vote != -1)=true:=by simpa using d
       by_cases z:v=vote
       ·have af:(v != vote)=false:=by simpa using z
        have s:=zh (C.o (by rw[y.o,decide_eq_true (by omega),decide_eq_false (by omega)];rfl));clear b D d z;go_wp2_with fail;go_ret;exact s.o
       ·have af:(v != vote)=true:=by simpa using z
        have s:=zh (zE2 (S:=S) (j:=j) (r:=r) (pre:=pre) (o:=O) (zBh m.o) (a.o (by rw[y.o,decide_eq_true (p:=(f:Int)=now∧vote≠-1∧v≠vote) ⟨D,d,z⟩,Bool.and_comm];rfl)));clear b D d z;go_wp2_with fail;go_ret;exact s.o
     ·have de:((f:Int)==now)=false:=by simpa using D
      have s:=zh (C.o (by rw[y.o,decide_eq_true (by omega),decide_eq_false (by omega)];rfl));clear b D;go_wp2_with fail;go_ret;exact s.o
theorem rds_k1 (h:zA4 S w1 j r pre M){p:Option Addr}{n c:Nat}{l:Bs}(hx:zAY w1 (.slice p n c) (1::l))(P:n≤c)(hl:n≤1073741824)(Z:∀k,(Value.slice p n c).ownBlock=some k→k<w1.heap.size)(he:M.entries=[])(ap:∀k,(Value.slice p n c).ownBlock=some k→k≠j) :
  Calls prog 89 #[.pointer (some ⟨j,0,none⟩),.slice p n c,.bool true] w1 (zDR S w1 j r pre (zBe true M (1::l))):=by
 have aB:=zh (zFo (w:=w1) hx P Z (by omega));have HF:=zh (zE7 aB.o);have HJ:=zh h;have ac:=zh (zAC w1 (.cells #[.slice p n c,.bool false] 148));have HM:=zh (show zBe true M (1::l)=(if(Rd.num ⟨l,false⟩).2.num.2.grp zAX |>.2.whole then
    if(Rd.num ⟨l,false⟩).1≤1099511627776∧(Rd.num ⟨l,false⟩).2.num.1≤1099511627776 then
     some {M with number:=(Rd.num ⟨l,false⟩).1,term:=((Rd.num ⟨l,false⟩).2.num.1:Int),group:=((Rd.num ⟨l,false⟩).2.num.2.grp zAX).1}else none
   else none)from rfl)
 have aR:=Rd.num_le ⟨l,false⟩;have aS:=Rd.num_le (Rd.num ⟨l,false⟩).2;have aF:=zh (fun l' R' (hL:RLst (Rd.num ⟨l,false⟩).2.num.2 l' R')=>lst_first hL);generalize zBe true M (1::l)=O at *;have HA:=zh Z;have aA:=zh ap;have He:=zh he;have an:=h.lt;clear h hx hl P Z ap he
 go_enter func89,ntmps89
 go_wp2_with fail;generalize aO:w1.alloc (.cells #[.slice p n c,.bool false] 148)=Wq at *;refine HF.o.mono ?_;rintro e w3 ⟨g,q,rfl,z,am,K,ai⟩;have R:=zW (Below w1.heap.size w1 w3) (ac.o.trans (ai.below ac.o.size fun i hi e=>by omega));have aM:=zh (HJ.o.below R.o);have aC:=zh K;have aL:=zh am;have aP:=K.c1;have aQ:w3.cell? ⟨g,0,none⟩=some (.int .u8 1):=z;clear K ai z am;go_wp2_with fail;have ay:=zh (zBE aC.o);refine ay.o.mono ?_;rintro e w4 ⟨rfl,aq,aj⟩;have az:=zh (zBE aq);have ab:=zW (Below w1.heap.size w1 w4) (R.o.trans (aj.below R.o.size fun i hi e=>by omega));clear aq aj;go_wp2_with fail;refine az.o.mono ?_;rintro e w5 ⟨rfl,ar,ak⟩;have T:=zW (Below w1.heap.size w1 w5) (ab.o.trans (ak.below ab.o.size fun i hi e=>by omega));have aD:=zh ar;clear ar ak;generalize (Rd.num ⟨l,false⟩).2.num.2=R5 at *;generalize (Rd.num ⟨l,false⟩).2.num.1=f at *;generalize (Rd.num ⟨l,false⟩).1=d at *;have aT:=T.o.size;have ax:=zh (rlst_calls aD.o fun k s=>⟨by have:=HA.o k s;omega,fun e=>by have:=HA.o k s;omega⟩);go_wp2_with fail;refine ax.o.mono ?_;rintro e B ⟨vl,lg,R6,rfl,ah,v,J,ao,aI,au,al⟩;have a:=zW (Below w1.heap.size w1 B) (T.o.trans (al.below T.o.size fun i hi e=>by omega));obtain⟨af,ag⟩:=aF.o lg R6 ah;have D:=zh (And.intro af ag);have aw:=zh (HJ.o.below a.o);have av:=a.o.size;obtain⟨N,E,rfl,-⟩:=zAw v;generalize Q:lg.length=L at *;have aK:=zh Q;have aN:=zh (And.intro v (show ∀k,(Value.slice N L E).ownBlock=some k→w5.heap.size≤k∧k<B.heap.size from fun k s=>⟨J k s,OwnR.lt v s⟩));obtain⟨gv,dv,ev,b⟩:=aw.o.cells;have c0:=zAd b;have c1:=zAn b;have c2:=zAo b;have f0:=zAE b 0;have f1:=zAE b 1;have f2:=zAE b 2;have m:Chg (fun k=>k=j) B (((B.setCell ⟨j,0,none⟩ (.int .i64 (d:Int))).setCell ⟨j,1,none⟩ (.int .i64 (f:Int))).setCell ⟨j,2,none⟩ (.slice N L E)):=((Chg.setCell B ⟨j,0,none⟩ _).trans (Chg.setCell _ ⟨j,1,none⟩ _) fun _ _ e=>e).trans (Chg.setCell _ ⟨j,2,none⟩ _) fun _ _ e=>e;have Y:=fun W F G (hc0:B.heap[j]?=some (RJC r (M.number:Int) M.term W pre M.now M.vote F G M.dead))=>show(((B.setCell ⟨j,0,none⟩ (.int .i64 (d:Int))).setCell ⟨j,1,none⟩ (.int .i64 (f:Int))).setCell ⟨j,2,none⟩ (.slice N L E)).heap[j]?=some (RJC r (d:Int) (f:Int) (.slice N L E) pre M.now M.vote F G M.dead) by
  have y:=zAD hc0 0 (.int .i64 (d:Int));have A:=zAD y 1 (.int .i64 (f:Int));have h3:=zAD A 2 (.slice N L E);simpa using h3
 have aE:=zh (zCk (au.chg m (fun e=>by omega) fun k s e=>aA.o k s e));have X:zBg (((B.setCell ⟨j,0,none⟩ (.int .i64 (d:Int))).setCell ⟨j,1,none⟩ (.int .i64 (f:Int))).setCell ⟨j,2,none⟩ (.slice N L E)) (.slice N L E) lg:=by
  have:=zAM.chg (zCp.has v) m fun k s e=>by have:=J k s;omega
  exact this
 have t:=zh (zC7 X (by omega));have H:Chg S w1 (((B.setCell ⟨j,0,none⟩ (.int .i64 (d:Int))).setCell ⟨j,1,none⟩ (.int .i64 (f:Int))).setCell ⟨j,2,none⟩ (.slice N L E)):=(zBh a.o).trans m fun k _ e=>by rw[e];exact an.1
 have V:=zh (fun q (ho:O=none)=>zE2 (S:=S) (w1:=w1) (j:=j) (r:=r) (pre:=pre) (H.trans (zBh (zAb _ q)) fun _ _ h=>h) ho);have ad:=zh (fun(ho:O=none)=>zE2 (S:=S) (w1:=w1) (j:=j) (r:=r) (pre:=pre) H ho);have ae:=zh (fun q (y:d≤1099511627776) (A:f≤1099511627776) (z:zAX lg=true) (ho:O=some {M with number:=d,term:=(f:Int),group:=lg})=>rds_yes (S:=S) (w1:=w1) (H.trans (zBh (zAb _ q)) fun _ _ h=>h) ((HJ.o.base He.o (fun k s aJ=>(m.block k (Nat.lt_of_lt_of_le s av) aJ).trans (a.o.block k s)) (Nat.le_trans av m.size) (fun W F G h=>Y W F G ((a.o.block j an.2).trans h)) X (fun k s=>⟨by have:=J k s;omega,Nat.lt_of_lt_of_le (OwnR.lt v s) m.size⟩) y (zAl.2 ⟨by omega,by omega⟩) z).below (zAb _ q)) ho);have I:=Y gv dv ev b;have d0:=zAd I;have d1:=zAn I;have d2:=zAo I;have HD:=zh (And.intro d0 (And.intro d1 d2));clear v J ao aI au al b m Y X H I af ag ah Q d0 d1 d2;go_wp2_with fail;clear c0 c1 c2 f0 f1 f2;generalize ((B.setCell ⟨j,0,none⟩ (.int .i64 (d:Int))).setCell ⟨j,1,none⟩ (.int .i64 (f:Int))).setCell ⟨j,2,none⟩ (.slice N L E)=W7 at *;obtain⟨d0,d1,d2⟩:=HD.o;refine aE.o.mono ?_;rintro e w8 ⟨rfl,rfl⟩;cases hw:R6.whole with
 | false =>
  have C:=zh (ad.o (by rw[HM.o,←D.o.1,hw];rfl));clear hw;go_wp2_with fail;go_ret;exact C.o
 | true =>
  cases z:zAX lg with
  | false =>
   have C:=zh (fun q=>V.o q (by rw[HM.o,←D.o.1,hw,z];rfl));rw[z]at t;clear hw z;go_wp2_with fail;refine t.o.mono ?_;rintro e w9 ⟨rfl,q,rfl⟩;go_wp2_with fail;go_ret;exact C.o q
  | true =>
   have aa:((R5.grp zAX).2.whole)=true:=by rw[←D.o.1,hw,z];rfl
   have HG:=zh z;have U:=zW (O=if d≤1099511627776∧f≤1099511627776 then some {M with number:=d,term:=(f:Int),group:=lg}else none) (by rw[HM.o,if_pos aa,D.o.2 aa]);rw[z]at t;clear hw z aa;have q0:∀q,(w8.drewN q).cell? ⟨j,0,none⟩=some (.int .i64 (d:Int)):=fun _=>d0;have q1:∀q,(w8.drewN q).cell? ⟨j,1,none⟩=some (.int .i64 (f:Int)):=fun _=>d1
   by_cases y:d≤1099511627776
   ·have e1:decide ((d:Int)≤1099511627776)=true:=decide_eq_true (by omega);have aG:decide (d≤1099511627776)=true:=decide_eq_true y
    by_cases A:f≤1099511627776
    focus have e2:decide ((f:Int)≤1099511627776)=true:=decide_eq_true (by omega);have aH:decide (f≤1099511627776)=true:=decide_eq_true A;have C:=zh (fun q=>ae.o q y A HG.o (by rw[U.o,if_pos ⟨y,A⟩]))
    rotate_left
    focus have e2:decide ((f:Int)≤1099511627776)=false:=decide_eq_false (by omega);have aH:decide (f≤1099511627776)=false:=decide_eq_false A;have C:=zh (fun q=>V.o q (by rw[U.o,if_neg (fun e=>A e.2)]))
    all_goals
     clear y A;go_wp2_with fail;refine t.o.mono ?_;rintro e w9 ⟨rfl,q,rfl⟩;have q0:=q0 q;have q1:=q1 q;go_wp2_with fail;go_ret;exact C.o q
   ·have e1:decide ((d:Int)≤1099511627776)=false:=decide_eq_false (by omega);have aG:decide (d≤1099511627776)=false:=decide_eq_false y;have C:=zh (fun q=>V.o q (by rw[U.o,if_neg (fun e=>y e.1)]));clear y;go_wp2_with fail;refine t.o.mono ?_;rintro e w9 ⟨rfl,q,rfl⟩;have q0:=q0 q;go_wp2_with fail;go_ret;exact C.o q
end
section
variable {w1:World} {j r:Nat} {pre:ByteArray} {D:zAA} {M:zAH} {Hot Cold:Nat→Prop}
theorem rjappend_calls (h:RJF w1 j r pre D M Hot Cold){p:Option Addr}{n c:Nat}{es:List Ent}{vs:List EV}(hx:∀W,Chg Hot w1 W→zCb W (.slice p n c) es vs)(bV:es≠[]→∀b o,p=some ⟨b,o,none⟩→¬Hot b)(hn:n≤1000000) :
  Calls prog 44 #[.pointer (some ⟨j,0,none⟩),.slice p n c] w1 (zB1 w1 j r pre Hot Cold (zAZ (nm pre) D M es)):=by
 obtain⟨i0,bP,bW,bX,bY⟩:=info_parts (show(prog.info? 5).map (fun i=>(i.zero,i.size,i.bytes))=some (some (.int .u8 0),1,1) by kernel_rfl);obtain⟨i4,bR,br,bs,bt⟩:=info_parts (show(prog.info? 50).map (fun i=>(i.zero,i.size,i.bytes))=some (some (.agg #[.int .i64 0,.int .i64 0,.slice none 0 0,.slice none 0 0]),4,64) by kernel_rfl);obtain⟨gv,dv,ev,aj⟩:=h.cellsD;have c9:w1.cell? ⟨j,9,none⟩=some (.bool M.dead):=zAG aj rfl;have aa:=zh (fun k w2 (hb:Below w1.heap.size w1 w2) (hr:zAZ (nm pre) D M es=⟨D,M,k⟩)=>rj_same h hr hb);have HR:=zW (zAZ (nm pre) D M es=if M.dead then⟨D,M,9⟩else if 1099511627776<M.last+es.length∨es.all zAt=false then⟨D,M,1⟩else if es=[]then⟨D,M,0⟩else zBw (nm pre) D M (zAx M.last es) {M with entries:=M.entries++es}) rfl;have bE:=zh (zDm h);have H:=zh h;have U:=zh h.okM;have bo:es.length=n:=(hx w1 (Chg.refl _ _)).len;have Hx:=zh hx;have R:=zh bo;clear h aj hx;generalize zAZ (nm pre) D M es=az at *;cases hd:M.dead with
 | true =>
  rw[hd]at c9;have HE:=zh (aa.o 9 _ (Below.refl _ _) (by rw[HR.o,hd];rfl))
  go_enter func44,ntmps44
  go_wp2_with fail;go_ret;exact HE.o
 | false =>
  rw[hd]at c9;have ar:=zW (az=if 1099511627776<M.last+es.length∨es.all zAt=false then⟨D,M,1⟩else if es=[]then⟨D,M,0⟩else zBw (nm pre) D M (zAx M.last es) {M with entries:=M.entries++es}) (by rw[HR.o,hd];rfl);have bS:=U.o.last;generalize bg:M.last=g at *;have aV:=zh bg;clear bg bo hd
  go_enter func44,ntmps44
  go_wp2_with fail;refine bE.o.mono ?_;rintro e w3 ⟨rfl,q,rfl⟩;have aI:=zW (Below w1.heap.size w1 (w1.drewN q)) (⟨rfl,rfl,rfl,Nat.le_refl _,fun _ _=>rfl⟩);generalize bK:w1.drewN q=W0 at *;clear bK;go_wp2_with fail
  go_loopw [5,8] (fun x i wr=>∃(k:Nat) (y:Value),k≤n∧i=.int .i64 k∧y=x∧(∀e∈es.take k,zAt e=true)∧zCm W0 wr y (zAL (zAx g (es.take k)))) (fun _ i _=>n-(intOf i).toNat)
  case atStart=>exact⟨0,_,Nat.zero_le _,rfl,rfl,fun e he=>(by simp at he),zCm.nil _⟩
  case round =>
   obtain⟨k,y,hk,rfl,rfl,L,E⟩:=hrel;have l:Below w1.heap.size w1 wr:=aI.o.trans (E.bel.mono aI.o.size);have an:(zAL (zAx g (es.take k))).length≤65812*k:=by
    have h1:=zDk (c:=65800) (zAx g (es.take k)) (zCq g (es.take k) L (by rw[List.length_take];omega));rw[zCe,List.length_take]at h1;exact Nat.le_trans h1 (Nat.mul_le_mul_left _ (Nat.min_le_left _ _))
   by_cases bT:k<n
   ·have A:k<es.length:=by rw[R.o];exact bT
    obtain⟨b,o,v,rfl,F,k0,k1,k2,k3⟩:=(Hx.o wr ((Chg.of_below l).mono fun _ _ h=>h.elim)).ent A;have bB:=zh (zFJ (n:=g) A);have aJ:=zh (List.take_succ_eq_append_getElem A);have aZ:=zW (zAt es[k]=false→es.all zAt=false) (fun hf=>by
     rw[Bool.eq_false_iff];intro ht;have:=List.all_eq_true.1 ht _ (List.getElem_mem A);rw[hf]at this;cases this)
    generalize es[k]=e at *;obtain⟨v1,v2⟩:=v;obtain⟨p1,c1,e1⟩:=F.data.slice;obtain⟨p2,c2,e2⟩:=F.nodes.slice;have aN:v1=.slice p1 e.data.length c1:=e1;have aO:v2=.slice p2 e.nodes.length c2:=e2;subst aN;subst aO;have k2:wr.cell? ⟨b,o+k*4+2,none⟩=some (.slice p1 e.data.length c1):=k2;have k3:wr.cell? ⟨b,o+k*4+3,none⟩=some (.slice p2 e.nodes.length c2):=k3;have aK:=zh F;have bF:=zh E;have av:=zh L;have aS:=zh l;have ch:=zh an;obtain⟨py,cy,rfl,-⟩:=zAN E.own;have aM:=zh (ris_calls F);unfold zDx at aM;dsimp only at aM;clear A F e1 e2 E L l;generalize bj:(zAL (zAx g (es.take k))).length=m1 at *;have bb:=zh bj;clear bj;go_wp2_with fail;refine aM.o.mono ?_;rintro r5 w4 ⟨rfl,S⟩;have aT:=zh S;cases N:zAt e with
    | false =>
     have HE:=zh (aa.o 1 w4 (aS.o.trans (aT.o.mono aS.o.size)) (by rw[ar.o,if_pos (.inr (aZ.o N))]));clear N k0 k1 k2 k3 S;go_wp2_with fail;go_ret;exact HE.o
    | true =>
     have ct:IntKind.i64.wrap ((g:Int)+1)=(g:Int)+1:=IntWalk.i64_in _ (by omega);have cw:IntKind.i64.wrap ((g:Int)+1+(k:Int))=(g:Int)+1+(k:Int):=IntWalk.i64_in _ (by omega);have bC:=zW (Calls prog 113 #[.int .i64 ((g:Int)+1+(k:Int)),.agg #[.int .i64 e.term,.int .i64 e.kind,.slice p1 e.data.length c1,.slice p2 e.nodes.length c2]] w4 (zBf w4 (zAK (zEt (g+k+1) e)))) (by
      have:=rentry_calls (n:=g+k+1) (aK.o.below S) N (by omega);rwa[show((g+k+1:Nat):Int)=(g:Int)+1+(k:Int) by omega]at this)
     have q0:=zAI k0 S;have q1:=zAI k1 S;have q2:=zAI k2 S;have q3:=zAI k3 S;have aL:=zh N;clear N k0 k1 k2 k3 S;go_wp2_with fail;refine bC.o.mono ?_;rintro r6 w5 ⟨z,rfl,hz,bZ,bh⟩;have aX:=zh ((bF.o.next aT.o).next bh);have HZ:=zh (zAk.has hz);have cx:(zAK (zEt (g+k+1) e)).length≤65812:=by
      rw[zAe];have h1:=zBN aL.o;have h2:=zEu (n:=g+k+1) (by omega) aL.o;omega
     obtain⟨pz,cz,rfl,-⟩:=zAN hz;clear hz bZ bh q0 q1 q2 q3;generalize bk:(zAK (zEt (g+k+1) e)).length=m2 at *;have bc:=zh bk;have af:=zW (OwnR w5 5 1 (.slice py m1 cy) m1 (zAQ (zAL (zAx g (es.take k))))) (by have:=aX.o.own;unfold zAk at this;rwa[bb.o]at this);have aB:=zW (zAM w5 1 (.slice pz m2 cz) m2 (zAQ (zAK (zEt (g+k+1) e)))) (by have:=HZ.o;unfold zAY at this;rwa[bc.o]at this);have HT:=zW (zAL (zAx g (es.take k))++zAK (zEt (g+k+1) e)=zAL (zAx g (es.take (k+1)))) (by rw[bB.o,zCj,zCJ]);clear bk;go_wp2_with (at_builtin;refine zAP _ rfl (.tmp 32) (.tmp 41) 22 rfl 5 i0 (.int .u8 0) 1 1 underlying22 bP bW bX bY rfl (by decide) (.slice py m1 cy) m1 _ rfl af.o (.slice pz m2 cz) m2 _ rfl aB.o (zAO _) (by unfold maxLen;omega) (by omega) ?_;intro v7 w7 B d C;go_loud (have bz:=zh (zCm.grown (x:=zAK (zEt (g+k+1) e)) aX.o (by rw[bb.o,bc.o];exact B) d C);clear d C;obtain⟨p7,q7,rfl⟩:=OwnR.shape B;clear B af aB))
     go_roundw
     case rel =>
      refine⟨k+1,_,by omega,by go_num,rfl,?_,by rw[←HT.o];exact bz.o⟩;intro z hz;rw[aJ.o]at hz;rcases List.mem_append.1 hz with hz|hz
      ·exact av.o z hz
      ·rw[show z=e by simpa using hz];exact aL.o
     case measure=>simp[intOf];omega
   ·obtain rfl:k=n:=by omega
    have bM:es.take k=es:=List.take_of_length_le (by rw[R.o];omega);rw[bM]at L E an;have aC:es.all zAt=true:=List.all_eq_true.2 L;obtain⟨py,cy,rfl,-⟩:=zAN E.own
    by_cases bm:k=0
    ·have aG:es=[]:=List.eq_nil_of_length_eq_zero (by rw[R.o,bm]);have HE:=zh (aa.o 0 wr l (by rw[ar.o,if_neg (by rw[aC,aG];simp;omega),if_pos aG]));subst bm;clear E L l an;go_wp2_with fail;go_ret;exact HE.o
    ·have co:((k:Int)==0)=false:=by simp;omega
     have bU:es≠[]:=fun e=>by have:=R.o;rw[e]at this;simp at this;omega
     obtain⟨x0,bq⟩:∃x0,x0=g+k:=⟨_,rfl⟩;have cs:IntKind.i64.wrap ((g:Int)+(k:Int))=(x0:Int):=by rw[IntWalk.i64_in _ (by omega)];omega
     by_cases ah:1099511627776<g+k
     ·have HE:=zh (aa.o 1 wr l (by rw[ar.o,if_pos (.inl (by rw[R.o];exact ah))]));have bL:decide ((1099511627776:Int)<(x0:Int))=true:=decide_eq_true (by omega);clear E L l an ah bq;go_wp2_with fail;go_ret;exact HE.o
     ·have bL:decide ((1099511627776:Int)<(x0:Int))=false:=decide_eq_false (by omega);have aW:=zW (az=zBw (nm pre) D M (zAx g es) {M with entries:=M.entries++es}) (by rw[ar.o,if_neg (by rw[aC,R.o];simp;omega),if_neg bU]);have ba:=zh (zEZ (H.o.below l) E.own.has (by omega) (rj_new H.o E.own fun y t=>Nat.le_trans aI.o.size (E.new y t)));have bw:=zh l;have HL:=zW (zBw (nm pre) D M (zAx g es) {M with entries:=M.entries++es}=if(layOn D (zAm (nm pre)) (zAL (zAx g es))).2≠0 then⟨(layOn D (zAm (nm pre)) (zAL (zAx g es))).1,M.die,(layOn D (zAm (nm pre)) (zAL (zAx g es))).2⟩else⟨(layOn D (zAm (nm pre)) (zAL (zAx g es))).1,{M with entries:=M.entries++es},0⟩) rfl;have av:=zh L;have aU:=zh (show g+k≤1099511627776 by omega);generalize layOn D (zAm (nm pre)) (zAL (zAx g es))=Z at *;generalize (zAL (zAx g es)).length=ly at *;obtain⟨D2,e2⟩:=Z;dsimp only at ba HL;clear E L l an ah bq;go_wp2_with fail;refine ba.o.mono ?_;rintro e w6 ⟨rfl,Y⟩;have au:=zh (Y.since bw.o);clear Y
      by_cases he:e2=0
      ·subst he;rw[zBo]at au;have bx:=zW (zAs w1 j r pre Hot Cold w6 D2 {M with entries:=M.entries++es.take 0}) (by rw[List.take_zero,List.append_nil];exact au.o);go_wp2_with fail
       go_loopw [10] (fun i wr=>∃k2:Nat,k2≤k∧i=.int .i64 k2∧zAs w1 j r pre Hot Cold wr D2 {M with entries:=M.entries++es.take k2}) (fun i _=>k-(intOf i).toNat)
       case atStart=>exact⟨0,Nat.zero_le _,rfl,bx.o⟩
       case round =>
        obtain⟨k2,cl,rfl,Y⟩:=hrel
        by_cases aE:k2<k
        ·have cg:=zW (k=k) rfl;obtain⟨nn,bn⟩:∃nn,nn=k:=⟨_,rfl⟩;rw[←bn]at aE;obtain⟨cc,aH,hF,ai,am,ab⟩:=Y;have A:k2<es.length:=by rw[R.o];omega
         obtain⟨b,o,v,rfl,F,k0,k1,bu,k3⟩:=(Hx.o wr ai).ent A;have aJ:=zh (List.take_succ_eq_append_getElem A);have N:=av.o es[k2] (List.getElem_mem A);have aP:=zBN N;have bi:=A;generalize bO:es[k2]=e at *;obtain⟨v1,v2⟩:=v;obtain⟨p1,c1,e1⟩:=F.data.slice;obtain⟨p2,c2,e2⟩:=F.nodes.slice;have aN:v1=.slice p1 e.data.length c1:=e1;have aO:v2=.slice p2 e.nodes.length c2:=e2;subst aN;subst aO;have ca:wr.cell? ⟨b,o+k2*4+2,none⟩=some (.slice p1 e.data.length c1):=bu;have cb:wr.cell? ⟨b,o+k2*4+3,none⟩=some (.slice p2 e.nodes.length c2):=k3;have aK:=zh F;obtain⟨O,own,cj,ci,ag,us,cA,L1,G,ax,hO,aw,hH⟩:=hF;obtain⟨pe,ce,ak⟩:=G.row.shape;have t8:wr.cell? ⟨j,8,none⟩=some (.slice pe ({M with entries:=M.entries++es.take k2}:zAH).entries.length ce):=by rw[←ak];exact G.c 8 rfl
         have aF:({M with entries:=M.entries++es.take k2}:zAH).entries.length=M.entries.length+k2:=by
          show(M.entries++es.take k2).length=_
          rw[List.length_append,List.length_take];omega
         have bl:M.entries.length≤g:=by
          rw[←aV.o];exact Nat.le_add_left _ _
         have Hb:=zW (b<wr.heap.size∧ag.ownBlock≠some b) (⟨World.block_lt_of_cell? wr _ k0,fun e=>by
          obtain⟨b',o',v',e3,-,q0,-⟩:=(Hx.o w1 (Chg.refl _ _)).ent A;cases e3;have h1:=World.block_lt_of_cell? w1 _ q0;rcases am b ((hH b).2 (.inl (G.oe b e).1))with h2|h2
          ·exact bV (fun e=>by rw[e]at A;simp at A) b o rfl h2
          ·have h1:b<w1.heap.size:=h1;omega⟩)
         have HX:=zh (And.intro G (And.intro ax (And.intro hO (And.intro aw (And.intro hH (And.intro ai (And.intro am ab)))))));have be:=zh aF;have bA:=zh N;generalize hm:({M with entries:=M.entries++es.take k2}:zAH).entries.length=m at *;have bd:=zh hm;have P:=zh ak;have cd:m≤1099512627776:=by omega
         have ck:e.data.length≤65536:=aP.2.2.1;have cp:e.nodes.length≤7:=aP.2.2.2.1;have aq:=zh (⟨rfl,rfl,rfl,Nat.le_refl _,fun _ _=>rfl⟩:Below wr.heap.size wr wr.drew);have aR:k2<k:=by omega
         clear A F e1 e2 N G ax hO aw hH ai am ab ak hm aF bl aP bu k3 aE bn bO bi;go_wp2_with fail;refine zDX [14] (fun w':World=>w'.cell? ⟨j,8,none⟩=some (.slice pe m ce)∧w'.cell? ⟨b,o+k2*4,none⟩=some (.int .i64 e.term)∧w'.cell? ⟨b,o+k2*4+1,none⟩=some (.int .i64 e.kind)∧w'.cell? ⟨b,o+k2*4+2,none⟩=some (.slice p1 e.data.length c1)∧w'.cell? ⟨b,o+k2*4+3,none⟩=some (.slice p2 e.nodes.length c2)) (n:=15) (by kernel_rfl) rfl (⟨t8,k0,k1,ca,cb⟩) fun f=>?_;generalize wr.drew=W1 at *;refine Gl [0,1,2,3,4,5,6,7,8] ?_
         iterate 9 (refine Gc rfl ?_;simp only[uZ])
         refine Gn ?_;refine zEP 9 rfl (by kernel_rfl) (by rfl) (fun K hK=>?_);have ae:=zh (rown_calls (aK.o.below aq.o) (by omega) (by omega));unfold zDx at ae;dsimp only at ae;go_wp2_with fail;refine ae.o.mono ?_;rintro r9 w9 ⟨⟨u1,u2⟩,rfl,hu,bp,V⟩;have I:=zh (aq.o.trans (V.mono aq.o.size));have bD:=zh (And.intro (zAI f.1 V) (And.intro (zAI f.2.1 V) (And.intro (zAI f.2.2.1 V) (And.intro (zAI f.2.2.2.1 V) (zAI f.2.2.2.2 V)))));have HU:=zh (And.intro hu (show ∀x,((u1,u2):EV).1.ownBlock=some x∨((u1,u2):EV).2.ownBlock=some x→wr.heap.size≤x from fun x hx=>Nat.le_trans aq.o.size (bp x hx)));obtain⟨pu,cu,eu,-⟩:=zAN hu.data;obtain⟨pn,cn,en,-⟩:=zAw hu.nodes;have bI:u1=.slice pu e.data.length cu:=eu;have bH:u2=.slice pn e.nodes.length cn:=en;subst bI;subst bH;clear hu bp V eu en;unfold zDx;go_wp2_with fail;refine hK.o _ _ (bD.o) fun f=>?_;clear hK
         try simp only[uZ]
         refine zEP 10 rfl (by kernel_rfl) (by rfl) (fun K hK=>?_);have X:=zAC w9 (.cells #[.int .i64 e.term,.int .i64 e.kind,.slice pu e.data.length cu,.slice pn e.nodes.length cn] 50);have Q:=zh (And.intro (zAI f.1 X) (And.intro (zAI f.2.1 X) (And.intro (zAI f.2.2.1 X) (And.intro (zAI f.2.2.2.1 X) (zAI f.2.2.2.2 X)))));have T:=zh X;clear X;go_wp2_with fail;refine hK.o _ _ (Q.o) fun f=>?_;clear hK
         try simp only[uZ]
         refine zEP 11 rfl (by kernel_rfl) (by rfl) (fun K hK=>?_);have aY:=zh (OwnR.keep HX.o.1.row fun y t=>((I.o.trans (T.o.mono I.o.size)).block y (OwnR.lt HX.o.1.row t)));rw[P.o,bd.o]at aY;have bG:=zh (zGF w9 #[.int .i64 e.term,.int .i64 e.kind,.slice pu e.data.length cu,.slice pn e.nodes.length cn] _ 4 1 1 rfl rfl 50 (0,0));refine zAq (.tmp 68) (.tmp 74) 78 rfl 50 i4 (.agg #[.int .i64 0,.int .i64 0,.slice none 0 0,.slice none 0 0]) 4 64 underlying78 bR br bs bt rfl (by decide) (.slice pe m ce) m _ rfl aY.o (.slice (some ⟨w9.heap.size,0,none⟩) 1 1) 1 _ rfl bG.o (fun u hu=>by simp at hu;rcases hu with rfl|rfl|rfl|rfl<;>rfl) (by unfold maxLen;omega) (by omega) ?_;intro cB ad B d C;have HN:=zh (And.intro B (And.intro d C));have ay:=fun(hg:(w9.alloc (.cells #[.int .i64 e.term,.int .i64 e.kind,.slice pu e.data.length cu,.slice pn e.nodes.length cn] 50)).grownBy ad (Value.slice pe m ce).ownBlock)=>(Chg.of_grown hg).block b (Nat.lt_of_lt_of_le Hb.o.1 (Nat.le_trans I.o.size T.o.size)) (fun e=>Hb.o.2 (by rw[P.o];exact e.symm));have aQ:ad.heap[j]?=wr.heap[j]?:=((Chg.of_grown d).block j (Nat.lt_of_lt_of_le (HX.o.1.olt j HX.o.1.oj) (Nat.le_trans I.o.size T.o.size)) (fun e=>(HX.o.1.oe j (by rw[P.o];exact e.symm)).2 rfl)).trans ((I.o.trans (T.o.mono I.o.size)).block j (HX.o.1.olt j HX.o.1.oj));have s8:=zAG (aQ.trans HX.o.1.cells) (i:=8) rfl;have f8:=zAE (aQ.trans HX.o.1.cells) 8;obtain⟨bv,bf,rfl⟩:=OwnR.shape B;have aA:=zh (And.intro (show ad.cell? ⟨j,8,none⟩=some (.slice pe m ce) by rw[←P.o];exact s8) (And.intro ((World.cell?_of_block (a:=⟨b,o+k2*4,none⟩) (ay d)).trans Q.o.2.1) (And.intro ((World.cell?_of_block (a:=⟨b,o+k2*4+1,none⟩) (ay d)).trans Q.o.2.2.1) (And.intro ((World.cell?_of_block (a:=⟨b,o+k2*4+2,none⟩) (ay d)).trans Q.o.2.2.2.1) ((World.cell?_of_block (a:=⟨b,o+k2*4+3,none⟩) (ay d)).trans Q.o.2.2.2.2)))));clear B d C aQ s8;go_wp2_with fail;refine hK.o _ _ (aA.o) fun f=>?_;clear hK
         try simp only[uZ]
         refine Gl [12,13] ?_
         iterate 2 (refine Gp rfl ?_;simp only[uZ])
         refine Gn ?_;refine g_end 14 rfl (by kernel_rfl) (by rfl) (by kernel_rfl) (fun K hK=>?_);have s8:=aA.o.1;go_wp2_with fail;refine hK.o _ _ ?_;clear hK
         try simp only[uZ]
         refine zEy (by kernel_rfl) ?_ _;have HE:=zW (zAs w1 j r pre Hot Cold (ad.setCell ⟨j,8,none⟩ (.slice bv (m+1) bf)) D2 {M with entries:=M.entries++es.take (k2+1) }) (by
          obtain⟨G,ax,hO,aw,hH,ai,am,ab⟩:=HX.o;obtain⟨B,d,C⟩:=HN.o;rw[←P.o]at d C;have bJ:Below wr.heap.size wr (w9.alloc (.cells #[.int .i64 e.term,.int .i64 e.kind,.slice pu e.data.length cu,.slice pn e.nodes.length cn] 50)):=I.o.trans (T.o.mono I.o.size);have cr:=T.o.size;have cq:=I.o.size;have hC:Chg (fun y=>ag.ownBlock=some y) wr ad:=((Chg.of_below bJ).mono fun _ _ h=>h.elim).trans ((Chg.of_grown d).mono fun _ _ h=>h.symm) fun _ _ h=>h;have aD:Chg (fun y=>some y=ag.ownBlock) w9 ad:=((Chg.of_below T.o).mono fun _ _ h=>h.elim).trans (Chg.of_grown d) fun _ _ h=>h;have al:∀y,ag.ownBlock=some y→y<wr.heap.size:=fun y t=>OwnR.lt G.row t;have ao:∀y,(Value.slice bv (m+1) bf).ownBlock=some y→(ag.ownBlock=some y∨(w9.alloc (.cells #[.int .i64 e.term,.int .i64 e.kind,.slice pu e.data.length cu,.slice pn e.nodes.length cn] 50)).heap.size≤y):=fun y t=>by
           rcases C with e3|⟨g3,e3,bN⟩
           ·exact .inl (e3▸t)
           ·rw[e3]at t;cases t;exact .inr bN
          have ap:us.length=(M.entries++es.take k2).length:=G.rlen;have J:(M.entries++es.take k2).length=m:=bd.o;rw[aJ.o,←List.append_assoc];refine zAs.comp ai am ab (rj_list (M:={M with entries:=M.entries++es.take k2}) (es':=(M.entries++es.take k2)++[e]) (vs':=us++[(.slice pu e.data.length cu,.slice pn e.nodes.length cn)]) (C':=fun y=>aH y∨((Value.slice pu e.data.length cu).ownBlock=some y∨(Value.slice pn e.nodes.length cn).ownBlock=some y)) G ax hO aw hH hC ?_ (fun y t=>(ao y t).imp id fun h=>by omega) (by rw[List.length_append,List.length_append,ap];rfl) (fun i e' v' s ac=>?_) (fun u hu y t=>?_) (fun _ h=>.inl h) (fun y t=>?_) ⟨?_,U.o.term,U.o.group,U.o.now,U.o.vote,U.o.data,fun e' s=>?_⟩)
          ·rw[zEv _ _ _ _ ap,List.length_append,J];exact B
          ·by_cases hi:i<m
           ·rw[List.getElem?_append_left (by rw[J];exact hi)]at s;rw[List.getElem?_append_left (by rw[ap,J];exact hi)]at ac;exact(G.rows i e' v' s ac).keep fun y t=>hC.block y (G.clt y (G.cv v' (List.mem_of_getElem? ac) y t)) fun e3=>G.dis y (G.cv v' (List.mem_of_getElem? ac) y t) (G.oe y e3).1
           ·have bQ:=(List.getElem?_eq_some_iff.1 s).1;rw[List.length_append,J,List.length_singleton]at bQ;obtain rfl:i=m:=by omega
            rw[List.getElem?_append_right (by rw[J];exact Nat.le_refl _),J,Nat.sub_self]at s;rw[List.getElem?_append_right (by rw[ap,J];exact Nat.le_refl _),ap,J,Nat.sub_self]at ac;cases s;cases ac;have h9:=HU.o.1.has (by omega) (by omega);exact h9.keep fun y t=>aD.block y (HU.o.1.lt t) fun e3=>by
             have h1:=al y e3.symm;have h2:=HU.o.2 y t;omega
          ·rcases List.mem_append.1 hu with hu|hu
           ·exact .inl (G.cv u hu y t)
           ·rw[List.mem_singleton.1 hu]at t;exact .inr t
          ·rcases t with t|t
           ·refine⟨.inl t,Nat.lt_of_lt_of_le (G.clt y t) hC.size,fun e3=>?_⟩;rcases ao y e3 with h1|h1
            ·exact G.dis y t (G.oe y h1).1
            ·have:=G.clt y t;omega
           ·have h2:=HU.o.2 y t;have h3:=HU.o.1.lt t;refine⟨.inr h2,Nat.lt_of_lt_of_le h3 aD.size,fun e3=>?_⟩;rcases ao y e3 with h1|h1
            ·have:=al y h1;omega
            ·omega
          ·show M.number+((M.entries++es.take k2)++[e]).length≤_
           rw[List.length_append,J];have h1:=be.o;have h2:=aV.o;have h3:=aU.o;unfold zAH.last at h2
           show M.number+(m+1)≤_
           omega
          ·rcases List.mem_append.1 s with s|s
           ·rcases List.mem_append.1 s with s|s
            ·exact U.o.ents e' s
            ·exact av.o e' (List.mem_of_mem_take s)
           ·rw[List.mem_singleton.1 s];exact bA.o)
         go_wp2_with fail;go_roundw
         case rel=>exact⟨k2+1,by omega,by go_num,HE.o⟩
         case measure=>simp[intOf];omega
        ·have aR:k2=k:=by omega
         have HE:=zW (zB1 w1 j r pre Hot Cold az (.returned (.int .i64 0)) wr) (by
          rw[aW.o,HL.o,if_neg (by simp)];rw[aR,List.take_of_length_le (by rw[R.o];omega)]at Y;exact⟨rfl,Y⟩)
         have cm:decide ((k2:Int)<(k:Int))=false:=decide_eq_false (by omega);clear Y aR;go_wp2_with fail;go_ret;exact HE.o
      ·have cf:((e2:Int)==0)=false:=by simp;omega
       have HE:=zW (zB1 w1 j r pre Hot Cold az (.returned (.int .i64 (e2:Int))) w6) (by
        rw[aW.o,HL.o,if_pos he];rw[zB3 M he]at au;exact⟨rfl,au.o⟩)
       go_wp2_with fail
       go_loopw [10] (fun i wr=>i=.int .i64 0∧wr=w6) (fun i _=>0)
       case atStart=>exact⟨rfl,rfl⟩
       case round =>
        obtain⟨rfl,rfl⟩:=hrel;go_wp2_with fail;go_ret;exact HE.o
end
section
variable {S:Nat→Prop} {w w1 w2:World} {j r:Nat} {pre:ByteArray} {M:zAH}
theorem rds_k4 (h:zA4 S w1 j r pre M){p:Option Addr}{n c:Nat}{l:Bs}(hx:zAY w1 (.slice p n c) (4::l))(I:n≤c)(hl:n≤1073741824)(an:∀k,(Value.slice p n c).ownBlock=some k→k<w1.heap.size) :
  Calls prog 89 #[.pointer (some ⟨j,0,none⟩),.slice p n c,.bool false] w1 (zDR S w1 j r pre (zBe false M (4::l))):=by
 obtain⟨i4,am,ar,au,av⟩:=info_parts (show(prog.info? 50).map (fun i=>(i.zero,i.size,i.bytes))=some (some (.agg #[.int .i64 0,.int .i64 0,.slice none 0 0,.slice none 0 0]),4,64) by kernel_rfl);have az:=zh (zFo (w:=w1) hx I an (by omega));have HF:=zh (zE7 az.o);have HJ:=zh h;have ae:=zh (zAC w1 (.cells #[.slice p n c,.bool false] 148));have HM:=zW (zBe false M (4::l)=(if(Rd.num ⟨l,false⟩).2.whole∧M.number<(Rd.num ⟨l,false⟩).1∧(Rd.num ⟨l,false⟩).1≤M.last+1 then some {M with entries:=M.entries.take ((Rd.num ⟨l,false⟩).1-M.number-1) }else none)) rfl;have bd:=Rd.num_le ⟨l,false⟩;generalize zBe false M (4::l)=O at *;have aR:=h.ok.last;have aH:=zW (M.last=M.number+M.entries.length) rfl;clear h hx hl I an
 go_enter func89,ntmps89
 go_wp2_with fail;generalize bb:w1.alloc (.cells #[.slice p n c,.bool false] 148)=Wq at *;refine HF.o.mono ?_;rintro e w3 ⟨g,q,rfl,hg,al,ad,aj⟩;have P:=zW (Below w1.heap.size w1 w3) (ae.o.trans (aj.below ae.o.size fun i hi e=>by omega));have aY:=zh (HJ.o.below P.o);have aA:=zh ad;have aX:=zh al;have bc:=ad.c1;have aP:w3.cell? ⟨g,0,none⟩=some (.int .u8 4):=hg;clear ad aj hg al;go_wp2_with fail;have ay:=zh (zBE aA.o);refine ay.o.mono ?_;rintro e N ⟨rfl,ap,ak⟩;have Q:=zW (Below w1.heap.size w1 N) (P.o.trans (ak.below P.o.size fun i hi e=>by omega));have aB:=zh ap;clear ap ak;have HW:=zh (fun q=>zCk (aB.o.below (⟨rfl,rfl,rfl,Nat.le_refl _,fun _ _=>rfl⟩:Below N.heap.size N (N.drewN q))));have ax:=zh (HJ.o.below Q.o).last_calls;generalize (Rd.num ⟨l,false⟩).2=R5 at *;generalize (Rd.num ⟨l,false⟩).1=z at *;have aJ:=zh (fun q (ho:O=none)=>zE2 (S:=S) (w1:=w1) (j:=j) (r:=r) (pre:=pre) ((zBh Q.o).trans (zBh (zAb N q)) fun _ _ h=>h) ho);go_wp2_with fail;refine ax.o.mono ?_;rintro e w5 ⟨rfl,q,rfl⟩;have aC:=zh (HW.o q);have R:=zh (Q.o.trans (⟨rfl,rfl,rfl,Nat.le_refl _,fun _ _=>rfl⟩:Below w1.heap.size N (N.drewN q)));have aw:=zh (HJ.o.below R.o);have Z:=zh (aJ.o q);generalize N.drewN q=t at *;obtain⟨O1,C1,gv,dv,ev,vs,d,a⟩:=aw.o;have s0:=d.c 0 rfl;have bi:IntKind.i64.wrap ((M.last:Int)+1)=(M.last:Int)+1:=IntWalk.i64_in _ (by omega);go_wp2_with fail;refine aC.o.mono ?_;rintro e w7 ⟨rfl,aq⟩;obtain rfl:=aq.symm;cases hw:R5.whole with
 | false =>
  have V:=zh (Z.o (by rw[HM.o,hw];simp));clear hw d;go_wp2_with fail;go_ret;exact V.o
 | true =>
  have X:=zW (O=if M.number<z∧z≤M.last+1 then some {M with entries:=M.entries.take (z-M.number-1) }else none) (by rw[HM.o,hw];simp);clear hw
  by_cases G:z≤M.number
  ·have d1:decide ((z:Int)≤(M.number:Int))=true:=decide_eq_true (by omega);have aL:decide (z≤M.number)=true:=decide_eq_true G;have V:=zh (Z.o (by rw[X.o,if_neg (by omega)]));clear d G;go_wp2_with fail;go_ret;exact V.o
  have d1:decide ((z:Int)≤(M.number:Int))=false:=decide_eq_false (by omega);have aL:decide (z≤M.number)=false:=decide_eq_false G
  by_cases h2:M.last+1<z
  ·have d2:decide ((M.last:Int)+1<(z:Int))=true:=decide_eq_true (by omega);have aM:decide (M.last+1<z)=true:=decide_eq_true h2;have V:=zh (Z.o (by rw[X.o,if_neg (by omega)]));clear d G h2;go_wp2_with fail;go_ret;exact V.o
  have d2:decide ((M.last:Int)+1<(z:Int))=false:=decide_eq_false (by omega);have aM:decide (M.last+1<z)=false:=decide_eq_false h2;have af:=zW (O=some {M with entries:=M.entries.take (z-M.number-1) }) (by rw[X.o,if_pos (by omega)]);have aS:=aH.o;have s8:=d.c 8 rfl;have aO:=d.fr 8;obtain⟨p8,D,m⟩:=d.row.shape;have aW:M.entries.length≤D:=by
   rcases d.row.2 with⟨h8,h0⟩|⟨g,aZ,cur,h8,-,aT,-⟩
   ·omega
   ·rw[m]at h8;cases h8;exact aT
  have t8:t.cell? ⟨j,8,none⟩=some (.slice p8 M.entries.length D):=by rw[←m];exact s8
  clear s8;have HX:=zh (And.intro d (And.intro a m));obtain⟨k,hk⟩:∃k,k=z-M.number-1:=⟨_,rfl⟩;have aQ:k≤M.entries.length:=by omega
  have ah:=zh (zDz (M.entries.take k) (vs.take k) fun v hv=>d.one v (List.mem_of_mem_take hv));have C:=d.row;rw[m]at C;have E:=zW (zAM t 4 (.slice p8 k D) k (zAz (M.entries.take k) (vs.take k))) (by
   rw[zFK k _ _ d.rlen];exact zAM.upto (OwnR.holds C) aQ D)
  have aU:z=M.number+1+k:=by omega
  rw[←hk]at af;have Ht:=zh (show(M.entries.take k).length=k by rw[List.length_take];omega);have be:=zh d.ok;clear d a m C hk G h2;generalize ao:M.entries.length=n8 at *;generalize ai:M.number=b at *;have aE:=zh ai;have aI:=zh ao;have bg:IntKind.i64.wrap ((z:Int)-(b:Int))=(k:Int)+1:=by rw[IntWalk.i64_in _ (by omega)];omega
  have bh:IntKind.i64.wrap (k:Int)=(k:Int):=IntWalk.i64_in _ (by omega);have aP:k≤D:=by omega
  have aV:k≤1099511627776:=by omega
  clear aU ai ao aS;go_wp2_with fail;have aa:=zW (∀W,Below t.drew.heap.size t.drew W→zAM W 4 (.slice p8 k D) k (zAz (M.entries.take k) (vs.take k))) fun W ab=>zAM.chg E.o (Chg.of_below ((⟨rfl,rfl,rfl,Nat.le_refl _,fun _ _=>rfl⟩:Below t.heap.size t t.drew).trans ab)) fun _ _=>id;have aF:=zW (∀W,Below t.drew.heap.size t.drew W→W.frozen? ⟨j,8,none⟩=false) fun W ab=>zAE ((ab.block j (zAB HX.o.1.cells)).trans HX.o.1.cells) 8;have U:=zh (⟨rfl,rfl,rfl,Nat.le_refl _,fun _ _=>rfl⟩:Below t.heap.size t t.drew);clear aO;refine zDX [18] (fun w':World=>w'.cell? ⟨j,8,none⟩=some (.slice p8 n8 D)∧w'.cell? ⟨j,0,none⟩=some (.int .i64 (b:Int))) (n:=19) (by kernel_rfl) rfl (⟨t8,s0⟩) fun f=>?_;generalize t.drew=W1 at *;refine Gl [0,2,3,4,5,6,7,8,9,10,11,12,13] ?_
  iterate 13 (refine Gc rfl ?_;simp only[uZ])
  refine Gn ?_;refine zEz 14 (v:=.slice p8 k D) rfl (by kernel_rfl) (by kernel_rfl) (by kernel_rfl) (by kernel_rfl) (fun _ _ _ h=>h) (by rfl) (by assumption) (fun W ba=>by have bf:=zCO W underlying78 am p8 n8 D k (by omega);go_simp;try with_reducible rfl) ?_;simp only[uZ];refine zEP 1 rfl (by kernel_rfl) (by rfl) (fun K H=>?_);have T:=zh (zAC W1 (.cells #[] 50));have aG:=zh (And.intro (zAI f.1 T.o) (zAI f.2 T.o));have A:=zh f;go_wp2_with fail;refine H.o _ _ (aG.o) fun f=>?_;clear H
  try simp only[uZ]
  refine zEP 15 rfl (by kernel_rfl) (by rfl) (fun K H=>?_);have aD:=zh (zBC W1 50 4);have aK:=zh (aa.o _ T.o);refine zAq (.tmp 203) (.tmp 216) 78 rfl 50 i4 (.agg #[.int .i64 0,.int .i64 0,.slice none 0 0,.slice none 0 0]) 4 64 underlying78 am ar au av rfl (by decide) (.slice (some ⟨W1.heap.size,0,none⟩) 0 0) 0 [] rfl aD.o (.slice p8 k D) k _ rfl aK.o ah.o (by unfold maxLen;omega) (by omega) ?_;intro v7 w7 L B J;have Y:=zh (zF4 L B J);have ag:=zh (And.intro (zAI A.o.1 Y.o.2.2) (zAI A.o.2 Y.o.2.2));clear L B J;obtain⟨p6,c6,rfl⟩:=OwnR.shape Y.o.1;go_wp2_with fail;refine H.o _ _ (ag.o) fun f=>?_;clear H
  try simp only[uZ]
  refine Gl [16,17] ?_
  iterate 2 (refine Gp rfl ?_;simp only[uZ])
  refine Gn ?_;refine g_end 18 rfl (by kernel_rfl) (by rfl) (by kernel_rfl) (fun K H=>?_);have bj:=ag.o.1;have f8:=aF.o _ Y.o.2.2;go_wp2_with fail;refine H.o _ _ ?_;clear H
  try simp only[uZ]
  refine zEy (by kernel_rfl) ?_ _;have V:=zW (zDR S w1 j r pre O (.returned (.bool true)) (w7.setCell ⟨j,8,none⟩ (.slice p6 k c6))) (by
   obtain⟨d,a,m⟩:=HX.o;have F:Below t.heap.size t w7:=U.o.trans (Y.o.2.2.mono U.o.size);have ac:∀y,(Value.slice p6 k c6).ownBlock=some y→t.heap.size≤y:=fun y s=>Nat.le_trans U.o.size (Y.o.2.1 y s);have aN:=R.o.size;refine rds_yes (((zBh R.o).trans (zBh F) fun _ _ h=>h).trans (Chg.setCell w7 ⟨j,8,none⟩ _) fun x _ e=>by rw[show x=j from e];exact a j (.inl d.oj)) ⟨_,C1,gv,dv,_,vs.take k,d.list (es':=M.entries.take k) (vs':=vs.take k) (C':=C1) ((Chg.of_below F).mono fun _ _ h=>h.elim) (by rw[Ht.o];exact Y.o.1) (fun y s=>.inr (ac y s)) (by rw[List.length_take,List.length_take,d.rlen]) (fun i e v he hv=>?_) (fun u hu y s=>d.cv u (List.mem_of_mem_take hu) y s) (fun _ h=>h) (fun y s=>⟨.inl s,Nat.lt_of_lt_of_le (d.clt y s) F.size,fun e=>by have G:=ac y e;have h2:=d.clt y s;omega⟩) ⟨?_,d.ok.term,d.ok.group,d.ok.now,d.ok.vote,d.ok.data,fun e he=>d.ok.ents e (List.mem_of_mem_take he)⟩,fun y s=>?_⟩ (by rw[aE.o];exact af.o)
   ·rw[List.getElem?_take]at he hv
    split at he
    ·rw[if_pos (by assumption)]at hv;exact(d.rows i e v he hv).below F
    ·cases he
   ·have G:=d.ok.last;unfold zAH.last at G ⊢
    show M.number+(M.entries.take k).length≤_
    rw[Ht.o];have h2:=aI.o;omega
   ·rcases s with(s|s)|s
    ·exact .inl (a y (.inl s))
    ·exact .inr (Nat.le_trans aN (ac y s))
    ·exact .inl (a y (.inr s)))
  go_wp2_with fail;go_ret;exact V.o
theorem rds_k3 (h:zA4 S w1 j r pre M){p:Option Addr}{n c:Nat}{l:Bs}(hx:zAY w1 (.slice p n c) (3::l))(ak:n≤c)(hl:n≤1073741824)(ax:∀k,(Value.slice p n c).ownBlock=some k→k<w1.heap.size)(bR:M.entries.length≤1073741824) :
  Calls prog 89 #[.pointer (some ⟨j,0,none⟩),.slice p n c,.bool false] w1 (zDR S w1 j r pre (zBe false M (3::l))):=by
 obtain⟨i4,bu,aW,aX,aY⟩:=info_parts (show(prog.info? 50).map (fun i=>(i.zero,i.size,i.bytes))=some (some (.agg #[.int .i64 0,.int .i64 0,.slice none 0 0,.slice none 0 0]),4,64) by kernel_rfl);have bw:l.length≤1073741824:=by
  obtain⟨_,_,e⟩:=hx.slice;simp only[Value.slice.injEq,List.length_cons]at e;omega
 have bg:=zh (zFo (w:=w1) hx ak ax (by omega));have HF:=zh (zE7 bg.o);have HJ:=zh h;have aB:=zh (zAC w1 (.cells #[.slice p n c,.bool false] 148));have HM:=zh (show zBe false M (3::l)=(if((Rd.num ⟨l,false⟩).2.num.2.num.2.bytes.2.grp anyG).2.whole∧(Rd.num ⟨l,false⟩).1=M.last+1∧(Rd.num ⟨l,false⟩).1≤1099511627776∧zAt ⟨((Rd.num ⟨l,false⟩).2.num.1:Int),((Rd.num ⟨l,false⟩).2.num.2.num.1:Int),(Rd.num ⟨l,false⟩).2.num.2.num.2.bytes.1,((Rd.num ⟨l,false⟩).2.num.2.num.2.bytes.2.grp anyG).1⟩then
    some {M with entries:=M.entries++[⟨((Rd.num ⟨l,false⟩).2.num.1:Int),((Rd.num ⟨l,false⟩).2.num.2.num.1:Int),(Rd.num ⟨l,false⟩).2.num.2.num.2.bytes.1,((Rd.num ⟨l,false⟩).2.num.2.num.2.bytes.2.grp anyG).1⟩] }else none)from rfl)
 have bQ:=Rd.num_le ⟨l,false⟩;have bx:(Rd.num ⟨l,false⟩).2.rest.length≤1073741824:=Nat.le_trans (Rd.num_rest _) bw;generalize zBe false M (3::l)=O at *;have bv:=h.ok.last;have bI:=zW (M.last=M.number+M.entries.length) rfl;have HA:=zh ax;clear h hx hl ak ax
 go_enter func89,ntmps89
 go_wp2_with fail;generalize bK:w1.alloc (.cells #[.slice p n c,.bool false] 148)=Wq at *;refine HF.o.mono ?_;rintro e w3 ⟨g,q,rfl,hg,aQ,ay,aN⟩;have al:=zW (Below w1.heap.size w1 w3) (aB.o.trans (aN.below aB.o.size fun i hi e=>by omega));have bD:=zh (HJ.o.below al.o);have bh:=zh ay;have bC:=zh aQ;have bL:=ay.c1;have bP:w3.cell? ⟨g,0,none⟩=some (.int .u8 3):=hg;clear ay aN hg aQ;go_wp2_with fail;have bf:=zh (zBE bh.o);refine bf.o.mono ?_;rintro e w4 ⟨rfl,aT,aO⟩;have ae:=zW (Below w1.heap.size w1 w4) (al.o.trans (aO.below al.o.size fun i hi e=>by omega));have bi:=zh aT;clear aT aO;have bS:=ae.o.size;have bk:=zh (rrdent_calls bi.o (fun k hk=>⟨by have:=HA.o k hk;omega,fun e=>by have:=HA.o k hk;omega⟩) bx);have bb:=zh (fun e R' (hR:REntR (Rd.num ⟨l,false⟩).2 e R')=>rent_whole hR);generalize (Rd.num ⟨l,false⟩).1=z at *;generalize (Rd.num ⟨l,false⟩).2=R1 at *;go_wp2_with fail;refine bk.o.mono ?_;rintro x w5 ⟨e,⟨v1,v2⟩,R',rfl,aL,P,aK,aU,aP⟩;have am:=zW (Below w1.heap.size w1 w5) (ae.o.trans (aP.below ae.o.size fun i hi e=>by omega));have hE:=bb.o e R' aL;have bG:=zh hE;have aE:=zW (O=if R'.whole=true∧z=M.last+1∧z≤1099511627776 then some {M with entries:=M.entries++[e] }else none) (by
  rw[HM.o]
  by_cases L:R'.whole=true
  ·have v:=hE.1.1 L;have h2:=hE.2 L
   by_cases hc:z=M.last+1∧z≤1099511627776
   ·rw[if_pos ⟨v.1,hc.1,hc.2,v.2⟩,if_pos ⟨L,hc⟩,←h2]
   ·rw[if_neg (fun e=>hc ⟨e.2.1,e.2.2.1⟩),if_neg (fun e=>hc e.2)]
  ·rw[if_neg (fun e=>L (hE.1.2 ⟨e.1,e.2.2.2⟩)),if_neg (fun e=>L e.1)])
 have bc:=zW (R'.whole=true→zAt e=true) (fun L=>by rw[hE.2 L];exact(hE.1.1 L).2);obtain⟨X,U,e1⟩:=P.data.slice;obtain⟨Y,V,e2⟩:=P.nodes.slice;have e1:v1=.slice X e.data.length U:=e1;have e2:v2=.slice Y e.nodes.length V:=e2;subst e1;subst e2;have bH:=zh (And.intro P.dl P.nl);generalize aR:e.data.length=n1 at *;generalize aS:e.nodes.length=n2 at *;have bA:=zh (And.intro aR aS);have ap:=zh (zAC w5 (.cells #[.int .i64 e.term,.int .i64 e.kind,.slice X n1 U,.slice Y n2 V] 50));have bp:=zh (zAJ w5 (.cells #[.int .i64 e.term,.int .i64 e.kind,.slice X n1 U,.slice Y n2 V] 50));have bj:=zh (aU.below ap.o);have aZ:=zh (P.below ap.o);have ba:=zh aK;have aA:=zh (am.o.trans (ap.o.mono am.o.size));have aD:=zh (HJ.o.below aA.o);have bd:=zh aD.o.last_calls;have aF:=zW (w5.heap.size<(w5.alloc (.cells #[.int .i64 e.term,.int .i64 e.kind,.slice X n1 U,.slice Y n2 V] 50)).heap.size) (by simp);have bT:=am.o.size;clear aL P aK aU aP hE aR aS;unfold zDx;go_wp2_with fail;generalize bN:w5.heap.size=C at *;generalize w5.alloc (.cells #[.int .i64 e.term,.int .i64 e.kind,.slice X n1 U,.slice Y n2 V] 50)=N at *;refine bd.o.mono ?_;rintro x w7 ⟨rfl,q,rfl⟩;have af:=zh (aA.o.trans (⟨rfl,rfl,rfl,Nat.le_refl _,fun _ _=>rfl⟩:Below w1.heap.size N (N.drewN q)));have bF:=zh (aD.o.below (⟨rfl,rfl,rfl,Nat.le_refl _,fun _ _=>rfl⟩:Below N.heap.size N (N.drewN q)));have bl:=zh (zCk (bj.o.below (⟨rfl,rfl,rfl,Nat.le_refl _,fun _ _=>rfl⟩:Below N.heap.size N (N.drewN q))));have aC:=zh (aZ.o.below (⟨rfl,rfl,rfl,Nat.le_refl _,fun _ _=>rfl⟩:Below N.heap.size N (N.drewN q)));have I:=zW ((N.drewN q).heap[C]?=_) bp.o;have ai:=zW (C<(N.drewN q).heap.size) aF.o;have ao:=zh (fun(ho:O=none)=>zE2 (S:=S) (w1:=w1) (j:=j) (r:=r) (pre:=pre) (zBh af.o) ho);have bW:IntKind.i64.wrap ((M.last:Int)+1)=(M.last:Int)+1:=IntWalk.i64_in _ (by omega);generalize N.drewN q=A at *;go_wp2_with fail;refine bl.o.mono ?_;rintro x w9 ⟨rfl,aV⟩;obtain rfl:=aV.symm;cases L:R'.whole with
 | false =>
  have HE:=zh (ao.o (by rw[aE.o,L];simp));clear L;go_wp2_with fail;go_ret;exact HE.o
 | true =>
  have bn:=zh (bc.o L);have an:=zW (O=if z=M.last+1∧z≤1099511627776 then some {M with entries:=M.entries++[e] }else none) (by rw[aE.o,L];simp);clear L
  by_cases v:z=M.last+1
  ·have d1:((z:Int) != (M.last:Int)+1)=false:=by simp;omega
   by_cases h2:z≤1099511627776
   ·have d2:decide ((1099511627776:Int)<(z:Int))=false:=decide_eq_false (by omega);have br:decide (1099511627776<z)=false:=decide_eq_false (by omega);have be:=zW (O=some {M with entries:=M.entries++[e] }) (by rw[an.o,if_pos ⟨v,h2⟩]);have Hz:=zW (M.last+1≤1099511627776) (by omega);obtain⟨O1,C1,gv,dv,ev,vs,aa,F⟩:=HJ.o;have d:=aa.below af.o;obtain⟨pe,ce,s⟩:=d.row.shape;have t8:A.cell? ⟨j,8,none⟩=some (.slice pe M.entries.length ce):=by rw[←s];exact d.c 8 rfl
    have k0:=zAd I.o;have k1:=zAn I.o;have k2:=zAo I.o;have k3:=zBI I.o;have aM:∀x,O1 x∨C1 x→x≠C:=fun x hx=>by have:=hx.elim (aa.olt x) (aa.clt x);omega
    have aq:=zh (fun W (hb:Below A.heap.size A W)=>show OwnR W 50 4 (.slice pe M.entries.length ce) M.entries.length (zAz M.entries vs) by rw[←s];exact d.row.keep fun y b=>hb.block y (OwnR.lt d.row b));have aJ:=zW (j<A.heap.size∧(Value.slice pe M.entries.length ce).ownBlock≠some j) (⟨d.olt j d.oj,fun e=>(d.oe j (by rw[s];exact e)).2 rfl⟩);have aG:=zW (C<A.heap.size∧(Value.slice pe M.entries.length ce).ownBlock≠some C) (⟨ai.o,fun e=>aM C (.inl (d.oe C (by rw[s];exact e)).1) rfl⟩);have aH:=zh (fun(W:World) (hj:W.heap[j]?=A.heap[j]?)=>zAE (hj.trans d.cells) 8);have HX:=zh (And.intro aa (And.intro F s));have B:=zh (⟨rfl,rfl,rfl,Nat.le_refl _,fun _ _=>rfl⟩:Below A.heap.size A A.drew);clear d aa F s aM v h2;generalize ah:M.entries.length=ne at *;have bo:=zh ah;clear ah;go_wp2_with fail;refine zDX [10] (fun w':World=>w'.cell? ⟨j,8,none⟩=some (.slice pe ne ce)∧w'.cell? ⟨C,0,none⟩=some (.int .i64 e.term)∧w'.cell? ⟨C,1,none⟩=some (.int .i64 e.kind)∧w'.cell? ⟨C,2,none⟩=some (.slice X n1 U)∧w'.cell? ⟨C,3,none⟩=some (.slice Y n2 V)) (n:=11) (by kernel_rfl) rfl (⟨t8,k0,k1,k2,k3⟩) fun f=>?_;generalize A.drew=W1 at *;refine Gl [0,1,2,3,4,5] ?_
    iterate 6 (refine Gc rfl ?_;simp only[uZ])
    refine Gn ?_;refine zEP 6 rfl (by kernel_rfl) (by rfl) (fun K hK=>?_);have H:=zAC W1 (.cells #[.int .i64 e.term,.int .i64 e.kind,.slice X n1 U,.slice Y n2 V] 50);have aI:=zh (And.intro (zAI f.1 H) (And.intro (zAI f.2.1 H) (And.intro (zAI f.2.2.1 H) (And.intro (zAI f.2.2.2.1 H) (zAI f.2.2.2.2 H)))));have Z:=zh H;clear H;go_wp2_with fail;refine hK.o _ _ (aI.o) fun f=>?_;clear hK
    try simp only[uZ]
    refine zEP 7 rfl (by kernel_rfl) (by rfl) (fun K hK=>?_);have bm:=zh (aq.o _ (B.o.trans (Z.o.mono B.o.size)));have bq:=zh (zGF W1 #[.int .i64 e.term,.int .i64 e.kind,.slice X n1 U,.slice Y n2 V] _ 4 1 1 rfl rfl 50 (0,0));refine zAq (.tmp 169) (.tmp 171) 78 rfl 50 i4 (.agg #[.int .i64 0,.int .i64 0,.slice none 0 0,.slice none 0 0]) 4 64 underlying78 bu aW aX aY rfl (by decide) (.slice pe ne ce) ne _ rfl bm.o (.slice (some ⟨W1.heap.size,0,none⟩) 1 1) 1 _ rfl bq.o (fun u hu=>by simp at hu;rcases hu with rfl|rfl|rfl|rfl<;>rfl) (by unfold maxLen;omega) (by omega) ?_;intro bX R G m E;have HN:=zh (And.intro G (And.intro m E));have av:=fun(x:Nat) (hx:x<A.heap.size) (ah:(Value.slice pe ne ce).ownBlock≠some x)=>show R.heap[x]?=A.heap[x]? from((Chg.of_grown m).block x (Nat.lt_of_lt_of_le hx (Nat.le_trans B.o.size Z.o.size)) (fun e=>ah e.symm)).trans ((B.o.trans (Z.o.mono B.o.size)).block x hx)
    have aw:=av j aJ.o.1 aJ.o.2;have ab:=av C aG.o.1 aG.o.2;obtain⟨az,ar,rfl⟩:=OwnR.shape G;have aj:=zh (And.intro ((World.cell?_of_block (a:=⟨j,8,none⟩) aw).trans t8) (And.intro ((World.cell?_of_block (a:=⟨C,0,none⟩) ab).trans k0) (And.intro ((World.cell?_of_block (a:=⟨C,1,none⟩) ab).trans k1) (And.intro ((World.cell?_of_block (a:=⟨C,2,none⟩) ab).trans k2) ((World.cell?_of_block (a:=⟨C,3,none⟩) ab).trans k3)))));have f8:=aH.o R aw;clear G m E aw ab av;go_wp2_with fail;refine hK.o _ _ (aj.o) fun f=>?_;clear hK
    try simp only[uZ]
    refine Gl [8,9] ?_
    iterate 2 (refine Gp rfl ?_;simp only[uZ])
    refine Gn ?_;refine g_end 10 rfl (by kernel_rfl) (by rfl) (by kernel_rfl) (fun K hK=>?_);have s8:=aj.o.1;go_wp2_with fail;refine hK.o _ _ ?_;clear hK
    try simp only[uZ]
    refine zEy (by kernel_rfl) ?_ _;have HE:=zW (zDR S w1 j r pre O (.returned (.bool true)) (R.setCell ⟨j,8,none⟩ (.slice az (ne+1) ar))) (by
     obtain⟨d,F,s⟩:=HX.o;obtain⟨G,m,E⟩:=HN.o;rw[←s]at m E;have bs:Below A.heap.size A (W1.alloc (.cells #[.int .i64 e.term,.int .i64 e.kind,.slice X n1 U,.slice Y n2 V] 50)):=B.o.trans (Z.o.mono B.o.size);have bV:=Z.o.size;have bz:=B.o.size;have bU:A.heap.size≤W1.heap.size:=bz;have au:Chg (fun y=>ev.ownBlock=some y) A R:=((Chg.of_below bs).mono fun _ _ h=>h.elim).trans ((Chg.of_grown m).mono fun _ _ h=>h.symm) fun _ _ h=>h;have hC:Chg (fun y=>ev.ownBlock=some y) w1 R:=((Chg.of_below af.o).mono fun _ _ h=>h.elim).trans au fun _ _ h=>h;have bJ:=af.o.size;have J:∀y,(Value.slice az (ne+1) ar).ownBlock=some y→(ev.ownBlock=some y∨A.heap.size≤y):=fun y b=>by
      rcases E with e3|⟨g3,e3,bO⟩
      ·exact .inl (e3▸b)
      ·rw[e3]at b;cases b;exact .inr (by omega)
     have D:M.entries.length=ne:=bo.o;have ad:vs.length=M.entries.length:=d.rlen;have ag:∀y,((Value.slice X n1 U).ownBlock=some y∨(Value.slice Y n2 V).ownBlock=some y)→w4.heap.size≤y∧y<C:=ba.o;have bM:=ae.o.size;have bB:=ai.o;have ac:∀y,ev.ownBlock=some y→y<w1.heap.size:=fun y b=>OwnR.lt d.row b;refine rds_yes ((hC.mono (T:=fun y=>ev.ownBlock=some y∨y=j) fun _ _ q=>.inl q).trans (Chg.setCell R ⟨j,8,none⟩ (.slice az (ne+1) ar)) (fun x _ q=>.inr q) |>.mono (T:=S) fun x hx hq=>?_) ⟨_,_,gv,dv,_,_,d.list (es':=M.entries++[e]) (vs':=vs++[(.slice X n1 U,.slice Y n2 V)]) (C':=fun y=>C1 y∨((Value.slice X n1 U).ownBlock=some y∨(Value.slice Y n2 V).ownBlock=some y)) hC ?_ (fun y b=>(J y b).imp id fun h=>by omega) (by rw[List.length_append,List.length_append,ad];rfl) (fun i e' v' t Q=>?_) (fun u hu y b=>?_) (fun _ h=>.inl h) (fun y b=>?_) ⟨?_,d.ok.term,d.ok.group,d.ok.now,d.ok.vote,d.ok.data,fun e' t=>?_⟩,fun y b=>?_⟩ be.o
     ·rcases hq with hq|hq
      ·exact F x (.inl (d.oe x hq).1)
      ·rw[hq];exact F j (.inl d.oj)
     ·rw[zEv _ _ _ _ ad,List.length_append,D];exact G
     ·by_cases hi:i<ne
      ·rw[List.getElem?_append_left (by rw[D];exact hi)]at t;rw[List.getElem?_append_left (by rw[ad,D];exact hi)]at Q;exact(d.rows i e' v' t Q).keep fun y b=>hC.block y (d.clt y (d.cv v' (List.mem_of_getElem? Q) y b)) fun e3=>d.dis y (d.cv v' (List.mem_of_getElem? Q) y b) (d.oe y e3).1
      ·have bt:=(List.getElem?_eq_some_iff.1 t).1;rw[List.length_append,D,List.length_singleton]at bt;obtain rfl:i=ne:=by omega
       rw[List.getElem?_append_right (by rw[D];exact Nat.le_refl _),D,Nat.sub_self]at t;rw[List.getElem?_append_right (by rw[ad,D];exact Nat.le_refl _),ad,D,Nat.sub_self]at Q;cases t;cases Q;exact aC.o.keep fun y b=>au.block y (by have:=ag y b;omega) fun e3=>by
        have v:=ac y e3;have h2:=ag y b;omega
     ·rcases List.mem_append.1 hu with hu|hu
      ·exact .inl (d.cv u hu y b)
      ·rw[List.mem_singleton.1 hu]at b;exact .inr b
     ·rcases b with b|b
      ·refine⟨.inl b,Nat.lt_of_lt_of_le (d.clt y b) hC.size,fun e3=>?_⟩;rcases J y e3 with v|v
       ·exact d.dis y b (d.oe y v).1
       ·have:=d.clt y b;omega
      ·have h2:=ag y b;refine⟨.inr (by omega),Nat.lt_of_lt_of_le (show y<A.heap.size by omega) au.size,fun e3=>?_⟩;rcases J y e3 with v|v
       ·have:=ac y v;omega
       ·omega
     ·have v:=Hz.o;unfold zAH.last at v ⊢
      show M.number+(M.entries++[e]).length≤_
      rw[List.length_append,List.length_singleton];omega
     ·rcases List.mem_append.1 t with t|t
      ·exact d.ok.ents e' t
      ·rw[List.mem_singleton.1 t];exact bn.o
     ·rcases b with(b|b)|(b|b)
      ·exact .inl (F y (.inl b))
      ·rcases J y b with v|v
       ·exact .inl (F y (.inl (d.oe y v).1))
       ·exact .inr (by omega)
      ·exact .inl (F y (.inr b))
      ·exact .inr (by have:=ag y b;omega))
    go_wp2_with fail;go_ret;exact HE.o
   ·have d2:decide ((1099511627776:Int)<(z:Int))=true:=decide_eq_true (by omega);have br:decide (1099511627776<z)=true:=decide_eq_true (by omega);have HE:=zh (ao.o (by rw[an.o,if_neg (fun e=>h2 e.2)]));clear v h2;go_wp2_with fail;go_ret;exact HE.o
  ·have d1:((z:Int) != (M.last:Int)+1)=true:=by simp;omega
   have HE:=zh (ao.o (by rw[an.o,if_neg (fun e=>v e.1)]));clear v;go_wp2_with fail;go_ret;exact HE.o
end
end Go.Proofs.YtapfnehdgailmaaGreat
