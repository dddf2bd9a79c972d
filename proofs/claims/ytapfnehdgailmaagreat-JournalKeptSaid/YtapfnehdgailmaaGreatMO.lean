/- What the program's functions and the document's do, and plain laws, for PJournalKept. -/
import Derived.Test.YtapfnehdgailmaaGreatMA
import Derived.Test.YtapfnehdgailmaaGreatMF
import Derived.Test.YtapfnehdgailmaaGreatMG
import Derived.Test.YtapfnehdgailmaaGreatMK
import Derived.Test.YtapfnehdgailmaaGreatMM
import Derived.Test.YtapfnehdgailmaaGreatMN
open Go.Proofs.Tryz
set_option maxRecDepth 100000
set_option maxHeartbeats 64000000
namespace Go.Proofs.YtapfnehdgailmaaGreat
open Go.RowKit Go.Sat Go.Maps
theorem rreads_calls {S:Nat→Prop}{w1:World}{j r:Nat}{pre:ByteArray}{M:zAH}(h:zA4 S w1 j r pre M)(f:Bool)(a:f=true→M.entries=[]){p:Option Addr}{n c:Nat}{b:Bs}(i:zAY w1 (.slice p n c) b)(d:n≤c)(q:n≤1073741824)(g:∀k,(Value.slice p n c).ownBlock=some k→k<w1.heap.size)(z:∀k,(Value.slice p n c).ownBlock=some k→k≠j)(y:M.entries.length≤1073741824) :
  Calls prog 89 #[.pointer (some ⟨j,0,none⟩),.slice p n c,.bool f] w1 (zDR S w1 j r pre (zBe f M b)):=by
 have hn:n=b.length:=by
  obtain⟨_,_,e⟩:=i.slice;simp only[Value.slice.injEq]at e;exact e.2.1
 cases b with
 | nil =>
  subst hn;exact rds_nil h f i g
 | cons k l =>
  by_cases m:f≠decide (k=1)
  ·exact rds_else h i d q g (.inl m)
  ·have m:f=decide (k=1):=by simpa using m
   by_cases o:k=1
   ·subst o;rw[m];exact rds_k1 h i d q g (a (by rw[m];rfl)) z
   ·rw[decide_eq_false o]at m;subst m
    by_cases s:k=2
    ·subst s;exact rds_k2 h i d q g
    ·by_cases t:k=3
     ·subst t;exact rds_k3 h i d q g y
     ·by_cases v:k=4
      ·subst v;exact rds_k4 h i d q g
      ·exact rds_else h i d q g (.inr ⟨o,s,t,v⟩)
def zAH.rowsTo (M:zAH)(k:Nat):List Bs:=zEo M.number M.term M.group::zCV M.now M.vote::zAx M.number (M.entries.take k)
theorem rowsTo_all {M:zAH}{k:Nat}(h:M.entries.length≤k):M.rowsTo k=M.rows:=by
 unfold zAH.rowsTo zAH.rows;rw[List.take_of_length_le h]
theorem rowsTo_succ {M:zAH}{k:Nat}(h:k<M.entries.length):zAL (M.rowsTo (k+1))=zAL (M.rowsTo k)++zAK (zEt (M.number+k+1) M.entries[k]):=by
 unfold zAH.rowsTo;rw[zFJ (n:=M.number) h,zBD,zBD,zBD,zBD,zCj,zCJ];simp
theorem rowsTo_len {M:zAH}(h:M.OK)(k:Nat):(zAL (M.rowsTo k)).length≤65812*(k+2):=by
 have d:=(zE6 h).1;have f:=zDk (c:=65800) (M.rowsTo k) fun l b=>by
  rcases List.mem_cons.1 b with rfl|b
  ·exact d _ (by simp[zAH.rows])
  ·rcases List.mem_cons.1 b with rfl|b
   ·exact d _ (by simp[zAH.rows])
   ·have:=h.last;unfold zAH.last at this;exact zCq M.number (M.entries.take k) (fun e i=>h.ents e (List.mem_of_mem_take i)) (by rw[List.length_take];omega) l b
 have g:(M.rowsTo k).length≤k+2:=by
  show(zAx M.number (M.entries.take k)).length+1+1≤k+2
  rw[zCe,List.length_take];omega
 exact Nat.le_trans f (Nat.mul_le_mul_left _ g)
section
variable {w:World} {j r:Nat} {pre:ByteArray} {D:zAA} {M:zAH} {Hot Cold:Nat→Prop}
theorem rjanew_calls (h:RJF w j r pre D M Hot Cold)(bD:M.entries.length≤1000000) :
  Calls prog 93 #[.pointer (some ⟨j,0,none⟩)] w fun e w'=>e=.returned (.int .i64 ((zAT D (nm pre) M).2:Int))∧zAs w j r pre Hot Cold w' (zAT D (nm pre) M).1 M∧w'.heap[j]?=w.heap[j]?:=by
 obtain⟨i0,hi,aL,aM,aN⟩:=info_parts (show(prog.info? 5).map (fun i=>(i.zero,i.size,i.bytes))=some (some (.int .u8 0),1,1) by kernel_rfl);have bu:(zCS pre).size=pre.size+4:=zFY pre;have bE:=h.psz;have HF:=zh h;have q:=h.okM;have bf:=zh q;have H:=q.last;have aF:=zCi q.group;have bv:=zAl.1 q.term;have bt:=zAl.1 q.now;have bw:=q.vote;have ay:=zh (fun k=>rowsTo_len q k);obtain⟨O,own,gv,dv,ev,vs,v,L,hJ,hR,hO,bo,hH⟩:=h;obtain⟨p,c,bp⟩:=hJ.group.slice;obtain⟨pe,ce,ai⟩:=hJ.row.shape;generalize hm:M.group.length=m at *;generalize hn:M.entries.length=n at *;subst bp;have hc:w.heap[j]?=some (RJC r (M.number:Int) M.term (.slice p m c) pre M.now M.vote dv ev M.dead):=hJ.cells;rw[ai]at hc;have hg:zBg w (.slice p m c) M.group:=hJ.group;have av:=zh (fun k (J:k<M.entries.length)=>hJ.ent (List.getElem?_eq_getElem J));have aU:=zh ai;have Hn:=zh hn;unfold zAH.last at H;rw[hn]at H;have bd:=zW ((zAK (zEo M.number M.term M.group)).length≤100000) (by
  have h1:=zGD M.group (by rw[hm];omega);have h2:=zAg (n:=M.number) (by omega);have h3:=zBK M.term;have h4:(zEo M.number M.term M.group).length≤9100:=by unfold zEo;simp only[List.length_cons,List.length_append];omega
  have h5:=zAe (zEo M.number M.term M.group);omega)
 have be:=zW ((zAK (zCV M.now M.vote)).length≤100000) (by
  have h4:=zDJ M.now M.vote;have h5:=zAe (zCV M.now M.vote);omega)
 have aW:=zh (fun W (hb:Below w.heap.size w W) (hW:W.heap[j]?=some (RJC r (M.number:Int) M.term (.slice p m c) pre M.now M.vote dv (.slice pe n ce) M.dead))=>by
  have:=rfirst_calls (w:=W) hW (zAM.chg hg (Chg.of_below hb) fun _ _=>id) (fun z hz=>by have:=aF.2 z hz;omega) (by rw[hm];omega) (by omega) (by omega);rw[fstB0_nat (by omega)]at this;exact this)
 have bi:=zh (fun W=>rterms_calls W M.now M.vote (by omega) (by omega));have aw:=zh (zAB hc);have Hc:=zh hc;generalize hZ:zAT D (nm pre) M=Z at *;have HZ:=zh hZ;clear hZ hJ hR hO bo hH hg ai aF bv bw hm hn bt q
 go_enter func93,ntmps93
 go_wp2_with fail;refine ost (fun w':World=>w'.heap[j]?=some (RJC r (M.number:Int) M.term (.slice p m c) pre M.now M.vote dv (.slice pe n ce) M.dead)) 13 (hc) fun d=>?_;have Q:=zh (zAU w);clear hc;generalize w.drew=W1 at *;refine Pl [0,2,3,4,5,6,7,8,9] ?_
 iterate 9 (refine Pd rfl (by intro w F;have q5:=cell5 F;have q6:=zAG F (i:=6) rfl;go_simp;try with_reducible rfl) ?_;simp only[uZ])
 refine Pn ?_;refine oon 1 rfl fun K l=>?_;have aV:=zh (aW.o W1 Q.o d);go_wp2_with fail;refine aV.o.mono ?_;rintro e w2 ⟨u1,rfl,al,aI,ag⟩;have aZ:=zh ((ag.block _ (zAB d)).trans d);have aO:=zW (zCm w w2 u1 (zAK (zEo M.number M.term M.group))) (⟨al,fun k J=>Nat.le_trans Q.o.size (aI k J),Q.o.trans (ag.mono Q.o.size)⟩);obtain⟨p1,c1,rfl,-⟩:=zAN al;clear al aI ag;generalize aB:(zAK (zEo M.number M.term M.group)).length=t at *;have ao:=zh aB;clear aB;go_wp2_with fail;refine l.o _ _ (aZ.o) fun d=>?_;clear l
 try simp only[uZ]
 refine oon 10 rfl fun K l=>?_;have bh:=zh (bi.o w2);go_wp2_with fail;refine bh.o.mono ?_;rintro e w3 ⟨u2,rfl,am,bs,ah⟩;have ba:=zh ((ah.block _ (zAB d)).trans d);have ar:=zh (aO.o.next ah);have aS:=zh (zAk.has am);obtain⟨p2,c2,rfl,-⟩:=zAN am;clear am bs ah;generalize aC:(zAK (zCV M.now M.vote)).length=m2 at *;have ap:=zh aC;clear aC;go_wp2_with fail;refine l.o _ _ (ba.o) fun d=>?_;clear l
 try simp only[uZ]
 have B:=bd.o;have ak:=be.o;have az:=zh (show OwnR w3 5 1 (.slice p1 t c1) t (zAQ (zAK (zEo M.number M.term M.group))) by have:=ar.o.own;unfold zAk at this;rwa[ao.o]at this);have bk:=zh (show zAM w3 1 (.slice p2 m2 c2) m2 (zAQ (zAK (zCV M.now M.vote))) by have:=aS.o;unfold zAY at this;rwa[ap.o]at this);refine oon 11 rfl fun K l=>?_;refine zAq (.tmp 6) (.tmp 15) 22 rfl 5 i0 (.int .u8 0) 1 1 underlying22 hi aL aM aN rfl (by decide) (.slice p1 t c1) t _ rfl az.o (.slice p2 m2 c2) m2 _ rfl bk.o (zAO _) (by unfold maxLen;omega) (by omega) ?_;intro v4 w4 a A I;have au:=zh (zCm.grown (x:=zAK (zCV M.now M.vote)) ar.o (by rw[ao.o,ap.o];exact a) A I);have bb:=zh ((au.o.bel.block j aw.o).trans Hc.o);obtain⟨p4,c4,rfl⟩:=OwnR.shape a;clear a A I;refine l.o _ _ (bb.o) fun d=>?_;clear l
 try simp only[uZ]
 refine otk 12 (v:=?v1x12) rfl ?_;simp only[uZ];refine odn ?_;have aQ:=zW (zCm w w4 (.slice p4 (t+m2) c4) (zAL (M.rowsTo 0))) (by
  have e1:zAL (M.rowsTo 0)=zAK (zEo M.number M.term M.group)++zAK (zCV M.now M.vote):=by
   unfold zAH.rowsTo;rw[List.take_zero]
   show zAL [_,_]=_
   rw[zBD,zCJ]
  rw[e1];exact au.o)
 go_wp2_with fail
 go_loopw [3,4] (fun b i wr=>∃(k:Nat) (y:Value),k≤n∧i=.int .i64 k∧y=b∧zCm w wr y (zAL (M.rowsTo k))) (fun _ i _=>n-(intOf i).toNat)
 case atStart=>exact⟨0,_,Nat.zero_le _,rfl,rfl,aQ.o⟩
 case round =>
  obtain⟨k,y,J,rfl,rfl,C⟩:=hrel;have S:=(C.bel.block j aw.o).trans Hc.o;have bl:=zAG S (i:=8) rfl;have bC:=ay.o k;obtain⟨py,cy,rfl,-⟩:=zAN C.own
  by_cases br:k<n
  ·have U:k<M.entries.length:=by rw[Hn.o];exact br
   obtain⟨g,cg,v,V,-,T,k0,k1,k2,k3⟩:=av.o k U;rw[aU.o,Hn.o]at V;cases V;have bg:=zh (rowsTo_succ U);have aG:=bf.o.ents _ (List.getElem_mem U);generalize M.entries[k]=e at *;obtain⟨v1,v2⟩:=v;obtain⟨p1,c1,e1⟩:=T.data.slice;obtain⟨p2,c2,e2⟩:=T.nodes.slice;have bm:v1=.slice p1 e.data.length c1:=e1;have bn:v2=.slice p2 e.nodes.length c2:=e2;subst bm;subst bn;have HX:=zW (EntIn w j g n ce M.number k e (.slice p1 e.data.length c1,.slice p2 e.nodes.length c2)) (⟨zAG Hc.o (i:=8) rfl,zAd Hc.o,k0,k1,k2,k3⟩);have aT:=zh T;have ac:=zh aG;have ae:=zh C;generalize B:(zAL (M.rowsTo k)).length=t at *;have ad:=zh B;generalize aD:M.number=b0 at *;have bA:=zh aD;obtain⟨x0,bx⟩:∃x0,x0=b0+k:=⟨_,rfl⟩;obtain⟨N,aK⟩:∃N,N=b0+k+1:=⟨_,rfl⟩;have bF:IntKind.i64.wrap ((b0:Int)+(k:Int))=(x0:Int):=by rw[IntWalk.i64_in _ (by omega)];omega
   have bG:IntKind.i64.wrap ((x0:Int)+1)=(N:Int):=by rw[IntWalk.i64_in _ (by omega)];omega
   have Y:N≤4611686018427387904:=by omega
   have aR:=zh aK;clear U T e1 e2 aG B aD bx aK k0 k1 k2 k3 S;go_wp2_with fail;have R:=zW (Below w.heap.size w wr.drew) (ae.o.bel.trans ((zAU wr).mono ae.o.bel.size));refine ost (fun w':World=>w'.cell? ⟨j,8,none⟩=some (.slice (some ⟨g,0,none⟩) n ce)∧w'.cell? ⟨j,0,none⟩=some (.int .i64 (b0:Int))∧w'.cell? ⟨g,k*4,none⟩=some (.int .i64 e.term)∧w'.cell? ⟨g,k*4+1,none⟩=some (.int .i64 e.kind)∧w'.cell? ⟨g,k*4+2,none⟩=some (.slice p1 e.data.length c1)∧w'.cell? ⟨g,k*4+3,none⟩=some (.slice p2 e.nodes.length c2)) 19 ((zDA HX.o R.o).all) fun d=>?_;have aP:=zW (zCm w wr.drew (.slice py t cy) (zAL (M.rowsTo k))) (ae.o.next (zAU wr));generalize wr.drew=W5 at *;refine Pl [0,1,2,3,4,5,6,7,8,9,10,11,12,13,14,15] ?_
   iterate 16 (refine Pc rfl ?_;simp only[uZ])
   refine Pn ?_;refine oon 16 rfl fun K l=>?_;have ab:=zh (rentry_calls (n:=N) (aT.o.below R.o) ac.o Y);unfold zDx at ab;dsimp only at ab;go_wp2_with fail;refine ab.o.mono ?_;rintro r6 w6 ⟨z,rfl,hz,bz,aE⟩;have aa:=zW (zCm w w6 (.slice py t cy) (zAL (M.rowsTo k))) ((aP.o).next aE);have HZ:=zh (zAk.has hz);have aX:=zh (zDA HX.o aa.o.bel).all;have bH:(zAK (zEt N e)).length≤65812:=by
    rw[zAe];have h1:=zBN ac.o;have h2:=zEu (n:=N) Y ac.o;omega
   obtain⟨pz,cz,rfl,-⟩:=zAN hz;clear hz bz aE;generalize ak:(zAK (zEt N e)).length=m3 at *;have ax:=zh ak;clear ak;go_wp2_with fail;refine l.o _ _ (aX.o) fun d=>?_;clear l
   try simp only[uZ]
   refine oon 17 rfl fun K l=>?_;have af:=zW (OwnR w6 5 1 (.slice py t cy) t (zAQ (zAL (M.rowsTo k)))) (by have:=aa.o.own;unfold zAk at this;rwa[ad.o]at this);have aA:=zW (zAM w6 1 (.slice pz m3 cz) m3 (zAQ (zAK (zEt N e)))) (by have:=HZ.o;unfold zAY at this;rwa[ax.o]at this);refine zAq (.tmp 26) (.tmp 42) 22 rfl 5 i0 (.int .u8 0) 1 1 underlying22 hi aL aM aN rfl (by decide) (.slice py t cy) t _ rfl af.o (.slice pz m3 cz) m3 _ rfl aA.o (zAO _) (by unfold maxLen;omega) (by omega) ?_;intro v7 w7 s G X;have an:=zh (zCm.grown (x:=zAK (zEt N e)) aa.o (by rw[ad.o,ax.o];exact s) G X);have aY:=zh (zDA HX.o an.o.bel).all;obtain⟨p7,c7,rfl⟩:=OwnR.shape s;clear s G X;refine l.o _ _ (aY.o) fun d=>?_;clear l
   try simp only[uZ]
   refine otk 18 (v:=?v3x18) rfl ?_;simp only[uZ];refine odn ?_;go_wp2_with fail;go_roundw
   case rel=>exact⟨k+1,_,by omega,by go_num,rfl,by rw[bg.o,←aR.o];exact an.o⟩
   case measure=>simp[intOf];omega
  ·have bq:n=k:=by omega
   subst bq;have bB:decide ((n:Int)<(n:Int))=false:=by simp
   generalize B:(zAL (M.rowsTo n)).length=t at *;have ad:=zh B;rw[rowsTo_all (Nat.le_of_eq Hn.o)]at C;have E:=zh C;have aH:=S;clear C B S;go_wp2_with fail;clear bl;refine ost (fun w':World=>w'.heap[j]?=some (RJC r (M.number:Int) M.term (.slice p m c) pre M.now M.vote dv (.slice pe n ce) M.dead)) 12 (aH) fun d=>?_;have R:=zW (Below w.heap.size w wr.drew) (E.o.bel.trans ((zAU wr).mono E.o.bel.size));have HX:=zW (zAY wr.drew (.slice py t cy) (zAL M.rows)) ((E.o.next (zAU wr)).own.has);have aq:=zW (∀k,(Value.slice py t cy).ownBlock=some k→w.heap.size≤k∧k<wr.drew.heap.size) fun k J=>⟨E.o.new k J,OwnR.lt (E.o.next (zAU wr)).own J⟩;clear aH;generalize wr.drew=W5 at *;refine Pl [0,1,2,3,4,5,6,7] ?_
   iterate 8 (refine Pd rfl (by intro w F;have q3:=zBI F;have q4:=cell4 F;go_simp;try with_reducible rfl) ?_;simp only[uZ])
   refine Pn ?_;refine Pl [8,9] ?_
   iterate 2 (refine Pc rfl ?_;simp only[uZ])
   refine Pn ?_;refine oon 10 rfl fun K l=>?_;have bj:=zh (rj_disk (P:=prog) (f:=168) (args:=#[.pointer (some ⟨r,0,none⟩),.string (zCS pre),.slice py t cy]) (Re:=Z) HF.o R.o fun v L own hR s=>by
    have h1:=rwhole_calls hR (zCS pre) (by rw[bu];omega) HX.o (by have h3:=ay.o n;rw[rowsTo_all (Nat.le_of_eq Hn.o)]at h3;omega) fun k J=>⟨fun ho=>by have h1:=HF.o.hlt (s k ho);have h2:=(aq.o k J).1;omega,(aq.o k J).2⟩;rw[zBy]at h1;rw[←HZ.o];exact h1)
   go_wp2_with fail;refine bj.o.mono ?_;rintro e w6 ⟨rfl,aJ,aj⟩;have bc:=zh (aj.trans Hc.o);have HE:=zh (And.intro aJ aj);clear aJ aj;go_wp2_with fail;refine l.o _ _ (bc.o) fun d=>?_;clear l
   try simp only[uZ]
   refine otk 11 (v:=?v6x11) rfl ?_;simp only[uZ];refine odn ?_;go_wp2_with fail;go_ret;exact⟨rfl,HE.o.1,HE.o.2⟩
end
theorem run_ab {P:Program}(w:World){t e:TypeId}{i:TypeInfo}(l:P.underlying t=some (.slice e))(k:P.info? e=some i)(p:Option Addr)(d c a b:Nat)(h:a≤b)(m:b≤c) :
  (Instr.slice t (.slice p d c) (some (.int .i64 (a:Int))) (some (.int .i64 (b:Int))) none).run P w=.ok (.slice (if c-a=0 then p else p.map fun x=>x.add (a*i.size)) (b-a) (c-a)) w:=by
 have g:(Instr.sliceBound (.int .i64 (b:Int)) c .sliceAcap).run P w=.ok b w:=by
  rw[run_sliceBound _ _ _ _ _ (by omega) (by omega)];simp
 have j:(Instr.sliceBound (.int .i64 (a:Int)) b .sliceB).run P w=.ok a w:=by
  rw[run_sliceBound _ _ _ _ _ (by omega) (by omega)];simp
 simp[Instr.slice,run_underlying l,Instr.sliceBounds,g,j,sizeOf,typeInfo,k,Result.andThen]
 by_cases f:c=a
 ·rw[if_pos f,if_pos (by omega)]
 ·rw[if_neg f,if_neg (by omega)]
section
variable {w w1 w2:World} {j r:Nat} {pre:ByteArray} {D:zAA} {M:zAH} {Hot Cold:Nat→Prop}
theorem rj_base (h:RJF w j r pre D M Hot Cold)(z:Below w.heap.size w w2){n2:Nat}{t2:Int}{g2:List Int}{d:Value}(G:zBg w2 d g2)(f:∀k,d.ownBlock=some k→w.heap.size≤k∧k<w2.heap.size)(ok:({M with number:=n2,term:=t2,group:=g2}:zAH).OK) :
  zAs w j r pre Hot Cold (((w2.setCell ⟨j,0,none⟩ (.int .i64 (n2:Int))).setCell ⟨j,1,none⟩ (.int .i64 t2)).setCell ⟨j,2,none⟩ d) D {M with number:=n2,term:=t2,group:=g2}:=by
 have H:=h.hlt h.jhot;have l:∀k,Hot k→k<w.heap.size:=fun k b=>h.hlt b;have E:∀k,Cold k→k<w.heap.size:=fun k b=>h.clt b;obtain⟨O,own,J,dv,s,vs,v,L,c,y,t,B,n⟩:=h.below z;have hS:Chg (fun k=>k=j) w2 (((w2.setCell ⟨j,0,none⟩ (.int .i64 (n2:Int))).setCell ⟨j,1,none⟩ (.int .i64 t2)).setCell ⟨j,2,none⟩ d):=((Chg.setCell w2 ⟨j,0,none⟩ _).trans (Chg.setCell _ ⟨j,1,none⟩ _) fun _ _ e=>e).trans (Chg.setCell _ ⟨j,2,none⟩ _) fun _ _ e=>e;have C:=zAD (zAD (zAD c.cells 0 (.int .i64 (n2:Int))) 1 (.int .i64 t2)) 2 d;have p:∀k,d.ownBlock=some k→k≠j:=fun k b e=>by
  have:=(f k b).1;omega
 have g:∀k,Cold k→k≠j:=fun k b e=>c.dis k b (e▸c.oj);generalize ((w2.setCell ⟨j,0,none⟩ (.int .i64 (n2:Int))).setCell ⟨j,1,none⟩ (.int .i64 t2)).setCell ⟨j,2,none⟩ d=w3 at *;have o:zFx w3 j r pre O (fun k=>Cold k∨d.ownBlock=some k) {M with number:=n2,term:=t2,group:=g2} d dv s vs:={
  cells:=by simpa using C
  group:=zAM.chg G hS fun k b=>p k b
  data:=zAM.chg c.data hS fun k b=>g k (c.cd k b)
  row:=c.row.keep fun k b=>hS.block k (c.olt k (c.oe k b).1) (c.oe k b).2
  rlen:=c.rlen
  rows:=fun i e v F q=>(c.rows i e v F q).keep fun k b=>hS.block k (c.clt k (c.cv v (List.mem_of_getElem? q) k b)) (g k (c.cv v (List.mem_of_getElem? q) k b))
  oj:=c.oj
  oe:=c.oe
  cg:=fun k b=>.inr b
  cd:=fun k b=>.inl (c.cd k b)
  cv:=fun u I k b=>.inl (c.cv u I k b)
  dis:=fun k b m=>by
   rcases b with b|b
   ·exact c.dis k b m
   ·have a:=(f k b).1;have A:=l k ((n k).2 (.inl m));omega
  olt:=fun k b=>Nat.lt_of_lt_of_le (c.olt k b) hS.size
  clt:=fun k b=>Nat.lt_of_lt_of_le (b.elim (c.clt k) fun e=>(f k e).2) hS.size
  psz:=c.psz
  ok:=ok}
 refine⟨Hot,_,⟨O,own,d,dv,s,vs,v,L,o,y.keep hS.size (fun k b=>hS.block k (y.olt k b) fun e=>t j c.oj (e▸b)),t,fun k b m=>?_,n⟩,((Chg.of_below z).mono fun _ _ h=>h.elim).trans (hS.mono fun k _ e=>(n k).2 (.inl (e▸c.oj))) fun _ _ h=>h,fun k b=>.inl b,fun k b=>b.imp id fun e=>(f k e).1⟩;rcases b with b|b
 ·exact B k b m
 ·have a:=(f k b).1;have A:=l k ((n k).2 (.inr m));omega
theorem rj_drop (h:RJF w j r pre D M Hot Cold)(s:Below w.heap.size w w2){k:Nat}{p:Option Addr}{n c:Nat}{vs:List EV}{a A dv:Value}{O own:Nat→Prop}{F:Value}{L:List zAR}(g:zFx w j r pre O Cold M A dv a vs)(q:zAf w r F L own D)(C:∀k,O k→¬own k)(o:∀k,Cold k→¬own k)(B:∀k,Hot k↔O k∨own k)
  (l:OwnR w2 50 4 (.slice p n c) n (zAz (M.entries.drop k) (vs.drop k))) (hn:n=(M.entries.drop k).length) (d:∀y,(Value.slice p n c).ownBlock=some y→w.heap.size≤y) :
  zAs w j r pre Hot Cold (w2.setCell ⟨j,8,none⟩ (.slice p n c)) D {M with entries:=M.entries.drop k}:=by
 have b:=h.okM;subst hn;refine rj_list (C':=Cold) (vs':=vs.drop k) g q C o B ((Chg.of_below s).mono fun _ _ h=>h.elim) l (fun y f=>.inr (d y f)) (by rw[List.length_drop,List.length_drop,g.rlen]) (fun i e v m z=>?_) (fun u E y f=>g.cv u (List.mem_of_mem_drop E) y f) (fun _ h=>h) (fun y f=>⟨.inl f,Nat.lt_of_lt_of_le (g.clt y f) s.size,fun e=>by have t:=d y e;have G:=g.clt y f;omega⟩) ⟨?_,b.term,b.group,b.now,b.vote,b.data,fun e m=>b.ents e (List.mem_of_mem_drop m)⟩
 ·rw[List.getElem?_drop]at m z;exact(g.rows _ e v m z).below s
 ·have t:=b.last;unfold zAH.last at t ⊢
  show M.number+(M.entries.drop k).length≤_
  rw[List.length_drop];omega
end
section
variable {S:Nat→Prop} {w1 w2:World} {j r:Nat} {pre:ByteArray} {M:zAH}
theorem RJF.new {D:zAA}{Hot Cold:Nat→Prop}(h:RJF w1 j r pre D M Hot Cold):zA4 (fun k=>Hot k∨Cold k) w1 j r pre M:=by
 obtain⟨O,own,c,dv,b,vs,v,L,f,m,l,i,d⟩:=h;exact⟨O,Cold,c,dv,b,vs,f,fun k g=>g.imp (fun h=>(d k).2 (.inl h)) id⟩
theorem zDr (h:zA4 S w1 j r pre M)(i:Int)(W:-9223372036854775808≤i∧i≤9223372036854775807) :
  Calls prog 95 #[.pointer (some ⟨j,0,none⟩),.int .i64 i] w1 fun e w'=>e=.returned (.tuple #[.int .i64 ((M.termAt i).getD 0),.bool (M.termAt i).isSome])∧∃q,w'=w1.drewN q:=by
 have d:=h.ok.last;obtain⟨O,C,V,dv,U,vs,s,v⟩:=h;have R:=s.c 0 rfl;have T:=s.c 1 rfl;have A:=s.c 8 rfl;obtain⟨p,c,m⟩:=s.row.shape
 by_cases f:i=(M.number:Int)
 ·have G:(i==(M.number:Int))=true:=by simpa using f
  have z:=zh (show M.termAt i=some M.term by rw[f];exact zFv);clear s v f m d A;generalize M.termAt i=E at *;generalize M.number=b at *
  go_enter func95,ntmps95
  go_wp2_with fail
  go_ret2
  exact⟨by rw[z.o];rfl,0,rfl⟩
 ·have G:(i==(M.number:Int))=false:=by simpa using f
  unfold zAH.last at d
  by_cases l:i<(M.number:Int)
  ·have z:=zh (show M.termAt i=none by unfold zAH.termAt;rw[if_neg f,if_pos l]);have F:decide (i<(M.number:Int))=true:=decide_eq_true l;clear s v f m d A l;generalize M.termAt i=E at *;generalize M.number=b at *
   go_enter func95,ntmps95
   go_wp2_with fail
   go_quiet (fail)
   go_wp2_with fail
   go_ret2
   exact⟨by rw[z.o];rfl,_,rfl⟩
  ·have F:decide (i<(M.number:Int))=false:=decide_eq_false l;rw[m]at A;have J:IntKind.i64.wrap ((M.number:Int)+(M.entries.length:Int))=((M.number+M.entries.length:Nat):Int):=by rw[IntWalk.i64_in _ (by omega)];omega
   by_cases t:((M.number+M.entries.length:Nat):Int)<i
   ·have z:=zh (show M.termAt i=none by
     unfold zAH.termAt;rw[if_neg f,if_neg l,List.getElem?_eq_none (by omega)];rfl)
    have B:decide (((M.number+M.entries.length:Nat):Int)<i)=true:=decide_eq_true t;clear s v f m d l t;generalize M.termAt i=E at *;generalize M.number+M.entries.length=P at *;generalize M.number=b at *;generalize M.entries.length=n at *
    go_enter func95,ntmps95
    go_wp2_with fail
    go_quiet (fail)
    go_wp2_with fail
    go_ret2
    exact⟨by rw[z.o];rfl,_,rfl⟩
   ·have B:decide (((M.number+M.entries.length:Nat):Int)<i)=false:=decide_eq_false t;have a:(i-(M.number:Int)-1).toNat<M.entries.length:=by omega
    obtain⟨g,Q,v',y,I,-,X,-,-,-⟩:=s.ent (List.getElem?_eq_getElem a);have z:=zh (zFa (M:=M) (show(M.number:Int)<i by omega) (List.getElem?_eq_getElem a));rw[m]at y;cases y;clear s v m I;generalize H:(i-(M.number:Int)-1).toNat=k at *;generalize M.entries[k]=e at *;generalize D:M.number+M.entries.length=P at *;generalize M.termAt i=E at *;generalize M.entries.length=n at *;generalize M.number=b at *;have L:IntKind.i64.wrap (i-(b:Int))=(k:Int)+1:=by rw[IntWalk.i64_in _ (by omega)];omega
    have N:IntKind.i64.wrap (k:Int)=(k:Int):=IntWalk.i64_in _ (by omega);clear H d l t f D
    go_enter func95,ntmps95
    go_wp2_with fail
    go_quiet (fail)
    go_wp2_with fail
    go_quiet (fail)
    go_wp2_with fail
    go_ret2
    exact⟨by rw[z.o];rfl,_,drewN_two _ _ _⟩
theorem zGY (h:zA4 S w1 j r pre M)(z:Int)(aG:(M.number:Int)≤z)(aF:z≤9223372036854775807) :
  Calls prog 119 #[.pointer (some ⟨j,0,none⟩),.int .i64 z] w1 (zB0 w1 (M.grpIn (M.upto z))):=by
 obtain⟨i0,hi,an,ao,ap⟩:=info_parts (show(prog.info? 3).map (fun i=>(i.zero,i.size,i.bytes))=some (some (.int .i64 0),1,8) by kernel_rfl);have a:=h.ok.last;have am:=h.ok.group;have Z:=zh h.ok.ents;obtain⟨O,C,gv,dv,ev,vs,V,ax⟩:=h;have HJ:=zh V;have c0:=V.c 0 rfl;have c2:=V.c 2 rfl;have c8:=V.c 8 rfl;obtain⟨pg,cg,ae⟩:=V.group.slice;obtain⟨p8,au,X⟩:=V.row.shape;rw[ae]at c2;rw[X]at c8;have ar:=zh (ae▸V.group);have az:=(zES am).2;unfold zAH.last at a;clear ax am ae;obtain⟨m,hm⟩:∃m,m=M.upto z:=⟨_,rfl⟩;rw[←hm];have Hm:=zW (∀k,k<M.entries.length→(k+1≤m↔(M.number:Int)+k+1≤z)) (fun k hk=>by
  rw[hm];unfold zAH.upto;omega)
 have aw:m≤M.entries.length:=by
  rw[hm];exact Nat.min_le_right _ _
 clear hm;generalize hb:M.number=b at *;generalize hn:M.entries.length=n at *;generalize Y:M.group.length=U at *;have Hn:=zh hn;have T:=zh Y;clear hn Y;have ay:IntKind.i64.wrap ((n:Int)-1)=(n:Int)-1:=IntWalk.i64_in _ (by omega);clear V
 go_enter func119,ntmps119
 go_wp2_with fail
 go_loopw [6] (fun x wr=>∃k:Nat,k≤n∧x=.int .i64 ((k:Int)-1)∧M.grpIn m=M.grpIn (min k m)∧Below w1.heap.size w1 wr) (fun x _=>(intOf x+1).toNat)
 case atStart=>exact⟨n,Nat.le_refl _,rfl,by rw[Nat.min_eq_right aw],Below.refl _ _⟩
 case round =>
  obtain⟨k,hk,rfl,P,f⟩:=hrel;have ah:=zAI c0 f;have ai:=zAI c2 f;have aj:=zAI c8 f;cases k with
  | zero =>
   have G:=zh P;have HB:=zh f;have B:=zh (f.trans (⟨rfl,rfl,rfl,Nat.le_refl _,fun _ _=>rfl⟩:Below w1.heap.size wr wr.drew));have t:=zh (fun W (hb2:Below wr.drew.heap.size wr.drew W)=>(show zAM W 1 (.slice pg U cg) U (intsV M.group) by
    have h1:zBg W (.slice pg U cg) M.group:=zAM.chg ar.o (Chg.of_below ((f.trans (⟨rfl,rfl,rfl,Nat.le_refl _,fun _ _=>rfl⟩:Below w1.heap.size wr wr.drew)).trans (hb2.mono f.size))) fun _ _=>id;unfold zBg at h1;rwa[T.o]at h1))
   have ak:decide ((0:Int)≤((0:Nat):Int)-1)=false:=by decide
   clear P f aj;go_wp2_with fail;refine ost (fun w':World=>w'.cell? ⟨j,2,none⟩=some (.slice pg U cg)∧w'.cell? ⟨j,0,none⟩=some (.int .i64 (b:Int))) 14 (⟨ai,ah⟩) fun d=>?_;generalize wr.drew=W1 at *;refine Pl [1,2,3,4,5,7,8,9,10,11] ?_
   iterate 10 (refine Pc rfl ?_;simp only[uZ])
   refine Pn ?_;refine oon 0 rfl fun K I=>?_;have A:=zh (zAC W1 (.cells #[] 3));have aa:=zh (And.intro (zAI d.1 A.o) (zAI d.2 A.o));have p:=zh d;go_wp2_with fail;refine I.o _ _ (aa.o) fun d=>?_;clear I
   try simp only[uZ]
   refine oon 6 rfl fun K I=>?_;have F:=zh (zBH W1 3);have H:=zh (t.o _ A.o);refine zAq (.tmp 56) (.tmp 61) 38 rfl 3 i0 (.int .i64 0) 1 8 underlying38 hi an ao ap rfl (by decide) (.slice (some ⟨W1.heap.size,0,none⟩) 0 0) 0 [] rfl F.o (.slice pg U cg) U _ rfl H.o (fun u hu=>by obtain⟨z,-,rfl⟩:=List.mem_map.1 hu;rfl) (by unfold maxLen;omega) (by omega) ?_;intro v4 w4 s l q;have N:=zh (zEr s l q);have ab:=zh (And.intro (zAI p.o.1 N.o.2.2) (zAI p.o.2 N.o.2.2));clear s l q F H;obtain⟨p4,c4,rfl⟩:=OwnR.shape N.o.1;refine I.o _ _ (ab.o) fun d=>?_;clear I
   try simp only[uZ]
   refine Pl [12,13] ?_
   iterate 2 (refine Pc rfl ?_;simp only[uZ])
   refine Pn ?_;have HE:=zW (zB0 w1 (M.grpIn m) (.returned (.tuple #[.slice p4 U c4,.int .i64 (b:Int)])) w4) (by
    have hE:=N.o;rw[G.o,Nat.zero_min];refine⟨.slice p4 U c4,?_,?_,fun y hy=>Nat.le_trans B.o.size (hE.2.1 y hy),B.o.trans (hE.2.2.mono B.o.size)⟩
    ·show _=Ending.returned (.tuple #[_,.int .i64 (M.number:Int)])
     rw[hb]
    ·show zCp w4 _ M.group
     unfold zCp;rw[T.o];exact hE.1)
   refine odn ?_;go_wp2_with fail
   go_ret2
   exact HE.o
  | succ k =>
   have af:k<M.entries.length:=by rw[Hn.o];omega
   have he:=List.getElem?_eq_getElem af;obtain⟨g,c,v,ad,-,ac,k0,k1,k2,k3⟩:=HJ.o.ent he;rw[X]at ad;rw[Hn.o]at ad;cases ad;have hf:=zBN (Z.o _ (List.getElem_mem af));have Q:=fun h1 h2=>grp_min_yes (m:=m) he h1 h2;have J:=fun h1=>grp_min_no (m:=m) he h1;generalize M.entries[k]=e at *;have L:=Hm.o k (by omega);obtain⟨pn,cn,en⟩:=ac.nodes.slice;rw[en]at k3;have k1:=zAI k1 f;have k3:=zAI k3 f;have t:=zh (fun W (hb2:Below wr.drew.heap.size wr.drew W)=>(show zAM W 1 (.slice pn e.nodes.length cn) e.nodes.length (intsV e.nodes) by
    rw[←en];exact zAM.chg ac.nodes (Chg.of_below ((f.trans (⟨rfl,rfl,rfl,Nat.le_refl _,fun _ _=>rfl⟩:Below w1.heap.size wr wr.drew)).trans (hb2.mono f.size))) fun _ _=>id))
   have G:=zh P;have HB:=zh f;have B:=zh (f.trans (⟨rfl,rfl,rfl,Nat.le_refl _,fun _ _=>rfl⟩:Below w1.heap.size wr wr.drew));have ak:decide ((0:Int)≤((k+1:Nat):Int)-1)=true:=decide_eq_true (by omega);have al:((k+1:Nat):Int)-1=(k:Int):=by omega
   rw[al]at ak ⊢;have aC:e.nodes.length≤7:=by omega
   have aA:k≤1099511627776:=by omega
   have aB:k<n:=by omega
   clear P f ai af he ac en hf al;obtain⟨x0,ag⟩:∃x0,x0=b+k:=⟨_,rfl⟩;obtain⟨x1,R⟩:∃x1,x1=b+k+1:=⟨_,rfl⟩;have aD:IntKind.i64.wrap ((b:Int)+(k:Int))=(x0:Int):=by rw[IntWalk.i64_in _ (by omega)];omega
   have aE:IntKind.i64.wrap ((x0:Int)+1)=(x1:Int):=by rw[IntWalk.i64_in _ (by omega)];omega
   have aq:=zh R
   by_cases D:e.kind=2
   ·have hq:(e.kind==2)=true:=by simpa using D
    by_cases E:k+1≤m
    ·have av:decide ((x1:Int)≤z)=true:=decide_eq_true (by have:=L.1 E;omega);have HG:=zh (Q D E);clear Q J L D E ag R a;go_wp2_with fail;refine ost (fun w':World=>w'.cell? ⟨j,8,none⟩=some (.slice (some ⟨g,0,none⟩) n au)∧w'.cell? ⟨g,k*4+3,none⟩=some (.slice pn e.nodes.length cn)∧w'.cell? ⟨j,0,none⟩=some (.int .i64 (b:Int))) 20 (⟨aj,k3,ah⟩) fun d=>?_;generalize wr.drew=W1 at *;refine Pl [1,2,3,4,5,6,7,8,10,11,12,13,14,15,16,17] ?_
     iterate 16 (refine Pc rfl ?_;simp only[uZ])
     refine Pn ?_;refine oon 0 rfl fun K I=>?_;have A:=zh (zAC W1 (.cells #[] 3));have aa:=zh (And.intro (zAI d.1 A.o) (And.intro (zAI d.2.1 A.o) (zAI d.2.2 A.o)));have p:=zh d;go_wp2_with fail;refine I.o _ _ (aa.o) fun d=>?_;clear I
     try simp only[uZ]
     refine oon 9 rfl fun K I=>?_;have F:=zh (zBH W1 3);have H:=zh (t.o _ A.o);refine zAq (.tmp 38) (.tmp 46) 38 rfl 3 i0 (.int .i64 0) 1 8 underlying38 hi an ao ap rfl (by decide) (.slice (some ⟨W1.heap.size,0,none⟩) 0 0) 0 [] rfl F.o (.slice pn e.nodes.length cn) e.nodes.length _ rfl H.o (fun u hu=>by obtain⟨z,-,rfl⟩:=List.mem_map.1 hu;rfl) (by unfold maxLen;omega) (by omega) ?_;intro v4 w4 s l q;have N:=zh (zEr s l q);have ab:=zh (And.intro (zAI p.o.1 N.o.2.2) (And.intro (zAI p.o.2.1 N.o.2.2) (zAI p.o.2.2 N.o.2.2)));clear s l q F H;obtain⟨p4,c4,rfl⟩:=OwnR.shape N.o.1;refine I.o _ _ (ab.o) fun d=>?_;clear I
     try simp only[uZ]
     refine Pl [18,19] ?_
     iterate 2 (refine Pc rfl ?_;simp only[uZ])
     refine Pn ?_;have HE:=zW (zB0 w1 (M.grpIn m) (.returned (.tuple #[.slice p4 e.nodes.length c4,.int .i64 (x1:Int)])) w4) (by
      have hE:=N.o;rw[G.o,HG.o];refine⟨.slice p4 e.nodes.length c4,?_,hE.1,fun y hy=>Nat.le_trans B.o.size (hE.2.1 y hy),B.o.trans (hE.2.2.mono B.o.size)⟩
      show _=Ending.returned (.tuple #[_,.int .i64 ((M.number+k+1:Nat):Int)])
      rw[hb,←aq.o])
     refine odn ?_;go_wp2_with fail
     go_ret2
     exact HE.o
    ·have av:decide ((x1:Int)≤z)=false:=decide_eq_false (by have:=fun h=>E (L.2 h);omega);have HG:=zh (J (.inr E));clear Q J L D E ag R a;go_wp2_with fail;go_roundw
     case rel=>exact⟨k,by omega,rfl,G.o.trans HG.o,HB.o⟩
     case measure =>
      show((k:Int)-1+1).toNat<((k:Int)+1).toNat
      omega
   ·have hq:(e.kind==2)=false:=by simpa using D
    have HG:=zh (J (.inl D));clear Q J L D ag R a;go_wp2_with fail;go_roundw
    case rel=>exact⟨k,by omega,rfl,G.o.trans HG.o,HB.o⟩
    case measure =>
     show((k:Int)-1+1).toNat<((k:Int)+1).toNat
     omega
theorem rnconf_calls (h:zA4 S w1 j r pre M) :
  Calls prog 94 #[.pointer (some ⟨j,0,none⟩)] w1 (zB0 w1 (M.grpIn M.entries.length)):=by
 have i:=h.ok.last;have g:M.number≤M.last:=Nat.le_add_right _ _;have b:=zh (zGY h 4611686018427387904 (by omega) (by decide));rw[upto_all M (by omega)]at b;clear h
 go_enter func94,ntmps94
 go_wp2_with fail;refine b.o.mono ?_;rintro e w2 ⟨v,rfl,d,hn,c⟩;have f:=zW (zB0 w1 (M.grpIn M.entries.length) (.returned (.tuple #[v,.int .i64 ((M.grpIn M.entries.length).2:Int)])) w2) (⟨v,rfl,d,hn,c⟩);clear d hn c;go_wp2_with fail
 go_ret2
 exact f.o
theorem rnat_yes (h:zA4 S w1 j r pre M)(i:Int)(hi:-9223372036854775808≤i∧i≤9223372036854775807)(aj:(M.number:Int)<i){e:Ent}(Y:M.entries[(i-(M.number:Int)-1).toNat]?=some e) :
  Calls prog 96 #[.pointer (some ⟨j,0,none⟩),.int .i64 i] w1 fun r w'=>∃v:EV,r=.returned (.tuple #[zDx e v,.int .i64 0])∧zDg w' e v∧(∀k,(v.1.ownBlock=some k∨v.2.ownBlock=some k)→w1.heap.size≤k)∧Below w1.heap.size w1 w':=by
 have al:=(List.getElem?_eq_some_iff.1 Y).1;have ai:i≤(M.last:Int):=by unfold zAH.last;omega
 have a:=zAC w1 (.cells #[.int .i64 0,.int .i64 0,.slice none 0 0,.slice none 0 0] 50);have p:=h.ok.last;have E:=h.ok.ents e (List.mem_of_getElem? Y);obtain⟨O,C,gv,dv,ev,vs,X,am⟩:=h;obtain⟨g,c,v,rfl,hv,z,k0,k1,k2,k3⟩:=X.ent Y;obtain⟨B,t,I⟩:=z.data.slice;obtain⟨D,y,J⟩:=z.nodes.slice;obtain⟨v1,v2⟩:=v;have I:v1=.slice B e.data.length t:=I;have J:v2=.slice D e.nodes.length y:=J;subst I;subst J;have c0:=X.c 0 rfl;have c8:=X.c 8 rfl;have hf:=zBN E;generalize hk:(i-(M.number:Int)-1).toNat=k at *;have HX:=zW (EntIn w1 j g M.entries.length c M.number k e (.slice B e.data.length t,.slice D e.nodes.length y)) (⟨c8,c0,k0,k1,k2,k3⟩);have HA:=zh z
 have ap:e.data.length≤65536:=by omega
 have aq:e.nodes.length≤7:=by omega
 unfold zAH.last at p;have ak:i=(M.number:Int)+1+(k:Int):=by omega
 have ac:=zAI c0 a;have ad:=zAI c8 a;clear X am hv z c0 c8 k0 k1 k2 k3 E hf Y hk;generalize M.entries.length=n at *;generalize M.number=b at *;have au:IntKind.i64.wrap (i-(b:Int))=(k:Int)+1:=by rw[IntWalk.i64_in _ (by omega)];omega
 have av:IntKind.i64.wrap (k:Int)=(k:Int):=IntWalk.i64_in _ (by omega);obtain⟨x0,ao⟩:∃x0,x0=b+n:=⟨_,rfl⟩;have an:IntKind.i64.wrap ((b:Int)+(n:Int))=(x0:Int):=by rw[IntWalk.i64_in _ (by omega)];omega
 have ag:decide (i≤(b:Int))=false:=decide_eq_false (by omega);have ah:decide ((x0:Int)<i)=false:=decide_eq_false (by omega);have ar:k<n:=by omega
 clear ak ao ai aj p al
 go_enter func96,ntmps96
 go_wp2_with fail
 go_quiet (fail)
 have N:=zW (Below w1.heap.size w1 ((w1.alloc (.cells #[.int .i64 0,.int .i64 0,.slice none 0 0,.slice none 0 0] 50)).drewN nq)) (a.trans ⟨rfl,rfl,rfl,by simp,fun _ _=>rfl⟩);have HR:=zW (((w1.alloc (.cells #[.int .i64 0,.int .i64 0,.slice none 0 0,.slice none 0 0] 50)).drewN nq).heap[w1.heap.size]?=_) (zAJ w1 _);generalize (w1.alloc (.cells #[.int .i64 0,.int .i64 0,.slice none 0 0,.slice none 0 0] 50)).drewN nq=W at *;clear a ac ad ag ah an;go_wp2_with fail;refine ost (fun w':World=>w'.cell? ⟨j,8,none⟩=some (.slice (some ⟨g,0,none⟩) n c)∧w'.cell? ⟨j,0,none⟩=some (.int .i64 (b:Int))∧w'.cell? ⟨g,k*4,none⟩=some (.int .i64 e.term)∧w'.cell? ⟨g,k*4+1,none⟩=some (.int .i64 e.kind)∧w'.cell? ⟨g,k*4+2,none⟩=some (.slice B e.data.length t)∧w'.cell? ⟨g,k*4+3,none⟩=some (.slice D e.nodes.length y)) 17 ((zDA HX.o (N.o.trans ⟨rfl,rfl,rfl,Nat.le_refl _,fun _ _=>rfl⟩)).all) fun d=>?_;generalize L:W.drew=W1 at *;have G:=zW (Below w1.heap.size w1 W1) (by rw[←L];exact N.o.trans ⟨rfl,rfl,rfl,Nat.le_refl _,fun _ _=>rfl⟩);have H:=zh (Eq.trans (show W1.heap[w1.heap.size]?=W.heap[w1.heap.size]? by rw[←L];rfl) HR.o);clear L;refine Pl [0,1,2,3,4,5,6,7,8,9,10,11,12,13] ?_
 iterate 14 (refine Pc rfl ?_;simp only[uZ])
 refine Pn ?_;refine oon 14 rfl fun K T=>?_;have R:=zh (rown_calls (HA.o.below G.o) (by omega) (by omega));go_wp2_with fail;refine R.o.mono ?_;rintro r F ⟨⟨u1,u2⟩,rfl,Z,U,A⟩;obtain⟨s,m,eu,-⟩:=zAN Z.data;obtain⟨q,l,en,-⟩:=zAw Z.nodes;have af:u1=.slice s e.data.length m:=eu;have ae:u2=.slice q e.nodes.length l:=en;subst af;subst ae;clear eu en;have P:=zh (G.o.trans (A.mono G.o.size));have aa:=zh (zDA (⟨d⟩:EntIn W1 j g n c b k e (.slice B e.data.length t,.slice D e.nodes.length y)) A);have f:=zh ((A.block _ (zAB H.o)).trans H.o);have V:=zh (And.intro Z U);have Q:=zh (zAB H.o);clear Z U A;go_wp2_with fail;refine T.o _ _ (aa.o.all) fun d=>?_;clear T
 try simp only[uZ]
 refine oon 15 rfl fun K T=>?_;have r0:=zAd f.o;have r1:=zAn f.o;have r2:=zAo f.o;have r3:=zBI f.o;have fr:=zAE f.o;unfold zDx;go_wp2_with fail;have hz:((((F.setCell ⟨w1.heap.size,0,none⟩ (.int .i64 e.term)).setCell ⟨w1.heap.size,1,none⟩ (.int .i64 e.kind)).setCell ⟨w1.heap.size,2,none⟩ (.slice s e.data.length m)).setCell ⟨w1.heap.size,3,none⟩ (.slice q e.nodes.length l)).heap[w1.heap.size]?=some (.cells #[.int .i64 e.term,.int .i64 e.kind,(.slice s e.data.length m),(.slice q e.nodes.length l)] 50 (0,0)):=by
  have h1:=zAD f.o 0 (.int .i64 e.term);have h2:=zAD h1 1 (.int .i64 e.kind);have h3:=zAD h2 2 (.slice s e.data.length m);have h4:=zAD h3 3 (.slice q e.nodes.length l);simpa using h4
 have hC:Chg (fun x=>x=w1.heap.size) F ((((F.setCell ⟨w1.heap.size,0,none⟩ (.int .i64 e.term)).setCell ⟨w1.heap.size,1,none⟩ (.int .i64 e.kind)).setCell ⟨w1.heap.size,2,none⟩ (.slice s e.data.length m)).setCell ⟨w1.heap.size,3,none⟩ (.slice q e.nodes.length l)):=(((Chg.setCell F ⟨w1.heap.size,0,none⟩ _).trans (Chg.setCell _ ⟨w1.heap.size,1,none⟩ _) fun _ _ e=>e).trans (Chg.setCell _ ⟨w1.heap.size,2,none⟩ _) fun _ _ e=>e).trans (Chg.setCell _ ⟨w1.heap.size,3,none⟩ _) fun _ _ e=>e;have hB:Below w1.heap.size w1 ((((F.setCell ⟨w1.heap.size,0,none⟩ (.int .i64 e.term)).setCell ⟨w1.heap.size,1,none⟩ (.int .i64 e.kind)).setCell ⟨w1.heap.size,2,none⟩ (.slice s e.data.length m)).setCell ⟨w1.heap.size,3,none⟩ (.slice q e.nodes.length l)):=P.o.trans (hC.below P.o.size fun k hk e=>by omega);have ab:=zh (zDA HX.o hB);have HE:=zW (∃v:EV,Ending.returned (.tuple #[.agg #[.int .i64 e.term,.int .i64 e.kind,(.slice s e.data.length m),(.slice q e.nodes.length l)],.int .i64 0])=.returned (.tuple #[zDx e v,.int .i64 0])∧zDg ((((F.setCell ⟨w1.heap.size,0,none⟩ (.int .i64 e.term)).setCell ⟨w1.heap.size,1,none⟩ (.int .i64 e.kind)).setCell ⟨w1.heap.size,2,none⟩ (.slice s e.data.length m)).setCell ⟨w1.heap.size,3,none⟩ (.slice q e.nodes.length l)) e v∧(∀k,(v.1.ownBlock=some k∨v.2.ownBlock=some k)→w1.heap.size≤k)∧Below w1.heap.size w1 ((((F.setCell ⟨w1.heap.size,0,none⟩ (.int .i64 e.term)).setCell ⟨w1.heap.size,1,none⟩ (.int .i64 e.kind)).setCell ⟨w1.heap.size,2,none⟩ (.slice s e.data.length m)).setCell ⟨w1.heap.size,3,none⟩ (.slice q e.nodes.length l))) (
  ⟨(.slice s e.data.length m,.slice q e.nodes.length l),rfl,V.o.1.keep fun x hx=>hC.block x (V.o.1.lt hx) fun e=>by have h1:=V.o.2 x hx;have h2:=Q.o;omega,fun x hx=>by have h1:=V.o.2 x hx;have h2:=Q.o;omega,hB⟩)
 have HZ:=zh hz;clear r0 r1 r2 r3 fr hC hB hz;generalize (((F.setCell ⟨w1.heap.size,0,none⟩ (.int .i64 e.term)).setCell ⟨w1.heap.size,1,none⟩ (.int .i64 e.kind)).setCell ⟨w1.heap.size,2,none⟩ (.slice s e.data.length m)).setCell ⟨w1.heap.size,3,none⟩ (.slice q e.nodes.length l)=W6 at *;refine T.o _ _ (ab.o.all) fun d=>?_;clear T
 try simp only[uZ]
 refine otk 16 (v:=?v1x16) rfl ?_;simp only[uZ];refine odn ?_;go_wp2_with fail
 (try simp only[Exit.inBlock,Exit.then])
 refine bodyPost_ret (zC5 rfl _ W6 w1.heap.size _ _ (0,0) _ rfl HZ.o underlying50 rfl (by kernel_rfl)) rfl ?_;exact HE.o
theorem rnat_no (h:zA4 S w1 j r pre M)(i:Int)(K:-9223372036854775808≤i∧i≤9223372036854775807)(q:¬((M.number:Int)<i∧i≤(M.last:Int))) :
  Calls prog 96 #[.pointer (some ⟨j,0,none⟩),.int .i64 i] w1 fun r w'=>r=.returned (.tuple #[.agg #[.int .i64 0,.int .i64 0,.slice none 0 0,.slice none 0 0],.int .i64 7])∧Below w1.heap.size w1 w':=by
 have g:=zAC w1 (.cells #[.int .i64 0,.int .i64 0,.slice none 0 0,.slice none 0 0] 50);have f:=h.ok.last;obtain⟨O,C,Z,dv,N,vs,y,I⟩:=h;obtain⟨p8,L,p⟩:=y.row.shape;have v:=zAI (y.c 0 rfl) g;have s:=zAI (y.c 8 rfl) g;unfold zAH.last at f q;have v:(w1.alloc (.cells #[.int .i64 0,.int .i64 0,.slice none 0 0,.slice none 0 0] 50)).cell? ⟨j,0,none⟩=some (.int .i64 (M.number:Int)):=v;have s:(w1.alloc (.cells #[.int .i64 0,.int .i64 0,.slice none 0 0,.slice none 0 0] 50)).cell? ⟨j,8,none⟩=some N:=s;rw[p]at s;clear y I p;generalize M.entries.length=n at *;generalize M.number=b at *;obtain⟨z,t⟩:∃z,z=b+n:=⟨_,rfl⟩;have T:IntKind.i64.wrap ((b:Int)+(n:Int))=(z:Int):=by rw[IntWalk.i64_in _ (by omega)];omega
 by_cases m:i≤(b:Int)
 focus have H:decide (i≤(b:Int))=true:=decide_eq_true m
 rotate_left
 focus have H:decide (i≤(b:Int))=false:=decide_eq_false m;have Q:decide ((z:Int)<i)=true:=decide_eq_true (by omega)
 all_goals
  clear q m t f;go_enter func96,ntmps96;go_wp2_with fail;go_quiet (fail);have l:=zW (Below w1.heap.size w1 ((w1.alloc (.cells #[.int .i64 0,.int .i64 0,.slice none 0 0,.slice none 0 0] 50)).drewN nq)) (g.trans ⟨rfl,rfl,rfl,by simp,fun _ _=>rfl⟩);have d:((w1.alloc (.cells #[.int .i64 0,.int .i64 0,.slice none 0 0,.slice none 0 0] 50)).drewN nq).heap[w1.heap.size]?=some (.cells #[.int .i64 0,.int .i64 0,.slice none 0 0,.slice none 0 0] 50):=zAJ w1 _;generalize (w1.alloc (.cells #[.int .i64 0,.int .i64 0,.slice none 0 0,.slice none 0 0] 50)).drewN nq=W at *;have U:=zAd d;have V:=zAn d;have X:=zAo d;have Y:=zBI d;have P:=zAE d;have A:=zh d;clear g d v s;go_wp2_with fail;have J:((((W.setCell ⟨w1.heap.size,0,none⟩ (.int .i64 0)).setCell ⟨w1.heap.size,1,none⟩ (.int .i64 0)).setCell ⟨w1.heap.size,2,none⟩ (.slice none 0 0)).setCell ⟨w1.heap.size,3,none⟩ (.slice none 0 0)).heap[w1.heap.size]?=some (.cells #[.int .i64 0,.int .i64 0,.slice none 0 0,.slice none 0 0] 50):=by
   have B:=zAD A.o 0 (.int .i64 0);have D:=zAD B 1 (.int .i64 0);have E:=zAD D 2 (.slice none 0 0);have F:=zAD E 3 (.slice none 0 0);simpa using F
  have G:Chg (fun x=>x=w1.heap.size) W ((((W.setCell ⟨w1.heap.size,0,none⟩ (.int .i64 0)).setCell ⟨w1.heap.size,1,none⟩ (.int .i64 0)).setCell ⟨w1.heap.size,2,none⟩ (.slice none 0 0)).setCell ⟨w1.heap.size,3,none⟩ (.slice none 0 0)):=(((Chg.setCell W ⟨w1.heap.size,0,none⟩ _).trans (Chg.setCell _ ⟨w1.heap.size,1,none⟩ _) fun _ _ e=>e).trans (Chg.setCell _ ⟨w1.heap.size,2,none⟩ _) fun _ _ e=>e).trans (Chg.setCell _ ⟨w1.heap.size,3,none⟩ _) fun _ _ e=>e;have a:=zW (Below w1.heap.size w1 _) (l.o.trans (G.below l.o.size fun k R e=>by omega));(try simp only[Exit.inBlock,Exit.then]);refine bodyPost_ret (zC5 rfl _ _ w1.heap.size _ _ (0,0) _ rfl J underlying50 rfl (by kernel_rfl)) rfl ?_;exact⟨rfl,a.o⟩
end
section
variable {w w1 w2:World} {j r:Nat} {pre:ByteArray} {D:zAA} {M:zAH} {Hot Cold:Nat→Prop}
theorem zFe (h:RJF w1 j r pre D M Hot Cold){n2:Nat}{t2:Int}{g2:List Int}(aZ:M.number<n2)(hs:(⟨n2,t2,g2,M.data⟩:zC8).OK){pg:Option Addr}{cg:Nat}(hg:zBg w1 (.slice pg g2.length cg) g2)(bc:∀k,(Value.slice pg g2.length cg).ownBlock=some k→k≠j) :
  Calls prog 92 #[.pointer (some ⟨j,0,none⟩),.agg #[.int .i64 (n2:Int),.int .i64 t2,.slice pg g2.length cg]] w1 fun e w'=>e=.returned (.tuple #[])∧zAs w1 j r pre Hot Cold w' D (M.rebase ⟨n2,t2,g2,M.data⟩):=by
 obtain⟨i0,hi,aQ,aR,aS⟩:=info_parts (show(prog.info? 3).map (fun i=>(i.zero,i.size,i.bytes))=some (some (.int .i64 0),1,8) by kernel_rfl);obtain⟨i4,ba,be,aC,bf⟩:=info_parts (show(prog.info? 50).map (fun i=>(i.zero,i.size,i.bytes))=some (some (.agg #[.int .i64 0,.int .i64 0,.slice none 0 0,.slice none 0 0]),4,64) by kernel_rfl);have bt:n2≤1099511627776:=hs.number;have bq:g2.length≤7:=(zES hs.group).2;have aq:=zh (zGU h.okM hs);have bj:=h.okM.last;have aN:=h.hlt h.jhot;have aW:=zW (M.rebase ⟨n2,t2,g2,M.data⟩={M with number:=n2,term:=t2,group:=g2,entries:=if M.number<n2∧M.termAt n2=some t2 then M.entries.drop (n2-M.number)else [] }) rfl;rw[aW.o]at aq;rw[aW.o];obtain⟨es,P⟩:∃es,es=(if M.number<n2∧M.termAt n2=some t2 then M.entries.drop (n2-M.number)else []):=⟨_,rfl⟩;rw[←P]at aq ⊢;unfold zBg at hg;generalize aY:g2.length=C at *;have aG:=zh aY;have Hg:=zh hg;have aI:=zh bc;have H:=zh h;have au:=zh (zAC w1 (.cells #[.int .i64 (n2:Int),.int .i64 t2,.slice pg C cg] 82));have aE:=zh (zAJ w1 (.cells #[.int .i64 (n2:Int),.int .i64 t2,.slice pg C cg] 82));have V:=zh (zDr (h.below au.o).new (n2:Int) (by omega));have aH:=zh (fun W (hb:Below w1.heap.size w1 W)=>zDm (h.below hb));obtain⟨O,own,gv,dv,ev,vs,v0,L,hJ,aM,hO,aL,hH⟩:=id h;obtain⟨p8,c8,ae⟩:=hJ.row.shape;have bb:M.entries.length≤c8:=by
  rcases hJ.row.2 with⟨h8,h0⟩|⟨g,bn,cur,h8,-,bl,-⟩
  ·omega
  ·rw[ae]at h8;cases h8;exact bl
 have HX:=zh (And.intro hJ (And.intro aM (And.intro hO (And.intro aL (And.intro hH ae)))));have Hc:=zW (w1.heap[j]?=some (RJC r (M.number:Int) M.term gv pre M.now M.vote dv (.slice p8 M.entries.length c8) M.dead)) (by rw[←ae];exact hJ.cells);have br:M.last=M.number+M.entries.length:=rfl;have ay:=zh (fun(W:World) (hb:Below w1.heap.size w1 W)=>show zAs w1 j r pre Hot Cold (W.setCell ⟨j,8,none⟩ (.slice none 0 0)) D {M with entries:=[] } by
  have h1:=rj_drop (k:=M.entries.length) (p:=none) (n:=0) (c:=0) h hb hJ aM hO aL hH (by rw[List.drop_length,entsC_nil];exact OwnR.nil _ _ _) (by rw[List.drop_length];rfl) (fun y hy=>by cases hy);rwa[List.drop_length]at h1)
 clear h hs aY hg bc hJ aM hO aL hH ae;cases ad:M.termAt (n2:Int)with
 | none =>
  rw[if_neg (fun e=>by rw[ad]at e;cases e.2)]at P;subst P;rw[ad]at V;simp only[Option.getD_none,Option.isSome_none]at V;generalize aX:M.entries.length=n8 at *;generalize hb:M.number=b at *
  go_enter func92,ntmps92
  go_wp2_with fail;refine V.o.mono ?_;rintro e w2 ⟨rfl,q,rfl⟩;have X:=zh (au.o.trans (⟨rfl,rfl,rfl,Nat.le_refl _,fun _ _=>rfl⟩:Below w1.heap.size (w1.alloc (.cells #[.int .i64 (n2:Int),.int .i64 t2,.slice pg C cg] 82)) ((w1.alloc (.cells #[.int .i64 (n2:Int),.int .i64 t2,.slice pg C cg] 82)).drewN q)));have ap:=zh (aH.o _ X.o);go_wp2_with fail;refine ap.o.mono ?_;rintro e w3 ⟨rfl,q2,rfl⟩;generalize U:World.drewN (World.drewN _ _) _=WQ;have Y:=zW (Below w1.heap.size w1 WQ) (by rw[←U];exact X.o.trans ⟨rfl,rfl,rfl,Nat.le_refl _,fun _ _=>rfl⟩);have ah:WQ.heap[w1.heap.size]?=some (.cells #[.int .i64 (n2:Int),.int .i64 t2,.slice pg C cg] 82 (0,0)):=by rw[←U];exact aE.o
  have ai:WQ.heap[j]?=some (RJC r (b:Int) M.term gv pre M.now M.vote dv (.slice p8 n8 c8) M.dead):=(Y.o.block j aN).trans Hc.o;have R:=zW (Below w1.heap.size w1 WQ.drew) (Y.o.trans ⟨rfl,rfl,rfl,Nat.le_refl _,fun _ _=>rfl⟩);clear U;go_wp2_with fail;refine ost (fun w':World=>w'.heap[w1.heap.size]?=some (.cells #[.int .i64 (n2:Int),.int .i64 t2,.slice pg C cg] 82 (0,0))∧w'.heap[j]?=some (RJC r (b:Int) M.term gv pre M.now M.vote dv (.slice p8 n8 c8) M.dead)) 17 (⟨(ah:WQ.drew.heap[w1.heap.size]?=_),(ai:WQ.drew.heap[j]?=_)⟩) fun d=>?_;generalize WQ.drew=J at *;refine Pl [0,1,2,3,4,5,6,7,8,9,10,11,12,13,14,15,16] ?_
  iterate 17 ((first|refine Ps rfl ?_|refine Pd rfl (by intro w f;have p0:=zAd f.1;have p1:=zAn f.1;have p2:=zAo f.1;have q0:=zAd f.2;have q8:=zAG f.2 (i:=8) rfl;go_simp;try with_reducible rfl) ?_);simp only[uZ])
  refine Pn ?_;refine odn ?_;have l:=d;have aJ:=zAG d.2 (i:=8) rfl;have aK:=zAE d.2 8;go_wp2_with fail;have HS:=zh (ay.o J R.o);have ak:=zh ((set_other (w:=J) (a:=⟨j,8,none⟩) (.slice none 0 0) (show w1.heap.size≠j by omega)).trans l.1);have ao:=zW ((J.setCell ⟨j,8,none⟩ (.slice none 0 0)).heap[j]?=some (RJC r (b:Int) M.term gv pre M.now M.vote dv (.slice none 0 0) M.dead)) (by
   have h1:=zAD l.2 8 (.slice none 0 0);simpa using h1)
  have am:=zW (zAM (J.setCell ⟨j,8,none⟩ (.slice none 0 0)) 1 (.slice pg C cg) C (g2.map (Value.int .i64))) (zAM.chg (zAM.chg Hg.o (Chg.of_below R.o) fun _ _=>id) (Chg.setCell J ⟨j,8,none⟩ _) fun k hk=>aI.o k hk);clear aJ aK l d;generalize J.setCell ⟨j,8,none⟩ (.slice none 0 0)=I at *;have aa:=zW (I.drew.heap[j]?=some (RJC r (b:Int) M.term gv pre M.now M.vote dv (.slice none 0 0) M.dead)) ao.o;have Q:=zh (⟨rfl,rfl,rfl,Nat.le_refl _,fun _ _=>rfl⟩:Below I.heap.size I I.drew);have Z:=zh (fun W (hb2:Below I.drew.heap.size I.drew W)=>zAM.chg (am.o) (Chg.of_below ((⟨rfl,rfl,rfl,Nat.le_refl _,fun _ _=>rfl⟩:Below I.heap.size I I.drew).trans hb2)) fun _ _=>id);refine ost (fun w':World=>w'.heap[w1.heap.size]?=some (.cells #[.int .i64 (n2:Int),.int .i64 t2,.slice pg C cg] 82 (0,0))) 13 ((ak.o:I.drew.heap[w1.heap.size]?=_)) fun d=>?_;generalize I.drew=W6 at *;refine Pl [0,1,2,3,4,6,7] ?_
  iterate 7 (refine Pd rfl (by intro w f;have p0:=zAd f;have p1:=zAn f;have p2:=zAo f;go_simp;try with_reducible rfl) ?_;simp only[uZ])
  refine Pn ?_;refine oon 5 rfl fun K E=>?_;have N:=zh (zAC W6 (.cells #[] 3));have ac:=zh ((N.o.block w1.heap.size (zAB d)).trans d);have s:=zh d;go_wp2_with fail;refine E.o _ _ (ac.o) fun d=>?_;clear E
  try simp only[uZ]
  refine oon 8 rfl fun K E=>?_;have T:=zh (zBH W6 3);have ab:=zh (Z.o _ N.o);refine zAq (.tmp 70) (.tmp 72) 38 rfl 3 i0 (.int .i64 0) 1 8 underlying38 hi aQ aR aS rfl (by decide) (.slice (some ⟨W6.heap.size,0,none⟩) 0 0) 0 [] rfl T.o (.slice pg C cg) C _ rfl ab.o (fun u hu=>by obtain⟨z,-,rfl⟩:=List.mem_map.1 hu;rfl) (by unfold maxLen;omega) (by omega) ?_;intro v9 w9 G A F;have S:=zh (zEr G A F);have an:=zh ((S.o.2.2.block w1.heap.size (zAB s.o)).trans s.o);clear G A F T ab;obtain⟨p9,c9,rfl⟩:=OwnR.shape S.o.1;refine E.o _ _ (an.o) fun d=>?_;clear E
  try simp only[uZ]
  refine Pl [9,10,11] ?_
  iterate 3 (refine Pc rfl ?_;simp only[uZ])
  refine Pn ?_;refine oon 12 rfl fun K E=>?_;have B:=zh ((S.o.2.2.block j (zAB aa.o)).trans aa.o);have s0:=zAd B.o;have s1:=zAn B.o;have s2:=zAo B.o;have f0:=zAE B.o 0;have f1:=zAE B.o 1;have f2:=zAE B.o 2;have al:=zh ((set_other (w:=(w9.setCell ⟨j,0,none⟩ (.int .i64 (n2:Int))).setCell ⟨j,1,none⟩ (.int .i64 t2)) (a:=⟨j,2,none⟩) (.slice p9 C c9) (show w1.heap.size≠j by omega)).trans ((set_other (w:=w9.setCell ⟨j,0,none⟩ (.int .i64 (n2:Int))) (a:=⟨j,1,none⟩) (.int .i64 t2) (show w1.heap.size≠j by omega)).trans ((set_other (w:=w9) (a:=⟨j,0,none⟩) (.int .i64 (n2:Int)) (show w1.heap.size≠j by omega)).trans d)));go_wp2_with fail;refine E.o _ _ (al.o) fun d=>?_;clear E
  try simp only[uZ]
  refine odn ?_;have HE:=zh (HS.o.trans fun az aj hF=>rj_base hF (Q.o.trans (S.o.2.2.mono Q.o.size)) (show zBg w9 (.slice p9 C c9) g2 by unfold zBg;rw[aG.o];exact OwnR.holds S.o.1) (fun k hk=>⟨Nat.le_trans Q.o.size (S.o.2.1 k hk),OwnR.lt S.o.1 hk⟩) aq.o);go_wp2_with fail
  go_end0
  first
   | exact⟨rfl,HE.o⟩
   | (have h9:=HE.o;rw[P]at h9;exact⟨rfl,h9⟩)
 | some t =>
  by_cases ax:t=t2
  focus
   have bd:=ax.symm;clear ax;subst bd;rw[if_pos ⟨aZ,ad⟩]at P;have bk:=zGe ad;obtain⟨k,hk⟩:∃k,k=n2-M.number:=⟨_,rfl⟩;rw[←hk]at P;have aO:k≤M.entries.length:=by omega
   obtain⟨m,hm⟩:∃m,m=M.entries.length-k:=⟨_,rfl⟩;obtain⟨pa,aP⟩:∃pa,pa=(if c8-k=0 then p8 else p8.map fun x=>x.add (k*4)):=⟨_,rfl⟩;have bg:=zh (fun(W:World)=>show(Instr.slice 78 (.slice p8 M.entries.length c8) (some (.int .i64 (k:Int))) (some (.int .i64 (M.entries.length:Int))) none).run prog W=.ok (.slice pa m (c8-k)) W by
    have h1:=run_ab W underlying78 ba p8 M.entries.length c8 k M.entries.length aO bb;rw[aC]at h1;rw[aP,hm];exact h1)
   have av:=zW (zAM w1 4 (.slice pa m (c8-k)) m (zAz (M.entries.drop k) (vs.drop k))) (by
    have aB:=HX.o.1.row;rw[HX.o.2.2.2.2.2]at aB;rw[entsC_drop k _ _ HX.o.1.rlen,aP,hm];exact OwnR.cut_from aB aO)
   have aV:=zh (zDz (M.entries.drop k) (vs.drop k) fun v hv=>HX.o.1.one v (List.mem_of_mem_drop hv));have aU:=zh (fun(W:World) (hb:Below w1.heap.size w1 W) (p:Option Addr) (c:Nat) (af:OwnR W 50 4 (.slice p m c) m (zAz (M.entries.drop k) (vs.drop k))) (hnew:∀y,(Value.slice p m c).ownBlock=some y→w1.heap.size≤y)=>rj_drop H.o hb HX.o.1 HX.o.2.1 HX.o.2.2.1 HX.o.2.2.2.1 HX.o.2.2.2.2.1 af (by rw[List.length_drop,hm]) hnew);rw[←P]at aU;have bv:IntKind.i64.wrap ((n2:Int)-(M.number:Int))=(k:Int):=by rw[IntWalk.i64_in _ (by omega)];omega
   have bw:IntKind.i64.wrap ((M.number:Int)+(M.entries.length:Int)-(M.number:Int))=(M.entries.length:Int):=by rw[IntWalk.i64_in _ (by omega)];omega
   have bx:IntKind.i64.wrap (M.entries.length:Int)=(M.entries.length:Int):=IntWalk.i64_in _ (by omega);have bo:decide ((M.number:Int)<(n2:Int))=true:=decide_eq_true (by omega);have bp:decide (M.number<n2)=true:=decide_eq_true aZ;have bs:m≤1099511627776:=by omega
   clear hk hm aP bk aO;rw[ad]at V;simp only[Option.getD_some,Option.isSome_some]at V;generalize aX:M.entries.length=n8 at *;generalize hb:M.number=b at *;go_enter func92,ntmps92;go_wp2_with fail;refine V.o.mono ?_;rintro e w2 ⟨rfl,q,rfl⟩;have X:=zh (au.o.trans (⟨rfl,rfl,rfl,Nat.le_refl _,fun _ _=>rfl⟩:Below w1.heap.size (w1.alloc (.cells #[.int .i64 (n2:Int),.int .i64 t2,.slice pg C cg] 82)) ((w1.alloc (.cells #[.int .i64 (n2:Int),.int .i64 t2,.slice pg C cg] 82)).drewN q)));have ap:=zh (aH.o _ X.o);go_wp2_with fail;refine ap.o.mono ?_;rintro e w3 ⟨rfl,q2,rfl⟩;generalize U:World.drewN (World.drewN _ _) _=WQ;have Y:=zW (Below w1.heap.size w1 WQ) (by rw[←U];exact X.o.trans ⟨rfl,rfl,rfl,Nat.le_refl _,fun _ _=>rfl⟩);have ah:WQ.heap[w1.heap.size]?=some (.cells #[.int .i64 (n2:Int),.int .i64 t2,.slice pg C cg] 82 (0,0)):=by rw[←U];exact aE.o
   have ai:WQ.heap[j]?=some (RJC r (b:Int) M.term gv pre M.now M.vote dv (.slice p8 n8 c8) M.dead):=(Y.o.block j aN).trans Hc.o;have R:=zW (Below w1.heap.size w1 WQ.drew) (Y.o.trans ⟨rfl,rfl,rfl,Nat.le_refl _,fun _ _=>rfl⟩);clear U;go_wp2_with fail;refine ost (fun w':World=>w'.heap[w1.heap.size]?=some (.cells #[.int .i64 (n2:Int),.int .i64 t2,.slice pg C cg] 82 (0,0))∧w'.heap[j]?=some (RJC r (b:Int) M.term gv pre M.now M.vote dv (.slice p8 n8 c8) M.dead)) 17 (⟨(ah:WQ.drew.heap[w1.heap.size]?=_),(ai:WQ.drew.heap[j]?=_)⟩) fun d=>?_;generalize WQ.drew=J at *;refine otc 0 (v:=(.bool true)) rfl (fun W f=>by skip;go_simp;try with_reducible rfl) ?_;simp only[uZ];refine otc 1 (v:=(.bool true)) rfl (fun W f=>by skip;go_simp;try with_reducible rfl) ?_;simp only[uZ];refine Pl [2,3,4] ?_;iterate 3 (refine Pd rfl (by intro w f;have p0:=zAd f.1;have p1:=zAn f.1;have p2:=zAo f.1;have q0:=zAd f.2;have q8:=zAG f.2 (i:=8) rfl;go_simp;try with_reducible rfl) ?_;simp only[uZ])
   refine Pn ?_;refine otc 5 (v:=(.bool true)) rfl (fun W f=>by skip;go_simp;try with_reducible rfl) ?_;simp only[uZ];refine otc 6 (v:=(.bool true)) rfl (fun W f=>by skip;go_simp;try with_reducible rfl) ?_;simp only[uZ];refine otc 7 (v:=(.bool true)) rfl (fun W f=>by skip;go_simp;try with_reducible rfl) ?_;simp only[uZ];refine Pl [8,9,10,11,12,13,14] ?_;iterate 7 (refine Pd rfl (by intro w f;have p0:=zAd f.1;have p1:=zAn f.1;have p2:=zAo f.1;have q0:=zAd f.2;have q8:=zAG f.2 (i:=8) rfl;go_simp;try with_reducible rfl) ?_;simp only[uZ])
   refine Pn ?_;refine otc 15 (v:=(.bool true)) rfl (fun W f=>by skip;go_simp;try with_reducible rfl) ?_;simp only[uZ];refine otc 16 (v:=(.bool true)) rfl (fun W f=>by skip;go_simp;try with_reducible rfl) ?_;simp only[uZ];refine odn ?_;have aF:=zW (∀W,Below J.drew.heap.size J.drew W→zAM W 4 (.slice pa m (c8-k)) m (zAz (M.entries.drop k) (vs.drop k))) fun W bi=>zAM.chg av.o (Chg.of_below ((R.o.trans ((⟨rfl,rfl,rfl,Nat.le_refl _,fun _ _=>rfl⟩:Below J.heap.size J J.drew).mono R.o.size)).trans (bi.mono R.o.size))) fun _ _=>id;have aD:=zW (Below w1.heap.size w1 J.drew) (R.o.trans ((⟨rfl,rfl,rfl,Nat.le_refl _,fun _ _=>rfl⟩:Below J.heap.size J J.drew).mono R.o.size));clear ah ai;go_wp2_with fail;refine zDX [25] (fun w':World=>w'.heap[w1.heap.size]?=some (.cells #[.int .i64 (n2:Int),.int .i64 t2,.slice pg C cg] 82 (0,0))∧w'.heap[j]?=some (RJC r (b:Int) M.term gv pre M.now M.vote dv (.slice p8 n8 c8) M.dead)) (n:=26) (by kernel_rfl) rfl (⟨(d.1:J.drew.heap[w1.heap.size]?=_),(d.2:J.drew.heap[j]?=_)⟩) fun d=>?_;generalize J.drew=W4 at *;refine Gl [0,2,3,4,5,6,7,8,9,10,11,12,13,14,15,16,17,18,19,20] ?_;iterate 20 (refine Gd rfl (by intro w f;have p0:=zAd f.1;have p1:=zAn f.1;have p2:=zAo f.1;have q0:=zAd f.2;have q8:=zAG f.2 (i:=8) rfl;go_simp;try with_reducible rfl) ?_;simp only[uZ])
   refine Gn ?_;refine zEz 21 (v:=.slice pa m (c8-k)) rfl (by kernel_rfl) (by kernel_rfl) (by kernel_rfl) (by kernel_rfl) (fun _ _ _ h=>h) (by rfl) (by assumption) (fun W f=>by have bu:=bg.o W;go_simp;try with_reducible rfl) ?_;simp only[uZ];refine zEP 1 rfl (by kernel_rfl) (by rfl) (fun K E=>?_);have N:=zh (zAC W4 (.cells #[] 50));have ac:=zh (And.intro ((N.o.block w1.heap.size (zAB d.1)).trans d.1) ((N.o.block j (zAB d.2)).trans d.2));have s:=zh d;go_wp2_with fail;refine E.o _ _ (ac.o) fun d=>?_;clear E;try simp only[uZ]
   refine zEP 22 rfl (by kernel_rfl) (by rfl) (fun K E=>?_);have T:=zh (zBC W4 50 4);have bh:=zh (aF.o _ N.o);refine zAq (.tmp 38) (.tmp 58) 78 rfl 50 i4 (.agg #[.int .i64 0,.int .i64 0,.slice none 0 0,.slice none 0 0]) 4 64 underlying78 ba be aC bf rfl (by decide) (.slice (some ⟨W4.heap.size,0,none⟩) 0 0) 0 [] rfl T.o (.slice pa m (c8-k)) m _ rfl bh.o aV.o (by unfold maxLen;omega) (by omega) ?_;intro v7 w7 af ar aA;have ag:=zh (zF4 af ar aA);have aw:=zh (And.intro ((ag.o.2.2.block w1.heap.size (zAB s.o.1)).trans s.o.1) ((ag.o.2.2.block j (zAB s.o.2)).trans s.o.2));clear af ar aA T;obtain⟨p7,c7,rfl⟩:=OwnR.shape ag.o.1;go_wp2_with fail;refine E.o _ _ (aw.o) fun d=>?_;clear E;try simp only[uZ]
   refine Gl [23,24] ?_;iterate 2 (refine Gp rfl ?_;simp only[uZ])
   refine Gn ?_;refine g_end 25 rfl (by kernel_rfl) (by rfl) (by kernel_rfl) (fun K E=>?_);have bz:=zAG aw.o.2 (i:=8) rfl;have f8:=zAE aw.o.2 8;go_wp2_with fail;refine E.o _ _ ?_;clear E;try simp only[uZ]
   refine zEy (by kernel_rfl) ?_ _;go_wp2_with fail;have aT:=zh (aD.o.trans (ag.o.2.2.mono aD.o.size));have HS:=zh (aU.o w7 aT.o p7 c7 (by rw[P];exact ag.o.1) fun y hy=>Nat.le_trans aD.o.size (ag.o.2.1 y hy));have l:=aw.o;have ak:=zh ((set_other (w:=w7) (a:=⟨j,8,none⟩) (.slice p7 m c7) (show w1.heap.size≠j by omega)).trans l.1);have ao:=zW ((w7.setCell ⟨j,8,none⟩ (.slice p7 m c7)).heap[j]?=some (RJC r (b:Int) M.term gv pre M.now M.vote dv (.slice p7 m c7) M.dead)) (by
    have h1:=zAD l.2 8 (.slice p7 m c7);simpa using h1)
   have am:=zW (zAM (w7.setCell ⟨j,8,none⟩ (.slice p7 m c7)) 1 (.slice pg C cg) C (g2.map (Value.int .i64))) (zAM.chg (zAM.chg Hg.o (Chg.of_below aT.o) fun _ _=>id) (Chg.setCell w7 ⟨j,8,none⟩ _) fun k hk=>aI.o k hk);clear l;generalize w7.setCell ⟨j,8,none⟩ (.slice p7 m c7)=I at *;have aa:=zW (I.drew.heap[j]?=some (RJC r (b:Int) M.term gv pre M.now M.vote dv (.slice p7 m c7) M.dead)) ao.o
  rotate_left
  focus
   have bm:((t:Int)==t2)=false:=by simpa using ax
   rw[if_neg (fun e=>by rw[ad]at e;exact ax (Option.some.inj e.2))]at P;subst P;rw[ad]at V;simp only[Option.getD_some,Option.isSome_some]at V;generalize aX:M.entries.length=n8 at *;generalize hb:M.number=b at *;go_enter func92,ntmps92;go_wp2_with fail;refine V.o.mono ?_;rintro e w2 ⟨rfl,q,rfl⟩;have X:=zh (au.o.trans (⟨rfl,rfl,rfl,Nat.le_refl _,fun _ _=>rfl⟩:Below w1.heap.size (w1.alloc (.cells #[.int .i64 (n2:Int),.int .i64 t2,.slice pg C cg] 82)) ((w1.alloc (.cells #[.int .i64 (n2:Int),.int .i64 t2,.slice pg C cg] 82)).drewN q)));have ap:=zh (aH.o _ X.o);go_wp2_with fail;refine ap.o.mono ?_;rintro e w3 ⟨rfl,q2,rfl⟩;generalize U:World.drewN (World.drewN _ _) _=WQ;have Y:=zW (Below w1.heap.size w1 WQ) (by rw[←U];exact X.o.trans ⟨rfl,rfl,rfl,Nat.le_refl _,fun _ _=>rfl⟩);have ah:WQ.heap[w1.heap.size]?=some (.cells #[.int .i64 (n2:Int),.int .i64 t2,.slice pg C cg] 82 (0,0)):=by rw[←U];exact aE.o
   have ai:WQ.heap[j]?=some (RJC r (b:Int) M.term gv pre M.now M.vote dv (.slice p8 n8 c8) M.dead):=(Y.o.block j aN).trans Hc.o;have R:=zW (Below w1.heap.size w1 WQ.drew) (Y.o.trans ⟨rfl,rfl,rfl,Nat.le_refl _,fun _ _=>rfl⟩);clear U;go_wp2_with fail;refine ost (fun w':World=>w'.heap[w1.heap.size]?=some (.cells #[.int .i64 (n2:Int),.int .i64 t2,.slice pg C cg] 82 (0,0))∧w'.heap[j]?=some (RJC r (b:Int) M.term gv pre M.now M.vote dv (.slice p8 n8 c8) M.dead)) 17 (⟨(ah:WQ.drew.heap[w1.heap.size]?=_),(ai:WQ.drew.heap[j]?=_)⟩) fun d=>?_;generalize WQ.drew=J at *;refine otc 0 (v:=(.bool true)) rfl (fun W f=>by skip;go_simp;try with_reducible rfl) ?_;simp only[uZ];refine otc 1 (v:=(.bool true)) rfl (fun W f=>by skip;go_simp;try with_reducible rfl) ?_;simp only[uZ];refine Pl [2,3,4] ?_;iterate 3 (refine Pd rfl (by intro w f;have p0:=zAd f.1;have p1:=zAn f.1;have p2:=zAo f.1;have q0:=zAd f.2;have q8:=zAG f.2 (i:=8) rfl;go_simp;try with_reducible rfl) ?_;simp only[uZ])
   refine Pn ?_;refine otc 5 (v:=(.bool false)) rfl (fun W f=>by skip;go_simp;try with_reducible rfl) ?_;simp only[uZ];refine otc 6 (v:=(.bool false)) rfl (fun W f=>by skip;go_simp;try with_reducible rfl) ?_;simp only[uZ];refine otc 7 (v:=(.bool false)) rfl (fun W f=>by skip;go_simp;try with_reducible rfl) ?_;simp only[uZ];refine Pl [8,9,10,11,12,13,14,15,16] ?_;iterate 9 ((first|refine Ps rfl ?_|refine Pd rfl (by intro w f;have p0:=zAd f.1;have p1:=zAn f.1;have p2:=zAo f.1;have q0:=zAd f.2;have q8:=zAG f.2 (i:=8) rfl;go_simp;try with_reducible rfl) ?_);simp only[uZ])
   refine Pn ?_;refine odn ?_;have l:=d;have aJ:=zAG d.2 (i:=8) rfl;have aK:=zAE d.2 8;go_wp2_with fail;have HS:=zh (ay.o J R.o);have ak:=zh ((set_other (w:=J) (a:=⟨j,8,none⟩) (.slice none 0 0) (show w1.heap.size≠j by omega)).trans l.1);have ao:=zW ((J.setCell ⟨j,8,none⟩ (.slice none 0 0)).heap[j]?=some (RJC r (b:Int) M.term gv pre M.now M.vote dv (.slice none 0 0) M.dead)) (by
    have h1:=zAD l.2 8 (.slice none 0 0);simpa using h1)
   have am:=zW (zAM (J.setCell ⟨j,8,none⟩ (.slice none 0 0)) 1 (.slice pg C cg) C (g2.map (Value.int .i64))) (zAM.chg (zAM.chg Hg.o (Chg.of_below R.o) fun _ _=>id) (Chg.setCell J ⟨j,8,none⟩ _) fun k hk=>aI.o k hk);clear aJ aK l d;generalize J.setCell ⟨j,8,none⟩ (.slice none 0 0)=I at *;have aa:=zW (I.drew.heap[j]?=some (RJC r (b:Int) M.term gv pre M.now M.vote dv (.slice none 0 0) M.dead)) ao.o
  all_goals
   have Q:=zh (⟨rfl,rfl,rfl,Nat.le_refl _,fun _ _=>rfl⟩:Below I.heap.size I I.drew);have Z:=zh (fun W (hb2:Below I.drew.heap.size I.drew W)=>zAM.chg (am.o) (Chg.of_below ((⟨rfl,rfl,rfl,Nat.le_refl _,fun _ _=>rfl⟩:Below I.heap.size I I.drew).trans hb2)) fun _ _=>id);refine ost (fun w':World=>w'.heap[w1.heap.size]?=some (.cells #[.int .i64 (n2:Int),.int .i64 t2,.slice pg C cg] 82 (0,0))) 13 ((ak.o:I.drew.heap[w1.heap.size]?=_)) fun d=>?_;generalize I.drew=W6 at *;refine Pl [0,1,2,3,4,6,7] ?_;iterate 7 (refine Pd rfl (by intro w f;have p0:=zAd f;have p1:=zAn f;have p2:=zAo f;go_simp;try with_reducible rfl) ?_;simp only[uZ])
   refine Pn ?_;refine oon 5 rfl fun K E=>?_;have N:=zh (zAC W6 (.cells #[] 3));have ac:=zh ((N.o.block w1.heap.size (zAB d)).trans d);have s:=zh d;go_wp2_with fail;refine E.o _ _ (ac.o) fun d=>?_;clear E;try simp only[uZ]
   refine oon 8 rfl fun K E=>?_;have T:=zh (zBH W6 3);have ab:=zh (Z.o _ N.o);refine zAq (.tmp 70) (.tmp 72) 38 rfl 3 i0 (.int .i64 0) 1 8 underlying38 hi aQ aR aS rfl (by decide) (.slice (some ⟨W6.heap.size,0,none⟩) 0 0) 0 [] rfl T.o (.slice pg C cg) C _ rfl ab.o (fun u hu=>by obtain⟨z,-,rfl⟩:=List.mem_map.1 hu;rfl) (by unfold maxLen;omega) (by omega) ?_;intro v9 w9 G A F;have S:=zh (zEr G A F);have an:=zh ((S.o.2.2.block w1.heap.size (zAB s.o)).trans s.o);clear G A F T ab;obtain⟨p9,c9,rfl⟩:=OwnR.shape S.o.1;refine E.o _ _ (an.o) fun d=>?_;clear E;try simp only[uZ]
   refine Pl [9,10,11] ?_;iterate 3 (refine Pc rfl ?_;simp only[uZ])
   refine Pn ?_;refine oon 12 rfl fun K E=>?_;have B:=zh ((S.o.2.2.block j (zAB aa.o)).trans aa.o);have s0:=zAd B.o;have s1:=zAn B.o;have s2:=zAo B.o;have f0:=zAE B.o 0;have f1:=zAE B.o 1;have f2:=zAE B.o 2;have al:=zh ((set_other (w:=(w9.setCell ⟨j,0,none⟩ (.int .i64 (n2:Int))).setCell ⟨j,1,none⟩ (.int .i64 t2)) (a:=⟨j,2,none⟩) (.slice p9 C c9) (show w1.heap.size≠j by omega)).trans ((set_other (w:=w9.setCell ⟨j,0,none⟩ (.int .i64 (n2:Int))) (a:=⟨j,1,none⟩) (.int .i64 t2) (show w1.heap.size≠j by omega)).trans ((set_other (w:=w9) (a:=⟨j,0,none⟩) (.int .i64 (n2:Int)) (show w1.heap.size≠j by omega)).trans d)));go_wp2_with fail;refine E.o _ _ (al.o) fun d=>?_;clear E;try simp only[uZ]
   refine odn ?_;have HE:=zh (HS.o.trans fun az aj hF=>rj_base hF (Q.o.trans (S.o.2.2.mono Q.o.size)) (show zBg w9 (.slice p9 C c9) g2 by unfold zBg;rw[aG.o];exact OwnR.holds S.o.1) (fun k hk=>⟨Nat.le_trans Q.o.size (S.o.2.1 k hk),OwnR.lt S.o.1 hk⟩) aq.o);go_wp2_with fail;go_end0;first
    | exact⟨rfl,HE.o⟩
    | (have h9:=HE.o;rw[P]at h9;exact⟨rfl,h9⟩)
end
section
variable {w:World} {r:Nat} {v:Value} {L:List zAR} {own:Nat→Prop} {D:zAA}
theorem rsave_calls (h:zAf w r v L own D)(s:ByteArray)(F:s.size≤9223372036854775000){p:Option Addr}{m c:Nat}{l:Bs}(y:zAY w (.slice p m c) l)(E:l.length≤1048576) :
  Calls prog 138 #[.pointer (some ⟨r,0,none⟩),.string s,.slice p m c] w (zCn w r own (D.save (nm s) l)):=by
 have j:(nm s).length=s.size:=nm_len s
 by_cases b:(nm s).length<1∨60<(nm s).length
 ·have g:D.save (nm s) l=(D,1):=by unfold zAA.save;rw[if_pos b]
  rw[g];have d:=zh (zBY h (Below.refl _ _) 1);rw[j]at b;generalize R:s.size=z at *;clear g h y;have O:(decide ((z:Int)<1)||decide (60<(z:Int)))=true:=by simp;omega
  by_cases G:z<1
  ·have a:z=0:=by omega
   subst a
   go_enter func138,ntmps138
   go_wp2_with fail;go_ret;exact d.o
  ·have Q:60<z:=by omega
   go_enter func138,ntmps138
   go_wp2_with fail;go_ret;exact d.o
 ·have g:D.save (nm s) l=D.save1 (nm s) (zAK l):=by unfold zAA.save;rw[if_neg b]
  rw[g];have I:=zh (renc_calls y E);have A:=zh h;have J:=zh F;rw[j]at b;generalize G:s.size=z at *;have N:=zh G;have i:(zAK l).length≤140737488355328:=by rw[zAe];omega
  have q:=zh i;clear g h y E F i
  go_enter func138,ntmps138
  go_wp2_with fail;refine I.o.mono ?_;rintro e w2 ⟨v2,rfl,n,f,t⟩;obtain⟨W,S,rfl⟩:=n.slice;have M:=zh ((rwhole_calls (A.o.below t) s (by rw[N.o];exact J.o) n.has q.o (fun k C=>⟨fun P=>by have U:=f k C;have V:=A.o.olt k P;omega,OwnR.lt n C⟩)).mono fun e w' h=>rstep_below t h);clear n f t;go_wp2_with fail;refine M.o.mono ?_;intro e w3 B;have H:=zh B;obtain⟨rfl,-⟩:=B;generalize (D.save1 (nm s) (zAK l)).2=T at *;go_wp2_with fail;go_ret;exact H.o
end
end Go.Proofs.YtapfnehdgailmaaGreat
