/- What the program's functions and the document's do, and plain laws, for PJournalPlays. -/
import Derived.Test.YtapfnehdgailmaaGreatJB
import Derived.Test.YtapfnehdgailmaaGreatJI
open Go.Proofs.Tryz
set_option maxRecDepth 100000
set_option maxHeartbeats 64000000
namespace Go.Proofs.YtapfnehdgailmaaGreat
open Go.RowKit Go.Sat Go.Maps
theorem rowsIn_keep {w w':World}{v:Value}{vs:List Value}{ls:List Bs}(h:zBT w v vs ls)(d:∀k,(v.ownBlock=some k∨∃u∈vs,u.ownBlock=some k)→w'.heap[k]?=w.heap[k]?):zBT w' v vs ls :=
 ⟨h.row.keep fun k c=>d k (.inl c),fun i u b f g=>OwnR.keep (h.has i u b f g) fun k c=>d k (.inr ⟨u,List.mem_of_getElem? f,c⟩),h.sep⟩
def FR (F:Nat→Prop)(v:Value)(vs:List Value)(k:Nat):Prop:=F k∨v.ownBlock=some k∨∃u∈vs,u.ownBlock=some k
theorem zEj.two {w W:World}{g d:Value}{q r:Bs}(o:Below w.heap.size w W)(m:zAi W 5 g q)(s:∀k,g.ownBlock=some k→w.heap.size≤k)(n:zAi W 5 d r)(n2:∀k,d.ownBlock=some k→w.heap.size≤k) :
  zEj w (W.alloc (.cells #[g,d] 22)) (.slice (some ⟨W.heap.size,0,none⟩) 2 2) [g,d] [q,r]:=by
 have l:=zAD W (.cells #[g,d] 22);have p:=o.size;refine⟨⟨⟨rfl,.inr ⟨W.heap.size,2,#[g,d],rfl,zAI W _,Nat.le_refl _,by decide,Nat.le_refl _,rfl⟩⟩,fun i u b c j=>?_,fun u c k f e=>?_⟩,⟨fun k f=>?_,fun u c k f=>?_⟩,o.trans (l.mono p)⟩
 ·match i,c,j with
  | 0,c,j=>cases c;cases j;exact zCD m l
  | 1,c,j=>cases c;cases j;exact zCD n l
 ·obtain rfl:W.heap.size=k:=Option.some.inj e;rcases List.mem_cons.1 c with rfl|c
  ·have:=OwnR.lt m f;omega
  ·obtain rfl:u=d:=by simpa using c
   have:=OwnR.lt n f;omega
 ·cases f;exact p
 ·rcases List.mem_cons.1 c with rfl|c
  ·exact s k f
  ·obtain rfl:u=d:=by simpa using c
   exact n2 k f
section
variable {w w1 w2:World} {j d:Nat} {pre:ByteArray} {D:zAA} {M:zAJ} {F:Nat→Prop}
theorem jou_read (h:zAk w w1 j d pre D M F)(s:ByteArray)(c:s.size≤9223372036854775807) :
  Calls prog 75 #[.pointer (some ⟨d,0,none⟩),.string s] w1 fun e w'=>∃v,e=.returned (.tuple #[v,.int .i64 (zDZ (Sat.get (nm s) D.files))])∧zAi w' 5 v (zCj (Sat.get (nm s) D.files))∧(∀k,v.ownBlock=some k→w1.heap.size≤k)∧Below w1.heap.size w1 w':=by
 refine(st_read h.st s c).mono ?_;rintro e w' ⟨v,rfl,f,hn,b,-⟩;exact⟨v,rfl,f,hn,b⟩
theorem jou_rename (h:zAk w w1 j d pre D M F)(o s:ByteArray)(b:o.size≤9223372036854775807)(c:s.size≤9223372036854775807) :
  Calls prog 160 #[.pointer (some ⟨d,0,none⟩),.string o,.string s] w1 fun e w'=>e=.returned (.int .i64 ((D.rename (nm o) (nm s)).2:Int))∧zAk w w' j d pre (D.rename (nm o) (nm s)).1 M F∧Same F w1 w'∧w'.heap[j]?=w1.heap[j]? :=
 zFN h (Below.refl _ _) fun _ hS=>st_rename hS o s b c
theorem FR_more (h:zAk w w1 j d pre D M F){v:Value}{vs:List Value}{ls:List Bs}(f:zEj w1 w2 v vs ls):zAk w w2 j d pre D M (FR F v vs) :=
 h.more f.bel fun k b=>by
  rcases b with b|b|⟨u,g,b⟩
  ·exact .inl b
  ·exact .inr ⟨f.new.1 k b,OwnR.lt f.rows.row b⟩
  ·obtain⟨c,i⟩:=mem_rows f.rows g;exact .inr ⟨f.new.2 u g k b,OwnR.lt i b⟩
def zCB (w w1:World)(j d:Nat)(pre:ByteArray)(M:zAJ)(F:Nat→Prop)(r:zAA×Nat)(e:Ending)(w':World):Prop :=
 e=.returned (.int .i64 (r.2:Int))∧zAk w w' j d pre r.1 M F∧Same F w1 w'
theorem rows_rows {M:zAJ}(h:M.OK):(∀l∈M.rows,l.length≤65800)∧M.rows.length=M.entries.length+2:=by
 have c:=h.last;unfold zAJ.last at c;have i:=(zEP h.group).2;refine⟨fun l b=>?_,?_⟩
 ·unfold zAJ.rows at b;rcases List.mem_cons.1 b with rfl|b
  ·unfold zFJ;simp only[List.length_cons,List.length_append];have d:=zAh (n:=M.number) (by omega);have f:=zBJ M.term;have g:=zFL M.group (by omega);omega
  ·rcases List.mem_cons.1 b with rfl|b
   ·exact Nat.le_trans (zEf _ _) (by decide)
   ·exact zDK _ _ h.ents (by omega) l b
 ·unfold zAJ.rows;simp[zCX]
theorem zDF (h:zAk w w1 j d pre D M F)(hm:M.entries.length≤1000000) :
  Calls prog 80 #[.pointer (some ⟨j,0,none⟩)] w1 (zCB w w1 j d pre M F (zAT D (nm pre) M)):=by
 obtain⟨i0,hi,cg,ch,ci⟩:=info_parts (show(prog.info? 22).map (fun i=>(i.zero,i.size,i.bytes))=some (some (.slice none 0 0),1,24) by kernel_rfl);have cs:=h.psz;have N:(zCN pre).size=pre.size+4:=zFT pre;have aj:=h.okM;have bm:=aj.last;have ck:=zAs.1 aj.now;have cf:=aj.vote;have ad:=zh (rows_rows aj);have S:=zh (zDl (c:=65800) M.rows (rows_rows aj).1);have bh:=zh aj.ents;have bO:=zh (jfirst_calls (h.next (zAP w1)));have bU:=zh (fun W=>zGO W M.now M.vote (by omega) (by omega));obtain⟨own,gv,dv,ev,vs,hJ,hS,hn,hl⟩:=id h;have HJ:=zh hJ;have c0:=hJ.c 0 rfl;have c3:=hJ.c 3 rfl;have c4:=hJ.c 4 rfl;have c5:=hJ.c 5 rfl;have c6:=hJ.c 6 rfl;have c8:=hJ.c 8 rfl;obtain⟨cw,cp,bl⟩:=hJ.row.shape;rw[bl]at c8;have bN:=zh bl;have H:=zh h;unfold zAJ.last at bm;clear h hJ hS hn hl aj bl;generalize bB:M.entries.length=n at *;have bg:=zh bB;generalize aW:M.number=b at *;have bv:=zh aW;clear bB aW
 go_enter func80,ntmps80
 go_wp2_with fail;refine ost (fun w':World=>w'.cell? ⟨j,5,none⟩=some (.int .i64 M.now)∧w'.cell? ⟨j,6,none⟩=some (.int .i64 M.vote)) 13 (⟨c5,c6⟩) fun m=>?_;refine Pl [0,2,3,4,5,6,7,8,9] ?_
 iterate 9 (refine Pc rfl ?_;simp only[uZ])
 refine Pn ?_;refine oon 1 rfl fun K q=>?_;go_wp2_with fail;refine bO.o.mono ?_;rintro e w3 ⟨u1,rfl,bo,bD,p⟩;have aX:=zh ((zAP w1).trans p);have bP:=zh (And.intro (zAH m.1 p) (zAH m.2 p));have bs:=zh (And.intro bo (show ∀x,u1.ownBlock=some x→w1.heap.size≤x from bD));obtain⟨p1,q1,rfl,-⟩:=zAL bo;clear bo bD p;go_wp2_with fail;refine q.o _ _ (bP.o) fun m=>?_;clear q
 try simp only[uZ]
 refine oon 10 rfl fun K q=>?_;go_wp2_with fail;refine(bU.o w3).mono ?_;rintro e w4 ⟨u2,rfl,bp,bE,ay⟩;have bJ:=zh (aX.o.trans (ay.mono aX.o.size));have bQ:=zh (And.intro (zAH m.1 ay) (zAH m.2 ay));have bb:=zh (And.intro (zCD bs.o.1 ay) (And.intro bp (show ∀x,u2.ownBlock=some x→w1.heap.size≤x from fun x s=>Nat.le_trans aX.o.size (bE x s))));obtain⟨p2,q2,rfl,-⟩:=zAL bp;clear bp bE ay;go_wp2_with fail;refine q.o _ _ (bQ.o) fun m=>?_;clear q
 try simp only[uZ]
 refine oon 11 rfl fun K q=>?_;have bR:=zh (And.intro (zBQ m.1 (.cells #[.slice p1 (zFJ b M.term M.group).length q1,.slice p2 (zCU M.now M.vote).length q2] 22)) (zBQ m.2 (.cells #[.slice p1 (zFJ b M.term M.group).length q1,.slice p2 (zCU M.now M.vote).length q2] 22)));go_wp2_with fail;refine q.o _ _ (bR.o) fun m=>?_;clear q
 try simp only[uZ]
 refine otk 12 (v:=?v1x12) rfl ?_;simp only[uZ];refine odn ?_;have aH:=zEj.two bJ.o bb.o.1 bs.o.2 bb.o.2.1 bb.o.2.2;have bT:=zW ([zFJ b M.term M.group,zCU M.now M.vote]++zA7 b M.entries=M.rows) (by rw[←bv.o];rfl);generalize bY:w4.alloc (.cells #[.slice p1 (zFJ b M.term M.group).length q1,.slice p2 (zCU M.now M.vote).length q2] 22)=W0 at *;have bK:=zh aH;have c8:=zAH c8 aH.bel;clear aH bY;go_wp2_with fail
 go_loopw [3,29] (fun x i wr=>∃(k:Nat) (Q:List Value) (xv:Value),k≤n∧i=.int .i64 k∧xv=x∧zEj w1 wr xv Q ([zFJ b M.term M.group,zCU M.now M.vote]++zA7 b (M.entries.take k))) (fun _ i _=>n-(intOf i).toNat)
 case atStart=>exact⟨0,_,_,Nat.zero_le _,rfl,rfl,bK.o⟩
 case round =>
  obtain⟨k,Q,xv,hk,rfl,rfl,t⟩:=hrel
  by_cases cc:k<n
  ·have aT:k<M.entries.length:=by rw[bg.o];exact cc
   obtain⟨g,c,v,aA,-,aQ,k0,k1,k2,k3⟩:=HJ.o.ent (List.getElem?_eq_getElem aT);rw[bN.o]at aA;simp only[Value.slice.injEq]at aA;obtain⟨rfl,-,rfl⟩:=aA;have bL:=zh (zFG (n:=b) aT);have aS:=bh.o _ (List.getElem_mem aT);have hf:=zBF aS;generalize M.entries[k]=e at *;have V:=aQ.has (by omega) (by omega);obtain⟨pe,ce,L,-⟩:=zAL aQ.data;obtain⟨pn,cn,P,-⟩:=zAw aQ.nodes;obtain⟨v1,v2⟩:=v;have bW:v1=.slice pe e.data.length ce:=L;have bX:v2=.slice pn e.nodes.length cn:=P;subst bW;subst bX;have k0:=zAH k0 t.bel;have k1:=zAH k1 t.bel;have k2:wr.cell? ⟨g,k*4+2,none⟩=some (.slice pe e.data.length ce):=zAH k2 t.bel;have k3:wr.cell? ⟨g,k*4+3,none⟩=some (.slice pn e.nodes.length cn):=zAH k3 t.bel;have bV:=zAH c0 t.bel;have cj:=zh V;have co:=zh aS;have ap:=zh t;have cq:=V.dl;have cr:=V.nl;have ct:IntKind.i64.wrap ((b:Int)+1)=(b:Int)+1:=IntWalk.i64_in _ (by omega);have cu:IntKind.i64.wrap ((b:Int)+1+(k:Int))=(b:Int)+1+(k:Int):=IntWalk.i64_in _ (by omega);have bM:=zh (fun W (hb:Below w1.heap.size w1 W)=>show Calls prog 100 #[.int .i64 ((b:Int)+1+(k:Int)),.agg #[.int .i64 e.term,.int .i64 e.kind,.slice pe e.data.length ce,.slice pn e.nodes.length cn]] W (zBX W (zEp (b+k+1) e)) by
    have:=entRec_calls (b+k+1) (by omega) (V.below hb) aS;rwa[show((b+k+1:Nat):Int)=(b:Int)+1+(k:Int) by omega]at this)
   have bt:=zW (([zFJ b M.term M.group,zCU M.now M.vote]++zA7 b (M.entries.take k)).length=k+2) (by rw[List.length_append,zCX,List.length_take,bg.o,Nat.min_eq_left (by omega)];simp;omega);clear aT aQ L P V aS hf t;go_wp2_with fail;refine ost (fun w':World=>w'.cell? ⟨j,0,none⟩=some (.int .i64 (b:Int))∧w'.heap[wr.heap.size]?=some (.cells #[.int .i64 e.term,.int .i64 e.kind,.slice pe e.data.length ce,.slice pn e.nodes.length cn] 50 (0,0))) 14 (⟨zBQ bV _,zAI wr _⟩) fun m=>?_;have aL:=zW (Below wr.heap.size wr (wr.alloc (.cells #[.int .i64 e.term,.int .i64 e.kind,.slice pe e.data.length ce,.slice pn e.nodes.length cn] 50)).drew) ((zAD wr _).trans ⟨rfl,rfl,rfl,by simp,fun _ _=>rfl⟩);generalize (wr.alloc (.cells #[.int .i64 e.term,.int .i64 e.kind,.slice pe e.data.length ce,.slice pn e.nodes.length cn] 50)).drew=W1 at *;refine Pl [0,1,2,3,4,5,6,7,8] ?_
   iterate 9 (refine Pc rfl ?_;simp only[uZ])
   refine Pn ?_;refine otc 9 (v:=.agg #[.int .i64 e.term,.int .i64 e.kind,.slice pe e.data.length ce,.slice pn e.nodes.length cn]) rfl (fun W aP=>by have q0:=zAU aP.2;have q1:=zAY aP.2;have q2:=zAX aP.2;have q3:=zAf aP.2;go_simp;try with_reducible rfl) ?_;simp only[uZ];refine oon 10 rfl fun K q=>?_;go_wp2_with fail;refine(bM.o W1 (ap.o.bel.trans (aL.o.mono ap.o.bel.size))).mono ?_;rintro r w9 ⟨y,rfl,hy,bI,aR⟩;have bq:=zh (aL.o.trans (aR.mono aL.o.size));have bS:=zh (And.intro (zAH m.1 aR) ((aR.block _ (zAB m.2)).trans m.2));have HY:=zh (And.intro hy (show ∀z,y.ownBlock=some z→wr.heap.size≤z from fun z hz=>Nat.le_trans aL.o.size (bI z hz)));obtain⟨py,cy,rfl,-⟩:=zAL hy;clear hy bI aR;generalize bH:(zEp (b+k+1) e).length=yl at *;have cm:=zh bH;clear bH;go_wp2_with fail;refine q.o _ _ (bS.o) fun m=>?_;clear q
   try simp only[uZ]
   refine oon 11 rfl fun K q=>?_;have bu:=zh (And.intro (zBQ m.1 (.cells #[.slice py yl cy] 22)) ((zC8 _ (.cells #[.slice py yl cy] 22) (zAB m.2)).trans m.2));go_wp2_with fail;refine q.o _ _ (bu.o) fun m=>?_;clear q
   try simp only[uZ]
   refine oon 12 rfl fun K q=>?_;have A:=(ap.o.next bq.o).rows.row;rw[bt.o]at A;have bA:=A.keep (w':=w9.alloc (.cells #[.slice py yl cy] 22)) (fun z hz=>(zAv w9 _).block z (OwnR.lt A hz));have bG:=zDG w9 (.slice py yl cy) 22 (0,0);refine zAm (.tmp 34) (.tmp 45) 108 rfl 22 i0 (.slice none 0 0) 1 24 underlying108 hi cg ch ci rfl (by decide) xv (k+2) _ rfl bA (.slice (some ⟨w9.heap.size,0,none⟩) 1 1) 1 _ rfl bG (by simp[Value.oneCell']) (by unfold maxLen;omega) (by omega) ?_;intro v3 w3 ak B aG;have HE:=zh (zEj.push ap.o bq.o HY.o.1 HY.o.2 (by rw[bt.o];exact ak) B aG);have az:∀x,xv.ownBlock=some x→w1.heap.size≤x∧x<wr.heap.size:=fun x s=>⟨ap.o.new.1 x s,OwnR.lt ap.o.rows.row s⟩;have ca:w3.cell? ⟨j,0,none⟩=some (.int .i64 (b:Int)):=(World.cell?_of_block (a:=⟨j,0,none⟩) (B.block j (World.block_lt_of_cell? _ ⟨j,0,none⟩ m.1) fun e=>by have h1:=(az j e.symm).1;have h2:=World.block_lt_of_cell? w1 ⟨j,0,none⟩ c0;have h3:j<w1.heap.size:=h2;omega)).trans m.1;have bZ:w3.heap[wr.heap.size]?=some (.cells #[.int .i64 e.term,.int .i64 e.kind,.slice pe e.data.length ce,.slice pn e.nodes.length cn] 50 (0,0)):=(B.block _ (zAB m.2) fun e=>by have:=(az _ e.symm).2;omega).trans m.2;obtain⟨p3,q3,rfl⟩:=OwnR.shape ak;clear A bA bG ak B aG az;refine q.o _ _ ⟨ca,bZ⟩ fun m=>?_;clear q
   try simp only[uZ]
   refine otk 13 (v:=?v5x13) rfl ?_;simp only[uZ];refine odn ?_;go_wp2_with fail;go_roundw
   case rel=>exact⟨k+1,Q++[.slice py yl cy],_,by omega,by go_num,rfl,by rw[bL.o,←List.append_assoc];exact HE.o⟩
   case measure=>simp[intOf];omega
  ·have cb:k=n:=by omega
   have bC:M.entries.take k=M.entries:=List.take_of_length_le (by rw[bg.o];omega);rw[bC,bT.o]at t;have A:=t.rows.row;rw[ad.o.2]at A;obtain⟨X,U,rfl⟩:=A.shape;have R:=zh (FR_more H.o t);have br:=zh t.rows;have ae:=zh (H.o.same t.bel);have ao:=zh (jou_read R.o (zBN (zCN pre)) (by rw[zCF,N];omega));rw[zEh,zBq]at ao;have c3:=R.o.jc.1;have c4:=R.o.jc.2.1;have cd:(zBN (zCN pre)).size≤9223372036854775807:=by rw[zCF,N];omega
   have cl:=zW (Same (FR F (.slice X (n+2) U) Q) wr wr) fun _ _=>rfl;clear t A bC cb c0 c5 c6 c8;cases hg:Sat.get (zAF (zAu (nm pre))) D.files with
   | none =>
    have h0:D.save0 (zAu (nm pre))=(D,0):=by unfold zAA.save0;rw[hg];rfl
    have bc:=zh (fun D1 L (h1:D.append (zAF (zAu (nm pre))) (zAS M.rows)=(D1,L)) (he:L≠0)=>(save1_app h0 h1 he:zAT D (nm pre) M=_));have be:=zh (fun D1 D2 P (h1:D.append (zAF (zAu (nm pre))) (zAS M.rows)=(D1,0)) (h2:D1.sync [zAF (zAu (nm pre))]=(D2,P)) (he:P≠0)=>(save1_syn h0 h1 h2 he:zAT D (nm pre) M=_));have bd:=zh (fun D1 D2 (h1:D.append (zAF (zAu (nm pre))) (zAS M.rows)=(D1,0)) (h2:D1.sync [zAF (zAu (nm pre))]=(D2,0))=>(save1_ren h0 h1 h2:zAT D (nm pre) M=_));have bF:zDZ (none:Option zAW)=7:=rfl;rw[hg,bF]at ao;clear hg h0 bF;go_wp2_with fail;refine ao.o.mono ?_;rintro e w3 ⟨v3,rfl,-,-,p⟩;have am:=zh (R.o.next p);have an:=zW (Same (FR F (.slice X (n+2) U) Q) wr w3) (R.o.same p);clear p c3 c4;have c3:=am.o.jc.1;cases af:zAA.append D (zAF (zAu (nm pre))) (zAS M.rows)with
    | mk D1 L =>
     have bf:=zh (fun W (hb:Below (w3).heap.size (w3) W) x (s:zBE W x [zAS M.rows])=>show Calls prog 15 #[.pointer (some ⟨d,0,none⟩),.string (zBN (zCN pre)),x] W fun e w'=>e=.returned (.int .i64 (L:Int))∧zAk w w' j d pre D1 M (FR F (.slice X (n+2) U) Q)∧Same (FR F (.slice X (n+2) U) Q) (w3) w'∧w'.heap[j]?=(w3).heap[j]? by
      have:=jou_append am.o hb (zBN (zCN pre)) x [zAS M.rows] s (by simp) (by simp;have:=S.o;have:=ad.o.2;omega) (by rw[zCF,N];omega);rw[show [zAS M.rows].flatten=zAS M.rows by simp,zEh,zBq,af]at this;exact this)
     have av:=zh (fun W (hb:Below (w3).heap.size (w3) W)=>zEu (zBT.at ((rowsIn_keep br.o fun x s=>an.o x (.inr s)).below hb)) (by omega) (fun l hl=>Nat.le_trans (ad.o.1 l hl) (by decide)) (by have:=S.o;have:=ad.o.2;omega));have Y:=zh af;clear af;go_wp2_with fail;refine ost (fun w':World=>w'.cell? ⟨j,3,none⟩=some (.pointer (some ⟨d,0,none⟩))) 11 (c3) fun m=>?_;refine Pl [0,1,2,3,4,5,6] ?_
     iterate 7 (refine Pc rfl ?_;simp only[uZ])
     refine Pn ?_;refine oon 7 rfl fun K q=>?_;have Z:=zh (zAP (w3));go_wp2_with fail;refine(av.o _ Z.o).mono ?_;rintro e wf ⟨v,rfl,hv,-,ag⟩;have aa:=zh (Z.o.trans ag);have bj:=zh (zAH m ag);have HV:=zh (zAi.has hv);obtain⟨pv,cv,rfl,-⟩:=zAL hv;clear hv ag av;go_wp2_with fail;refine q.o _ _ (bj.o) fun m=>?_;clear q
     try simp only[uZ]
     refine oon 8 rfl fun K q=>?_;have bi:=zh (zBQ m (.cells #[.slice pv (zAS M.rows).length cv] 22));go_wp2_with fail;refine q.o _ _ (bi.o) fun m=>?_;clear q
     try simp only[uZ]
     refine oon 9 rfl fun K q=>?_;have au:=zh (bf.o _ (aa.o.trans ((zAD wf (.cells #[.slice pv (zAS M.rows).length cv] 22)).mono aa.o.size)) _ (zCE HV.o 22 (0,0) wf.heap.size 1 rfl (Nat.le_refl _)));go_wp2_with fail;refine au.o.mono ?_;rintro e wa ⟨rfl,aE,aJ,aB⟩;have ar:=zh aE;have ab:=zh (an.o.trans aJ);have aw:=zh ((World.cell?_of_block (a:=⟨j,3,none⟩) aB).trans c3);clear aE aJ aB au;go_wp2_with fail;refine q.o _ _ (aw.o) fun m=>?_;clear q
     try simp only[uZ]
     refine otk 10 (v:=?v13x10) rfl ?_;simp only[uZ];refine odn ?_;clear HV aa Z;have c3:wa.cell? ⟨j,3,none⟩=some (.pointer (some ⟨d,0,none⟩)):=aw.o
     by_cases ah:L=0
     ·subst ah;cases I:D1.sync [zAF (zAu (nm pre))]with
      | mk D2 P =>
       have J:=jou_sync ar.o (zBN (zCN pre)) (by rw[zCF,N];omega);rw[zEh,zBq,I]at J;have T:=zh J;clear J
       by_cases ai:P=0
       ·subst ai;cases al:D2.rename (zAF (zAu (nm pre))) (zAu (nm pre))with
        | mk D3 e3 =>
         have O:=zW (zAT D (nm pre) M=(D3,e3)) ((bd.o D1 D2 Y.o I).trans al);have ax:=zh (fun W (h:zAk w W j d pre D2 M (FR F (.slice X (n+2) U) Q))=>show Calls prog 160 #[.pointer (some ⟨d,0,none⟩),.string (zBN (zCN pre)),.string (zCN pre)] W fun e w'=>e=.returned (.int .i64 (e3:Int))∧zAk w w' j d pre D3 M (FR F (.slice X (n+2) U) Q)∧Same (FR F (.slice X (n+2) U) Q) W w'∧w'.heap[j]?=W.heap[j]? by
          have:=jou_rename h (zBN (zCN pre)) (zCN pre) (by rw[zCF,N];omega) (by rw[N];omega);rw[zEh,zBq,al]at this;exact this)
         clear I al;go_wp2_with fail;refine T.o.mono ?_;rintro e wb ⟨rfl,E,G,aC⟩;have ac:=zh (ab.o.trans G);have aO:wb.cell? ⟨j,3,none⟩=some (.pointer (some ⟨d,0,none⟩)):=(World.cell?_of_block (a:=⟨j,3,none⟩) aC).trans c3;have C:=zh (ax.o wb E);clear E G aC T ax;go_wp2_with fail;refine C.o.mono ?_;rintro e wc ⟨rfl,aF,aK,-⟩;have aZ:=zh aF;have ba:=zh (ac.o.trans aK);clear aF aK C;have HE:=zW (zCB w w1 j d pre M F (zAT D (nm pre) M) (.returned (.int .i64 (e3:Int))) _) (⟨by rw[O.o],by rw[O.o];exact aZ.o.less fun _ h=>.inl h,fun x s=>(ba.o x (.inl s)).trans (ae.o x s)⟩);go_wp2_with fail;go_ret;exact HE.o
       ·have O:=zW (zAT D (nm pre) M=(D2,P)) (be.o D1 D2 P Y.o I ai);have aU:((P:Int) != 0)=true:=by simp;omega
        clear I ai;go_wp2_with fail;refine T.o.mono ?_;rintro e wb ⟨rfl,E,G,-⟩;have aY:=zh E;have ac:=zh (ab.o.trans G);clear E G T;have HE:=zW (zCB w w1 j d pre M F (zAT D (nm pre) M) (.returned (.int .i64 (P:Int))) _) (⟨by rw[O.o],by rw[O.o];exact aY.o.less fun _ h=>.inl h,fun x s=>(ac.o x (.inl s)).trans (ae.o x s)⟩);go_wp2_with fail;go_ret;exact HE.o
     ·have O:=zW (zAT D (nm pre) M=(D1,L)) (bc.o D1 L Y.o ah);have aU:((L:Int) != 0)=true:=by simp;omega
      clear ah;have HE:=zW (zCB w w1 j d pre M F (zAT D (nm pre) M) (.returned (.int .i64 (L:Int))) _) (⟨by rw[O.o],by rw[O.o];exact ar.o.less fun _ h=>.inl h,fun x s=>(ab.o x (.inl s)).trans (ae.o x s)⟩);go_wp2_with fail;go_ret;exact HE.o
   | some f =>
    cases aV:D.remove [zAF (zAu (nm pre))]with
    | mk D0 e0 =>
     have aq:D.save0 (zAu (nm pre))=(D0,e0):=by unfold zAA.save0;rw[hg];exact aV
     have bw:=zh (fun W (h:zAk w W j d pre D M (FR F (.slice X (n+2) U) Q))=>show Calls prog 76 #[.pointer (some ⟨d,0,none⟩),.slice (some ⟨W.heap.size,0,none⟩) 1 1] (W.alloc (.cells #[.string (zBN (zCN pre))] 9)) fun e w'=>e=.returned (.int .i64 (e0:Int))∧zAk w w' j d pre D0 M (FR F (.slice X (n+2) U) Q)∧Same (FR F (.slice X (n+2) U) Q) W w'∧w'.heap[j]?=W.heap[j]? by
      have:=jou_remove h (zBN (zCN pre)) cd;rw[zEh,zBq,aV]at this;exact this)
     have bn:zDZ (some f)=0:=rfl;rw[hg,bn]at ao
     by_cases bk:e0=0
     ·subst bk;have bc:=zh (fun D1 L (h1:D0.append (zAF (zAu (nm pre))) (zAS M.rows)=(D1,L)) (he:L≠0)=>(save1_app aq h1 he:zAT D (nm pre) M=_));have be:=zh (fun D1 D2 P (h1:D0.append (zAF (zAu (nm pre))) (zAS M.rows)=(D1,0)) (h2:D1.sync [zAF (zAu (nm pre))]=(D2,P)) (he:P≠0)=>(save1_syn aq h1 h2 he:zAT D (nm pre) M=_));have bd:=zh (fun D1 D2 (h1:D0.append (zAF (zAu (nm pre))) (zAS M.rows)=(D1,0)) (h2:D1.sync [zAF (zAu (nm pre))]=(D2,0))=>(save1_ren aq h1 h2:zAT D (nm pre) M=_));clear hg aV aq bn;go_wp2_with fail;refine ao.o.mono ?_;rintro e w3 ⟨v3,rfl,-,-,p⟩;have am:=zh (R.o.next p);have an:=zW (Same (FR F (.slice X (n+2) U) Q) wr w3) (R.o.same p);have aO:=zAH c3 p;have C:=zh (bw.o w3 am.o);clear p;go_wp2_with fail;refine C.o.mono ?_;rintro e w4 ⟨rfl,aD,aI,-⟩;have aM:=zh aD;have aN:=zh (an.o.trans aI);clear aD aI C c3 c4 aO;have c3:=aM.o.jc.1;cases af:zAA.append D0 (zAF (zAu (nm pre))) (zAS M.rows)with
      | mk D1 L =>
       have bf:=zh (fun W (hb:Below (w4).heap.size (w4) W) x (s:zBE W x [zAS M.rows])=>show Calls prog 15 #[.pointer (some ⟨d,0,none⟩),.string (zBN (zCN pre)),x] W fun e w'=>e=.returned (.int .i64 (L:Int))∧zAk w w' j d pre D1 M (FR F (.slice X (n+2) U) Q)∧Same (FR F (.slice X (n+2) U) Q) (w4) w'∧w'.heap[j]?=(w4).heap[j]? by
        have:=jou_append aM.o hb (zBN (zCN pre)) x [zAS M.rows] s (by simp) (by simp;have:=S.o;have:=ad.o.2;omega) (by rw[zCF,N];omega);rw[show [zAS M.rows].flatten=zAS M.rows by simp,zEh,zBq,af]at this;exact this)
       have av:=zh (fun W (hb:Below (w4).heap.size (w4) W)=>zEu (zBT.at ((rowsIn_keep br.o fun x s=>aN.o x (.inr s)).below hb)) (by omega) (fun l hl=>Nat.le_trans (ad.o.1 l hl) (by decide)) (by have:=S.o;have:=ad.o.2;omega));have Y:=zh af;clear af;go_wp2_with fail;refine ost (fun w':World=>w'.cell? ⟨j,3,none⟩=some (.pointer (some ⟨d,0,none⟩))) 11 (c3) fun m=>?_;refine Pl [0,1,2,3,4,5,6] ?_
       iterate 7 (refine Pc rfl ?_;simp only[uZ])
       refine Pn ?_;refine oon 7 rfl fun K q=>?_;have Z:=zh (zAP (w4));go_wp2_with fail;refine(av.o _ Z.o).mono ?_;rintro e wf ⟨v,rfl,hv,-,ag⟩;have aa:=zh (Z.o.trans ag);have bj:=zh (zAH m ag);have HV:=zh (zAi.has hv);obtain⟨pv,cv,rfl,-⟩:=zAL hv;clear hv ag av;go_wp2_with fail;refine q.o _ _ (bj.o) fun m=>?_;clear q
       try simp only[uZ]
       refine oon 8 rfl fun K q=>?_;have bi:=zh (zBQ m (.cells #[.slice pv (zAS M.rows).length cv] 22));go_wp2_with fail;refine q.o _ _ (bi.o) fun m=>?_;clear q
       try simp only[uZ]
       refine oon 9 rfl fun K q=>?_;have au:=zh (bf.o _ (aa.o.trans ((zAD wf (.cells #[.slice pv (zAS M.rows).length cv] 22)).mono aa.o.size)) _ (zCE HV.o 22 (0,0) wf.heap.size 1 rfl (Nat.le_refl _)));go_wp2_with fail;refine au.o.mono ?_;rintro e wa ⟨rfl,aE,aJ,aB⟩;have ar:=zh aE;have ab:=zh (aN.o.trans aJ);have aw:=zh ((World.cell?_of_block (a:=⟨j,3,none⟩) aB).trans c3);clear aE aJ aB au;go_wp2_with fail;refine q.o _ _ (aw.o) fun m=>?_;clear q
       try simp only[uZ]
       refine otk 10 (v:=?v14x10) rfl ?_;simp only[uZ];refine odn ?_;clear HV aa Z;have c3:wa.cell? ⟨j,3,none⟩=some (.pointer (some ⟨d,0,none⟩)):=aw.o
       by_cases ah:L=0
       ·subst ah;cases I:D1.sync [zAF (zAu (nm pre))]with
        | mk D2 P =>
         have J:=jou_sync ar.o (zBN (zCN pre)) (by rw[zCF,N];omega);rw[zEh,zBq,I]at J;have T:=zh J;clear J
         by_cases ai:P=0
         ·subst ai;cases al:D2.rename (zAF (zAu (nm pre))) (zAu (nm pre))with
          | mk D3 e3 =>
           have O:=zW (zAT D (nm pre) M=(D3,e3)) ((bd.o D1 D2 Y.o I).trans al);have ax:=zh (fun W (h:zAk w W j d pre D2 M (FR F (.slice X (n+2) U) Q))=>show Calls prog 160 #[.pointer (some ⟨d,0,none⟩),.string (zBN (zCN pre)),.string (zCN pre)] W fun e w'=>e=.returned (.int .i64 (e3:Int))∧zAk w w' j d pre D3 M (FR F (.slice X (n+2) U) Q)∧Same (FR F (.slice X (n+2) U) Q) W w'∧w'.heap[j]?=W.heap[j]? by
            have:=jou_rename h (zBN (zCN pre)) (zCN pre) (by rw[zCF,N];omega) (by rw[N];omega);rw[zEh,zBq,al]at this;exact this)
           clear I al;go_wp2_with fail;refine T.o.mono ?_;rintro e wb ⟨rfl,E,G,aC⟩;have ac:=zh (ab.o.trans G);have aO:wb.cell? ⟨j,3,none⟩=some (.pointer (some ⟨d,0,none⟩)):=(World.cell?_of_block (a:=⟨j,3,none⟩) aC).trans c3;have C:=zh (ax.o wb E);clear E G aC T ax;go_wp2_with fail;refine C.o.mono ?_;rintro e wc ⟨rfl,aF,aK,-⟩;have aZ:=zh aF;have ba:=zh (ac.o.trans aK);clear aF aK C;have HE:=zW (zCB w w1 j d pre M F (zAT D (nm pre) M) (.returned (.int .i64 (e3:Int))) _) (⟨by rw[O.o],by rw[O.o];exact aZ.o.less fun _ h=>.inl h,fun x s=>(ba.o x (.inl s)).trans (ae.o x s)⟩);go_wp2_with fail;go_ret;exact HE.o
         ·have O:=zW (zAT D (nm pre) M=(D2,P)) (be.o D1 D2 P Y.o I ai);have aU:((P:Int) != 0)=true:=by simp;omega
          clear I ai;go_wp2_with fail;refine T.o.mono ?_;rintro e wb ⟨rfl,E,G,-⟩;have aY:=zh E;have ac:=zh (ab.o.trans G);clear E G T;have HE:=zW (zCB w w1 j d pre M F (zAT D (nm pre) M) (.returned (.int .i64 (P:Int))) _) (⟨by rw[O.o],by rw[O.o];exact aY.o.less fun _ h=>.inl h,fun x s=>(ac.o x (.inl s)).trans (ae.o x s)⟩);go_wp2_with fail;go_ret;exact HE.o
       ·have O:=zW (zAT D (nm pre) M=(D1,L)) (bc.o D1 L Y.o ah);have aU:((L:Int) != 0)=true:=by simp;omega
        clear ah;have HE:=zW (zCB w w1 j d pre M F (zAT D (nm pre) M) (.returned (.int .i64 (L:Int))) _) (⟨by rw[O.o],by rw[O.o];exact ar.o.less fun _ h=>.inl h,fun x s=>(ab.o x (.inl s)).trans (ae.o x s)⟩);go_wp2_with fail;go_ret;exact HE.o
     ·have O:=zW (zAT D (nm pre) M=(D0,e0)) (save1_rem aq bk);have aU:((e0:Int) != 0)=true:=by simp;omega
      clear hg aV aq bn bk;go_wp2_with fail;refine ao.o.mono ?_;rintro e w3 ⟨v3,rfl,-,-,p⟩;have am:=zh (R.o.next p);have an:=zW (Same (FR F (.slice X (n+2) U) Q) wr w3) (R.o.same p);have aO:=zAH c3 p;have C:=zh (bw.o w3 am.o);clear p;go_wp2_with fail;refine C.o.mono ?_;rintro e w4 ⟨rfl,aD,aI,-⟩;have aM:=zh aD;have aN:=zh (an.o.trans aI);clear aD aI C;have HE:=zW (zCB w w1 j d pre M F (zAT D (nm pre) M) (.returned (.int .i64 (e0:Int))) _) (⟨by rw[O.o],by rw[O.o];exact aM.o.less fun _ h=>.inl h,fun x s=>(aN.o x (.inl s)).trans (ae.o x s)⟩);go_wp2_with fail;go_ret;exact HE.o
end
end Go.Proofs.YtapfnehdgailmaaGreat
