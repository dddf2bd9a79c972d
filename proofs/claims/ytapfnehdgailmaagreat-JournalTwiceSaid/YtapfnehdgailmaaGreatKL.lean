/- What the program's functions and the document's do, and plain laws, for PJournalTwice. -/
import Derived.Test.YtapfnehdgailmaaGreatKA
import Derived.Test.YtapfnehdgailmaaGreatKK
open Go.Proofs.Tryz
set_option maxRecDepth 100000
set_option maxHeartbeats 64000000
namespace Go.Sat
open Go Go.RowKit
theorem zFE {P:Program}(w:World){t e:TypeId}{i:TypeInfo}(j:P.underlying t=some (.slice e))(g:P.info? e=some i)(p:Option Addr)(c b k:Nat)(h:k≤c)(l:c≤b) :
  (Instr.slice t (.slice p c b) (some (.int .i64 (k:Int))) none none).run P w=.ok (.slice (if b-k=0 then p else p.map fun x=>x.add (k*i.size)) (c-k) (b-k)) w:=by
 have f:(Instr.sliceBound (.int .i64 (k:Int)) c .sliceB).run P w=.ok k w:=by
  rw[run_sliceBound _ _ _ _ _ (by omega) (by omega)];simp
 simp[Instr.slice,run_underlying j,Instr.sliceBounds,f,sizeOf,typeInfo,g,Result.andThen]
 by_cases d:b=k
 ·rw[if_pos d,if_pos (by omega)]
 ·rw[if_neg d,if_neg (by omega)]
theorem zAM.upto {w:World}{size:Nat}{p:Option Addr}{n c:Nat}{xs:List Value}(h:zAM w size (.slice p n c) n xs){k:Nat}(m:k≤n)(d:Nat):zAM w size (.slice p k d) k (xs.take (k*size)):=by
 obtain⟨o,q,f,e,g,l⟩:=h;cases e;refine⟨by rw[List.length_take,o];exact Nat.min_eq_left (Nat.mul_le_mul_right _ m),p,d,rfl,fun e=>?_,fun a j i u b=>l a j i u ?_⟩
 ·have:=g e;omega
 ·rw[List.getElem?_take]at b
  split at b
  ·exact b
  ·cases b
theorem OwnR.cut_from {w:World}{e:TypeId}{size:Nat}{p:Option Addr}{n c:Nat}{xs:List Value}(h:OwnR w e size (.slice p n c) n xs){k:Nat}(y:k≤n):zAM w size (.slice (if c-k=0 then p else p.map fun x=>x.add (k*size)) (n-k) (c-k)) (n-k) (xs.drop (k*size)):=by
 have d:(xs.drop (k*size)).length=(n-k)*size:=by rw[List.length_drop,h.1,Nat.sub_mul]
 rcases h.2 with⟨e,hn⟩|⟨g,o,cur,e,v,s,_⟩
 ·cases e;have j:k=0:=by omega
  subst j;exact⟨d,none,0,by simp,fun _=>rfl,fun a b=>by cases b⟩
 ·cases e
  by_cases m:c-k=0
  ·rw[if_pos m];have l:n-k=0:=by omega
   rw[l]at d ⊢;have t:xs.drop (k*size)=[]:=List.eq_nil_of_length_eq_zero (by rw[d];simp);rw[t];exact⟨by simp,_,_,rfl,fun e=>(by cases e),fun a b i u f=>by simp at f⟩
  ·rw[if_neg m];refine⟨d,_,_,rfl,fun e=>(by cases e),fun a b i u f=>?_⟩;cases b;have q:(⟨g,0,none⟩:Addr).add (k*size)=⟨g,k*size,none⟩:=add_zero _ _;have r:(⟨g,k*size,none⟩:Addr).add i=⟨g,k*size+i,none⟩:=by unfold Addr.add;split<;>simp_all
   show w.cell? (((⟨g,0,none⟩:Addr).add (k*size)).add i)=some u
   rw[q,r];rw[List.getElem?_drop]at f;have:=h.cells (g:=g) rfl (k*size+i) u f;rwa[add_zero]at this
end Go.Sat
namespace Go.Proofs.YtapfnehdgailmaaGreat
open Go.RowKit Go.Sat Go.Maps
theorem cells_take (L:List zAR)(i:Nat):(L.take i).flatMap zAR.cells=(L.flatMap zAR.cells).take (i*3):=by
 induction L generalizing i with
 | nil=>simp
 | cons y r ih =>
  cases i with
  | zero=>simp
  | succ i =>
   have b:y.cells.length=3:=rfl;rw[List.take_succ_cons,List.flatMap_cons,List.flatMap_cons,ih i,List.take_append,List.take_of_length_le (l:=y.cells) (by omega)]
   congr 2
   omega
theorem cells_drop (L:List zAR)(i:Nat):(L.drop i).flatMap zAR.cells=(L.flatMap zAR.cells).drop (i*3):=by
 induction L generalizing i with
 | nil=>simp
 | cons y r ih =>
  cases i with
  | zero=>simp
  | succ i =>
   have b:y.cells.length=3:=rfl;rw[List.drop_succ_cons,List.flatMap_cons,ih i,List.drop_append,List.drop_of_length_le (l:=y.cells) (by omega),List.nil_append]
   congr 1
   omega
section
variable {w:World} {r:Nat} {v:Value} {L:List zAR} {own:Nat→Prop} {D:zAA} {room:Nat} {fuse:Option Nat}
theorem cells_one {L:List zAR}(h:∀x∈L,x.b.oneCell'=true):∀u∈L.flatMap zAR.cells,u.oneCell'=true:=by
 intro u d;obtain⟨x,f,c⟩:=List.mem_flatMap.1 d;simp only[zAR.cells,List.mem_cons,List.not_mem_nil,or_false]at c;rcases c with rfl|rfl|rfl
 ·rfl
 ·exact h x f
 ·rfl
theorem zAz.one (h:zAz w r v L own room fuse):∀x∈L,x.b.oneCell'=true:=fun x d=>by
 obtain⟨p,c,e,_⟩:=zDd (h.data x d);rw[e];rfl
theorem zAz.relist (h:zAz w r v L own room fuse){v':Value}{L':List zAR}(g:OwnR w 127 3 v' L'.length (L'.flatMap zAR.cells))(j:∀x∈L',x∈L∨(zAj w 5 x.b x.f.data∧∀k,x.b.ownBlock=some k→own k∧k≠r))(hn:∀k,v'.ownBlock=some k→¬own k) :
  zAz (w.setCell ⟨r,1,none⟩ v') r v' L' (fun k=>own k∨v'.ownBlock=some k) room fuse where
 cells:=zAC h.cells 1 v'
 row:=g.keep fun k c=>set_other _ (fun e=>hn k c (by have e:k=r:=e;rw[e];exact h.or))
 data:=fun x d=>by
  rcases j x d with d|⟨e,i⟩
  ·exact OwnR.keep (h.data x d) fun k c=>set_other _ (h.ob x d k c).2.1
  ·exact OwnR.keep e fun k c=>set_other _ (i k c).2
 or:=.inl h.or
 ov:=fun k c=>⟨.inr c,fun e=>hn k c (by rw[e];exact h.or)⟩
 ob:=fun x d k c=>by
  rcases j x d with d|⟨_,e⟩
  ·exact⟨.inl (h.ob x d k c).1,(h.ob x d k c).2.1,fun e=>hn k e (h.ob x d k c).1⟩
  ·exact⟨.inl (e k c).1,(e k c).2,fun i=>hn k i (e k c).1⟩
 olt:=fun k c=>by
  have:k<w.heap.size:=by
   rcases c with c|c
   ·exact h.olt k c
   ·exact g.lt c
  simpa[World.setCell]using this
end
section
variable {w:World} {r:Nat} {v:Value} {L:List zAR} {own:Nat→Prop} {D:zAA}
theorem zAc.fit (h:zAc w r v L own D):L.length≤4096:=by rw[h.len];exact h.ok.count
theorem rappend_full (h:zAc w r v L own D)(s:ByteArray)(O:s.size≤9223372036854775807){pb:Option Addr}{m cb:Nat}(J:m≤140737488355328)(C:D.may [nm s]=0)
  (k:D.room<D.used+m∨(Sat.get (nm s) D.files=none∧4096≤D.files.length)) :
  Calls prog 16 #[.pointer (some ⟨r,0,none⟩),.string s,.slice pb m cb] w (zCo w r own (D,6)):=by
 have z:zAc (w.alloc (.cells #[.string s] 9)) r v L own D:=h.below ((Below.refl _ _).alloc (Nat.le_refl _) _);have b:=zCY z (some ⟨w.heap.size,0,none⟩) [s] 1 (zBa w s) (by simp) (by simpa using O);simp only[List.map_cons,List.map_nil]at b;have g:=zBt z s;rw[h.is]at g;rw[C]at b;have F:=zh (fun W y=>zBV h (w':=W) y 6);have E:=zh (fun W y=>zFy (h.below (w':=W) y));obtain⟨pv,cv,rfl⟩:=h.slice;have f:=zW (∀W,Below w.heap.size w W→W.cell? ⟨r,0,none⟩=some (.int .i64 (D.room:Int))∧W.cell? ⟨r,1,none⟩=some (.slice pv L.length cv)) fun W y=>⟨(h.below y).c0,(h.below y).c1⟩;have P:D.used≤1073741824:=Nat.le_trans h.ok.used h.ok.room;have M:=h.ok.room;have G:=h.fit;rw[←h.len]at k;generalize zA6 (nm s) (L.map zAR.n)=i at *;clear h z;generalize D.used=U at *;generalize D.room=R at *;generalize L.length=N at *
 by_cases a:R<U+m
 focus
  have A:decide ((R:Int)<(U:Int)+(m:Int))=true:=by simp;omega
  have B:decide (R<U+m)=true:=by simpa using a
  clear k C
 rotate_left
 focus
  obtain⟨H,Q⟩:Sat.get (nm s) D.files=none∧4096≤N:=by
   rcases k with k|k
   ·exact absurd k a
   ·exact k
  rw[H]at g;have I:N=4096:=by omega
  subst I;have A:decide ((R:Int)<(U:Int)+(m:Int))=false:=by simp;omega
  have B:decide (R<U+m)=false:=by simpa using a
  clear k C H
 all_goals
  have j:=zh b;have l:=zh g;clear b g;go_enter func16,ntmps16;go_wp2_with fail;refine j.o.mono ?_;rintro e w2 ⟨rfl,rfl⟩;go_wp2_with fail;refine l.o.mono ?_;rintro e w3 ⟨rfl,q,rfl⟩;have c:=zh (zAt w (.cells #[.string s] 9) q);have d:=zh (fun n=>E.o _ (c.o.trans (show Below _ _ (((w.alloc (.cells #[.string s] 9)).drewN q).drewN n)from⟨rfl,rfl,rfl,Nat.le_refl _,fun _ _=>rfl⟩)));obtain⟨p,t⟩:=f.o _ c.o;generalize (w.alloc (.cells #[.string s] 9)).drewN q=W at *;go_wp2_with fail;go_quiet ((go_at_call 71;refine Calls.quiet_of_same (d.o _)));clear p t;go_wp2_with fail;go_ret;exact F.o _ (c.o.trans ⟨rfl,rfl,rfl,Nat.le_refl _,fun _ _=>rfl⟩)
theorem rapp_end {W m:World}{b:Nat→Prop}{g i:Nat}{x:zAR}{d:Value}{q:Bs}{F:List (Bs×zAT)}(o:zAz W r v L b D.room D.fuse)(A:v.ownBlock=some g)(E:L[i]?=some x)(s:Below W.heap.size W m)(a:zAj m 5 d q)(l:∀k,d.ownBlock=some k→W.heap.size≤k)
  (hF:F=(L.set i ⟨x.n,d,⟨q,x.f.lasts⟩⟩).map zAR.key) (y:zAA.OK {D with files:=F}) (hch:Chg own w W) (hx1:∀k,b k→own k∨w.heap.size≤k) (hfz:D.fuse≠some 0) :
  Calls prog 72 #[.pointer (some ⟨r,0,none⟩)] (m.setCell ⟨g,i*3+1,none⟩ d) (zCo w r own (zAA.done {D with files:=F},0)):=by
 have c:zAz m r v L b D.room D.fuse:=o.keep s.size fun k c=>s.block k (o.olt k c);have p:=(o.ov g A).1;have C:=c.store A E 1 (by omega) d ⟨x.n,d,⟨q,x.f.lasts⟩⟩ rfl (own':=fun k=>b k∨d.ownBlock=some k) (fun _ h=>.inl h) a
  (fun k c=>⟨.inr c,fun e=>by have:=o.olt r o.or;have:=l k c;omega,fun e=>by have:=o.olt g p;have:=l k c;omega⟩)
  (fun k h=>by
   rcases h with h|h
   ·exact c.olt k h
   ·exact OwnR.lt a h)
 have t:zAc (m.setCell ⟨g,i*3+1,none⟩ d) r v (L.set i ⟨x.n,d,⟨q,x.f.lasts⟩⟩) (fun k=>b k∨d.ownBlock=some k) {D with files:=F}:=C.full rfl rfl hF y;have z:=hch.size;have j:Chg own w (m.setCell ⟨g,i*3+1,none⟩ d):=by
  refine(hch.trans ((Chg.of_below s).mono (T:=fun _=>False) fun _ _ h=>h) fun _ _ h=>h.elim).trans (Chg.setCell m ⟨g,i*3+1,none⟩ d) fun k c e=>?_;have e:k=g:=e;rcases hx1 g p with h|h
  ·rw[e];exact h
  ·omega
 refine(zCy t hfz).mono ?_;intro e G B;refine zDf j (fun k c=>?_) j.size B;rcases c with c|c
 ·exact hx1 k c
 ·exact .inr (Nat.le_trans z (l k c))
theorem rappend_is (h:zAc w r v L own D)(s:ByteArray)(hs:s.size≤9223372036854775807){pb:Option Addr}{m cb:Nat}{l:Bs}(hl:zAY w (.slice pb m cb) l)(hm:D.may [nm s]=0){f:zAT}(hg:Sat.get (nm s) D.files=some f)(aB:D.used+m≤D.room)
  (av:zAA.OK {D with files:=put (nm s) ⟨f.data++l,f.lasts⟩ D.files}) :
  Calls prog 16 #[.pointer (some ⟨r,0,none⟩),.string s,.slice pb m cb] w (zCo w r own (zAA.done {D with files:=put (nm s) ⟨f.data++l,f.lasts⟩ D.files},0)):=by
 have al:m=l.length:=(zCc hl).1;have h1:zAc (w.alloc (.cells #[.string s] 9)) r v L own D:=h.below ((Below.refl _ _).alloc (Nat.le_refl _) _);have N:=zCY h1 (some ⟨w.heap.size,0,none⟩) [s] 1 (zBa w s) (by simp) (by simpa using hs);simp only[List.map_cons,List.map_nil]at N;have am:=zBt h1 s;rw[h.is,hg]at am;rw[hm]at N;have HU:=zh (fun W P=>zFy (h.below (w':=W) P));obtain⟨x,hx,aD,rfl⟩:=h.hit hg;have aG:=h.len_le hx;have an:=List.mem_of_getElem? hx;have hN:zA6 (nm s) (L.map zAR.n)<L.length:=(List.getElem?_eq_some_iff.1 hx).1;rcases h.at with h0|⟨g,c0,ab,az,-⟩
 ·rw[h0]at hN;simp at hN
 have X:v.ownBlock=some g:=by rw[ab];rfl
 have aI:D.used≤1073741824:=Nat.le_trans h.ok.used h.ok.room;have aH:=h.ok.room;have ah:=fun v'=>h.put hg ⟨x.n,v',⟨x.f.data++l,x.f.lasts⟩⟩ aD;have au:=zFW hm;obtain⟨px,cx,ex,aC⟩:=zDd (h.data x an);generalize zA6 (nm s) (L.map zAR.n)=i at *;have aa:=zW (∀W,Below w.heap.size w W→W.cell? ⟨r,0,none⟩=some (.int .i64 (D.room:Int))∧W.cell? ⟨r,1,none⟩=some (.slice (some ⟨g,0,none⟩) L.length c0)) (fun W P=>⟨(h.below P).c0,(h.below P).c1.trans (by rw[ab])⟩);have b:=zW (∀W,Below w.heap.size w W→W.cell? ⟨r,1,none⟩=some (.slice (some ⟨g,0,none⟩) L.length c0)∧W.cell? ⟨g,i*3+1,none⟩=some (.slice px x.f.data.length cx)∧W.frozen? ⟨g,i*3+1,none⟩=false) (fun W P=>by
  have hW:=h.below P;exact⟨hW.c1.trans (by rw[ab]),(hW.core.at X hx).2.1.trans (by rw[ex]),hW.core.free X _⟩)
 have ar:=zW (∀W,Below w.heap.size w W→zAM W 1 (.slice px x.f.data.length cx) x.f.data.length (zAQ x.f.data)) (fun W P=>by
  have hW:=((h.below P).data x an).has;rw[ex]at hW;exact hW)
 have ap:=zW (∀W,Below w.heap.size w W→zAM W 1 (.slice pb m cb) m (zAQ l)) (fun W P=>by
  have hW:=hl.below P;unfold zAY at hW;rw[←al]at hW;exact hW)
 have af:=zW (∀w7 v7,Below w.heap.size w w7→zAj w7 5 v7 (x.f.data++l)→(∀k,v7.ownBlock=some k→w.heap.size≤k)→Calls prog 72 #[.pointer (some ⟨r,0,none⟩)] (w7.setCell ⟨g,i*3+1,none⟩ v7) (zCo w r own (zAA.done {D with files:=put (nm s) ⟨x.f.data++l,x.f.lasts⟩ D.files},0))) (
  fun w7 v7 P h7 aA=>rapp_end h.core X hx P h7 aA (ah v7) av (Chg.refl _ _) (fun _ h=>.inl h) au)
 have ao:=zW (r≠g) ((h.ov g X).2.symm);have ag:=zW ((x.f.data++l).length=x.f.data.length+m) (by rw[List.length_append,al]);obtain⟨i0,hi,ac,ad,ae⟩:=info_parts (show(prog.info? 5).map (fun i=>(i.zero,i.size,i.bytes))=some (some (.int .u8 0),1,1) by kernel_rfl);clear h h1 hm hg av hx an ah X ex al aC hl az au;subst ab;generalize aJ:x.f.data.length=Q at *;have aE:decide ((D.room:Int)<(D.used:Int)+(m:Int))=false:=by simp;omega
 have aF:decide (D.room<D.used+m)=false:=by simp;omega
 generalize D.used=U at *;generalize ax:D.room=R at *;have aq:=zh N;have aw:=zh am;clear N am
 go_enter func16,ntmps16
 go_wp2_with fail;refine aq.o.mono ?_;rintro e w2 ⟨rfl,rfl⟩;go_wp2_with fail;refine aw.o.mono ?_;rintro e w3 ⟨rfl,q,rfl⟩;have ai:=zh (zAt w (.cells #[.string s] 9) q);have aj:=zh (fun n=>HU.o _ (ai.o.trans (show Below _ _ (((w.alloc (.cells #[.string s] 9)).drewN q).drewN n)from⟨rfl,rfl,rfl,Nat.le_refl _,fun _ _=>rfl⟩)));obtain⟨ay,J⟩:=aa.o _ ai.o;generalize (w.alloc (.cells #[.string s] 9)).drewN q=W at *;go_wp2_with fail
 go_quiet ((go_at_call 71;refine Calls.quiet_of_same (aj.o _)))
 clear ay J;go_wp2_with fail;have S:=zW (Below w.heap.size w (W.drewN nq).drew) (ai.o.trans ⟨rfl,rfl,rfl,Nat.le_refl _,fun _ _=>rfl⟩);have hS:=(b.o _ S.o).1;refine ost (fun W':World=>W'.cell? ⟨r,1,none⟩=some (.slice (some ⟨g,0,none⟩) L.length c0)) 20 hS fun c=>?_;clear hS;generalize (W.drewN nq).drew=Wd at *;refine Pl [0,1,2,3,4,6,7,8,9,10,11,12,15] ?_
 iterate 13 (refine Pc rfl ?_;simp only[uZ])
 refine Pn ?_;refine zCw 5 13 rfl rfl (by kernel_rfl) (by rfl) (by rfl) (fun K t=>?_) (fun K t=>?_)
 focus
  go_wp2_with fail;have O:=zh (S.o.alloc S.o.size (.cells #[] 5));refine t.o _ _ ((b.o _ O.o).1) fun c=>?_;clear t;try simp only[uZ]
  refine oon 13 rfl fun K t=>?_;have M:=(b.o _ O.o).2.1;go_wp2_with fail;clear M
 rotate_left
 focus
  have M:=(b.o _ S.o).2.1;go_wp2_with fail;clear M;refine t.o _ _ ((b.o _ S.o).1) fun c=>?_;clear t;try simp only[uZ]
  refine oon 5 rfl fun K t=>?_;go_wp2_with fail;have O:=zh (S.o.alloc S.o.size (.cells #[] 5))
 all_goals
  refine t.o _ _ ((b.o _ O.o).1) fun c=>?_;clear t;try simp only[uZ]
  refine oon 14 rfl fun K t=>?_;have G:=zAx Wd 5;have Z:=ar.o _ O.o;refine zAn (.tmp 77) (.tmp 85) 22 (by rfl) 5 i0 (.int .u8 0) 1 1 underlying22 hi ac ad ae rfl (by decide) (.slice (some ⟨Wd.heap.size,0,none⟩) 0 0) 0 [] (by rfl) G (.slice px Q cx) Q _ (by rfl) Z (zAO _) (by unfold maxLen;omega) (by omega) ?_;clear G Z;intro v6 w6 d y A;have T:=zh (O.o.grown y O.o.size (fun j e=>by have:=S.o.size;simp[Value.ownBlock]at e;omega));have E:=zA2 (B:=w.heap.size) A (fun k hk=>by have:=S.o.size;simp[Value.ownBlock]at hk;omega) O.o.size;rw[Nat.zero_add,List.nil_append]at d;obtain⟨p6,c6,rfl⟩:=OwnR.shape d;have I:=zh d;have a:=zh E;clear y A d E;refine t.o _ _ ((b.o _ T.o).1) fun c=>?_;clear t;try simp only[uZ]
  refine oon 16 rfl fun K t=>?_;have Y:=ap.o _ T.o;refine zAn (.tmp 86) (.tmp 87) 22 (by rfl) 5 i0 (.int .u8 0) 1 1 underlying22 hi ac ad ae rfl (by decide) (.slice p6 Q c6) Q _ (by rfl) I.o (.slice pb m cb) m _ (by rfl) Y (zAO _) (by unfold maxLen;omega) (by omega) ?_;clear Y;intro v7 w7 p z C;have X7:=zh (T.o.grown z T.o.size a.o);have F:=zA2 (B:=w.heap.size) C a.o T.o.size;obtain⟨p7,c7,rfl⟩:=OwnR.shape p;rw[←zBs]at p;have H:=zh (af.o w7 (.slice p7 (Q+m) c7) X7.o (by unfold zAj;rw[ag.o];exact p) F);clear z C p F;refine t.o _ _ ((b.o _ X7.o).1) fun c=>?_;clear t;try simp only[uZ]
  refine Pl [17,18] ?_;iterate 2 (refine Pc rfl ?_;simp only[uZ])
  refine Pn ?_;refine oon 19 rfl fun K t=>?_;obtain⟨J,M,V⟩:=b.o _ X7.o;go_wp2_with fail;have ak:(w7.setCell ⟨g,i*3+1,none⟩ (.slice p7 (Q+m) c7)).cell? ⟨r,1,none⟩=some (.slice (some ⟨g,0,none⟩) L.length c0):=(World.cell?_of_block (set_other _ ao.o)).trans J;clear J M V;refine t.o _ _ (ak) fun c=>?_;clear t;try simp only[uZ]
  refine odn ?_;clear c;go_wp2_with fail;refine H.o.mono ?_;intro e w8 hE;have HE:=zh hE;obtain⟨rfl,-⟩:=hE;go_wp2_with fail;go_ret;exact HE.o
end
end Go.Proofs.YtapfnehdgailmaaGreat
namespace Go.Sat
open Go Go.RowKit
theorem zBO (w:World)(e:TypeId)(size:Nat):OwnR (w.alloc (.cells #[] e)) e size (.slice (some ⟨w.heap.size,0,none⟩) 0 0) 0 [] :=
 ⟨by simp,.inr ⟨_,0,#[],rfl,zAI w _,Nat.le_refl _,Nat.zero_le _,by simp,by simp⟩⟩
theorem zE5 (w:World)(cs:Array Value)(xs:List Value)(size n c:Nat)(g:cs.toList=xs)(j:xs.length=n*size)(e:TypeId)(d:Nat×Nat):zAM (w.alloc (.cells cs e d)) size (.slice (some ⟨w.heap.size,0,none⟩) n c) n xs:=by
 refine⟨j,some ⟨w.heap.size,0,none⟩,c,rfl,fun e=>(by cases e),fun a f i u b=>?_⟩;cases f;rw[add_zero];refine zAG (zAI w _) ?_;rw[←g]at b;simpa using b
end Go.Sat
namespace Go.Proofs.YtapfnehdgailmaaGreat
open Go.RowKit Go.Sat Go.Maps
theorem has_void {w w':World}{v:Value}{l:Bs}(h:zAY w v l)(b:l=[]):zAY w' v l:=by
 subst b;obtain⟨b,p,c,e,d,-⟩:=h;exact⟨b,p,c,e,d,fun a g i u f=>by simp[zAQ]at f⟩
section
variable {w:World} {r:Nat} {v:Value} {L:List zAR} {own:Nat→Prop} {D:zAA}
def nilF (n:Bs):zAR:=⟨n,.slice none 0 0,⟨[],0⟩⟩
theorem new_cells (L:List zAR)(i:Nat)(n:Bs):(L.take i++nilF n::L.drop i).flatMap zAR.cells=((L.flatMap zAR.cells).take (i*3)++(nilF n).cells)++(L.flatMap zAR.cells).drop (i*3):=by
 rw[List.flatMap_append,List.flatMap_cons,cells_take,cells_drop,List.append_assoc]
theorem zAc.putn (h:zAc w r v L own D){n:Bs}(c:Sat.get n D.files=none)(v':Value)(f:zAT):Sat.put n f D.files=((L.take (zA6 n (L.map zAR.n))++nilF n::L.drop (zA6 n (L.map zAR.n))).set (zA6 n (L.map zAR.n)) ⟨n,v',f⟩).map zAR.key:=by
 have b:zA6 n (L.map zAR.n)≤L.length:=by have:=spotN_le n (L.map zAR.n);rwa[List.length_map]at this
 have d:Sat.put n f D.files=ins (n,f) D.files:=by unfold Sat.put;rw[zC3 c]
 rw[d,ins_at n f h.ok.srt c,←h.names,h.files];generalize zA6 n (L.map zAR.n)=i at *;rw[List.set_append_right _ _ (by rw[List.length_take];omega),List.length_take,Nat.min_eq_left b,Nat.sub_self,List.set_cons_zero,List.map_append,List.map_cons,List.map_take,List.map_drop];rfl
theorem rappend_new (h:zAc w r v L own D)(s:ByteArray)(hs:s.size≤9223372036854775807){pb:Option Addr}{m cb:Nat}{l:Bs}(hl:zAY w (.slice pb m cb) l)(bk:l≠[]→∀k,(Value.slice pb m cb).ownBlock=some k→¬own k)(hm:D.may [nm s]=0)(hg:Sat.get (nm s) D.files=none)(bD:D.used+m≤D.room)(bg:D.files.length<4096)
  (bl:zAA.OK {D with files:=put (nm s) ⟨[]++l,0⟩ D.files}) :
  Calls prog 16 #[.pointer (some ⟨r,0,none⟩),.string s,.slice pb m cb] w (zCo w r own (zAA.done {D with files:=put (nm s) ⟨[]++l,0⟩ D.files},0)):=by
 have bj:m=l.length:=(zCc hl).1;have h1:zAc (w.alloc (.cells #[.string s] 9)) r v L own D:=h.below ((Below.refl _ _).alloc (Nat.le_refl _) _);have ao:=zCY h1 (some ⟨w.heap.size,0,none⟩) [s] 1 (zBa w s) (by simp) (by simpa using hs);simp only[List.map_cons,List.map_nil]at ao;have aT:=zBt h1 s;rw[h.is,hg]at aT;rw[hm]at ao;have HU:=zh (fun W hb=>zFy (h.below (w':=W) hb));have bN:D.used≤1073741824:=Nat.le_trans h.ok.used h.ok.room;have bK:=h.ok.room;have aL:=fun v'=>h.putn hg v' ⟨[]++l,0⟩;have bi:=zFW hm;rw[←h.len]at bg;have aC:zA6 (nm s) (L.map zAR.n)≤L.length:=by have:=spotN_le (nm s) (L.map zAR.n);rwa[List.length_map]at this
 obtain⟨pv,cv,aB⟩:=h.slice;have bA:L.length≤cv:=by
  rcases h.at with h0|⟨g,c0,e,hc,-⟩
  ·rw[h0];exact Nat.zero_le _
  ·rw[aB]at e;cases e;exact hc
 generalize zA6 (nm s) (L.map zAR.n)=i at *;have F:=zW (∀W,Below w.heap.size w W→W.cell? ⟨r,0,none⟩=some (.int .i64 (D.room:Int))∧W.cell? ⟨r,1,none⟩=some (.slice pv L.length cv)) (fun W hb=>⟨(h.below hb).c0,(h.below hb).c1.trans (by rw[aB])⟩);have bp:=zW (∀W,Below w.heap.size w W→W.frozen? ⟨r,1,none⟩=false) fun W hb=>zAE (h.below hb).cells 1;have aK:=zW (∀W,Below w.heap.size w W→OwnR W 127 3 (.slice pv L.length cv) L.length (L.flatMap zAR.cells)) (fun W hb=>by rw[←aB];exact(h.below hb).row);have aJ:=zh (cells_one h.core.one);have Hl:=zh hl;have aY:=zh bj;have br:=zh bk;have aZ:=zh aL;have bs:=zh bl;have bq:=zh bi;have H:=zh h;obtain⟨i0,hi,aD,aE,aF⟩:=info_parts (show(prog.info? 5).map (fun i=>(i.zero,i.size,i.bytes))=some (some (.int .u8 0),1,1) by kernel_rfl);obtain⟨iF,ar,aP,az,aQ⟩:=info_parts (show(prog.info? 127).map (fun i=>(i.zero,i.size,i.bytes))=some (some (.agg #[.string ⟨#[]⟩,.slice none 0 0,.int .i64 0]),3,48) by kernel_rfl);have bL:∀W,(Instr.slice 116 (.slice pv L.length cv) none (some (.int .i64 (i:Int))) none).run prog W=.ok (.slice pv i cv) W:=fun W=>zB9 W underlying116 ar pv _ cv i (by omega);have bM:∀W,(Instr.slice 116 (.slice pv L.length cv) (some (.int .i64 (i:Int))) none none).run prog W=.ok (.slice (if cv-i=0 then pv else pv.map fun x=>x.add (i*3)) (L.length-i) (cv-i)) W:=fun W=>by
  have:=zFE (P:=prog) W underlying116 ar pv L.length cv i aC bA;rw[az]at this;exact this
 have aN:=zW (∀W,Below w.heap.size w W→zAM W 3 (.slice (if cv-i=0 then pv else pv.map fun x=>x.add (i*3)) (L.length-i) (cv-i)) (L.length-i) ((L.flatMap zAR.cells).drop (i*3))) fun W hb=>OwnR.cut_from (aK.o W hb) aC;generalize bC:(if cv-i=0 then pv else pv.map fun x=>x.add (i*3))=pF at *;clear h h1 hm hg bl aL bj hl bi bk bC;subst aB;have bH:decide ((D.room:Int)<(D.used:Int)+(m:Int))=false:=by simp;omega
 have bI:decide (D.room<D.used+m)=false:=by simp;omega
 generalize hU:D.used=U at *;generalize hN:L.length=N at *;have HN:=zh hN;clear hN hU;have aX:=zh ao;have bt:=zh aT;clear ao aT
 go_enter func16,ntmps16
 go_wp2_with fail;refine aX.o.mono ?_;rintro e w2 ⟨rfl,rfl⟩;go_wp2_with fail;refine bt.o.mono ?_;rintro e w3 ⟨rfl,q,rfl⟩;have aM:=zh (zAt w (.cells #[.string s] 9) q);have aO:=zh (fun n=>HU.o _ (aM.o.trans (show Below _ _ (((w.alloc (.cells #[.string s] 9)).drewN q).drewN n)from⟨rfl,rfl,rfl,Nat.le_refl _,fun _ _=>rfl⟩)));obtain⟨bB,ah⟩:=F.o _ aM.o;generalize (w.alloc (.cells #[.string s] 9)).drewN q=W at *;go_wp2_with fail
 go_quiet ((go_at_call 71;refine Calls.quiet_of_same (aO.o _)))
 clear bB ah;have Y:=zW (Below w.heap.size w (W.drewN nq)) (aM.o.trans ⟨rfl,rfl,rfl,Nat.le_refl _,fun _ _=>rfl⟩);generalize W.drewN nq=Wq at *;have T:=zh (Y.o.alloc Y.o.size (.cells #[] 127));have bb:=(F.o _ T.o).2;have bu:=zW (zAM (Wq.alloc (.cells #[] 127)) 3 (.slice pv i cv) i ((L.flatMap zAR.cells).take (i*3))) (zAM.upto (OwnR.holds (aK.o _ T.o)) aC cv);go_wp2_with (first|(at_builtin;refine zAP (Wq.alloc (.cells #[] 127)) rfl (.tmp 48) (.tmp 54) 116 rfl 127 iF _ 3 48 underlying116 ar aP az aQ rfl (by decide) (.slice (some ⟨Wq.heap.size,0,none⟩) 0 0) 0 [] rfl (zBO Wq _ 3) (.slice pv i cv) i _ rfl bu.o (fun u hu=>aJ.o u (List.mem_of_mem_take hu)) (by unfold maxLen;omega) (by omega) ?_;intro bO aG G ab al;rw[Nat.zero_add,List.nil_append]at G;have hX:=T.o.grown ab T.o.size (fun j e=>by have:=Y.o.size;simp[Value.ownBlock]at e;omega);have E:=zA2 (B:=w.heap.size) al (fun k hk=>by have:=Y.o.size;simp[Value.ownBlock]at hk;omega) T.o.size;obtain⟨bE,bv,rfl⟩:=OwnR.shape G;have ap:=zh (And.intro hX (And.intro G E));clear G ab al hX E bb)|(at_builtin;refine zAP (aG.alloc (.cells #[.string s,.slice none 0 0,.int .i64 0] 127)) rfl (.tmp 56) (.tmp 59) 116 rfl 127 iF _ 3 48 underlying116 ar aP az aQ rfl (by decide) (.slice bE i bv) i _ rfl (OwnR.keep ap.o.2.1 fun j hj=>zEt aG _ (OwnR.lt ap.o.2.1 hj)) (.slice (some ⟨aG.heap.size,0,none⟩) 1 1) 1 [.string s,.slice none 0 0,.int .i64 0] rfl (zE5 aG #[.string s,.slice none 0 0,.int .i64 0] _ 3 1 1 rfl rfl _ _) (fun u hu=>by simp at hu;rcases hu with rfl|rfl|rfl<;>rfl) (by unfold maxLen;omega) (by omega) ?_;intro bP bn V ac am;have aA:=ap.o.1.alloc ap.o.1.size (.cells #[.string s,.slice none 0 0,.int .i64 0] 127);have hX:=aA.grown ac aA.size (fun j hj=>ap.o.2.2 j hj);have E:=zA2 (B:=w.heap.size) am ap.o.2.2 aA.size;obtain⟨bF,bw,rfl⟩:=OwnR.shape V;have Z:=zh (And.intro hX (And.intro V E));have bc:=(F.o _ Z.o.1).2;clear V ac am hX E aA)|(at_builtin;refine zAP bn rfl (.tmp 62) (.tmp 68) 116 rfl 127 iF _ 3 48 underlying116 ar aP az aQ rfl (by decide) (.slice bF (i+1) bw) (i+1) _ rfl Z.o.2.1 (.slice pF (N-i) (cv-i)) (N-i) _ rfl (aN.o bn Z.o.1) (fun u hu=>aJ.o u (List.mem_of_mem_drop hu)) (by unfold maxLen;omega) (by omega) ?_;intro bQ A X ad an;have hX:=Z.o.1.grown ad Z.o.1.size (fun j hj=>Z.o.2.2 j hj);have E:=zA2 (B:=w.heap.size) an Z.o.2.2 Z.o.1.size;obtain⟨aq,f,rfl⟩:=OwnR.shape X;have aa:=zh (And.intro hX (And.intro X E));have bd:=(F.o _ aa.o.1).2;have bh:=bp.o _ aa.o.1;clear X ad an hX E bc))
 clear bd bh;have aw:=aa.o.2.1;have aj:=(H.o.below aa.o.1).core;have es:Value.string s=encStr (nm s):=by rw[enc_str];simp[nm]
 have av:(L.take i++nilF (nm s)::L.drop i).length=i+1+(N-i):=by
  rw[List.length_append,List.length_take,List.length_cons,List.length_drop,HN.o];omega
 have ax:OwnR A 127 3 (.slice aq (i+1+(N-i)) f) (L.take i++nilF (nm s)::L.drop i).length ((L.take i++nilF (nm s)::L.drop i).flatMap zAR.cells):=by
  rw[new_cells,av]
  show OwnR A _ 3 _ _ (((L.flatMap zAR.cells).take (i*3)++[encStr (nm s),.slice none 0 0,.int .i64 0])++_)
  rw[←es];exact aw
 have ak:∀k,(Value.slice aq (i+1+(N-i)) f).ownBlock=some k→¬own k:=fun k hk ho=>by
  have h1:=aa.o.2.2 k hk;have h2:=H.o.olt k ho;omega
 have C:=aj.relist ax (fun x hx=>by
  rcases List.mem_append.1 hx with hx|hx
  ·exact .inl (List.mem_of_mem_take hx)
  ·rcases List.mem_cons.1 hx with rfl|hx
   ·exact .inr ⟨OwnR.nil _ _ _,fun k hk=>by cases hk⟩
   ·exact .inl (List.mem_of_mem_drop hx)) ak
 have ae:zAY (A.setCell ⟨r,1,none⟩ (.slice aq (i+1+(N-i)) f)) (.slice pb m cb) l:=by
  by_cases aS:l=[]
  ·exact has_void Hl.o aS
  ·exact Hl.o.same fun k hk=>by
    have h1:=Hl.o.lt aS hk;have h2:k≠r:=fun e=>br.o aS k hk (by rw[e];exact H.o.or);exact(set_other _ h2).trans (aa.o.1.block k h1)
 have bf:Chg own w (A.setCell ⟨r,1,none⟩ (.slice aq (i+1+(N-i)) f)):=zCd aa.o.1 (zDq H.o.or);have bm:∀k,(own k∨(Value.slice aq (i+1+(N-i)) f).ownBlock=some k)→own k∨w.heap.size≤k:=fun k hk=>hk.imp id (aa.o.2.2 k);have aU:(L.take i++nilF (nm s)::L.drop i)[i]?=some (nilF (nm s)):=by
  rw[List.getElem?_append_right (by rw[List.length_take];omega),List.length_take,HN.o,Nat.min_eq_left aC,Nat.sub_self];rfl
 obtain⟨g,rfl⟩:∃g,aq=some ⟨g,0,none⟩:=by
  rcases aw.2 with⟨e,hn⟩|⟨g',bG,cur,e,_⟩
  ·omega
  ·cases e;exact⟨g',rfl⟩
 have aV:=zW (r≠g) ((C.ov g rfl).2.symm);have bo:=zh C;have b:=zW (∀W,Below (A.setCell ⟨r,1,none⟩ (.slice (some ⟨g,0,none⟩) (i+1+(N-i)) f)).heap.size (A.setCell ⟨r,1,none⟩ (.slice (some ⟨g,0,none⟩) (i+1+(N-i)) f)) W→W.cell? ⟨r,1,none⟩=some (.slice (some ⟨g,0,none⟩) (i+1+(N-i)) f)∧W.cell? ⟨g,i*3+1,none⟩=some (.slice none 0 0)∧W.frozen? ⟨g,i*3+1,none⟩=false) (fun W hb=>by
  have hW:=C.keep (w':=W) hb.size fun k hk=>hb.block k (C.olt k hk);exact⟨hW.c1,(hW.at rfl aU).2.1,hW.free rfl _⟩)
 have ba:=zh (fun(W:World) (_:Below (A.setCell ⟨r,1,none⟩ (.slice (some ⟨g,0,none⟩) (i+1+(N-i)) f)).heap.size (A.setCell ⟨r,1,none⟩ (.slice (some ⟨g,0,none⟩) (i+1+(N-i)) f)) W)=>(show zAM W 1 (.slice none 0 0) 0 (zAQ [])from⟨rfl,none,0,rfl,fun _=>rfl,fun a ha=>by cases ha⟩));have aW:=zh (fun(W:World) (hb:Below (A.setCell ⟨r,1,none⟩ (.slice (some ⟨g,0,none⟩) (i+1+(N-i)) f)).heap.size (A.setCell ⟨r,1,none⟩ (.slice (some ⟨g,0,none⟩) (i+1+(N-i)) f)) W)=>(show zAM W 1 (.slice pb m cb) m (zAQ l) by
  have hW:=ae.below hb;unfold zAY at hW;rw[←aY.o]at hW;exact hW))
 have aH:=zh (fun(w7:World) (v7:Value) (hb:Below (A.setCell ⟨r,1,none⟩ (.slice (some ⟨g,0,none⟩) (i+1+(N-i)) f)).heap.size (A.setCell ⟨r,1,none⟩ (.slice (some ⟨g,0,none⟩) (i+1+(N-i)) f)) w7) (h7:zAj w7 5 v7 ([]++l)) (hn7:∀k,v7.ownBlock=some k→(A.setCell ⟨r,1,none⟩ (.slice (some ⟨g,0,none⟩) (i+1+(N-i)) f)).heap.size≤k)=>rapp_end (D:=D) C rfl aU hb h7 hn7 (aZ.o v7) bs.o bf bm bq.o);have aI:=zW (([]++l:Bs).length=m) (by rw[List.nil_append,aY.o]);clear aw aj es av ax ak C ae bf bm aU Y T;generalize A.setCell ⟨r,1,none⟩ (.slice (some ⟨g,0,none⟩) (i+1+(N-i)) f)=Ws at *;generalize hM:i+1+(N-i)=M at *;have bJ:i<M:=by omega
 clear hM;obtain⟨be,-,-⟩:=b.o _ (Below.refl _ _);go_wp2_with fail;clear be;have Y:=zW (Below Ws.heap.size Ws Ws.drew) (⟨rfl,rfl,rfl,Nat.le_refl _,fun _ _=>rfl⟩);have hS:=(b.o _ Y.o).1;refine ost (fun W':World=>W'.cell? ⟨r,1,none⟩=some (.slice (some ⟨g,0,none⟩) M f)) 20 hS fun c=>?_;clear hS;generalize Ws.drew=Wd at *;refine Pl [0,1,2,3,4,6,7,8,9,10,11,12,15] ?_
 iterate 13 (refine Pc rfl ?_;simp only[uZ])
 refine Pn ?_;refine zCw 5 13 rfl rfl (by kernel_rfl) (by rfl) (by rfl) (fun K t=>?_) (fun K t=>?_)
 focus
  go_wp2_with fail;have T:=zh (Y.o.alloc Y.o.size (.cells #[] 5));refine t.o _ _ ((b.o _ T.o).1) fun c=>?_;clear t;try simp only[uZ]
  refine oon 13 rfl fun K t=>?_;have ai:=(b.o _ T.o).2.1;go_wp2_with fail;clear ai
 rotate_left
 focus
  have ai:=(b.o _ Y.o).2.1;go_wp2_with fail;clear ai;refine t.o _ _ ((b.o _ Y.o).1) fun c=>?_;clear t;try simp only[uZ]
  refine oon 5 rfl fun K t=>?_;go_wp2_with fail;have T:=zh (Y.o.alloc Y.o.size (.cells #[] 5))
 all_goals
  refine t.o _ _ ((b.o _ T.o).1) fun c=>?_;clear t;try simp only[uZ]
  refine oon 14 rfl fun K t=>?_;have S:=zAx Wd 5;have ay:=ba.o _ T.o;refine zAn (.tmp 77) (.tmp 85) 22 (by rfl) 5 i0 (.int .u8 0) 1 1 underlying22 hi aD aE aF rfl (by decide) (.slice (some ⟨Wd.heap.size,0,none⟩) 0 0) 0 [] (by rfl) S (.slice none 0 0) 0 _ (by rfl) ay (zAO _) (by unfold maxLen;omega) (by omega) ?_;clear S ay;intro v6 w6 p y J;have X6:=zh (T.o.grown y T.o.size (fun j e=>by have:=Y.o.size;simp[Value.ownBlock]at e;omega));have Q:=zA2 (B:=Ws.heap.size) J (fun k hk=>by have:=Y.o.size;simp[Value.ownBlock]at hk;omega) T.o.size;rw[Nat.zero_add,List.nil_append]at p;obtain⟨p6,c6,rfl⟩:=OwnR.shape p;have ag:=zh p;have I:=zh Q;clear y J p Q;refine t.o _ _ ((b.o _ X6.o).1) fun c=>?_;clear t;try simp only[uZ]
  refine oon 16 rfl fun K t=>?_;have ae:=aW.o _ X6.o;refine zAn (.tmp 86) (.tmp 87) 22 (by rfl) 5 i0 (.int .u8 0) 1 1 underlying22 hi aD aE aF rfl (by decide) (.slice p6 0 c6) 0 _ (by rfl) ag.o (.slice pb m cb) m _ (by rfl) ae (zAO _) (by unfold maxLen;omega) (by omega) ?_;clear ae;intro v7 w7 d z O;have X7:=zh (X6.o.grown z X6.o.size I.o);have R:=zA2 (B:=Ws.heap.size) O I.o X6.o.size;rw[Nat.zero_add]at d;obtain⟨p7,c7,rfl⟩:=OwnR.shape d;rw[←zBs]at d;have af:=zh (aH.o w7 (.slice p7 m c7) X7.o (by unfold zAj;rw[aI.o];exact d) R);clear z O d R;refine t.o _ _ ((b.o _ X7.o).1) fun c=>?_;clear t;try simp only[uZ]
  refine Pl [17,18] ?_;iterate 2 (refine Pc rfl ?_;simp only[uZ])
  refine Pn ?_;refine oon 19 rfl fun K t=>?_;obtain⟨ah,ai,au⟩:=b.o _ X7.o;go_wp2_with fail;have aR:(w7.setCell ⟨g,i*3+1,none⟩ (.slice p7 m c7)).cell? ⟨r,1,none⟩=some (.slice (some ⟨g,0,none⟩) M f):=(World.cell?_of_block (set_other _ aV.o)).trans ah;clear ah ai au;refine t.o _ _ (aR) fun c=>?_;clear t;try simp only[uZ]
  refine odn ?_;clear c;go_wp2_with fail;refine af.o.mono ?_;intro e w8 hE;have HE:=zh hE;obtain⟨rfl,-⟩:=hE;go_wp2_with fail;go_ret;exact HE.o
end
section
variable {w:World} {r:Nat} {v:Value} {L:List zAR} {own:Nat→Prop} {D:zAA}
theorem zEY (h:zAc w r v L own D)(s:ByteArray)(t:s.size≤9223372036854775807){pb:Option Addr}{m cb:Nat}{l:Bs}(q:zAY w (.slice pb m cb) l)(G:l.length≤140737488355328)(A:l≠[]→∀k,(Value.slice pb m cb).ownBlock=some k→¬own k) :
  Calls prog 16 #[.pointer (some ⟨r,0,none⟩),.string s,.slice pb m cb] w (zCo w r own (D.append (nm s) l)):=by
 have a:m=l.length:=(zCc q).1
 by_cases i:D.may [nm s]=0
 ·by_cases d:D.full (nm s) l=true
  ·have j:D.append (nm s) l=(D,6):=by unfold zAA.append;rw[if_neg (by rw[i];simp),if_pos d]
   rw[j];refine rappend_full h s t (by omega) i ?_;unfold zAA.full at d;rw[Bool.or_eq_true,Bool.and_eq_true,decide_eq_true_eq,decide_eq_true_eq,Option.isNone_iff_eq_none]at d;rw[a];exact d
  ·have z:D.full (nm s) l=false:=by simpa using d
   have g:=ok_append h.ok i z;have j:D.append (nm s) l=(zAA.done {D with files:=put (nm s) ⟨(D.cur (nm s)).data++l,(D.cur (nm s)).lasts⟩ D.files},0):=by unfold zAA.append;rw[if_neg (by rw[i];simp),if_neg d]
   rw[j];unfold zAA.full at d;rw[Bool.or_eq_true,Bool.and_eq_true,decide_eq_true_eq,decide_eq_true_eq,Option.isNone_iff_eq_none,not_or]at d;have c:D.used+m≤D.room:=by omega
   cases p:Sat.get (nm s) D.files with
   | some f =>
    have y:D.cur (nm s)=f:=by unfold zAA.cur;rw[p];rfl
    rw[y]at g ⊢;exact rappend_is h s t q i p c g
   | none =>
    have y:D.cur (nm s)=⟨[],0⟩:=by unfold zAA.cur;rw[p];rfl
    rw[y]at g ⊢;exact rappend_new h s t q A i p c (Nat.lt_of_not_le fun F=>d.2 ⟨p,F⟩) g
 ·have j:D.append (nm s) l=(D,D.may [nm s]):=by unfold zAA.append;rw[if_pos i]
  rw[j];have B:zAc (w.alloc (.cells #[.string s] 9)) r v L own D:=h.below ((Below.refl _ _).alloc (Nat.le_refl _) _);have b:=zCY B (some ⟨w.heap.size,0,none⟩) [s] 1 (zBa w s) (by simp) (by simpa using t);simp only[List.map_cons,List.map_nil]at b;have C:=zh (zBV h ((Below.refl _ _).alloc (Nat.le_refl _) (.cells #[.string s] 9)) (D.may [nm s]));have n:=zh b;generalize D.may [nm s]=E at *;have H:((E:Int) != 0)=true:=by simp;omega
  clear h B b j q
  go_enter func16,ntmps16
  go_wp2_with fail;refine n.o.mono ?_;rintro e w2 ⟨rfl,rfl⟩;go_wp2_with fail;go_ret;exact C.o
end
end Go.Proofs.YtapfnehdgailmaaGreat
namespace Go.Sat
open Go Go.RowKit
theorem ord_three {P:Program}{l:List Oper}{Q:Exit→Act→World→Prop}{f:Region.Mode}{S:World→Prop}{c:Nat}{b:Array Bool}{a:Act}{w:World}(i j k:Nat){r s t:Oper}{A B C:List Oper}(g:l.drop i=r::A)(m:l.drop j=s::B)(n:l.drop k=t::C)(h:Region.ready f l.toArray b=[i,j,k])
  (o:Region.wanted r (yielded l.toArray a.tmps)=true) (p:Region.wanted s (yielded l.toArray a.tmps)=true) (q:Region.wanted t (yielded l.toArray a.tmps)=true)
  (v:∀K:Act→World→Prop,Shut (∀a w,S w→(S w→wpAnyH P f l.toArray Q S c (b.setIfInBounds i true) a w)→K a w)→Oper.wp P r a w K Q)
  (y:∀K:Act→World→Prop,Shut (∀a w,S w→(S w→wpAnyH P f l.toArray Q S c (b.setIfInBounds j true) a w)→K a w)→Oper.wp P s a w K Q)
  (z:∀K:Act→World→Prop,Shut (∀a w,S w→(S w→wpAnyH P f l.toArray Q S c (b.setIfInBounds k true) a w)→K a w)→Oper.wp P t a w K Q):wpAnyH P f l.toArray Q S (c+1) b a w :=
 wpAnyH_ready h (by simp) (AllReadyH.cons (zBv g) (fun K d=>by rw[if_pos o];exact v K d) (AllReadyH.cons (zBv m) (fun K d=>by rw[if_pos p];exact y K d) (AllReadyH.cons (zBv n) (fun K d=>by rw[if_pos q];exact z K d) AllReadyH.nil)))
end Go.Sat
namespace Go.Proofs.YtapfnehdgailmaaGreat
open Go.RowKit Go.Sat Go.Maps
section
variable {w:World} {r:Nat} {v:Value} {L:List zAR} {own:Nat→Prop} {D:zAA}
theorem zFd {z:Int}(b:-9223372036854775808≤z)(c:z≤9223372036854775807):IntKind.i64.wrap z=z:=IntWalk.i64_in z ⟨b,c⟩
def RGone (w:World)(r:Nat)(own:Nat→Prop)(D:zAA)(e:Ending)(w':World):Prop :=
 e=.returned (.tuple #[])∧∃own' v' L',zAc w' r v' L' own' D∧Chg (fun k=>k=r) w w'∧(∀k,own k→own' k)∧∀k,own' k→own k∨w.heap.size≤k
theorem zEd (h:zAc w r v L own D)(s:ByteArray) :
  Calls prog 161 #[.pointer (some ⟨r,0,none⟩),.string s] w (RGone w r own {D with files:=del (nm s) D.files}):=by
 have ad:=zBt h s;rw[h.is]at ad;cases hg:Sat.get (nm s) D.files with
 | none =>
  rw[hg]at ad;have hD:({D with files:=del (nm s) D.files}:zAA)=D:=by rw[zC3 hg]
  rw[hD];have Hf:=zh (fun q=>show RGone w r own D (.returned (.tuple #[])) (w.drewN q)from⟨rfl,own,v,L,h.below ⟨rfl,rfl,rfl,Nat.le_refl _,fun _ _=>rfl⟩,⟨rfl,rfl,rfl,Nat.le_refl _,fun _ _ _=>rfl⟩,fun _ h=>h,fun _ h=>.inl h⟩);have ah:=zh ad;clear h ad hg hD
  go_enter func161,ntmps161
  go_wp2_with fail;refine ah.o.mono ?_;rintro e w3 ⟨rfl,q,rfl⟩;go_wp2_with fail
  go_end0
  exact Hf.o q
 | some f =>
  rw[hg]at ad;obtain⟨x,hx,av,rfl⟩:=h.hit hg;have ap:zA6 (nm s) (L.map zAR.n)<L.length:=(List.getElem?_eq_some_iff.1 hx).1;have ag:del (nm s) D.files=(L.take (zA6 (nm s) (L.map zAR.n))++L.drop (zA6 (nm s) (L.map zAR.n)+1)).map zAR.key:=by
   have h1:isAt (nm s) (D.files.map (·.1))=true:=by rw[(zGg (nm s) h.ok.srt).1,hg];rfl
   rw[del_at (nm s) h.ok.srt h1,←h.names,List.map_append,List.map_take,List.map_drop,←h.files]
  obtain⟨pv,cv,ae⟩:=h.slice;have am:L.length≤cv:=by
   rcases h.at with h0|⟨g,c0,e,hc,-⟩
   ·rw[h0];exact Nat.zero_le _
   ·rw[ae]at e;cases e;exact hc
  have ao:=h.fit;have al:=ok_del h.ok (nm s);generalize zA6 (nm s) (L.map zAR.n)=i at *;have Q:=zW (∀W,Below w.heap.size w W→W.cell? ⟨r,1,none⟩=some (.slice pv L.length cv)) (fun W hb=>(h.below hb).c1.trans (by rw[ae]));have ab:=zW (∀W,Below w.heap.size w W→W.frozen? ⟨r,1,none⟩=false) fun W hb=>zAE (h.below hb).cells 1;have af:=zW (∀W,Below w.heap.size w W→OwnR W 127 3 (.slice pv L.length cv) L.length (L.flatMap zAR.cells)) (fun W hb=>by rw[←ae];exact(h.below hb).row);have H:=zh (cells_one h.core.one);have aa:=zW (∀w7 v7,Below w.heap.size w w7→OwnR w7 127 3 v7 (i+(L.length-(i+1))) ((L.flatMap zAR.cells).take (i*3)++(L.flatMap zAR.cells).drop ((i+1)*3))→(∀k,v7.ownBlock=some k→w.heap.size≤k)→RGone w r own {D with files:=del (nm s) D.files} (.returned (.tuple #[])) (w7.setCell ⟨r,1,none⟩ v7)) (fun w7 v7 hb h7 ak=>by
   have aj:(L.take i++L.drop (i+1)).length=i+(L.length-(i+1)):=by
    rw[List.length_append,List.length_take,List.length_drop];omega
   have ai:=(h.below hb).core.relist (v':=v7) (L':=L.take i++L.drop (i+1)) (by rw[aj,List.flatMap_append,cells_take,cells_drop];exact h7) (fun x hx=>by
    rcases List.mem_append.1 hx with hx|hx
    ·exact .inl (List.mem_of_mem_take hx)
    ·exact .inl (List.mem_of_mem_drop hx)) (fun k hk ho=>by
     have h1:=ak k hk;have h2:=h.olt k ho;omega)
   exact⟨rfl,_,_,_,ai.full rfl rfl ag al,zCd hb (zDq (own:=fun k=>k=r) rfl),fun _ h=>.inl h,fun k hk=>hk.imp id (ak k)⟩)
  obtain⟨iF,S,V,U,X⟩:=info_parts (show(prog.info? 127).map (fun i=>(i.zero,i.size,i.bytes))=some (some (.agg #[.string ⟨#[]⟩,.slice none 0 0,.int .i64 0]),3,48) by kernel_rfl);have aq:∀W,(Instr.slice 116 (.slice pv L.length cv) none (some (.int .i64 (i:Int))) none).run prog W=.ok (.slice pv i cv) W:=fun W=>zB9 W underlying116 S pv _ cv i (by omega);have ar:∀W,(Instr.slice 116 (.slice pv L.length cv) (some (.int .i64 ((i:Int)+1))) none none).run prog W=.ok (.slice (if cv-(i+1)=0 then pv else pv.map fun x=>x.add ((i+1)*3)) (L.length-(i+1)) (cv-(i+1))) W:=fun W=>by
   have:=zFE (P:=prog) W underlying116 S pv L.length cv (i+1) (by omega) am;rw[U]at this;exact this
  have au:IntKind.i64.wrap ((i:Int)+1)=(i:Int)+1:=zFd (by omega) (by omega);have ac:=zW (∀W,Below w.heap.size w W→zAM W 3 (.slice pv i cv) i ((L.flatMap zAR.cells).take (i*3))) (fun W hb=>zAM.upto (OwnR.holds (af.o _ hb)) (by omega) cv);have T:=zW (∀W,Below w.heap.size w W→zAM W 3 (.slice (if cv-(i+1)=0 then pv else pv.map fun x=>x.add ((i+1)*3)) (L.length-(i+1)) (cv-(i+1))) (L.length-(i+1)) ((L.flatMap zAR.cells).drop ((i+1)*3))) (fun W hb=>OwnR.cut_from (af.o W hb) (by omega));generalize an:(if cv-(i+1)=0 then pv else pv.map fun x=>x.add ((i+1)*3))=pF at *;have ah:=zh ad;clear h hg al ad ag an hx;subst ae;generalize hN:L.length=N at *;clear hN
  go_enter func161,ntmps161
  go_wp2_with fail;refine ah.o.mono ?_;rintro e w3 ⟨rfl,q,rfl⟩;have X0:=zW (Below w.heap.size w (w.drewN q).drew) (⟨rfl,rfl,rfl,Nat.le_refl _,fun _ _=>rfl⟩);go_wp2_with fail;refine ord_start (fun _:World=>True) (n:=20) (by kernel_rfl) rfl trivial fun _=>?_;generalize (w.drewN q).drew=Wd at *;refine Pl [0,2,3,4,6,9,10,11,13,14] ?_
  iterate 10 (refine Pc rfl ?_;simp only[uZ])
  refine Pn ?_;refine ord_three 1 5 12 rfl rfl rfl (by kernel_rfl) (by rfl) (by rfl) (by rfl) (fun K d=>?_) (fun K d=>?_) (fun K d=>?_)
  ·go_wp2_with fail;have O:=zh (X0.o.alloc X0.o.size (.cells #[] 127));refine d.o _ _ trivial fun _=>?_;clear d
   try simp only[uZ]
   refine zCw 5 12 rfl rfl (by kernel_rfl) (by rfl) (by rfl) (fun K d=>?_) (fun K d=>?_)
   ·have E:=Q.o _ O.o;go_wp2_with fail;clear E;refine d.o _ _ trivial fun _=>?_;clear d
    try simp only[uZ]
    refine zBg 7 (v:=?v2x7) rfl (by kernel_rfl) (by kernel_rfl) (by kernel_rfl) (fun _ _ _ h=>h) (by rfl) trivial ?y2x7 ?_
    case y2x7=>(intro w I;clear I;go_simp;try with_reducible rfl)
    simp only[uZ];refine zCw 8 12 rfl rfl (by kernel_rfl) (by rfl) (by rfl) (fun K d=>?_) (fun K d=>?_)
    ·have C:=zBO Wd 127 3;have M:=ac.o _ O.o;refine zAn (.tmp 14) (.tmp 20) 116 (by rfl) 127 iF _ 3 48 underlying116 S V U X rfl (by decide) (.slice (some ⟨Wd.heap.size,0,none⟩) 0 0) 0 [] (by rfl) C (.slice pv i cv) i _ (by rfl) M (fun u Z=>H.o u (List.mem_of_mem_take Z)) (by unfold maxLen;omega) (by omega) ?_;clear C M;intro v6 w6 b l y;have R:=zh (O.o.grown l O.o.size (fun j e=>by have:=X0.o.size;simp[Value.ownBlock]at e;omega));have a:=zA2 (B:=w.heap.size) y (fun k hk=>by have:=X0.o.size;simp[Value.ownBlock]at hk;omega) O.o.size;rw[Nat.zero_add,List.nil_append]at b;obtain⟨p6,c6,rfl⟩:=OwnR.shape b;have G:=zh b;have p:=zh a;clear l y b a;refine d.o _ _ trivial fun _=>?_;clear d
     try simp only[uZ]
     refine oon 12 rfl fun K d=>?_;have E:=Q.o _ R.o;go_wp2_with fail;clear E;refine d.o _ _ trivial fun _=>?_;clear d
     try simp only[uZ]
     refine zBg 15 (v:=?v4x15) rfl (by kernel_rfl) (by kernel_rfl) (by kernel_rfl) (fun _ _ _ h=>h) (by rfl) trivial ?y4x15 ?_
     case y4x15=>(intro w I;clear I;go_simp;try with_reducible rfl)
     simp only[uZ];refine oon 16 rfl fun K d=>?_;have t:=T.o _ R.o;refine zAn (.tmp 21) (.tmp 28) 116 (by rfl) 127 iF _ 3 48 underlying116 S V U X rfl (by decide) (.slice p6 i c6) i _ (by rfl) G.o (.slice pF (N-(i+1)) (cv-(i+1))) (N-(i+1)) _ (by rfl) t (fun u Z=>H.o u (List.mem_of_mem_drop Z)) (by unfold maxLen;omega) (by omega) ?_;clear t
     intro v7 w7 c m z;have Y:=zh (R.o.grown m R.o.size p.o);have A:=zA2 (B:=w.heap.size) z p.o R.o.size;obtain⟨p7,c7,rfl⟩:=OwnR.shape c;have F:=zh (aa.o w7 _ Y.o c A);clear m z c A;refine d.o _ _ trivial fun _=>?_;clear d
     try simp only[uZ]
     refine Pl [17,18] ?_
     iterate 2 (refine Pc rfl ?_;simp only[uZ])
     refine Pn ?_;refine oon 19 rfl fun K d=>?_;have E:=Q.o _ Y.o;have J:=ab.o _ Y.o;go_wp2_with fail;clear E J;refine d.o _ _ trivial fun _=>?_;clear d
     try simp only[uZ]
     refine odn ?_;go_wp2_with fail
     go_end0
     exact F.o
    ·have E:=Q.o _ O.o;go_wp2_with fail;clear E;refine d.o _ _ trivial fun _=>?_;clear d
     try simp only[uZ]
     refine zBg 15 (v:=?v6x15) rfl (by kernel_rfl) (by kernel_rfl) (by kernel_rfl) (fun _ _ _ h=>h) (by rfl) trivial ?y6x15 ?_
     case y6x15=>(intro w I;clear I;go_simp;try with_reducible rfl)
     simp only[uZ];refine oon 8 rfl fun K d=>?_;have C:=zBO Wd 127 3;have M:=ac.o _ O.o;refine zAn (.tmp 14) (.tmp 20) 116 (by rfl) 127 iF _ 3 48 underlying116 S V U X rfl (by decide) (.slice (some ⟨Wd.heap.size,0,none⟩) 0 0) 0 [] (by rfl) C (.slice pv i cv) i _ (by rfl) M (fun u Z=>H.o u (List.mem_of_mem_take Z)) (by unfold maxLen;omega) (by omega) ?_;clear C M;intro v6 w6 b l y;have R:=zh (O.o.grown l O.o.size (fun j e=>by have:=X0.o.size;simp[Value.ownBlock]at e;omega));have a:=zA2 (B:=w.heap.size) y (fun k hk=>by have:=X0.o.size;simp[Value.ownBlock]at hk;omega) O.o.size;rw[Nat.zero_add,List.nil_append]at b;obtain⟨p6,c6,rfl⟩:=OwnR.shape b;have G:=zh b;have p:=zh a;clear l y b a;refine d.o _ _ trivial fun _=>?_;clear d
     try simp only[uZ]
     refine oon 16 rfl fun K d=>?_;have t:=T.o _ R.o;refine zAn (.tmp 21) (.tmp 28) 116 (by rfl) 127 iF _ 3 48 underlying116 S V U X rfl (by decide) (.slice p6 i c6) i _ (by rfl) G.o (.slice pF (N-(i+1)) (cv-(i+1))) (N-(i+1)) _ (by rfl) t (fun u Z=>H.o u (List.mem_of_mem_drop Z)) (by unfold maxLen;omega) (by omega) ?_;clear t
     intro v7 w7 c m z;have Y:=zh (R.o.grown m R.o.size p.o);have A:=zA2 (B:=w.heap.size) z p.o R.o.size;obtain⟨p7,c7,rfl⟩:=OwnR.shape c;have F:=zh (aa.o w7 _ Y.o c A);clear m z c A;refine d.o _ _ trivial fun _=>?_;clear d
     try simp only[uZ]
     refine Pl [17,18] ?_
     iterate 2 (refine Pc rfl ?_;simp only[uZ])
     refine Pn ?_;refine oon 19 rfl fun K d=>?_;have E:=Q.o _ Y.o;have J:=ab.o _ Y.o;go_wp2_with fail;clear E J;refine d.o _ _ trivial fun _=>?_;clear d
     try simp only[uZ]
     refine odn ?_;go_wp2_with fail
     go_end0
     exact F.o
   ·have E:=Q.o _ O.o;go_wp2_with fail;clear E;refine d.o _ _ trivial fun _=>?_;clear d
    try simp only[uZ]
    refine zBg 15 (v:=?v9x15) rfl (by kernel_rfl) (by kernel_rfl) (by kernel_rfl) (fun _ _ _ h=>h) (by rfl) trivial ?y9x15 ?_
    case y9x15=>(intro w I;clear I;go_simp;try with_reducible rfl)
    simp only[uZ];refine oon 5 rfl fun K d=>?_;have E:=Q.o _ O.o;go_wp2_with fail;clear E;refine d.o _ _ trivial fun _=>?_;clear d
    try simp only[uZ]
    refine zBg 7 (v:=?v10x7) rfl (by kernel_rfl) (by kernel_rfl) (by kernel_rfl) (fun _ _ _ h=>h) (by rfl) trivial ?y10x7 ?_
    case y10x7=>(intro w I;clear I;go_simp;try with_reducible rfl)
    simp only[uZ];refine oon 8 rfl fun K d=>?_;have C:=zBO Wd 127 3;have M:=ac.o _ O.o;refine zAn (.tmp 14) (.tmp 20) 116 (by rfl) 127 iF _ 3 48 underlying116 S V U X rfl (by decide) (.slice (some ⟨Wd.heap.size,0,none⟩) 0 0) 0 [] (by rfl) C (.slice pv i cv) i _ (by rfl) M (fun u Z=>H.o u (List.mem_of_mem_take Z)) (by unfold maxLen;omega) (by omega) ?_;clear C M;intro v6 w6 b l y;have R:=zh (O.o.grown l O.o.size (fun j e=>by have:=X0.o.size;simp[Value.ownBlock]at e;omega));have a:=zA2 (B:=w.heap.size) y (fun k hk=>by have:=X0.o.size;simp[Value.ownBlock]at hk;omega) O.o.size;rw[Nat.zero_add,List.nil_append]at b;obtain⟨p6,c6,rfl⟩:=OwnR.shape b;have G:=zh b;have p:=zh a;clear l y b a;refine d.o _ _ trivial fun _=>?_;clear d
    try simp only[uZ]
    refine oon 16 rfl fun K d=>?_;have t:=T.o _ R.o;refine zAn (.tmp 21) (.tmp 28) 116 (by rfl) 127 iF _ 3 48 underlying116 S V U X rfl (by decide) (.slice p6 i c6) i _ (by rfl) G.o (.slice pF (N-(i+1)) (cv-(i+1))) (N-(i+1)) _ (by rfl) t (fun u Z=>H.o u (List.mem_of_mem_drop Z)) (by unfold maxLen;omega) (by omega) ?_;clear t
    intro v7 w7 c m z;have Y:=zh (R.o.grown m R.o.size p.o);have A:=zA2 (B:=w.heap.size) z p.o R.o.size;obtain⟨p7,c7,rfl⟩:=OwnR.shape c;have F:=zh (aa.o w7 _ Y.o c A);clear m z c A;refine d.o _ _ trivial fun _=>?_;clear d
    try simp only[uZ]
    refine Pl [17,18] ?_
    iterate 2 (refine Pc rfl ?_;simp only[uZ])
    refine Pn ?_;refine oon 19 rfl fun K d=>?_;have E:=Q.o _ Y.o;have J:=ab.o _ Y.o;go_wp2_with fail;clear E J;refine d.o _ _ trivial fun _=>?_;clear d
    try simp only[uZ]
    refine odn ?_;go_wp2_with fail
    go_end0
    exact F.o
  ·have E:=Q.o _ X0.o;go_wp2_with fail;clear E;refine d.o _ _ trivial fun _=>?_;clear d
   try simp only[uZ]
   refine zBg 7 (v:=?v13x7) rfl (by kernel_rfl) (by kernel_rfl) (by kernel_rfl) (fun _ _ _ h=>h) (by rfl) trivial ?y13x7 ?_
   case y13x7=>(intro w I;clear I;go_simp;try with_reducible rfl)
   simp only[uZ];refine zCw 1 12 rfl rfl (by kernel_rfl) (by rfl) (by rfl) (fun K d=>?_) (fun K d=>?_)
   ·go_wp2_with fail;have O:=zh (X0.o.alloc X0.o.size (.cells #[] 127));refine d.o _ _ trivial fun _=>?_;clear d
    try simp only[uZ]
    refine zCw 8 12 rfl rfl (by kernel_rfl) (by rfl) (by rfl) (fun K d=>?_) (fun K d=>?_)
    ·have C:=zBO Wd 127 3;have M:=ac.o _ O.o;refine zAn (.tmp 14) (.tmp 20) 116 (by rfl) 127 iF _ 3 48 underlying116 S V U X rfl (by decide) (.slice (some ⟨Wd.heap.size,0,none⟩) 0 0) 0 [] (by rfl) C (.slice pv i cv) i _ (by rfl) M (fun u Z=>H.o u (List.mem_of_mem_take Z)) (by unfold maxLen;omega) (by omega) ?_;clear C M;intro v6 w6 b l y;have R:=zh (O.o.grown l O.o.size (fun j e=>by have:=X0.o.size;simp[Value.ownBlock]at e;omega));have a:=zA2 (B:=w.heap.size) y (fun k hk=>by have:=X0.o.size;simp[Value.ownBlock]at hk;omega) O.o.size;rw[Nat.zero_add,List.nil_append]at b;obtain⟨p6,c6,rfl⟩:=OwnR.shape b;have G:=zh b;have p:=zh a;clear l y b a;refine d.o _ _ trivial fun _=>?_;clear d
     try simp only[uZ]
     refine oon 12 rfl fun K d=>?_;have E:=Q.o _ R.o;go_wp2_with fail;clear E;refine d.o _ _ trivial fun _=>?_;clear d
     try simp only[uZ]
     refine zBg 15 (v:=?v16x15) rfl (by kernel_rfl) (by kernel_rfl) (by kernel_rfl) (fun _ _ _ h=>h) (by rfl) trivial ?y16x15 ?_
     case y16x15=>(intro w I;clear I;go_simp;try with_reducible rfl)
     simp only[uZ];refine oon 16 rfl fun K d=>?_;have t:=T.o _ R.o;refine zAn (.tmp 21) (.tmp 28) 116 (by rfl) 127 iF _ 3 48 underlying116 S V U X rfl (by decide) (.slice p6 i c6) i _ (by rfl) G.o (.slice pF (N-(i+1)) (cv-(i+1))) (N-(i+1)) _ (by rfl) t (fun u Z=>H.o u (List.mem_of_mem_drop Z)) (by unfold maxLen;omega) (by omega) ?_;clear t
     intro v7 w7 c m z;have Y:=zh (R.o.grown m R.o.size p.o);have A:=zA2 (B:=w.heap.size) z p.o R.o.size;obtain⟨p7,c7,rfl⟩:=OwnR.shape c;have F:=zh (aa.o w7 _ Y.o c A);clear m z c A;refine d.o _ _ trivial fun _=>?_;clear d
     try simp only[uZ]
     refine Pl [17,18] ?_
     iterate 2 (refine Pc rfl ?_;simp only[uZ])
     refine Pn ?_;refine oon 19 rfl fun K d=>?_;have E:=Q.o _ Y.o;have J:=ab.o _ Y.o;go_wp2_with fail;clear E J;refine d.o _ _ trivial fun _=>?_;clear d
     try simp only[uZ]
     refine odn ?_;go_wp2_with fail
     go_end0
     exact F.o
    ·have E:=Q.o _ O.o;go_wp2_with fail;clear E;refine d.o _ _ trivial fun _=>?_;clear d
     try simp only[uZ]
     refine zBg 15 (v:=?v18x15) rfl (by kernel_rfl) (by kernel_rfl) (by kernel_rfl) (fun _ _ _ h=>h) (by rfl) trivial ?y18x15 ?_
     case y18x15=>(intro w I;clear I;go_simp;try with_reducible rfl)
     simp only[uZ];refine oon 8 rfl fun K d=>?_;have C:=zBO Wd 127 3;have M:=ac.o _ O.o;refine zAn (.tmp 14) (.tmp 20) 116 (by rfl) 127 iF _ 3 48 underlying116 S V U X rfl (by decide) (.slice (some ⟨Wd.heap.size,0,none⟩) 0 0) 0 [] (by rfl) C (.slice pv i cv) i _ (by rfl) M (fun u Z=>H.o u (List.mem_of_mem_take Z)) (by unfold maxLen;omega) (by omega) ?_;clear C M;intro v6 w6 b l y;have R:=zh (O.o.grown l O.o.size (fun j e=>by have:=X0.o.size;simp[Value.ownBlock]at e;omega));have a:=zA2 (B:=w.heap.size) y (fun k hk=>by have:=X0.o.size;simp[Value.ownBlock]at hk;omega) O.o.size;rw[Nat.zero_add,List.nil_append]at b;obtain⟨p6,c6,rfl⟩:=OwnR.shape b;have G:=zh b;have p:=zh a;clear l y b a;refine d.o _ _ trivial fun _=>?_;clear d
     try simp only[uZ]
     refine oon 16 rfl fun K d=>?_;have t:=T.o _ R.o;refine zAn (.tmp 21) (.tmp 28) 116 (by rfl) 127 iF _ 3 48 underlying116 S V U X rfl (by decide) (.slice p6 i c6) i _ (by rfl) G.o (.slice pF (N-(i+1)) (cv-(i+1))) (N-(i+1)) _ (by rfl) t (fun u Z=>H.o u (List.mem_of_mem_drop Z)) (by unfold maxLen;omega) (by omega) ?_;clear t
     intro v7 w7 c m z;have Y:=zh (R.o.grown m R.o.size p.o);have A:=zA2 (B:=w.heap.size) z p.o R.o.size;obtain⟨p7,c7,rfl⟩:=OwnR.shape c;have F:=zh (aa.o w7 _ Y.o c A);clear m z c A;refine d.o _ _ trivial fun _=>?_;clear d
     try simp only[uZ]
     refine Pl [17,18] ?_
     iterate 2 (refine Pc rfl ?_;simp only[uZ])
     refine Pn ?_;refine oon 19 rfl fun K d=>?_;have E:=Q.o _ Y.o;have J:=ab.o _ Y.o;go_wp2_with fail;clear E J;refine d.o _ _ trivial fun _=>?_;clear d
     try simp only[uZ]
     refine odn ?_;go_wp2_with fail
     go_end0
     exact F.o
   ·have E:=Q.o _ X0.o;go_wp2_with fail;clear E;refine d.o _ _ trivial fun _=>?_;clear d
    try simp only[uZ]
    refine zBg 15 (v:=?v21x15) rfl (by kernel_rfl) (by kernel_rfl) (by kernel_rfl) (fun _ _ _ h=>h) (by rfl) trivial ?y21x15 ?_
    case y21x15=>(intro w I;clear I;go_simp;try with_reducible rfl)
    simp only[uZ];refine oon 1 rfl fun K d=>?_;go_wp2_with fail;have O:=zh (X0.o.alloc X0.o.size (.cells #[] 127));refine d.o _ _ trivial fun _=>?_;clear d
    try simp only[uZ]
    refine oon 8 rfl fun K d=>?_;have C:=zBO Wd 127 3;have M:=ac.o _ O.o;refine zAn (.tmp 14) (.tmp 20) 116 (by rfl) 127 iF _ 3 48 underlying116 S V U X rfl (by decide) (.slice (some ⟨Wd.heap.size,0,none⟩) 0 0) 0 [] (by rfl) C (.slice pv i cv) i _ (by rfl) M (fun u Z=>H.o u (List.mem_of_mem_take Z)) (by unfold maxLen;omega) (by omega) ?_;clear C M;intro v6 w6 b l y;have R:=zh (O.o.grown l O.o.size (fun j e=>by have:=X0.o.size;simp[Value.ownBlock]at e;omega));have a:=zA2 (B:=w.heap.size) y (fun k hk=>by have:=X0.o.size;simp[Value.ownBlock]at hk;omega) O.o.size;rw[Nat.zero_add,List.nil_append]at b;obtain⟨p6,c6,rfl⟩:=OwnR.shape b;have G:=zh b;have p:=zh a;clear l y b a;refine d.o _ _ trivial fun _=>?_;clear d
    try simp only[uZ]
    refine oon 16 rfl fun K d=>?_;have t:=T.o _ R.o;refine zAn (.tmp 21) (.tmp 28) 116 (by rfl) 127 iF _ 3 48 underlying116 S V U X rfl (by decide) (.slice p6 i c6) i _ (by rfl) G.o (.slice pF (N-(i+1)) (cv-(i+1))) (N-(i+1)) _ (by rfl) t (fun u Z=>H.o u (List.mem_of_mem_drop Z)) (by unfold maxLen;omega) (by omega) ?_;clear t
    intro v7 w7 c m z;have Y:=zh (R.o.grown m R.o.size p.o);have A:=zA2 (B:=w.heap.size) z p.o R.o.size;obtain⟨p7,c7,rfl⟩:=OwnR.shape c;have F:=zh (aa.o w7 _ Y.o c A);clear m z c A;refine d.o _ _ trivial fun _=>?_;clear d
    try simp only[uZ]
    refine Pl [17,18] ?_
    iterate 2 (refine Pc rfl ?_;simp only[uZ])
    refine Pn ?_;refine oon 19 rfl fun K d=>?_;have E:=Q.o _ Y.o;have J:=ab.o _ Y.o;go_wp2_with fail;clear E J;refine d.o _ _ trivial fun _=>?_;clear d
    try simp only[uZ]
    refine odn ?_;go_wp2_with fail
    go_end0
    exact F.o
  ·have E:=Q.o _ X0.o;go_wp2_with fail;clear E;refine d.o _ _ trivial fun _=>?_;clear d
   try simp only[uZ]
   refine zBg 15 (v:=?v25x15) rfl (by kernel_rfl) (by kernel_rfl) (by kernel_rfl) (fun _ _ _ h=>h) (by rfl) trivial ?y25x15 ?_
   case y25x15=>(intro w I;clear I;go_simp;try with_reducible rfl)
   simp only[uZ];refine zCw 1 5 rfl rfl (by kernel_rfl) (by rfl) (by rfl) (fun K d=>?_) (fun K d=>?_)
   ·go_wp2_with fail;have O:=zh (X0.o.alloc X0.o.size (.cells #[] 127));refine d.o _ _ trivial fun _=>?_;clear d
    try simp only[uZ]
    refine oon 5 rfl fun K d=>?_;have E:=Q.o _ O.o;go_wp2_with fail;clear E;refine d.o _ _ trivial fun _=>?_;clear d
    try simp only[uZ]
    refine zBg 7 (v:=?v27x7) rfl (by kernel_rfl) (by kernel_rfl) (by kernel_rfl) (fun _ _ _ h=>h) (by rfl) trivial ?y27x7 ?_
    case y27x7=>(intro w I;clear I;go_simp;try with_reducible rfl)
    simp only[uZ];refine oon 8 rfl fun K d=>?_;have C:=zBO Wd 127 3;have M:=ac.o _ O.o;refine zAn (.tmp 14) (.tmp 20) 116 (by rfl) 127 iF _ 3 48 underlying116 S V U X rfl (by decide) (.slice (some ⟨Wd.heap.size,0,none⟩) 0 0) 0 [] (by rfl) C (.slice pv i cv) i _ (by rfl) M (fun u Z=>H.o u (List.mem_of_mem_take Z)) (by unfold maxLen;omega) (by omega) ?_;clear C M;intro v6 w6 b l y;have R:=zh (O.o.grown l O.o.size (fun j e=>by have:=X0.o.size;simp[Value.ownBlock]at e;omega));have a:=zA2 (B:=w.heap.size) y (fun k hk=>by have:=X0.o.size;simp[Value.ownBlock]at hk;omega) O.o.size;rw[Nat.zero_add,List.nil_append]at b;obtain⟨p6,c6,rfl⟩:=OwnR.shape b;have G:=zh b;have p:=zh a;clear l y b a;refine d.o _ _ trivial fun _=>?_;clear d
    try simp only[uZ]
    refine oon 16 rfl fun K d=>?_;have t:=T.o _ R.o;refine zAn (.tmp 21) (.tmp 28) 116 (by rfl) 127 iF _ 3 48 underlying116 S V U X rfl (by decide) (.slice p6 i c6) i _ (by rfl) G.o (.slice pF (N-(i+1)) (cv-(i+1))) (N-(i+1)) _ (by rfl) t (fun u Z=>H.o u (List.mem_of_mem_drop Z)) (by unfold maxLen;omega) (by omega) ?_;clear t
    intro v7 w7 c m z;have Y:=zh (R.o.grown m R.o.size p.o);have A:=zA2 (B:=w.heap.size) z p.o R.o.size;obtain⟨p7,c7,rfl⟩:=OwnR.shape c;have F:=zh (aa.o w7 _ Y.o c A);clear m z c A;refine d.o _ _ trivial fun _=>?_;clear d
    try simp only[uZ]
    refine Pl [17,18] ?_
    iterate 2 (refine Pc rfl ?_;simp only[uZ])
    refine Pn ?_;refine oon 19 rfl fun K d=>?_;have E:=Q.o _ Y.o;have J:=ab.o _ Y.o;go_wp2_with fail;clear E J;refine d.o _ _ trivial fun _=>?_;clear d
    try simp only[uZ]
    refine odn ?_;go_wp2_with fail
    go_end0
    exact F.o
   ·have E:=Q.o _ X0.o;go_wp2_with fail;clear E;refine d.o _ _ trivial fun _=>?_;clear d
    try simp only[uZ]
    refine zBg 7 (v:=?v30x7) rfl (by kernel_rfl) (by kernel_rfl) (by kernel_rfl) (fun _ _ _ h=>h) (by rfl) trivial ?y30x7 ?_
    case y30x7=>(intro w I;clear I;go_simp;try with_reducible rfl)
    simp only[uZ];refine oon 1 rfl fun K d=>?_;go_wp2_with fail;have O:=zh (X0.o.alloc X0.o.size (.cells #[] 127));refine d.o _ _ trivial fun _=>?_;clear d
    try simp only[uZ]
    refine oon 8 rfl fun K d=>?_;have C:=zBO Wd 127 3;have M:=ac.o _ O.o;refine zAn (.tmp 14) (.tmp 20) 116 (by rfl) 127 iF _ 3 48 underlying116 S V U X rfl (by decide) (.slice (some ⟨Wd.heap.size,0,none⟩) 0 0) 0 [] (by rfl) C (.slice pv i cv) i _ (by rfl) M (fun u Z=>H.o u (List.mem_of_mem_take Z)) (by unfold maxLen;omega) (by omega) ?_;clear C M;intro v6 w6 b l y;have R:=zh (O.o.grown l O.o.size (fun j e=>by have:=X0.o.size;simp[Value.ownBlock]at e;omega));have a:=zA2 (B:=w.heap.size) y (fun k hk=>by have:=X0.o.size;simp[Value.ownBlock]at hk;omega) O.o.size;rw[Nat.zero_add,List.nil_append]at b;obtain⟨p6,c6,rfl⟩:=OwnR.shape b;have G:=zh b;have p:=zh a;clear l y b a;refine d.o _ _ trivial fun _=>?_;clear d
    try simp only[uZ]
    refine oon 16 rfl fun K d=>?_;have t:=T.o _ R.o;refine zAn (.tmp 21) (.tmp 28) 116 (by rfl) 127 iF _ 3 48 underlying116 S V U X rfl (by decide) (.slice p6 i c6) i _ (by rfl) G.o (.slice pF (N-(i+1)) (cv-(i+1))) (N-(i+1)) _ (by rfl) t (fun u Z=>H.o u (List.mem_of_mem_drop Z)) (by unfold maxLen;omega) (by omega) ?_;clear t
    intro v7 w7 c m z;have Y:=zh (R.o.grown m R.o.size p.o);have A:=zA2 (B:=w.heap.size) z p.o R.o.size;obtain⟨p7,c7,rfl⟩:=OwnR.shape c;have F:=zh (aa.o w7 _ Y.o c A);clear m z c A;refine d.o _ _ trivial fun _=>?_;clear d
    try simp only[uZ]
    refine Pl [17,18] ?_
    iterate 2 (refine Pc rfl ?_;simp only[uZ])
    refine Pn ?_;refine oon 19 rfl fun K d=>?_;have E:=Q.o _ Y.o;have J:=ab.o _ Y.o;go_wp2_with fail;clear E J;refine d.o _ _ trivial fun _=>?_;clear d
    try simp only[uZ]
    refine odn ?_;go_wp2_with fail
    go_end0
    exact F.o
end
section
variable {w:World} {r:Nat} {v:Value} {L:List zAR} {own:Nat→Prop} {D:zAA}
theorem rrem_calls (h:zAc w r v L own D)(s:ByteArray)(Q:s.size≤9223372036854775807) :
  Calls prog 82 #[.pointer (some ⟨r,0,none⟩),.string s] w (zCo w r own (D.remove [nm s])):=by
 have p:zAc (w.alloc (.cells #[.string s] 9)) r v L own D:=h.below ((Below.refl _ _).alloc (Nat.le_refl _) _);have b:=zCY p (some ⟨w.heap.size,0,none⟩) [s] 1 (zBa w s) (by simp) (by simpa using Q);simp only[List.map_cons,List.map_nil]at b;have y:D.remove [nm s]=D.each1 zAA.gRemove (nm s):=each_one _ _ _;rw[y]
 by_cases j:D.may [nm s]=0
 ·have d:=zBt p s;rw[h.is]at d;rw[j]at b;cases l:Sat.get (nm s) D.files with
  | none =>
   rw[l]at d;have g:zAA.each1 zAA.gRemove D (nm s)=(D,7):=by unfold zAA.each1;rw[if_neg (by rw[j];simp),l]
   rw[g];have z:=zh (fun q=>zBV h (zAt w (.cells #[.string s] 9) q) 7);have c:=zh b;have i:=zh d;clear h p b d j g l y
   go_enter func82,ntmps82
   go_wp2_with fail;refine c.o.mono ?_;rintro e w2 ⟨rfl,rfl⟩;go_wp2_with fail;refine i.o.mono ?_;rintro e w3 ⟨rfl,q,rfl⟩;go_wp2_with fail;go_ret;exact z.o q
  | some f =>
   rw[l]at d;have g:zAA.each1 zAA.gRemove D (nm s)=(zAA.done {D with files:=del (nm s) D.files},0):=by unfold zAA.each1;rw[if_neg (by rw[j];simp),l];rfl
   rw[g];have a:=zh (fun q=>zEd (h.below (zAt w (.cells #[.string s] 9) q)) s);have B:=zFW j;have n:=zW (∀q e w',RGone ((w.alloc (.cells #[.string s] 9)).drewN q) r own {D with files:=del (nm s) D.files} e w'→Calls prog 72 #[.pointer (some ⟨r,0,none⟩)] w' (zCo w r own (zAA.done {D with files:=del (nm s) D.files},0))) (fun q e w' C=>by
    obtain⟨-,own',v',L',E,A,-,R⟩:=C;have H:=zAt w (.cells #[.string s] 9) q;refine(zCy E B).mono fun T w2 M=>?_;have t:Chg own w w':=zCd H (A.mono fun k _ e=>by rw[e];exact h.or);exact zDf t (fun k O=>(R k O).imp id fun N=>Nat.le_trans H.size N) t.size M)
   have c:=zh b;have i:=zh d;clear h p b d j g l y
   go_enter func82,ntmps82
   go_wp2_with fail;refine c.o.mono ?_;rintro e w2 ⟨rfl,rfl⟩;go_wp2_with fail;refine i.o.mono ?_;rintro e w3 ⟨rfl,q,rfl⟩;go_wp2_with fail;refine(a.o q).mono ?_;intro e S F;have J:=zh (n.o q e S F);obtain⟨rfl,-⟩:=F;go_wp2_with fail;refine J.o.mono ?_;intro e U G;have I:=zh G;obtain⟨rfl,-⟩:=G;go_wp2_with fail;go_ret;exact I.o
 ·have g:zAA.each1 zAA.gRemove D (nm s)=(D,D.may [nm s]):=by unfold zAA.each1;rw[if_pos j]
  rw[g];have z:=zh (zBV h ((Below.refl _ _).alloc (Nat.le_refl _) (.cells #[.string s] 9)) (D.may [nm s]));have c:=zh b;generalize D.may [nm s]=m at *;have P:((m:Int) != 0)=true:=by simp;omega
  clear h p b g y
  go_enter func82,ntmps82
  go_wp2_with fail;refine c.o.mono ?_;rintro e w2 ⟨rfl,rfl⟩;go_wp2_with fail;go_ret;exact z.o
end
theorem put_del_same {α:Type}{L:List (Bs×α)}(h:Srt L){n:Bs}{f:α}(b:Sat.get n L=some f):Sat.put n f (del n L)=L:=by
 refine srt_ext (zBq (zCV h)) h fun m=>?_
 by_cases e:m=n
 ·subst e;rw[zBN (zCV h),b]
 ·rw[zBM (zCV h) f e,zCg h e]
section
variable {w:World} {r:Nat} {v:Value} {L:List zAR} {own:Nat→Prop} {D:zAA}
theorem rren_calls (h:zAc w r v L own D)(o s:ByteArray)(bV:o.size≤9223372036854775807)(bW:s.size≤9223372036854775807) :
  Calls prog 199 #[.pointer (some ⟨r,0,none⟩),.string o,.string s] w (zCo w r own (D.rename (nm o) (nm s))):=by
 have h1:zAc (w.alloc (.cells #[.string o,.string s] 9)) r v L own D:=h.below ((Below.refl _ _).alloc (Nat.le_refl _) _);have c:=zCY h1 (some ⟨w.heap.size,0,none⟩) [o,s] 2 (strs_two w o s) (by simp) (by simp;exact⟨bV,bW⟩);simp only[List.map_cons,List.map_nil]at c
 by_cases hm:D.may [nm o,nm s]=0
 ·have Q:=zBt h1 o;rw[h.is]at Q;rw[hm]at c;cases hg:Sat.get (nm o) D.files with
  | none =>
   rw[hg]at Q;have hR:D.rename (nm o) (nm s)=(D,7):=by unfold zAA.rename;rw[if_neg (by rw[hm];simp),hg]
   rw[hR];have Hf:=zh (fun q=>zBV h (zAt w (.cells #[.string o,.string s] 9) q) 7);have C:=zh c;have aw:=zh Q;clear h h1 c Q hm hR hg
   go_enter func199,ntmps199
   go_wp2_with fail;refine C.o.mono ?_;rintro e w2 ⟨rfl,rfl⟩;go_wp2_with fail;refine aw.o.mono ?_;rintro e w3 ⟨rfl,q,rfl⟩;go_wp2_with fail;go_ret;exact Hf.o q
  | some f =>
   rw[hg]at Q;have hR:D.rename (nm o) (nm s)=(zAA.done {D with files:=Sat.put (nm s) f (del (nm o) D.files) },0):=by unfold zAA.rename;rw[if_neg (by rw[hm];simp),hg]
   rw[hR];have bo:=zFW hm
   by_cases ar:nm o=nm s
   ·have hb:(o.toList==s.toList)=true:=by rw[ByteArray.toList_eq,ByteArray.toList_eq];exact beq_iff_eq.2 ar
    have hD:({D with files:=Sat.put (nm s) f (del (nm o) D.files) }:zAA)=D:=by rw[←ar,put_del_same h.ok.srt hg]
    rw[hD];have au:=zh (fun q=>(zCy (h.below (zAt w (.cells #[.string o,.string s] 9) q)) bo).mono fun e2 w2 h2 =>
     zDf (own:=own) (w:=w) ((Chg.of_below (zAt w (.cells #[.string o,.string s] 9) q)).mono fun _ _ h=>h.elim) (fun _ h=>.inl h) (zAt w (.cells #[.string o,.string s] 9) q).size h2)
    have C:=zh c;have aw:=zh Q;clear h h1 c Q hm hR hg hD ar
    go_enter func199,ntmps199
    go_wp2_with fail;refine C.o.mono ?_;rintro e w2 ⟨rfl,rfl⟩;go_wp2_with fail;refine aw.o.mono ?_;rintro e w3 ⟨rfl,q,rfl⟩;go_wp2_with fail;refine(au.o q).mono ?_;intro e w5 h5;have HE:=zh h5;obtain⟨rfl,-⟩:=h5;go_wp2_with fail;go_ret;exact HE.o
   ·have hb:(o.toList==s.toList)=false:=by
     rw[ByteArray.toList_eq,ByteArray.toList_eq,beq_eq_false_iff_ne];exact ar
    obtain⟨x,hx,ci,rfl⟩:=h.hit hg;have hN:zA6 (nm o) (L.map zAR.n)<L.length:=(List.getElem?_eq_some_iff.1 hx).1;rcases h.at with h0|⟨g,c0,ap,bT,-⟩
    ·rw[h0]at hN;simp at hN
    have bS:v.ownBlock=some g:=by rw[ap];rfl
    generalize zA6 (nm o) (L.map zAR.n)=i at *;have ah:=zW (∀W,Below w.heap.size w W→W.cell? ⟨r,1,none⟩=some (.slice (some ⟨g,0,none⟩) L.length c0)∧W.cell? ⟨g,i*3,none⟩=some (.string ⟨x.n.toArray⟩)∧W.cell? ⟨g,i*3+1,none⟩=some x.b∧W.cell? ⟨g,i*3+2,none⟩=some (.int .i64 (x.f.lasts:Int))) (fun W hb=>by
     have hW:=h.below hb;have hc:=hW.core.at bS hx;exact⟨hW.c1.trans (by rw[ap]),hc.1,hc.2.1,hc.2.2⟩)
    obtain⟨U,R,ex,-⟩:=zDd (h.data x (List.mem_of_getElem? hx));rw[ex]at ah;have H:=zh h;have bG:=zh (ok_rename h.ok hg (show okN (nm s)=true from List.all_eq_true.1 (zDm hm).2 (nm s) (by simp)));have C:=zh c;have aw:=zh Q;clear h h1 c Q hm hR hg bT;subst ap
    go_enter func199,ntmps199
    go_wp2_with fail;refine C.o.mono ?_;rintro e w2 ⟨rfl,rfl⟩;go_wp2_with fail;refine aw.o.mono ?_;rintro e w3 ⟨rfl,q,rfl⟩;have aG:=zh (zAt w (.cells #[.string o,.string s] 9) q);obtain⟨bL,bM,bN,bO⟩:=ah.o _ aG.o;generalize (w.alloc (.cells #[.string o,.string s] 9)).drewN q=W at *;have Hx:=zh hx;generalize br:x.f.data.length=S at *;generalize bq:x.f.lasts=la at *;have ce:=zh br;have bF:=zh bq;have bZ:=zh ar;have bB:=zh ex;clear ar hx br bq ex;go_wp2_with fail;have XF:=zh (aG.o.alloc aG.o.size (.cells #[.string s,.slice U S R,.int .i64 (la:Int)] 127));have aR:(W.alloc (.cells #[.string s,.slice U S R,.int .i64 (la:Int)] 127)).heap[W.heap.size]?=some (.cells #[.string s,.slice U S R,.int .i64 (la:Int)] 127 (0,0)):=zAI W _;have aU:W.heap.size≠r:=fun e=>by have h1:=H.o.olt r H.o.or;have h2:=aG.o.size;omega
    have aT:W.heap.size<(W.alloc (.cells #[.string s,.slice U S R,.int .i64 (la:Int)] 127)).heap.size:=by simp
    have V:=zh (And.intro aR (And.intro aU aT));clear aR aU aT;generalize W.heap.size=fb at *;have ab:=H.o.below XF.o;generalize W.alloc (.cells #[.string s,.slice U S R,.int .i64 (la:Int)] 127)=Wf at *;have bf:=zh (zEd ab o);clear ab bL bM bN bO;refine bf.o.mono ?_;rintro e w4 ⟨rfl,cd,v4,L4,aV,aN,aE,bt⟩;have X:=zh (And.intro aN (And.intro aE bt));have bg:=zh (zEd aV s);clear aV aN aE bt;go_wp2_with fail;refine bg.o.mono ?_;rintro e w5 ⟨rfl,J,v5,d,G,aO,aF,bu⟩;have G:zAc w5 r v5 d J {D with files:=del (nm s) (del (nm o) D.files) }:=G;have aD:=zBt G s;have bc:Sat.get (nm s) (del (nm s) (del (nm o) D.files))=none:=zCX _ _;rw[G.is,show Sat.get (nm s) ({D with files:=del (nm s) (del (nm o) D.files) }:zAA).files=none from bc]at aD;have z:=zh G;have av:=zh (And.intro aO (And.intro aF bu));have bh:=zh aD;have bE:=zh bc;clear G aO aF bu aD bc;go_wp2_with fail;refine bh.o.mono ?_;rintro e w6 ⟨rfl,q6,rfl⟩;have aA:=ins_at (nm s) x.f z.o.ok.srt bE.o;have bd:zA6 (nm s) (d.map zAR.n)≤d.length:=by have:=spotN_le (nm s) (d.map zAR.n);rwa[List.length_map]at this
    rw[←z.o.names,z.o.files]at aA;generalize zA6 (nm s) (d.map zAR.n)=j at *;have bb:Below w5.heap.size w5 (w5.drewN q6):=⟨rfl,rfl,rfl,Nat.le_refl _,fun _ _=>rfl⟩;have A:=zh (z.o.below bb);obtain⟨pv,cv,ap⟩:=z.o.slice;have bK:d.length≤cv:=by
     rcases z.o.at with h0|⟨g,c0,e,hc,-⟩
     ·rw[h0];exact Nat.zero_le _
     ·rw[ap]at e;cases e;exact hc
    have cb:=z.o.fit
    -- the new file's block and its row are as they were
    have bn:(w5.drewN q6).heap[fb]?=some (.cells #[.string s,.slice U S R,.int .i64 (la:Int)] 127 (0,0)):=by
     have h4:=X.o.1.block fb V.o.2.2 V.o.2.1;have h5:=av.o.1.block fb (Nat.lt_of_lt_of_le V.o.2.2 X.o.1.size) V.o.2.1;exact h5.trans (h4.trans V.o.1)
    have aW:zAj (w5.drewN q6) 5 (.slice U S R) x.f.data∧∀k,(Value.slice U S R).ownBlock=some k→J k∧k≠r:=by
     have bv:=List.mem_of_getElem? Hx.o;have ab:=H.o.below XF.o;have aq:=H.o.ob x bv;have bm:=ab.data x bv;rw[bB.o]at aq bm;refine⟨OwnR.keep bm fun k I=>?_,fun k I=>⟨av.o.2.1 k (X.o.2.1 k (aq k I).1),(aq k I).2.1⟩⟩;have bp:=ab.olt k (aq k I).1;have h4:=X.o.1.block k bp (aq k I).2.1;have h5:=av.o.1.block k (Nat.lt_of_lt_of_le bp X.o.1.size) (aq k I).2.1;exact h5.trans h4
    have aP:Chg (fun k=>k=r) w (w5.drewN q6):=by
     have h4:=zCd (own:=fun k=>k=r) XF.o X.o.1;have h5:=h4.trans av.o.1 fun _ _ h=>h;exact h5.trans ((Chg.of_below bb).mono (T:=fun _=>False) fun _ _ h=>h) fun _ _ h=>h.elim
    have bw:∀k,J k→own k∨w.heap.size≤k:=fun k I=>by
     rcases av.o.2.2 k I with h|h
     ·rcases X.o.2.2 k h with h|h
      ·exact .inl h
      ·exact .inr (Nat.le_trans XF.o.size h)
     ·exact .inr (Nat.le_trans (Nat.le_trans XF.o.size X.o.1.size) h)
    have Hq:=zh (And.intro bn (And.intro aW (And.intro aP bw)));have be:=zh aA;clear bn aW aP bw aA bb;generalize w5.drewN q6=F at *;subst ap;have az:fb<F.heap.size:=zAB Hq.o.1;have bC:=zW (∀E,Below F.heap.size F E→E.cell? ⟨fb,0,none⟩=some (.string s)∧E.cell? ⟨fb,1,none⟩=some (.slice U S R)∧E.cell? ⟨fb,2,none⟩=some (.int .i64 (la:Int))) (fun E hb =>
     ⟨(hb.cell (p:=⟨fb,0,none⟩) az).trans (zAG Hq.o.1 rfl),(hb.cell (p:=⟨fb,1,none⟩) az).trans (zAG Hq.o.1 rfl),(hb.cell (p:=⟨fb,2,none⟩) az).trans (zAG Hq.o.1 rfl)⟩)
    have aX:=zW (∀E,Below F.heap.size F E→E.cell? ⟨r,1,none⟩=some (.slice pv d.length cv)) fun E hb=>(A.o.below hb).c1;have bD:=zW (∀E,Below F.heap.size F E→E.frozen? ⟨r,1,none⟩=false) fun E hb=>zAE (A.o.below hb).cells 1;have aL:=zW (∀E,Below F.heap.size F E→OwnR E 127 3 (.slice pv d.length cv) d.length (d.flatMap zAR.cells)) fun E hb=>(A.o.below hb).row;have aK:=zh (cells_one A.o.core.one);obtain⟨iF,ax,aZ,aH,ba⟩:=info_parts (show(prog.info? 127).map (fun i=>(i.zero,i.size,i.bytes))=some (some (.agg #[.string ⟨#[]⟩,.slice none 0 0,.int .i64 0]),3,48) by kernel_rfl);have cg:∀W,(Instr.slice 116 (.slice pv d.length cv) none (some (.int .i64 (j:Int))) none).run prog W=.ok (.slice pv j cv) W:=fun W=>zB9 W underlying116 ax pv _ cv j (by omega);have ch:∀W,(Instr.slice 116 (.slice pv d.length cv) (some (.int .i64 (j:Int))) none none).run prog W=.ok (.slice (if cv-j=0 then pv else pv.map fun x=>x.add (j*3)) (d.length-j) (cv-j)) W:=fun W=>by
     have:=zFE (P:=prog) W underlying116 ax pv d.length cv j bd bK;rw[aH]at this;exact this
    have aY:=zW (∀E,Below F.heap.size F E→zAM E 3 (.slice (if cv-j=0 then pv else pv.map fun x=>x.add (j*3)) (d.length-j) (cv-j)) (d.length-j) ((d.flatMap zAR.cells).drop (j*3))) fun E hb=>OwnR.cut_from (aL.o E hb) bd;generalize bU:(if cv-j=0 then pv else pv.map fun x=>x.add (j*3))=pF at *;have X1:=zh ((Below.refl F.heap.size F).alloc (Nat.le_refl _) (.cells #[] 127));have bk:=aX.o _ X1.o;have bH:=zW (zAM (F.alloc (.cells #[] 127)) 3 (.slice pv j cv) j ((d.flatMap zAR.cells).take (j*3))) (zAM.upto (OwnR.holds (aL.o _ X1.o)) bd cv);clear bU;generalize bj:d.length=N at *;have HN:=zh bj;clear bj;go_wp2_with (first|(at_builtin;refine zAP (F.alloc (.cells #[] 127)) rfl (.tmp 56) (.tmp 62) 116 rfl 127 iF _ 3 48 underlying116 ax aZ aH ba rfl (by decide) (.slice (some ⟨F.heap.size,0,none⟩) 0 0) 0 [] rfl (zBO F _ 3) (.slice pv j cv) j _ rfl bH.o (fun u hu=>aK.o u (List.mem_of_mem_take hu)) (by unfold maxLen;omega) (by omega) ?_;intro cj aJ t Z ak;rw[Nat.zero_add,List.nil_append]at t;have hX:=X1.o.grown Z X1.o.size (fun j e=>by simp[Value.ownBlock]at e;omega);have l:=zA2 (B:=F.heap.size) ak (fun k I=>by simp[Value.ownBlock]at I;omega) X1.o.size;obtain⟨bX,bI,rfl⟩:=OwnR.shape t;have ac:=zh (And.intro hX (And.intro t l));obtain⟨bP,bQ,bR⟩:=bC.o _ ac.o.1;clear t Z ak hX l bk)|(at_builtin;refine zAP (aJ.alloc (.cells #[.string s,.slice U S R,.int .i64 (la:Int)] 127)) rfl (.tmp 64) (.tmp 66) 116 rfl 127 iF _ 3 48 underlying116 ax aZ aH ba rfl (by decide) (.slice bX j bI) j _ rfl (OwnR.keep ac.o.2.1 fun j hj=>zEt aJ _ (OwnR.lt ac.o.2.1 hj)) (.slice (some ⟨aJ.heap.size,0,none⟩) 1 1) 1 [.string s,.slice U S R,.int .i64 (la:Int)] rfl (zE5 aJ #[.string s,.slice U S R,.int .i64 (la:Int)] _ 3 1 1 rfl rfl _ _) (fun u hu=>by simp at hu;rcases hu with rfl|rfl|rfl<;>rfl) (by unfold maxLen;omega) (by omega) ?_;intro ck bA M K al;have aI:=ac.o.1.alloc ac.o.1.size (.cells #[.string s,.slice U S R,.int .i64 (la:Int)] 127);have hX:=aI.grown K aI.size (fun j hj=>ac.o.2.2 j hj);have l:=zA2 (B:=F.heap.size) al ac.o.2.2 aI.size;obtain⟨bY,bJ,rfl⟩:=OwnR.shape M;have Y:=zh (And.intro hX (And.intro M l));have bl:=aX.o _ Y.o.1;clear M K al hX l aI bP bQ bR)|(at_builtin;refine zAP bA rfl (.tmp 69) (.tmp 75) 116 rfl 127 iF _ 3 48 underlying116 ax aZ aH ba rfl (by decide) (.slice bY (j+1) bJ) (j+1) _ rfl Y.o.2.1 (.slice pF (N-j) (cv-j)) (N-j) _ rfl (aY.o bA Y.o.1) (fun u hu=>aK.o u (List.mem_of_mem_drop hu)) (by unfold maxLen;omega) (by omega) ?_;intro cl ag O aa am;have hX:=Y.o.1.grown aa Y.o.1.size (fun j hj=>Y.o.2.2 j hj);have l:=zA2 (B:=F.heap.size) am Y.o.2.2 Y.o.1.size;obtain⟨af,ad,rfl⟩:=OwnR.shape O;have ao:=zh (And.intro hX (And.intro O l));have ca:=aX.o _ ao.o.1;have cc:=bD.o _ ao.o.1;clear O aa am hX l bl))
    have an:=ao.o.1;have ai:zAz ag r (.slice pv N cv) d J D.room D.fuse:=(A.o.below an).core;have es:Value.string s=encStr (nm s):=by rw[enc_str];simp[nm]
    have aB:(d.take j++(⟨nm s,.slice U S R,x.f⟩:zAR)::d.drop j).length=j+1+(N-j):=by
     rw[List.length_append,List.length_take,List.length_cons,List.length_drop,HN.o];omega
    have aC:OwnR ag 127 3 (.slice af (j+1+(N-j)) ad) (d.take j++(⟨nm s,.slice U S R,x.f⟩:zAR)::d.drop j).length ((d.take j++(⟨nm s,.slice U S R,x.f⟩:zAR)::d.drop j).flatMap zAR.cells):=by
     rw[aB,List.flatMap_append,List.flatMap_cons,cells_take,cells_drop,←List.append_assoc]
     show OwnR ag _ 3 _ _ (((d.flatMap zAR.cells).take (j*3)++[encStr (nm s),.slice U S R,.int .i64 (x.f.lasts:Int)])++_)
     rw[←es,bF.o];exact ao.o.2.1
    have aj:∀k,(Value.slice af (j+1+(N-j)) ad).ownBlock=some k→¬J k:=fun k I ho=>by
     have h1:=ao.o.2.2 k I;have h2:=A.o.olt k ho;omega
    have ay:=ai.relist aC (fun y hy=>by
     rcases List.mem_append.1 hy with hy|hy
     ·exact .inl (List.mem_of_mem_take hy)
     ·rcases List.mem_cons.1 hy with rfl|hy
      ·exact .inr ⟨OwnR.keep Hq.o.2.1.1 fun k I=>an.block k (OwnR.lt Hq.o.2.1.1 I),Hq.o.2.1.2⟩
      ·exact .inl (List.mem_of_mem_drop hy)) aj
    have hF:Sat.put (nm s) x.f (del (nm o) D.files)=(d.take j++(⟨nm s,.slice U S R,x.f⟩:zAR)::d.drop j).map zAR.key:=by
     have e1:Sat.put (nm s) x.f (del (nm o) D.files)=ins (nm s,x.f) (del (nm s) (del (nm o) D.files)):=rfl;have e2:del (nm s) (del (nm o) D.files)=d.map zAR.key:=A.o.files;rw[e1,e2,be.o,List.map_append,List.map_cons,List.map_take,List.map_drop];rfl
    have aS:zAc (ag.setCell ⟨r,1,none⟩ (.slice af (j+1+(N-j)) ad)) r (.slice af (j+1+(N-j)) ad) _ _ {D with files:=Sat.put (nm s) x.f (del (nm o) D.files) }:=ay.full rfl rfl hF bG.o;have aM:Chg (fun k=>k=r) w (ag.setCell ⟨r,1,none⟩ (.slice af (j+1+(N-j)) ad)) :=
     (Hq.o.2.2.1.trans ((Chg.of_below an).mono (T:=fun _=>False) fun _ _ h=>h) fun _ _ h=>h.elim).trans (zDq (own:=fun k=>k=r) (w:=ag) (a:=⟨r,1,none⟩) rfl) fun _ _ h=>h
    have ae:Chg own w (ag.setCell ⟨r,1,none⟩ (.slice af (j+1+(N-j)) ad)):=aM.mono fun k _ e=>by rw[e];exact H.o.or
    have bs:=Hq.o.2.2.1.size;have aQ:∀k,(J k∨(Value.slice af (j+1+(N-j)) ad).ownBlock=some k)→own k∨w.heap.size≤k:=fun k I=>by
     rcases I with I|I
     ·exact Hq.o.2.2.2 k I
     ·exact .inr (Nat.le_trans bs (ao.o.2.2 k I))
    have au:=zh ((zCy aS bo).mono fun e2 w2 h2=>zDf ae aQ ae.size h2);clear an ai es aB aC aj ay hF aS aM ae bs aQ;refine au.o.mono ?_;intro e cm bi;have HE:=zh bi;obtain⟨rfl,-⟩:=bi;go_wp2_with fail;go_ret;exact HE.o
 ·have hR:D.rename (nm o) (nm s)=(D,D.may [nm o,nm s]):=by unfold zAA.rename;rw[if_pos hm]
  rw[hR];have Hf:=zh (zBV h ((Below.refl _ _).alloc (Nat.le_refl _) (.cells #[.string o,.string s] 9)) (D.may [nm o,nm s]));have C:=zh c;generalize D.may [nm o,nm s]=m at *;have cf:((m:Int) != 0)=true:=by simp;omega
  clear h h1 c hR
  go_enter func199,ntmps199
  go_wp2_with fail;refine C.o.mono ?_;rintro e w2 ⟨rfl,rfl⟩;go_wp2_with fail;go_ret;exact Hf.o
end
end Go.Proofs.YtapfnehdgailmaaGreat
