/- What the program's functions and the document's do, and plain laws, for PJournalTwice. -/
import Derived.Test.YtapfnehdgailmaaGreatKA
import Derived.Test.YtapfnehdgailmaaGreatKD
import Derived.Test.YtapfnehdgailmaaGreatKE
import Derived.Test.YtapfnehdgailmaaGreatKH
import Derived.Test.YtapfnehdgailmaaGreatKI
import Derived.Test.YtapfnehdgailmaaGreatKK
import Derived.Test.YtapfnehdgailmaaGreatKL
import Derived.Test.YtapfnehdgailmaaGreatKM
open Go.Proofs.Tryz
set_option maxRecDepth 100000
set_option maxHeartbeats 64000000
namespace Go.Proofs.YtapfnehdgailmaaGreat
open Go.RowKit Go.Sat Go.Maps
def RLst (R:Rd)(l:List Int)(b:Rd):Prop :=
 (R.num.1≤17∧(Rd.ints R.num.1 R.num.2).2.bad=false∧l=(Rd.ints R.num.1 R.num.2).1∧b=(Rd.ints R.num.1 R.num.2).2) ∨
 (¬(R.num.1≤17∧(Rd.ints R.num.1 R.num.2).2.bad=false)∧b.bad=true)
theorem num_stays {R:Rd}(h:R.bad=true):R.num.2.bad=true:=by
 unfold Rd.num
 split
 ·exact h
 ·rfl
theorem ints_stays:∀(n k:Nat) (R:Rd),k≤n→(Rd.ints k R).2.bad=true→(Rd.ints n R).2.bad=true
 | 0,k,R,hk,h=>by
  obtain rfl:k=0:=by omega
  exact h
 | n+1,k,R,hk,h=>by
  by_cases e:k=n+1
  ·rw[←e];exact h
  ·rw[zD2];exact num_stays (ints_stays n k R (by omega) h)
def LstTold (A:Nat→Prop)(w:World)(r:Nat)(R:Rd)(e:Ending)(w':World):Prop :=
 ∃v l R',e=.returned v∧RLst R l R'∧zCm w' v l∧(∀k,v.ownBlock=some k→w.heap.size≤k)∧l.length≤18∧(∀z∈l,0≤z∧z≤4611686018427387904)∧RdY A w' r R'∧Chg (fun k=>k=r) w w'
theorem lst_round {A:Nat→Prop}{w wr w3 c:World}{r k v:Nat}{m l:Value}{zs:List Int}{s:Rd}{o:Obj}(h:∀k,A k→k<w.heap.size∧k≠r)(D:r<w.heap.size)(b:∀y,m.ownBlock=some y→w.heap.size≤y∧y≠r)(f:Chg (fun k=>k=r) w wr)
  (p:RdY A w3 r s) (d:Chg (fun k=>k=r) wr w3) (n:zs.length=k) (j:OwnR c 3 1 l (k+1) (zFq zs++[.int .i64 (v:Int)])) (B:(w3.alloc o).grownBy c m.ownBlock) (i:l.ownBlock=m.ownBlock∨∃g,l.ownBlock=some g∧(w3.alloc o).heap.size≤g) :
  zCm c l (zs++[(v:Int)])∧(∀y,l.ownBlock=some y→w.heap.size≤y∧y≠r)∧RdY A c r s∧Chg (fun k=>k=r) w c:=by
 have E:=f.size;have F:=d.size;have z:=zAv w3 o;have G:=z.size;have t:Chg (fun k=>some k=m.ownBlock) w3 c:=((Chg.of_below z).mono fun _ _ e=>e.elim).trans (Chg.of_grown B) fun _ _ e=>e;refine⟨?_,fun y q=>?_,p.chg t (fun e=>(b r e.symm).2 rfl) (fun x a e=>by have H:=(b x e.symm).1;have I:=(h x a).1;omega),(f.trans d fun _ _ e=>e).trans t fun x a e=>by have:=(b x e.symm).1;omega⟩
 ·unfold zCm zFq;rw[List.length_append,List.map_append,n];exact j
 ·rcases i with e|⟨g,e,C⟩
  ·exact b y (e▸q)
  ·rw[e]at q;cases q;exact⟨by omega,by omega⟩
theorem rlst_calls {w:World}{r:Nat}{R:Rd}{A:Nat→Prop}(h:RdY A w r R)(hA:∀k,A k→k<w.heap.size∧k≠r) :
  Calls prog 85 #[.pointer (some ⟨r,0,none⟩)] w (LstTold A w r R):=by
 obtain⟨i0,hi,aa,ab,ac⟩:=info_parts (show(prog.info? 3).map (fun i=>(i.zero,i.size,i.bytes))=some (some (.int .i64 0),1,8) by kernel_rfl);have Hn:=zh (zBC h);have K:=h.lt;have HA:=zh hA;have HR:=zW (∀l J,((R.num.1≤17∧(Rd.ints R.num.1 R.num.2).2.bad=false∧l=(Rd.ints R.num.1 R.num.2).1∧J=(Rd.ints R.num.1 R.num.2).2)∨(¬(R.num.1≤17∧(Rd.ints R.num.1 R.num.2).2.bad=false)∧J.bad=true))→RLst R l J) fun _ _ h=>h;have an:=Rd.num_le R;clear h hA
 go_enter func85,ntmps85
 go_wp2_with fail;refine Hn.o.mono ?_;rintro e w1 ⟨rfl,X,V⟩;have ag:=zh X;have ae:=zh V;clear X V;generalize R.num.1=n at *;generalize R.num.2=a at *;go_wp2_with fail
 go_loopw [4,5] (fun x i wr=>∃(k:Nat) (E:Value) (p:Rd),k≤n∧k≤18∧i=.int .i64 k∧E=x∧(k≤17∧p=(Rd.ints k a).2∨k=18∧p=Rd.fail)∧zCm wr E (Rd.ints k a).1∧(∀y,E.ownBlock=some y→w.heap.size≤y∧y≠r)∧RdY A wr r p∧Chg (fun k=>k=r) w wr) (fun _ i _=>n-(intOf i).toNat)
 case atStart=>exact⟨0,_,a,Nat.zero_le _,by omega,rfl,rfl,.inl ⟨by omega,rfl⟩,OwnR.nil _ _ _,fun y F=>(by cases F),ag.o,ae.o⟩
 case round =>
  obtain⟨k,E,p,hk,al,rfl,rfl,q,f,j,t,C⟩:=hrel;have O:=t.c1;have P:=zC4 k a;have L:=zW ((∀J,(k=n∧k≤17∧p.bad=false∧J=p)∨(p.bad=true∧J=p)→LstTold A w r R (.returned E) wr)) (fun J ai=>by
   refine⟨E,(Rd.ints k a).1,p,rfl,HR.o _ _ ?_,f,fun y F=>(j y F).1,by omega,ints_mem k a,t,C⟩;rcases ai with⟨rfl,ah,s,-⟩|⟨s,-⟩
   ·rcases q with⟨-,rfl⟩|⟨e,-⟩
    ·exact .inl ⟨ah,s,rfl,rfl⟩
    ·omega
   ·refine .inr ⟨fun h2=>?_,s⟩;rcases q with⟨-,rfl⟩|⟨e,-⟩
    ·have:=ints_stays n k a hk s;rw[h2.2]at this;cases this
    ·omega)
  by_cases ao:k<n
  ·cases s:p.bad with
   | true =>
    rw[s]at O;have m:=zh (L.o p (.inr ⟨s,rfl⟩));clear f j t C;go_wp2_with fail;go_ret;exact m.o
   | false =>
    rw[s]at O;have ak:k≤17:=by
     rcases q with⟨h,-⟩|⟨-,rfl⟩
     ·exact h
     ·cases s
    obtain rfl:p=(Rd.ints k a).2:=by
     rcases q with⟨-,h⟩|⟨h,-⟩
     ·exact h
     ·omega
    have af:=zh (zBC t);have I:=zh (zD2 k a);have T:=zh (And.intro f (And.intro j C));have G:=zW (OwnR wr 3 1 E k (zFq (Rd.ints k a).1)) (by have:=f;unfold zCm at this;rwa[P]at this);have U:=zh P;have am:=Rd.num_le (Rd.ints k a).2;clear f j t C P q;generalize hv:(Rd.ints k a).2.num.1=v at *;have Hv:=zh hv;clear hv;go_wp2_with fail;refine af.o.mono ?_;rintro e w3 ⟨rfl,Y,M⟩;have S:=zh Y;have Q:=zh M;rw[Hv.o];have g:=zh (G.o.keep fun y F=>M.block y (OwnR.lt G.o F) fun e=>(T.o.2.1 y F).2 e);clear Y M
    by_cases aj:16<k
    ·have W:decide ((16:Int)<(k:Int))=true:=decide_eq_true (by omega);go_wp2_with (at_builtin;have B:=g.o.keep (w':=w3.alloc (.cells #[.int .i64 (v:Int)] 3)) (fun z hz=>(zAv w3 _).block z (OwnR.lt g.o hz));have D:=zDL w3 (.int .i64 (v:Int)) 3 (0,0);refine zAP _ rfl (.tmp 20) (.tmp 23) 38 rfl 3 i0 (.int .i64 0) 1 8 underlying38 hi aa ab ac rfl (by decide) E k _ rfl B (.slice (some ⟨w3.heap.size,0,none⟩) 1 1) 1 _ rfl D (by simp[Value.oneCell']) (by unfold maxLen;omega) (by omega) ?_;clear B D;intro v4 w4 b c d;go_loud (have m:=zh (lst_round (v:=v) HA.o K T.o.2.1 T.o.2.2 S.o Q.o U.o b c d);have ad:=zh (zEc m.o.2.2.1);clear c d;obtain⟨p4,q4,rfl⟩:=OwnR.shape b;clear b))
     refine ad.o.mono ?_;rintro e w5 ⟨rfl,Z,N⟩;have H:=zh (And.intro Z (And.intro (m.o.2.2.2.trans N fun _ _ e=>e) (show zCm w5 (.slice p4 (k+1) q4) _ from OwnR.keep m.o.1 fun y F=>N.block y (OwnR.lt m.o.1 F) fun e=>(m.o.2.1 y F).2 e)));clear Z N;go_wp2_with fail;go_roundw
     case rel=>exact⟨k+1,_,_,by omega,by omega,by go_num,rfl,.inr ⟨by omega,rfl⟩,by rw[I.o];exact H.o.2.2,m.o.2.1,H.o.1,H.o.2.1⟩
     case measure=>simp[intOf];omega
    ·have W:decide ((16:Int)<(k:Int))=false:=decide_eq_false (by omega);go_wp2_with (at_builtin;have B:=g.o.keep (w':=w3.alloc (.cells #[.int .i64 (v:Int)] 3)) (fun z hz=>(zAv w3 _).block z (OwnR.lt g.o hz));have D:=zDL w3 (.int .i64 (v:Int)) 3 (0,0);refine zAP _ rfl (.tmp 20) (.tmp 23) 38 rfl 3 i0 (.int .i64 0) 1 8 underlying38 hi aa ab ac rfl (by decide) E k _ rfl B (.slice (some ⟨w3.heap.size,0,none⟩) 1 1) 1 _ rfl D (by simp[Value.oneCell']) (by unfold maxLen;omega) (by omega) ?_;clear B D;intro v4 w4 b c d;go_loud (have m:=zh (lst_round (v:=v) HA.o K T.o.2.1 T.o.2.2 S.o Q.o U.o b c d);clear c d;obtain⟨p4,q4,rfl⟩:=OwnR.shape b;clear b))
     go_roundw
     case rel=>exact⟨k+1,_,_,by omega,by omega,by go_num,rfl,.inl ⟨by omega,by rw[I.o]⟩,by rw[I.o];exact m.o.1,m.o.2.1,m.o.2.2.1,m.o.2.2.2⟩
     case measure=>simp[intOf];omega
  ·obtain rfl:k=n:=by omega
   have m:=zW (LstTold A w r R (.returned E) wr) (by
    cases s:p.bad with
    | true=>exact L.o p (.inr ⟨s,rfl⟩)
    | false =>
     refine L.o p (.inl ⟨rfl,?_,s,rfl⟩);rcases q with⟨h,-⟩|⟨-,rfl⟩
     ·exact h
     ·cases s)
   clear f j t C q O;go_wp2_with fail;go_ret;exact m.o
theorem zDi {R:Rd}:R.whole=true↔R.bad=false∧R.rest=[]:=by
 unfold Rd.whole;rw[Bool.and_eq_true,List.isEmpty_iff];simp
theorem grp7 {l:List Int}(h:zAX l=true):l.length≤7:=by
 unfold zAX at h;rw[Bool.and_eq_true,decide_eq_true_eq]at h;exact h.2.2
theorem ent_nodes7 {e:Ent}(h:zA1 e=true):e.nodes.length≤7:=by
 by_cases b:e.kind=0
 ·rw[ent_zero b,Bool.and_eq_true,decide_eq_true_eq]at h;omega
 ·by_cases c:e.kind=1
  ·rw[ent_one c,Bool.and_eq_true,decide_eq_true_eq]at h;omega
  ·by_cases d:e.kind=2
   ·rw[ent_two d,Bool.and_eq_true,Bool.and_eq_true]at h;exact grp7 h.2.2
   ·rw[ent_none b c d]at h;cases h
theorem lst_any {R b:Rd}{l:List Int}(h:RLst R l b)(c:b.bad=false)(d:l.length≤7):R.grp anyG=(l,b):=by
 rcases h with⟨-,-,rfl,rfl⟩|⟨-,h⟩
 ·rw[zC4]at d;rw[zDb (by omega)];rfl
 ·rw[h]at c;cases c
theorem lst_grp {R b:Rd}{l:List Int}(h:RLst R l b)(c:b.bad=false)(d:zAX l=true):R.grp zAX=(l,b):=by
 have f:=grp7 d;rcases h with⟨-,-,rfl,rfl⟩|⟨-,h⟩
 ·rw[zC4]at f;rw[zDb (by omega),if_pos d]
 ·rw[h]at c;cases c
theorem any_lst {R c:Rd}{l:List Int}(h:RLst R l c)(b:(R.grp anyG).2.bad=false):R.grp anyG=(l,c):=by
 by_cases d:7<R.num.1
 ·rw[grp_big d]at b;cases b
 ·rw[zDb d]at b ⊢;rcases h with⟨-,-,rfl,rfl⟩|⟨h,-⟩
  ·rfl
  ·exact absurd ⟨by omega,b⟩ h
theorem grp_lst {R d:Rd}{l:List Int}(h:RLst R l d)(b:(R.grp zAX).2.bad=false):R.grp zAX=(l,d):=by
 have c:=grp_bad b
 by_cases f:7<R.num.1
 ·rw[grp_big f]at b;cases b
 ·rw[zDb f]at b c ⊢;have c:zAX (Rd.ints R.num.1 R.num.2).1=true:=c;rw[c]at b ⊢;have b:(Rd.ints R.num.1 R.num.2).2.bad=false:=b;rcases h with⟨-,-,rfl,rfl⟩|⟨h,-⟩
  ·rfl
  ·exact absurd ⟨by omega,b⟩ h
theorem lst_first {R b:Rd}{l:List Int}(h:RLst R l b):(b.whole&&zAX l)=(R.grp zAX).2.whole∧((R.grp zAX).2.whole=true→R.grp zAX=(l,b)):=by
 have c:(R.grp zAX).2.whole=true→R.grp zAX=(l,b):=fun e=>grp_lst h (zDi.1 e).1;refine⟨?_,c⟩;rw[Bool.eq_iff_iff,Bool.and_eq_true];refine⟨fun e=>?_,fun e=>?_⟩
 ·rw[lst_grp h (zDi.1 e.1).1 e.2];exact e.1
 ·have f:=c e;have d:=grp_bad (zDi.1 e).1;rw[f]at e d;exact⟨e,d⟩
def REntR (R:Rd)(e:Ent)(b:Rd):Prop :=
 ∃l R5,RLst R.num.2.num.2.bytes.2 l R5∧e=⟨(R.num.1:Int),(R.num.2.num.1:Int),R.num.2.num.2.bytes.1,l⟩∧b=if R5.bad=false∧zA1 e=false then Rd.fail else R5
theorem rent_whole {R j:Rd}{e:Ent}(h:REntR R e j) :
  (j.whole=true↔((R.num.2.num.2.bytes.2.grp anyG).2.whole=true∧zA1 ⟨(R.num.1:Int),(R.num.2.num.1:Int),R.num.2.num.2.bytes.1,(R.num.2.num.2.bytes.2.grp anyG).1⟩=true)) ∧
  (j.whole=true→e=⟨(R.num.1:Int),(R.num.2.num.1:Int),R.num.2.num.2.bytes.1,(R.num.2.num.2.bytes.2.grp anyG).1⟩):=by
 obtain⟨l,i,m,rfl,rfl⟩:=h;generalize R.num.2.num.2.bytes.2=n at *;generalize R.num.2.num.2.bytes.1=d at *;have g:(if i.bad=false∧zA1 ⟨(R.num.1:Int),(R.num.2.num.1:Int),d,l⟩=false then Rd.fail else i).whole=true→n.grp anyG=(l,i)∧i.whole=true∧zA1 ⟨(R.num.1:Int),(R.num.2.num.1:Int),d,l⟩=true:=by
  intro b
  split at b
  ·cases b
  ·rename_i hn
   have k:=(zDi.1 b).1;have f:zA1 ⟨(R.num.1:Int),(R.num.2.num.1:Int),d,l⟩=true:=by
    cases q:zA1 ⟨(R.num.1:Int),(R.num.2.num.1:Int),d,l⟩with
    | true=>rfl
    | false=>exact absurd ⟨k,q⟩ hn
   exact⟨lst_any m k (ent_nodes7 f),b,f⟩
 refine⟨⟨fun b=>?_,fun⟨b,f⟩=>?_⟩,fun b=>?_⟩
 ·obtain⟨c,o,p⟩:=g b;rw[c];exact⟨o,p⟩
 ·have c:=any_lst m (zDi.1 b).1;rw[c]at b f;rw[if_neg (fun hn=>by rw[f]at hn;exact absurd hn.2 (by simp))];exact b
 ·obtain⟨c,-⟩:=g b;rw[c]
theorem rsnap_is {b:Bs}{l:List Int}{d:Rd}(h:RLst (Rd.num ⟨b,false⟩).2.num.2 l d)(k:d.bad=false→d.bytes.1.length≤524288) :
  zDH b=if d.bytes.2.whole=true∧zAX l=true∧1≤(Rd.num ⟨b,false⟩).1∧(Rd.num ⟨b,false⟩).1≤1099511627776∧(Rd.num ⟨b,false⟩).2.num.1≤1099511627776 then some ⟨(Rd.num ⟨b,false⟩).1,(Rd.num ⟨b,false⟩).2.num.1,l,d.bytes.1⟩else none:=by
 unfold zDH;dsimp only;generalize (Rd.num ⟨b,false⟩).2.num.2=m at *;generalize (Rd.num ⟨b,false⟩).1=n at *;generalize (Rd.num ⟨b,false⟩).2.num.1=t at *
 by_cases c:d.bytes.2.whole=true∧zAX l=true
 ·have g:=lst_grp h (zF7 c.1) c.2;rw[g];dsimp only
  by_cases f:1≤n∧n≤1099511627776∧t≤1099511627776
  ·rw[if_pos ⟨c.1,f.1,f.2.1,f.2.2,k (zF7 c.1)⟩,if_pos ⟨c.1,c.2,f⟩]
  ·rw[if_neg (fun e=>f ⟨e.2.1,e.2.2.1,e.2.2.2.1⟩),if_neg (fun e=>f e.2.2)]
 ·refine(if_neg fun e=>?_).trans (if_neg (fun e=>c ⟨e.1,e.2.1⟩)).symm;have i:=zF7 e.1;have g:=grp_lst h i;have j:=grp_bad i;rw[g]at e j;exact c ⟨e.1,j⟩
theorem zDz (w:World)(a b:Nat):(w.drewN a).drewN b=w.drewN (a+b):=by
 simp[World.drewN,Nat.add_assoc]
theorem zDC {w:World}{p:Option Addr}{n c:Nat}{l:List Int}(h:zBe w (.slice p n c) l)(hl:l.length≤1099511627776) :
  Calls prog 36 #[.slice p n c] w fun e w'=>e=.returned (.bool (zAX l))∧∃q,w'=w.drewN q:=by
 have hn:l.length=n:=by obtain⟨_,_,e⟩:=h.slice;simp only[Value.slice.injEq]at e;exact e.2.1.symm
 rw[hn]at hl;have H:=zh h;have C:=zh hn;clear h hn
 go_enter func36,ntmps36
 go_wp2_with fail
 go_loopw [3] (fun i wr=>∃k q:Nat,k≤n∧i=.int .i64 k∧zFo (-1) l=zFo (zED l k) (l.drop k)∧-1≤zED l k∧wr=w.drewN q) (fun i _=>n-(intOf i).toNat)
 case atStart=>exact⟨0,0,Nat.zero_le _,rfl,rfl,Int.le_refl _,rfl⟩
 case round =>
  obtain⟨k,q0,hk,rfl,j,ac,s⟩:=hrel;have d:=zh s;have W:=zh (show zBe wr (.slice p n c) l by rw[s];exact zAM.chg H.o (Chg.of_below (⟨rfl,rfl,rfl,Nat.le_refl _,fun _ _=>rfl⟩:Below w.heap.size w (w.drewN q0))) fun _ _=>id);clear s
  by_cases P:k<n
  ·have f:k<l.length:=by rw[C.o];exact P
   have D:=zW (¬(zED l k<l[k]∧l[k]<7)→zAX l=false) (fun I=>by
    unfold zAX;rw[j,List.drop_eq_getElem_cons f];unfold zFo;rw[decide_eq_false I];rfl)
   have Q:=zW (zED l k<l[k]∧l[k]<7→zFo (-1) l=zFo (zED l (k+1)) (l.drop (k+1))) (fun I=>by
    rw[j,List.drop_eq_getElem_cons f,zGU f]
    show(decide _&&_)=_
    rw[decide_eq_true I,Bool.true_and])
   have R:=zh (zGU f);rcases W.o.at with v|⟨b,o,c1,G,J⟩
   ·rw[v]at f;simp at f
   rw[C.o]at G;simp only[Value.slice.injEq]at G;obtain⟨rfl,-,rfl⟩:=G;have Z:=J k _ (List.getElem?_eq_getElem f);have E:=zW (k≠0→wr.cell? ⟨b,o+(k-1),none⟩=some (.int .i64 (zED l k))) (fun v=>by
    have r:k-1<l.length:=by omega
    have:=J (k-1) _ (List.getElem?_eq_getElem r);rw[this];unfold zED;rw[if_neg v,List.getElem?_eq_getElem r];rfl)
   have F:=zW (k=0→zED l k=-1) (fun v=>by rw[v];rfl);have aa:(k:Int)<(n:Int):=by omega
   clear J j;generalize l[k]=x at *;generalize zED l k=q at *
   by_cases A:x<0
   ·have g:=zh (D.o (by omega));have L:decide (x<0)=true:=by simpa using A
    go_wp2_with fail
    go_quiet (fail)
    go_wp2_with fail;go_ret;exact⟨by rw[g.o];rfl,_,by rw[d.o];exact zDz _ _ _⟩
   ·have L:decide (x<0)=false:=by simpa using A
    by_cases B:7≤x
    ·have g:=zh (D.o (by omega));have M:decide (7≤x)=true:=by simpa using B
     go_wp2_with fail
     go_quiet (fail)
     go_wp2_with fail;go_ret;exact⟨by rw[g.o];rfl,_,by rw[d.o];exact zDz _ _ _⟩
    ·have M:decide (7≤x)=false:=by simpa using B
     by_cases m:k=0
     ·have g:=zh (Q.o (by rw[F.o m];omega));have N:decide ((0:Int)<(k:Int))=false:=by simp;omega
      have y:decide (0<k)=false:=by simp;omega
      clear m;go_wp2_with fail
      go_quiet (fail)
      go_wp2_with fail;go_roundw
      case rel=>exact⟨k+1,_,by omega,by go_num,g.o,by rw[R.o];omega,by rw[d.o];exact zDz _ _ _⟩
      case measure=>simp[intOf];omega
     ·have K:=E.o m;have r:(0:Int)<(k:Int):=by omega
      have N:decide ((0:Int)<(k:Int))=true:=by simp;omega
      have y:decide (0<k)=true:=by simp;omega
      have ad:IntKind.i64.wrap ((k:Int)-1)=((k-1:Nat):Int):=by rw[IntWalk.i64_in _ (by omega)];omega
      have U:((k-1:Nat):Int)<(n:Int):=by omega
      have V:k-1<n:=by omega
      clear m
      by_cases a:x≤q
      ·have g:=zh (D.o (by omega));have O:decide (x≤q)=true:=by simpa using a
       go_wp2_with fail
       go_quiet (fail)
       go_wp2_with fail;go_ret;exact⟨by rw[g.o];rfl,_,by rw[d.o];exact zDz _ _ _⟩
      ·have O:decide (x≤q)=false:=by simpa using a
       have g:=zh (Q.o (by omega));go_wp2_with fail
       go_quiet (fail)
       go_wp2_with fail;go_roundw
       case rel=>exact⟨k+1,_,by omega,by go_num,g.o,by rw[R.o];omega,by rw[d.o];exact zDz _ _ _⟩
       case measure=>simp[intOf];omega
  ·have ab:k=n:=by omega
   have z:zFo (-1) l=true:=by rw[j,List.drop_of_length_le (by rw[C.o];omega)];rfl
   have g:=zW (zAX l=decide (1≤n∧n≤7)) (by unfold zAX;rw[z,C.o,Bool.true_and]);clear j z
   by_cases S:1≤n
   ·have X:decide ((1:Int)≤(n:Int))=true:=by simp;omega
    by_cases T:n≤7
    ·have Y:decide ((n:Int)≤7)=true:=by simp;omega
     have t:=zW (zAX l=true) (g.o.trans (decide_eq_true ⟨S,T⟩));go_wp2_with fail;go_ret;exact⟨by rw[t.o];rfl,_,d.o⟩
    ·have Y:decide ((n:Int)≤7)=false:=by simp;omega
     have t:=zW (zAX l=false) (g.o.trans (decide_eq_false fun e=>T e.2));go_wp2_with fail;go_ret;exact⟨by rw[t.o];rfl,_,d.o⟩
   ·have X:decide ((1:Int)≤(n:Int))=false:=by simp;omega
    have t:=zW (zAX l=false) (g.o.trans (decide_eq_false fun e=>S e.1));go_wp2_with fail;go_ret;exact⟨by rw[t.o];rfl,_,d.o⟩
theorem ris_calls {w:World}{e:Ent}{v:EV}(h:zBP w e v) :
  Calls prog 43 #[zC7 e v] w fun r w'=>r=.returned (.bool (zA1 e))∧Below w.heap.size w w':=by
 obtain⟨t,k,i,f⟩:=e;obtain⟨C,v2⟩:=v;have J:=zAD w (.cells #[.int .i64 t,.int .i64 k,C,v2] 50);have W:=zW (Calls prog 36 #[v2] (w.alloc (.cells #[.int .i64 t,.int .i64 k,C,v2] 50)) fun e w'=>e=.returned (.bool (zAX f))∧∃q,w'=(w.alloc (.cells #[.int .i64 t,.int .i64 k,C,v2] 50)).drewN q) (by
  have hn:=(h.below J).nodes;obtain⟨p,c,hv⟩:=hn.slice;have R:v2=.slice p f.length c:=hv;subst R;exact zDC hn h.nl)
 have g:=zh J;have P:=h.dl;have Q:=h.nl;obtain⟨p1,X,U⟩:=h.data.slice;obtain⟨p2,Y,V⟩:=h.nodes.slice;have H:C=.slice p1 i.length X:=U;have I:v2=.slice p2 f.length Y:=V;subst H;subst I;clear U V h J;dsimp only at P Q;have D:=zh (ent_zero (e:=⟨t,k,i,f⟩));have E:=zh (ent_one (e:=⟨t,k,i,f⟩));have F:=zh (ent_two (e:=⟨t,k,i,f⟩));have S:=zh (ent_none (e:=⟨t,k,i,f⟩));have G:=zW (zDR t=false→zA1 ⟨t,k,i,f⟩=false) (fun h=>by unfold zA1;rw[h,Bool.false_and]);unfold zC7;dsimp only at D E F S ⊢;generalize zA1 ⟨t,k,i,f⟩=aa at *
 by_cases a:0≤t∧t≤1099511627776
 rotate_left
 ·have d:=zh (G.o (by unfold zDR;rw[decide_eq_false a]))
  by_cases A:t<0
  ·have T:decide (t<0)=true:=decide_eq_true A
   go_enter func43,ntmps43
   go_wp2_with fail;go_ret;exact⟨by rw[d.o];rfl,g.o⟩
  ·have T:decide (t<0)=false:=decide_eq_false A;have Z:decide (1099511627776<t)=true:=decide_eq_true (by omega)
   go_enter func43,ntmps43
   go_wp2_with fail;go_ret;exact⟨by rw[d.o];rfl,g.o⟩
 ·have B:zDR t=true:=by unfold zDR;rw[decide_eq_true a]
  have T:decide (t<0)=false:=decide_eq_false (by omega);have Z:decide (1099511627776<t)=false:=decide_eq_false (by omega);rw[B]at D E F;clear B
  by_cases j:k=0
  ·have d:=zh (D.o j);have L:(k==0)=true:=by simpa using j
   clear j a;generalize i.length=n at *;generalize f.length=m at *
   by_cases hn:n=0
   focus
    have s:((n:Int)==0)=true:=by simp;omega
    have b:decide (n=0∧m=0)=((m:Int)==0):=by rw[Bool.eq_iff_iff];simp;omega
   rotate_left
   focus
    have s:((n:Int)==0)=false:=by simp;omega
    have b:decide (n=0∧m=0)=false:=by simp;omega
   all_goals
    rw[b]at d;clear hn b;go_enter func43,ntmps43;go_wp2_with fail;go_ret;exact⟨by rw[d.o];simp,g.o⟩
  ·have L:(k==0)=false:=by simpa using j
   by_cases l:k=1
   ·have d:=zh (E.o l);have M:(k==1)=true:=by simpa using l
    clear j a l;generalize i.length=n at *;generalize f.length=m at *
    by_cases hn:1≤n
    ·by_cases K:n≤65536
     focus
      have z:decide ((1:Int)≤(n:Int))=true:=by simp;omega
      have O:decide ((n:Int)≤65536)=true:=by simp;omega
      have b:decide (1≤n∧n≤65536∧m=0)=((m:Int)==0):=by rw[Bool.eq_iff_iff];simp;omega
     rotate_left
     focus
      have z:decide ((1:Int)≤(n:Int))=true:=by simp;omega
      have O:decide ((n:Int)≤65536)=false:=by simp;omega
      have b:decide (1≤n∧n≤65536∧m=0)=false:=by simp;omega
     all_goals
      rw[b]at d;clear b;go_enter func43,ntmps43;go_wp2_with fail;go_ret;exact⟨by rw[d.o];simp,g.o⟩
    ·have z:decide ((1:Int)≤(n:Int))=false:=by simp;omega
     have b:decide (1≤n∧n≤65536∧m=0)=false:=by simp;omega
     rw[b]at d;clear b
     go_enter func43,ntmps43
     go_wp2_with fail;go_ret;exact⟨by rw[d.o];simp,g.o⟩
   ·have M:(k==1)=false:=by simpa using l
    by_cases y:k=2
    ·have d:=zh (F.o y);have N:(k==2)=true:=by simpa using y
     clear j a l y;generalize i.length=n at *;generalize f.length=m at *
     by_cases hn:n=0
     ·have s:((n:Int)==0)=true:=by simp;omega
      have b:decide (n=0)=true:=by simpa using hn
      rw[b]at d;clear hn b
      go_enter func43,ntmps43
      go_wp2_with fail;refine W.o.mono ?_;rintro e w' ⟨rfl,q,rfl⟩;go_wp2_with fail;go_ret;exact⟨by rw[d.o];simp,g.o.trans ⟨rfl,rfl,rfl,Nat.le_refl _,fun _ _=>rfl⟩⟩
     ·have s:((n:Int)==0)=false:=by simp;omega
      have b:decide (n=0)=false:=by simpa using hn
      rw[b]at d;clear hn b
      go_enter func43,ntmps43
      go_wp2_with fail;go_ret;exact⟨by rw[d.o];simp,g.o⟩
    ·have N:(k==2)=false:=by simpa using y
     have d:=zh (S.o j l y);clear j l y
     go_enter func43,ntmps43
     go_wp2_with fail;go_ret;exact⟨by rw[d.o];rfl,g.o⟩
abbrev RowT:=TypeId×Value×Nat×List Value
structure RowS (W1 W:World)(x:RowT):Prop where
 own:OwnR W x.1 1 x.2.1 x.2.2.1 x.2.2.2
 new:∀k,x.2.1.ownBlock=some k→W1.heap.size≤k
def zCR (W1 W:World)(a b:Option RowT):Prop:=Below W1.heap.size W1 W∧(∀x,a=some x→RowS W1 W x)∧(∀y,b=some y→RowS W1 W y)∧∀x y,a=some x→b=some y→∀k,x.2.1.ownBlock=some k→y.2.1.ownBlock≠some k
section
variable {W1 W W':World} {a b:Option RowT} {e:TypeId} {v v':Value} {n m:Nat} {xs news:List Value}
theorem zCR.swap (h:zCR W1 W a b):zCR W1 W b a:=⟨h.1,h.2.2.1,h.2.1,fun x y d f k c e=>h.2.2.2 y x f d k e c⟩
theorem zCR.own (h:zCR W1 W (some (e,v,n,xs)) b):OwnR W e 1 v n xs:=(h.2.1 _ rfl).own
theorem zCR.new (h:zCR W1 W (some (e,v,n,xs)) b):∀k,v.ownBlock=some k→W1.heap.size≤k:=(h.2.1 _ rfl).new
theorem zCR.alloc (h:zCR W1 W none b):zCR W1 (W.alloc (.cells #[] e)) (some (e,.slice (some ⟨W.heap.size,0,none⟩) 0 0,0,[])) b:=by
 have g:=zAD W (.cells #[] e);refine⟨h.1.trans (g.mono h.1.size),fun x f=>?_,fun y d=>⟨OwnR.keep (h.2.2.1 y d).own fun k c=>g.block k (OwnR.lt (h.2.2.1 y d).own c),(h.2.2.1 y d).new⟩,fun x y f d k c i=>?_⟩
 ·cases f;refine⟨zAx W e,fun k c=>?_⟩;have:=Option.some.inj c;have:=h.1.size;dsimp only at *;omega
 ·cases f;have l:=OwnR.lt (h.2.2.1 y d).own i;have j:=Option.some.inj c;dsimp only at j;omega
theorem zCR.app (h:zCR W1 W (some (e,v,n,xs)) b)(l:OwnR W' e 1 v' (n+m) (xs++news))(s:W.grownBy W' v.ownBlock)(r:v'.ownBlock=v.ownBlock∨∃g,v'.ownBlock=some g∧W.heap.size≤g) :
  zCR W1 W' (some (e,v',n+m,xs++news)) b:=by
 have q:=Chg.of_grown s;refine⟨h.1.trans (q.below h.1.size fun k c i=>by have:=h.new k i.symm;omega),fun x o=>?_,fun y f=>⟨OwnR.keep (h.2.2.1 y f).own fun k c=>q.block k (OwnR.lt (h.2.2.1 y f).own c) fun i=>h.2.2.2 _ y rfl f k i.symm c,(h.2.2.1 y f).new⟩,fun x y o f k c i=>?_⟩
 ·cases o;refine⟨l,fun k c=>?_⟩;rcases r with d|⟨g,d,j⟩
  ·exact h.new k (d▸c)
  ·rw[d]at c;cases c;exact Nat.le_trans h.1.size j
 ·cases o;rcases r with d|⟨g,d,j⟩
  ·exact h.2.2.2 _ y rfl f k (d▸c) i
  ·have p:v'.ownBlock=some k:=c;rw[d]at p;cases p;have:=OwnR.lt (h.2.2.1 y f).own i;omega
end
def OwnTold (w:World)(e:Ent)(r:Ending)(w':World):Prop:=∃v:EV,r=.returned (zC7 e v)∧zDT w' e v∧(∀k,(v.1.ownBlock=some k∨v.2.ownBlock=some k)→w.heap.size≤k)∧Below w.heap.size w w'
abbrev zEo (t k:Int)(v u:Value):Obj:=.cells #[.int .i64 t,.int .i64 k,v,u] 50 (0,0)
theorem zBA {W:World}{b:Nat}{t k:Int}{u v:Value}(h:W.heap[b]?=some (zEo t k u v)):W.cell? ⟨b,0,none⟩=some (.int .i64 t)∧W.cell? ⟨b,1,none⟩=some (.int .i64 k)∧W.cell? ⟨b,2,none⟩=some u∧W.cell? ⟨b,3,none⟩=some v :=
 ⟨zAG h rfl,zAG h rfl,zAG h rfl,zAG h rfl⟩
theorem own_fin {w W1 W:World}{c d:Value}{i:Bs}{j:List Int}{t k:Int}{n n2:Nat}{O:Obj}(o:W.heap[w.heap.size+1]?=some (zEo 0 0 (.slice none 0 0) (.slice none 0 0)))(h:zCR W1 W (some (5,c,n,zAQ i)) (some (3,d,n2,zFq j)))(q:w.heap.size+2≤W1.heap.size∧n=i.length∧n2=j.length)(m:Below w.heap.size w W1)(l:W.heap[w.heap.size]?=some O) :
  ((((W.setCell ⟨w.heap.size+1,0,none⟩ (.int .i64 t)).setCell ⟨w.heap.size+1,1,none⟩ (.int .i64 k)).setCell ⟨w.heap.size+1,2,none⟩ c).setCell ⟨w.heap.size+1,3,none⟩ d).heap[w.heap.size]?=some O ∧
  ((((W.setCell ⟨w.heap.size+1,0,none⟩ (.int .i64 t)).setCell ⟨w.heap.size+1,1,none⟩ (.int .i64 k)).setCell ⟨w.heap.size+1,2,none⟩ c).setCell ⟨w.heap.size+1,3,none⟩ d).heap[w.heap.size+1]?=some (zEo t k c d) ∧
  OwnTold w ⟨t,k,i,j⟩ (.returned (.agg #[.int .i64 t,.int .i64 k,c,d])) ((((W.setCell ⟨w.heap.size+1,0,none⟩ (.int .i64 t)).setCell ⟨w.heap.size+1,1,none⟩ (.int .i64 k)).setCell ⟨w.heap.size+1,2,none⟩ c).setCell ⟨w.heap.size+1,3,none⟩ d):=by
 have g:Chg (fun x=>x=w.heap.size+1) W ((((W.setCell ⟨w.heap.size+1,0,none⟩ (.int .i64 t)).setCell ⟨w.heap.size+1,1,none⟩ (.int .i64 k)).setCell ⟨w.heap.size+1,2,none⟩ c).setCell ⟨w.heap.size+1,3,none⟩ d):=(((Chg.setCell W ⟨w.heap.size+1,0,none⟩ _).trans (Chg.setCell _ ⟨w.heap.size+1,1,none⟩ _) fun _ _ e=>e).trans (Chg.setCell _ ⟨w.heap.size+1,2,none⟩ _) fun _ _ e=>e).trans (Chg.setCell _ ⟨w.heap.size+1,3,none⟩ _) fun _ _ e=>e;obtain⟨v,rfl,rfl⟩:=q;have p:=h.1.size;have f:=m.size;refine⟨(g.block _ (zAB l) (by omega)).trans l,?_,(c,d),rfl,⟨OwnR.keep h.own fun x b=>g.block x (OwnR.lt h.own b) fun e=>?_,OwnR.keep h.swap.own fun x b=>g.block x (OwnR.lt h.swap.own b) fun e=>?_⟩,fun x b=>?_,?_⟩
 ·have q1:=zAC o 0 (.int .i64 t);have q2:=zAC q1 1 (.int .i64 k);have r:=zAC q2 2 c;have s:=zAC r 3 d;simpa using s
 ·have:=h.new x b;omega
 ·have:=h.swap.new x b;omega
 ·rcases b with b|b
  ·have:=h.new x b;omega
  ·have:=h.swap.new x b;omega
 ·exact(m.trans (h.1.mono f)).trans (g.below (Nat.le_trans f p) fun x b e=>by omega)
theorem rown_calls {w:World}{e:Ent}{v:EV}(h:zBP w e v)(hd:e.data.length≤1000000000)(hn:e.nodes.length≤1000000000) :
  Calls prog 115 #[zC7 e v] w (OwnTold w e):=by
 obtain⟨i0,hi,ad,ae,af⟩:=info_parts (show(prog.info? 5).map (fun i=>(i.zero,i.size,i.bytes))=some (some (.int .u8 0),1,1) by kernel_rfl);obtain⟨i1,ac,V,X,Y⟩:=info_parts (show(prog.info? 3).map (fun i=>(i.zero,i.size,i.bytes))=some (some (.int .i64 0),1,8) by kernel_rfl);obtain⟨t,k,N,J⟩:=e;obtain⟨v1,v2⟩:=v;obtain⟨B,A,e1⟩:=h.data.slice;obtain⟨s,r,e2⟩:=h.nodes.slice;have e1:v1=.slice B N.length A:=e1;have e2:v2=.slice s J.length r:=e2;subst e1;subst e2;dsimp only at hd hn;have Hh:=zh h;clear h;unfold zC7;dsimp only;have aa:((w.alloc (zEo t k (.slice B N.length A) (.slice s J.length r))).alloc (zEo 0 0 (.slice none 0 0) (.slice none 0 0))).heap[w.heap.size]?=some (zEo t k (.slice B N.length A) (.slice s J.length r)):=zAy _ (zAI w _);have ab:((w.alloc (zEo t k (.slice B N.length A) (.slice s J.length r))).alloc (zEo 0 0 (.slice none 0 0) (.slice none 0 0))).heap[w.heap.size+1]?=some (zEo 0 0 (.slice none 0 0) (.slice none 0 0)):=by
  have:=zAI (w.alloc (zEo t k (.slice B N.length A) (.slice s J.length r))) (zEo 0 0 (.slice none 0 0) (.slice none 0 0));simpa using this
 have ak:((w.alloc (zEo t k (.slice B N.length A) (.slice s J.length r))).alloc (zEo 0 0 (.slice none 0 0) (.slice none 0 0))).heap.size=w.heap.size+2:=by simp
 have hb:Below w.heap.size w ((w.alloc (zEo t k (.slice B N.length A) (.slice s J.length r))).alloc (zEo 0 0 (.slice none 0 0) (.slice none 0 0))):=(zAD w _).alloc (by simp) _;generalize ai:N.length=G at *;generalize aj:J.length=n2 at *;have ag:=zh ai;have ah:=zh aj;clear ai aj
 go_enter func115,ntmps115
 go_wp2_with fail;have I:Below w.heap.size w (((w.alloc (zEo t k (.slice B G A) (.slice s n2 r))).alloc (zEo 0 0 (.slice none 0 0) (.slice none 0 0))).drew):=hb.trans ⟨rfl,rfl,rfl,Nat.le_refl _,fun _ _=>rfl⟩;generalize (w.alloc (zEo t k (.slice B G A) (.slice s n2 r))).alloc (zEo 0 0 (.slice none 0 0) (.slice none 0 0))=W at *;have T:=zW (∀W',Below W.drew.heap.size W.drew W'→W'.heap[w.heap.size+1]?=some (zEo 0 0 (.slice none 0 0) (.slice none 0 0))) fun W' U=>(U.block _ (zAB ab)).trans ab;have Hb:=zh I;have Hd:=zW (∀W',Below W.drew.heap.size W.drew W'→zAM W' 1 (.slice B G A) G (zAQ N)) (fun W' U=>by
  have H:=zAY.below Hh.o.data (I.trans (U.mono I.size));have H:zAM W' 1 (.slice B G A) N.length (zAQ N):=H;rwa[ag.o]at H)
 have Hn:=zW (∀W',Below W.drew.heap.size W.drew W'→zAM W' 1 (.slice s n2 r) n2 (zFq J)) (fun W' U=>by
  have H:zBe W' (.slice s n2 r) J:=zAM.chg Hh.o.nodes (Chg.of_below (I.trans (U.mono I.size))) fun _ _=>id;have H:zAM W' 1 (.slice s n2 r) J.length (zFq J):=H;rwa[ah.o]at H)
 have m:=zW (w.heap.size+2≤W.drew.heap.size∧G=N.length∧n2=J.length) (⟨Nat.le_of_eq ak.symm,ag.o.symm,ah.o.symm⟩);have T1:=zW (zCR W.drew W.drew none none) (⟨Below.refl _ _,fun x hx=>(by cases hx),fun x hx=>(by cases hx),fun x y hx=>(by cases hx)⟩);have H1:=zW (W.drew.heap[w.heap.size]?=some (zEo t k (.slice B G A) (.slice s n2 r))) aa;have hA:=aa;clear hb I ab aa ak;refine ost (fun w':World=>w'.cell? ⟨w.heap.size,0,none⟩=some (.int .i64 t)∧w'.cell? ⟨w.heap.size,1,none⟩=some (.int .i64 k)∧w'.cell? ⟨w.heap.size,2,none⟩=some (.slice B G A)∧w'.cell? ⟨w.heap.size,3,none⟩=some (.slice s n2 r)) 14 (zBA hA) fun c=>?_;generalize W.drew=W1 at *;refine Pl [0,1,2,3,5,6,9,10] ?_
 iterate 8 (refine Pc rfl ?_;simp only[uZ])
 refine Pn ?_;refine zCw 4 8 rfl rfl (by kernel_rfl) (by rfl) (by rfl) (fun K g=>?_) (fun K g=>?_)
 ·have M:=zh (T1.out.alloc (e:=5));have L:=zh (((zAD W1 (.cells #[] 5)).block w.heap.size (zAB H1.o)).trans H1.o);obtain⟨gA,C⟩:∃gA,gA=W1.heap.size:=⟨_,rfl⟩;rw[←C]at M;go_wp2_with fail
  try rw[←C]
  refine g.o _ _ (zBA L.o) fun c=>?_;clear g
  try simp only[uZ]
  generalize W1.alloc (.cells #[] 5)=W2 at *;clear C;refine zCw 7 8 rfl rfl (by kernel_rfl) (by rfl) (by rfl) (fun K g=>?_) (fun K g=>?_)
  focus
   have al:=zh (M.out.own);have am:=zh (Hd.o _ M.out.1);refine zAn (.tmp 7) (.tmp 9) 22 rfl 5 i0 (.int .u8 0) 1 1 underlying22 hi ad ae af rfl (by decide) (.slice (some ⟨gA,0,none⟩) 0 0) 0 [] rfl al.o (.slice B G A) G _ rfl am.o (zAO _) (by unfold maxLen;omega) (by omega) ?_;intro vA W3 f b d;have a:=zh (M.out.app f b d);have D:=zh (((Chg.of_grown b).block w.heap.size (zAB L.o) (fun e=>by have H:=M.out.new _ e.symm;have:=m.o.1;omega)).trans L.o);clear f b d;go_wp2_with fail;refine g.o _ _ (zBA D.o) fun c=>?_;clear g;try simp only[uZ]
   clear M L;refine oon 8 rfl fun K g=>?_;have n:=zh ((a.out.swap.alloc (e:=3)).swap);have E:=zh (((zAD W3 (.cells #[] 3)).block w.heap.size (zAB D.o)).trans D.o);obtain⟨S,l⟩:∃S,S=W3.heap.size:=⟨_,rfl⟩;rw[←l]at n;go_wp2_with fail;try rw[←l]
   refine g.o _ _ (zBA E.o) fun c=>?_;clear g;try simp only[uZ]
   generalize W3.alloc (.cells #[] 3)=W4 at *;clear l D a;refine oon 11 rfl fun K g=>?_;have p:=zh (n.out.swap.own);have q:=zh (Hn.o _ n.out.1);refine zAn (.tmp 11) (.tmp 13) 38 rfl 3 i1 (.int .i64 0) 1 8 underlying38 ac V X Y rfl (by decide) (.slice (some ⟨S,0,none⟩) 0 0) 0 [] rfl p.o (.slice s n2 r) n2 _ rfl q.o (fun u hu=>by obtain⟨z,-,rfl⟩:=List.mem_map.1 hu;rfl) (by unfold maxLen;omega) (by omega) ?_;intro vB W5 f b d;have F:=zh ((n.out.swap.app f b d).swap);have Z:=zh (((Chg.of_grown b).block w.heap.size (zAB E.o) (fun e=>by have H:=n.out.swap.new _ e.symm;have:=m.o.1;omega)).trans E.o);clear f b d;go_wp2_with fail;refine g.o _ _ (zBA Z.o) fun c=>?_;clear g;try simp only[uZ]
   clear p q n E;obtain⟨pA,cA,eA⟩:=OwnR.shape F.out.own;obtain⟨pB,cB,eB⟩:=OwnR.shape F.out.swap.own;rw[Nat.zero_add]at eA eB;subst eA;subst eB;refine otk 12 (v:=?v150x12) rfl ?_
  rotate_left
  focus
   have a:=zh ((M.out.swap.alloc (e:=3)).swap);have D:=zh (((zAD W2 (.cells #[] 3)).block w.heap.size (zAB L.o)).trans L.o);obtain⟨S,l⟩:∃S,S=W2.heap.size:=⟨_,rfl⟩;rw[←l]at a;go_wp2_with fail;try rw[←l]
   refine g.o _ _ (zBA D.o) fun c=>?_;clear g;try simp only[uZ]
   generalize W2.alloc (.cells #[] 3)=W3 at *;clear l L M;refine oon 7 rfl fun K g=>?_;have P:=zh (a.out.own);have Q:=zh (Hd.o _ a.out.1);refine zAn (.tmp 7) (.tmp 9) 22 rfl 5 i0 (.int .u8 0) 1 1 underlying22 hi ad ae af rfl (by decide) (.slice (some ⟨gA,0,none⟩) 0 0) 0 [] rfl P.o (.slice B G A) G _ rfl Q.o (zAO _) (by unfold maxLen;omega) (by omega) ?_;intro vA W4 f b d;have n:=zh (a.out.app f b d);have E:=zh (((Chg.of_grown b).block w.heap.size (zAB D.o) (fun e=>by have H:=a.out.new _ e.symm;have:=m.o.1;omega)).trans D.o);clear f b d;go_wp2_with fail;refine g.o _ _ (zBA E.o) fun c=>?_;clear g;try simp only[uZ]
   clear P Q a D;refine oon 11 rfl fun K g=>?_;have p:=zh (n.out.swap.own);have q:=zh (Hn.o _ n.out.1);refine zAn (.tmp 11) (.tmp 13) 38 rfl 3 i1 (.int .i64 0) 1 8 underlying38 ac V X Y rfl (by decide) (.slice (some ⟨S,0,none⟩) 0 0) 0 [] rfl p.o (.slice s n2 r) n2 _ rfl q.o (fun u hu=>by obtain⟨z,-,rfl⟩:=List.mem_map.1 hu;rfl) (by unfold maxLen;omega) (by omega) ?_;intro vB W5 f b d;have F:=zh ((n.out.swap.app f b d).swap);have Z:=zh (((Chg.of_grown b).block w.heap.size (zAB E.o) (fun e=>by have H:=n.out.swap.new _ e.symm;have:=m.o.1;omega)).trans E.o);clear f b d;go_wp2_with fail;refine g.o _ _ (zBA Z.o) fun c=>?_;clear g;try simp only[uZ]
   clear p q n E;obtain⟨pA,cA,eA⟩:=OwnR.shape F.out.own;obtain⟨pB,cB,eB⟩:=OwnR.shape F.out.swap.own;rw[Nat.zero_add]at eA eB;subst eA;subst eB;refine otk 12 (v:=?v151x12) rfl ?_
  all_goals
   simp only[uZ];refine oon 13 rfl fun K g=>?_;have j:=T.o _ F.out.1;have r0:=zAW j;have r1:=zAd j;have r2:=zAb j;have r3:=zAu j;have rf:=fun i=>zAE j i;have R:=F.out;simp only[Nat.zero_add,List.nil_append]at R;have O:=zh (own_fin j R m.o Hb.o Z.o (t:=t) (k:=k));clear j R;go_wp2_with fail;refine g.o _ _ (zBA O.o.1) fun c=>?_;clear g;try simp only[uZ]
   refine odn ?_;go_wp2_with fail;(try simp only[Exit.inBlock,Exit.then]);refine bodyPost_ret (results_cell_row rfl _ _ (w.heap.size+1) _ _ (0,0) _ rfl O.o.2.1 underlying50 rfl (by kernel_rfl)) rfl ?_;exact O.o.2.2
 ·have M:=zh ((T1.out.swap.alloc (e:=3)).swap);have L:=zh (((zAD W1 (.cells #[] 3)).block w.heap.size (zAB H1.o)).trans H1.o);obtain⟨S,l⟩:∃S,S=W1.heap.size:=⟨_,rfl⟩;rw[←l]at M;go_wp2_with fail
  try rw[←l]
  refine g.o _ _ (zBA L.o) fun c=>?_;clear g
  try simp only[uZ]
  generalize W1.alloc (.cells #[] 3)=W2 at *;clear l;refine oon 4 rfl fun K g=>?_;have a:=zh (M.out.alloc (e:=5));have D:=zh (((zAD W2 (.cells #[] 5)).block w.heap.size (zAB L.o)).trans L.o);obtain⟨gA,C⟩:∃gA,gA=W2.heap.size:=⟨_,rfl⟩;rw[←C]at a;go_wp2_with fail
  try rw[←C]
  refine g.o _ _ (zBA D.o) fun c=>?_;clear g
  try simp only[uZ]
  generalize W2.alloc (.cells #[] 5)=W3 at *;clear C L M;refine oon 7 rfl fun K g=>?_;have P:=zh (a.out.own);have Q:=zh (Hd.o _ a.out.1);refine zAn (.tmp 7) (.tmp 9) 22 rfl 5 i0 (.int .u8 0) 1 1 underlying22 hi ad ae af rfl (by decide) (.slice (some ⟨gA,0,none⟩) 0 0) 0 [] rfl P.o (.slice B G A) G _ rfl Q.o (zAO _) (by unfold maxLen;omega) (by omega) ?_;intro vA W4 f b d;have n:=zh (a.out.app f b d);have E:=zh (((Chg.of_grown b).block w.heap.size (zAB D.o) (fun e=>by have H:=a.out.new _ e.symm;have:=m.o.1;omega)).trans D.o);clear f b d;go_wp2_with fail;refine g.o _ _ (zBA E.o) fun c=>?_;clear g
  try simp only[uZ]
  clear P Q a D;refine oon 11 rfl fun K g=>?_;have p:=zh (n.out.swap.own);have q:=zh (Hn.o _ n.out.1);refine zAn (.tmp 11) (.tmp 13) 38 rfl 3 i1 (.int .i64 0) 1 8 underlying38 ac V X Y rfl (by decide) (.slice (some ⟨S,0,none⟩) 0 0) 0 [] rfl p.o (.slice s n2 r) n2 _ rfl q.o (fun u hu=>by obtain⟨z,-,rfl⟩:=List.mem_map.1 hu;rfl) (by unfold maxLen;omega) (by omega) ?_;intro vB W5 f b d;have F:=zh ((n.out.swap.app f b d).swap);have Z:=zh (((Chg.of_grown b).block w.heap.size (zAB E.o) (fun e=>by have H:=n.out.swap.new _ e.symm;have:=m.o.1;omega)).trans E.o);clear f b d;go_wp2_with fail;refine g.o _ _ (zBA Z.o) fun c=>?_;clear g
  try simp only[uZ]
  clear p q n E;obtain⟨pA,cA,eA⟩:=OwnR.shape F.out.own;obtain⟨pB,cB,eB⟩:=OwnR.shape F.out.swap.own;rw[Nat.zero_add]at eA eB;subst eA;subst eB;refine otk 12 (v:=?v152x12) rfl ?_;simp only[uZ];refine oon 13 rfl fun K g=>?_;have j:=T.o _ F.out.1;have r0:=zAW j;have r1:=zAd j;have r2:=zAb j;have r3:=zAu j;have rf:=fun i=>zAE j i;have R:=F.out;simp only[Nat.zero_add,List.nil_append]at R;have O:=zh (own_fin j R m.o Hb.o Z.o (t:=t) (k:=k));clear j R;go_wp2_with fail;refine g.o _ _ (zBA O.o.1) fun c=>?_;clear g
  try simp only[uZ]
  refine odn ?_;go_wp2_with fail
  (try simp only[Exit.inBlock,Exit.then])
  refine bodyPost_ret (results_cell_row rfl _ _ (w.heap.size+1) _ _ (0,0) _ rfl O.o.2.1 underlying50 rfl (by kernel_rfl)) rfl ?_;exact O.o.2.2
theorem rbytes_le (R:Rd):R.bytes.1.length≤R.rest.length:=by
 have h:=zDc 1 R;rw[show(Rd.ints 1 R).2=R.num.2 from rfl]at h;rw[show R.bytes=R.num.2.raw R.num.1 from rfl];unfold Rd.raw
 split
 ·simp only[List.length_take];omega
 ·exact Nat.zero_le _
theorem set4_block {W:World}{b:Nat}{j k l m:Value}{e:TypeId}{i:Nat×Nat}(h:W.heap[b]?=some (.cells #[j,k,l,m] e i))(c d f g:Value) :
  ((((W.setCell ⟨b,0,none⟩ c).setCell ⟨b,1,none⟩ d).setCell ⟨b,2,none⟩ f).setCell ⟨b,3,none⟩ g).heap[b]?=some (.cells #[c,d,f,g] e i):=by
 have q1:=zAC h 0 c;have q2:=zAC q1 1 d;have n:=zAC q2 2 f;have o:=zAC n 3 g;simpa using o
theorem set4_chg (W:World)(b:Nat)(c d f g:Value):Chg (fun k=>k=b) W ((((W.setCell ⟨b,0,none⟩ c).setCell ⟨b,1,none⟩ d).setCell ⟨b,2,none⟩ f).setCell ⟨b,3,none⟩ g) :=
 (((Chg.setCell W ⟨b,0,none⟩ c).trans (Chg.setCell _ ⟨b,1,none⟩ d) fun _ _ e=>e).trans (Chg.setCell _ ⟨b,2,none⟩ f) fun _ _ e=>e).trans (Chg.setCell _ ⟨b,3,none⟩ g) fun _ _ e=>e
def REntTold (A:Nat→Prop)(w:World)(r:Nat)(R:Rd)(x:Ending)(w':World):Prop :=
 ∃(e:Ent) (v:EV) (R':Rd),x=.returned (zC7 e v)∧REntR R e R'∧zBP w' e v∧(∀k,(v.1.ownBlock=some k∨v.2.ownBlock=some k)→w.heap.size≤k∧k<w'.heap.size)∧RdY A w' r R'∧Chg (fun k=>k=r) w w'
theorem rent_fin {A:Nat→Prop}{w W:World}{r:Nat}{R g:Rd}{e:Ent}{v:EV}(d:Chg (fun k=>k=r) w W)(t:r<w.heap.size)(q:∀k,A k→k<w.heap.size∧k≠r)(j:RdY A W r g)(f:zBP W e v)(hn:∀k,(v.1.ownBlock=some k∨v.2.ownBlock=some k)→w.heap.size<k∧k<W.heap.size)(s:REntR R e g)(m n o p:Value) :
  REntTold A w r R (.returned (zC7 e v)) ((((W.setCell ⟨w.heap.size,0,none⟩ m).setCell ⟨w.heap.size,1,none⟩ n).setCell ⟨w.heap.size,2,none⟩ o).setCell ⟨w.heap.size,3,none⟩ p):=by
 have c:=set4_chg W w.heap.size m n o p;have l:=c.size;refine⟨e,v,g,rfl,s,⟨zAY.chg f.data c fun k b e=>?_,zAM.chg f.nodes c fun k b e=>?_,f.dl,f.nl⟩,fun k b=>⟨Nat.le_of_lt (hn k b).1,Nat.lt_of_lt_of_le (hn k b).2 l⟩,j.chg c (fun e=>by omega) (fun k b e=>by have:=(q k b).1;omega),?_⟩
 ·have:=(hn k (.inl b)).1;omega
 ·have:=(hn k (.inr b)).1;omega
 ·exact⟨c.os.trans d.os,c.tape.trans d.tape,c.output.trans d.output,Nat.le_trans d.size c.size,fun k b i=>(c.block k (Nat.lt_of_lt_of_le b d.size) (by omega)).trans (d.block k b i)⟩
theorem rrdent_calls {w:World}{r:Nat}{R:Rd}{A:Nat→Prop}(h:RdY A w r R)(hA:∀k,A k→k<w.heap.size∧k≠r)(hl:R.rest.length≤1073741824) :
  Calls prog 166 #[.pointer (some ⟨r,0,none⟩)] w (REntTold A w r R):=by
 have Y:=h.lt;have W:=zAD w (.cells #[.int .i64 0,.int .i64 0,.slice none 0 0,.slice none 0 0] 50);have aI:=zh (zAI w (.cells #[.int .i64 0,.int .i64 0,.slice none 0 0,.slice none 0 0] 50));have aO:(w.alloc (.cells #[.int .i64 0,.int .i64 0,.slice none 0 0,.slice none 0 0] 50)).heap.size=w.heap.size+1:=by simp
 have aG:=zh (zBC (h.below W));have Z:=zh hA;have av:=zh W;have Hl:=zW (R.num.2.num.2.bytes.1.length≤1073741824) (Nat.le_trans (rbytes_le _) (Nat.le_trans (zDc 2 R) hl));have aQ:=Rd.num_le R;have aR:=Rd.num_le R.num.2;have aA:=zW (∀l z e N,RLst R.num.2.num.2.bytes.2 l z→e=⟨(R.num.1:Int),(R.num.2.num.1:Int),R.num.2.num.2.bytes.1,l⟩→N=(if z.bad=false∧zA1 e=false then Rd.fail else z)→REntR R e N) fun l z e N a b c=>⟨l,z,a,b,c⟩;clear h hA hl W
 go_enter func166,ntmps166
 go_wp2_with fail;generalize aJ:w.alloc (.cells #[.int .i64 0,.int .i64 0,.slice none 0 0,.slice none 0 0] 50)=W0 at *;clear aJ;refine aG.o.mono ?_;rintro e w1 ⟨rfl,aj,af⟩;have aH:=zh (zBC aj);have aE:=zh af;clear aj af;go_wp2_with fail;refine aH.o.mono ?_;rintro e w2 ⟨rfl,ak,ag⟩;have aD:=zh (zGd ak);have ab:=zh (aE.o.trans ag fun _ _ e=>e);clear ak ag;go_wp2_with fail;refine aD.o.mono ?_;rintro e w3 ⟨vd,rfl,ao,O,al,ah⟩;have aM:=ab.o.size;have ac:=zh (ab.o.trans ah fun _ _ e=>e);have aN:=ac.o.size;have aF:=zh (rlst_calls al fun k g=>⟨by have:=(Z.o k g).1;omega,(Z.o k g).2⟩);have H:=zh (And.intro ao (show ∀k,vd.ownBlock=some k→w.heap.size<k from fun k g=>by have:=O k g;omega));clear ao O al ah;go_wp2_with fail;refine aF.o.mono ?_;rintro e L ⟨vl,l,z,rfl,ae,J,P,Q,aL,am,X⟩;have U:=zh (ac.o.trans X fun _ _ e=>e);have I:=OwnR.keep H.o.1 fun k g=>X.block k (OwnR.lt H.o.1 g) fun e=>by have:=H.o.2 k g;omega
 have aB:=zh (And.intro J (show ∀k,vl.ownBlock=some k→w.heap.size<k from fun k g=>by have:=P k g;omega));have ay:=zW (zBP L ⟨(R.num.1:Int),(R.num.2.num.1:Int),R.num.2.num.2.bytes.1,l⟩ (vd,vl)) (⟨zAj.has I,zCm.has J,Nat.le_trans Hl.o (by decide),Nat.le_trans Q (by decide)⟩);have K:=zW (∀k,(vd.ownBlock=some k∨vl.ownBlock=some k)→w.heap.size<k∧k<L.heap.size) fun k g=>g.elim (fun h=>⟨H.o.2 k h,OwnR.lt I h⟩) fun h=>⟨aB.o.2 k h,OwnR.lt J h⟩;have G:=zh (fun N (hR':N=if z.bad=false∧zA1 ⟨(R.num.1:Int),(R.num.2.num.1:Int),R.num.2.num.2.bytes.1,l⟩=false then Rd.fail else z)=>aA.o l z ⟨(R.num.1:Int),(R.num.2.num.1:Int),R.num.2.num.2.bytes.1,l⟩ N ae rfl hR');obtain⟨pd,cd,rfl,-⟩:=zAN H.o.1;obtain⟨F,B,rfl,-⟩:=zAw J;have az:=zh am;have ad:=zh ((U.o.block w.heap.size (by omega) (by omega)).trans aI.o);have aS:=U.o.size;clear I J P Q aL am X ae aM aN;generalize R.num.2.num.2.bytes.1=bd at *;generalize O:bd.length=D at *;generalize P:l.length=E at *;clear O P;generalize R.num.1=t at *;generalize R.num.2.num.1=kd at *;have y:=zh (zAD L (.cells #[.int .i64 (t:Int),.int .i64 (kd:Int),.slice pd D cd,.slice F E B] 50));have p:=zh (zAI L (.cells #[.int .i64 (t:Int),.int .i64 (kd:Int),.slice pd D cd,.slice F E B] 50));have M:=zh (az.o.below y.o);have n:=zh ((y.o.block w.heap.size (zAB ad.o)).trans ad.o);have i:=zh (ay.o.below y.o);have ax:=zh (U.o.trans ((Chg.of_below y.o).mono (T:=fun k=>k=r) fun _ _ e=>e.elim) fun _ _ e=>e);have s:=zW (Chg (fun k=>k=r) w (L.alloc (.cells #[.int .i64 (t:Int),.int .i64 (kd:Int),.slice pd D cd,.slice F E B] 50))) (((Chg.of_below av.o).mono (T:=fun k=>k=r) fun _ _ e=>e.elim).trans ax.o fun _ _ e=>e);have j:=zW (∀k,((Value.slice pd D cd).ownBlock=some k∨(Value.slice F E B).ownBlock=some k)→w.heap.size<k∧k<(L.alloc (.cells #[.int .i64 (t:Int),.int .i64 (kd:Int),.slice pd D cd,.slice F E B] 50)).heap.size) fun k g=>⟨(K.o k g).1,Nat.lt_of_lt_of_le (K.o k g).2 y.o.size⟩;have c1:=M.o.c1;have ap:=zAW p.o;have aq:=zAd p.o;have ar:=zAb p.o;have au:=zAu p.o;cases V:z.bad with
 | true =>
  rw[V]at c1;have HF:=zh (rent_fin s.o Y Z.o M.o i.o j.o (G.o z (by rw[V];rfl)) (.int .i64 (t:Int)) (.int .i64 (kd:Int)) (.slice pd D cd) (.slice F E B));have HZ:=zh (set4_block n.o (.int .i64 (t:Int)) (.int .i64 (kd:Int)) (.slice pd D cd) (.slice F E B));have r0:=zAW n.o;have r1:=zAd n.o;have r2:=zAb n.o;have r3:=zAu n.o;have fr:=zAE n.o;clear V;go_wp2_with fail
  (try simp only[Exit.inBlock,Exit.then])
  refine bodyPost_ret (results_cell_row rfl _ _ w.heap.size _ _ (0,0) _ rfl HZ.o underlying50 rfl (by kernel_rfl)) rfl ?_;exact HF.o
 | false =>
  rw[V]at c1;have Hb:=zh V;have v:=zh (ris_calls i.o);unfold zC7 at v;dsimp only at v;have G:=zh (fun N (hR':N=if zA1 ⟨(t:Int),(kd:Int),bd,l⟩=false then Rd.fail else z)=>G.o N (by rw[hR',V];simp));clear V;cases C:zA1 ⟨(t:Int),(kd:Int),bd,l⟩with
  | true =>
   rw[C]at v;have S:=zh (G.o z (by rw[C];rfl));clear C;go_wp2_with fail;generalize L.heap.size=bE at *;generalize L.alloc (.cells #[.int .i64 (t:Int),.int .i64 (kd:Int),.slice pd D cd,.slice F E B] 50)=W5 at *;refine v.o.mono ?_;rintro e w6 ⟨rfl,f⟩;have aa:=M.o.below f;have d:=zh ((f.block w.heap.size (zAB n.o)).trans n.o);have m:=(f.block bE (zAB p.o)).trans p.o;have HF:=zh (rent_fin (s.o.trans ((Chg.of_below f).mono (T:=fun k=>k=r) fun _ _ e=>e.elim) fun _ _ e=>e) Y Z.o aa (i.o.below f) (fun k g=>⟨(j.o k g).1,Nat.lt_of_lt_of_le (j.o k g).2 f.size⟩) S.o (.int .i64 (t:Int)) (.int .i64 (kd:Int)) (.slice pd D cd) (.slice F E B));have HZ:=zh (set4_block d.o (.int .i64 (t:Int)) (.int .i64 (kd:Int)) (.slice pd D cd) (.slice F E B));have r0:=zAW d.o;have r1:=zAd d.o;have r2:=zAb d.o;have r3:=zAu d.o;have fr:=zAE d.o;have u0:=zAW m;have u1:=zAd m;have u2:=zAb m;have u3:=zAu m;clear f aa m ap aq ar au c1;go_wp2_with fail
   (try simp only[Exit.inBlock,Exit.then])
   refine bodyPost_ret (results_cell_row rfl _ _ w.heap.size _ _ (0,0) _ rfl HZ.o underlying50 rfl (by kernel_rfl)) rfl ?_;exact HF.o
  | false =>
   rw[C]at v;have S:=zh (G.o Rd.fail (by rw[C];rfl));clear C;go_wp2_with fail;generalize L.heap.size=bE at *;generalize L.alloc (.cells #[.int .i64 (t:Int),.int .i64 (kd:Int),.slice pd D cd,.slice F E B] 50)=W5 at *;refine v.o.mono ?_;rintro e w6 ⟨rfl,f⟩;have aw:=zh f;have aC:=zh (zEc (M.o.below f));have aP:=zh (s.o.trans ((Chg.of_below f).mono (T:=fun k=>k=r) fun _ _ e=>e.elim) fun _ _ e=>e);clear f ap aq ar au c1;go_wp2_with fail;refine aC.o.mono ?_;rintro e w7 ⟨rfl,an,ai⟩;have q:Chg (fun k=>k=r) W5 w7:=((Chg.of_below aw.o).mono (T:=fun k=>k=r) fun _ _ e=>e.elim).trans ai fun _ _ e=>e;have d:=zh ((q.block w.heap.size (zAB n.o) (by omega)).trans n.o);have aK:bE≠r:=fun e=>by have:=y.o.size;omega
   have m:=(q.block bE (zAB p.o) aK).trans p.o;have HF:=zh (rent_fin (s.o.trans q fun _ _ e=>e) Y Z.o an ⟨zAY.chg i.o.data q fun k g e=>by have:=(j.o k (.inl g)).1;omega,zAM.chg i.o.nodes q fun k g e=>(by have:=(j.o k (.inr g)).1;omega),i.o.dl,i.o.nl⟩ (fun k g=>⟨(j.o k g).1,Nat.lt_of_lt_of_le (j.o k g).2 q.size⟩) S.o (.int .i64 (t:Int)) (.int .i64 (kd:Int)) (.slice pd D cd) (.slice F E B));have HZ:=zh (set4_block d.o (.int .i64 (t:Int)) (.int .i64 (kd:Int)) (.slice pd D cd) (.slice F E B));have r0:=zAW d.o;have r1:=zAd d.o;have r2:=zAb d.o;have r3:=zAu d.o;have fr:=zAE d.o;have u0:=zAW m;have u1:=zAd m;have u2:=zAb m;have u3:=zAu m;clear an ai q m;go_wp2_with fail
   (try simp only[Exit.inBlock,Exit.then])
   refine bodyPost_ret (results_cell_row rfl _ _ w.heap.size _ _ (0,0) _ rfl HZ.o underlying50 rfl (by kernel_rfl)) rfl ?_;exact HF.o
section
variable {w:World} {r:Nat} {v:Value} {L:List zAR} {own:Nat→Prop} {D:zAA}
theorem rwhole_calls (h:zAc w r v L own D)(s:ByteArray)(hs:s.size≤9223372036854775000){pb:Option Addr}{m cb:Nat}{l:Bs}(hl:zAY w (.slice pb m cb) l)(V:l.length≤140737488355328)(hF:∀k,(Value.slice pb m cb).ownBlock=some k→¬own k∧k<w.heap.size) :
  Calls prog 168 #[.pointer (some ⟨r,0,none⟩),.string s,.slice pb m cb] w (zCo w r own (D.save1 (nm s) l)):=by
 have A:(s++(⟨#[126]⟩:ByteArray)).size=s.size+1:=by simp[ByteArray.size_append];rfl
 have X:RSt w w r own D (fun k=>(Value.slice pb m cb).ownBlock=some k):=RSt.start h (Below.refl _ _) hF;have H:=zh (rst_has X (s++(⟨#[126]⟩:ByteArray)));rw[zBF]at H;have Hl:=zh hl;have U:=zh V;clear X h hl V hF;cases T:Sat.get (zAF (nm s)) D.files with
 | none =>
  rw[T]at H;obtain⟨M,t,hD⟩:∃M,D.save0 (nm s)=(M,0)∧M=D:=⟨D,by unfold zAA.save0;rw[T];rfl,rfl⟩
  go_enter func168,ntmps168
  go_wp2_with fail;refine H.o.mono ?_;rintro e w3 ⟨rfl,n,J⟩;rw[←hD]at n;have P:=zh n;have Z:=zh (Hl.o.same J);clear n J hD T;have i:=zh (zEf P.o (Re:=M.append (zAF (nm s)) l) fun own v L C hn=>by
   have:=zEY C (s++(⟨#[126]⟩:ByteArray)) (by rw[A];omega) (Z.o) U.o (fun _ k hk ho=>hn k ho hk);rwa[zBF]at this)
  cases y:zAA.append M (zAF (nm s)) l with
  | mk D1 e1 =>
   rw[y]at i
   by_cases z:e1=0
   ·subst z;go_wp2_with fail;refine i.o.mono ?_;rintro e R ⟨rfl,d,-⟩;have F:=zW (RSt w R r own D1 (fun k=>(Value.slice pb m cb).ownBlock=some k)) d;have j:=zh (zEf F.o (Re:=D1.sync [zAF (nm s)]) fun own v L C hn=>by
     have:=zDg C (s++(⟨#[126]⟩:ByteArray)) (by rw[A];omega);rwa[zBF]at this)
    clear d i;cases I:zAA.sync D1 [zAF (nm s)]with
    | mk D2 e2 =>
     rw[I]at j
     by_cases a:e2=0
     ·subst a;have c:=zh (save1_ren t y I);clear t y I;go_wp2_with fail;refine j.o.mono ?_;rintro e S ⟨rfl,g,-⟩;have G:=zW (RSt w S r own D2 (fun k=>(Value.slice pb m cb).ownBlock=some k)) g;have E:=zh (zEf G.o (Re:=D2.rename (zAF (nm s)) (nm s)) fun own v L C hn=>by
       have:=rren_calls C (s++(⟨#[126]⟩:ByteArray)) s (by rw[A];omega) (by omega);rwa[zBF]at this)
      clear g j;go_wp2_with fail;refine E.o.mono ?_;rintro e w7 ⟨rfl,q,-⟩;have B:=zW (zCo w r own (D.save1 (nm s) l) (.returned (.int .i64 ((D2.rename (zAF (nm s)) (nm s)).2:Int))) w7) (by rw[c.o];exact q.stop _);clear q E;generalize (D2.rename (zAF (nm s)) (nm s)).2=e3 at *;go_wp2_with fail;go_ret;exact B.o
     ·have N:((e2:Int)==0)=false:=by simp;omega
      have c:=zh (save1_syn t y I a);clear t y I a;go_wp2_with fail;refine j.o.mono ?_;rintro e S ⟨rfl,g,-⟩;have B:=zW (zCo w r own (D.save1 (nm s) l) (.returned (.int .i64 (e2:Int))) S) (by rw[c.o];exact g.stop _);clear g j;go_wp2_with fail;go_ret;exact B.o
   ·have N:((e1:Int)==0)=false:=by simp;omega
    have c:=zh (save1_app t y z);clear t y z;go_wp2_with fail;refine i.o.mono ?_;rintro e R ⟨rfl,d,-⟩;have B:=zW (zCo w r own (D.save1 (nm s) l) (.returned (.int .i64 (e1:Int))) R) (by rw[c.o];exact d.stop _);clear d i;go_wp2_with fail;go_ret;exact B.o
 | some f =>
  rw[T]at H;cases t:D.save0 (nm s)with
  | mk M e0 =>
   have Y:zAA.remove D [zAF (nm s)]=(M,e0):=by rw[←t];unfold zAA.save0;rw[T];rfl
   have aa:=zh Y;clear Y T
   go_enter func168,ntmps168
   go_wp2_with fail;refine H.o.mono ?_;rintro e w3 ⟨rfl,n,J⟩;have O:=zh (zEf n (Re:=D.remove [zAF (nm s)]) fun own v L C hn=>by
    have:=rrem_calls C (s++(⟨#[126]⟩:ByteArray)) (by rw[A];omega);rwa[zBF]at this)
   rw[aa.o]at O;have K:=zh (Hl.o.same J);clear n J
   by_cases Q:e0=0
   ·subst Q;go_wp2_with fail;refine O.o.mono ?_;rintro e w4 ⟨rfl,p,W⟩;have P:=zW (RSt w w4 r own M (fun k=>(Value.slice pb m cb).ownBlock=some k)) p;have Z:=zh (K.o.same W);clear p W;have i:=zh (zEf P.o (Re:=M.append (zAF (nm s)) l) fun own v L C hn=>by
     have:=zEY C (s++(⟨#[126]⟩:ByteArray)) (by rw[A];omega) (Z.o) U.o (fun _ k hk ho=>hn k ho hk);rwa[zBF]at this)
    cases y:zAA.append M (zAF (nm s)) l with
    | mk D1 e1 =>
     rw[y]at i
     by_cases z:e1=0
     ·subst z;go_wp2_with fail;refine i.o.mono ?_;rintro e R ⟨rfl,d,-⟩;have F:=zW (RSt w R r own D1 (fun k=>(Value.slice pb m cb).ownBlock=some k)) d;have j:=zh (zEf F.o (Re:=D1.sync [zAF (nm s)]) fun own v L C hn=>by
       have:=zDg C (s++(⟨#[126]⟩:ByteArray)) (by rw[A];omega);rwa[zBF]at this)
      clear d i;cases I:zAA.sync D1 [zAF (nm s)]with
      | mk D2 e2 =>
       rw[I]at j
       by_cases a:e2=0
       ·subst a;have c:=zh (save1_ren t y I);clear t y I;go_wp2_with fail;refine j.o.mono ?_;rintro e S ⟨rfl,g,-⟩;have G:=zW (RSt w S r own D2 (fun k=>(Value.slice pb m cb).ownBlock=some k)) g;have E:=zh (zEf G.o (Re:=D2.rename (zAF (nm s)) (nm s)) fun own v L C hn=>by
         have:=rren_calls C (s++(⟨#[126]⟩:ByteArray)) s (by rw[A];omega) (by omega);rwa[zBF]at this)
        clear g j;go_wp2_with fail;refine E.o.mono ?_;rintro e w7 ⟨rfl,q,-⟩;have B:=zW (zCo w r own (D.save1 (nm s) l) (.returned (.int .i64 ((D2.rename (zAF (nm s)) (nm s)).2:Int))) w7) (by rw[c.o];exact q.stop _);clear q E;generalize (D2.rename (zAF (nm s)) (nm s)).2=e3 at *;go_wp2_with fail;go_ret;exact B.o
       ·have N:((e2:Int)==0)=false:=by simp;omega
        have c:=zh (save1_syn t y I a);clear t y I a;go_wp2_with fail;refine j.o.mono ?_;rintro e S ⟨rfl,g,-⟩;have B:=zW (zCo w r own (D.save1 (nm s) l) (.returned (.int .i64 (e2:Int))) S) (by rw[c.o];exact g.stop _);clear g j;go_wp2_with fail;go_ret;exact B.o
     ·have N:((e1:Int)==0)=false:=by simp;omega
      have c:=zh (save1_app t y z);clear t y z;go_wp2_with fail;refine i.o.mono ?_;rintro e R ⟨rfl,d,-⟩;have B:=zW (zCo w r own (D.save1 (nm s) l) (.returned (.int .i64 (e1:Int))) R) (by rw[c.o];exact d.stop _);clear d i;go_wp2_with fail;go_ret;exact B.o
   ·have N:((e0:Int) != 0)=true:=by simp;omega
    have c:=zh (save1_rem (b:=l) t Q);clear t Q;go_wp2_with fail;refine O.o.mono ?_;rintro e w4 ⟨rfl,p,-⟩;have B:=zW (zCo w r own (D.save1 (nm s) l) (.returned (.int .i64 (e0:Int))) w4) (by rw[c.o];exact p.stop _);clear p;go_wp2_with fail;go_ret;exact B.o
end
def zAq (w0:World)(j r:Nat)(pre:ByteArray)(b c:Nat→Prop)(w1:World)(D:zAA)(M:zAJ):Prop :=
 ∃Hot Cold,RJF w1 j r pre D M Hot Cold∧Chg b w0 w1∧(∀k,Hot k→b k∨w0.heap.size≤k)∧∀k,Cold k→c k∨w0.heap.size≤k
theorem zAq.told {w0 w1:World}{j r:Nat}{pre:ByteArray}{d b:Nat→Prop}{c:zDW}(h:zAq w0 j r pre d b w1 c.disk c.jou):zBz w0 j r pre d b c (.returned (.int .i64 (c.err:Int))) w1:=⟨rfl,h⟩
theorem zBz.step {w0 w1:World}{j r:Nat}{pre:ByteArray}{c b:Nat→Prop}{d:zDW}{e:Ending}(h:zBz w0 j r pre c b d e w1):zAq w0 j r pre c b w1 d.disk d.jou:=h.2
section
variable {w0 w1 w2:World} {j r:Nat} {pre:ByteArray} {D D2:zAA} {M M2:zAJ} {Hot Cold Hot1 Cold1:Nat→Prop}
theorem RJF.step (h:RJF w1 j r pre D M Hot Cold):zAq w1 j r pre Hot Cold w1 D M:=⟨Hot,Cold,h,Chg.refl _ _,fun _ h=>.inl h,fun _ h=>.inl h⟩
theorem RJF.stepB (h:RJF w1 j r pre D M Hot Cold)(b:Below w1.heap.size w1 w2):zAq w1 j r pre Hot Cold w2 D M:=⟨Hot,Cold,h.below b,(Chg.of_below b).mono fun _ _ h=>h.elim,fun _ h=>.inl h,fun _ h=>.inl h⟩
theorem zAq.comp (i:Chg Hot w0 w1)(o:∀k,Hot1 k→Hot k∨w0.heap.size≤k)(m:∀k,Cold1 k→Cold k∨w0.heap.size≤k)(p:zAq w1 j r pre Hot1 Cold1 w2 D2 M2):zAq w0 j r pre Hot Cold w2 D2 M2:=by
 obtain⟨c,b,g,l,n,d⟩:=p;refine⟨c,b,g,i.trans l fun k f q=>(o k q).resolve_right (by omega),fun k f=>?_,fun k f=>?_⟩
 ·rcases n k f with h|h
  ·exact o k h
  ·exact .inr (Nat.le_trans i.size h)
 ·rcases d k f with h|h
  ·exact m k h
  ·exact .inr (Nat.le_trans i.size h)
theorem zAq.trans (h:zAq w0 j r pre Hot Cold w1 D M)(f:∀Hot1 Cold1,RJF w1 j r pre D M Hot1 Cold1→zAq w1 j r pre Hot1 Cold1 w2 D2 M2):zAq w0 j r pre Hot Cold w2 D2 M2:=by
 obtain⟨Hot1,Cold1,hF,c,d,b⟩:=h;exact zAq.comp c d b (f _ _ hF)
theorem zAq.next (h:zAq w0 j r pre Hot Cold w1 D M)(b:Below w1.heap.size w1 w2):zAq w0 j r pre Hot Cold w2 D M:=h.trans fun _ _ hF=>hF.stepB b
theorem zAq.since (h:zAq w1 j r pre Hot Cold w2 D M)(b:Below w0.heap.size w0 w1):zAq w0 j r pre Hot Cold w2 D M:=by
 obtain⟨Hot1,Cold1,hF,f,g,c⟩:=h;exact⟨Hot1,Cold1,hF,((Chg.of_below b).mono fun _ _ h=>h.elim).trans f fun _ _ h=>h,fun k d=>(g k d).imp id (Nat.le_trans b.size),fun k d=>(c k d).imp id (Nat.le_trans b.size)⟩
theorem rj_disk {P:Program}{f:FuncId}{args:Array Value}{Re:zAA×Nat}{wc:World}(h:RJF w1 j r pre D M Hot Cold)(s:Below w1.heap.size w1 wc)(B:∀v L own,zAc wc r v L own D→(∀k,own k→Hot k)→Calls P f args wc (zCo wc r own Re)) :
  Calls P f args wc fun e w'=>e=.returned (.int .i64 (Re.2:Int))∧zAq w1 j r pre Hot Cold w' Re.1 M∧w'.heap[j]?=w1.heap[j]?:=by
 obtain⟨O,own,z,dv,y,vs,v,L,l,a,p,t,m⟩:=h;refine(B v L own (a.below s) fun k b=>(m k).2 (.inr b)).mono ?_;rintro e w' ⟨rfl,own',⟨v',L',q⟩,A,hn⟩;have d:Chg own w1 w':=zCd s A;have i:∀k,own' k→own k∨w1.heap.size≤k:=fun k b=>(hn k b).imp id (Nat.le_trans s.size);have n:=l.chg d fun k b=>⟨fun o=>p k o b,fun c=>t k c b⟩;refine⟨rfl,⟨fun k=>O k∨own' k,Cold,⟨O,own',z,dv,y,vs,v',L',n,q,fun k b g=>?_,fun k b g=>?_,fun k=>Iff.rfl⟩,d.mono fun k _ b=>(m k).2 (.inr b),fun k b=>?_,fun k b=>.inl b⟩,d.block j (l.olt j l.oj) (p j l.oj)⟩
 ·rcases i k g with h|h
  ·exact p k b h
  ·have:=l.olt k b;omega
 ·rcases i k g with h|h
  ·exact t k b h
  ·have:=l.clt k b;omega
 ·rcases b with b|b
  ·exact .inl ((m k).2 (.inl b))
  ·exact(i k b).imp (fun h=>(m k).2 (.inr h)) id
theorem zF3.set {w w':World}{O C:Nat→Prop}{M M':zAJ}{g dv f:Value}{vs:List EV}(h:zF3 w j r pre O C M g dv f vs)
  (m:w'.heap[j]?=some (RJC r (M'.number:Int) M'.term g pre M'.now M'.vote dv f M'.dead))
  (c:Chg (fun k=>k=j) w w') (o:M'.group=M.group) (n:M'.data=M.data) (d:M'.entries=M.entries) (ok:M'.OK):zF3 w' j r pre O C M' g dv f vs where
 cells:=m
 group:=by rw[o];exact zAM.chg h.group c fun k b e=>h.dis k (h.cg k b) (e▸h.oj)
 data:=by rw[n];exact zAM.chg h.data c fun k b e=>h.dis k (h.cd k b) (e▸h.oj)
 row:=by rw[d];exact h.row.keep fun k b=>c.block k (h.olt k (h.oe k b).1) (h.oe k b).2
 rlen:=by rw[d];exact h.rlen
 rows:=by rw[d];exact fun i e v d l=>(h.rows i e v d l).keep fun k b=>c.block k (h.clt k (h.cv v (List.mem_of_getElem? l) k b)) fun e=>h.dis k (h.cv v (List.mem_of_getElem? l) k b) (e▸h.oj)
 oj:=h.oj
 oe:=h.oe
 cg:=h.cg
 cd:=h.cd
 cv:=h.cv
 dis:=h.dis
 olt:=fun k b=>Nat.lt_of_lt_of_le (h.olt k b) c.size
 clt:=fun k b=>Nat.lt_of_lt_of_le (h.clt k b) c.size
 psz:=h.psz
 ok:=ok
theorem RJF.set (h:RJF w1 j r pre D M Hot Cold){M':zAJ}(g:Chg (fun k=>k=j) w1 w2)
  (o:∀d dv c,w1.heap[j]?=some (RJC r (M.number:Int) M.term d pre M.now M.vote dv c M.dead)→w2.heap[j]?=some (RJC r (M'.number:Int) M'.term d pre M'.now M'.vote dv c M'.dead))
  (s:M'.group=M.group) (p:M'.data=M.data) (q:M'.entries=M.entries) (t:M'.OK):zAq w1 j r pre Hot Cold w2 D M':=by
 obtain⟨O,own,d,dv,c,vs,v,L,f,m,l,n,i⟩:=h;exact⟨Hot,Cold,⟨O,own,d,dv,c,vs,v,L,f.set (o _ _ _ f.cells) g s p q t,m.keep g.size (fun k b=>g.block k (m.olt k b) fun e=>l j f.oj (e▸b)),l,n,i⟩,g.mono fun k _ e=>(i k).2 (.inl (e▸f.oj)),fun k b=>.inl b,fun k b=>.inl b⟩
theorem RJF.cellsD (h:RJF w1 j r pre D M Hot Cold):∃gv dv ev,w1.heap[j]?=some (RJC r (M.number:Int) M.term gv pre M.now M.vote dv ev M.dead):=let ⟨_,_,gv,dv,ev,_,_,_,hJ,_⟩:=h;⟨gv,dv,ev,hJ.cells⟩
theorem rj_die (h:RJF w1 j r pre D M Hot Cold):zAq w1 j r pre Hot Cold (w1.setCell ⟨j,9,none⟩ (.bool true)) D M.die :=
 h.set (Chg.setCell w1 ⟨j,9,none⟩ _) (fun d dv c b=>by
  have:=zAC b 9 (.bool true);simpa[zAJ.die]using this) rfl rfl rfl ⟨h.okM.last,h.okM.term,h.okM.group,h.okM.now,h.okM.vote,h.okM.data,h.okM.ents⟩
theorem zEZ (h:RJF w1 j r pre D M Hot Cold){pb:Option Addr}{m cb:Nat}{l:Bs}(hl:zAY w1 (.slice pb m cb) l)(aa:l.length≤140737488355328)(H:∀k,(Value.slice pb m cb).ownBlock=some k→¬Hot k∧k<w1.heap.size) :
  Calls prog 114 #[.pointer (some ⟨j,0,none⟩),.slice pb m cb] w1 fun e w'=>e=.returned (.int .i64 ((layOn D (zAm (nm pre)) l).2:Int))∧zAq w1 j r pre Hot Cold w' (layOn D (zAm (nm pre)) l).1 (zEu M (layOn D (zAm (nm pre)) l).2):=by
 have ad:=h.psz;have I:(zCT pre).size≤9223372036854775807:=by
  unfold zCT;rw[ByteArray.size_append]
  show pre.size+4≤_
  omega
 obtain⟨N,dv,J,i⟩:=h.cellsD;have c3:w1.cell? ⟨j,3,none⟩=some (.pointer (some ⟨r,0,none⟩)):=zAG i rfl;have c4:w1.cell? ⟨j,4,none⟩=some (.string pre):=zAG i rfl;cases z:D.append (zAm (nm pre)) l with
 | mk D1 e1 =>
  have Q:=zh (fun W (hb:Below w1.heap.size w1 W)=>show Calls prog 16 #[.pointer (some ⟨r,0,none⟩),.string (zCT pre),.slice pb m cb] W fun e w'=>e=.returned (.int .i64 (e1:Int))∧zAq w1 j r pre Hot Cold w' D1 M∧w'.heap[j]?=w1.heap[j]? by
   have:=rj_disk h hb (Re:=(D1,e1)) (f:=16) (P:=prog) (args:=#[.pointer (some ⟨r,0,none⟩),.string (zCT pre),.slice pb m cb]) fun v L own X p=>by
    have E:=zEY X (zCT pre) I (zAY.below hl hb) aa fun _ k hk=>fun o=>(H k hk).1 (p k o);rw[zBw,z]at E;exact E
   exact this)
  have HH:=zh h;have C:=zh (show layOn D (zAm (nm pre)) l=if e1≠0 then(D1,e1)else D1.sync [zAm (nm pre)] by unfold layOn;rw[z]);clear h z hl H;generalize layOn D (zAm (nm pre)) l=Z at *
  go_enter func114,ntmps114
  go_wp2_with fail;refine ost (fun w':World=>w'.cell? ⟨j,3,none⟩=some (.pointer (some ⟨r,0,none⟩))∧w'.cell? ⟨j,4,none⟩=some (.string pre)) 12 (⟨c3,c4⟩) fun d=>?_;refine Pl [0,1,2,3,4,5,6,7,8,9] ?_
  iterate 10 (refine Pc rfl ?_;simp only[uZ])
  refine Pn ?_;refine oon 10 rfl fun K F=>?_;go_wp2_with fail;refine(Q.o w1.drew (zAV w1)).mono ?_;rintro e w3 ⟨rfl,g,c⟩;have q:=zh g;have n:=zW (w3.cell? ⟨j,3,none⟩=some (.pointer (some ⟨r,0,none⟩))∧w3.cell? ⟨j,4,none⟩=some (.string pre)) (⟨(World.cell?_of_block (a:=⟨j,3,none⟩) c).trans c3,(World.cell?_of_block (a:=⟨j,4,none⟩) c).trans c4⟩);clear g c;go_wp2_with fail;refine F.o _ _ (n.o) fun d=>?_;clear F
  try simp only[uZ]
  refine otk 11 (v:=?v1x11) rfl ?_;simp only[uZ];refine odn ?_
  by_cases A:e1=0
  ·subst A;cases B:D1.sync [zAm (nm pre)]with
   | mk D2 e2 =>
   have y:=zW (Z=(D2,e2)) (by rw[C.o,if_neg (by simp),B]);have S:=zh (fun W (hb:Below w3.heap.size w3 W)=>show Calls prog 91 #[.pointer (some ⟨r,0,none⟩),.string (zCT pre)] W fun e w'=>e=.returned (.int .i64 (e2:Int))∧zAq w1 j r pre Hot Cold w' D2 M∧w'.heap[j]?=w3.heap[j]? by
    obtain⟨Hot1,Cold1,hF,hc,hh,Y⟩:=q.o;have:=rj_disk hF hb (Re:=(D2,e2)) (f:=91) (P:=prog) (args:=#[.pointer (some ⟨r,0,none⟩),.string (zCT pre)]) fun v L own X p=>by
     have E:=zDg X (zCT pre) I;rw[zBw,B]at E;exact E
    refine this.mono ?_;rintro e w' ⟨rfl,g,c⟩;exact⟨rfl,zAq.comp hc hh Y g,c⟩)
   clear B;go_wp2_with fail;refine ost (fun w':World=>w'.cell? ⟨j,3,none⟩=some (.pointer (some ⟨r,0,none⟩))∧w'.cell? ⟨j,4,none⟩=some (.string pre)) 11 (n.o) fun d=>?_;refine Pl [0,1,2,3,4,5,6,7,8] ?_
   iterate 9 (refine Pc rfl ?_;simp only[uZ])
   refine Pn ?_;refine oon 9 rfl fun K F=>?_;go_wp2_with fail;refine(S.o w3.drew (zAV w3)).mono ?_;rintro e O ⟨rfl,g,c⟩;have s:=zh g;have R:=zW (O.cell? ⟨j,3,none⟩=some (.pointer (some ⟨r,0,none⟩))∧O.cell? ⟨j,4,none⟩=some (.string pre)) (⟨(World.cell?_of_block (a:=⟨j,3,none⟩) c).trans n.o.1,(World.cell?_of_block (a:=⟨j,4,none⟩) c).trans n.o.2⟩);clear g c;go_wp2_with fail;refine F.o _ _ (R.o) fun d=>?_;clear F
   try simp only[uZ]
   refine otk 10 (v:=?v2x10) rfl ?_;simp only[uZ];refine odn ?_
   by_cases G:e2=0
   ·subst G;go_wp2_with fail;go_ret;exact⟨by have:=y.o;rw[this];rfl,by rw[y.o];rw[zBn];exact s.o⟩
   ·have ab:((e2:Int) != 0)=true:=by simp;omega
    obtain⟨V,T,U,b⟩:∃N dv J,O.heap[j]?=some (RJC r (M.number:Int) M.term N pre M.now M.vote dv J M.dead):=by
     obtain⟨_,_,hF,-⟩:=s.o;exact hF.cellsD
    have c9:O.cell? ⟨j,9,none⟩=some (.bool M.dead):=zAG b rfl;have f9:=zAE b 9;have t:=zh (zAq.trans s.o fun _ _ hF=>rj_die hF);clear b;go_wp2_with fail;go_ret;exact⟨by rw[y.o];rfl,by rw[y.o];rw[zB1 M G];exact t.o⟩
  ·have y:=zW (Z=(D1,e1)) (by rw[C.o,if_pos A]);have ab:((e1:Int) != 0)=true:=by simp;omega
   have ac:((e1:Int)==0)=false:=by simp;omega
   obtain⟨V,T,U,b⟩:∃N dv J,w3.heap[j]?=some (RJC r (M.number:Int) M.term N pre M.now M.vote dv J M.dead):=by
    obtain⟨_,_,hF,-⟩:=q.o;exact hF.cellsD
   have c9:w3.cell? ⟨j,9,none⟩=some (.bool M.dead):=zAG b rfl;have f9:=zAE b 9;have t:=zh (zAq.trans q.o fun _ _ hF=>rj_die hF);clear b;go_wp2_with fail;go_ret;exact⟨by rw[y.o];rfl,by rw[y.o];rw[zB1 M A];exact t.o⟩
end
theorem zGV {w:World}{p:Option Addr}{n c:Nat}{l:Bs}(a:zAY w (.slice p n c) l)(J:l.length≤1073741824) :
  Calls prog 133 #[.slice p n c] w (zBd w (zFB l)):=by
 obtain⟨M,I,h,A,B⟩:=info_parts (show(prog.info? 5).map (fun i=>(i.zero,i.size,i.bytes))=some (some (.int .u8 0),1,1) by kernel_rfl);have hn:l.length=n:=by obtain⟨_,_,e⟩:=a.slice;simp only[Value.slice.injEq]at e;exact e.2.1.symm
 have q:=zh (zEa w (n:Int) (by omega));have G:=zh (show zDj (n:Int)++l=zFB l by rw[zB7 (by omega),←hn];rfl);have L:(zDj (n:Int)).length≤9:=zBI _;have H:=zh a;have E:=zh hn;have F:n≤1073741824:=by omega
 clear a hn J
 go_enter func133,ntmps133
 go_wp2_with fail;refine q.o.mono ?_;rintro e w2 ⟨x,rfl,k,t,j⟩;obtain⟨C,z,rfl,-⟩:=zAN k;have m:=zW (zCn w w2 (.slice C (zDj (n:Int)).length z) (zDj (n:Int))) (⟨k,t,j⟩);have r:=zh (show zAM w2 1 (.slice p n c) n (zAQ l) by have:=H.o.below j;unfold zAY at this;rwa[E.o]at this);clear k t j;generalize s:(zDj (n:Int)).length=v at *;have D:=zh s;clear s;have g:=zW (OwnR w2 5 1 (.slice C v z) v (zAQ (zDj (n:Int)))) (by have:=m.o.own;unfold zAj at this;rwa[D.o]at this);go_wp2_with (at_builtin;refine zAP _ rfl (.tmp 5) (.tmp 6) 22 rfl 5 M (.int .u8 0) 1 1 underlying22 I h A B rfl (by decide) (.slice C v z) v _ rfl g.o (.slice p n c) n _ rfl r.o (zAO _) (by unfold maxLen;omega) (by omega) ?_;intro v3 w3 d b f;go_loud (have y:=zh (zCn.grown (x:=l) m.o (by rw[D.o,E.o];exact d) b f);clear b f;obtain⟨N,O,rfl⟩:=OwnR.shape d;clear d))
 go_ret;rw[←G.o];exact y.o.told
def entC0 (e:Ent):Bs:=zAp [e.term,e.kind]++zFB e.data++zDs e.nodes
theorem entB_is {n:Nat}(h:n≤4611686018427387904)(e:Ent):[3]++zDj (n:Int)++entC0 e=zEw n e:=by
 unfold entC0 zEw;rw[zB7 h];simp[zAp]
theorem rentC_calls {w:World}{e:Ent}{v:EV}(h:zBP w e v)(aC:zA1 e=true) :
  Calls prog 171 #[zC7 e v] w (zBd w (entC0 e)):=by
 obtain⟨i0,hi,an,ao,ap⟩:=info_parts (show(prog.info? 5).map (fun i=>(i.zero,i.size,i.bytes))=some (some (.int .u8 0),1,1) by kernel_rfl);have hf:=zBE aC;obtain⟨t,k,g,l⟩:=e;obtain⟨v1,v2⟩:=v;obtain⟨A,s,e1⟩:=h.data.slice;obtain⟨m,j,e2⟩:=h.nodes.slice;have e1:v1=.slice A g.length s:=e1;have e2:v2=.slice m l.length j:=e2;subst e1;subst e2;dsimp only at hf;have hz:∀z∈l,-9223372036854775808≤z∧z≤9223372036854775807:=fun z hz=>by have:=hf.2.2.2.2 z hz;omega
 have E:=zAD w (zEo t k (.slice A g.length s) (.slice m l.length j));have D:(w.alloc (zEo t k (.slice A g.length s) (.slice m l.length j))).heap[w.heap.size]?=some (zEo t k (.slice A g.length s) (.slice m l.length j)):=zAI w _;have ai:=h.data.below E;have al:=zAM.chg h.nodes (Chg.of_below E) fun _ _=>id;clear h;unfold zC7;dsimp only;have Hf:=zh hf;have aE:g.length≤65536:=hf.2.2.1;have aF:l.length≤7:=hf.2.2.2.1;generalize aj:g.length=L at *;generalize ak:l.length=n2 at *;have C:=zh aj;have Q:=zh ak;have HZ:=zh hz;clear aj ak hz
 go_enter func171,ntmps171
 have aA:=zAW D;have aB:=zAd D;have Z:=zh (zB4 (w:=(w.alloc (zEo t k (.slice A L s) (.slice m n2 j))).alloc (.cells #[.int .i64 t,.int .i64 k] 3)) (p:=some ⟨w.heap.size+1,0,none⟩) (n:=2) (c:=2) (zs:=[t,k]) ⟨by simp,some ⟨w.heap.size+1,0,none⟩,2,rfl,fun e=>(by cases e),fun a ha i u hu=>by
  cases ha;rw[add_zero];refine zAG (by have:=zAI (w.alloc (zEo t k (.slice A L s) (.slice m n2 j))) (.cells #[.int .i64 t,.int .i64 k] 3);simpa using this) ?_;simpa using hu⟩ (by simp;have:=Hf.o;omega) (by simp))
 have P:=zh E;have B:=zh D;have ax:=zh ai;have az:=zh al;have aG:(zAp [t,k]).length≤18:=by have:=zA9 [t,k];simpa using this
 have aH:(zFB g).length≤9+L:=by
  have:=zAg (n:=g.length) (by have:=C.o;omega);unfold zFB;rw[List.length_append,C.o];rw[C.o]at this;omega
 have aI:=zGH l (by have:=Q.o;omega);clear aA aB D E ai al;go_wp2_with fail;refine Z.o.mono ?_;rintro r w2 ⟨x,rfl,S,am,af⟩;obtain⟨px,cx,rfl,-⟩:=zAN S;have F:Below (w.alloc (zEo t k (.slice A L s) (.slice m n2 j))).heap.size (w.alloc (zEo t k (.slice A L s) (.slice m n2 j))) w2:=(zAD _ (.cells #[.int .i64 t,.int .i64 k] 3)).trans (af.mono (zAD _ _).size);have J:∀y,(Value.slice px (zAp [t,k]).length cx).ownBlock=some y→(w.alloc (zEo t k (.slice A L s) (.slice m n2 j))).heap.size≤y:=fun y T=>Nat.le_trans (zAD _ _).size (am y T);clear am af;generalize w.alloc (zEo t k (.slice A L s) (.slice m n2 j))=W1 at *;have au:=zW (zCn W1 w2 (.slice px (zAp [t,k]).length cx) (zAp [t,k])) (⟨S,J,F⟩);have aa:=(F.block _ (zAB B.o)).trans B.o;have aw:=zh (zGV (p:=A) (n:=L) (c:=s) (zAY.below ax.o F) (by rw[C.o];omega));have d2:=zAb aa;clear S J F aa;generalize ac:(zAp [t,k]).length=G at *;have N:=zh ac;clear ac;go_wp2_with fail;refine aw.o.mono ?_;rintro r w3 ⟨y,rfl,T,aD,ag⟩;have HY:=zh (zAj.has T);obtain⟨py,cy,rfl,-⟩:=zAN T;have X:=zh (au.o.next ag);clear T aD ag d2;generalize ad:(zFB g).length=H at *;have O:=zh ad;clear ad;have q:=zW (OwnR w3 5 1 (.slice px G cx) G (zAQ (zAp [t,k]))) (by have:=X.o.own;unfold zAj at this;rwa[N.o]at this);have I:=zW (zAM w3 1 (.slice py H cy) H (zAQ (zFB g))) (by have:=HY.o;unfold zAY at this;rwa[O.o]at this);go_wp2_with (at_builtin;refine zAP _ rfl (.tmp 10) (.tmp 13) 22 rfl 5 i0 (.int .u8 0) 1 1 underlying22 hi an ao ap rfl (by decide) (.slice px G cx) G _ rfl q.o (.slice py H cy) H _ rfl I.o (zAO _) (by unfold maxLen;omega) (by omega) ?_;intro v4 w4 d b f;go_loud (have M:=zh (zCn.grown (x:=zFB g) X.o (by rw[N.o,O.o];exact d) b f);clear b f;obtain⟨p4,q4,rfl⟩:=OwnR.shape d;clear d;have ab:=(M.o.bel.block _ (zAB B.o)).trans B.o;have d3:=zAu ab;have ay:=zh (zDB (p:=m) (n:=n2) (c:=j) (show zBe w4 (.slice m n2 j) l by unfold zBe;rw[Q.o];exact zAM.chg az.o (Chg.of_below M.o.bel) fun _ _=>id) HZ.o (by have:=Q.o;omega));clear ab q I))
 refine ay.o.mono ?_;rintro r w5 ⟨z,rfl,U,aq,ah⟩;have av:=zh (zAj.has U);obtain⟨pz,cz,rfl,-⟩:=zAN U;have Y:=zh (M.o.next ah);have V:=zh (show(zAp [t,k]++zFB g).length=G+H by rw[List.length_append,N.o,O.o]);clear U aq ah d3;generalize ae:(zDs l).length=m6 at *;have W:=zh ae;clear ae;have R:=zW (OwnR w5 5 1 (.slice p4 (G+H) q4) (G+H) (zAQ (zAp [t,k]++zFB g))) (by have:=Y.o.own;unfold zAj at this;rwa[V.o]at this);have K:=zW (zAM w5 1 (.slice pz m6 cz) m6 (zAQ (zDs l))) (by have:=av.o;unfold zAY at this;rwa[W.o]at this);go_wp2_with (at_builtin;refine zAP _ rfl (.tmp 15) (.tmp 18) 22 rfl 5 i0 (.int .u8 0) 1 1 underlying22 hi an ao ap rfl (by decide) (.slice p4 (G+H) q4) (G+H) _ rfl R.o (.slice pz m6 cz) m6 _ rfl K.o (zAO _) (by unfold maxLen;omega) (by omega) ?_;intro v7 w7 d b f;go_loud (have ar:=zh (zCn.grown (x:=zDs l) Y.o (by rw[V.o,W.o];exact d) b f);clear b f;obtain⟨p7,q7,rfl⟩:=OwnR.shape d;clear d))
 go_ret;have hE:=ar.o;exact⟨_,rfl,hE.own,fun y T=>Nat.le_trans P.o.size (hE.new y T),P.o.trans (hE.bel.mono P.o.size)⟩
theorem rentry_calls {w:World}{e:Ent}{v:EV}(h:zBP w e v)(D:zA1 e=true){n:Nat}(hn:n≤4611686018427387904) :
  Calls prog 113 #[.int .i64 (n:Int),zC7 e v] w (zBd w (zAK (zEw n e))):=by
 obtain⟨i0,hi,ai,aj,ak⟩:=info_parts (show(prog.info? 5).map (fun i=>(i.zero,i.size,i.bytes))=some (some (.int .u8 0),1,1) by kernel_rfl);have a:=zEx hn D;have hf:=zBE D;obtain⟨t,k,J,L⟩:=e;obtain⟨v1,v2⟩:=v;obtain⟨M,H,e1⟩:=h.data.slice;obtain⟨N,I,e2⟩:=h.nodes.slice;have e1:v1=.slice M J.length H:=e1;have e2:v2=.slice N L.length I:=e2;subst e1;subst e2;dsimp only at hf a;generalize av:J.length=X at *;generalize aw:L.length=n2 at *;have T:=zAD w (zEo t k (.slice M X H) (.slice N n2 I));have ac:(w.alloc (zEo t k (.slice M X H) (.slice N n2 I))).heap[w.heap.size]?=some (zEo t k (.slice M X H) (.slice N n2 I)):=zAI w _;have hh:=h.below T;have HT:=zh (entB_is hn ⟨t,k,J,L⟩);have E:=zh a;have Hf:=zh hf;have S:=zh T;have Y:=zh ac;have Hh:=zh hh;have aq:=zh D;have az:(zDj (n:Int)).length≤9:=zBI _;have K:=zh (rowB_lit (w.alloc (zEo t k (.slice M X H) (.slice N n2 I))) 3);have aa:=zh (zEa ((w.alloc (zEo t k (.slice M X H) (.slice N n2 I))).alloc (.cells #[.int .u8 3] 5)) (n:Int) (by omega));clear av aw T ac hh a hf h D;unfold zC7;dsimp only
 go_enter func113,ntmps113
 go_wp2_with fail;refine aa.o.mono ?_;rintro r w2 ⟨x,rfl,U,ax,ae⟩;have ar:(w.alloc (zEo t k (.slice M X H) (.slice N n2 I))).heap.size=w.heap.size+1:=by simp
 generalize w.alloc (zEo t k (.slice M X H) (.slice N n2 I))=W1 at *;have R:=zh (K.o.next ae);have an:=zh (zAj.has U);obtain⟨px,cx,rfl,-⟩:=zAN U;clear U ax ae;generalize ad:(zDj (n:Int)).length=A at *;have P:=zh ad;have am:=zW (([3]:Bs).length=1) rfl;have g:=zW (OwnR w2 5 1 (.slice (some ⟨W1.heap.size,0,none⟩) 1 1) 1 (zAQ [3])) R.o.own;have F:=zh (show zAM w2 1 (.slice px A cx) A (zAQ (zDj (n:Int))) by have:=an.o;unfold zAY at this;rwa[P.o]at this);clear ad;rw[ar]at g R;go_wp2_with (at_builtin;refine zAP _ rfl (.tmp 6) (.tmp 8) 22 rfl 5 i0 (.int .u8 0) 1 1 underlying22 hi ai aj ak rfl (by decide) (.slice (some ⟨w.heap.size+1,0,none⟩) 1 1) 1 _ rfl g.o (.slice px A cx) A _ rfl F.o (zAO _) (by unfold maxLen;omega) (by omega) ?_;intro v4 w4 d b f;go_loud (have O:=zh (zCn.grown (x:=zDj (n:Int)) R.o (by rw[am.o,P.o];exact d) b f);clear b f;obtain⟨p4,q4,rfl⟩:=OwnR.shape d;clear d;have s:=(O.o.bel.block _ (zAB Y.o)).trans Y.o;have d0:=zAW s;have d1:=zAd s;have d2:=zAb s;have d3:=zAu s;have ap:=zh (rentC_calls (Hh.o.below O.o.bel) aq.o);clear s g F))
 refine ap.o.mono ?_;rintro r w5 ⟨z,rfl,V,al,af⟩;have ao:=zh (zAj.has V);obtain⟨pz,cz,rfl,-⟩:=zAN V;have Z:=zh (O.o.next af);have j:=zh (show([3]++zDj (n:Int):Bs).length=1+A by rw[List.length_append,P.o];rfl);clear V al af d0 d1 d2 d3;generalize C:(entC0 ⟨t,k,J,L⟩).length=W at *;have Q:=zh C;have ay:W≤1048000:=by
  have h1:=congrArg List.length HT.o;rw[List.length_append,j.o,C]at h1;have h2:=E.o;have h3:=Hf.o;omega
 have au:1+A+W≤1048576:=by
  have h1:=congrArg List.length HT.o;rw[List.length_append,j.o,C]at h1;have h2:=E.o;have h3:=Hf.o;omega
 clear C;have q:=zW (OwnR w5 5 1 (.slice p4 (1+A) q4) (1+A) (zAQ ([3]++zDj (n:Int)))) (by have:=Z.o.own;unfold zAj at this;rwa[j.o]at this);have G:=zW (zAM w5 1 (.slice pz W cz) W (zAQ (entC0 ⟨t,k,J,L⟩))) (by have:=ao.o;unfold zAY at this;rwa[Q.o]at this);go_wp2_with (at_builtin;refine zAP _ rfl (.tmp 10) (.tmp 12) 22 rfl 5 i0 (.int .u8 0) 1 1 underlying22 hi ai aj ak rfl (by decide) (.slice p4 (1+A) q4) (1+A) _ rfl q.o (.slice pz W cz) W _ rfl G.o (zAO _) (by unfold maxLen;omega) (by omega) ?_;intro v7 w7 d b f;go_loud (have B:=zh (zCn.grown (x:=entC0 ⟨t,k,J,L⟩) Z.o (by rw[j.o,Q.o];exact d) b f);clear b f;obtain⟨p7,q7,rfl⟩:=OwnR.shape d;clear d;have ab:=zh (zBo (p:=p7) (m:=1+A+W) (c:=q7) (l:=zEw n ⟨t,k,J,L⟩) (by have:=B.o.own.has;rw[HT.o]at this;exact this) (by rw[←HT.o,List.length_append,j.o,Q.o];exact au));clear q G))
 refine ab.o.mono ?_;rintro r w8 ⟨y,rfl,hy,ah,ag⟩;have HF:=zW (zBd w (zAK (zEw n ⟨t,k,J,L⟩)) (.returned y) w8) (⟨y,rfl,hy,fun x hx=>Nat.le_trans S.o.size (Nat.le_trans B.o.bel.size (ah x hx)),S.o.trans ((B.o.bel.trans (ag.mono B.o.bel.size)).mono S.o.size)⟩);clear hy ah ag;go_wp2_with fail;go_ret;exact HF.o
end Go.Proofs.YtapfnehdgailmaaGreat
