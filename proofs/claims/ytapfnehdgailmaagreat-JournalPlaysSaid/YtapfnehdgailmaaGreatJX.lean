/- What the program's functions and the document's do, and plain laws, for PJournalPlays. -/
import Derived.Test.YtapfnehdgailmaaGreatJB
import Derived.Test.YtapfnehdgailmaaGreatJI
import Derived.Test.YtapfnehdgailmaaGreatJV
import Derived.Test.YtapfnehdgailmaaGreatJW
open Go.Proofs.Tryz
set_option maxRecDepth 100000
set_option maxHeartbeats 64000000
namespace Go.Proofs.YtapfnehdgailmaaGreat
open Go.RowKit Go.Sat Go.Maps
def zBc (S:Nat→Prop)(w:World)(j r:Nat)(pre:ByteArray)(M:zAJ):Prop :=
 ∃O C gv dv ev vs,zFq w j r pre O C M gv dv ev vs∧∀k,(O k∨C k)→S k
section
variable {S:Nat→Prop} {w w1 w2:World} {j r:Nat} {pre:ByteArray} {M:zAJ}
theorem zBc.below (h:zBc S w1 j r pre M)(f:Below w1.heap.size w1 w2):zBc S w2 j r pre M:=by
 obtain⟨O,C,c,dv,b,vs,d,hn⟩:=h;exact⟨O,C,c,dv,b,vs,d.below f,hn⟩
theorem zBc.ok (h:zBc S w j r pre M):M.OK:=let ⟨_,_,_,_,_,_,hJ,_⟩:=h;hJ.ok
theorem zBc.lt (h:zBc S w j r pre M):S j∧j<w.heap.size:=let ⟨_,_,_,_,_,_,hJ,hn⟩:=h;⟨hn j (.inl hJ.oj),hJ.olt j hJ.oj⟩
theorem zBc.cells (h:zBc S w j r pre M):∃gv dv ev,w.heap[j]?=some (RJC r (M.number:Int) M.term gv pre M.now M.vote dv ev M.dead):=let ⟨_,_,gv,dv,ev,_,hJ,_⟩:=h;⟨gv,dv,ev,hJ.cells⟩
theorem zBc.last_calls (h:zBc S w1 j r pre M):Calls prog 42 #[.pointer (some ⟨j,0,none⟩)] w1 fun e w'=>e=.returned (.tuple #[.int .i64 (M.last:Int),.int .i64 M.lastT])∧∃q,w'=w1.drewN q:=by
 have d:=h.ok.last;obtain⟨O,C,N,dv,L,vs,k,hn⟩:=h;have I:=k.c 0 rfl;have J:=k.c 1 rfl;have v:=k.c 8 rfl;obtain⟨p,c,l⟩:=k.row.shape;have t:=zW (M.last=M.number+M.entries.length) rfl
 by_cases m:M.entries.length=0
 ·have z:M.entries=[]:=List.eq_nil_of_length_eq_zero m;have s:=zW ((M.last:Int)=(M.number:Int)∧M.lastT=M.term) (⟨by rw[t.o,m];rfl,by unfold zAJ.lastT;rw[z];rfl⟩);rw[l,m]at v;clear k hn l z m d
  go_enter func42,ntmps42
  go_wp2_with fail
  go_quiet (fail)
  go_wp2_with fail
  go_ret2
  exact⟨by rw[s.o.1,s.o.2];rfl,_,rfl⟩
 ·have f:M.entries.length-1<M.entries.length:=by omega
  obtain⟨g,H,v',i,B,-,F,-,-,-⟩:=k.ent (List.getElem?_eq_getElem f);have y:M.lastT=M.entries[M.entries.length-1].term:=by
   unfold zAJ.lastT;rw[List.getLast?_eq_getElem?,List.getElem?_eq_getElem f]
  rw[←y]at F;rw[i]at v;unfold zAJ.last at d;clear k hn l i B f y;generalize M.entries.length=n at *;generalize M.number=b at *;generalize M.last=G at *;generalize M.lastT=P at *;have A:((n:Int)==0)=false:=by simp;omega
  have D:IntKind.i64.wrap ((b:Int)+(n:Int))=(G:Int):=by rw[IntWalk.i64_in _ (by omega),t.o];omega
  have E:IntKind.i64.wrap ((n:Int)-1)=((n-1:Nat):Int):=by rw[IntWalk.i64_in _ (by omega)];omega
  have a:n-1<n:=by omega
  go_enter func42,ntmps42
  go_wp2_with fail
  go_quiet (fail)
  go_wp2_with fail
  go_ret2
  exact⟨rfl,_,rfl⟩
def zDO (S:Nat→Prop)(w1:World)(j r:Nat)(pre:ByteArray)(o:Option zAJ)(e:Ending)(w':World):Prop :=
 Chg S w1 w'∧match o with
 | none=>e=.returned (.bool false)
 | some M'=>e=.returned (.bool true)∧zBc (fun k=>S k∨w1.heap.size≤k) w' j r pre M'
theorem zBc.wide {T:Nat→Prop}(h:zBc S w1 j r pre M)(f:∀k,S k→T k):zBc T w1 j r pre M:=by
 obtain⟨O,C,c,dv,b,vs,d,hn⟩:=h;exact⟨O,C,c,dv,b,vs,d,fun k g=>f k (hn k g)⟩
theorem zBa (h:Below w1.heap.size w1 w2):Chg S w1 w2:=(Chg.of_below h).mono fun _ _ e=>e.elim
theorem zE0 {o:Option zAJ}(b:Chg S w1 w2)(c:o=none):zDO S w1 j r pre o (.returned (.bool false)) w2:=by
 subst c;exact⟨b,rfl⟩
theorem rds_yes {M':zAJ}{o:Option zAJ}(b:Chg S w1 w2)(h:zBc (fun k=>S k∨w1.heap.size≤k) w2 j r pre M')(c:o=some M'):zDO S w1 j r pre o (.returned (.bool true)) w2:=by
 subst c;exact⟨b,rfl,h⟩
theorem zAa {B:Nat}(w:World)(q:Nat):Below B w (w.drewN q):=⟨rfl,rfl,rfl,Nat.le_refl _,fun _ _=>rfl⟩
theorem zFj {p:Option Addr}{n c:Nat}{l:Bs}(f:zAb w (.slice p n c) l)(b:n≤c)(d:∀k,(Value.slice p n c).ownBlock=some k→k<w.heap.size)(i:n≤140737488355328) :
  RdY (fun k=>(Value.slice p n c).ownBlock=some k) (w.alloc (.cells #[.slice p n c,.bool false] 148)) w.heap.size ⟨l,false⟩:=by
 have hn:l.length=n:=by obtain⟨_,_,e⟩:=f.slice;simp only[Value.slice.injEq]at e;exact e.2.1.symm
 exact⟨p,n,c,⟨zAI w _,f.below (zAD w _),b,fun e=>by have:=d _ e;omega,by rw[hn];exact i,fun e=>by cases e⟩,fun k g=>g⟩
theorem zE4 {A:Nat→Prop}{q:Nat}{k:UInt8}{l:Bs}(h:RdY A w q ⟨k::l,false⟩) :
  Calls prog 163 #[.pointer (some ⟨q,0,none⟩),.int .i64 1] w fun e w'=>∃g cc,e=.returned (.slice (some ⟨g,0,none⟩) 1 cc)∧w'.cell? ⟨g,0,none⟩=some (.int .u8 (k.toNat:Int))∧(w.heap.size≤g∧g<w'.heap.size)∧RdY A w' q ⟨l,false⟩∧Chg (fun j=>j=q) w w':=by
 refine(zEZ h 1 (by decide)).mono ?_;rintro e w' ⟨v,rfl,b,f,i,n⟩;rw[take_one rfl]at b i;have d:=fun x=>OwnR.lt (k:=x) b;rcases b.2 with⟨-,m⟩|⟨g,c,cur,rfl,-⟩
 ·simp at m
 ·have:=OwnR.cells b (g:=g) rfl 0 (.int .u8 (k.toNat:Int)) rfl;rw[add_zero]at this;exact⟨g,c,rfl,this,⟨f g rfl,d g rfl⟩,i,n⟩
theorem rds_nil (h:zBc S w1 j r pre M){p:Option Addr}{c:Nat}(f:Bool)(a:zAb w1 (.slice p 0 c) [])(l:∀k,(Value.slice p 0 c).ownBlock=some k→k<w1.heap.size) :
  Calls prog 89 #[.pointer (some ⟨j,0,none⟩),.slice p 0 c,.bool f] w1 (zDO S w1 j r pre (zBs f M [])):=by
 have g:=zh (zFj (w:=w1) a (Nat.zero_le _) l (by omega));have n:=zh (zEZ g.o 1 (by decide));have b:=zh (zAD w1 (.cells #[.slice p 0 c,.bool false] 148));clear h;rw[raw_nil]at n
 go_enter func89,ntmps89
 go_wp2_with fail;refine n.o.mono ?_;rintro e w3 ⟨v,rfl,t,m,s,q⟩;have d:=zW (Below w1.heap.size w1 w3) (b.o.trans (q.below b.o.size fun i A e=>by omega));have z:w3.cell? ⟨w1.heap.size,1,none⟩=some (.bool true):=s.c1;obtain⟨pv,cv,rfl,-⟩:=zAL t;have y:=zh (zE0 (S:=S) (j:=j) (r:=r) (pre:=pre) (o:=zBs f M []) (zBa d.o) rfl);clear t m s q;go_wp2_with fail;go_ret;exact y.o
theorem rds_else (h:zBc S w1 j r pre M){p:Option Addr}{n c:Nat}{f:Bool}{k:UInt8}{l:Bs}(K:zAb w1 (.slice p n c) (k::l))(m:n≤c)(hl:n≤1073741824)(G:∀k,(Value.slice p n c).ownBlock=some k→k<w1.heap.size)(b:f≠decide (k=1)∨(k≠1∧k≠2∧k≠3∧k≠4)) :
  Calls prog 89 #[.pointer (some ⟨j,0,none⟩),.slice p n c,.bool f] w1 (zDO S w1 j r pre (zBs f M (k::l))):=by
 have J:=zh (zFj (w:=w1) K m G (by omega));have HF:=zh (zE4 J.o);have HJ:=zh h;have C:=zh (zAD w1 (.cells #[.slice p n c,.bool false] 148));have X:zBs f M (k::l)=none:=by
  rcases b with b|⟨s,U,V,W⟩
  ·exact rec1_early b
  ·exact rec1_other s U V W
 have HM:=zh X;have L:k.toNat<256:=k.toNat_lt;have d:∀z:UInt8,k=z↔k.toNat=z.toNat:=fun z=>⟨fun e=>by rw[e],fun e=>UInt8.toNat.inj e⟩;have t:=d 1;have v:=d 2;have y:=d 3;have a:=d 4;have P:(1:UInt8).toNat=1:=rfl;have Q:(2:UInt8).toNat=2:=rfl;have R:(3:UInt8).toNat=3:=rfl;have T:(4:UInt8).toNat=4:=rfl;rw[P]at t;rw[Q]at v;rw[R]at y;rw[T]at a;clear d P Q R T X h K hl m G
 go_enter func89,ntmps89
 go_wp2_with fail;generalize ad:w1.alloc (.cells #[.slice p n c,.bool false] 148)=Wq at *;refine HF.o.mono ?_;rintro e w3 ⟨g,q,rfl,Z,F,A,E⟩;have B:=zW (Below w1.heap.size w1 w3) (C.o.trans (E.below C.o.size fun i hi e=>by omega));have ab:=zh (HJ.o.below B.o);have ac:=zh A;have aa:=zh F;have ae:=A.c1;have N:w3.cell? ⟨g,0,none⟩=some (.int .u8 (k.toNat:Int)):=Z;clear A E Z F;have I:=zh (zE0 (S:=S) (j:=j) (r:=r) (pre:=pre) (o:=zBs f M (k::l)) (zBa B.o) HM.o);have O:=zh b;have D:=zh (And.intro t (And.intro v (And.intro y a)));clear b t v y a
 by_cases s:k.toNat=1
 ·have b:k=1:=D.o.1.2 s;have hf:f=false:=by
   rcases O.o with h|h
   ·rw[decide_eq_true b]at h;simpa using h
   ·exact absurd b h.1
  subst hf;rw[s]at N;clear s b L;go_wp2_with fail;go_ret;exact I.o
 ·have b:¬k=1:=fun e=>s (D.o.1.1 e);have af:decide (k.toNat=1)=false:=decide_eq_false s;have Y:((k.toNat:Int)==1)=false:=beq_eq_false_iff_ne.2 (by omega);cases f with
  | true =>
   clear b;go_wp2_with fail;go_ret;exact I.o
  | false =>
   have H:k≠1∧k≠2∧k≠3∧k≠4:=by
    rcases O.o with h|h
    ·exact absurd (decide_eq_false b).symm h
    ·exact h
   have U:¬k.toNat=2:=fun e=>H.2.1 (D.o.2.1.2 e);have V:¬k.toNat=3:=fun e=>H.2.2.1 (D.o.2.2.1.2 e);have W:¬k.toNat=4:=fun e=>H.2.2.2 (D.o.2.2.2.2 e);have ag:((k.toNat:Int)==2)=false:=beq_eq_false_iff_ne.2 (by omega);have ah:((k.toNat:Int)==3)=false:=beq_eq_false_iff_ne.2 (by omega);have ai:((k.toNat:Int)==4)=false:=beq_eq_false_iff_ne.2 (by omega);clear b H;go_wp2_with fail;go_ret;exact I.o
end
section
variable {S:Nat→Prop} {w w1 w2:World} {j r:Nat} {pre:ByteArray} {M:zAJ}
theorem zBc.vote (h:zBc S w1 j r pre M){t v:Int}(i:zDe t=true)(k:-1≤v∧v<7):zBc S ((w1.setCell ⟨j,5,none⟩ (.int .i64 t)).setCell ⟨j,6,none⟩ (.int .i64 v)) j r pre {M with now:=t,vote:=v}:=by
 obtain⟨O,C,d,dv,c,vs,b,hn⟩:=h;refine⟨O,C,d,dv,c,vs,b.set ?_ ((Chg.setCell w1 ⟨j,5,none⟩ _).trans (Chg.setCell _ ⟨j,6,none⟩ _) fun _ _ e=>e) rfl rfl rfl ⟨b.ok.last,b.ok.term,b.ok.group,i,k,b.ok.data,b.ok.ents⟩,hn⟩;have f:=zAC b.cells 5 (.int .i64 t);have g:=zAC f 6 (.int .i64 v);simpa using g
theorem zBc.base (h:zBc S w1 j r pre M)(y:M.entries=[])(c:∀k,k<w1.heap.size→k≠j→w2.heap[k]?=w1.heap[k]?)(q:w1.heap.size≤w2.heap.size){n:Nat}{t:Int}{g:List Int}{l:Value}(d:∀m dv s,w1.heap[j]?=some (RJC r (M.number:Int) M.term m pre M.now M.vote dv s M.dead)→w2.heap[j]?=some (RJC r (n:Int) t l pre M.now M.vote dv s M.dead))
  (B:zBY w2 l g) (f:∀k,l.ownBlock=some k→w1.heap.size≤k∧k<w2.heap.size) (p:n≤1099511627776) (E:zDe t=true) (z:zAZ g=true):zBc (fun k=>S k∨w1.heap.size≤k) w2 j r pre {M with number:=n,term:=t,group:=g}:=by
 obtain⟨O,C,m,dv,s,vs,b,hn⟩:=h;have D:=b.olt j b.oj;have o:∀k,C k→k≠j:=fun k c e=>b.dis k c (e▸b.oj);refine⟨O,fun k=>C k∨l.ownBlock=some k,l,dv,s,vs,{
  cells:=d _ _ _ b.cells
  group:=B
  data:=zAK.keep b.data fun k h=>c k (b.clt k (b.cd k h)) (o k (b.cd k h))
  row:=b.row.keep fun k h=>c k (b.olt k (b.oe k h).1) (b.oe k h).2
  rlen:=b.rlen
  rows:=fun i e v y a=>(b.rows i e v y a).keep fun k h=>c k (b.clt k (b.cv v (List.mem_of_getElem? a) k h)) (o k (b.cv v (List.mem_of_getElem? a) k h))
  oj:=b.oj
  oe:=b.oe
  cg:=fun k c=>.inr c
  cd:=fun k c=>.inl (b.cd k c)
  cv:=fun u F k c=>.inl (b.cv u F k c)
  dis:=fun k c A=>by
   rcases c with c|c
   ·exact b.dis k c A
   ·have G:=(f k c).1;have H:=b.olt k A;omega
  olt:=fun k h=>Nat.lt_of_lt_of_le (b.olt k h) q
  clt:=fun k h=>h.elim (fun h=>Nat.lt_of_lt_of_le (b.clt k h) q) fun h=>(f k h).2
  psz:=b.psz
  ok:=⟨by show n+M.entries.length≤_;rw[y];exact p,E,z,b.ok.now,b.ok.vote,b.ok.data,b.ok.ents⟩ },fun k c=>?_⟩
 rcases c with c|c|c
 ·exact .inl (hn k (.inl c))
 ·exact .inl (hn k (.inr c))
 ·exact .inr (f k c).1
theorem rds_k2 (h:zBc S w1 j r pre M){p:Option Addr}{n c:Nat}{l:Bs}(hx:zAb w1 (.slice p n c) (2::l))(A:n≤c)(hl:n≤1073741824)(P:∀k,(Value.slice p n c).ownBlock=some k→k<w1.heap.size) :
  Calls prog 89 #[.pointer (some ⟨j,0,none⟩),.slice p n c,.bool false] w1 (zDO S w1 j r pre (zBs false M (2::l))):=by
 have aa:=zh (zFj (w:=w1) hx A P (by omega));have HF:=zh (zE4 aa.o);have T:=zh h;have G:=zh (zAD w1 (.cells #[.slice p n c,.bool false] 148));have Y:=zh (show zBs false M (2::l)=(if(Rd.num ⟨l,false⟩).2.num.2.whole&&M.mayVote ((Rd.num ⟨l,false⟩).1:Int) (((Rd.num ⟨l,false⟩).2.num.1:Int)-1)then
    some {M with now:=((Rd.num ⟨l,false⟩).1:Int),vote:=(((Rd.num ⟨l,false⟩).2.num.1:Int)-1) }else none)from rfl)
 have ao:=Rd.num_le ⟨l,false⟩;have ag:=Rd.num_le (Rd.num ⟨l,false⟩).2;generalize zBs false M (2::l)=O at *;have ai:=zAs.1 h.ok.now;clear h hx hl A P
 go_enter func89,ntmps89
 go_wp2_with fail;generalize al:w1.alloc (.cells #[.slice p n c,.bool false] 148)=Wq at *;refine HF.o.mono ?_;rintro e w3 ⟨g,q,rfl,hg,N,E,I⟩;have B:=zW (Below w1.heap.size w1 w3) (G.o.trans (I.below G.o.size fun i hi e=>by omega));have ak:=zh (T.o.below B.o);have ab:=zh E;have aj:=zh N;have am:=E.c1;have an:w3.cell? ⟨g,0,none⟩=some (.int .u8 2):=hg;clear E I hg N;go_wp2_with fail;have Z:=zh (zBD ab.o);refine Z.o.mono ?_;rintro e w4 ⟨rfl,Q,J⟩;have K:=zh (zBD Q);have F:=zW (Below w1.heap.size w1 w4) (B.o.trans (J.below B.o.size fun i hi e=>by omega));clear Q J;go_wp2_with fail;refine K.o.mono ?_;rintro e w5 ⟨rfl,R,L⟩;have m:=zW (Below w1.heap.size w1 w5) (F.o.trans (L.below F.o.size fun i hi e=>by omega));have ac:=zh R;clear R L;have HW:=zh (zCb ac.o);obtain⟨gv,dv,ev,b⟩:=(T.o.below m.o).cells;have c5:=zDv b;have c6:=zAG b (i:=6) rfl;have f5:=zAE b 5;have f6:=zAE b 6;have y:=zW (∀t v,M.mayVote t v=(decide (M.now≤t∧t≤1099511627776∧-1≤v∧v<7)&& !decide (t=M.now∧M.vote≠-1∧v≠M.vote))) fun _ _=>rfl;generalize (Rd.num ⟨l,false⟩).2.num.2=R5 at *;generalize (Rd.num ⟨l,false⟩).2.num.1=m2 at *;generalize (Rd.num ⟨l,false⟩).1=f at *;obtain⟨v,hv⟩:∃v:Int,v=(m2:Int)-1:=⟨_,rfl⟩;have ar:IntKind.i64.wrap ((m2:Int)-1)=v:=by rw[IntWalk.i64_in _ (by omega)];omega
 rw[←hv]at Y;have ah:-1≤v:=by omega
 have HV:=zh (fun(V:zDe (f:Int)=true) (U:v<7)=>(T.o.below m.o).vote V ⟨ah,U⟩);have X:=zh (fun t v=>show Chg S w1 ((w5.setCell ⟨j,5,none⟩ (.int .i64 t)).setCell ⟨j,6,none⟩ (.int .i64 v))from(zBa m.o).trans ((Chg.setCell w5 ⟨j,5,none⟩ (.int .i64 t)).trans (Chg.setCell _ ⟨j,6,none⟩ (.int .i64 v)) fun _ _ e=>e) fun k _ e=>by have e2:k=j:=e;rw[e2];exact T.o.lt.1);clear hv ag;go_wp2_with fail;refine HW.o.mono ?_;rintro e w6 ⟨rfl,rfl⟩;cases W:R5.whole with
 | false =>
  have s:=zh (zE0 (S:=S) (j:=j) (r:=r) (pre:=pre) (o:=O) (zBa m.o) (by rw[Y.o,W];rfl));clear W b;go_wp2_with fail;go_ret;exact s.o
 | true =>
  have H:=zW (O=if M.mayVote (f:Int) v=true then some {M with now:=(f:Int),vote:=v}else none) (by rw[Y.o,W];simp);have a:=zh (fun(hm:M.mayVote (f:Int) v=false)=>show O=none by rw[H.o,hm];rfl);clear W;generalize ap:M.now=now at *;generalize aq:M.vote=vote at *
  by_cases U:7≤v
  ·have d7:decide ((7:Int)≤v)=true:=decide_eq_true U;have s:=zh (zE0 (S:=S) (j:=j) (r:=r) (pre:=pre) (o:=O) (zBa m.o) (a.o (by rw[y.o,decide_eq_false (by omega)];rfl)));clear b;go_wp2_with fail;go_ret;exact s.o
  ·have d7:decide ((7:Int)≤v)=false:=decide_eq_false U
   by_cases V:1099511627776<f
   ·have dt:decide ((1099511627776:Int)<(f:Int))=true:=decide_eq_true (by omega);have ad:decide (1099511627776<f)=true:=decide_eq_true V;have s:=zh (zE0 (S:=S) (j:=j) (r:=r) (pre:=pre) (o:=O) (zBa m.o) (a.o (by rw[y.o,decide_eq_false (by omega)];rfl)));clear b;go_wp2_with fail;go_ret;exact s.o
   ·have dt:decide ((1099511627776:Int)<(f:Int))=false:=decide_eq_false (by omega);have ad:decide (1099511627776<f)=false:=decide_eq_false V
    by_cases hn:(f:Int)<now
    ·have dn:decide ((f:Int)<now)=true:=decide_eq_true hn;have s:=zh (zE0 (S:=S) (j:=j) (r:=r) (pre:=pre) (o:=O) (zBa m.o) (a.o (by rw[y.o,decide_eq_false (by omega)];rfl)));clear b;go_wp2_with fail;go_ret;exact s.o
    ·have dn:decide ((f:Int)<now)=false:=decide_eq_false hn;have hT:zDe (f:Int)=true:=zAs.2 ⟨by omega,by omega⟩;have C:=zh (fun(hm:M.mayVote (f:Int) v=true)=>rds_yes (S:=S) (w1:=w1) (o:=O) (X.o (f:Int) v) ((HV.o hT (by omega)).wide fun _ h=>.inl h) (by rw[H.o,if_pos hm]))
     by_cases D:(f:Int)=now
     ·have de:((f:Int)==now)=true:=by simpa using D
      by_cases d:vote=-1
      ·have ae:(vote != -1)=false:=by simpa using d
       have s:=zh (C.o (by rw[y.o,decide_eq_true (by omega),decide_eq_false (by omega)];rfl));clear b D d;go_wp2_with fail;go_ret;exact s.o
      ·have ae:(vote != -1)=true:=by simpa using d
       by_cases z:v=vote
       ·have af:(v != vote)=false:=by simpa using z
        have s:=zh (C.o (by rw[y.o,decide_eq_true (by omega),decide_eq_false (by omega)];rfl));clear b D d z;go_wp2_with fail;go_ret;exact s.o
       ·have af:(v != vote)=true:=by simpa using z
        have s:=zh (zE0 (S:=S) (j:=j) (r:=r) (pre:=pre) (o:=O) (zBa m.o) (a.o (by rw[y.o,decide_eq_true (p:=(f:Int)=now∧vote≠-1∧v≠vote) ⟨D,d,z⟩,Bool.and_comm];rfl)));clear b D d z;go_wp2_with fail;go_ret;exact s.o
     ·have de:((f:Int)==now)=false:=by simpa using D
      have s:=zh (C.o (by rw[y.o,decide_eq_true (by omega),decide_eq_false (by omega)];rfl));clear b D;go_wp2_with fail;go_ret;exact s.o
theorem rds_k1 (h:zBc S w1 j r pre M){p:Option Addr}{n c:Nat}{l:Bs}(hx:zAb w1 (.slice p n c) (1::l))(P:n≤c)(hl:n≤1073741824)(Z:∀k,(Value.slice p n c).ownBlock=some k→k<w1.heap.size)(he:M.entries=[])(ap:∀k,(Value.slice p n c).ownBlock=some k→k≠j) :
  Calls prog 89 #[.pointer (some ⟨j,0,none⟩),.slice p n c,.bool true] w1 (zDO S w1 j r pre (zBs true M (1::l))):=by
 have aB:=zh (zFj (w:=w1) hx P Z (by omega));have HF:=zh (zE4 aB.o);have HJ:=zh h;have ac:=zh (zAD w1 (.cells #[.slice p n c,.bool false] 148));have HM:=zh (show zBs true M (1::l)=(if(Rd.num ⟨l,false⟩).2.num.2.grp zAZ |>.2.whole then
    if(Rd.num ⟨l,false⟩).1≤1099511627776∧(Rd.num ⟨l,false⟩).2.num.1≤1099511627776 then
     some {M with number:=(Rd.num ⟨l,false⟩).1,term:=((Rd.num ⟨l,false⟩).2.num.1:Int),group:=((Rd.num ⟨l,false⟩).2.num.2.grp zAZ).1}else none
   else none)from rfl)
 have aR:=Rd.num_le ⟨l,false⟩;have aS:=Rd.num_le (Rd.num ⟨l,false⟩).2;have aF:=zh (fun l' R' (hL:RLst (Rd.num ⟨l,false⟩).2.num.2 l' R')=>lst_first hL);generalize zBs true M (1::l)=O at *;have HA:=zh Z;have aA:=zh ap;have He:=zh he;have an:=h.lt;clear h hx hl P Z ap he
 go_enter func89,ntmps89
 go_wp2_with fail;generalize aO:w1.alloc (.cells #[.slice p n c,.bool false] 148)=Wq at *;refine HF.o.mono ?_;rintro e w3 ⟨g,q,rfl,z,am,K,ai⟩;have R:=zW (Below w1.heap.size w1 w3) (ac.o.trans (ai.below ac.o.size fun i hi e=>by omega));have aM:=zh (HJ.o.below R.o);have aC:=zh K;have aL:=zh am;have aP:=K.c1;have aQ:w3.cell? ⟨g,0,none⟩=some (.int .u8 1):=z;clear K ai z am;go_wp2_with fail;have ay:=zh (zBD aC.o);refine ay.o.mono ?_;rintro e w4 ⟨rfl,aq,aj⟩;have az:=zh (zBD aq);have ab:=zW (Below w1.heap.size w1 w4) (R.o.trans (aj.below R.o.size fun i hi e=>by omega));clear aq aj;go_wp2_with fail;refine az.o.mono ?_;rintro e w5 ⟨rfl,ar,ak⟩;have T:=zW (Below w1.heap.size w1 w5) (ab.o.trans (ak.below ab.o.size fun i hi e=>by omega));have aD:=zh ar;clear ar ak;generalize (Rd.num ⟨l,false⟩).2.num.2=R5 at *;generalize (Rd.num ⟨l,false⟩).2.num.1=f at *;generalize (Rd.num ⟨l,false⟩).1=d at *;have aT:=T.o.size;have ax:=zh (rlst_calls aD.o fun k s=>⟨by have:=HA.o k s;omega,fun e=>by have:=HA.o k s;omega⟩);go_wp2_with fail;refine ax.o.mono ?_;rintro e B ⟨vl,lg,R6,rfl,ah,v,J,ao,aI,au,al⟩;have a:=zW (Below w1.heap.size w1 B) (T.o.trans (al.below T.o.size fun i hi e=>by omega));obtain⟨af,ag⟩:=aF.o lg R6 ah;have D:=zh (And.intro af ag);have aw:=zh (HJ.o.below a.o);have av:=a.o.size;obtain⟨N,E,rfl,-⟩:=zAw v;generalize Q:lg.length=L at *;have aK:=zh Q;have aN:=zh (And.intro v (show ∀k,(Value.slice N L E).ownBlock=some k→w5.heap.size≤k∧k<B.heap.size from fun k s=>⟨J k s,OwnR.lt v s⟩));obtain⟨gv,dv,ev,b⟩:=aw.o.cells;have c0:=zAU b;have c1:=zAY b;have c2:=zAX b;have f0:=zAE b 0;have f1:=zAE b 1;have f2:=zAE b 2;have m:Chg (fun k=>k=j) B (((B.setCell ⟨j,0,none⟩ (.int .i64 (d:Int))).setCell ⟨j,1,none⟩ (.int .i64 (f:Int))).setCell ⟨j,2,none⟩ (.slice N L E)):=((Chg.setCell B ⟨j,0,none⟩ _).trans (Chg.setCell _ ⟨j,1,none⟩ _) fun _ _ e=>e).trans (Chg.setCell _ ⟨j,2,none⟩ _) fun _ _ e=>e;have Y:=fun W F G (hc0:B.heap[j]?=some (RJC r (M.number:Int) M.term W pre M.now M.vote F G M.dead))=>show(((B.setCell ⟨j,0,none⟩ (.int .i64 (d:Int))).setCell ⟨j,1,none⟩ (.int .i64 (f:Int))).setCell ⟨j,2,none⟩ (.slice N L E)).heap[j]?=some (RJC r (d:Int) (f:Int) (.slice N L E) pre M.now M.vote F G M.dead) by
  have y:=zAC hc0 0 (.int .i64 (d:Int));have A:=zAC y 1 (.int .i64 (f:Int));have h3:=zAC A 2 (.slice N L E);simpa using h3
 have aE:=zh (zCb (au.chg m (fun e=>by omega) fun k s e=>aA.o k s e));have X:zBY (((B.setCell ⟨j,0,none⟩ (.int .i64 (d:Int))).setCell ⟨j,1,none⟩ (.int .i64 (f:Int))).setCell ⟨j,2,none⟩ (.slice N L E)) (.slice N L E) lg:=by
  have:=zAK.chg (zCd.has v) m fun k s e=>by have:=J k s;omega
  exact this
 have t:=zh (zC4 X (by omega));have H:Chg S w1 (((B.setCell ⟨j,0,none⟩ (.int .i64 (d:Int))).setCell ⟨j,1,none⟩ (.int .i64 (f:Int))).setCell ⟨j,2,none⟩ (.slice N L E)):=(zBa a.o).trans m fun k _ e=>by rw[e];exact an.1
 have V:=zh (fun q (ho:O=none)=>zE0 (S:=S) (w1:=w1) (j:=j) (r:=r) (pre:=pre) (H.trans (zBa (zAa _ q)) fun _ _ h=>h) ho);have ad:=zh (fun(ho:O=none)=>zE0 (S:=S) (w1:=w1) (j:=j) (r:=r) (pre:=pre) H ho);have ae:=zh (fun q (y:d≤1099511627776) (A:f≤1099511627776) (z:zAZ lg=true) (ho:O=some {M with number:=d,term:=(f:Int),group:=lg})=>rds_yes (S:=S) (w1:=w1) (H.trans (zBa (zAa _ q)) fun _ _ h=>h) ((HJ.o.base He.o (fun k s aJ=>(m.block k (Nat.lt_of_lt_of_le s av) aJ).trans (a.o.block k s)) (Nat.le_trans av m.size) (fun W F G h=>Y W F G ((a.o.block j an.2).trans h)) X (fun k s=>⟨by have:=J k s;omega,Nat.lt_of_lt_of_le (OwnR.lt v s) m.size⟩) y (zAs.2 ⟨by omega,by omega⟩) z).below (zAa _ q)) ho);have I:=Y gv dv ev b;have d0:=zAU I;have d1:=zAY I;have d2:=zAX I;have HD:=zh (And.intro d0 (And.intro d1 d2));clear v J ao aI au al b m Y X H I af ag ah Q d0 d1 d2;go_wp2_with fail;clear c0 c1 c2 f0 f1 f2;generalize ((B.setCell ⟨j,0,none⟩ (.int .i64 (d:Int))).setCell ⟨j,1,none⟩ (.int .i64 (f:Int))).setCell ⟨j,2,none⟩ (.slice N L E)=W7 at *;obtain⟨d0,d1,d2⟩:=HD.o;refine aE.o.mono ?_;rintro e w8 ⟨rfl,rfl⟩;cases hw:R6.whole with
 | false =>
  have C:=zh (ad.o (by rw[HM.o,←D.o.1,hw];rfl));clear hw;go_wp2_with fail;go_ret;exact C.o
 | true =>
  cases z:zAZ lg with
  | false =>
   have C:=zh (fun q=>V.o q (by rw[HM.o,←D.o.1,hw,z];rfl));rw[z]at t;clear hw z;go_wp2_with fail;refine t.o.mono ?_;rintro e w9 ⟨rfl,q,rfl⟩;go_wp2_with fail;go_ret;exact C.o q
  | true =>
   have aa:((R5.grp zAZ).2.whole)=true:=by rw[←D.o.1,hw,z];rfl
   have HG:=zh z;have U:=zW (O=if d≤1099511627776∧f≤1099511627776 then some {M with number:=d,term:=(f:Int),group:=lg}else none) (by rw[HM.o,if_pos aa,D.o.2 aa]);rw[z]at t;clear hw z aa;have q0:∀q,(w8.drewN q).cell? ⟨j,0,none⟩=some (.int .i64 (d:Int)):=fun _=>d0;have q1:∀q,(w8.drewN q).cell? ⟨j,1,none⟩=some (.int .i64 (f:Int)):=fun _=>d1
   by_cases y:d≤1099511627776
   ·have e1:decide ((d:Int)≤1099511627776)=true:=decide_eq_true (by omega);have aG:decide (d≤1099511627776)=true:=decide_eq_true y
    by_cases A:f≤1099511627776
    focus have e2:decide ((f:Int)≤1099511627776)=true:=decide_eq_true (by omega);have aH:decide (f≤1099511627776)=true:=decide_eq_true A;have C:=zh (fun q=>ae.o q y A HG.o (by rw[U.o,if_pos ⟨y,A⟩]))
    rotate_left
    focus have e2:decide ((f:Int)≤1099511627776)=false:=decide_eq_false (by omega);have aH:decide (f≤1099511627776)=false:=decide_eq_false A;have C:=zh (fun q=>V.o q (by rw[U.o,if_neg (fun e=>A e.2)]))
    all_goals
     clear y A;go_wp2_with fail;refine t.o.mono ?_;rintro e w9 ⟨rfl,q,rfl⟩;have q0:=q0 q;have q1:=q1 q;go_wp2_with fail;go_ret;exact C.o q
   ·have e1:decide ((d:Int)≤1099511627776)=false:=decide_eq_false (by omega);have aG:decide (d≤1099511627776)=false:=decide_eq_false y;have C:=zh (fun q=>V.o q (by rw[U.o,if_neg (fun e=>y e.1)]));clear y;go_wp2_with fail;refine t.o.mono ?_;rintro e w9 ⟨rfl,q,rfl⟩;have q0:=q0 q;go_wp2_with fail;go_ret;exact C.o q
end
section
variable {w1:World} {j r:Nat} {pre:ByteArray} {D:zAA} {M:zAJ} {Hot Cold:Nat→Prop}
theorem rjappend_calls (h:RJF w1 j r pre D M Hot Cold){p:Option Addr}{n c:Nat}{es:List Ent}{vs:List EV}(hx:∀W,Chg Hot w1 W→zCG W (.slice p n c) es vs)(bX:es≠[]→∀b o,p=some ⟨b,o,none⟩→¬Hot b)(hn:n≤1000000) :
  Calls prog 44 #[.pointer (some ⟨j,0,none⟩),.slice p n c] w1 (zBu w1 j r pre Hot Cold (zAn (nm pre) D M es)):=by
 obtain⟨i0,bR,bY,bZ,ca⟩:=info_parts (show(prog.info? 5).map (fun i=>(i.zero,i.size,i.bytes))=some (some (.int .u8 0),1,1) by kernel_rfl);obtain⟨i4,bT,br,bs,bt⟩:=info_parts (show(prog.info? 50).map (fun i=>(i.zero,i.size,i.bytes))=some (some (.agg #[.int .i64 0,.int .i64 0,.slice none 0 0,.slice none 0 0]),4,64) by kernel_rfl);obtain⟨gv,dv,ev,aj⟩:=h.cellsD;have c9:w1.cell? ⟨j,9,none⟩=some (.bool M.dead):=zAG aj rfl;have aa:=zh (fun k w2 (hb:Below w1.heap.size w1 w2) (hr:zAn (nm pre) D M es=⟨D,M,k⟩)=>rj_same h hr hb);have HR:=zW (zAn (nm pre) D M es=if M.dead then⟨D,M,9⟩else if 1099511627776<M.last+es.length∨es.all zA1=false then⟨D,M,1⟩else if es=[]then⟨D,M,0⟩else zB7 (nm pre) D M (zA7 M.last es) {M with entries:=M.entries++es}) rfl;have bG:=zh (zDm h);have H:=zh h;have U:=zh h.okM;have bo:es.length=n:=(hx w1 (Chg.refl _ _)).len;have Hx:=zh hx;have R:=zh bo;clear h aj hx;generalize zAn (nm pre) D M es=az at *;cases hd:M.dead with
 | true =>
  rw[hd]at c9;have HE:=zh (aa.o 9 _ (Below.refl _ _) (by rw[HR.o,hd];rfl))
  go_enter func44,ntmps44
  go_wp2_with fail;go_ret;exact HE.o
 | false =>
  rw[hd]at c9;have ar:=zW (az=if 1099511627776<M.last+es.length∨es.all zA1=false then⟨D,M,1⟩else if es=[]then⟨D,M,0⟩else zB7 (nm pre) D M (zA7 M.last es) {M with entries:=M.entries++es}) (by rw[HR.o,hd];rfl);have bU:=U.o.last;generalize bg:M.last=g at *;have aV:=zh bg;clear bg bo hd
  go_enter func44,ntmps44
  go_wp2_with fail;refine bG.o.mono ?_;rintro e w3 ⟨rfl,q,rfl⟩;have aI:=zW (Below w1.heap.size w1 (w1.drewN q)) (⟨rfl,rfl,rfl,Nat.le_refl _,fun _ _=>rfl⟩);generalize bM:w1.drewN q=W0 at *;clear bM;go_wp2_with fail
  go_loopw [5,8] (fun x i wr=>∃(k:Nat) (y:Value),k≤n∧i=.int .i64 k∧y=x∧(∀e∈es.take k,zA1 e=true)∧zCe W0 wr y (zAS (zA7 g (es.take k)))) (fun _ i _=>n-(intOf i).toNat)
  case atStart=>exact⟨0,_,Nat.zero_le _,rfl,rfl,fun e he=>(by simp at he),zCe.nil _⟩
  case round =>
   obtain⟨k,y,hk,rfl,rfl,L,E⟩:=hrel;have l:Below w1.heap.size w1 wr:=aI.o.trans (E.bel.mono aI.o.size);have an:(zAS (zA7 g (es.take k))).length≤65812*k:=by
    have h1:=zDl (c:=65800) (zA7 g (es.take k)) (zDK g (es.take k) L (by rw[List.length_take];omega));rw[zCX,List.length_take]at h1;exact Nat.le_trans h1 (Nat.mul_le_mul_left _ (Nat.min_le_left _ _))
   by_cases bV:k<n
   ·have A:k<es.length:=by rw[R.o];exact bV
    obtain⟨b,o,v,rfl,F,k0,k1,k2,k3⟩:=(Hx.o wr ((Chg.of_below l).mono fun _ _ h=>h.elim)).ent A;have bD:=zh (zFG (n:=g) A);have aJ:=zh (List.take_succ_eq_append_getElem A);have aZ:=zW (zA1 es[k]=false→es.all zA1=false) (fun hf=>by
     rw[Bool.eq_false_iff];intro ht;have:=List.all_eq_true.1 ht _ (List.getElem_mem A);rw[hf]at this;cases this)
    generalize es[k]=e at *;obtain⟨v1,v2⟩:=v;obtain⟨p1,c1,e1⟩:=F.data.slice;obtain⟨p2,c2,e2⟩:=F.nodes.slice;have aN:v1=.slice p1 e.data.length c1:=e1;have aO:v2=.slice p2 e.nodes.length c2:=e2;subst aN;subst aO;have k2:wr.cell? ⟨b,o+k*4+2,none⟩=some (.slice p1 e.data.length c1):=k2;have k3:wr.cell? ⟨b,o+k*4+3,none⟩=some (.slice p2 e.nodes.length c2):=k3;have aK:=zh F;have bH:=zh E;have av:=zh L;have aS:=zh l;have cj:=zh an;obtain⟨py,cy,rfl,-⟩:=zAL E.own;have aM:=zh (ris_calls F);unfold zCf at aM;dsimp only at aM;clear A F e1 e2 E L l;generalize bj:(zAS (zA7 g (es.take k))).length=m1 at *;have bb:=zh bj;clear bj;go_wp2_with fail;refine aM.o.mono ?_;rintro r5 w4 ⟨rfl,S⟩;have aT:=zh S;cases N:zA1 e with
    | false =>
     have HE:=zh (aa.o 1 w4 (aS.o.trans (aT.o.mono aS.o.size)) (by rw[ar.o,if_pos (.inr (aZ.o N))]));clear N k0 k1 k2 k3 S;go_wp2_with fail;go_ret;exact HE.o
    | true =>
     have cx:IntKind.i64.wrap ((g:Int)+1)=(g:Int)+1:=IntWalk.i64_in _ (by omega);have cA:IntKind.i64.wrap ((g:Int)+1+(k:Int))=(g:Int)+1+(k:Int):=IntWalk.i64_in _ (by omega);have bE:=zW (Calls prog 113 #[.int .i64 ((g:Int)+1+(k:Int)),.agg #[.int .i64 e.term,.int .i64 e.kind,.slice p1 e.data.length c1,.slice p2 e.nodes.length c2]] w4 (zBX w4 (zAM (zEp (g+k+1) e)))) (by
      have:=rentry_calls (n:=g+k+1) (aK.o.below S) N (by omega);rwa[show((g+k+1:Nat):Int)=(g:Int)+1+(k:Int) by omega]at this)
     have q0:=zAH k0 S;have q1:=zAH k1 S;have q2:=zAH k2 S;have q3:=zAH k3 S;have aL:=zh N;clear N k0 k1 k2 k3 S;go_wp2_with fail;refine bE.o.mono ?_;rintro r6 w5 ⟨z,rfl,hz,cb,bh⟩;have aX:=zh ((bH.o.next aT.o).next bh);have HZ:=zh (zAi.has hz);have cB:(zAM (zEp (g+k+1) e)).length≤65812:=by
      rw[zAl];have h1:=zBF aL.o;have h2:=zFx (n:=g+k+1) (by omega) aL.o;omega
     obtain⟨pz,cz,rfl,-⟩:=zAL hz;clear hz cb bh q0 q1 q2 q3;generalize bk:(zAM (zEp (g+k+1) e)).length=m2 at *;have bc:=zh bk;have af:=zW (OwnR w5 5 1 (.slice py m1 cy) m1 (zAR (zAS (zA7 g (es.take k))))) (by have:=aX.o.own;unfold zAi at this;rwa[bb.o]at this);have aB:=zW (zAK w5 1 (.slice pz m2 cz) m2 (zAR (zAM (zEp (g+k+1) e)))) (by have:=HZ.o;unfold zAb at this;rwa[bc.o]at this);have HT:=zW (zAS (zA7 g (es.take k))++zAM (zEp (g+k+1) e)=zAS (zA7 g (es.take (k+1)))) (by rw[bD.o,zD8,zCA]);clear bk;go_wp2_with (at_builtin;refine zAO _ rfl (.tmp 32) (.tmp 41) 22 rfl 5 i0 (.int .u8 0) 1 1 underlying22 bR bY bZ ca rfl (by decide) (.slice py m1 cy) m1 _ rfl af.o (.slice pz m2 cz) m2 _ rfl aB.o (zAN _) (by unfold maxLen;omega) (by omega) ?_;intro v7 w7 B d C;go_loud (have bB:=zh (zCe.grown (x:=zAM (zEp (g+k+1) e)) aX.o (by rw[bb.o,bc.o];exact B) d C);clear d C;obtain⟨p7,q7,rfl⟩:=OwnR.shape B;clear B af aB))
     go_roundw
     case rel =>
      refine⟨k+1,_,by omega,by go_num,rfl,?_,by rw[←HT.o];exact bB.o⟩;intro z hz;rw[aJ.o]at hz;rcases List.mem_append.1 hz with hz|hz
      ·exact av.o z hz
      ·rw[show z=e by simpa using hz];exact aL.o
     case measure=>simp[intOf];omega
   ·obtain rfl:k=n:=by omega
    have bO:es.take k=es:=List.take_of_length_le (by rw[R.o];omega);rw[bO]at L E an;have aC:es.all zA1=true:=List.all_eq_true.2 L;obtain⟨py,cy,rfl,-⟩:=zAL E.own
    by_cases bm:k=0
    ·have aG:es=[]:=List.eq_nil_of_length_eq_zero (by rw[R.o,bm]);have HE:=zh (aa.o 0 wr l (by rw[ar.o,if_neg (by rw[aC,aG];simp;omega),if_pos aG]));subst bm;clear E L l an;go_wp2_with fail;go_ret;exact HE.o
    ·have cq:((k:Int)==0)=false:=by simp;omega
     have bW:es≠[]:=fun e=>by have:=R.o;rw[e]at this;simp at this;omega
     obtain⟨x0,bq⟩:∃x0,x0=g+k:=⟨_,rfl⟩;have cw:IntKind.i64.wrap ((g:Int)+(k:Int))=(x0:Int):=by rw[IntWalk.i64_in _ (by omega)];omega
     by_cases ah:1099511627776<g+k
     ·have HE:=zh (aa.o 1 wr l (by rw[ar.o,if_pos (.inl (by rw[R.o];exact ah))]));have bN:decide ((1099511627776:Int)<(x0:Int))=true:=decide_eq_true (by omega);clear E L l an ah bq;go_wp2_with fail;go_ret;exact HE.o
     ·have bN:decide ((1099511627776:Int)<(x0:Int))=false:=decide_eq_false (by omega);have aW:=zW (az=zB7 (nm pre) D M (zA7 g es) {M with entries:=M.entries++es}) (by rw[ar.o,if_neg (by rw[aC,R.o];simp;omega),if_neg bW]);have ba:=zh (zEU (H.o.below l) E.own.has (by omega) (rj_new H.o E.own fun y t=>Nat.le_trans aI.o.size (E.new y t)));have bw:=zh l;have HL:=zW (zB7 (nm pre) D M (zA7 g es) {M with entries:=M.entries++es}=if(layOn D (zAu (nm pre)) (zAS (zA7 g es))).2≠0 then⟨(layOn D (zAu (nm pre)) (zAS (zA7 g es))).1,M.die,(layOn D (zAu (nm pre)) (zAS (zA7 g es))).2⟩else⟨(layOn D (zAu (nm pre)) (zAS (zA7 g es))).1,{M with entries:=M.entries++es},0⟩) rfl;have av:=zh L;have aU:=zh (show g+k≤1099511627776 by omega);generalize layOn D (zAu (nm pre)) (zAS (zA7 g es))=Z at *;generalize (zAS (zA7 g es)).length=ly at *;obtain⟨D2,e2⟩:=Z;dsimp only at ba HL;clear E L l an ah bq;go_wp2_with fail;refine ba.o.mono ?_;rintro e w6 ⟨rfl,Y⟩;have au:=zh (Y.since bw.o);clear Y
      by_cases he:e2=0
      ·subst he;rw[zBh]at au;have bA:=zW (zAq w1 j r pre Hot Cold w6 D2 {M with entries:=M.entries++es.take 0}) (by rw[List.take_zero,List.append_nil];exact au.o);go_wp2_with fail
       go_loopw [10] (fun i wr=>∃k2:Nat,k2≤k∧i=.int .i64 k2∧zAq w1 j r pre Hot Cold wr D2 {M with entries:=M.entries++es.take k2}) (fun i _=>k-(intOf i).toNat)
       case atStart=>exact⟨0,Nat.zero_le _,rfl,bA.o⟩
       case round =>
        obtain⟨k2,co,rfl,Y⟩:=hrel
        by_cases aE:k2<k
        ·have ci:=zW (k=k) rfl;obtain⟨nn,bn⟩:∃nn,nn=k:=⟨_,rfl⟩;rw[←bn]at aE;obtain⟨cf,aH,hF,ai,am,ab⟩:=Y;have A:k2<es.length:=by rw[R.o];omega
         obtain⟨b,o,v,rfl,F,k0,k1,bu,k3⟩:=(Hx.o wr ai).ent A;have aJ:=zh (List.take_succ_eq_append_getElem A);have N:=av.o es[k2] (List.getElem_mem A);have aP:=zBF N;have bi:=A;generalize bQ:es[k2]=e at *;obtain⟨v1,v2⟩:=v;obtain⟨p1,c1,e1⟩:=F.data.slice;obtain⟨p2,c2,e2⟩:=F.nodes.slice;have aN:v1=.slice p1 e.data.length c1:=e1;have aO:v2=.slice p2 e.nodes.length c2:=e2;subst aN;subst aO;have cc:wr.cell? ⟨b,o+k2*4+2,none⟩=some (.slice p1 e.data.length c1):=bu;have cd:wr.cell? ⟨b,o+k2*4+3,none⟩=some (.slice p2 e.nodes.length c2):=k3;have aK:=zh F;obtain⟨O,own,cl,ck,ag,us,cC,L1,G,ax,hO,aw,hH⟩:=hF;obtain⟨pe,ce,ak⟩:=G.row.shape;have t8:wr.cell? ⟨j,8,none⟩=some (.slice pe ({M with entries:=M.entries++es.take k2}:zAJ).entries.length ce):=by rw[←ak];exact G.c 8 rfl
         have aF:({M with entries:=M.entries++es.take k2}:zAJ).entries.length=M.entries.length+k2:=by
          show(M.entries++es.take k2).length=_
          rw[List.length_append,List.length_take];omega
         have bl:M.entries.length≤g:=by
          rw[←aV.o];exact Nat.le_add_left _ _
         have Hb:=zW (b<wr.heap.size∧ag.ownBlock≠some b) (⟨World.block_lt_of_cell? wr _ k0,fun e=>by
          obtain⟨b',o',v',e3,-,q0,-⟩:=(Hx.o w1 (Chg.refl _ _)).ent A;cases e3;have h1:=World.block_lt_of_cell? w1 _ q0;rcases am b ((hH b).2 (.inl (G.oe b e).1))with h2|h2
          ·exact bX (fun e=>by rw[e]at A;simp at A) b o rfl h2
          ·have h1:b<w1.heap.size:=h1;omega⟩)
         have HX:=zh (And.intro G (And.intro ax (And.intro hO (And.intro aw (And.intro hH (And.intro ai (And.intro am ab)))))));have be:=zh aF;have bC:=zh N;generalize hm:({M with entries:=M.entries++es.take k2}:zAJ).entries.length=m at *;have bd:=zh hm;have P:=zh ak;have cg:m≤1099512627776:=by omega
         have cm:e.data.length≤65536:=aP.2.2.1;have cr:e.nodes.length≤7:=aP.2.2.2.1;have aq:=zh (⟨rfl,rfl,rfl,Nat.le_refl _,fun _ _=>rfl⟩:Below wr.heap.size wr wr.drew);have aR:k2<k:=by omega
         clear A F e1 e2 N G ax hO aw hH ai am ab ak hm aF bl aP bu k3 aE bn bQ bi;go_wp2_with fail;refine zDV [14] (fun w':World=>w'.cell? ⟨j,8,none⟩=some (.slice pe m ce)∧w'.cell? ⟨b,o+k2*4,none⟩=some (.int .i64 e.term)∧w'.cell? ⟨b,o+k2*4+1,none⟩=some (.int .i64 e.kind)∧w'.cell? ⟨b,o+k2*4+2,none⟩=some (.slice p1 e.data.length c1)∧w'.cell? ⟨b,o+k2*4+3,none⟩=some (.slice p2 e.nodes.length c2)) (n:=15) (by kernel_rfl) rfl (⟨t8,k0,k1,cc,cd⟩) fun f=>?_;generalize wr.drew=W1 at *;refine Gl [0,1,2,3,4,5,6,7,8] ?_
         iterate 9 (refine Gc rfl ?_;simp only[uZ])
         refine Gn ?_;refine zEM 9 rfl (by kernel_rfl) (by rfl) (fun K hK=>?_);have ae:=zh (rown_calls (aK.o.below aq.o) (by omega) (by omega));unfold zCf at ae;dsimp only at ae;go_wp2_with fail;refine ae.o.mono ?_;rintro r9 w9 ⟨⟨u1,u2⟩,rfl,hu,bp,V⟩;have I:=zh (aq.o.trans (V.mono aq.o.size));have bF:=zh (And.intro (zAH f.1 V) (And.intro (zAH f.2.1 V) (And.intro (zAH f.2.2.1 V) (And.intro (zAH f.2.2.2.1 V) (zAH f.2.2.2.2 V)))));have HU:=zh (And.intro hu (show ∀x,((u1,u2):EV).1.ownBlock=some x∨((u1,u2):EV).2.ownBlock=some x→wr.heap.size≤x from fun x hx=>Nat.le_trans aq.o.size (bp x hx)));obtain⟨pu,cu,eu,-⟩:=zAL hu.data;obtain⟨pn,cn,en,-⟩:=zAw hu.nodes;have bK:u1=.slice pu e.data.length cu:=eu;have bJ:u2=.slice pn e.nodes.length cn:=en;subst bK;subst bJ;clear hu bp V eu en;unfold zCf;go_wp2_with fail;refine hK.o _ _ (bF.o) fun f=>?_;clear hK
         try simp only[uZ]
         refine zEM 10 rfl (by kernel_rfl) (by rfl) (fun K hK=>?_);have X:=zAD w9 (.cells #[.int .i64 e.term,.int .i64 e.kind,.slice pu e.data.length cu,.slice pn e.nodes.length cn] 50);have Q:=zh (And.intro (zAH f.1 X) (And.intro (zAH f.2.1 X) (And.intro (zAH f.2.2.1 X) (And.intro (zAH f.2.2.2.1 X) (zAH f.2.2.2.2 X)))));have T:=zh X;clear X;go_wp2_with fail;refine hK.o _ _ (Q.o) fun f=>?_;clear hK
         try simp only[uZ]
         refine zEM 11 rfl (by kernel_rfl) (by rfl) (fun K hK=>?_);have aY:=zh (OwnR.keep HX.o.1.row fun y t=>((I.o.trans (T.o.mono I.o.size)).block y (OwnR.lt HX.o.1.row t)));rw[P.o,bd.o]at aY;have bI:=zh (zEx w9 #[.int .i64 e.term,.int .i64 e.kind,.slice pu e.data.length cu,.slice pn e.nodes.length cn] _ 4 1 1 rfl rfl 50 (0,0));refine zAm (.tmp 68) (.tmp 74) 78 rfl 50 i4 (.agg #[.int .i64 0,.int .i64 0,.slice none 0 0,.slice none 0 0]) 4 64 underlying78 bT br bs bt rfl (by decide) (.slice pe m ce) m _ rfl aY.o (.slice (some ⟨w9.heap.size,0,none⟩) 1 1) 1 _ rfl bI.o (fun u hu=>by simp at hu;rcases hu with rfl|rfl|rfl|rfl<;>rfl) (by unfold maxLen;omega) (by omega) ?_;intro cD ad B d C;have HN:=zh (And.intro B (And.intro d C));have ay:=fun(hg:(w9.alloc (.cells #[.int .i64 e.term,.int .i64 e.kind,.slice pu e.data.length cu,.slice pn e.nodes.length cn] 50)).grownBy ad (Value.slice pe m ce).ownBlock)=>(Chg.of_grown hg).block b (Nat.lt_of_lt_of_le Hb.o.1 (Nat.le_trans I.o.size T.o.size)) (fun e=>Hb.o.2 (by rw[P.o];exact e.symm));have aQ:ad.heap[j]?=wr.heap[j]?:=((Chg.of_grown d).block j (Nat.lt_of_lt_of_le (HX.o.1.olt j HX.o.1.oj) (Nat.le_trans I.o.size T.o.size)) (fun e=>(HX.o.1.oe j (by rw[P.o];exact e.symm)).2 rfl)).trans ((I.o.trans (T.o.mono I.o.size)).block j (HX.o.1.olt j HX.o.1.oj));have s8:=zAG (aQ.trans HX.o.1.cells) (i:=8) rfl;have f8:=zAE (aQ.trans HX.o.1.cells) 8;obtain⟨bv,bf,rfl⟩:=OwnR.shape B;have aA:=zh (And.intro (show ad.cell? ⟨j,8,none⟩=some (.slice pe m ce) by rw[←P.o];exact s8) (And.intro ((World.cell?_of_block (a:=⟨b,o+k2*4,none⟩) (ay d)).trans Q.o.2.1) (And.intro ((World.cell?_of_block (a:=⟨b,o+k2*4+1,none⟩) (ay d)).trans Q.o.2.2.1) (And.intro ((World.cell?_of_block (a:=⟨b,o+k2*4+2,none⟩) (ay d)).trans Q.o.2.2.2.1) ((World.cell?_of_block (a:=⟨b,o+k2*4+3,none⟩) (ay d)).trans Q.o.2.2.2.2)))));clear B d C aQ s8;go_wp2_with fail;refine hK.o _ _ (aA.o) fun f=>?_;clear hK
         try simp only[uZ]
         refine Gl [12,13] ?_
         iterate 2 (refine Gp rfl ?_;simp only[uZ])
         refine Gn ?_;refine g_end 14 rfl (by kernel_rfl) (by rfl) (by kernel_rfl) (fun K hK=>?_);have s8:=aA.o.1;go_wp2_with fail;refine hK.o _ _ ?_;clear hK
         try simp only[uZ]
         refine zEv (by kernel_rfl) ?_ _;have HE:=zW (zAq w1 j r pre Hot Cold (ad.setCell ⟨j,8,none⟩ (.slice bv (m+1) bf)) D2 {M with entries:=M.entries++es.take (k2+1) }) (by
          obtain⟨G,ax,hO,aw,hH,ai,am,ab⟩:=HX.o;obtain⟨B,d,C⟩:=HN.o;rw[←P.o]at d C;have bL:Below wr.heap.size wr (w9.alloc (.cells #[.int .i64 e.term,.int .i64 e.kind,.slice pu e.data.length cu,.slice pn e.nodes.length cn] 50)):=I.o.trans (T.o.mono I.o.size);have ct:=T.o.size;have cs:=I.o.size;have hC:Chg (fun y=>ag.ownBlock=some y) wr ad:=((Chg.of_below bL).mono fun _ _ h=>h.elim).trans ((Chg.of_grown d).mono fun _ _ h=>h.symm) fun _ _ h=>h;have aD:Chg (fun y=>some y=ag.ownBlock) w9 ad:=((Chg.of_below T.o).mono fun _ _ h=>h.elim).trans (Chg.of_grown d) fun _ _ h=>h;have al:∀y,ag.ownBlock=some y→y<wr.heap.size:=fun y t=>OwnR.lt G.row t;have ao:∀y,(Value.slice bv (m+1) bf).ownBlock=some y→(ag.ownBlock=some y∨(w9.alloc (.cells #[.int .i64 e.term,.int .i64 e.kind,.slice pu e.data.length cu,.slice pn e.nodes.length cn] 50)).heap.size≤y):=fun y t=>by
           rcases C with e3|⟨g3,e3,bP⟩
           ·exact .inl (e3▸t)
           ·rw[e3]at t;cases t;exact .inr bP
          have ap:us.length=(M.entries++es.take k2).length:=G.rlen;have J:(M.entries++es.take k2).length=m:=bd.o;rw[aJ.o,←List.append_assoc];refine zAq.comp ai am ab (rj_list (M:={M with entries:=M.entries++es.take k2}) (es':=(M.entries++es.take k2)++[e]) (vs':=us++[(.slice pu e.data.length cu,.slice pn e.nodes.length cn)]) (C':=fun y=>aH y∨((Value.slice pu e.data.length cu).ownBlock=some y∨(Value.slice pn e.nodes.length cn).ownBlock=some y)) G ax hO aw hH hC ?_ (fun y t=>(ao y t).imp id fun h=>by omega) (by rw[List.length_append,List.length_append,ap];rfl) (fun i e' v' s ac=>?_) (fun u hu y t=>?_) (fun _ h=>.inl h) (fun y t=>?_) ⟨?_,U.o.term,U.o.group,U.o.now,U.o.vote,U.o.data,fun e' s=>?_⟩)
          ·rw[zEr _ _ _ _ ap,List.length_append,J];exact B
          ·by_cases hi:i<m
           ·rw[List.getElem?_append_left (by rw[J];exact hi)]at s;rw[List.getElem?_append_left (by rw[ap,J];exact hi)]at ac;exact(G.rows i e' v' s ac).keep fun y t=>hC.block y (G.clt y (G.cv v' (List.mem_of_getElem? ac) y t)) fun e3=>G.dis y (G.cv v' (List.mem_of_getElem? ac) y t) (G.oe y e3).1
           ·have bS:=(List.getElem?_eq_some_iff.1 s).1;rw[List.length_append,J,List.length_singleton]at bS;obtain rfl:i=m:=by omega
            rw[List.getElem?_append_right (by rw[J];exact Nat.le_refl _),J,Nat.sub_self]at s;rw[List.getElem?_append_right (by rw[ap,J];exact Nat.le_refl _),ap,J,Nat.sub_self]at ac;cases s;cases ac;have h9:=HU.o.1.has (by omega) (by omega);exact h9.keep fun y t=>aD.block y (HU.o.1.lt t) fun e3=>by
             have h1:=al y e3.symm;have h2:=HU.o.2 y t;omega
          ·rcases List.mem_append.1 hu with hu|hu
           ·exact .inl (G.cv u hu y t)
           ·rw[List.mem_singleton.1 hu]at t;exact .inr t
          ·rcases t with t|t
           ·refine⟨.inl t,Nat.lt_of_lt_of_le (G.clt y t) hC.size,fun e3=>?_⟩;rcases ao y e3 with h1|h1
            ·exact G.dis y t (G.oe y h1).1
            ·have:=G.clt y t;omega
           ·have h2:=HU.o.2 y t;have h3:=HU.o.1.lt t;refine⟨.inr h2,Nat.lt_of_lt_of_le h3 aD.size,fun e3=>?_⟩;rcases ao y e3 with h1|h1
            ·have:=al y h1;omega
            ·omega
          ·show M.number+((M.entries++es.take k2)++[e]).length≤_
           rw[List.length_append,J];have h1:=be.o;have h2:=aV.o;have h3:=aU.o;unfold zAJ.last at h2
           show M.number+(m+1)≤_
           omega
          ·rcases List.mem_append.1 s with s|s
           ·rcases List.mem_append.1 s with s|s
            ·exact U.o.ents e' s
            ·exact av.o e' (List.mem_of_mem_take s)
           ·rw[List.mem_singleton.1 s];exact bC.o)
         go_wp2_with fail;go_roundw
         case rel=>exact⟨k2+1,by omega,by go_num,HE.o⟩
         case measure=>simp[intOf];omega
        ·have aR:k2=k:=by omega
         have HE:=zW (zBu w1 j r pre Hot Cold az (.returned (.int .i64 0)) wr) (by
          rw[aW.o,HL.o,if_neg (by simp)];rw[aR,List.take_of_length_le (by rw[R.o];omega)]at Y;exact⟨rfl,Y⟩)
         have cp:decide ((k2:Int)<(k:Int))=false:=decide_eq_false (by omega);clear Y aR;go_wp2_with fail;go_ret;exact HE.o
      ·have ch:((e2:Int)==0)=false:=by simp;omega
       have HE:=zW (zBu w1 j r pre Hot Cold az (.returned (.int .i64 (e2:Int))) w6) (by
        rw[aW.o,HL.o,if_pos he];rw[zBw M he]at au;exact⟨rfl,au.o⟩)
       go_wp2_with fail
       go_loopw [10] (fun i wr=>i=.int .i64 0∧wr=w6) (fun i _=>0)
       case atStart=>exact⟨rfl,rfl⟩
       case round =>
        obtain⟨rfl,rfl⟩:=hrel;go_wp2_with fail;go_ret;exact HE.o
end
end Go.Proofs.YtapfnehdgailmaaGreat
