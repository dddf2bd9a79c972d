/- What the program's functions and the document's do, and plain laws, for PJournalPlays. -/
import Derived.Test.YtapfnehdgailmaaGreatJB
import Derived.Test.YtapfnehdgailmaaGreatJF
import Derived.Test.YtapfnehdgailmaaGreatJK
open Go.Proofs.Tryz
set_option maxRecDepth 100000
set_option maxHeartbeats 64000000
namespace Go.Proofs.YtapfnehdgailmaaGreat
open Go.RowKit Go.Sat Go.Maps
section
variable {w w1:World} {j d:Nat} {pre:ByteArray} {D:zAA} {M:zAJ} {F:Nat→Prop}
theorem jinstall_calls (h:zAk w w1 j d pre D M F)(hm:M.entries.length≤1000000)(i t:Int)(hi:-9223372036854775808≤i∧i≤9223372036854775807){pg pd:Option Addr}{m cg n cd:Nat}{g:List Int}{b:Bs}(hn:b.length=n)(Q:n≤140737488355328)(aa:g.length=m)(P:m≤1099511627776)
  (a:zBY w1 (.slice pg m cg) g) (C:∀W,Below w.heap.size w W→Same F w1 W→zAb W (.slice pd n cd) b) :
  Calls prog 38 #[.pointer (some ⟨j,0,none⟩),.int .i64 i,.int .i64 t,.slice pg m cg,.slice pd n cd] w1 (zEF w w1 j d pre F (zAg (nm pre) D M i t g b)):=by
 have f:=zh (zD2 h);have q:=zh (zD0 w1 t);have z:=zh (zEQ a (by omega));have J:=zh (fun k (hr:zAg (nm pre) D M i t g b=⟨D,M,k⟩)=>zD3 h (Below.refl _ _) hr);have U:=zW (zAg (nm pre) D M i t g b=if M.dead then⟨D,M,9⟩else if i≤(M.number:Int)∨1099511627776<i∨zDe t=false∨zAZ g=false∨524288<b.length then⟨D,M,1⟩else zA8 (nm pre) D M ⟨i.toNat,t,g,b⟩) rfl;obtain⟨own,gv,dv,ev,vs,T,hS,ab,hl⟩:=id h;have c0:=T.c 0 rfl;clear T hS ab hl;cases G:M.dead with
 | true =>
  rw[G]at f;have p:=zh (J.o 9 (by rw[U.o,G];rfl));clear h a C
  go_enter func38,ntmps38
  go_wp2_with fail;refine f.o.mono ?_;rintro e w2 ⟨rfl,rfl⟩;go_wp2_with fail;go_ret;exact p.o
 | false =>
  rw[G]at f;have I:=zh (fun hc:i≤(M.number:Int)∨1099511627776<i∨zDe t=false∨zAZ g=false∨524288<b.length=>J.o 1 (by rw[U.o,G,if_neg (by simp),if_pos hc]))
  by_cases R:i≤(M.number:Int)
  ·have p:=zh (I.o (.inl R));clear h a C
   go_enter func38,ntmps38
   go_wp2_with fail;refine f.o.mono ?_;rintro e w2 ⟨rfl,rfl⟩;go_wp2_with fail;go_ret;exact p.o
  ·have d1:decide (i≤(M.number:Int))=false:=by simpa using R
   by_cases S:1099511627776<i
   ·have p:=zh (I.o (.inr (.inl S)));clear h a C
    go_enter func38,ntmps38
    go_wp2_with fail;refine f.o.mono ?_;rintro e w2 ⟨rfl,rfl⟩;go_wp2_with fail;go_ret;exact p.o
   ·have d2:decide (1099511627776<i)=false:=by simpa using S
    cases B:zDe t with
    | false =>
     rw[B]at q;have p:=zh (I.o (.inr (.inr (.inl B))));clear h a C B
     go_enter func38,ntmps38
     go_wp2_with fail;refine f.o.mono ?_;rintro e w2 ⟨rfl,rfl⟩;go_wp2_with fail;refine q.o.mono ?_;rintro e w2 ⟨rfl,rfl⟩;go_wp2_with fail;go_ret;exact p.o
    | true =>
     rw[B]at q;cases l:zAZ g with
     | false =>
      rw[l]at z;have p:=zh (I.o (.inr (.inr (.inr (.inl l)))));clear h a C B l
      go_enter func38,ntmps38
      go_wp2_with fail;refine f.o.mono ?_;rintro e w2 ⟨rfl,rfl⟩;go_wp2_with fail;refine q.o.mono ?_;rintro e w2 ⟨rfl,rfl⟩;go_wp2_with fail;refine z.o.mono ?_;rintro e w2 ⟨rfl,rfl⟩;go_wp2_with fail;go_ret;exact p.o
     | true =>
      rw[l]at z
      by_cases h3:524288<n
      ·have p:=zh (I.o (.inr (.inr (.inr (.inr (by rw[hn];exact h3))))));clear h a C B l
       go_enter func38,ntmps38
       go_wp2_with fail;refine f.o.mono ?_;rintro e w2 ⟨rfl,rfl⟩;go_wp2_with fail;refine q.o.mono ?_;rintro e w2 ⟨rfl,rfl⟩;go_wp2_with fail;refine z.o.mono ?_;rintro e w2 ⟨rfl,rfl⟩;go_wp2_with fail;go_ret;exact p.o
      ·have d3:decide (524288<(n:Int))=false:=by simp;omega
       have V:=zW (zAg (nm pre) D M i t g b=zA8 (nm pre) D M ⟨i.toNat,t,g,b⟩) (by rw[U.o,G,if_neg (by simp),if_neg (by rw[B,l,hn];simp;omega)]);have O:((i.toNat:Nat):Int)=i:=by omega
       have Y:=zh (zDy a (by omega));have Z:=zh (fun W v pg cg (E:Below w1.heap.size w1 W) (H:zCd W v g) (y:∀k,v.ownBlock=some k→w1.heap.size≤k) (A:v=.slice pg g.length cg)=>show Calls prog 110 #[.pointer (some ⟨j,0,none⟩),.agg #[.int .i64 i,.int .i64 t,.slice pg g.length cg],.slice pd n cd] W (zEF w w1 j d pre F (zAg (nm pre) D M i t g b)) by
        subst A;rw[V.o];have T:zAk w W j d pre D M (fun k=>F k∨(Value.slice pg g.length cg).ownBlock=some k):=h.more E fun k r=>r.imp id fun e=>⟨y k e,OwnR.lt H e⟩;have:=jgoes_calls (F2:=F) T hm (s:=⟨i.toNat,t,g,b⟩) ⟨by show i.toNat≤_;omega,B,l,by show b.length≤_;omega⟩ (by show b.length≤_;omega) (pg:=pg) (cg:=cg) (pd:=pd) (cd:=cd) H (fun W' K ac=>by show zAb W' (.slice pd b.length cd) b;rw[hn];exact C W' K fun k r=>(ac k (.inl r)).trans (h.same E k r)) (fun k r=>⟨.inr r,Nat.le_trans h.bel.size (y k r)⟩) (fun k r=>⟨.inl r,fun e=>by have R:=y k e;have S:=h.flt r;omega⟩);dsimp only at this;rw[O,hn]at this;exact this.mono fun e w' L=>⟨L.1,L.2.1,fun k r=>(L.2.2 k r).trans (h.same E k r)⟩)
       clear h a C B l O G hn aa Q P hm hi R S h3
       go_enter func38,ntmps38
       go_wp2_with fail;refine f.o.mono ?_;rintro e w2 ⟨rfl,rfl⟩;go_wp2_with fail;refine q.o.mono ?_;rintro e w2 ⟨rfl,rfl⟩;go_wp2_with fail;refine z.o.mono ?_;rintro e w2 ⟨rfl,rfl⟩;go_wp2_with fail;refine Y.o.mono ?_;rintro e w4 ⟨v,rfl,H,y,E⟩;obtain⟨pv,cv,A,-⟩:=zAw H;have X:=zh (Z.o w4 v pv cv E H y A);subst A;clear H y E;go_wp2_with fail;refine X.o.mono ?_;intro e w5 L;obtain⟨e1,N⟩:=L;have p:=zh N;subst e1;clear N;go_wp2_with fail;go_ret;exact⟨rfl,p.o⟩
end
def RdX (A:Nat→Prop)(w:World)(r:Nat)(R:Rd):Prop:=∃p n c,RdIn w r R p n c∧∀k,(Value.slice p n c).ownBlock=some k→A k
theorem RdX.at {A:Nat→Prop}{w:World}{r:Nat}{R:Rd}(h:RdX A w r R):RdAt w r R:=let ⟨p,n,c,h,_⟩:=h;⟨p,n,c,h⟩
theorem RdX.lt {A:Nat→Prop}{w:World}{r:Nat}{R:Rd}(h:RdX A w r R):r<w.heap.size:=let ⟨_,_,_,h,_⟩:=h;h.rlt
theorem RdX.chg {A S:Nat→Prop}{w w':World}{r:Nat}{R:Rd}(h:RdX A w r R)(d:Chg S w w')(i:¬S r)(f:∀k,A k→¬S k):RdX A w' r R:=by
 obtain⟨p,n,c,h,b⟩:=h;exact⟨p,n,c,⟨(d.block r h.rlt i).trans h.cells,zAb.chg h.has d fun k g=>f k (b k g),h.cap,h.ne,h.len⟩,b⟩
def RStepX (A:Nat→Prop)(w:World)(r:Nat)(b:Rd)(v:Value)(e:Ending)(w':World):Prop:=e=.returned v∧RdX A w' r b∧Chg (fun k=>k=r) w w'
def NumX (A:Nat→Prop)(w:World)(r:Nat)(R:Rd)(e:Ending)(w':World):Prop:=e=.returned (.int .i64 (R.num.1:Int))∧RdX A w' r R.num.2∧Chg (fun k=>k=r) w w'
def RowX (A:Nat→Prop)(w:World)(r:Nat)(b:Bs)(c:Rd)(e:Ending)(w':World):Prop :=
 ∃v,e=.returned v∧zAi w' 5 v b∧(∀j,v.ownBlock=some j→w.heap.size≤j)∧RdX A w' r c∧Chg (fun j=>j=r) w w'
theorem run_tailX {P:Program}{w:World}{t e:TypeId}{i:TypeInfo}(A:P.underlying t=some (.slice e))(v:P.info? e=some i)(g:i.size=1){p:Option Addr}{n c:Nat}{l:Bs}(h:zAb w (.slice p n c) l)(f:n≤c)(r k:Nat)(o:(Value.slice p n c).ownBlock≠some r)(y:k≤n) :
  ∃d b,(∀W,(Instr.slice t (.slice p n c) (some (.int .i64 (k:Int))) none none).run P W=.ok (.slice d (n-k) b) W)∧zAb w (.slice d (n-k) b) (l.drop k)∧n-k≤b∧(Value.slice d (n-k) b).ownBlock≠some r∧∀x,(Value.slice d (n-k) b).ownBlock=some x→(Value.slice p n c).ownBlock=some x:=by
 obtain⟨d,b,s,D,E,F⟩:=run_tail (P:=P) A v g h f r k o y;refine⟨d,b,s,D,E,F,fun x j=>?_⟩;have q:=s w;rw[run_tail0 (P:=P) w A v g p n c k y f]at q;have B:(if c=k then p else p.map fun x=>x.add k)=d:=by
  have:=congrArg (fun z:Result Value=>match z with | .ok (.slice a _ _) _=>a|_=>none) q;exact this
 subst B
 split at j
 ·cases p with
  | none=>cases j
  | some a=>exact j
 ·cases p with
  | none=>cases j
  | some a =>
   have C:(Value.slice (some (a.add k)) (n-k) b).ownBlock=some (a.add k).block:=rfl;have m:(Value.slice (some (a.add k)) (n-k) b).ownBlock=some x:=j;rw[C,zDQ]at m;exact m
section
variable {w:World} {r:Nat} {R:Rd} {p:Option Addr} {n c:Nat}
theorem rdX_bad {A:Nat→Prop}(h:RdIn w r R p n c):RdX A ((w.setCell ⟨r,0,none⟩ (.slice none 0 0)).setCell ⟨r,1,none⟩ (.bool true)) r Rd.fail :=
 ⟨none,0,0,⟨rd_set h _ _,zAi.has (e:=0) (OwnR.nil _ _ _),Nat.le_refl _,fun h=>(by cases h),Nat.zero_le _⟩,fun k b=>(by cases b)⟩
theorem zDI {A:Nat→Prop}(h:RdIn w r R p n c) :
  Calls prog 192 #[.pointer (some ⟨r,0,none⟩)] w (RStepX A w r Rd.fail (.tuple #[])):=by
 have d:=h.c0;have f:=h.c1;have g:=fun i=>zAE h.cells i;have b:=zW (RStepX A w r Rd.fail (.tuple #[]) (.returned (.tuple #[])) ((w.setCell ⟨r,0,none⟩ (.slice none 0 0)).setCell ⟨r,1,none⟩ (.bool true))) (⟨rfl,rdX_bad h,(Chg.setCell w ⟨r,0,none⟩ _).trans (Chg.setCell _ ⟨r,1,none⟩ _) fun _ _ e=>e⟩);clear h
 go_enter func192,ntmps192
 go_wp2_with fail
 go_end0
 exact b.o
theorem rawX_calls {A:Nat→Prop}(h:RdIn w r R p n c)(G:∀k,(Value.slice p n c).ownBlock=some k→A k)(k:Int)(B:0≤k)(Y:k≤9223372036854775807) :
  Calls prog 193 #[.pointer (some ⟨r,0,none⟩),.int .i64 k] w fun e w'=>∃v,e=.returned v∧zAi w' 5 v (R.raw k.toNat).1∧(∀j,v.ownBlock=some j→w.heap.size≤j)∧RdX A w' r (R.raw k.toNat).2∧Chg (fun j=>j=r) w w':=by
 obtain⟨i0,J,-,F,-⟩:=info_parts (show(prog.info? 5).map (fun i=>(i.zero,i.size,i.bytes))=some (some (.int .u8 0),1,1) by kernel_rfl);obtain⟨m,rfl⟩:∃m:Nat,k=(m:Int):=⟨k.toNat,by omega⟩;have hn:=h.n_eq;have L:=h.len;rw[Int.toNat_natCast];have c0:=h.c0;have U:=fun i=>zAE h.cells i
 by_cases Z:m≤n
 ·have l:R.raw m=(R.rest.take m,⟨R.rest.drop m,R.bad⟩):=by unfold Rd.raw;rw[if_pos (by omega)]
  rw[l];obtain⟨C,z,K,I,q,t,s⟩:=run_tailX (P:=prog) underlying22 J F h.has h.cap r m h.ne Z;have aa:∀W,(Instr.slice 22 (.slice p n c) none (some (.int .i64 (m:Int))) none).run prog W=.ok (.slice p m c) W:=fun W=>zB3 W underlying22 J p n c m (by have:=h.cap;omega);have E:=zh (zBv (zAb.cut h.has (k:=m) (by omega) c) (by rw[List.length_take];omega));have b:=zh h;have y:=zh (And.intro I (And.intro q t));have O:=zh (fun k B=>G k (s k B));clear I q t h l s G
  go_enter func193,ntmps193
  go_wp2_with fail;refine E.o.mono ?_;rintro e w1 ⟨v,rfl,N,g,a⟩;have f:=a.block r b.o.rlt;have d:RdIn w1 r R p n c:=⟨f.trans b.o.cells,zAb.below b.o.has a,b.o.cap,b.o.ne,b.o.len⟩;have T:=d.c0;have H:=fun i=>zAE d.cells i;have S:=zh (And.intro (show zAi (w1.setCell ⟨r,0,none⟩ (.slice C (n-m) z)) 5 v (R.rest.take m)from N.keep fun k B=>set_other _ fun e=>by
   have:=g k B;have h2:=b.o.rlt;have h3:k=r:=e;omega) (And.intro g (And.intro (show RdX A (w1.setCell ⟨r,0,none⟩ (.slice C (n-m) z)) r ⟨R.rest.drop m,R.bad⟩from⟨C,n-m,z,⟨rd_set0 d _,(zAb.set (zAb.below y.o.1 a) _ y.o.2.2),y.o.2.1,y.o.2.2,by rw[List.length_drop];omega⟩,O.o⟩)
    (((Chg.of_below a).mono fun _ _ h=>h.elim).trans (Chg.setCell _ ⟨r,0,none⟩ _) fun _ _ e=>e:Chg (fun j=>j=r) w (w1.setCell ⟨r,0,none⟩ (.slice C (n-m) z))))))
  clear N g d f;go_wp2_with fail;go_ret;exact⟨v,rfl,S.o⟩
 ·have l:R.raw m=([],Rd.fail):=by unfold Rd.raw;rw[if_neg (by omega)]
  rw[l];have D:=zh (zDI (A:=A) h);have V:((m:Int)>(n:Int)):=by omega
  clear h l
  go_enter func193,ntmps193
  go_wp2_with fail;refine D.o.mono ?_;rintro e w1 ⟨rfl,M,q⟩;have Q:=zh (And.intro M q);clear M q;go_wp2_with fail;go_ret;exact⟨_,rfl,OwnR.nil _ _ _,fun j X=>(by cases X),Q.o⟩
end
theorem zCo {B:Nat→Prop}{w:World}{r:Nat}{R:Rd}{p:Option Addr}{n c:Nat}(h:RdIn w r R p n c)(O:∀k,(Value.slice p n c).ownBlock=some k→B k) :
  Calls prog 191 #[.pointer (some ⟨r,0,none⟩)] w (NumX B w r R):=by
 obtain⟨i0,hi,-,aa,-⟩:=info_parts (show(prog.info? 5).map (fun i=>(i.zero,i.size,i.bytes))=some (some (.int .u8 0),1,1) by kernel_rfl);have hn:=h.n_eq;have T:=h.len;rw[hn]at T;have c0:=h.c0;have ad:=zAE h.cells 0;have b:=zh (zDI (A:=B) h);have E:=zW (zCi 0 0 R.rest=none→R.num=(0,Rd.fail)) (fun e=>by unfold Rd.num;rw[e]);have M:=zW (∀v t,zCi 0 0 R.rest=some (v,t)→R.num=(v,⟨t,R.bad⟩)) (fun v t e=>by unfold Rd.num;rw[e]);have y:=zh h;have HA:=zh O;have Y:=zh hn;clear h hn O
 go_enter func191,ntmps191
 go_wp2_with fail
 go_loop [3,13] (fun u i=>∃k a:Nat,k≤n∧k≤9∧i=.int .i64 k∧u=.int .u64 a∧a<128 ^ k∧zCi 0 0 R.rest=zCi k a (R.rest.drop k)) (fun _ i=>n-(intOf i).toNat)
 case atStart=>exact⟨0,0,Nat.zero_le _,by omega,rfl,rfl,by simp,rfl⟩
 case round =>
  obtain⟨k,a,hk,ae,rfl,rfl,ha,l⟩:=hrel
  by_cases U:k<n
  ·have F:k<R.rest.length:=by rw[Y.o];exact U
   rw[List.drop_eq_getElem_cons F]at l;rcases y.o.has.at with h0|⟨g,o,c1,e1,d⟩
   ·rw[h0]at F;simp at F
   simp only[Value.slice.injEq]at e1;obtain⟨rfl,-,rfl⟩:=e1;have ab:=d k _ (List.getElem?_eq_getElem F);have D:=zh l;clear d l;have hx:=R.rest[k].toNat_lt;have z:=zW (9≤k∨(0<k∧R.rest[k].toNat=0)→zCi k a (R.rest[k]::R.rest.drop (k+1))=none) (fun e=>by
    unfold zCi;rw[if_pos (e.imp id fun e=>⟨e.1,UInt8.toNat.inj (by rw[e.2];rfl)⟩)])
   have J:=zW (¬(9≤k∨(0<k∧R.rest[k].toNat=0))→R.rest[k].toNat<128→zCi k a (R.rest[k]::R.rest.drop (k+1))=if 4611686018427387904<a+R.rest[k].toNat*128 ^ k then none else some (a+R.rest[k].toNat*128 ^ k,R.rest.drop (k+1))) (fun e h=>by
    rw[zCi,if_neg (fun h=>e (h.imp id fun h=>⟨h.1,by rw[h.2];rfl⟩)),if_pos h])
   have L:=zW (¬(9≤k∨(0<k∧R.rest[k].toNat=0))→¬R.rest[k].toNat<128→zCi k a (R.rest[k]::R.rest.drop (k+1))=zCi (k+1) (a+R.rest[k].toNat%128*128 ^ k) (R.rest.drop (k+1))) (fun e h=>by
    rw[zCi,if_neg (fun h=>e (h.imp id fun h=>⟨h.1,by rw[h.2];rfl⟩)),if_neg h])
   generalize R.rest[k].toNat=x at *
   by_cases h9:9≤k
   ·have s:=zh (E.o (D.o.trans (z.o (.inl h9))));go_wp2_with fail;refine b.o.mono ?_;rintro e w1 ⟨rfl,j,d⟩;have q:=zW (NumX B w r R (.returned (.int .i64 0)) w1) (⟨by rw[s.o];rfl,by rw[s.o];exact j,d⟩);clear j d;go_wp2_with fail;go_ret;exact q.o
   ·by_cases hz:0<k∧x=0
    ·have s:=zh (E.o (D.o.trans (z.o (.inr hz))));obtain⟨m,rfl⟩:=hz;go_wp2_with fail;refine b.o.mono ?_;rintro e w1 ⟨rfl,j,d⟩;have q:=zW (NumX B w r R (.returned (.int .i64 0)) w1) (⟨by rw[s.o];rfl,by rw[s.o];exact j,d⟩);clear j d;go_wp2_with fail;go_ret;exact q.o
    ·have hs:¬(9≤k∨(0<k∧x=0)):=fun e=>e.elim h9 hz;have ac:decide ((9:Int)≤(k:Int))=false:=by simp;omega
     by_cases G:x<128
     ·have s:=zh (D.o.trans (J.o hs G));have X:=zGP ha (by omega) (show x<256 by omega);rw[show x%128=x by omega]at X;obtain⟨X,-,Z⟩:=X;generalize a+x*128 ^ k=A at *
      by_cases O:4611686018427387904<A
      ·have f:=zh (E.o (s.o.trans (if_pos O)));rcases Nat.lt_or_ge 0 k with m|m
       rotate_left
       rotate_left
       focus have W:0<x:=by omega
       all_goals
        go_wp2_with fail;refine b.o.mono ?_;rintro e w1 ⟨rfl,j,d⟩;have q:=zW (NumX B w r R (.returned (.int .i64 0)) w1) (⟨by rw[f.o];rfl,by rw[f.o];exact j,d⟩);clear j d;go_wp2_with fail;go_ret;exact q.o
      ·have f:=zh (M.o _ _ (s.o.trans (if_neg O)));obtain⟨p',c',K,hh,Q,I,V⟩:=run_tailX (P:=prog) underlying22 hi aa y.o.has y.o.cap r (k+1) y.o.ne U;have q:=zW (NumX B w r R (.returned (.int .i64 (A:Int))) (w.setCell ⟨r,0,none⟩ (.slice p' (n-(k+1)) c'))) (
        ⟨by rw[f.o],by rw[f.o];exact⟨p',n-(k+1),c',⟨rd_set0 y.o _,zAb.set hh _ I,Q,I,by rw[List.length_drop,Y.o];omega⟩,fun k hk=>HA.o k (V k hk)⟩,Chg.setCell w ⟨r,0,none⟩ _⟩)
       rw[Int.natCast_add,Int.natCast_one]at K;clear hh Q I V;rcases Nat.lt_or_ge 0 k with m|m
       rotate_left
       ·go_wp2_with fail;go_ret;exact q.o
       ·have W:0<x:=by omega
        go_wp2_with fail;go_ret;exact q.o
     ·have H:=D.o.trans (L.o hs G);obtain⟨X,N,Z⟩:=zGP ha (by omega) (show x<256 by omega);have C:=zh (And.intro H N);clear H N;generalize a+x%128*128 ^ k=A at *;rcases Nat.lt_or_ge 0 k with m|m
      rotate_left
      rotate_left
      focus have W:0<x:=by omega
      all_goals
       go_wp2_with fail;go_round;case rel=>exact⟨k+1,A,by omega,by omega,by go_num,rfl,C.o.2,C.o.1⟩
       case measure=>simp[intOf];omega
  ·have S:R.rest.drop k=[]:=List.drop_of_length_le (by rw[Y.o];omega);rw[S]at l;have s:=zh (E.o l);clear l S;go_wp2_with fail;refine b.o.mono ?_;rintro e w1 ⟨rfl,j,d⟩;have q:=zW (NumX B w r R (.returned (.int .i64 0)) w1) (⟨by rw[s.o];rfl,by rw[s.o];exact j,d⟩);clear j d;go_wp2_with fail;go_ret;exact q.o
theorem zGG {A:Nat→Prop}{w:World}{r:Nat}{R:Rd}(h:RdX A w r R) :
  Calls prog 152 #[.pointer (some ⟨r,0,none⟩)] w (RowX A w r R.bytes.1 R.bytes.2):=by
 obtain⟨p,n,c,h,q⟩:=h;have a:=zh (zCo h q);have C:=Rd.num_le R;have i:=zW (R.bytes=R.num.2.raw R.num.1) rfl;clear h q
 go_enter func152,ntmps152
 go_wp2_with fail;refine a.o.mono ?_;rintro e w1 ⟨rfl,⟨G,F,E,t,b⟩,s⟩;have l:=zh (rawX_calls t b (R.num.1:Int) (by omega) (by omega));have k:=zh s;rw[Int.toNat_natCast]at l;clear t s b;generalize R.num.1=m at *;generalize R.num.2=D at *;go_wp2_with fail;refine l.o.mono ?_;rintro e w2 ⟨v,rfl,y,g,f,d⟩;have z:=zW (RowX A w r R.bytes.1 R.bytes.2 (.returned v) w2) (⟨v,rfl,by rw[i.o];exact y,fun j B=>Nat.le_trans k.o.size (g j B),by rw[i.o];exact f,k.o.trans d fun _ _ e=>e⟩);clear y g f d;go_wp2_with fail;go_ret;exact z.o
theorem zBx {w:World}{x:Value}{l:Bs}(h:zAb w x l)(j:l.length≤140737488355328) :
  Calls prog 149 #[x] w fun e w'=>∃r,e=.returned (.pointer (some ⟨r,0,none⟩))∧RdX (fun k=>w.heap.size≤k∧k<r) w' r ⟨l,false⟩∧w.heap.size≤r∧r<w'.heap.size∧Below w.heap.size w w':=by
 have s:=zh (zBv h j);clear h
 go_enter func149,ntmps149
 go_wp2_with fail;refine s.o.mono ?_;rintro e w1 ⟨v,rfl,d,f,g⟩;obtain⟨p,c,rfl,b⟩:=zAL d;have q:=zW (RdX (fun k=>w.heap.size≤k∧k<w1.heap.size) (w1.alloc (.cells #[.slice p l.length c,.bool false] 232)) w1.heap.size ⟨l,false⟩) (
  ⟨p,l.length,c,⟨zAI w1 _,zF3 d.has _,b,fun e=>by have:=OwnR.lt d e;omega,j⟩,fun k i=>⟨f k i,OwnR.lt d i⟩⟩)
 have m:=zh (And.intro g.size (And.intro (show w1.heap.size<(w1.alloc (.cells #[.slice p l.length c,.bool false] 232)).heap.size by simp) (g.alloc g.size (.cells #[.slice p l.length c,.bool false] 232))));clear d f g;generalize l.length=n at *;go_wp2_with fail;go_ret;exact⟨_,rfl,q.o,m.o⟩
theorem setCell_heap {w u:World}(a:Addr)(v:Value){b:Nat}(h:w.heap[b]?=u.heap[b]?):(w.setCell a v).heap[b]?=(u.setCell a v).heap[b]?:=by
 simp[World.setCell,Array.getElem?_modify,h]
def putN (w:World):List Addr→List Int→World
 | a::l,z::zs=>putN (w.setCell a (.int .i64 z)) l zs
 | _,_=>w
theorem putN_snoc:∀(l:List Addr) (zs:List Int) (w:World) (a:Addr) (z:Int),zs.length=l.length→putN w (l++[a]) (zs++[z])=(putN w l zs).setCell a (.int .i64 z)
 | [],[],_,_,_,_=>rfl
 | _::l,_::zs,_,a,z,h=>putN_snoc l zs _ a z (by simpa using h)
 | [],_::_,_,_,_,h=>by simp at h
 | _::_,[],_,_,_,h=>by simp at h
theorem zCz:∀(k:Nat) (R:Rd),(Rd.ints k R).1.length=k
 | 0,_=>rfl
 | k+1,R=>by
  show((R.num.1:Int)::(Rd.ints k R.num.2).1).length=_
  rw[List.length_cons,zCz k]
theorem zDz:∀(k:Nat) (R:Rd),Rd.ints (k+1) R=((Rd.ints k R).1++[((Rd.ints k R).2.num.1:Int)],(Rd.ints k R).2.num.2)
 | 0,R=>rfl
 | k+1,R=>by
  show((R.num.1:Int)::(Rd.ints (k+1) R.num.2).1,(Rd.ints (k+1) R.num.2).2)=_
  rw[zDz k R.num.2];rfl
theorem ints_mem:∀(k:Nat) (R:Rd),∀z∈(Rd.ints k R).1,0≤z∧z≤4611686018427387904
 | 0,_,z,b=>by cases b
 | k+1,R,z,b=>by
  have c:=Rd.num_le R;rcases List.mem_cons.1 (show z∈((R.num.1:Int)::(Rd.ints k R.num.2).1)from b)with rfl|b
  ·omega
  ·exact ints_mem k _ z b
theorem zDX:∀(k:Nat) (R:Rd),(Rd.ints k R).2.rest.length≤R.rest.length
 | 0,_=>Nat.le_refl _
 | k+1,R=>Nat.le_trans (zDX k R.num.2) (Rd.num_rest R)
structure zDN (w:World)(r:Nat)(ps:List Addr):Prop where
 cell:∀a∈ps,∃z,w.cell? a=some (.int .i64 z)
 free:∀a∈ps,w.frozen? a=false
 ne:∀a∈ps,a.block≠r
 sp:∀a∈ps,a.spot=none
def NumsTold (A:Nat→Prop)(w:World)(r:Nat)(R:Rd)(c:List Addr)(w':World):Prop :=
 RdX A w' r (Rd.ints c.length R).2∧Chg (fun b=>b=r∨∃a∈c,b=a.block) w w'∧∀b,b<w.heap.size→b≠r→w'.heap[b]?=(putN w c (Rd.ints c.length R).1).heap[b]?
theorem zDN.chg {w w':World}{r:Nat}{d:List Addr}(h:zDN w r d)(g:Chg (fun k=>k=r) w w'):zDN w' r d:=by
 have f:∀a∈d,w'.heap[a.block]?=w.heap[a.block]?:=fun a b=>by
  obtain⟨z,c⟩:=h.cell a b;exact g.block _ (World.block_lt_of_cell? _ _ c) (h.ne a b)
 exact⟨fun a b=>by obtain⟨z,c⟩:=h.cell a b;exact⟨z,(World.cell?_of_block (f a b)).trans c⟩,fun a b=>by have:=h.free a b;simpa[World.frozen?,f a b]using this,h.ne,h.sp⟩
theorem zDN.set {w:World}{r:Nat}{i:List Addr}(h:zDN w r i){a:Addr}(l:a∈i)(z:Int):zDN (w.setCell a (.int .i64 z)) r i:=by
 have c:∀b,w.cell? b≠none→(∃y,(w.setCell a (.int .i64 z)).cell? b=some y∧(y=.int .i64 z∨w.cell? b=some y)):=fun b d=>by
  by_cases e:a=b
  ·subst e;exact⟨.int .i64 z,by obtain⟨k,g⟩:=h.cell a l;exact World.cell?_setCell_same w a _ g,.inl rfl⟩
  ·rw[World.cell?_setCell_other (h:=e)];cases m:w.cell? b with
   | none=>exact absurd m d
   | some y=>exact⟨y,rfl,.inr rfl⟩
 refine⟨fun b d=>?_,fun b d=>by rw[World.frozen?_setCell];exact h.free b d,h.ne,h.sp⟩
 ·obtain⟨k,g⟩:=h.cell b d;obtain⟨y,j,f⟩:=c b (by rw[g];simp);rcases f with rfl|f
  ·exact⟨z,j⟩
  ·rw[g]at f;cases f;exact⟨k,j⟩
theorem zEW {A:Nat→Prop}{w:World}{r:Nat}{R:Rd}(h:RdX A w r R){g c:Nat}{d:List Addr}(hp:zDN w r d)(hl:d.length≤1000)(hg:∀i a,d[i]?=some a→w.cell? ⟨g,i,none⟩=some (.pointer (some a)))(M:g≠r)(L:∀a∈d,a.block≠g)(K:∀k,A k→k≠r∧∀a∈d,k≠a.block) :
  Calls prog 150 #[.pointer (some ⟨r,0,none⟩),.slice (some ⟨g,0,none⟩) d.length c] w fun e w'=>e=.returned (.tuple #[])∧NumsTold A w r R d w':=by
 have Hg:=zh hg;have H:=zh h;have Hp:=zh hp;have X:=zh M;have W:=zh L;have HA:=zh K;clear h hp hg M L K;generalize hn:d.length=n at *;have P:=zh hn;clear hn
 go_enter func150,ntmps150
 go_wp2_with fail
 go_loopw [9] (fun i wr=>∃k:Nat,k≤n∧i=.int .i64 k∧RdX A wr r (Rd.ints k R).2∧Chg (fun b=>b=r∨∃a∈d,b=a.block) w wr∧zDN wr r d∧∀b,b<w.heap.size→b≠r→wr.heap[b]?=(putN w (d.take k) (Rd.ints k R).1).heap[b]?) (fun i _=>n-(intOf i).toNat)
 case atStart=>exact⟨0,Nat.zero_le _,rfl,H.o,Chg.refl _ _,Hp.o,fun b _ _=>by rw[List.take_zero];rfl⟩
 case round =>
  obtain⟨k,hk,rfl,p,l,y,m⟩:=hrel
  by_cases Z:k<n
  ·have q:k<d.length:=by rw[P.o];exact Z
   have Q:=List.getElem?_eq_getElem q;have G:=List.getElem_mem q;have ab:=l.cell (Hg.o k _ Q) (fun e=>e.elim X.o fun⟨a,h1,h2⟩=>W.o a h1 h2.symm);have Y:=zh (zDz k R);have V:=zh (List.take_succ_eq_append_getElem q);generalize d[k]=a at *;have D:=zW (((Rd.ints k R).1).length=(d.take k).length) (by rw[zCz,List.length_take,Nat.min_eq_left (by omega)]);have E:=zW (Calls prog 191 #[.pointer (some ⟨r,0,none⟩)] wr (NumX A wr r (Rd.ints k R).2)) (by obtain⟨_,_,_,h,Q⟩:=p;exact zCo h Q);have O:=zh (And.intro l (And.intro y m));have j:=zh G;have ad:=Rd.num_le (Rd.ints k R).2;clear p l y m q Q G;generalize F:(Rd.ints k R).2=Rk at *;generalize hv:Rk.num.1=v at *;have aa:=zh F;have Hv:=zh hv;clear F hv;go_wp2_with fail;refine E.o.mono ?_;rintro e w2 ⟨rfl,N,s⟩;have f:=O.o.2.1.chg s;have C:=zh f;obtain⟨z,hz⟩:=f.cell a j.o;have ac:=f.free a j.o;have U:=zh N;have B:=zh s;rw[Hv.o];clear N s f;go_wp2_with fail;have S:=zW (RdX A (w2.setCell a (.int .i64 (v:Int))) r (Rd.ints (k+1) R).2∧Chg (fun b=>b=r∨∃a∈d,b=a.block) w (w2.setCell a (.int .i64 (v:Int)))∧zDN (w2.setCell a (.int .i64 (v:Int))) r d∧∀b,b<w.heap.size→b≠r→(w2.setCell a (.int .i64 (v:Int))).heap[b]?=(putN w (d.take (k+1)) (Rd.ints (k+1) R).1).heap[b]?) (by
    rw[Y.o,V.o];refine⟨U.o.chg (Chg.setCell w2 a _) (fun e=>C.o.ne a j.o e.symm) (fun k hk e=>(HA.o k hk).2 a j.o e),?_,C.o.set j.o _,fun b hb I=>?_⟩
    ·exact(O.o.1.trans (B.o.mono (T:=fun b=>b=r∨∃a∈d,b=a.block) fun _ _ e=>.inl e) fun _ _ e=>e).trans ((Chg.setCell w2 a (.int .i64 (v:Int))).mono (T:=fun b=>b=r∨∃a∈d,b=a.block) fun _ _ e=>.inr ⟨a,j.o,e⟩) fun _ _ e=>e
    ·rw[putN_snoc _ _ _ _ _ D.o];exact setCell_heap _ _ ((B.o.block b (Nat.lt_of_lt_of_le hb O.o.1.size) I).trans (O.o.2.2 b hb I)))
   go_roundw
   case rel=>exact⟨k+1,by omega,by go_num,S.o⟩
   case measure=>simp[intOf];omega
  ·have t:k=n:=by omega
   have J:d.take k=d:=List.take_of_length_le (by rw[P.o];omega);rw[J,t]at m;rw[t]at p;have S:=zW (NumsTold A w r R d wr) (⟨by rw[P.o];exact p,l,by rw[P.o];exact m⟩);clear p l y m J t;go_wp2_with fail
   go_end0
   exact⟨rfl,S.o⟩
def zEl (A:Nat→Prop)(w:World)(r:Nat)(g:List Int×Rd)(e:Ending)(w':World):Prop :=
 ∃v,e=.returned v∧zCd w' v g.1∧(∀k,v.ownBlock=some k→w.heap.size≤k)∧RdX A w' r g.2∧Chg (fun k=>k=r) w w'
theorem any_calls (w:World)(x:Value):Calls prog 196 #[x] w fun e w'=>e=.returned (.bool true)∧w'=w:=by
 go_enter func196,ntmps196
 go_wp2_with fail;go_ret;exact⟨rfl,rfl⟩
theorem grp_big {may:List Int→Bool}{R:Rd}(h:7<R.num.1):R.grp may=([],Rd.fail):=by
 unfold Rd.grp;rw[if_pos h]
theorem zDW {may:List Int→Bool}{R:Rd}(h:¬7<R.num.1):R.grp may=((Rd.ints R.num.1 R.num.2).1,if may (Rd.ints R.num.1 R.num.2).1 then(Rd.ints R.num.1 R.num.2).2 else Rd.fail):=by
 unfold Rd.grp;rw[if_neg h]
theorem grp_round {A:Nat→Prop}{w wr w3 c:World}{r k v:Nat}{m l:Value}{zs:List Int}{q:Rd}{o:Obj}(h:∀k,A k→k<w.heap.size∧k≠r)(D:r<w.heap.size)(b:∀y,m.ownBlock=some y→w.heap.size≤y∧y≠r)(f:Chg (fun k=>k=r) w wr)
  (p:RdX A w3 r q) (d:Chg (fun k=>k=r) wr w3) (n:zs.length=k) (j:OwnR c 3 1 l (k+1) (zFg zs++[.int .i64 (v:Int)])) (B:(w3.alloc o).grownBy c m.ownBlock) (i:l.ownBlock=m.ownBlock∨∃g,l.ownBlock=some g∧(w3.alloc o).heap.size≤g) :
  zCd c l (zs++[(v:Int)])∧(∀y,l.ownBlock=some y→w.heap.size≤y∧y≠r)∧RdX A c r q∧Chg (fun k=>k=r) w c:=by
 have E:=f.size;have F:=d.size;have t:=zAv w3 o;have G:=t.size;have s:Chg (fun k=>some k=m.ownBlock) w3 c:=((Chg.of_below t).mono fun _ _ e=>e.elim).trans (Chg.of_grown B) fun _ _ e=>e;refine⟨?_,fun y a=>?_,p.chg s (fun e=>(b r e.symm).2 rfl) (fun x z e=>by have H:=(b x e.symm).1;have I:=(h x z).1;omega),(f.trans d fun _ _ e=>e).trans s fun x z e=>by have:=(b x e.symm).1;omega⟩
 ·unfold zCd zFg;rw[List.length_append,n,List.map_append];exact j
 ·rcases i with e|⟨g,e,C⟩
  ·exact b y (e▸a)
  ·rw[a]at e;cases e;exact⟨by omega,by omega⟩
theorem readGrp_grp {A:Nat→Prop}{w:World}{r:Nat}{R:Rd}(h:RdX A w r R)(hA:∀k,A k→k<w.heap.size∧k≠r) :
  Calls prog 151 #[.pointer (some ⟨r,0,none⟩),.func (.func 73) #[] #[]] w (zEl A w r (R.grp zAZ)):=by
 obtain⟨i0,hi,ag,ah,ai⟩:=info_parts (show(prog.info? 3).map (fun i=>(i.zero,i.size,i.bytes))=some (some (.int .i64 0),1,8) by kernel_rfl);have P:=zW (Calls prog 191 #[.pointer (some ⟨r,0,none⟩)] w (NumX A w r R)) (by obtain⟨_,_,_,h,ha⟩:=h;exact zCo h ha);have ak:=Rd.num_le R;have HB:=zh (grp_big (may:=zAZ) (R:=R));have HS:=zh (zDW (may:=zAZ) (R:=R));have HA:=zh hA;have ad:=zh h.lt;clear h hA;generalize R.grp zAZ=G at *;generalize hn:R.num.1=n at *;generalize Q:R.num.2=l at *;have Hn:=zh hn;have Y:=zh Q;clear hn Q
 go_enter func151,ntmps151
 go_wp2_with fail;refine P.o.mono ?_;rintro e w2 ⟨rfl,t,L⟩;rw[Y.o]at t;rw[Hn.o];have Z:=zh t;have O:=zh L
 by_cases h7:7<n
 ·have c:=zW (Calls prog 192 #[.pointer (some ⟨r,0,none⟩)] w2 (RStepX A w2 r Rd.fail (.tuple #[]))) (by obtain⟨_,_,_,h,_⟩:=t;exact zDI h);have E:=zh (HB.o h7);clear t L;go_wp2_with fail;refine c.o.mono ?_;rintro e w3 ⟨rfl,a,m⟩;have D:=zW (zEl A w r G (.returned (.slice none 0 0)) w3) (⟨.slice none 0 0,rfl,by rw[E.o];exact OwnR.nil _ _ _,fun k hk=>(by cases hk),by rw[E.o];exact a,O.o.trans m fun _ _ e=>e⟩);clear a m c;go_wp2_with fail;go_ret;exact D.o
 ·have E:=zh (HS.o h7);have am:n≤7:=by omega
  clear t L;go_wp2_with fail
  go_loopw [6,14] (fun x i wr=>∃(k:Nat) (J:Value),k≤n∧i=.int .i64 k∧J=x∧zCd wr J (Rd.ints k l).1∧(∀y,J.ownBlock=some y→w.heap.size≤y∧y≠r)∧RdX A wr r (Rd.ints k l).2∧Chg (fun k=>k=r) w wr) (fun _ i _=>n-(intOf i).toNat)
  case atStart=>exact⟨0,_,Nat.zero_le _,rfl,rfl,OwnR.nil _ _ _,fun y C=>(by cases C),Z.o,O.o⟩
  case round =>
   obtain⟨k,J,hk,rfl,rfl,b,d,B,F⟩:=hrel
   by_cases al:k<n
   ·have ac:=zW (Calls prog 191 #[.pointer (some ⟨r,0,none⟩)] wr (NumX A wr r (Rd.ints k l).2)) (by obtain⟨_,_,_,h,ha⟩:=B;exact zCo h ha);have ae:=zh (zDz k l);have N:=zCz k l;have p:=zh (And.intro b (And.intro d F));have H:=zW (OwnR wr 3 1 J k (zFg (Rd.ints k l).1)) (by have:=b;unfold zCd at this;rwa[N]at this);have ab:=zh N;have aj:=Rd.num_le (Rd.ints k l).2;have I:=zh ae.o;clear b d B F N;generalize hv:(Rd.ints k l).2.num.1=v at *;have Hv:=zh hv;clear hv;go_wp2_with fail;refine ac.o.mono ?_;rintro e w3 ⟨rfl,a,m⟩;have K:=zh a;have X:=zh m;rw[Hv.o];have q:=zh (H.o.keep fun y C=>m.block y (OwnR.lt H.o C) fun e=>(p.o.2.1 y C).2 e);clear a m;go_wp2_with (at_builtin;have S:=q.o.keep (w':=w3.alloc (.cells #[.int .i64 (v:Int)] 3)) (fun z hz=>(zAv w3 _).block z (OwnR.lt q.o hz));have W:=zDG w3 (.int .i64 (v:Int)) 3 (0,0);refine zAO _ rfl (.tmp 16) (.tmp 19) 38 rfl 3 i0 (.int .i64 0) 1 8 underlying38 hi ag ah ai rfl (by decide) J k _ rfl S (.slice (some ⟨w3.heap.size,0,none⟩) 1 1) 1 _ rfl W (by simp[Value.oneCell']) (by unfold maxLen;omega) (by omega) ?_;clear S W;intro v4 w4 f j s;go_loud (have D:=zh (grp_round (v:=v) HA.o ad.o p.o.2.1 p.o.2.2 K.o X.o ab.o f j s);clear j s;obtain⟨p4,q4,rfl⟩:=OwnR.shape f;clear f))
    go_roundw
    case rel=>exact⟨k+1,_,by omega,by go_num,rfl,by rw[I.o];exact D.o.1,D.o.2.1,by rw[I.o];exact D.o.2.2.1,D.o.2.2.2⟩
    case measure=>simp[intOf];omega
   ·have af:k=n:=by omega
    subst af;have T:=zCz k l;obtain⟨px,cx,e1,-⟩:=zAw b;have g:=zW (Calls prog 73 #[J] wr fun e w'=>e=.returned (.bool (zAZ (Rd.ints k l).1))∧w'=wr) (by rw[e1];exact zEQ (by rw[←e1];exact zCd.has b) (by omega));have c:=zW (Calls prog 192 #[.pointer (some ⟨r,0,none⟩)] wr (RStepX A wr r Rd.fail (.tuple #[]))) (by obtain⟨_,_,_,h,_⟩:=B;exact zDI h);have p:=zh (And.intro b (And.intro d (And.intro F B)));have aa:=zW (J.ownBlock≠some r) fun e=>(d r e).2 rfl;subst e1;clear b d F B T;cases U:zAZ (Rd.ints k l).1 with
    | false =>
     rw[U]at g E;go_wp2_with fail;refine g.o.mono ?_;rintro e w3 ⟨rfl,rfl⟩;go_wp2_with fail;refine c.o.mono ?_;rintro e w4 ⟨rfl,V,M⟩;have D:=zW (zEl A w r G (.returned (.slice px (Rd.ints k l).1.length cx)) w4) (⟨_,rfl,by rw[E.o];exact OwnR.keep p.o.1 fun y C=>M.block y (OwnR.lt p.o.1 C) fun e=>aa.o (e▸C),fun y C=>(p.o.2.1 y C).1,by rw[E.o];exact V,p.o.2.2.1.trans M fun _ _ e=>e⟩);clear V M c;go_wp2_with fail;go_ret;exact D.o
    | true =>
     rw[U]at g E;have D:=zW (zEl A w r G (.returned (.slice px (Rd.ints k l).1.length cx)) wr) (⟨_,rfl,by rw[E.o];exact p.o.1,fun y C=>(p.o.2.1 y C).1,by rw[E.o];exact p.o.2.2.2,p.o.2.2.1⟩);go_wp2_with fail;refine g.o.mono ?_;rintro e w3 ⟨rfl,rfl⟩;go_wp2_with fail;go_ret;exact D.o
theorem readGrp_any {A:Nat→Prop}{w:World}{r:Nat}{R:Rd}(h:RdX A w r R)(hA:∀k,A k→k<w.heap.size∧k≠r) :
  Calls prog 151 #[.pointer (some ⟨r,0,none⟩),.func (.func 196) #[] #[]] w (zEl A w r (R.grp anyG)):=by
 obtain⟨i0,hi,ag,ah,ai⟩:=info_parts (show(prog.info? 3).map (fun i=>(i.zero,i.size,i.bytes))=some (some (.int .i64 0),1,8) by kernel_rfl);have P:=zW (Calls prog 191 #[.pointer (some ⟨r,0,none⟩)] w (NumX A w r R)) (by obtain⟨_,_,_,h,ha⟩:=h;exact zCo h ha);have ak:=Rd.num_le R;have HB:=zh (grp_big (may:=anyG) (R:=R));have HS:=zh (zDW (may:=anyG) (R:=R));have HA:=zh hA;have ad:=zh h.lt;clear h hA;generalize R.grp anyG=G at *;generalize hn:R.num.1=n at *;generalize Q:R.num.2=l at *;have Hn:=zh hn;have Y:=zh Q;clear hn Q
 go_enter func151,ntmps151
 go_wp2_with fail;refine P.o.mono ?_;rintro e w2 ⟨rfl,t,L⟩;rw[Y.o]at t;rw[Hn.o];have Z:=zh t;have O:=zh L
 by_cases h7:7<n
 ·have c:=zW (Calls prog 192 #[.pointer (some ⟨r,0,none⟩)] w2 (RStepX A w2 r Rd.fail (.tuple #[]))) (by obtain⟨_,_,_,h,_⟩:=t;exact zDI h);have E:=zh (HB.o h7);clear t L;go_wp2_with fail;refine c.o.mono ?_;rintro e w3 ⟨rfl,a,m⟩;have D:=zW (zEl A w r G (.returned (.slice none 0 0)) w3) (⟨.slice none 0 0,rfl,by rw[E.o];exact OwnR.nil _ _ _,fun k hk=>(by cases hk),by rw[E.o];exact a,O.o.trans m fun _ _ e=>e⟩);clear a m c;go_wp2_with fail;go_ret;exact D.o
 ·have E:=zh (HS.o h7);have am:n≤7:=by omega
  clear t L;go_wp2_with fail
  go_loopw [6,14] (fun x i wr=>∃(k:Nat) (H:Value),k≤n∧i=.int .i64 k∧H=x∧zCd wr H (Rd.ints k l).1∧(∀y,H.ownBlock=some y→w.heap.size≤y∧y≠r)∧RdX A wr r (Rd.ints k l).2∧Chg (fun k=>k=r) w wr) (fun _ i _=>n-(intOf i).toNat)
  case atStart=>exact⟨0,_,Nat.zero_le _,rfl,rfl,OwnR.nil _ _ _,fun y C=>(by cases C),Z.o,O.o⟩
  case round =>
   obtain⟨k,H,hk,rfl,rfl,b,d,B,F⟩:=hrel
   by_cases al:k<n
   ·have ac:=zW (Calls prog 191 #[.pointer (some ⟨r,0,none⟩)] wr (NumX A wr r (Rd.ints k l).2)) (by obtain⟨_,_,_,h,ha⟩:=B;exact zCo h ha);have ae:=zh (zDz k l);have N:=zCz k l;have p:=zh (And.intro b (And.intro d F));have I:=zW (OwnR wr 3 1 H k (zFg (Rd.ints k l).1)) (by have:=b;unfold zCd at this;rwa[N]at this);have ab:=zh N;have aj:=Rd.num_le (Rd.ints k l).2;have J:=zh ae.o;clear b d B F N;generalize hv:(Rd.ints k l).2.num.1=v at *;have Hv:=zh hv;clear hv;go_wp2_with fail;refine ac.o.mono ?_;rintro e w3 ⟨rfl,a,m⟩;have K:=zh a;have X:=zh m;rw[Hv.o];have q:=zh (I.o.keep fun y C=>m.block y (OwnR.lt I.o C) fun e=>(p.o.2.1 y C).2 e);clear a m;go_wp2_with (at_builtin;have S:=q.o.keep (w':=w3.alloc (.cells #[.int .i64 (v:Int)] 3)) (fun z hz=>(zAv w3 _).block z (OwnR.lt q.o hz));have W:=zDG w3 (.int .i64 (v:Int)) 3 (0,0);refine zAO _ rfl (.tmp 16) (.tmp 19) 38 rfl 3 i0 (.int .i64 0) 1 8 underlying38 hi ag ah ai rfl (by decide) H k _ rfl S (.slice (some ⟨w3.heap.size,0,none⟩) 1 1) 1 _ rfl W (by simp[Value.oneCell']) (by unfold maxLen;omega) (by omega) ?_;clear S W;intro v4 w4 f j s;go_loud (have D:=zh (grp_round (v:=v) HA.o ad.o p.o.2.1 p.o.2.2 K.o X.o ab.o f j s);clear j s;obtain⟨p4,q4,rfl⟩:=OwnR.shape f;clear f))
    go_roundw
    case rel=>exact⟨k+1,_,by omega,by go_num,rfl,by rw[J.o];exact D.o.1,D.o.2.1,by rw[J.o];exact D.o.2.2.1,D.o.2.2.2⟩
    case measure=>simp[intOf];omega
   ·have af:k=n:=by omega
    subst af;have T:=zCz k l;obtain⟨px,cx,e1,-⟩:=zAw b;have g:=zW (Calls prog 196 #[H] wr fun e w'=>e=.returned (.bool (anyG (Rd.ints k l).1))∧w'=wr) (by exact any_calls wr H);have c:=zW (Calls prog 192 #[.pointer (some ⟨r,0,none⟩)] wr (RStepX A wr r Rd.fail (.tuple #[]))) (by obtain⟨_,_,_,h,_⟩:=B;exact zDI h);have p:=zh (And.intro b (And.intro d (And.intro F B)));have aa:=zW (H.ownBlock≠some r) fun e=>(d r e).2 rfl;subst e1;clear b d F B T;cases U:anyG (Rd.ints k l).1 with
    | false =>
     rw[U]at g E;go_wp2_with fail;refine g.o.mono ?_;rintro e w3 ⟨rfl,rfl⟩;go_wp2_with fail;refine c.o.mono ?_;rintro e w4 ⟨rfl,V,M⟩;have D:=zW (zEl A w r G (.returned (.slice px (Rd.ints k l).1.length cx)) w4) (⟨_,rfl,by rw[E.o];exact OwnR.keep p.o.1 fun y C=>M.block y (OwnR.lt p.o.1 C) fun e=>aa.o (e▸C),fun y C=>(p.o.2.1 y C).1,by rw[E.o];exact V,p.o.2.2.1.trans M fun _ _ e=>e⟩);clear V M c;go_wp2_with fail;go_ret;exact D.o
    | true =>
     rw[U]at g E;have D:=zW (zEl A w r G (.returned (.slice px (Rd.ints k l).1.length cx)) wr) (⟨_,rfl,by rw[E.o];exact p.o.1,fun y C=>(p.o.2.1 y C).1,by rw[E.o];exact p.o.2.2.2,p.o.2.2.1⟩);go_wp2_with fail;refine g.o.mono ?_;rintro e w3 ⟨rfl,rfl⟩;go_wp2_with fail;go_ret;exact D.o
def zB6 (w w1:World)(j d:Nat)(pre:ByteArray)(D:zAA)(F:Nat→Prop)(o:Option zAJ)(e:Ending)(w':World):Prop :=
 St w w' d D F∧Same F w1 w'∧match o with
 | none=>e=.returned (.bool false)
 | some M'=>e=.returned (.bool true)∧zAk w w' j d pre D M' F
theorem zGH {w w2:World}{r:Nat}{k:UInt8}{l:Bs}(h:RdX (fun k=>w.heap.size≤k∧k<r) w2 r ⟨k::l,false⟩) :
  Calls prog 193 #[.pointer (some ⟨r,0,none⟩),.int .i64 1] w2 fun e w'=>∃g q,e=.returned (.slice (some ⟨g,0,none⟩) 1 q)∧w'.cell? ⟨g,0,none⟩=some (.int .u8 (k.toNat:Int))∧RdX (fun k=>w.heap.size≤k∧k<r) w' r ⟨l,false⟩∧Chg (fun j=>j=r) w2 w':=by
 obtain⟨p,n,c,h,o⟩:=h;refine(rawX_calls h o 1 (by decide) (by decide)).mono ?_;rintro e w' ⟨v,rfl,d,t,f,s⟩;have i:Rd.raw ⟨k::l,false⟩ (1:Int).toNat=([k],⟨l,false⟩):=by
  unfold Rd.raw;simp
 rw[i]at d f;rcases d.2 with⟨-,m⟩|⟨g,b,cur,rfl,-⟩
 ·simp at m
 ·have:=OwnR.cells d (g:=g) rfl 0 (.int .u8 (k.toNat:Int)) rfl;rw[add_zero]at this;exact⟨g,b,rfl,this,f,s⟩
section
variable {w w1 w2:World} {j d:Nat} {pre:ByteArray} {D:zAA} {M:zAJ} {F:Nat→Prop}
theorem rec_no (h:zAk w w1 j d pre D M F)(b:Below w1.heap.size w1 w2){o:Option zAJ}(c:o=none):zB6 w w1 j d pre D F o (.returned (.bool false)) w2:=by
 subst c;exact⟨(h.next b).stF,h.same b,rfl⟩
theorem rec_noj (h:zAk w w1 j d pre D M F)(c:Chg (fun k=>k=j) w1 w2){o:Option zAJ}(l:o=none):zB6 w w1 j d pre D F o (.returned (.bool false)) w2:=by
 subst l;obtain⟨own,n,dv,m,vs,g,hS,hn,i⟩:=h;have f:Chg own w1 w2:=c.mono fun k _ e=>by rw[e];exact g.ol
 exact⟨hS.move f (fun k _ b=>⟨.inl b,(hn k b).1⟩) fun k b=>⟨.inl (.inr b),Nat.lt_of_lt_of_le (i k b) c.size⟩,fun k b=>c.block k (i k b) fun e=>(hn j g.ol).2 (e▸b),rfl⟩
theorem rec_fst_ok (h:zAk w w1 j d pre D M F)(z:Chg (fun k=>k=j) w1 w2){n:Nat}{t:Int}{g:List Int}{m:Value}(c:∀own p dv s vs,zBg w1 j d pre own M p dv s vs→w2.heap[j]?=some (.cells #[.int .i64 (n:Int),.int .i64 t,m,.pointer (some ⟨d,0,none⟩),.string pre,.int .i64 M.now,.int .i64 M.vote,dv,s,.bool M.dead] 132 (0,0)))
  (G:zCd w2 m g) (f:∀k,m.ownBlock=some k→w1.heap.size≤k) (I:M.entries=[]) (r:n≤1099511627776) (N:zDe t=true) (A:zAZ g=true) {o:Option zAJ} (E:o=some {M with number:=n,term:=t,group:=g}):zB6 w w1 j d pre D F o (.returned (.bool true)) w2:=by
 subst E;obtain⟨own,p,dv,s,vs,b,hS,hn,L⟩:=h;have a:Chg own w1 w2:=z.mono fun k _ e=>by rw[e];exact b.ol
 have J:=b.olt j b.ol;have B:∀k,own k→k≠j→w2.heap[k]?=w1.heap[k]?:=fun k E C=>z.block k (b.olt k E) C;have y:zBg w2 j d pre (fun k=>own k∨m.ownBlock=some k) {M with number:=n,term:=t,group:=g} m dv s vs:=by
  refine⟨c _ _ _ _ _ b,G,OwnR.keep b.data fun k h=>B k (b.od k h).1 (b.od k h).2.1,b.row.keep fun k h=>B k (b.oe k h).1 (b.oe k h).2,⟨b.rows.1,fun i e v q l=>(b.rows.2 i e v q l).keep fun k h=>B k (b.ov v (List.mem_of_getElem? l) k h).1 (b.ov v (List.mem_of_getElem? l) k h).2.1⟩,.inl b.ol,fun k h=>⟨.inr h,fun e=>by have:=f k h;omega,fun e=>by have q:=f k h;have l:=b.olt k (b.oe k e).1;omega⟩,fun k h=>⟨.inl (b.od k h).1,(b.od k h).2⟩,fun k h=>⟨.inl (b.oe k h).1,(b.oe k h).2⟩,fun u H k h=>⟨.inl (b.ov u H k h).1,(b.ov u H k h).2⟩,fun k h=>?_,b.psz,⟨?_,N,A,b.ok.now,b.ok.vote,b.ok.data,b.ok.ents⟩⟩
  ·rcases h with h|h
   ·exact Nat.lt_of_lt_of_le (b.olt k h) z.size
   ·exact OwnR.lt G h
  ·show n+M.entries.length≤_
   rw[I];exact r
 obtain⟨q,l⟩:=zAk.turned hS hn L y a fun k h=>h.imp id (f k);exact⟨q.stF,l,rfl,q⟩
theorem rec_yes {M':zAJ}(h:zAk w w2 j d pre D M' F)(c:Same F w1 w2){o:Option zAJ}(b:o=some M'):zB6 w w1 j d pre D F o (.returned (.bool true)) w2:=by
 subst b;exact⟨h.stF,c,rfl,h⟩
theorem rec1_early {f:Bool}{k:UInt8}{l:Bs}(h:f≠decide (k=1)):zBs f M (k::l)=none:=by
 unfold zBs;dsimp only;rw[if_pos h]
theorem rec1_other {f:Bool}{k:UInt8}{l:Bs}(b:k≠1)(c:k≠2)(d:k≠3)(g:k≠4):zBs f M (k::l)=none:=by
 unfold zBs;dsimp only
 by_cases h:f≠decide (k=1)
 ·rw[if_pos h]
 ·rw[if_neg h,if_neg b,if_neg c,if_neg d,if_neg g]
theorem jou_places {own:Nat→Prop}{k dv i:Value}{vs:List EV}{W:World}{r:Nat}(l:zBg w1 j d pre own M k dv i vs)(m:Below w1.heap.size w1 W)(g:j≠r):zDN W r [⟨j,0,none⟩,⟨j,1,none⟩]:=by
 have b:=l.below m;refine⟨fun a f=>?_,fun a f=>?_,fun a f=>?_,fun a f=>?_⟩
 all_goals
  simp only[List.mem_cons,List.not_mem_nil,or_false]at f;rcases f with rfl|rfl
 ·exact⟨_,b.c 0 rfl⟩
 ·exact⟨_,b.c 1 rfl⟩
 ·exact b.fr 0
 ·exact b.fr 1
 ·exact g
 ·exact g
 ·rfl
 ·rfl
theorem grp_whole {R:Rd}(h:(R.grp zAZ).2.whole=true):zAZ (R.grp zAZ).1=true:=by
 unfold Rd.grp at h ⊢
 split at h
 ·cases h
 ·rename_i h7
  rw[if_neg h7];dsimp only at h ⊢
  split at h
  ·assumption
  ·cases h
theorem rec_k1 (h:zAk w w1 j d pre D M F){p:Option Addr}{n c:Nat}{l:Bs}(hx:zAb w1 (.slice p n c) (1::l))(hl:n≤1073741824)(he:M.entries=[]) :
  Calls prog 155 #[.pointer (some ⟨j,0,none⟩),.bool true,.slice p n c] w1 (zB6 w w1 j d pre D F (zBs true M (1::l))):=by
 have ai:=zh (zBx hx (by obtain⟨_,_,e⟩:=hx.slice;simp only[Value.slice.injEq]at e;omega));have H:=zh h;have f:=zh h.jlt;have HM:=zh (show zBs true M (1::l)=(if(Rd.num ⟨l,false⟩).2.num.2.grp zAZ |>.2.whole then
    if(Rd.num ⟨l,false⟩).1≤1099511627776∧(Rd.num ⟨l,false⟩).2.num.1≤1099511627776 then
     some {M with number:=(Rd.num ⟨l,false⟩).1,term:=((Rd.num ⟨l,false⟩).2.num.1:Int),group:=((Rd.num ⟨l,false⟩).2.num.2.grp zAZ).1}else none
   else none)from rfl)
 have af:=zh (grp_whole (R:=(Rd.num ⟨l,false⟩).2.num.2));have aD:=Rd.num_le ⟨l,false⟩;have aE:=Rd.num_le (Rd.num ⟨l,false⟩).2;have HI:=zW (Rd.ints 2 ⟨l,false⟩=([((Rd.num ⟨l,false⟩).1:Int),((Rd.num ⟨l,false⟩).2.num.1:Int)],(Rd.num ⟨l,false⟩).2.num.2)) rfl;have He:=zh he;generalize zBs true M (1::l)=O at *;generalize (Rd.num ⟨l,false⟩).1=I at *;generalize (Rd.num ⟨l,false⟩).2.num.1=J at *;generalize (Rd.num ⟨l,false⟩).2.num.2=R3 at *;clear h hx he
 go_enter func155,ntmps155
 go_wp2_with fail;refine ai.o.mono ?_;rintro e w2 ⟨r,rfl,hr,ap,ao,ak⟩;have au:=zh (zGH hr);have ad:=zh ak;have s:=zh (And.intro ap ao);clear hr ap ao ak;go_wp2_with fail;refine au.o.mono ?_;rintro e w3 ⟨g,q,rfl,hg,aa,al⟩;have m:=zW (Below w1.heap.size w1 w3) (ad.o.trans (al.below ad.o.size fun i hi e=>by have:=s.o.1;omega));have av:=zh aa;have aw:=zh aa.lt;have aC:w3.cell? ⟨g,0,none⟩=some (.int .u8 1):=hg;clear aa al hg;go_wp2_with fail;refine ost (fun _:World=>True) 11 (trivial) fun C=>?_;refine Pl [0,1,2,3,4,5,6,7,8] ?_
 iterate 9 (refine Pc rfl ?_;simp only[uZ])
 refine Pn ?_;refine oon 9 rfl fun K hK=>?_;go_wp2_with fail;refine hK.o _ _ (trivial) fun C=>?_;clear hK
 try simp only[uZ]
 refine oon 10 rfl fun K hK=>?_;have HP:=zW (zDN (w3.drew.alloc (.cells #[.pointer (some ⟨j,0,none⟩),.pointer (some ⟨j,1,none⟩)] 204)) r [⟨j,0,none⟩,⟨j,1,none⟩]) (by
  obtain⟨own,gv,dv,t,vs,E,-⟩:=H.o;exact jou_places E (m.o.trans ((zAP w3).trans (zAD w3.drew _) |>.mono m.o.size)) (by have:=s.o.1;have:=f.o;omega))
 have HN:=zh (zEW (R:=⟨l,false⟩) ((av.o.chg (Chg.drew w3) (fun e=>e) fun _ _ e=>e).chg (Chg.alloc w3.drew (.cells #[.pointer (some ⟨j,0,none⟩),.pointer (some ⟨j,1,none⟩)] 204)) (fun e=>e) fun _ _ e=>e) (g:=w3.drew.heap.size) (c:=2) HP.o (by simp) (fun i a hi=>by
  refine zAG (zAI w3.drew _) ?_
  match i,hi with
  | 0,hi=>cases hi;rfl
  | 1,hi=>cases hi;rfl) (fun e=>by have:=aw.o;have e2:w3.heap.size=r:=e;omega) (fun a V e=>by
   have v:=f.o;have S:=m.o.size;have e2:a.block=w3.heap.size:=e;simp at V;rcases V with rfl|rfl
   ·have e3:j=w3.heap.size:=e2;omega
   ·have e3:j=w3.heap.size:=e2;omega) (fun k hk=>⟨by omega,fun a V e=>by
   have v:=f.o;simp at V;rcases V with rfl|rfl
   ·have e3:k=j:=e;omega
   ·have e3:k=j:=e;omega⟩))
 go_wp2_with fail;refine HN.o.mono ?_;rintro e w4 ⟨rfl,am⟩;have P:=zh am;clear am;go_wp2_with fail;refine hK.o _ _ (trivial) fun C=>?_;clear hK
 try simp only[uZ]
 refine odn ?_;have ax:=zh (readGrp_grp (A:=fun k=>w1.heap.size≤k∧k<r) (w:=w4) (by have:=P.o.1;rw[show [(⟨j,0,none⟩:Addr),⟨j,1,none⟩].length=2 from rfl,HI.o]at this;exact this) (fun k hk=>⟨by have:=P.o.1.lt;omega,by omega⟩));have ae:=zW (Chg (fun k=>k=j) w1 w4) (by
  refine((Chg.of_below (m.o.trans (((zAP w3).trans (zAD w3.drew (.cells #[.pointer (some ⟨j,0,none⟩),.pointer (some ⟨j,1,none⟩)] 204))).mono m.o.size))).mono (T:=fun k=>k=j) fun _ _ e=>e.elim).trans P.o.2.1 fun k hk e=>?_;rcases e with e|⟨a,V,e⟩
  ·have:=s.o.1;omega
  ·simp at V;rcases V with rfl|rfl<;>exact e)
 have ag:=zh (fun own b dv t vs (E:zBg w1 j d pre own M b dv t vs)=>show w4.heap[j]?=some (.cells #[.int .i64 (I:Int),.int .i64 (J:Int),b,.pointer (some ⟨d,0,none⟩),.string pre,.int .i64 M.now,.int .i64 M.vote,dv,t,.bool M.dead] 132 (0,0)) by
  have aA:=f.o;have aF:=m.o.size;rw[P.o.2.2 j (by simp;show j<w3.heap.size+1;omega) (by have:=s.o.1;omega)];rw[show [(⟨j,0,none⟩:Addr),⟨j,1,none⟩].length=2 from rfl,HI.o];have az:=(((zAP w3).trans (zAD w3.drew (.cells #[.pointer (some ⟨j,0,none⟩),.pointer (some ⟨j,1,none⟩)] 204))).block j (by omega)).trans ((m.o.block j aA).trans E.cells);have v:=zAC az 0 (.int .i64 (I:Int));have S:=zAC v 1 (.int .i64 (J:Int));have e0:∀(W:World) (z:Int),putN W [(⟨j,0,none⟩:Addr),⟨j,1,none⟩] [(I:Int),(J:Int)]=(W.setCell ⟨j,0,none⟩ (.int .i64 (I:Int))).setCell ⟨j,1,none⟩ (.int .i64 (J:Int)):=fun _ _=>rfl;rw[e0 _ 0];simpa using S)
 go_wp2_with fail;refine ax.o.mono ?_;rintro e L ⟨y,rfl,ac,an,ab,Z⟩;have aq:=zW (Chg (fun k=>k=j) w1 L) (ae.o.trans (Z.mono (T:=fun k=>k=r) fun _ _ e=>e) fun k hk e=>by have:=s.o.1;omega);have aj:=zW (r≠j) (fun e=>by have v:=s.o.1;have S:=f.o;omega);have ah:=zh (fun own b dv t vs (E:zBg w1 j d pre own M b dv t vs)=>(Z.block j (zAB (ag.o own b dv t vs E)) fun e=>aj.o e.symm).trans (ag.o own b dv t vs E));have Y:=zh (And.intro ac (show ∀k,y.ownBlock=some k→w1.heap.size≤k from fun k hk=>Nat.le_trans ae.o.size (an k hk)));have aB:=zh ab;obtain⟨own,b,dv,t,vs,E,-⟩:=H.o;have U:=ah.o own b dv t vs E;have c2:=zAX U;have f2:=zAE U 2;have h6:=zAC U 2 y;have d0:(L.setCell ⟨j,2,none⟩ y).cell? ⟨j,0,none⟩=some (.int .i64 (I:Int)):=zAG h6 (by simp);have d1:(L.setCell ⟨j,2,none⟩ y).cell? ⟨j,1,none⟩=some (.int .i64 (J:Int)):=zAG h6 (by simp);have Hd:=zh (And.intro d0 d1);have HW:=zh (zDc ((ab.at.hd).same (w':=L.setCell ⟨j,2,none⟩ y) (set_other _ aj.o)));have N:=zW (Chg (fun k=>k=j) w1 (L.setCell ⟨j,2,none⟩ y)) (aq.o.trans (Chg.setCell L ⟨j,2,none⟩ y) fun _ _ e=>e);have ar:=zW (zCd (L.setCell ⟨j,2,none⟩ y) y (R3.grp zAZ).1) (OwnR.keep Y.o.1 fun k hk=>set_other _ fun e=>by have v:=Y.o.2 k hk;have S:=f.o;have e2:k=j:=e;omega);have ay:=zh (fun own b dv t vs (E:zBg w1 j d pre own M b dv t vs)=>show(L.setCell ⟨j,2,none⟩ y).heap[j]?=some (.cells #[.int .i64 (I:Int),.int .i64 (J:Int),y,.pointer (some ⟨d,0,none⟩),.string pre,.int .i64 M.now,.int .i64 M.vote,dv,t,.bool M.dead] 132 (0,0)) by
  have:=zAC (ah.o own b dv t vs E) 2 y;simpa using this)
 obtain⟨p5,c5,e5,-⟩:=zAw ac;subst e5;clear ac an ab Z E U h6 d0 d1;generalize (R3.grp zAZ).2=R5 at *;generalize (R3.grp zAZ).1=gg at *;cases G:R5.whole with
 | false =>
  rw[G]at HW;have X:=zh (rec_noj (o:=O) H.o N.o (by rw[HM.o,G];rfl));clear G;go_wp2_with fail;clear c2 f2;generalize L.setCell ⟨j,2,none⟩ (.slice p5 gg.length c5)=w6 at *;refine HW.o.mono ?_;rintro e w7 ⟨rfl,rfl⟩;go_wp2_with fail;go_ret;exact X.o
 | true =>
  rw[G]at HW;go_wp2_with fail;clear c2 f2;generalize L.setCell ⟨j,2,none⟩ (.slice p5 gg.length c5)=w6 at *;refine HW.o.mono ?_;rintro e w7 ⟨rfl,rfl⟩;obtain⟨d0,d1⟩:=Hd.o;have B:=zh (zD0 w7 (I:Int));have Q:=zh (zD0 w7 (J:Int))
  by_cases v:I≤1099511627776
  ·rw[show zDe (I:Int)=true from zAs.2 ⟨by omega,by omega⟩]at B
   by_cases S:J≤1099511627776
   focus rw[show zDe (J:Int)=true from zAs.2 ⟨by omega,by omega⟩]at Q;have X:=zh (rec_fst_ok (o:=O) H.o N.o ay.o ar.o Y.o.2 He.o v (zAs.2 ⟨by omega,by omega⟩) (af.o G) (by rw[HM.o,if_pos G,if_pos ⟨v,S⟩]))
   rotate_left
   focus rw[show zDe (J:Int)=false by rw[Bool.eq_false_iff];intro e;have:=zAs.1 e;omega]at Q;have X:=zh (rec_noj (o:=O) H.o N.o (by rw[HM.o,if_pos G,if_neg (fun e=>S e.2)]))
   all_goals
    clear G v S;go_wp2_with fail;refine B.o.mono ?_;rintro e w8 ⟨rfl,rfl⟩;go_wp2_with fail;refine Q.o.mono ?_;rintro e w8 ⟨rfl,rfl⟩;go_wp2_with fail;go_ret;exact X.o
  ·rw[show zDe (I:Int)=false by rw[Bool.eq_false_iff];intro e;have:=zAs.1 e;omega]at B;have X:=zh (rec_noj (o:=O) H.o N.o (by rw[HM.o,if_pos G,if_neg (fun e=>v e.1)]));clear G v;go_wp2_with fail;refine B.o.mono ?_;rintro e w8 ⟨rfl,rfl⟩;go_wp2_with fail;go_ret;exact X.o
end
end Go.Proofs.YtapfnehdgailmaaGreat
