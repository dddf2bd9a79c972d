/- What the program's functions and the document's do, and plain laws, for PZoneStates. -/
import Derived.Test.YtmcanphlgkolcaaGreatDoorCA
import Derived.Test.YtmcanphlgkolcaaGreatDoorCB
import Derived.Test.YtmcanphlgkolcaaGreatDoorCE
import Derived.Test.YtmcanphlgkolcaaGreatDoorCI
import Derived.Test.YtmcanphlgkolcaaGreatDoorCJ
import Derived.Test.YtmcanphlgkolcaaGreatDoorCK
import Derived.Test.YtmcanphlgkolcaaGreatDoorCL
import Derived.Test.YtmcanphlgkolcaaGreatDoorCM
open Go.Proofs.Tryz
set_option maxRecDepth 100000
set_option maxHeartbeats 64000000
namespace Go.Proofs.YtmcanphlgkolcaaGreatDoor
open Go.RowKit Go.Sat Go.Maps
def RdX (A:Nat→Prop)(w:World)(r:Nat)(R:Rd):Prop:=∃p n c,RdIn w r R p n c∧∀k,(Value.slice p n c).ownBlock=some k→A k
theorem RdX.at {A:Nat→Prop}{w:World}{r:Nat}{R:Rd}(h:RdX A w r R):RdAt w r R:=let ⟨p,n,c,h,_⟩:=h;⟨p,n,c,h⟩
theorem RdX.lt {A:Nat→Prop}{w:World}{r:Nat}{R:Rd}(h:RdX A w r R):r<w.heap.size:=let ⟨_,_,_,h,_⟩:=h;h.rlt
theorem RdX.chg {A S:Nat→Prop}{w w':World}{r:Nat}{R:Rd}(h:RdX A w r R)(d:Chg S w w')(j:¬S r)(f:∀k,A k→¬S k):RdX A w' r R:=by
 obtain⟨p,n,c,h,b⟩:=h;exact⟨p,n,c,⟨(d.block r h.rlt j).trans h.cells,zAf.chg h.has d fun k i=>f k (b k i),h.cap,h.ne,h.len⟩,b⟩
def RStepX (A:Nat→Prop)(w:World)(r:Nat)(R':Rd)(v:Value)(e:Ending)(w':World):Prop:=e=.returned v∧RdX A w' r R'∧Chg (fun k=>k=r) w w'
def NumX (A:Nat→Prop)(w:World)(r:Nat)(R:Rd)(e:Ending)(w':World):Prop:=e=.returned (.int .i64 (R.num.1:Int))∧RdX A w' r R.num.2∧Chg (fun k=>k=r) w w'
def RowX (A:Nat→Prop)(w:World)(r:Nat)(b:Bs)(R':Rd)(e:Ending)(w':World):Prop :=
 ∃v,e=.returned v∧zA4 w' 5 v b∧(∀j,v.ownBlock=some j→w.heap.size≤j)∧RdX A w' r R'∧Chg (fun j=>j=r) w w'
theorem run_tailX {P:Program}{w:World}{t e:TypeId}{i:TypeInfo}(B:P.underlying t=some (.slice e))(y:P.info? e=some i)(j:i.size=1){p:Option Addr}{n c:Nat}{l:Bs}(h:zAf w (.slice p n c) l)(f:n≤c)(r k:Nat)(q:(Value.slice p n c).ownBlock≠some r)(A:k≤n) :
  ∃d b,(∀W,(Instr.slice t (.slice p n c) (some (.int .i64 (k:Int))) none none).run P W=.ok (.slice d (n-k) b) W)∧zAf w (.slice d (n-k) b) (l.drop k)∧n-k≤b∧(Value.slice d (n-k) b).ownBlock≠some r∧∀x,(Value.slice d (n-k) b).ownBlock=some x→(Value.slice p n c).ownBlock=some x:=by
 obtain⟨d,b,v,E,F,G⟩:=run_tail (P:=P) B y j h f r k q A;refine⟨d,b,v,E,F,G,fun x m=>?_⟩;have s:=v w;rw[run_tail0 (P:=P) w B y j p n c k A f]at s;have C:(if c=k then p else p.map fun x=>x.add k)=d:=by
  have:=congrArg (fun z:Result Value=>match z with | .ok (.slice a _ _) _=>a|_=>none) s;exact this
 subst C
 split at m
 ·cases p with
  | none=>cases m
  | some a=>exact m
 ·cases p with
  | none=>cases m
  | some a =>
   have D:(Value.slice (some (a.add k)) (n-k) b).ownBlock=some (a.add k).block:=rfl;have o:(Value.slice (some (a.add k)) (n-k) b).ownBlock=some x:=m;rw[D,zCv]at o;exact o
section
variable {w:World} {r:Nat} {R:Rd} {p:Option Addr} {n c:Nat}
theorem rdX_bad {A:Nat→Prop}(h:RdIn w r R p n c):RdX A ((w.setCell ⟨r,0,none⟩ (.slice none 0 0)).setCell ⟨r,1,none⟩ (.bool true)) r Rd.fail :=
 ⟨none,0,0,⟨rd_set h _ _,zA4.has (e:=0) (OwnR.nil _ _ _),Nat.le_refl _,fun h=>(by cases h),Nat.zero_le _⟩,fun k b=>(by cases b)⟩
theorem badX_calls {A:Nat→Prop}(h:RdIn w r R p n c) :
  Calls prog 176 #[.pointer (some ⟨r,0,none⟩)] w (RStepX A w r Rd.fail (.tuple #[])):=by
 have d:=h.c0;have f:=h.c1;have j:=fun i=>zAE h.cells i;have b:=zW (RStepX A w r Rd.fail (.tuple #[]) (.returned (.tuple #[])) ((w.setCell ⟨r,0,none⟩ (.slice none 0 0)).setCell ⟨r,1,none⟩ (.bool true))) (⟨rfl,rdX_bad h,(Chg.setCell w ⟨r,0,none⟩ _).trans (Chg.setCell _ ⟨r,1,none⟩ _) fun _ _ e=>e⟩);clear h
 go_enter func176,ntmps176
 go_wp2_with fail
 go_end0
 exact b.o
theorem rawX_calls {A:Nat→Prop}(h:RdIn w r R p n c)(I:∀k,(Value.slice p n c).ownBlock=some k→A k)(k:Int)(D:0≤k)(K:k≤9223372036854775807) :
  Calls prog 164 #[.pointer (some ⟨r,0,none⟩),.int .i64 k] w fun e w'=>∃v,e=.returned v∧zA4 w' 5 v (R.raw k.toNat).1∧(∀j,v.ownBlock=some j→w.heap.size≤j)∧RdX A w' r (R.raw k.toNat).2∧Chg (fun j=>j=r) w w':=by
 obtain⟨i0,M,-,H,-⟩:=info_parts (show(prog.info? 5).map (fun i=>(i.zero,i.size,i.bytes))=some (some (.int .u8 0),1,1) by kernel_rfl);obtain⟨m,rfl⟩:∃m:Nat,k=(m:Int):=⟨k.toNat,by omega⟩;have hn:=h.n_eq;have N:=h.len;rw[Int.toNat_natCast];have c0:=h.c0;have X:=fun i=>zAE h.cells i
 by_cases hm:m≤n
 ·have s:R.raw m=(R.rest.take m,⟨R.rest.drop m,R.bad⟩):=by unfold Rd.raw;rw[if_pos (by omega)]
  rw[s];obtain⟨E,B,aa,L,t,z,y⟩:=run_tailX (P:=prog) underlying39 M H h.has h.cap r m h.ne hm;have ab:∀W,(Instr.slice 39 (.slice p n c) none (some (.int .i64 (m:Int))) none).run prog W=.ok (.slice p m c) W:=fun W=>run_upto W underlying39 M p n c m (by have:=h.cap;omega);have G:=zh (zAx (zAf.cut h.has (k:=m) (by omega) c) (by rw[List.length_take];omega));have b:=zh h;have a:=zh (And.intro L (And.intro t z));have S:=zh (fun k D=>I k (y k D));clear L t z h s y I
  go_enter func164,ntmps164
  go_wp2_with fail;refine G.o.mono ?_;rintro e w1 ⟨v,rfl,Q,q,C⟩;have f:=C.block r b.o.rlt;have d:RdIn w1 r R p n c:=⟨f.trans b.o.cells,zAf.below b.o.has C,b.o.cap,b.o.ne,b.o.len⟩;have V:=d.c0;have J:=fun i=>zAE d.cells i;have U:=zh (And.intro (show zA4 (w1.setCell ⟨r,0,none⟩ (.slice E (n-m) B)) 5 v (R.rest.take m)from Q.keep fun k D=>zAK _ fun e=>by
   have:=q k D;have h2:=b.o.rlt;have h3:k=r:=e;omega) (And.intro q (And.intro (show RdX A (w1.setCell ⟨r,0,none⟩ (.slice E (n-m) B)) r ⟨R.rest.drop m,R.bad⟩from⟨E,n-m,B,⟨rd_set0 d _,(zAf.set (zAf.below a.o.1 C) _ a.o.2.2),a.o.2.1,a.o.2.2,by rw[List.length_drop];omega⟩,S.o⟩)
    (((Chg.of_below C).mono fun _ _ h=>h.elim).trans (Chg.setCell _ ⟨r,0,none⟩ _) fun _ _ e=>e:Chg (fun j=>j=r) w (w1.setCell ⟨r,0,none⟩ (.slice E (n-m) B))))))
  clear Q q d f;go_wp2_with fail;go_ret;exact⟨v,rfl,U.o⟩
 ·have s:R.raw m=([],Rd.fail):=by unfold Rd.raw;rw[if_neg (by omega)]
  rw[s];have F:=zh (badX_calls (A:=A) h);have Y:((m:Int)>(n:Int)):=by omega
  clear h s
  go_enter func164,ntmps164
  go_wp2_with fail;refine F.o.mono ?_;rintro e w1 ⟨rfl,O,t⟩;have T:=zh (And.intro O t);clear O t;go_wp2_with fail;go_ret;exact⟨_,rfl,OwnR.nil _ _ _,fun j Z=>(by cases Z),T.o⟩
end
theorem numX_calls {C:Nat→Prop}{w:World}{r:Nat}{R:Rd}{p:Option Addr}{n c:Nat}(h:RdIn w r R p n c)(Q:∀k,(Value.slice p n c).ownBlock=some k→C k) :
  Calls prog 119 #[.pointer (some ⟨r,0,none⟩)] w (NumX C w r R):=by
 obtain⟨i0,hi,-,aa,-⟩:=info_parts (show(prog.info? 5).map (fun i=>(i.zero,i.size,i.bytes))=some (some (.int .u8 0),1,1) by kernel_rfl);have hn:=h.n_eq;have U:=h.len;rw[hn]at U;have c0:=h.c0;have ad:=zAE h.cells 0;have b:=zh (badX_calls (A:=C) h);have F:=zW (zCN 0 0 R.rest=none→R.num=(0,Rd.fail)) (fun e=>by unfold Rd.num;rw[e]);have N:=zW (∀v t,zCN 0 0 R.rest=some (v,t)→R.num=(v,⟨t,R.bad⟩)) (fun v t e=>by unfold Rd.num;rw[e]);have z:=zh h;have HA:=zh Q;have Hn:=zh hn;clear h hn Q
 go_enter func119,ntmps119
 go_wp2_with fail
 go_loop [3,13] (fun u i=>∃k a:Nat,k≤n∧k≤9∧i=.int .i64 k∧u=.int .u64 a∧a<128 ^ k∧zCN 0 0 R.rest=zCN k a (R.rest.drop k)) (fun _ i=>n-(intOf i).toNat)
 case atStart=>exact⟨0,0,Nat.zero_le _,by omega,rfl,rfl,by simp,rfl⟩
 case round =>
  obtain⟨k,a,hk,ae,rfl,rfl,ha,m⟩:=hrel
  by_cases V:k<n
  ·have G:k<R.rest.length:=by rw[Hn.o];exact V
   rw[List.drop_eq_getElem_cons G]at m;rcases z.o.has.at with h0|⟨g,o,c1,e1,d⟩
   ·rw[h0]at G;simp at G
   simp only[Value.slice.injEq]at e1;obtain⟨rfl,-,rfl⟩:=e1;have ab:=d k _ (List.getElem?_eq_getElem G);have E:=zh m;clear d m;have hx:=R.rest[k].toNat_lt;have B:=zW (9≤k∨(0<k∧R.rest[k].toNat=0)→zCN k a (R.rest[k]::R.rest.drop (k+1))=none) (fun e=>by
    unfold zCN;rw[if_pos (e.imp id fun e=>⟨e.1,UInt8.toNat.inj (by rw[e.2];rfl)⟩)])
   have L:=zW (¬(9≤k∨(0<k∧R.rest[k].toNat=0))→R.rest[k].toNat<128→zCN k a (R.rest[k]::R.rest.drop (k+1))=if 4611686018427387904<a+R.rest[k].toNat*128 ^ k then none else some (a+R.rest[k].toNat*128 ^ k,R.rest.drop (k+1))) (fun e h=>by
    rw[zCN,if_neg (fun h=>e (h.imp id fun h=>⟨h.1,by rw[h.2];rfl⟩)),if_pos h])
   have M:=zW (¬(9≤k∨(0<k∧R.rest[k].toNat=0))→¬R.rest[k].toNat<128→zCN k a (R.rest[k]::R.rest.drop (k+1))=zCN (k+1) (a+R.rest[k].toNat%128*128 ^ k) (R.rest.drop (k+1))) (fun e h=>by
    rw[zCN,if_neg (fun h=>e (h.imp id fun h=>⟨h.1,by rw[h.2];rfl⟩)),if_neg h])
   generalize R.rest[k].toNat=x at *
   by_cases h9:9≤k
   ·have y:=zh (F.o (E.o.trans (B.o (.inl h9))));go_wp2_with fail;refine b.o.mono ?_;rintro e w1 ⟨rfl,j,d⟩;have s:=zW (NumX C w r R (.returned (.int .i64 0)) w1) (⟨by rw[y.o];rfl,by rw[y.o];exact j,d⟩);clear j d;go_wp2_with fail;go_ret;exact s.o
   ·by_cases hz:0<k∧x=0
    ·have y:=zh (F.o (E.o.trans (B.o (.inr hz))));obtain⟨q,rfl⟩:=hz;go_wp2_with fail;refine b.o.mono ?_;rintro e w1 ⟨rfl,j,d⟩;have s:=zW (NumX C w r R (.returned (.int .i64 0)) w1) (⟨by rw[y.o];rfl,by rw[y.o];exact j,d⟩);clear j d;go_wp2_with fail;go_ret;exact s.o
    ·have hs:¬(9≤k∨(0<k∧x=0)):=fun e=>e.elim h9 hz;have ac:decide ((9:Int)≤(k:Int))=false:=by simp;omega
     by_cases H:x<128
     ·have y:=zh (E.o.trans (L.o hs H));have Y:=zEq ha (by omega) (show x<256 by omega);rw[show x%128=x by omega]at Y;obtain⟨Y,-,Z⟩:=Y;generalize a+x*128 ^ k=A at *
      by_cases Q:4611686018427387904<A
      ·have f:=zh (F.o (y.o.trans (if_pos Q)));rcases Nat.lt_or_ge 0 k with q|q
       rotate_left
       ·go_wp2_with fail;refine b.o.mono ?_;rintro e w1 ⟨rfl,j,d⟩;have s:=zW (NumX C w r R (.returned (.int .i64 0)) w1) (⟨by rw[f.o];rfl,by rw[f.o];exact j,d⟩);clear j d;go_wp2_with fail;go_ret;exact s.o
       ·have X:0<x:=by omega
        go_wp2_with fail;refine b.o.mono ?_;rintro e w1 ⟨rfl,j,d⟩;have s:=zW (NumX C w r R (.returned (.int .i64 0)) w1) (⟨by rw[f.o];rfl,by rw[f.o];exact j,d⟩);clear j d;go_wp2_with fail;go_ret;exact s.o
      ·have f:=zh (N.o _ _ (y.o.trans (if_neg Q)));obtain⟨p',c',K,hh,S,J,W⟩:=run_tailX (P:=prog) underlying39 hi aa z.o.has z.o.cap r (k+1) z.o.ne V;have s:=zW (NumX C w r R (.returned (.int .i64 (A:Int))) (w.setCell ⟨r,0,none⟩ (.slice p' (n-(k+1)) c'))) (
        ⟨by rw[f.o],by rw[f.o];exact⟨p',n-(k+1),c',⟨rd_set0 z.o _,zAf.set hh _ J,S,J,by rw[List.length_drop,Hn.o];omega⟩,fun k hk=>HA.o k (W k hk)⟩,Chg.setCell w ⟨r,0,none⟩ _⟩)
       rw[Int.natCast_add,Int.natCast_one]at K;clear hh S J W;rcases Nat.lt_or_ge 0 k with q|q
       rotate_left
       ·go_wp2_with fail;go_ret;exact s.o
       ·have X:0<x:=by omega
        go_wp2_with fail;go_ret;exact s.o
     ·have I:=E.o.trans (M.o hs H);obtain⟨Y,O,Z⟩:=zEq ha (by omega) (show x<256 by omega);have D:=zh (And.intro I O);clear I O;generalize a+x%128*128 ^ k=A at *;rcases Nat.lt_or_ge 0 k with q|q
      rotate_left
      ·go_wp2_with fail
       go_round
       case rel=>exact⟨k+1,A,by omega,by omega,by go_num,rfl,D.o.2,D.o.1⟩
       case measure=>simp[intOf];omega
      ·have X:0<x:=by omega
       go_wp2_with fail
       go_round
       case rel=>exact⟨k+1,A,by omega,by omega,by go_num,rfl,D.o.2,D.o.1⟩
       case measure=>simp[intOf];omega
  ·have T:R.rest.drop k=[]:=List.drop_of_length_le (by rw[Hn.o];omega);rw[T]at m;have y:=zh (F.o m);clear m T;go_wp2_with fail;refine b.o.mono ?_;rintro e w1 ⟨rfl,j,d⟩;have s:=zW (NumX C w r R (.returned (.int .i64 0)) w1) (⟨by rw[y.o];rfl,by rw[y.o];exact j,d⟩);clear j d;go_wp2_with fail;go_ret;exact s.o
theorem zCm {A:Nat→Prop}{w:World}{r:Nat}{R:Rd}(h:RdX A w r R) :
  Calls prog 110 #[.pointer (some ⟨r,0,none⟩)] w (RowX A w r R.bytes.1 R.bytes.2):=by
 obtain⟨p,n,c,h,t⟩:=h;have Hn:=zh (numX_calls h t);have D:=Rd.num_le R;have k:=zW (R.bytes=R.num.2.raw R.num.1) rfl;clear h t
 go_enter func110,ntmps110
 go_wp2_with fail;refine Hn.o.mono ?_;rintro e w1 ⟨rfl,⟨I,H,G,z,b⟩,y⟩;have s:=zh (rawX_calls z b (R.num.1:Int) (by omega) (by omega));have q:=zh y;rw[Int.toNat_natCast]at s;clear z y b;generalize R.num.1=m at *;generalize R.num.2=F at *;go_wp2_with fail;refine s.o.mono ?_;rintro e E ⟨v,rfl,a,i,f,d⟩;have B:=zW (RowX A w r R.bytes.1 R.bytes.2 (.returned v) E) (⟨v,rfl,by rw[k.o];exact a,fun j C=>Nat.le_trans q.o.size (i j C),by rw[k.o];exact f,q.o.trans d fun _ _ e=>e⟩);clear a i f d;go_wp2_with fail;go_ret;exact B.o
theorem newrdX_calls {w:World}{x:Value}{l:Bs}(h:zAf w x l)(m:l.length≤140737488355328) :
  Calls prog 61 #[x] w fun e w'=>∃r,e=.returned (.pointer (some ⟨r,0,none⟩))∧RdX (fun k=>w.heap.size≤k∧k<r) w' r ⟨l,false⟩∧w.heap.size≤r∧r<w'.heap.size∧Below w.heap.size w w':=by
 have t:=zh (zAx h m);clear h
 go_enter func61,ntmps61
 go_wp2_with fail;refine t.o.mono ?_;rintro e w1 ⟨v,rfl,d,f,i⟩;obtain⟨p,c,rfl,b⟩:=zAN d;have s:=zW (RdX (fun k=>w.heap.size≤k∧k<w1.heap.size) (w1.alloc (.cells #[.slice p l.length c,.bool false] 200)) w1.heap.size ⟨l,false⟩) (
  ⟨p,l.length,c,⟨zAF w1 _,zDq d.has _,b,fun e=>by have:=OwnR.lt d e;omega,m⟩,fun k j=>⟨f k j,OwnR.lt d j⟩⟩)
 have q:=zh (And.intro i.size (And.intro (show w1.heap.size<(w1.alloc (.cells #[.slice p l.length c,.bool false] 200)).heap.size by simp) (i.alloc i.size (.cells #[.slice p l.length c,.bool false] 200))));clear d f i;generalize l.length=n at *;go_wp2_with fail;go_ret;exact⟨_,rfl,s.o,q.o⟩
end Go.Proofs.YtmcanphlgkolcaaGreatDoor
namespace Go.Sat.Rd
def ints:Nat→Rd→List Int×Rd
 | 0,R=>([],R)
 | k+1,R=>((R.num.1:Int)::(ints k R.num.2).1,(ints k R.num.2).2)
end Go.Sat.Rd
namespace Go.Proofs.YtmcanphlgkolcaaGreatDoor
open Go.RowKit Go.Sat Go.Maps
theorem setCell_heap {w u:World}(a:Addr)(v:Value){b:Nat}(h:w.heap[b]?=u.heap[b]?):(w.setCell a v).heap[b]?=(u.setCell a v).heap[b]?:=by
 simp[World.setCell,Array.getElem?_modify,h]
def putN (w:World):List Addr→List Int→World
 | a::l,z::zs=>putN (w.setCell a (.int .i64 z)) l zs
 | _,_=>w
theorem putN_snoc:∀(l:List Addr) (zs:List Int) (w:World) (a:Addr) (z:Int),zs.length=l.length→putN w (l++[a]) (zs++[z])=(putN w l zs).setCell a (.int .i64 z)
 | [],[],_,_,_,_=>rfl
 | _::l,_::zs,_,a,z,h=>putN_snoc l zs _ a z (by simpa using h)
 | [],_::_,_,_,_,h=>by simp at h
 | _::_,[],_,_,_,h=>by simp at h
theorem ints_len:∀(k:Nat) (R:Rd),(Rd.ints k R).1.length=k
 | 0,_=>rfl
 | k+1,R=>by
  show((R.num.1:Int)::(Rd.ints k R.num.2).1).length=_
  rw[List.length_cons,ints_len k]
theorem ints_snoc:∀(k:Nat) (R:Rd),Rd.ints (k+1) R=((Rd.ints k R).1++[((Rd.ints k R).2.num.1:Int)],(Rd.ints k R).2.num.2)
 | 0,R=>rfl
 | k+1,R=>by
  show((R.num.1:Int)::(Rd.ints (k+1) R.num.2).1,(Rd.ints (k+1) R.num.2).2)=_
  rw[ints_snoc k R.num.2];rfl
structure zDh (w:World)(r:Nat)(ps:List Addr):Prop where
 cell:∀a∈ps,∃z,w.cell? a=some (.int .i64 z)
 free:∀a∈ps,w.frozen? a=false
 ne:∀a∈ps,a.block≠r
 sp:∀a∈ps,a.spot=none
def NumsTold (A:Nat→Prop)(w:World)(r:Nat)(R:Rd)(c:List Addr)(w':World):Prop :=
 RdX A w' r (Rd.ints c.length R).2∧Chg (fun b=>b=r∨∃a∈c,b=a.block) w w'∧∀b,b<w.heap.size→b≠r→w'.heap[b]?=(putN w c (Rd.ints c.length R).1).heap[b]?
theorem zDh.chg {w w':World}{r:Nat}{d:List Addr}(h:zDh w r d)(i:Chg (fun k=>k=r) w w'):zDh w' r d:=by
 have f:∀a∈d,w'.heap[a.block]?=w.heap[a.block]?:=fun a b=>by
  obtain⟨z,c⟩:=h.cell a b;exact i.block _ (World.block_lt_of_cell? _ _ c) (h.ne a b)
 exact⟨fun a b=>by obtain⟨z,c⟩:=h.cell a b;exact⟨z,(World.cell?_of_block (f a b)).trans c⟩,fun a b=>by have:=h.free a b;simpa[World.frozen?,f a b]using this,h.ne,h.sp⟩
theorem zDh.set {w:World}{r:Nat}{j:List Addr}(h:zDh w r j){a:Addr}(n:a∈j)(z:Int):zDh (w.setCell a (.int .i64 z)) r j:=by
 have c:∀b,w.cell? b≠none→(∃y,(w.setCell a (.int .i64 z)).cell? b=some y∧(y=.int .i64 z∨w.cell? b=some y)):=fun b d=>by
  by_cases e:a=b
  ·subst e;exact⟨.int .i64 z,by obtain⟨m,i⟩:=h.cell a n;exact World.cell?_setCell_same w a _ i,.inl rfl⟩
  ·rw[World.cell?_setCell_other (h:=e)];cases o:w.cell? b with
   | none=>exact absurd o d
   | some y=>exact⟨y,rfl,.inr rfl⟩
 refine⟨fun b d=>?_,fun b d=>by rw[World.frozen?_setCell];exact h.free b d,h.ne,h.sp⟩
 ·obtain⟨m,i⟩:=h.cell b d;obtain⟨y,k,f⟩:=c b (by rw[i];simp);rcases f with rfl|f
  ·exact⟨z,k⟩
  ·rw[i]at f;cases f;exact⟨m,k⟩
theorem zEP {A:Nat→Prop}{w:World}{r:Nat}{R:Rd}(h:RdX A w r R){g c:Nat}{d:List Addr}(hp:zDh w r d)(hl:d.length≤1000)(hg:∀i a,d[i]?=some a→w.cell? ⟨g,i,none⟩=some (.pointer (some a)))(O:g≠r)(N:∀a∈d,a.block≠g)(hA:∀k,A k→k≠r∧∀a∈d,k≠a.block) :
  Calls prog 109 #[.pointer (some ⟨r,0,none⟩),.slice (some ⟨g,0,none⟩) d.length c] w fun e w'=>e=.returned (.tuple #[])∧NumsTold A w r R d w':=by
 have Hg:=zh hg;have H:=zh h;have Hp:=zh hp;have Y:=zh O;have X:=zh N;have HA:=zh hA;clear h hp hg O N hA;generalize hn:d.length=n at *;have Hn:=zh hn;clear hn
 go_enter func109,ntmps109
 go_wp2_with fail
 go_loopw [9] (fun i wr=>∃k:Nat,k≤n∧i=.int .i64 k∧RdX A wr r (Rd.ints k R).2∧Chg (fun b=>b=r∨∃a∈d,b=a.block) w wr∧zDh wr r d∧∀b,b<w.heap.size→b≠r→wr.heap[b]?=(putN w (d.take k) (Rd.ints k R).1).heap[b]?) (fun i _=>n-(intOf i).toNat)
 case atStart=>exact⟨0,Nat.zero_le _,rfl,H.o,Chg.refl _ _,Hp.o,fun b _ _=>by rw[List.take_zero];rfl⟩
 case round =>
  obtain⟨k,hk,rfl,q,m,B,p⟩:=hrel
  by_cases K:k<n
  ·have s:k<d.length:=by rw[Hn.o];exact K
   have S:=List.getElem?_eq_getElem s;have J:=List.getElem_mem s;have ab:=m.cell (Hg.o k _ S) (fun e=>e.elim Y.o fun⟨a,h1,h2⟩=>X.o a h1 h2.symm);have Z:=zh (ints_snoc k R);have W:=zh (List.take_succ_eq_append_getElem s);generalize d[k]=a at *;have F:=zW (((Rd.ints k R).1).length=(d.take k).length) (by rw[ints_len,List.length_take,Nat.min_eq_left (by omega)]);have G:=zW (Calls prog 119 #[.pointer (some ⟨r,0,none⟩)] wr (NumX A wr r (Rd.ints k R).2)) (by obtain⟨_,_,_,h,S⟩:=q;exact numX_calls h S);have Q:=zh (And.intro m (And.intro B p));have j:=zh J;have ad:=Rd.num_le (Rd.ints k R).2;clear q m B p s S J;generalize I:(Rd.ints k R).2=Rk at *;generalize hv:Rk.num.1=v at *;have aa:=zh I;have Hv:=zh hv;clear I hv;go_wp2_with fail;refine G.o.mono ?_;rintro e C ⟨rfl,P,t⟩;have f:=Q.o.2.1.chg t;have E:=zh f;obtain⟨z,hz⟩:=f.cell a j.o;have ac:=f.free a j.o;have V:=zh P;have D:=zh t;rw[Hv.o];clear P t f;go_wp2_with fail;have U:=zW (RdX A (C.setCell a (.int .i64 (v:Int))) r (Rd.ints (k+1) R).2∧Chg (fun b=>b=r∨∃a∈d,b=a.block) w (C.setCell a (.int .i64 (v:Int)))∧zDh (C.setCell a (.int .i64 (v:Int))) r d∧∀b,b<w.heap.size→b≠r→(C.setCell a (.int .i64 (v:Int))).heap[b]?=(putN w (d.take (k+1)) (Rd.ints (k+1) R).1).heap[b]?) (by
    rw[Z.o,W.o];refine⟨V.o.chg (Chg.setCell C a _) (fun e=>E.o.ne a j.o e.symm) (fun k hk e=>(HA.o k hk).2 a j.o e),?_,E.o.set j.o _,fun b hb L=>?_⟩
    ·exact(Q.o.1.trans (D.o.mono (T:=fun b=>b=r∨∃a∈d,b=a.block) fun _ _ e=>.inl e) fun _ _ e=>e).trans ((Chg.setCell C a (.int .i64 (v:Int))).mono (T:=fun b=>b=r∨∃a∈d,b=a.block) fun _ _ e=>.inr ⟨a,j.o,e⟩) fun _ _ e=>e
    ·rw[putN_snoc _ _ _ _ _ F.o];exact setCell_heap _ _ ((D.o.block b (Nat.lt_of_lt_of_le hb Q.o.1.size) L).trans (Q.o.2.2 b hb L)))
   go_roundw
   case rel=>exact⟨k+1,by omega,by go_num,U.o⟩
   case measure=>simp[intOf];omega
  ·have y:k=n:=by omega
   have M:d.take k=d:=List.take_of_length_le (by rw[Hn.o];omega);rw[M,y]at p;rw[y]at q;have U:=zW (NumsTold A w r R d wr) (⟨by rw[Hn.o];exact q,m,by rw[Hn.o];exact p⟩);clear q m B p M y;go_wp2_with fail
   go_end0
   exact⟨rfl,U.o⟩
def setS (k:Nat)(o:OpM)(x:ByteArray):OpM:=match k with
 | 0=>{o with atK:=x}
 | 1=>{o with atW:=x}
 | 2=>{o with toK:=x}
 | 3=>{o with toW:=x}
 | _=>o
def opP (b:Bs):Nat→OpM×Rd
 | 0=>({OpM.zero with kind:=((Rd.num ⟨b,false⟩).1:Int),client:=((Rd.num ⟨b,false⟩).2.num.1:Int),seq:=((Rd.num ⟨b,false⟩).2.num.2.num.1:Int) },(Rd.num ⟨b,false⟩).2.num.2.num.2)
 | k+1=>(setS k (opP b k).1 (bsA (opP b k).2.bytes.1),(opP b k).2.bytes.2)
theorem opP_zero (b:Bs):Rd.ints 3 ⟨b,false⟩=([(opP b 0).1.kind,(opP b 0).1.client,(opP b 0).1.seq],(opP b 0).2):=rfl
theorem OpL_setS:∀(k:Nat),k<4→∀(o:OpM) (x:ByteArray),(OpL o).set (3+k) (.string x)=OpL (setS k o x)
 | 0,_,_,_=>rfl
 | 1,_,_,_=>rfl
 | 2,_,_,_=>rfl
 | 3,_,_,_=>rfl
 | n+4,h,_,_=>by omega
def opQ (b:Bs):OpM:=let o:=(opP b 4).1;let R:=(opP b 4).2
 {o with item:=(R.num.1:Int),count:=(R.num.2.num.1:Int),price:=(R.num.2.num.2.num.1:Int),buy:=decide (R.num.2.num.2.num.2.num.1=1),id:=(R.num.2.num.2.num.2.num.2.num.1:Int) }
def opB (b:Bs):Nat:=(opP b 4).2.num.2.num.2.num.2.num.1
def opE (b:Bs):Rd:=(opP b 4).2.num.2.num.2.num.2.num.2.num.2
theorem opQ_ints (b:Bs):Rd.ints 5 (opP b 4).2=([(opQ b).item,(opQ b).count,(opQ b).price,(opB b:Int),(opQ b).id],opE b):=by
 simp only[Rd.ints,opQ,opB,opE]
theorem opRd_Q (b:Bs):opRd b=(opQ b,opE b):=by
 simp only[opRd,opQ,opE,opP,setS]
theorem opQ_buy (b:Bs):(opQ b).buy=decide (opB b=1):=by
 simp only[opQ,opB];exact decide_eq_decide.mpr Iff.rfl
theorem setS_buy:∀(k:Nat) (o:OpM) (x:ByteArray),(setS k o x).buy=o.buy
 | 0,_,_=>rfl
 | 1,_,_=>rfl
 | 2,_,_=>rfl
 | 3,_,_=>rfl
 | _+4,_,_=>rfl
theorem opP_buy (b:Bs):∀k,(opP b k).1.buy=false
 | 0=>by rw[opP];rfl
 | k+1=>by
  rw[opP];exact(setS_buy _ _ _).trans (opP_buy b k)
theorem OpL_nums (b:Bs):((((OpL (opP b 4).1).set 7 (.int .i64 (opQ b).item)).set 8 (.int .i64 (opQ b).count)).set 9 (.int .i64 (opQ b).price)).set 11 (.int .i64 (opQ b).id)=OpL {opQ b with buy:=false}:=by
 simp only[OpL,opQ,List.set_cons_succ,List.set_cons_zero,opP_buy]
theorem OpL_buy (b:Bs):(OpL {opQ b with buy:=false}).set 10 (.bool (opQ b).buy)=OpL (opQ b):=by
 simp only[OpL,List.set_cons_succ,List.set_cons_zero]
theorem opP_rest (b:Bs):∀k,(opP b k).2.rest.length≤b.length
 | 0=>Nat.le_trans (Rd.num_rest _) (Nat.le_trans (Rd.num_rest _) (Rd.num_rest ⟨b,false⟩))
 | k+1=>Nat.le_trans (Rd.bytes_rest _) (opP_rest b k)
theorem opP_name (b:Bs)(k:Nat):(opP b k).2.bytes.1.length≤b.length:=Nat.le_trans (Rd.bytes_len _) (opP_rest b k)
theorem bsA_size (l:Bs):(bsA l).size=l.length:=by
 show l.toArray.size=_
 simp
theorem zDf {R:Rd}:zCs (R.num.1:Int):=zBx (by have:=Rd.num_le R;omega)
theorem opQ_wf (b:Bs)(h:b.length≤1099511627776):(opQ b).wf∧(opQ b).toK.size≤1099511627776∧(opQ b).toW.size≤1099511627776:=by
 have f:1099511627776≤maxLen:=by decide
 have d:∀k,(bsA (opP b k).2.bytes.1).size≤1099511627776:=fun k=>by
  rw[bsA_size];exact Nat.le_trans (opP_name b k) h
 have c:∀k,zCo (bsA (opP b k).2.bytes.1):=fun k=>Nat.le_trans (d k) f;exact⟨⟨⟨zDf,zDf,zDf⟩,⟨c 0,c 1,c 2,c 3⟩,zDf,zDf,zDf,zDf⟩,d 2,d 3⟩
theorem openo_calls (w:World)(o:OpM)(h:o.wf)(j:o.may=false):Calls prog 42 #[.agg (OpL o).toArray] w fun e w'=>e=.returned (.tuple #[.slice none 0 0,.int .i64 1])∧Below w.heap.size w w':=by
 have b:=zh (fun W=>zBK W o h);rw[j]at b;have c:=zh (fun x:Obj=>zAC w x);have d:o.v=.agg #[.int .i64 o.kind,.int .i64 o.client,.int .i64 o.seq,.string o.atK,.string o.atW,.string o.toK,.string o.toW,.int .i64 o.item,.int .i64 o.count,.int .i64 o.price,.bool o.buy,.int .i64 o.id]:=rfl;rw[←OpM.v_L,d];rw[d]at b
 go_enter func42,ntmps42
 go_wp2_with fail;refine(b.o _).mono ?_;rintro e k ⟨rfl,f⟩;have i:=zh ((c.o _).trans (f.mono (c.o _).size));clear f;go_wp2_with fail
 go_ret2
 exact⟨rfl,i.o⟩
def OpZL:List Value:=[.int .i64 0,.int .i64 0,.int .i64 0,.string ⟨#[]⟩,.string ⟨#[]⟩,.string ⟨#[]⟩,.string ⟨#[]⟩,.int .i64 0,.int .i64 0,.int .i64 0,.bool false,.int .i64 0]
def DecA (b2 rb:Nat)(k:Nat):Prop:=b2<k∧k<rb
structure DecS (w W:World)(b0 b1 b2 rb:Nat)(o:OpM)(buy:Int)(R:Rd):Prop where
 res:W.heap[b0]?=some (.cells OpZL.toArray 25 (0,0))
 op:W.heap[b1]?=some (.cells (OpL o).toArray 25 (0,0))
 buy:W.heap[b2]?=some (.cells #[.int .i64 buy] 3 (0,0))
 rd:RdX (DecA b2 rb) W rb R
 l0:w.heap.size≤b0
 l1:b0<b1
 l2:b1<b2
 l3:b2<rb
 bel:Below w.heap.size w W
section
variable {w W W':World} {b0 b1 b2 rb:Nat} {o o':OpM} {buy:Int} {R R':Rd}
theorem DecS.read (h:DecS w W b0 b1 b2 rb o buy R)(c:RdX (DecA b2 rb) W' rb R')(b:Chg (fun k=>k=rb) W W'):DecS w W' b0 b1 b2 rb o buy R':=by
 have d:=h.l0;have f:=h.l1;have i:=h.l2;have j:=h.l3;exact⟨(b.block b0 (zAA h.res) (by omega)).trans h.res,(b.block b1 (zAA h.op) (by omega)).trans h.op,(b.block b2 (zAA h.buy) (by omega)).trans h.buy,c,h.l0,h.l1,h.l2,h.l3,zAY h.bel b (by omega)⟩
theorem DecS.next (h:DecS w W b0 b1 b2 rb o buy R)(b:Below W.heap.size W W'):DecS w W' b0 b1 b2 rb o buy R :=
 ⟨(b.block b0 (zAA h.res)).trans h.res,(b.block b1 (zAA h.op)).trans h.op,(b.block b2 (zAA h.buy)).trans h.buy,h.rd.chg (Chg.of_below b) (fun e=>e) (fun _ _ e=>e),h.l0,h.l1,h.l2,h.l3,h.bel.trans (b.mono h.bel.size)⟩
theorem DecS.put (h:DecS w W b0 b1 b2 rb o buy R){i:Nat}{v:Value}(c:(OpL o).set i v=OpL o'):DecS w (W.setCell ⟨b1,i,none⟩ v) b0 b1 b2 rb o' buy R:=by
 have f:=h.l0;have j:=h.l1;have m:=h.l2;have n:=h.l3;have b:Chg (fun k=>k=b1) W (W.setCell ⟨b1,i,none⟩ v):=Chg.setCell W ⟨b1,i,none⟩ v;exact⟨(b.block b0 (zAA h.res) (by omega)).trans h.res,by rw[←c];exact zA9 h.op i v,(b.block b2 (zAA h.buy) (by omega)).trans h.buy,h.rd.chg b (by omega) (fun k d e=>by have:=d.1;omega),h.l0,h.l1,h.l2,h.l3,zAY h.bel b (by omega)⟩
theorem DecS.places (h:DecS w W b0 b1 b2 rb o buy R)(d:List Addr)(c:∀a∈d,(∃i z,a=⟨b1,i,none⟩∧(OpL o)[i]?=some (.int .i64 z))∨a=⟨b2,0,none⟩):zDh W rb d:=by
 have j:=h.l2;have k:=h.l3;refine⟨fun a b=>?_,fun a b=>?_,fun a b=>?_,fun a b=>?_⟩<;>rcases c a b with⟨i,z,rfl,f⟩|rfl
 ·exact⟨z,zAB h.op (by simpa using f)⟩
 ·exact⟨buy,cell0 h.buy⟩
 ·exact zAE h.op i
 ·exact zAE h.buy 0
 ·show b1≠rb;omega
 ·show b2≠rb;omega
 ·rfl
 ·rfl
theorem DecS.nums (h:DecS w W b0 b1 b2 rb o buy R){c:List Addr}(b:∀a∈c,a.block=b1∨a.block=b2)(q:NumsTold (DecA b2 rb) W rb R c W'){zs:List Int}{R':Rd}(r:Rd.ints c.length R=(zs,R')){buy':Int}
  (n:(putN W c zs).heap[b1]?=some (.cells (OpL o').toArray 25 (0,0))) (p:(putN W c zs).heap[b2]?=some (.cells #[.int .i64 buy'] 3 (0,0))):DecS w W' b0 b1 b2 rb o' buy' R':=by
 obtain⟨m,j,i⟩:=q;rw[r]at m i;have t:=h.l0;have v:=h.l1;have y:=h.l2;have z:=h.l3;refine⟨(j.block b0 (zAA h.res) ?_).trans h.res,(i b1 (zAA h.op) (by omega)).trans n,(i b2 (zAA h.buy) (by omega)).trans p,m,h.l0,h.l1,h.l2,h.l3,h.bel.trans (j.below h.bel.size ?_)⟩
 ·rintro(e|⟨a,f,e⟩)
  ·omega
  ·rcases b a f with d|d<;>omega
 ·rintro k s (e|⟨a,f,e⟩)
  ·omega
  ·rcases b a f with d|d<;>omega
end
def opDecV (b:Bs):Value:=match opDec b with
 | some o=>.tuple #[.agg (OpL o).toArray,.int .i64 0]
 | none=>.tuple #[.agg OpZL.toArray,.int .i64 3]
theorem opDecV_no {b:Bs}(h:¬((opE b).whole=true∧(opQ b).may=true∧(opQ b).enc=b)):opDecV b=.tuple #[.agg OpZL.toArray,.int .i64 3]:=by
 unfold opDecV opDec;rw[opRd_Q,if_neg h]
theorem opDecV_yes {b:Bs}(h:(opE b).whole=true∧(opQ b).may=true∧(opQ b).enc=b):opDecV b=.tuple #[.agg (OpL (opQ b)).toArray,.int .i64 0]:=by
 unfold opDecV opDec;rw[opRd_Q,if_pos h]
def PtrsL (b1:Nat):List Value:=[.pointer (some ⟨b1,3,none⟩),.pointer (some ⟨b1,4,none⟩),.pointer (some ⟨b1,5,none⟩),.pointer (some ⟨b1,6,none⟩)]
theorem PtrsL_at (b1:Nat):∀{k:Nat},k<4→(PtrsL b1).toArray[k]?=some (.pointer (some ⟨b1,3+k,none⟩))
 | 0,_=>rfl
 | 1,_=>rfl
 | 2,_=>rfl
 | 3,_=>rfl
 | n+4,h=>by omega
theorem OpL_nameAt (o:OpM):∀{k:Nat},k<4→∃s,(OpL o)[3+k]?=some (.string s)
 | 0,_=>⟨_,rfl⟩
 | 1,_=>⟨_,rfl⟩
 | 2,_=>⟨_,rfl⟩
 | 3,_=>⟨_,rfl⟩
 | n+4,h=>by omega
theorem OpZL_one:∀v∈OpZL,v.oneCell'=true:=zCE OpM.zero
theorem opdec_calls {w:World}{p:Option Addr}{c n:Nat}(b:Bs)(hn:n=b.length)(hx:zAf w (.slice p n c) b)(ab:b.length≤1099511627776) :
  Calls prog 51 #[.slice p n c] w fun e w'=>e=.returned (opDecV b)∧Below w.heap.size w w':=by
 obtain⟨ai,ar⟩:=opQ_wf b ab;have aw:=zW (∀W,(opQ b).may=true→Calls prog 42 #[.agg (OpL (opQ b)).toArray] W (EncR W (opQ b).enc)) (fun W T=>by
  rw[←OpM.v_L];exact zEO W (opQ b) ai T ar)
 have ax:=zh (fun W T=>openo_calls W (opQ b) ai T);have Hx:=zh (And.intro hx (show b.length≤140737488355328 by omega));have ad:=zh (fun h=>opDecV_no (b:=b) h);have ay:=zh (fun h=>opDecV_yes (b:=b) h);clear ai ar hx ab hn;generalize opDecV b=V at *
 go_enter func51,ntmps51
 go_upto_region 1 with(refine zAe rfl 25 rfl (zeroValue25 _) (by decide) ?_;intro H hn r Z;have H2:=zh (And.intro hn (And.intro r Z));clear hn r Z)
 try simp only[uZ]
 go_upto_region 2 with(refine zAe rfl 25 rfl (zeroValue25 _) (by decide) ?_;intro w3 hn r Z;have H3:=zh (And.intro hn (And.intro ((r.block _ (zAA H2.o.1)).trans H2.o.1) (H2.o.2.1.trans (r.mono H2.o.2.1.size))));clear hn r Z)
 try simp only[uZ]
 go_upto_region 3 with(refine zAe rfl 3 rfl (zeroValue3 _) (by decide) ?_;intro w4 hn r Z;have H4:=zh (And.intro hn (And.intro ((r.block _ (zAA H3.o.1)).trans H3.o.1) (And.intro ((r.block _ (zAA H3.o.2.1)).trans H3.o.2.1) (H3.o.2.2.trans (r.mono H3.o.2.2.size)))));have aC:=zAB hn (i:=0) (v:=.int .i64 0) rfl;have aE:=zAE hn 0;clear hn r Z)
 have K:Chg (fun k=>k=w3.heap.size) w4 (w4.setCell ⟨w3.heap.size,0,none⟩ (.int .i64 0)):=Chg.setCell w4 ⟨w3.heap.size,0,none⟩ (.int .i64 0);have S:=zW ((w4.setCell ⟨w3.heap.size,0,none⟩ (.int .i64 0)).heap[w3.heap.size]?=some (.cells #[.int .i64 0] 3 (0,0))∧(w4.setCell ⟨w3.heap.size,0,none⟩ (.int .i64 0)).heap[H.heap.size]?=some (.cells OpZL.toArray 25 (0,0))∧(w4.setCell ⟨w3.heap.size,0,none⟩ (.int .i64 0)).heap[w.heap.size]?=some (.cells OpZL.toArray 25 (0,0))∧Below w.heap.size w (w4.setCell ⟨w3.heap.size,0,none⟩ (.int .i64 0))) (
  ⟨zAH H4.o.1 0 (.int .i64 0),(K.block _ (zAA H4.o.2.1) (Nat.ne_of_lt (zAA H3.o.1))).trans H4.o.2.1,(K.block _ (zAA H4.o.2.2.1) (Nat.ne_of_lt (zAA H3.o.2.1))).trans H4.o.2.2.1,zAY H4.o.2.2.2 K H3.o.2.2.size⟩)
 have al:=zh (And.intro (zAA H2.o.1) (zAA H3.o.1));clear K aC aE;generalize w4.setCell ⟨w3.heap.size,0,none⟩ (.int .i64 0)=w5 at *;have az:=zh (newrdX_calls (Hx.o.1.below S.o.2.2.2) Hx.o.2);go_wp2_with fail;refine az.o.mono ?_;rintro e w6 ⟨rb,rfl,aq,aH,Y,r⟩;have F:=zW (DecS w w6 w.heap.size H.heap.size w3.heap.size rb OpM.zero 0 ⟨b,false⟩) (by
  have h5:=zAA S.o.1;obtain⟨p',n',c',h1,h2⟩:=aq;exact⟨(r.block _ (zAA S.o.2.2.1)).trans S.o.2.2.1,(r.block _ (zAA S.o.2.1)).trans S.o.2.1,(r.block _ (zAA S.o.1)).trans S.o.1,⟨p',n',c',h1,fun k X=>⟨by have:=(h2 k X).1;omega,(h2 k X).2⟩⟩,Nat.le_refl _,al.o.1,al.o.2,by omega,S.o.2.2.2.trans (r.mono S.o.2.2.2.size)⟩)
 clear aq aH Y r;go_wp2_with fail;have D:=zAC w6 (.cells #[.pointer (some ⟨H.heap.size,0,none⟩),.pointer (some ⟨H.heap.size,1,none⟩),.pointer (some ⟨H.heap.size,2,none⟩)] 178);have A:=zAF w6 (.cells #[.pointer (some ⟨H.heap.size,0,none⟩),.pointer (some ⟨H.heap.size,1,none⟩),.pointer (some ⟨H.heap.size,2,none⟩)] 178);have f:=zh (And.intro (F.o.next D) (And.intro A (zAA A)));have ag:=F.o.rd.lt;clear D A;generalize w6.alloc (.cells #[.pointer (some ⟨H.heap.size,0,none⟩),.pointer (some ⟨H.heap.size,1,none⟩),.pointer (some ⟨H.heap.size,2,none⟩)] 178)=w7 at *;have l2:=F.o.l2;have l3:=F.o.l3;clear F;generalize H.heap.size=b1 at *;generalize w3.heap.size=b2 at *;have C:∀a∈[(⟨b1,0,none⟩:Addr),⟨b1,1,none⟩,⟨b1,2,none⟩],a.block=b1∨a.block=b2:=fun a B=>by
  simp only[List.mem_cons,List.not_mem_nil,or_false]at B;rcases B with rfl|rfl|rfl<;>exact .inl rfl
 have M:=zEP f.o.1.rd (g:=w6.heap.size) (c:=3) (f.o.1.places [⟨b1,0,none⟩,⟨b1,1,none⟩,⟨b1,2,none⟩] (fun a B=>by
   simp only[List.mem_cons,List.not_mem_nil,or_false]at B;rcases B with rfl|rfl|rfl
   ·exact .inl ⟨0,0,rfl,rfl⟩
   ·exact .inl ⟨1,0,rfl,rfl⟩
   ·exact .inl ⟨2,0,rfl,rfl⟩)) (by simp) (fun i a z=>by
   match i,z with
   | 0,z=>cases z;exact cell0 f.o.2.1
   | 1,z=>cases z;exact zCF f.o.2.1
   | 2,z=>cases z;exact zCG f.o.2.1
   | n+3,z=>simp at z) (by omega) (fun a B=>by
   rcases C a B with e|e<;>omega) (fun k X=>⟨by have:=X.2;omega,fun a B=>by
   have:=X.1;rcases C a B with e|e<;>omega⟩)
 have E:=zh (And.intro M C);clear M C;refine E.o.1.mono ?_;rintro e w8 ⟨rfl,ht⟩;have ac:=zh (f.o.1.nums (o':=(opP b 0).1) (buy':=0) E.o.2 ht (opP_zero b) (zA9 (zA9 (zA9 f.o.1.op 0 _) 1 _) 2 _) (by
  show(((w7.setCell ⟨b1,0,none⟩ _).setCell ⟨b1,1,none⟩ _).setCell ⟨b1,2,none⟩ _).heap[b2]?=_
  rw[zAK _ (show b2≠b1 by omega),zAK _ (show b2≠b1 by omega),zAK _ (show b2≠b1 by omega)];exact f.o.1.buy))
 clear ht E f ag l2 l3;go_wp2_with fail;have D:=zAC w8 (.cells (PtrsL b1).toArray 179);have A:=zAF w8 (.cells (PtrsL b1).toArray 179);have ak:=zh (And.intro (ac.o.next D) A);clear D A;have an:(PtrsL b1).toArray=#[.pointer (some ⟨b1,3,none⟩),.pointer (some ⟨b1,4,none⟩),.pointer (some ⟨b1,5,none⟩),.pointer (some ⟨b1,6,none⟩)]:=rfl;rw[←an];clear an;generalize w8.alloc (.cells (PtrsL b1).toArray 179)=w9 at *
 go_loopw [29] (fun i wr=>∃k:Nat,k≤4∧i=.int .i64 k∧DecS w wr w.heap.size b1 b2 rb (opP b k).1 0 (opP b k).2∧wr.heap[w8.heap.size]?=some (.cells (PtrsL b1).toArray 179 (0,0))) (fun i _=>4-(intOf i).toNat)
 case atStart=>exact⟨0,by omega,rfl,ak.o.1,ak.o.2⟩
 case round =>
  obtain⟨k,X,rfl,hS,hp⟩:=hrel
  by_cases af:k<4
  ·have am:=zW (opP b (k+1)=(setS k (opP b k).1 (bsA (opP b k).2.bytes.1),(opP b k).2.bytes.2)) (by rw[opP]);have aJ:=zAB hp (i:=k) (v:=.pointer (some ⟨b1,3+k,none⟩)) (PtrsL_at b1 af);have HP:=zh hp;have aA:=zh (zCm hS.rd);have F:=zh hS;obtain⟨s,Z⟩:=OpL_nameAt (opP b k).1 af;have Hs:=zh Z;clear hp hS Z;generalize hR:(opP b k).2=R at *;generalize hx:R.bytes.1=x at *;generalize aF:R.bytes.2=R2 at *;generalize ho:(opP b k).1=o at *;clear hR hx aF ho;go_wp2_with fail;refine aA.o.mono ?_;rintro e wa ⟨v,rfl,hv,ah,Y,ae⟩;have U:=F.o.read Y ae;have aK:=conv_str (P:=prog) (W:=wa) underlying39 underlying5 underlying9 hv.has;have cs:=zAB U.op (i:=3+k) (v:=.string s) (by simpa using Hs.o);have fs:=zAE U.op (3+k);have ao:w8.heap.size≠rb:=by have:=ac.o.rd.lt;omega
   have j:w8.heap.size≠b1:=by have:=zAA ac.o.op;omega
   have ap:=(ae.block _ (zAA HP.o) ao).trans HP.o;have HE:=zh (And.intro (U.put (OpL_setS k af o (bsA x))) ((zAK (w:=wa) (a:=⟨b1,3+k,none⟩) (.string (bsA x)) j).trans ap));clear U hv ah Y ae ap ao j F;go_wp2_with fail
   go_round
   case rel=>exact⟨k+1,by omega,by go_num,by rw[am.o];exact HE.o.1,HE.o.2⟩
   case measure=>simp[intOf];omega
  ·obtain rfl:k=4:=by omega
   have F:=zh hS;clear hS hp;go_wp2_with fail;have D:=zAC wr (.cells #[.pointer (some ⟨b1,7,none⟩),.pointer (some ⟨b1,8,none⟩),.pointer (some ⟨b1,9,none⟩),.pointer (some ⟨b2,0,none⟩),.pointer (some ⟨b1,11,none⟩)] 178);have A:=zAF wr (.cells #[.pointer (some ⟨b1,7,none⟩),.pointer (some ⟨b1,8,none⟩),.pointer (some ⟨b1,9,none⟩),.pointer (some ⟨b2,0,none⟩),.pointer (some ⟨b1,11,none⟩)] 178);have f:=zh (And.intro (F.o.next D) (And.intro A (zAA A)));have ag:=F.o.rd.lt;clear D A;generalize wr.alloc (.cells #[.pointer (some ⟨b1,7,none⟩),.pointer (some ⟨b1,8,none⟩),.pointer (some ⟨b1,9,none⟩),.pointer (some ⟨b2,0,none⟩),.pointer (some ⟨b1,11,none⟩)] 178)=au at *;have l2:=F.o.l2;have l3:=F.o.l3;clear F;have C:∀a∈[(⟨b1,7,none⟩:Addr),⟨b1,8,none⟩,⟨b1,9,none⟩,⟨b2,0,none⟩,⟨b1,11,none⟩],a.block=b1∨a.block=b2:=fun a B=>by
    simp only[List.mem_cons,List.not_mem_nil,or_false]at B;rcases B with rfl|rfl|rfl|rfl|rfl
    ·exact .inl rfl
    ·exact .inl rfl
    ·exact .inl rfl
    ·exact .inr rfl
    ·exact .inl rfl
   have M:=zEP f.o.1.rd (g:=wr.heap.size) (c:=5) (f.o.1.places [⟨b1,7,none⟩,⟨b1,8,none⟩,⟨b1,9,none⟩,⟨b2,0,none⟩,⟨b1,11,none⟩] (fun a B=>by
     simp only[List.mem_cons,List.not_mem_nil,or_false]at B;rcases B with rfl|rfl|rfl|rfl|rfl
     ·exact .inl ⟨7,_,rfl,rfl⟩
     ·exact .inl ⟨8,_,rfl,rfl⟩
     ·exact .inl ⟨9,_,rfl,rfl⟩
     ·exact .inr rfl
     ·exact .inl ⟨11,_,rfl,rfl⟩)) (by simp) (fun i a z=>by
     match i,z with
     | 0,z=>cases z;exact cell0 f.o.2.1
     | 1,z=>cases z;exact zCF f.o.2.1
     | 2,z=>cases z;exact zCG f.o.2.1
     | 3,z=>cases z;exact zCZ f.o.2.1
     | 4,z=>cases z;exact zDL f.o.2.1
     | n+5,z=>simp at z) (by omega) (fun a B=>by
     rcases C a B with e|e<;>omega) (fun k X=>⟨by have:=X.2;omega,fun a B=>by
     have:=X.1;rcases C a B with e|e<;>omega⟩)
   have E:=zh (And.intro M C);clear M C;refine E.o.1.mono ?_;rintro e aI ⟨rfl,ht⟩;have j:b1≠b2:=by omega
   have G:=zh (f.o.1.nums (o':={opQ b with buy:=false}) (buy':=(opB b:Int)) E.o.2 ht (opQ_ints b) (by
    show(((((au.setCell ⟨b1,7,none⟩ _).setCell ⟨b1,8,none⟩ _).setCell ⟨b1,9,none⟩ _).setCell ⟨b2,0,none⟩ _).setCell ⟨b1,11,none⟩ _).heap[b1]?=_
    rw[←OpL_nums];exact zA9 ((zAK _ j).trans (zA9 (zA9 (zA9 f.o.1.op 7 _) 8 _) 9 _)) 11 _) (by
    show(((((au.setCell ⟨b1,7,none⟩ _).setCell ⟨b1,8,none⟩ _).setCell ⟨b1,9,none⟩ _).setCell ⟨b2,0,none⟩ (.int .i64 (opB b:Int))).setCell ⟨b1,11,none⟩ _).heap[b2]?=_
    rw[zAK _ (Ne.symm j)];refine(zAH (c:=#[.int .i64 0]) ?_ 0 _).trans rfl;rw[zAK _ (Ne.symm j),zAK _ (Ne.symm j),zAK _ (Ne.symm j)];exact f.o.1.buy))
   clear ht E f ag l2 l3 j;have cb:=zAB G.o.buy (i:=0) (v:=.int .i64 (opB b:Int)) rfl;have aB:=zAB G.o.op (i:=10) (v:=.bool false) rfl;have aD:=zAE G.o.op 10;have aG:((opB b:Int)==1)=(opQ b).buy:=by
    rw[opQ_buy]
    by_cases h:opB b=1
    ·rw[h];rfl
    ·rw[decide_eq_false h];simp;omega
   have aa:=zh (G.o.put (OpL_buy b));generalize opB b=m at *;generalize hy:(opQ b).buy=y at *;clear hy;generalize opQ b=O at *;generalize opE b=RE at *
   go_upto_region 12 with(fail)
   try simp only[uZ]
   clear cb aB aD aG;generalize aI.setCell ⟨b1,10,none⟩ (.bool y)=av at *;have Hd:=zh (fun(W:World) (h:Below av.heap.size av W)=>DecS.next aa.o h);go_wp2_with (refine zA1 rfl 25 (.tmp 4) rfl b1 rfl (L:=OpL O) aa.o.op underlying25 rfl (by kernel_rfl) ?_)
   cases T:O.may with
   | false =>
    have HV:=zh (ad.o (fun h=>by rw[T]at h;exact Bool.false_ne_true h.2.1));refine(ax.o _ T).mono ?_;rintro e N ⟨rfl,r⟩;have d:=zh (Hd.o _ r);clear r T;have I:=zh (zCP d.o.rd.at.hd);generalize RE.whole=q at *;go_wp2_with fail;refine I.o.mono ?_;rintro e Q ⟨rfl,rfl⟩;clear I;cases q <;>
    ·go_wp2_with (first
      | (refine zBY rfl 25 #[] rfl (v:=.agg OpZL.toArray) (by kernel_rfl) ?_)
      | (refine zAg rfl 25 (.tmp 2) (.tmp 67) rfl w.heap.size rfl (L:=OpZL) rfl d.o.res rfl (by kernel_rfl) OpZL_one ?_;intro aj hn J;have t:=zh (And.intro hn (zAY d.o.bel J (Nat.le_refl _)));clear hn J))
     refine bodyPost_ret (zAS (p:=2) (u:=3) rfl _ _ w.heap.size _ _ (0,0) _ rfl t.o.1 underlying25 rfl (by kernel_rfl)) rfl ?_;exact⟨by rw[HV.o];rfl,t.o.2⟩
   | true =>
    refine(aw.o _ T).mono ?_;rintro e N ⟨v,rfl,hv,ah,r⟩;have d:=zh (And.intro (Hd.o _ r) (zCI (Hx.o.1.below ((Hd.o _ r).bel)) hv.has));have Hm:=zh T;clear r T hv ah;have I:=zh (zCP d.o.1.rd.at.hd);cases hq:RE.whole with
    | false =>
     rw[hq]at I;have HV:=zh (ad.o (fun h=>by rw[hq]at h;exact Bool.false_ne_true h.1));clear hq;go_wp2_with fail;refine I.o.mono ?_;rintro e Q ⟨rfl,rfl⟩;clear I;go_wp2_with (first
      | (refine zBY rfl 25 #[] rfl (v:=.agg OpZL.toArray) (by kernel_rfl) ?_)
      | (refine zAg rfl 25 (.tmp 2) (.tmp 67) rfl w.heap.size rfl (L:=OpZL) rfl d.o.1.res rfl (by kernel_rfl) OpZL_one ?_;intro aj hn J;have t:=zh (And.intro hn (zAY d.o.1.bel J (Nat.le_refl _)));clear hn J))
     refine bodyPost_ret (zAS (p:=2) (u:=3) rfl _ _ w.heap.size _ _ (0,0) _ rfl t.o.1 underlying25 rfl (by kernel_rfl)) rfl ?_;exact⟨by rw[HV.o];rfl,t.o.2⟩
    | true =>
     rw[hq]at I;cases he:(b==O.enc)with
     | false =>
      have HV:=zh (ad.o (fun h=>by rw[h.2.2]at he;simp at he));have HQ:=zW (Calls prog 69 #[.slice p n c,v] N (fun e w'=>e=.returned (.bool false)∧w'=N)) (by have h:=d.o.2;rw[he]at h;exact h);clear hq he;go_wp2_with fail;refine I.o.mono ?_;rintro e Q ⟨rfl,rfl⟩;clear I;go_wp2_with fail;refine HQ.o.mono ?_;rintro e Q ⟨rfl,rfl⟩;clear HQ;go_wp2_with (first
       | (refine zBY rfl 25 #[] rfl (v:=.agg OpZL.toArray) (by kernel_rfl) ?_)
       | (refine zAg rfl 25 (.tmp 2) (.tmp 67) rfl w.heap.size rfl (L:=OpZL) rfl d.o.1.res rfl (by kernel_rfl) OpZL_one ?_;intro aj hn J;have t:=zh (And.intro hn (zAY d.o.1.bel J (Nat.le_refl _)));clear hn J))
      refine bodyPost_ret (zAS (p:=2) (u:=3) rfl _ _ w.heap.size _ _ (0,0) _ rfl t.o.1 underlying25 rfl (by kernel_rfl)) rfl ?_;exact⟨by rw[HV.o];rfl,t.o.2⟩
     | true =>
      have HV:=zh (ay.o ⟨hq,Hm.o,(by simpa using Eq.symm (eq_of_beq he))⟩);have HQ:=zW (Calls prog 69 #[.slice p n c,v] N (fun e w'=>e=.returned (.bool true)∧w'=N)) (by have h:=d.o.2;rw[he]at h;exact h);clear hq he;go_wp2_with fail;refine I.o.mono ?_;rintro e Q ⟨rfl,rfl⟩;clear I;go_wp2_with fail;refine HQ.o.mono ?_;rintro e Q ⟨rfl,rfl⟩;clear HQ;go_wp2_with (first
       | (refine zA1 rfl 25 (.tmp 4) rfl b1 rfl (L:=OpL O) d.o.1.op underlying25 rfl (by kernel_rfl) ?_)
       | (refine zAg rfl 25 (.tmp 2) (.tmp 68) rfl w.heap.size rfl (L:=OpL O) rfl d.o.1.res rfl (by kernel_rfl) (zCE _) ?_;intro aj hn J;have t:=zh (And.intro hn (zAY d.o.1.bel J (Nat.le_refl _)));clear hn J))
      refine bodyPost_ret (zAS (p:=2) (u:=3) rfl _ _ w.heap.size _ _ (0,0) _ rfl t.o.1 underlying25 rfl (by kernel_rfl)) rfl ?_;exact⟨by rw[HV.o];rfl,t.o.2⟩
def H3:zAj:=⟨3,⟨#[]⟩,⟨#[]⟩,2,3⟩
theorem zEW.move {w w1 p:World}{z d:Nat}{h:zAj}{pre:ByteArray}{D:zAD}{M:zAl}{E:zBu}{ev:Value}{dead:Bool}{F F' S:Nat→Prop}(A:zEW w w1 z d h pre D M E ev dead F)(i:Chg S w1 p)(hS:∀k,k<w1.heap.size→S k→F k∧w.heap.size≤k)(hF:∀k,F' k→(F k∨w1.heap.size≤k)∧k<p.heap.size):zEW w p z d h pre D M E ev dead F':=by
 obtain⟨eb,l,vm,sm,tm,am,own,q,r,m,o,s,t,v,y,a⟩:=A;have j:=zAA r;have f:∀k,k<w1.heap.size→S k→F k:=fun k b c=>(hS k b c).1;have n:∀k,ev.ownBlock=some k→k<w1.heap.size:=fun k b=>q.flt (.inr (.inr (.inr b)));refine⟨eb,l,vm,sm,tm,am,own,q.move i (fun k b c=>⟨.inl (f k b c),(hS k b c).2⟩) (fun k b=>?_),(i.block z j fun c=>(o z (f z j c)).1 rfl).trans r,m.keep (fun k b=>i.block k (m.oLt k b) fun c=>b (o k (f k (m.oLt k b) c)).2.1) i.size,fun k b=>?_,s,t,v,y,a⟩
 ·rcases b with b|rfl|b|b
  ·exact⟨(hF k b).1.imp .inl id,(hF k b).2⟩
  ·exact⟨.inl (.inr (.inl rfl)),Nat.lt_of_lt_of_le j i.size⟩
  ·exact⟨.inl (.inr (.inr (.inl b))),Nat.lt_of_lt_of_le (m.oLt k b) i.size⟩
  ·exact⟨.inl (.inr (.inr (.inr b))),Nat.lt_of_lt_of_le (n k b) i.size⟩
 ·rcases(hF k b).1 with b|b
  ·exact o k b
  ·refine⟨by omega,Classical.byContradiction fun B=>?_,fun e=>?_⟩
   ·have:=m.oLt k B;omega
   ·have:=n k e;omega
section
variable {w w1:World} {z d:Nat} {h:zAj} {pre:ByteArray} {D:zAD} {M:zAl} {E:zBu} {ev:Value} {dead:Bool} {F:Nat→Prop}
theorem zER (k:zEW w w1 z d h pre D M E ev dead F){m:Nat}(f:M.last=m):Calls prog 13 #[.pointer (some ⟨z,0,none⟩)] w1 fun e w'=>e=.returned (.int .i64 (m:Int))∧∃q,w'=w1.drewN q:=by
 obtain⟨eb,l,vm,sm,tm,am,own,c,j,-⟩:=k;have b:=zh (zAv c);rw[f]at b;have n:=zAB j (i:=6) (v:=.pointer (some ⟨l,0,none⟩)) rfl;clear c j f
 go_enter func13,ntmps13
 go_wp2_with fail;refine b.o.mono ?_;rintro e p ⟨rfl,q,rfl⟩;go_wp2_with fail;go_ret;exact⟨rfl,q,rfl⟩
theorem zEW.next (b:zEW w w1 z d h pre D M E ev dead F){i:World}(c:Below w1.heap.size w1 i):zEW w i z d h pre D M E ev dead F :=
 b.move (Chg.of_below c) (fun _ _ e=>e.elim) fun k f=>⟨.inl f,by obtain⟨_,_,_,_,_,_,_,j,_⟩:=b;exact Nat.lt_of_lt_of_le (j.flt (.inl f)) c.size⟩
theorem zEW.bel (c:zEW w w1 z d h pre D M E ev dead F):Below w.heap.size w w1:=by
 obtain⟨_,_,_,_,_,_,_,b,_⟩:=c;exact b.bel
end
theorem zd_parts {h:zAj}(f:h.is=true)(img:Bs)(i:img.length≤4611686018427387904):∃R1 R2 R3 R4:Rd,Rd.num ⟨zBm h img,false⟩=(h.id.toNat,R1)∧R1.bytes=(h.fr.data.toList,R2)∧R2.bytes=(h.tu.data.toList,R3)∧Rd.ints 2 R3=([h.epoch,h.state],R4)∧R4.bytes=(img,⟨[],false⟩):=by
 obtain⟨⟨n,o⟩,⟨c,d⟩,⟨j,k⟩,p,q⟩:=zAj.ranges f;have b:∀s:ByteArray,s.size≤16→s.data.toList.length≤4611686018427387904:=fun s m=>by
  rw[zBV];omega
 refine⟨⟨zAw h.fr.data.toList++(zAw h.tu.data.toList++(zEU h.epoch++(zEU h.state++zAw img))),false⟩,⟨zAw h.tu.data.toList++(zEU h.epoch++(zEU h.state++zAw img)),false⟩,⟨zEU h.epoch++(zEU h.state++zAw img),false⟩,⟨zAw img,false⟩,?_,Rd.bytes_of (b _ c) _ _,Rd.bytes_of (b _ d) _ _,?_,?_⟩
 ·unfold zBm;simp only[zA5,List.map_cons,List.map_nil,List.flatten_cons,List.flatten_nil,List.append_nil,List.append_assoc,zCf ⟨(by omega:0≤h.id),(by omega:h.id≤4611686018427387904)⟩]
 ·simp only[Rd.ints,zCf ⟨(by omega:0≤h.epoch),(by omega:h.epoch≤4611686018427387904)⟩,zCf ⟨(by omega:0≤h.state),(by omega:h.state≤4611686018427387904)⟩,Int.toNat_of_nonneg (show 0≤h.epoch by omega),Int.toNat_of_nonneg (show 0≤h.state by omega)]
 ·have:=Rd.bytes_of i [] false;rwa[List.append_nil]at this
theorem bsA_toArr (s:ByteArray):(⟨s.data.toList.toArray⟩:ByteArray)=s:=bsA_of s
def ZoneL (c:Int)(fr tu:ByteArray)(b d:Int)(e:Value)(l:Nat):List Value:=[.int .i64 c,.string fr,.string tu,.int .i64 b,.int .i64 d,e,.pointer (some ⟨l,0,none⟩),.slice none 0 0,.bool false]
def RdzA (w:World)(rb k:Nat):Prop:=w.heap.size≤k∧k<rb
structure RdZ (w:World)(z rb:Nat)(L:List Value)(R:Rd)(W:World):Prop where
 zon:W.heap[z]?=some (.cells L.toArray 82 (0,0))
 rd:RdX (RdzA w rb) W rb R
 chg:Chg (fun k=>k=z) w W
 lz:z<w.heap.size
 lr:w.heap.size≤rb
section
variable {w W W':World} {z rb:Nat} {L:List Value} {R R':Rd}
theorem RdZ.read (h:RdZ w z rb L R W)(d:RdX (RdzA w rb) W' rb R')(b:Chg (fun k=>k=rb) W W'):RdZ w z rb L R' W':=by
 have f:=h.lz;have i:=h.lr;have j:=h.chg.size;exact⟨(b.block z (zAA h.zon) (by omega)).trans h.zon,d,⟨b.os.trans h.chg.os,b.tape.trans h.chg.tape,b.output.trans h.chg.output,Nat.le_trans h.chg.size b.size,fun k c hn=>(b.block k (by omega) (by omega)).trans (h.chg.block k c hn)⟩,f,i⟩
theorem RdZ.next (h:RdZ w z rb L R W)(b:Below W.heap.size W W'):RdZ w z rb L R W' :=
 ⟨(b.block z (zAA h.zon)).trans h.zon,h.rd.chg (Chg.of_below b) (fun e=>e) (fun _ _ e=>e),h.chg.trans (Chg.of_below b) (fun _ _ e=>e.elim),h.lz,h.lr⟩
theorem RdZ.drew (h:RdZ w z rb L R W):RdZ w z rb L R W.drew:=h.next ⟨rfl,rfl,rfl,Nat.le_refl _,fun _ _=>rfl⟩
theorem RdZ.turn (h:RdZ w z rb L R W){L':List Value}(b:Chg (fun k=>k=z) W W')(d:W'.heap[z]?=some (.cells L'.toArray 82 (0,0))):RdZ w z rb L' R W':=by
 have f:=h.lz;have i:=h.lr;exact⟨d,h.rd.chg b (by omega) (fun k c e=>by have:=c.1;omega),h.chg.trans b (fun _ _ e=>e),f,i⟩
theorem RdZ.nums (h:RdZ w z rb L R W){c:List Addr}(d:∀a∈c,a.block=z)(o:NumsTold (RdzA w rb) W rb R c W'){zs:List Int}{R':Rd}(p:Rd.ints c.length R=(zs,R')){L':List Value}(j:(putN W c zs).heap[z]?=some (.cells L'.toArray 82 (0,0))):RdZ w z rb L' R' W':=by
 obtain⟨i,b,f⟩:=o;rw[p]at i f;have q:=h.lz;have r:=h.lr;have s:=h.chg.size;refine⟨(f z (zAA h.zon) (by omega)).trans j,i,⟨b.os.trans h.chg.os,b.tape.trans h.chg.tape,b.output.trans h.chg.output,Nat.le_trans h.chg.size b.size,fun k n hn=>(b.block k (by omega) ?_).trans (h.chg.block k n hn)⟩,q,r⟩;rintro(e|⟨a,m,e⟩)
 ·omega
 ·exact hn (e.trans (d a m))
theorem RdZ.put (h:RdZ w z rb L R W)(i:Nat)(v:Value):RdZ w z rb (L.set i v) R (W.setCell ⟨z,i,none⟩ v):=h.turn (Chg.setCell W ⟨z,i,none⟩ v) (zA9 h.zon i v)
end
theorem zreads_calls {PE:Nat→World→Nat→Prop}(ak:∀B W W' eb,PE B W eb→(∀k,B≤k→k<W.heap.size→W'.heap[k]?=W.heap[k]?)→W.heap.size≤W'.heap.size→PE B W' eb){img:Bs}
  (hD:∀W v,zAf W v img→Calls prog 28 #[v] W fun e w'=>∃eb,e=.returned (.tuple #[.pointer (some ⟨eb,0,none⟩),.int .i64 0])∧PE W.heap.size w' eb∧Below W.heap.size W w')
  {w:World} {z l n c:Nat} {p:Option Addr} {h:zAj} (hz:w.heap[z]?=some (.cells (ZoneL 0 ⟨#[]⟩ ⟨#[]⟩ 0 0 (.pointer none) l).toArray 82 (0,0))) (hh:h.is=true) (_hn:n=(zBm h img).length) (T:(zBm h img).length≤140737488355328) (R:img.length≤4611686018427387904) (hx:zAf w (.slice p n c) (zBm h img)) :
  Calls prog 56 #[.pointer (some ⟨z,0,none⟩),.slice p n c] w fun e w'=>∃eb B,e=.returned (.bool true)∧w'.heap[z]?=some (zBR h eb l (.slice none 0 0) false)∧w.heap.size≤B∧PE B w' eb∧Chg (fun k=>k=z) w w':=by
 obtain⟨R1,R2,R3,R4,e1,e2,e3,e4,e5⟩:=zd_parts hh img R;have hr:=zAj.ranges hh;have HI:=zh (fun W=>zDt W h ⟨by omega,by omega⟩);rw[hh]at HI;have am:((h.id.toNat:Nat):Int)=h.id:=Int.toNat_of_nonneg (by omega);have aA:=zh (newrdX_calls hx T);have Hz:=zh hz;have HR:=zh (And.intro e1 (And.intro e2 (And.intro e3 (And.intro e4 (And.intro e5 am)))));have ae:=zh ak;have HD:=zh hD;clear hz hx T R _hn e1 e2 e3 e4 e5 am hr ak hD hh;obtain⟨D,fr,tu,ep,st⟩:=h
 go_enter func56,ntmps56
 go_wp2_with fail;refine aA.o.mono ?_;rintro e w1 ⟨rb,rfl,b,aq,aB,G⟩;have af:=zW (RdZ w z rb (ZoneL 0 ⟨#[]⟩ ⟨#[]⟩ 0 0 (.pointer none) l) ⟨zBm ⟨D,fr,tu,ep,st⟩ img,false⟩ w1) (⟨(G.block _ (zAA Hz.o)).trans Hz.o,b,(Chg.of_below G).mono (fun _ _ e=>e.elim),zAA Hz.o,aq⟩);clear b aq aB G;have C:Calls prog 119 #[.pointer (some ⟨rb,0,none⟩)] w1 (NumX (RdzA w rb) w1 rb ⟨zBm ⟨D,fr,tu,ep,st⟩ img,false⟩):=by
  obtain⟨_,_,_,h1,h2⟩:=af.o.rd;exact numX_calls h1 h2
 unfold NumX at C;rw[HR.o.1]at C;have aj:=zh C;clear C;go_wp2_with fail;refine aj.o.mono ?_;rintro e w2 ⟨rfl,b,s⟩;have V:=zh (af.o.read b s);clear b s;have H:(((⟨D,fr,tu,ep,st⟩:zAj).id.toNat:Nat):Int)=D:=HR.o.2.2.2.2.2;rw[H];clear H;have c0:=zAB V.o.zon (i:=0) (v:=.int .i64 0) rfl;have f0:=zAE V.o.zon 0;have ag:=zh (V.o.put 0 (.int .i64 D))
 go_upto_region 3 with(fail)
 try simp only[uZ]
 clear c0 f0;generalize w2.setCell ⟨z,0,none⟩ (.int .i64 D)=w3 at *;have ac:(ZoneL 0 ⟨#[]⟩ ⟨#[]⟩ 0 0 (.pointer none) l).set 0 (.int .i64 D)=ZoneL D ⟨#[]⟩ ⟨#[]⟩ 0 0 (.pointer none) l:=rfl;rw[ac]at ag;clear ac;refine zCy (fun _=>True) (n:=12) (by kernel_rfl) rfl trivial fun _=>?_;have E:=zh ag.o.drew;generalize w3.drew=w4 at *;refine Pl [0,1,4] ?_
 iterate 3 (refine Pc rfl ?_;simp only[uZ])
 refine Pn ?_;have m:=zCm E.o.rd;rw[HR.o.2.1]at m;have q:=zh m;clear m;refine oon 2 rfl fun K A=>?_;go_wp2_with fail;refine q.o.mono ?_;rintro e w5 ⟨v1,rfl,hv1,J,b,s⟩;have ay:=zW (∀k,v1.ownBlock=some k→k≠z) (fun k S e=>by have:=J k S;have:=zAA E.o.zon;omega);have F:=zh (And.intro (E.o.read b s) (And.intro hv1 J));have ax:=zh (And.intro E.o.rd.lt (zAA E.o.zon));clear b s hv1 J q;go_wp2_with fail;refine A.o _ _ trivial fun _=>?_;clear A
 try simp only[uZ]
 refine ord_more (fun W=>zAf W v1 fr.data.toList) F.o.2.1.has (fun _ _=>trivial) fun f=>?_;refine Pl [3] ?_;refine Pd rfl (by intro w' Z;have aa:=conv_str (P:=prog) (W:=w') underlying39 underlying5 underlying9 Z;rw[bsA_toArr]at aa;go_simp;try with_reducible rfl) ?_;simp only[uZ];refine Pn ?_;have m:=zCm F.o.1.rd;rw[HR.o.2.2.1]at m;have q:=zh m;clear m;refine oon 5 rfl fun K A=>?_;go_wp2_with fail;refine q.o.mono ?_;rintro e w6 ⟨v2,rfl,ar,U,b,s⟩;have hv1:zAf w6 v1 fr.data.toList:=(f.chg s fun k S e=>by have:=F.o.2.2 k S;have:=ax.o.1;omega);have az:=zW (∀k,v2.ownBlock=some k→k≠z) (fun k S e=>by have:=U k S;have:=zAA F.o.1.zon;omega);have X:=zh (And.intro (F.o.1.read b s) ar.has);clear b s ar U q f;go_wp2_with fail;refine A.o _ _ hv1 fun _=>?_;clear A
 try simp only[uZ]
 refine ord_more (fun W=>zAf W v1 fr.data.toList∧zAf W v2 tu.data.toList) ⟨hv1,X.o.2⟩ (fun _ h=>h.1) fun f=>?_;clear hv1;refine Pl [6,7,8,9,10] ?_;refine Pd rfl (by intro w' Z;have aa:=conv_str (P:=prog) (W:=w') underlying39 underlying5 underlying9 Z.2;rw[bsA_toArr]at aa;go_simp;try with_reducible rfl) ?_;simp only[uZ]
 iterate 4 (refine Pc rfl ?_;simp only[uZ])
 refine Pn ?_;refine oon 11 rfl fun K A=>?_;refine zAy 27 (.tmp 26) (.tmp 23) rfl z 1 rfl (v:=.agg #[.string fr,.string tu]) rfl [.string fr,.string tu] rfl X.o.1.zon (by show 1+2≤9;omega) (by kernel_rfl) (by intro v hv;simp only[List.mem_cons,List.not_mem_nil,or_false]at hv;rcases hv with rfl|rfl<;>rfl) ?_;intro w7 hn s;have aw:=zW (RdZ w z rb (ZoneL D fr tu 0 0 (.pointer none) l) R3 w7) (X.o.1.turn s hn);refine A.o _ _ ⟨f.1.chg s ay.o,f.2.chg s az.o⟩ fun _=>?_;clear f hn s A
 try simp only[uZ]
 refine odn ?_
 go_upto_region 4 with(fail)
 try simp only[uZ]
 refine zCy (fun _=>True) (n:=11) (by kernel_rfl) rfl trivial fun _=>?_;have Y:=zh aw.o.drew;generalize w7.drew=w8 at *;refine Pl [0,1,2,3,4,5,6,7,8] ?_
 iterate 9 (refine Pc rfl ?_;simp only[uZ])
 refine Pn ?_;refine oon 9 rfl fun K A=>?_;have al:=zAC w8 (.cells #[.pointer (some ⟨z,3,none⟩),.pointer (some ⟨z,4,none⟩)] 178);have an:=zAF w8 (.cells #[.pointer (some ⟨z,3,none⟩),.pointer (some ⟨z,4,none⟩)] 178);have d:=zh (And.intro (Y.o.next al) (And.intro an (And.intro Y.o.rd.lt (zAA Y.o.zon))));clear al an;go_wp2_with fail;refine A.o _ _ trivial fun _=>?_;clear A
 try simp only[uZ]
 generalize w8.alloc (.cells #[.pointer (some ⟨z,3,none⟩),.pointer (some ⟨z,4,none⟩)] 178)=w9 at *;refine oon 10 rfl fun K A=>?_;have l1:=d.o.1.lz;have l2:=d.o.1.lr;have aC:=d.o.2.2.1;have aD:=d.o.2.2.2;have I:∀a∈[(⟨z,3,none⟩:Addr),⟨z,4,none⟩],a.block=z:=fun a r=>by
  simp only[List.mem_cons,List.not_mem_nil,or_false]at r;rcases r with rfl|rfl<;>rfl
 have ap:zDh w9 rb [⟨z,3,none⟩,⟨z,4,none⟩]:=by
  refine⟨fun a r=>?_,fun a r=>?_,fun a r=>?_,fun a r=>?_⟩
  ·simp only[List.mem_cons,List.not_mem_nil,or_false]at r;rcases r with rfl|rfl
   ·exact⟨0,zCZ d.o.1.zon⟩
   ·exact⟨0,zDL d.o.1.zon⟩
  ·simp only[List.mem_cons,List.not_mem_nil,or_false]at r;rcases r with rfl|rfl
   ·exact zAE d.o.1.zon 3
   ·exact zAE d.o.1.zon 4
  ·rw[I a r];omega
  ·simp only[List.mem_cons,List.not_mem_nil,or_false]at r;rcases r with rfl|rfl<;>rfl
 have ao:=zEP d.o.1.rd (g:=w8.heap.size) (c:=2) ap (by simp) (fun i a hi=>by
   match i,hi with
   | 0,hi=>cases hi;exact cell0 d.o.2.1
   | 1,hi=>cases hi;exact zCF d.o.2.1
   | n+2,hi=>simp at hi) (by omega) (fun a r=>by
   rw[I a r];omega) (fun k S=>⟨by have:=S.2;omega,fun a r=>by
   have:=S.1;rw[I a r];omega⟩)
 have ai:=zh (And.intro ao I);clear ao I ap;go_wp2_with fail;refine ai.o.1.mono ?_;rintro e aE ⟨rfl,ht⟩;have N:=zW (RdZ w z rb (ZoneL D fr tu ep st (.pointer none) l) R4 aE) (d.o.1.nums ai.o.2 ht HR.o.2.2.2.1 (zA9 (zA9 d.o.1.zon 3 _) 4 _));clear ht l1 l2 aC aD;go_wp2_with fail;refine A.o _ _ trivial fun _=>?_;clear A
 try simp only[uZ]
 refine odn ?_;have m:=zCm N.o.rd;rw[HR.o.2.2.2.2.1]at m;have q:=zh m;clear m;go_wp2_with fail;refine q.o.mono ?_;rintro e aF ⟨v3,rfl,au,av,b,s⟩;have O:=zh (N.o.read b s);have ah:=zh (HD.o aF v3 au.has);clear b s au av q;go_wp2_with fail;refine ah.o.mono ?_;rintro e L ⟨eb,rfl,hP,G⟩;have y:=zh (O.o.next G);have t:=zh (And.intro hP (And.intro O.o.chg.size y.o.lz));clear hP G;have c5:=zAB y.o.zon (i:=5) (v:=.pointer none) rfl;have f5:=zAE y.o.zon 5
 go_upto_region 7 with(fail)
 try simp only[uZ]
 clear c5 f5;have j:=zW (RdZ w z rb (ZoneL D fr tu ep st (.pointer (some ⟨eb,0,none⟩)) l) ⟨[],false⟩ (L.setCell ⟨z,5,none⟩ (.pointer (some ⟨eb,0,none⟩)))) (y.o.put 5 _);have ab:Chg (fun k=>k=z) L (L.setCell ⟨z,5,none⟩ (.pointer (some ⟨eb,0,none⟩))):=Chg.setCell L ⟨z,5,none⟩ _;have M:=zh (And.intro (ae.o _ _ _ _ t.o.1 (fun k h1 h2=>ab.block k h2 (by have:=t.o.2.1;have:=t.o.2.2;omega)) ab.size) t.o.2.1);clear ab;generalize L.setCell ⟨z,5,none⟩ (.pointer (some ⟨eb,0,none⟩))=aG at *;have HW:=zh (zCP j.o.rd.at.hd);rw[show(⟨[],false⟩:Rd).whole=true from rfl]at HW;go_wp2_with fail;refine HW.o.mono ?_;rintro e aH ⟨rfl,rfl⟩;have c0:=zAB j.o.zon (i:=0) (v:=.int .i64 D) rfl;have c1:=zAB j.o.zon (i:=1) (v:=.string fr) rfl;have c2:=zAB j.o.zon (i:=2) (v:=.string tu) rfl;have c3:=zAB j.o.zon (i:=3) (v:=.int .i64 ep) rfl;have c4:=zAB j.o.zon (i:=4) (v:=.int .i64 st) rfl;go_wp2_with fail;refine(HI.o _).mono ?_;rintro e aI ⟨rfl,G⟩;have Q:=zh (j.o.next G);have ad:=zh (ae.o _ _ _ _ M.o.1 (fun k _ h2=>G.block k h2) G.size);clear G c0 c1 c2 c3 c4;go_wp2_with fail;go_ret;exact⟨eb,_,rfl,Q.o.zon,M.o.2,ad.o,Q.o.chg⟩
def evL (c:Int):Nat→List OpM→List Value
 | _,[]=>[]
 | b,o::r=>(.int .i64 c:: .int .i64 ((b+1:Nat):Int)::OpL o)++evL c (b+1) r
theorem evL_snoc (c:Int):∀(l:List OpM) (b:Nat) (o:OpM),evL c b (l++[o])=evL c b l++(.int .i64 c:: .int .i64 ((b+1+l.length:Nat):Int)::OpL o)
 | [],b,o=>by simp[evL]
 | x::l,b,o=>by
  have h:=evL_snoc c l (b+1) o
  show(.int .i64 c:: .int .i64 ((b+1:Nat):Int)::OpL x)++evL c (b+1) (l++[o])=_
  rw[h,show b+1+1+l.length=b+1+(x::l).length by rw[List.length_cons];omega];simp[evL]
def EvR (W:World)(h:zAj)(b:Nat)(os:List OpM)(ev:Value):Prop:=if h.state=3 then ev=.slice none 0 0 else OwnR W 102 14 ev os.length (evL h.id b os)
theorem EvR.nil (W:World)(h:zAj)(b:Nat):EvR W h b [] (.slice none 0 0):=by
 unfold EvR
 split
 ·rfl
 ·exact OwnR.nil _ _ _
theorem EvR.keep {W W':World}{h:zAj}{b:Nat}{os:List OpM}{ev:Value}(c:EvR W h b os ev)(d:∀k,ev.ownBlock=some k→W'.heap[k]?=W.heap[k]?):EvR W' h b os ev:=by
 unfold EvR at *
 split
 ·rename_i h3
  rwa[if_pos h3]at c
 ·rename_i h3
  rw[if_neg h3]at c;exact OwnR.keep c d
def PEq (Q:zBu→Prop)(B:Nat)(W:World)(eb:Nat):Prop:=∃vm sm tm am E own,zAI W eb vm sm tm am E own∧(∀k,own k≠none→B≤k)∧Q E
theorem PEq.keep {Q:zBu→Prop}(B:Nat)(W W':World)(eb:Nat)(h:PEq Q B W eb)(i:∀k,B≤k→k<W.heap.size→W'.heap[k]?=W.heap[k]?)(j:W.heap.size≤W'.heap.size):PEq Q B W' eb:=by
 obtain⟨vm,sm,tm,am,E,own,b,d,f⟩:=h;exact⟨vm,sm,tm,am,E,own,b.keep (fun k c=>i k (d k c) (b.oLt k c)) j,d,f⟩
def DecTo (img:Bs)(Q:zBu→Prop):Prop:=∀W v,zAf W v img→Calls prog 28 #[v] W fun e w'=>∃eb,e=.returned (.tuple #[.pointer (some ⟨eb,0,none⟩),.int .i64 0])∧PEq Q W.heap.size w' eb∧Below W.heap.size W w'
def AppTo (o:OpM)(Q b:zBu→Prop):Prop:=∀W eb vm sm tm am E own,zAI W eb vm sm tm am E own→Q E→Calls prog 45 #[.pointer (some ⟨eb,0,none⟩),.agg (OpL o).toArray] W fun e w'=>∃v E' own',e=.returned v∧b E'∧zAI w' eb vm sm tm am E' own'∧(∀j,j<W.heap.size→own' j=own j)∧Chg (fun j=>own j≠none) W w'
def PreTo (b:Int)(pre:ByteArray):Prop:=∀W,Calls prog 31 #[.int .i64 b] W fun e w'=>e=.returned (.string pre)∧w'=W
def OpenedZ (w w1:World)(d:Nat)(h:zAj)(pre:ByteArray)(D:zAD)(M:zAl)(os:List OpM)(Q:zBu→Prop)(F:Nat→Prop)(e:Ending)(w':World):Prop :=
 ∃z E ev,e=.returned (.tuple #[.pointer (some ⟨z,0,none⟩),.int .i64 0])∧zEW w w' z d h pre D M E ev false F∧Q E∧EvR w' h M.base os ev∧Same F w1 w'
section
variable {w w1 W W':World} {z d eb l vm sm tm am:Nat} {h:zAj} {pre:ByteArray} {D D':zAD} {M M':zAl} {E E':zBu} {own own':Nat→Option (Nat×Bs)} {ev ev':Value} {F G G':Nat→Prop}
theorem DoS.grow (hS:DoS w w1 z d eb l vm sm tm am h pre D M E own ev F G W)(i:Chg (fun k=>k=z∨ev.ownBlock=some k) W W')(p:W'.heap[z]?=some (zBR h eb l ev' false))(m:∀k,ev'.ownBlock=some k→ev.ownBlock=some k∨W.heap.size≤k∧k<W'.heap.size):DoS w w1 z d eb l vm sm tm am h pre D M E own ev' F G W':=by
 have q:=hS.led.bel.size;have f:∀k,W.heap.size≤k→k≠z∧own k=none∧¬F k∧¬G k:=fun k b=>⟨fun e=>by have:=hS.flt (.inr (.inl e));omega,Classical.byContradiction fun o=>by have:=hS.flt (.inr (.inr (.inl o)));omega,fun e=>by have:=hS.flt (.inl e);omega,fun e=>by have:=hS.flt (.inr (.inr (.inr (.inr e))));omega⟩;have n:∀k,own k≠none→¬(k=z∨ev.ownBlock=some k):=fun k b e=>by
  rcases e with e|e
  ·rw[e]at b;exact b hS.nz
  ·exact b (hS.ne k e).2
 refine⟨hS.led.move i (fun k b j=>?_) (fun k b=>?_),p,hS.eco.keep (fun k b=>i.block k (hS.eco.oLt k b) (n k b)) i.size,fun k b=>(i.block k (hS.flt (.inl b)) fun e=>e.elim (hS.fz k b).1 (hS.fz k b).2.2.1).trans (hS.same k b),fun k b=>⟨(hS.fz k b).1,(hS.fz k b).2.1,fun e=>?_,(hS.fz k b).2.2.2⟩,hS.nz,fun k b=>?_,fun k b=>⟨(hS.gz k b).1,(hS.gz k b).2.1,fun e=>?_⟩,hS.lz,hS.lo,fun k b=>?_,hS.lg⟩
 ·rcases j with j|j
  ·exact⟨.inr (.inl j),by rw[j];exact hS.lz⟩
  ·exact⟨.inr (.inr (.inr (.inl j))),hS.le k j⟩
 ·rcases b with b|b|b|b|b
  ·exact⟨.inl (.inl b),Nat.lt_of_lt_of_le (hS.flt (.inl b)) i.size⟩
  ·exact⟨.inl (.inr (.inl b)),Nat.lt_of_lt_of_le (hS.flt (.inr (.inl b))) i.size⟩
  ·exact⟨.inl (.inr (.inr (.inl b))),Nat.lt_of_lt_of_le (hS.flt (.inr (.inr (.inl b)))) i.size⟩
  ·rcases m k b with c|c
   ·exact⟨.inl (.inr (.inr (.inr (.inl c)))),Nat.lt_of_lt_of_le (hS.flt (.inr (.inr (.inr (.inl c))))) i.size⟩
   ·exact⟨.inr c.1,c.2⟩
  ·exact⟨.inl (.inr (.inr (.inr (.inr b)))),Nat.lt_of_lt_of_le (hS.flt (.inr (.inr (.inr (.inr b))))) i.size⟩
 ·rcases m k e with c|c
  ·exact(hS.fz k b).2.2.1 c
  ·exact(f k c.1).2.2.1 b
 ·rcases m k b with c|c
  ·exact hS.ne k c
  ·exact⟨(f k c.1).1,(f k c.1).2.1⟩
 ·rcases m k e with c|c
  ·exact(hS.gz k b).2.2 c
  ·exact(f k c.1).2.2.2 b
 ·rcases m k b with c|c
  ·exact hS.le k c
  ·omega
theorem DoS.zoneF (hS:DoS w w1 z d eb l vm sm tm am h pre D M E own ev F G W):zEW w W z d h pre D M E ev false F :=
 ⟨eb,l,vm,sm,tm,am,own,hS.led.less fun k b=>by
  rcases b with b|b|b|b
  ·exact .inl b
  ·exact .inr (.inl b)
  ·exact .inr (.inr (.inl b))
  ·exact .inr (.inr (.inr (.inl b))),hS.zon,hS.eco,fun k b=>⟨(hS.fz k b).1,(hS.fz k b).2.1,(hS.fz k b).2.2.1⟩,hS.nz,hS.ne,hS.lz,hS.lo,hS.le⟩
end
theorem zopen_calls {w w1:World}{d:Nat}{D D':zAD}{M:zAl}{F:Nat→Prop}{h:zAj}{pre:ByteArray}{img:Bs}{os:List OpM}(hS:St w w1 d D F)(hh:h.is=true)(ar:PreTo h.id pre)(ho:zA6 D (nm pre)=(D',0,M))(aj:M.data=zBm h img)(ao:(zBm h img).length≤140737488355328)(an:img.length≤4611686018427387904)
  (ak:M.entries=os.map OpM.enc) (aY:∀o∈os,o.may=true∧o.enc.length≤1099511627776) (bn:os.length≤1000000) (QE:Nat→zBu→Prop) (hD:DecTo img (QE 0)) (hA:∀k o,os[k]?=some o→AppTo o (QE k) (QE (k+1))) :
  Calls prog 21 #[.pointer (some ⟨d,0,none⟩),.int .i64 h.id] w1 (OpenedZ w w1 d h pre D' M os (QE os.length) F):=by
 have hr:=zAj.ranges hh;have HO:=zh (open_same hS ho);have aJ:=zh ar;have HM:=zh (And.intro aj (And.intro ak aY));have HR:=zh (fun(w:World) (z l n c:Nat) (p:Option Addr) hz hn hx=>zreads_calls (PE:=PEq (QE 0)) PEq.keep (img:=img) hD (w:=w) (z:=z) (l:=l) (n:=n) (c:=c) (p:=p) (h:=h) hz hh hn ao an hx);have HA:=zh hA;have bC:1≤(zBm h img).length:=by
  unfold zBm;have:∀z:Int,0≤z→z≤4611686018427387904→1≤(zA5 [z]).length:=fun z h1 h2=>by
   rcases Nat.eq_zero_or_pos (zA5 [z]).length with e|e
   ·have Z:=zCf (z:=z) ⟨h1,h2⟩ [] false;rw[List.append_nil]at Z;have h4:zA5 [z]=zEU z:=by simp[zA5]
    rw[h4]at e;rw[List.eq_nil_of_length_eq_zero e]at Z;have h5:(Rd.num ⟨[],false⟩).2.bad=true:=rfl;rw[Z]at h5;cases h5
   ·exact e
  have:=this h.id (by omega) (by omega);simp only[List.length_append];omega
 have bs:decide (h.id<1)=false:=by simp;omega
 have bt:decide (h.id>1048576)=false:=by simp;omega
 obtain⟨i5,aU,av,aw,ax⟩:=info_parts (show(prog.info? 102).map (fun i=>(i.zero,i.size,i.bytes))=some (some (.agg #[.int .i64 0,.int .i64 0,.int .i64 0,.int .i64 0,.int .i64 0,.string ⟨#[]⟩,.string ⟨#[]⟩,.string ⟨#[]⟩,.string ⟨#[]⟩,.int .i64 0,.int .i64 0,.int .i64 0,.bool false,.int .i64 0]),14,144) by kernel_rfl);have Y:=zh (And.intro aU (And.intro av (And.intro aw ax)));clear aU av aw ax;clear hS ar aj ak aY ao an hD hA ho
 go_enter func21,ntmps21
 go_wp2_with fail;refine(aJ.o _).mono ?_;rintro e w2 ⟨rfl,bc⟩;obtain rfl:=bc.symm;clear bc;go_wp2_with fail;refine HO.o.mono ?_;rintro e w3 ⟨l,rfl,hL,ba⟩;have H3:=zh (And.intro hL ba);clear hL ba HO;have HB:=zh (base_calls H3.o.1);rw[HM.o.1]at HB;go_wp2_with fail;refine HB.o.mono ?_;rintro e U ⟨v,rfl,X,ad,C⟩;obtain⟨pv,cv,rfl⟩:=X.slice;have H4:=zh (And.intro (H3.o.1.next C) (And.intro (fun k b=>(H3.o.1.same C k b).trans (H3.o.2 k b)) (And.intro X.has ad)));clear X ad C;have bB:¬((zBm h img).length=0):=by omega
 generalize hN:(zBm h img).length=N at *;have HN:=zh hN;have bv:((N:Int)==0)=false:=by simp;omega
 clear hN
 go_upto_region 7 with(fail)
 try simp only[uZ]
 go_cut [48] (fun bq wx=>bq=.bool false∧wx=U)
 case first =>
  cases bw:((M.base:Int)==0)<;>(go_wp2_with fail;go_meet;exact⟨rfl,rfl⟩)
 case rest =>
  obtain⟨rfl,bp⟩:=hcut;obtain rfl:=bp.symm
  go_upto_region 10 with(fail)
  have aV:=zAF U (.cells (ZoneL 0 ⟨#[]⟩ ⟨#[]⟩ 0 0 (.pointer none) l).toArray 82);have aA:=zAC U (.cells (ZoneL 0 ⟨#[]⟩ ⟨#[]⟩ 0 0 (.pointer none) l).toArray 82);rw[show(.cells #[.int .i64 0,.string ⟨#[]⟩,.string ⟨#[]⟩,.int .i64 0,.int .i64 0,.pointer none,.pointer (some ⟨l,0,none⟩),.slice none 0 0,.bool false] 82:Obj)=.cells (ZoneL 0 ⟨#[]⟩ ⟨#[]⟩ 0 0 (.pointer none) l).toArray 82 from rfl];have au:U.heap.size<(U.alloc (.cells (ZoneL 0 ⟨#[]⟩ ⟨#[]⟩ 0 0 (.pointer none) l).toArray 82)).heap.size:=by simp
  generalize U.alloc (.cells (ZoneL 0 ⟨#[]⟩ ⟨#[]⟩ 0 0 (.pointer none) l).toArray 82)=w5 at *;have bi:=zh (HR.o w5 U.heap.size l N cv pv aV rfl (H4.o.2.2.1.below aA));have H5:=zh (And.intro aA au);clear aV aA au;go_wp2_with fail;refine bi.o.mono ?_;rintro e w6 ⟨eb,B,rfl,aD,hB,⟨vm,sm,tm,am,E,own,hE,ac,hq⟩,V⟩;have aa:=fun k (b:F k)=>H4.o.1.flt b;have H6:=zW (DoS w w1 U.heap.size d eb l vm sm tm am h pre D' M E own (.slice none 0 0) F NoF w6) (by
   have h5:=H5.o.2;have aN:Below U.heap.size U w6:=H5.o.1.trans (V.below (Nat.le_of_lt h5) fun k b e=>by omega);have bo:=H4.o.1.bel.size;have ap:∀k,k<B→own k=none:=fun k b=>Classical.byContradiction fun hh=>by have:=ac k hh;omega
   refine⟨H4.o.1.more aN fun k b=>?_,aD,hE,fun k b=>(aN.block k (aa k b)).trans (H4.o.2.1 k b),fun k b=>⟨by have:=aa k b;omega,ap k (by have:=aa k b;omega),fun e=>(by cases e),fun e=>e⟩,ap _ (by omega),fun k b=>(by cases b),fun k b=>b.elim,bo,fun k b=>(by have:=ac k b;omega),fun k b=>(by cases b),fun k b=>b.elim⟩;rcases b with b|b|b|b|b
   ·exact .inl b
   ·exact .inr ⟨by omega,by have:=zAA aD;omega⟩
   ·exact .inr ⟨by have:=ac k b;omega,hE.oLt k b⟩
   ·cases b
   ·exact b.elim)
  have Hq:=zh hq;clear aD hB hE ac hq V aa;generalize U.heap.size=z at *;have br:M.base≤1099511627776:=by have:=H6.o.led.last;unfold zAl.last at this;omega
  have bk:=zAB H6.o.zon (i:=0) (v:=.int .i64 h.id) rfl;have bl:=zAB H6.o.zon (i:=5) (v:=.pointer (some ⟨eb,0,none⟩)) rfl;have aB:M.last=M.base+os.length:=by unfold zAl.last;rw[HM.o.2.1,List.length_map]
  go_wp2_with fail;clear bk bl
  go_loopw [12] (fun i wr=>∃(k:Nat) (E:zBu) (own:Nat→Option (Nat×Bs)) (ev:Value),k≤os.length∧i=.int .i64 ((M.base:Int)+1+(k:Int))∧DoS w w1 z d eb l vm sm tm am h pre D' M E own ev F NoF wr∧QE k E∧EvR wr h M.base (os.take k) ev) (fun i _=>M.base+1+os.length-(intOf i).toNat)
  case atStart=>exact⟨0,E,own,.slice none 0 0,Nat.zero_le _,by simp,H6.o,Hq.o,by rw[List.take_zero];exact EvR.nil _ _ _⟩
  case round =>
   obtain⟨k,E1,G,ev,b,rfl,hS,hq,aR⟩:=hrel;have HL:=zh (zAv hS.led);rw[aB]at HL;have HS:=zh (And.intro hS (And.intro hq aR));clear hS hq aR
   by_cases ab:k<os.length
   ·have ho:=List.getElem?_eq_getElem ab;have aW:=HM.o.2.2 os[k] (List.getElem_mem ab);have bb:os.take (k+1)=os.take k++[os[k]]:=List.take_succ_eq_append_getElem ab;have aS:k<M.entries.length:=by rw[HM.o.2.1,List.length_map];exact ab
    have aT:M.entries[k]=os[k].enc:=by simp[HM.o.2.1]
    generalize os[k]=o at *;have HO:=zh (And.intro ho (And.intro aW bb));have bh:=zW (∀W,DoS w w1 z d eb l vm sm tm am h pre D' M E1 G ev F NoF W→Calls prog 57 #[.pointer (some ⟨l,0,none⟩),.int .i64 ((M.base:Int)+1+(k:Int))] W fun e w'=>∃v,e=.returned (.tuple #[v,.int .i64 0])∧Given W o.enc v w') (fun W hW=>by
     have aM:=at_yes hW.led k aS;rw[aT,show((M.base+1+k:Nat):Int)=(M.base:Int)+1+(k:Int) by omega]at aM
     exact aM)
    clear ho aW bb aS aT;have aQ:decide ((M.base:Int)+1+(k:Int)≤((M.base+os.length:Nat):Int))=true:=by simp;omega
    have bA:k≤1000000:=by omega
    go_wp2_with fail;refine HL.o.mono ?_;rintro e wa ⟨rfl,q,rfl⟩;have r:=zW (DoS w w1 z d eb l vm sm tm am h pre D' M E1 G ev F NoF (wr.drewN q)) (HS.o.1.next ⟨rfl,rfl,rfl,Nat.le_refl _,fun _ _=>rfl⟩);have aH:=zh (And.intro HS.o.2.1 (HS.o.2.2.keep (W':=wr.drewN q) fun _ _=>rfl));generalize wr.drewN q=wa at *;have bf:=zh (bh.o _ r.o);go_wp2_with fail;refine bf.o.mono ?_;rintro e wb ⟨v,rfl,X,ad,C⟩;obtain⟨pw,cw,rfl⟩:=X.slice;have aE:=zh (r.o.next C);have af:=zh (And.intro aH.o.1 (aH.o.2.keep (W':=wb) fun j t=>C.block j (r.o.flt (.inr (.inr (.inr (.inl t)))))));have aG:=zh (opdec_calls o.enc rfl X.has HO.o.2.1.2);rw[show opDecV o.enc=.tuple #[.agg (OpL o).toArray,.int .i64 0] by unfold opDecV;rw[opDec_enc HO.o.2.1.1]]at aG;clear X ad C r;go_wp2_with fail;refine aG.o.mono ?_;rintro e wc ⟨rfl,C⟩;have aF:=zh (aE.o.next C);have ag:=zh (And.intro af.o.1 (af.o.2.keep (W':=wc) fun j t=>C.block j (aE.o.flt (.inr (.inr (.inr (.inl t)))))));clear C
    go_upto_region 20 with(first
     | (refine zAe rfl 25 rfl (zeroValue25 _) (by decide) ?_;intro wd hn C hs;have Hd:=zh (And.intro hn C);clear hn C hs)
     | (refine zAg rfl 25 (.tmp 15) (.tmp 87) rfl wc.heap.size rfl (L:=OpL o) rfl Hd.o.1 rfl (by kernel_rfl) (zCE _) ?_;intro we hn V;have He:=zh (And.intro hn (zAY Hd.o.2 V (Nat.le_refl _)));clear hn V))
    try simp only[uZ]
    obtain⟨ob,aC⟩:∃ob,ob=wc.heap.size:=⟨_,rfl⟩;have y:=zh (And.intro (aF.o.add (G':=fun j=>j=ob) He.o.2 (fun j t=>.inr ⟨by omega,by have:=zAA He.o.1;omega⟩)) (show we.heap[ob]?=some (.cells (OpL o).toArray 25 (0,0)) by rw[aC];exact He.o.1));have ah:=zh (And.intro ag.o.1 (ag.o.2.keep (W':=we) fun j t=>He.o.2.block j (aF.o.flt (.inr (.inr (.inr (.inl t)))))));rw[←aC];clear aC;have bg:=zh (HA.o k o HO.o.1 we eb vm sm tm am E1 G y.o.1.eco ah.o.1);go_wp2_with (refine zA1 rfl 25 (.tmp 15) rfl ob rfl (L:=OpL o) y.o.2 underlying25 rfl (by kernel_rfl) ?_)
    refine bg.o.mono ?_;rintro e wf ⟨vr,E2,own2,rfl,aZ,aL,aX,V⟩;have A:=zh (And.intro (y.o.1.turn aL V aX) (And.intro ((V.block _ (zAA y.o.2) fun hh=>hh (y.o.1.gz _ rfl).2.1).trans y.o.2) aZ));have ai:=zh (ah.o.2.keep (W':=wf) fun j t=>V.block j (y.o.1.flt (.inr (.inr (.inr (.inl t))))) fun hh=>hh (y.o.1.ne j t).2);clear aZ aL aX V;have c4:=zAB A.o.1.zon (i:=4) (v:=.int .i64 h.state) rfl
    by_cases Z:h.state=3
    ·rw[Z]at c4;go_wp2_with fail
     go_round
     case rel=>exact⟨k+1,E2,own2,ev,by omega,by go_num,A.o.1.drop,A.o.2.2,by have:=ai.o;unfold EvR at *;rw[if_pos Z]at *;exact this⟩
     case measure=>simp[intOf];omega
    ·have bu:(h.state==3)=false:=by simpa using Z
     go_upto_region 22 with(fail)
     try simp only[uZ]
     have S:OwnR wf 102 14 ev k (evL h.id M.base (os.take k)):=by
      have h:=ai.o;unfold EvR at h;rw[if_neg Z,List.length_take,Nat.min_eq_left b]at h;exact h
     obtain⟨J,I,rfl⟩:=OwnR.shape S;have aK:=zAB A.o.1.zon (i:=7) (v:=.slice J k I) rfl;clear c4;refine g_start [13] (fun w':World=>w'.heap[ob]?=some (.cells (OpL o).toArray 25 (0,0))∧w'.cell? ⟨z,7,none⟩=some (.slice J k I)) (n:=14) (by kernel_rfl) rfl ⟨A.o.2.1,aK⟩ fun f=>?_;clear aK;have H:=zW (DoS w w1 z d eb l vm sm tm am h pre D' M E2 own2 (.slice J k I) F (fun j=>j=ob) wf.drew) (A.o.1.next ⟨rfl,rfl,rfl,Nat.le_refl _,fun _ _=>rfl⟩);have O:=zh (And.intro (show OwnR wf.drew 102 14 (.slice J k I) k (evL h.id M.base (os.take k))from OwnR.keep S fun _ _=>rfl) A.o.2.2);clear S;generalize wf.drew=W0 at *;refine Gl [0,1,2,3,5,6] ?_
     iterate 6 (refine Gp rfl ?_;simp only[uZ])
     refine Gn ?_;refine Gl [4,7] ?_
     iterate 2 (refine Gd rfl (by intro w' ay;first|exact zBr 25 (.tmp 15) rfl rfl ay.1 underlying25 rfl (by kernel_rfl)|(have c7:=ay.2;go_simp;try with_reducible rfl)) ?_;simp only[uZ])
     refine Gn ?_;refine Gl [8] ?_;refine Gd (v:=.agg #[.int .i64 h.id,.int .i64 ((M.base:Int)+1+(k:Int)),.int .i64 o.kind,.int .i64 o.client,.int .i64 o.seq,.string o.atK,.string o.atW,.string o.toK,.string o.toW,.int .i64 o.item,.int .i64 o.count,.int .i64 o.price,.bool o.buy,.int .i64 o.id]) rfl (by intro w' ay;kernel_rfl) ?_;simp only[uZ];refine Gn ?_;refine g_one 9 rfl (by kernel_rfl) (by rfl) (fun K hK=>?_);go_wp2_with fail;have az:=zBN W0 (.cells #[.int .i64 h.id,.int .i64 ((M.base:Int)+1+(k:Int)),.int .i64 o.kind,.int .i64 o.client,.int .i64 o.seq,.string o.atK,.string o.atW,.string o.toK,.string o.toW,.int .i64 o.item,.int .i64 o.count,.int .i64 o.price,.bool o.buy,.int .i64 o.id] 102);refine hK.o _ _ ⟨(az.block _ (zAA f.1)).trans f.1,zAP f.2 _⟩ fun f=>?_;clear hK;have HX:=zh (And.intro az (zAF W0 (.cells #[.int .i64 h.id,.int .i64 ((M.base:Int)+1+(k:Int)),.int .i64 o.kind,.int .i64 o.client,.int .i64 o.seq,.string o.atK,.string o.atW,.string o.toK,.string o.toW,.int .i64 o.item,.int .i64 o.count,.int .i64 o.price,.bool o.buy,.int .i64 o.id] 102)));clear az;generalize W0.alloc (.cells #[.int .i64 h.id,.int .i64 ((M.base:Int)+1+(k:Int)),.int .i64 o.kind,.int .i64 o.client,.int .i64 o.seq,.string o.atK,.string o.atW,.string o.toK,.string o.toW,.int .i64 o.item,.int .i64 o.count,.int .i64 o.price,.bool o.buy,.int .i64 o.id] 102)=be at *
     try simp only[uZ]
     refine g_one 10 rfl (by kernel_rfl) (by rfl) (fun K hK=>?_);have bd:zBH be 14 (.slice (some ⟨W0.heap.size,0,none⟩) 1 1) 1 [.int .i64 h.id,.int .i64 ((M.base:Int)+1+(k:Int)),.int .i64 o.kind,.int .i64 o.client,.int .i64 o.seq,.string o.atK,.string o.atW,.string o.toK,.string o.toW,.int .i64 o.item,.int .i64 o.count,.int .i64 o.price,.bool o.buy,.int .i64 o.id]:=⟨rfl,some ⟨W0.heap.size,0,none⟩,1,rfl,fun e=>(by cases e),fun a ha i u hu=>by
      cases ha;rw[add_zero];refine zAB HX.o.2 ?_;simpa using hu⟩
     have T:OwnR be 102 14 (.slice J k I) k (evL h.id M.base (os.take k)):=OwnR.keep O.o.1 fun j t=>HX.o.1.block j (OwnR.lt O.o.1 t);refine zCg (.tmp 104) (.tmp 109) 54 rfl 102 i5 (.agg #[.int .i64 0,.int .i64 0,.int .i64 0,.int .i64 0,.int .i64 0,.string ⟨#[]⟩,.string ⟨#[]⟩,.string ⟨#[]⟩,.string ⟨#[]⟩,.int .i64 0,.int .i64 0,.int .i64 0,.bool false,.int .i64 0]) 14 144 underlying54 Y.o.1 Y.o.2.1 Y.o.2.2.1 Y.o.2.2.2 rfl (by decide) (.slice J k I) k _ rfl T (.slice (some ⟨W0.heap.size,0,none⟩) 1 1) 1 _ rfl bd (by intro v X;simp only[List.mem_cons,List.not_mem_nil,or_false]at X;rcases X with rfl|rfl|rfl|rfl|rfl|rfl|rfl|rfl|rfl|rfl|rfl|rfl|rfl|rfl<;>rfl) (by unfold maxLen;omega) (by omega) ?_;intro v3 w3 s m Q;have P:(Value.slice J k I).ownBlock≠some z:=fun e=>(H.o.ne z e).1 rfl;have al:(Value.slice J k I).ownBlock≠some ob:=fun e=>(H.o.gz ob rfl).2.2 e;have ae:w3.heap[z]?=some (zBR h eb l (.slice J k I) false):=zCK m ((HX.o.1.block z (zAA H.o.zon)).trans H.o.zon) P;have aq:=zCK m f.1 al;obtain⟨p3,q3,rfl⟩:=OwnR.shape s;have aO:=zAB ae (i:=7) (v:=.slice J k I) rfl;have bm:=zAE ae 7;have aP:Chg (fun j=>j=z∨(Value.slice J k I).ownBlock=some j) W0 (w3.setCell ⟨z,7,none⟩ (.slice p3 (k+1) q3)):=(((Chg.of_below HX.o.1).mono (fun _ _ e=>e.elim)).trans (Chg.of_grown m) (fun i _ e=>.inr e.symm)).trans (Chg.setCell w3 ⟨z,7,none⟩ _) (fun i _ e=>.inl e);have R:∀j,(Value.slice p3 (k+1) q3).ownBlock=some j→(Value.slice J k I).ownBlock=some j∨W0.heap.size≤j∧j<(w3.setCell ⟨z,7,none⟩ (.slice p3 (k+1) q3)).heap.size:=fun j t=>by
      rcases Q with e|⟨g,e,hg⟩
      ·exact .inl (by rw[←e];exact t)
      ·refine .inr ⟨?_,?_⟩
       ·rw[e]at t;cases t;exact Nat.le_trans HX.o.1.size hg
       ·exact Nat.lt_of_lt_of_le (OwnR.lt s t) (Chg.setCell w3 ⟨z,7,none⟩ (.slice p3 (k+1) q3)).size
     have bj:=zh (H.o.grow aP (zAH ae 7 (.slice p3 (k+1) q3)) R);have aI:=zW (EvR (w3.setCell ⟨z,7,none⟩ (.slice p3 (k+1) q3)) h M.base (os.take (k+1)) (.slice p3 (k+1) q3)) (by
      unfold EvR;rw[if_neg Z,HO.o.2.2,evL_snoc,List.length_append,List.length_take,Nat.min_eq_left b,show((M.base+1+k:Nat):Int)=(M.base:Int)+1+(k:Int) by omega];exact OwnR.keep s fun j t=>zAK _ fun e=>by
       have e2:j=z:=e;subst e2;rcases R j t with h1|h1
       ·exact P h1
       ·have:=zAA H.o.zon;omega)
     clear bd T s m Q P al ae f aP R;refine hK.o _ _ ⟨aq,aO⟩ fun f=>?_;clear hK
     try simp only[uZ]
     refine Gl [11,12] ?_
     iterate 2 (refine Gp rfl ?_;simp only[uZ])
     refine Gn ?_;clear f;refine g_end 13 rfl (by kernel_rfl) (by rfl) (by kernel_rfl) (fun K hK=>?_);go_wp2_with fail;refine hK.o _ _ ?_;clear hK
     try simp only[uZ]
     refine g_done (by kernel_rfl) ?_ _;clear aO bm aq;generalize w3.setCell ⟨z,7,none⟩ (.slice p3 (k+1) q3)=bD at *;go_wp2_with fail
     go_round
     case rel=>exact⟨k+1,E2,own2,_,by omega,by go_num,bj.o.drop,O.o.2,aI.o⟩
     case measure=>simp[intOf];omega
   ·obtain rfl:k=os.length:=by omega
    have aQ:decide ((M.base:Int)+1+(os.length:Int)≤((M.base+os.length:Nat):Int))=false:=by simp;omega
    go_wp2_with fail;refine HL.o.mono ?_;rintro e wa ⟨rfl,q,rfl⟩;have r:=zh (And.intro (show DoS w w1 z d eb l vm sm tm am h pre D' M E1 G ev F NoF (wr.drewN q)from HS.o.1.next ⟨rfl,rfl,rfl,Nat.le_refl _,fun _ _=>rfl⟩) (And.intro HS.o.2.1 (HS.o.2.2.keep (W':=wr.drewN q) fun _ _=>rfl)));generalize wr.drewN q=wa at *;go_wp2_with fail
    go_ret2
    exact⟨z,E1,ev,rfl,r.o.1.zoneF,r.o.2.1,by have:=r.o.2.2;rwa[List.take_length]at this,r.o.1.same⟩
end Go.Proofs.YtmcanphlgkolcaaGreatDoor
