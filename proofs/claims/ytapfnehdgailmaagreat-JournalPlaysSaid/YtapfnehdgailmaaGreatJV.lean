/- What the program's functions and the document's do, and plain laws, for PJournalPlays. -/
import Derived.Test.YtapfnehdgailmaaGreatJB
import Derived.Test.YtapfnehdgailmaaGreatJG
import Derived.Test.YtapfnehdgailmaaGreatJR
import Derived.Test.YtapfnehdgailmaaGreatJT
import Derived.Test.YtapfnehdgailmaaGreatJU
open Go.Proofs.Tryz
set_option maxRecDepth 100000
set_option maxHeartbeats 64000000
namespace Go.Proofs.YtapfnehdgailmaaGreat
open Go.RowKit Go.Sat Go.Maps
theorem ris_calls {w:World}{e:Ent}{v:EV}(h:zBH w e v) :
  Calls prog 43 #[zCf e v] w fun r w'=>r=.returned (.bool (zA1 e))∧Below w.heap.size w w':=by
 obtain⟨t,k,i,f⟩:=e;obtain⟨C,v2⟩:=v;have J:=zAD w (.cells #[.int .i64 t,.int .i64 k,C,v2] 50);have W:=zW (Calls prog 36 #[v2] (w.alloc (.cells #[.int .i64 t,.int .i64 k,C,v2] 50)) fun e w'=>e=.returned (.bool (zAZ f))∧∃q,w'=(w.alloc (.cells #[.int .i64 t,.int .i64 k,C,v2] 50)).drewN q) (by
  have hn:=(h.below J).nodes;obtain⟨p,c,hv⟩:=hn.slice;have R:v2=.slice p f.length c:=hv;subst R;exact zC4 hn h.nl)
 have g:=zh J;have P:=h.dl;have Q:=h.nl;obtain⟨p1,X,U⟩:=h.data.slice;obtain⟨p2,Y,V⟩:=h.nodes.slice;have H:C=.slice p1 i.length X:=U;have I:v2=.slice p2 f.length Y:=V;subst H;subst I;clear U V h J;dsimp only at P Q;have D:=zh (ent_zero (e:=⟨t,k,i,f⟩));have E:=zh (ent_one (e:=⟨t,k,i,f⟩));have F:=zh (ent_two (e:=⟨t,k,i,f⟩));have S:=zh (ent_none (e:=⟨t,k,i,f⟩));have G:=zW (zDe t=false→zA1 ⟨t,k,i,f⟩=false) (fun h=>by unfold zA1;rw[h,Bool.false_and]);unfold zCf;dsimp only at D E F S ⊢;generalize zA1 ⟨t,k,i,f⟩=aa at *
 by_cases a:0≤t∧t≤1099511627776
 rotate_left
 ·have d:=zh (G.o (by unfold zDe;rw[decide_eq_false a]))
  by_cases A:t<0
  ·have T:decide (t<0)=true:=decide_eq_true A
   go_enter func43,ntmps43
   go_wp2_with fail;go_ret;exact⟨by rw[d.o];rfl,g.o⟩
  ·have T:decide (t<0)=false:=decide_eq_false A;have Z:decide (1099511627776<t)=true:=decide_eq_true (by omega)
   go_enter func43,ntmps43
   go_wp2_with fail;go_ret;exact⟨by rw[d.o];rfl,g.o⟩
 ·have B:zDe t=true:=by unfold zDe;rw[decide_eq_true a]
  have T:decide (t<0)=false:=decide_eq_false (by omega);have Z:decide (1099511627776<t)=false:=decide_eq_false (by omega);rw[B]at D E F;clear B
  by_cases j:k=0
  ·have d:=zh (D.o j);have L:(k==0)=true:=by simpa using j
   clear j a;generalize i.length=n at *;generalize f.length=m at *
   by_cases hn:n=0
   focus
    have s:((n:Int)==0)=true:=by simp;omega
    have b:decide (n=0∧m=0)=((m:Int)==0):=by rw[Bool.eq_iff_iff];simp;omega
   rotate_left
   focus
    have s:((n:Int)==0)=false:=by simp;omega
    have b:decide (n=0∧m=0)=false:=by simp;omega
   all_goals
    rw[b]at d;clear hn b;go_enter func43,ntmps43;go_wp2_with fail;go_ret;exact⟨by rw[d.o];simp,g.o⟩
  ·have L:(k==0)=false:=by simpa using j
   by_cases l:k=1
   ·have d:=zh (E.o l);have M:(k==1)=true:=by simpa using l
    clear j a l;generalize i.length=n at *;generalize f.length=m at *
    by_cases hn:1≤n
    ·by_cases K:n≤65536
     focus
      have z:decide ((1:Int)≤(n:Int))=true:=by simp;omega
      have O:decide ((n:Int)≤65536)=true:=by simp;omega
      have b:decide (1≤n∧n≤65536∧m=0)=((m:Int)==0):=by rw[Bool.eq_iff_iff];simp;omega
     rotate_left
     focus
      have z:decide ((1:Int)≤(n:Int))=true:=by simp;omega
      have O:decide ((n:Int)≤65536)=false:=by simp;omega
      have b:decide (1≤n∧n≤65536∧m=0)=false:=by simp;omega
     all_goals
      rw[b]at d;clear b;go_enter func43,ntmps43;go_wp2_with fail;go_ret;exact⟨by rw[d.o];simp,g.o⟩
    ·have z:decide ((1:Int)≤(n:Int))=false:=by simp;omega
     have b:decide (1≤n∧n≤65536∧m=0)=false:=by simp;omega
     rw[b]at d;clear b
     go_enter func43,ntmps43
     go_wp2_with fail;go_ret;exact⟨by rw[d.o];simp,g.o⟩
   ·have M:(k==1)=false:=by simpa using l
    by_cases y:k=2
    ·have d:=zh (F.o y);have N:(k==2)=true:=by simpa using y
     clear j a l y;generalize i.length=n at *;generalize f.length=m at *
     by_cases hn:n=0
     ·have s:((n:Int)==0)=true:=by simp;omega
      have b:decide (n=0)=true:=by simpa using hn
      rw[b]at d;clear hn b
      go_enter func43,ntmps43
      go_wp2_with fail;refine W.o.mono ?_;rintro e w' ⟨rfl,q,rfl⟩;go_wp2_with fail;go_ret;exact⟨by rw[d.o];simp,g.o.trans ⟨rfl,rfl,rfl,Nat.le_refl _,fun _ _=>rfl⟩⟩
     ·have s:((n:Int)==0)=false:=by simp;omega
      have b:decide (n=0)=false:=by simpa using hn
      rw[b]at d;clear hn b
      go_enter func43,ntmps43
      go_wp2_with fail;go_ret;exact⟨by rw[d.o];simp,g.o⟩
    ·have N:(k==2)=false:=by simpa using y
     have d:=zh (S.o j l y);clear j l y
     go_enter func43,ntmps43
     go_wp2_with fail;go_ret;exact⟨by rw[d.o];rfl,g.o⟩
abbrev RowT:=TypeId×Value×Nat×List Value
structure RowS (W1 W:World)(x:RowT):Prop where
 own:OwnR W x.1 1 x.2.1 x.2.2.1 x.2.2.2
 new:∀k,x.2.1.ownBlock=some k→W1.heap.size≤k
def zCI (W1 W:World)(a b:Option RowT):Prop:=Below W1.heap.size W1 W∧(∀x,a=some x→RowS W1 W x)∧(∀y,b=some y→RowS W1 W y)∧∀x y,a=some x→b=some y→∀k,x.2.1.ownBlock=some k→y.2.1.ownBlock≠some k
section
variable {W1 W W':World} {a b:Option RowT} {e:TypeId} {v v':Value} {n m:Nat} {xs news:List Value}
theorem zCI.swap (h:zCI W1 W a b):zCI W1 W b a:=⟨h.1,h.2.2.1,h.2.1,fun x y d f k c e=>h.2.2.2 y x f d k e c⟩
theorem zCI.own (h:zCI W1 W (some (e,v,n,xs)) b):OwnR W e 1 v n xs:=(h.2.1 _ rfl).own
theorem zCI.new (h:zCI W1 W (some (e,v,n,xs)) b):∀k,v.ownBlock=some k→W1.heap.size≤k:=(h.2.1 _ rfl).new
theorem zCI.alloc (h:zCI W1 W none b):zCI W1 (W.alloc (.cells #[] e)) (some (e,.slice (some ⟨W.heap.size,0,none⟩) 0 0,0,[])) b:=by
 have g:=zAD W (.cells #[] e);refine⟨h.1.trans (g.mono h.1.size),fun x f=>?_,fun y d=>⟨OwnR.keep (h.2.2.1 y d).own fun k c=>g.block k (OwnR.lt (h.2.2.1 y d).own c),(h.2.2.1 y d).new⟩,fun x y f d k c i=>?_⟩
 ·cases f;refine⟨zAx W e,fun k c=>?_⟩;have:=Option.some.inj c;have:=h.1.size;dsimp only at *;omega
 ·cases f;have l:=OwnR.lt (h.2.2.1 y d).own i;have j:=Option.some.inj c;dsimp only at j;omega
theorem zCI.app (h:zCI W1 W (some (e,v,n,xs)) b)(l:OwnR W' e 1 v' (n+m) (xs++news))(s:W.grownBy W' v.ownBlock)(r:v'.ownBlock=v.ownBlock∨∃g,v'.ownBlock=some g∧W.heap.size≤g) :
  zCI W1 W' (some (e,v',n+m,xs++news)) b:=by
 have q:=Chg.of_grown s;refine⟨h.1.trans (q.below h.1.size fun k c i=>by have:=h.new k i.symm;omega),fun x o=>?_,fun y f=>⟨OwnR.keep (h.2.2.1 y f).own fun k c=>q.block k (OwnR.lt (h.2.2.1 y f).own c) fun i=>h.2.2.2 _ y rfl f k i.symm c,(h.2.2.1 y f).new⟩,fun x y o f k c i=>?_⟩
 ·cases o;refine⟨l,fun k c=>?_⟩;rcases r with d|⟨g,d,j⟩
  ·exact h.new k (d▸c)
  ·rw[d]at c;cases c;exact Nat.le_trans h.1.size j
 ·cases o;rcases r with d|⟨g,d,j⟩
  ·exact h.2.2.2 _ y rfl f k (d▸c) i
  ·have p:v'.ownBlock=some k:=c;rw[d]at p;cases p;have:=OwnR.lt (h.2.2.1 y f).own i;omega
end
def OwnTold (w:World)(e:Ent)(r:Ending)(w':World):Prop:=∃v:EV,r=.returned (zCf e v)∧zDM w' e v∧(∀k,(v.1.ownBlock=some k∨v.2.ownBlock=some k)→w.heap.size≤k)∧Below w.heap.size w w'
abbrev zEk (t k:Int)(v u:Value):Obj:=.cells #[.int .i64 t,.int .i64 k,v,u] 50 (0,0)
theorem zBC {W:World}{b:Nat}{t k:Int}{u v:Value}(h:W.heap[b]?=some (zEk t k u v)):W.cell? ⟨b,0,none⟩=some (.int .i64 t)∧W.cell? ⟨b,1,none⟩=some (.int .i64 k)∧W.cell? ⟨b,2,none⟩=some u∧W.cell? ⟨b,3,none⟩=some v :=
 ⟨zAG h rfl,zAG h rfl,zAG h rfl,zAG h rfl⟩
theorem own_fin {w W1 W:World}{c d:Value}{i:Bs}{j:List Int}{t k:Int}{n n2:Nat}{O:Obj}(o:W.heap[w.heap.size+1]?=some (zEk 0 0 (.slice none 0 0) (.slice none 0 0)))(h:zCI W1 W (some (5,c,n,zAR i)) (some (3,d,n2,zFg j)))(q:w.heap.size+2≤W1.heap.size∧n=i.length∧n2=j.length)(m:Below w.heap.size w W1)(l:W.heap[w.heap.size]?=some O) :
  ((((W.setCell ⟨w.heap.size+1,0,none⟩ (.int .i64 t)).setCell ⟨w.heap.size+1,1,none⟩ (.int .i64 k)).setCell ⟨w.heap.size+1,2,none⟩ c).setCell ⟨w.heap.size+1,3,none⟩ d).heap[w.heap.size]?=some O ∧
  ((((W.setCell ⟨w.heap.size+1,0,none⟩ (.int .i64 t)).setCell ⟨w.heap.size+1,1,none⟩ (.int .i64 k)).setCell ⟨w.heap.size+1,2,none⟩ c).setCell ⟨w.heap.size+1,3,none⟩ d).heap[w.heap.size+1]?=some (zEk t k c d) ∧
  OwnTold w ⟨t,k,i,j⟩ (.returned (.agg #[.int .i64 t,.int .i64 k,c,d])) ((((W.setCell ⟨w.heap.size+1,0,none⟩ (.int .i64 t)).setCell ⟨w.heap.size+1,1,none⟩ (.int .i64 k)).setCell ⟨w.heap.size+1,2,none⟩ c).setCell ⟨w.heap.size+1,3,none⟩ d):=by
 have g:Chg (fun x=>x=w.heap.size+1) W ((((W.setCell ⟨w.heap.size+1,0,none⟩ (.int .i64 t)).setCell ⟨w.heap.size+1,1,none⟩ (.int .i64 k)).setCell ⟨w.heap.size+1,2,none⟩ c).setCell ⟨w.heap.size+1,3,none⟩ d):=(((Chg.setCell W ⟨w.heap.size+1,0,none⟩ _).trans (Chg.setCell _ ⟨w.heap.size+1,1,none⟩ _) fun _ _ e=>e).trans (Chg.setCell _ ⟨w.heap.size+1,2,none⟩ _) fun _ _ e=>e).trans (Chg.setCell _ ⟨w.heap.size+1,3,none⟩ _) fun _ _ e=>e;obtain⟨v,rfl,rfl⟩:=q;have p:=h.1.size;have f:=m.size;refine⟨(g.block _ (zAB l) (by omega)).trans l,?_,(c,d),rfl,⟨OwnR.keep h.own fun x b=>g.block x (OwnR.lt h.own b) fun e=>?_,OwnR.keep h.swap.own fun x b=>g.block x (OwnR.lt h.swap.own b) fun e=>?_⟩,fun x b=>?_,?_⟩
 ·have q1:=zAC o 0 (.int .i64 t);have q2:=zAC q1 1 (.int .i64 k);have r:=zAC q2 2 c;have s:=zAC r 3 d;simpa using s
 ·have:=h.new x b;omega
 ·have:=h.swap.new x b;omega
 ·rcases b with b|b
  ·have:=h.new x b;omega
  ·have:=h.swap.new x b;omega
 ·exact(m.trans (h.1.mono f)).trans (g.below (Nat.le_trans f p) fun x b e=>by omega)
theorem rown_calls {w:World}{e:Ent}{v:EV}(h:zBH w e v)(hd:e.data.length≤1000000000)(hn:e.nodes.length≤1000000000) :
  Calls prog 115 #[zCf e v] w (OwnTold w e):=by
 obtain⟨i0,hi,ad,ae,af⟩:=info_parts (show(prog.info? 5).map (fun i=>(i.zero,i.size,i.bytes))=some (some (.int .u8 0),1,1) by kernel_rfl);obtain⟨i1,ac,V,X,Y⟩:=info_parts (show(prog.info? 3).map (fun i=>(i.zero,i.size,i.bytes))=some (some (.int .i64 0),1,8) by kernel_rfl);obtain⟨t,k,N,J⟩:=e;obtain⟨v1,v2⟩:=v;obtain⟨B,A,e1⟩:=h.data.slice;obtain⟨s,r,e2⟩:=h.nodes.slice;have e1:v1=.slice B N.length A:=e1;have e2:v2=.slice s J.length r:=e2;subst e1;subst e2;dsimp only at hd hn;have Hh:=zh h;clear h;unfold zCf;dsimp only;have aa:((w.alloc (zEk t k (.slice B N.length A) (.slice s J.length r))).alloc (zEk 0 0 (.slice none 0 0) (.slice none 0 0))).heap[w.heap.size]?=some (zEk t k (.slice B N.length A) (.slice s J.length r)):=zBB _ (zAI w _);have ab:((w.alloc (zEk t k (.slice B N.length A) (.slice s J.length r))).alloc (zEk 0 0 (.slice none 0 0) (.slice none 0 0))).heap[w.heap.size+1]?=some (zEk 0 0 (.slice none 0 0) (.slice none 0 0)):=by
  have:=zAI (w.alloc (zEk t k (.slice B N.length A) (.slice s J.length r))) (zEk 0 0 (.slice none 0 0) (.slice none 0 0));simpa using this
 have ak:((w.alloc (zEk t k (.slice B N.length A) (.slice s J.length r))).alloc (zEk 0 0 (.slice none 0 0) (.slice none 0 0))).heap.size=w.heap.size+2:=by simp
 have hb:Below w.heap.size w ((w.alloc (zEk t k (.slice B N.length A) (.slice s J.length r))).alloc (zEk 0 0 (.slice none 0 0) (.slice none 0 0))):=(zAD w _).alloc (by simp) _;generalize ai:N.length=G at *;generalize aj:J.length=n2 at *;have ag:=zh ai;have ah:=zh aj;clear ai aj
 go_enter func115,ntmps115
 go_wp2_with fail;have I:Below w.heap.size w (((w.alloc (zEk t k (.slice B G A) (.slice s n2 r))).alloc (zEk 0 0 (.slice none 0 0) (.slice none 0 0))).drew):=hb.trans ⟨rfl,rfl,rfl,Nat.le_refl _,fun _ _=>rfl⟩;generalize (w.alloc (zEk t k (.slice B G A) (.slice s n2 r))).alloc (zEk 0 0 (.slice none 0 0) (.slice none 0 0))=W at *;have T:=zW (∀W',Below W.drew.heap.size W.drew W'→W'.heap[w.heap.size+1]?=some (zEk 0 0 (.slice none 0 0) (.slice none 0 0))) fun W' U=>(U.block _ (zAB ab)).trans ab;have Hb:=zh I;have Hd:=zW (∀W',Below W.drew.heap.size W.drew W'→zAK W' 1 (.slice B G A) G (zAR N)) (fun W' U=>by
  have H:=zAb.below Hh.o.data (I.trans (U.mono I.size));have H:zAK W' 1 (.slice B G A) N.length (zAR N):=H;rwa[ag.o]at H)
 have Hn:=zW (∀W',Below W.drew.heap.size W.drew W'→zAK W' 1 (.slice s n2 r) n2 (zFg J)) (fun W' U=>by
  have H:zBY W' (.slice s n2 r) J:=zAK.chg Hh.o.nodes (Chg.of_below (I.trans (U.mono I.size))) fun _ _=>id;have H:zAK W' 1 (.slice s n2 r) J.length (zFg J):=H;rwa[ah.o]at H)
 have m:=zW (w.heap.size+2≤W.drew.heap.size∧G=N.length∧n2=J.length) (⟨Nat.le_of_eq ak.symm,ag.o.symm,ah.o.symm⟩);have T1:=zW (zCI W.drew W.drew none none) (⟨Below.refl _ _,fun x hx=>(by cases hx),fun x hx=>(by cases hx),fun x y hx=>(by cases hx)⟩);have H1:=zW (W.drew.heap[w.heap.size]?=some (zEk t k (.slice B G A) (.slice s n2 r))) aa;have hA:=aa;clear hb I ab aa ak;refine ost (fun w':World=>w'.cell? ⟨w.heap.size,0,none⟩=some (.int .i64 t)∧w'.cell? ⟨w.heap.size,1,none⟩=some (.int .i64 k)∧w'.cell? ⟨w.heap.size,2,none⟩=some (.slice B G A)∧w'.cell? ⟨w.heap.size,3,none⟩=some (.slice s n2 r)) 14 (zBC hA) fun c=>?_;generalize W.drew=W1 at *;refine Pl [0,1,2,3,5,6,9,10] ?_
 iterate 8 (refine Pc rfl ?_;simp only[uZ])
 refine Pn ?_;refine zCp 4 8 rfl rfl (by kernel_rfl) (by rfl) (by rfl) (fun K g=>?_) (fun K g=>?_)
 ·have M:=zh (T1.out.alloc (e:=5));have L:=zh (((zAD W1 (.cells #[] 5)).block w.heap.size (zAB H1.o)).trans H1.o);obtain⟨gA,C⟩:∃gA,gA=W1.heap.size:=⟨_,rfl⟩;rw[←C]at M;go_wp2_with fail
  try rw[←C]
  refine g.o _ _ (zBC L.o) fun c=>?_;clear g
  try simp only[uZ]
  generalize W1.alloc (.cells #[] 5)=W2 at *;clear C;refine zCp 7 8 rfl rfl (by kernel_rfl) (by rfl) (by rfl) (fun K g=>?_) (fun K g=>?_)
  focus
   have al:=zh (M.out.own);have am:=zh (Hd.o _ M.out.1);refine zAm (.tmp 7) (.tmp 9) 22 rfl 5 i0 (.int .u8 0) 1 1 underlying22 hi ad ae af rfl (by decide) (.slice (some ⟨gA,0,none⟩) 0 0) 0 [] rfl al.o (.slice B G A) G _ rfl am.o (zAN _) (by unfold maxLen;omega) (by omega) ?_;intro vA W3 f b d;have a:=zh (M.out.app f b d);have D:=zh (((Chg.of_grown b).block w.heap.size (zAB L.o) (fun e=>by have H:=M.out.new _ e.symm;have:=m.o.1;omega)).trans L.o);clear f b d;go_wp2_with fail;refine g.o _ _ (zBC D.o) fun c=>?_;clear g;try simp only[uZ]
   clear M L;refine oon 8 rfl fun K g=>?_;have n:=zh ((a.out.swap.alloc (e:=3)).swap);have E:=zh (((zAD W3 (.cells #[] 3)).block w.heap.size (zAB D.o)).trans D.o);obtain⟨S,l⟩:∃S,S=W3.heap.size:=⟨_,rfl⟩;rw[←l]at n;go_wp2_with fail;try rw[←l]
   refine g.o _ _ (zBC E.o) fun c=>?_;clear g;try simp only[uZ]
   generalize W3.alloc (.cells #[] 3)=W4 at *;clear l D a;refine oon 11 rfl fun K g=>?_;have p:=zh (n.out.swap.own);have q:=zh (Hn.o _ n.out.1);refine zAm (.tmp 11) (.tmp 13) 38 rfl 3 i1 (.int .i64 0) 1 8 underlying38 ac V X Y rfl (by decide) (.slice (some ⟨S,0,none⟩) 0 0) 0 [] rfl p.o (.slice s n2 r) n2 _ rfl q.o (fun u hu=>by obtain⟨z,-,rfl⟩:=List.mem_map.1 hu;rfl) (by unfold maxLen;omega) (by omega) ?_;intro vB W5 f b d;have F:=zh ((n.out.swap.app f b d).swap);have Z:=zh (((Chg.of_grown b).block w.heap.size (zAB E.o) (fun e=>by have H:=n.out.swap.new _ e.symm;have:=m.o.1;omega)).trans E.o);clear f b d;go_wp2_with fail;refine g.o _ _ (zBC Z.o) fun c=>?_;clear g;try simp only[uZ]
   clear p q n E;obtain⟨pA,cA,eA⟩:=OwnR.shape F.out.own;obtain⟨pB,cB,eB⟩:=OwnR.shape F.out.swap.own;rw[Nat.zero_add]at eA eB;subst eA;subst eB;refine otk 12 (v:=?v150x12) rfl ?_
  rotate_left
  focus
   have a:=zh ((M.out.swap.alloc (e:=3)).swap);have D:=zh (((zAD W2 (.cells #[] 3)).block w.heap.size (zAB L.o)).trans L.o);obtain⟨S,l⟩:∃S,S=W2.heap.size:=⟨_,rfl⟩;rw[←l]at a;go_wp2_with fail;try rw[←l]
   refine g.o _ _ (zBC D.o) fun c=>?_;clear g;try simp only[uZ]
   generalize W2.alloc (.cells #[] 3)=W3 at *;clear l L M;refine oon 7 rfl fun K g=>?_;have P:=zh (a.out.own);have Q:=zh (Hd.o _ a.out.1);refine zAm (.tmp 7) (.tmp 9) 22 rfl 5 i0 (.int .u8 0) 1 1 underlying22 hi ad ae af rfl (by decide) (.slice (some ⟨gA,0,none⟩) 0 0) 0 [] rfl P.o (.slice B G A) G _ rfl Q.o (zAN _) (by unfold maxLen;omega) (by omega) ?_;intro vA W4 f b d;have n:=zh (a.out.app f b d);have E:=zh (((Chg.of_grown b).block w.heap.size (zAB D.o) (fun e=>by have H:=a.out.new _ e.symm;have:=m.o.1;omega)).trans D.o);clear f b d;go_wp2_with fail;refine g.o _ _ (zBC E.o) fun c=>?_;clear g;try simp only[uZ]
   clear P Q a D;refine oon 11 rfl fun K g=>?_;have p:=zh (n.out.swap.own);have q:=zh (Hn.o _ n.out.1);refine zAm (.tmp 11) (.tmp 13) 38 rfl 3 i1 (.int .i64 0) 1 8 underlying38 ac V X Y rfl (by decide) (.slice (some ⟨S,0,none⟩) 0 0) 0 [] rfl p.o (.slice s n2 r) n2 _ rfl q.o (fun u hu=>by obtain⟨z,-,rfl⟩:=List.mem_map.1 hu;rfl) (by unfold maxLen;omega) (by omega) ?_;intro vB W5 f b d;have F:=zh ((n.out.swap.app f b d).swap);have Z:=zh (((Chg.of_grown b).block w.heap.size (zAB E.o) (fun e=>by have H:=n.out.swap.new _ e.symm;have:=m.o.1;omega)).trans E.o);clear f b d;go_wp2_with fail;refine g.o _ _ (zBC Z.o) fun c=>?_;clear g;try simp only[uZ]
   clear p q n E;obtain⟨pA,cA,eA⟩:=OwnR.shape F.out.own;obtain⟨pB,cB,eB⟩:=OwnR.shape F.out.swap.own;rw[Nat.zero_add]at eA eB;subst eA;subst eB;refine otk 12 (v:=?v151x12) rfl ?_
  all_goals
   simp only[uZ];refine oon 13 rfl fun K g=>?_;have j:=T.o _ F.out.1;have r0:=zAU j;have r1:=zAY j;have r2:=zAX j;have r3:=zAf j;have rf:=fun i=>zAE j i;have R:=F.out;simp only[Nat.zero_add,List.nil_append]at R;have O:=zh (own_fin j R m.o Hb.o Z.o (t:=t) (k:=k));clear j R;go_wp2_with fail;refine g.o _ _ (zBC O.o.1) fun c=>?_;clear g;try simp only[uZ]
   refine odn ?_;go_wp2_with fail;(try simp only[Exit.inBlock,Exit.then]);refine bodyPost_ret (results_cell_row rfl _ _ (w.heap.size+1) _ _ (0,0) _ rfl O.o.2.1 underlying50 rfl (by kernel_rfl)) rfl ?_;exact O.o.2.2
 ·have M:=zh ((T1.out.swap.alloc (e:=3)).swap);have L:=zh (((zAD W1 (.cells #[] 3)).block w.heap.size (zAB H1.o)).trans H1.o);obtain⟨S,l⟩:∃S,S=W1.heap.size:=⟨_,rfl⟩;rw[←l]at M;go_wp2_with fail
  try rw[←l]
  refine g.o _ _ (zBC L.o) fun c=>?_;clear g
  try simp only[uZ]
  generalize W1.alloc (.cells #[] 3)=W2 at *;clear l;refine oon 4 rfl fun K g=>?_;have a:=zh (M.out.alloc (e:=5));have D:=zh (((zAD W2 (.cells #[] 5)).block w.heap.size (zAB L.o)).trans L.o);obtain⟨gA,C⟩:∃gA,gA=W2.heap.size:=⟨_,rfl⟩;rw[←C]at a;go_wp2_with fail
  try rw[←C]
  refine g.o _ _ (zBC D.o) fun c=>?_;clear g
  try simp only[uZ]
  generalize W2.alloc (.cells #[] 5)=W3 at *;clear C L M;refine oon 7 rfl fun K g=>?_;have P:=zh (a.out.own);have Q:=zh (Hd.o _ a.out.1);refine zAm (.tmp 7) (.tmp 9) 22 rfl 5 i0 (.int .u8 0) 1 1 underlying22 hi ad ae af rfl (by decide) (.slice (some ⟨gA,0,none⟩) 0 0) 0 [] rfl P.o (.slice B G A) G _ rfl Q.o (zAN _) (by unfold maxLen;omega) (by omega) ?_;intro vA W4 f b d;have n:=zh (a.out.app f b d);have E:=zh (((Chg.of_grown b).block w.heap.size (zAB D.o) (fun e=>by have H:=a.out.new _ e.symm;have:=m.o.1;omega)).trans D.o);clear f b d;go_wp2_with fail;refine g.o _ _ (zBC E.o) fun c=>?_;clear g
  try simp only[uZ]
  clear P Q a D;refine oon 11 rfl fun K g=>?_;have p:=zh (n.out.swap.own);have q:=zh (Hn.o _ n.out.1);refine zAm (.tmp 11) (.tmp 13) 38 rfl 3 i1 (.int .i64 0) 1 8 underlying38 ac V X Y rfl (by decide) (.slice (some ⟨S,0,none⟩) 0 0) 0 [] rfl p.o (.slice s n2 r) n2 _ rfl q.o (fun u hu=>by obtain⟨z,-,rfl⟩:=List.mem_map.1 hu;rfl) (by unfold maxLen;omega) (by omega) ?_;intro vB W5 f b d;have F:=zh ((n.out.swap.app f b d).swap);have Z:=zh (((Chg.of_grown b).block w.heap.size (zAB E.o) (fun e=>by have H:=n.out.swap.new _ e.symm;have:=m.o.1;omega)).trans E.o);clear f b d;go_wp2_with fail;refine g.o _ _ (zBC Z.o) fun c=>?_;clear g
  try simp only[uZ]
  clear p q n E;obtain⟨pA,cA,eA⟩:=OwnR.shape F.out.own;obtain⟨pB,cB,eB⟩:=OwnR.shape F.out.swap.own;rw[Nat.zero_add]at eA eB;subst eA;subst eB;refine otk 12 (v:=?v152x12) rfl ?_;simp only[uZ];refine oon 13 rfl fun K g=>?_;have j:=T.o _ F.out.1;have r0:=zAU j;have r1:=zAY j;have r2:=zAX j;have r3:=zAf j;have rf:=fun i=>zAE j i;have R:=F.out;simp only[Nat.zero_add,List.nil_append]at R;have O:=zh (own_fin j R m.o Hb.o Z.o (t:=t) (k:=k));clear j R;go_wp2_with fail;refine g.o _ _ (zBC O.o.1) fun c=>?_;clear g
  try simp only[uZ]
  refine odn ?_;go_wp2_with fail
  (try simp only[Exit.inBlock,Exit.then])
  refine bodyPost_ret (results_cell_row rfl _ _ (w.heap.size+1) _ _ (0,0) _ rfl O.o.2.1 underlying50 rfl (by kernel_rfl)) rfl ?_;exact O.o.2.2
theorem rbytes_le (R:Rd):R.bytes.1.length≤R.rest.length:=by
 have h:=zDX 1 R;rw[show(Rd.ints 1 R).2=R.num.2 from rfl]at h;rw[show R.bytes=R.num.2.raw R.num.1 from rfl];unfold Rd.raw
 split
 ·simp only[List.length_take];omega
 ·exact Nat.zero_le _
theorem set4_block {W:World}{b:Nat}{j k l m:Value}{e:TypeId}{i:Nat×Nat}(h:W.heap[b]?=some (.cells #[j,k,l,m] e i))(c d f g:Value) :
  ((((W.setCell ⟨b,0,none⟩ c).setCell ⟨b,1,none⟩ d).setCell ⟨b,2,none⟩ f).setCell ⟨b,3,none⟩ g).heap[b]?=some (.cells #[c,d,f,g] e i):=by
 have q1:=zAC h 0 c;have q2:=zAC q1 1 d;have n:=zAC q2 2 f;have o:=zAC n 3 g;simpa using o
theorem set4_chg (W:World)(b:Nat)(c d f g:Value):Chg (fun k=>k=b) W ((((W.setCell ⟨b,0,none⟩ c).setCell ⟨b,1,none⟩ d).setCell ⟨b,2,none⟩ f).setCell ⟨b,3,none⟩ g) :=
 (((Chg.setCell W ⟨b,0,none⟩ c).trans (Chg.setCell _ ⟨b,1,none⟩ d) fun _ _ e=>e).trans (Chg.setCell _ ⟨b,2,none⟩ f) fun _ _ e=>e).trans (Chg.setCell _ ⟨b,3,none⟩ g) fun _ _ e=>e
def REntTold (A:Nat→Prop)(w:World)(r:Nat)(R:Rd)(x:Ending)(w':World):Prop :=
 ∃(e:Ent) (v:EV) (R':Rd),x=.returned (zCf e v)∧REntR R e R'∧zBH w' e v∧(∀k,(v.1.ownBlock=some k∨v.2.ownBlock=some k)→w.heap.size≤k∧k<w'.heap.size)∧RdY A w' r R'∧Chg (fun k=>k=r) w w'
theorem rent_fin {A:Nat→Prop}{w W:World}{r:Nat}{R g:Rd}{e:Ent}{v:EV}(d:Chg (fun k=>k=r) w W)(t:r<w.heap.size)(q:∀k,A k→k<w.heap.size∧k≠r)(j:RdY A W r g)(f:zBH W e v)(hn:∀k,(v.1.ownBlock=some k∨v.2.ownBlock=some k)→w.heap.size<k∧k<W.heap.size)(s:REntR R e g)(m n o p:Value) :
  REntTold A w r R (.returned (zCf e v)) ((((W.setCell ⟨w.heap.size,0,none⟩ m).setCell ⟨w.heap.size,1,none⟩ n).setCell ⟨w.heap.size,2,none⟩ o).setCell ⟨w.heap.size,3,none⟩ p):=by
 have c:=set4_chg W w.heap.size m n o p;have l:=c.size;refine⟨e,v,g,rfl,s,⟨zAb.chg f.data c fun k b e=>?_,zAK.chg f.nodes c fun k b e=>?_,f.dl,f.nl⟩,fun k b=>⟨Nat.le_of_lt (hn k b).1,Nat.lt_of_lt_of_le (hn k b).2 l⟩,j.chg c (fun e=>by omega) (fun k b e=>by have:=(q k b).1;omega),?_⟩
 ·have:=(hn k (.inl b)).1;omega
 ·have:=(hn k (.inr b)).1;omega
 ·exact⟨c.os.trans d.os,c.tape.trans d.tape,c.output.trans d.output,Nat.le_trans d.size c.size,fun k b i=>(c.block k (Nat.lt_of_lt_of_le b d.size) (by omega)).trans (d.block k b i)⟩
theorem rrdent_calls {w:World}{r:Nat}{R:Rd}{A:Nat→Prop}(h:RdY A w r R)(hA:∀k,A k→k<w.heap.size∧k≠r)(hl:R.rest.length≤1073741824) :
  Calls prog 166 #[.pointer (some ⟨r,0,none⟩)] w (REntTold A w r R):=by
 have Y:=h.lt;have W:=zAD w (.cells #[.int .i64 0,.int .i64 0,.slice none 0 0,.slice none 0 0] 50);have aI:=zh (zAI w (.cells #[.int .i64 0,.int .i64 0,.slice none 0 0,.slice none 0 0] 50));have aO:(w.alloc (.cells #[.int .i64 0,.int .i64 0,.slice none 0 0,.slice none 0 0] 50)).heap.size=w.heap.size+1:=by simp
 have aG:=zh (zBD (h.below W));have Z:=zh hA;have av:=zh W;have Hl:=zW (R.num.2.num.2.bytes.1.length≤1073741824) (Nat.le_trans (rbytes_le _) (Nat.le_trans (zDX 2 R) hl));have aQ:=Rd.num_le R;have aR:=Rd.num_le R.num.2;have aA:=zW (∀l z e N,RLst R.num.2.num.2.bytes.2 l z→e=⟨(R.num.1:Int),(R.num.2.num.1:Int),R.num.2.num.2.bytes.1,l⟩→N=(if z.bad=false∧zA1 e=false then Rd.fail else z)→REntR R e N) fun l z e N a b c=>⟨l,z,a,b,c⟩;clear h hA hl W
 go_enter func166,ntmps166
 go_wp2_with fail;generalize aJ:w.alloc (.cells #[.int .i64 0,.int .i64 0,.slice none 0 0,.slice none 0 0] 50)=W0 at *;clear aJ;refine aG.o.mono ?_;rintro e w1 ⟨rfl,aj,af⟩;have aH:=zh (zBD aj);have aE:=zh af;clear aj af;go_wp2_with fail;refine aH.o.mono ?_;rintro e w2 ⟨rfl,ak,ag⟩;have aD:=zh (zGL ak);have ab:=zh (aE.o.trans ag fun _ _ e=>e);clear ak ag;go_wp2_with fail;refine aD.o.mono ?_;rintro e w3 ⟨vd,rfl,ao,O,al,ah⟩;have aM:=ab.o.size;have ac:=zh (ab.o.trans ah fun _ _ e=>e);have aN:=ac.o.size;have aF:=zh (rlst_calls al fun k g=>⟨by have:=(Z.o k g).1;omega,(Z.o k g).2⟩);have H:=zh (And.intro ao (show ∀k,vd.ownBlock=some k→w.heap.size<k from fun k g=>by have:=O k g;omega));clear ao O al ah;go_wp2_with fail;refine aF.o.mono ?_;rintro e L ⟨vl,l,z,rfl,ae,J,P,Q,aL,am,X⟩;have U:=zh (ac.o.trans X fun _ _ e=>e);have I:=OwnR.keep H.o.1 fun k g=>X.block k (OwnR.lt H.o.1 g) fun e=>by have:=H.o.2 k g;omega
 have aB:=zh (And.intro J (show ∀k,vl.ownBlock=some k→w.heap.size<k from fun k g=>by have:=P k g;omega));have ay:=zW (zBH L ⟨(R.num.1:Int),(R.num.2.num.1:Int),R.num.2.num.2.bytes.1,l⟩ (vd,vl)) (⟨zAi.has I,zCd.has J,Nat.le_trans Hl.o (by decide),Nat.le_trans Q (by decide)⟩);have K:=zW (∀k,(vd.ownBlock=some k∨vl.ownBlock=some k)→w.heap.size<k∧k<L.heap.size) fun k g=>g.elim (fun h=>⟨H.o.2 k h,OwnR.lt I h⟩) fun h=>⟨aB.o.2 k h,OwnR.lt J h⟩;have G:=zh (fun N (hR':N=if z.bad=false∧zA1 ⟨(R.num.1:Int),(R.num.2.num.1:Int),R.num.2.num.2.bytes.1,l⟩=false then Rd.fail else z)=>aA.o l z ⟨(R.num.1:Int),(R.num.2.num.1:Int),R.num.2.num.2.bytes.1,l⟩ N ae rfl hR');obtain⟨pd,cd,rfl,-⟩:=zAL H.o.1;obtain⟨F,B,rfl,-⟩:=zAw J;have az:=zh am;have ad:=zh ((U.o.block w.heap.size (by omega) (by omega)).trans aI.o);have aS:=U.o.size;clear I J P Q aL am X ae aM aN;generalize R.num.2.num.2.bytes.1=bd at *;generalize O:bd.length=D at *;generalize P:l.length=E at *;clear O P;generalize R.num.1=t at *;generalize R.num.2.num.1=kd at *;have y:=zh (zAD L (.cells #[.int .i64 (t:Int),.int .i64 (kd:Int),.slice pd D cd,.slice F E B] 50));have p:=zh (zAI L (.cells #[.int .i64 (t:Int),.int .i64 (kd:Int),.slice pd D cd,.slice F E B] 50));have M:=zh (az.o.below y.o);have n:=zh ((y.o.block w.heap.size (zAB ad.o)).trans ad.o);have i:=zh (ay.o.below y.o);have ax:=zh (U.o.trans ((Chg.of_below y.o).mono (T:=fun k=>k=r) fun _ _ e=>e.elim) fun _ _ e=>e);have s:=zW (Chg (fun k=>k=r) w (L.alloc (.cells #[.int .i64 (t:Int),.int .i64 (kd:Int),.slice pd D cd,.slice F E B] 50))) (((Chg.of_below av.o).mono (T:=fun k=>k=r) fun _ _ e=>e.elim).trans ax.o fun _ _ e=>e);have j:=zW (∀k,((Value.slice pd D cd).ownBlock=some k∨(Value.slice F E B).ownBlock=some k)→w.heap.size<k∧k<(L.alloc (.cells #[.int .i64 (t:Int),.int .i64 (kd:Int),.slice pd D cd,.slice F E B] 50)).heap.size) fun k g=>⟨(K.o k g).1,Nat.lt_of_lt_of_le (K.o k g).2 y.o.size⟩;have c1:=M.o.c1;have ap:=zAU p.o;have aq:=zAY p.o;have ar:=zAX p.o;have au:=zAf p.o;cases V:z.bad with
 | true =>
  rw[V]at c1;have HF:=zh (rent_fin s.o Y Z.o M.o i.o j.o (G.o z (by rw[V];rfl)) (.int .i64 (t:Int)) (.int .i64 (kd:Int)) (.slice pd D cd) (.slice F E B));have HZ:=zh (set4_block n.o (.int .i64 (t:Int)) (.int .i64 (kd:Int)) (.slice pd D cd) (.slice F E B));have r0:=zAU n.o;have r1:=zAY n.o;have r2:=zAX n.o;have r3:=zAf n.o;have fr:=zAE n.o;clear V;go_wp2_with fail
  (try simp only[Exit.inBlock,Exit.then])
  refine bodyPost_ret (results_cell_row rfl _ _ w.heap.size _ _ (0,0) _ rfl HZ.o underlying50 rfl (by kernel_rfl)) rfl ?_;exact HF.o
 | false =>
  rw[V]at c1;have Hb:=zh V;have v:=zh (ris_calls i.o);unfold zCf at v;dsimp only at v;have G:=zh (fun N (hR':N=if zA1 ⟨(t:Int),(kd:Int),bd,l⟩=false then Rd.fail else z)=>G.o N (by rw[hR',V];simp));clear V;cases C:zA1 ⟨(t:Int),(kd:Int),bd,l⟩with
  | true =>
   rw[C]at v;have S:=zh (G.o z (by rw[C];rfl));clear C;go_wp2_with fail;generalize L.heap.size=bE at *;generalize L.alloc (.cells #[.int .i64 (t:Int),.int .i64 (kd:Int),.slice pd D cd,.slice F E B] 50)=W5 at *;refine v.o.mono ?_;rintro e w6 ⟨rfl,f⟩;have aa:=M.o.below f;have d:=zh ((f.block w.heap.size (zAB n.o)).trans n.o);have m:=(f.block bE (zAB p.o)).trans p.o;have HF:=zh (rent_fin (s.o.trans ((Chg.of_below f).mono (T:=fun k=>k=r) fun _ _ e=>e.elim) fun _ _ e=>e) Y Z.o aa (i.o.below f) (fun k g=>⟨(j.o k g).1,Nat.lt_of_lt_of_le (j.o k g).2 f.size⟩) S.o (.int .i64 (t:Int)) (.int .i64 (kd:Int)) (.slice pd D cd) (.slice F E B));have HZ:=zh (set4_block d.o (.int .i64 (t:Int)) (.int .i64 (kd:Int)) (.slice pd D cd) (.slice F E B));have r0:=zAU d.o;have r1:=zAY d.o;have r2:=zAX d.o;have r3:=zAf d.o;have fr:=zAE d.o;have u0:=zAU m;have u1:=zAY m;have u2:=zAX m;have u3:=zAf m;clear f aa m ap aq ar au c1;go_wp2_with fail
   (try simp only[Exit.inBlock,Exit.then])
   refine bodyPost_ret (results_cell_row rfl _ _ w.heap.size _ _ (0,0) _ rfl HZ.o underlying50 rfl (by kernel_rfl)) rfl ?_;exact HF.o
  | false =>
   rw[C]at v;have S:=zh (G.o Rd.fail (by rw[C];rfl));clear C;go_wp2_with fail;generalize L.heap.size=bE at *;generalize L.alloc (.cells #[.int .i64 (t:Int),.int .i64 (kd:Int),.slice pd D cd,.slice F E B] 50)=W5 at *;refine v.o.mono ?_;rintro e w6 ⟨rfl,f⟩;have aw:=zh f;have aC:=zh (zEX (M.o.below f));have aP:=zh (s.o.trans ((Chg.of_below f).mono (T:=fun k=>k=r) fun _ _ e=>e.elim) fun _ _ e=>e);clear f ap aq ar au c1;go_wp2_with fail;refine aC.o.mono ?_;rintro e w7 ⟨rfl,an,ai⟩;have q:Chg (fun k=>k=r) W5 w7:=((Chg.of_below aw.o).mono (T:=fun k=>k=r) fun _ _ e=>e.elim).trans ai fun _ _ e=>e;have d:=zh ((q.block w.heap.size (zAB n.o) (by omega)).trans n.o);have aK:bE≠r:=fun e=>by have:=y.o.size;omega
   have m:=(q.block bE (zAB p.o) aK).trans p.o;have HF:=zh (rent_fin (s.o.trans q fun _ _ e=>e) Y Z.o an ⟨zAb.chg i.o.data q fun k g e=>by have:=(j.o k (.inl g)).1;omega,zAK.chg i.o.nodes q fun k g e=>(by have:=(j.o k (.inr g)).1;omega),i.o.dl,i.o.nl⟩ (fun k g=>⟨(j.o k g).1,Nat.lt_of_lt_of_le (j.o k g).2 q.size⟩) S.o (.int .i64 (t:Int)) (.int .i64 (kd:Int)) (.slice pd D cd) (.slice F E B));have HZ:=zh (set4_block d.o (.int .i64 (t:Int)) (.int .i64 (kd:Int)) (.slice pd D cd) (.slice F E B));have r0:=zAU d.o;have r1:=zAY d.o;have r2:=zAX d.o;have r3:=zAf d.o;have fr:=zAE d.o;have u0:=zAU m;have u1:=zAY m;have u2:=zAX m;have u3:=zAf m;clear an ai q m;go_wp2_with fail
   (try simp only[Exit.inBlock,Exit.then])
   refine bodyPost_ret (results_cell_row rfl _ _ w.heap.size _ _ (0,0) _ rfl HZ.o underlying50 rfl (by kernel_rfl)) rfl ?_;exact HF.o
section
variable {w:World} {r:Nat} {v:Value} {L:List zAQ} {own:Nat→Prop} {D:zAA}
theorem rwhole_calls (h:zAd w r v L own D)(s:ByteArray)(hs:s.size≤9223372036854775000){pb:Option Addr}{m cb:Nat}{l:Bs}(hl:zAb w (.slice pb m cb) l)(V:l.length≤140737488355328)(hF:∀k,(Value.slice pb m cb).ownBlock=some k→¬own k∧k<w.heap.size) :
  Calls prog 168 #[.pointer (some ⟨r,0,none⟩),.string s,.slice pb m cb] w (zCh w r own (D.save1 (nm s) l)):=by
 have A:(s++(⟨#[126]⟩:ByteArray)).size=s.size+1:=by simp[ByteArray.size_append];rfl
 have X:RSt w w r own D (fun k=>(Value.slice pb m cb).ownBlock=some k):=RSt.start h (Below.refl _ _) hF;have H:=zh (rst_has X (s++(⟨#[126]⟩:ByteArray)));rw[zBG]at H;have Hl:=zh hl;have U:=zh V;clear X h hl V hF;cases T:Sat.get (zAF (nm s)) D.files with
 | none =>
  rw[T]at H;obtain⟨M,t,hD⟩:∃M,D.save0 (nm s)=(M,0)∧M=D:=⟨D,by unfold zAA.save0;rw[T];rfl,rfl⟩
  go_enter func168,ntmps168
  go_wp2_with fail;refine H.o.mono ?_;rintro e w3 ⟨rfl,n,J⟩;rw[←hD]at n;have P:=zh n;have Z:=zh (Hl.o.same J);clear n J hD T;have i:=zh (zEa P.o (Re:=M.append (zAF (nm s)) l) fun own v L C hn=>by
   have:=zET C (s++(⟨#[126]⟩:ByteArray)) (by rw[A];omega) (Z.o) U.o (fun _ k hk ho=>hn k ho hk);rwa[zBG]at this)
  cases y:zAA.append M (zAF (nm s)) l with
  | mk D1 e1 =>
   rw[y]at i
   by_cases z:e1=0
   ·subst z;go_wp2_with fail;refine i.o.mono ?_;rintro e R ⟨rfl,d,-⟩;have F:=zW (RSt w R r own D1 (fun k=>(Value.slice pb m cb).ownBlock=some k)) d;have j:=zh (zEa F.o (Re:=D1.sync [zAF (nm s)]) fun own v L C hn=>by
     have:=zDb C (s++(⟨#[126]⟩:ByteArray)) (by rw[A];omega);rwa[zBG]at this)
    clear d i;cases I:zAA.sync D1 [zAF (nm s)]with
    | mk D2 e2 =>
     rw[I]at j
     by_cases a:e2=0
     ·subst a;have c:=zh (save1_ren t y I);clear t y I;go_wp2_with fail;refine j.o.mono ?_;rintro e S ⟨rfl,g,-⟩;have G:=zW (RSt w S r own D2 (fun k=>(Value.slice pb m cb).ownBlock=some k)) g;have E:=zh (zEa G.o (Re:=D2.rename (zAF (nm s)) (nm s)) fun own v L C hn=>by
       have:=rren_calls C (s++(⟨#[126]⟩:ByteArray)) s (by rw[A];omega) (by omega);rwa[zBG]at this)
      clear g j;go_wp2_with fail;refine E.o.mono ?_;rintro e w7 ⟨rfl,q,-⟩;have B:=zW (zCh w r own (D.save1 (nm s) l) (.returned (.int .i64 ((D2.rename (zAF (nm s)) (nm s)).2:Int))) w7) (by rw[c.o];exact q.stop _);clear q E;generalize (D2.rename (zAF (nm s)) (nm s)).2=e3 at *;go_wp2_with fail;go_ret;exact B.o
     ·have N:((e2:Int)==0)=false:=by simp;omega
      have c:=zh (save1_syn t y I a);clear t y I a;go_wp2_with fail;refine j.o.mono ?_;rintro e S ⟨rfl,g,-⟩;have B:=zW (zCh w r own (D.save1 (nm s) l) (.returned (.int .i64 (e2:Int))) S) (by rw[c.o];exact g.stop _);clear g j;go_wp2_with fail;go_ret;exact B.o
   ·have N:((e1:Int)==0)=false:=by simp;omega
    have c:=zh (save1_app t y z);clear t y z;go_wp2_with fail;refine i.o.mono ?_;rintro e R ⟨rfl,d,-⟩;have B:=zW (zCh w r own (D.save1 (nm s) l) (.returned (.int .i64 (e1:Int))) R) (by rw[c.o];exact d.stop _);clear d i;go_wp2_with fail;go_ret;exact B.o
 | some f =>
  rw[T]at H;cases t:D.save0 (nm s)with
  | mk M e0 =>
   have Y:zAA.remove D [zAF (nm s)]=(M,e0):=by rw[←t];unfold zAA.save0;rw[T];rfl
   have aa:=zh Y;clear Y T
   go_enter func168,ntmps168
   go_wp2_with fail;refine H.o.mono ?_;rintro e w3 ⟨rfl,n,J⟩;have O:=zh (zEa n (Re:=D.remove [zAF (nm s)]) fun own v L C hn=>by
    have:=rrem_calls C (s++(⟨#[126]⟩:ByteArray)) (by rw[A];omega);rwa[zBG]at this)
   rw[aa.o]at O;have K:=zh (Hl.o.same J);clear n J
   by_cases Q:e0=0
   ·subst Q;go_wp2_with fail;refine O.o.mono ?_;rintro e w4 ⟨rfl,p,W⟩;have P:=zW (RSt w w4 r own M (fun k=>(Value.slice pb m cb).ownBlock=some k)) p;have Z:=zh (K.o.same W);clear p W;have i:=zh (zEa P.o (Re:=M.append (zAF (nm s)) l) fun own v L C hn=>by
     have:=zET C (s++(⟨#[126]⟩:ByteArray)) (by rw[A];omega) (Z.o) U.o (fun _ k hk ho=>hn k ho hk);rwa[zBG]at this)
    cases y:zAA.append M (zAF (nm s)) l with
    | mk D1 e1 =>
     rw[y]at i
     by_cases z:e1=0
     ·subst z;go_wp2_with fail;refine i.o.mono ?_;rintro e R ⟨rfl,d,-⟩;have F:=zW (RSt w R r own D1 (fun k=>(Value.slice pb m cb).ownBlock=some k)) d;have j:=zh (zEa F.o (Re:=D1.sync [zAF (nm s)]) fun own v L C hn=>by
       have:=zDb C (s++(⟨#[126]⟩:ByteArray)) (by rw[A];omega);rwa[zBG]at this)
      clear d i;cases I:zAA.sync D1 [zAF (nm s)]with
      | mk D2 e2 =>
       rw[I]at j
       by_cases a:e2=0
       ·subst a;have c:=zh (save1_ren t y I);clear t y I;go_wp2_with fail;refine j.o.mono ?_;rintro e S ⟨rfl,g,-⟩;have G:=zW (RSt w S r own D2 (fun k=>(Value.slice pb m cb).ownBlock=some k)) g;have E:=zh (zEa G.o (Re:=D2.rename (zAF (nm s)) (nm s)) fun own v L C hn=>by
         have:=rren_calls C (s++(⟨#[126]⟩:ByteArray)) s (by rw[A];omega) (by omega);rwa[zBG]at this)
        clear g j;go_wp2_with fail;refine E.o.mono ?_;rintro e w7 ⟨rfl,q,-⟩;have B:=zW (zCh w r own (D.save1 (nm s) l) (.returned (.int .i64 ((D2.rename (zAF (nm s)) (nm s)).2:Int))) w7) (by rw[c.o];exact q.stop _);clear q E;generalize (D2.rename (zAF (nm s)) (nm s)).2=e3 at *;go_wp2_with fail;go_ret;exact B.o
       ·have N:((e2:Int)==0)=false:=by simp;omega
        have c:=zh (save1_syn t y I a);clear t y I a;go_wp2_with fail;refine j.o.mono ?_;rintro e S ⟨rfl,g,-⟩;have B:=zW (zCh w r own (D.save1 (nm s) l) (.returned (.int .i64 (e2:Int))) S) (by rw[c.o];exact g.stop _);clear g j;go_wp2_with fail;go_ret;exact B.o
     ·have N:((e1:Int)==0)=false:=by simp;omega
      have c:=zh (save1_app t y z);clear t y z;go_wp2_with fail;refine i.o.mono ?_;rintro e R ⟨rfl,d,-⟩;have B:=zW (zCh w r own (D.save1 (nm s) l) (.returned (.int .i64 (e1:Int))) R) (by rw[c.o];exact d.stop _);clear d i;go_wp2_with fail;go_ret;exact B.o
   ·have N:((e0:Int) != 0)=true:=by simp;omega
    have c:=zh (save1_rem (b:=l) t Q);clear t Q;go_wp2_with fail;refine O.o.mono ?_;rintro e w4 ⟨rfl,p,-⟩;have B:=zW (zCh w r own (D.save1 (nm s) l) (.returned (.int .i64 (e0:Int))) w4) (by rw[c.o];exact p.stop _);clear p;go_wp2_with fail;go_ret;exact B.o
end
def zAq (w0:World)(j r:Nat)(pre:ByteArray)(b c:Nat→Prop)(w1:World)(D:zAA)(M:zAJ):Prop :=
 ∃Hot Cold,RJF w1 j r pre D M Hot Cold∧Chg b w0 w1∧(∀k,Hot k→b k∨w0.heap.size≤k)∧∀k,Cold k→c k∨w0.heap.size≤k
theorem zAq.told {w0 w1:World}{j r:Nat}{pre:ByteArray}{d b:Nat→Prop}{c:zDu}(h:zAq w0 j r pre d b w1 c.disk c.jou):zBu w0 j r pre d b c (.returned (.int .i64 (c.err:Int))) w1:=⟨rfl,h⟩
theorem zBu.step {w0 w1:World}{j r:Nat}{pre:ByteArray}{c b:Nat→Prop}{d:zDu}{e:Ending}(h:zBu w0 j r pre c b d e w1):zAq w0 j r pre c b w1 d.disk d.jou:=h.2
section
variable {w0 w1 w2:World} {j r:Nat} {pre:ByteArray} {D D2:zAA} {M M2:zAJ} {Hot Cold Hot1 Cold1:Nat→Prop}
theorem RJF.step (h:RJF w1 j r pre D M Hot Cold):zAq w1 j r pre Hot Cold w1 D M:=⟨Hot,Cold,h,Chg.refl _ _,fun _ h=>.inl h,fun _ h=>.inl h⟩
theorem RJF.stepB (h:RJF w1 j r pre D M Hot Cold)(b:Below w1.heap.size w1 w2):zAq w1 j r pre Hot Cold w2 D M:=⟨Hot,Cold,h.below b,(Chg.of_below b).mono fun _ _ h=>h.elim,fun _ h=>.inl h,fun _ h=>.inl h⟩
theorem zAq.comp (i:Chg Hot w0 w1)(o:∀k,Hot1 k→Hot k∨w0.heap.size≤k)(m:∀k,Cold1 k→Cold k∨w0.heap.size≤k)(p:zAq w1 j r pre Hot1 Cold1 w2 D2 M2):zAq w0 j r pre Hot Cold w2 D2 M2:=by
 obtain⟨c,b,g,l,n,d⟩:=p;refine⟨c,b,g,i.trans l fun k f q=>(o k q).resolve_right (by omega),fun k f=>?_,fun k f=>?_⟩
 ·rcases n k f with h|h
  ·exact o k h
  ·exact .inr (Nat.le_trans i.size h)
 ·rcases d k f with h|h
  ·exact m k h
  ·exact .inr (Nat.le_trans i.size h)
theorem zAq.trans (h:zAq w0 j r pre Hot Cold w1 D M)(f:∀Hot1 Cold1,RJF w1 j r pre D M Hot1 Cold1→zAq w1 j r pre Hot1 Cold1 w2 D2 M2):zAq w0 j r pre Hot Cold w2 D2 M2:=by
 obtain⟨Hot1,Cold1,hF,c,d,b⟩:=h;exact zAq.comp c d b (f _ _ hF)
theorem zAq.next (h:zAq w0 j r pre Hot Cold w1 D M)(b:Below w1.heap.size w1 w2):zAq w0 j r pre Hot Cold w2 D M:=h.trans fun _ _ hF=>hF.stepB b
theorem zAq.since (h:zAq w1 j r pre Hot Cold w2 D M)(b:Below w0.heap.size w0 w1):zAq w0 j r pre Hot Cold w2 D M:=by
 obtain⟨Hot1,Cold1,hF,f,g,c⟩:=h;exact⟨Hot1,Cold1,hF,((Chg.of_below b).mono fun _ _ h=>h.elim).trans f fun _ _ h=>h,fun k d=>(g k d).imp id (Nat.le_trans b.size),fun k d=>(c k d).imp id (Nat.le_trans b.size)⟩
theorem rj_disk {P:Program}{f:FuncId}{args:Array Value}{Re:zAA×Nat}{wc:World}(h:RJF w1 j r pre D M Hot Cold)(s:Below w1.heap.size w1 wc)(B:∀v L own,zAd wc r v L own D→(∀k,own k→Hot k)→Calls P f args wc (zCh wc r own Re)) :
  Calls P f args wc fun e w'=>e=.returned (.int .i64 (Re.2:Int))∧zAq w1 j r pre Hot Cold w' Re.1 M∧w'.heap[j]?=w1.heap[j]?:=by
 obtain⟨O,own,z,dv,y,vs,v,L,l,a,p,t,m⟩:=h;refine(B v L own (a.below s) fun k b=>(m k).2 (.inr b)).mono ?_;rintro e w' ⟨rfl,own',⟨v',L',q⟩,A,hn⟩;have d:Chg own w1 w':=zCW s A;have i:∀k,own' k→own k∨w1.heap.size≤k:=fun k b=>(hn k b).imp id (Nat.le_trans s.size);have n:=l.chg d fun k b=>⟨fun o=>p k o b,fun c=>t k c b⟩;refine⟨rfl,⟨fun k=>O k∨own' k,Cold,⟨O,own',z,dv,y,vs,v',L',n,q,fun k b g=>?_,fun k b g=>?_,fun k=>Iff.rfl⟩,d.mono fun k _ b=>(m k).2 (.inr b),fun k b=>?_,fun k b=>.inl b⟩,d.block j (l.olt j l.oj) (p j l.oj)⟩
 ·rcases i k g with h|h
  ·exact p k b h
  ·have:=l.olt k b;omega
 ·rcases i k g with h|h
  ·exact t k b h
  ·have:=l.clt k b;omega
 ·rcases b with b|b
  ·exact .inl ((m k).2 (.inl b))
  ·exact(i k b).imp (fun h=>(m k).2 (.inr h)) id
theorem zFq.set {w w':World}{O C:Nat→Prop}{M M':zAJ}{g dv f:Value}{vs:List EV}(h:zFq w j r pre O C M g dv f vs)
  (m:w'.heap[j]?=some (RJC r (M'.number:Int) M'.term g pre M'.now M'.vote dv f M'.dead))
  (c:Chg (fun k=>k=j) w w') (o:M'.group=M.group) (n:M'.data=M.data) (d:M'.entries=M.entries) (ok:M'.OK):zFq w' j r pre O C M' g dv f vs where
 cells:=m
 group:=by rw[o];exact zAK.chg h.group c fun k b e=>h.dis k (h.cg k b) (e▸h.oj)
 data:=by rw[n];exact zAK.chg h.data c fun k b e=>h.dis k (h.cd k b) (e▸h.oj)
 row:=by rw[d];exact h.row.keep fun k b=>c.block k (h.olt k (h.oe k b).1) (h.oe k b).2
 rlen:=by rw[d];exact h.rlen
 rows:=by rw[d];exact fun i e v d l=>(h.rows i e v d l).keep fun k b=>c.block k (h.clt k (h.cv v (List.mem_of_getElem? l) k b)) fun e=>h.dis k (h.cv v (List.mem_of_getElem? l) k b) (e▸h.oj)
 oj:=h.oj
 oe:=h.oe
 cg:=h.cg
 cd:=h.cd
 cv:=h.cv
 dis:=h.dis
 olt:=fun k b=>Nat.lt_of_lt_of_le (h.olt k b) c.size
 clt:=fun k b=>Nat.lt_of_lt_of_le (h.clt k b) c.size
 psz:=h.psz
 ok:=ok
theorem RJF.set (h:RJF w1 j r pre D M Hot Cold){M':zAJ}(g:Chg (fun k=>k=j) w1 w2)
  (o:∀d dv c,w1.heap[j]?=some (RJC r (M.number:Int) M.term d pre M.now M.vote dv c M.dead)→w2.heap[j]?=some (RJC r (M'.number:Int) M'.term d pre M'.now M'.vote dv c M'.dead))
  (s:M'.group=M.group) (p:M'.data=M.data) (q:M'.entries=M.entries) (t:M'.OK):zAq w1 j r pre Hot Cold w2 D M':=by
 obtain⟨O,own,d,dv,c,vs,v,L,f,m,l,n,i⟩:=h;exact⟨Hot,Cold,⟨O,own,d,dv,c,vs,v,L,f.set (o _ _ _ f.cells) g s p q t,m.keep g.size (fun k b=>g.block k (m.olt k b) fun e=>l j f.oj (e▸b)),l,n,i⟩,g.mono fun k _ e=>(i k).2 (.inl (e▸f.oj)),fun k b=>.inl b,fun k b=>.inl b⟩
theorem RJF.cellsD (h:RJF w1 j r pre D M Hot Cold):∃gv dv ev,w1.heap[j]?=some (RJC r (M.number:Int) M.term gv pre M.now M.vote dv ev M.dead):=let ⟨_,_,gv,dv,ev,_,_,_,hJ,_⟩:=h;⟨gv,dv,ev,hJ.cells⟩
theorem rj_die (h:RJF w1 j r pre D M Hot Cold):zAq w1 j r pre Hot Cold (w1.setCell ⟨j,9,none⟩ (.bool true)) D M.die :=
 h.set (Chg.setCell w1 ⟨j,9,none⟩ _) (fun d dv c b=>by
  have:=zAC b 9 (.bool true);simpa[zAJ.die]using this) rfl rfl rfl ⟨h.okM.last,h.okM.term,h.okM.group,h.okM.now,h.okM.vote,h.okM.data,h.okM.ents⟩
theorem zEU (h:RJF w1 j r pre D M Hot Cold){pb:Option Addr}{m cb:Nat}{l:Bs}(hl:zAb w1 (.slice pb m cb) l)(aa:l.length≤140737488355328)(H:∀k,(Value.slice pb m cb).ownBlock=some k→¬Hot k∧k<w1.heap.size) :
  Calls prog 114 #[.pointer (some ⟨j,0,none⟩),.slice pb m cb] w1 fun e w'=>e=.returned (.int .i64 ((layOn D (zAu (nm pre)) l).2:Int))∧zAq w1 j r pre Hot Cold w' (layOn D (zAu (nm pre)) l).1 (zEn M (layOn D (zAu (nm pre)) l).2):=by
 have ad:=h.psz;have I:(zCN pre).size≤9223372036854775807:=by
  unfold zCN;rw[ByteArray.size_append]
  show pre.size+4≤_
  omega
 obtain⟨N,dv,J,i⟩:=h.cellsD;have c3:w1.cell? ⟨j,3,none⟩=some (.pointer (some ⟨r,0,none⟩)):=zAG i rfl;have c4:w1.cell? ⟨j,4,none⟩=some (.string pre):=zAG i rfl;cases z:D.append (zAu (nm pre)) l with
 | mk D1 e1 =>
  have Q:=zh (fun W (hb:Below w1.heap.size w1 W)=>show Calls prog 16 #[.pointer (some ⟨r,0,none⟩),.string (zCN pre),.slice pb m cb] W fun e w'=>e=.returned (.int .i64 (e1:Int))∧zAq w1 j r pre Hot Cold w' D1 M∧w'.heap[j]?=w1.heap[j]? by
   have:=rj_disk h hb (Re:=(D1,e1)) (f:=16) (P:=prog) (args:=#[.pointer (some ⟨r,0,none⟩),.string (zCN pre),.slice pb m cb]) fun v L own X p=>by
    have E:=zET X (zCN pre) I (zAb.below hl hb) aa fun _ k hk=>fun o=>(H k hk).1 (p k o);rw[zBq,z]at E;exact E
   exact this)
  have HH:=zh h;have C:=zh (show layOn D (zAu (nm pre)) l=if e1≠0 then(D1,e1)else D1.sync [zAu (nm pre)] by unfold layOn;rw[z]);clear h z hl H;generalize layOn D (zAu (nm pre)) l=Z at *
  go_enter func114,ntmps114
  go_wp2_with fail;refine ost (fun w':World=>w'.cell? ⟨j,3,none⟩=some (.pointer (some ⟨r,0,none⟩))∧w'.cell? ⟨j,4,none⟩=some (.string pre)) 12 (⟨c3,c4⟩) fun d=>?_;refine Pl [0,1,2,3,4,5,6,7,8,9] ?_
  iterate 10 (refine Pc rfl ?_;simp only[uZ])
  refine Pn ?_;refine oon 10 rfl fun K F=>?_;go_wp2_with fail;refine(Q.o w1.drew (zAP w1)).mono ?_;rintro e w3 ⟨rfl,g,c⟩;have q:=zh g;have n:=zW (w3.cell? ⟨j,3,none⟩=some (.pointer (some ⟨r,0,none⟩))∧w3.cell? ⟨j,4,none⟩=some (.string pre)) (⟨(World.cell?_of_block (a:=⟨j,3,none⟩) c).trans c3,(World.cell?_of_block (a:=⟨j,4,none⟩) c).trans c4⟩);clear g c;go_wp2_with fail;refine F.o _ _ (n.o) fun d=>?_;clear F
  try simp only[uZ]
  refine otk 11 (v:=?v1x11) rfl ?_;simp only[uZ];refine odn ?_
  by_cases A:e1=0
  ·subst A;cases B:D1.sync [zAu (nm pre)]with
   | mk D2 e2 =>
   have y:=zW (Z=(D2,e2)) (by rw[C.o,if_neg (by simp),B]);have S:=zh (fun W (hb:Below w3.heap.size w3 W)=>show Calls prog 91 #[.pointer (some ⟨r,0,none⟩),.string (zCN pre)] W fun e w'=>e=.returned (.int .i64 (e2:Int))∧zAq w1 j r pre Hot Cold w' D2 M∧w'.heap[j]?=w3.heap[j]? by
    obtain⟨Hot1,Cold1,hF,hc,hh,Y⟩:=q.o;have:=rj_disk hF hb (Re:=(D2,e2)) (f:=91) (P:=prog) (args:=#[.pointer (some ⟨r,0,none⟩),.string (zCN pre)]) fun v L own X p=>by
     have E:=zDb X (zCN pre) I;rw[zBq,B]at E;exact E
    refine this.mono ?_;rintro e w' ⟨rfl,g,c⟩;exact⟨rfl,zAq.comp hc hh Y g,c⟩)
   clear B;go_wp2_with fail;refine ost (fun w':World=>w'.cell? ⟨j,3,none⟩=some (.pointer (some ⟨r,0,none⟩))∧w'.cell? ⟨j,4,none⟩=some (.string pre)) 11 (n.o) fun d=>?_;refine Pl [0,1,2,3,4,5,6,7,8] ?_
   iterate 9 (refine Pc rfl ?_;simp only[uZ])
   refine Pn ?_;refine oon 9 rfl fun K F=>?_;go_wp2_with fail;refine(S.o w3.drew (zAP w3)).mono ?_;rintro e O ⟨rfl,g,c⟩;have s:=zh g;have R:=zW (O.cell? ⟨j,3,none⟩=some (.pointer (some ⟨r,0,none⟩))∧O.cell? ⟨j,4,none⟩=some (.string pre)) (⟨(World.cell?_of_block (a:=⟨j,3,none⟩) c).trans n.o.1,(World.cell?_of_block (a:=⟨j,4,none⟩) c).trans n.o.2⟩);clear g c;go_wp2_with fail;refine F.o _ _ (R.o) fun d=>?_;clear F
   try simp only[uZ]
   refine otk 10 (v:=?v2x10) rfl ?_;simp only[uZ];refine odn ?_
   by_cases G:e2=0
   ·subst G;go_wp2_with fail;go_ret;exact⟨by have:=y.o;rw[this];rfl,by rw[y.o];rw[zBh];exact s.o⟩
   ·have ab:((e2:Int) != 0)=true:=by simp;omega
    obtain⟨V,T,U,b⟩:∃N dv J,O.heap[j]?=some (RJC r (M.number:Int) M.term N pre M.now M.vote dv J M.dead):=by
     obtain⟨_,_,hF,-⟩:=s.o;exact hF.cellsD
    have c9:O.cell? ⟨j,9,none⟩=some (.bool M.dead):=zAG b rfl;have f9:=zAE b 9;have t:=zh (zAq.trans s.o fun _ _ hF=>rj_die hF);clear b;go_wp2_with fail;go_ret;exact⟨by rw[y.o];rfl,by rw[y.o];rw[zBw M G];exact t.o⟩
  ·have y:=zW (Z=(D1,e1)) (by rw[C.o,if_pos A]);have ab:((e1:Int) != 0)=true:=by simp;omega
   have ac:((e1:Int)==0)=false:=by simp;omega
   obtain⟨V,T,U,b⟩:∃N dv J,w3.heap[j]?=some (RJC r (M.number:Int) M.term N pre M.now M.vote dv J M.dead):=by
    obtain⟨_,_,hF,-⟩:=q.o;exact hF.cellsD
   have c9:w3.cell? ⟨j,9,none⟩=some (.bool M.dead):=zAG b rfl;have f9:=zAE b 9;have t:=zh (zAq.trans q.o fun _ _ hF=>rj_die hF);clear b;go_wp2_with fail;go_ret;exact⟨by rw[y.o];rfl,by rw[y.o];rw[zBw M A];exact t.o⟩
end
def wh (c:Bs):zAW:=⟨c,c.length⟩
def snpL (s:Option Bs):List (Bs×zAW):=match s with
 | none=>[]
 | some b=>[(zBt [97],wh b)]
def dJ (room:Nat)(c:Bs)(s:Option Bs):zAA:=⟨room,(zAu [97],wh c)::snpL s,none⟩
section
variable {room:Nat} {c b:Bs} {s:Option Bs}
theorem dj_log:Sat.get (zAu [97]) (dJ room c s).files=some (wh c):=by cases s<;>rfl
theorem dj_shl:Sat.get (zAF (zAu [97])) (dJ room c s).files=none:=by cases s<;>rfl
theorem dj_shs:Sat.get (zAF (zBt [97])) (dJ room c s).files=none:=by cases s<;>rfl
theorem dj_snp:Sat.get (zBt [97]) (dJ room c s).files=s.map wh:=by cases s<;>rfl
theorem dj_num:(dJ room c s).files.length<4096:=by
 cases s
 ·show 1<4096
  decide
 ·show 2<4096
  decide
theorem dj_srt:Srt (dJ room c s).files:=by
 cases s with
 | none=>exact List.pairwise_singleton _ _
 | some b =>
  refine List.pairwise_cons.2 ⟨?_,List.pairwise_singleton _ _⟩;intro p d;rw[show p=(zBt [97],wh b) by simpa[snpL]using d];rfl
theorem dj_used:(dJ room c s).used=c.length+(match s with|none=>0|some b=>b.length):=by
 cases s with
 | none=>rfl
 | some b =>
  show c.length+(b.length+0)=_
  rw[Nat.add_zero]
theorem dj_ok (g:room≤1073741824)(i:(dJ room c s).used≤room):(dJ room c s).OK:=by
 refine⟨dj_srt,g,i,Nat.le_of_lt dj_num,fun p d=>?_,fun p d=>?_,fun k f=>by cases f⟩
 ·cases s with
  | none =>
   rw[show p=(zAu [97],wh c) by simpa[dJ,snpL]using d];rfl
  | some b =>
   rcases(show p=(zAu [97],wh c)∨p=(zBt [97],wh b) by simpa[dJ,snpL]using d)with rfl|rfl<;>rfl
 ·cases s with
  | none =>
   rw[show p=(zAu [97],wh c) by simpa[dJ,snpL]using d];exact Nat.le_refl _
  | some b =>
   rcases(show p=(zAu [97],wh c)∨p=(zBt [97],wh b) by simpa[dJ,snpL]using d)with rfl|rfl<;>exact Nat.le_refl _
theorem lay_dj (g:(dJ room c s).used+b.length≤room):layOn (dJ room c s) (zAu [97]) b=(dJ room (c++b) s,0):=by
 have j:(dJ room c s).may [zAu [97]]=0:=rfl;have f:(dJ room c s).full (zAu [97]) b=false:=by
  unfold zAA.full;rw[dj_log];simp only[Option.isNone_some,Bool.false_and,Bool.or_false,decide_eq_false_iff_not]
  show ¬room<_
  omega
 have i:(dJ room c s).append (zAu [97]) b=(⟨room,(zAu [97],⟨c++b,c.length⟩)::snpL s,none⟩,0):=by
  unfold zAA.append;rw[if_neg (by rw[j];simp),if_neg (by rw[f];simp)];have d:(dJ room c s).cur (zAu [97])=wh c:=by unfold zAA.cur;rw[dj_log];rfl
  rw[d];cases s<;>rfl
 unfold layOn;rw[i,if_neg (by simp)];cases s<;>rfl
theorem log_dj (f:room≤1073741824)(d:(dJ room c s).used+b.length≤room):(dJ room c s).save1 (zAu [97]) b=(dJ room b s,0):=by
 rw[put1_all (dj_ok f (by omega)) (fun j e=>by cases e) (by decide) (by decide) dj_shl d dj_num];cases s<;>rfl
theorem snp_dj (f:room≤1073741824)(d:(dJ room c s).used+b.length+12≤room):(dJ room c s).save (zBt [97]) b=(dJ room c (some (zAM b)),0):=by
 rw[save_room (by decide) (by decide),put1_all (dj_ok f (by omega)) (fun j e=>by cases e) (by decide) (by decide) dj_shs (by rw[zAl];show _≤room;omega) dj_num];cases s<;>rfl
theorem crash_dj (k:Int):(dJ room c s).crash k=dJ room c s:=by
 have d:∀x:Bs,zAA.crashF k (wh x)=wh x:=fun x=>crash_whole x k;unfold dJ zAA.crash;cases s with
 | none =>
  show(⟨room,[(zAu [97],zAA.crashF k (wh c))],none⟩:zAA)=_
  rw[d];rfl
 | some b =>
  show(⟨room,[(zAu [97],zAA.crashF k (wh c)),(zBt [97],zAA.crashF k (wh b))],none⟩:zAA)=_
  rw[d,d];rfl
end
def zDP.bytes (s:zDP):Bs:=zEd s.number s.term s.group s.data
theorem snapIs_bytes {s:zDP}(h:s.OK)(d:1≤s.number)(g:s.data.length≤524288):zC9 s.bytes=some s:=by
 have c:=zAs.1 h.term;have b:=zCZ h.group;have hn:=h.number;have f:s.bytes=zD5 s.number++(zDf s.term++(zDp s.group++(zE3 s.data++[]))):=by simp[zDP.bytes,zEd]
 rw[f];unfold zC9;dsimp only;rw[Rd.num_of (by omega)];dsimp only;rw[rd_int c.1 (by omega)];dsimp only;rw[grp_of b.1 b.2 h.group];dsimp only;rw[Rd.bytes_of (by omega)];dsimp only;rw[if_pos ⟨whole_of false,d,hn,by omega,g⟩,Int.toNat_of_nonneg c.1]
theorem snapOf_bytes {s:zDP}(h:s.OK)(c:1≤s.number)(d:s.data.length≤524288)(f:s.bytes.length≤1048576):zC5 (some (wh (zAM s.bytes)))=(0,some s):=by
 obtain⟨a,b⟩:=load_frame s.bytes f (zAM s.bytes).length;rw[show(wh (zAM s.bytes))=⟨zAM s.bytes,(zAM s.bytes).length⟩from rfl,snapOf_0 a,b,snapIs_bytes h c d]
def zEB (s:Option zDP):Option Bs:=s.map fun s=>zAM s.bytes
def SnapOK (s:Option zDP):Prop:=∀x,s=some x→x.OK∧1≤x.number∧x.data.length≤524288∧x.bytes.length≤1048576
theorem open_dj {room:Nat}{ls:List Bs}{s:Option zDP}{g:List Int}{i M:zAJ}(z:zAZ g=true)(k:∀l∈ls,l.length≤1048576)(A:SnapOK s)(y:zCa (zAJ.none0 g) ls=some i)(a:zAo s i false=some (false,M)) :
  zAV (dJ room (zAS ls) (zEB s)) [97] g=(dJ room (zAS ls) (zEB s),0,M):=by
 obtain⟨O⟩:=zF9 (dJ room (zAS ls) (zEB s)) [97] g;have j:=O.h1;have d:=O.h2;have f:=O.hs;have b:=O.hl;have n:(dJ room (zAS ls) (zEB s)).rid1 (zAF (zAu [97]))=(dJ room (zAS ls) (zEB s),0):=by unfold zAA.rid1;rw[dj_shl];rfl
 rw[n]at j;have q:dJ room (zAS ls) (zEB s)=O.D1:=congrArg Prod.fst j;have t:0=O.e1:=congrArg Prod.snd j;rw[←q]at d;have o:(dJ room (zAS ls) (zEB s)).rid1 (zAF (zBt [97]))=(dJ room (zAS ls) (zEB s),0):=by unfold zAA.rid1;rw[dj_shs];rfl
 rw[o]at d;have r:dJ room (zAS ls) (zEB s)=O.D2:=congrArg Prod.fst d;have v:0=O.e2:=congrArg Prod.snd d;rw[←r]at f b;have b3:zC5 (Sat.get (zBt [97]) (dJ room (zAS ls) (zEB s)).files)=(0,s):=by
  rw[dj_snp];cases s with
  | none=>exact snapOf_7 zFP
  | some x =>
   obtain⟨q1,q2,C,D⟩:=A x rfl;exact snapOf_bytes q1 q2 C D
 rw[b3]at f;have c:=scan_recs ls [] k (.inl rfl);rw[List.append_nil]at c;have p:zBP (dJ room (zAS ls) (zEB s)) [97] (zAJ.none0 g)=(dJ room (zAS ls) (zEB s),0,false,i):=by
  unfold zBP;rw[dj_log];dsimp only;rw[show(wh (zAS ls)).data=zAS ls from rfl,c];dsimp only;rw[y];dsimp only;have B:tornOff (dJ room (zAS ls) (zEB s)) (zAu [97]) (zAS ls).length (zAS ls).length=(dJ room (zAS ls) (zEB s),0):=by unfold tornOff;rw[if_neg (by omega)]
  rw[B]
 rw[p]at b;have m:¬((([97]:Bs).length)<1∨20<([97]:Bs).length∨zAZ g=false):=by
  rintro(h|h|h)
  ·exact absurd h (by decide)
  ·exact absurd h (by decide)
  ·rw[z]at h;cases h
 rw[oj_keep O m t.symm v.symm (by rw[←f]) (by rw[←b]) (M:=M) (by rw[←f,←b];exact a),←b]
end Go.Proofs.YtapfnehdgailmaaGreat
