/- What the program's functions and the document's do, and plain laws, for PJournalKept. -/
import Derived.Test.YtapfnehdgailmaaGreatMA
import Derived.Test.YtapfnehdgailmaaGreatMD
import Derived.Test.YtapfnehdgailmaaGreatMF
import Derived.Test.YtapfnehdgailmaaGreatMG
import Derived.Test.YtapfnehdgailmaaGreatMI
import Derived.Test.YtapfnehdgailmaaGreatMJ
import Derived.Test.YtapfnehdgailmaaGreatMK
import Derived.Test.YtapfnehdgailmaaGreatML
open Go.Proofs.Tryz
set_option maxRecDepth 100000
set_option maxHeartbeats 64000000
namespace Go.Proofs.YtapfnehdgailmaaGreat
open Go.RowKit Go.Sat Go.Maps
abbrev RowT:=TypeId×Value×Nat×List Value
structure RowS (W1 W:World)(x:RowT):Prop where
 own:OwnR W x.1 1 x.2.1 x.2.2.1 x.2.2.2
 new:∀k,x.2.1.ownBlock=some k→W1.heap.size≤k
def zCQ (W1 W:World)(a b:Option RowT):Prop:=Below W1.heap.size W1 W∧(∀x,a=some x→RowS W1 W x)∧(∀y,b=some y→RowS W1 W y)∧∀x y,a=some x→b=some y→∀k,x.2.1.ownBlock=some k→y.2.1.ownBlock≠some k
section
variable {W1 W W':World} {a b:Option RowT} {e:TypeId} {v v':Value} {n m:Nat} {xs news:List Value}
theorem zCQ.swap (h:zCQ W1 W a b):zCQ W1 W b a:=⟨h.1,h.2.2.1,h.2.1,fun x y d f k c e=>h.2.2.2 y x f d k e c⟩
theorem zCQ.own (h:zCQ W1 W (some (e,v,n,xs)) b):OwnR W e 1 v n xs:=(h.2.1 _ rfl).own
theorem zCQ.new (h:zCQ W1 W (some (e,v,n,xs)) b):∀k,v.ownBlock=some k→W1.heap.size≤k:=(h.2.1 _ rfl).new
theorem zCQ.alloc (h:zCQ W1 W none b):zCQ W1 (W.alloc (.cells #[] e)) (some (e,.slice (some ⟨W.heap.size,0,none⟩) 0 0,0,[])) b:=by
 have g:=zAC W (.cells #[] e);refine⟨h.1.trans (g.mono h.1.size),fun x f=>?_,fun y d=>⟨OwnR.keep (h.2.2.1 y d).own fun k c=>g.block k (OwnR.lt (h.2.2.1 y d).own c),(h.2.2.1 y d).new⟩,fun x y f d k c i=>?_⟩
 ·cases f;refine⟨zBH W e,fun k c=>?_⟩;have:=Option.some.inj c;have:=h.1.size;dsimp only at *;omega
 ·cases f;have l:=OwnR.lt (h.2.2.1 y d).own i;have j:=Option.some.inj c;dsimp only at j;omega
theorem zCQ.app (h:zCQ W1 W (some (e,v,n,xs)) b)(l:OwnR W' e 1 v' (n+m) (xs++news))(s:W.grownBy W' v.ownBlock)(r:v'.ownBlock=v.ownBlock∨∃g,v'.ownBlock=some g∧W.heap.size≤g) :
  zCQ W1 W' (some (e,v',n+m,xs++news)) b:=by
 have q:=Chg.of_grown s;refine⟨h.1.trans (q.below h.1.size fun k c i=>by have:=h.new k i.symm;omega),fun x o=>?_,fun y f=>⟨OwnR.keep (h.2.2.1 y f).own fun k c=>q.block k (OwnR.lt (h.2.2.1 y f).own c) fun i=>h.2.2.2 _ y rfl f k i.symm c,(h.2.2.1 y f).new⟩,fun x y o f k c i=>?_⟩
 ·cases o;refine⟨l,fun k c=>?_⟩;rcases r with d|⟨g,d,j⟩
  ·exact h.new k (d▸c)
  ·rw[d]at c;cases c;exact Nat.le_trans h.1.size j
 ·cases o;rcases r with d|⟨g,d,j⟩
  ·exact h.2.2.2 _ y rfl f k (d▸c) i
  ·have p:v'.ownBlock=some k:=c;rw[d]at p;cases p;have:=OwnR.lt (h.2.2.1 y f).own i;omega
end
def OwnTold (w:World)(e:Ent)(r:Ending)(w':World):Prop:=∃v:EV,r=.returned (zDx e v)∧zDg w' e v∧(∀k,(v.1.ownBlock=some k∨v.2.ownBlock=some k)→w.heap.size≤k)∧Below w.heap.size w w'
abbrev zEn (t k:Int)(v u:Value):Obj:=.cells #[.int .i64 t,.int .i64 k,v,u] 50 (0,0)
theorem zBB {W:World}{b:Nat}{t k:Int}{u v:Value}(h:W.heap[b]?=some (zEn t k u v)):W.cell? ⟨b,0,none⟩=some (.int .i64 t)∧W.cell? ⟨b,1,none⟩=some (.int .i64 k)∧W.cell? ⟨b,2,none⟩=some u∧W.cell? ⟨b,3,none⟩=some v :=
 ⟨zAG h rfl,zAG h rfl,zAG h rfl,zAG h rfl⟩
theorem own_fin {w W1 W:World}{c d:Value}{i:Bs}{j:List Int}{t k:Int}{n n2:Nat}{O:Obj}(o:W.heap[w.heap.size+1]?=some (zEn 0 0 (.slice none 0 0) (.slice none 0 0)))(h:zCQ W1 W (some (5,c,n,zAQ i)) (some (3,d,n2,intsV j)))(q:w.heap.size+2≤W1.heap.size∧n=i.length∧n2=j.length)(m:Below w.heap.size w W1)(l:W.heap[w.heap.size]?=some O) :
  ((((W.setCell ⟨w.heap.size+1,0,none⟩ (.int .i64 t)).setCell ⟨w.heap.size+1,1,none⟩ (.int .i64 k)).setCell ⟨w.heap.size+1,2,none⟩ c).setCell ⟨w.heap.size+1,3,none⟩ d).heap[w.heap.size]?=some O ∧
  ((((W.setCell ⟨w.heap.size+1,0,none⟩ (.int .i64 t)).setCell ⟨w.heap.size+1,1,none⟩ (.int .i64 k)).setCell ⟨w.heap.size+1,2,none⟩ c).setCell ⟨w.heap.size+1,3,none⟩ d).heap[w.heap.size+1]?=some (zEn t k c d) ∧
  OwnTold w ⟨t,k,i,j⟩ (.returned (.agg #[.int .i64 t,.int .i64 k,c,d])) ((((W.setCell ⟨w.heap.size+1,0,none⟩ (.int .i64 t)).setCell ⟨w.heap.size+1,1,none⟩ (.int .i64 k)).setCell ⟨w.heap.size+1,2,none⟩ c).setCell ⟨w.heap.size+1,3,none⟩ d):=by
 have g:Chg (fun x=>x=w.heap.size+1) W ((((W.setCell ⟨w.heap.size+1,0,none⟩ (.int .i64 t)).setCell ⟨w.heap.size+1,1,none⟩ (.int .i64 k)).setCell ⟨w.heap.size+1,2,none⟩ c).setCell ⟨w.heap.size+1,3,none⟩ d):=(((Chg.setCell W ⟨w.heap.size+1,0,none⟩ _).trans (Chg.setCell _ ⟨w.heap.size+1,1,none⟩ _) fun _ _ e=>e).trans (Chg.setCell _ ⟨w.heap.size+1,2,none⟩ _) fun _ _ e=>e).trans (Chg.setCell _ ⟨w.heap.size+1,3,none⟩ _) fun _ _ e=>e;obtain⟨v,rfl,rfl⟩:=q;have p:=h.1.size;have f:=m.size;refine⟨(g.block _ (zAB l) (by omega)).trans l,?_,(c,d),rfl,⟨OwnR.keep h.own fun x b=>g.block x (OwnR.lt h.own b) fun e=>?_,OwnR.keep h.swap.own fun x b=>g.block x (OwnR.lt h.swap.own b) fun e=>?_⟩,fun x b=>?_,?_⟩
 ·have q1:=zAD o 0 (.int .i64 t);have q2:=zAD q1 1 (.int .i64 k);have r:=zAD q2 2 c;have s:=zAD r 3 d;simpa using s
 ·have:=h.new x b;omega
 ·have:=h.swap.new x b;omega
 ·rcases b with b|b
  ·have:=h.new x b;omega
  ·have:=h.swap.new x b;omega
 ·exact(m.trans (h.1.mono f)).trans (g.below (Nat.le_trans f p) fun x b e=>by omega)
theorem rown_calls {w:World}{e:Ent}{v:EV}(h:zBS w e v)(hd:e.data.length≤1000000000)(hn:e.nodes.length≤1000000000) :
  Calls prog 115 #[zDx e v] w (OwnTold w e):=by
 obtain⟨i0,hi,ad,ae,af⟩:=info_parts (show(prog.info? 5).map (fun i=>(i.zero,i.size,i.bytes))=some (some (.int .u8 0),1,1) by kernel_rfl);obtain⟨i1,ac,V,X,Y⟩:=info_parts (show(prog.info? 3).map (fun i=>(i.zero,i.size,i.bytes))=some (some (.int .i64 0),1,8) by kernel_rfl);obtain⟨t,k,N,J⟩:=e;obtain⟨v1,v2⟩:=v;obtain⟨B,A,e1⟩:=h.data.slice;obtain⟨s,r,e2⟩:=h.nodes.slice;have e1:v1=.slice B N.length A:=e1;have e2:v2=.slice s J.length r:=e2;subst e1;subst e2;dsimp only at hd hn;have Hh:=zh h;clear h;unfold zDx;dsimp only;have aa:((w.alloc (zEn t k (.slice B N.length A) (.slice s J.length r))).alloc (zEn 0 0 (.slice none 0 0) (.slice none 0 0))).heap[w.heap.size]?=some (zEn t k (.slice B N.length A) (.slice s J.length r)):=zBA _ (zAJ w _);have ab:((w.alloc (zEn t k (.slice B N.length A) (.slice s J.length r))).alloc (zEn 0 0 (.slice none 0 0) (.slice none 0 0))).heap[w.heap.size+1]?=some (zEn 0 0 (.slice none 0 0) (.slice none 0 0)):=by
  have:=zAJ (w.alloc (zEn t k (.slice B N.length A) (.slice s J.length r))) (zEn 0 0 (.slice none 0 0) (.slice none 0 0));simpa using this
 have ak:((w.alloc (zEn t k (.slice B N.length A) (.slice s J.length r))).alloc (zEn 0 0 (.slice none 0 0) (.slice none 0 0))).heap.size=w.heap.size+2:=by simp
 have hb:Below w.heap.size w ((w.alloc (zEn t k (.slice B N.length A) (.slice s J.length r))).alloc (zEn 0 0 (.slice none 0 0) (.slice none 0 0))):=(zAC w _).alloc (by simp) _;generalize ai:N.length=G at *;generalize aj:J.length=n2 at *;have ag:=zh ai;have ah:=zh aj;clear ai aj
 go_enter func115,ntmps115
 go_wp2_with fail;have I:Below w.heap.size w (((w.alloc (zEn t k (.slice B G A) (.slice s n2 r))).alloc (zEn 0 0 (.slice none 0 0) (.slice none 0 0))).drew):=hb.trans ⟨rfl,rfl,rfl,Nat.le_refl _,fun _ _=>rfl⟩;generalize (w.alloc (zEn t k (.slice B G A) (.slice s n2 r))).alloc (zEn 0 0 (.slice none 0 0) (.slice none 0 0))=W at *;have T:=zW (∀W',Below W.drew.heap.size W.drew W'→W'.heap[w.heap.size+1]?=some (zEn 0 0 (.slice none 0 0) (.slice none 0 0))) fun W' U=>(U.block _ (zAB ab)).trans ab;have Hb:=zh I;have Hd:=zW (∀W',Below W.drew.heap.size W.drew W'→zAM W' 1 (.slice B G A) G (zAQ N)) (fun W' U=>by
  have H:=zAY.below Hh.o.data (I.trans (U.mono I.size));have H:zAM W' 1 (.slice B G A) N.length (zAQ N):=H;rwa[ag.o]at H)
 have Hn:=zW (∀W',Below W.drew.heap.size W.drew W'→zAM W' 1 (.slice s n2 r) n2 (intsV J)) (fun W' U=>by
  have H:zBg W' (.slice s n2 r) J:=zAM.chg Hh.o.nodes (Chg.of_below (I.trans (U.mono I.size))) fun _ _=>id;have H:zAM W' 1 (.slice s n2 r) J.length (intsV J):=H;rwa[ah.o]at H)
 have m:=zW (w.heap.size+2≤W.drew.heap.size∧G=N.length∧n2=J.length) (⟨Nat.le_of_eq ak.symm,ag.o.symm,ah.o.symm⟩);have T1:=zW (zCQ W.drew W.drew none none) (⟨Below.refl _ _,fun x hx=>(by cases hx),fun x hx=>(by cases hx),fun x y hx=>(by cases hx)⟩);have H1:=zW (W.drew.heap[w.heap.size]?=some (zEn t k (.slice B G A) (.slice s n2 r))) aa;have hA:=aa;clear hb I ab aa ak;refine ost (fun w':World=>w'.cell? ⟨w.heap.size,0,none⟩=some (.int .i64 t)∧w'.cell? ⟨w.heap.size,1,none⟩=some (.int .i64 k)∧w'.cell? ⟨w.heap.size,2,none⟩=some (.slice B G A)∧w'.cell? ⟨w.heap.size,3,none⟩=some (.slice s n2 r)) 14 (zBB hA) fun c=>?_;generalize W.drew=W1 at *;refine Pl [0,1,2,3,5,6,9,10] ?_
 iterate 8 (refine Pc rfl ?_;simp only[uZ])
 refine Pn ?_;refine zDB 4 8 rfl rfl (by kernel_rfl) (by rfl) (by rfl) (fun K g=>?_) (fun K g=>?_)
 ·have M:=zh (T1.out.alloc (e:=5));have L:=zh (((zAC W1 (.cells #[] 5)).block w.heap.size (zAB H1.o)).trans H1.o);obtain⟨gA,C⟩:∃gA,gA=W1.heap.size:=⟨_,rfl⟩;rw[←C]at M;go_wp2_with fail
  try rw[←C]
  refine g.o _ _ (zBB L.o) fun c=>?_;clear g
  try simp only[uZ]
  generalize W1.alloc (.cells #[] 5)=W2 at *;clear C;refine zDB 7 8 rfl rfl (by kernel_rfl) (by rfl) (by rfl) (fun K g=>?_) (fun K g=>?_)
  focus
   have al:=zh (M.out.own);have am:=zh (Hd.o _ M.out.1);refine zAq (.tmp 7) (.tmp 9) 22 rfl 5 i0 (.int .u8 0) 1 1 underlying22 hi ad ae af rfl (by decide) (.slice (some ⟨gA,0,none⟩) 0 0) 0 [] rfl al.o (.slice B G A) G _ rfl am.o (zAO _) (by unfold maxLen;omega) (by omega) ?_;intro vA W3 f b d;have a:=zh (M.out.app f b d);have D:=zh (((Chg.of_grown b).block w.heap.size (zAB L.o) (fun e=>by have H:=M.out.new _ e.symm;have:=m.o.1;omega)).trans L.o);clear f b d;go_wp2_with fail;refine g.o _ _ (zBB D.o) fun c=>?_;clear g;try simp only[uZ]
   clear M L;refine oon 8 rfl fun K g=>?_;have n:=zh ((a.out.swap.alloc (e:=3)).swap);have E:=zh (((zAC W3 (.cells #[] 3)).block w.heap.size (zAB D.o)).trans D.o);obtain⟨S,l⟩:∃S,S=W3.heap.size:=⟨_,rfl⟩;rw[←l]at n;go_wp2_with fail;try rw[←l]
   refine g.o _ _ (zBB E.o) fun c=>?_;clear g;try simp only[uZ]
   generalize W3.alloc (.cells #[] 3)=W4 at *;clear l D a;refine oon 11 rfl fun K g=>?_;have p:=zh (n.out.swap.own);have q:=zh (Hn.o _ n.out.1);refine zAq (.tmp 11) (.tmp 13) 38 rfl 3 i1 (.int .i64 0) 1 8 underlying38 ac V X Y rfl (by decide) (.slice (some ⟨S,0,none⟩) 0 0) 0 [] rfl p.o (.slice s n2 r) n2 _ rfl q.o (fun u hu=>by obtain⟨z,-,rfl⟩:=List.mem_map.1 hu;rfl) (by unfold maxLen;omega) (by omega) ?_;intro vB W5 f b d;have F:=zh ((n.out.swap.app f b d).swap);have Z:=zh (((Chg.of_grown b).block w.heap.size (zAB E.o) (fun e=>by have H:=n.out.swap.new _ e.symm;have:=m.o.1;omega)).trans E.o);clear f b d;go_wp2_with fail;refine g.o _ _ (zBB Z.o) fun c=>?_;clear g;try simp only[uZ]
   clear p q n E;obtain⟨pA,cA,eA⟩:=OwnR.shape F.out.own;obtain⟨pB,cB,eB⟩:=OwnR.shape F.out.swap.own;rw[Nat.zero_add]at eA eB;subst eA;subst eB;refine otk 12 (v:=?v150x12) rfl ?_
  rotate_left
  focus
   have a:=zh ((M.out.swap.alloc (e:=3)).swap);have D:=zh (((zAC W2 (.cells #[] 3)).block w.heap.size (zAB L.o)).trans L.o);obtain⟨S,l⟩:∃S,S=W2.heap.size:=⟨_,rfl⟩;rw[←l]at a;go_wp2_with fail;try rw[←l]
   refine g.o _ _ (zBB D.o) fun c=>?_;clear g;try simp only[uZ]
   generalize W2.alloc (.cells #[] 3)=W3 at *;clear l L M;refine oon 7 rfl fun K g=>?_;have P:=zh (a.out.own);have Q:=zh (Hd.o _ a.out.1);refine zAq (.tmp 7) (.tmp 9) 22 rfl 5 i0 (.int .u8 0) 1 1 underlying22 hi ad ae af rfl (by decide) (.slice (some ⟨gA,0,none⟩) 0 0) 0 [] rfl P.o (.slice B G A) G _ rfl Q.o (zAO _) (by unfold maxLen;omega) (by omega) ?_;intro vA W4 f b d;have n:=zh (a.out.app f b d);have E:=zh (((Chg.of_grown b).block w.heap.size (zAB D.o) (fun e=>by have H:=a.out.new _ e.symm;have:=m.o.1;omega)).trans D.o);clear f b d;go_wp2_with fail;refine g.o _ _ (zBB E.o) fun c=>?_;clear g;try simp only[uZ]
   clear P Q a D;refine oon 11 rfl fun K g=>?_;have p:=zh (n.out.swap.own);have q:=zh (Hn.o _ n.out.1);refine zAq (.tmp 11) (.tmp 13) 38 rfl 3 i1 (.int .i64 0) 1 8 underlying38 ac V X Y rfl (by decide) (.slice (some ⟨S,0,none⟩) 0 0) 0 [] rfl p.o (.slice s n2 r) n2 _ rfl q.o (fun u hu=>by obtain⟨z,-,rfl⟩:=List.mem_map.1 hu;rfl) (by unfold maxLen;omega) (by omega) ?_;intro vB W5 f b d;have F:=zh ((n.out.swap.app f b d).swap);have Z:=zh (((Chg.of_grown b).block w.heap.size (zAB E.o) (fun e=>by have H:=n.out.swap.new _ e.symm;have:=m.o.1;omega)).trans E.o);clear f b d;go_wp2_with fail;refine g.o _ _ (zBB Z.o) fun c=>?_;clear g;try simp only[uZ]
   clear p q n E;obtain⟨pA,cA,eA⟩:=OwnR.shape F.out.own;obtain⟨pB,cB,eB⟩:=OwnR.shape F.out.swap.own;rw[Nat.zero_add]at eA eB;subst eA;subst eB;refine otk 12 (v:=?v151x12) rfl ?_
  all_goals
   simp only[uZ];refine oon 13 rfl fun K g=>?_;have j:=T.o _ F.out.1;have r0:=zAd j;have r1:=zAn j;have r2:=zAo j;have r3:=zBI j;have rf:=fun i=>zAE j i;have R:=F.out;simp only[Nat.zero_add,List.nil_append]at R;have O:=zh (own_fin j R m.o Hb.o Z.o (t:=t) (k:=k));clear j R;go_wp2_with fail;refine g.o _ _ (zBB O.o.1) fun c=>?_;clear g;try simp only[uZ]
   refine odn ?_;go_wp2_with fail;(try simp only[Exit.inBlock,Exit.then]);refine bodyPost_ret (results_cell_row rfl _ _ (w.heap.size+1) _ _ (0,0) _ rfl O.o.2.1 underlying50 rfl (by kernel_rfl)) rfl ?_;exact O.o.2.2
 ·have M:=zh ((T1.out.swap.alloc (e:=3)).swap);have L:=zh (((zAC W1 (.cells #[] 3)).block w.heap.size (zAB H1.o)).trans H1.o);obtain⟨S,l⟩:∃S,S=W1.heap.size:=⟨_,rfl⟩;rw[←l]at M;go_wp2_with fail
  try rw[←l]
  refine g.o _ _ (zBB L.o) fun c=>?_;clear g
  try simp only[uZ]
  generalize W1.alloc (.cells #[] 3)=W2 at *;clear l;refine oon 4 rfl fun K g=>?_;have a:=zh (M.out.alloc (e:=5));have D:=zh (((zAC W2 (.cells #[] 5)).block w.heap.size (zAB L.o)).trans L.o);obtain⟨gA,C⟩:∃gA,gA=W2.heap.size:=⟨_,rfl⟩;rw[←C]at a;go_wp2_with fail
  try rw[←C]
  refine g.o _ _ (zBB D.o) fun c=>?_;clear g
  try simp only[uZ]
  generalize W2.alloc (.cells #[] 5)=W3 at *;clear C L M;refine oon 7 rfl fun K g=>?_;have P:=zh (a.out.own);have Q:=zh (Hd.o _ a.out.1);refine zAq (.tmp 7) (.tmp 9) 22 rfl 5 i0 (.int .u8 0) 1 1 underlying22 hi ad ae af rfl (by decide) (.slice (some ⟨gA,0,none⟩) 0 0) 0 [] rfl P.o (.slice B G A) G _ rfl Q.o (zAO _) (by unfold maxLen;omega) (by omega) ?_;intro vA W4 f b d;have n:=zh (a.out.app f b d);have E:=zh (((Chg.of_grown b).block w.heap.size (zAB D.o) (fun e=>by have H:=a.out.new _ e.symm;have:=m.o.1;omega)).trans D.o);clear f b d;go_wp2_with fail;refine g.o _ _ (zBB E.o) fun c=>?_;clear g
  try simp only[uZ]
  clear P Q a D;refine oon 11 rfl fun K g=>?_;have p:=zh (n.out.swap.own);have q:=zh (Hn.o _ n.out.1);refine zAq (.tmp 11) (.tmp 13) 38 rfl 3 i1 (.int .i64 0) 1 8 underlying38 ac V X Y rfl (by decide) (.slice (some ⟨S,0,none⟩) 0 0) 0 [] rfl p.o (.slice s n2 r) n2 _ rfl q.o (fun u hu=>by obtain⟨z,-,rfl⟩:=List.mem_map.1 hu;rfl) (by unfold maxLen;omega) (by omega) ?_;intro vB W5 f b d;have F:=zh ((n.out.swap.app f b d).swap);have Z:=zh (((Chg.of_grown b).block w.heap.size (zAB E.o) (fun e=>by have H:=n.out.swap.new _ e.symm;have:=m.o.1;omega)).trans E.o);clear f b d;go_wp2_with fail;refine g.o _ _ (zBB Z.o) fun c=>?_;clear g
  try simp only[uZ]
  clear p q n E;obtain⟨pA,cA,eA⟩:=OwnR.shape F.out.own;obtain⟨pB,cB,eB⟩:=OwnR.shape F.out.swap.own;rw[Nat.zero_add]at eA eB;subst eA;subst eB;refine otk 12 (v:=?v152x12) rfl ?_;simp only[uZ];refine oon 13 rfl fun K g=>?_;have j:=T.o _ F.out.1;have r0:=zAd j;have r1:=zAn j;have r2:=zAo j;have r3:=zBI j;have rf:=fun i=>zAE j i;have R:=F.out;simp only[Nat.zero_add,List.nil_append]at R;have O:=zh (own_fin j R m.o Hb.o Z.o (t:=t) (k:=k));clear j R;go_wp2_with fail;refine g.o _ _ (zBB O.o.1) fun c=>?_;clear g
  try simp only[uZ]
  refine odn ?_;go_wp2_with fail
  (try simp only[Exit.inBlock,Exit.then])
  refine bodyPost_ret (results_cell_row rfl _ _ (w.heap.size+1) _ _ (0,0) _ rfl O.o.2.1 underlying50 rfl (by kernel_rfl)) rfl ?_;exact O.o.2.2
theorem rbytes_le (R:Rd):R.bytes.1.length≤R.rest.length:=by
 have h:=zDZ 1 R;rw[show(Rd.ints 1 R).2=R.num.2 from rfl]at h;rw[show R.bytes=R.num.2.raw R.num.1 from rfl];unfold Rd.raw
 split
 ·simp only[List.length_take];omega
 ·exact Nat.zero_le _
theorem set4_block {W:World}{b:Nat}{j k l m:Value}{e:TypeId}{i:Nat×Nat}(h:W.heap[b]?=some (.cells #[j,k,l,m] e i))(c d f g:Value) :
  ((((W.setCell ⟨b,0,none⟩ c).setCell ⟨b,1,none⟩ d).setCell ⟨b,2,none⟩ f).setCell ⟨b,3,none⟩ g).heap[b]?=some (.cells #[c,d,f,g] e i):=by
 have q1:=zAD h 0 c;have q2:=zAD q1 1 d;have n:=zAD q2 2 f;have o:=zAD n 3 g;simpa using o
theorem set4_chg (W:World)(b:Nat)(c d f g:Value):Chg (fun k=>k=b) W ((((W.setCell ⟨b,0,none⟩ c).setCell ⟨b,1,none⟩ d).setCell ⟨b,2,none⟩ f).setCell ⟨b,3,none⟩ g) :=
 (((Chg.setCell W ⟨b,0,none⟩ c).trans (Chg.setCell _ ⟨b,1,none⟩ d) fun _ _ e=>e).trans (Chg.setCell _ ⟨b,2,none⟩ f) fun _ _ e=>e).trans (Chg.setCell _ ⟨b,3,none⟩ g) fun _ _ e=>e
def REntTold (A:Nat→Prop)(w:World)(r:Nat)(R:Rd)(x:Ending)(w':World):Prop :=
 ∃(e:Ent) (v:EV) (R':Rd),x=.returned (zDx e v)∧REntR R e R'∧zBS w' e v∧(∀k,(v.1.ownBlock=some k∨v.2.ownBlock=some k)→w.heap.size≤k∧k<w'.heap.size)∧RdY A w' r R'∧Chg (fun k=>k=r) w w'
theorem rent_fin {A:Nat→Prop}{w W:World}{r:Nat}{R g:Rd}{e:Ent}{v:EV}(d:Chg (fun k=>k=r) w W)(t:r<w.heap.size)(q:∀k,A k→k<w.heap.size∧k≠r)(j:RdY A W r g)(f:zBS W e v)(hn:∀k,(v.1.ownBlock=some k∨v.2.ownBlock=some k)→w.heap.size<k∧k<W.heap.size)(s:REntR R e g)(m n o p:Value) :
  REntTold A w r R (.returned (zDx e v)) ((((W.setCell ⟨w.heap.size,0,none⟩ m).setCell ⟨w.heap.size,1,none⟩ n).setCell ⟨w.heap.size,2,none⟩ o).setCell ⟨w.heap.size,3,none⟩ p):=by
 have c:=set4_chg W w.heap.size m n o p;have l:=c.size;refine⟨e,v,g,rfl,s,⟨zAY.chg f.data c fun k b e=>?_,zAM.chg f.nodes c fun k b e=>?_,f.dl,f.nl⟩,fun k b=>⟨Nat.le_of_lt (hn k b).1,Nat.lt_of_lt_of_le (hn k b).2 l⟩,j.chg c (fun e=>by omega) (fun k b e=>by have:=(q k b).1;omega),?_⟩
 ·have:=(hn k (.inl b)).1;omega
 ·have:=(hn k (.inr b)).1;omega
 ·exact⟨c.os.trans d.os,c.tape.trans d.tape,c.output.trans d.output,Nat.le_trans d.size c.size,fun k b i=>(c.block k (Nat.lt_of_lt_of_le b d.size) (by omega)).trans (d.block k b i)⟩
theorem rrdent_calls {w:World}{r:Nat}{R:Rd}{A:Nat→Prop}(h:RdY A w r R)(hA:∀k,A k→k<w.heap.size∧k≠r)(hl:R.rest.length≤1073741824) :
  Calls prog 166 #[.pointer (some ⟨r,0,none⟩)] w (REntTold A w r R):=by
 have Y:=h.lt;have W:=zAC w (.cells #[.int .i64 0,.int .i64 0,.slice none 0 0,.slice none 0 0] 50);have aI:=zh (zAJ w (.cells #[.int .i64 0,.int .i64 0,.slice none 0 0,.slice none 0 0] 50));have aO:(w.alloc (.cells #[.int .i64 0,.int .i64 0,.slice none 0 0,.slice none 0 0] 50)).heap.size=w.heap.size+1:=by simp
 have aG:=zh (zBE (h.below W));have Z:=zh hA;have av:=zh W;have Hl:=zW (R.num.2.num.2.bytes.1.length≤1073741824) (Nat.le_trans (rbytes_le _) (Nat.le_trans (zDZ 2 R) hl));have aQ:=Rd.num_le R;have aR:=Rd.num_le R.num.2;have aA:=zW (∀l z e N,RLst R.num.2.num.2.bytes.2 l z→e=⟨(R.num.1:Int),(R.num.2.num.1:Int),R.num.2.num.2.bytes.1,l⟩→N=(if z.bad=false∧zAt e=false then Rd.fail else z)→REntR R e N) fun l z e N a b c=>⟨l,z,a,b,c⟩;clear h hA hl W
 go_enter func166,ntmps166
 go_wp2_with fail;generalize aJ:w.alloc (.cells #[.int .i64 0,.int .i64 0,.slice none 0 0,.slice none 0 0] 50)=W0 at *;clear aJ;refine aG.o.mono ?_;rintro e w1 ⟨rfl,aj,af⟩;have aH:=zh (zBE aj);have aE:=zh af;clear aj af;go_wp2_with fail;refine aH.o.mono ?_;rintro e w2 ⟨rfl,ak,ag⟩;have aD:=zh (zGa ak);have ab:=zh (aE.o.trans ag fun _ _ e=>e);clear ak ag;go_wp2_with fail;refine aD.o.mono ?_;rintro e w3 ⟨vd,rfl,ao,O,al,ah⟩;have aM:=ab.o.size;have ac:=zh (ab.o.trans ah fun _ _ e=>e);have aN:=ac.o.size;have aF:=zh (rlst_calls al fun k g=>⟨by have:=(Z.o k g).1;omega,(Z.o k g).2⟩);have H:=zh (And.intro ao (show ∀k,vd.ownBlock=some k→w.heap.size<k from fun k g=>by have:=O k g;omega));clear ao O al ah;go_wp2_with fail;refine aF.o.mono ?_;rintro e L ⟨vl,l,z,rfl,ae,J,P,Q,aL,am,X⟩;have U:=zh (ac.o.trans X fun _ _ e=>e);have I:=OwnR.keep H.o.1 fun k g=>X.block k (OwnR.lt H.o.1 g) fun e=>by have:=H.o.2 k g;omega
 have aB:=zh (And.intro J (show ∀k,vl.ownBlock=some k→w.heap.size<k from fun k g=>by have:=P k g;omega));have ay:=zW (zBS L ⟨(R.num.1:Int),(R.num.2.num.1:Int),R.num.2.num.2.bytes.1,l⟩ (vd,vl)) (⟨zAk.has I,zCp.has J,Nat.le_trans Hl.o (by decide),Nat.le_trans Q (by decide)⟩);have K:=zW (∀k,(vd.ownBlock=some k∨vl.ownBlock=some k)→w.heap.size<k∧k<L.heap.size) fun k g=>g.elim (fun h=>⟨H.o.2 k h,OwnR.lt I h⟩) fun h=>⟨aB.o.2 k h,OwnR.lt J h⟩;have G:=zh (fun N (hR':N=if z.bad=false∧zAt ⟨(R.num.1:Int),(R.num.2.num.1:Int),R.num.2.num.2.bytes.1,l⟩=false then Rd.fail else z)=>aA.o l z ⟨(R.num.1:Int),(R.num.2.num.1:Int),R.num.2.num.2.bytes.1,l⟩ N ae rfl hR');obtain⟨pd,cd,rfl,-⟩:=zAN H.o.1;obtain⟨F,B,rfl,-⟩:=zAw J;have az:=zh am;have ad:=zh ((U.o.block w.heap.size (by omega) (by omega)).trans aI.o);have aS:=U.o.size;clear I J P Q aL am X ae aM aN;generalize R.num.2.num.2.bytes.1=bd at *;generalize O:bd.length=D at *;generalize P:l.length=E at *;clear O P;generalize R.num.1=t at *;generalize R.num.2.num.1=kd at *;have y:=zh (zAC L (.cells #[.int .i64 (t:Int),.int .i64 (kd:Int),.slice pd D cd,.slice F E B] 50));have p:=zh (zAJ L (.cells #[.int .i64 (t:Int),.int .i64 (kd:Int),.slice pd D cd,.slice F E B] 50));have M:=zh (az.o.below y.o);have n:=zh ((y.o.block w.heap.size (zAB ad.o)).trans ad.o);have i:=zh (ay.o.below y.o);have ax:=zh (U.o.trans ((Chg.of_below y.o).mono (T:=fun k=>k=r) fun _ _ e=>e.elim) fun _ _ e=>e);have s:=zW (Chg (fun k=>k=r) w (L.alloc (.cells #[.int .i64 (t:Int),.int .i64 (kd:Int),.slice pd D cd,.slice F E B] 50))) (((Chg.of_below av.o).mono (T:=fun k=>k=r) fun _ _ e=>e.elim).trans ax.o fun _ _ e=>e);have j:=zW (∀k,((Value.slice pd D cd).ownBlock=some k∨(Value.slice F E B).ownBlock=some k)→w.heap.size<k∧k<(L.alloc (.cells #[.int .i64 (t:Int),.int .i64 (kd:Int),.slice pd D cd,.slice F E B] 50)).heap.size) fun k g=>⟨(K.o k g).1,Nat.lt_of_lt_of_le (K.o k g).2 y.o.size⟩;have c1:=M.o.c1;have ap:=zAd p.o;have aq:=zAn p.o;have ar:=zAo p.o;have au:=zBI p.o;cases V:z.bad with
 | true =>
  rw[V]at c1;have HF:=zh (rent_fin s.o Y Z.o M.o i.o j.o (G.o z (by rw[V];rfl)) (.int .i64 (t:Int)) (.int .i64 (kd:Int)) (.slice pd D cd) (.slice F E B));have HZ:=zh (set4_block n.o (.int .i64 (t:Int)) (.int .i64 (kd:Int)) (.slice pd D cd) (.slice F E B));have r0:=zAd n.o;have r1:=zAn n.o;have r2:=zAo n.o;have r3:=zBI n.o;have fr:=zAE n.o;clear V;go_wp2_with fail
  (try simp only[Exit.inBlock,Exit.then])
  refine bodyPost_ret (results_cell_row rfl _ _ w.heap.size _ _ (0,0) _ rfl HZ.o underlying50 rfl (by kernel_rfl)) rfl ?_;exact HF.o
 | false =>
  rw[V]at c1;have Hb:=zh V;have v:=zh (ris_calls i.o);unfold zDx at v;dsimp only at v;have G:=zh (fun N (hR':N=if zAt ⟨(t:Int),(kd:Int),bd,l⟩=false then Rd.fail else z)=>G.o N (by rw[hR',V];simp));clear V;cases C:zAt ⟨(t:Int),(kd:Int),bd,l⟩with
  | true =>
   rw[C]at v;have S:=zh (G.o z (by rw[C];rfl));clear C;go_wp2_with fail;generalize L.heap.size=bE at *;generalize L.alloc (.cells #[.int .i64 (t:Int),.int .i64 (kd:Int),.slice pd D cd,.slice F E B] 50)=W5 at *;refine v.o.mono ?_;rintro e w6 ⟨rfl,f⟩;have aa:=M.o.below f;have d:=zh ((f.block w.heap.size (zAB n.o)).trans n.o);have m:=(f.block bE (zAB p.o)).trans p.o;have HF:=zh (rent_fin (s.o.trans ((Chg.of_below f).mono (T:=fun k=>k=r) fun _ _ e=>e.elim) fun _ _ e=>e) Y Z.o aa (i.o.below f) (fun k g=>⟨(j.o k g).1,Nat.lt_of_lt_of_le (j.o k g).2 f.size⟩) S.o (.int .i64 (t:Int)) (.int .i64 (kd:Int)) (.slice pd D cd) (.slice F E B));have HZ:=zh (set4_block d.o (.int .i64 (t:Int)) (.int .i64 (kd:Int)) (.slice pd D cd) (.slice F E B));have r0:=zAd d.o;have r1:=zAn d.o;have r2:=zAo d.o;have r3:=zBI d.o;have fr:=zAE d.o;have u0:=zAd m;have u1:=zAn m;have u2:=zAo m;have u3:=zBI m;clear f aa m ap aq ar au c1;go_wp2_with fail
   (try simp only[Exit.inBlock,Exit.then])
   refine bodyPost_ret (results_cell_row rfl _ _ w.heap.size _ _ (0,0) _ rfl HZ.o underlying50 rfl (by kernel_rfl)) rfl ?_;exact HF.o
  | false =>
   rw[C]at v;have S:=zh (G.o Rd.fail (by rw[C];rfl));clear C;go_wp2_with fail;generalize L.heap.size=bE at *;generalize L.alloc (.cells #[.int .i64 (t:Int),.int .i64 (kd:Int),.slice pd D cd,.slice F E B] 50)=W5 at *;refine v.o.mono ?_;rintro e w6 ⟨rfl,f⟩;have aw:=zh f;have aC:=zh (zEc (M.o.below f));have aP:=zh (s.o.trans ((Chg.of_below f).mono (T:=fun k=>k=r) fun _ _ e=>e.elim) fun _ _ e=>e);clear f ap aq ar au c1;go_wp2_with fail;refine aC.o.mono ?_;rintro e w7 ⟨rfl,an,ai⟩;have q:Chg (fun k=>k=r) W5 w7:=((Chg.of_below aw.o).mono (T:=fun k=>k=r) fun _ _ e=>e.elim).trans ai fun _ _ e=>e;have d:=zh ((q.block w.heap.size (zAB n.o) (by omega)).trans n.o);have aK:bE≠r:=fun e=>by have:=y.o.size;omega
   have m:=(q.block bE (zAB p.o) aK).trans p.o;have HF:=zh (rent_fin (s.o.trans q fun _ _ e=>e) Y Z.o an ⟨zAY.chg i.o.data q fun k g e=>by have:=(j.o k (.inl g)).1;omega,zAM.chg i.o.nodes q fun k g e=>(by have:=(j.o k (.inr g)).1;omega),i.o.dl,i.o.nl⟩ (fun k g=>⟨(j.o k g).1,Nat.lt_of_lt_of_le (j.o k g).2 q.size⟩) S.o (.int .i64 (t:Int)) (.int .i64 (kd:Int)) (.slice pd D cd) (.slice F E B));have HZ:=zh (set4_block d.o (.int .i64 (t:Int)) (.int .i64 (kd:Int)) (.slice pd D cd) (.slice F E B));have r0:=zAd d.o;have r1:=zAn d.o;have r2:=zAo d.o;have r3:=zBI d.o;have fr:=zAE d.o;have u0:=zAd m;have u1:=zAn m;have u2:=zAo m;have u3:=zBI m;clear an ai q m;go_wp2_with fail
   (try simp only[Exit.inBlock,Exit.then])
   refine bodyPost_ret (results_cell_row rfl _ _ w.heap.size _ _ (0,0) _ rfl HZ.o underlying50 rfl (by kernel_rfl)) rfl ?_;exact HF.o
section
variable {w:World} {r:Nat} {v:Value} {L:List zAR} {own:Nat→Prop} {D:zAA}
theorem rwhole_calls (h:zAf w r v L own D)(s:ByteArray)(hs:s.size≤9223372036854775000){P:Option Addr}{m N:Nat}{l:Bs}(hl:zAY w (.slice P m N) l)(X:l.length≤140737488355328)(hF:∀k,(Value.slice P m N).ownBlock=some k→¬own k∧k<w.heap.size) :
  Calls prog 168 #[.pointer (some ⟨r,0,none⟩),.string s,.slice P m N] w (zCn w r own (D.save1 (nm s) l)):=by
 have A:(s++(⟨#[126]⟩:ByteArray)).size=s.size+1:=by simp[ByteArray.size_append];rfl
 have Z:RSt w w r own D (fun k=>(Value.slice P m N).ownBlock=some k):=RSt.start h (Below.refl _ _) hF;have H:=zh (rst_has Z (s++(⟨#[126]⟩:ByteArray)));rw[zBG]at H;have Hl:=zh hl;have W:=zh X;clear Z h hl X hF;cases V:Sat.get (zAF (nm s)) D.files with
 | none =>
  rw[V]at H;obtain⟨M,t,hD⟩:∃M,D.save0 (nm s)=(M,0)∧M=D:=⟨D,by unfold zAA.save0;rw[V];rfl,rfl⟩
  go_enter func168,ntmps168
  go_wp2_with fail;refine H.o.mono ?_;rintro e w3 ⟨rfl,n,J⟩;rw[←hD]at n;have R:=zh n;have Hv:=zh (Hl.o.same J);clear n J hD V;have i:=zh (zEf R.o (Re:=M.append (zAF (nm s)) l) fun own v L C hn=>by
   have:=zEY C (s++(⟨#[126]⟩:ByteArray)) (by rw[A];omega) (Hv.o) W.o (fun _ k hk ho=>hn k ho hk);rwa[zBG]at this)
  cases y:zAA.append M (zAF (nm s)) l with
  | mk D1 e1 =>
   rw[y]at i
   by_cases z:e1=0
   ·subst z;go_wp2_with fail;refine i.o.mono ?_;rintro e T ⟨rfl,d,-⟩;have F:=zW (RSt w T r own D1 (fun k=>(Value.slice P m N).ownBlock=some k)) d;have j:=zh (zEf F.o (Re:=D1.sync [zAF (nm s)]) fun own v L C hn=>by
     have:=zDc C (s++(⟨#[126]⟩:ByteArray)) (by rw[A];omega);rwa[zBG]at this)
    clear d i;cases I:zAA.sync D1 [zAF (nm s)]with
    | mk D2 e2 =>
     rw[I]at j
     by_cases a:e2=0
     ·subst a;have c:=zh (save1_ren t y I);clear t y I;go_wp2_with fail;refine j.o.mono ?_;rintro e U ⟨rfl,g,-⟩;have G:=zW (RSt w U r own D2 (fun k=>(Value.slice P m N).ownBlock=some k)) g;have E:=zh (zEf G.o (Re:=D2.rename (zAF (nm s)) (nm s)) fun own v L C hn=>by
       have:=rren_calls C (s++(⟨#[126]⟩:ByteArray)) s (by rw[A];omega) (by omega);rwa[zBG]at this)
      clear g j;go_wp2_with fail;refine E.o.mono ?_;rintro e w7 ⟨rfl,q,-⟩;have B:=zW (zCn w r own (D.save1 (nm s) l) (.returned (.int .i64 ((D2.rename (zAF (nm s)) (nm s)).2:Int))) w7) (by rw[c.o];exact q.stop _);clear q E;generalize (D2.rename (zAF (nm s)) (nm s)).2=e3 at *;go_wp2_with fail;go_ret;exact B.o
     ·have O:((e2:Int)==0)=false:=by simp;omega
      have c:=zh (save1_syn t y I a);clear t y I a;go_wp2_with fail;refine j.o.mono ?_;rintro e U ⟨rfl,g,-⟩;have B:=zW (zCn w r own (D.save1 (nm s) l) (.returned (.int .i64 (e2:Int))) U) (by rw[c.o];exact g.stop _);clear g j;go_wp2_with fail;go_ret;exact B.o
   ·have O:((e1:Int)==0)=false:=by simp;omega
    have c:=zh (save1_app t y z);clear t y z;go_wp2_with fail;refine i.o.mono ?_;rintro e T ⟨rfl,d,-⟩;have B:=zW (zCn w r own (D.save1 (nm s) l) (.returned (.int .i64 (e1:Int))) T) (by rw[c.o];exact d.stop _);clear d i;go_wp2_with fail;go_ret;exact B.o
 | some f =>
  rw[V]at H;cases t:D.save0 (nm s)with
  | mk M e0 =>
   have K:zAA.remove D [zAF (nm s)]=(M,e0):=by rw[←t];unfold zAA.save0;rw[V];rfl
   have ab:=zh K;clear K V
   go_enter func168,ntmps168
   go_wp2_with fail;refine H.o.mono ?_;rintro e w3 ⟨rfl,n,J⟩;have Q:=zh (zEf n (Re:=D.remove [zAF (nm s)]) fun own v L C hn=>by
    have:=rrem_calls C (s++(⟨#[126]⟩:ByteArray)) (by rw[A];omega);rwa[zBG]at this)
   rw[ab.o]at Q;have aa:=zh (Hl.o.same J);clear n J
   by_cases S:e0=0
   ·subst S;go_wp2_with fail;refine Q.o.mono ?_;rintro e w4 ⟨rfl,p,Y⟩;have R:=zW (RSt w w4 r own M (fun k=>(Value.slice P m N).ownBlock=some k)) p;have Hv:=zh (aa.o.same Y);clear p Y;have i:=zh (zEf R.o (Re:=M.append (zAF (nm s)) l) fun own v L C hn=>by
     have:=zEY C (s++(⟨#[126]⟩:ByteArray)) (by rw[A];omega) (Hv.o) W.o (fun _ k hk ho=>hn k ho hk);rwa[zBG]at this)
    cases y:zAA.append M (zAF (nm s)) l with
    | mk D1 e1 =>
     rw[y]at i
     by_cases z:e1=0
     ·subst z;go_wp2_with fail;refine i.o.mono ?_;rintro e T ⟨rfl,d,-⟩;have F:=zW (RSt w T r own D1 (fun k=>(Value.slice P m N).ownBlock=some k)) d;have j:=zh (zEf F.o (Re:=D1.sync [zAF (nm s)]) fun own v L C hn=>by
       have:=zDc C (s++(⟨#[126]⟩:ByteArray)) (by rw[A];omega);rwa[zBG]at this)
      clear d i;cases I:zAA.sync D1 [zAF (nm s)]with
      | mk D2 e2 =>
       rw[I]at j
       by_cases a:e2=0
       ·subst a;have c:=zh (save1_ren t y I);clear t y I;go_wp2_with fail;refine j.o.mono ?_;rintro e U ⟨rfl,g,-⟩;have G:=zW (RSt w U r own D2 (fun k=>(Value.slice P m N).ownBlock=some k)) g;have E:=zh (zEf G.o (Re:=D2.rename (zAF (nm s)) (nm s)) fun own v L C hn=>by
         have:=rren_calls C (s++(⟨#[126]⟩:ByteArray)) s (by rw[A];omega) (by omega);rwa[zBG]at this)
        clear g j;go_wp2_with fail;refine E.o.mono ?_;rintro e w7 ⟨rfl,q,-⟩;have B:=zW (zCn w r own (D.save1 (nm s) l) (.returned (.int .i64 ((D2.rename (zAF (nm s)) (nm s)).2:Int))) w7) (by rw[c.o];exact q.stop _);clear q E;generalize (D2.rename (zAF (nm s)) (nm s)).2=e3 at *;go_wp2_with fail;go_ret;exact B.o
       ·have O:((e2:Int)==0)=false:=by simp;omega
        have c:=zh (save1_syn t y I a);clear t y I a;go_wp2_with fail;refine j.o.mono ?_;rintro e U ⟨rfl,g,-⟩;have B:=zW (zCn w r own (D.save1 (nm s) l) (.returned (.int .i64 (e2:Int))) U) (by rw[c.o];exact g.stop _);clear g j;go_wp2_with fail;go_ret;exact B.o
     ·have O:((e1:Int)==0)=false:=by simp;omega
      have c:=zh (save1_app t y z);clear t y z;go_wp2_with fail;refine i.o.mono ?_;rintro e T ⟨rfl,d,-⟩;have B:=zW (zCn w r own (D.save1 (nm s) l) (.returned (.int .i64 (e1:Int))) T) (by rw[c.o];exact d.stop _);clear d i;go_wp2_with fail;go_ret;exact B.o
   ·have O:((e0:Int) != 0)=true:=by simp;omega
    have c:=zh (save1_rem (b:=l) t S);clear t S;go_wp2_with fail;refine Q.o.mono ?_;rintro e w4 ⟨rfl,p,-⟩;have B:=zW (zCn w r own (D.save1 (nm s) l) (.returned (.int .i64 (e0:Int))) w4) (by rw[c.o];exact p.stop _);clear p;go_wp2_with fail;go_ret;exact B.o
end
def zAs (w0:World)(j r:Nat)(pre:ByteArray)(b c:Nat→Prop)(w1:World)(D:zAA)(M:zAH):Prop :=
 ∃Hot Cold,RJF w1 j r pre D M Hot Cold∧Chg b w0 w1∧(∀k,Hot k→b k∨w0.heap.size≤k)∧∀k,Cold k→c k∨w0.heap.size≤k
theorem zAs.told {w0 w1:World}{j r:Nat}{pre:ByteArray}{d b:Nat→Prop}{c:zDS}(h:zAs w0 j r pre d b w1 c.disk c.jou):zB1 w0 j r pre d b c (.returned (.int .i64 (c.err:Int))) w1:=⟨rfl,h⟩
theorem zB1.step {w0 w1:World}{j r:Nat}{pre:ByteArray}{c b:Nat→Prop}{d:zDS}{e:Ending}(h:zB1 w0 j r pre c b d e w1):zAs w0 j r pre c b w1 d.disk d.jou:=h.2
section
variable {w0 w1 w2:World} {j r:Nat} {pre:ByteArray} {D D2:zAA} {M M2:zAH} {Hot Cold Hot1 Cold1:Nat→Prop}
theorem RJF.step (h:RJF w1 j r pre D M Hot Cold):zAs w1 j r pre Hot Cold w1 D M:=⟨Hot,Cold,h,Chg.refl _ _,fun _ h=>.inl h,fun _ h=>.inl h⟩
theorem RJF.stepB (h:RJF w1 j r pre D M Hot Cold)(b:Below w1.heap.size w1 w2):zAs w1 j r pre Hot Cold w2 D M:=⟨Hot,Cold,h.below b,(Chg.of_below b).mono fun _ _ h=>h.elim,fun _ h=>.inl h,fun _ h=>.inl h⟩
theorem zAs.comp (i:Chg Hot w0 w1)(o:∀k,Hot1 k→Hot k∨w0.heap.size≤k)(m:∀k,Cold1 k→Cold k∨w0.heap.size≤k)(p:zAs w1 j r pre Hot1 Cold1 w2 D2 M2):zAs w0 j r pre Hot Cold w2 D2 M2:=by
 obtain⟨c,b,g,l,n,d⟩:=p;refine⟨c,b,g,i.trans l fun k f q=>(o k q).resolve_right (by omega),fun k f=>?_,fun k f=>?_⟩
 ·rcases n k f with h|h
  ·exact o k h
  ·exact .inr (Nat.le_trans i.size h)
 ·rcases d k f with h|h
  ·exact m k h
  ·exact .inr (Nat.le_trans i.size h)
theorem zAs.trans (h:zAs w0 j r pre Hot Cold w1 D M)(f:∀Hot1 Cold1,RJF w1 j r pre D M Hot1 Cold1→zAs w1 j r pre Hot1 Cold1 w2 D2 M2):zAs w0 j r pre Hot Cold w2 D2 M2:=by
 obtain⟨Hot1,Cold1,hF,c,d,b⟩:=h;exact zAs.comp c d b (f _ _ hF)
theorem zAs.next (h:zAs w0 j r pre Hot Cold w1 D M)(b:Below w1.heap.size w1 w2):zAs w0 j r pre Hot Cold w2 D M:=h.trans fun _ _ hF=>hF.stepB b
theorem zAs.since (h:zAs w1 j r pre Hot Cold w2 D M)(b:Below w0.heap.size w0 w1):zAs w0 j r pre Hot Cold w2 D M:=by
 obtain⟨Hot1,Cold1,hF,f,g,c⟩:=h;exact⟨Hot1,Cold1,hF,((Chg.of_below b).mono fun _ _ h=>h.elim).trans f fun _ _ h=>h,fun k d=>(g k d).imp id (Nat.le_trans b.size),fun k d=>(c k d).imp id (Nat.le_trans b.size)⟩
theorem rj_disk {P:Program}{f:FuncId}{args:Array Value}{Re:zAA×Nat}{wc:World}(h:RJF w1 j r pre D M Hot Cold)(s:Below w1.heap.size w1 wc)(B:∀v L own,zAf wc r v L own D→(∀k,own k→Hot k)→Calls P f args wc (zCn wc r own Re)) :
  Calls P f args wc fun e w'=>e=.returned (.int .i64 (Re.2:Int))∧zAs w1 j r pre Hot Cold w' Re.1 M∧w'.heap[j]?=w1.heap[j]?:=by
 obtain⟨O,own,z,dv,y,vs,v,L,l,a,p,t,m⟩:=h;refine(B v L own (a.below s) fun k b=>(m k).2 (.inr b)).mono ?_;rintro e w' ⟨rfl,own',⟨v',L',q⟩,A,hn⟩;have d:Chg own w1 w':=zCd s A;have i:∀k,own' k→own k∨w1.heap.size≤k:=fun k b=>(hn k b).imp id (Nat.le_trans s.size);have n:=l.chg d fun k b=>⟨fun o=>p k o b,fun c=>t k c b⟩;refine⟨rfl,⟨fun k=>O k∨own' k,Cold,⟨O,own',z,dv,y,vs,v',L',n,q,fun k b g=>?_,fun k b g=>?_,fun k=>Iff.rfl⟩,d.mono fun k _ b=>(m k).2 (.inr b),fun k b=>?_,fun k b=>.inl b⟩,d.block j (l.olt j l.oj) (p j l.oj)⟩
 ·rcases i k g with h|h
  ·exact p k b h
  ·have:=l.olt k b;omega
 ·rcases i k g with h|h
  ·exact t k b h
  ·have:=l.clt k b;omega
 ·rcases b with b|b
  ·exact .inl ((m k).2 (.inl b))
  ·exact(i k b).imp (fun h=>(m k).2 (.inr h)) id
theorem zFx.set {w w':World}{O C:Nat→Prop}{M M':zAH}{g dv f:Value}{vs:List EV}(h:zFx w j r pre O C M g dv f vs)
  (m:w'.heap[j]?=some (RJC r (M'.number:Int) M'.term g pre M'.now M'.vote dv f M'.dead))
  (c:Chg (fun k=>k=j) w w') (o:M'.group=M.group) (n:M'.data=M.data) (d:M'.entries=M.entries) (ok:M'.OK):zFx w' j r pre O C M' g dv f vs where
 cells:=m
 group:=by rw[o];exact zAM.chg h.group c fun k b e=>h.dis k (h.cg k b) (e▸h.oj)
 data:=by rw[n];exact zAM.chg h.data c fun k b e=>h.dis k (h.cd k b) (e▸h.oj)
 row:=by rw[d];exact h.row.keep fun k b=>c.block k (h.olt k (h.oe k b).1) (h.oe k b).2
 rlen:=by rw[d];exact h.rlen
 rows:=by rw[d];exact fun i e v d l=>(h.rows i e v d l).keep fun k b=>c.block k (h.clt k (h.cv v (List.mem_of_getElem? l) k b)) fun e=>h.dis k (h.cv v (List.mem_of_getElem? l) k b) (e▸h.oj)
 oj:=h.oj
 oe:=h.oe
 cg:=h.cg
 cd:=h.cd
 cv:=h.cv
 dis:=h.dis
 olt:=fun k b=>Nat.lt_of_lt_of_le (h.olt k b) c.size
 clt:=fun k b=>Nat.lt_of_lt_of_le (h.clt k b) c.size
 psz:=h.psz
 ok:=ok
theorem RJF.set (h:RJF w1 j r pre D M Hot Cold){M':zAH}(g:Chg (fun k=>k=j) w1 w2)
  (o:∀d dv c,w1.heap[j]?=some (RJC r (M.number:Int) M.term d pre M.now M.vote dv c M.dead)→w2.heap[j]?=some (RJC r (M'.number:Int) M'.term d pre M'.now M'.vote dv c M'.dead))
  (s:M'.group=M.group) (p:M'.data=M.data) (q:M'.entries=M.entries) (t:M'.OK):zAs w1 j r pre Hot Cold w2 D M':=by
 obtain⟨O,own,d,dv,c,vs,v,L,f,m,l,n,i⟩:=h;exact⟨Hot,Cold,⟨O,own,d,dv,c,vs,v,L,f.set (o _ _ _ f.cells) g s p q t,m.keep g.size (fun k b=>g.block k (m.olt k b) fun e=>l j f.oj (e▸b)),l,n,i⟩,g.mono fun k _ e=>(i k).2 (.inl (e▸f.oj)),fun k b=>.inl b,fun k b=>.inl b⟩
theorem RJF.cellsD (h:RJF w1 j r pre D M Hot Cold):∃gv dv ev,w1.heap[j]?=some (RJC r (M.number:Int) M.term gv pre M.now M.vote dv ev M.dead):=let ⟨_,_,gv,dv,ev,_,_,_,hJ,_⟩:=h;⟨gv,dv,ev,hJ.cells⟩
theorem rj_die (h:RJF w1 j r pre D M Hot Cold):zAs w1 j r pre Hot Cold (w1.setCell ⟨j,9,none⟩ (.bool true)) D M.die :=
 h.set (Chg.setCell w1 ⟨j,9,none⟩ _) (fun d dv c b=>by
  have:=zAD b 9 (.bool true);simpa[zAH.die]using this) rfl rfl rfl ⟨h.okM.last,h.okM.term,h.okM.group,h.okM.now,h.okM.vote,h.okM.data,h.okM.ents⟩
theorem zEZ (h:RJF w1 j r pre D M Hot Cold){N:Option Addr}{m E:Nat}{l:Bs}(hl:zAY w1 (.slice N m E) l)(ab:l.length≤140737488355328)(I:∀k,(Value.slice N m E).ownBlock=some k→¬Hot k∧k<w1.heap.size) :
  Calls prog 114 #[.pointer (some ⟨j,0,none⟩),.slice N m E] w1 fun e w'=>e=.returned (.int .i64 ((layOn D (zAm (nm pre)) l).2:Int))∧zAs w1 j r pre Hot Cold w' (layOn D (zAm (nm pre)) l).1 (zEs M (layOn D (zAm (nm pre)) l).2):=by
 have ae:=h.psz;have J:(zCS pre).size≤9223372036854775807:=by
  unfold zCS;rw[ByteArray.size_append]
  show pre.size+4≤_
  omega
 obtain⟨Q,dv,O,i⟩:=h.cellsD;have c3:w1.cell? ⟨j,3,none⟩=some (.pointer (some ⟨r,0,none⟩)):=zAG i rfl;have c4:w1.cell? ⟨j,4,none⟩=some (.string pre):=zAG i rfl;cases z:D.append (zAm (nm pre)) l with
 | mk D1 e1 =>
  have S:=zh (fun W (hb:Below w1.heap.size w1 W)=>show Calls prog 16 #[.pointer (some ⟨r,0,none⟩),.string (zCS pre),.slice N m E] W fun e w'=>e=.returned (.int .i64 (e1:Int))∧zAs w1 j r pre Hot Cold w' D1 M∧w'.heap[j]?=w1.heap[j]? by
   have:=rj_disk h hb (Re:=(D1,e1)) (f:=16) (P:=prog) (args:=#[.pointer (some ⟨r,0,none⟩),.string (zCS pre),.slice N m E]) fun v L own hR p=>by
    have F:=zEY hR (zCS pre) J (zAY.below hl hb) ab fun _ k hk=>fun o=>(I k hk).1 (p k o);rw[zBy,z]at F;exact F
   exact this)
  have HH:=zh h;have C:=zh (show layOn D (zAm (nm pre)) l=if e1≠0 then(D1,e1)else D1.sync [zAm (nm pre)] by unfold layOn;rw[z]);clear h z hl I;generalize layOn D (zAm (nm pre)) l=Z at *
  go_enter func114,ntmps114
  go_wp2_with fail;refine ost (fun w':World=>w'.cell? ⟨j,3,none⟩=some (.pointer (some ⟨r,0,none⟩))∧w'.cell? ⟨j,4,none⟩=some (.string pre)) 12 (⟨c3,c4⟩) fun d=>?_;refine Pl [0,1,2,3,4,5,6,7,8,9] ?_
  iterate 10 (refine Pc rfl ?_;simp only[uZ])
  refine Pn ?_;refine oon 10 rfl fun K G=>?_;go_wp2_with fail;refine(S.o w1.drew (zAU w1)).mono ?_;rintro e w3 ⟨rfl,g,c⟩;have q:=zh g;have n:=zW (w3.cell? ⟨j,3,none⟩=some (.pointer (some ⟨r,0,none⟩))∧w3.cell? ⟨j,4,none⟩=some (.string pre)) (⟨(World.cell?_of_block (a:=⟨j,3,none⟩) c).trans c3,(World.cell?_of_block (a:=⟨j,4,none⟩) c).trans c4⟩);clear g c;go_wp2_with fail;refine G.o _ _ (n.o) fun d=>?_;clear G
  try simp only[uZ]
  refine otk 11 (v:=?v1x11) rfl ?_;simp only[uZ];refine odn ?_
  by_cases A:e1=0
  ·subst A;cases B:D1.sync [zAm (nm pre)]with
   | mk D2 e2 =>
   have y:=zW (Z=(D2,e2)) (by rw[C.o,if_neg (by simp),B]);have U:=zh (fun W (hb:Below w3.heap.size w3 W)=>show Calls prog 91 #[.pointer (some ⟨r,0,none⟩),.string (zCS pre)] W fun e w'=>e=.returned (.int .i64 (e2:Int))∧zAs w1 j r pre Hot Cold w' D2 M∧w'.heap[j]?=w3.heap[j]? by
    obtain⟨Hot1,Cold1,hF,hc,hh,aa⟩:=q.o;have:=rj_disk hF hb (Re:=(D2,e2)) (f:=91) (P:=prog) (args:=#[.pointer (some ⟨r,0,none⟩),.string (zCS pre)]) fun v L own hR p=>by
     have F:=zDc hR (zCS pre) J;rw[zBy,B]at F;exact F
    refine this.mono ?_;rintro e w' ⟨rfl,g,c⟩;exact⟨rfl,zAs.comp hc hh aa g,c⟩)
   clear B;go_wp2_with fail;refine ost (fun w':World=>w'.cell? ⟨j,3,none⟩=some (.pointer (some ⟨r,0,none⟩))∧w'.cell? ⟨j,4,none⟩=some (.string pre)) 11 (n.o) fun d=>?_;refine Pl [0,1,2,3,4,5,6,7,8] ?_
   iterate 9 (refine Pc rfl ?_;simp only[uZ])
   refine Pn ?_;refine oon 9 rfl fun K G=>?_;go_wp2_with fail;refine(U.o w3.drew (zAU w3)).mono ?_;rintro e R ⟨rfl,g,c⟩;have s:=zh g;have T:=zW (R.cell? ⟨j,3,none⟩=some (.pointer (some ⟨r,0,none⟩))∧R.cell? ⟨j,4,none⟩=some (.string pre)) (⟨(World.cell?_of_block (a:=⟨j,3,none⟩) c).trans n.o.1,(World.cell?_of_block (a:=⟨j,4,none⟩) c).trans n.o.2⟩);clear g c;go_wp2_with fail;refine G.o _ _ (T.o) fun d=>?_;clear G
   try simp only[uZ]
   refine otk 10 (v:=?v2x10) rfl ?_;simp only[uZ];refine odn ?_
   by_cases H:e2=0
   ·subst H;go_wp2_with fail;go_ret;exact⟨by have:=y.o;rw[this];rfl,by rw[y.o];rw[zBo];exact s.o⟩
   ·have ac:((e2:Int) != 0)=true:=by simp;omega
    obtain⟨Y,V,X,b⟩:∃Q dv O,R.heap[j]?=some (RJC r (M.number:Int) M.term Q pre M.now M.vote dv O M.dead):=by
     obtain⟨_,_,hF,-⟩:=s.o;exact hF.cellsD
    have c9:R.cell? ⟨j,9,none⟩=some (.bool M.dead):=zAG b rfl;have f9:=zAE b 9;have t:=zh (zAs.trans s.o fun _ _ hF=>rj_die hF);clear b;go_wp2_with fail;go_ret;exact⟨by rw[y.o];rfl,by rw[y.o];rw[zB3 M H];exact t.o⟩
  ·have y:=zW (Z=(D1,e1)) (by rw[C.o,if_pos A]);have ac:((e1:Int) != 0)=true:=by simp;omega
   have ad:((e1:Int)==0)=false:=by simp;omega
   obtain⟨Y,V,X,b⟩:∃Q dv O,w3.heap[j]?=some (RJC r (M.number:Int) M.term Q pre M.now M.vote dv O M.dead):=by
    obtain⟨_,_,hF,-⟩:=q.o;exact hF.cellsD
   have c9:w3.cell? ⟨j,9,none⟩=some (.bool M.dead):=zAG b rfl;have f9:=zAE b 9;have t:=zh (zAs.trans q.o fun _ _ hF=>rj_die hF);clear b;go_wp2_with fail;go_ret;exact⟨by rw[y.o];rfl,by rw[y.o];rw[zB3 M A];exact t.o⟩
end
def wh (c:Bs):zAS:=⟨c,c.length⟩
def snpL (s:Option Bs):List (Bs×zAS):=match s with
 | none=>[]
 | some b=>[(zBR [97],wh b)]
def dJ (room:Nat)(c:Bs)(s:Option Bs):zAA:=⟨room,(zAm [97],wh c)::snpL s,none⟩
section
variable {room:Nat} {c b:Bs} {s:Option Bs}
theorem dj_log:Sat.get (zAm [97]) (dJ room c s).files=some (wh c):=by cases s<;>rfl
theorem dj_shl:Sat.get (zAF (zAm [97])) (dJ room c s).files=none:=by cases s<;>rfl
theorem dj_shs:Sat.get (zAF (zBR [97])) (dJ room c s).files=none:=by cases s<;>rfl
theorem zF7:Sat.get (zBR [97]) (dJ room c s).files=s.map wh:=by cases s<;>rfl
theorem dj_num:(dJ room c s).files.length<4096:=by
 cases s
 ·show 1<4096
  decide
 ·show 2<4096
  decide
theorem dj_srt:Srt (dJ room c s).files:=by
 cases s with
 | none=>exact List.pairwise_singleton _ _
 | some b =>
  refine List.pairwise_cons.2 ⟨?_,List.pairwise_singleton _ _⟩;intro p d;rw[show p=(zBR [97],wh b) by simpa[snpL]using d];rfl
theorem dj_used:(dJ room c s).used=c.length+(match s with|none=>0|some b=>b.length):=by
 cases s with
 | none=>rfl
 | some b =>
  show c.length+(b.length+0)=_
  rw[Nat.add_zero]
theorem dj_ok (g:room≤1073741824)(i:(dJ room c s).used≤room):(dJ room c s).OK:=by
 refine⟨dj_srt,g,i,Nat.le_of_lt dj_num,fun p d=>?_,fun p d=>?_,fun k f=>by cases f⟩
 ·cases s with
  | none =>
   rw[show p=(zAm [97],wh c) by simpa[dJ,snpL]using d];rfl
  | some b =>
   rcases(show p=(zAm [97],wh c)∨p=(zBR [97],wh b) by simpa[dJ,snpL]using d)with rfl|rfl<;>rfl
 ·cases s with
  | none =>
   rw[show p=(zAm [97],wh c) by simpa[dJ,snpL]using d];exact Nat.le_refl _
  | some b =>
   rcases(show p=(zAm [97],wh c)∨p=(zBR [97],wh b) by simpa[dJ,snpL]using d)with rfl|rfl<;>exact Nat.le_refl _
theorem lay_dj (g:(dJ room c s).used+b.length≤room):layOn (dJ room c s) (zAm [97]) b=(dJ room (c++b) s,0):=by
 have j:(dJ room c s).may [zAm [97]]=0:=rfl;have f:(dJ room c s).full (zAm [97]) b=false:=by
  unfold zAA.full;rw[dj_log];simp only[Option.isNone_some,Bool.false_and,Bool.or_false,decide_eq_false_iff_not]
  show ¬room<_
  omega
 have i:(dJ room c s).append (zAm [97]) b=(⟨room,(zAm [97],⟨c++b,c.length⟩)::snpL s,none⟩,0):=by
  unfold zAA.append;rw[if_neg (by rw[j];simp),if_neg (by rw[f];simp)];have d:(dJ room c s).cur (zAm [97])=wh c:=by unfold zAA.cur;rw[dj_log];rfl
  rw[d];cases s<;>rfl
 unfold layOn;rw[i,if_neg (by simp)];cases s<;>rfl
theorem log_dj (f:room≤1073741824)(d:(dJ room c s).used+b.length≤room):(dJ room c s).save1 (zAm [97]) b=(dJ room b s,0):=by
 rw[put1_all (dj_ok f (by omega)) (fun j e=>by cases e) (by decide) (by decide) dj_shl d dj_num];cases s<;>rfl
theorem snp_dj (f:room≤1073741824)(d:(dJ room c s).used+b.length+12≤room):(dJ room c s).save (zBR [97]) b=(dJ room c (some (zAK b)),0):=by
 rw[save_room (by decide) (by decide),put1_all (dj_ok f (by omega)) (fun j e=>by cases e) (by decide) (by decide) dj_shs (by rw[zAe];show _≤room;omega) dj_num];cases s<;>rfl
theorem crash_dj (k:Int):(dJ room c s).crash k=dJ room c s:=by
 have d:∀x:Bs,zAA.crashF k (wh x)=wh x:=fun x=>zFh x k;unfold dJ zAA.crash;cases s with
 | none =>
  show(⟨room,[(zAm [97],zAA.crashF k (wh c))],none⟩:zAA)=_
  rw[d];rfl
 | some b =>
  show(⟨room,[(zAm [97],zAA.crashF k (wh c)),(zBR [97],zAA.crashF k (wh b))],none⟩:zAA)=_
  rw[d,d];rfl
end
def zC8.bytes (s:zC8):Bs:=zEj s.number s.term s.group s.data
theorem snapIs_bytes {s:zC8}(h:s.OK)(d:1≤s.number)(g:s.data.length≤524288):zDD s.bytes=some s:=by
 have c:=zAl.1 h.term;have b:=zCi h.group;have hn:=h.number;have f:s.bytes=zD8 s.number++(zDf s.term++(zDq s.group++(zE5 s.data++[]))):=by simp[zC8.bytes,zEj]
 rw[f];unfold zDD;dsimp only;rw[Rd.num_of (by omega)];dsimp only;rw[rd_int c.1 (by omega)];dsimp only;rw[grp_of b.1 b.2 h.group];dsimp only;rw[Rd.bytes_of (by omega)];dsimp only;rw[if_pos ⟨zGi false,d,hn,by omega,g⟩,Int.toNat_of_nonneg c.1]
theorem snapOf_bytes {s:zC8}(h:s.OK)(c:1≤s.number)(d:s.data.length≤524288)(f:s.bytes.length≤1048576):zCD (some (wh (zAK s.bytes)))=(0,some s):=by
 obtain⟨a,b⟩:=load_frame s.bytes f (zAK s.bytes).length;rw[show(wh (zAK s.bytes))=⟨zAK s.bytes,(zAK s.bytes).length⟩from rfl,snapOf_0 a,b,snapIs_bytes h c d]
def zCT (s:Option zC8):Option Bs:=s.map fun s=>zAK s.bytes
def SnapOK (s:Option zC8):Prop:=∀x,s=some x→x.OK∧1≤x.number∧x.data.length≤524288∧x.bytes.length≤1048576
theorem open_dj {room:Nat}{ls:List Bs}{s:Option zC8}{g:List Int}{i M:zAH}(z:zAX g=true)(k:∀l∈ls,l.length≤1048576)(A:SnapOK s)(y:zCC (zAH.none0 g) ls=some i)(a:zAh s i false=some (false,M)) :
  zAV (dJ room (zAL ls) (zCT s)) [97] g=(dJ room (zAL ls) (zCT s),0,M):=by
 obtain⟨O⟩:=zGM (dJ room (zAL ls) (zCT s)) [97] g;have j:=O.h1;have d:=O.h2;have f:=O.hs;have b:=O.hl;have n:(dJ room (zAL ls) (zCT s)).rid1 (zAF (zAm [97]))=(dJ room (zAL ls) (zCT s),0):=by unfold zAA.rid1;rw[dj_shl];rfl
 rw[n]at j;have q:dJ room (zAL ls) (zCT s)=O.D1:=congrArg Prod.fst j;have t:0=O.e1:=congrArg Prod.snd j;rw[←q]at d;have o:(dJ room (zAL ls) (zCT s)).rid1 (zAF (zBR [97]))=(dJ room (zAL ls) (zCT s),0):=by unfold zAA.rid1;rw[dj_shs];rfl
 rw[o]at d;have r:dJ room (zAL ls) (zCT s)=O.D2:=congrArg Prod.fst d;have v:0=O.e2:=congrArg Prod.snd d;rw[←r]at f b;have b3:zCD (Sat.get (zBR [97]) (dJ room (zAL ls) (zCT s)).files)=(0,s):=by
  rw[zF7];cases s with
  | none=>exact zGc zD7
  | some x =>
   obtain⟨q1,q2,C,D⟩:=A x rfl;exact snapOf_bytes q1 q2 C D
 rw[b3]at f;have c:=scan_recs ls [] k (.inl rfl);rw[List.append_nil]at c;have p:zBj (dJ room (zAL ls) (zCT s)) [97] (zAH.none0 g)=(dJ room (zAL ls) (zCT s),0,false,i):=by
  unfold zBj;rw[dj_log];dsimp only;rw[show(wh (zAL ls)).data=zAL ls from rfl,c];dsimp only;rw[y];dsimp only;have B:tornOff (dJ room (zAL ls) (zCT s)) (zAm [97]) (zAL ls).length (zAL ls).length=(dJ room (zAL ls) (zCT s),0):=by unfold tornOff;rw[if_neg (by omega)]
  rw[B]
 rw[p]at b;have m:¬((([97]:Bs).length)<1∨20<([97]:Bs).length∨zAX g=false):=by
  rintro(h|h|h)
  ·exact absurd h (by decide)
  ·exact absurd h (by decide)
  ·rw[z]at h;cases h
 rw[oj_keep O m t.symm v.symm (by rw[←f]) (by rw[←b]) (M:=M) (by rw[←f,←b];exact a),←b]
def zAH.dat (M:zAH)(d:Bs):zAH:={M with data:=d}
theorem rec1_dat (f:Bool)(M:zAH)(d:Bs)(p:Bs):zBe f (M.dat d) p=(zBe f M p).map (·.dat d):=by
 cases p with
 | nil=>rfl
 | cons k r =>
  unfold zBe;dsimp only;have g:∀t v,(M.dat d).mayVote t v=M.mayVote t v:=fun _ _=>rfl;have c:(M.dat d).last=M.last:=rfl;have hn:(M.dat d).number=M.number:=rfl;have b:(M.dat d).entries=M.entries:=rfl;rw[g,c,hn,b]
  repeat' split
  all_goals first
   | rfl
   | (exfalso;simp_all;done)
theorem recGo_dat:∀(l:List Bs) (M:zAH) (d:Bs),zBU (M.dat d) l=(zBU M l).map (·.dat d)
 | [],_,_=>rfl
 | p::r,M,d=>by
  show(zBe false (M.dat d) p).bind (fun M'=>zBU M' r)=((zBe false M p).bind fun M'=>zBU M' r).map (·.dat d)
  rw[rec1_dat];cases zBe false M p with
  | none=>rfl
  | some M1=>exact recGo_dat r M1 d
structure Kept5 (room:Nat)(g:List Int)(M:zAH)(D:zAA)(u:Nat):Prop where
 ex:∃ls s M0,D=dJ room (zAL ls) (zCT s)∧(∀l∈ls,l.length≤1048576)∧SnapOK s∧zCC (zAH.none0 g) ls=some M0∧zAh s M0 false=some (false,M)
 used:D.used≤u
 grp:zAX g=true
 alive:M.dead=false
theorem Kept5.open {room:Nat}{g:List Int}{M:zAH}{D:zAA}{u:Nat}(h:Kept5 room g M D u):zAV D [97] g=(D,0,M):=by
 obtain⟨⟨ls,s,j,rfl,b,c,d,f⟩,-,i,-⟩:=h;exact open_dj i b c d f
theorem Kept5.crash {room:Nat}{g:List Int}{M:zAH}{D:zAA}{u:Nat}(h:Kept5 room g M D u)(k:Int):D.crash k=D:=by
 obtain⟨⟨ls,s,b,rfl,-⟩,-⟩:=h;exact crash_dj k
theorem joins_is {s:Option zC8}{b M:zAH}(h:zAh s b false=some (false,M)):M=b.dat M.data∧(∀M',M'.number=b.number→zAh s M' false=some (false,match s with|none=>M'|some x=>M'.dat x.data))∧(∀x,s=some x→M.data=x.data)∧(s=none→M=b):=by
 unfold zAh at h;cases s with
 | none =>
  dsimp only at h
  split at h
  ·cases h
  ·rename_i hn
   have e:b=M:=congrArg Prod.snd (Option.some.inj h);subst e;refine⟨rfl,fun M' c=>?_,fun x d=>(by cases d),fun _=>rfl⟩;unfold zAh;dsimp only;rw[c,if_neg hn]
 | some x =>
  dsimp only at h
  split at h
  ·have e:true=false:=congrArg Prod.fst (Option.some.inj h);cases e
  ·rename_i h1
   split at h
   ·cases h
   ·rename_i h2
    have e:({b with data:=x.data}:zAH)=M:=congrArg Prod.snd (Option.some.inj h);subst e;refine⟨rfl,fun M' c=>?_,fun y f=>(by cases f;rfl),fun d=>(by cases d)⟩;unfold zAh;dsimp only;rw[if_neg (by rw[c];exact h1),if_neg (by rw[c];exact h2)];rfl
theorem keep_lay {room:Nat}{g:List Int}{M M':zAH}{D:zAA}{u:Nat}{rs:List Bs}(h:Kept5 room g M D u)(q:∀l∈rs,l.length≤1048576)(d:zBU M rs=some M')(v:M'.number=M.number)(_hdat:M'.data=M.data)(p:M'.dead=false)(J:u+(zAL rs).length≤room) :
  ∃D',zBw [97] D M rs M'=⟨D',M',0⟩∧Kept5 room g M' D' (u+(zAL rs).length):=by
 obtain⟨⟨ls,s,k,rfl,z,A,B,C⟩,i,F,I⟩:=h;obtain⟨t,E,n,o⟩:=joins_is C;have j:=lay_dj (room:=room) (c:=zAL ls) (b:=zAL rs) (s:=zCT s) (by omega);refine⟨dJ room (zAL ls++zAL rs) (zCT s),?_,⟨?_,?_,F,p⟩⟩
 ·unfold zBw;rw[j];exact if_neg (by simp)
 ·have f:(zBU k rs).map (·.dat M.data)=some M':=by rw[←recGo_dat,←t,d]
  cases m:zBU k rs with
  | none=>rw[m]at f;cases f
  | some M1 =>
   rw[m]at f;have r:M1.dat M.data=M':=Option.some.inj f;have H:M1.number=k.number:=by
    have a:M'.number=M1.number:=by rw[←r];rfl
    have b:M.number=k.number:=by rw[t];rfl
    omega
   refine⟨ls++rs,s,M1,by rw[zCj],fun l G=>?_,A,?_,?_⟩
   ·exact(List.mem_append.1 G).elim (z l) (q l)
   ·rw[recAll_app B,m]
   ·rw[E M1 H];cases s with
    | none =>
     have y:=o rfl;rw[y,m]at d;rw[Option.some.inj d]
    | some x =>
     show some (false,M1.dat x.data)=_
     rw[←n x rfl,r]
 ·rw[dj_used]at i ⊢;rw[List.length_append];cases s with
  | none=>simp only[zCT,Option.map_none]at i ⊢;omega
  | some x=>simp only[zCT,Option.map_some]at i ⊢;omega
theorem keep_start {room:Nat}{g:List Int}(c:zAX g=true):Kept5 room g (zAH.none0 g) (zCW room [97] g) 150:=by
 refine⟨⟨(zAH.none0 g).rows,none,zAH.none0 g,by rw[zFU];rfl,fun l f=>?_,fun x i=>(by cases i),?_,rfl⟩,?_,c,rfl⟩
 ·have b:=zFL c;unfold zFc at b;rw[List.length_append,zAe,zAe]at b;rcases(show l=zEo 0 0 g∨l=zCV 0 (-1) by simpa[zAH.rows,zAH.none0,zAx]using f)with rfl|rfl<;>omega
 ·have:=zGV (M:=zAH.none0 g) (N:=zAH.none0 g) (Nat.zero_le _) rfl c rfl ⟨Int.le_refl _,show(-1:Int)<7 by decide⟩ (fun e d=>by cases d) rfl rfl rfl;exact this
 ·have b:=zFL c
  show(dJ room (zFc g) none).used≤150
  rw[dj_used];exact b
section
variable {room:Nat} {g:List Int} {M:zAH} {D:zAA} {u:Nat}
theorem app_go (h:Kept5 room g M D u){es:List Ent}(p:es≠[])(b:∀e∈es,zAt e=true)(i:M.last+es.length≤1099511627776)(k:u+65812*es.length≤room∨u+(zAL (zAx M.last es)).length≤room) :
  ∃D',zAZ [97] D M es=⟨D',{M with entries:=M.entries++es},0⟩∧Kept5 room g {M with entries:=M.entries++es} D' (u+(zAL (zAx M.last es)).length):=by
 have d:=zCq M.last es b (by omega);have j:=zDk (c:=65800) (zAx M.last es) d;rw[zCe]at j;obtain⟨D',m,n⟩:=keep_lay (M':={M with entries:=M.entries++es}) (rs:=zAx M.last es) h (fun l q=>Nat.le_trans (d l q) (by decide)) (zED es M b i) rfl rfl h.alive (by rcases k with k|k<;>omega);refine⟨D',?_,n⟩;unfold zAZ;rw[if_neg (show ¬M.dead=true by rw[h.alive];simp),if_neg (fun o=>o.elim (fun f=>by omega) fun f=>by rw[List.all_eq_true.2 b]at f;cases f),if_neg p];exact m
end
section
variable {room:Nat} {g:List Int} {M:zAH} {D:zAA} {u:Nat}
theorem goes_go (h:Kept5 room g M D u){s:zC8}(y:s.OK)(q:1≤s.number)(t:s.data.length≤524288)(i:s.bytes.length≤1048576)(d:(M.rebase s).OK)(p:room≤1073741824)(k:∀l∈(M.rebase s).rows,l.length≤1048576)
  (C:u+s.bytes.length+12+(zAL (M.rebase s).rows).length≤room) :
  ∃D',zA0 [97] D M s=⟨D',M.rebase s,0⟩∧Kept5 room g (M.rebase s) D' ((zAL (M.rebase s).rows).length+s.bytes.length+12):=by
 obtain⟨⟨ls,a,A,rfl,-⟩,n,v,o⟩:=h;have m:=snp_dj (room:=room) (c:=zAL ls) (b:=s.bytes) (s:=zCT a) p (by omega);have B:(zAL ls).length≤u:=by
  rw[dj_used]at n;omega
 have j:=log_dj (room:=room) (c:=zAL ls) (b:=zAL (M.rebase s).rows) (s:=some (zAK s.bytes)) p (by
  rw[dj_used];dsimp only;rw[zAe];omega)
 have f:(M.rebase s).dead=false:=o;refine⟨dJ room (zAL (M.rebase s).rows) (some (zAK s.bytes)),?_,⟨⟨(M.rebase s).rows,some s,{M.rebase s with data:=[],dead:=false},rfl,k,fun x z=>?_,?_,?_⟩,?_,v,f⟩⟩
 ·unfold zA0;rw[show zEj s.number s.term s.group s.data=s.bytes from rfl,m,if_neg (by simp)];dsimp only;unfold zAT;rw[j,if_neg (by simp)]
 ·cases z;exact⟨y,q,t,i⟩
 ·exact zGV (M:=M.rebase s) (N:=zAH.none0 g) d.last d.term d.group d.now d.vote d.ents rfl rfl rfl
 ·have e:(M.rebase s)={({M.rebase s with data:=[],dead:=false}:zAH)with data:=s.data}:=by
   have r:M.dead=false:=o;unfold zAH.rebase;rw[r]
  unfold zAh;dsimp only;rw[if_neg (show ¬(M.rebase s).number<s.number from Nat.lt_irrefl _),if_neg (show ¬s.number<(M.rebase s).number from Nat.lt_irrefl _)];rw[←e]
 ·rw[dj_used];dsimp only;rw[zAe];omega
theorem compact_go (h:Kept5 room g M D u){i:Nat}{b:Bs}(c:M.number<i)(d:i≤M.last)(f:b.length≤524288) :
  zAW [97] D M (i:Int) b=zA0 [97] D M ⟨i,(M.termAt (i:Int)).getD 0,(M.grpIn (i-M.number)).1,b⟩:=by
 unfold zAW;rw[if_neg (show ¬M.dead=true by rw[h.alive];simp),if_neg (by omega),Int.toNat_natCast]
end
theorem zEu {n:Nat}{e:Ent}(hn:n≤4611686018427387904)(h:zAt e=true):(zEt n e).length≤46+e.data.length+9*e.nodes.length:=by
 have j:=zBN h;unfold zEt zE5 zDq;simp only[List.length_cons,List.length_append];have b:=zAg hn;have c:=zBK e.term;have d:=zBK e.kind;have f:=zAg (n:=e.data.length) (by omega);have g:=zAg (n:=e.nodes.length) (by omega);have i:=zA9 e.nodes;omega
theorem ents_len2 {c:Nat}:∀(n:Nat) (es:List Ent),(∀e∈es,zAt e=true∧e.data.length+9*e.nodes.length≤c)→n+es.length≤4611686018427387904→∀l∈zAx n es,l.length≤46+c
 | _,[],_,_,l,b=>by cases b
 | n,e::r,h,hn,l,b=>by
  simp only[List.length_cons]at hn;cases b with
  | head =>
   have:=zEu (n:=n+1) (e:=e) (by omega) (h e (by simp)).1;have:=(h e (by simp)).2;omega
  | tail _ b=>exact ents_len2 (n+1) r (fun x d=>h x (by simp[d])) (by omega) l b
def ke1:Ent:=⟨1,0,[],[]⟩
def ke2:Ent:=⟨2,1,[120],[]⟩
def kM1:zAH:=⟨0,0,[0,1,2],0,-1,[],[ke1,ke2],false⟩
def kS:zC8:=⟨1,1,[0,1,2],[115]⟩
def kM2:zAH:=⟨1,1,[0,1,2],0,-1,[115],[ke2],false⟩
theorem kM2_is:kM1.rebase kS=kM2:=by rfl
theorem kS_is:(⟨1,(kM1.termAt ((1:Nat):Int)).getD 0,(kM1.grpIn (1-kM1.number)).1,[115]⟩:zC8)=kS:=by rfl
theorem known5:∃q D2,zAZ [97] (zCW 65536 [97] [0,1,2]) (zAH.none0 [0,1,2]) [ke1,ke2]=⟨q,kM1,0⟩∧zAW [97] q kM1 ((1:Nat):Int) [115]=⟨D2,kM2,0⟩:=by
 have z:=keep_start (room:=65536) (g:=[0,1,2]) (by rfl);have i:∀e∈[ke1,ke2],zAt e=true:=fun e j=>by
  rcases(show e=ke1∨e=ke2 by simpa using j)with rfl|rfl<;>rfl
 have y:(zAL (zAx (zAH.none0 [0,1,2]).last [ke1,ke2])).length≤200:=by
  have k:=zDk (c:=47) (zAx (zAH.none0 [0,1,2]).last [ke1,ke2]) (ents_len2 (c:=1) _ _ (fun e j=>⟨i e j,by rcases(show e=ke1∨e=ke2 by simpa using j)with rfl|rfl<;>decide⟩) (show 0+2≤_ by decide));rw[zCe]at k;exact Nat.le_trans k (by decide)
 obtain⟨q,k,r⟩:=app_go z (by simp) i (show 0+2≤_ by decide) (.inr (by omega));have v:kM2.OK:=⟨by decide,by rfl,by rfl,by rfl,⟨by decide,by decide⟩,by decide,fun e j=>by rw[show e=ke2 by simpa[kM2]using j];rfl⟩;have o:∀l∈kM2.rows,l.length≤200:=fun l m=>by
  rcases(show l=zEo 1 1 [0,1,2]∨l=zCV 0 (-1)∨l∈zAx 1 [ke2] by simpa[zAH.rows,kM2]using m)with rfl|rfl|m
  ·unfold zEo zDq;have a:(zD8 1).length≤9:=zAg (by omega);have b:=zBK 1;have c:=zAg (n:=([0,1,2]:List Int).length) (by decide);have d:=zA9 [0,1,2];simp only[List.length_cons,List.length_append,List.length_nil]at c d ⊢;omega
  ·have:=zDJ 0 (-1);omega
  ·have:=ents_len2 (c:=1) 1 [ke2] (fun e j=>by rw[show e=ke2 by simpa using j];exact⟨rfl,by decide⟩) (by decide) l m;omega
 have p:=zDk (c:=200) kM2.rows o;have A:kS.bytes.length≤200:=by
  unfold zC8.bytes kS zEj zDq zE5;have a:(zD8 1).length≤9:=zAg (by omega);have b:=zBK 1;have c:=zAg (n:=([0,1,2]:List Int).length) (by decide);have d:=zA9 [0,1,2];have f:=zAg (n:=([115]:Bs).length) (by decide);simp only[List.length_cons,List.length_append,List.length_nil]at c d f ⊢;omega
 have t:({zAH.none0 [0,1,2]with entries:=(zAH.none0 [0,1,2]).entries++[ke1,ke2] }:zAH)=kM1:=rfl;rw[t]at k r;obtain⟨D2,h,B⟩:=goes_go r (s:=kS) ⟨by decide,by rfl,by rfl,by decide⟩ (by decide) (by decide) (by omega) (by rw[kM2_is];exact v) (by decide) (by rw[kM2_is];exact fun l m=>Nat.le_trans (o l m) (by decide)) (by
  rw[kM2_is];have:kM2.rows.length=3:=rfl;rw[this]at p;omega)
 refine⟨q,D2,k,?_⟩;rw[compact_go r (show 0<1 by decide) (show 1≤2 by decide) (by decide),kS_is,h,kM2_is]
theorem zGR {w:World}{p:Option Addr}{n c:Nat}{l:Bs}(a:zAY w (.slice p n c) l)(J:l.length≤1073741824) :
  Calls prog 133 #[.slice p n c] w (zBf w (zE5 l)):=by
 obtain⟨M,I,h,A,B⟩:=info_parts (show(prog.info? 5).map (fun i=>(i.zero,i.size,i.bytes))=some (some (.int .u8 0),1,1) by kernel_rfl);have hn:l.length=n:=by obtain⟨_,_,e⟩:=a.slice;simp only[Value.slice.injEq]at e;exact e.2.1.symm
 have q:=zh (zEa w (n:Int) (by omega));have G:=zh (show zDf (n:Int)++l=zE5 l by rw[zB8 (by omega),←hn];rfl);have L:(zDf (n:Int)).length≤9:=zBK _;have H:=zh a;have E:=zh hn;have F:n≤1073741824:=by omega
 clear a hn J
 go_enter func133,ntmps133
 go_wp2_with fail;refine q.o.mono ?_;rintro e w2 ⟨x,rfl,k,t,j⟩;obtain⟨C,z,rfl,-⟩:=zAN k;have m:=zW (zCm w w2 (.slice C (zDf (n:Int)).length z) (zDf (n:Int))) (⟨k,t,j⟩);have r:=zh (show zAM w2 1 (.slice p n c) n (zAQ l) by have:=H.o.below j;unfold zAY at this;rwa[E.o]at this);clear k t j;generalize s:(zDf (n:Int)).length=v at *;have D:=zh s;clear s;have g:=zW (OwnR w2 5 1 (.slice C v z) v (zAQ (zDf (n:Int)))) (by have:=m.o.own;unfold zAk at this;rwa[D.o]at this);go_wp2_with (at_builtin;refine zAP _ rfl (.tmp 5) (.tmp 6) 22 rfl 5 M (.int .u8 0) 1 1 underlying22 I h A B rfl (by decide) (.slice C v z) v _ rfl g.o (.slice p n c) n _ rfl r.o (zAO _) (by unfold maxLen;omega) (by omega) ?_;intro P w3 d b f;go_loud (have y:=zh (zCm.grown (x:=l) m.o (by rw[D.o,E.o];exact d) b f);clear b f;obtain⟨N,O,rfl⟩:=OwnR.shape d;clear d))
 go_ret;rw[←G.o];exact y.o.told
def entC0 (e:Ent):Bs:=zAp [e.term,e.kind]++zE5 e.data++zDq e.nodes
theorem entB_is {n:Nat}(h:n≤4611686018427387904)(e:Ent):[3]++zDf (n:Int)++entC0 e=zEt n e:=by
 unfold entC0 zEt;rw[zB8 h];simp[zAp]
theorem rentC_calls {w:World}{e:Ent}{v:EV}(h:zBS w e v)(aC:zAt e=true) :
  Calls prog 171 #[zDx e v] w (zBf w (entC0 e)):=by
 obtain⟨i0,hi,an,ao,ap⟩:=info_parts (show(prog.info? 5).map (fun i=>(i.zero,i.size,i.bytes))=some (some (.int .u8 0),1,1) by kernel_rfl);have hf:=zBN aC;obtain⟨t,k,g,l⟩:=e;obtain⟨v1,v2⟩:=v;obtain⟨A,s,e1⟩:=h.data.slice;obtain⟨m,j,e2⟩:=h.nodes.slice;have e1:v1=.slice A g.length s:=e1;have e2:v2=.slice m l.length j:=e2;subst e1;subst e2;dsimp only at hf;have hz:∀z∈l,-9223372036854775808≤z∧z≤9223372036854775807:=fun z hz=>by have:=hf.2.2.2.2 z hz;omega
 have E:=zAC w (zEn t k (.slice A g.length s) (.slice m l.length j));have D:(w.alloc (zEn t k (.slice A g.length s) (.slice m l.length j))).heap[w.heap.size]?=some (zEn t k (.slice A g.length s) (.slice m l.length j)):=zAJ w _;have ai:=h.data.below E;have al:=zAM.chg h.nodes (Chg.of_below E) fun _ _=>id;clear h;unfold zDx;dsimp only;have Hf:=zh hf;have aE:g.length≤65536:=hf.2.2.1;have aF:l.length≤7:=hf.2.2.2.1;generalize aj:g.length=L at *;generalize ak:l.length=n2 at *;have C:=zh aj;have Q:=zh ak;have HZ:=zh hz;clear aj ak hz
 go_enter func171,ntmps171
 have aA:=zAd D;have aB:=zAn D;have Z:=zh (zB5 (w:=(w.alloc (zEn t k (.slice A L s) (.slice m n2 j))).alloc (.cells #[.int .i64 t,.int .i64 k] 3)) (p:=some ⟨w.heap.size+1,0,none⟩) (n:=2) (c:=2) (zs:=[t,k]) ⟨by simp,some ⟨w.heap.size+1,0,none⟩,2,rfl,fun e=>(by cases e),fun a ha i u hu=>by
  cases ha;rw[add_zero];refine zAG (by have:=zAJ (w.alloc (zEn t k (.slice A L s) (.slice m n2 j))) (.cells #[.int .i64 t,.int .i64 k] 3);simpa using this) ?_;simpa using hu⟩ (by simp;have:=Hf.o;omega) (by simp))
 have P:=zh E;have B:=zh D;have ax:=zh ai;have az:=zh al;have aG:(zAp [t,k]).length≤18:=by have:=zA9 [t,k];simpa using this
 have aH:(zE5 g).length≤9+L:=by
  have:=zAg (n:=g.length) (by have:=C.o;omega);unfold zE5;rw[List.length_append,C.o];rw[C.o]at this;omega
 have aI:=zGD l (by have:=Q.o;omega);clear aA aB D E ai al;go_wp2_with fail;refine Z.o.mono ?_;rintro r w2 ⟨x,rfl,S,am,af⟩;obtain⟨px,cx,rfl,-⟩:=zAN S;have F:Below (w.alloc (zEn t k (.slice A L s) (.slice m n2 j))).heap.size (w.alloc (zEn t k (.slice A L s) (.slice m n2 j))) w2:=(zAC _ (.cells #[.int .i64 t,.int .i64 k] 3)).trans (af.mono (zAC _ _).size);have J:∀y,(Value.slice px (zAp [t,k]).length cx).ownBlock=some y→(w.alloc (zEn t k (.slice A L s) (.slice m n2 j))).heap.size≤y:=fun y T=>Nat.le_trans (zAC _ _).size (am y T);clear am af;generalize w.alloc (zEn t k (.slice A L s) (.slice m n2 j))=W1 at *;have au:=zW (zCm W1 w2 (.slice px (zAp [t,k]).length cx) (zAp [t,k])) (⟨S,J,F⟩);have aa:=(F.block _ (zAB B.o)).trans B.o;have aw:=zh (zGR (p:=A) (n:=L) (c:=s) (zAY.below ax.o F) (by rw[C.o];omega));have d2:=zAo aa;clear S J F aa;generalize ac:(zAp [t,k]).length=G at *;have N:=zh ac;clear ac;go_wp2_with fail;refine aw.o.mono ?_;rintro r w3 ⟨y,rfl,T,aD,ag⟩;have HY:=zh (zAk.has T);obtain⟨py,cy,rfl,-⟩:=zAN T;have X:=zh (au.o.next ag);clear T aD ag d2;generalize ad:(zE5 g).length=H at *;have O:=zh ad;clear ad;have q:=zW (OwnR w3 5 1 (.slice px G cx) G (zAQ (zAp [t,k]))) (by have:=X.o.own;unfold zAk at this;rwa[N.o]at this);have I:=zW (zAM w3 1 (.slice py H cy) H (zAQ (zE5 g))) (by have:=HY.o;unfold zAY at this;rwa[O.o]at this);go_wp2_with (at_builtin;refine zAP _ rfl (.tmp 10) (.tmp 13) 22 rfl 5 i0 (.int .u8 0) 1 1 underlying22 hi an ao ap rfl (by decide) (.slice px G cx) G _ rfl q.o (.slice py H cy) H _ rfl I.o (zAO _) (by unfold maxLen;omega) (by omega) ?_;intro v4 w4 d b f;go_loud (have M:=zh (zCm.grown (x:=zE5 g) X.o (by rw[N.o,O.o];exact d) b f);clear b f;obtain⟨p4,q4,rfl⟩:=OwnR.shape d;clear d;have ab:=(M.o.bel.block _ (zAB B.o)).trans B.o;have d3:=zBI ab;have ay:=zh (zC6 (p:=m) (n:=n2) (c:=j) (show zBg w4 (.slice m n2 j) l by unfold zBg;rw[Q.o];exact zAM.chg az.o (Chg.of_below M.o.bel) fun _ _=>id) HZ.o (by have:=Q.o;omega));clear ab q I))
 refine ay.o.mono ?_;rintro r w5 ⟨z,rfl,U,aq,ah⟩;have av:=zh (zAk.has U);obtain⟨pz,cz,rfl,-⟩:=zAN U;have Y:=zh (M.o.next ah);have V:=zh (show(zAp [t,k]++zE5 g).length=G+H by rw[List.length_append,N.o,O.o]);clear U aq ah d3;generalize ae:(zDq l).length=m6 at *;have W:=zh ae;clear ae;have R:=zW (OwnR w5 5 1 (.slice p4 (G+H) q4) (G+H) (zAQ (zAp [t,k]++zE5 g))) (by have:=Y.o.own;unfold zAk at this;rwa[V.o]at this);have K:=zW (zAM w5 1 (.slice pz m6 cz) m6 (zAQ (zDq l))) (by have:=av.o;unfold zAY at this;rwa[W.o]at this);go_wp2_with (at_builtin;refine zAP _ rfl (.tmp 15) (.tmp 18) 22 rfl 5 i0 (.int .u8 0) 1 1 underlying22 hi an ao ap rfl (by decide) (.slice p4 (G+H) q4) (G+H) _ rfl R.o (.slice pz m6 cz) m6 _ rfl K.o (zAO _) (by unfold maxLen;omega) (by omega) ?_;intro v7 w7 d b f;go_loud (have ar:=zh (zCm.grown (x:=zDq l) Y.o (by rw[V.o,W.o];exact d) b f);clear b f;obtain⟨p7,q7,rfl⟩:=OwnR.shape d;clear d))
 go_ret;have hE:=ar.o;exact⟨_,rfl,hE.own,fun y T=>Nat.le_trans P.o.size (hE.new y T),P.o.trans (hE.bel.mono P.o.size)⟩
theorem rentry_calls {w:World}{e:Ent}{v:EV}(h:zBS w e v)(D:zAt e=true){n:Nat}(hn:n≤4611686018427387904) :
  Calls prog 113 #[.int .i64 (n:Int),zDx e v] w (zBf w (zAK (zEt n e))):=by
 obtain⟨i0,hi,ai,aj,ak⟩:=info_parts (show(prog.info? 5).map (fun i=>(i.zero,i.size,i.bytes))=some (some (.int .u8 0),1,1) by kernel_rfl);have a:=zEu hn D;have hf:=zBN D;obtain⟨t,k,J,L⟩:=e;obtain⟨v1,v2⟩:=v;obtain⟨M,H,e1⟩:=h.data.slice;obtain⟨N,I,e2⟩:=h.nodes.slice;have e1:v1=.slice M J.length H:=e1;have e2:v2=.slice N L.length I:=e2;subst e1;subst e2;dsimp only at hf a;generalize av:J.length=X at *;generalize aw:L.length=n2 at *;have T:=zAC w (zEn t k (.slice M X H) (.slice N n2 I));have ac:(w.alloc (zEn t k (.slice M X H) (.slice N n2 I))).heap[w.heap.size]?=some (zEn t k (.slice M X H) (.slice N n2 I)):=zAJ w _;have hh:=h.below T;have HT:=zh (entB_is hn ⟨t,k,J,L⟩);have E:=zh a;have Hf:=zh hf;have S:=zh T;have Y:=zh ac;have Hh:=zh hh;have aq:=zh D;have az:(zDf (n:Int)).length≤9:=zBK _;have K:=zh (rowB_lit (w.alloc (zEn t k (.slice M X H) (.slice N n2 I))) 3);have aa:=zh (zEa ((w.alloc (zEn t k (.slice M X H) (.slice N n2 I))).alloc (.cells #[.int .u8 3] 5)) (n:Int) (by omega));clear av aw T ac hh a hf h D;unfold zDx;dsimp only
 go_enter func113,ntmps113
 go_wp2_with fail;refine aa.o.mono ?_;rintro r w2 ⟨x,rfl,U,ax,ae⟩;have ar:(w.alloc (zEn t k (.slice M X H) (.slice N n2 I))).heap.size=w.heap.size+1:=by simp
 generalize w.alloc (zEn t k (.slice M X H) (.slice N n2 I))=W1 at *;have R:=zh (K.o.next ae);have an:=zh (zAk.has U);obtain⟨px,cx,rfl,-⟩:=zAN U;clear U ax ae;generalize ad:(zDf (n:Int)).length=A at *;have P:=zh ad;have am:=zW (([3]:Bs).length=1) rfl;have g:=zW (OwnR w2 5 1 (.slice (some ⟨W1.heap.size,0,none⟩) 1 1) 1 (zAQ [3])) R.o.own;have F:=zh (show zAM w2 1 (.slice px A cx) A (zAQ (zDf (n:Int))) by have:=an.o;unfold zAY at this;rwa[P.o]at this);clear ad;rw[ar]at g R;go_wp2_with (at_builtin;refine zAP _ rfl (.tmp 6) (.tmp 8) 22 rfl 5 i0 (.int .u8 0) 1 1 underlying22 hi ai aj ak rfl (by decide) (.slice (some ⟨w.heap.size+1,0,none⟩) 1 1) 1 _ rfl g.o (.slice px A cx) A _ rfl F.o (zAO _) (by unfold maxLen;omega) (by omega) ?_;intro v4 w4 d b f;go_loud (have O:=zh (zCm.grown (x:=zDf (n:Int)) R.o (by rw[am.o,P.o];exact d) b f);clear b f;obtain⟨p4,q4,rfl⟩:=OwnR.shape d;clear d;have s:=(O.o.bel.block _ (zAB Y.o)).trans Y.o;have d0:=zAd s;have d1:=zAn s;have d2:=zAo s;have d3:=zBI s;have ap:=zh (rentC_calls (Hh.o.below O.o.bel) aq.o);clear s g F))
 refine ap.o.mono ?_;rintro r w5 ⟨z,rfl,V,al,af⟩;have ao:=zh (zAk.has V);obtain⟨pz,cz,rfl,-⟩:=zAN V;have Z:=zh (O.o.next af);have j:=zh (show([3]++zDf (n:Int):Bs).length=1+A by rw[List.length_append,P.o];rfl);clear V al af d0 d1 d2 d3;generalize C:(entC0 ⟨t,k,J,L⟩).length=W at *;have Q:=zh C;have ay:W≤1048000:=by
  have h1:=congrArg List.length HT.o;rw[List.length_append,j.o,C]at h1;have h2:=E.o;have h3:=Hf.o;omega
 have au:1+A+W≤1048576:=by
  have h1:=congrArg List.length HT.o;rw[List.length_append,j.o,C]at h1;have h2:=E.o;have h3:=Hf.o;omega
 clear C;have q:=zW (OwnR w5 5 1 (.slice p4 (1+A) q4) (1+A) (zAQ ([3]++zDf (n:Int)))) (by have:=Z.o.own;unfold zAk at this;rwa[j.o]at this);have G:=zW (zAM w5 1 (.slice pz W cz) W (zAQ (entC0 ⟨t,k,J,L⟩))) (by have:=ao.o;unfold zAY at this;rwa[Q.o]at this);go_wp2_with (at_builtin;refine zAP _ rfl (.tmp 10) (.tmp 12) 22 rfl 5 i0 (.int .u8 0) 1 1 underlying22 hi ai aj ak rfl (by decide) (.slice p4 (1+A) q4) (1+A) _ rfl q.o (.slice pz W cz) W _ rfl G.o (zAO _) (by unfold maxLen;omega) (by omega) ?_;intro v7 w7 d b f;go_loud (have B:=zh (zCm.grown (x:=entC0 ⟨t,k,J,L⟩) Z.o (by rw[j.o,Q.o];exact d) b f);clear b f;obtain⟨p7,q7,rfl⟩:=OwnR.shape d;clear d;have ab:=zh (zBp (p:=p7) (m:=1+A+W) (c:=q7) (l:=zEt n ⟨t,k,J,L⟩) (by have:=B.o.own.has;rw[HT.o]at this;exact this) (by rw[←HT.o,List.length_append,j.o,Q.o];exact au));clear q G))
 refine ab.o.mono ?_;rintro r w8 ⟨y,rfl,hy,ah,ag⟩;have HF:=zW (zBf w (zAK (zEt n ⟨t,k,J,L⟩)) (.returned y) w8) (⟨y,rfl,hy,fun x hx=>Nat.le_trans S.o.size (Nat.le_trans B.o.bel.size (ah x hx)),S.o.trans ((B.o.bel.trans (ag.mono B.o.bel.size)).mono S.o.size)⟩);clear hy ah ag;go_wp2_with fail;go_ret;exact HF.o
section
variable {w1:World} {j r:Nat} {pre:ByteArray} {D:zAA} {M:zAH} {Hot Cold:Nat→Prop}
theorem rj_same (h:RJF w1 j r pre D M Hot Cold){k:Nat}{b:zDS}(d:b=⟨D,M,k⟩){w2:World}(c:Below w1.heap.size w1 w2):zB1 w1 j r pre Hot Cold b (.returned (.int .i64 (k:Int))) w2:=by
 subst d;exact⟨rfl,h.stepB c⟩
theorem rj_new {w2:World}(h:RJF w1 j r pre D M Hot Cold){y:Value}{l:Bs}{e:TypeId}(d:zAk w2 e y l)(hn:∀k,y.ownBlock=some k→w1.heap.size≤k):∀k,y.ownBlock=some k→¬Hot k∧k<w2.heap.size :=
 fun k b=>⟨fun c=>by have:=h.hlt c;have:=hn k b;omega,OwnR.lt d b⟩
theorem rjterm_calls (h:RJF w1 j r pre D M Hot Cold)(t v:Int)(ht:-9223372036854775808≤t∧t≤9223372036854775807)(hv:-9223372036854775808≤v∧v≤9223372036854775807) :
  Calls prog 45 #[.pointer (some ⟨j,0,none⟩),.int .i64 t,.int .i64 v] w1 (zB1 w1 j r pre Hot Cold (zA2 (nm pre) D M t v)):=by
 obtain⟨R,dv,Q,m⟩:=h.cellsD;have c5:w1.cell? ⟨j,5,none⟩=some (.int .i64 M.now):=zAG m rfl;have c6:w1.cell? ⟨j,6,none⟩=some (.int .i64 M.vote):=zAG m rfl;have c9:w1.cell? ⟨j,9,none⟩=some (.bool M.dead):=zAG m rfl;have aa:=h.okM;have s:=zh (fun k (hr:zA2 (nm pre) D M t v=⟨D,M,k⟩)=>rj_same h hr (Below.refl _ _));have HR:=zW (zA2 (nm pre) D M t v=if M.dead then⟨D,M,9⟩else if M.mayVote t v=false then⟨D,M,1⟩else if t=M.now∧v=M.vote then⟨D,M,0⟩else zBw (nm pre) D M [zCV t v] {M with now:=t,vote:=v}) rfl;have H:=zh h;have c:=zh aa;have n:=zW (M.mayVote t v=(decide (M.now≤t∧t≤1099511627776∧-1≤v∧v<7)&& !decide (t=M.now∧M.vote≠-1∧v≠M.vote))) rfl;clear h aa m;generalize zA2 (nm pre) D M t v=q at *;cases hd:M.dead with
 | true =>
  rw[hd]at c9;have g:=zh (s.o 9 (by rw[HR.o,hd];rfl));clear c5 c6
  go_enter func45,ntmps45
  go_wp2_with fail;go_ret;exact g.o
 | false =>
  rw[hd]at c9;have U:=zW (q=if M.mayVote t v=false then⟨D,M,1⟩else if t=M.now∧v=M.vote then⟨D,M,0⟩else zBw (nm pre) D M [zCV t v] {M with now:=t,vote:=v}) (by rw[HR.o,hd];rfl);have z:=zh (fun hm:M.mayVote t v=false=>s.o 1 (by rw[U.o,if_pos hm]));generalize a:M.now=now at *;generalize B:M.vote=vote at *
  by_cases I:t<now
  ·have d1:decide (t<now)=true:=decide_eq_true I;have g:=zh (z.o (by rw[n.o,decide_eq_false (by omega)];rfl))
   go_enter func45,ntmps45
   go_wp2_with fail;go_ret;exact g.o
  ·have d1:decide (t<now)=false:=decide_eq_false I
   by_cases S:1099511627776<t
   ·have d2:decide (1099511627776<t)=true:=decide_eq_true S;have g:=zh (z.o (by rw[n.o,decide_eq_false (by omega)];rfl))
    go_enter func45,ntmps45
    go_wp2_with fail;go_ret;exact g.o
   ·have d2:decide (1099511627776<t)=false:=decide_eq_false S
    by_cases h3:v < -1
    ·have d3:decide (v < -1)=true:=decide_eq_true h3;have g:=zh (z.o (by rw[n.o,decide_eq_false (by omega)];rfl))
     go_enter func45,ntmps45
     go_wp2_with fail;go_ret;exact g.o
    ·have d3:decide (v < -1)=false:=decide_eq_false h3
     by_cases h4:7≤v
     ·have d4:decide (7≤v)=true:=decide_eq_true h4;have g:=zh (z.o (by rw[n.o,decide_eq_false (by omega)];rfl))
      go_enter func45,ntmps45
      go_wp2_with fail;go_ret;exact g.o
     ·have d4:decide (7≤v)=false:=decide_eq_false h4;have f:decide (now≤t∧t≤1099511627776∧-1≤v∧v<7)=true:=decide_eq_true (by omega);rw[f,Bool.true_and]at n
      by_cases T:t=now∧vote≠-1∧v≠vote
      ·have g:=zh (z.o (by rw[n.o,decide_eq_true T];rfl));obtain⟨rfl,X,Y⟩:=T;have d5:(vote != -1)=true:=by simpa using X
       have d6:(v != vote)=true:=by simpa using Y
       clear X Y I f
       go_enter func45,ntmps45
       go_wp2_with fail;go_ret;exact g.o
      ·have V:=zW (q=if t=now∧v=vote then⟨D,M,0⟩else zBw (nm pre) D M [zCV t v] {M with now:=t,vote:=v}) (by rw[U.o,if_neg (by rw[n.o,decide_eq_false T];simp)])
       by_cases K:t=now∧v=vote
       ·have g:=zh (s.o 0 (by rw[V.o,if_pos K]));obtain⟨rfl,rfl⟩:=K;have d6:(v != v)=false:=by simp
        clear T I f
        by_cases O:v=-1
        ·have d7:(v != -1)=false:=by simp[O]
         clear O
         go_enter func45,ntmps45
         go_wp2_with fail;go_ret;exact g.o
        ·have d7:(v != -1)=true:=by simpa using O
         clear O
         go_enter func45,ntmps45
         go_wp2_with fail;go_ret;exact g.o
       ·have E:=zW (q=zBw (nm pre) D M [zCV t v] {M with now:=t,vote:=v}) (by rw[V.o,if_neg K]);have W:=zh (rterms_calls w1 t v ht (by omega));have G:=zh a
        by_cases O:t=now
        focus
         subst O;obtain rfl:vote=-1:=by omega
         have d5:((-1:Int) != -1)=false:=by decide
         have d7:(v== -1)=false:=by simp;omega
        rotate_left
        focus have d5:(t==now)=false:=by simpa using O
        all_goals
         clear T K f a B;go_enter func45,ntmps45;go_wp2_with fail;refine W.o.mono ?_;rintro e w2 ⟨y,rfl,F,C,p⟩;obtain⟨py,cy,rfl,-⟩:=zAN F;have l:=zh (zEZ (H.o.below p) F.has (by rw[zAe];have:=zDJ t v;omega) (rj_new H.o F C));have J:=zh p;clear F C p c5 c6 c9;generalize (zAK (zCV t v)).length=ly at *;rw[←zCJ]at l;have L:=zW (zBw (nm pre) D M [zCV t v] {M with now:=t,vote:=v}=if(layOn D (zAm (nm pre)) (zAL [zCV t v])).2≠0 then⟨(layOn D (zAm (nm pre)) (zAL [zCV t v])).1,M.die,(layOn D (zAm (nm pre)) (zAL [zCV t v])).2⟩else⟨(layOn D (zAm (nm pre)) (zAL [zCV t v])).1,{M with now:=t,vote:=v},0⟩) rfl;generalize layOn D (zAm (nm pre)) (zAL [zCV t v])=Z at *;obtain⟨D2,N⟩:=Z;dsimp only at l L;go_wp2_with fail;refine l.o.mono ?_;rintro e w3 ⟨rfl,A⟩;have d:=zh (A.since J.o);clear A l;by_cases P:N=0
         ·subst P;rw[zBo]at d;obtain⟨ad,ab,ac,b⟩:∃R dv Q,w3.heap[j]?=some (RJC r (M.number:Int) M.term R pre M.now M.vote dv Q M.dead):=by
           obtain⟨_,_,hF,-⟩:=d.o;exact hF.cellsD
          have f3:=fun i=>zAE b i;have q5:w3.cell? ⟨j,5,none⟩=some (.int .i64 M.now):=zAG b rfl;have q6:w3.cell? ⟨j,6,none⟩=some (.int .i64 M.vote):=zAG b rfl;have g:=zW (zB1 w1 j r pre Hot Cold q (.returned (.int .i64 0)) ((w3.setCell ⟨j,5,none⟩ (.int .i64 t)).setCell ⟨j,6,none⟩ (.int .i64 v))) (by
           rw[E.o,L.o,if_neg (by simp)];refine⟨rfl,zAs.trans d.o fun _ _ hF=>hF.set ((Chg.setCell w3 ⟨j,5,none⟩ _).trans (Chg.setCell _ ⟨j,6,none⟩ _) fun _ _ e=>e) (fun R dv Q hc=>?_) rfl rfl rfl ⟨c.o.last,c.o.term,c.o.group,zAl.2 ⟨?_,?_⟩,⟨?_,?_⟩,c.o.data,c.o.ents⟩⟩
           ·have I:=zAD hc 5 (.int .i64 t);have S:=zAD I 6 (.int .i64 v);simpa using S
           ·have h8:=(zAl.1 c.o.now).1;have h9:M.now≤t:=by
             have:=G.o;omega
            show 0≤t
            omega
           ·show t≤1099511627776
            omega
           ·show -1≤v
            omega
           ·show v<7
            omega)
          clear b;go_wp2_with fail;go_ret;exact g.o
         ·have ae:((N:Int)==0)=false:=by simp;omega
          have g:=zW (zB1 w1 j r pre Hot Cold q (.returned (.int .i64 (N:Int))) w3) (by
           rw[E.o,L.o,if_pos P];rw[zB3 M P]at d;exact⟨rfl,d.o⟩)
          go_wp2_with fail;go_ret;exact g.o
end
end Go.Proofs.YtapfnehdgailmaaGreat
