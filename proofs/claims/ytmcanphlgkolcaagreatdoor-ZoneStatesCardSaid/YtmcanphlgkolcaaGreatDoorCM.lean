/- What the program's functions and the document's do, and plain laws, for PZoneStates. -/
import Derived.Test.YtmcanphlgkolcaaGreatDoorCB
import Derived.Test.YtmcanphlgkolcaaGreatDoorCE
import Derived.Test.YtmcanphlgkolcaaGreatDoorCJ
import Derived.Test.YtmcanphlgkolcaaGreatDoorCL
open Go.Proofs.Tryz
set_option maxRecDepth 100000
set_option maxHeartbeats 64000000
namespace Go.Proofs.YtmcanphlgkolcaaGreatDoor
open Go.RowKit Go.Sat Go.Maps
def bookC:Array Value:=#[.slice none 0 0,.slice none 0 0,.slice none 0 0,.slice none 0 0,.slice none 0 0,.slice none 0 0,.slice none 0 0,.slice none 0 0,.int .i64 0]
theorem bookC_nil {i:Nat}(h:i<8):bookC[i]?=some (.slice none 0 0):=by
 rcases(by omega:i=0∨i=1∨i=2∨i=3∨i=4∨i=5∨i=6∨i=7)with rfl|rfl|rfl|rfl|rfl|rfl|rfl|rfl<;>rfl
theorem bof1_calls {w:World}{g c:Nat}{fr:Nat×Nat}{t:TypeId}{q:Int}{p:ByteArray}{buy:Bool}{m f j:Int}(hg:w.heap[g]?=some (.cells (zD8 q p buy m f j).toArray t fr))(Y:1≤q∧q≤1099511627776)(h2:1≤p.size∧p.size≤16)(S:1≤m∧m<4)(h4:1≤f∧f≤1048576)(h5:1≤j∧j≤1024) :
  Calls prog 182 #[.slice (some ⟨g,0,none⟩) 1 c] w fun e w'=>∃v,e=.returned (.tuple #[v,.int .i64 0])∧Below w.heap.size w w':=by
 have HM:=zh (fun W=>bmay_calls W (buy:=buy) Y h2 S h4 h5);have HD:=zh (fun W bb b=>bside_calls W (bb:=bb) S b);have V:=zh (And.intro hg (And.intro Y S));have HN:=zh (zEY w);clear hg Y h2 S h4 h5
 go_enter func182,ntmps182
 go_wp2_with fail;refine HN.o.mono ?_;rintro e P ⟨rfl,E⟩;have H1:=zW (P.heap[w.heap.size]?=some zD7∧Below w.heap.size w P∧P.heap[g]?=some (.cells (zD8 q p buy m f j).toArray t fr)) (by subst E;exact⟨zAF w _,zAC w _,zAW _ V.o.1⟩);clear E;go_wp2_with fail
 go_loopw [14] (fun i wr=>∃k:Nat,k≤1∧i=.int .i64 k∧(k=0→wr=P)∧Below w.heap.size w wr) (fun i _=>1-(intOf i).toNat)
 case atStart=>exact⟨0,by omega,rfl,fun _=>rfl,H1.o.2.1⟩
 case round =>
  obtain⟨k,hk,rfl,D,hb⟩:=hrel;rcases(by omega:k=1∨k=0)with rfl|rfl
  ·have HB:=zh hb;clear D hb;go_wp2_with fail
   go_ret2
   exact⟨_,rfl,HB.o⟩
  ·obtain rfl:=(D rfl);clear hb D
   go_upto_region 7 with(first
    | (refine zA1 rfl 237 (.tmp 16) rfl g rfl (L:=zD8 q p buy m f j) H1.o.2.2 underlying237 rfl (by kernel_rfl) ?_)
    | (refine zAe rfl 237 rfl (zeroValue237 _) (by decide) ?_;intro W2 hn F N;have T:=zh (And.intro hn (And.intro F N));clear hn F N)
    | (refine zAg rfl 237 (.tmp 6) (.tmp 17) rfl wr.heap.size rfl (L:=zD8 q p buy m f j) rfl T.o.1 rfl (by kernel_rfl) (by intro v hv;unfold zD8 at hv;simp only[List.mem_cons,List.not_mem_nil,or_false]at hv;rcases hv with rfl|rfl|rfl|rfl|rfl|rfl<;>rfl) ?_;intro Q hn hc;have H3:=zh (And.intro hn (zAY T.o.2.1 hc (Nat.le_refl _)));clear hn hc T))
   try simp only[uZ]
   have r:=(H3.o.2.block _ (zAA H1.o.1)).trans H1.o.1;have R:=zAB r (i:=8) (v:=.int .i64 0) rfl;refine ost (fun W':World=>W'.heap[wr.heap.size]?=some (.cells (zD8 q p buy m f j).toArray 237 (0,0))∧W'.cell? ⟨w.heap.size,8,none⟩=some (.int .i64 0)) 12 ⟨H3.o.1,R⟩ fun d=>?_;have O:=zW (Q.drew.heap[w.heap.size]?=some zD7∧Below w.heap.size w Q.drew) (⟨r,H1.o.2.1.trans ((H3.o.2.trans ((zAG Q).mono H3.o.2.size)).mono H1.o.2.1.size)⟩);clear R r;generalize Q.drew=W4 at *;refine Pl [0] ?_;refine Pd rfl (by intro w' n;exact zBr 237 (.tmp 6) rfl rfl n.1 underlying237 rfl (by kernel_rfl)) ?_;simp only[uZ];refine Pn ?_;refine oon 1 rfl fun K z=>?_;go_wp2_with fail;refine(HM.o _).mono ?_;rintro e y ⟨rfl,s⟩;have a:=zW (y.heap[w.heap.size]?=some zD7∧Below w.heap.size w y) (⟨(s.block _ (zAA O.o.1)).trans O.o.1,O.o.2.trans (s.mono O.o.2.size)⟩);have G:=And.intro ((s.block _ (zAA d.1)).trans d.1) ((s.cell (World.block_lt_of_cell? _ _ d.2)).trans d.2);clear s d;go_wp2_with fail;refine z.o _ _ G fun d=>?_;clear z G
   try simp only[uZ]
   refine Pl [2,3,4,5,6,7,8,9,10,11] ?_
   iterate 10 (refine Pd rfl (by intro w' n;have q0:=zAB n.1 (i:=0) (v:=.int .i64 q) rfl;have q1:=n.2;have q2:=V.o.2.1;go_simp;try with_reducible rfl) ?_;simp only[uZ])
   refine Pn ?_;refine odn ?_;have ab:decide (q≤0)=false:=decide_eq_false (by have:=V.o.2.1;omega);simp only[ab];have b2:=zAB d.1 (i:=2) (v:=.bool buy) rfl;have b3:=zAB d.1 (i:=3) (v:=.int .i64 m) rfl;go_wp2_with fail;refine(HD.o _ _ _).mono ?_;rintro e A ⟨ae,ac,rfl,Z⟩;obtain rfl:y=A:=Z.symm
   go_upto_region 10 with(fail)
   try simp only[uZ]
   have U:=zW (y.drew.heap[w.heap.size]?=some zD7∧Below w.heap.size w y.drew∧y.drew.heap[wr.heap.size]?=some (.cells (zD8 q p buy m f j).toArray 237 (0,0))) (⟨a.out.1,a.out.2.trans ((zAG y).mono a.out.2.size),d.1⟩);clear d b2 b3;refine ost (fun W':World=>W'.heap[wr.heap.size]?=some (.cells (zD8 q p buy m f j).toArray 237 (0,0))∧W'.heap[w.heap.size]?=some zD7) 14 ⟨U.o.2.2,U.o.1⟩ fun d=>?_;generalize y.drew=A at *;refine Pl [0,1,2,3,4,5,6,7,8,9,10,11,12,13] ?_
   iterate 2 (refine Pc rfl ?_;simp only[uZ])
   refine Pd rfl (by intro w' n;have q0:w'.cell? ⟨w.heap.size,ae,none⟩=some (.slice none 0 0):=zAB n.2 (bookC_nil ac);go_simp;try with_reducible rfl) ?_;simp only[uZ]
   iterate 3 (refine Pd rfl (by intro w' n;go_simp;try with_reducible rfl) ?_;simp only[uZ])
   iterate 7 (refine Ps rfl ?_;simp only[uZ])
   iterate 1 (refine Pd rfl (by intro w' n;go_simp;try with_reducible rfl) ?_;simp only[uZ])
   refine Pn ?_;refine odn ?_;have R:=zAB d.2 (i:=8) (v:=.int .i64 0) rfl;have f8:=zAE d.2 8;have b0:=zAB d.1 (i:=0) (v:=.int .i64 q) rfl
   go_upto_region 13 with(fail)
   try simp only[uZ]
   have r:=zAH d.2 8 (.int .i64 q);have C:Chg (fun k=>k=w.heap.size) A (A.setCell ⟨w.heap.size,8,none⟩ (.int .i64 q)):=Chg.setCell A ⟨w.heap.size,8,none⟩ _;have M:=(C.block _ (zAA d.1) (by have:=H1.o.1;have:=zAA this;omega)).trans d.1;have H7:=zW (Below w.heap.size w (A.setCell ⟨w.heap.size,8,none⟩ (.int .i64 q)).drew) ((zAY U.o.2.1 C (Nat.le_refl _)).trans ((zAG _).mono (by have:=zAA d.2;simp;omega)));clear R f8 b0 d C;generalize A.setCell ⟨w.heap.size,8,none⟩ (.int .i64 q)=W7 at *;refine ost (fun W':World=>W'.heap[wr.heap.size]?=some (.cells (zD8 q p buy m f j).toArray 237 (0,0))) 10 M fun d=>?_;have H8:=zW (W7.drew.heap[w.heap.size]?=some (.cells (bookC.setIfInBounds 8 (.int .i64 q)) 306 (0,0))) r;clear M r;generalize W7.drew=W8 at *;refine Pl [0,1,2,3,4,7,8] ?_
   iterate 5 (refine Pd rfl (by intro w' n;have p2:=zAB n (i:=2) (v:=.bool buy) rfl;have p3:=zAB n (i:=3) (v:=.int .i64 m) rfl;go_simp;try with_reducible rfl) ?_;simp only[uZ])
   refine Pd rfl (by intro w' n;exact zBr 237 (.tmp 6) rfl rfl n underlying237 rfl (by kernel_rfl)) ?_;simp only[uZ];refine Pd rfl (by intro w' n;go_simp;try with_reducible rfl) ?_;simp only[uZ];refine Pn ?_;refine oon 5 rfl fun K z=>?_;go_wp2_with fail;refine(HD.o _ _ _).mono ?_;rintro e W9 ⟨af,J,rfl,aa⟩;obtain rfl:W8=W9:=aa.symm;go_wp2_with fail;refine z.o _ _ d fun d=>?_;clear z
   try simp only[uZ]
   refine Pl [6] ?_;refine Pd rfl (by intro w' n;go_simp;try with_reducible rfl) ?_;simp only[uZ];refine Pn ?_;have I:(bookC.setIfInBounds 8 (.int .i64 q))[af]?=some (.slice none 0 0):=by rw[Array.getElem?_setIfInBounds_ne (by omega)];exact bookC_nil J
   have X:=zh (hpush_calls H8.o I q p buy m f j);refine oon 9 rfl fun K z=>?_;go_wp2_with fail;refine X.o.mono ?_;rintro e W9 ⟨rfl,B⟩;have H9:=zh (zAY H7.o B (Nat.le_refl _));have ad:wr.heap.size≠w.heap.size:=by have:=zAA H1.o.1;omega
   have H:=(B.block _ (zAA d) ad).trans d;clear B d I;go_wp2_with fail;refine z.o _ _ H fun d=>?_;clear z H d
   try simp only[uZ]
   refine odn ?_;go_wp2_with fail;exact⟨⟨1,by decide,rfl,(fun h=>by cases h),H9.o⟩,by simp[intOf]⟩
end Go.Proofs.YtmcanphlgkolcaaGreatDoor
namespace Go.Sat
open Go Go.RowKit
theorem wpAnyH_more {P:Program}{k:Region.Mode}{c:Array Oper}{Q:Exit→Act→World→Prop}{S d:World→Prop}(j:∀w,d w→S w) :
  ∀(fuel:Nat) (b:Array Bool) (a:Act) (w:World),wpAnyH P k c Q d fuel b a w→wpAnyH P k c Q S fuel b a w
 | 0,_,_,_,h=>h
 | fuel+1,_,_,_,h=>⟨h.1,fun i n=>wpOp_mono (fun m w' f=>⟨j w' f.1,wpAnyH_more j fuel _ m w' f.2⟩) (h.2 i n)⟩
theorem ord_more {P:Program}{f:Region.Mode}{c:Array Oper}{Q:Exit→Act→World→Prop}{S:World→Prop}{fuel:Nat}{b:Array Bool}{a:Act}{w:World}(d:World→Prop)(j:d w)(i:∀w,d w→S w)(h:d w→wpAnyH P f c Q d fuel b a w):wpAnyH P f c Q S fuel b a w:=wpAnyH_more i _ _ _ _ (h j)
section
variable {P:Program} {op:Oper} {a:Act} {w:World} {K:Act→World→Prop} {Q:Exit→Act→World→Prop}
theorem zAy (ty:TypeId)(x y:Operand)(r:op.op=.store ty x y)(b o:Nat)(A:a.eval x=.pointer (some ⟨b,o,none⟩)){v:Value}(B:a.eval y=v)(L:List Value)(z:v.cells=L.toArray){c:Array Value}{t:TypeId}(j:w.heap[b]?=some (.cells c t (0,0)))
  (q:o+L.length≤c.size) (m:(P.info? ty).map (·.size)=some L.length) (p:∀v∈L,v.oneCell'=true) (h:∀w',w'.heap[b]?=some (.cells (c.toList.take o++L++c.toList.drop (o+L.length)).toArray t (0,0))→Chg (fun k=>k=b) w w'→K (a.put op.dst undef) w'):op.wp P a w K Q:=by
 have n:=run_storeCells_at P b o t L 0 c w j (by simpa using q) p;rw[Nat.add_zero]at n;have s:(storeVar ty ⟨b,o,none⟩ v).run P w=.ok () (w.setRow b (c.toList.take o++L++c.toList.drop (o+L.length)).toArray):=by
  cases f:P.info? ty with
  | none=>simp[f]at m
  | some i =>
   have C:i.size=L.length:=by simpa[f]using m
   simp[storeVar,sizeOf,typeInfo,f,z,C,n]
 unfold Oper.wp execOp;simp only[r,A,B,Instr.storeAt,Instr.sureAddr,Sem.run_bind,Sem.run_pure,Result.andThen_ok,s];refine h _ ?_ ⟨rfl,rfl,rfl,?_,fun k D d=>?_⟩
 ·simp only[World.setRow];rw[Array.getElem?_modify,if_pos rfl,j];rfl
 ·simp[World.setRow]
 ·simp only[World.setRow];rw[Array.getElem?_modify,if_neg fun e=>d e.symm]
end
end Go.Sat
namespace Go.Proofs.YtmcanphlgkolcaaGreatDoor
open Go.RowKit Go.Sat Go.Maps
def It.pos (y:It):Prop:=0<y.a∨0<y.b∨0<y.c∨0<y.d
theorem lessz_calls (w:World)(a b c d:Int)(m:0<a∨0<b∨0<c∨0<d) :
  Calls prog 228 #[.agg #[.int .i64 0,.int .i64 0,.int .i64 0,.int .i64 0],.agg #[.int .i64 a,.int .i64 b,.int .i64 c,.int .i64 d]] w (RetB true w):=by
 have p:=zh ((zAC w (It.o It.zero)).trans ((zAC (w.alloc (It.o It.zero)) (It.o ⟨a,b,c,d⟩)).mono (zAC w (It.o It.zero)).size));have n:=zh m;clear m
 go_enter func228,ntmps228
 go_wp2_with fail
 go_loop [5,6,8] (fun x y i=>∃k:Nat,k≤4∧i=.int .i64 k∧(0<k→¬0<a)∧(1<k→¬0<b)∧(2<k→¬0<c)∧(3<k→¬0<d)) (fun _ _ i=>4-(intOf i).toNat)
 case atStart=>exact⟨0,by omega,rfl,fun h=>by omega,fun h=>by omega,fun h=>by omega,fun h=>by omega⟩
 case round =>
  obtain⟨k,A,rfl,f,j,q,z⟩:=hrel;have r:=idx0 a b c d;have s:=idx1 a b c d;have t:=idx2 a b c d;have v:=idx3 a b c d;rcases(by omega:k=0∨k=1∨k=2∨k=3∨k=4)with rfl|rfl|rfl|rfl|rfl
  all_goals
   go_wp2_with fail
  all_goals first
   | (go_ret;exact⟨rfl,p.o⟩)
   | (exfalso;have:=n.o;omega)
   | exact⟨⟨1,by decide,rfl,fun _=>by omega,fun h=>by omega,fun h=>by omega,fun h=>by omega⟩,by simp[intOf]⟩
   | exact⟨⟨2,by decide,rfl,fun _=>f (by decide),fun _=>by omega,fun h=>by omega,fun h=>by omega⟩,by simp[intOf]⟩
   | exact⟨⟨3,by decide,rfl,fun _=>f (by decide),fun _=>j (by decide),fun _=>by omega,fun h=>by omega⟩,by simp[intOf]⟩
   | exact⟨⟨4,by decide,rfl,fun _=>f (by decide),fun _=>j (by decide),fun _=>q (by decide),fun _=>by omega⟩,by simp[intOf]⟩
theorem subz_calls (w:World)(y:It)(L:zBf y=true)(J:y.pos) :
  Calls prog 196 #[.agg #[.int .i64 0,.int .i64 0,.int .i64 0,.int .i64 0],.agg #[.int .i64 y.a,.int .i64 y.b,.int .i64 y.c,.int .i64 y.d]] w fun e w'=>e=.returned (.tuple #[.agg #[.int .i64 0,.int .i64 0,.int .i64 0,.int .i64 0],.bool false])∧Below w.heap.size w w':=by
 have G:=zh (fun W=>zBG W 0 0 0 0);have H:=zh (fun W=>zBG W y.a y.b y.c y.d);have M:=zh (fun W=>lessz_calls W y.a y.b y.c y.d J);have I:zBf ⟨y.a,y.b,y.c,y.d⟩=true:=L;rw[I]at H;rw[show zBf ⟨0,0,0,0⟩=true from rfl]at G;have n:=zAC w (It.o It.zero);have q:=zAC (w.alloc (It.o It.zero)) (It.o y);have r:=zAC ((w.alloc (It.o It.zero)).alloc (It.o y)) (It.o It.zero);have H3:=zW ((((w.alloc (It.o It.zero)).alloc (It.o y)).alloc (It.o It.zero)).heap[w.heap.size]?=some (It.o It.zero)∧(((w.alloc (It.o It.zero)).alloc (It.o y)).alloc (It.o It.zero)).heap[w.heap.size+1]?=some (It.o y)∧(((w.alloc (It.o It.zero)).alloc (It.o y)).alloc (It.o It.zero)).heap[w.heap.size+2]?=some (It.o It.zero)∧Below w.heap.size w (((w.alloc (It.o It.zero)).alloc (It.o y)).alloc (It.o It.zero))) (
  ⟨zAW _ (zAW _ (zAF w _)),zAW _ (by simpa using zAF (w.alloc (It.o It.zero)) (It.o y)),by simpa using zAF ((w.alloc (It.o It.zero)).alloc (It.o y)) (It.o It.zero),n.trans ((q.mono n.size).trans (r.mono (Nat.le_trans n.size q.size)))⟩)
 clear J L n q r I
 go_enter func196,ntmps196
 go_wp2_with fail;refine(G.o _).mono ?_;rintro e z ⟨rfl,f⟩;have j:=zW (z.heap[w.heap.size]?=some (It.o It.zero)∧z.heap[w.heap.size+1]?=some (It.o y)∧z.heap[w.heap.size+2]?=some (It.o It.zero)∧Below w.heap.size w z) (⟨(f.block _ (zAA H3.o.1)).trans H3.o.1,(f.block _ (zAA H3.o.2.1)).trans H3.o.2.1,(f.block _ (zAA H3.o.2.2.1)).trans H3.o.2.2.1,H3.o.2.2.2.trans (f.mono H3.o.2.2.2.size)⟩);clear f;have B:=zAB j.o.2.1 (i:=0) (v:=.int .i64 y.a) rfl;have C:=zAB j.o.2.1 (i:=1) (v:=.int .i64 y.b) rfl;have D:=zAB j.o.2.1 (i:=2) (v:=.int .i64 y.c) rfl;have E:=zAB j.o.2.1 (i:=3) (v:=.int .i64 y.d) rfl;go_wp2_with fail;refine(H.o _).mono ?_;rintro e h ⟨rfl,f⟩;have k:=zW (h.heap[w.heap.size]?=some (It.o It.zero)∧h.heap[w.heap.size+1]?=some (It.o y)∧h.heap[w.heap.size+2]?=some (It.o It.zero)∧Below w.heap.size w h) (⟨(f.block _ (zAA j.o.1)).trans j.o.1,(f.block _ (zAA j.o.2.1)).trans j.o.2.1,(f.block _ (zAA j.o.2.2.1)).trans j.o.2.2.1,j.o.2.2.2.trans (f.mono j.o.2.2.2.size)⟩);clear f B C D E;have N:=zAB k.o.1 (i:=0) (v:=.int .i64 0) rfl;have O:=zAB k.o.1 (i:=1) (v:=.int .i64 0) rfl;have P:=zAB k.o.1 (i:=2) (v:=.int .i64 0) rfl;have Q:=zAB k.o.1 (i:=3) (v:=.int .i64 0) rfl;have B:=zAB k.o.2.1 (i:=0) (v:=.int .i64 y.a) rfl;have C:=zAB k.o.2.1 (i:=1) (v:=.int .i64 y.b) rfl;have D:=zAB k.o.2.1 (i:=2) (v:=.int .i64 y.c) rfl;have E:=zAB k.o.2.1 (i:=3) (v:=.int .i64 y.d) rfl;go_wp2_with fail;refine(M.o _).mono ?_;rintro e A ⟨rfl,f⟩;have m:=zW (A.heap[w.heap.size+2]?=some (It.o It.zero)∧Below w.heap.size w A) (⟨(f.block _ (zAA k.o.2.2.1)).trans k.o.2.2.1,k.o.2.2.2.trans (f.mono k.o.2.2.2.size)⟩);clear f B C D E N O P Q;have R:=zAB m.o.1 (i:=0) (v:=.int .i64 0) rfl;have S:=zAB m.o.1 (i:=1) (v:=.int .i64 0) rfl;have T:=zAB m.o.1 (i:=2) (v:=.int .i64 0) rfl;have U:=zAB m.o.1 (i:=3) (v:=.int .i64 0) rfl;have V:=zAE m.o.1 0;have X:=zAE m.o.1 1;have Y:=zAE m.o.1 2;have Z:=zAE m.o.1 3;have t:=put4 m.o.1 (.int .i64 0) (.int .i64 0) (.int .i64 0) (.int .i64 0);have s:=chg4 A (w.heap.size+2) (.int .i64 0) (.int .i64 0) (.int .i64 0) (.int .i64 0);have F:=zh (And.intro t (zAY m.o.2 s (by omega)));clear t s;go_wp2_with fail;refine bodyPost_ret (zAS (p:=4) (u:=5) rfl _ _ (w.heap.size+2) _ _ (0,0) _ rfl F.o.1 underlying46 rfl (by kernel_rfl)) rfl ?_;exact⟨rfl,F.o.2⟩
theorem takez_calls {w:World}{vb M bb:Nat}{V:List (Bs×It)}(h:zAt w vb M bb V)(n:ByteArray)(Z:n.size≤maxLen)(B:zEf n=true)(hz:zAb V n=It.zero)(y:It)(T:zBf y=true)(Y:y.pos) :
  Calls prog 160 #[.pointer (some ⟨vb,0,none⟩),.string n,.agg #[.int .i64 y.a,.int .i64 y.b,.int .i64 y.c,.int .i64 y.d]] w fun e w'=>e=.returned (.int .i64 14)∧Below w.heap.size w w':=by
 have S:n.size≤9223372036854775807:=Nat.le_trans Z (by decide);have A:=zh (fun W=>iswho_calls W n S);rw[B]at A;have I:=zh (fun W=>zBG W y.a y.b y.c y.d);rw[show zBf ⟨y.a,y.b,y.c,y.d⟩=true from T]at I;have U:=zh (fun W=>subz_calls W y T Y);have H1:=zW (PutS w vb M bb w.heap.size V y (w.alloc (It.o y))) (⟨h.keep fun k hk=>(zAC w (It.o y)).block k (h.lt hk),zAF w (It.o y),zAC w (It.o y)⟩);have X:=zh (And.intro Z hz);clear h B T Y hz
 go_enter func160,ntmps160
 go_wp2_with fail;refine(A.o _).mono ?_;rintro e w2 ⟨rfl,rfl⟩;go_wp2_with fail;refine(I.o _).mono ?_;rintro e w3 ⟨rfl,L⟩;have H3:=zh (H1.o.next L);clear L;go_wp2_with fail
 go_upto_region 3 with(fail)
 generalize E:w.heap.size=b at *
 go_cut [7,8] (fun s7 s8 wx=>∃q,s7=.pointer (some ⟨q,0,none⟩)∧s8=.bool false∧Below b w wx)
 case first =>
  try simp only[uZ]
  refine ost (PutS w vb M bb b V y) 14 H3.o.drew fun f=>?_;have H:=zh H3.o.drew;generalize w3.drew=F at *;refine Pl [0,1,2,3,4,5,6] ?_
  iterate 3 (refine Pc rfl ?_;simp only[uZ])
  refine Pd rfl (by intro w m;have P:w.cell? ⟨vb,0,none⟩=some (.map (some M)):=zAB m.v.cells rfl;go_simp;try with_reducible rfl) ?_;simp only[uZ];refine Pc rfl ?_;simp only[uZ];refine Pd rfl (by intro w m;have P:=zD5 m.v n X.o.1;rw[X.o.2]at P;go_simp;try with_reducible rfl) ?_;simp only[uZ];refine Pd rfl (by intro w m;have P:=cell0 m.x;have e1:=zCF m.x;have e2:=zCG m.x;have e3:=zCZ m.x;go_simp;try with_reducible rfl) ?_;simp only[uZ];refine Pn ?_;refine zBb 7 11 rfl rfl (by kernel_rfl) (by rfl) (by rfl) (fun K j=>?_) (fun K j=>?_)
  ·have G:=zh (U.o F);go_wp2_with fail;refine G.o.mono ?_;rintro e D ⟨rfl,p⟩;have r:=zh (H.o.next p);clear H G p;have H:=r;clear r;go_wp2_with fail;refine j.o _ _ H.o fun f=>?_;clear j
   try simp only[uZ]
   refine Pl [8,9,10] ?_
   iterate 3 (refine Pc rfl ?_;simp only[uZ])
   refine Pn ?_;refine oon 11 rfl fun K j=>?_;have s:=zAC D (It.o It.zero);have hS:=H.o.next s;have J:=zAF D (It.o It.zero);go_wp2_with fail;refine j.o _ _ hS fun f=>?_;clear j;have C:=zh (PutQ.mk' H.o);have r:=zh hS;have i:=zh J;clear H hS J s;have H:=r;clear r;change wpAnyH _ _ _ _ _ _ _ _ (D.alloc (It.o It.zero));generalize Q:D.alloc (It.o It.zero)=t at *;generalize R:D.heap.size=q at *
   try simp only[uZ]
   have z0:t.cell? ⟨q,0,none⟩=some (.int .i64 0):=zAB i.o rfl;have z1:t.cell? ⟨q,1,none⟩=some (.int .i64 0):=zAB i.o rfl;have z2:t.cell? ⟨q,2,none⟩=some (.int .i64 0):=zAB i.o rfl;have z3:t.cell? ⟨q,3,none⟩=some (.int .i64 0):=zAB i.o rfl;have f0:=zAE i.o 0;have f1:=zAE i.o 1;have f2:=zAE i.o 2;have f3:=zAE i.o 3;have hF:=PutS.fin (z:=It.zero) H.o i.o C.o It.zero;clear H;refine oon 12 rfl fun K j=>?_;go_wp2_with fail;refine j.o _ _ hF.1 fun f=>?_;clear j
   try simp only[uZ]
   refine oon 13 rfl fun K j=>?_;go_wp2_with fail;refine j.o _ _ hF.1 fun f=>?_;clear j;refine odn ?_;have N:=zh hF.1.bel;clear hF;go_wp2_with fail
   go_meet
   exact⟨q,rfl,rfl,by rw[←E];exact N.o⟩
  ·have s:=zAC F (It.o It.zero);have hS:=H.o.next s;have J:=zAF F (It.o It.zero);go_wp2_with fail;refine j.o _ _ hS fun f=>?_;clear j;have C:=zh (PutQ.mk' H.o);have r:=zh hS;have i:=zh J;clear H hS J s;have H:=r;clear r;change wpAnyH _ _ _ _ _ _ _ _ (F.alloc (It.o It.zero));generalize Q:F.alloc (It.o It.zero)=D at *;generalize R:F.heap.size=q at *
   try simp only[uZ]
   refine oon 7 rfl fun K j=>?_;have G:=zh (U.o D);go_wp2_with fail;refine G.o.mono ?_;rintro e t ⟨rfl,p⟩;have r:=zh (H.o.next p);have O:=zh ((p.block q (zAA i.o)).trans i.o);clear i;clear H G p;have H:=r;clear r;have i:=O;go_wp2_with fail;refine j.o _ _ H.o fun f=>?_;clear j
   try simp only[uZ]
   refine Pl [8,9,10] ?_
   iterate 3 (refine Pc rfl ?_;simp only[uZ])
   refine Pn ?_;have z0:t.cell? ⟨q,0,none⟩=some (.int .i64 0):=zAB i.o rfl;have z1:t.cell? ⟨q,1,none⟩=some (.int .i64 0):=zAB i.o rfl;have z2:t.cell? ⟨q,2,none⟩=some (.int .i64 0):=zAB i.o rfl;have z3:t.cell? ⟨q,3,none⟩=some (.int .i64 0):=zAB i.o rfl;have f0:=zAE i.o 0;have f1:=zAE i.o 1;have f2:=zAE i.o 2;have f3:=zAE i.o 3;have hF:=PutS.fin (z:=It.zero) H.o i.o C.o It.zero;clear H;refine oon 12 rfl fun K j=>?_;go_wp2_with fail;refine j.o _ _ hF.1 fun f=>?_;clear j
   try simp only[uZ]
   refine oon 13 rfl fun K j=>?_;go_wp2_with fail;refine j.o _ _ hF.1 fun f=>?_;clear j;refine odn ?_;have N:=zh hF.1.bel;clear hF;go_wp2_with fail
   go_meet
   exact⟨q,rfl,rfl,by rw[←E];exact N.o⟩
 case rest =>
  obtain⟨q,rfl,rfl,hb⟩:=hcut;go_wp2_with fail;go_ret;exact⟨rfl,by rw[E];exact hb⟩
def RepV (x i:Int):Value:=.agg #[.int .i64 x,.int .i64 i,.int .i64 0,.int .i64 0,.int .i64 0,.int .i64 0]
def AtZ (w:World)(eb vm sm tm am:Nat)(E:zBu)(own:Nat→Option (Nat×Bs))(n:Bs)(v:Value)(e:Ending)(w':World):Prop :=
 ∃r own',e=.returned v∧zBS n (AtE E n r).vs=some r∧r.V=[]∧zAI w' eb vm sm tm am (AtE E n r) own'∧(∀k,k<w.heap.size→own' k=own k)∧Chg (fun k=>own k≠none) w w'
theorem sendz_calls {w:World}{eb vm sm tm am:Nat}{E:zBu}{own:Nat→Option (Nat×Bs)}(h:zAI w eb vm sm tm am E own)(o:OpM)(Y:o.wf)(hn:E.vs.length<maxLen)
  (U:zBS (nm o.atK) E.vs=none) (J:zEf o.atW=true) (hy:zBf (It.one o.item o.count)=true) (hp:(It.one o.item o.count).pos) :
  Calls prog 101 #[.pointer (some ⟨eb,0,none⟩),o.v] w (AtZ w eb vm sm tm am E own (nm o.atK) (RepV 14 0)):=by
 have Hi:=zh (fun W=>zEL W o Y);have Ha:=zh (fun(W:World) (hW:zAI W eb vm sm tm am E own)=>zCa hW o.atK Y.2.1.1 hn);have H:=zh h;have P:=zh (And.intro U (And.intro J (And.intro hy hp)));have Hw:=zh Y.2.1.2.1;clear h U hn Y J hy hp;have e0:o.v=.agg #[.int .i64 o.kind,.int .i64 o.client,.int .i64 o.seq,.string o.atK,.string o.atW,.string o.toK,.string o.toW,.int .i64 o.item,.int .i64 o.count,.int .i64 o.price,.bool o.buy,.int .i64 o.id]:=rfl;have aa:=zh (fun x y:Obj=>(zAC w x).trans ((zAC (w.alloc x) y).mono (zAC w x).size));rw[e0]at Hi ⊢
 go_enter func101,ntmps101
 go_wp2_with fail;obtain⟨w1,z⟩:∃w1,w1=(w.alloc (.cells #[.int .i64 o.kind,.int .i64 o.client,.int .i64 o.seq,.string o.atK,.string o.atW,.string o.toK,.string o.toW,.int .i64 o.item,.int .i64 o.count,.int .i64 o.price,.bool o.buy,.int .i64 o.id] 25 (0,0))).alloc (.cells #[.int .i64 0,.int .i64 0,.int .i64 0,.int .i64 0,.int .i64 0,.int .i64 0] 48 (0,0)):=⟨_,rfl⟩;have n0:w1.heap[w.heap.size]?=some (.cells #[.int .i64 o.kind,.int .i64 o.client,.int .i64 o.seq,.string o.atK,.string o.atW,.string o.toK,.string o.toW,.int .i64 o.item,.int .i64 o.count,.int .i64 o.price,.bool o.buy,.int .i64 o.id] 25 (0,0)):=by rw[z];exact zAW _ (zAF _ _)
 have n1:w1.heap[w.heap.size+1]?=some (.cells #[.int .i64 0,.int .i64 0,.int .i64 0,.int .i64 0,.int .i64 0,.int .i64 0] 48 (0,0)):=by rw[z];exact zAn _ _ _
 have A:=zW (Below w.heap.size w w1.drew) ((z▸aa.o _ _:Below w.heap.size w w1).trans ⟨rfl,rfl,rfl,Nat.le_refl _,fun _ _=>rfl⟩);rw[←z];clear z;refine ost (fun w':World=>w'.heap[w.heap.size]?=some (.cells #[.int .i64 o.kind,.int .i64 o.client,.int .i64 o.seq,.string o.atK,.string o.atW,.string o.toK,.string o.toW,.int .i64 o.item,.int .i64 o.count,.int .i64 o.price,.bool o.buy,.int .i64 o.id] 25 (0,0))) 12 n0 fun f=>?_;have Z:=zW (w1.drew.heap[w.heap.size+1]?=some (.cells #[.int .i64 0,.int .i64 0,.int .i64 0,.int .i64 0,.int .i64 0,.int .i64 0] 48 (0,0))) n1;clear n0 n1;generalize w1.drew=W2 at *;refine Pl [0,1,2,3,5,6,7,8] ?_
 iterate 8 (refine Pd rfl (by intro w' m;have p0:=cell0 m;have p1:=zCF m;have p2:=zCG m;have p3:=zCZ m;have p4:=zDL m;have p5:=cell5 m;have p6:=zAB m (i:=6) rfl;have p7:=zAB m (i:=7) rfl;have p8:=zAB m (i:=8) rfl;have p9:=zAB m (i:=9) rfl;have ac:=zAB m (i:=10) rfl;have ad:=zAB m (i:=11) rfl;go_simp;try with_reducible rfl) ?_;simp only[uZ])
 refine Pn ?_;refine oon 4 rfl fun K G=>?_;go_wp2_with fail;have h1:=H.o.keep (fun k s=>A.o.block k (H.o.oLt k s)) A.o.size;refine(Ha.o _ h1).mono ?_;rintro e w3 ⟨r,L,rfl,hg,V,h3,D,C⟩;have t:∀k,w.heap.size≤k→¬own k≠none:=fun k s S=>by have:=H.o.oLt _ S;omega
 have n:=zh ((C.block _ (zAA f) (t _ (Nat.le_refl _))).trans f);have N:=zh ((C.block _ (zAA Z.o) (t _ (by omega))).trans Z.o);have R:Chg (fun k=>own k≠none) w w3:=((Chg.of_below A.o).mono fun _ _ e=>e.elim:Chg (fun k=>own k≠none) w W2).trans C fun _ _ e=>e;have I:∀k,k<w.heap.size→L k=own k:=fun k s=>D k (Nat.lt_of_lt_of_le s A.o.size);have HO:=zh (And.intro ((D _ (zAA f)).trans (Classical.byContradiction fun S=>t _ (Nat.le_refl _) S)) ((D _ (zAA Z.o)).trans (Classical.byContradiction fun S=>t _ (Nat.le_succ _) S)));have F:=zh (And.intro hg (And.intro V (And.intro h3 (And.intro I R))));clear hg V h3 D I C R h1 t f;go_wp2_with fail;refine G.o _ _ n.o fun f=>?_;clear G n
 try simp only[uZ]
 refine oon 9 rfl fun K G=>?_;go_wp2_with fail;refine(Hi.o _).mono ?_;rintro e w4 ⟨he,p⟩;rw[show(It.one o.item o.count).v=.agg #[.int .i64 (It.one o.item o.count).a,.int .i64 (It.one o.item o.count).b,.int .i64 (It.one o.item o.count).c,.int .i64 (It.one o.item o.count).d]from rfl]at he;subst he;have n:=zh ((p.block _ (zAA f)).trans f);have O:=zh ((p.block _ (zAA N.o)).trans N.o);have B:=zh (And.intro (F.o.2.2.1.keep (fun k s=>p.block k (F.o.2.2.1.oLt k s)) p.size) (F.o.2.2.2.2.trans ((Chg.of_below p).mono fun _ _ e=>e.elim:Chg (fun k=>own k≠none) w3 w4) fun _ _ e=>e));clear p f;go_wp2_with fail;refine G.o _ _ n.o fun f=>?_;clear G n
 try simp only[uZ]
 refine oon 10 rfl fun K G=>?_;have ab:=zh (takez_calls (B.o.1.each _ (zA0 F.o.1)) o.atW Hw.o P.o.2.1 (by rw[F.o.2.1 P.o.1];rfl) (It.one o.item o.count) P.o.2.2.1 P.o.2.2.2);go_wp2_with fail;refine ab.o.mono ?_;rintro e w5 ⟨rfl,q⟩;have n:=zh ((q.block _ (zAA f)).trans f);have j:=zh ((q.block _ (zAA O.o)).trans O.o);have M:=zh (And.intro (B.o.1.keep (fun k s=>q.block k (B.o.1.oLt k s)) q.size) (B.o.2.trans ((Chg.of_below q).mono fun _ _ e=>e.elim:Chg (fun k=>own k≠none) w4 w5) fun _ _ e=>e));clear q f;go_wp2_with fail;refine G.o _ _ n.o fun f=>?_;clear G n
 try simp only[uZ]
 refine Pl [11] ?_
 iterate 1 (refine Pc rfl ?_;simp only[uZ])
 refine Pn ?_;refine odn ?_;clear f;have z0:=cell0 j.o;have z1:=zCF j.o;have z2:=zCG j.o;have z3:=zCZ j.o;have z4:=zDL j.o;have z5:=cell5 j.o;have f0:=zAE j.o 0;have f1:=zAE j.o 1;have f2:=zAE j.o 2;have f3:=zAE j.o 3;have f4:=zAE j.o 4;have f5:=zAE j.o 5;have Q:=chg6 w5 (w.heap.size+1) (.int .i64 14) (.int .i64 0) (.int .i64 0) (.int .i64 0) (.int .i64 0) (.int .i64 0);have T:=put6 j.o (.int .i64 14) (.int .i64 0) (.int .i64 0) (.int .i64 0) (.int .i64 0) (.int .i64 0);have X:=zh (And.intro Q T);clear Q T;go_wp2_with fail;refine bodyPost_ret (results_cell_row rfl _ _ (w.heap.size+1) _ _ (0,0) _ rfl X.o.2 underlying48 rfl (by kernel_rfl)) rfl ?_;refine⟨r,L,rfl,F.o.1,F.o.2.1 P.o.1,M.o.1.keep (fun k s=>X.o.1.block k (M.o.1.oLt k s) fun e=>?_) X.o.1.size,F.o.2.2.2.1,M.o.2.trans X.o.1 fun i hi e=>by omega⟩;rw[e]at s;exact s HO.o.2
theorem booklen_calls {w:World}{bb:Nat}(h:w.heap[bb]?=some zD7) :
  Calls prog 197 #[.pointer (some ⟨bb,0,none⟩)] w fun e w'=>e=.returned (.int .i64 0)∧Below w.heap.size w w':=by
 have y:=zh (piles_calls w bb);have r:=zh h;clear h
 go_enter func197,ntmps197
 go_wp2_with fail;refine y.o.mono ?_;rintro e t ⟨v,rfl,n⟩;obtain⟨g,c,rfl,s⟩:∃g c,v=.slice (some ⟨g,0,none⟩) 8 c∧∀(i:Nat) u,(pileP bb 4)[i]?=some u→t.cell? ⟨g,i,none⟩=some u:=by
  rcases n.1.2 with⟨-,a⟩|⟨g,p,cur,e,-⟩
  ·omega
  ·refine⟨g,p,e,fun i u z=>?_⟩;have:=n.1.cells (g:=g) (by rw[e];rfl) i u z;rwa[add_zero]at this
 have q:=zh n.2.1;have m:=(q.o.block bb (zAA r.o)).trans r.o;have d:=zh s;have b:=zh m;clear n s m;go_wp2_with fail
 go_loopw [3,11] (fun v i wr=>∃k:Nat,k≤8∧v=.int .i64 0∧i=.int .i64 k∧wr=t) (fun _ i _=>8-(intOf i).toNat)
 case atStart=>exact⟨0,by omega,rfl,rfl,rfl⟩
 case round =>
  obtain⟨k,A,rfl,rfl,rfl⟩:=hrel;rcases(by omega:k=0∨k=1∨k=2∨k=3∨k=4∨k=5∨k=6∨k=7∨k=8)with rfl|rfl|rfl|rfl|rfl|rfl|rfl|rfl|rfl
  ·have f:wr.cell? ⟨g,0,none⟩=some (.pointer (some ⟨bb,0,none⟩)):=d.o 0 _ rfl;have j:wr.cell? ⟨bb,0,none⟩=some (.slice none 0 0):=zAB b.o rfl;go_wp2_with fail;go_roundw
   case rel=>exact⟨1,by decide,rfl,rfl,trivial⟩
   case measure=>simp[intOf]
  ·have f:wr.cell? ⟨g,1,none⟩=some (.pointer (some ⟨bb,4,none⟩)):=d.o 1 _ rfl;have j:wr.cell? ⟨bb,4,none⟩=some (.slice none 0 0):=zAB b.o rfl;go_wp2_with fail;go_roundw
   case rel=>exact⟨2,by decide,rfl,rfl,trivial⟩
   case measure=>simp[intOf]
  ·have f:wr.cell? ⟨g,2,none⟩=some (.pointer (some ⟨bb,1,none⟩)):=d.o 2 _ rfl;have j:wr.cell? ⟨bb,1,none⟩=some (.slice none 0 0):=zAB b.o rfl;go_wp2_with fail;go_roundw
   case rel=>exact⟨3,by decide,rfl,rfl,trivial⟩
   case measure=>simp[intOf]
  ·have f:wr.cell? ⟨g,3,none⟩=some (.pointer (some ⟨bb,5,none⟩)):=d.o 3 _ rfl;have j:wr.cell? ⟨bb,5,none⟩=some (.slice none 0 0):=zAB b.o rfl;go_wp2_with fail;go_roundw
   case rel=>exact⟨4,by decide,rfl,rfl,trivial⟩
   case measure=>simp[intOf]
  ·have f:wr.cell? ⟨g,4,none⟩=some (.pointer (some ⟨bb,2,none⟩)):=d.o 4 _ rfl;have j:wr.cell? ⟨bb,2,none⟩=some (.slice none 0 0):=zAB b.o rfl;go_wp2_with fail;go_roundw
   case rel=>exact⟨5,by decide,rfl,rfl,trivial⟩
   case measure=>simp[intOf]
  ·have f:wr.cell? ⟨g,5,none⟩=some (.pointer (some ⟨bb,6,none⟩)):=d.o 5 _ rfl;have j:wr.cell? ⟨bb,6,none⟩=some (.slice none 0 0):=zAB b.o rfl;go_wp2_with fail;go_roundw
   case rel=>exact⟨6,by decide,rfl,rfl,trivial⟩
   case measure=>simp[intOf]
  ·have f:wr.cell? ⟨g,6,none⟩=some (.pointer (some ⟨bb,3,none⟩)):=d.o 6 _ rfl;have j:wr.cell? ⟨bb,3,none⟩=some (.slice none 0 0):=zAB b.o rfl;go_wp2_with fail;go_roundw
   case rel=>exact⟨7,by decide,rfl,rfl,trivial⟩
   case measure=>simp[intOf]
  ·have f:wr.cell? ⟨g,7,none⟩=some (.pointer (some ⟨bb,7,none⟩)):=d.o 7 _ rfl;have j:wr.cell? ⟨bb,7,none⟩=some (.slice none 0 0):=zAB b.o rfl;go_wp2_with fail;go_roundw
   case rel=>exact⟨8,by decide,rfl,rfl,trivial⟩
   case measure=>simp[intOf]
  ·go_wp2_with fail;go_ret;exact⟨rfl,q.o⟩
def zEA (buy:Bool)(d b c:Int):It:=if buy then It.one 0 (b*c)else It.one d b
theorem holds_one {b n:Int}(c:0≤b∧b<4)(h:1≤n∧n≤1152921504606846976):zBf (It.one b n)=true∧(It.one b n).pos:=by
 have e:It.one b n=(if b=0 then⟨n,0,0,0⟩else if b=1 then⟨0,n,0,0⟩else if b=2 then⟨0,0,n,0⟩else⟨0,0,0,n⟩):=if_pos ⟨c.1,c.2,by omega,h.2⟩;rw[e];unfold zBf;rw[It.is_iff];unfold It.pos;rcases(by omega:b=0∨b=1∨b=2∨b=3)with rfl|rfl|rfl|rfl<;>simp<;>omega
theorem holds_ok {buy:Bool}{d b c:Int}(j:1≤d∧d<4)(f:1≤b∧b≤1048576)(i:1≤c∧c≤1024):zBf (zEA buy d b c)=true∧(zEA buy d b c).pos:=by
 unfold zEA;cases buy with
 | false=>exact holds_one ⟨by omega,j.2⟩ ⟨f.1,by omega⟩
 | true =>
  refine holds_one ⟨by decide,by decide⟩ ⟨?_,?_⟩
  ·have:=Int.mul_le_mul f.1 i.1 (by decide) (by omega);simpa using this
  ·have:=Int.mul_le_mul f.2 i.2 (by omega) (by decide);omega
theorem holds_calls (w:World)(v:Int)(m:ByteArray){buy:Bool}{j f i:Int}(y:1≤j∧j<4)(p:1≤f∧f≤1048576)(q:1≤i∧i≤1024) :
  Calls prog 198 #[.agg (zD8 v m buy j f i).toArray] w fun e w'=>e=.returned (.agg #[.int .i64 (zEA buy j f i).a,.int .i64 (zEA buy j f i).b,.int .i64 (zEA buy j f i).c,.int .i64 (zEA buy j f i).d])∧Below w.heap.size w w':=by
 have s:1≤f*i:=by have:=Int.mul_le_mul p.1 q.1 (by decide) (by omega);simpa using this
 have t:f*i≤1073741824:=by have:=Int.mul_le_mul p.2 q.2 (by omega) (by decide);omega
 have r:=zh (fun a b c:Obj=>(zAC w a).trans (((zAC (w.alloc a) b).mono (zAC w a).size).trans ((zAC ((w.alloc a).alloc b) c).mono (Nat.le_trans (zAC w a).size (zAC (w.alloc a) b).size))));rcases(by omega:j=1∨j=2∨j=3)with rfl|rfl|rfl
 all_goals cases buy
 all_goals unfold zD8
 all_goals
  go_enter func198,ntmps198
  go_wp2_with fail;refine bodyPost_ret (results_cell_row rfl _ _ (w.heap.size+1) _ _ (0,0) _ rfl (zAW _ (zAn _ _ _)) underlying46 rfl (by kernel_rfl)) rfl ?_;refine⟨?_,r.o _ _ _⟩
  first
   | (rw[show zEA true _ f i=_ from(one_yes (k:=0) (n:=f*i) (by decide) (by omega) (by omega)).1];rfl)
   | (rw[show zEA false _ f i=_ from(one_yes (n:=f) (by decide) (by omega) (by omega)).1];rfl)
theorem ord_laid (i:Int)(f:ByteArray)(buy:Bool)(d b c:Int):List.foldl (fun(j:Array Value) (x:Value×Nat)=>j.setIfInBounds x.snd x.fst) #[.int .i64 0,.string ⟨#[]⟩,.bool false,.int .i64 0,.int .i64 0,.int .i64 0] (zD8 i f buy d b c).zipIdx=(zD8 i f buy d b c).toArray:=by kernel_rfl
theorem orderz_calls {w:World}{vb D bb:Nat}{V:List (Bs×It)}(h:zAt w vb D bb V)(id:Int)(j:ByteArray)(buy:Bool)(f b d:Int)(hz:zAb V j=It.zero)(F:1≤j.size∧j.size≤16)(T:1≤f∧f<4)(U:1≤b∧b≤1048576)(X:1≤d∧d≤1024) :
  Calls prog 161 #[.pointer (some ⟨vb,0,none⟩),.agg (zD8 id j buy f b d).toArray] w fun e w'=>e=.returned (.tuple #[.int .i64 0,.int .i64 14])∧Below w.heap.size w w':=by
 have HF:=zh (fun(W:World) (g c:Nat) (fr:Nat×Nat) (t:TypeId) (hg:W.heap[g]?=some (.cells (zD8 1 j buy f b d).toArray t fr))=>bof1_calls (c:=c) hg ⟨by decide,by decide⟩ F T U X);have HH:=zh (fun W=>holds_calls W 1 j (buy:=buy) T U X);have HO:=zh (holds_ok (buy:=buy) T U X);have R:j.size≤maxLen:=Nat.le_trans F.2 (by decide);have y:zEf j=true:=by unfold zEf;rw[decide_eq_true F.1,decide_eq_true F.2];rfl
 have HT:=zh (fun(W:World) (hV:zAt W vb D bb V)=>takez_calls hV j R y hz (zEA buy f b d) HO.o.1 HO.o.2);have H:=zh h;clear h hz F T U X R y
 go_enter func161,ntmps161
 go_upto_region 2 with(refine bbox rfl 237 (.tmp 1) rfl (L:=zD8 id j buy f b d) rfl ?_;intro E hn I hs;have H2:=zh (And.intro hn I);have b0:=zAB hn (i:=0) (v:=.int .i64 id) rfl;have f0:=zAE hn 0;clear hn I hs)
 have Q:=zAH H2.o.1 0 (.int .i64 1);have M:Chg (fun k=>k=w.heap.size) E (E.setCell ⟨w.heap.size,0,none⟩ (.int .i64 1)):=Chg.setCell E ⟨w.heap.size,0,none⟩ _;have H3:=zW ((E.setCell ⟨w.heap.size,0,none⟩ (.int .i64 1)).heap[w.heap.size]?=some (.cells (zD8 1 j buy f b d).toArray 237 (0,0))∧Below w.heap.size w (E.setCell ⟨w.heap.size,0,none⟩ (.int .i64 1))) (⟨Q,zAY H2.o.2 M (Nat.le_refl _)⟩);clear b0 f0 Q M;generalize E.setCell ⟨w.heap.size,0,none⟩ (.int .i64 1)=w3 at *;have P:(zD8 1 j buy f b d).length=6:=rfl;go_wp2_with (refine zA1 rfl 237 (.tmp 3) rfl w.heap.size rfl (L:=zD8 1 j buy f b d) H3.o.1 underlying237 rfl (by kernel_rfl) ?_)
 rw[ord_laid];have B:=zAC w3 (.cells (zD8 1 j buy f b d).toArray 237);refine(HF.o _ _ _ _ _ (zAF w3 _)).mono ?_;rintro e Y ⟨v4,rfl,J⟩;have n:Below w3.heap.size w3 Y:=B.trans (J.mono B.size);have s:=zW (Y.heap[w.heap.size]?=some (.cells (zD8 1 j buy f b d).toArray 237 (0,0))∧Below w.heap.size w Y∧zAt Y vb D bb V) (
  ⟨(n.block _ (zAA H3.o.1)).trans H3.o.1,H3.o.2.trans (n.mono H3.o.2.size),H.o.keep fun k C=>(H3.o.2.trans (n.mono H3.o.2.size)).block k (H.o.lt C)⟩)
 clear B J n P;have v1:=zAB s.o.2.2.cells (i:=1) (v:=.pointer (some ⟨bb,0,none⟩)) rfl;have HL:=zh (booklen_calls s.o.2.2.book);go_wp2_with fail;refine HL.o.mono ?_;rintro e z ⟨rfl,q⟩;have p:=zW (z.heap[w.heap.size]?=some (.cells (zD8 1 j buy f b d).toArray 237 (0,0))∧Below w.heap.size w z∧zAt z vb D bb V) (
  ⟨(q.block _ (zAA s.o.1)).trans s.o.1,s.o.2.1.trans (q.mono s.o.2.1.size),s.o.2.2.keep fun k C=>q.block k (s.o.2.2.lt C)⟩)
 clear v1 q;have v2:=zAB p.out.2.2.cells (i:=2) (v:=.int .i64 1) rfl
 go_upto_region 7 with(fail)
 try simp only[uZ]
 refine ost (fun W':World=>W'.heap[w.heap.size]?=some (.cells (zD8 1 j buy f b d).toArray 237 (0,0))) 7 p.out.1 fun m=>?_;have S:=zW (Below w.heap.size w z.drew∧zAt z.drew vb D bb V) (⟨p.out.2.1.trans ((zAG z).mono p.out.2.1.size),p.out.2.2.keep fun k C=>(zAG z).block k (p.out.2.2.lt C)⟩);clear v2;generalize z.drew=w6 at *;refine Pl [0,1,2,3] ?_
 iterate 3 (refine Pd rfl (by intro w' a;have p1:=zAB a (i:=1) (v:=.string j) rfl;go_simp;try with_reducible rfl) ?_;simp only[uZ])
 refine Pd rfl (by intro w' a;exact zBr 237 (.tmp 3) rfl rfl a underlying237 rfl (by kernel_rfl)) ?_;simp only[uZ];refine Pn ?_;refine oon 4 rfl fun K G=>?_;go_wp2_with fail;refine(HH.o _).mono ?_;rintro e w7 ⟨rfl,r⟩;have Z:=zW (Below w.heap.size w w7∧zAt w7 vb D bb V) (⟨S.o.1.trans (r.mono S.o.1.size),S.o.2.keep fun k C=>r.block k (S.o.2.lt C)⟩);have N:=(r.block _ (zAA m)).trans m;clear r m;go_wp2_with fail;refine G.o _ _ N fun m=>?_;clear G N
 try simp only[uZ]
 refine oon 5 rfl fun K G=>?_;go_wp2_with fail;refine(HT.o _ Z.o.2).mono ?_;rintro e w8 ⟨rfl,A⟩;have H8:=zh (Z.o.1.trans (A.mono Z.o.1.size));have O:=(A.block _ (zAA m)).trans m;clear A m;go_wp2_with fail;refine G.o _ _ O fun m=>?_;clear G O
 try simp only[uZ]
 refine Pl [6] ?_;refine Pc rfl ?_;simp only[uZ];refine Pn ?_;refine odn ?_;go_wp2_with fail
 go_ret2
 exact⟨rfl,H8.o⟩
theorem ordz_calls {w:World}{eb vm sm tm am:Nat}{E:zBu}{own:Nat→Option (Nat×Bs)}(h:zAI w eb vm sm tm am E own)(o:OpM)(T:o.wf)(hn:E.vs.length<maxLen)
  (N:zBS (nm o.atK) E.vs=none) (V:1≤o.atW.size∧o.atW.size≤16) (F:1≤o.item∧o.item<4) (X:1≤o.count∧o.count≤1048576) (Y:1≤o.price∧o.price≤1024) :
  Calls prog 102 #[.pointer (some ⟨eb,0,none⟩),o.v] w (AtZ w eb vm sm tm am E own (nm o.atK) (RepV 14 0)):=by
 have Ha:=zh (fun(W:World) (hW:zAI W eb vm sm tm am E own)=>zCa hW o.atK T.2.1.1 hn);have H:=zh h;have C:=zh (And.intro N (And.intro V (And.intro F (And.intro X Y))));have Hw:=zh T.2.1.2.1;clear h N hn T V F X Y;have e0:o.v=.agg #[.int .i64 o.kind,.int .i64 o.client,.int .i64 o.seq,.string o.atK,.string o.atW,.string o.toK,.string o.toW,.int .i64 o.item,.int .i64 o.count,.int .i64 o.price,.bool o.buy,.int .i64 o.id]:=rfl;have R:=zh (fun x y:Obj=>(zAC w x).trans ((zAC (w.alloc x) y).mono (zAC w x).size));rw[e0]
 go_enter func102,ntmps102
 go_wp2_with fail;obtain⟨w1,n⟩:∃w1,w1=(w.alloc (.cells #[.int .i64 o.kind,.int .i64 o.client,.int .i64 o.seq,.string o.atK,.string o.atW,.string o.toK,.string o.toW,.int .i64 o.item,.int .i64 o.count,.int .i64 o.price,.bool o.buy,.int .i64 o.id] 25 (0,0))).alloc (.cells #[.int .i64 0,.int .i64 0,.int .i64 0,.int .i64 0,.int .i64 0,.int .i64 0] 48 (0,0)):=⟨_,rfl⟩;have n0:w1.heap[w.heap.size]?=some (.cells #[.int .i64 o.kind,.int .i64 o.client,.int .i64 o.seq,.string o.atK,.string o.atW,.string o.toK,.string o.toW,.int .i64 o.item,.int .i64 o.count,.int .i64 o.price,.bool o.buy,.int .i64 o.id] 25 (0,0)):=by rw[n];exact zAW _ (zAF _ _)
 have n1:w1.heap[w.heap.size+1]?=some (.cells #[.int .i64 0,.int .i64 0,.int .i64 0,.int .i64 0,.int .i64 0,.int .i64 0] 48 (0,0)):=by rw[n];exact zAn _ _ _
 have q:=zW (Below w.heap.size w w1.drew) ((n▸R.o _ _:Below w.heap.size w w1).trans ⟨rfl,rfl,rfl,Nat.le_refl _,fun _ _=>rfl⟩);rw[←n];clear n;refine ost (fun w':World=>w'.heap[w.heap.size]?=some (.cells #[.int .i64 o.kind,.int .i64 o.client,.int .i64 o.seq,.string o.atK,.string o.atW,.string o.toK,.string o.toW,.int .i64 o.item,.int .i64 o.count,.int .i64 o.price,.bool o.buy,.int .i64 o.id] 25 (0,0))) 23 n0 fun b=>?_;have Q:=zW (w1.drew.heap[w.heap.size+1]?=some (.cells #[.int .i64 0,.int .i64 0,.int .i64 0,.int .i64 0,.int .i64 0,.int .i64 0] 48 (0,0))) n1;clear n0 n1;generalize w1.drew=W2 at *;refine Pl [0,1,2,3,5,6,7,8,9,10,11,12,13,14,15,16] ?_
 iterate 15 (refine Pd rfl (by intro w' d;have p0:=cell0 d;have p1:=zCF d;have p2:=zCG d;have p3:=zCZ d;have p4:=zDL d;have p5:=cell5 d;have p6:=zAB d (i:=6) rfl;have p7:=zAB d (i:=7) rfl;have p8:=zAB d (i:=8) rfl;have p9:=zAB d (i:=9) rfl;have aa:=zAB d (i:=10) rfl;have ab:=zAB d (i:=11) rfl;go_simp;try with_reducible rfl) ?_;simp only[uZ])
 refine Pd (v:=.agg (zD8 0 o.atW o.buy o.item o.count o.price).toArray) rfl (by intro w' d;kernel_rfl) ?_;simp only[uZ];refine Pn ?_;refine oon 4 rfl fun K G=>?_;go_wp2_with fail;have U:=H.o.keep (fun k p=>q.o.block k (H.o.oLt k p)) q.o.size;refine(Ha.o _ U).mono ?_;rintro e w3 ⟨r,A,rfl,Z,O,F,z,t⟩;have m:∀k,w.heap.size≤k→¬own k≠none:=fun k p L=>by have:=H.o.oLt _ L;omega
 have j:=zh ((t.block _ (zAA b) (m _ (Nat.le_refl _))).trans b);have D:=zh ((t.block _ (zAA Q.o) (m _ (by omega))).trans Q.o);have J:Chg (fun k=>own k≠none) w w3:=((Chg.of_below q.o).mono fun _ _ e=>e.elim:Chg (fun k=>own k≠none) w W2).trans t fun _ _ e=>e;have a:∀k,k<w.heap.size→A k=own k:=fun k p=>z k (Nat.lt_of_lt_of_le p q.o.size);have HO:=zh (And.intro ((z _ (zAA b)).trans (Classical.byContradiction fun L=>m _ (Nat.le_refl _) L)) ((z _ (zAA Q.o)).trans (Classical.byContradiction fun L=>m _ (Nat.le_succ _) L)));have s:=zh (And.intro Z (And.intro O (And.intro F (And.intro a J))));clear Z O F z a t J U m b;go_wp2_with fail;refine G.o _ _ j.o fun b=>?_;clear G j
 try simp only[uZ]
 refine oon 17 rfl fun K G=>?_;have S:=zh (orderz_calls (s.o.2.2.1.each _ (zA0 s.o.1)) 0 o.atW o.buy o.item o.count o.price (by rw[s.o.2.1 C.o.1];rfl) C.o.2.1 C.o.2.2.1 C.o.2.2.2.1 C.o.2.2.2.2);go_wp2_with fail;refine S.o.mono ?_;rintro e w5 ⟨rfl,f⟩;have j:=zh ((f.block _ (zAA b)).trans b);have c:=zh ((f.block _ (zAA D.o)).trans D.o);have B:=zh (And.intro (s.o.2.2.1.keep (fun k p=>f.block k (s.o.2.2.1.oLt k p)) f.size) (s.o.2.2.2.2.trans ((Chg.of_below f).mono fun _ _ e=>e.elim:Chg (fun k=>own k≠none) w3 w5) fun _ _ e=>e));clear f b;go_wp2_with fail;refine G.o _ _ j.o fun b=>?_;clear G j
 try simp only[uZ]
 refine Pl [18,19,20,21,22] ?_
 iterate 5 (refine Pc rfl ?_;simp only[uZ])
 refine Pn ?_;refine odn ?_;clear b;have z0:=cell0 c.o;have z1:=zCF c.o;have z2:=zCG c.o;have z3:=zCZ c.o;have z4:=zDL c.o;have z5:=cell5 c.o;have f0:=zAE c.o 0;have f1:=zAE c.o 1;have f2:=zAE c.o 2;have f3:=zAE c.o 3;have f4:=zAE c.o 4;have f5:=zAE c.o 5;have I:=chg6 w5 (w.heap.size+1) (.int .i64 14) (.int .i64 0) (.int .i64 0) (.int .i64 0) (.int .i64 0) (.int .i64 0);have M:=put6 c.o (.int .i64 14) (.int .i64 0) (.int .i64 0) (.int .i64 0) (.int .i64 0) (.int .i64 0);have P:=zh (And.intro I M);clear I M;go_wp2_with fail;refine bodyPost_ret (results_cell_row rfl _ _ (w.heap.size+1) _ _ (0,0) _ rfl P.o.2 underlying48 rfl (by kernel_rfl)) rfl ?_;refine⟨r,A,rfl,s.o.1,s.o.2.1 C.o.1,B.o.1.keep (fun k p=>P.o.1.block k (B.o.1.oLt k p) fun e=>?_) P.o.1.size,s.o.2.2.2.1,B.o.2.trans P.o.1 fun i hi e=>by omega⟩;rw[e]at p;exact p HO.o.2
def ItL (x:It):List Value:=[.int .i64 x.a,.int .i64 x.b,.int .i64 x.c,.int .i64 x.d]
theorem ItL_one (x:It):∀v∈ItL x,v.oneCell'=true:=by
 intro v b;unfold ItL at b;simp only[List.mem_cons,List.not_mem_nil,or_false]at b;rcases b with rfl|rfl|rfl|rfl<;>rfl
theorem vhas_calls {w:World}{vb m bb:Nat}{V:List (Bs×It)}(h:zAt w vb m bb V)(b:ByteArray)(j:b.size≤maxLen):Calls prog 90 #[.pointer (some ⟨vb,0,none⟩),.string b] w fun e w'=>e=.returned (.agg (ItL (zAb V b)).toArray)∧Below w.heap.size w w':=by
 have H:=zh (And.intro h j);clear h j
 go_enter func90,ntmps90
 go_wp2_with (first
  | (refine zAe rfl 46 rfl (zeroValue46 _) (by decide) ?_;intro q hn d p;have c:=zh (And.intro hn (And.intro d (H.o.1.keep (w':=q) fun k n=>d.block k (H.o.1.lt n))));clear hn d p;have r:=zAB c.o.2.2.cells (i:=0) (v:=.map (some m)) rfl;have s:=zD5 c.o.2.2 b H.o.2)
  | (refine zAg rfl 46 (.tmp 4) (.tmp 13) rfl w.heap.size rfl (L:=ItL (zAb V b)) rfl c.o.1 rfl (by kernel_rfl) (ItL_one _) ?_;intro w3 hn f;have H3:=zh (And.intro hn (zAY c.o.2.1 f (Nat.le_refl _)));clear hn f))
 refine bodyPost_ret (results_cell_row rfl _ _ w.heap.size _ _ (0,0) _ rfl H3.o.1 underlying46 rfl (by kernel_rfl)) rfl ?_;exact⟨rfl,H3.o.2⟩
theorem zecon_calls {w:World}{z eb l:Nat}{h:zAj}{ev:Value}{dead:Bool}(b:w.heap[z]?=some (zBR h eb l ev dead)):Calls prog 36 #[.pointer (some ⟨z,0,none⟩)] w fun e w'=>e=.returned (.pointer (some ⟨eb,0,none⟩))∧w'=w:=by
 have c:=zAB b (i:=5) (v:=.pointer (some ⟨eb,0,none⟩)) rfl;clear b
 go_enter func36,ntmps36
 go_wp2_with fail;go_ret;exact⟨rfl,rfl⟩
theorem econAt_calls {w:World}{eb vm sm tm am:Nat}{E:zBu}{own:Nat→Option (Nat×Bs)}(h:zAI w eb vm sm tm am E own)(d c:ByteArray)(D:d.size≤maxLen)(N:c.size≤maxLen){r:VRep}(M:zBS (nm d) E.vs=some r) :
  Calls prog 37 #[.pointer (some ⟨eb,0,none⟩),.agg #[.string d,.string c]] w fun e w'=>e=.returned (.agg (ItL (zAb r.V c)).toArray)∧Below w.heap.size w w':=by
 have H:=zh (And.intro h (And.intro D (And.intro N M)));clear h D N M
 go_enter func37,ntmps37
 go_upto_region 3 with(first
  | (refine bbox rfl 23 (.tmp 1) rfl (L:=[.string d,.string c]) rfl ?_;intro B n z A;have s:=zh (And.intro n (And.intro z A));clear n z A)
  | (refine zAe rfl 46 rfl (zeroValue46 _) (by decide) ?_;intro w3 hn f Q;have H3:=zh (And.intro hn (And.intro ((f.block _ (zAA s.o.1)).trans s.o.1) (And.intro (s.o.2.1.trans (f.mono s.o.2.1.size)) s.o.2.2)));clear hn f Q))
 have t:=H.o.1.keep (w':=w3) (fun k D=>H3.o.2.2.1.block k (H.o.1.oLt k D)) H3.o.2.2.1.size;have O:=zh (t.keep (w':=w3.drew) (fun _ _=>rfl) (Nat.le_refl _));refine ost (fun w':World=>w'.heap[w.heap.size]?=some (.cells #[.string d,.string c] 23 (0,0))∧w'.heap[eb]?=some (zDJ vm sm tm am)∧VsIs w' vm E.vs) 11 ⟨H3.o.2.1,t.cells,t.vaults.keep rfl⟩ fun b=>?_;have C:=zW (w3.drew.heap[B.heap.size]?=some (.cells (ItL It.zero).toArray 46 (0,0))∧Below w.heap.size w w3.drew) (⟨H3.o.1,H3.o.2.2.1.trans ⟨rfl,rfl,rfl,Nat.le_refl _,fun _ _=>rfl⟩⟩);have q:=zW (w.heap.size≤B.heap.size) s.o.2.1.size;have p:=zh (And.intro H3.o.2.2.2 (And.intro (zAA t.cells) (And.intro (H.o.1.oLt eb (by rw[H.o.1.oE];simp)) (H.o.1.oLt vm (by rw[H.o.1.oV];simp)))));clear t;generalize w3.drew=U at *;refine Pl [0,1,2,3,4,5,6,7,8] ?_
 iterate 9 (refine Pd rfl (by intro w' m;have S:=zAB m.1 (i:=0) (v:=.string d) rfl;have T:=zAB m.1 (i:=1) (v:=.string c) rfl;have R:=zAB m.2.1 (i:=0) (v:=.map (some vm)) rfl;have J:=vs_look m.2.2 d H.o.2.1;rw[H.o.2.2.2]at J;dsimp only at J;go_simp;try with_reducible rfl) ?_;simp only[uZ])
 refine Pn ?_;have P:=zh (vhas_calls (O.o.each _ (zA0 H.o.2.2.2)) c H.o.2.2.1);refine oon 9 rfl fun K y=>?_;go_wp2_with fail;refine P.o.mono ?_;rintro e F ⟨rfl,f⟩;have G:=zh (And.intro ((f.block _ (zAA C.o.1)).trans C.o.1) (C.o.2.trans (f.mono C.o.2.size)));have hS:F.heap[w.heap.size]?=some (.cells #[.string d,.string c] 23 (0,0))∧F.heap[eb]?=some (zDJ vm sm tm am)∧VsIs F vm E.vs:=⟨(f.block _ (zAA b.1)).trans b.1,(f.block _ (zAA b.2.1)).trans b.2.1,b.2.2.keep (f.block _ b.2.2.lt)⟩;clear f b;go_wp2_with fail;refine y.o _ _ hS fun b=>?_;clear y hS
 try simp only[uZ]
 refine oon 10 rfl fun K y=>?_;refine zAi 46 (.tmp 4) (.tmp 17) rfl B.heap.size rfl (L:=ItL (zAb r.V c)) rfl G.o.1 rfl (by kernel_rfl) (ItL_one _) ?_;intro W hn a;have I:=zh (And.intro hn (zAY G.o.2 a q.o));have n:w.heap.size≠B.heap.size:=by have:=p.o.1;omega
 refine y.o _ _ ⟨(a.block _ (zAA b.1) n).trans b.1,(a.block _ (zAA b.2.1) (by have:=p.o.2.2.1;have:=q.o;omega)).trans b.2.1,b.2.2.keep (a.block _ b.2.2.lt (by have:=p.o.2.2.2;have:=q.o;omega))⟩ (fun j=>?_);clear y hn a b j;refine odn ?_;go_wp2_with fail;refine bodyPost_ret (results_cell_row rfl _ _ B.heap.size _ _ (0,0) _ rfl I.o.1 underlying46 rfl (by kernel_rfl)) rfl ?_;exact⟨rfl,I.o.2⟩
theorem hasnil_calls (w:World)(b:ByteArray):Calls prog 90 #[.pointer none,.string b] w fun e w'=>e=.returned (.agg (ItL It.zero).toArray)∧Below w.heap.size w w':=by
 go_enter func90,ntmps90
 go_wp2_with (first
  | (refine zAe rfl 46 rfl (zeroValue46 _) (by decide) ?_;intro j hn d i;have c:=zh (And.intro hn d);clear hn d i)
  | (refine zAg rfl 46 (.tmp 4) (.tmp 7) rfl w.heap.size rfl (L:=ItL It.zero) rfl c.o.1 rfl (by kernel_rfl) (ItL_one _) ?_;intro w3 hn f;have H3:=zh (And.intro hn (zAY c.o.2 f (Nat.le_refl _)));clear hn f))
 refine bodyPost_ret (results_cell_row rfl _ _ w.heap.size _ _ (0,0) _ rfl H3.o.1 underlying46 rfl (by kernel_rfl)) rfl ?_;exact⟨rfl,H3.o.2⟩
theorem econAtz_calls {w:World}{eb vm sm tm am:Nat}{E:zBu}{own:Nat→Option (Nat×Bs)}(h:zAI w eb vm sm tm am E own)(c d:ByteArray)(C:c.size≤maxLen)(M:d.size≤maxLen)(J:zBS (nm c) E.vs=none) :
  Calls prog 37 #[.pointer (some ⟨eb,0,none⟩),.agg #[.string c,.string d]] w fun e w'=>e=.returned (.agg (ItL It.zero).toArray)∧Below w.heap.size w w':=by
 have H:=zh (And.intro h (And.intro C (And.intro M J)));clear h C M J
 go_enter func37,ntmps37
 go_upto_region 3 with(first
  | (refine bbox rfl 23 (.tmp 1) rfl (L:=[.string c,.string d]) rfl ?_;intro A n y a;have r:=zh (And.intro n (And.intro y a));clear n y a)
  | (refine zAe rfl 46 rfl (zeroValue46 _) (by decide) ?_;intro w3 hn f O;have H3:=zh (And.intro hn (And.intro ((f.block _ (zAA r.o.1)).trans r.o.1) (And.intro (r.o.2.1.trans (f.mono r.o.2.1.size)) r.o.2.2)));clear hn f O))
 have s:=H.o.1.keep (w':=w3) (fun k C=>H3.o.2.2.1.block k (H.o.1.oLt k C)) H3.o.2.2.1.size;have Q:=zh (s.keep (w':=w3.drew) (fun _ _=>rfl) (Nat.le_refl _));refine ost (fun w':World=>w'.heap[w.heap.size]?=some (.cells #[.string c,.string d] 23 (0,0))∧w'.heap[eb]?=some (zDJ vm sm tm am)∧VsIs w' vm E.vs) 11 ⟨H3.o.2.1,s.cells,s.vaults.keep rfl⟩ fun b=>?_;have B:=zW (w3.drew.heap[A.heap.size]?=some (.cells (ItL It.zero).toArray 46 (0,0))∧Below w.heap.size w w3.drew) (⟨H3.o.1,H3.o.2.2.1.trans ⟨rfl,rfl,rfl,Nat.le_refl _,fun _ _=>rfl⟩⟩);have q:=zW (w.heap.size≤A.heap.size) r.o.2.1.size;have p:=zh (And.intro H3.o.2.2.2 (And.intro (zAA s.cells) (And.intro (H.o.1.oLt eb (by rw[H.o.1.oE];simp)) (H.o.1.oLt vm (by rw[H.o.1.oV];simp)))));clear s;generalize w3.drew=P at *;refine Pl [0,1,2,3,4,5,6,7,8] ?_
 iterate 9 (refine Pd rfl (by intro w' m;have S:=zAB m.1 (i:=0) (v:=.string c) rfl;have T:=zAB m.1 (i:=1) (v:=.string d) rfl;have R:=zAB m.2.1 (i:=0) (v:=.map (some vm)) rfl;have I:=vs_look m.2.2 c H.o.2.1;rw[H.o.2.2.2]at I;dsimp only at I;go_simp;try with_reducible rfl) ?_;simp only[uZ])
 refine Pn ?_;have N:=zh (hasnil_calls P d);refine oon 9 rfl fun K t=>?_;go_wp2_with fail;refine N.o.mono ?_;rintro e D ⟨rfl,f⟩;have F:=zh (And.intro ((f.block _ (zAA B.o.1)).trans B.o.1) (B.o.2.trans (f.mono B.o.2.size)));have hS:D.heap[w.heap.size]?=some (.cells #[.string c,.string d] 23 (0,0))∧D.heap[eb]?=some (zDJ vm sm tm am)∧VsIs D vm E.vs:=⟨(f.block _ (zAA b.1)).trans b.1,(f.block _ (zAA b.2.1)).trans b.2.1,b.2.2.keep (f.block _ b.2.2.lt)⟩;clear f b;go_wp2_with fail;refine t.o _ _ hS fun b=>?_;clear t hS
 try simp only[uZ]
 refine oon 10 rfl fun K t=>?_;refine zAi 46 (.tmp 4) (.tmp 17) rfl A.heap.size rfl (L:=ItL It.zero) rfl F.o.1 rfl (by kernel_rfl) (ItL_one _) ?_;intro U hn z;have G:=zh (And.intro hn (zAY F.o.2 z q.o));have n:w.heap.size≠A.heap.size:=by have:=p.o.1;omega
 refine t.o _ _ ⟨(z.block _ (zAA b.1) n).trans b.1,(z.block _ (zAA b.2.1) (by have:=p.o.2.2.1;have:=q.o;omega)).trans b.2.1,b.2.2.keep (z.block _ b.2.2.lt (by have:=p.o.2.2.2;have:=q.o;omega))⟩ (fun j=>?_);clear t hn z b j;refine odn ?_;go_wp2_with fail;refine bodyPost_ret (results_cell_row rfl _ _ A.heap.size _ _ (0,0) _ rfl G.o.1 underlying46 rfl (by kernel_rfl)) rfl ?_;exact⟨rfl,G.o.2⟩
theorem indexO_none (w:World)(b:Value):Calls prog 232 #[.slice none 0 0,b] w fun e w'=>e=.returned (.int .i64 (-1))∧w'=w:=by
 go_enter func232,ntmps232
 go_wp2_with fail;refine wp_loop_rounds 1 ?_;rw[rounds_succ];go_wp2_with fail;go_ret;exact⟨rfl,rfl⟩
theorem containsO_none (w:World)(b:Value):Calls prog 201 #[.slice none 0 0,b] w fun e w'=>e=.returned (.bool false)∧w'=w:=by
 have c:=zh (fun W=>indexO_none W b)
 go_enter func201,ntmps201
 go_wp2_with fail;refine(c.o _).mono ?_;rintro e d ⟨rfl,rfl⟩;go_wp2_with fail;go_ret;exact⟨rfl,rfl⟩
theorem cancelz_calls {w:World}{vb p bb:Nat}{V:List (Bs×It)}(h:zAt w vb p bb V)(b:ByteArray)(j:Int) :
  Calls prog 162 #[.pointer (some ⟨vb,0,none⟩),.string b,.int .i64 j] w fun e w'=>e=.returned (.int .i64 7)∧Below w.heap.size w w':=by
 have c:=zAC w (.cells #[.string b] 9);have d:=zAC (w.alloc (.cells #[.string b] 9)) (.cells #[.int .i64 j] 3);have H1:=zW (Below w.heap.size w ((w.alloc (.cells #[.string b] 9)).alloc (.cells #[.int .i64 j] 3))∧zAt ((w.alloc (.cells #[.string b] 9)).alloc (.cells #[.int .i64 j] 3)) vb p bb V) (
  ⟨c.trans (d.mono c.size),h.keep fun k s=>(c.trans (d.mono c.size)).block k (h.lt s)⟩)
 have q:=zh (fun W f=>containsO_none W f);clear c d h
 go_enter func162,ntmps162
 go_upto_region 3 with(fail)
 have t:=zAB H1.o.2.cells (i:=1) (v:=.pointer (some ⟨bb,0,none⟩)) rfl;have r:=zh (zD9 H1.o.2.book);generalize (w.alloc (.cells #[.string b] 9)).alloc (.cells #[.int .i64 j] 3)=z at *;go_wp2_with fail;refine r.o.mono ?_;rintro e w3 ⟨rfl,n⟩;have H3:=zh (H1.o.1.trans (n.mono H1.o.1.size));clear n t;go_wp2_with fail;refine(q.o _ _).mono ?_;rintro e y ⟨rfl,m⟩;obtain rfl:w3=y:=m.symm;go_wp2_with fail;go_ret;exact⟨rfl,H3.o⟩
theorem canz_calls {w:World}{eb vm sm tm am:Nat}{E:zBu}{own:Nat→Option (Nat×Bs)}(h:zAI w eb vm sm tm am E own)(o:OpM)(R:o.wf)(hn:E.vs.length<maxLen)
  (L:zBS (nm o.atK) E.vs=none) :
  Calls prog 103 #[.pointer (some ⟨eb,0,none⟩),o.v] w (AtZ w eb vm sm tm am E own (nm o.atK) (RepV 7 0)):=by
 have Ha:=zh (fun(W:World) (hW:zAI W eb vm sm tm am E own)=>zCa hW o.atK R.2.1.1 hn);have H:=zh h;have Hp:=zh (And.intro L True.intro);have Hw:=zh R.2.1.2.1;clear h L hn R;have e0:o.v=.agg #[.int .i64 o.kind,.int .i64 o.client,.int .i64 o.seq,.string o.atK,.string o.atW,.string o.toK,.string o.toW,.int .i64 o.item,.int .i64 o.count,.int .i64 o.price,.bool o.buy,.int .i64 o.id]:=rfl;have P:=zh (fun x y:Obj=>(zAC w x).trans ((zAC (w.alloc x) y).mono (zAC w x).size));rw[e0]
 go_enter func103,ntmps103
 go_wp2_with fail;obtain⟨w1,n⟩:∃w1,w1=(w.alloc (.cells #[.int .i64 o.kind,.int .i64 o.client,.int .i64 o.seq,.string o.atK,.string o.atW,.string o.toK,.string o.toW,.int .i64 o.item,.int .i64 o.count,.int .i64 o.price,.bool o.buy,.int .i64 o.id] 25 (0,0))).alloc (.cells #[.int .i64 0,.int .i64 0,.int .i64 0,.int .i64 0,.int .i64 0,.int .i64 0] 48 (0,0)):=⟨_,rfl⟩;have X:w1.heap[w.heap.size]?=some (.cells #[.int .i64 o.kind,.int .i64 o.client,.int .i64 o.seq,.string o.atK,.string o.atW,.string o.toK,.string o.toW,.int .i64 o.item,.int .i64 o.count,.int .i64 o.price,.bool o.buy,.int .i64 o.id] 25 (0,0)):=by rw[n];exact zAW _ (zAF _ _)
 have Y:w1.heap[w.heap.size+1]?=some (.cells #[.int .i64 0,.int .i64 0,.int .i64 0,.int .i64 0,.int .i64 0,.int .i64 0] 48 (0,0)):=by rw[n];exact zAn _ _ _
 have q:=zW (Below w.heap.size w w1.drew) ((n▸P.o _ _:Below w.heap.size w w1).trans ⟨rfl,rfl,rfl,Nat.le_refl _,fun _ _=>rfl⟩);rw[←n];clear n;refine ost (fun w':World=>w'.heap[w.heap.size]?=some (.cells #[.int .i64 o.kind,.int .i64 o.client,.int .i64 o.seq,.string o.atK,.string o.atW,.string o.toK,.string o.toW,.int .i64 o.item,.int .i64 o.count,.int .i64 o.price,.bool o.buy,.int .i64 o.id] 25 (0,0))) 13 X fun b=>?_;have O:=zW (w1.drew.heap[w.heap.size+1]?=some (.cells #[.int .i64 0,.int .i64 0,.int .i64 0,.int .i64 0,.int .i64 0,.int .i64 0] 48 (0,0))) Y;clear X Y;generalize w1.drew=W2 at *;refine Pl [0,1,2,3,5,6,7,8,9] ?_
 iterate 9 (refine Pd rfl (by intro w' d;have p0:=cell0 d;have p1:=zCF d;have p2:=zCG d;have p3:=zCZ d;have p4:=zDL d;have p5:=cell5 d;have p6:=zAB d (i:=6) rfl;have p7:=zAB d (i:=7) rfl;have p8:=zAB d (i:=8) rfl;have p9:=zAB d (i:=9) rfl;have aa:=zAB d (i:=10) rfl;have ab:=zAB d (i:=11) rfl;go_simp;try with_reducible rfl) ?_;simp only[uZ])
 refine Pn ?_;refine oon 4 rfl fun K a=>?_;go_wp2_with fail;have T:=H.o.keep (fun k p=>q.o.block k (H.o.oLt k p)) q.o.size;refine(Ha.o _ T).mono ?_;rintro e w3 ⟨r,B,rfl,V,M,U,t,s⟩;have m:∀k,w.heap.size≤k→¬own k≠none:=fun k p I=>by have:=H.o.oLt _ I;omega
 have j:=zh ((s.block _ (zAA b) (m _ (Nat.le_refl _))).trans b);have F:=zh ((s.block _ (zAA O.o) (m _ (by omega))).trans O.o);have G:Chg (fun k=>own k≠none) w w3:=((Chg.of_below q.o).mono fun _ _ e=>e.elim:Chg (fun k=>own k≠none) w W2).trans s fun _ _ e=>e;have A:∀k,k<w.heap.size→B k=own k:=fun k p=>t k (Nat.lt_of_lt_of_le p q.o.size);have HO:=zh (And.intro ((t _ (zAA b)).trans (Classical.byContradiction fun I=>m _ (Nat.le_refl _) I)) ((t _ (zAA O.o)).trans (Classical.byContradiction fun I=>m _ (Nat.le_succ _) I)));have z:=zh (And.intro V (And.intro M (And.intro U (And.intro A G))));clear V M U t A s G T m b;go_wp2_with fail;refine a.o _ _ j.o fun b=>?_;clear a j
 try simp only[uZ]
 refine oon 10 rfl fun K a=>?_;have Q:=zh (cancelz_calls (z.o.2.2.1.each _ (zA0 z.o.1)) o.atW o.id);go_wp2_with fail;refine Q.o.mono ?_;rintro e Z ⟨rfl,f⟩;have j:=zh ((f.block _ (zAA b)).trans b);have c:=zh ((f.block _ (zAA F.o)).trans F.o);have C:=zh (And.intro (z.o.2.2.1.keep (fun k p=>f.block k (z.o.2.2.1.oLt k p)) f.size) (z.o.2.2.2.2.trans ((Chg.of_below f).mono fun _ _ e=>e.elim:Chg (fun k=>own k≠none) w3 Z) fun _ _ e=>e));clear f b;go_wp2_with fail;refine a.o _ _ j.o fun b=>?_;clear a j
 try simp only[uZ]
 refine Pl [11] ?_
 iterate 1 (refine Pc rfl ?_;simp only[uZ])
 refine Pn ?_;refine oon 12 rfl fun K a=>?_;have S:=zh b;clear b;have z0:=cell0 c.o;have z1:=zCF c.o;have z2:=zCG c.o;have z3:=zCZ c.o;have z4:=zDL c.o;have z5:=cell5 c.o;have f0:=zAE c.o 0;have f1:=zAE c.o 1;have f2:=zAE c.o 2;have f3:=zAE c.o 3;have f4:=zAE c.o 4;have f5:=zAE c.o 5;go_wp2_with fail;have D:=chg6 Z (w.heap.size+1) (.int .i64 7) (.int .i64 0) (.int .i64 0) (.int .i64 0) (.int .i64 0) (.int .i64 0);have J:=put6 c.o (.int .i64 7) (.int .i64 0) (.int .i64 0) (.int .i64 0) (.int .i64 0) (.int .i64 0);have N:=zh (And.intro D J);refine a.o _ _ ((D.block _ (zAA S.o) (by omega)).trans S.o) fun b=>?_;clear a b D J
 try simp only[uZ]
 refine odn ?_;go_wp2_with fail;refine bodyPost_ret (results_cell_row rfl _ _ (w.heap.size+1) _ _ (0,0) _ rfl N.o.2 underlying48 rfl (by kernel_rfl)) rfl ?_;refine⟨r,B,rfl,z.o.1,z.o.2.1 Hp.o.1,C.o.1.keep (fun k p=>N.o.1.block k (C.o.1.oLt k p) fun e=>?_) N.o.1.size,z.o.2.2.2.1,C.o.2.trans N.o.1 fun i hi e=>by omega⟩;rw[e]at p;exact p HO.o.2
theorem lookz_calls {w:World}{eb vm sm tm am:Nat}{E:zBu}{own:Nat→Option (Nat×Bs)}(h:zAI w eb vm sm tm am E own)(o:OpM)(q:o.wf)(d:zBS (nm o.atK) E.vs=none) :
  Calls prog 104 #[.pointer (some ⟨eb,0,none⟩),.agg (OpL o).toArray] w fun e w'=>e=.returned (RepV 0 0)∧Below w.heap.size w w':=by
 have H:=zh (And.intro h (And.intro q d));clear h q d
 go_enter func104,ntmps104
 go_wp2_with (first
  | (refine bbox rfl 25 (.tmp 1) rfl (L:=OpL o) rfl ?_;intro m hn b f;have c:=zh (And.intro hn (And.intro b f));clear hn b f)
  | (refine zAe rfl 48 rfl (zeroValue48 _) (by decide) ?_;intro w3 hn b f;have H3:=zh (And.intro hn (And.intro ((b.block _ (zAA c.o.1)).trans c.o.1) (And.intro (c.o.2.1.trans (b.mono c.o.2.1.size)) (show w.heap.size≤m.heap.size from c.o.2.1.size))));clear hn b f c;have t:=zAB H3.o.2.1 (i:=3) (v:=.string o.atK) rfl;have y:=zAB H3.o.2.1 (i:=4) (v:=.string o.atW) rfl))
 have r:=zh (econAtz_calls (H.o.1.keep (w':=w3) (fun k s=>H3.o.2.2.1.block k (H.o.1.oLt k s)) H3.o.2.2.1.size) o.atK o.atW H.o.2.1.2.1.1 H.o.2.1.2.1.2.1 H.o.2.2);refine r.o.mono ?_;rintro e z ⟨rfl,b⟩;have j:=zh (And.intro ((b.block _ (zAA H3.o.1)).trans H3.o.1) (And.intro (H3.o.2.2.1.trans (b.mono H3.o.2.2.1.size)) H3.o.2.2.2));clear b t y;go_wp2_with (first
  | (refine zBY rfl 48 #[(2,.tmp 8)] rfl (v:=.agg (RepC 0).toArray) (by kernel_rfl) ?_)
  | (refine zAg rfl 48 (.tmp 4) (.tmp 9) rfl m.heap.size rfl (L:=RepC 0) rfl j.o.1 rfl (by kernel_rfl) (zCQ 0) ?_;intro a hn p;have n:=zh (And.intro hn (zAY j.o.2.1 p j.o.2.2));clear hn p))
 refine bodyPost_ret (results_cell_row rfl _ _ m.heap.size _ _ (0,0) _ rfl n.o.1 underlying48 rfl (by kernel_rfl)) rfl ?_;exact⟨rfl,n.o.2⟩
section
variable {w w':World} {eb vm sm tm am:Nat} {E:zBu} {own:Nat→Option (Nat×Bs)}
theorem zAI.came (h:zAI w eb vm sm tm am E own){ar:List ((Int×Int)×Bool)}(m:zAd w' prog 164 zBt boolE am ar)(f:Chg (fun k=>k=am) w w'):zAI w' eb vm sm tm am {E with ar:=ar} own:=by
 have c:∀k,own k≠none→k≠am→w'.heap[k]?=w.heap[k]?:=fun k c b=>f.block k (h.oLt k c) b;have b:∀{k:Nat} {t:Nat} {x:Bs},own k=some (t,x)→t≠4→k≠am:=fun {k t x} e ht e2=>by
  rw[e2,h.oA]at e;cases e;exact ht rfl
 refine⟨(c eb (by rw[h.oE];simp) (b h.oE (by decide))).trans h.cells,h.vaults.keep (c vm (by rw[h.oV];simp) (b h.oV (by decide))),fun p i=>?_,h.sess.keep (c sm (by rw[h.oS];simp) (b h.oS (by decide))),h.trans.keep (c tm (by rw[h.oT];simp) (b h.oT (by decide))),m,h.oE,h.oV,h.oS,h.oT,h.oA,h.oP,fun k d=>Nat.lt_of_lt_of_le (h.oLt k d) f.size⟩;obtain⟨q1,q2,j⟩:=h.oP p i;refine(h.each p i).keep fun k d=>?_;rcases d with rfl|rfl|rfl
 ·exact c _ (by rw[q1];simp) (b q1 (by decide))
 ·exact c _ (by rw[q2];simp) (b q2 (by decide))
 ·exact c _ (by rw[j];simp) (b j (by decide))
end
theorem ar_store {w:World}{am:Nat}{b:List ((Int×Int)×Bool)}(h:zAd w prog 164 zBt boolE am b)(c s:Int)(j:zCs c∧zCs s)(hn:b.length<maxLen) :
  ∃w',(Instr.mapUpdate 155 (.map (some am)) (.agg #[.int .i64 c,.int .i64 s]) (.bool true)).run prog w=.ok () w'∧zAd w' prog 164 zBt boolE am (zDv (c,s) true b)∧Chg (fun k=>k=am) w w':=by
 obtain⟨w',d,f,i⟩:=zAd.store h zCO underlying155 hn (a:=(c,s)) j (x:=true) trivial;exact⟨w',d,f,zCr i⟩
def ArrR (w:World)(eb vm sm tm am:Nat)(E:zBu)(own:Nat→Option (Nat×Bs))(o:OpM)(e:Ending)(w':World):Prop :=
 ∃r own',e=.returned (RepV 0 0) ∧
  zBS (nm o.atK) (AtE E (nm o.atK) r).vs=some r∧(zBS (nm o.atK) E.vs=none→r.V=[]) ∧
  zAI w' eb vm sm tm am {AtE E (nm o.atK) r with vs:=zDv (nm o.atK) {r with V:=(putM r.V o.atW (It.one o.item o.count)).1} (AtE E (nm o.atK) r).vs,ar:=zDv (o.client,o.seq) true E.ar} own'∧(∀k,k<w.heap.size→own' k=own k)∧Chg (fun k=>own k≠none) w w'
theorem arrive_calls {w:World}{eb vm sm tm am:Nat}{E:zBu}{own:Nat→Option (Nat×Bs)}(h:zAI w eb vm sm tm am E own)(o:OpM)(T:o.wf)(hn:E.vs.length<maxLen)(ai:E.ar.length<maxLen)
  (aj:∀r,zBS (nm o.atK) E.vs=some r→r.V.length<maxLen∧(zAb r.V o.atW).is=true) :
  Calls prog 105 #[.pointer (some ⟨eb,0,none⟩),o.v] w (ArrR w eb vm sm tm am E own o):=by
 have Hi:=zh (fun W=>zEL W o T);have Ha:=zh (fun(W:World) (hW:zAI W eb vm sm tm am E own)=>zCa hW o.atK T.2.1.1 hn);have H:=zh h;have Hp:=zh aj;have Hw:=zh T.2.1.2.1;have aa:=zh (And.intro ai (And.intro T.1.2.1 T.1.2.2));clear h aj hn T ai;have e0:o.v=.agg #[.int .i64 o.kind,.int .i64 o.client,.int .i64 o.seq,.string o.atK,.string o.atW,.string o.toK,.string o.toW,.int .i64 o.item,.int .i64 o.count,.int .i64 o.price,.bool o.buy,.int .i64 o.id]:=rfl;have an:=zh (fun x y:Obj=>(zAC w x).trans ((zAC (w.alloc x) y).mono (zAC w x).size));rw[e0]at Hi ⊢
 go_enter func105,ntmps105
 go_wp2_with fail;obtain⟨w1,B⟩:∃w1,w1=(w.alloc (.cells #[.int .i64 o.kind,.int .i64 o.client,.int .i64 o.seq,.string o.atK,.string o.atW,.string o.toK,.string o.toW,.int .i64 o.item,.int .i64 o.count,.int .i64 o.price,.bool o.buy,.int .i64 o.id] 25 (0,0))).alloc (.cells #[.int .i64 0,.int .i64 0,.int .i64 0,.int .i64 0,.int .i64 0,.int .i64 0] 48 (0,0)):=⟨_,rfl⟩;have n0:w1.heap[w.heap.size]?=some (.cells #[.int .i64 o.kind,.int .i64 o.client,.int .i64 o.seq,.string o.atK,.string o.atW,.string o.toK,.string o.toW,.int .i64 o.item,.int .i64 o.count,.int .i64 o.price,.bool o.buy,.int .i64 o.id] 25 (0,0)):=by rw[B];exact zAW _ (zAF _ _)
 have n1:w1.heap[w.heap.size+1]?=some (.cells #[.int .i64 0,.int .i64 0,.int .i64 0,.int .i64 0,.int .i64 0,.int .i64 0] 48 (0,0)):=by rw[B];exact zAn _ _ _
 have D:=zW (Below w.heap.size w w1.drew) ((B▸an.o _ _:Below w.heap.size w w1).trans ⟨rfl,rfl,rfl,Nat.le_refl _,fun _ _=>rfl⟩);rw[←B];clear B;refine ost (fun w':World=>w'.heap[w.heap.size]?=some (.cells #[.int .i64 o.kind,.int .i64 o.client,.int .i64 o.seq,.string o.atK,.string o.atW,.string o.toK,.string o.toW,.int .i64 o.item,.int .i64 o.count,.int .i64 o.price,.bool o.buy,.int .i64 o.id] 25 (0,0))) 11 n0 fun f=>?_;have HZ:=zW (w1.drew.heap[w.heap.size+1]?=some (.cells #[.int .i64 0,.int .i64 0,.int .i64 0,.int .i64 0,.int .i64 0,.int .i64 0] 48 (0,0))) n1;clear n0 n1;generalize w1.drew=W2 at *;refine Pl [0,1,2,3,5,6,7,8] ?_
 iterate 8 (refine Pd rfl (by intro w' j;have p0:=cell0 j;have p1:=zCF j;have p2:=zCG j;have p3:=zCZ j;have p4:=zDL j;have p5:=cell5 j;have p6:=zAB j (i:=6) rfl;have p7:=zAB j (i:=7) rfl;have p8:=zAB j (i:=8) rfl;have p9:=zAB j (i:=9) rfl;have au:=zAB j (i:=10) rfl;have av:=zAB j (i:=11) rfl;go_simp;try with_reducible rfl) ?_;simp only[uZ])
 refine Pn ?_;refine oon 4 rfl fun K s=>?_;go_wp2_with fail;have N:=H.o.keep (fun k I=>D.o.block k (H.o.oLt k I)) D.o.size;refine(Ha.o _ N).mono ?_;rintro e w3 ⟨r,C,rfl,hg,ak,h3,M,G⟩;have z:∀k,w.heap.size≤k→¬own k≠none:=fun k I hh=>by have:=H.o.oLt _ hh;omega
 have m:=zh ((G.block _ (zAA f) (z _ (Nat.le_refl _))).trans f);have Y:=zh ((G.block _ (zAA HZ.o) (z _ (by omega))).trans HZ.o);have ae:Chg (fun k=>own k≠none) w w3:=((Chg.of_below D.o).mono fun _ _ e=>e.elim:Chg (fun k=>own k≠none) w W2).trans G fun _ _ e=>e;have Q:∀k,k<w.heap.size→C k=own k:=fun k I=>M k (Nat.lt_of_lt_of_le I D.o.size);have HO:=zh (And.intro ((M _ (zAA f)).trans (Classical.byContradiction fun hh=>z _ (Nat.le_refl _) hh)) ((M _ (zAA HZ.o)).trans (Classical.byContradiction fun hh=>z _ (Nat.le_succ _) hh)));have q:=zh (And.intro hg (And.intro ak (And.intro h3 (And.intro Q ae))));clear hg ak h3 M Q G ae N z f;go_wp2_with fail;refine s.o _ _ m.o fun f=>?_;clear s m
 try simp only[uZ]
 refine oon 9 rfl fun K s=>?_;go_wp2_with fail;refine(Hi.o _).mono ?_;rintro e w4 ⟨he,p⟩;rw[show(It.one o.item o.count).v=.agg #[.int .i64 (It.one o.item o.count).a,.int .i64 (It.one o.item o.count).b,.int .i64 (It.one o.item o.count).c,.int .i64 (It.one o.item o.count).d]from rfl]at he;subst he;have m:=zh ((p.block _ (zAA f)).trans f);have Z:=zh ((p.block _ (zAA Y.o)).trans Y.o);have F:=zh (And.intro (q.o.2.2.1.keep (fun k I=>p.block k (q.o.2.2.1.oLt k I)) p.size) (q.o.2.2.2.2.trans ((Chg.of_below p).mono fun _ _ e=>e.elim:Chg (fun k=>own k≠none) w3 w4) fun _ _ e=>e));clear p f;go_wp2_with fail;refine s.o _ _ m.o fun f=>?_;clear s m
 try simp only[uZ]
 refine oon 10 rfl fun K s=>?_;have S:r.V.length<maxLen∧(zAb r.V o.atW).is=true:=by
  cases af:zBS (nm o.atK) E.vs with
  | none =>
   rw[q.o.2.1 af];exact⟨by decide,rfl⟩
  | some r' =>
   have e:AtE E (nm o.atK) r=E:=if_neg (by rw[af];simp);have h0:=q.o.1;rw[e]at h0;exact Hp.o r h0
 have ab:=zh (put_calls (F.o.1.each _ (zA0 q.o.1)) o.atW Hw.o (It.one o.item o.count) S.1 S.2);clear S;go_wp2_with fail;refine ab.o.mono ?_;rintro e U ⟨rfl,A⟩;have J:=F.o.1.oP _ (zA0 q.o.1);have O:w.heap.size≠r.pm:=fun e=>by
  have N:=J.2.1;rw[←e,HO.o.1]at N;cases N
 have P:w.heap.size+1≠r.pm:=fun e=>by
  have N:=J.2.1;rw[←e,HO.o.2]at N;cases N
 have m:=zh ((A.2.block _ (zAA f) O).trans f);have al:=zh ((A.2.block _ (zAA Z.o) P).trans Z.o);have R:=zh (And.intro (F.o.1.vault q.o.1 A) (F.o.2.trans A.2 fun i hi e=>by
  rw[←q.o.2.2.2.1 i hi,e,J.2.1];simp))
 clear A J O P f;go_wp2_with fail;refine s.o _ _ m.o fun f=>?_;clear s m
 try simp only[uZ]
 refine odn ?_;have Ho:=zh f;clear f
 go_upto_region 2 with(fail)
 try simp only[uZ]
 refine ost (fun w':World=>w'.heap[w.heap.size]?=some (.cells #[.int .i64 o.kind,.int .i64 o.client,.int .i64 o.seq,.string o.atK,.string o.atW,.string o.toK,.string o.toW,.int .i64 o.item,.int .i64 o.count,.int .i64 o.price,.bool o.buy,.int .i64 o.id] 25 (0,0))∧w'.heap[eb]?=some (zDJ vm sm tm am)) 10 ⟨Ho.o,R.o.1.cells⟩ fun f=>?_;have n:=zh (And.intro (R.o.1.keep (w':=U.drew) (fun _ _=>rfl) (Nat.le_refl _)) (And.intro (R.o.2.trans ((Chg.of_below (zAG U)).mono fun _ _ e=>e.elim:Chg (fun k=>own k≠none) U U.drew) fun _ _ e=>e) (show U.drew.heap[w.heap.size+1]?=some (.cells #[.int .i64 0,.int .i64 0,.int .i64 0,.int .i64 0,.int .i64 0,.int .i64 0] 48 (0,0))from al.o)));generalize U.drew=w6 at *;refine Pl [0,1,2,3,4,5,6,7] ?_
 iterate 8 (refine Pd rfl (by intro w' j;have p1:=zAB j.1 (i:=1) (v:=.int .i64 o.client) rfl;have p2:=zAB j.1 (i:=2) (v:=.int .i64 o.seq) rfl;have e3:=zAB j.2 (i:=3) (v:=.map (some am)) rfl;go_simp;try with_reducible rfl) ?_;simp only[uZ])
 refine Pn ?_;refine Pl [8] ?_;refine Pd (v:=.agg #[.int .i64 o.client,.int .i64 o.seq]) rfl (by intro w' j;kernel_rfl) ?_;simp only[uZ];refine Pn ?_;refine oon 9 rfl fun K s=>?_;have ac:(AtE E (nm o.atK) r).ar=E.ar:=by unfold AtE;split<;>rfl
 obtain⟨w',aq,ah,t⟩:=ar_store n.o.1.arr o.client o.seq aa.o.2 (by show(AtE E (nm o.atK) r).ar.length<maxLen;rw[ac];exact aa.o.1);have ao:C am≠none:=by rw[n.o.1.oA];simp
 have ap:am<w.heap.size:=by
  have:=H.o.oLt am (by rw[H.o.oA];simp);exact this
 have ad:Chg (fun k=>own k≠none) w6 w':=t.mono fun k _ e=>by rw[e,H.o.oA];simp
 have X:=zh (And.intro (n.o.1.came ah t) (And.intro (n.o.2.1.trans ad fun _ _ e=>e) ((t.block _ (zAA n.o.2.2) (by omega)).trans n.o.2.2)));have hS:w'.heap[w.heap.size]?=some (.cells #[.int .i64 o.kind,.int .i64 o.client,.int .i64 o.seq,.string o.atK,.string o.atW,.string o.toK,.string o.toW,.int .i64 o.item,.int .i64 o.count,.int .i64 o.price,.bool o.buy,.int .i64 o.id] 25 (0,0))∧w'.heap[eb]?=some (zDJ vm sm tm am):=⟨(t.block _ (zAA f.1) (by omega)).trans f.1,X.o.1.cells⟩;clear ah t ao ap ad f;go_wp2_with fail;refine s.o _ _ hS fun f=>?_;clear s aq hS;refine odn ?_;clear f;go_wp2_with (first
  | (refine zBY rfl 48 #[] rfl (v:=.agg (RepC 0).toArray) (by kernel_rfl) ?_)
  | (refine zAg rfl 48 (.tmp 4) (.tmp 25) rfl (w.heap.size+1) rfl (L:=RepC 0) rfl X.o.2.2 rfl (by kernel_rfl) (zCQ 0) ?_;intro w9 hn hc;have HF:=zh (And.intro hn hc);clear hn hc))
 refine bodyPost_ret (results_cell_row rfl _ _ (w.heap.size+1) _ _ (0,0) _ rfl HF.o.1 underlying48 rfl (by kernel_rfl)) rfl ?_;refine⟨r,C,rfl,q.o.1,q.o.2.1,?_,q.o.2.2.2.1,X.o.2.1.trans HF.o.2 fun i hi e=>by omega⟩;have ag:=X.o.1.keep (w':=w9) (fun k I=>HF.o.2.block k (X.o.1.oLt k I) fun e=>I (by rw[e];exact HO.o.2)) HF.o.2.size;rw[show(zDv (o.client,o.seq) true (AtE E (nm o.atK) r).ar)=zDv (o.client,o.seq) true E.ar by rw[ac]]at ag;exact ag
end Go.Proofs.YtmcanphlgkolcaaGreatDoor
