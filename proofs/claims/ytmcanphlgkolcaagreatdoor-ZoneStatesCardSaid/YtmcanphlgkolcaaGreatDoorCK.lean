/- What the program's functions and the document's do, and plain laws, for PZoneStates. -/
import Derived.Test.YtmcanphlgkolcaaGreatDoorCB
import Derived.Test.YtmcanphlgkolcaaGreatDoorCJ
open Go.Proofs.Tryz
set_option maxRecDepth 100000
set_option maxHeartbeats 64000000
namespace Go.Proofs.YtmcanphlgkolcaaGreatDoor
open Go.RowKit Go.Sat Go.Maps
theorem zDV (w:World):Below w.heap.size w w.drew:=⟨rfl,rfl,rfl,Nat.le_refl _,fun _ _=>rfl⟩
theorem heldk1_new {w w1:World}{b j:Int}{k m o p:ByteArray}{i c d:Int}{buy:Bool}{n:Int}(f:w1.heap[w.heap.size]?=some (.cells #[.int .i64 1,.int .i64 b,.int .i64 j,.string k,.string m,.string o,.string p,.int .i64 i,.int .i64 c,.int .i64 d,.bool buy,.int .i64 n] 25 (0,0)))(q:w1.heap[w.heap.size+1]?=some zAu)(r:Below w.heap.size w w1) :
  w1.heap[w.heap.size]?=some (.cells #[.int .i64 1,.int .i64 b,.int .i64 j,.string k,.string m,.string o,.string p,.int .i64 i,.int .i64 c,.int .i64 d,.bool buy,.int .i64 n] 25 (0,0))∧w1.heap[w.heap.size+1]?=some zAu∧w1.cell? ⟨w.heap.size,0,none⟩=some (.int .i64 1)∧w1.cell? ⟨w.heap.size,1,none⟩=some (.int .i64 b)∧w1.cell? ⟨w.heap.size,2,none⟩=some (.int .i64 j)∧w1.cell? ⟨w.heap.size,3,none⟩=some (.string k)∧w1.cell? ⟨w.heap.size,4,none⟩=some (.string m)∧w1.cell? ⟨w.heap.size,5,none⟩=some (.string o)∧w1.cell? ⟨w.heap.size,6,none⟩=some (.string p)∧w1.cell? ⟨w.heap.size,7,none⟩=some (.int .i64 i)∧w1.cell? ⟨w.heap.size,8,none⟩=some (.int .i64 c)∧w1.cell? ⟨w.heap.size,9,none⟩=some (.int .i64 d)∧w1.cell? ⟨w.heap.size,10,none⟩=some (.bool buy)∧w1.cell? ⟨w.heap.size,11,none⟩=some (.int .i64 n)∧w1.cell? ⟨w.heap.size+1,1,none⟩=some (.func (.func 91) #[] #[])∧Below w.heap.size w w1 :=
 ⟨f,q,zAB f rfl,zAB f rfl,zAB f rfl,zAB f rfl,zAB f rfl,zAB f rfl,zAB f rfl,zAB f rfl,zAB f rfl,zAB f rfl,zAB f rfl,zAB f rfl,zAB q rfl,r⟩
theorem zBy {w w1:World}{b i:Int}{j k n o:ByteArray}{f c d:Int}{buy:Bool}{m:Int}(h:w1.heap[w.heap.size]?=some (.cells #[.int .i64 1,.int .i64 b,.int .i64 i,.string j,.string k,.string n,.string o,.int .i64 f,.int .i64 c,.int .i64 d,.bool buy,.int .i64 m] 25 (0,0))∧w1.heap[w.heap.size+1]?=some zAu∧w1.cell? ⟨w.heap.size,0,none⟩=some (.int .i64 1)∧w1.cell? ⟨w.heap.size,1,none⟩=some (.int .i64 b)∧w1.cell? ⟨w.heap.size,2,none⟩=some (.int .i64 i)∧w1.cell? ⟨w.heap.size,3,none⟩=some (.string j)∧w1.cell? ⟨w.heap.size,4,none⟩=some (.string k)∧w1.cell? ⟨w.heap.size,5,none⟩=some (.string n)∧w1.cell? ⟨w.heap.size,6,none⟩=some (.string o)∧w1.cell? ⟨w.heap.size,7,none⟩=some (.int .i64 f)∧w1.cell? ⟨w.heap.size,8,none⟩=some (.int .i64 c)∧w1.cell? ⟨w.heap.size,9,none⟩=some (.int .i64 d)∧w1.cell? ⟨w.heap.size,10,none⟩=some (.bool buy)∧w1.cell? ⟨w.heap.size,11,none⟩=some (.int .i64 m)∧w1.cell? ⟨w.heap.size+1,1,none⟩=some (.func (.func 91) #[] #[])∧Below w.heap.size w w1):Below w.heap.size w w1:=h.2.2.2.2.2.2.2.2.2.2.2.2.2.2.2
theorem opmay1_calls (w:World)(b f:Int)(n p a A:ByteArray)(m j k:Int)(buy:Bool)(z:Int)(h:OpM.wf ⟨1,b,f,n,p,a,A,m,j,k,buy,z⟩) :
  Calls prog 39 #[.agg #[.int .i64 1,.int .i64 b,.int .i64 f,.string n,.string p,.string a,.string A,.int .i64 m,.int .i64 j,.int .i64 k,.bool buy,.int .i64 z]] w (RetB (OpM.may ⟨1,b,f,n,p,a,A,m,j,k,buy,z⟩) w):=by
 have Y:=zh (fun x y:Obj=>(zAC w x).trans ((zAC (w.alloc x) y).mono (zAC w x).size));have Hp:=zh (fun W=>zBF W n p h.2.1.1 h.2.1.2.1);have Z:=zh (fun W=>zCU W _ h);have Hm:=zh (names_1 ⟨1,b,f,n,p,a,A,m,j,k,buy,z⟩ (.inl rfl));have aa:=fun W=>fn_eqn W (.func 91)
 go_enter func39,ntmps39
 go_wp2_with fail;obtain⟨w1,r⟩:∃w1,w1=(w.alloc (.cells #[.int .i64 1,.int .i64 b,.int .i64 f,.string n,.string p,.string a,.string A,.int .i64 m,.int .i64 j,.int .i64 k,.bool buy,.int .i64 z] 25 (0,0))).alloc (.cells #[.nilFunc,.func (.func 91) #[] #[],.func (.func 92) #[] #[],.func (.func 93) #[] #[],.func (.func 94) #[] #[],.func (.func 95) #[] #[],.func (.func 91) #[] #[],.func (.func 95) #[] #[]] 161 (0,0)):=⟨_,rfl⟩;have S:w1.heap[w.heap.size]?=some (.cells #[.int .i64 1,.int .i64 b,.int .i64 f,.string n,.string p,.string a,.string A,.int .i64 m,.int .i64 j,.int .i64 k,.bool buy,.int .i64 z] 25 (0,0)):=by rw[r];exact zAW _ (zAF _ _)
 have T:w1.heap[w.heap.size+1]?=some zAu:=by rw[r];exact zAn _ _ _
 have U:Below w.heap.size w w1:=r▸Y.o _ _;rw[←r];clear r;obtain⟨k0,k1,k2,k3,k4,k5,k6,k7,k8,k9,M,N,O,P,Q,R⟩:=heldk1_new S T U;have B:=zh (heldk1_new S T U);clear S T U R;rcases(by omega:b<1∨(1≤b∧1048576<b)∨(1≤b∧b≤1048576∧f<1)∨(1≤b∧b≤1048576∧1≤f∧1099511627776<f)∨(1≤b∧b≤1048576∧1≤f∧f≤1099511627776))with h1|⟨h1,h2⟩|⟨h1,h2,h3⟩|⟨h1,h2,h3,h4⟩|⟨h1,h2,h3,h4⟩
 ·have L:decide (1≤b)=false:=decide_eq_false (by omega)
  go_quiet (fail)
  go_wp2_with fail;go_ret;refine⟨zAO ?_,(zBy B.o).trans (zAJ _ _ _)⟩;unfold OpM.may;simp;omega
 ·have L:decide (b≤1048576)=false:=decide_eq_false (by omega)
  go_quiet (fail)
  go_wp2_with fail;go_ret;refine⟨zAO ?_,(zBy B.o).trans (zAJ _ _ _)⟩;unfold OpM.may;simp;omega
 ·have L:decide (1≤f)=false:=decide_eq_false (by omega)
  go_quiet (fail)
  go_wp2_with fail;go_ret;refine⟨zAO ?_,(zBy B.o).trans (zAJ _ _ _)⟩;unfold OpM.may;simp;omega
 ·have L:decide (f≤1099511627776)=false:=decide_eq_false (by omega)
  go_quiet (fail)
  go_wp2_with fail;go_ret;refine⟨zAO ?_,(zBy B.o).trans (zAJ _ _ _)⟩;unfold OpM.may;simp;omega
 ·have q:OpM.may ⟨1,b,f,n,p,a,A,m,j,k,buy,z⟩=(zDs n p&&OpM.cntM ⟨1,b,f,n,p,a,A,m,j,k,buy,z⟩):=by
   rw[←Hm.o];unfold OpM.may;simp[h1,h2,h3,h4]
  refine ost (fun w':World=>w'.heap[w.heap.size]?=some (.cells #[.int .i64 1,.int .i64 b,.int .i64 f,.string n,.string p,.string a,.string A,.int .i64 m,.int .i64 j,.int .i64 k,.bool buy,.int .i64 z] 25 (0,0))∧w'.heap[w.heap.size+1]?=some zAu) 32 ⟨B.o.1,B.o.2.1⟩ fun d=>?_;have V:=zh ((zBy B.o).trans ((zDV w1).mono (zBy B.o).size));clear k0 k1 k2 k3 k4 k5 k6 k7 k8 k9 M N O P Q;generalize w1.drew=w2 at *;refine Pl [0,1,2,3,4,5,6,7,8,9,10,11,12,13,14,15,16,17,18,19,20] ?_
  iterate 2 (refine Pd rfl (by intro w' c;have F:=zAB c.1 (i:=0) (v:=.int .i64 1) rfl;have q1:=zAB c.1 (i:=1) (v:=.int .i64 b) rfl;have q2:=zAB c.1 (i:=2) (v:=.int .i64 f) rfl;have G:=zAB c.1 (i:=3) (v:=.string n) rfl;have H:=zAB c.1 (i:=4) (v:=.string p) rfl;have I:=zAB c.2 (i:=1) (v:=.func (.func 91) #[] #[]) rfl;go_simp;try with_reducible rfl) ?_;simp only[uZ])
  refine Pd (v:=.bool true) rfl (by intro w' c;have e:decide (b≥1)=true:=decide_eq_true h1;go_simp;try with_reducible rfl) ?_;simp only[uZ]
  iterate 3 (refine Pd rfl (by intro w' c;have F:=zAB c.1 (i:=0) (v:=.int .i64 1) rfl;have q1:=zAB c.1 (i:=1) (v:=.int .i64 b) rfl;have q2:=zAB c.1 (i:=2) (v:=.int .i64 f) rfl;have G:=zAB c.1 (i:=3) (v:=.string n) rfl;have H:=zAB c.1 (i:=4) (v:=.string p) rfl;have I:=zAB c.2 (i:=1) (v:=.func (.func 91) #[] #[]) rfl;go_simp;try with_reducible rfl) ?_;simp only[uZ])
  refine Pd (v:=.bool true) rfl (by intro w' c;have e:decide (b≤1048576)=true:=decide_eq_true h2;go_simp;try with_reducible rfl) ?_;simp only[uZ]
  iterate 4 (refine Pd rfl (by intro w' c;have F:=zAB c.1 (i:=0) (v:=.int .i64 1) rfl;have q1:=zAB c.1 (i:=1) (v:=.int .i64 b) rfl;have q2:=zAB c.1 (i:=2) (v:=.int .i64 f) rfl;have G:=zAB c.1 (i:=3) (v:=.string n) rfl;have H:=zAB c.1 (i:=4) (v:=.string p) rfl;have I:=zAB c.2 (i:=1) (v:=.func (.func 91) #[] #[]) rfl;go_simp;try with_reducible rfl) ?_;simp only[uZ])
  refine Pd (v:=.bool true) rfl (by intro w' c;have e:decide (f≥1)=true:=decide_eq_true h3;go_simp;try with_reducible rfl) ?_;simp only[uZ]
  iterate 4 (refine Pd rfl (by intro w' c;have F:=zAB c.1 (i:=0) (v:=.int .i64 1) rfl;have q1:=zAB c.1 (i:=1) (v:=.int .i64 b) rfl;have q2:=zAB c.1 (i:=2) (v:=.int .i64 f) rfl;have G:=zAB c.1 (i:=3) (v:=.string n) rfl;have H:=zAB c.1 (i:=4) (v:=.string p) rfl;have I:=zAB c.2 (i:=1) (v:=.func (.func 91) #[] #[]) rfl;go_simp;try with_reducible rfl) ?_;simp only[uZ])
  refine Pd (v:=.bool true) rfl (by intro w' c;have e:decide (f≤1099511627776)=true:=decide_eq_true h4;go_simp;try with_reducible rfl) ?_;simp only[uZ]
  iterate 4 (refine Pd rfl (by intro w' c;have F:=zAB c.1 (i:=0) (v:=.int .i64 1) rfl;have q1:=zAB c.1 (i:=1) (v:=.int .i64 b) rfl;have q2:=zAB c.1 (i:=2) (v:=.int .i64 f) rfl;have G:=zAB c.1 (i:=3) (v:=.string n) rfl;have H:=zAB c.1 (i:=4) (v:=.string p) rfl;have I:=zAB c.2 (i:=1) (v:=.func (.func 91) #[] #[]) rfl;go_simp;try with_reducible rfl) ?_;simp only[uZ])
  refine Pn ?_;refine oon 21 rfl fun K D=>?_;go_wp2_with fail;refine(Hp.o _).mono ?_;rintro e w3 ⟨rfl,t⟩;have s:=And.intro ((t.block _ (zAA d.1)).trans d.1) ((t.block _ (zAA d.2)).trans d.2);have C:=zh (V.o.trans (t.mono V.o.size));clear t d;cases X:zDs n p with
  | false =>
   rw[X]at q;go_wp2_with fail;refine D.o _ _ s fun d=>?_;clear D s
   try simp only[uZ]
   refine Pl [22,23,24,25,26,27,28,29,30,31] ?_
   iterate 2 (refine Pc rfl ?_;simp only[uZ])
   iterate 6 (refine Ps rfl ?_;simp only[uZ])
   iterate 2 (refine Pc rfl ?_;simp only[uZ])
   refine Pn ?_;refine odn ?_;clear d;go_wp2_with fail;go_ret;exact⟨by rw[q];rfl,C.o⟩
  | true =>
   rw[X]at q;go_wp2_with fail;refine D.o _ _ s fun d=>?_;clear D s
   try simp only[uZ]
   refine Pl [22,23,24,25,26,27,28] ?_
   iterate 2 (refine Pc rfl ?_;simp only[uZ])
   iterate 4 (refine Pd rfl (by intro w' c;have F:=zAB c.1 (i:=0) (v:=.int .i64 1) rfl;have q1:=zAB c.1 (i:=1) (v:=.int .i64 b) rfl;have q2:=zAB c.1 (i:=2) (v:=.int .i64 f) rfl;have G:=zAB c.1 (i:=3) (v:=.string n) rfl;have H:=zAB c.1 (i:=4) (v:=.string p) rfl;have I:=zAB c.2 (i:=1) (v:=.func (.func 91) #[] #[]) rfl;go_simp;try with_reducible rfl) ?_;simp only[uZ])
   refine Pd rfl (by intro w' c;exact zBr 25 (.tmp 1) rfl rfl c.1 underlying25 rfl (by kernel_rfl)) ?_;simp only[uZ];refine Pn ?_;refine oon 29 rfl fun K D=>?_;go_wp2_with fail;refine(Z.o _).mono ?_;rintro e w4 ⟨rfl,t⟩;have E:=And.intro ((t.block _ (zAA d.1)).trans d.1) ((t.block _ (zAA d.2)).trans d.2);have J:=zh (C.o.trans (t.mono C.o.size));clear t d;go_wp2_with fail;refine D.o _ _ E fun d=>?_;clear D E
   try simp only[uZ]
   refine Pl [30,31] ?_
   iterate 2 (refine Pc rfl ?_;simp only[uZ])
   refine Pn ?_;refine odn ?_;clear d;go_wp2_with fail;go_ret;exact⟨by rw[q];rfl,J.o⟩
theorem heldk2_new {w w1:World}{b j:Int}{k m o p:ByteArray}{i c d:Int}{buy:Bool}{n:Int}(f:w1.heap[w.heap.size]?=some (.cells #[.int .i64 2,.int .i64 b,.int .i64 j,.string k,.string m,.string o,.string p,.int .i64 i,.int .i64 c,.int .i64 d,.bool buy,.int .i64 n] 25 (0,0)))(q:w1.heap[w.heap.size+1]?=some zAu)(r:Below w.heap.size w w1) :
  w1.heap[w.heap.size]?=some (.cells #[.int .i64 2,.int .i64 b,.int .i64 j,.string k,.string m,.string o,.string p,.int .i64 i,.int .i64 c,.int .i64 d,.bool buy,.int .i64 n] 25 (0,0))∧w1.heap[w.heap.size+1]?=some zAu∧w1.cell? ⟨w.heap.size,0,none⟩=some (.int .i64 2)∧w1.cell? ⟨w.heap.size,1,none⟩=some (.int .i64 b)∧w1.cell? ⟨w.heap.size,2,none⟩=some (.int .i64 j)∧w1.cell? ⟨w.heap.size,3,none⟩=some (.string k)∧w1.cell? ⟨w.heap.size,4,none⟩=some (.string m)∧w1.cell? ⟨w.heap.size,5,none⟩=some (.string o)∧w1.cell? ⟨w.heap.size,6,none⟩=some (.string p)∧w1.cell? ⟨w.heap.size,7,none⟩=some (.int .i64 i)∧w1.cell? ⟨w.heap.size,8,none⟩=some (.int .i64 c)∧w1.cell? ⟨w.heap.size,9,none⟩=some (.int .i64 d)∧w1.cell? ⟨w.heap.size,10,none⟩=some (.bool buy)∧w1.cell? ⟨w.heap.size,11,none⟩=some (.int .i64 n)∧w1.cell? ⟨w.heap.size+1,2,none⟩=some (.func (.func 92) #[] #[])∧Below w.heap.size w w1 :=
 ⟨f,q,zAB f rfl,zAB f rfl,zAB f rfl,zAB f rfl,zAB f rfl,zAB f rfl,zAB f rfl,zAB f rfl,zAB f rfl,zAB f rfl,zAB f rfl,zAB f rfl,zAB q rfl,r⟩
theorem zBz {w w1:World}{b i:Int}{j k n o:ByteArray}{f c d:Int}{buy:Bool}{m:Int}(h:w1.heap[w.heap.size]?=some (.cells #[.int .i64 2,.int .i64 b,.int .i64 i,.string j,.string k,.string n,.string o,.int .i64 f,.int .i64 c,.int .i64 d,.bool buy,.int .i64 m] 25 (0,0))∧w1.heap[w.heap.size+1]?=some zAu∧w1.cell? ⟨w.heap.size,0,none⟩=some (.int .i64 2)∧w1.cell? ⟨w.heap.size,1,none⟩=some (.int .i64 b)∧w1.cell? ⟨w.heap.size,2,none⟩=some (.int .i64 i)∧w1.cell? ⟨w.heap.size,3,none⟩=some (.string j)∧w1.cell? ⟨w.heap.size,4,none⟩=some (.string k)∧w1.cell? ⟨w.heap.size,5,none⟩=some (.string n)∧w1.cell? ⟨w.heap.size,6,none⟩=some (.string o)∧w1.cell? ⟨w.heap.size,7,none⟩=some (.int .i64 f)∧w1.cell? ⟨w.heap.size,8,none⟩=some (.int .i64 c)∧w1.cell? ⟨w.heap.size,9,none⟩=some (.int .i64 d)∧w1.cell? ⟨w.heap.size,10,none⟩=some (.bool buy)∧w1.cell? ⟨w.heap.size,11,none⟩=some (.int .i64 m)∧w1.cell? ⟨w.heap.size+1,2,none⟩=some (.func (.func 92) #[] #[])∧Below w.heap.size w w1):Below w.heap.size w w1:=h.2.2.2.2.2.2.2.2.2.2.2.2.2.2.2
theorem opmay2_calls (w:World)(b f:Int)(n p a A:ByteArray)(m j k:Int)(buy:Bool)(z:Int)(h:OpM.wf ⟨2,b,f,n,p,a,A,m,j,k,buy,z⟩) :
  Calls prog 39 #[.agg #[.int .i64 2,.int .i64 b,.int .i64 f,.string n,.string p,.string a,.string A,.int .i64 m,.int .i64 j,.int .i64 k,.bool buy,.int .i64 z]] w (RetB (OpM.may ⟨2,b,f,n,p,a,A,m,j,k,buy,z⟩) w):=by
 have Y:=zh (fun x y:Obj=>(zAC w x).trans ((zAC (w.alloc x) y).mono (zAC w x).size));have Hp:=zh (fun W=>zBF W n p h.2.1.1 h.2.1.2.1);have Z:=zh (fun W=>opsends_calls W _ h);have Hm:=zh (names_2 ⟨2,b,f,n,p,a,A,m,j,k,buy,z⟩ rfl);have aa:=fun W=>fn_eqn W (.func 92)
 go_enter func39,ntmps39
 go_wp2_with fail;obtain⟨w1,r⟩:∃w1,w1=(w.alloc (.cells #[.int .i64 2,.int .i64 b,.int .i64 f,.string n,.string p,.string a,.string A,.int .i64 m,.int .i64 j,.int .i64 k,.bool buy,.int .i64 z] 25 (0,0))).alloc (.cells #[.nilFunc,.func (.func 91) #[] #[],.func (.func 92) #[] #[],.func (.func 93) #[] #[],.func (.func 94) #[] #[],.func (.func 95) #[] #[],.func (.func 91) #[] #[],.func (.func 95) #[] #[]] 161 (0,0)):=⟨_,rfl⟩;have S:w1.heap[w.heap.size]?=some (.cells #[.int .i64 2,.int .i64 b,.int .i64 f,.string n,.string p,.string a,.string A,.int .i64 m,.int .i64 j,.int .i64 k,.bool buy,.int .i64 z] 25 (0,0)):=by rw[r];exact zAW _ (zAF _ _)
 have T:w1.heap[w.heap.size+1]?=some zAu:=by rw[r];exact zAn _ _ _
 have U:Below w.heap.size w w1:=r▸Y.o _ _;rw[←r];clear r;obtain⟨k0,k1,k2,k3,k4,k5,k6,k7,k8,k9,M,N,O,P,Q,R⟩:=heldk2_new S T U;have B:=zh (heldk2_new S T U);clear S T U R;rcases(by omega:b<1∨(1≤b∧1048576<b)∨(1≤b∧b≤1048576∧f<1)∨(1≤b∧b≤1048576∧1≤f∧1099511627776<f)∨(1≤b∧b≤1048576∧1≤f∧f≤1099511627776))with h1|⟨h1,h2⟩|⟨h1,h2,h3⟩|⟨h1,h2,h3,h4⟩|⟨h1,h2,h3,h4⟩
 ·have L:decide (1≤b)=false:=decide_eq_false (by omega)
  go_quiet (fail)
  go_wp2_with fail;go_ret;refine⟨zAO ?_,(zBz B.o).trans (zAJ _ _ _)⟩;unfold OpM.may;simp;omega
 ·have L:decide (b≤1048576)=false:=decide_eq_false (by omega)
  go_quiet (fail)
  go_wp2_with fail;go_ret;refine⟨zAO ?_,(zBz B.o).trans (zAJ _ _ _)⟩;unfold OpM.may;simp;omega
 ·have L:decide (1≤f)=false:=decide_eq_false (by omega)
  go_quiet (fail)
  go_wp2_with fail;go_ret;refine⟨zAO ?_,(zBz B.o).trans (zAJ _ _ _)⟩;unfold OpM.may;simp;omega
 ·have L:decide (f≤1099511627776)=false:=decide_eq_false (by omega)
  go_quiet (fail)
  go_wp2_with fail;go_ret;refine⟨zAO ?_,(zBz B.o).trans (zAJ _ _ _)⟩;unfold OpM.may;simp;omega
 ·have q:OpM.may ⟨2,b,f,n,p,a,A,m,j,k,buy,z⟩=(zDs n p&&OpM.sendM ⟨2,b,f,n,p,a,A,m,j,k,buy,z⟩):=by
   rw[←Hm.o];unfold OpM.may;simp[h1,h2,h3,h4]
  refine ost (fun w':World=>w'.heap[w.heap.size]?=some (.cells #[.int .i64 2,.int .i64 b,.int .i64 f,.string n,.string p,.string a,.string A,.int .i64 m,.int .i64 j,.int .i64 k,.bool buy,.int .i64 z] 25 (0,0))∧w'.heap[w.heap.size+1]?=some zAu) 32 ⟨B.o.1,B.o.2.1⟩ fun d=>?_;have V:=zh ((zBz B.o).trans ((zDV w1).mono (zBz B.o).size));clear k0 k1 k2 k3 k4 k5 k6 k7 k8 k9 M N O P Q;generalize w1.drew=w2 at *;refine Pl [0,1,2,3,4,5,6,7,8,9,10,11,12,13,14,15,16,17,18,19,20] ?_
  iterate 2 (refine Pd rfl (by intro w' c;have F:=zAB c.1 (i:=0) (v:=.int .i64 2) rfl;have q1:=zAB c.1 (i:=1) (v:=.int .i64 b) rfl;have q2:=zAB c.1 (i:=2) (v:=.int .i64 f) rfl;have G:=zAB c.1 (i:=3) (v:=.string n) rfl;have H:=zAB c.1 (i:=4) (v:=.string p) rfl;have I:=zAB c.2 (i:=2) (v:=.func (.func 92) #[] #[]) rfl;go_simp;try with_reducible rfl) ?_;simp only[uZ])
  refine Pd (v:=.bool true) rfl (by intro w' c;have e:decide (b≥1)=true:=decide_eq_true h1;go_simp;try with_reducible rfl) ?_;simp only[uZ]
  iterate 3 (refine Pd rfl (by intro w' c;have F:=zAB c.1 (i:=0) (v:=.int .i64 2) rfl;have q1:=zAB c.1 (i:=1) (v:=.int .i64 b) rfl;have q2:=zAB c.1 (i:=2) (v:=.int .i64 f) rfl;have G:=zAB c.1 (i:=3) (v:=.string n) rfl;have H:=zAB c.1 (i:=4) (v:=.string p) rfl;have I:=zAB c.2 (i:=2) (v:=.func (.func 92) #[] #[]) rfl;go_simp;try with_reducible rfl) ?_;simp only[uZ])
  refine Pd (v:=.bool true) rfl (by intro w' c;have e:decide (b≤1048576)=true:=decide_eq_true h2;go_simp;try with_reducible rfl) ?_;simp only[uZ]
  iterate 4 (refine Pd rfl (by intro w' c;have F:=zAB c.1 (i:=0) (v:=.int .i64 2) rfl;have q1:=zAB c.1 (i:=1) (v:=.int .i64 b) rfl;have q2:=zAB c.1 (i:=2) (v:=.int .i64 f) rfl;have G:=zAB c.1 (i:=3) (v:=.string n) rfl;have H:=zAB c.1 (i:=4) (v:=.string p) rfl;have I:=zAB c.2 (i:=2) (v:=.func (.func 92) #[] #[]) rfl;go_simp;try with_reducible rfl) ?_;simp only[uZ])
  refine Pd (v:=.bool true) rfl (by intro w' c;have e:decide (f≥1)=true:=decide_eq_true h3;go_simp;try with_reducible rfl) ?_;simp only[uZ]
  iterate 4 (refine Pd rfl (by intro w' c;have F:=zAB c.1 (i:=0) (v:=.int .i64 2) rfl;have q1:=zAB c.1 (i:=1) (v:=.int .i64 b) rfl;have q2:=zAB c.1 (i:=2) (v:=.int .i64 f) rfl;have G:=zAB c.1 (i:=3) (v:=.string n) rfl;have H:=zAB c.1 (i:=4) (v:=.string p) rfl;have I:=zAB c.2 (i:=2) (v:=.func (.func 92) #[] #[]) rfl;go_simp;try with_reducible rfl) ?_;simp only[uZ])
  refine Pd (v:=.bool true) rfl (by intro w' c;have e:decide (f≤1099511627776)=true:=decide_eq_true h4;go_simp;try with_reducible rfl) ?_;simp only[uZ]
  iterate 4 (refine Pd rfl (by intro w' c;have F:=zAB c.1 (i:=0) (v:=.int .i64 2) rfl;have q1:=zAB c.1 (i:=1) (v:=.int .i64 b) rfl;have q2:=zAB c.1 (i:=2) (v:=.int .i64 f) rfl;have G:=zAB c.1 (i:=3) (v:=.string n) rfl;have H:=zAB c.1 (i:=4) (v:=.string p) rfl;have I:=zAB c.2 (i:=2) (v:=.func (.func 92) #[] #[]) rfl;go_simp;try with_reducible rfl) ?_;simp only[uZ])
  refine Pn ?_;refine oon 21 rfl fun K D=>?_;go_wp2_with fail;refine(Hp.o _).mono ?_;rintro e w3 ⟨rfl,t⟩;have s:=And.intro ((t.block _ (zAA d.1)).trans d.1) ((t.block _ (zAA d.2)).trans d.2);have C:=zh (V.o.trans (t.mono V.o.size));clear t d;cases X:zDs n p with
  | false =>
   rw[X]at q;go_wp2_with fail;refine D.o _ _ s fun d=>?_;clear D s
   try simp only[uZ]
   refine Pl [22,23,24,25,26,27,28,29,30,31] ?_
   iterate 2 (refine Pc rfl ?_;simp only[uZ])
   iterate 6 (refine Ps rfl ?_;simp only[uZ])
   iterate 2 (refine Pc rfl ?_;simp only[uZ])
   refine Pn ?_;refine odn ?_;clear d;go_wp2_with fail;go_ret;exact⟨by rw[q];rfl,C.o⟩
  | true =>
   rw[X]at q;go_wp2_with fail;refine D.o _ _ s fun d=>?_;clear D s
   try simp only[uZ]
   refine Pl [22,23,24,25,26,27,28] ?_
   iterate 2 (refine Pc rfl ?_;simp only[uZ])
   iterate 4 (refine Pd rfl (by intro w' c;have F:=zAB c.1 (i:=0) (v:=.int .i64 2) rfl;have q1:=zAB c.1 (i:=1) (v:=.int .i64 b) rfl;have q2:=zAB c.1 (i:=2) (v:=.int .i64 f) rfl;have G:=zAB c.1 (i:=3) (v:=.string n) rfl;have H:=zAB c.1 (i:=4) (v:=.string p) rfl;have I:=zAB c.2 (i:=2) (v:=.func (.func 92) #[] #[]) rfl;go_simp;try with_reducible rfl) ?_;simp only[uZ])
   refine Pd rfl (by intro w' c;exact zBr 25 (.tmp 1) rfl rfl c.1 underlying25 rfl (by kernel_rfl)) ?_;simp only[uZ];refine Pn ?_;refine oon 29 rfl fun K D=>?_;go_wp2_with fail;refine(Z.o _).mono ?_;rintro e w4 ⟨rfl,t⟩;have E:=And.intro ((t.block _ (zAA d.1)).trans d.1) ((t.block _ (zAA d.2)).trans d.2);have J:=zh (C.o.trans (t.mono C.o.size));clear t d;go_wp2_with fail;refine D.o _ _ E fun d=>?_;clear D E
   try simp only[uZ]
   refine Pl [30,31] ?_
   iterate 2 (refine Pc rfl ?_;simp only[uZ])
   refine Pn ?_;refine odn ?_;clear d;go_wp2_with fail;go_ret;exact⟨by rw[q];rfl,J.o⟩
theorem heldk3_new {w w1:World}{b j:Int}{k m o p:ByteArray}{i c d:Int}{buy:Bool}{n:Int}(f:w1.heap[w.heap.size]?=some (.cells #[.int .i64 3,.int .i64 b,.int .i64 j,.string k,.string m,.string o,.string p,.int .i64 i,.int .i64 c,.int .i64 d,.bool buy,.int .i64 n] 25 (0,0)))(q:w1.heap[w.heap.size+1]?=some zAu)(r:Below w.heap.size w w1) :
  w1.heap[w.heap.size]?=some (.cells #[.int .i64 3,.int .i64 b,.int .i64 j,.string k,.string m,.string o,.string p,.int .i64 i,.int .i64 c,.int .i64 d,.bool buy,.int .i64 n] 25 (0,0))∧w1.heap[w.heap.size+1]?=some zAu∧w1.cell? ⟨w.heap.size,0,none⟩=some (.int .i64 3)∧w1.cell? ⟨w.heap.size,1,none⟩=some (.int .i64 b)∧w1.cell? ⟨w.heap.size,2,none⟩=some (.int .i64 j)∧w1.cell? ⟨w.heap.size,3,none⟩=some (.string k)∧w1.cell? ⟨w.heap.size,4,none⟩=some (.string m)∧w1.cell? ⟨w.heap.size,5,none⟩=some (.string o)∧w1.cell? ⟨w.heap.size,6,none⟩=some (.string p)∧w1.cell? ⟨w.heap.size,7,none⟩=some (.int .i64 i)∧w1.cell? ⟨w.heap.size,8,none⟩=some (.int .i64 c)∧w1.cell? ⟨w.heap.size,9,none⟩=some (.int .i64 d)∧w1.cell? ⟨w.heap.size,10,none⟩=some (.bool buy)∧w1.cell? ⟨w.heap.size,11,none⟩=some (.int .i64 n)∧w1.cell? ⟨w.heap.size+1,3,none⟩=some (.func (.func 93) #[] #[])∧Below w.heap.size w w1 :=
 ⟨f,q,zAB f rfl,zAB f rfl,zAB f rfl,zAB f rfl,zAB f rfl,zAB f rfl,zAB f rfl,zAB f rfl,zAB f rfl,zAB f rfl,zAB f rfl,zAB f rfl,zAB q rfl,r⟩
theorem zB0 {w w1:World}{b i:Int}{j k n o:ByteArray}{f c d:Int}{buy:Bool}{m:Int}(h:w1.heap[w.heap.size]?=some (.cells #[.int .i64 3,.int .i64 b,.int .i64 i,.string j,.string k,.string n,.string o,.int .i64 f,.int .i64 c,.int .i64 d,.bool buy,.int .i64 m] 25 (0,0))∧w1.heap[w.heap.size+1]?=some zAu∧w1.cell? ⟨w.heap.size,0,none⟩=some (.int .i64 3)∧w1.cell? ⟨w.heap.size,1,none⟩=some (.int .i64 b)∧w1.cell? ⟨w.heap.size,2,none⟩=some (.int .i64 i)∧w1.cell? ⟨w.heap.size,3,none⟩=some (.string j)∧w1.cell? ⟨w.heap.size,4,none⟩=some (.string k)∧w1.cell? ⟨w.heap.size,5,none⟩=some (.string n)∧w1.cell? ⟨w.heap.size,6,none⟩=some (.string o)∧w1.cell? ⟨w.heap.size,7,none⟩=some (.int .i64 f)∧w1.cell? ⟨w.heap.size,8,none⟩=some (.int .i64 c)∧w1.cell? ⟨w.heap.size,9,none⟩=some (.int .i64 d)∧w1.cell? ⟨w.heap.size,10,none⟩=some (.bool buy)∧w1.cell? ⟨w.heap.size,11,none⟩=some (.int .i64 m)∧w1.cell? ⟨w.heap.size+1,3,none⟩=some (.func (.func 93) #[] #[])∧Below w.heap.size w w1):Below w.heap.size w w1:=h.2.2.2.2.2.2.2.2.2.2.2.2.2.2.2
theorem opmay3_calls (w:World)(b f:Int)(n p a A:ByteArray)(m j k:Int)(buy:Bool)(z:Int)(h:OpM.wf ⟨3,b,f,n,p,a,A,m,j,k,buy,z⟩) :
  Calls prog 39 #[.agg #[.int .i64 3,.int .i64 b,.int .i64 f,.string n,.string p,.string a,.string A,.int .i64 m,.int .i64 j,.int .i64 k,.bool buy,.int .i64 z]] w (RetB (OpM.may ⟨3,b,f,n,p,a,A,m,j,k,buy,z⟩) w):=by
 have Y:=zh (fun x y:Obj=>(zAC w x).trans ((zAC (w.alloc x) y).mono (zAC w x).size));have Hp:=zh (fun W=>zBF W n p h.2.1.1 h.2.1.2.1);have Z:=zh (fun W=>oporders_calls W _ h);have Hm:=zh (names_3 ⟨3,b,f,n,p,a,A,m,j,k,buy,z⟩ rfl);have aa:=fun W=>fn_eqn W (.func 93)
 go_enter func39,ntmps39
 go_wp2_with fail;obtain⟨w1,r⟩:∃w1,w1=(w.alloc (.cells #[.int .i64 3,.int .i64 b,.int .i64 f,.string n,.string p,.string a,.string A,.int .i64 m,.int .i64 j,.int .i64 k,.bool buy,.int .i64 z] 25 (0,0))).alloc (.cells #[.nilFunc,.func (.func 91) #[] #[],.func (.func 92) #[] #[],.func (.func 93) #[] #[],.func (.func 94) #[] #[],.func (.func 95) #[] #[],.func (.func 91) #[] #[],.func (.func 95) #[] #[]] 161 (0,0)):=⟨_,rfl⟩;have S:w1.heap[w.heap.size]?=some (.cells #[.int .i64 3,.int .i64 b,.int .i64 f,.string n,.string p,.string a,.string A,.int .i64 m,.int .i64 j,.int .i64 k,.bool buy,.int .i64 z] 25 (0,0)):=by rw[r];exact zAW _ (zAF _ _)
 have T:w1.heap[w.heap.size+1]?=some zAu:=by rw[r];exact zAn _ _ _
 have U:Below w.heap.size w w1:=r▸Y.o _ _;rw[←r];clear r;obtain⟨k0,k1,k2,k3,k4,k5,k6,k7,k8,k9,M,N,O,P,Q,R⟩:=heldk3_new S T U;have B:=zh (heldk3_new S T U);clear S T U R;rcases(by omega:b<1∨(1≤b∧1048576<b)∨(1≤b∧b≤1048576∧f<1)∨(1≤b∧b≤1048576∧1≤f∧1099511627776<f)∨(1≤b∧b≤1048576∧1≤f∧f≤1099511627776))with h1|⟨h1,h2⟩|⟨h1,h2,h3⟩|⟨h1,h2,h3,h4⟩|⟨h1,h2,h3,h4⟩
 ·have L:decide (1≤b)=false:=decide_eq_false (by omega)
  go_quiet (fail)
  go_wp2_with fail;go_ret;refine⟨zAO ?_,(zB0 B.o).trans (zAJ _ _ _)⟩;unfold OpM.may;simp;omega
 ·have L:decide (b≤1048576)=false:=decide_eq_false (by omega)
  go_quiet (fail)
  go_wp2_with fail;go_ret;refine⟨zAO ?_,(zB0 B.o).trans (zAJ _ _ _)⟩;unfold OpM.may;simp;omega
 ·have L:decide (1≤f)=false:=decide_eq_false (by omega)
  go_quiet (fail)
  go_wp2_with fail;go_ret;refine⟨zAO ?_,(zB0 B.o).trans (zAJ _ _ _)⟩;unfold OpM.may;simp;omega
 ·have L:decide (f≤1099511627776)=false:=decide_eq_false (by omega)
  go_quiet (fail)
  go_wp2_with fail;go_ret;refine⟨zAO ?_,(zB0 B.o).trans (zAJ _ _ _)⟩;unfold OpM.may;simp;omega
 ·have q:OpM.may ⟨3,b,f,n,p,a,A,m,j,k,buy,z⟩=(zDs n p&&OpM.ordM ⟨3,b,f,n,p,a,A,m,j,k,buy,z⟩):=by
   rw[←Hm.o];unfold OpM.may;simp[h1,h2,h3,h4]
  refine ost (fun w':World=>w'.heap[w.heap.size]?=some (.cells #[.int .i64 3,.int .i64 b,.int .i64 f,.string n,.string p,.string a,.string A,.int .i64 m,.int .i64 j,.int .i64 k,.bool buy,.int .i64 z] 25 (0,0))∧w'.heap[w.heap.size+1]?=some zAu) 32 ⟨B.o.1,B.o.2.1⟩ fun d=>?_;have V:=zh ((zB0 B.o).trans ((zDV w1).mono (zB0 B.o).size));clear k0 k1 k2 k3 k4 k5 k6 k7 k8 k9 M N O P Q;generalize w1.drew=w2 at *;refine Pl [0,1,2,3,4,5,6,7,8,9,10,11,12,13,14,15,16,17,18,19,20] ?_
  iterate 2 (refine Pd rfl (by intro w' c;have F:=zAB c.1 (i:=0) (v:=.int .i64 3) rfl;have q1:=zAB c.1 (i:=1) (v:=.int .i64 b) rfl;have q2:=zAB c.1 (i:=2) (v:=.int .i64 f) rfl;have G:=zAB c.1 (i:=3) (v:=.string n) rfl;have H:=zAB c.1 (i:=4) (v:=.string p) rfl;have I:=zAB c.2 (i:=3) (v:=.func (.func 93) #[] #[]) rfl;go_simp;try with_reducible rfl) ?_;simp only[uZ])
  refine Pd (v:=.bool true) rfl (by intro w' c;have e:decide (b≥1)=true:=decide_eq_true h1;go_simp;try with_reducible rfl) ?_;simp only[uZ]
  iterate 3 (refine Pd rfl (by intro w' c;have F:=zAB c.1 (i:=0) (v:=.int .i64 3) rfl;have q1:=zAB c.1 (i:=1) (v:=.int .i64 b) rfl;have q2:=zAB c.1 (i:=2) (v:=.int .i64 f) rfl;have G:=zAB c.1 (i:=3) (v:=.string n) rfl;have H:=zAB c.1 (i:=4) (v:=.string p) rfl;have I:=zAB c.2 (i:=3) (v:=.func (.func 93) #[] #[]) rfl;go_simp;try with_reducible rfl) ?_;simp only[uZ])
  refine Pd (v:=.bool true) rfl (by intro w' c;have e:decide (b≤1048576)=true:=decide_eq_true h2;go_simp;try with_reducible rfl) ?_;simp only[uZ]
  iterate 4 (refine Pd rfl (by intro w' c;have F:=zAB c.1 (i:=0) (v:=.int .i64 3) rfl;have q1:=zAB c.1 (i:=1) (v:=.int .i64 b) rfl;have q2:=zAB c.1 (i:=2) (v:=.int .i64 f) rfl;have G:=zAB c.1 (i:=3) (v:=.string n) rfl;have H:=zAB c.1 (i:=4) (v:=.string p) rfl;have I:=zAB c.2 (i:=3) (v:=.func (.func 93) #[] #[]) rfl;go_simp;try with_reducible rfl) ?_;simp only[uZ])
  refine Pd (v:=.bool true) rfl (by intro w' c;have e:decide (f≥1)=true:=decide_eq_true h3;go_simp;try with_reducible rfl) ?_;simp only[uZ]
  iterate 4 (refine Pd rfl (by intro w' c;have F:=zAB c.1 (i:=0) (v:=.int .i64 3) rfl;have q1:=zAB c.1 (i:=1) (v:=.int .i64 b) rfl;have q2:=zAB c.1 (i:=2) (v:=.int .i64 f) rfl;have G:=zAB c.1 (i:=3) (v:=.string n) rfl;have H:=zAB c.1 (i:=4) (v:=.string p) rfl;have I:=zAB c.2 (i:=3) (v:=.func (.func 93) #[] #[]) rfl;go_simp;try with_reducible rfl) ?_;simp only[uZ])
  refine Pd (v:=.bool true) rfl (by intro w' c;have e:decide (f≤1099511627776)=true:=decide_eq_true h4;go_simp;try with_reducible rfl) ?_;simp only[uZ]
  iterate 4 (refine Pd rfl (by intro w' c;have F:=zAB c.1 (i:=0) (v:=.int .i64 3) rfl;have q1:=zAB c.1 (i:=1) (v:=.int .i64 b) rfl;have q2:=zAB c.1 (i:=2) (v:=.int .i64 f) rfl;have G:=zAB c.1 (i:=3) (v:=.string n) rfl;have H:=zAB c.1 (i:=4) (v:=.string p) rfl;have I:=zAB c.2 (i:=3) (v:=.func (.func 93) #[] #[]) rfl;go_simp;try with_reducible rfl) ?_;simp only[uZ])
  refine Pn ?_;refine oon 21 rfl fun K D=>?_;go_wp2_with fail;refine(Hp.o _).mono ?_;rintro e w3 ⟨rfl,t⟩;have s:=And.intro ((t.block _ (zAA d.1)).trans d.1) ((t.block _ (zAA d.2)).trans d.2);have C:=zh (V.o.trans (t.mono V.o.size));clear t d;cases X:zDs n p with
  | false =>
   rw[X]at q;go_wp2_with fail;refine D.o _ _ s fun d=>?_;clear D s
   try simp only[uZ]
   refine Pl [22,23,24,25,26,27,28,29,30,31] ?_
   iterate 2 (refine Pc rfl ?_;simp only[uZ])
   iterate 6 (refine Ps rfl ?_;simp only[uZ])
   iterate 2 (refine Pc rfl ?_;simp only[uZ])
   refine Pn ?_;refine odn ?_;clear d;go_wp2_with fail;go_ret;exact⟨by rw[q];rfl,C.o⟩
  | true =>
   rw[X]at q;go_wp2_with fail;refine D.o _ _ s fun d=>?_;clear D s
   try simp only[uZ]
   refine Pl [22,23,24,25,26,27,28] ?_
   iterate 2 (refine Pc rfl ?_;simp only[uZ])
   iterate 4 (refine Pd rfl (by intro w' c;have F:=zAB c.1 (i:=0) (v:=.int .i64 3) rfl;have q1:=zAB c.1 (i:=1) (v:=.int .i64 b) rfl;have q2:=zAB c.1 (i:=2) (v:=.int .i64 f) rfl;have G:=zAB c.1 (i:=3) (v:=.string n) rfl;have H:=zAB c.1 (i:=4) (v:=.string p) rfl;have I:=zAB c.2 (i:=3) (v:=.func (.func 93) #[] #[]) rfl;go_simp;try with_reducible rfl) ?_;simp only[uZ])
   refine Pd rfl (by intro w' c;exact zBr 25 (.tmp 1) rfl rfl c.1 underlying25 rfl (by kernel_rfl)) ?_;simp only[uZ];refine Pn ?_;refine oon 29 rfl fun K D=>?_;go_wp2_with fail;refine(Z.o _).mono ?_;rintro e w4 ⟨rfl,t⟩;have E:=And.intro ((t.block _ (zAA d.1)).trans d.1) ((t.block _ (zAA d.2)).trans d.2);have J:=zh (C.o.trans (t.mono C.o.size));clear t d;go_wp2_with fail;refine D.o _ _ E fun d=>?_;clear D E
   try simp only[uZ]
   refine Pl [30,31] ?_
   iterate 2 (refine Pc rfl ?_;simp only[uZ])
   refine Pn ?_;refine odn ?_;clear d;go_wp2_with fail;go_ret;exact⟨by rw[q];rfl,J.o⟩
theorem heldk4_new {w w1:World}{b j:Int}{k m o p:ByteArray}{i c d:Int}{buy:Bool}{n:Int}(f:w1.heap[w.heap.size]?=some (.cells #[.int .i64 4,.int .i64 b,.int .i64 j,.string k,.string m,.string o,.string p,.int .i64 i,.int .i64 c,.int .i64 d,.bool buy,.int .i64 n] 25 (0,0)))(q:w1.heap[w.heap.size+1]?=some zAu)(r:Below w.heap.size w w1) :
  w1.heap[w.heap.size]?=some (.cells #[.int .i64 4,.int .i64 b,.int .i64 j,.string k,.string m,.string o,.string p,.int .i64 i,.int .i64 c,.int .i64 d,.bool buy,.int .i64 n] 25 (0,0))∧w1.heap[w.heap.size+1]?=some zAu∧w1.cell? ⟨w.heap.size,0,none⟩=some (.int .i64 4)∧w1.cell? ⟨w.heap.size,1,none⟩=some (.int .i64 b)∧w1.cell? ⟨w.heap.size,2,none⟩=some (.int .i64 j)∧w1.cell? ⟨w.heap.size,3,none⟩=some (.string k)∧w1.cell? ⟨w.heap.size,4,none⟩=some (.string m)∧w1.cell? ⟨w.heap.size,5,none⟩=some (.string o)∧w1.cell? ⟨w.heap.size,6,none⟩=some (.string p)∧w1.cell? ⟨w.heap.size,7,none⟩=some (.int .i64 i)∧w1.cell? ⟨w.heap.size,8,none⟩=some (.int .i64 c)∧w1.cell? ⟨w.heap.size,9,none⟩=some (.int .i64 d)∧w1.cell? ⟨w.heap.size,10,none⟩=some (.bool buy)∧w1.cell? ⟨w.heap.size,11,none⟩=some (.int .i64 n)∧w1.cell? ⟨w.heap.size+1,4,none⟩=some (.func (.func 94) #[] #[])∧Below w.heap.size w w1 :=
 ⟨f,q,zAB f rfl,zAB f rfl,zAB f rfl,zAB f rfl,zAB f rfl,zAB f rfl,zAB f rfl,zAB f rfl,zAB f rfl,zAB f rfl,zAB f rfl,zAB f rfl,zAB q rfl,r⟩
theorem zB1 {w w1:World}{b i:Int}{j k n o:ByteArray}{f c d:Int}{buy:Bool}{m:Int}(h:w1.heap[w.heap.size]?=some (.cells #[.int .i64 4,.int .i64 b,.int .i64 i,.string j,.string k,.string n,.string o,.int .i64 f,.int .i64 c,.int .i64 d,.bool buy,.int .i64 m] 25 (0,0))∧w1.heap[w.heap.size+1]?=some zAu∧w1.cell? ⟨w.heap.size,0,none⟩=some (.int .i64 4)∧w1.cell? ⟨w.heap.size,1,none⟩=some (.int .i64 b)∧w1.cell? ⟨w.heap.size,2,none⟩=some (.int .i64 i)∧w1.cell? ⟨w.heap.size,3,none⟩=some (.string j)∧w1.cell? ⟨w.heap.size,4,none⟩=some (.string k)∧w1.cell? ⟨w.heap.size,5,none⟩=some (.string n)∧w1.cell? ⟨w.heap.size,6,none⟩=some (.string o)∧w1.cell? ⟨w.heap.size,7,none⟩=some (.int .i64 f)∧w1.cell? ⟨w.heap.size,8,none⟩=some (.int .i64 c)∧w1.cell? ⟨w.heap.size,9,none⟩=some (.int .i64 d)∧w1.cell? ⟨w.heap.size,10,none⟩=some (.bool buy)∧w1.cell? ⟨w.heap.size,11,none⟩=some (.int .i64 m)∧w1.cell? ⟨w.heap.size+1,4,none⟩=some (.func (.func 94) #[] #[])∧Below w.heap.size w w1):Below w.heap.size w w1:=h.2.2.2.2.2.2.2.2.2.2.2.2.2.2.2
theorem opmay4_calls (w:World)(b f:Int)(n p a A:ByteArray)(m j k:Int)(buy:Bool)(z:Int)(h:OpM.wf ⟨4,b,f,n,p,a,A,m,j,k,buy,z⟩) :
  Calls prog 39 #[.agg #[.int .i64 4,.int .i64 b,.int .i64 f,.string n,.string p,.string a,.string A,.int .i64 m,.int .i64 j,.int .i64 k,.bool buy,.int .i64 z]] w (RetB (OpM.may ⟨4,b,f,n,p,a,A,m,j,k,buy,z⟩) w):=by
 have Y:=zh (fun x y:Obj=>(zAC w x).trans ((zAC (w.alloc x) y).mono (zAC w x).size));have Hp:=zh (fun W=>zBF W n p h.2.1.1 h.2.1.2.1);have Z:=zh (fun W=>opcancels_calls W _ h);have Hm:=zh (names_4 ⟨4,b,f,n,p,a,A,m,j,k,buy,z⟩ rfl);have aa:=fun W=>fn_eqn W (.func 94)
 go_enter func39,ntmps39
 go_wp2_with fail;obtain⟨w1,r⟩:∃w1,w1=(w.alloc (.cells #[.int .i64 4,.int .i64 b,.int .i64 f,.string n,.string p,.string a,.string A,.int .i64 m,.int .i64 j,.int .i64 k,.bool buy,.int .i64 z] 25 (0,0))).alloc (.cells #[.nilFunc,.func (.func 91) #[] #[],.func (.func 92) #[] #[],.func (.func 93) #[] #[],.func (.func 94) #[] #[],.func (.func 95) #[] #[],.func (.func 91) #[] #[],.func (.func 95) #[] #[]] 161 (0,0)):=⟨_,rfl⟩;have S:w1.heap[w.heap.size]?=some (.cells #[.int .i64 4,.int .i64 b,.int .i64 f,.string n,.string p,.string a,.string A,.int .i64 m,.int .i64 j,.int .i64 k,.bool buy,.int .i64 z] 25 (0,0)):=by rw[r];exact zAW _ (zAF _ _)
 have T:w1.heap[w.heap.size+1]?=some zAu:=by rw[r];exact zAn _ _ _
 have U:Below w.heap.size w w1:=r▸Y.o _ _;rw[←r];clear r;obtain⟨k0,k1,k2,k3,k4,k5,k6,k7,k8,k9,M,N,O,P,Q,R⟩:=heldk4_new S T U;have B:=zh (heldk4_new S T U);clear S T U R;rcases(by omega:b<1∨(1≤b∧1048576<b)∨(1≤b∧b≤1048576∧f<1)∨(1≤b∧b≤1048576∧1≤f∧1099511627776<f)∨(1≤b∧b≤1048576∧1≤f∧f≤1099511627776))with h1|⟨h1,h2⟩|⟨h1,h2,h3⟩|⟨h1,h2,h3,h4⟩|⟨h1,h2,h3,h4⟩
 ·have L:decide (1≤b)=false:=decide_eq_false (by omega)
  go_quiet (fail)
  go_wp2_with fail;go_ret;refine⟨zAO ?_,(zB1 B.o).trans (zAJ _ _ _)⟩;unfold OpM.may;simp;omega
 ·have L:decide (b≤1048576)=false:=decide_eq_false (by omega)
  go_quiet (fail)
  go_wp2_with fail;go_ret;refine⟨zAO ?_,(zB1 B.o).trans (zAJ _ _ _)⟩;unfold OpM.may;simp;omega
 ·have L:decide (1≤f)=false:=decide_eq_false (by omega)
  go_quiet (fail)
  go_wp2_with fail;go_ret;refine⟨zAO ?_,(zB1 B.o).trans (zAJ _ _ _)⟩;unfold OpM.may;simp;omega
 ·have L:decide (f≤1099511627776)=false:=decide_eq_false (by omega)
  go_quiet (fail)
  go_wp2_with fail;go_ret;refine⟨zAO ?_,(zB1 B.o).trans (zAJ _ _ _)⟩;unfold OpM.may;simp;omega
 ·have q:OpM.may ⟨4,b,f,n,p,a,A,m,j,k,buy,z⟩=(zDs n p&&OpM.idM ⟨4,b,f,n,p,a,A,m,j,k,buy,z⟩):=by
   rw[←Hm.o];unfold OpM.may;simp[h1,h2,h3,h4]
  refine ost (fun w':World=>w'.heap[w.heap.size]?=some (.cells #[.int .i64 4,.int .i64 b,.int .i64 f,.string n,.string p,.string a,.string A,.int .i64 m,.int .i64 j,.int .i64 k,.bool buy,.int .i64 z] 25 (0,0))∧w'.heap[w.heap.size+1]?=some zAu) 32 ⟨B.o.1,B.o.2.1⟩ fun d=>?_;have V:=zh ((zB1 B.o).trans ((zDV w1).mono (zB1 B.o).size));clear k0 k1 k2 k3 k4 k5 k6 k7 k8 k9 M N O P Q;generalize w1.drew=w2 at *;refine Pl [0,1,2,3,4,5,6,7,8,9,10,11,12,13,14,15,16,17,18,19,20] ?_
  iterate 2 (refine Pd rfl (by intro w' c;have F:=zAB c.1 (i:=0) (v:=.int .i64 4) rfl;have q1:=zAB c.1 (i:=1) (v:=.int .i64 b) rfl;have q2:=zAB c.1 (i:=2) (v:=.int .i64 f) rfl;have G:=zAB c.1 (i:=3) (v:=.string n) rfl;have H:=zAB c.1 (i:=4) (v:=.string p) rfl;have I:=zAB c.2 (i:=4) (v:=.func (.func 94) #[] #[]) rfl;go_simp;try with_reducible rfl) ?_;simp only[uZ])
  refine Pd (v:=.bool true) rfl (by intro w' c;have e:decide (b≥1)=true:=decide_eq_true h1;go_simp;try with_reducible rfl) ?_;simp only[uZ]
  iterate 3 (refine Pd rfl (by intro w' c;have F:=zAB c.1 (i:=0) (v:=.int .i64 4) rfl;have q1:=zAB c.1 (i:=1) (v:=.int .i64 b) rfl;have q2:=zAB c.1 (i:=2) (v:=.int .i64 f) rfl;have G:=zAB c.1 (i:=3) (v:=.string n) rfl;have H:=zAB c.1 (i:=4) (v:=.string p) rfl;have I:=zAB c.2 (i:=4) (v:=.func (.func 94) #[] #[]) rfl;go_simp;try with_reducible rfl) ?_;simp only[uZ])
  refine Pd (v:=.bool true) rfl (by intro w' c;have e:decide (b≤1048576)=true:=decide_eq_true h2;go_simp;try with_reducible rfl) ?_;simp only[uZ]
  iterate 4 (refine Pd rfl (by intro w' c;have F:=zAB c.1 (i:=0) (v:=.int .i64 4) rfl;have q1:=zAB c.1 (i:=1) (v:=.int .i64 b) rfl;have q2:=zAB c.1 (i:=2) (v:=.int .i64 f) rfl;have G:=zAB c.1 (i:=3) (v:=.string n) rfl;have H:=zAB c.1 (i:=4) (v:=.string p) rfl;have I:=zAB c.2 (i:=4) (v:=.func (.func 94) #[] #[]) rfl;go_simp;try with_reducible rfl) ?_;simp only[uZ])
  refine Pd (v:=.bool true) rfl (by intro w' c;have e:decide (f≥1)=true:=decide_eq_true h3;go_simp;try with_reducible rfl) ?_;simp only[uZ]
  iterate 4 (refine Pd rfl (by intro w' c;have F:=zAB c.1 (i:=0) (v:=.int .i64 4) rfl;have q1:=zAB c.1 (i:=1) (v:=.int .i64 b) rfl;have q2:=zAB c.1 (i:=2) (v:=.int .i64 f) rfl;have G:=zAB c.1 (i:=3) (v:=.string n) rfl;have H:=zAB c.1 (i:=4) (v:=.string p) rfl;have I:=zAB c.2 (i:=4) (v:=.func (.func 94) #[] #[]) rfl;go_simp;try with_reducible rfl) ?_;simp only[uZ])
  refine Pd (v:=.bool true) rfl (by intro w' c;have e:decide (f≤1099511627776)=true:=decide_eq_true h4;go_simp;try with_reducible rfl) ?_;simp only[uZ]
  iterate 4 (refine Pd rfl (by intro w' c;have F:=zAB c.1 (i:=0) (v:=.int .i64 4) rfl;have q1:=zAB c.1 (i:=1) (v:=.int .i64 b) rfl;have q2:=zAB c.1 (i:=2) (v:=.int .i64 f) rfl;have G:=zAB c.1 (i:=3) (v:=.string n) rfl;have H:=zAB c.1 (i:=4) (v:=.string p) rfl;have I:=zAB c.2 (i:=4) (v:=.func (.func 94) #[] #[]) rfl;go_simp;try with_reducible rfl) ?_;simp only[uZ])
  refine Pn ?_;refine oon 21 rfl fun K D=>?_;go_wp2_with fail;refine(Hp.o _).mono ?_;rintro e w3 ⟨rfl,t⟩;have s:=And.intro ((t.block _ (zAA d.1)).trans d.1) ((t.block _ (zAA d.2)).trans d.2);have C:=zh (V.o.trans (t.mono V.o.size));clear t d;cases X:zDs n p with
  | false =>
   rw[X]at q;go_wp2_with fail;refine D.o _ _ s fun d=>?_;clear D s
   try simp only[uZ]
   refine Pl [22,23,24,25,26,27,28,29,30,31] ?_
   iterate 2 (refine Pc rfl ?_;simp only[uZ])
   iterate 6 (refine Ps rfl ?_;simp only[uZ])
   iterate 2 (refine Pc rfl ?_;simp only[uZ])
   refine Pn ?_;refine odn ?_;clear d;go_wp2_with fail;go_ret;exact⟨by rw[q];rfl,C.o⟩
  | true =>
   rw[X]at q;go_wp2_with fail;refine D.o _ _ s fun d=>?_;clear D s
   try simp only[uZ]
   refine Pl [22,23,24,25,26,27,28] ?_
   iterate 2 (refine Pc rfl ?_;simp only[uZ])
   iterate 4 (refine Pd rfl (by intro w' c;have F:=zAB c.1 (i:=0) (v:=.int .i64 4) rfl;have q1:=zAB c.1 (i:=1) (v:=.int .i64 b) rfl;have q2:=zAB c.1 (i:=2) (v:=.int .i64 f) rfl;have G:=zAB c.1 (i:=3) (v:=.string n) rfl;have H:=zAB c.1 (i:=4) (v:=.string p) rfl;have I:=zAB c.2 (i:=4) (v:=.func (.func 94) #[] #[]) rfl;go_simp;try with_reducible rfl) ?_;simp only[uZ])
   refine Pd rfl (by intro w' c;exact zBr 25 (.tmp 1) rfl rfl c.1 underlying25 rfl (by kernel_rfl)) ?_;simp only[uZ];refine Pn ?_;refine oon 29 rfl fun K D=>?_;go_wp2_with fail;refine(Z.o _).mono ?_;rintro e w4 ⟨rfl,t⟩;have E:=And.intro ((t.block _ (zAA d.1)).trans d.1) ((t.block _ (zAA d.2)).trans d.2);have J:=zh (C.o.trans (t.mono C.o.size));clear t d;go_wp2_with fail;refine D.o _ _ E fun d=>?_;clear D E
   try simp only[uZ]
   refine Pl [30,31] ?_
   iterate 2 (refine Pc rfl ?_;simp only[uZ])
   refine Pn ?_;refine odn ?_;clear d;go_wp2_with fail;go_ret;exact⟨by rw[q];rfl,J.o⟩
theorem heldk5_new {w w1:World}{b j:Int}{k m o p:ByteArray}{i c d:Int}{buy:Bool}{n:Int}(f:w1.heap[w.heap.size]?=some (.cells #[.int .i64 5,.int .i64 b,.int .i64 j,.string k,.string m,.string o,.string p,.int .i64 i,.int .i64 c,.int .i64 d,.bool buy,.int .i64 n] 25 (0,0)))(q:w1.heap[w.heap.size+1]?=some zAu)(r:Below w.heap.size w w1) :
  w1.heap[w.heap.size]?=some (.cells #[.int .i64 5,.int .i64 b,.int .i64 j,.string k,.string m,.string o,.string p,.int .i64 i,.int .i64 c,.int .i64 d,.bool buy,.int .i64 n] 25 (0,0))∧w1.heap[w.heap.size+1]?=some zAu∧w1.cell? ⟨w.heap.size,0,none⟩=some (.int .i64 5)∧w1.cell? ⟨w.heap.size,1,none⟩=some (.int .i64 b)∧w1.cell? ⟨w.heap.size,2,none⟩=some (.int .i64 j)∧w1.cell? ⟨w.heap.size,3,none⟩=some (.string k)∧w1.cell? ⟨w.heap.size,4,none⟩=some (.string m)∧w1.cell? ⟨w.heap.size,5,none⟩=some (.string o)∧w1.cell? ⟨w.heap.size,6,none⟩=some (.string p)∧w1.cell? ⟨w.heap.size,7,none⟩=some (.int .i64 i)∧w1.cell? ⟨w.heap.size,8,none⟩=some (.int .i64 c)∧w1.cell? ⟨w.heap.size,9,none⟩=some (.int .i64 d)∧w1.cell? ⟨w.heap.size,10,none⟩=some (.bool buy)∧w1.cell? ⟨w.heap.size,11,none⟩=some (.int .i64 n)∧w1.cell? ⟨w.heap.size+1,5,none⟩=some (.func (.func 95) #[] #[])∧Below w.heap.size w w1 :=
 ⟨f,q,zAB f rfl,zAB f rfl,zAB f rfl,zAB f rfl,zAB f rfl,zAB f rfl,zAB f rfl,zAB f rfl,zAB f rfl,zAB f rfl,zAB f rfl,zAB f rfl,zAB q rfl,r⟩
theorem zB2 {w w1:World}{b i:Int}{j k n o:ByteArray}{f c d:Int}{buy:Bool}{m:Int}(h:w1.heap[w.heap.size]?=some (.cells #[.int .i64 5,.int .i64 b,.int .i64 i,.string j,.string k,.string n,.string o,.int .i64 f,.int .i64 c,.int .i64 d,.bool buy,.int .i64 m] 25 (0,0))∧w1.heap[w.heap.size+1]?=some zAu∧w1.cell? ⟨w.heap.size,0,none⟩=some (.int .i64 5)∧w1.cell? ⟨w.heap.size,1,none⟩=some (.int .i64 b)∧w1.cell? ⟨w.heap.size,2,none⟩=some (.int .i64 i)∧w1.cell? ⟨w.heap.size,3,none⟩=some (.string j)∧w1.cell? ⟨w.heap.size,4,none⟩=some (.string k)∧w1.cell? ⟨w.heap.size,5,none⟩=some (.string n)∧w1.cell? ⟨w.heap.size,6,none⟩=some (.string o)∧w1.cell? ⟨w.heap.size,7,none⟩=some (.int .i64 f)∧w1.cell? ⟨w.heap.size,8,none⟩=some (.int .i64 c)∧w1.cell? ⟨w.heap.size,9,none⟩=some (.int .i64 d)∧w1.cell? ⟨w.heap.size,10,none⟩=some (.bool buy)∧w1.cell? ⟨w.heap.size,11,none⟩=some (.int .i64 m)∧w1.cell? ⟨w.heap.size+1,5,none⟩=some (.func (.func 95) #[] #[])∧Below w.heap.size w w1):Below w.heap.size w w1:=h.2.2.2.2.2.2.2.2.2.2.2.2.2.2.2
theorem opmay5_calls (w:World)(b f:Int)(n p a A:ByteArray)(m j k:Int)(buy:Bool)(z:Int)(h:OpM.wf ⟨5,b,f,n,p,a,A,m,j,k,buy,z⟩) :
  Calls prog 39 #[.agg #[.int .i64 5,.int .i64 b,.int .i64 f,.string n,.string p,.string a,.string A,.int .i64 m,.int .i64 j,.int .i64 k,.bool buy,.int .i64 z]] w (RetB (OpM.may ⟨5,b,f,n,p,a,A,m,j,k,buy,z⟩) w):=by
 have Y:=zh (fun x y:Obj=>(zAC w x).trans ((zAC (w.alloc x) y).mono (zAC w x).size));have Hp:=zh (fun W=>zBF W n p h.2.1.1 h.2.1.2.1);have Z:=zh (fun W=>opbare_calls W _ h);have Hm:=zh (names_5 ⟨5,b,f,n,p,a,A,m,j,k,buy,z⟩ (.inl rfl));have aa:=fun W=>fn_eqn W (.func 95)
 go_enter func39,ntmps39
 go_wp2_with fail;obtain⟨w1,r⟩:∃w1,w1=(w.alloc (.cells #[.int .i64 5,.int .i64 b,.int .i64 f,.string n,.string p,.string a,.string A,.int .i64 m,.int .i64 j,.int .i64 k,.bool buy,.int .i64 z] 25 (0,0))).alloc (.cells #[.nilFunc,.func (.func 91) #[] #[],.func (.func 92) #[] #[],.func (.func 93) #[] #[],.func (.func 94) #[] #[],.func (.func 95) #[] #[],.func (.func 91) #[] #[],.func (.func 95) #[] #[]] 161 (0,0)):=⟨_,rfl⟩;have S:w1.heap[w.heap.size]?=some (.cells #[.int .i64 5,.int .i64 b,.int .i64 f,.string n,.string p,.string a,.string A,.int .i64 m,.int .i64 j,.int .i64 k,.bool buy,.int .i64 z] 25 (0,0)):=by rw[r];exact zAW _ (zAF _ _)
 have T:w1.heap[w.heap.size+1]?=some zAu:=by rw[r];exact zAn _ _ _
 have U:Below w.heap.size w w1:=r▸Y.o _ _;rw[←r];clear r;obtain⟨k0,k1,k2,k3,k4,k5,k6,k7,k8,k9,M,N,O,P,Q,R⟩:=heldk5_new S T U;have B:=zh (heldk5_new S T U);clear S T U R;rcases(by omega:b<1∨(1≤b∧1048576<b)∨(1≤b∧b≤1048576∧f<1)∨(1≤b∧b≤1048576∧1≤f∧1099511627776<f)∨(1≤b∧b≤1048576∧1≤f∧f≤1099511627776))with h1|⟨h1,h2⟩|⟨h1,h2,h3⟩|⟨h1,h2,h3,h4⟩|⟨h1,h2,h3,h4⟩
 ·have L:decide (1≤b)=false:=decide_eq_false (by omega)
  go_quiet (fail)
  go_wp2_with fail;go_ret;refine⟨zAO ?_,(zB2 B.o).trans (zAJ _ _ _)⟩;unfold OpM.may;simp;omega
 ·have L:decide (b≤1048576)=false:=decide_eq_false (by omega)
  go_quiet (fail)
  go_wp2_with fail;go_ret;refine⟨zAO ?_,(zB2 B.o).trans (zAJ _ _ _)⟩;unfold OpM.may;simp;omega
 ·have L:decide (1≤f)=false:=decide_eq_false (by omega)
  go_quiet (fail)
  go_wp2_with fail;go_ret;refine⟨zAO ?_,(zB2 B.o).trans (zAJ _ _ _)⟩;unfold OpM.may;simp;omega
 ·have L:decide (f≤1099511627776)=false:=decide_eq_false (by omega)
  go_quiet (fail)
  go_wp2_with fail;go_ret;refine⟨zAO ?_,(zB2 B.o).trans (zAJ _ _ _)⟩;unfold OpM.may;simp;omega
 ·have q:OpM.may ⟨5,b,f,n,p,a,A,m,j,k,buy,z⟩=(zDs n p&&OpM.bareM ⟨5,b,f,n,p,a,A,m,j,k,buy,z⟩):=by
   rw[←Hm.o];unfold OpM.may;simp[h1,h2,h3,h4]
  refine ost (fun w':World=>w'.heap[w.heap.size]?=some (.cells #[.int .i64 5,.int .i64 b,.int .i64 f,.string n,.string p,.string a,.string A,.int .i64 m,.int .i64 j,.int .i64 k,.bool buy,.int .i64 z] 25 (0,0))∧w'.heap[w.heap.size+1]?=some zAu) 32 ⟨B.o.1,B.o.2.1⟩ fun d=>?_;have V:=zh ((zB2 B.o).trans ((zDV w1).mono (zB2 B.o).size));clear k0 k1 k2 k3 k4 k5 k6 k7 k8 k9 M N O P Q;generalize w1.drew=w2 at *;refine Pl [0,1,2,3,4,5,6,7,8,9,10,11,12,13,14,15,16,17,18,19,20] ?_
  iterate 2 (refine Pd rfl (by intro w' c;have F:=zAB c.1 (i:=0) (v:=.int .i64 5) rfl;have q1:=zAB c.1 (i:=1) (v:=.int .i64 b) rfl;have q2:=zAB c.1 (i:=2) (v:=.int .i64 f) rfl;have G:=zAB c.1 (i:=3) (v:=.string n) rfl;have H:=zAB c.1 (i:=4) (v:=.string p) rfl;have I:=zAB c.2 (i:=5) (v:=.func (.func 95) #[] #[]) rfl;go_simp;try with_reducible rfl) ?_;simp only[uZ])
  refine Pd (v:=.bool true) rfl (by intro w' c;have e:decide (b≥1)=true:=decide_eq_true h1;go_simp;try with_reducible rfl) ?_;simp only[uZ]
  iterate 3 (refine Pd rfl (by intro w' c;have F:=zAB c.1 (i:=0) (v:=.int .i64 5) rfl;have q1:=zAB c.1 (i:=1) (v:=.int .i64 b) rfl;have q2:=zAB c.1 (i:=2) (v:=.int .i64 f) rfl;have G:=zAB c.1 (i:=3) (v:=.string n) rfl;have H:=zAB c.1 (i:=4) (v:=.string p) rfl;have I:=zAB c.2 (i:=5) (v:=.func (.func 95) #[] #[]) rfl;go_simp;try with_reducible rfl) ?_;simp only[uZ])
  refine Pd (v:=.bool true) rfl (by intro w' c;have e:decide (b≤1048576)=true:=decide_eq_true h2;go_simp;try with_reducible rfl) ?_;simp only[uZ]
  iterate 4 (refine Pd rfl (by intro w' c;have F:=zAB c.1 (i:=0) (v:=.int .i64 5) rfl;have q1:=zAB c.1 (i:=1) (v:=.int .i64 b) rfl;have q2:=zAB c.1 (i:=2) (v:=.int .i64 f) rfl;have G:=zAB c.1 (i:=3) (v:=.string n) rfl;have H:=zAB c.1 (i:=4) (v:=.string p) rfl;have I:=zAB c.2 (i:=5) (v:=.func (.func 95) #[] #[]) rfl;go_simp;try with_reducible rfl) ?_;simp only[uZ])
  refine Pd (v:=.bool true) rfl (by intro w' c;have e:decide (f≥1)=true:=decide_eq_true h3;go_simp;try with_reducible rfl) ?_;simp only[uZ]
  iterate 4 (refine Pd rfl (by intro w' c;have F:=zAB c.1 (i:=0) (v:=.int .i64 5) rfl;have q1:=zAB c.1 (i:=1) (v:=.int .i64 b) rfl;have q2:=zAB c.1 (i:=2) (v:=.int .i64 f) rfl;have G:=zAB c.1 (i:=3) (v:=.string n) rfl;have H:=zAB c.1 (i:=4) (v:=.string p) rfl;have I:=zAB c.2 (i:=5) (v:=.func (.func 95) #[] #[]) rfl;go_simp;try with_reducible rfl) ?_;simp only[uZ])
  refine Pd (v:=.bool true) rfl (by intro w' c;have e:decide (f≤1099511627776)=true:=decide_eq_true h4;go_simp;try with_reducible rfl) ?_;simp only[uZ]
  iterate 4 (refine Pd rfl (by intro w' c;have F:=zAB c.1 (i:=0) (v:=.int .i64 5) rfl;have q1:=zAB c.1 (i:=1) (v:=.int .i64 b) rfl;have q2:=zAB c.1 (i:=2) (v:=.int .i64 f) rfl;have G:=zAB c.1 (i:=3) (v:=.string n) rfl;have H:=zAB c.1 (i:=4) (v:=.string p) rfl;have I:=zAB c.2 (i:=5) (v:=.func (.func 95) #[] #[]) rfl;go_simp;try with_reducible rfl) ?_;simp only[uZ])
  refine Pn ?_;refine oon 21 rfl fun K D=>?_;go_wp2_with fail;refine(Hp.o _).mono ?_;rintro e w3 ⟨rfl,t⟩;have s:=And.intro ((t.block _ (zAA d.1)).trans d.1) ((t.block _ (zAA d.2)).trans d.2);have C:=zh (V.o.trans (t.mono V.o.size));clear t d;cases X:zDs n p with
  | false =>
   rw[X]at q;go_wp2_with fail;refine D.o _ _ s fun d=>?_;clear D s
   try simp only[uZ]
   refine Pl [22,23,24,25,26,27,28,29,30,31] ?_
   iterate 2 (refine Pc rfl ?_;simp only[uZ])
   iterate 6 (refine Ps rfl ?_;simp only[uZ])
   iterate 2 (refine Pc rfl ?_;simp only[uZ])
   refine Pn ?_;refine odn ?_;clear d;go_wp2_with fail;go_ret;exact⟨by rw[q];rfl,C.o⟩
  | true =>
   rw[X]at q;go_wp2_with fail;refine D.o _ _ s fun d=>?_;clear D s
   try simp only[uZ]
   refine Pl [22,23,24,25,26,27,28] ?_
   iterate 2 (refine Pc rfl ?_;simp only[uZ])
   iterate 4 (refine Pd rfl (by intro w' c;have F:=zAB c.1 (i:=0) (v:=.int .i64 5) rfl;have q1:=zAB c.1 (i:=1) (v:=.int .i64 b) rfl;have q2:=zAB c.1 (i:=2) (v:=.int .i64 f) rfl;have G:=zAB c.1 (i:=3) (v:=.string n) rfl;have H:=zAB c.1 (i:=4) (v:=.string p) rfl;have I:=zAB c.2 (i:=5) (v:=.func (.func 95) #[] #[]) rfl;go_simp;try with_reducible rfl) ?_;simp only[uZ])
   refine Pd rfl (by intro w' c;exact zBr 25 (.tmp 1) rfl rfl c.1 underlying25 rfl (by kernel_rfl)) ?_;simp only[uZ];refine Pn ?_;refine oon 29 rfl fun K D=>?_;go_wp2_with fail;refine(Z.o _).mono ?_;rintro e w4 ⟨rfl,t⟩;have E:=And.intro ((t.block _ (zAA d.1)).trans d.1) ((t.block _ (zAA d.2)).trans d.2);have J:=zh (C.o.trans (t.mono C.o.size));clear t d;go_wp2_with fail;refine D.o _ _ E fun d=>?_;clear D E
   try simp only[uZ]
   refine Pl [30,31] ?_
   iterate 2 (refine Pc rfl ?_;simp only[uZ])
   refine Pn ?_;refine odn ?_;clear d;go_wp2_with fail;go_ret;exact⟨by rw[q];rfl,J.o⟩
theorem heldk6_new {w w1:World}{b j:Int}{k m o p:ByteArray}{i c d:Int}{buy:Bool}{n:Int}(f:w1.heap[w.heap.size]?=some (.cells #[.int .i64 6,.int .i64 b,.int .i64 j,.string k,.string m,.string o,.string p,.int .i64 i,.int .i64 c,.int .i64 d,.bool buy,.int .i64 n] 25 (0,0)))(q:w1.heap[w.heap.size+1]?=some zAu)(r:Below w.heap.size w w1) :
  w1.heap[w.heap.size]?=some (.cells #[.int .i64 6,.int .i64 b,.int .i64 j,.string k,.string m,.string o,.string p,.int .i64 i,.int .i64 c,.int .i64 d,.bool buy,.int .i64 n] 25 (0,0))∧w1.heap[w.heap.size+1]?=some zAu∧w1.cell? ⟨w.heap.size,0,none⟩=some (.int .i64 6)∧w1.cell? ⟨w.heap.size,1,none⟩=some (.int .i64 b)∧w1.cell? ⟨w.heap.size,2,none⟩=some (.int .i64 j)∧w1.cell? ⟨w.heap.size,3,none⟩=some (.string k)∧w1.cell? ⟨w.heap.size,4,none⟩=some (.string m)∧w1.cell? ⟨w.heap.size,5,none⟩=some (.string o)∧w1.cell? ⟨w.heap.size,6,none⟩=some (.string p)∧w1.cell? ⟨w.heap.size,7,none⟩=some (.int .i64 i)∧w1.cell? ⟨w.heap.size,8,none⟩=some (.int .i64 c)∧w1.cell? ⟨w.heap.size,9,none⟩=some (.int .i64 d)∧w1.cell? ⟨w.heap.size,10,none⟩=some (.bool buy)∧w1.cell? ⟨w.heap.size,11,none⟩=some (.int .i64 n)∧w1.cell? ⟨w.heap.size+1,6,none⟩=some (.func (.func 91) #[] #[])∧Below w.heap.size w w1 :=
 ⟨f,q,zAB f rfl,zAB f rfl,zAB f rfl,zAB f rfl,zAB f rfl,zAB f rfl,zAB f rfl,zAB f rfl,zAB f rfl,zAB f rfl,zAB f rfl,zAB f rfl,zAB q rfl,r⟩
theorem zB3 {w w1:World}{b i:Int}{j k n o:ByteArray}{f c d:Int}{buy:Bool}{m:Int}(h:w1.heap[w.heap.size]?=some (.cells #[.int .i64 6,.int .i64 b,.int .i64 i,.string j,.string k,.string n,.string o,.int .i64 f,.int .i64 c,.int .i64 d,.bool buy,.int .i64 m] 25 (0,0))∧w1.heap[w.heap.size+1]?=some zAu∧w1.cell? ⟨w.heap.size,0,none⟩=some (.int .i64 6)∧w1.cell? ⟨w.heap.size,1,none⟩=some (.int .i64 b)∧w1.cell? ⟨w.heap.size,2,none⟩=some (.int .i64 i)∧w1.cell? ⟨w.heap.size,3,none⟩=some (.string j)∧w1.cell? ⟨w.heap.size,4,none⟩=some (.string k)∧w1.cell? ⟨w.heap.size,5,none⟩=some (.string n)∧w1.cell? ⟨w.heap.size,6,none⟩=some (.string o)∧w1.cell? ⟨w.heap.size,7,none⟩=some (.int .i64 f)∧w1.cell? ⟨w.heap.size,8,none⟩=some (.int .i64 c)∧w1.cell? ⟨w.heap.size,9,none⟩=some (.int .i64 d)∧w1.cell? ⟨w.heap.size,10,none⟩=some (.bool buy)∧w1.cell? ⟨w.heap.size,11,none⟩=some (.int .i64 m)∧w1.cell? ⟨w.heap.size+1,6,none⟩=some (.func (.func 91) #[] #[])∧Below w.heap.size w w1):Below w.heap.size w w1:=h.2.2.2.2.2.2.2.2.2.2.2.2.2.2.2
theorem opmay6_calls (w:World)(b f:Int)(n p a A:ByteArray)(m j k:Int)(buy:Bool)(z:Int)(h:OpM.wf ⟨6,b,f,n,p,a,A,m,j,k,buy,z⟩) :
  Calls prog 39 #[.agg #[.int .i64 6,.int .i64 b,.int .i64 f,.string n,.string p,.string a,.string A,.int .i64 m,.int .i64 j,.int .i64 k,.bool buy,.int .i64 z]] w (RetB (OpM.may ⟨6,b,f,n,p,a,A,m,j,k,buy,z⟩) w):=by
 have Y:=zh (fun x y:Obj=>(zAC w x).trans ((zAC (w.alloc x) y).mono (zAC w x).size));have Hp:=zh (fun W=>zBF W n p h.2.1.1 h.2.1.2.1);have Z:=zh (fun W=>zCU W _ h);have Hm:=zh (names_1 ⟨6,b,f,n,p,a,A,m,j,k,buy,z⟩ (.inr rfl));have aa:=fun W=>fn_eqn W (.func 91)
 go_enter func39,ntmps39
 go_wp2_with fail;obtain⟨w1,r⟩:∃w1,w1=(w.alloc (.cells #[.int .i64 6,.int .i64 b,.int .i64 f,.string n,.string p,.string a,.string A,.int .i64 m,.int .i64 j,.int .i64 k,.bool buy,.int .i64 z] 25 (0,0))).alloc (.cells #[.nilFunc,.func (.func 91) #[] #[],.func (.func 92) #[] #[],.func (.func 93) #[] #[],.func (.func 94) #[] #[],.func (.func 95) #[] #[],.func (.func 91) #[] #[],.func (.func 95) #[] #[]] 161 (0,0)):=⟨_,rfl⟩;have S:w1.heap[w.heap.size]?=some (.cells #[.int .i64 6,.int .i64 b,.int .i64 f,.string n,.string p,.string a,.string A,.int .i64 m,.int .i64 j,.int .i64 k,.bool buy,.int .i64 z] 25 (0,0)):=by rw[r];exact zAW _ (zAF _ _)
 have T:w1.heap[w.heap.size+1]?=some zAu:=by rw[r];exact zAn _ _ _
 have U:Below w.heap.size w w1:=r▸Y.o _ _;rw[←r];clear r;obtain⟨k0,k1,k2,k3,k4,k5,k6,k7,k8,k9,M,N,O,P,Q,R⟩:=heldk6_new S T U;have B:=zh (heldk6_new S T U);clear S T U R;rcases(by omega:b<1∨(1≤b∧1048576<b)∨(1≤b∧b≤1048576∧f<1)∨(1≤b∧b≤1048576∧1≤f∧1099511627776<f)∨(1≤b∧b≤1048576∧1≤f∧f≤1099511627776))with h1|⟨h1,h2⟩|⟨h1,h2,h3⟩|⟨h1,h2,h3,h4⟩|⟨h1,h2,h3,h4⟩
 ·have L:decide (1≤b)=false:=decide_eq_false (by omega)
  go_quiet (fail)
  go_wp2_with fail;go_ret;refine⟨zAO ?_,(zB3 B.o).trans (zAJ _ _ _)⟩;unfold OpM.may;simp;omega
 ·have L:decide (b≤1048576)=false:=decide_eq_false (by omega)
  go_quiet (fail)
  go_wp2_with fail;go_ret;refine⟨zAO ?_,(zB3 B.o).trans (zAJ _ _ _)⟩;unfold OpM.may;simp;omega
 ·have L:decide (1≤f)=false:=decide_eq_false (by omega)
  go_quiet (fail)
  go_wp2_with fail;go_ret;refine⟨zAO ?_,(zB3 B.o).trans (zAJ _ _ _)⟩;unfold OpM.may;simp;omega
 ·have L:decide (f≤1099511627776)=false:=decide_eq_false (by omega)
  go_quiet (fail)
  go_wp2_with fail;go_ret;refine⟨zAO ?_,(zB3 B.o).trans (zAJ _ _ _)⟩;unfold OpM.may;simp;omega
 ·have q:OpM.may ⟨6,b,f,n,p,a,A,m,j,k,buy,z⟩=(zDs n p&&OpM.cntM ⟨6,b,f,n,p,a,A,m,j,k,buy,z⟩):=by
   rw[←Hm.o];unfold OpM.may;simp[h1,h2,h3,h4]
  refine ost (fun w':World=>w'.heap[w.heap.size]?=some (.cells #[.int .i64 6,.int .i64 b,.int .i64 f,.string n,.string p,.string a,.string A,.int .i64 m,.int .i64 j,.int .i64 k,.bool buy,.int .i64 z] 25 (0,0))∧w'.heap[w.heap.size+1]?=some zAu) 32 ⟨B.o.1,B.o.2.1⟩ fun d=>?_;have V:=zh ((zB3 B.o).trans ((zDV w1).mono (zB3 B.o).size));clear k0 k1 k2 k3 k4 k5 k6 k7 k8 k9 M N O P Q;generalize w1.drew=w2 at *;refine Pl [0,1,2,3,4,5,6,7,8,9,10,11,12,13,14,15,16,17,18,19,20] ?_
  iterate 2 (refine Pd rfl (by intro w' c;have F:=zAB c.1 (i:=0) (v:=.int .i64 6) rfl;have q1:=zAB c.1 (i:=1) (v:=.int .i64 b) rfl;have q2:=zAB c.1 (i:=2) (v:=.int .i64 f) rfl;have G:=zAB c.1 (i:=3) (v:=.string n) rfl;have H:=zAB c.1 (i:=4) (v:=.string p) rfl;have I:=zAB c.2 (i:=6) (v:=.func (.func 91) #[] #[]) rfl;go_simp;try with_reducible rfl) ?_;simp only[uZ])
  refine Pd (v:=.bool true) rfl (by intro w' c;have e:decide (b≥1)=true:=decide_eq_true h1;go_simp;try with_reducible rfl) ?_;simp only[uZ]
  iterate 3 (refine Pd rfl (by intro w' c;have F:=zAB c.1 (i:=0) (v:=.int .i64 6) rfl;have q1:=zAB c.1 (i:=1) (v:=.int .i64 b) rfl;have q2:=zAB c.1 (i:=2) (v:=.int .i64 f) rfl;have G:=zAB c.1 (i:=3) (v:=.string n) rfl;have H:=zAB c.1 (i:=4) (v:=.string p) rfl;have I:=zAB c.2 (i:=6) (v:=.func (.func 91) #[] #[]) rfl;go_simp;try with_reducible rfl) ?_;simp only[uZ])
  refine Pd (v:=.bool true) rfl (by intro w' c;have e:decide (b≤1048576)=true:=decide_eq_true h2;go_simp;try with_reducible rfl) ?_;simp only[uZ]
  iterate 4 (refine Pd rfl (by intro w' c;have F:=zAB c.1 (i:=0) (v:=.int .i64 6) rfl;have q1:=zAB c.1 (i:=1) (v:=.int .i64 b) rfl;have q2:=zAB c.1 (i:=2) (v:=.int .i64 f) rfl;have G:=zAB c.1 (i:=3) (v:=.string n) rfl;have H:=zAB c.1 (i:=4) (v:=.string p) rfl;have I:=zAB c.2 (i:=6) (v:=.func (.func 91) #[] #[]) rfl;go_simp;try with_reducible rfl) ?_;simp only[uZ])
  refine Pd (v:=.bool true) rfl (by intro w' c;have e:decide (f≥1)=true:=decide_eq_true h3;go_simp;try with_reducible rfl) ?_;simp only[uZ]
  iterate 4 (refine Pd rfl (by intro w' c;have F:=zAB c.1 (i:=0) (v:=.int .i64 6) rfl;have q1:=zAB c.1 (i:=1) (v:=.int .i64 b) rfl;have q2:=zAB c.1 (i:=2) (v:=.int .i64 f) rfl;have G:=zAB c.1 (i:=3) (v:=.string n) rfl;have H:=zAB c.1 (i:=4) (v:=.string p) rfl;have I:=zAB c.2 (i:=6) (v:=.func (.func 91) #[] #[]) rfl;go_simp;try with_reducible rfl) ?_;simp only[uZ])
  refine Pd (v:=.bool true) rfl (by intro w' c;have e:decide (f≤1099511627776)=true:=decide_eq_true h4;go_simp;try with_reducible rfl) ?_;simp only[uZ]
  iterate 4 (refine Pd rfl (by intro w' c;have F:=zAB c.1 (i:=0) (v:=.int .i64 6) rfl;have q1:=zAB c.1 (i:=1) (v:=.int .i64 b) rfl;have q2:=zAB c.1 (i:=2) (v:=.int .i64 f) rfl;have G:=zAB c.1 (i:=3) (v:=.string n) rfl;have H:=zAB c.1 (i:=4) (v:=.string p) rfl;have I:=zAB c.2 (i:=6) (v:=.func (.func 91) #[] #[]) rfl;go_simp;try with_reducible rfl) ?_;simp only[uZ])
  refine Pn ?_;refine oon 21 rfl fun K D=>?_;go_wp2_with fail;refine(Hp.o _).mono ?_;rintro e w3 ⟨rfl,t⟩;have s:=And.intro ((t.block _ (zAA d.1)).trans d.1) ((t.block _ (zAA d.2)).trans d.2);have C:=zh (V.o.trans (t.mono V.o.size));clear t d;cases X:zDs n p with
  | false =>
   rw[X]at q;go_wp2_with fail;refine D.o _ _ s fun d=>?_;clear D s
   try simp only[uZ]
   refine Pl [22,23,24,25,26,27,28,29,30,31] ?_
   iterate 2 (refine Pc rfl ?_;simp only[uZ])
   iterate 6 (refine Ps rfl ?_;simp only[uZ])
   iterate 2 (refine Pc rfl ?_;simp only[uZ])
   refine Pn ?_;refine odn ?_;clear d;go_wp2_with fail;go_ret;exact⟨by rw[q];rfl,C.o⟩
  | true =>
   rw[X]at q;go_wp2_with fail;refine D.o _ _ s fun d=>?_;clear D s
   try simp only[uZ]
   refine Pl [22,23,24,25,26,27,28] ?_
   iterate 2 (refine Pc rfl ?_;simp only[uZ])
   iterate 4 (refine Pd rfl (by intro w' c;have F:=zAB c.1 (i:=0) (v:=.int .i64 6) rfl;have q1:=zAB c.1 (i:=1) (v:=.int .i64 b) rfl;have q2:=zAB c.1 (i:=2) (v:=.int .i64 f) rfl;have G:=zAB c.1 (i:=3) (v:=.string n) rfl;have H:=zAB c.1 (i:=4) (v:=.string p) rfl;have I:=zAB c.2 (i:=6) (v:=.func (.func 91) #[] #[]) rfl;go_simp;try with_reducible rfl) ?_;simp only[uZ])
   refine Pd rfl (by intro w' c;exact zBr 25 (.tmp 1) rfl rfl c.1 underlying25 rfl (by kernel_rfl)) ?_;simp only[uZ];refine Pn ?_;refine oon 29 rfl fun K D=>?_;go_wp2_with fail;refine(Z.o _).mono ?_;rintro e w4 ⟨rfl,t⟩;have E:=And.intro ((t.block _ (zAA d.1)).trans d.1) ((t.block _ (zAA d.2)).trans d.2);have J:=zh (C.o.trans (t.mono C.o.size));clear t d;go_wp2_with fail;refine D.o _ _ E fun d=>?_;clear D E
   try simp only[uZ]
   refine Pl [30,31] ?_
   iterate 2 (refine Pc rfl ?_;simp only[uZ])
   refine Pn ?_;refine odn ?_;clear d;go_wp2_with fail;go_ret;exact⟨by rw[q];rfl,J.o⟩
theorem heldk7_new {w w1:World}{b j:Int}{k m o p:ByteArray}{i c d:Int}{buy:Bool}{n:Int}(f:w1.heap[w.heap.size]?=some (.cells #[.int .i64 7,.int .i64 b,.int .i64 j,.string k,.string m,.string o,.string p,.int .i64 i,.int .i64 c,.int .i64 d,.bool buy,.int .i64 n] 25 (0,0)))(q:w1.heap[w.heap.size+1]?=some zAu)(r:Below w.heap.size w w1) :
  w1.heap[w.heap.size]?=some (.cells #[.int .i64 7,.int .i64 b,.int .i64 j,.string k,.string m,.string o,.string p,.int .i64 i,.int .i64 c,.int .i64 d,.bool buy,.int .i64 n] 25 (0,0))∧w1.heap[w.heap.size+1]?=some zAu∧w1.cell? ⟨w.heap.size,0,none⟩=some (.int .i64 7)∧w1.cell? ⟨w.heap.size,1,none⟩=some (.int .i64 b)∧w1.cell? ⟨w.heap.size,2,none⟩=some (.int .i64 j)∧w1.cell? ⟨w.heap.size,3,none⟩=some (.string k)∧w1.cell? ⟨w.heap.size,4,none⟩=some (.string m)∧w1.cell? ⟨w.heap.size,5,none⟩=some (.string o)∧w1.cell? ⟨w.heap.size,6,none⟩=some (.string p)∧w1.cell? ⟨w.heap.size,7,none⟩=some (.int .i64 i)∧w1.cell? ⟨w.heap.size,8,none⟩=some (.int .i64 c)∧w1.cell? ⟨w.heap.size,9,none⟩=some (.int .i64 d)∧w1.cell? ⟨w.heap.size,10,none⟩=some (.bool buy)∧w1.cell? ⟨w.heap.size,11,none⟩=some (.int .i64 n)∧w1.cell? ⟨w.heap.size+1,7,none⟩=some (.func (.func 95) #[] #[])∧Below w.heap.size w w1 :=
 ⟨f,q,zAB f rfl,zAB f rfl,zAB f rfl,zAB f rfl,zAB f rfl,zAB f rfl,zAB f rfl,zAB f rfl,zAB f rfl,zAB f rfl,zAB f rfl,zAB f rfl,zAB q rfl,r⟩
theorem zB4 {w w1:World}{b i:Int}{j k n o:ByteArray}{f c d:Int}{buy:Bool}{m:Int}(h:w1.heap[w.heap.size]?=some (.cells #[.int .i64 7,.int .i64 b,.int .i64 i,.string j,.string k,.string n,.string o,.int .i64 f,.int .i64 c,.int .i64 d,.bool buy,.int .i64 m] 25 (0,0))∧w1.heap[w.heap.size+1]?=some zAu∧w1.cell? ⟨w.heap.size,0,none⟩=some (.int .i64 7)∧w1.cell? ⟨w.heap.size,1,none⟩=some (.int .i64 b)∧w1.cell? ⟨w.heap.size,2,none⟩=some (.int .i64 i)∧w1.cell? ⟨w.heap.size,3,none⟩=some (.string j)∧w1.cell? ⟨w.heap.size,4,none⟩=some (.string k)∧w1.cell? ⟨w.heap.size,5,none⟩=some (.string n)∧w1.cell? ⟨w.heap.size,6,none⟩=some (.string o)∧w1.cell? ⟨w.heap.size,7,none⟩=some (.int .i64 f)∧w1.cell? ⟨w.heap.size,8,none⟩=some (.int .i64 c)∧w1.cell? ⟨w.heap.size,9,none⟩=some (.int .i64 d)∧w1.cell? ⟨w.heap.size,10,none⟩=some (.bool buy)∧w1.cell? ⟨w.heap.size,11,none⟩=some (.int .i64 m)∧w1.cell? ⟨w.heap.size+1,7,none⟩=some (.func (.func 95) #[] #[])∧Below w.heap.size w w1):Below w.heap.size w w1:=h.2.2.2.2.2.2.2.2.2.2.2.2.2.2.2
theorem opmay7_calls (w:World)(b f:Int)(n p a A:ByteArray)(m j k:Int)(buy:Bool)(z:Int)(h:OpM.wf ⟨7,b,f,n,p,a,A,m,j,k,buy,z⟩) :
  Calls prog 39 #[.agg #[.int .i64 7,.int .i64 b,.int .i64 f,.string n,.string p,.string a,.string A,.int .i64 m,.int .i64 j,.int .i64 k,.bool buy,.int .i64 z]] w (RetB (OpM.may ⟨7,b,f,n,p,a,A,m,j,k,buy,z⟩) w):=by
 have Y:=zh (fun x y:Obj=>(zAC w x).trans ((zAC (w.alloc x) y).mono (zAC w x).size));have Hp:=zh (fun W=>zBF W n p h.2.1.1 h.2.1.2.1);have Z:=zh (fun W=>opbare_calls W _ h);have Hm:=zh (names_5 ⟨7,b,f,n,p,a,A,m,j,k,buy,z⟩ (.inr rfl));have aa:=fun W=>fn_eqn W (.func 95)
 go_enter func39,ntmps39
 go_wp2_with fail;obtain⟨w1,r⟩:∃w1,w1=(w.alloc (.cells #[.int .i64 7,.int .i64 b,.int .i64 f,.string n,.string p,.string a,.string A,.int .i64 m,.int .i64 j,.int .i64 k,.bool buy,.int .i64 z] 25 (0,0))).alloc (.cells #[.nilFunc,.func (.func 91) #[] #[],.func (.func 92) #[] #[],.func (.func 93) #[] #[],.func (.func 94) #[] #[],.func (.func 95) #[] #[],.func (.func 91) #[] #[],.func (.func 95) #[] #[]] 161 (0,0)):=⟨_,rfl⟩;have S:w1.heap[w.heap.size]?=some (.cells #[.int .i64 7,.int .i64 b,.int .i64 f,.string n,.string p,.string a,.string A,.int .i64 m,.int .i64 j,.int .i64 k,.bool buy,.int .i64 z] 25 (0,0)):=by rw[r];exact zAW _ (zAF _ _)
 have T:w1.heap[w.heap.size+1]?=some zAu:=by rw[r];exact zAn _ _ _
 have U:Below w.heap.size w w1:=r▸Y.o _ _;rw[←r];clear r;obtain⟨k0,k1,k2,k3,k4,k5,k6,k7,k8,k9,M,N,O,P,Q,R⟩:=heldk7_new S T U;have B:=zh (heldk7_new S T U);clear S T U R;rcases(by omega:b<1∨(1≤b∧1048576<b)∨(1≤b∧b≤1048576∧f<1)∨(1≤b∧b≤1048576∧1≤f∧1099511627776<f)∨(1≤b∧b≤1048576∧1≤f∧f≤1099511627776))with h1|⟨h1,h2⟩|⟨h1,h2,h3⟩|⟨h1,h2,h3,h4⟩|⟨h1,h2,h3,h4⟩
 ·have L:decide (1≤b)=false:=decide_eq_false (by omega)
  go_quiet (fail)
  go_wp2_with fail;go_ret;refine⟨zAO ?_,(zB4 B.o).trans (zAJ _ _ _)⟩;unfold OpM.may;simp;omega
 ·have L:decide (b≤1048576)=false:=decide_eq_false (by omega)
  go_quiet (fail)
  go_wp2_with fail;go_ret;refine⟨zAO ?_,(zB4 B.o).trans (zAJ _ _ _)⟩;unfold OpM.may;simp;omega
 ·have L:decide (1≤f)=false:=decide_eq_false (by omega)
  go_quiet (fail)
  go_wp2_with fail;go_ret;refine⟨zAO ?_,(zB4 B.o).trans (zAJ _ _ _)⟩;unfold OpM.may;simp;omega
 ·have L:decide (f≤1099511627776)=false:=decide_eq_false (by omega)
  go_quiet (fail)
  go_wp2_with fail;go_ret;refine⟨zAO ?_,(zB4 B.o).trans (zAJ _ _ _)⟩;unfold OpM.may;simp;omega
 ·have q:OpM.may ⟨7,b,f,n,p,a,A,m,j,k,buy,z⟩=(zDs n p&&OpM.bareM ⟨7,b,f,n,p,a,A,m,j,k,buy,z⟩):=by
   rw[←Hm.o];unfold OpM.may;simp[h1,h2,h3,h4]
  refine ost (fun w':World=>w'.heap[w.heap.size]?=some (.cells #[.int .i64 7,.int .i64 b,.int .i64 f,.string n,.string p,.string a,.string A,.int .i64 m,.int .i64 j,.int .i64 k,.bool buy,.int .i64 z] 25 (0,0))∧w'.heap[w.heap.size+1]?=some zAu) 32 ⟨B.o.1,B.o.2.1⟩ fun d=>?_;have V:=zh ((zB4 B.o).trans ((zDV w1).mono (zB4 B.o).size));clear k0 k1 k2 k3 k4 k5 k6 k7 k8 k9 M N O P Q;generalize w1.drew=w2 at *;refine Pl [0,1,2,3,4,5,6,7,8,9,10,11,12,13,14,15,16,17,18,19,20] ?_
  iterate 2 (refine Pd rfl (by intro w' c;have F:=zAB c.1 (i:=0) (v:=.int .i64 7) rfl;have q1:=zAB c.1 (i:=1) (v:=.int .i64 b) rfl;have q2:=zAB c.1 (i:=2) (v:=.int .i64 f) rfl;have G:=zAB c.1 (i:=3) (v:=.string n) rfl;have H:=zAB c.1 (i:=4) (v:=.string p) rfl;have I:=zAB c.2 (i:=7) (v:=.func (.func 95) #[] #[]) rfl;go_simp;try with_reducible rfl) ?_;simp only[uZ])
  refine Pd (v:=.bool true) rfl (by intro w' c;have e:decide (b≥1)=true:=decide_eq_true h1;go_simp;try with_reducible rfl) ?_;simp only[uZ]
  iterate 3 (refine Pd rfl (by intro w' c;have F:=zAB c.1 (i:=0) (v:=.int .i64 7) rfl;have q1:=zAB c.1 (i:=1) (v:=.int .i64 b) rfl;have q2:=zAB c.1 (i:=2) (v:=.int .i64 f) rfl;have G:=zAB c.1 (i:=3) (v:=.string n) rfl;have H:=zAB c.1 (i:=4) (v:=.string p) rfl;have I:=zAB c.2 (i:=7) (v:=.func (.func 95) #[] #[]) rfl;go_simp;try with_reducible rfl) ?_;simp only[uZ])
  refine Pd (v:=.bool true) rfl (by intro w' c;have e:decide (b≤1048576)=true:=decide_eq_true h2;go_simp;try with_reducible rfl) ?_;simp only[uZ]
  iterate 4 (refine Pd rfl (by intro w' c;have F:=zAB c.1 (i:=0) (v:=.int .i64 7) rfl;have q1:=zAB c.1 (i:=1) (v:=.int .i64 b) rfl;have q2:=zAB c.1 (i:=2) (v:=.int .i64 f) rfl;have G:=zAB c.1 (i:=3) (v:=.string n) rfl;have H:=zAB c.1 (i:=4) (v:=.string p) rfl;have I:=zAB c.2 (i:=7) (v:=.func (.func 95) #[] #[]) rfl;go_simp;try with_reducible rfl) ?_;simp only[uZ])
  refine Pd (v:=.bool true) rfl (by intro w' c;have e:decide (f≥1)=true:=decide_eq_true h3;go_simp;try with_reducible rfl) ?_;simp only[uZ]
  iterate 4 (refine Pd rfl (by intro w' c;have F:=zAB c.1 (i:=0) (v:=.int .i64 7) rfl;have q1:=zAB c.1 (i:=1) (v:=.int .i64 b) rfl;have q2:=zAB c.1 (i:=2) (v:=.int .i64 f) rfl;have G:=zAB c.1 (i:=3) (v:=.string n) rfl;have H:=zAB c.1 (i:=4) (v:=.string p) rfl;have I:=zAB c.2 (i:=7) (v:=.func (.func 95) #[] #[]) rfl;go_simp;try with_reducible rfl) ?_;simp only[uZ])
  refine Pd (v:=.bool true) rfl (by intro w' c;have e:decide (f≤1099511627776)=true:=decide_eq_true h4;go_simp;try with_reducible rfl) ?_;simp only[uZ]
  iterate 4 (refine Pd rfl (by intro w' c;have F:=zAB c.1 (i:=0) (v:=.int .i64 7) rfl;have q1:=zAB c.1 (i:=1) (v:=.int .i64 b) rfl;have q2:=zAB c.1 (i:=2) (v:=.int .i64 f) rfl;have G:=zAB c.1 (i:=3) (v:=.string n) rfl;have H:=zAB c.1 (i:=4) (v:=.string p) rfl;have I:=zAB c.2 (i:=7) (v:=.func (.func 95) #[] #[]) rfl;go_simp;try with_reducible rfl) ?_;simp only[uZ])
  refine Pn ?_;refine oon 21 rfl fun K D=>?_;go_wp2_with fail;refine(Hp.o _).mono ?_;rintro e w3 ⟨rfl,t⟩;have s:=And.intro ((t.block _ (zAA d.1)).trans d.1) ((t.block _ (zAA d.2)).trans d.2);have C:=zh (V.o.trans (t.mono V.o.size));clear t d;cases X:zDs n p with
  | false =>
   rw[X]at q;go_wp2_with fail;refine D.o _ _ s fun d=>?_;clear D s
   try simp only[uZ]
   refine Pl [22,23,24,25,26,27,28,29,30,31] ?_
   iterate 2 (refine Pc rfl ?_;simp only[uZ])
   iterate 6 (refine Ps rfl ?_;simp only[uZ])
   iterate 2 (refine Pc rfl ?_;simp only[uZ])
   refine Pn ?_;refine odn ?_;clear d;go_wp2_with fail;go_ret;exact⟨by rw[q];rfl,C.o⟩
  | true =>
   rw[X]at q;go_wp2_with fail;refine D.o _ _ s fun d=>?_;clear D s
   try simp only[uZ]
   refine Pl [22,23,24,25,26,27,28] ?_
   iterate 2 (refine Pc rfl ?_;simp only[uZ])
   iterate 4 (refine Pd rfl (by intro w' c;have F:=zAB c.1 (i:=0) (v:=.int .i64 7) rfl;have q1:=zAB c.1 (i:=1) (v:=.int .i64 b) rfl;have q2:=zAB c.1 (i:=2) (v:=.int .i64 f) rfl;have G:=zAB c.1 (i:=3) (v:=.string n) rfl;have H:=zAB c.1 (i:=4) (v:=.string p) rfl;have I:=zAB c.2 (i:=7) (v:=.func (.func 95) #[] #[]) rfl;go_simp;try with_reducible rfl) ?_;simp only[uZ])
   refine Pd rfl (by intro w' c;exact zBr 25 (.tmp 1) rfl rfl c.1 underlying25 rfl (by kernel_rfl)) ?_;simp only[uZ];refine Pn ?_;refine oon 29 rfl fun K D=>?_;go_wp2_with fail;refine(Z.o _).mono ?_;rintro e w4 ⟨rfl,t⟩;have E:=And.intro ((t.block _ (zAA d.1)).trans d.1) ((t.block _ (zAA d.2)).trans d.2);have J:=zh (C.o.trans (t.mono C.o.size));clear t d;go_wp2_with fail;refine D.o _ _ E fun d=>?_;clear D E
   try simp only[uZ]
   refine Pl [30,31] ?_
   iterate 2 (refine Pc rfl ?_;simp only[uZ])
   refine Pn ?_;refine odn ?_;clear d;go_wp2_with fail;go_ret;exact⟨by rw[q];rfl,J.o⟩
theorem zBK (w:World)(o:OpM)(h:o.wf):Calls prog 39 #[o.v] w (RetB o.may w):=by
 by_cases r:o.kind<1∨8≤o.kind
 ·exact opmayno_calls w o r
 ·obtain⟨f,b,j,k,m,p,q,i,c,d,buy,n⟩:=o;have s:1≤f∧f<8:=by
   simp only[not_or]at r;omega
  rcases(by omega:f=1∨f=2∨f=3∨f=4∨f=5∨f=6∨f=7)with rfl|rfl|rfl|rfl|rfl|rfl|rfl
  ·exact opmay1_calls w b j k m p q i c d buy n h
  ·exact opmay2_calls w b j k m p q i c d buy n h
  ·exact opmay3_calls w b j k m p q i c d buy n h
  ·exact opmay4_calls w b j k m p q i c d buy n h
  ·exact opmay5_calls w b j k m p q i c d buy n h
  ·exact opmay6_calls w b j k m p q i c d buy n h
  ·exact opmay7_calls w b j k m p q i c d buy n h
theorem ss_none {w:World}{d:Nat}{f:List (Int×Sess)}(h:zAd w prog 3 (intK underlying3) sessE d f)(c:Int)(i:zCs c)(j:zBS c f=none) :
  (Instr.lookup 153 (.map (some d)) (.int .i64 c) true).run prog w=.ok (.tuple #[.agg #[.int .i64 0,.int .i64 0,.int .i64 0,.int .i64 0,.int .i64 0,.int .i64 0,.int .i64 0],.bool false]) w:=by
 have b:=h.look_ok intKeyed underlying153 (by kernel_rfl) (a:=c) i;rw[show(intK (P:=prog) underlying3).v c=.int .i64 c from rfl]at b;rw[b,j];rfl
def OpL (o:OpM):List Value:=[.int .i64 o.kind,.int .i64 o.client,.int .i64 o.seq,.string o.atK,.string o.atW,.string o.toK,.string o.toW,.int .i64 o.item,.int .i64 o.count,.int .i64 o.price,.bool o.buy,.int .i64 o.id]
def zAa:List Value:=[.int .i64 0,.int .i64 0,.int .i64 0,.int .i64 0,.int .i64 0,.int .i64 0]
def SessL:List Value:=[.int .i64 0,.int .i64 0,.int .i64 0,.int .i64 0,.int .i64 0,.int .i64 0,.int .i64 0]
theorem OpM.v_L (o:OpM):o.v=.agg (OpL o).toArray:=rfl
theorem zCE (o:OpM):∀v∈OpL o,v.oneCell'=true:=by
 intro v b;unfold OpL at b;simp only[List.mem_cons,List.not_mem_nil,or_false]at b;rcases b with rfl|rfl|rfl|rfl|rfl|rfl|rfl|rfl|rfl|rfl|rfl|rfl<;>rfl
theorem zA8:∀v∈zAa,v.oneCell'=true:=by
 intro v b;unfold zAa at b;simp only[List.mem_cons,List.not_mem_nil,or_false]at b;rcases b with rfl|rfl|rfl|rfl|rfl|rfl<;>rfl
theorem SessL_one:∀v∈SessL,v.oneCell'=true:=by
 intro v b;unfold SessL at b;simp only[List.mem_cons,List.not_mem_nil,or_false]at b;rcases b with rfl|rfl|rfl|rfl|rfl|rfl|rfl<;>rfl
theorem zCl {w:World}{O vm q R P:Nat}{E:zBu}{own:Nat→Option (Nat×Bs)}(h:zAI w O vm q R P E own)(o:OpM)(X:o.wf)(hm:o.may=true)(V:o.kind≠6∧o.kind≠7)
  (hs:zBS o.client E.ss=none) :
  Calls prog 41 #[.pointer (some ⟨O,0,none⟩),.agg (OpL o).toArray] w fun e w'=>e=.returned (.tuple #[.agg zAa.toArray,.bool false])∧Below w.heap.size w w':=by
 have T:=zh (fun W=>zBK W o X);rw[hm]at T;have H:=zh h;have U:=zh (And.intro hs X);have aa:(o.kind==6)=false:=by simpa using V.1
 have ab:(o.kind==7)=false:=by simpa using V.2
 go_enter func41,ntmps41
 go_wp2_with (first
  | (refine bbox rfl 25 (.tmp 1) rfl (L:=OpL o) rfl ?_;intro J F C G;have r:=zh (And.intro F (And.intro C G));clear F C G)
  | (refine zAe rfl 48 rfl (zeroValue48 _) (by decide) ?_;intro w3 k c n;have H3:=zh (And.intro k (And.intro ((c.block _ (zAA r.o.1)).trans r.o.1) (And.intro (r.o.2.1.trans (c.mono r.o.2.1.size)) r.o.2.2)));clear k c n r)
  | (refine zA1 rfl 25 (.tmp 3) rfl w.heap.size rfl (L:=OpL o) H3.o.2.1 underlying25 rfl (by kernel_rfl) ?_))
 refine(T.o _).mono ?_;rintro e w4 ⟨rfl,j⟩;have f:=zh (And.intro ((j.block _ (zAA H3.o.1)).trans H3.o.1) (And.intro ((j.block _ (zAA H3.o.2.1)).trans H3.o.2.1) (And.intro (H3.o.2.2.1.trans (j.mono H3.o.2.2.1.size)) (H3.o.2.2.2))));clear j;have c1:=zAB f.o.2.1 (i:=1) (v:=.int .i64 o.client) rfl;have c2:=zAB f.o.2.1 (i:=2) (v:=.int .i64 o.seq) rfl;go_wp2_with (first
  | (refine zAe rfl 164 rfl (zeroValue164 _) (by decide) ?_;intro w5 k c n;have s:=zh (And.intro k (And.intro ((c.block _ (zAA f.o.1)).trans f.o.1) (And.intro ((c.block _ (zAA f.o.2.1)).trans f.o.2.1) (f.o.2.2.1.trans (c.mono f.o.2.2.1.size)))));have A:=zh (zAA f.o.1);clear k c n)
  | (refine zAg rfl 164 (.tmp 6) (.tmp 23) rfl w4.heap.size rfl (L:=[.int .i64 o.client,.int .i64 o.seq]) rfl s.o.1 rfl (by kernel_rfl) (by intro v Y;simp only[List.mem_cons,List.not_mem_nil,or_false]at Y;rcases Y with rfl|rfl<;>rfl) ?_;intro M hn d;have z:=zh (And.intro ((d.block _ (zAA s.o.2.1) (by have:=A.o;omega)).trans s.o.2.1) (And.intro ((d.block _ (zAA s.o.2.2.1) (by have:=A.o;have:=f.o.2.2.2;omega)).trans s.o.2.2.1) (zAY s.o.2.2.2 d f.o.2.2.1.size)));clear hn d))
 clear c1 c2;have D:M.heap[O]?=some (zDJ vm q R P):=(z.o.2.2.block _ (H.o.oLt _ (by rw[H.o.oE];simp))).trans H.o.cells;have I:zAd M prog 3 (intK underlying3) sessE q E.ss:=H.o.sess.keep (z.o.2.2.block _ (H.o.oLt _ (by rw[H.o.oS];simp)));refine ost (fun w':World=>w'.heap[w.heap.size]?=some (.cells (OpL o).toArray 25 (0,0))∧w'.heap[O]?=some (zDJ vm q R P)∧zAd w' prog 3 (intK underlying3) sessE q E.ss) 13 ⟨z.o.2.1,D,I.keep rfl⟩ fun b=>?_;clear D I;have t:=zW (M.drew.heap[J.heap.size]?=some (.cells zAa.toArray 48 (0,0))∧Below w.heap.size w M.drew) (⟨z.o.1,z.o.2.2.trans ⟨rfl,rfl,rfl,Nat.le_refl _,fun _ _=>rfl⟩⟩);generalize M.drew=Z at *;refine Pl [0,1,2,3,4,5,6,7,8,9] ?_
 iterate 10 (refine Pd rfl (by intro w' m;have p1:=zAB m.1 (i:=1) (v:=.int .i64 o.client) rfl;have q1:=zAB m.2.1 (i:=1) (v:=.map (some q)) rfl;have hl:=ss_none m.2.2 o.client U.o.2.1.2.1 U.o.1;go_simp;try with_reducible rfl) ?_;simp only[uZ])
 refine Pn ?_;refine oon 10 rfl fun K B=>?_;refine zAo 166 rfl (zeroValue166 _) (by decide) ?_;intro S hn j Q;have N:=zW (S.heap[Z.heap.size]?=some (.cells SessL.toArray 166 (0,0))∧S.heap[J.heap.size]?=some (.cells zAa.toArray 48 (0,0))∧Below w.heap.size w S) (⟨hn,(j.block _ (zAA t.o.1)).trans t.o.1,t.o.2.trans (j.mono t.o.2.size)⟩);have a:=zh (And.intro (zAA t.o.1) (And.intro (zAA b.1) (And.intro (zAA b.2.1) t.o.2.size)));refine B.o _ _ ⟨(j.block _ (zAA b.1)).trans b.1,(j.block _ (zAA b.2.1)).trans b.2.1,b.2.2.keep (j.block _ (b.2.2.lt))⟩ fun b=>?_;clear B hn j Q
 try simp only[uZ]
 refine oon 11 rfl fun K B=>?_;refine zAi 166 (.tmp 7) (.tmp 32) rfl Z.heap.size rfl (L:=SessL) rfl N.o.1 rfl (by kernel_rfl) SessL_one ?_;intro w9 hn d;have H9:=zW (w9.heap[J.heap.size]?=some (.cells zAa.toArray 48 (0,0))∧Below w.heap.size w w9) (⟨(d.block _ (zAA N.o.2.1) (by have:=a.o.1;omega)).trans N.o.2.1,zAY N.o.2.2 d a.o.2.2.2⟩);refine B.o _ _ ⟨(d.block _ (zAA b.1) (by have:=a.o.2.1;omega)).trans b.1,(d.block _ (zAA b.2.1) (by have:=a.o.2.2.1;omega)).trans b.2.1,b.2.2.keep (d.block _ b.2.2.lt (by have h1:=b.2.2.lt;have h2:=H.o.oLt q (by rw[H.o.oS];simp);have:=a.o.2.2.2;omega))⟩ (fun b=>?_);clear B hn d
 try simp only[uZ]
 refine Pl [12] ?_
 iterate 1 (refine Pc rfl ?_;simp only[uZ])
 refine Pn ?_;refine odn ?_;have c0:=zAB b.1 (i:=0) (v:=.int .i64 o.kind) rfl;clear b;have HW:=zh (zAA H9.o.1);go_wp2_with (first
  | (refine zBY rfl 48 #[] rfl (v:=.agg zAa.toArray) (by kernel_rfl) ?_)
  | (refine zAg rfl 48 (.tmp 4) (.tmp 82) rfl J.heap.size rfl (L:=zAa) rfl H9.o.1 rfl (by kernel_rfl) zA8 ?_;intro ac hn d;have y:=zh (And.intro hn (zAY H9.o.2 d (by have:=f.o.2.2.2;omega)));clear hn d))
 refine bodyPost_ret (zAS (p:=4) (u:=5) rfl _ _ J.heap.size _ _ (0,0) _ rfl y.o.1 underlying48 rfl (by kernel_rfl)) rfl ?_;exact⟨rfl,y.o.2⟩
end Go.Proofs.YtmcanphlgkolcaaGreatDoor
