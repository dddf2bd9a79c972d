/- What the program's functions and the document's do, and plain laws, for PZoneStates. -/
import Derived.Test.YtmcanphlgkolcaaGreatDoorCD
import Derived.Test.YtmcanphlgkolcaaGreatDoorCE
import Derived.Test.YtmcanphlgkolcaaGreatDoorCJ
import Derived.Test.YtmcanphlgkolcaaGreatDoorCK
import Derived.Test.YtmcanphlgkolcaaGreatDoorCL
import Derived.Test.YtmcanphlgkolcaaGreatDoorCM
import Derived.Test.YtmcanphlgkolcaaGreatDoorCN
open Go.Proofs.Tryz
set_option maxRecDepth 100000
set_option maxHeartbeats 64000000
namespace Go.Proofs.YtmcanphlgkolcaaGreatDoor
open Go.RowKit Go.Sat Go.Maps
theorem opL_lits (o:OpM)(h:o.wf):∀m,(∃n,m=n+2)→prog.keyLits (m+1) 25 (OpL o)=some o.lits:=by
 have a:prog.cellsOf 25=12:=by kernel_rfl
 have d:prog.cellsOf 23=2:=by kernel_rfl
 have b:prog.cellsOf 3=1:=by kernel_rfl
 have c:prog.cellsOf 4=1:=by kernel_rfl
 obtain⟨⟨i,j,k⟩,⟨t,v,y,z⟩,p,q,r,s⟩:=h;unfold zCs at i j k p q r s;rintro m ⟨n,rfl⟩;have f:prog.cellsOf 9=1:=by kernel_rfl
 unfold zCo at t v y z;unfold OpL;simp[Program.keyLits,underlying25,underlying23,underlying3,underlying4,underlying9,a,d,b,c,f,i,j,k,p,q,r,s,t,v,y,z,OpM.lits];rw[if_pos (by decide),if_pos (by decide)];rfl
theorem opL_eq (w:World)(x y:OpM)(m:x.wf)(o:y.wf):(Op.equalIn 10000 25 (.agg (OpL x).toArray) (.agg (OpL y).toArray)).run prog w=.ok (x.same y) w:=by
 have i:prog.cellsOf 25=12:=by kernel_rfl
 have hn:∃n,prog.types.size=n+2:=⟨prog.types.size-2,by kernel_rfl⟩;have f:∀z:OpM,(Value.agg (OpL z).toArray).formed prog 25=true:=fun z=>by simp[OpL,Value.formed,underlying25,i]
 obtain⟨r,j,c⟩:=run_equalIn_deep (10000-3) 3 25 (by kernel_rfl) w _ _ (.agg (OpL x).toArray) (.agg (OpL y).toArray) _ _ (f x) (f y) (opL_lits x m _ hn) (opL_lits y o _ hn);have d:(Op.equalIn 10000 25 (.agg (OpL x).toArray) (.agg (OpL y).toArray)).run prog w=.ok r w:=j;rw[d]
 congr 1
 rw[Bool.eq_iff_iff,c];have k:∀a b:ByteArray,a.data.toList=b.data.toList↔a=b:=fun a b=>⟨fun h=>by cases a;cases b;simpa using h,fun h=>by rw[h]⟩;simp only[OpM.lits,OpM.same,List.cons.injEq,Lit.int.injEq,Lit.string.injEq,Lit.bool.injEq,true_and,and_true,decide_eq_true_eq,k]
theorem r10key_calls (w:World)(s:ByteArray)(b:zCo s):Calls prog 163 #[.string s] w fun e w'=>e=.returned (.bool (decide (1≤s.size)&&decide (s.size≤16)))∧w'=w:=by
 unfold zCo maxLen at b
 go_enter func163,ntmps163
 go_wp2_with fail
 all_goals
  go_ret;refine⟨zAO ?_,rfl⟩;simp;omega
theorem zED (w:World)(a b:ByteArray)(f:zCo a)(i:zCo b):Calls prog 108 #[.agg #[.string a,.string b]] w (RetB (zDs a b) w):=by
 have c:=zh (zAC w (.cells #[.string a,.string b] 23));have j:=zh (fun W=>r10key_calls W a f);have k:=zh (fun W=>r10key_calls W b i);have d:=zh (show zDs a b=((decide (1≤a.size)&&decide (a.size≤16))&&(decide (1≤b.size)&&decide (b.size≤16))) by unfold zDs;simp only[Bool.and_assoc]);clear f i
 go_enter func108,ntmps108
 go_wp2_with fail;refine(j.o _).mono ?_;rintro e m ⟨rfl,rfl⟩;generalize (decide (1≤a.size)&&decide (a.size≤16))=x at *;cases x with
 | false =>
  go_wp2_with fail;go_ret;exact⟨by rw[d.o];rfl,c.o⟩
 | true =>
  go_wp2_with fail;refine(k.o _).mono ?_;rintro e m ⟨rfl,rfl⟩;go_wp2_with fail;go_ret;exact⟨by rw[d.o];rfl,c.o⟩
theorem r10one_calls (w:World)(b:Bool):Calls prog 50 #[.bool b] w fun e w'=>e=.returned (.int .i64 (if b then 1 else 0))∧w'=w:=by
 cases b
 all_goals
  go_enter func50,ntmps50
  go_wp2_with fail;go_ret;exact⟨rfl,rfl⟩
def zDw (o:OpM):OpM :=
 let x:OpM:={OpM.zero with kind:=o.kind,client:=o.client,seq:=o.seq,atK:=o.atK,atW:=o.atW}
 if o.kind=1∨o.kind=6 then {x with item:=o.item,count:=o.count}
 else if o.kind=2 then {x with item:=o.item,count:=o.count,toK:=o.toK,toW:=o.toW}
 else if o.kind=3 then {x with item:=o.item,count:=o.count,price:=o.price,buy:=o.buy}
 else if o.kind=4 then {x with id:=o.id}else x
def zDj (o:OpM):Bool :=
 if o.kind=1∨o.kind=6 then o.cnt
 else if o.kind=2 then o.cnt&&zDs o.toK o.toW
 else if o.kind=3 then decide (1≤o.item)&&decide (o.item≤3)&&decide (1≤o.count)&&decide (o.count≤1048576)&&decide (1≤o.price)&&decide (o.price≤1024)
 else if o.kind=4 then decide (1≤o.id)&&decide (o.id≤1099511627776)
 else if o.kind=5∨o.kind=7 then true else false
theorem may10_is (o:OpM):o.may=(decide (1≤o.client)&&decide (o.client≤1048576)&&decide (1≤o.seq)&&decide (o.seq≤1099511627776)&&zDs o.atK o.atW&&(zDj o&&(zDw o).same o)):=by
 obtain⟨k,p,v,j,m,y,z,s,q,t,n,r⟩:=o;unfold OpM.may
 congr 1
 unfold OpM.names zDj zDw OpM.same OpM.bare OpM.noTo OpM.cnt OpM.zero;dsimp only;rw[Bool.eq_iff_iff]
 by_cases b:k=1∨k=6
 ·simp only[if_pos b];simp
  grind
 by_cases c:k=2
 ·simp only[if_neg b,if_pos c];simp
  grind
 by_cases d:k=3
 ·simp only[if_neg b,if_neg c,if_pos d];simp
  grind
 by_cases f:k=4
 ·simp only[if_neg b,if_neg c,if_neg d,if_pos f];simp
  grind
 by_cases i:k=5∨k=7
 ·simp only[if_neg b,if_neg c,if_neg d,if_neg f,if_pos i];simp
  grind
 ·simp only[if_neg b,if_neg c,if_neg d,if_neg f,if_neg i];simp
theorem yeqlO {P:Program}{o:Oper}{ev:Operand→Value}{w:World}(ty n:TypeId)(x y:Operand)(i:o.op=.binOp .eql ty x y n){a b:Array Value}(k:ev x=.agg a)(m:ev y=.agg b){c:Bool}(f:P.eqGuardType P.depth ty=false)(j:(Op.equalIn 10000 ty (.agg a) (.agg b)).run P w=.ok c w):(execOp ev o).run P w=.ok (.value (.bool c)) w:=by
 unfold execOp;simp only[i,k,m];have d:(Op.equalIn Op.maxDepth ty (.agg a) (.agg b)).run P w=.ok c w:=j;simp[eqGuard,binOp,Op.equal,Sem.run_bind,d,f,Result.andThen]
theorem beqlO {P:Program}{b:Array Oper}{rest:List Oper}{d:Oper}{a:Act}{w:World}{Q:Exit→Act→World→Prop}(n:Region.wanted d (yielded b a.tmps)=true)(ty f:TypeId)(x y:Operand)(k:d.op=.binOp .eql ty x y f){A B:Array Value}(o:a.eval x=.agg A)(p:a.eval y=.agg B){c:Bool}(j:P.eqGuardType P.depth ty=false)(m:(Op.equalIn 10000 ty (.agg A) (.agg B)).run P w=.ok c w)(h:wpList P b Q rest (a.put d.dst (.bool c)) w):wpList P b Q (d::rest) a w:=by
 refine BigFrame.wpList_want n fun K i=>?_;unfold Oper.wp;simp only[yeqlO (ev:=a.eval) ty f x y k o p j m];exact i _ _ h
structure M10 (w:World)(o x:OpM)(b3:Nat)(W:World):Prop where
 op:W.heap[w.heap.size]?=some (.cells (OpL o).toArray 25 (0,0))
 x:W.heap[b3]?=some (.cells (OpL x).toArray 25 (0,0))
 bel:Below w.heap.size w W
 n3:w.heap.size<b3
section
variable {w W W':World} {o x x':OpM} {b3:Nat}
theorem M10.next (h:M10 w o x b3 W)(b:Below W.heap.size W W'):M10 w o x b3 W':=⟨(b.block _ (zAA h.op)).trans h.op,(b.block _ (zAA h.x)).trans h.x,h.bel.trans (b.mono h.bel.size),h.n3⟩
theorem M10.drew (h:M10 w o x b3 W):M10 w o x b3 W.drew:=h.next ⟨rfl,rfl,rfl,Nat.le_refl _,fun _ _=>rfl⟩
theorem M10.put (h:M10 w o x b3 W)(b:Chg (fun k=>k=b3) W W')(c:W'.heap[b3]?=some (.cells (OpL x').toArray 25 (0,0))):M10 w o x' b3 W' :=
 ⟨(b.block _ (zAA h.op) (by have:=h.n3;omega)).trans h.op,c,zAY h.bel b (Nat.le_of_lt h.n3),h.n3⟩
end
theorem r10may_calls (w:World)(o:OpM)(ho:o.wf):Calls prog 47 #[.agg (OpL o).toArray] w (RetB o.may w):=by
 have Hp:=zh (fun W=>zED W o.atK o.atW ho.2.1.1 ho.2.1.2.1);have ae:=zh (fun W=>zED W o.toK o.toW ho.2.1.2.2.1 ho.2.1.2.2.2);have Hq:=zh (fun W x (hx:x.wf)=>opL_eq W x o hx ho);have h:=zh ho;have Q:=zh (may10_is o);clear ho
 by_cases m:(1≤o.client∧o.client≤1048576)∧(1≤o.seq∧o.seq≤1099511627776)
 ·obtain⟨⟨T,U⟩,V,X⟩:=m
  go_enter func47,ntmps47
  go_wp2_with (refine bbox rfl 25 (.tmp 0) rfl (L:=OpL o) rfl ?_;intro w2 A O aa;have H2:=zh (And.intro A O);have M:=zAB A (i:=1) (v:=.int .i64 o.client) rfl;have N:=zAB A (i:=2) (v:=.int .i64 o.seq) rfl;have R:=zAB A (i:=3) (v:=.string o.atK) rfl;have S:=zAB A (i:=4) (v:=.string o.atW) rfl;clear A O aa)
  refine(Hp.o _).mono ?_;rintro e w3 ⟨rfl,r⟩;have H3:=zh (And.intro ((r.block _ (zAA H2.o.1)).trans H2.o.1) (H2.o.2.trans (r.mono H2.o.2.size)));clear r H2 M N R S;have a:=zAB H3.o.1 (i:=0) (v:=.int .i64 o.kind) rfl;have M:=zAB H3.o.1 (i:=1) (v:=.int .i64 o.client) rfl;have N:=zAB H3.o.1 (i:=2) (v:=.int .i64 o.seq) rfl;have R:=zAB H3.o.1 (i:=3) (v:=.string o.atK) rfl;have S:=zAB H3.o.1 (i:=4) (v:=.string o.atW) rfl;cases ac:zDs o.atK o.atW with
  | false =>
   have d:=zh (show o.may=false by rw[Q.o,ac];simp);go_wp2_with fail;go_ret;exact⟨by rw[d.o];rfl,H3.o.2⟩
  | true =>
   have Y:=zh (show(decide (1≤o.client)&&decide (o.client≤1048576)&&decide (1≤o.seq)&&decide (o.seq≤1099511627776)&&zDs o.atK o.atW&&(zDj o&&(zDw o).same o))=(zDj o&&(zDw o).same o) by rw[ac,decide_eq_true T,decide_eq_true U,decide_eq_true V,decide_eq_true X];rfl);rcases(by omega:o.kind=1∨o.kind=2∨o.kind=3∨o.kind=4∨o.kind=5∨o.kind=6∨o.kind=7∨(o.kind≠1∧o.kind≠2∧o.kind≠3∧o.kind≠4∧o.kind≠5∧o.kind≠6∧o.kind≠7))with q|q|q|q|q|q|q|q
   all_goals(have Z:=zh q)
   ·have d:=zW (o.may=(o.cnt&&(⟨o.kind,o.client,o.seq,o.atK,o.atW,s0,s0,o.item,o.count,0,false,0⟩:OpM).same o)) (by rw[Q.o,Y.o];unfold zDj zDw;simp[q,OpM.zero]);clear q;go_wp2_with (first
     | (refine zBY rfl 25 #[(0,.tmp 30),(1,.tmp 32),(2,.tmp 34),(3,.tmp 36)] rfl (v:=.agg (OpL ⟨o.kind,o.client,o.seq,o.atK,o.atW,s0,s0,0,0,0,false,0⟩).toArray) (by kernel_rfl) ?_)
     | (refine zAe rfl 25 rfl (zeroValue25 _) (by decide) ?_;intro I hn r H;have z:=zW (M10 w o OpM.zero w3.heap.size I) (⟨(r.block _ (zAA H3.o.1)).trans H3.o.1,hn,H3.o.2.trans (r.mono H3.o.2.size),zAA H3.o.1⟩);clear hn r H)
     | (refine zAg rfl 25 (.tmp 3) (.tmp 37) rfl w3.heap.size rfl (L:=OpL ⟨o.kind,o.client,o.seq,o.atK,o.atW,s0,s0,0,0,0,false,0⟩) rfl z.o.x rfl (by kernel_rfl) (zCE _) ?_;intro J hn m;have b:=zh (z.o.put (x':=⟨o.kind,o.client,o.seq,o.atK,o.atW,s0,s0,0,0,0,false,0⟩) m hn);clear hn m z a M N R S T U V X;have q:=Z.o;generalize w3.heap.size=b3 at *;have a:=zAB b.o.op (i:=0) (v:=.int .i64 o.kind) rfl;have B:=zAB b.o.op (i:=5) (v:=.string o.toK) rfl;have C:=zAB b.o.op (i:=6) (v:=.string o.toW) rfl;have D:=zAB b.o.op (i:=7) (v:=.int .i64 o.item) rfl;have E:=zAB b.o.op (i:=8) (v:=.int .i64 o.count) rfl;have F:=zAB b.o.op (i:=9) (v:=.int .i64 o.price) rfl;have n:=zAB b.o.op (i:=10) (v:=.bool o.buy) rfl;have p:=zAB b.o.op (i:=11) (v:=.int .i64 o.id) rfl))
    refine ost (fun w':World=>w'.heap[w.heap.size]?=some (.cells (OpL o).toArray 25 (0,0))) 8 b.o.op fun c=>?_;have j:=zh b.o.drew;clear b;generalize J.drew=W0 at *;refine Pl [0,1,2,3,4] ?_
    iterate 5 (refine Pd rfl (by intro w' f;have a:=zAB f (i:=0) (v:=.int .i64 o.kind) rfl;have B:=zAB f (i:=5) (v:=.string o.toK) rfl;have C:=zAB f (i:=6) (v:=.string o.toW) rfl;have D:=zAB f (i:=7) (v:=.int .i64 o.item) rfl;have E:=zAB f (i:=8) (v:=.int .i64 o.count) rfl;have F:=zAB f (i:=9) (v:=.int .i64 o.price) rfl;have n:=zAB f (i:=10) (v:=.bool o.buy) rfl;have p:=zAB f (i:=11) (v:=.int .i64 o.id) rfl;go_simp;try with_reducible rfl) ?_;simp only[uZ])
    refine Pn ?_;refine oon 5 rfl fun K t=>?_;refine zAy 3 (.tmp 47) (.tmp 44) rfl b3 7 rfl rfl [.int .i64 o.item] rfl j.o.x (show 7+1≤12 by decide) (by kernel_rfl) (by intro v y;simp only[List.mem_cons,List.not_mem_nil,or_false]at y;subst y;rfl) ?_;intro P hn m;have s:=zh (j.o.put (x':=⟨o.kind,o.client,o.seq,o.atK,o.atW,s0,s0,o.item,0,0,false,0⟩) m hn);clear hn m j c;have j:=s;clear s;refine t.o _ _ j.o.op fun c=>?_;clear t
    try simp only[uZ]
    refine Pl [6] ?_;refine Pc rfl ?_;simp only[uZ];refine Pn ?_;refine oon 7 rfl fun K t=>?_;refine zAy 3 (.tmp 48) (.tmp 46) rfl b3 8 rfl rfl [.int .i64 o.count] rfl j.o.x (show 8+1≤12 by decide) (by kernel_rfl) (by intro v y;simp only[List.mem_cons,List.not_mem_nil,or_false]at y;subst y;rfl) ?_;intro P hn m;have s:=zh (j.o.put (x':=⟨o.kind,o.client,o.seq,o.atK,o.atW,s0,s0,o.item,o.count,0,false,0⟩) m hn);clear hn m j c;have j:=s;clear s;refine t.o _ _ j.o.op fun c=>?_;clear t
    try simp only[uZ]
    clear c;refine odn ?_;have b:=j;clear j a B C D E F n p;have a:=zAB b.o.op (i:=0) (v:=.int .i64 o.kind) rfl;have B:=zAB b.o.op (i:=5) (v:=.string o.toK) rfl;have C:=zAB b.o.op (i:=6) (v:=.string o.toW) rfl;have D:=zAB b.o.op (i:=7) (v:=.int .i64 o.item) rfl;have E:=zAB b.o.op (i:=8) (v:=.int .i64 o.count) rfl;have F:=zAB b.o.op (i:=9) (v:=.int .i64 o.price) rfl;have n:=zAB b.o.op (i:=10) (v:=.bool o.buy) rfl;have p:=zAB b.o.op (i:=11) (v:=.int .i64 o.id) rfl;rcases(by omega:(¬(0≤o.item))∨(0≤o.item∧¬(o.item≤3))∨(0≤o.item∧o.item≤3∧¬(1≤o.count))∨(0≤o.item∧o.item≤3∧1≤o.count∧¬(o.count≤1048576))∨(0≤o.item∧o.item≤3∧1≤o.count∧o.count≤1048576))with q0|⟨q0,q1⟩|⟨q0,q1,q2⟩|⟨q0,q1,q2,q3⟩|⟨q0,q1,q2,q3⟩
    ·have G:decide (0≤o.item)=false:=decide_eq_false q0;have d:=zh (show o.may=false by rw[d.o];simp[OpM.cnt];omega);go_wp2_with fail;go_ret;exact⟨by rw[d.o];rfl,b.o.bel⟩
    ·have G:decide (o.item≤3)=false:=decide_eq_false q1;have d:=zh (show o.may=false by rw[d.o];simp[OpM.cnt];omega);go_wp2_with fail;go_ret;exact⟨by rw[d.o];rfl,b.o.bel⟩
    ·have G:decide (1≤o.count)=false:=decide_eq_false q2;have d:=zh (show o.may=false by rw[d.o];simp[OpM.cnt];omega);go_wp2_with fail;go_ret;exact⟨by rw[d.o];rfl,b.o.bel⟩
    ·have G:decide (o.count≤1048576)=false:=decide_eq_false q3;have d:=zh (show o.may=false by rw[d.o];simp[OpM.cnt];omega);go_wp2_with fail;go_ret;exact⟨by rw[d.o];rfl,b.o.bel⟩
    ·go_wp2_with (first
      | (refine zA1 rfl 25 (.tmp 3) rfl b3 rfl (L:=OpL ⟨o.kind,o.client,o.seq,o.atK,o.atW,s0,s0,o.item,o.count,0,false,0⟩) b.o.x underlying25 rfl (by kernel_rfl) ?_)
      | (refine zA1 rfl 25 (.tmp 1) rfl w.heap.size rfl (L:=OpL o) b.o.op underlying25 rfl (by kernel_rfl) ?_)
      | (refine beqlO rfl 25 _ (.tmp 161) (.tmp 162) rfl rfl rfl (by kernel_rfl) (Hq.o _ ⟨o.kind,o.client,o.seq,o.atK,o.atW,s0,s0,o.item,o.count,0,false,0⟩ ⟨h.o.1,⟨h.o.2.1.1,h.o.2.1.2.1,zAh,zAh⟩,h.o.2.2.1,h.o.2.2.2.1,zAp,zAp⟩) ?_))
     go_ret;refine⟨zAO ?_,b.o.bel⟩;rw[d.o];simp[OpM.cnt,q]
     try omega
   ·have d:=zW (o.may=((o.cnt&&zDs o.toK o.toW)&&(⟨o.kind,o.client,o.seq,o.atK,o.atW,o.toK,o.toW,o.item,o.count,0,false,0⟩:OpM).same o)) (by rw[Q.o,Y.o];unfold zDj zDw;simp[q,OpM.zero]);clear q;go_wp2_with (first
     | (refine zBY rfl 25 #[(0,.tmp 30),(1,.tmp 32),(2,.tmp 34),(3,.tmp 36)] rfl (v:=.agg (OpL ⟨o.kind,o.client,o.seq,o.atK,o.atW,s0,s0,0,0,0,false,0⟩).toArray) (by kernel_rfl) ?_)
     | (refine zAe rfl 25 rfl (zeroValue25 _) (by decide) ?_;intro I hn r H;have z:=zW (M10 w o OpM.zero w3.heap.size I) (⟨(r.block _ (zAA H3.o.1)).trans H3.o.1,hn,H3.o.2.trans (r.mono H3.o.2.size),zAA H3.o.1⟩);clear hn r H)
     | (refine zAg rfl 25 (.tmp 3) (.tmp 37) rfl w3.heap.size rfl (L:=OpL ⟨o.kind,o.client,o.seq,o.atK,o.atW,s0,s0,0,0,0,false,0⟩) rfl z.o.x rfl (by kernel_rfl) (zCE _) ?_;intro J hn m;have b:=zh (z.o.put (x':=⟨o.kind,o.client,o.seq,o.atK,o.atW,s0,s0,0,0,0,false,0⟩) m hn);clear hn m z a M N R S T U V X;have q:=Z.o;generalize w3.heap.size=b3 at *;have a:=zAB b.o.op (i:=0) (v:=.int .i64 o.kind) rfl;have B:=zAB b.o.op (i:=5) (v:=.string o.toK) rfl;have C:=zAB b.o.op (i:=6) (v:=.string o.toW) rfl;have D:=zAB b.o.op (i:=7) (v:=.int .i64 o.item) rfl;have E:=zAB b.o.op (i:=8) (v:=.int .i64 o.count) rfl;have F:=zAB b.o.op (i:=9) (v:=.int .i64 o.price) rfl;have n:=zAB b.o.op (i:=10) (v:=.bool o.buy) rfl;have p:=zAB b.o.op (i:=11) (v:=.int .i64 o.id) rfl))
    refine ost (fun w':World=>w'.heap[w.heap.size]?=some (.cells (OpL o).toArray 25 (0,0))) 12 b.o.op fun c=>?_;have j:=zh b.o.drew;clear b;generalize J.drew=W0 at *;refine Pl [0,1,2,3,4,5,6] ?_
    iterate 7 (refine Pd rfl (by intro w' f;have a:=zAB f (i:=0) (v:=.int .i64 o.kind) rfl;have B:=zAB f (i:=5) (v:=.string o.toK) rfl;have C:=zAB f (i:=6) (v:=.string o.toW) rfl;have D:=zAB f (i:=7) (v:=.int .i64 o.item) rfl;have E:=zAB f (i:=8) (v:=.int .i64 o.count) rfl;have F:=zAB f (i:=9) (v:=.int .i64 o.price) rfl;have n:=zAB f (i:=10) (v:=.bool o.buy) rfl;have p:=zAB f (i:=11) (v:=.int .i64 o.id) rfl;go_simp;try with_reducible rfl) ?_;simp only[uZ])
    refine Pn ?_;refine oon 7 rfl fun K t=>?_;refine zAy 3 (.tmp 75) (.tmp 70) rfl b3 7 rfl rfl [.int .i64 o.item] rfl j.o.x (show 7+1≤12 by decide) (by kernel_rfl) (by intro v y;simp only[List.mem_cons,List.not_mem_nil,or_false]at y;subst y;rfl) ?_;intro P hn m;have s:=zh (j.o.put (x':=⟨o.kind,o.client,o.seq,o.atK,o.atW,s0,s0,o.item,0,0,false,0⟩) m hn);clear hn m j c;have j:=s;clear s;refine t.o _ _ j.o.op fun c=>?_;clear t
    try simp only[uZ]
    refine Pl [8] ?_;refine Pc rfl ?_;simp only[uZ];refine Pn ?_;refine oon 9 rfl fun K t=>?_;refine zAy 3 (.tmp 76) (.tmp 72) rfl b3 8 rfl rfl [.int .i64 o.count] rfl j.o.x (show 8+1≤12 by decide) (by kernel_rfl) (by intro v y;simp only[List.mem_cons,List.not_mem_nil,or_false]at y;subst y;rfl) ?_;intro P hn m;have s:=zh (j.o.put (x':=⟨o.kind,o.client,o.seq,o.atK,o.atW,s0,s0,o.item,o.count,0,false,0⟩) m hn);clear hn m j c;have j:=s;clear s;refine t.o _ _ j.o.op fun c=>?_;clear t
    try simp only[uZ]
    refine Pl [10] ?_;refine Pc rfl ?_;simp only[uZ];refine Pn ?_;refine oon 11 rfl fun K t=>?_;refine zAy 23 (.tmp 77) (.tmp 74) rfl b3 5 rfl rfl [.string o.toK,.string o.toW] rfl j.o.x (show 5+2≤12 by decide) (by kernel_rfl) (by intro v y;simp only[List.mem_cons,List.not_mem_nil,or_false]at y;rcases y with rfl|rfl<;>rfl) ?_;intro P hn m;have s:=zh (j.o.put (x':=⟨o.kind,o.client,o.seq,o.atK,o.atW,o.toK,o.toW,o.item,o.count,0,false,0⟩) m hn);clear hn m j c;have j:=s;clear s;refine t.o _ _ j.o.op fun c=>?_;clear t
    try simp only[uZ]
    clear c;refine odn ?_;have b:=j;clear j a B C D E F n p;have a:=zAB b.o.op (i:=0) (v:=.int .i64 o.kind) rfl;have B:=zAB b.o.op (i:=5) (v:=.string o.toK) rfl;have C:=zAB b.o.op (i:=6) (v:=.string o.toW) rfl;have D:=zAB b.o.op (i:=7) (v:=.int .i64 o.item) rfl;have E:=zAB b.o.op (i:=8) (v:=.int .i64 o.count) rfl;have F:=zAB b.o.op (i:=9) (v:=.int .i64 o.price) rfl;have n:=zAB b.o.op (i:=10) (v:=.bool o.buy) rfl;have p:=zAB b.o.op (i:=11) (v:=.int .i64 o.id) rfl;rcases(by omega:(¬(0≤o.item))∨(0≤o.item∧¬(o.item≤3))∨(0≤o.item∧o.item≤3∧¬(1≤o.count))∨(0≤o.item∧o.item≤3∧1≤o.count∧¬(o.count≤1048576))∨(0≤o.item∧o.item≤3∧1≤o.count∧o.count≤1048576))with q0|⟨q0,q1⟩|⟨q0,q1,q2⟩|⟨q0,q1,q2,q3⟩|⟨q0,q1,q2,q3⟩
    ·have G:decide (0≤o.item)=false:=decide_eq_false q0;have d:=zh (show o.may=false by rw[d.o];simp[OpM.cnt];omega);go_wp2_with fail;go_ret;exact⟨by rw[d.o];rfl,b.o.bel⟩
    ·have G:decide (o.item≤3)=false:=decide_eq_false q1;have d:=zh (show o.may=false by rw[d.o];simp[OpM.cnt];omega);go_wp2_with fail;go_ret;exact⟨by rw[d.o];rfl,b.o.bel⟩
    ·have G:decide (1≤o.count)=false:=decide_eq_false q2;have d:=zh (show o.may=false by rw[d.o];simp[OpM.cnt];omega);go_wp2_with fail;go_ret;exact⟨by rw[d.o];rfl,b.o.bel⟩
    ·have G:decide (o.count≤1048576)=false:=decide_eq_false q3;have d:=zh (show o.may=false by rw[d.o];simp[OpM.cnt];omega);go_wp2_with fail;go_ret;exact⟨by rw[d.o];rfl,b.o.bel⟩
    ·go_wp2_with fail;refine(ae.o _).mono ?_;rintro e w7 ⟨rfl,ab⟩;have H8:=zh (b.o.next ab);clear ab b a B C D E F n p;have b:=H8;cases hp:zDs o.toK o.toW with
     | false =>
      have d:=zh (show o.may=false by rw[d.o,hp];simp);go_wp2_with fail;go_ret;exact⟨by rw[d.o];rfl,b.o.bel⟩
     | true =>
      have d:=zh (show o.may=(⟨o.kind,o.client,o.seq,o.atK,o.atW,o.toK,o.toW,o.item,o.count,0,false,0⟩:OpM).same o by rw[d.o,hp];simp[OpM.cnt];omega);go_wp2_with (first
       | (refine zA1 rfl 25 (.tmp 3) rfl b3 rfl (L:=OpL ⟨o.kind,o.client,o.seq,o.atK,o.atW,o.toK,o.toW,o.item,o.count,0,false,0⟩) b.o.x underlying25 rfl (by kernel_rfl) ?_)
       | (refine zA1 rfl 25 (.tmp 1) rfl w.heap.size rfl (L:=OpL o) b.o.op underlying25 rfl (by kernel_rfl) ?_)
       | (refine beqlO rfl 25 _ (.tmp 161) (.tmp 162) rfl rfl rfl (by kernel_rfl) (Hq.o _ ⟨o.kind,o.client,o.seq,o.atK,o.atW,o.toK,o.toW,o.item,o.count,0,false,0⟩ ⟨h.o.1,h.o.2.1,h.o.2.2.1,h.o.2.2.2.1,zAp,zAp⟩) ?_))
      go_ret;refine⟨zAO ?_,b.o.bel⟩;rw[d.o];simp[q]
   ·have d:=zW (o.may=((decide (1≤o.item)&&decide (o.item≤3)&&decide (1≤o.count)&&decide (o.count≤1048576)&&decide (1≤o.price)&&decide (o.price≤1024))&&(⟨o.kind,o.client,o.seq,o.atK,o.atW,s0,s0,o.item,o.count,o.price,o.buy,0⟩:OpM).same o)) (by rw[Q.o,Y.o];unfold zDj zDw;simp[q,OpM.zero]);clear q;go_wp2_with (first
     | (refine zBY rfl 25 #[(0,.tmp 30),(1,.tmp 32),(2,.tmp 34),(3,.tmp 36)] rfl (v:=.agg (OpL ⟨o.kind,o.client,o.seq,o.atK,o.atW,s0,s0,0,0,0,false,0⟩).toArray) (by kernel_rfl) ?_)
     | (refine zAe rfl 25 rfl (zeroValue25 _) (by decide) ?_;intro I hn r H;have z:=zW (M10 w o OpM.zero w3.heap.size I) (⟨(r.block _ (zAA H3.o.1)).trans H3.o.1,hn,H3.o.2.trans (r.mono H3.o.2.size),zAA H3.o.1⟩);clear hn r H)
     | (refine zAg rfl 25 (.tmp 3) (.tmp 37) rfl w3.heap.size rfl (L:=OpL ⟨o.kind,o.client,o.seq,o.atK,o.atW,s0,s0,0,0,0,false,0⟩) rfl z.o.x rfl (by kernel_rfl) (zCE _) ?_;intro J hn m;have b:=zh (z.o.put (x':=⟨o.kind,o.client,o.seq,o.atK,o.atW,s0,s0,0,0,0,false,0⟩) m hn);clear hn m z a M N R S T U V X;have q:=Z.o;generalize w3.heap.size=b3 at *;have a:=zAB b.o.op (i:=0) (v:=.int .i64 o.kind) rfl;have B:=zAB b.o.op (i:=5) (v:=.string o.toK) rfl;have C:=zAB b.o.op (i:=6) (v:=.string o.toW) rfl;have D:=zAB b.o.op (i:=7) (v:=.int .i64 o.item) rfl;have E:=zAB b.o.op (i:=8) (v:=.int .i64 o.count) rfl;have F:=zAB b.o.op (i:=9) (v:=.int .i64 o.price) rfl;have n:=zAB b.o.op (i:=10) (v:=.bool o.buy) rfl;have p:=zAB b.o.op (i:=11) (v:=.int .i64 o.id) rfl))
    refine ost (fun w':World=>w'.heap[w.heap.size]?=some (.cells (OpL o).toArray 25 (0,0))) 16 b.o.op fun c=>?_;have j:=zh b.o.drew;clear b;generalize J.drew=W0 at *;refine Pl [0,1,2,3,4,5,6,7,8] ?_
    iterate 9 (refine Pd rfl (by intro w' f;have a:=zAB f (i:=0) (v:=.int .i64 o.kind) rfl;have B:=zAB f (i:=5) (v:=.string o.toK) rfl;have C:=zAB f (i:=6) (v:=.string o.toW) rfl;have D:=zAB f (i:=7) (v:=.int .i64 o.item) rfl;have E:=zAB f (i:=8) (v:=.int .i64 o.count) rfl;have F:=zAB f (i:=9) (v:=.int .i64 o.price) rfl;have n:=zAB f (i:=10) (v:=.bool o.buy) rfl;have p:=zAB f (i:=11) (v:=.int .i64 o.id) rfl;go_simp;try with_reducible rfl) ?_;simp only[uZ])
    refine Pn ?_;refine oon 9 rfl fun K t=>?_;refine zAy 3 (.tmp 111) (.tmp 104) rfl b3 7 rfl rfl [.int .i64 o.item] rfl j.o.x (show 7+1≤12 by decide) (by kernel_rfl) (by intro v y;simp only[List.mem_cons,List.not_mem_nil,or_false]at y;subst y;rfl) ?_;intro P hn m;have s:=zh (j.o.put (x':=⟨o.kind,o.client,o.seq,o.atK,o.atW,s0,s0,o.item,0,0,false,0⟩) m hn);clear hn m j c;have j:=s;clear s;refine t.o _ _ j.o.op fun c=>?_;clear t
    try simp only[uZ]
    refine Pl [10] ?_;refine Pc rfl ?_;simp only[uZ];refine Pn ?_;refine oon 11 rfl fun K t=>?_;refine zAy 3 (.tmp 112) (.tmp 106) rfl b3 8 rfl rfl [.int .i64 o.count] rfl j.o.x (show 8+1≤12 by decide) (by kernel_rfl) (by intro v y;simp only[List.mem_cons,List.not_mem_nil,or_false]at y;subst y;rfl) ?_;intro P hn m;have s:=zh (j.o.put (x':=⟨o.kind,o.client,o.seq,o.atK,o.atW,s0,s0,o.item,o.count,0,false,0⟩) m hn);clear hn m j c;have j:=s;clear s;refine t.o _ _ j.o.op fun c=>?_;clear t
    try simp only[uZ]
    refine Pl [12] ?_;refine Pc rfl ?_;simp only[uZ];refine Pn ?_;refine oon 13 rfl fun K t=>?_;refine zAy 3 (.tmp 113) (.tmp 108) rfl b3 9 rfl rfl [.int .i64 o.price] rfl j.o.x (show 9+1≤12 by decide) (by kernel_rfl) (by intro v y;simp only[List.mem_cons,List.not_mem_nil,or_false]at y;subst y;rfl) ?_;intro P hn m;have s:=zh (j.o.put (x':=⟨o.kind,o.client,o.seq,o.atK,o.atW,s0,s0,o.item,o.count,o.price,false,0⟩) m hn);clear hn m j c;have j:=s;clear s;refine t.o _ _ j.o.op fun c=>?_;clear t
    try simp only[uZ]
    refine Pl [14] ?_;refine Pc rfl ?_;simp only[uZ];refine Pn ?_;refine oon 15 rfl fun K t=>?_;refine zAy 4 (.tmp 114) (.tmp 110) rfl b3 10 rfl rfl [.bool o.buy] rfl j.o.x (show 10+1≤12 by decide) (by kernel_rfl) (by intro v y;simp only[List.mem_cons,List.not_mem_nil,or_false]at y;subst y;rfl) ?_;intro P hn m;have s:=zh (j.o.put (x':=⟨o.kind,o.client,o.seq,o.atK,o.atW,s0,s0,o.item,o.count,o.price,o.buy,0⟩) m hn);clear hn m j c;have j:=s;clear s;refine t.o _ _ j.o.op fun c=>?_;clear t
    try simp only[uZ]
    clear c;refine odn ?_;have b:=j;clear j a B C D E F n p;have a:=zAB b.o.op (i:=0) (v:=.int .i64 o.kind) rfl;have B:=zAB b.o.op (i:=5) (v:=.string o.toK) rfl;have C:=zAB b.o.op (i:=6) (v:=.string o.toW) rfl;have D:=zAB b.o.op (i:=7) (v:=.int .i64 o.item) rfl;have E:=zAB b.o.op (i:=8) (v:=.int .i64 o.count) rfl;have F:=zAB b.o.op (i:=9) (v:=.int .i64 o.price) rfl;have n:=zAB b.o.op (i:=10) (v:=.bool o.buy) rfl;have p:=zAB b.o.op (i:=11) (v:=.int .i64 o.id) rfl;rcases(by omega:(¬(1≤o.item))∨(1≤o.item∧¬(o.item≤3))∨(1≤o.item∧o.item≤3∧¬(1≤o.count))∨(1≤o.item∧o.item≤3∧1≤o.count∧¬(o.count≤1048576))∨(1≤o.item∧o.item≤3∧1≤o.count∧o.count≤1048576∧¬(1≤o.price))∨(1≤o.item∧o.item≤3∧1≤o.count∧o.count≤1048576∧1≤o.price∧¬(o.price≤1024))∨(1≤o.item∧o.item≤3∧1≤o.count∧o.count≤1048576∧1≤o.price∧o.price≤1024))with q0|⟨q0,q1⟩|⟨q0,q1,q2⟩|⟨q0,q1,q2,q3⟩|⟨q0,q1,q2,q3,q4⟩|⟨q0,q1,q2,q3,q4,q5⟩|⟨q0,q1,q2,q3,q4,q5⟩
    ·have G:decide (1≤o.item)=false:=decide_eq_false q0;have d:=zh (show o.may=false by rw[d.o];simp;omega);go_wp2_with fail;go_ret;exact⟨by rw[d.o];rfl,b.o.bel⟩
    ·have G:decide (o.item≤3)=false:=decide_eq_false q1;have d:=zh (show o.may=false by rw[d.o];simp;omega);go_wp2_with fail;go_ret;exact⟨by rw[d.o];rfl,b.o.bel⟩
    ·have G:decide (1≤o.count)=false:=decide_eq_false q2;have d:=zh (show o.may=false by rw[d.o];simp;omega);go_wp2_with fail;go_ret;exact⟨by rw[d.o];rfl,b.o.bel⟩
    ·have G:decide (o.count≤1048576)=false:=decide_eq_false q3;have d:=zh (show o.may=false by rw[d.o];simp;omega);go_wp2_with fail;go_ret;exact⟨by rw[d.o];rfl,b.o.bel⟩
    ·have G:decide (1≤o.price)=false:=decide_eq_false q4;have d:=zh (show o.may=false by rw[d.o];simp;omega);go_wp2_with fail;go_ret;exact⟨by rw[d.o];rfl,b.o.bel⟩
    ·have G:decide (o.price≤1024)=false:=decide_eq_false q5;have d:=zh (show o.may=false by rw[d.o];simp;omega);go_wp2_with fail;go_ret;exact⟨by rw[d.o];rfl,b.o.bel⟩
    ·go_wp2_with (first
      | (refine zA1 rfl 25 (.tmp 3) rfl b3 rfl (L:=OpL ⟨o.kind,o.client,o.seq,o.atK,o.atW,s0,s0,o.item,o.count,o.price,o.buy,0⟩) b.o.x underlying25 rfl (by kernel_rfl) ?_)
      | (refine zA1 rfl 25 (.tmp 1) rfl w.heap.size rfl (L:=OpL o) b.o.op underlying25 rfl (by kernel_rfl) ?_)
      | (refine beqlO rfl 25 _ (.tmp 161) (.tmp 162) rfl rfl rfl (by kernel_rfl) (Hq.o _ ⟨o.kind,o.client,o.seq,o.atK,o.atW,s0,s0,o.item,o.count,o.price,o.buy,0⟩ ⟨h.o.1,⟨h.o.2.1.1,h.o.2.1.2.1,zAh,zAh⟩,h.o.2.2.1,h.o.2.2.2.1,h.o.2.2.2.2.1,zAp⟩) ?_))
     go_ret;refine⟨zAO ?_,b.o.bel⟩;rw[d.o];simp[q]
     try omega
   ·have d:=zW (o.may=((decide (1≤o.id)&&decide (o.id≤1099511627776))&&(⟨o.kind,o.client,o.seq,o.atK,o.atW,s0,s0,0,0,0,false,o.id⟩:OpM).same o)) (by rw[Q.o,Y.o];unfold zDj zDw;simp[q,OpM.zero]);clear q
    go_upto_region 18 with(first
     | (refine zBY rfl 25 #[(0,.tmp 30),(1,.tmp 32),(2,.tmp 34),(3,.tmp 36)] rfl (v:=.agg (OpL ⟨o.kind,o.client,o.seq,o.atK,o.atW,s0,s0,0,0,0,false,0⟩).toArray) (by kernel_rfl) ?_)
     | (refine zAe rfl 25 rfl (zeroValue25 _) (by decide) ?_;intro I hn r H;have z:=zW (M10 w o OpM.zero w3.heap.size I) (⟨(r.block _ (zAA H3.o.1)).trans H3.o.1,hn,H3.o.2.trans (r.mono H3.o.2.size),zAA H3.o.1⟩);clear hn r H)
     | (refine zAg rfl 25 (.tmp 3) (.tmp 37) rfl w3.heap.size rfl (L:=OpL ⟨o.kind,o.client,o.seq,o.atK,o.atW,s0,s0,0,0,0,false,0⟩) rfl z.o.x rfl (by kernel_rfl) (zCE _) ?_;intro J hn m;have b:=zh (z.o.put (x':=⟨o.kind,o.client,o.seq,o.atK,o.atW,s0,s0,0,0,0,false,0⟩) m hn);clear hn m z a M N R S T U V X;have q:=Z.o;generalize w3.heap.size=b3 at *;have a:=zAB b.o.op (i:=0) (v:=.int .i64 o.kind) rfl;have B:=zAB b.o.op (i:=5) (v:=.string o.toK) rfl;have C:=zAB b.o.op (i:=6) (v:=.string o.toW) rfl;have D:=zAB b.o.op (i:=7) (v:=.int .i64 o.item) rfl;have E:=zAB b.o.op (i:=8) (v:=.int .i64 o.count) rfl;have F:=zAB b.o.op (i:=9) (v:=.int .i64 o.price) rfl;have n:=zAB b.o.op (i:=10) (v:=.bool o.buy) rfl;have p:=zAB b.o.op (i:=11) (v:=.int .i64 o.id) rfl;have af:=zAE b.o.x 11;have ag:=zAB b.o.x (i:=11) (v:=.int .i64 0) rfl))
    have ad:Chg (fun k=>k=b3) J (J.setCell ⟨b3,11,none⟩ (.int .i64 o.id)):=Chg.setCell J ⟨b3,11,none⟩ (.int .i64 o.id);have j:=zh (b.o.put (x':=⟨o.kind,o.client,o.seq,o.atK,o.atW,s0,s0,0,0,0,false,o.id⟩) ad (zA9 b.o.x 11 (.int .i64 o.id)));clear ad af ag b a B C D E F n p;generalize J.setCell ⟨b3,11,none⟩ (.int .i64 o.id)=P at *;have b:=j;clear j;have a:=zAB b.o.op (i:=0) (v:=.int .i64 o.kind) rfl;have B:=zAB b.o.op (i:=5) (v:=.string o.toK) rfl;have C:=zAB b.o.op (i:=6) (v:=.string o.toW) rfl;have D:=zAB b.o.op (i:=7) (v:=.int .i64 o.item) rfl;have E:=zAB b.o.op (i:=8) (v:=.int .i64 o.count) rfl;have F:=zAB b.o.op (i:=9) (v:=.int .i64 o.price) rfl;have n:=zAB b.o.op (i:=10) (v:=.bool o.buy) rfl;have p:=zAB b.o.op (i:=11) (v:=.int .i64 o.id) rfl;rcases(by omega:(¬(1≤o.id))∨(1≤o.id∧¬(o.id≤1099511627776))∨(1≤o.id∧o.id≤1099511627776))with q0|⟨q0,q1⟩|⟨q0,q1⟩
    ·have G:decide (1≤o.id)=false:=decide_eq_false q0;have d:=zh (show o.may=false by rw[d.o];simp;omega);go_wp2_with fail;go_ret;exact⟨by rw[d.o];rfl,b.o.bel⟩
    ·have G:decide (o.id≤1099511627776)=false:=decide_eq_false q1;have d:=zh (show o.may=false by rw[d.o];simp;omega);go_wp2_with fail;go_ret;exact⟨by rw[d.o];rfl,b.o.bel⟩
    ·go_wp2_with (first
      | (refine zA1 rfl 25 (.tmp 3) rfl b3 rfl (L:=OpL ⟨o.kind,o.client,o.seq,o.atK,o.atW,s0,s0,0,0,0,false,o.id⟩) b.o.x underlying25 rfl (by kernel_rfl) ?_)
      | (refine zA1 rfl 25 (.tmp 1) rfl w.heap.size rfl (L:=OpL o) b.o.op underlying25 rfl (by kernel_rfl) ?_)
      | (refine beqlO rfl 25 _ (.tmp 161) (.tmp 162) rfl rfl rfl (by kernel_rfl) (Hq.o _ ⟨o.kind,o.client,o.seq,o.atK,o.atW,s0,s0,0,0,0,false,o.id⟩ ⟨h.o.1,⟨h.o.2.1.1,h.o.2.1.2.1,zAh,zAh⟩,zAp,zAp,zAp,h.o.2.2.2.2.2⟩) ?_))
     go_ret;refine⟨zAO ?_,b.o.bel⟩;rw[d.o];simp[q]
     try omega
   ·have d:=zW (o.may=(⟨o.kind,o.client,o.seq,o.atK,o.atW,s0,s0,0,0,0,false,0⟩:OpM).same o) (by rw[Q.o,Y.o];unfold zDj zDw;simp[q,OpM.zero]);clear q
    go_upto_region 22 with(first
     | (refine zBY rfl 25 #[(0,.tmp 30),(1,.tmp 32),(2,.tmp 34),(3,.tmp 36)] rfl (v:=.agg (OpL ⟨o.kind,o.client,o.seq,o.atK,o.atW,s0,s0,0,0,0,false,0⟩).toArray) (by kernel_rfl) ?_)
     | (refine zAe rfl 25 rfl (zeroValue25 _) (by decide) ?_;intro I hn r H;have z:=zW (M10 w o OpM.zero w3.heap.size I) (⟨(r.block _ (zAA H3.o.1)).trans H3.o.1,hn,H3.o.2.trans (r.mono H3.o.2.size),zAA H3.o.1⟩);clear hn r H)
     | (refine zAg rfl 25 (.tmp 3) (.tmp 37) rfl w3.heap.size rfl (L:=OpL ⟨o.kind,o.client,o.seq,o.atK,o.atW,s0,s0,0,0,0,false,0⟩) rfl z.o.x rfl (by kernel_rfl) (zCE _) ?_;intro J hn m;have b:=zh (z.o.put (x':=⟨o.kind,o.client,o.seq,o.atK,o.atW,s0,s0,0,0,0,false,0⟩) m hn);clear hn m z a M N R S T U V X;have q:=Z.o;generalize w3.heap.size=b3 at *;have a:=zAB b.o.op (i:=0) (v:=.int .i64 o.kind) rfl;have B:=zAB b.o.op (i:=5) (v:=.string o.toK) rfl;have C:=zAB b.o.op (i:=6) (v:=.string o.toW) rfl;have D:=zAB b.o.op (i:=7) (v:=.int .i64 o.item) rfl;have E:=zAB b.o.op (i:=8) (v:=.int .i64 o.count) rfl;have F:=zAB b.o.op (i:=9) (v:=.int .i64 o.price) rfl;have n:=zAB b.o.op (i:=10) (v:=.bool o.buy) rfl;have p:=zAB b.o.op (i:=11) (v:=.int .i64 o.id) rfl))
    try simp only[uZ]
    go_wp2_with (first
     | (refine zA1 rfl 25 (.tmp 3) rfl b3 rfl (L:=OpL ⟨o.kind,o.client,o.seq,o.atK,o.atW,s0,s0,0,0,0,false,0⟩) b.o.x underlying25 rfl (by kernel_rfl) ?_)
     | (refine zA1 rfl 25 (.tmp 1) rfl w.heap.size rfl (L:=OpL o) b.o.op underlying25 rfl (by kernel_rfl) ?_)
     | (refine beqlO rfl 25 _ (.tmp 161) (.tmp 162) rfl rfl rfl (by kernel_rfl) (Hq.o _ ⟨o.kind,o.client,o.seq,o.atK,o.atW,s0,s0,0,0,0,false,0⟩ ⟨h.o.1,⟨h.o.2.1.1,h.o.2.1.2.1,zAh,zAh⟩,zAp,zAp,zAp,zAp⟩) ?_))
    go_ret;refine⟨zAO ?_,b.o.bel⟩;rw[d.o];simp[q]
    try omega
   ·have d:=zW (o.may=(o.cnt&&(⟨o.kind,o.client,o.seq,o.atK,o.atW,s0,s0,o.item,o.count,0,false,0⟩:OpM).same o)) (by rw[Q.o,Y.o];unfold zDj zDw;simp[q,OpM.zero]);clear q;go_wp2_with (first
     | (refine zBY rfl 25 #[(0,.tmp 30),(1,.tmp 32),(2,.tmp 34),(3,.tmp 36)] rfl (v:=.agg (OpL ⟨o.kind,o.client,o.seq,o.atK,o.atW,s0,s0,0,0,0,false,0⟩).toArray) (by kernel_rfl) ?_)
     | (refine zAe rfl 25 rfl (zeroValue25 _) (by decide) ?_;intro I hn r H;have z:=zW (M10 w o OpM.zero w3.heap.size I) (⟨(r.block _ (zAA H3.o.1)).trans H3.o.1,hn,H3.o.2.trans (r.mono H3.o.2.size),zAA H3.o.1⟩);clear hn r H)
     | (refine zAg rfl 25 (.tmp 3) (.tmp 37) rfl w3.heap.size rfl (L:=OpL ⟨o.kind,o.client,o.seq,o.atK,o.atW,s0,s0,0,0,0,false,0⟩) rfl z.o.x rfl (by kernel_rfl) (zCE _) ?_;intro J hn m;have b:=zh (z.o.put (x':=⟨o.kind,o.client,o.seq,o.atK,o.atW,s0,s0,0,0,0,false,0⟩) m hn);clear hn m z a M N R S T U V X;have q:=Z.o;generalize w3.heap.size=b3 at *;have a:=zAB b.o.op (i:=0) (v:=.int .i64 o.kind) rfl;have B:=zAB b.o.op (i:=5) (v:=.string o.toK) rfl;have C:=zAB b.o.op (i:=6) (v:=.string o.toW) rfl;have D:=zAB b.o.op (i:=7) (v:=.int .i64 o.item) rfl;have E:=zAB b.o.op (i:=8) (v:=.int .i64 o.count) rfl;have F:=zAB b.o.op (i:=9) (v:=.int .i64 o.price) rfl;have n:=zAB b.o.op (i:=10) (v:=.bool o.buy) rfl;have p:=zAB b.o.op (i:=11) (v:=.int .i64 o.id) rfl))
    refine ost (fun w':World=>w'.heap[w.heap.size]?=some (.cells (OpL o).toArray 25 (0,0))) 8 b.o.op fun c=>?_;have j:=zh b.o.drew;clear b;generalize J.drew=W0 at *;refine Pl [0,1,2,3,4] ?_
    iterate 5 (refine Pd rfl (by intro w' f;have a:=zAB f (i:=0) (v:=.int .i64 o.kind) rfl;have B:=zAB f (i:=5) (v:=.string o.toK) rfl;have C:=zAB f (i:=6) (v:=.string o.toW) rfl;have D:=zAB f (i:=7) (v:=.int .i64 o.item) rfl;have E:=zAB f (i:=8) (v:=.int .i64 o.count) rfl;have F:=zAB f (i:=9) (v:=.int .i64 o.price) rfl;have n:=zAB f (i:=10) (v:=.bool o.buy) rfl;have p:=zAB f (i:=11) (v:=.int .i64 o.id) rfl;go_simp;try with_reducible rfl) ?_;simp only[uZ])
    refine Pn ?_;refine oon 5 rfl fun K t=>?_;refine zAy 3 (.tmp 47) (.tmp 44) rfl b3 7 rfl rfl [.int .i64 o.item] rfl j.o.x (show 7+1≤12 by decide) (by kernel_rfl) (by intro v y;simp only[List.mem_cons,List.not_mem_nil,or_false]at y;subst y;rfl) ?_;intro P hn m;have s:=zh (j.o.put (x':=⟨o.kind,o.client,o.seq,o.atK,o.atW,s0,s0,o.item,0,0,false,0⟩) m hn);clear hn m j c;have j:=s;clear s;refine t.o _ _ j.o.op fun c=>?_;clear t
    try simp only[uZ]
    refine Pl [6] ?_;refine Pc rfl ?_;simp only[uZ];refine Pn ?_;refine oon 7 rfl fun K t=>?_;refine zAy 3 (.tmp 48) (.tmp 46) rfl b3 8 rfl rfl [.int .i64 o.count] rfl j.o.x (show 8+1≤12 by decide) (by kernel_rfl) (by intro v y;simp only[List.mem_cons,List.not_mem_nil,or_false]at y;subst y;rfl) ?_;intro P hn m;have s:=zh (j.o.put (x':=⟨o.kind,o.client,o.seq,o.atK,o.atW,s0,s0,o.item,o.count,0,false,0⟩) m hn);clear hn m j c;have j:=s;clear s;refine t.o _ _ j.o.op fun c=>?_;clear t
    try simp only[uZ]
    clear c;refine odn ?_;have b:=j;clear j a B C D E F n p;have a:=zAB b.o.op (i:=0) (v:=.int .i64 o.kind) rfl;have B:=zAB b.o.op (i:=5) (v:=.string o.toK) rfl;have C:=zAB b.o.op (i:=6) (v:=.string o.toW) rfl;have D:=zAB b.o.op (i:=7) (v:=.int .i64 o.item) rfl;have E:=zAB b.o.op (i:=8) (v:=.int .i64 o.count) rfl;have F:=zAB b.o.op (i:=9) (v:=.int .i64 o.price) rfl;have n:=zAB b.o.op (i:=10) (v:=.bool o.buy) rfl;have p:=zAB b.o.op (i:=11) (v:=.int .i64 o.id) rfl;rcases(by omega:(¬(0≤o.item))∨(0≤o.item∧¬(o.item≤3))∨(0≤o.item∧o.item≤3∧¬(1≤o.count))∨(0≤o.item∧o.item≤3∧1≤o.count∧¬(o.count≤1048576))∨(0≤o.item∧o.item≤3∧1≤o.count∧o.count≤1048576))with q0|⟨q0,q1⟩|⟨q0,q1,q2⟩|⟨q0,q1,q2,q3⟩|⟨q0,q1,q2,q3⟩
    ·have G:decide (0≤o.item)=false:=decide_eq_false q0;have d:=zh (show o.may=false by rw[d.o];simp[OpM.cnt];omega);go_wp2_with fail;go_ret;exact⟨by rw[d.o];rfl,b.o.bel⟩
    ·have G:decide (o.item≤3)=false:=decide_eq_false q1;have d:=zh (show o.may=false by rw[d.o];simp[OpM.cnt];omega);go_wp2_with fail;go_ret;exact⟨by rw[d.o];rfl,b.o.bel⟩
    ·have G:decide (1≤o.count)=false:=decide_eq_false q2;have d:=zh (show o.may=false by rw[d.o];simp[OpM.cnt];omega);go_wp2_with fail;go_ret;exact⟨by rw[d.o];rfl,b.o.bel⟩
    ·have G:decide (o.count≤1048576)=false:=decide_eq_false q3;have d:=zh (show o.may=false by rw[d.o];simp[OpM.cnt];omega);go_wp2_with fail;go_ret;exact⟨by rw[d.o];rfl,b.o.bel⟩
    ·go_wp2_with (first
      | (refine zA1 rfl 25 (.tmp 3) rfl b3 rfl (L:=OpL ⟨o.kind,o.client,o.seq,o.atK,o.atW,s0,s0,o.item,o.count,0,false,0⟩) b.o.x underlying25 rfl (by kernel_rfl) ?_)
      | (refine zA1 rfl 25 (.tmp 1) rfl w.heap.size rfl (L:=OpL o) b.o.op underlying25 rfl (by kernel_rfl) ?_)
      | (refine beqlO rfl 25 _ (.tmp 161) (.tmp 162) rfl rfl rfl (by kernel_rfl) (Hq.o _ ⟨o.kind,o.client,o.seq,o.atK,o.atW,s0,s0,o.item,o.count,0,false,0⟩ ⟨h.o.1,⟨h.o.2.1.1,h.o.2.1.2.1,zAh,zAh⟩,h.o.2.2.1,h.o.2.2.2.1,zAp,zAp⟩) ?_))
     go_ret;refine⟨zAO ?_,b.o.bel⟩;rw[d.o];simp[OpM.cnt,q]
     try omega
   ·have d:=zW (o.may=(⟨o.kind,o.client,o.seq,o.atK,o.atW,s0,s0,0,0,0,false,0⟩:OpM).same o) (by rw[Q.o,Y.o];unfold zDj zDw;simp[q,OpM.zero]);clear q
    go_upto_region 22 with(first
     | (refine zBY rfl 25 #[(0,.tmp 30),(1,.tmp 32),(2,.tmp 34),(3,.tmp 36)] rfl (v:=.agg (OpL ⟨o.kind,o.client,o.seq,o.atK,o.atW,s0,s0,0,0,0,false,0⟩).toArray) (by kernel_rfl) ?_)
     | (refine zAe rfl 25 rfl (zeroValue25 _) (by decide) ?_;intro I hn r H;have z:=zW (M10 w o OpM.zero w3.heap.size I) (⟨(r.block _ (zAA H3.o.1)).trans H3.o.1,hn,H3.o.2.trans (r.mono H3.o.2.size),zAA H3.o.1⟩);clear hn r H)
     | (refine zAg rfl 25 (.tmp 3) (.tmp 37) rfl w3.heap.size rfl (L:=OpL ⟨o.kind,o.client,o.seq,o.atK,o.atW,s0,s0,0,0,0,false,0⟩) rfl z.o.x rfl (by kernel_rfl) (zCE _) ?_;intro J hn m;have b:=zh (z.o.put (x':=⟨o.kind,o.client,o.seq,o.atK,o.atW,s0,s0,0,0,0,false,0⟩) m hn);clear hn m z a M N R S T U V X;have q:=Z.o;generalize w3.heap.size=b3 at *;have a:=zAB b.o.op (i:=0) (v:=.int .i64 o.kind) rfl;have B:=zAB b.o.op (i:=5) (v:=.string o.toK) rfl;have C:=zAB b.o.op (i:=6) (v:=.string o.toW) rfl;have D:=zAB b.o.op (i:=7) (v:=.int .i64 o.item) rfl;have E:=zAB b.o.op (i:=8) (v:=.int .i64 o.count) rfl;have F:=zAB b.o.op (i:=9) (v:=.int .i64 o.price) rfl;have n:=zAB b.o.op (i:=10) (v:=.bool o.buy) rfl;have p:=zAB b.o.op (i:=11) (v:=.int .i64 o.id) rfl))
    try simp only[uZ]
    go_wp2_with (first
     | (refine zA1 rfl 25 (.tmp 3) rfl b3 rfl (L:=OpL ⟨o.kind,o.client,o.seq,o.atK,o.atW,s0,s0,0,0,0,false,0⟩) b.o.x underlying25 rfl (by kernel_rfl) ?_)
     | (refine zA1 rfl 25 (.tmp 1) rfl w.heap.size rfl (L:=OpL o) b.o.op underlying25 rfl (by kernel_rfl) ?_)
     | (refine beqlO rfl 25 _ (.tmp 161) (.tmp 162) rfl rfl rfl (by kernel_rfl) (Hq.o _ ⟨o.kind,o.client,o.seq,o.atK,o.atW,s0,s0,0,0,0,false,0⟩ ⟨h.o.1,⟨h.o.2.1.1,h.o.2.1.2.1,zAh,zAh⟩,zAp,zAp,zAp,zAp⟩) ?_))
    go_ret;refine⟨zAO ?_,b.o.bel⟩;rw[d.o];simp[q]
    try omega
   ·have d:=zh (show o.may=false by rw[Q.o,Y.o];unfold zDj;simp[q]);clear q;go_wp2_with (first
     | (refine zBY rfl 25 #[(0,.tmp 30),(1,.tmp 32),(2,.tmp 34),(3,.tmp 36)] rfl (v:=.agg (OpL ⟨o.kind,o.client,o.seq,o.atK,o.atW,s0,s0,0,0,0,false,0⟩).toArray) (by kernel_rfl) ?_)
     | (refine zAe rfl 25 rfl (zeroValue25 _) (by decide) ?_;intro I hn r H;have z:=zW (M10 w o OpM.zero w3.heap.size I) (⟨(r.block _ (zAA H3.o.1)).trans H3.o.1,hn,H3.o.2.trans (r.mono H3.o.2.size),zAA H3.o.1⟩);clear hn r H)
     | (refine zAg rfl 25 (.tmp 3) (.tmp 37) rfl w3.heap.size rfl (L:=OpL ⟨o.kind,o.client,o.seq,o.atK,o.atW,s0,s0,0,0,0,false,0⟩) rfl z.o.x rfl (by kernel_rfl) (zCE _) ?_;intro J hn m;have b:=zh (z.o.put (x':=⟨o.kind,o.client,o.seq,o.atK,o.atW,s0,s0,0,0,0,false,0⟩) m hn);clear hn m z a M N R S T U V X;have q:=Z.o;generalize w3.heap.size=b3 at *;have a:=zAB b.o.op (i:=0) (v:=.int .i64 o.kind) rfl;have B:=zAB b.o.op (i:=5) (v:=.string o.toK) rfl;have C:=zAB b.o.op (i:=6) (v:=.string o.toW) rfl;have D:=zAB b.o.op (i:=7) (v:=.int .i64 o.item) rfl;have E:=zAB b.o.op (i:=8) (v:=.int .i64 o.count) rfl;have F:=zAB b.o.op (i:=9) (v:=.int .i64 o.price) rfl;have n:=zAB b.o.op (i:=10) (v:=.bool o.buy) rfl;have p:=zAB b.o.op (i:=11) (v:=.int .i64 o.id) rfl))
    go_ret;exact⟨by rw[d.o];rfl,b.o.bel⟩
 ·have d:=zh (show o.may=false by rw[Q.o];simp;intros;omega)
  go_enter func47,ntmps47
  go_wp2_with (refine bbox rfl 25 (.tmp 0) rfl (L:=OpL o) rfl ?_;intro w2 A O aa;have H2:=zh (And.intro A O);have M:=zAB A (i:=1) (v:=.int .i64 o.client) rfl;have N:=zAB A (i:=2) (v:=.int .i64 o.seq) rfl;clear A O aa)
  all_goals
   first|(exfalso;omega)|skip
   go_ret;exact⟨by rw[d.o];rfl,H2.o.2⟩
theorem own_geZ {d:World}{v v':Value}{B:Nat}(b:v'.ownBlock=v.ownBlock∨∃g,v'.ownBlock=some g∧d.heap.size≤g)(i:∀k,v.ownBlock=some k→B≤k)(j:B≤d.heap.size):∀k,v'.ownBlock=some k→B≤k:=fun k c=>by
 rcases b with e|⟨g,e,f⟩
 ·exact i k (by rw[←e];exact c)
 ·rw[e]at c;cases c;omega
structure zBI (w W:World)(v:Value)(l:Bs):Prop where
 own:zA4 W 5 v l
 new:∀k,v.ownBlock=some k→w.heap.size≤k
 bel:Below w.heap.size w W
theorem zBI.nil (w:World):zBI w w (.slice none 0 0) []:=⟨OwnR.nil _ _ _,fun k b=>(by cases b),Below.refl _ _⟩
theorem zBI.next {w W b:World}{v:Value}{l:Bs}(h:zBI w W v l)(c:Below W.heap.size W b):zBI w b v l:=⟨zCV h.own c,h.new,h.bel.trans (c.mono h.bel.size)⟩
theorem zBI.alloc {w W:World}{v:Value}{l:Bs}(h:zBI w W v l)(o:Obj):zBI w (W.alloc o) v l:=h.next (zBN W o)
theorem zBI.told {w W:World}{v:Value}{l:Bs}(h:zBI w W v l):NewR w l (.returned v) W:=⟨v,rfl,h.own,h.new,h.bel⟩
theorem zBI.grown {w f w3:World}{v d:Value}{l x:Bs}(h:zBI w f v l)(c:OwnR w3 5 1 d (l.length+x.length) (zAX l++zAX x))(i:f.grownBy w3 v.ownBlock)(b:d.ownBlock=v.ownBlock∨∃g,d.ownBlock=some g∧f.heap.size≤g):zBI w w3 d (l++x):=by
 refine⟨?_,own_geZ b h.new h.bel.size,h.bel.grown i h.bel.size fun j e=>h.new j e⟩
 show OwnR _ _ _ _ (l++x).length (zAX (l++x))
 rw[List.length_append,show zAX (l++x)=zAX l++zAX x from List.map_append];exact c
theorem or_high2Z {a:Nat}(f:a≤4611686018427387904):bits .or .u8 (bits .and .u64 (a:Int) 127%256) 128=(((UInt8.ofNat (a%128+128)).toNat:Nat):Int):=by
 have b:bits .and .u64 (a:Int) 127=((a%128:Nat):Int):=by
  refine(u64_and_nat a 127 (by omega) (by decide)).trans ?_;rw[show(127:Nat)=2 ^ 7-1 from rfl,Nat.and_two_pow_sub_one_eq_mod]
 have c:∀y:Fin 256,(y.val ||| 128)=y.val%128+128:=by decide +kernel
 have d:(a%128 ||| 128)=a%128%128+128:=c ⟨a%128,by omega⟩;rw[b,show((a%128:Nat):Int)%256=((a%128:Nat):Int) by omega];refine(u8_or_nat (a%128) 128 (by omega) (by decide)).trans ?_;rw[d,UInt8.toNat_ofNat'];omega
theorem rnum1_callsZ (w:World)(z:Int)(hz:-9223372036854775808≤z∧z≤9223372036854775807) :
  Calls prog 86 #[.int .i64 z] w (NewR w (zEU z)):=by
 obtain⟨R,Q,C,D,E⟩:=info_parts (show(prog.info? 5).map (fun i=>(i.zero,i.size,i.bytes))=some (some (.int .u8 0),1,1) by kernel_rfl);obtain⟨ac,ad⟩:=hz;have O:∀(K:Nat),(K=(max 0 (min z 4611686018427387904)).toNat)→K≤4611686018427387904:=fun K hK=>by omega
 have HN:=zW (zEU z=zET (max 0 (min z 4611686018427387904)).toNat) rfl;generalize hN:(max 0 (min z 4611686018427387904)).toNat=N at *;have J:N≤4611686018427387904:=O N rfl;have P:=zh hN;clear O hN
 go_enter func86,ntmps86
 by_cases h1:4611686018427387904<z
 ·have A:N=4611686018427387904:=by have:=P.o;omega
  have H:=zh A;clear A;go_wp2_with fail
  go_loopw [3,4] (fun u b wr=>∃(a:Nat) (cur:Bs) (I:Value),u=.int .u64 a∧I=b∧a≤4611686018427387904∧zBI w wr I cur∧cur++zET a=zET N) (fun u _ _=>(intOf u).toNat)
  case atStart=>exact⟨4611686018427387904,[],_,rfl,rfl,Nat.le_refl _,zBI.nil w,by rw[H.o];rfl⟩
  case round =>
   obtain⟨a,cur,I,rfl,rfl,S,y,p⟩:=hrel;have B:=zAk J;rw[←p,List.length_append]at B;have U:=numB_len a;have v:=zh y;have r:=zh p;obtain⟨pv,cv,rfl,-⟩:=zAN y.own;clear y p;generalize L:cur.length=m at *;have G:=zh L;clear L;have s:=zh (show OwnR wr 5 1 (.slice pv m cv) m (zAX cur) by have:=v.o.own;unfold zA4 at this;rwa[G.o]at this)
   by_cases h:128≤a
   ·have t:=zh (zDN h);have V:=or_high2Z S;generalize UInt8.ofNat (a%128+128)=x at *;go_wp2_with (at_builtin;have k:=zCc s.o (.cells #[.int .u8 (x.toNat:Int)] 5);have q:=zDY wr x;refine zAc _ rfl (.tmp 13) (.tmp 18) 39 rfl 5 R (.int .u8 0) 1 1 underlying39 Q C D E rfl (by decide) (.slice pv m cv) m _ rfl k (.slice (some ⟨wr.heap.size,0,none⟩) 1 1) 1 _ rfl q (zAZ _) (by unfold maxLen;omega) (by omega) ?_;clear k q;intro Z w3 c d f;go_loud (have F:=zh (zBI.grown (x:=[x]) (v.o.alloc (.cells #[.int .u8 (x.toNat:Int)] 5)) (by rw[G.o];exact c) d f);clear d f;obtain⟨X,Y,rfl⟩:=OwnR.shape c;clear c))
    go_roundw
    case rel=>exact⟨a/128,cur++[x],_,by first|rfl|go_num,rfl,by omega,F.o,by rw[←r.o,t.o];simp⟩
    case measure=>simp[intOf];omega
   ·have j:=zh (zBk (n:=a) (by omega));obtain⟨x,M⟩:∃x:UInt8,a=x.toNat:=⟨UInt8.ofNat a,by rw[UInt8.toNat_ofNat'];omega⟩;rw[show UInt8.ofNat a=x by rw[M];simp]at j;subst M;have W:(x.toNat:Int)%256=(x.toNat:Int):=by omega
    have T:=x.toNat_lt;go_wp2_with (at_builtin;have k:=zCc s.o (.cells #[.int .u8 (x.toNat:Int)] 5);have q:=zDY wr x;refine zAc _ rfl (.tmp 22) (.tmp 25) 39 rfl 5 R (.int .u8 0) 1 1 underlying39 Q C D E rfl (by decide) (.slice pv m cv) m _ rfl k (.slice (some ⟨wr.heap.size,0,none⟩) 1 1) 1 _ rfl q (zAZ _) (by unfold maxLen;omega) (by omega) ?_;clear k q;intro Z w3 c d f;go_loud (have F:=zh (zBI.grown (x:=[x]) (v.o.alloc (.cells #[.int .u8 (x.toNat:Int)] 5)) (by rw[G.o];exact c) d f);clear d f;obtain⟨X,Y,rfl⟩:=OwnR.shape c;clear c))
    go_ret;have:=F.o.told;rw[HN.o,←r.o,j.o];exact this
 ·by_cases h2:0<z
  ·have ab:IntKind.u64.wrap z=z:=by rw[show IntKind.u64.wrap z=z%18446744073709551616 from rfl];omega
   have aa:z%18446744073709551616=z:=by omega
   have A:z=(N:Int):=by have:=P.o;omega
   have H:=zh A;clear A;go_wp2_with fail
   go_loopw [3,4] (fun u b wr=>∃(a:Nat) (cur:Bs) (I:Value),u=.int .u64 a∧I=b∧a≤4611686018427387904∧zBI w wr I cur∧cur++zET a=zET N) (fun u _ _=>(intOf u).toNat)
   case atStart=>exact⟨N,[],_,by rw[H.o],rfl,J,zBI.nil w,rfl⟩
   case round =>
    obtain⟨a,cur,I,rfl,rfl,S,y,p⟩:=hrel;have B:=zAk J;rw[←p,List.length_append]at B;have U:=numB_len a;have v:=zh y;have r:=zh p;obtain⟨pv,cv,rfl,-⟩:=zAN y.own;clear y p;generalize L:cur.length=m at *;have G:=zh L;clear L;have s:=zh (show OwnR wr 5 1 (.slice pv m cv) m (zAX cur) by have:=v.o.own;unfold zA4 at this;rwa[G.o]at this)
    by_cases h:128≤a
    ·have t:=zh (zDN h);have V:=or_high2Z S;generalize UInt8.ofNat (a%128+128)=x at *;go_wp2_with (at_builtin;have k:=zCc s.o (.cells #[.int .u8 (x.toNat:Int)] 5);have q:=zDY wr x;refine zAc _ rfl (.tmp 13) (.tmp 18) 39 rfl 5 R (.int .u8 0) 1 1 underlying39 Q C D E rfl (by decide) (.slice pv m cv) m _ rfl k (.slice (some ⟨wr.heap.size,0,none⟩) 1 1) 1 _ rfl q (zAZ _) (by unfold maxLen;omega) (by omega) ?_;clear k q;intro Z w3 c d f;go_loud (have F:=zh (zBI.grown (x:=[x]) (v.o.alloc (.cells #[.int .u8 (x.toNat:Int)] 5)) (by rw[G.o];exact c) d f);clear d f;obtain⟨X,Y,rfl⟩:=OwnR.shape c;clear c))
     go_roundw
     case rel=>exact⟨a/128,cur++[x],_,by first|rfl|go_num,rfl,by omega,F.o,by rw[←r.o,t.o];simp⟩
     case measure=>simp[intOf];omega
    ·have j:=zh (zBk (n:=a) (by omega));obtain⟨x,M⟩:∃x:UInt8,a=x.toNat:=⟨UInt8.ofNat a,by rw[UInt8.toNat_ofNat'];omega⟩;rw[show UInt8.ofNat a=x by rw[M];simp]at j;subst M;have W:(x.toNat:Int)%256=(x.toNat:Int):=by omega
     have T:=x.toNat_lt;go_wp2_with (at_builtin;have k:=zCc s.o (.cells #[.int .u8 (x.toNat:Int)] 5);have q:=zDY wr x;refine zAc _ rfl (.tmp 22) (.tmp 25) 39 rfl 5 R (.int .u8 0) 1 1 underlying39 Q C D E rfl (by decide) (.slice pv m cv) m _ rfl k (.slice (some ⟨wr.heap.size,0,none⟩) 1 1) 1 _ rfl q (zAZ _) (by unfold maxLen;omega) (by omega) ?_;clear k q;intro Z w3 c d f;go_loud (have F:=zh (zBI.grown (x:=[x]) (v.o.alloc (.cells #[.int .u8 (x.toNat:Int)] 5)) (by rw[G.o];exact c) d f);clear d f;obtain⟨X,Y,rfl⟩:=OwnR.shape c;clear c))
     go_ret;have:=F.o.told;rw[HN.o,←r.o,j.o];exact this
  ·have A:N=0:=by have:=P.o;omega
   have H:=zh A;clear A;go_wp2_with fail
   go_loopw [3,4] (fun u b wr=>∃(a:Nat) (cur:Bs) (I:Value),u=.int .u64 a∧I=b∧a≤4611686018427387904∧zBI w wr I cur∧cur++zET a=zET N) (fun u _ _=>(intOf u).toNat)
   case atStart=>exact⟨0,[],_,rfl,rfl,by decide,zBI.nil w,by rw[H.o];rfl⟩
   case round =>
    obtain⟨a,cur,I,rfl,rfl,S,y,p⟩:=hrel;have B:=zAk J;rw[←p,List.length_append]at B;have U:=numB_len a;have v:=zh y;have r:=zh p;obtain⟨pv,cv,rfl,-⟩:=zAN y.own;clear y p;generalize L:cur.length=m at *;have G:=zh L;clear L;have s:=zh (show OwnR wr 5 1 (.slice pv m cv) m (zAX cur) by have:=v.o.own;unfold zA4 at this;rwa[G.o]at this)
    by_cases h:128≤a
    ·have t:=zh (zDN h);have V:=or_high2Z S;generalize UInt8.ofNat (a%128+128)=x at *;go_wp2_with (at_builtin;have k:=zCc s.o (.cells #[.int .u8 (x.toNat:Int)] 5);have q:=zDY wr x;refine zAc _ rfl (.tmp 13) (.tmp 18) 39 rfl 5 R (.int .u8 0) 1 1 underlying39 Q C D E rfl (by decide) (.slice pv m cv) m _ rfl k (.slice (some ⟨wr.heap.size,0,none⟩) 1 1) 1 _ rfl q (zAZ _) (by unfold maxLen;omega) (by omega) ?_;clear k q;intro Z w3 c d f;go_loud (have F:=zh (zBI.grown (x:=[x]) (v.o.alloc (.cells #[.int .u8 (x.toNat:Int)] 5)) (by rw[G.o];exact c) d f);clear d f;obtain⟨X,Y,rfl⟩:=OwnR.shape c;clear c))
     go_roundw
     case rel=>exact⟨a/128,cur++[x],_,by first|rfl|go_num,rfl,by omega,F.o,by rw[←r.o,t.o];simp⟩
     case measure=>simp[intOf];omega
    ·have j:=zh (zBk (n:=a) (by omega));obtain⟨x,M⟩:∃x:UInt8,a=x.toNat:=⟨UInt8.ofNat a,by rw[UInt8.toNat_ofNat'];omega⟩;rw[show UInt8.ofNat a=x by rw[M];simp]at j;subst M;have W:(x.toNat:Int)%256=(x.toNat:Int):=by omega
     have T:=x.toNat_lt;go_wp2_with (at_builtin;have k:=zCc s.o (.cells #[.int .u8 (x.toNat:Int)] 5);have q:=zDY wr x;refine zAc _ rfl (.tmp 22) (.tmp 25) 39 rfl 5 R (.int .u8 0) 1 1 underlying39 Q C D E rfl (by decide) (.slice pv m cv) m _ rfl k (.slice (some ⟨wr.heap.size,0,none⟩) 1 1) 1 _ rfl q (zAZ _) (by unfold maxLen;omega) (by omega) ?_;clear k q;intro Z w3 c d f;go_loud (have F:=zh (zBI.grown (x:=[x]) (v.o.alloc (.cells #[.int .u8 (x.toNat:Int)] 5)) (by rw[G.o];exact c) d f);clear d f;obtain⟨X,Y,rfl⟩:=OwnR.shape c;clear c))
     go_ret;have:=F.o.told;rw[HN.o,←r.o,j.o];exact this
theorem zEp {w:World}{p:Option Addr}{n c:Nat}{zs:List Int}(L:HasI w (.slice p n c) zs)(W:∀z∈zs,-9223372036854775808≤z∧z≤9223372036854775807)(hl:zs.length≤1099511627776) :
  Calls prog 48 #[.slice p n c] w (NewR w (zA5 zs)):=by
 obtain⟨i0,hi,N,O,P⟩:=info_parts (show(prog.info? 5).map (fun i=>(i.zero,i.size,i.bytes))=some (some (.int .u8 0),1,1) by kernel_rfl);have hn:zs.length=n:=by obtain⟨_,_,e⟩:=L.slice;simp only[Value.slice.injEq]at e;exact e.2.1.symm
 have Hn:=zh hn;have Z:=zh L;have K:=zh W;have V:n≤1099511627776:=by omega
 clear L W hl hn
 go_enter func48,ntmps48
 go_wp2_with fail
 go_loopw [3,4] (fun b i wr=>∃(k:Nat) (I:Value),k≤n∧i=.int .i64 k∧I=b∧zBI w wr I (zA5 (zs.take k))) (fun _ i _=>n-(intOf i).toNat)
 case atStart=>exact⟨0,_,Nat.zero_le _,rfl,rfl,by rw[List.take_zero];exact zBI.nil w⟩
 case round =>
  obtain⟨k,I,hk,rfl,rfl,f⟩:=hrel
  by_cases J:k<n
  ·have q:k<zs.length:=by rw[Hn.o];exact J
   rcases(show HasI wr (.slice p n c) zs from zBH.chg Z.o (Chg.of_below f.bel) fun _ _=>id).at with h0|⟨b,o,c2,e2,hcell⟩
   ·rw[h0]at q;simp at q
   rw[Hn.o]at e2;simp only[Value.slice.injEq]at e2;obtain⟨rfl,-,rfl⟩:=e2;have aa:=hcell k _ (List.getElem?_eq_getElem q);have A:=K.o _ (List.getElem_mem q);have G:=zh (numsI_take q);generalize zs[k]=z at *;have v:=zh (rnum1_callsZ wr z A);have F:=zh f;obtain⟨pv,cv,rfl,-⟩:=zAN f.own;have T:=zAq (zs.take k);have ab:=zEk z;have U:(zs.take k).length≤n:=by rw[List.length_take,Hn.o];omega
   clear hcell f q A;go_wp2_with fail;refine v.o.mono ?_;rintro e Y ⟨x,rfl,s,M,h⟩;have t:=zh (F.o.next h);have E:=zh (zA4.has s);obtain⟨X,Q,rfl,-⟩:=zAN s;clear s M h;generalize R:(zA5 (zs.take k)).length=m at *;generalize a:(zEU z).length=C at *;have B:=zh (And.intro R a);have y:=zh (show OwnR Y 5 1 (.slice pv m cv) m (zAX (zA5 (zs.take k))) by have:=t.o.own;unfold zA4 at this;rwa[B.o.1]at this);have H:=zh (show zBH Y 1 (.slice X C Q) C (zAX (zEU z)) by have:=E.o;unfold zAf at this;rwa[B.o.2]at this);clear R a;go_wp2_with (at_builtin;refine zAc _ rfl (.tmp 11) (.tmp 16) 39 rfl 5 i0 (.int .u8 0) 1 1 underlying39 hi N O P rfl (by decide) (.slice pv m cv) m _ rfl y.o (.slice X C Q) C _ rfl H.o (zAZ _) (by unfold maxLen;omega) (by omega) ?_;intro v3 w3 d j r;go_loud (have D:=zh (zBI.grown (x:=zEU z) t.o (by rw[B.o.1,B.o.2];exact d) j r);clear j r;obtain⟨p3,q3,rfl⟩:=OwnR.shape d;clear d))
   go_roundw
   case rel=>exact⟨k+1,_,by omega,by go_num,rfl,by rw[G.o];exact D.o⟩
   case measure=>simp[intOf];omega
  ·have S:zs.take k=zs:=List.take_of_length_le (by rw[Hn.o];omega);rw[S]at f;have D:=zh f.told;clear f S;go_wp2_with fail;go_ret;exact D.o
theorem zBZ {w:World}{p:Option Addr}{n c:Nat}{l:Bs}(h:zAf w (.slice p n c) l)(L:l.length≤1073741824) :
  Calls prog 87 #[.slice p n c] w (NewR w (zAw l)):=by
 obtain⟨N,J,A,B,C⟩:=info_parts (show(prog.info? 5).map (fun i=>(i.zero,i.size,i.bytes))=some (some (.int .u8 0),1,1) by kernel_rfl);have hn:l.length=n:=by obtain⟨_,_,e⟩:=h.slice;simp only[Value.slice.injEq]at e;exact e.2.1.symm
 have r:=zh (rnum1_callsZ w (n:Int) (by omega));have H:=zh (show zEU (n:Int)++l=zAw l by rw[zDa (by omega),←hn];rfl);have M:(zEU (n:Int)).length≤9:=zEk _;have I:=zh h;have Hn:=zh hn;have G:n≤1073741824:=by omega
 clear h hn L
 go_enter func87,ntmps87
 go_wp2_with fail;refine r.o.mono ?_;rintro e E ⟨x,rfl,m,v,k⟩;obtain⟨D,a,rfl,-⟩:=zAN m;have q:=zW (zBI w E (.slice D (zEU (n:Int)).length a) (zEU (n:Int))) (⟨m,v,k⟩);have s:=zh (show zBH E 1 (.slice p n c) n (zAX l) by have:=I.o.below k;unfold zAf at this;rwa[Hn.o]at this);clear m v k;generalize t:(zEU (n:Int)).length=y at *;have F:=zh t;clear t;have j:=zW (OwnR E 5 1 (.slice D y a) y (zAX (zEU (n:Int)))) (by have:=q.o.own;unfold zA4 at this;rwa[F.o]at this);go_wp2_with (at_builtin;refine zAc _ rfl (.tmp 5) (.tmp 6) 39 rfl 5 N (.int .u8 0) 1 1 underlying39 J A B C rfl (by decide) (.slice D y a) y _ rfl j.o (.slice p n c) n _ rfl s.o (zAZ _) (by unfold maxLen;omega) (by omega) ?_;intro Q w3 d b f;go_loud (have z:=zh (zBI.grown (x:=l) q.o (by rw[F.o,Hn.o];exact d) b f);clear b f;obtain⟨O,P,rfl⟩:=OwnR.shape d;clear d))
 go_ret;rw[←H.o];exact z.o.told
theorem r10put_calls (w:World)(a b:ByteArray)(ha:a.size≤1073741824)(d:b.size≤1073741824) :
  Calls prog 49 #[.agg #[.string a,.string b]] w (NewR w (zAw a.data.toList++zAw b.data.toList)):=by
 obtain⟨i0,hi,ax,ay,az⟩:=info_parts (show(prog.info? 5).map (fun i=>(i.zero,i.size,i.bytes))=some (some (.int .u8 0),1,1) by kernel_rfl);have q:=zh (And.intro ha d);have HN:=zh (show w.heap.size<(w.alloc (.cells #[.string a,.string b] 23)).heap.size by simp);have aE:=zh (zAC w (.cells #[.string a,.string b] 23));have aC:=zh (zAF w (.cells #[.string a,.string b] 23));clear ha d
 go_enter func49,ntmps49
 go_wp2_with fail;generalize w.alloc (.cells #[.string a,.string b] 23)=V at *;refine ost (fun w':World=>w'.heap[w.heap.size]?=some (.cells #[.string a,.string b] 23 (0,0))) 10 aC.o fun c=>?_;have L:=zh (And.intro (aE.o.trans (show Below w.heap.size V V.drew from⟨rfl,rfl,rfl,Nat.le_refl _,fun _ _=>rfl⟩)) (show w.heap.size<V.drew.heap.size from HN.o));have F:=zh (Below.refl V.drew.heap.size V.drew);have H:=zW (V.drew.heap[w.heap.size]?=some (.cells #[.string a,.string b] 23 (0,0))) aC.o;generalize V.drew=V0 at *;refine Pl [0,1,4,5] ?_
 iterate 4 (refine Pd rfl (by intro w' aD;have c0:=zAB aD (i:=0) (v:=.string a) rfl;have c1:=zAB aD (i:=1) (v:=.string b) rfl;go_simp;try with_reducible rfl) ?_;simp only[uZ])
 refine Pn ?_;refine zBb 2 6 rfl rfl (by kernel_rfl) (by rfl) (by rfl) (fun K m=>?_) (fun K m=>?_)
 ·obtain⟨c1,V1,hr,k,d,hs⟩:=zBC V0 a;have I:=zh (And.intro k d);clear k d hs;go_wp2_with fail;obtain⟨k,d⟩:=I.o;clear I hr;have B:=zh ((d.block _ (zAA H.o)).trans H.o);have A:=zh (F.o.trans (d.mono F.o.size));have ab:=zh (k V1 fun _ _=>rfl);clear k d;refine m.o _ _ B.o fun c=>?_;clear m
  try simp only[uZ]
  refine zBb 3 6 rfl rfl (by kernel_rfl) (by rfl) (by rfl) (fun K m=>?_) (fun K m=>?_)
  ·have n:=zh (zBZ ab.o (by have:=q.o;simp;omega));go_wp2_with fail;refine n.o.mono ?_;rintro e V2 ⟨x1,rfl,k,p,d⟩;clear n;have Q:=zh ((d.block _ (zAA B.o)).trans B.o);have M:=zh (A.o.trans (d.mono A.o.size));have al:=zW (zBI V0 V2 x1 (zAw a.data.toList)) (⟨k,fun j C=>Nat.le_trans A.o.size (p j C),M.o⟩);clear k p d;go_wp2_with fail;refine m.o _ _ Q.o fun c=>?_;clear m
   try simp only[uZ]
   refine oon 6 rfl fun K m=>?_;obtain⟨c2,V3,hr,k,d,hs⟩:=zBC V2 b;have I:=zh (And.intro k d);clear k d hs;go_wp2_with fail;obtain⟨k,d⟩:=I.o;clear I hr;have R:=zh ((d.block _ (zAA Q.o)).trans Q.o);have N:=zh (M.o.trans (d.mono M.o.size));have am:=zh (al.o.next d);have aq:=zh (k V3 fun _ _=>rfl);clear k d;refine m.o _ _ R.o fun c=>?_;clear m
   try simp only[uZ]
   refine oon 7 rfl fun K m=>?_;have n:=zh (zBZ aq.o (by have:=q.o;simp;omega));go_wp2_with fail;refine n.o.mono ?_;rintro e V4 ⟨x2,rfl,k,p,d⟩;clear n;have S:=zh ((d.block _ (zAA R.o)).trans R.o);have aA:=zh (N.o.trans (d.mono N.o.size));have z:=zh (am.o.next d);have Z:=zW (zBI V0 V4 x2 (zAw b.data.toList)) (⟨k,fun j C=>Nat.le_trans N.o.size (p j C),aA.o⟩);clear k p d;go_wp2_with fail;refine m.o _ _ S.o fun c=>?_;clear m
   try simp only[uZ]
   obtain⟨p1,k1,rfl,-⟩:=zAN z.o.own;obtain⟨p2,k2,rfl,-⟩:=zAN Z.o.own;have ac:=zBq (x:=a.data.toList) (by have:=q.o;simp;omega);have ad:=zBq (x:=b.data.toList) (by have:=q.o;simp;omega);have ae:a.data.toList.length=a.size:=by simp
   have af:b.data.toList.length=b.size:=by simp
   have ag:=q.o;refine oon 8 rfl fun K m=>?_;refine zCg (.tmp 6) (.tmp 10) 39 rfl 5 i0 (.int .u8 0) 1 1 underlying39 hi ax ay az rfl (by decide) (.slice p1 (zAw a.data.toList).length k1) (zAw a.data.toList).length _ rfl z.o.own (.slice p2 (zAw b.data.toList).length k2) (zAw b.data.toList).length _ rfl Z.o.own.has (zAZ _) (by unfold maxLen;omega) (by omega) ?_;intro v3 w3 s f r;have HE:=zh (And.intro (zBI.grown z.o s f r) ((f.block _ (zAA S.o) (fun e=>by have:=z.o.new _ e.symm;have:=L.o.2;omega)).trans S.o));clear s f r ac ad ae af ag;refine m.o _ _ HE.o.2 fun c=>?_;clear m
   try simp only[uZ]
   refine Pl [9] ?_;refine Pc rfl ?_;simp only[uZ];refine Pn ?_;clear c;refine odn ?_;go_wp2_with fail;go_ret;have hE:=HE.o.1;exact⟨_,rfl,hE.own,fun j C=>Nat.le_trans L.o.1.size (hE.new j C),L.o.1.trans (hE.bel.mono L.o.1.size)⟩
  ·obtain⟨c2,V5,hr,k,d,hs⟩:=zBC V1 b;have I:=zh (And.intro k d);clear k d hs;go_wp2_with fail;obtain⟨k,d⟩:=I.o;clear I hr;have T:=zh ((d.block _ (zAA B.o)).trans B.o);have O:=zh (A.o.trans (d.mono A.o.size));have ao:=zh (ab.o.below d);have ar:=zh (k V5 fun _ _=>rfl);clear k d;refine m.o _ _ T.o fun c=>?_;clear m
   try simp only[uZ]
   refine oon 3 rfl fun K m=>?_;have n:=zh (zBZ ao.o (by have:=q.o;simp;omega));go_wp2_with fail;refine n.o.mono ?_;rintro e V6 ⟨x1,rfl,k,p,d⟩;clear n;have U:=zh ((d.block _ (zAA T.o)).trans T.o);have G:=zh (O.o.trans (d.mono O.o.size));have au:=zh (ar.o.below d);have an:=zW (zBI V0 V6 x1 (zAw a.data.toList)) (⟨k,fun j C=>Nat.le_trans O.o.size (p j C),G.o⟩);clear k p d;go_wp2_with fail;refine m.o _ _ U.o fun c=>?_;clear m
   try simp only[uZ]
   refine oon 7 rfl fun K m=>?_;have n:=zh (zBZ au.o (by have:=q.o;simp;omega));go_wp2_with fail;refine n.o.mono ?_;rintro e V7 ⟨x2,rfl,k,p,d⟩;clear n;have W:=zh ((d.block _ (zAA U.o)).trans U.o);have aB:=zh (G.o.trans (d.mono G.o.size));have h:=zh (an.o.next d);have aa:=zW (zBI V0 V7 x2 (zAw b.data.toList)) (⟨k,fun j C=>Nat.le_trans G.o.size (p j C),aB.o⟩);clear k p d;go_wp2_with fail;refine m.o _ _ W.o fun c=>?_;clear m
   try simp only[uZ]
   obtain⟨p1,k1,rfl,-⟩:=zAN h.o.own;obtain⟨p2,k2,rfl,-⟩:=zAN aa.o.own;have ac:=zBq (x:=a.data.toList) (by have:=q.o;simp;omega);have ad:=zBq (x:=b.data.toList) (by have:=q.o;simp;omega);have ae:a.data.toList.length=a.size:=by simp
   have af:b.data.toList.length=b.size:=by simp
   have ag:=q.o;refine oon 8 rfl fun K m=>?_;refine zCg (.tmp 6) (.tmp 10) 39 rfl 5 i0 (.int .u8 0) 1 1 underlying39 hi ax ay az rfl (by decide) (.slice p1 (zAw a.data.toList).length k1) (zAw a.data.toList).length _ rfl h.o.own (.slice p2 (zAw b.data.toList).length k2) (zAw b.data.toList).length _ rfl aa.o.own.has (zAZ _) (by unfold maxLen;omega) (by omega) ?_;intro v3 w3 s f r;have HE:=zh (And.intro (zBI.grown h.o s f r) ((f.block _ (zAA W.o) (fun e=>by have:=h.o.new _ e.symm;have:=L.o.2;omega)).trans W.o));clear s f r ac ad ae af ag;refine m.o _ _ HE.o.2 fun c=>?_;clear m
   try simp only[uZ]
   refine Pl [9] ?_;refine Pc rfl ?_;simp only[uZ];refine Pn ?_;clear c;refine odn ?_;go_wp2_with fail;go_ret;have hE:=HE.o.1;exact⟨_,rfl,hE.own,fun j C=>Nat.le_trans L.o.1.size (hE.new j C),L.o.1.trans (hE.bel.mono L.o.1.size)⟩
 ·obtain⟨c2,V8,hr,k,d,hs⟩:=zBC V0 b;have I:=zh (And.intro k d);clear k d hs;go_wp2_with fail;obtain⟨k,d⟩:=I.o;clear I hr;have X:=zh ((d.block _ (zAA H.o)).trans H.o);have aj:=zh (F.o.trans (d.mono F.o.size));have av:=zh (k V8 fun _ _=>rfl);clear k d;refine m.o _ _ X.o fun c=>?_;clear m
  try simp only[uZ]
  refine oon 2 rfl fun K m=>?_;obtain⟨c1,V9,hr,k,d,hs⟩:=zBC V8 a;have I:=zh (And.intro k d);clear k d hs;go_wp2_with fail;obtain⟨k,d⟩:=I.o;clear I hr;have Y:=zh ((d.block _ (zAA X.o)).trans X.o);have P:=zh (aj.o.trans (d.mono aj.o.size));have aw:=zh (av.o.below d);have ap:=zh (k V9 fun _ _=>rfl);clear k d;refine m.o _ _ Y.o fun c=>?_;clear m
  try simp only[uZ]
  refine oon 3 rfl fun K m=>?_;have n:=zh (zBZ ap.o (by have:=q.o;simp;omega));go_wp2_with fail;refine n.o.mono ?_;rintro e aF ⟨x1,rfl,k,p,d⟩;clear n;have D:=zh ((d.block _ (zAA Y.o)).trans Y.o);have y:=zh (P.o.trans (d.mono P.o.size));have ai:=zh (aw.o.below d);have ah:=zW (zBI V0 aF x1 (zAw a.data.toList)) (⟨k,fun j C=>Nat.le_trans P.o.size (p j C),y.o⟩);clear k p d;go_wp2_with fail;refine m.o _ _ D.o fun c=>?_;clear m
  try simp only[uZ]
  refine oon 7 rfl fun K m=>?_;have n:=zh (zBZ ai.o (by have:=q.o;simp;omega));go_wp2_with fail;refine n.o.mono ?_;rintro e aG ⟨x2,rfl,k,p,d⟩;clear n;have E:=zh ((d.block _ (zAA D.o)).trans D.o);have ak:=zh (y.o.trans (d.mono y.o.size));have t:=zh (ah.o.next d);have J:=zW (zBI V0 aG x2 (zAw b.data.toList)) (⟨k,fun j C=>Nat.le_trans y.o.size (p j C),ak.o⟩);clear k p d;go_wp2_with fail;refine m.o _ _ E.o fun c=>?_;clear m
  try simp only[uZ]
  obtain⟨p1,k1,rfl,-⟩:=zAN t.o.own;obtain⟨p2,k2,rfl,-⟩:=zAN J.o.own;have ac:=zBq (x:=a.data.toList) (by have:=q.o;simp;omega);have ad:=zBq (x:=b.data.toList) (by have:=q.o;simp;omega);have ae:a.data.toList.length=a.size:=by simp
  have af:b.data.toList.length=b.size:=by simp
  have ag:=q.o;refine oon 8 rfl fun K m=>?_;refine zCg (.tmp 6) (.tmp 10) 39 rfl 5 i0 (.int .u8 0) 1 1 underlying39 hi ax ay az rfl (by decide) (.slice p1 (zAw a.data.toList).length k1) (zAw a.data.toList).length _ rfl t.o.own (.slice p2 (zAw b.data.toList).length k2) (zAw b.data.toList).length _ rfl J.o.own.has (zAZ _) (by unfold maxLen;omega) (by omega) ?_;intro v3 w3 s f r;have HE:=zh (And.intro (zBI.grown t.o s f r) ((f.block _ (zAA E.o) (fun e=>by have:=t.o.new _ e.symm;have:=L.o.2;omega)).trans E.o));clear s f r ac ad ae af ag;refine m.o _ _ HE.o.2 fun c=>?_;clear m
  try simp only[uZ]
  refine Pl [9] ?_;refine Pc rfl ?_;simp only[uZ];refine Pn ?_;clear c;refine odn ?_;go_wp2_with fail;go_ret;have hE:=HE.o.1;exact⟨_,rfl,hE.own,fun j C=>Nat.le_trans L.o.1.size (hE.new j C),L.o.1.trans (hE.bel.mono L.o.1.size)⟩
theorem r10eno_calls (w:World)(o:OpM)(m:o.wf)(k:o.may=false):Calls prog 15 #[.agg (OpL o).toArray] w fun e w'=>e=.returned (.tuple #[.slice none 0 0,.int .i64 1])∧Below w.heap.size w w':=by
 have i:=zh (fun W=>r10may_calls W o m);rw[k]at i;clear m k
 go_enter func15,ntmps15
 go_wp2_with (first
  | (refine bbox rfl 25 (.tmp 0) rfl (L:=OpL o) rfl ?_;intro p c b f;have d:=zh (And.intro c b);clear c b f)
  | (refine zA1 rfl 25 (.tmp 1) rfl w.heap.size rfl (L:=OpL o) d.o.1 underlying25 rfl (by kernel_rfl) ?_))
 refine(i.o _).mono ?_;rintro e w3 ⟨rfl,j⟩;have n:=zh (d.o.2.trans (j.mono d.o.2.size));clear j;go_wp2_with fail
 go_ret2
 exact⟨rfl,n.o⟩
theorem enc_split (o:OpM):(zA5 [o.kind,o.client,o.seq]++(zAw o.atK.data.toList++zAw o.atW.data.toList)++(zAw o.toK.data.toList++zAw o.toW.data.toList))++zA5 [o.item,o.count,o.price,if o.buy then 1 else 0,o.id]=o.enc:=by
 unfold OpM.enc;simp
theorem r10enc_calls (w:World)(o:OpM)(ho:o.wf)(hm:o.may=true):Calls prog 15 #[.agg (OpL o).toArray] w (EncR w o.enc):=by
 obtain⟨i0,hi,ac,ad,ae⟩:=info_parts (show(prog.info? 5).map (fun i=>(i.zero,i.size,i.bytes))=some (some (.int .u8 0),1,1) by kernel_rfl);have ab:=may_sizes hm;have aa:=OpM.names_le (OpM.may_iff hm).2.2.2;have Hm:=zh (fun W=>r10may_calls W o ho);rw[hm]at Hm;have ax:=OpM.may_iff hm;have ah:=zh (fun W=>r10put_calls W o.atK o.atW (by omega) (by omega));have ai:=zh (fun W=>r10put_calls W o.toK o.toW (by omega) (by omega));have ap:=zh (show ∀z∈[o.kind,o.client,o.seq],-9223372036854775808≤z∧z≤9223372036854775807 by intro z hz;simp only[List.mem_cons,List.not_mem_nil,or_false]at hz;rcases hz with rfl|rfl|rfl<;>omega);have aq:=zh (show ∀z∈[o.item,o.count,o.price,if o.buy then 1 else 0,o.id],-9223372036854775808≤z∧z≤9223372036854775807 by intro z hz;simp only[List.mem_cons,List.not_mem_nil,or_false]at hz;rcases hz with rfl|rfl|rfl|rfl|rfl<;>(try split)<;>omega);have D:∀x:ByteArray,x.size≤16→(zAw x.data.toList).length≤25:=fun x q=>by
  have:=zBq (x:=x.data.toList) (by simp;omega);simp at this;omega
 have ay:=D _ ab.1;have az:=D _ ab.2;have aA:=D _ aa.2.2.2.2.2.1;have aB:=D _ aa.2.2.2.2.2.2;have hA:=zAq [o.kind,o.client,o.seq];have hZ:=zAq [o.item,o.count,o.price,if o.buy then 1 else 0,o.id];simp only[List.length_cons,List.length_nil]at hA hZ;have HT:=zh (enc_split o);obtain⟨T,E⟩:∃x,zA5 [o.kind,o.client,o.seq]=x:=⟨_,rfl⟩;obtain⟨N,F⟩:∃x,zAw o.atK.data.toList++zAw o.atW.data.toList=x:=⟨_,rfl⟩;obtain⟨NC,G⟩:∃x,zAw o.toK.data.toList++zAw o.toW.data.toList=x:=⟨_,rfl⟩;obtain⟨ND,H⟩:∃x,zA5 [o.item,o.count,o.price,if o.buy then 1 else 0,o.id]=x:=⟨_,rfl⟩;have aC:N.length≤50:=by rw[←F,List.length_append];omega
 have aD:NC.length≤50:=by rw[←G,List.length_append];omega
 rw[E]at hA;rw[H]at hZ;rw[F]at ah;rw[G]at ai;rw[E,F,G,H]at HT;have HN:=zh (And.intro E H);obtain⟨y,V⟩:∃n,T.length=n:=⟨_,rfl⟩;obtain⟨h,X⟩:∃n,N.length=n:=⟨_,rfl⟩;obtain⟨I,Y⟩:∃n,NC.length=n:=⟨_,rfl⟩;obtain⟨ld,Z⟩:∃n,ND.length=n:=⟨_,rfl⟩;rw[V]at hA;rw[X]at aC;rw[Y]at aD;rw[Z]at hZ;have t:=zh (And.intro V (And.intro X (And.intro Y Z)));have ar:=zh (fun W=>r10one_calls W o.buy);generalize (if o.buy then(1:Int)else 0)=zb at *;clear V X Y Z E F G H D ay az aA aB ab aa ax hm ho
 go_enter func15,ntmps15
 go_wp2_with (first
  | (refine bbox rfl 25 (.tmp 0) rfl (L:=OpL o) rfl ?_;intro w2 am al an;have P:=zh (And.intro am (And.intro al an));clear am al an)
  | (refine zA1 rfl 25 (.tmp 1) rfl w.heap.size rfl (L:=OpL o) P.o.1 underlying25 rfl (by kernel_rfl) ?_))
 refine(Hm.o _).mono ?_;rintro e w3 ⟨rfl,m⟩;have H3:=zh (And.intro ((m.block _ (zAA P.o.1)).trans P.o.1) (And.intro (P.o.2.1.trans (m.mono P.o.2.1.size)) (zAA ((m.block _ (zAA P.o.1)).trans P.o.1))));clear m;have c0:=zAB H3.o.1 (i:=0) (v:=.int .i64 o.kind) rfl;have c1:=zAB H3.o.1 (i:=1) (v:=.int .i64 o.client) rfl;have c2:=zAB H3.o.1 (i:=2) (v:=.int .i64 o.seq) rfl;have au:=zh (zEp (w:=w3.alloc (.cells #[.int .i64 o.kind,.int .i64 o.client,.int .i64 o.seq] 3)) (p:=some ⟨w3.heap.size,0,none⟩) (n:=3) (c:=3) (zs:=[o.kind,o.client,o.seq]) ⟨by simp,some ⟨w3.heap.size,0,none⟩,3,rfl,fun e=>(by cases e),fun a ha i u hu=>by
  cases ha;rw[add_zero];refine zAB (zAF w3 (.cells #[.int .i64 o.kind,.int .i64 o.client,.int .i64 o.seq] 3)) ?_;simpa using hu⟩ ap.o (by simp))
 have HA:=zh (zAC w3 (.cells #[.int .i64 o.kind,.int .i64 o.client,.int .i64 o.seq] 3));go_wp2_with fail;refine au.o.mono ?_;rintro e w4 ⟨x1,rfl,q,s,m⟩;rw[HN.o.1]at q;have U:=HA.o.trans (m.mono HA.o.size);have H4:=zh (And.intro (show zBI w3 w4 x1 T from⟨q,fun j hj=>Nat.le_trans HA.o.size (s j hj),U⟩) ((U.block _ (zAA H3.o.1)).trans H3.o.1));obtain⟨p1,k1,rfl,-⟩:=zAN q;rw[t.o.1]at H4 ⊢;clear q s m U c0 c1 c2;have c3:=zAB H4.o.2 (i:=3) (v:=.string o.atK) rfl;have c4:=zAB H4.o.2 (i:=4) (v:=.string o.atW) rfl;go_wp2_with fail;refine(ah.o _).mono ?_;rintro e w5 ⟨x2,rfl,q,s,m⟩;have J:=zh (And.intro (H4.o.1.next m) (And.intro q.has ((m.block _ (zAA H4.o.2)).trans H4.o.2)));obtain⟨p2,k2,rfl,-⟩:=zAN q;rw[t.o.2.1]at J ⊢;clear q s m c3 c4;have A:=zW (OwnR w5 5 1 (.slice p1 y k1) y (zAX T)) (by have:=J.o.1.own;unfold zA4 at this;rwa[t.o.1]at this);have M:=zW (zBH w5 1 (.slice p2 h k2) h (zAX N)) (by have:=J.o.2.1;unfold zAf at this;rwa[t.o.2.1]at this);go_wp2_with (at_builtin;refine zAc _ rfl (.tmp 16) (.tmp 19) 39 rfl 5 i0 (.int .u8 0) 1 1 underlying39 hi ac ad ae rfl (by decide) (.slice p1 y k1) y _ rfl A.o (.slice p2 h k2) h _ rfl M.o (zAZ _) (by unfold maxLen;omega) (by omega) ?_;intro v6 w6 d b k;go_loud (have H6:=zh (And.intro (zBI.grown (x:=N) J.o.1 (by rw[t.o.1,t.o.2.1];exact d) b k) ((b.block _ (zAA J.o.2.2) (fun e=>by have:=J.o.1.new _ e.symm;have:=H3.o.2.2;omega)).trans J.o.2.2));clear b k;obtain⟨p3,k3,rfl⟩:=OwnR.shape d;clear d A M J;have c5:=zAB H6.o.2 (i:=5) (v:=.string o.toK) rfl;have c6:=zAB H6.o.2 (i:=6) (v:=.string o.toW) rfl))
 refine(ai.o _).mono ?_;rintro e w7 ⟨x4,rfl,q,s,m⟩;have Q:=zh (And.intro (H6.o.1.next m) (And.intro q.has ((m.block _ (zAA H6.o.2)).trans H6.o.2)));obtain⟨p4,k4,rfl,-⟩:=zAN q;rw[t.o.2.2.1]at Q ⊢;clear q s m c5 c6;have R:=zh (show(T++N).length=y+h by rw[List.length_append,t.o.1,t.o.2.1]);have S:=zW (OwnR w7 5 1 (.slice p3 (y+h) k3) (y+h) (zAX (T++N))) (by have:=Q.o.1.own;unfold zA4 at this;rwa[R.o]at this);have ak:=zW (zBH w7 1 (.slice p4 I k4) I (zAX NC)) (by have:=Q.o.2.1;unfold zAf at this;rwa[t.o.2.2.1]at this);go_wp2_with (at_builtin;refine zAc _ rfl (.tmp 21) (.tmp 24) 39 rfl 5 i0 (.int .u8 0) 1 1 underlying39 hi ac ad ae rfl (by decide) (.slice p3 (y+h) k3) (y+h) _ rfl S.o (.slice p4 I k4) I _ rfl ak.o (zAZ _) (by unfold maxLen;omega) (by omega) ?_;intro v8 w8 d b k;go_loud (have H8:=zh (And.intro (zBI.grown (x:=NC) Q.o.1 (by rw[R.o,t.o.2.2.1];exact d) b k) ((b.block _ (zAA Q.o.2.2) (fun e=>by have:=Q.o.1.new _ e.symm;have:=H3.o.2.2;omega)).trans Q.o.2.2));clear b k;obtain⟨p5,k5,rfl⟩:=OwnR.shape d;clear d))
 try simp only[uZ]
 refine ost (fun w':World=>w'.heap[w.heap.size]?=some (.cells (OpL o).toArray 25 (0,0))) 17 H8.o.2 fun f=>?_;have H9:=zh (And.intro (H8.o.1.next (show Below w8.heap.size w8 w8.drew from⟨rfl,rfl,rfl,Nat.le_refl _,fun _ _=>rfl⟩)) (show w8.drew.heap[w.heap.size]?=some (.cells (OpL o).toArray 25 (0,0))from H8.o.2));generalize w8.drew=w9 at *;refine Pl [0,1,2,3,4,5,6,7,8,10,11] ?_
 iterate 11 (refine Pd rfl (by intro w' C;have c7:=zAB C (i:=7) (v:=.int .i64 o.item) rfl;have c8:=zAB C (i:=8) (v:=.int .i64 o.count) rfl;have c9:=zAB C (i:=9) (v:=.int .i64 o.price) rfl;have aF:=zAB C (i:=10) (v:=.bool o.buy) rfl;have aG:=zAB C (i:=11) (v:=.int .i64 o.id) rfl;go_simp;try with_reducible rfl) ?_;simp only[uZ])
 refine Pn ?_;refine oon 9 rfl fun K B=>?_;go_wp2_with fail;refine(ar.o _).mono ?_;rintro e wx ⟨rfl,rfl⟩;go_wp2_with fail;refine B.o _ _ H9.o.2 fun f=>?_;clear B
 try simp only[uZ]
 refine oon 12 rfl fun K B=>?_;have HX:=zh (And.intro (zAC wx (.cells #[.int .i64 o.item,.int .i64 o.count,.int .i64 o.price,.int .i64 zb,.int .i64 o.id] 3)) (zAF wx (.cells #[.int .i64 o.item,.int .i64 o.count,.int .i64 o.price,.int .i64 zb,.int .i64 o.id] 3)));go_wp2_with fail;refine B.o _ _ ((HX.o.1.block _ (zAA H9.o.2)).trans H9.o.2) fun f=>?_;clear B;have O:=zh (And.intro (H9.o.1.next HX.o.1) ((HX.o.1.block _ (zAA H9.o.2)).trans H9.o.2));have HY:=zh HX.o.2;clear f;generalize wx.alloc (.cells #[.int .i64 o.item,.int .i64 o.count,.int .i64 o.price,.int .i64 zb,.int .i64 o.id] 3)=aE at *
 try simp only[uZ]
 refine oon 13 rfl fun K B=>?_;have av:=zh (zEp (w:=aE) (p:=some ⟨wx.heap.size,0,none⟩) (n:=5) (c:=5) (zs:=[o.item,o.count,o.price,zb,o.id]) ⟨by simp,some ⟨wx.heap.size,0,none⟩,5,rfl,fun e=>(by cases e),fun a ha i u hu=>by
  cases ha;rw[add_zero];refine zAB HY.o ?_;simpa using hu⟩ aq.o (by simp))
 go_wp2_with fail;refine av.o.mono ?_;rintro e ao ⟨x6,rfl,q,s,m⟩;rw[HN.o.2]at q;have r:=zh (And.intro (O.o.1.next m) (And.intro q.has ((m.block _ (zAA O.o.2)).trans O.o.2)));obtain⟨p6,k6,rfl,-⟩:=zAN q;rw[t.o.2.2.2]at r ⊢;clear q s m;go_wp2_with fail;refine B.o _ _ r.o.2.2 fun f=>?_;clear B f
 try simp only[uZ]
 refine oon 14 rfl fun K B=>?_;have ag:=zh (show(T++N++NC).length=y+h+I by rw[List.length_append,R.o,t.o.2.2.1]);have aj:=zW (OwnR ao 5 1 (.slice p5 (y+h+I) k5) (y+h+I) (zAX (T++N++NC))) (by have:=r.o.1.own;unfold zA4 at this;rwa[ag.o]at this);have aw:=zW (zBH ao 1 (.slice p6 ld k6) ld (zAX ND)) (by have:=r.o.2.1;unfold zAf at this;rwa[t.o.2.2.2]at this);refine zCg (.tmp 26) (.tmp 39) 39 rfl 5 i0 (.int .u8 0) 1 1 underlying39 hi ac ad ae rfl (by decide) (.slice p5 (y+h+I) k5) (y+h+I) _ rfl aj.o (.slice p6 ld k6) ld _ rfl aw.o (zAZ _) (by unfold maxLen;omega) (by omega) ?_;intro aH aI d b k;have af:=zh (And.intro (zBI.grown (x:=ND) r.o.1 (by rw[ag.o,t.o.2.2.2];exact d) b k) ((b.block _ (zAA r.o.2.2) (fun e=>by have:=r.o.1.new _ e.symm;have:=H3.o.2.2;omega)).trans r.o.2.2));obtain⟨p7,k7,rfl⟩:=OwnR.shape d;clear d b k;refine B.o _ _ af.o.2 fun f=>?_;clear B
 try simp only[uZ]
 refine Pl [15,16] ?_
 iterate 2 (refine Pc rfl ?_;simp only[uZ])
 refine Pn ?_;refine odn ?_;go_wp2_with fail
 go_ret2
 have hE:=af.o.1;rw[HT.o]at hE;exact⟨_,rfl,hE.own,fun j hj=>Nat.le_trans H3.o.2.1.size (hE.new j hj),H3.o.2.1.trans (hE.bel.mono H3.o.2.1.size)⟩
theorem doany_calls {w w1:World}{z d v l vm P Q G:Nat}{h:zAj}{a:ByteArray}{D:zAD}{M:zAl}{own:Nat→Option (Nat×Bs)}{F:Nat→Prop}(hS:DoS w w1 z d v l vm P Q G h a D M E0 own (.slice none 0 0) F NoF w1)
  (p:h.fr.size≤16∧h.tu.size≤16) (o:OpM) (q:o.wf) (j:o.may=true→∃E A N,zAV (nm a) D M o.enc=⟨E,A,N,0⟩∧A.last<A.base+16) (y:o.may=true→o.enc.length≤1000) :
  Calls prog 14 #[.pointer (some ⟨z,0,none⟩),.agg (OpL o).toArray] w1 fun e w'=>∃x i f ev',e=.returned (.tuple #[.agg (zC6 x i).toArray,.int .i64 f])∧w'.heap[z]?=some (zBR h v l ev' false)∧Below w.heap.size w w'∧(h.state≠1→f=16∧Below w1.heap.size w1 w'):=by
 have t:=hS.zon;have H:=hS.led.bel;have m:∀{e:Ending} {w':World} (x i f:Int),e=.returned (.tuple #[.agg (zC6 x i).toArray,.int .i64 f])→Below w1.heap.size w1 w'→(h.state≠1→f=16)→∃x i f ev',e=.returned (.tuple #[.agg (zC6 x i).toArray,.int .i64 f])∧w'.heap[z]?=some (zBR h v l ev' false)∧Below w.heap.size w w'∧(h.state≠1→f=16∧Below w1.heap.size w1 w'):=fun x i f c B S =>
  ⟨x,i,f,_,c,(B.block _ (zAA t)).trans t,H.trans (B.mono H.size),fun n=>⟨S n,B⟩⟩
 by_cases b:h.state=1
 rotate_left
 ·exact(dofrozen_calls t b o).mono fun e w' c=>m 0 0 16 c.1 c.2 fun _=>rfl
 cases k:o.may with
 | false=>exact(zEb t hS.eco b p o q (fun e=>by rw[k]at e;cases e) 1 0 fun W s=>peekno_calls s o q k).mono fun e w' c=>m 1 0 0 c.1 c.2 fun n=>absurd b n
 | true =>
  cases r:zDr h.fr h.tu o.atK with
  | false=>exact(dorange_calls t b p o q k r).mono fun e w' c=>m 0 0 10 c.1 c.2 fun n=>absurd b n
  | true =>
   by_cases L:o.kind=7
   ·exact(zEb t hS.eco b p o q (fun _=>r) 0 0 fun W s=>peek7_calls s o q k L rfl rfl).mono fun e w' c=>m 0 0 0 c.1 c.2 fun n=>absurd b n
   ·obtain⟨E,A,N,j,C⟩:=j k;have T:=OpM.names_le (OpM.may_iff k).2.2.2;have R:∀W,zAI W v vm P Q G E0 own→Calls prog 41 #[.pointer (some ⟨v,0,none⟩),.agg (OpL o).toArray] W fun e w'=>e=.returned (.tuple #[.agg zAa.toArray,.bool false])∧Below W.heap.size W w':=fun W s=>by
     by_cases J:o.kind=6
     ·exact(peek6_calls s o q k J rfl rfl).mono fun e w' c=>⟨c.1,c.2⟩
     ·exact zCl s o q k ⟨J,L⟩ rfl
    refine(donew_calls hS b p o r q (by omega) k R j (by have:=y k;omega) C).mono fun e w' ⟨x,i,U,O,ev',c,I⟩=>⟨x,i,0,ev',c,I.zon,I.led.bel,fun n=>absurd b n⟩
theorem r10any_calls (w:World)(o:OpM)(i:o.wf)(c:o.may=true→o.enc.length≤1000) :
  Calls prog 15 #[.agg (OpL o).toArray] w fun e w'=>∃v b x,e=.returned (.tuple #[v,.int .i64 x])∧zA4 w' 5 v b∧(∀j,v.ownBlock=some j→w.heap.size≤j)∧Below w.heap.size w w'∧b.length≤1000:=by
 cases f:o.may with
 | false=>exact(r10eno_calls w o i f).mono fun e w' d=>⟨_,[],1,d.1,OwnR.nil _ _ _,(fun j m=>by cases m),d.2,Nat.zero_le _⟩
 | true=>exact(r10enc_calls w o i f).mono fun e w' ⟨v,d,n,hn,k⟩=>⟨v,_,0,d,n,hn,k,c f⟩
end Go.Proofs.YtmcanphlgkolcaaGreatDoor
