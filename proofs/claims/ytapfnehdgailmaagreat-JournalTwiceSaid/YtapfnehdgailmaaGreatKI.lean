/- What the program's functions and the document's do, and plain laws, for PJournalTwice. -/
import Derived.Test.YtapfnehdgailmaaGreatKA
import Derived.Test.YtapfnehdgailmaaGreatKD
import Derived.Test.YtapfnehdgailmaaGreatKF
import Derived.Test.YtapfnehdgailmaaGreatKG
import Derived.Test.YtapfnehdgailmaaGreatKH
open Go.Proofs.Tryz
set_option maxRecDepth 100000
set_option maxHeartbeats 64000000
namespace Go.Proofs.YtapfnehdgailmaaGreat
open Go.RowKit Go.Sat Go.Maps
theorem zFA {P:Program}{fn:Func}{p u v z:Tmp}{ty:TypeId}(h:fn.results=#[.cell p ty,.tmp u,.tmp v,.tmp z])(b:Array Value)(w:World)(g:Nat)(t:TypeId)(cs:Array Value)(c:Nat×Nat)(d:TypeDesc)
  (l:b.getD p undef=.pointer (some ⟨g,0,none⟩)) (j:w.heap[g]?=some (.cells cs t c))
  (m:P.underlying ty=some d) (i:(match d with | .struct _ | .array _ _=>true|_=>false)=true) (k:(P.info? ty).map (·.size)=some cs.size) :
  (results fn b).run P w=.ok (.tuple #[.agg cs,b.getD u undef,b.getD v undef,b.getD z undef]) w:=by
 have f:(results fn b).run P w=((asAddr (b.getD p undef)).run P w).andThen fun a n=>((loadVar ty a).run P n).andThen fun x o=>.ok (.tuple #[x,b.getD u undef,b.getD v undef,b.getD z undef]) o:=by
  simp only[results,h];simp[Sem.run_bind,Result.andThen]
 rw[f,l];simp[asAddr,run_loadVar_row w g t ty cs c d j m i k]
def zCF (W:World)(b:Nat)(x y z:Value):World:=((W.setCell ⟨b,0,none⟩ x).setCell ⟨b,1,none⟩ y).setCell ⟨b,2,none⟩ z
theorem base_keep {W:World}{b:Nat}{x y z:Value}(h:W.heap[b]?=some (.cells #[x,y,z] 130 (0,0))):(zCF W b x y z).heap[b]?=some (.cells #[x,y,z] 130 (0,0))∧Chg (fun _=>False) W (zCF W b x y z):=by
 have f:=zAC h 0 x;have g:=zAC f 1 y;have d:=zAC g 2 z;have d:(zCF W b x y z).heap[b]?=some (.cells #[x,y,z] 130 (0,0)):=by simpa[zCF]using d
 have c:Chg (fun k=>k=b) W (zCF W b x y z):=((Chg.setCell W ⟨b,0,none⟩ x).trans (Chg.setCell _ ⟨b,1,none⟩ y) fun _ _ e=>e).trans (Chg.setCell _ ⟨b,2,none⟩ z) fun _ _ e=>e;refine⟨d,c.os,c.tape,c.output,c.size,fun k i _=>?_⟩
 by_cases e:k=b
 ·rw[e,d,h]
 ·exact c.block k i e
def RsnTold (w1:World)(r:Nat×Option zDE)(e:Ending)(w':World):Prop :=
 Below w1.heap.size w1 w'∧∃(n t:Int) (gp:Option Addr) (gn gc:Nat) (dv:Value),e=.returned (.tuple #[.agg #[.int .i64 n,.int .i64 t,.slice gp gn gc],dv,.bool r.2.isSome,.int .i64 (r.1:Int)]) ∧
  ∀s,r.2=some s→n=s.number∧t=s.term∧zCm w' (.slice gp gn gc) s.group∧zAj w' 5 dv s.data∧∀k,((Value.slice gp gn gc).ownBlock=some k∨dv.ownBlock=some k)→w1.heap.size≤k
theorem loadE_cases (o:Option zAT):loadE o=0∨loadE o=3∨loadE o=7:=by
 unfold loadE
 split
 ·split
  ·exact .inl rfl
  ·exact .inr (.inl rfl)
 ·exact .inr (.inr rfl)
theorem loadB_le {D:zAA}(h:D.OK)(n:Bs):(zD8 (Sat.get n D.files)).length≤1073741824:=by
 have b:=zFM h n;cases c:Sat.get n D.files with
 | none=>rw[zFV];exact Nat.zero_le _
 | some f =>
  rw[c]at b;rw[zD9];unfold oneB decB
  split
  ·split
   ·rw[List.length_take,List.length_drop];omega
   ·exact Nat.zero_le _
  ·exact Nat.zero_le _
theorem zGf {o:Option zAT}(h:loadE o=7):zCD o=(0,none):=by unfold zCD;rw[if_pos h]
theorem snapOf_3 {o:Option zAT}(h:loadE o=3):zCD o=(3,none):=by unfold zCD;rw[if_neg (by omega),if_pos (by omega),h]
theorem snapOf_0 {o:Option zAT}(h:loadE o=0):zCD o=match zDH (zD8 o)with|none=>(3,none)|some s=>(0,some s):=by unfold zCD;rw[if_neg (by omega),if_neg (by omega)];rfl
theorem snap_no {w1 w2:World}{r:Nat×Option zDE}{k:Nat}(g:r=(k,none))(f:Below w1.heap.size w1 w2)(n t:Int)(d:Option Addr)(c b:Nat)(dv:Value):RsnTold w1 r (.returned (.tuple #[.agg #[.int .i64 n,.int .i64 t,.slice d c b],dv,.bool false,.int .i64 (k:Int)])) w2:=by
 subst g;exact⟨f,n,t,d,c,b,dv,rfl,fun s h=>by cases h⟩
section
variable {w w1 w2:World} {j d:Nat} {pre:ByteArray} {D:zAA} {M:zAJ} {F:Nat→Prop}
theorem rsnap_calls (h:zAl w w1 j d pre D M F) :
  Calls prog 77 #[.pointer (some ⟨j,0,none⟩)] w1 (RsnTold w1 (zCD (Sat.get (zBL (nm pre)) D.files))):=by
 have bd:=h.psz;have Y:(sSnp pre).size=pre.size+5:=zGe pre;obtain⟨c3,c4,-⟩:=h.jc;have aY:=loadB_le h.okD (zBL (nm pre));have H:=zh h;have R:=zh (zAD w1 (.cells #[.int .i64 0,.int .i64 0,.slice none 0 0] 130));have af:=zh (zAI w1 (.cells #[.int .i64 0,.int .i64 0,.slice none 0 0] 130));have Ho:=zW (Sat.get (zBL (nm pre)) D.files=Sat.get (zBL (nm pre)) D.files) rfl;generalize aJ:Sat.get (zBL (nm pre)) D.files=o at *;clear Ho;have Ho:=zh aJ;clear h aJ;rcases loadE_cases o with h0|h3|h7
 ·have HI:=zh (snapOf_0 h0);have He:=zh h0;clear h0;generalize zCD o=SO at *;generalize aE:zD8 o=y at *;have aU:=zh aE;clear aE
  go_enter func77,ntmps77
  go_wp2_with fail;refine ost (fun w':World=>w'.cell? ⟨j,3,none⟩=some (.pointer (some ⟨d,0,none⟩))∧w'.cell? ⟨j,4,none⟩=some (.string pre)) 15 (⟨zBU c3 _,zBU c4 _⟩) fun f=>?_;have m:=zh (R.o.trans ((zAV (w1.alloc (.cells #[.int .i64 0,.int .i64 0,.slice none 0 0] 130))).mono R.o.size));have q:=zW ((w1.alloc (.cells #[.int .i64 0,.int .i64 0,.slice none 0 0] 130)).drew.heap[w1.heap.size]?=_) af.o;generalize (w1.alloc (.cells #[.int .i64 0,.int .i64 0,.slice none 0 0] 130)).drew=W1 at *;refine Pl [0,1,2,3,4,5,6,7,8] ?_
  iterate 9 (refine Pc rfl ?_;simp only[uZ])
  refine Pn ?_;refine oon 9 rfl fun K hK=>?_;have t:=zh (load_calls (H.o.next m.o).st (sSnp pre) (by rw[Y];omega));rw[nm_snp]at t;go_wp2_with fail;refine t.o.mono ?_;rintro e w2 ⟨v,rfl,Q,Z,E,-⟩;rw[Ho.o]at Q ⊢;have C:=zh (And.intro (zAH f.1 E) (zAH f.2 E));have B:=zh (m.o.trans (E.mono m.o.size));have b:=zh ((E.block _ (zAB q.o)).trans q.o);have U:=zh Q;obtain⟨pv,cv,rfl,-⟩:=zAN Q;clear Q Z E t;rw[He.o];rw[aU.o]at U ⊢;go_wp2_with fail;refine hK.o _ _ (C.o) fun f=>?_;clear hK
  try simp only[uZ]
  refine Pl [10,11,12,13,14] ?_
  iterate 5 (refine Pc rfl ?_;simp only[uZ])
  refine Pn ?_;refine odn ?_;clear C m q;have az:=zh (zB3 (show zAY w2 (.slice pv y.length cv) y from U.o.has) (by omega));go_wp2_with fail;refine az.o.mono ?_;rintro e w3 ⟨r,rfl,hr,al,aM,ai⟩;have ap:=zW (Below w1.heap.size w1 w3) (B.o.trans (ai.mono B.o.size));have ab:=(ai.block _ (zAB b.o)).trans b.o;have aF:w1.heap.size<r:=Nat.lt_of_lt_of_le (zAB b.o) al;have HP:=zW (zDU (w3.alloc (.cells #[.pointer (some ⟨w1.heap.size,0,none⟩),.pointer (some ⟨w1.heap.size,1,none⟩)] 204)) r [⟨w1.heap.size,0,none⟩,⟨w1.heap.size,1,none⟩]) (by
   have n:=zAy (.cells #[.pointer (some ⟨w1.heap.size,0,none⟩),.pointer (some ⟨w1.heap.size,1,none⟩)] 204) ab;refine⟨fun a O=>?_,fun a O=>?_,fun a O=>?_,fun a O=>?_⟩
   all_goals
    simp only[List.mem_cons,List.not_mem_nil,or_false]at O;rcases O with rfl|rfl
   ·exact⟨_,zAG n rfl⟩
   ·exact⟨_,zAG n rfl⟩
   ·exact zAE n 0
   ·exact zAE n 1
   ·intro e;have e2:w1.heap.size=r:=e;omega
   ·intro e;have e2:w1.heap.size=r:=e;omega
   ·rfl
   ·rfl)
  have aZ:=zAB ab;have HN:=zh (zEb (hr.chg (Chg.alloc w3 (.cells #[.pointer (some ⟨w1.heap.size,0,none⟩),.pointer (some ⟨w1.heap.size,1,none⟩)] 204)) (fun e=>e) fun _ _ e=>e) (g:=w3.heap.size) (c:=2) HP.o (by simp) (fun i a hi=>by
   refine zAG (zAI w3 _) ?_
   match i,hi with
   | 0,hi=>cases hi;rfl
   | 1,hi=>cases hi;rfl) (fun e=>by omega) (fun a O e=>by
    simp only[List.mem_cons,List.not_mem_nil,or_false]at O;rcases O with rfl|rfl
    ·have e3:w1.heap.size=w3.heap.size:=e;omega
    ·have e3:w1.heap.size=w3.heap.size:=e;omega) (fun k n=>⟨by omega,fun a O e=>by
    have:=zAB b.o;simp only[List.mem_cons,List.not_mem_nil,or_false]at O;rcases O with rfl|rfl
    ·have e3:k=w1.heap.size:=e;omega
    ·have e3:k=w1.heap.size:=e;omega⟩))
  have HS:=zh (And.intro aF (And.intro aM (And.intro al (zAB b.o))));have ay:=zh (zAy (.cells #[.pointer (some ⟨w1.heap.size,0,none⟩),.pointer (some ⟨w1.heap.size,1,none⟩)] 204) ab);have aP:=zh (ap.o.trans ((zAD w3 (.cells #[.pointer (some ⟨w1.heap.size,0,none⟩),.pointer (some ⟨w1.heap.size,1,none⟩)] 204)).mono ap.o.size));clear hr al aM ai ab aF aZ;have ba:=Rd.num_le ⟨y,false⟩;have bc:=Rd.num_le (Rd.num ⟨y,false⟩).2;have aR:=zW (Rd.ints 2 ⟨y,false⟩=([((Rd.num ⟨y,false⟩).1:Int),((Rd.num ⟨y,false⟩).2.num.1:Int)],(Rd.num ⟨y,false⟩).2.num.2)) rfl;have T:=zW (zDH y=(if((Rd.num ⟨y,false⟩).2.num.2.grp zAX).2.bytes.2.whole∧1≤(Rd.num ⟨y,false⟩).1∧(Rd.num ⟨y,false⟩).1≤1099511627776∧(Rd.num ⟨y,false⟩).2.num.1≤1099511627776∧((Rd.num ⟨y,false⟩).2.num.2.grp zAX).2.bytes.1.length≤524288 then some ⟨(Rd.num ⟨y,false⟩).1,((Rd.num ⟨y,false⟩).2.num.1:Int),((Rd.num ⟨y,false⟩).2.num.2.grp zAX).1,((Rd.num ⟨y,false⟩).2.num.2.grp zAX).2.bytes.1⟩else none)) rfl;generalize (Rd.num ⟨y,false⟩).1=A at *;generalize (Rd.num ⟨y,false⟩).2.num.1=G at *;generalize (Rd.num ⟨y,false⟩).2.num.2=W at *;go_wp2_with fail;refine HN.o.mono ?_;rintro e w4 ⟨rfl,X,aG,ak⟩;rw[show([⟨w1.heap.size,0,none⟩,⟨w1.heap.size,1,none⟩]:List Addr).length=2 from rfl,aR.o]at X ak;have hq:=ak w1.heap.size (zAB ay.o) (by have:=HS.o.1;omega);have aN:=zAC ay.o 0 (.int .i64 (A:Int));have am:=zAC aN 1 (.int .i64 (G:Int));rw[show((#[Value.int IntKind.i64 0,.int .i64 0,.slice none 0 0]:Array Value).setIfInBounds 0 (.int .i64 (A:Int))).setIfInBounds 1 (.int .i64 (G:Int))=#[.int .i64 (A:Int),.int .i64 (G:Int),.slice none 0 0]from rfl]at am;have ag:=zW (w4.heap[w1.heap.size]?=some (.cells #[.int .i64 (A:Int),.int .i64 (G:Int),.slice none 0 0] 130 (0,0))) (hq.trans am);have ad:=zW (Below w1.heap.size w1 w4) (by
   refine(((Chg.of_below aP.o).mono fun _ _ e=>e.elim:Chg (fun k=>w1.heap.size≤k) w1 _).trans aG fun k _ e=>?_).below (Nat.le_refl _) fun k n e=>by omega
   rcases e with rfl|⟨a,O,rfl⟩
   ·have:=HS.o.1;omega
   ·simp only[List.mem_cons,List.not_mem_nil,or_false]at O;rcases O with rfl|rfl<;>exact Nat.le_refl _)
  have aS:=zh X.lt;have HG:=zh (readGrp_grp X (fun k n=>⟨by have:=X.lt;omega,by omega⟩));clear X aG ak hq aN am b;go_wp2_with fail;refine HG.o.mono ?_;rintro e w5 ⟨v5,rfl,an,aH,aK,aj⟩;have aO:=zW (Below w1.heap.size w1 w5) (ad.o.trans (aj.below ad.o.size fun k n e=>by have:=HS.o.1;omega));have ac:=(aj.block _ (zAB ag.o) (by have:=HS.o.1;omega)).trans ag.o;obtain⟨N,L,e5,-⟩:=zAw an;subst e5;have ae:=zW (∀k,(Value.slice N (W.grp zAX).1.length L).ownBlock=some k→w1.heap.size≤k∧k≠w1.heap.size∧k≠r) (fun k n=>by
   have h1:=aH k n;have h2:=zAB ag.o;have h3:=ad.o.size;have h6:=aS.o;exact⟨by omega,by omega,by omega⟩)
  have q2:=zAb ac;have fr:=zAE ac 2;have h6:=zAC ac 2 (.slice N (W.grp zAX).1.length L);rw[show(#[Value.int IntKind.i64 (A:Int),.int .i64 (G:Int),.slice none 0 0]:Array Value).setIfInBounds 2 (.slice N (W.grp zAX).1.length L)=#[.int .i64 (A:Int),.int .i64 (G:Int),.slice N (W.grp zAX).1.length L]from rfl]at h6;have ah:=zh h6;have aw:=zW (zCm (w5.setCell ⟨w1.heap.size,2,none⟩ (.slice N (W.grp zAX).1.length L)) (.slice N (W.grp zAX).1.length L) (W.grp zAX).1) (OwnR.keep an fun k n=>set_other _ fun e=>(ae.o k n).2.1 e);have aQ:=zh (zGW (aK.chg (Chg.setCell w5 ⟨w1.heap.size,2,none⟩ (.slice N (W.grp zAX).1.length L)) (fun e=>by have:=HS.o.1;have e2:r=w1.heap.size:=e;omega) (fun k n e=>by have h7:=HS.o.2.2.2;have e2:k=w1.heap.size:=e;omega)));have aq:=zW (Below w1.heap.size w1 (w5.setCell ⟨w1.heap.size,2,none⟩ (.slice N (W.grp zAX).1.length L))) ((((Chg.of_below aO.o).mono fun _ _ e=>e.elim:Chg (fun k=>k=w1.heap.size) w1 w5).trans (Chg.setCell w5 ⟨w1.heap.size,2,none⟩ _) fun k _ e=>e).below (Nat.le_refl _) fun k n e=>by omega);clear an aH aK aj ac h6;generalize (W.grp zAX).2=R4 at *;generalize (W.grp zAX).1=gg at *;go_wp2_with fail;clear q2 fr;generalize w5.setCell ⟨w1.heap.size,2,none⟩ (.slice N gg.length L)=w6 at *;refine aQ.o.mono ?_;rintro e w7 ⟨v7,rfl,ao,aI,aL,aa⟩;have ar:=zW (Below w1.heap.size w1 w7) (aq.o.trans (aa.below aq.o.size fun k n e=>by have:=HS.o.1;omega));have J:=zh ((aa.block _ (zAB ah.o) (by have:=HS.o.1;omega)).trans ah.o);have ax:=zW (zCm w7 (.slice N gg.length L) gg) (OwnR.keep aw.o fun k n=>aa.block k (OwnR.lt aw.o n) fun e=>(ae.o k n).2.2 e);have HW:=zh (zDh aL.at.hd);have aT:=zW (∀k,v7.ownBlock=some k→w1.heap.size≤k∧k≠w1.heap.size) (fun k n=>by
   have h1:=aI k n;have h2:=zAB ah.o;exact⟨by omega,by omega⟩)
  have av:=zh ao;generalize R4.bytes.2=R5 at *;generalize R4.bytes.1=bb at *;obtain⟨p7,c7,e7,-⟩:=zAN ao;subst e7;clear ao aI aL aa;have S:=zh (base_keep J.o);have HZ:=zh S.o.1;have au:=zW (Below w1.heap.size w1 (zCF w7 w1.heap.size (.int .i64 (A:Int)) (.int .i64 (G:Int)) (.slice N gg.length L))) (ar.o.trans (S.o.2.below ar.o.size fun _ _ e=>e));have V:=zh (fun(hn:zDH y=none)=>snap_no (r:=SO) (k:=3) (by rw[HI.o,hn]) au.o (A:Int) (G:Int) N gg.length L (.slice none 0 0));have aA:=zh (fun(hn:zDH y=some ⟨A,(G:Int),gg,bb⟩)=>show RsnTold w1 SO (.returned (.tuple #[.agg #[.int .i64 (A:Int),.int .i64 (G:Int),.slice N gg.length L],.slice p7 bb.length c7,.bool true,.int .i64 0])) (zCF w7 w1.heap.size (.int .i64 (A:Int)) (.int .i64 (G:Int)) (.slice N gg.length L)) by
   rw[HI.o,hn];refine⟨au.o,_,_,_,_,_,_,rfl,fun s hs=>?_⟩;cases hs;exact⟨rfl,rfl,OwnR.keep ax.o fun k n=>S.o.2.block k (OwnR.lt ax.o n) fun e=>e,OwnR.keep av.o fun k n=>S.o.2.block k (OwnR.lt av.o n) fun e=>e,fun k n=>n.elim (fun h=>(ae.o k h).1) fun h=>(aT.o k h).1⟩)
  have Ht:=zh (zD3 w7 (G:Int));have q0:=zAW J.o;have q1:=zAd J.o;have q2:=zAb J.o;have aB:=zAE J.o 0;have aC:=zAE J.o 1;have aD:=zAE J.o 2;clear S HI aY;unfold zCF at *;have l:=zh (fun tm hp=>zFA (P:=prog) (fn:=Tryz.f77) (p:=2) (u:=3) (v:=4) (z:=5) (ty:=130) rfl tm (((w7.setCell ⟨w1.heap.size,0,none⟩ (.int .i64 (A:Int))).setCell ⟨w1.heap.size,1,none⟩ (.int .i64 (G:Int))).setCell ⟨w1.heap.size,2,none⟩ (.slice N gg.length L)) w1.heap.size _ _ (0,0) _ hp HZ.o underlying130 rfl (by kernel_rfl));cases hw:R5.whole with
  | false =>
   rw[hw]at HW;have I:=zh (V.o (by rw[T.o,hw,if_neg (by simp)]));clear hw;go_wp2_with fail;refine HW.o.mono ?_;rintro e w8 ⟨rfl,rfl⟩;go_wp2_with fail
   (try simp only[Exit.inBlock,Exit.then])
   refine bodyPost_ret (l.o _ rfl) rfl ?_;exact I.o
  | true =>
   rw[hw]at HW
   by_cases h1:1≤A
   ·have d1:decide ((A:Int)<1)=false:=by simp;omega
    have aV:decide (A<1)=false:=by simp;omega
    by_cases h2:A≤1099511627776
    ·have d2:decide ((1099511627776:Int)<(A:Int))=false:=by simp;omega
     have aW:decide (1099511627776<A)=false:=by simp;omega
     by_cases h3:G≤1099511627776
     ·rw[show zDR (G:Int)=true from zAo.2 ⟨by omega,by omega⟩]at Ht
      by_cases h4:bb.length≤524288
      focus
       have d4:decide ((524288:Int)<(bb.length:Int))=false:=by simp;omega
       have aX:decide (524288<bb.length)=false:=by simp;omega
       have I:=zh (aA.o (by rw[T.o,hw,if_pos ⟨rfl,h1,h2,h3,h4⟩]))
      rotate_left
      focus
       have d4:decide ((524288:Int)<(bb.length:Int))=true:=by simp;omega
       have aX:decide (524288<bb.length)=true:=by simp;omega
       have I:=zh (V.o (by rw[T.o,if_neg (fun e=>h4 e.2.2.2.2)]))
      all_goals
       clear hw h1 h2 h3 h4;go_wp2_with fail;refine HW.o.mono ?_;rintro e w8 ⟨rfl,rfl⟩;go_wp2_with fail;refine Ht.o.mono ?_;rintro e w8 ⟨rfl,rfl⟩;go_wp2_with fail;(try simp only[Exit.inBlock,Exit.then]);refine bodyPost_ret (l.o _ rfl) rfl ?_;exact I.o
     ·rw[show zDR (G:Int)=false by rw[Bool.eq_false_iff];intro e;have:=zAo.1 e;omega]at Ht;have I:=zh (V.o (by rw[T.o,if_neg (fun e=>h3 e.2.2.2.1)]));clear hw h1 h2 h3;go_wp2_with fail;refine HW.o.mono ?_;rintro e w8 ⟨rfl,rfl⟩;go_wp2_with fail;refine Ht.o.mono ?_;rintro e w8 ⟨rfl,rfl⟩;go_wp2_with fail
      (try simp only[Exit.inBlock,Exit.then])
      refine bodyPost_ret (l.o _ rfl) rfl ?_;exact I.o
    ·have d2:decide ((1099511627776:Int)<(A:Int))=true:=by simp;omega
     have aW:decide (1099511627776<A)=true:=by simp;omega
     have I:=zh (V.o (by rw[T.o,if_neg (fun e=>h2 e.2.2.1)]));clear hw h1 h2;go_wp2_with fail;refine HW.o.mono ?_;rintro e w8 ⟨rfl,rfl⟩;go_wp2_with fail
     (try simp only[Exit.inBlock,Exit.then])
     refine bodyPost_ret (l.o _ rfl) rfl ?_;exact I.o
   ·have d1:decide ((A:Int)<1)=true:=by simp;omega
    have aV:decide (A<1)=true:=by simp;omega
    have I:=zh (V.o (by rw[T.o,if_neg (fun e=>h1 e.2.1)]));clear hw h1;go_wp2_with fail;refine HW.o.mono ?_;rintro e w8 ⟨rfl,rfl⟩;go_wp2_with fail
    (try simp only[Exit.inBlock,Exit.then])
    refine bodyPost_ret (l.o _ rfl) rfl ?_;exact I.o
 focus
  have HI:=zh (snapOf_3 h3);have He:=zh h3;clear h3;generalize zCD o=SO at *;go_enter func77,ntmps77;go_wp2_with fail;refine ost (fun w':World=>w'.cell? ⟨j,3,none⟩=some (.pointer (some ⟨d,0,none⟩))∧w'.cell? ⟨j,4,none⟩=some (.string pre)) 15 (⟨zBU c3 _,zBU c4 _⟩) fun f=>?_;have m:=zh (R.o.trans ((zAV (w1.alloc (.cells #[.int .i64 0,.int .i64 0,.slice none 0 0] 130))).mono R.o.size));have q:=zW ((w1.alloc (.cells #[.int .i64 0,.int .i64 0,.slice none 0 0] 130)).drew.heap[w1.heap.size]?=_) af.o;generalize (w1.alloc (.cells #[.int .i64 0,.int .i64 0,.slice none 0 0] 130)).drew=W1 at *;refine Pl [0,1,2,3,4,5,6,7,8] ?_;iterate 9 (refine Pc rfl ?_;simp only[uZ])
  refine Pn ?_;refine oon 9 rfl fun K hK=>?_;have t:=zh (load_calls (H.o.next m.o).st (sSnp pre) (by rw[Y];omega));rw[nm_snp]at t;go_wp2_with fail;refine t.o.mono ?_;rintro e w2 ⟨v,rfl,Q,Z,E,-⟩;rw[Ho.o]at Q ⊢;have C:=zh (And.intro (zAH f.1 E) (zAH f.2 E));have B:=zh (m.o.trans (E.mono m.o.size));have b:=zh ((E.block _ (zAB q.o)).trans q.o);have U:=zh Q;obtain⟨pv,cv,rfl,-⟩:=zAN Q;clear Q Z E t;rw[He.o];go_wp2_with fail;refine hK.o _ _ (C.o) fun f=>?_;clear hK;try simp only[uZ]
  refine Pl [10,11,12,13,14] ?_;iterate 5 (refine Pc rfl ?_;simp only[uZ])
  refine Pn ?_;refine odn ?_;clear C m q;have S:=zh (base_keep b.o);have HZ:=zh S.o.1;have I:=zh (snap_no (r:=SO) (k:=3) HI.o (B.o.trans (S.o.2.below B.o.size fun _ _ e=>e)) 0 0 none 0 0 (.slice none 0 0))
 rotate_left
 focus
  have HI:=zh (zGf h7);have He:=zh h7;clear h7;generalize zCD o=SO at *;go_enter func77,ntmps77;go_wp2_with fail;refine ost (fun w':World=>w'.cell? ⟨j,3,none⟩=some (.pointer (some ⟨d,0,none⟩))∧w'.cell? ⟨j,4,none⟩=some (.string pre)) 15 (⟨zBU c3 _,zBU c4 _⟩) fun f=>?_;have m:=zh (R.o.trans ((zAV (w1.alloc (.cells #[.int .i64 0,.int .i64 0,.slice none 0 0] 130))).mono R.o.size));have q:=zW ((w1.alloc (.cells #[.int .i64 0,.int .i64 0,.slice none 0 0] 130)).drew.heap[w1.heap.size]?=_) af.o;generalize (w1.alloc (.cells #[.int .i64 0,.int .i64 0,.slice none 0 0] 130)).drew=W1 at *;refine Pl [0,1,2,3,4,5,6,7,8] ?_;iterate 9 (refine Pc rfl ?_;simp only[uZ])
  refine Pn ?_;refine oon 9 rfl fun K hK=>?_;have t:=zh (load_calls (H.o.next m.o).st (sSnp pre) (by rw[Y];omega));rw[nm_snp]at t;go_wp2_with fail;refine t.o.mono ?_;rintro e w2 ⟨v,rfl,Q,Z,E,-⟩;rw[Ho.o]at Q ⊢;have C:=zh (And.intro (zAH f.1 E) (zAH f.2 E));have B:=zh (m.o.trans (E.mono m.o.size));have b:=zh ((E.block _ (zAB q.o)).trans q.o);have U:=zh Q;obtain⟨pv,cv,rfl,-⟩:=zAN Q;clear Q Z E t;rw[He.o];go_wp2_with fail;refine hK.o _ _ (C.o) fun f=>?_;clear hK;try simp only[uZ]
  refine Pl [10,11,12,13,14] ?_;iterate 5 (refine Pc rfl ?_;simp only[uZ])
  refine Pn ?_;refine odn ?_;clear C m q;have S:=zh (base_keep b.o);have HZ:=zh S.o.1;have I:=zh (snap_no (r:=SO) (k:=0) HI.o (B.o.trans (S.o.2.below B.o.size fun _ _ e=>e)) 0 0 none 0 0 (.slice none 0 0))
 all_goals
  have q0:=zAW b.o;have q1:=zAd b.o;have q2:=zAb b.o;have aB:=zAE b.o 0;have aC:=zAE b.o 1;have aD:=zAE b.o 2;clear S b B U;unfold zCF at *;have l:=zh (fun tm hp=>zFA (P:=prog) (fn:=Tryz.f77) (p:=2) (u:=3) (v:=4) (z:=5) (ty:=130) rfl tm (((w2.setCell ⟨w1.heap.size,0,none⟩ (.int .i64 0)).setCell ⟨w1.heap.size,1,none⟩ (.int .i64 0)).setCell ⟨w1.heap.size,2,none⟩ (.slice none 0 0)) w1.heap.size _ _ (0,0) _ hp HZ.o underlying130 rfl (by kernel_rfl));go_wp2_with fail;(try simp only[Exit.inBlock,Exit.then]);refine bodyPost_ret (l.o _ rfl) rfl ?_;exact I.o
end
theorem scanJ_rows (k:Nat):∀b:Bs,b.length≤k→(∀x∈(zDx b).1,x.length≤b.length)∧(zDx b).1.length≤b.length:=by
 induction k with
 | zero =>
  intro b h;rw[zB5 (.inl (List.eq_nil_of_length_eq_zero (by omega)))];exact⟨fun x c=>by simp at c,Nat.zero_le _⟩
 | succ k ih =>
  intro b h
  by_cases d:decE b=0
  ·have g:=zEN d;have f:=ih (b.drop (decL b)) (by rw[List.length_drop];omega);rw[scan_go d];rw[List.length_drop]at f;refine⟨fun x c=>?_,?_⟩
   ·rcases List.mem_cons.1 c with rfl|c
    ·unfold decB;rw[if_pos d,List.length_take,List.length_drop];omega
    ·exact Nat.le_trans (f.1 x c) (by omega)
   ·show _+1≤_
    omega
  ·rw[zB5 (.inr d)];exact⟨fun x c=>by simp at c,Nat.zero_le _⟩
theorem scanJ_row {b x:Bs}{n:Nat}(h:n≤1073741824)(hn:b.length=n)(c:x∈(zDx b).1):x.length≤1073741824:=Nat.le_trans ((scanJ_rows _ b (Nat.le_refl _)).1 x c) (by omega)
theorem zF0 {b:Bs}{n:Nat}{rows:List Bs}(h:n≤1073741824)(hn:b.length=n)(c:(zDx b).1=rows):rows.length≤1073741824:=by
 rw[←c];exact Nat.le_trans (scanJ_rows _ b (Nat.le_refl _)).2 (by omega)
theorem zBY.keepJ {w w':World}{v:Value}{vs:List Value}{ls:List Bs}(h:zBY w v vs ls)(d:∀j,(v.ownBlock=some j∨∃u∈vs,u.ownBlock=some j)→w'.heap[j]?=w.heap[j]?):zBY w' v vs ls :=
 ⟨h.row.keep fun k c=>d k (.inl c),fun i u b f g=>OwnR.keep (h.has i u b f g) fun k c=>d k (.inr ⟨u,List.mem_of_getElem? f,c⟩),h.sep⟩
def restJ:Nat→zAJ→List Bs→Option zAJ
 | 0,M,l=>zCC M l
 | _+1,M,l=>zBS M l
theorem restJ_cons (k:Nat)(M:zAJ)(x:Bs)(r:List Bs):restJ k M (x::r)=(zBc (decide (k=0)) M x).bind fun M'=>restJ (k+1) M' r:=by
 cases k<;>rfl
def RlTold (w w1:World)(j d:Nat)(pre:ByteArray)(F:Nat→Prop)(r:zAA×Nat×Bool×zAJ)(e:Ending)(w':World):Prop :=
 e=.returned (.tuple #[.bool r.2.2.1,.int .i64 (r.2.1:Int)])∧St w w' d r.1 F∧Same F w1 w'∧(r.2.1=0→zAl w w' j d pre r.1 r.2.2.2 F)
section
variable {w w1 w2:World} {j d:Nat} {pre:ByteArray} {D:zAA} {M:zAJ} {F:Nat→Prop}
theorem rl_end {r:zAA×Nat×Bool×zAJ}{k:Nat}{b:Bool}{M':zAJ}(h:zAl w w2 j d pre D M' F)(f:Same F w1 w2)(c:r=(D,k,b,M')):RlTold w w1 j d pre F r (.returned (.tuple #[.bool b,.int .i64 (k:Int)])) w2:=by
 subst c;exact⟨rfl,h.stF,f,fun _=>h⟩
theorem rl_bad {r:zAA×Nat×Bool×zAJ}{k:Nat}{b:Bool}{M':zAJ}(h:St w w2 d D F)(g:Same F w1 w2)(f:r=(D,k,b,M'))(c:k≠0):RlTold w w1 j d pre F r (.returned (.tuple #[.bool b,.int .i64 (k:Int)])) w2:=by
 subst f;exact⟨rfl,h,g,fun e=>(c e).elim⟩
theorem rec_told_no {o:Option zAJ}{e:Ending}(h:zCE w w1 j d pre D F o e w2)(b:o=none):St w w2 d D F∧Same F w1 w2∧e=.returned (.bool false):=by
 subst b;exact h
theorem rec_told_yes {o:Option zAJ}{M':zAJ}{e:Ending}(h:zCE w w1 j d pre D F o e w2)(b:o=some M'):Same F w1 w2∧e=.returned (.bool true)∧zAl w w2 j d pre D M' F:=by
 subst b;exact h.2
theorem zE9 (h:Sat.get (zAm (nm pre)) D.files=none):zBh D (nm pre) M=(D,0,true,M):=by unfold zBh;rw[h]
theorem zFw {f:zAT}(h:Sat.get (zAm (nm pre)) D.files=some f)(b:zCC M (zDx f.data).1=none):zBh D (nm pre) M=(D,3,false,M):=by unfold zBh;rw[h];dsimp only;rw[b]
theorem readLog_ok {f:zAT}{M':zAJ}(h:Sat.get (zAm (nm pre)) D.files=some f)(b:zCC M (zDx f.data).1=some M'):zBh D (nm pre) M=((tornOff D (zAm (nm pre)) (zDx f.data).2 f.data.length).1,(tornOff D (zAm (nm pre)) (zDx f.data).2 f.data.length).2,false,M'):=by unfold zBh;rw[h];dsimp only;rw[b]
theorem rlog_calls (h:zAl w w1 j d pre D M F)(hM:M.entries=[]) :
  Calls prog 78 #[.pointer (some ⟨j,0,none⟩)] w1 (RlTold w w1 j d pre F (zBh D (nm pre) M)):=by
 have aW:=h.psz;have ak:(zCT pre).size=pre.size+4:=zFa pre;obtain⟨c3,c4,-⟩:=h.jc;have H:=zh h;have HM:=zh hM;have z:=zh (jou_read h (zCT pre) (by rw[ak];omega));rw[zBw]at z;have s:=zFM h.okD (zAm (nm pre));cases U:Sat.get (zAm (nm pre)) D.files with
 | none =>
  have HR:=zh (zE9 (M:=M) U);have az:zDe (none:Option zAT)=7:=rfl;rw[U,az]at z;clear h hM U az s
  go_enter func78,ntmps78
  go_wp2_with fail;refine z.o.mono ?_;rintro e w2 ⟨v2,rfl,-,-,ac⟩;have p:=zh (rl_end (w1:=w1) (k:=0) (H.o.next ac) (H.o.same ac) HR.o);clear ac;go_wp2_with fail
  go_ret2
  exact p.o
 | some f =>
  have ay:zDe (some f)=0:=rfl;have af:f.data.length≤1073741824:=by rw[U]at s;exact s
  have ap:=zh (zFw (M:=M) U);have aE:=zh (fun M'=>readLog_ok (M:=M) (M':=M') U);rw[U,ay]at z;clear h hM U ay s
  go_enter func78,ntmps78
  go_wp2_with fail;refine z.o.mono ?_;rintro e w3 ⟨v3,rfl,I,aQ,ad⟩;have am:=zh (H.o.next ad);have aF:=zh (H.o.same ad);have I:zAj w3 5 v3 f.data:=I;obtain⟨pb,cb,rfl,T⟩:=zAN I;have aK:=zh (scan_calls I.has T af);clear ad I aQ T c3 c4;have aR:=scan_le f.data;generalize B:f.data.length=c at *;go_wp2_with fail;refine aK.o.mono ?_;rintro e w4 ⟨v4,vs,rfl,aj,aw,ae⟩;have an:=zh (FR_more am.o (⟨aj,aw,ae⟩:zEn w3 w4 v4 vs _));have K:=zh (aF.o.trans (am.o.same ae));have ao:=zh aj;have aJ:=zW (∀x∈(zDx f.data).1,x.length≤1073741824) fun x X=>scanJ_row af B X;clear aj aw ae;obtain⟨pr,cr,rfl⟩:=OwnR.shape ao.o.row;generalize hq:(zDx f.data).2=q at *;generalize C:(zDx f.data).1=rows at *;have aV:rows.length≤1073741824:=zF0 af B C;generalize ax:rows.length=n at *;have ab:=zh ax;clear hq C ax B
  by_cases Q:n=0
  ·have aA:rows=[]:=List.eq_nil_of_length_eq_zero (by rw[ab.o,Q]);have p:=zh (rl_bad (w1:=w1) (j:=j) (pre:=pre) (k:=3) (an.o.stF.less fun _ h=>.inl h) K.o (ap.o (by rw[aA];rfl)) (by decide));have e0:((n:Int)==0)=true:=by simp;omega
   clear aA Q;go_wp2_with fail
   go_ret2
   exact p.o
  ·have e0:((n:Int)==0)=false:=by simp;omega
   have aH:=zh Q;clear Q;go_wp2_with fail
   go_loopw [38] (fun i wr=>∃(k:Nat) (N:zAJ),k≤n∧i=.int .i64 k∧(k=0→N=M)∧zAl w wr j d pre D N (FR F (.slice pr n cr) vs)∧Same (FR F (.slice pr n cr) vs) w4 wr∧zCC M rows=restJ k N (rows.drop k)) (fun i _=>n-(intOf i).toNat)
   case atStart=>exact⟨0,M,Nat.zero_le _,rfl,fun _=>rfl,an.o,fun _ _=>rfl,rfl⟩
   case round =>
    clear e0;obtain⟨k,N,hk,rfl,O,hJ,hs,b⟩:=hrel
    by_cases aP:k<n
    ·have y:k<rows.length:=by rw[ab.o];exact aP
     rw[List.drop_eq_getElem_cons y,restJ_cons]at b;have t:=ao.o.keepJ (w':=wr) fun x X=>hs x (.inr X);have P:k<vs.length:=by rw[t.len];exact y
     have L:=t.has k _ _ (List.getElem?_eq_getElem P) (List.getElem?_eq_getElem y);have l:∃g,pr=some ⟨g,0,none⟩∧wr.cell? ⟨g,k,none⟩=some vs[k]:=by
      rcases t.row.2 with⟨-,h0⟩|⟨g,aS,cur,e,-⟩
      ·omega
      ·refine⟨g,?_,?_⟩
       ·simp only[Value.slice.injEq]at e;exact e.1
       ·have S:=t.row.cells (g:=g) (by rw[e];rfl) k _ (List.getElem?_eq_getElem P);rwa[add_zero]at S
     obtain⟨g,rfl,l⟩:=l;have J:=aJ.o _ (List.getElem_mem y);obtain⟨px,cx,ah,-⟩:=zAN L;rw[ah]at L l;have R:=zh (record_calls hJ (decide (k=0)) (fun hf=>by rw[O (by simpa using hf)];exact HM.o) L.has J);have Hs:=zh hs;have aT:((k:Int)==0)=decide (k=0):=by
      by_cases h0:k=0
      ·subst h0;rfl
      ·rw[decide_eq_false h0];simp;omega
     cases S:zBc (decide (k=0)) N rows[k]with
     | none =>
      rw[S]at b;have Hc:=zh S;have aD:=zh (ap.o b);clear hJ hs b t L J S ah P O;generalize rows[k]=x at *;generalize x.length=m at *;generalize decide (k=0)=fk at *;clear y;go_wp2_with fail;refine R.o.mono ?_;intro e w6 r;obtain⟨au,a,rfl⟩:=rec_told_no r Hc.o;have p:=zh (rl_bad (w1:=w1) (j:=j) (pre:=pre) (k:=3) (au.less fun _ h=>.inl h) (K.o.trans fun x X=>(a x (.inl X)).trans (Hs.o x (.inl X))) aD.o (by decide));clear au a r;go_wp2_with fail
      go_ret2
      exact p.o
     | some Mn =>
      rw[S]at b;have Hc:=zh S;have aI:=zW (zCC M rows=restJ (k+1) Mn (rows.drop (k+1))) b;clear hJ hs b t L J S ah P O;generalize rows[k]=x at *;generalize x.length=m at *;generalize decide (k=0)=fk at *;clear y;go_wp2_with fail;refine R.o.mono ?_;intro e w6 r;obtain⟨a,rfl,ar⟩:=rec_told_yes r Hc.o;have p:=zh (And.intro ar (Hs.o.trans a));clear a ar r;go_wp2_with fail;go_roundw
      case rel=>exact⟨k+1,Mn,by omega,by go_num,fun h=>by omega,p.o.1,p.o.2,aI.o⟩
      case measure=>simp[intOf];omega
    ·have aO:k=n:=by omega
     subst aO;have V:zCC M rows=some N:=by
      rw[b,List.drop_of_length_le (by rw[ab.o];exact Nat.le_refl _)];cases k with
      | zero=>exact absurd rfl aH.o
      | succ k=>rfl
     have Z:=zh (aE.o N V);have Y:=zW (zAl w wr j d pre D N F) (hJ.less fun _ h=>.inl h);have aa:=zW (Same F w1 wr) (K.o.trans fun x X=>hs x (.inl X));obtain⟨c3,c4,-⟩:=Y.o.jc;clear hJ hs b V O;generalize aN:N=Mz at *;clear aN
     by_cases ai:q<c
     ·have dq:decide ((q:Int)<(c:Int))=true:=by simp;omega
      have aM:decide (q<c)=true:=by simp;omega
      cases G:D.truncate (zAm (nm pre)) (q:Int)with
      | mk D1 e1 =>
       have aq:=zW (Calls prog 156 #[.pointer (some ⟨d,0,none⟩),.string (zCT pre),.int .i64 (q:Int)] wr fun e w'=>e=.returned (.int .i64 (e1:Int))∧zAl w w' j d pre D1 Mz F∧Same F wr w'∧w'.heap[j]?=wr.heap[j]?) (by
        have:=jou_trunc Y.o (zCT pre) (by rw[ak];omega) (q:Int) (by omega) (by omega);rwa[zBw,G]at this)
       by_cases ag:e1=0
       ·subst ag;cases al:D1.sync [zAm (nm pre)]with
        | mk D2 e2 =>
         have r:tornOff D (zAm (nm pre)) q c=(D2,e2):=by unfold tornOff;rw[if_pos ai,G,if_neg (by simp)];exact al
         have A:=Z.o;rw[r]at A;have HR:=zh A;have aL:=zh (fun W (h:zAl w W j d pre D1 Mz F)=>show Calls prog 130 #[.pointer (some ⟨d,0,none⟩),.slice (some ⟨W.heap.size,0,none⟩) 1 1] (W.alloc (.cells #[.string (zCT pre)] 9)) fun e w'=>e=.returned (.int .i64 (e2:Int))∧zAl w w' j d pre D2 Mz F∧Same F W w'∧w'.heap[j]?=W.heap[j]? by
          have:=jou_sync h (zCT pre) (by rw[ak];omega);rwa[zBw,al]at this)
         clear G al r A;go_wp2_with fail;refine aq.o.mono ?_;rintro e w6 ⟨rfl,v,E,-⟩;have aC:=zh v;have aG:=zh (aa.o.trans E);obtain⟨c3,c4,-⟩:=v.jc;clear v E;go_wp2_with fail;refine(aL.o w6 aC.o).mono ?_;rintro e w7 ⟨rfl,av,aB,-⟩;have p:=zh (rl_end (w1:=w1) av (aG.o.trans aB) HR.o);clear av aB;go_wp2_with fail
         go_ret2
         exact p.o
       ·have r:tornOff D (zAm (nm pre)) q c=(D1,e1):=by unfold tornOff;rw[if_pos ai,G,if_pos ag]
        have A:=Z.o;rw[r]at A;have HR:=zh A;have aU:((e1:Int) != 0)=true:=by simp;omega
        clear G r A ag;go_wp2_with fail;refine aq.o.mono ?_;rintro e w6 ⟨rfl,v,E,-⟩;have p:=zh (rl_end (w1:=w1) v (aa.o.trans E) HR.o);clear v E;go_wp2_with fail
        go_ret2
        exact p.o
     ·have dq:decide ((q:Int)<(c:Int))=false:=by simp;omega
      have aM:decide (q<c)=false:=by simp;omega
      have r:tornOff D (zAm (nm pre)) q c=(D,0):=by unfold tornOff;rw[if_neg ai]
      have A:=Z.o;rw[r]at A;have p:=zh (rl_end (w1:=w1) Y.o aa.o A);clear r A;go_wp2_with fail
      go_ret2
      exact p.o
end
theorem zF7 {R:Rd}(h:R.bytes.2.whole=true):R.bad=false:=by
 cases c:R.bad with
 | false=>rfl
 | true =>
  exfalso;have b:R.num.2.bad=true:=by
   unfold Rd.num
   split
   ·exact c
   ·rfl
  rw[show R.bytes=R.num.2.raw R.num.1 from rfl]at h;unfold Rd.raw at h
  split at h
  ·unfold Rd.whole at h;dsimp only at h;rw[b]at h;simp at h
  ·cases h
theorem grp_bad {R:Rd}(h:(R.grp zAX).2.bad=false):zAX (R.grp zAX).1=true:=by
 unfold Rd.grp at h ⊢
 split at h
 ·cases h
 ·rename_i h7
  rw[if_neg h7];dsimp only at h ⊢
  split at h
  ·assumption
  ·cases h
theorem snapIs_ok {b:Bs}{s:zDE}(h:zDH b=some s):s.OK∧s.data.length≤524288∧1≤s.number:=by
 unfold zDH at h;dsimp only at h
 split at h
 ·rename_i hc
  cases h;obtain⟨i,d,f,g,c⟩:=hc;exact⟨⟨f,zAo.2 ⟨Int.natCast_nonneg _,Int.ofNat_le.2 g⟩,grp_bad (zF7 i),Nat.le_trans c (by decide)⟩,c,d⟩
 ·cases h
theorem snapOf_ok {o:Option zAT}{s:zDE}(h:(zCD o).2=some s):s.OK∧s.data.length≤524288∧1≤s.number:=by
 unfold zCD at h
 split at h
 ·cases h
 ·split at h
  ·cases h
  ·split at h
   ·cases h
   ·rename_i hs
    cases h;exact snapIs_ok hs
theorem each1_room (g:Bs→zAT→List (Bs×zAT)→List (Bs×zAT))(D:zAA)(n:Bs):(zAA.each1 g D n).1.room=D.room:=by
 unfold zAA.each1
 split
 ·rfl
 ·split<;>rfl
theorem zGa (D:zAA)(n:Bs):(D.rid1 n).1.room=D.room:=by
 unfold zAA.rid1
 split
 ·show(zAA.each _ D [n]).1.room=_
  simp only[zAA.each]
  split
  ·exact each1_room _ _ _
  ·exact each1_room _ _ _
 ·rfl
theorem data_room {D:zAA}(h:D.OK){n:Bs}{f:zAT}(c:Sat.get n D.files=some f):f.data.length≤D.room:=by
 have b:zAA.size f≤D.used:=le_sum h.srt c;have d:=h.used;unfold zAA.size at b;omega
theorem scanJ_twelve (k:Nat):∀b:Bs,b.length≤k→12*(zDx b).1.length≤b.length:=by
 induction k with
 | zero =>
  intro b h;rw[zB5 (.inl (List.eq_nil_of_length_eq_zero (by omega)))];exact Nat.zero_le _
 | succ k ih =>
  intro b h
  by_cases c:decE b=0
  ·have f:=zEN c;have d:=ih (b.drop (decL b)) (by rw[List.length_drop];omega);rw[scan_go c];rw[List.length_drop]at d
   show 12*(_+1)≤_
   omega
  ·rw[zB5 (.inr c)];exact Nat.zero_le _
theorem rec1_len {f:Bool}{M M':zAJ}{p:Bs}(h:zBc f M p=some M'):M'.entries.length≤M.entries.length+1:=by
 unfold zBc at h
 split at h
 ·cases h
 ·dsimp only at h
  repeat' split at h
  all_goals first
   | (cases h;done)
   | (cases h;simp;done)
   | (cases h;simp;omega)
theorem recGo_len:∀(l:List Bs) {M M':zAJ},zBS M l=some M'→M'.entries.length≤M.entries.length+l.length
 | [],M,M',h=>by cases h;exact Nat.le_refl _
 | p::r,M,M',h=>by
  have h:(zBc false M p).bind (fun M'=>zBS M' r)=some M':=h;cases b:zBc false M p with
  | none=>rw[b]at h;cases h
  | some M1 =>
   rw[b]at h;have c:=recGo_len r (M:=M1) (M':=M') h;have d:=rec1_len b;rw[List.length_cons];omega
theorem recAll_len {l:List Bs}{M M':zAJ}(h:zCC M l=some M'):M'.entries.length≤M.entries.length+l.length:=by
 cases l with
 | nil=>cases h
 | cons p r =>
  have h:(zBc true M p).bind (fun M'=>zBS M' r)=some M':=h;cases b:zBc true M p with
  | none=>rw[b]at h;cases h
  | some M1 =>
   rw[b]at h;have c:=recGo_len r (M:=M1) (M':=M') h;have d:=rec1_len b;rw[List.length_cons];omega
theorem zCS {D D':zAA}{pre:Bs}{M M':zAJ}{e:Nat}{a:Bool}(d:D.OK)(k:D.room≤1048576)(c:M.entries=[])(h:zBh D pre M=(D',e,a,M')):M'.entries.length≤1000000:=by
 unfold zBh at h
 split at h
 ·have b:M=M':=congrArg (fun x=>x.2.2.2) h;rw[←b,c];exact Nat.zero_le _
 ·rename_i f hf
  have i:=data_room d hf;have j:=scanJ_twelve _ f.data (Nat.le_refl _)
  split at h
  ·have b:M=M':=congrArg (fun x=>x.2.2.2) h;rw[←b,c];exact Nat.zero_le _
  ·rename_i M1 hM1
   have g:=recAll_len hM1;have b:M1=M':=congrArg (fun x=>x.2.2.2) h;rw[←b];rw[c]at g;simp only[List.length_nil]at g;omega
structure OpensJ (D:zAA)(pre:Bs)(nodes:List Int) where
 D1:zAA
 e1:Nat
 h1:D.rid1 (zAF (zAm pre))=(D1,e1)
 D2:zAA
 e2:Nat
 h2:D1.rid1 (zAF (zBL pre))=(D2,e2)
 s:Nat×Option zDE
 hs:zCD (Sat.get (zBL pre) D2.files)=s
 l:zAA×Nat×Bool×zAJ
 hl:zBh D2 pre (zAJ.none0 nodes)=l
theorem zGQ (D:zAA)(pre:Bs)(nodes:List Int):Nonempty (OpensJ D pre nodes):=⟨⟨_,_,rfl,_,_,rfl,_,rfl,_,rfl⟩⟩
section
variable {D:zAA} {pre:Bs} {nodes:List Int} (O:OpensJ D pre nodes)
theorem oj_arg (h:pre.length<1∨20<pre.length∨zAX nodes=false):zAS D pre nodes=(D,1,zAJ.none0 nodes):=by
 unfold zAS;rw[if_pos h]
theorem oj_rid1 (b:O.e1≠0):D.rid [zAF (zAm pre),zAF (zBL pre)]=(O.D1,O.e1):=by
 unfold zAA.rid;rw[O.h1];exact if_neg b
theorem oj_rid2 (c:O.e1=0):D.rid [zAF (zAm pre),zAF (zBL pre)]=(O.D2,O.e2):=by
 unfold zAA.rid;rw[O.h1];refine(if_pos c).trans ?_
 show zAA.rid O.D1 [zAF (zBL pre)]=_
 unfold zAA.rid;rw[O.h2];dsimp only
 by_cases b:O.e2=0
 ·rw[if_pos b]
  show(O.D2,0)=_
  rw[b]
 ·exact if_neg b
theorem oj_e1 (h:¬(pre.length<1∨20<pre.length∨zAX nodes=false))(b:O.e1≠0):zAS D pre nodes=(O.D1,O.e1,zAJ.none0 nodes):=by
 unfold zAS;rw[if_neg h,oj_rid1 O b];exact if_pos b
theorem oj_e2 (h:¬(pre.length<1∨20<pre.length∨zAX nodes=false))(b:O.e1=0)(c:O.e2≠0):zAS D pre nodes=(O.D2,O.e2,zAJ.none0 nodes):=by
 unfold zAS;rw[if_neg h,oj_rid2 O b];exact if_pos c
theorem oj_e3 (h:¬(pre.length<1∨20<pre.length∨zAX nodes=false))(b:O.e1=0)(c:O.e2=0)(d:O.s.1≠0):zAS D pre nodes=(O.D2,O.s.1,zAJ.none0 nodes):=by
 unfold zAS;rw[if_neg h,oj_rid2 O b];dsimp only;rw[if_neg (by simpa using c),O.hs];exact if_pos d
theorem oj_go (h:¬(pre.length<1∨20<pre.length∨zAX nodes=false))(b:O.e1=0)(c:O.e2=0)(d:O.s.1=0):zAS D pre nodes=(if O.l.2.1≠0 then(O.l.1,O.l.2.1,zAJ.none0 nodes)else
 match zAi O.s.2 O.l.2.2.2 O.l.2.2.1 with
 | none=>(O.l.1,3,zAJ.none0 nodes)
 | some (anew,M)=>if anew then((zAU O.l.1 pre M).1,(zAU O.l.1 pre M).2,M)else(O.l.1,0,M)):=by
 unfold zAS;rw[if_neg h,oj_rid2 O b];dsimp only;rw[if_neg (by simpa using c),O.hs,if_neg (by simpa using d),O.hl];rfl
theorem oj_e4 (h:¬(pre.length<1∨20<pre.length∨zAX nodes=false))(b:O.e1=0)(c:O.e2=0)(d:O.s.1=0)(f:O.l.2.1≠0):zAS D pre nodes=(O.l.1,O.l.2.1,zAJ.none0 nodes):=(oj_go O h b c d).trans (if_pos f)
theorem oj_no (h:¬(pre.length<1∨20<pre.length∨zAX nodes=false))(b:O.e1=0)(c:O.e2=0)(d:O.s.1=0)(f:O.l.2.1=0)(g:zAi O.s.2 O.l.2.2.2 O.l.2.2.1=none):zAS D pre nodes=(O.l.1,3,zAJ.none0 nodes):=by
 rw[oj_go O h b c d,if_neg (by simpa using f),g]
theorem oj_keep (h:¬(pre.length<1∨20<pre.length∨zAX nodes=false))(b:O.e1=0)(c:O.e2=0)(d:O.s.1=0)(f:O.l.2.1=0){M:zAJ}(g:zAi O.s.2 O.l.2.2.2 O.l.2.2.1=some (false,M)):zAS D pre nodes=(O.l.1,0,M):=by
 rw[oj_go O h b c d,if_neg (by simpa using f),g];rfl
theorem oj_anew (h:¬(pre.length<1∨20<pre.length∨zAX nodes=false))(b:O.e1=0)(c:O.e2=0)(d:O.s.1=0)(f:O.l.2.1=0){M:zAJ}(g:zAi O.s.2 O.l.2.2.2 O.l.2.2.1=some (true,M)):zAS D pre nodes=((zAU O.l.1 pre M).1,(zAU O.l.1 pre M).2,M):=by
 rw[oj_go O h b c d,if_neg (by simpa using f),g];rfl
end
def zEr (w w1:World)(d:Nat)(pre:ByteArray)(F:Nat→Prop)(r:zAA×Nat×zAJ)(e:Ending)(w':World):Prop :=
 St w w' d r.1 F∧Same F w1 w'∧((r.2.1=0∧∃j,e=.returned (.tuple #[.pointer (some ⟨j,0,none⟩),.int .i64 0])∧zAl w w' j d pre r.1 r.2.2 F)∨(r.2.1≠0∧e=.returned (.tuple #[.pointer none,.int .i64 (r.2.1:Int)])))
theorem jou_fresh {w w1:World}{d:Nat}{D:zAA}{F:Nat→Prop}{nodes:List Int}{f:Value}(h:St w w1 d D (fun k=>F k∨f.ownBlock=some k))(pre:ByteArray)(o:1≤pre.size∧pre.size≤20)(n:zAX nodes=true)(c:zCm w1 f nodes)(j:∀k,f.ownBlock=some k→w.heap.size≤k∧¬F k) :
  zAl w (w1.alloc (.cells #[.int .i64 0,.int .i64 0,f,.pointer (some ⟨d,0,none⟩),.string pre,.int .i64 0,.int .i64 (-1),.slice none 0 0,.slice none 0 0,.bool false] 132)) w1.heap.size d pre D (zAJ.none0 nodes) F:=by
 have g:=zAD w1 (.cells #[.int .i64 0,.int .i64 0,f,.pointer (some ⟨d,0,none⟩),.string pre,.int .i64 0,.int .i64 (-1),.slice none 0 0,.slice none 0 0,.bool false] 132);refine⟨fun k=>k=w1.heap.size∨f.ownBlock=some k,f,.slice none 0 0,.slice none 0 0,[],⟨zAI w1 _,zGR c g,OwnR.nil _ _ _,OwnR.nil _ _ _,⟨rfl,fun i e v l q=>(by simp at q)⟩,.inl rfl,fun k b=>⟨.inr b,fun e=>by have:=OwnR.lt c b;omega,fun e=>(by cases e)⟩,fun k b=>(by cases b),fun k b=>(by cases b),fun u p=>(by simp at p),fun k b=>?_,o,⟨Nat.zero_le _,rfl,n,rfl,⟨show(-1:Int)≤-1 by decide,show(-1:Int)<7 by decide⟩,Nat.zero_le _,fun e l=>(by cases l)⟩⟩,h.move (Chg.of_below g) (fun _ _ h=>h.elim) (fun k b=>?_),fun k b=>?_,fun k b=>Nat.lt_of_lt_of_le (h.flt (.inl b)) g.size⟩
 ·rcases b with b|b
  ·rw[b];simp
  ·exact Nat.lt_of_lt_of_le (OwnR.lt c b) g.size
 ·rcases b with(b|b)|b
  ·exact⟨.inr (by omega),by rw[b];simp⟩
  ·exact⟨.inl (.inr b),Nat.lt_of_lt_of_le (OwnR.lt c b) g.size⟩
  ·exact⟨.inl (.inl b),Nat.lt_of_lt_of_le (h.flt (.inl b)) g.size⟩
 ·rcases b with b|b
  ·exact⟨by rw[b];exact h.below.size,fun m=>by have:=h.flt (.inl m);omega⟩
  ·exact j k b
section
variable {D:zAA} {n b:Bs}
theorem put1_app (i:D.fuse≠some 0)(k:1≤n.length)(hn:n.length≤60)(d:Sat.get (zAF n) D.files=none)(g:D.used+b.length≤D.room)(l:D.files.length<4096) :
  D.append (zAF n) b=(⟨D.room,put (zAF n) ⟨b,0⟩ D.files,offF D.fuse 1⟩,0):=by
 have j:D.may [zAF n]=0:=by
  unfold zAA.may;rw[if_neg i,if_pos];simp only[List.all_cons,List.all_nil,Bool.and_true,okN,zEG];simp;omega
 have f:D.full (zAF n) b=false:=by
  unfold zAA.full;rw[d];simp;omega
 unfold zAA.append;rw[if_neg (by rw[j];simp),if_neg (by rw[f];simp)];have c:D.cur (zAF n)=⟨[],0⟩:=by unfold zAA.cur;rw[d];rfl
 rw[c];rfl
theorem put1_syn {room:Nat}{L:List (Bs×zAT)}{f:Option Nat}(h:Srt L)(d:f≠some 0)(j:1≤n.length)(hn:n.length≤60) :
  zAA.sync ⟨room,put (zAF n) ⟨b,0⟩ L,f⟩ [zAF n]=(⟨room,put (zAF n) ⟨b,b.length⟩ L,offF f 1⟩,0):=by
 have i:zAA.may ⟨room,put (zAF n) ⟨b,0⟩ L,f⟩ [zAF n]=0:=by
  unfold zAA.may;rw[if_neg d,if_pos];simp only[List.all_cons,List.all_nil,Bool.and_true,okN,zEG];simp;omega
 have c:zAA.each1 zAA.gSync ⟨room,put (zAF n) ⟨b,0⟩ L,f⟩ (zAF n)=(⟨room,put (zAF n) ⟨b,b.length⟩ L,offF f 1⟩,0):=by
  unfold zAA.each1;rw[if_neg (by rw[i];simp)];have g:Sat.get (zAF n) (zAA.files ⟨room,put (zAF n) ⟨b,0⟩ L,f⟩)=some ⟨b,0⟩:=zBN h _ _;rw[g]
  show((⟨room,put _ _ (put _ _ L),_⟩:zAA),0)=_
  rw[put_put h];rfl
 show(if(zAA.each1 _ _ _).2=0 then _ else _)=_
 rw[c,if_pos rfl];rfl
theorem put1_all (h:D.OK)(g:∀j,D.fuse=some j→3≤j)(c:1≤n.length)(hn:n.length≤60)(f:Sat.get (zAF n) D.files=none)(d:D.used+b.length≤D.room)(k:D.files.length<4096) :
  D.save1 n b=(⟨D.room,put n ⟨b,b.length⟩ D.files,offF D.fuse 3⟩,0):=by
 have i:D.save0 n=(D,0):=by unfold zAA.save0;rw[f];rfl
 have l:D.fuse≠some 0:=fun e=>by have:=g 0 e;omega
 rw[save1_ren i (put1_app l c hn f d k) (put1_syn h.srt (off_ne fun j e=>by have:=g j e;omega) c hn),off_off,
  save_ren h.srt (off_ne fun j e=>by have:=g j e;omega) c hn f,off_off]
end
def zFe (g:List Int):Bs:=zAK (zEp 0 0 g)++zAK (zCW 0 (-1))
theorem zFY (g:List Int):zAL (zAJ.none0 g).rows=zFe g:=by
 show zAL [zEp 0 0 g,zCW 0 (-1)]=_
 unfold zFe;rw[←zCI (zEp 0 0 g),←zCI (zCW 0 (-1)),←zCj];rfl
theorem zFP {g:List Int}(h:zAX g=true):(zFe g).length≤150:=by
 have f:=(zCi h).1;unfold zFe;rw[List.length_append,zAf,zAf];have i:(zCW 0 (-1)).length≤19:=by
  unfold zCW;have a:=zBI 0;have b:=zBI ((-1)+1);simp only[List.length_cons,List.length_append];omega
 have j:(zEp 0 0 g).length≤100:=by
  unfold zEp zDs;have a:(zEB 0).length≤9:=zAg (by omega);have b:=zBI 0;have c:=zAg (n:=g.length) (by omega);have d:=zA9 g;simp only[List.length_cons,List.length_append];omega
 omega
def zC6 (room:Nat)(pre:Bs)(g:List Int):zAA:=⟨room,[(zAm pre,⟨zFe g,(zFe g).length⟩)],none⟩
theorem save_fresh {room:Nat}(l:200≤room)(b:room≤1073741824){pre:Bs}(k:1≤pre.length∧pre.length≤20){g:List Int}(d:zAX g=true) :
  (zAA.fresh room).save1 (zAm pre) (zFe g)=(zC6 room pre g,0):=by
 have c:(zAm pre).length=pre.length+4:=by unfold zAm logX;simp
 have i:=zFP d;have f:(zAA.fresh room).used=0:=rfl;rw[put1_all (ok_fresh room b) (fun j e=>by cases e) (by rw[c];omega) (by rw[c];omega) rfl (by rw[f];show 0+_≤room;omega) (show 0<4096 by decide)];rfl
theorem jopen_fresh {room:Nat}(t:200≤room)(j:room≤1073741824){pre:Bs}(s:1≤pre.length∧pre.length≤20){g:List Int}(k:zAX g=true) :
  zAS (zAA.fresh room) pre g=(zC6 room pre g,0,zAJ.none0 g):=by
 obtain⟨O⟩:=zGQ (zAA.fresh room) pre g;have f:=O.h1;have c:=O.h2;have d:=O.hs;have b:=O.hl;have l:(zAA.fresh room).rid1 (zAF (zAm pre))=(zAA.fresh room,0):=rfl;rw[l]at f;have o:zAA.fresh room=O.D1:=congrArg Prod.fst f;have q:0=O.e1:=congrArg Prod.snd f;rw[←o]at c;have m:(zAA.fresh room).rid1 (zAF (zBL pre))=(zAA.fresh room,0):=rfl;rw[m]at c;have p:zAA.fresh room=O.D2:=congrArg Prod.fst c;have r:0=O.e2:=congrArg Prod.snd c;rw[←p]at d b;have b3:zCD (Sat.get (zBL pre) (zAA.fresh room).files)=(0,none):=zGf zEA;rw[b3]at d;have n:zBh (zAA.fresh room) pre (zAJ.none0 g)=(zAA.fresh room,0,true,zAJ.none0 g):=rfl;rw[n]at b;have v:zAU (zAA.fresh room) pre (zAJ.none0 g)=(zC6 room pre g,0):=by
  unfold zAU;rw[zFY,save_fresh t j s k]
 have i:¬(pre.length<1∨20<pre.length∨zAX g=false):=by
  rintro(h|h|h)
  ·omega
  ·omega
  ·rw[k]at h;cases h
 rw[oj_anew O i q.symm r.symm (by rw[←d]) (by rw[←b]) (M:=zAJ.none0 g) (by rw[←d,←b];rfl),←b,v]
def wh (c:Bs):zAT:=⟨c,c.length⟩
def snpL (s:Option Bs):List (Bs×zAT):=match s with
 | none=>[]
 | some b=>[(zBL [97],wh b)]
def dJ (room:Nat)(c:Bs)(s:Option Bs):zAA:=⟨room,(zAm [97],wh c)::snpL s,none⟩
section
variable {room:Nat} {c b:Bs} {s:Option Bs}
theorem dj_log:Sat.get (zAm [97]) (dJ room c s).files=some (wh c):=by cases s<;>rfl
theorem dj_shl:Sat.get (zAF (zAm [97])) (dJ room c s).files=none:=by cases s<;>rfl
theorem dj_shs:Sat.get (zAF (zBL [97])) (dJ room c s).files=none:=by cases s<;>rfl
theorem zGA:Sat.get (zBL [97]) (dJ room c s).files=s.map wh:=by cases s<;>rfl
theorem dj_num:(dJ room c s).files.length<4096:=by
 cases s
 ·show 1<4096
  decide
 ·show 2<4096
  decide
theorem dj_srt:Srt (dJ room c s).files:=by
 cases s with
 | none=>exact List.pairwise_singleton _ _
 | some b =>
  refine List.pairwise_cons.2 ⟨?_,List.pairwise_singleton _ _⟩;intro p d;rw[show p=(zBL [97],wh b) by simpa[snpL]using d];rfl
theorem dj_used:(dJ room c s).used=c.length+(match s with|none=>0|some b=>b.length):=by
 cases s with
 | none=>rfl
 | some b =>
  show c.length+(b.length+0)=_
  rw[Nat.add_zero]
theorem dj_ok (g:room≤1073741824)(i:(dJ room c s).used≤room):(dJ room c s).OK:=by
 refine⟨dj_srt,g,i,Nat.le_of_lt dj_num,fun p d=>?_,fun p d=>?_,fun k f=>by cases f⟩
 ·cases s with
  | none =>
   rw[show p=(zAm [97],wh c) by simpa[dJ,snpL]using d];rfl
  | some b =>
   rcases(show p=(zAm [97],wh c)∨p=(zBL [97],wh b) by simpa[dJ,snpL]using d)with rfl|rfl<;>rfl
 ·cases s with
  | none =>
   rw[show p=(zAm [97],wh c) by simpa[dJ,snpL]using d];exact Nat.le_refl _
  | some b =>
   rcases(show p=(zAm [97],wh c)∨p=(zBL [97],wh b) by simpa[dJ,snpL]using d)with rfl|rfl<;>exact Nat.le_refl _
theorem lay_dj (g:(dJ room c s).used+b.length≤room):layOn (dJ room c s) (zAm [97]) b=(dJ room (c++b) s,0):=by
 have j:(dJ room c s).may [zAm [97]]=0:=rfl;have f:(dJ room c s).full (zAm [97]) b=false:=by
  unfold zAA.full;rw[dj_log];simp only[Option.isNone_some,Bool.false_and,Bool.or_false,decide_eq_false_iff_not]
  show ¬room<_
  omega
 have i:(dJ room c s).append (zAm [97]) b=(⟨room,(zAm [97],⟨c++b,c.length⟩)::snpL s,none⟩,0):=by
  unfold zAA.append;rw[if_neg (by rw[j];simp),if_neg (by rw[f];simp)];have d:(dJ room c s).cur (zAm [97])=wh c:=by unfold zAA.cur;rw[dj_log];rfl
  rw[d];cases s<;>rfl
 unfold layOn;rw[i,if_neg (by simp)];cases s<;>rfl
theorem log_dj (f:room≤1073741824)(d:(dJ room c s).used+b.length≤room):(dJ room c s).save1 (zAm [97]) b=(dJ room b s,0):=by
 rw[put1_all (dj_ok f (by omega)) (fun j e=>by cases e) (by decide) (by decide) dj_shl d dj_num];cases s<;>rfl
theorem snp_dj (f:room≤1073741824)(d:(dJ room c s).used+b.length+12≤room):(dJ room c s).save (zBL [97]) b=(dJ room c (some (zAK b)),0):=by
 rw[save_room (by decide) (by decide),put1_all (dj_ok f (by omega)) (fun j e=>by cases e) (by decide) (by decide) dj_shs (by rw[zAf];show _≤room;omega) dj_num];cases s<;>rfl
theorem crash_dj (k:Int):(dJ room c s).crash k=dJ room c s:=by
 have d:∀x:Bs,zAA.crashF k (wh x)=wh x:=fun x=>zFn x k;unfold dJ zAA.crash;cases s with
 | none =>
  show(⟨room,[(zAm [97],zAA.crashF k (wh c))],none⟩:zAA)=_
  rw[d];rfl
 | some b =>
  show(⟨room,[(zAm [97],zAA.crashF k (wh c)),(zBL [97],zAA.crashF k (wh b))],none⟩:zAA)=_
  rw[d,d];rfl
end
structure Ch2 (n o:Bs)(x c:Nat)(D D':zAA):Prop where
 srt:Srt D'.files
 oth:∀m,m≠n→m≠o→Sat.get m D'.files=Sat.get m D.files
 room:D'.room=D.room
 used:D'.used≤D.used+x
 cnt:D'.files.length≤D.files.length+c
 fuse:D.fuse=none→D'.fuse=none
section
variable {D:zAA} {n b:Bs}
theorem Ch.two {x:Nat}{D':zAA}(h:Ch n x D D')(o:Bs):Ch2 n o x 1 D D':=⟨h.srt,fun m b _=>h.oth m b,h.room,h.used,h.cnt,h.fuse⟩
theorem Ch.two' {x:Nat}{D':zAA}(h:Ch n x D D')(o:Bs):Ch2 o n x 1 D D':=⟨h.srt,fun m _ b=>h.oth m b,h.room,h.used,h.cnt,h.fuse⟩
theorem Ch2.trans {o:Bs}{x y c d:Nat}{b f:zAA}(h:Ch2 n o x c D b)(k:Ch2 n o y d b f):Ch2 n o (x+y) (c+d) D f :=
 ⟨k.srt,fun m g i=>(k.oth m g i).trans (h.oth m g i),k.room.trans h.room,by have:=h.used;have:=k.used;omega,by have:=h.cnt;have:=k.cnt;omega,fun e=>k.fuse (h.fuse e)⟩
theorem Ch2.more {o:Bs}{x y c d:Nat}{b:zAA}(h:Ch2 n o x c D b)(g:x≤y)(f:c≤d):Ch2 n o y d D b :=
 ⟨h.srt,h.oth,h.room,by have:=h.used;omega,by have:=h.cnt;omega,h.fuse⟩
theorem jc_save0 (h:Srt D.files)(b:okN (zAF n)=true):∃D' e,D.save0 n=(D',e)∧Ch (zAF n) 0 D D'∧((D'=D∧e=9∧D.fuse=some 0)∨(e=0∧Sat.get (zAF n) D'.files=none)):=jc_rid1 h b
theorem sh_ne_n (n:Bs):zAF n≠n:=fun e=>by
 have:=congrArg List.length e;unfold zAF at this;simp at this
theorem jc_save1 (h:Srt D.files)(hn:okN n=true)(q:okN (zAF n)=true):∃D' e,D.save1 n b=(D',e)∧Ch2 n (zAF n) b.length 4 D D' ∧
  ((e≠0∧(D.room<D.used+b.length∨4096≤D.files.length+1∨e=9∧D.fuse≠none)∧Sat.get n D'.files=Sat.get n D.files)∨(e=0∧Sat.get n D'.files=some (wh b)∧Sat.get (zAF n) D'.files=none)):=by
 have d:=sh_ne_n n;unfold zAA.save1;obtain⟨a,T,I,g,L⟩:=jc_save0 h q;rw[I];dsimp only;rcases L with⟨rfl,rfl,i⟩|⟨rfl,C⟩
 ·rw[if_pos (by decide)];exact⟨_,_,rfl,((Ch.refl h 0).two' n).more (Nat.zero_le _) (by omega),.inl ⟨by decide,.inr (.inr ⟨rfl,by rw[i];simp⟩),rfl⟩⟩
 ·rw[if_neg (by decide)];obtain⟨S,U,q1,k,M⟩:=jc_append (b:=b) g.srt q;rw[q1];dsimp only;have z:=(g.two' n).trans (k.two' n);rcases M with⟨rfl,m,c⟩|⟨rfl,s⟩
  ·rw[if_pos m];refine⟨_,_,rfl,z.more (by omega) (by omega),.inl ⟨m,?_,g.oth n d.symm⟩⟩;have:=g.used;have:=g.cnt;rcases c with⟨c,i⟩|c|c
   ·exact .inr (.inr ⟨c,fun e=>by rw[g.fuse e]at i;cases i⟩)
   ·rw[g.room]at c;exact .inl (by omega)
   ·exact .inr (.inl (by omega))
  ·rw[if_neg (by decide)];have l:a.cur (zAF n)=⟨[],0⟩:=by unfold zAA.cur;rw[C];rfl
   rw[l]at s;obtain⟨v,V,q2,p,N⟩:=jc_sync k.srt q;rw[q2];dsimp only;have t2:=z.trans (p.two' n);have j:Sat.get n v.files=Sat.get n D.files:=(p.oth n d.symm).trans ((k.oth n d.symm).trans (g.oth n d.symm));rcases N with⟨rfl,o,c⟩|⟨rfl,f,y,g2⟩
   ·rw[if_pos o];refine⟨_,_,rfl,t2.more (by omega) (by omega),.inl ⟨o,?_,j⟩⟩;rcases c with⟨c,i⟩|c
    ·exact .inr (.inr ⟨c,fun e=>by rw[k.fuse (g.fuse e)]at i;cases i⟩)
    ·rw[s]at c;cases c
   ·rw[if_neg (by decide)];rw[s]at y;have B:f=⟨b,0⟩:=(Option.some.inj y).symm;subst B;obtain⟨A,W,J,P,H,t,R,G,r,O⟩:=jc_rename (n:=n) p.srt q hn d g2;rw[J];have Q:Ch2 n (zAF n) 0 1 v A:=⟨P,H,t,R,G,r⟩;refine⟨_,_,rfl,(t2.trans Q).more (by omega) (by omega),?_⟩;rcases O with⟨rfl,rfl,i⟩|⟨rfl,E,F⟩
    ·exact .inl ⟨by decide,.inr (.inr ⟨rfl,fun e=>by rw[p.fuse (k.fuse (g.fuse e))]at i;cases i⟩),j⟩
    ·exact .inr ⟨rfl,E,F⟩
theorem jc_lay (h:Srt D.files)(hn:okN n=true){f:zAT}(z:Sat.get n D.files=some f):∃D' e,layOn D n b=(D',e)∧Ch n b.length D D' ∧
  ((e≠0∧(D.room<D.used+b.length∨4096≤D.files.length∨e=9∧D.fuse≠none)∧(Sat.get n D'.files=some f∨Sat.get n D'.files=some ⟨f.data++b,f.lasts⟩))∨(e=0∧Sat.get n D'.files=some (wh (f.data++b)))):=by
 have k:D.cur n=f:=by unfold zAA.cur;rw[z];rfl
 unfold layOn;obtain⟨q,H,q1,i,A⟩:=jc_append (b:=b) h hn;rw[q1];dsimp only;rw[k]at A;rcases A with⟨rfl,l,d⟩|⟨rfl,r⟩
 ·rw[if_pos l];refine⟨_,_,rfl,i,.inl ⟨l,?_,.inl z⟩⟩;rcases d with⟨d,p⟩|d|d
  ·exact .inr (.inr ⟨d,by rw[p];simp⟩)
  ·exact .inl d
  ·exact .inr (.inl d)
 ·rw[if_neg (by decide)];obtain⟨o,I,q2,j,B⟩:=jc_sync i.srt hn;rw[q2];have s:o.files.length≤D.files.length+1:=by
   -- the file is there already: no name is new
   have F:=i.cnt;have J:=j.cnt;rcases B with⟨rfl,-⟩|⟨t,E,g,-⟩
   ·exact F
   ·have L:o.files.length=q.files.length:=by
     have c:q.sync [n]=(o,0):=by rw[q2,t]
     unfold zAA.sync at c;rw[jc_one]at c;unfold zAA.each1 at c
     split at c
     ·next e=>exact absurd (congrArg Prod.snd c) e
     ·rw[g]at c;have y:=congrArg (fun x:zAA×Nat=>x.1.files) c;dsimp only at y;rw[←y]
      show(put n _ q.files).length=_
      rw[zFu,←len_del i.srt g]
    omega
  have G:Ch n b.length D o:=⟨j.srt,fun m a=>(j.oth m a).trans (i.oth m a),j.room.trans i.room,by have:=i.used;have:=j.used;omega,s,fun e=>j.fuse (i.fuse e)⟩;refine⟨_,_,rfl,G,?_⟩;rcases B with⟨rfl,v,d⟩|⟨rfl,E,g,g2⟩
  ·refine .inl ⟨v,?_,.inr r⟩;rcases d with⟨d,p⟩|d
   ·exact .inr (.inr ⟨d,fun e=>by rw[i.fuse e]at p;cases p⟩)
   ·rw[r]at d;cases d
  ·rw[r]at g;have C:=Option.some.inj g;subst C;exact .inr ⟨rfl,g2⟩
theorem jc_torn (h:Srt D.files)(hn:okN n=true){f:zAT}(l:Sat.get n D.files=some f){k:Nat}(r:k≤f.data.length):∃D' e,tornOff D n k f.data.length=(D',e)∧Ch2 n n 0 2 D D' ∧
  (e≠0→D.fuse≠none)∧(Sat.get n D'.files=some f∨Sat.get n D'.files=some (wh (f.data.take k))∨Sat.get n D'.files=some ⟨f.data.take k,min f.lasts k⟩):=by
 unfold tornOff
 by_cases d:k<f.data.length
 ·rw[if_pos d];obtain⟨t,y,q1,g,s⟩:=jc_trunc h hn l r;rw[q1];dsimp only;rcases s with⟨rfl,rfl,c⟩|⟨rfl,i⟩
  ·rw[if_pos (by decide)];exact⟨_,_,rfl,(g.two n).more (Nat.le_refl _) (by omega),fun _ e=>(by rw[e]at c;cases c),.inl l⟩
  ·rw[if_neg (by decide)];obtain⟨v,z,q2,p,o⟩:=jc_sync g.srt hn;rw[q2];refine⟨_,_,rfl,(g.two n).trans (p.two n),?_,?_⟩
   ·intro j e;rcases o with⟨-,-,⟨-,c⟩|m⟩|⟨rfl,-⟩
    ·rw[g.fuse e]at c;cases c
    ·rw[i]at m;cases m
    ·exact j rfl
   ·rcases o with⟨rfl,-⟩|⟨-,a,b,g2⟩
    ·exact .inr (.inr i)
    ·rw[i]at b;have q:=Option.some.inj b;subst q;exact .inr (.inl g2)
 ·rw[if_neg d];exact⟨_,_,rfl,((Ch.refl h 0).two n).more (Nat.le_refl _) (by omega),fun j=>absurd rfl j,.inl l⟩
end
def zDE.bytes (s:zDE):Bs:=zEk s.number s.term s.group s.data
theorem snapIs_bytes {s:zDE}(h:s.OK)(d:1≤s.number)(g:s.data.length≤524288):zDH s.bytes=some s:=by
 have c:=zAo.1 h.term;have b:=zCi h.group;have hn:=h.number;have f:s.bytes=zEB s.number++(zDj s.term++(zDs s.group++(zFB s.data++[]))):=by simp[zDE.bytes,zEk]
 rw[f];unfold zDH;dsimp only;rw[Rd.num_of (by omega)];dsimp only;rw[rd_int c.1 (by omega)];dsimp only;rw[grp_of b.1 b.2 h.group];dsimp only;rw[Rd.bytes_of (by omega)];dsimp only;rw[if_pos ⟨zGk false,d,hn,by omega,g⟩,Int.toNat_of_nonneg c.1]
theorem snapOf_bytes {s:zDE}(h:s.OK)(c:1≤s.number)(d:s.data.length≤524288)(f:s.bytes.length≤1048576):zCD (some (wh (zAK s.bytes)))=(0,some s):=by
 obtain⟨a,b⟩:=load_frame s.bytes f (zAK s.bytes).length;rw[show(wh (zAK s.bytes))=⟨zAK s.bytes,(zAK s.bytes).length⟩from rfl,snapOf_0 a,b,snapIs_bytes h c d]
def zCU (s:Option zDE):Option Bs:=s.map fun s=>zAK s.bytes
def SnapOK (s:Option zDE):Prop:=∀x,s=some x→x.OK∧1≤x.number∧x.data.length≤524288∧x.bytes.length≤1048576
theorem open_dj {room:Nat}{ls:List Bs}{s:Option zDE}{g:List Int}{i M:zAJ}(z:zAX g=true)(k:∀l∈ls,l.length≤1048576)(A:SnapOK s)(y:zCC (zAJ.none0 g) ls=some i)(a:zAi s i false=some (false,M)) :
  zAS (dJ room (zAL ls) (zCU s)) [97] g=(dJ room (zAL ls) (zCU s),0,M):=by
 obtain⟨O⟩:=zGQ (dJ room (zAL ls) (zCU s)) [97] g;have j:=O.h1;have d:=O.h2;have f:=O.hs;have b:=O.hl;have n:(dJ room (zAL ls) (zCU s)).rid1 (zAF (zAm [97]))=(dJ room (zAL ls) (zCU s),0):=by unfold zAA.rid1;rw[dj_shl];rfl
 rw[n]at j;have q:dJ room (zAL ls) (zCU s)=O.D1:=congrArg Prod.fst j;have t:0=O.e1:=congrArg Prod.snd j;rw[←q]at d;have o:(dJ room (zAL ls) (zCU s)).rid1 (zAF (zBL [97]))=(dJ room (zAL ls) (zCU s),0):=by unfold zAA.rid1;rw[dj_shs];rfl
 rw[o]at d;have r:dJ room (zAL ls) (zCU s)=O.D2:=congrArg Prod.fst d;have v:0=O.e2:=congrArg Prod.snd d;rw[←r]at f b;have b3:zCD (Sat.get (zBL [97]) (dJ room (zAL ls) (zCU s)).files)=(0,s):=by
  rw[zGA];cases s with
  | none=>exact zGf zEA
  | some x =>
   obtain⟨q1,q2,C,D⟩:=A x rfl;exact snapOf_bytes q1 q2 C D
 rw[b3]at f;have c:=scan_recs ls [] k (.inl rfl);rw[List.append_nil]at c;have p:zBh (dJ room (zAL ls) (zCU s)) [97] (zAJ.none0 g)=(dJ room (zAL ls) (zCU s),0,false,i):=by
  unfold zBh;rw[dj_log];dsimp only;rw[show(wh (zAL ls)).data=zAL ls from rfl,c];dsimp only;rw[y];dsimp only;have B:tornOff (dJ room (zAL ls) (zCU s)) (zAm [97]) (zAL ls).length (zAL ls).length=(dJ room (zAL ls) (zCU s),0):=by unfold tornOff;rw[if_neg (by omega)]
  rw[B]
 rw[p]at b;have m:¬((([97]:Bs).length)<1∨20<([97]:Bs).length∨zAX g=false):=by
  rintro(h|h|h)
  ·exact absurd h (by decide)
  ·exact absurd h (by decide)
  ·rw[z]at h;cases h
 rw[oj_keep O m t.symm v.symm (by rw[←f]) (by rw[←b]) (M:=M) (by rw[←f,←b];exact a),←b]
def zAJ.dat (M:zAJ)(d:Bs):zAJ:={M with data:=d}
theorem rec1_dat (f:Bool)(M:zAJ)(d:Bs)(p:Bs):zBc f (M.dat d) p=(zBc f M p).map (·.dat d):=by
 cases p with
 | nil=>rfl
 | cons k r =>
  unfold zBc;dsimp only;have g:∀t v,(M.dat d).mayVote t v=M.mayVote t v:=fun _ _=>rfl;have c:(M.dat d).last=M.last:=rfl;have hn:(M.dat d).number=M.number:=rfl;have b:(M.dat d).entries=M.entries:=rfl;rw[g,c,hn,b]
  repeat' split
  all_goals first
   | rfl
   | (exfalso;simp_all;done)
theorem recGo_dat:∀(l:List Bs) (M:zAJ) (d:Bs),zBS (M.dat d) l=(zBS M l).map (·.dat d)
 | [],_,_=>rfl
 | p::r,M,d=>by
  show(zBc false (M.dat d) p).bind (fun M'=>zBS M' r)=((zBc false M p).bind fun M'=>zBS M' r).map (·.dat d)
  rw[rec1_dat];cases zBc false M p with
  | none=>rfl
  | some M1=>exact recGo_dat r M1 d
structure Kept5 (room:Nat)(g:List Int)(M:zAJ)(D:zAA)(u:Nat):Prop where
 ex:∃ls s M0,D=dJ room (zAL ls) (zCU s)∧(∀l∈ls,l.length≤1048576)∧SnapOK s∧zCC (zAJ.none0 g) ls=some M0∧zAi s M0 false=some (false,M)
 used:D.used≤u
 grp:zAX g=true
 alive:M.dead=false
theorem Kept5.open {room:Nat}{g:List Int}{M:zAJ}{D:zAA}{u:Nat}(h:Kept5 room g M D u):zAS D [97] g=(D,0,M):=by
 obtain⟨⟨ls,s,j,rfl,b,c,d,f⟩,-,i,-⟩:=h;exact open_dj i b c d f
theorem Kept5.crash {room:Nat}{g:List Int}{M:zAJ}{D:zAA}{u:Nat}(h:Kept5 room g M D u)(k:Int):D.crash k=D:=by
 obtain⟨⟨ls,s,b,rfl,-⟩,-⟩:=h;exact crash_dj k
theorem joins_is {s:Option zDE}{b M:zAJ}(h:zAi s b false=some (false,M)):M=b.dat M.data∧(∀M',M'.number=b.number→zAi s M' false=some (false,match s with|none=>M'|some x=>M'.dat x.data))∧(∀x,s=some x→M.data=x.data)∧(s=none→M=b):=by
 unfold zAi at h;cases s with
 | none =>
  dsimp only at h
  split at h
  ·cases h
  ·rename_i hn
   have e:b=M:=congrArg Prod.snd (Option.some.inj h);subst e;refine⟨rfl,fun M' c=>?_,fun x d=>(by cases d),fun _=>rfl⟩;unfold zAi;dsimp only;rw[c,if_neg hn]
 | some x =>
  dsimp only at h
  split at h
  ·have e:true=false:=congrArg Prod.fst (Option.some.inj h);cases e
  ·rename_i h1
   split at h
   ·cases h
   ·rename_i h2
    have e:({b with data:=x.data}:zAJ)=M:=congrArg Prod.snd (Option.some.inj h);subst e;refine⟨rfl,fun M' c=>?_,fun y f=>(by cases f;rfl),fun d=>(by cases d)⟩;unfold zAi;dsimp only;rw[if_neg (by rw[c];exact h1),if_neg (by rw[c];exact h2)];rfl
theorem keep_lay {room:Nat}{g:List Int}{M M':zAJ}{D:zAA}{u:Nat}{rs:List Bs}(h:Kept5 room g M D u)(q:∀l∈rs,l.length≤1048576)(d:zBS M rs=some M')(v:M'.number=M.number)(_hdat:M'.data=M.data)(p:M'.dead=false)(J:u+(zAL rs).length≤room) :
  ∃D',zBy [97] D M rs M'=⟨D',M',0⟩∧Kept5 room g M' D' (u+(zAL rs).length):=by
 obtain⟨⟨ls,s,k,rfl,z,A,B,C⟩,i,F,I⟩:=h;obtain⟨t,E,n,o⟩:=joins_is C;have j:=lay_dj (room:=room) (c:=zAL ls) (b:=zAL rs) (s:=zCU s) (by omega);refine⟨dJ room (zAL ls++zAL rs) (zCU s),?_,⟨?_,?_,F,p⟩⟩
 ·unfold zBy;rw[j];exact if_neg (by simp)
 ·have f:(zBS k rs).map (·.dat M.data)=some M':=by rw[←recGo_dat,←t,d]
  cases m:zBS k rs with
  | none=>rw[m]at f;cases f
  | some M1 =>
   rw[m]at f;have r:M1.dat M.data=M':=Option.some.inj f;have H:M1.number=k.number:=by
    have a:M'.number=M1.number:=by rw[←r];rfl
    have b:M.number=k.number:=by rw[t];rfl
    omega
   refine⟨ls++rs,s,M1,by rw[zCj],fun l G=>?_,A,?_,?_⟩
   ·exact(List.mem_append.1 G).elim (z l) (q l)
   ·rw[recAll_app B,m]
   ·rw[E M1 H];cases s with
    | none =>
     have y:=o rfl;rw[y,m]at d;rw[Option.some.inj d]
    | some x =>
     show some (false,M1.dat x.data)=_
     rw[←n x rfl,r]
 ·rw[dj_used]at i ⊢;rw[List.length_append];cases s with
  | none=>simp only[zCU,Option.map_none]at i ⊢;omega
  | some x=>simp only[zCU,Option.map_some]at i ⊢;omega
theorem keep_start {room:Nat}{g:List Int}(c:zAX g=true):Kept5 room g (zAJ.none0 g) (zC6 room [97] g) 150:=by
 refine⟨⟨(zAJ.none0 g).rows,none,zAJ.none0 g,by rw[zFY];rfl,fun l f=>?_,fun x i=>(by cases i),?_,rfl⟩,?_,c,rfl⟩
 ·have b:=zFP c;unfold zFe at b;rw[List.length_append,zAf,zAf]at b;rcases(show l=zEp 0 0 g∨l=zCW 0 (-1) by simpa[zAJ.rows,zAJ.none0,zA0]using f)with rfl|rfl<;>omega
 ·have:=zGZ (M:=zAJ.none0 g) (N:=zAJ.none0 g) (Nat.zero_le _) rfl c rfl ⟨Int.le_refl _,show(-1:Int)<7 by decide⟩ (fun e d=>by cases d) rfl rfl rfl;exact this
 ·have b:=zFP c
  show(dJ room (zFe g) none).used≤150
  rw[dj_used];exact b
section
variable {room:Nat} {g:List Int} {M:zAJ} {D:zAA} {u:Nat}
theorem app_go (h:Kept5 room g M D u){es:List Ent}(p:es≠[])(b:∀e∈es,zA1 e=true)(i:M.last+es.length≤1099511627776)(k:u+65812*es.length≤room∨u+(zAL (zA0 M.last es)).length≤room) :
  ∃D',zAr [97] D M es=⟨D',{M with entries:=M.entries++es},0⟩∧Kept5 room g {M with entries:=M.entries++es} D' (u+(zAL (zA0 M.last es)).length):=by
 have d:=zCr M.last es b (by omega);have j:=zDn (c:=65800) (zA0 M.last es) d;rw[zCe]at j;obtain⟨D',m,n⟩:=keep_lay (M':={M with entries:=M.entries++es}) (rs:=zA0 M.last es) h (fun l q=>Nat.le_trans (d l q) (by decide)) (zEF es M b i) rfl rfl h.alive (by rcases k with k|k<;>omega);refine⟨D',?_,n⟩;unfold zAr;rw[if_neg (show ¬M.dead=true by rw[h.alive];simp),if_neg (fun o=>o.elim (fun f=>by omega) fun f=>by rw[List.all_eq_true.2 b]at f;cases f),if_neg p];exact m
end
section
variable {room:Nat} {g:List Int} {M:zAJ} {D:zAA} {u:Nat}
theorem goes_go (h:Kept5 room g M D u){s:zDE}(y:s.OK)(q:1≤s.number)(t:s.data.length≤524288)(i:s.bytes.length≤1048576)(d:(M.rebase s).OK)(p:room≤1073741824)(k:∀l∈(M.rebase s).rows,l.length≤1048576)
  (C:u+s.bytes.length+12+(zAL (M.rebase s).rows).length≤room) :
  ∃D',zA5 [97] D M s=⟨D',M.rebase s,0⟩∧Kept5 room g (M.rebase s) D' ((zAL (M.rebase s).rows).length+s.bytes.length+12):=by
 obtain⟨⟨ls,a,A,rfl,-⟩,n,v,o⟩:=h;have m:=snp_dj (room:=room) (c:=zAL ls) (b:=s.bytes) (s:=zCU a) p (by omega);have B:(zAL ls).length≤u:=by
  rw[dj_used]at n;omega
 have j:=log_dj (room:=room) (c:=zAL ls) (b:=zAL (M.rebase s).rows) (s:=some (zAK s.bytes)) p (by
  rw[dj_used];dsimp only;rw[zAf];omega)
 have f:(M.rebase s).dead=false:=o;refine⟨dJ room (zAL (M.rebase s).rows) (some (zAK s.bytes)),?_,⟨⟨(M.rebase s).rows,some s,{M.rebase s with data:=[],dead:=false},rfl,k,fun x z=>?_,?_,?_⟩,?_,v,f⟩⟩
 ·unfold zA5;rw[show zEk s.number s.term s.group s.data=s.bytes from rfl,m,if_neg (by simp)];dsimp only;unfold zAU;rw[j,if_neg (by simp)]
 ·cases z;exact⟨y,q,t,i⟩
 ·exact zGZ (M:=M.rebase s) (N:=zAJ.none0 g) d.last d.term d.group d.now d.vote d.ents rfl rfl rfl
 ·have e:(M.rebase s)={({M.rebase s with data:=[],dead:=false}:zAJ)with data:=s.data}:=by
   have r:M.dead=false:=o;unfold zAJ.rebase;rw[r]
  unfold zAi;dsimp only;rw[if_neg (show ¬(M.rebase s).number<s.number from Nat.lt_irrefl _),if_neg (show ¬s.number<(M.rebase s).number from Nat.lt_irrefl _)];rw[←e]
 ·rw[dj_used];dsimp only;rw[zAf];omega
theorem compact_go (h:Kept5 room g M D u){i:Nat}{b:Bs}(c:M.number<i)(d:i≤M.last)(f:b.length≤524288) :
  zAe [97] D M (i:Int) b=zA5 [97] D M ⟨i,(M.termAt (i:Int)).getD 0,(M.grpIn (i-M.number)).1,b⟩:=by
 unfold zAe;rw[if_neg (show ¬M.dead=true by rw[h.alive];simp),if_neg (by omega),Int.toNat_natCast]
end
def Last (o:Option zAT):Prop:=∀f,o=some f→f.lasts=f.data.length
def LogIs (g:List Int)(o:Option zAT)(b:zAJ):Prop :=
 ∃f ls t,o=some f∧f.lasts=f.data.length∧f.data=zAL ls++t∧(∀l∈ls,l.length≤1048576)∧(t=[]∨decE t≠0)∧zCC (zAJ.none0 g) ls=some b
def zFl (g:List Int)(r:Nat)(d c:Option zAT)(M:zAJ):Prop :=
 ∃so M0 b,zCD c=(0,so)∧Last c∧LogIs g d M0∧zAi so M0 false=some (b,M)∧(b=true→M.OK∧(zAL M.rows).length≤r)
theorem rec1_keeps {f:Bool}{M M':zAJ}{p:Bs}(h:zBc f M p=some M'):M'.data=M.data∧M'.dead=M.dead:=by
 unfold zBc at h;cases p with
 | nil=>cases h
 | cons k r =>
  dsimp only at h
  repeat' split at h
  all_goals first
   | (cases h;done)
   | (cases h;exact⟨rfl,rfl⟩)
theorem recGo_keeps:∀(l:List Bs) {M M':zAJ},zBS M l=some M'→M'.data=M.data∧M'.dead=M.dead
 | [],_,_,h=>by cases h;exact⟨rfl,rfl⟩
 | p::r,M,M',h=>by
  have h:(zBc false M p).bind (fun M'=>zBS M' r)=some M':=h;cases c:zBc false M p with
  | none=>rw[c]at h;cases h
  | some M1 =>
   rw[c]at h;have a:=rec1_keeps c;have b:=recGo_keeps r h;exact⟨b.1.trans a.1,b.2.trans a.2⟩
theorem recAll_keeps {l:List Bs}{M M':zAJ}(h:zCC M l=some M'):M'.data=M.data∧M'.dead=M.dead:=by
 cases l with
 | nil=>cases h
 | cons p r =>
  have h:(zBc true M p).bind (fun M'=>zBS M' r)=some M':=h;cases c:zBc true M p with
  | none=>rw[c]at h;cases h
  | some M1 =>
   rw[c]at h;have a:=rec1_keeps c;have b:=recGo_keeps r h;exact⟨b.1.trans a.1,b.2.trans a.2⟩
theorem joins_again {c:Option zDE}{b M:zAJ}(h:zAi c b false=some (true,M))(d:b.dead=false):zAi c {M with data:=[],dead:=false} false=some (false,M):=by
 unfold zAi at h ⊢;cases c with
 | none =>
  dsimp only at h
  split at h
  ·cases h
  ·cases h
 | some s =>
  dsimp only at h ⊢
  split at h
  ·have e:b.rebase s=M:=congrArg Prod.snd (Option.some.inj h);subst e;rw[if_neg (show ¬(b.rebase s).number<s.number from Nat.lt_irrefl _),if_neg (show ¬s.number<(b.rebase s).number from Nat.lt_irrefl _)];unfold zAJ.rebase;rw[d]
  ·split at h
   ·cases h
   ·cases h
def crashO (k:Int)(o:Option zAT):Option zAT:=o.map (zAA.crashF k)
theorem zF8 (D:zAA)(k:Int)(n:Bs):Sat.get n (D.crash k).files=crashO k (Sat.get n D.files):=zGP _ _ _
theorem crash_last {f:zAT}(h:f.lasts=f.data.length)(k:Int):zAA.crashF k f=f:=by
 obtain⟨d,l⟩:=f;have h:l=d.length:=h;subst h;exact zFn d k
theorem Last.crash {o:Option zAT}(h:Last o)(k:Int):crashO k o=o:=by
 cases o with
 | none=>rfl
 | some f=>exact congrArg some (crash_last (h f rfl) k)
theorem zFl.crash {g:List Int}{r:Nat}{i j:Option zAT}{M:zAJ}(h:zFl g r i j M)(k:Int):zFl g r (crashO k i) (crashO k j) M:=by
 obtain⟨s,l,b,m,c,n,o,p⟩:=h;rw[c.crash k];obtain⟨f,ls,t,rfl,d,q⟩:=n;refine⟨s,l,b,m,c,⟨f,ls,t,?_,d,q⟩,o,p⟩;exact congrArg some (crash_last d k)
section
variable {D:zAA}
theorem n_lo:okN (zAm [97])=true:=by decide
theorem n_sn:okN (zBL [97])=true:=by decide
theorem n_shl:okN (zAF (zAm [97]))=true:=by decide
theorem n_shs:okN (zAF (zBL [97]))=true:=by decide
theorem lo_sn:zAm [97]≠zBL [97]:=by decide
theorem lo_shl:zAm [97]≠zAF (zAm [97]):=by decide
theorem lo_shs:zAm [97]≠zAF (zBL [97]):=by decide
theorem sn_shl:zBL [97]≠zAF (zAm [97]):=by decide
theorem sn_shs:zBL [97]≠zAF (zBL [97]):=by decide
theorem jc_rid (h:Srt D.files):∃D' e,D.rid [zAF (zAm [97]),zAF (zBL [97])]=(D',e)∧Ch2 (zAF (zAm [97])) (zAF (zBL [97])) 0 2 D D'∧(e≠0→D.fuse≠none):=by
 obtain⟨i,k,q1,c,f⟩:=jc_rid1 h n_shl;unfold zAA.rid;rw[q1];dsimp only;rcases f with⟨rfl,rfl,b⟩|⟨rfl,m⟩
 ·rw[if_neg (by decide)];exact⟨_,_,rfl,(c.two _).more (Nat.le_refl _) (by omega),fun _ e=>by rw[e]at b;cases b⟩
 ·rw[if_pos rfl];obtain⟨j,l,q2,d,g⟩:=jc_rid1 c.srt n_shs;unfold zAA.rid;rw[q2];dsimp only;have t2:=(c.two (zAF (zBL [97]))).trans (d.two' (zAF (zAm [97])));rcases g with⟨rfl,rfl,b⟩|⟨rfl,g2⟩
  ·rw[if_neg (by decide)];exact⟨_,_,rfl,t2,fun _ e=>by rw[c.fuse e]at b;cases b⟩
  ·rw[if_pos rfl];unfold zAA.rid;exact⟨_,_,rfl,t2,fun e=>absurd rfl e⟩
theorem open_says {g:List Int}{r:Nat}{M:zAJ}(hg:zAX g=true)(hs:Srt D.files)(h:zFl g r (Sat.get (zAm [97]) D.files) (Sat.get (zBL [97]) D.files) M) :
  ∃D' e M',zAS D [97] g=(D',e,M')∧Srt D'.files∧zFl g r (Sat.get (zAm [97]) D'.files) (Sat.get (zBL [97]) D'.files) M∧D'.room=D.room∧D'.used≤D.used+r∧D'.files.length≤D.files.length+8 ∧
   (D.fuse=none→D.used+r≤D.room→D.files.length≤4000→e=0∧M'=M):=by
 have W:¬((([97]:Bs).length)<1∨20<([97]:Bs).length∨zAX g=false):=by
  rintro(h|h|h)
  ·exact absurd h (by decide)
  ·exact absurd h (by decide)
  ·rw[hg]at h;cases h
 obtain⟨T,E,b,I,R,⟨f,ls,t,gl,O,j,m,K,c⟩,P,S⟩:=h;have z:=recAll_keeps c;unfold zAS;rw[if_neg W];obtain⟨C,e0,q0,d,f0⟩:=jc_rid hs;rw[q0];dsimp only;have p:Sat.get (zAm [97]) C.files=some f:=(d.oth _ lo_shl lo_shs).trans gl;have q:Sat.get (zBL [97]) C.files=Sat.get (zBL [97]) D.files:=d.oth _ sn_shl sn_shs;have B:zFl g r (Sat.get (zAm [97]) C.files) (Sat.get (zBL [97]) C.files) M:=by
  rw[p,q];exact⟨T,E,b,I,R,⟨f,ls,t,rfl,O,j,m,K,c⟩,P,S⟩
 have ae:=d.used;have ab:=d.cnt
 by_cases v:e0=0
 ·subst v;rw[if_neg (by decide),q,I];dsimp only;rw[if_neg (by decide)];have Z:zDx f.data=(ls,(zAL ls).length):=by rw[j];exact scan_recs ls t m K
  have V:(zAL ls).length≤f.data.length:=by rw[j,List.length_append];omega
  have a:f.data.take (zAL ls).length=zAL ls:=by rw[j];exact List.take_left
  obtain⟨o,G,q1,i,f1,A⟩:=jc_torn d.srt n_lo p V;have X:zBh C [97] (zAJ.none0 g)=(o,G,false,E):=by
   unfold zBh;rw[p];dsimp only;rw[Z];dsimp only;rw[c];dsimp only;rw[q1]
  rw[X];dsimp only;have k:LogIs g (Sat.get (zAm [97]) o.files) E:=by
   rcases A with A|A|A
   ·exact⟨f,ls,t,A,O,j,m,K,c⟩
   ·refine⟨_,ls,[],A,rfl,?_,m,.inl rfl,c⟩;rw[List.append_nil];exact a
   ·refine⟨_,ls,[],A,?_,?_,m,.inl rfl,c⟩
    ·show min f.lasts (zAL ls).length=(f.data.take (zAL ls).length).length
     rw[a];omega
    ·rw[List.append_nil];exact a
  have H:Sat.get (zBL [97]) o.files=Sat.get (zBL [97]) D.files:=(i.oth _ lo_sn.symm lo_sn.symm).trans q;have n:zFl g r (Sat.get (zAm [97]) o.files) (Sat.get (zBL [97]) o.files) M:=by
   rw[H];exact⟨T,E,b,I,R,k,P,S⟩
  have af:=i.used;have ac:=i.cnt
  by_cases y:G=0
  ·subst y;rw[if_neg (by decide),P];dsimp only;cases b with
   | false =>
    rw[if_neg (by decide)];exact⟨o,0,M,rfl,i.srt,n,i.room.trans d.room,by omega,by omega,fun _ _ _=>⟨rfl,rfl⟩⟩
   | true =>
    rw[if_pos rfl];obtain⟨s,hr⟩:=S rfl;unfold zAU;obtain⟨D2,e2,q2,F,r2⟩:=jc_save1 (b:=zAL M.rows) i.srt n_lo n_shl;rw[q2];have ag:=F.used;have ad:=F.cnt;have U:Sat.get (zBL [97]) D2.files=Sat.get (zBL [97]) D.files:=(F.oth _ lo_sn.symm sn_shl).trans H;refine⟨D2,e2,M,rfl,F.srt,?_,(F.room.trans i.room).trans d.room,by omega,by omega,fun L Y aa=>⟨?_,rfl⟩⟩
    ·rw[U];rcases r2 with⟨-,-,g2⟩|⟨-,g2,-⟩
     ·rw[g2];exact⟨T,E,true,I,R,k,P,S⟩
     ·rw[g2];refine⟨T,{M with data:=[],dead:=false},false,I,R,⟨wh (zAL M.rows),M.rows,[],rfl,rfl,(List.append_nil _).symm,fun l hl=>Nat.le_trans ((zFC s).1 l hl) (by decide),.inl rfl,?_⟩,joins_again P z.2,fun e=>by cases e⟩;exact zGZ (M:=M) (N:=zAJ.none0 g) s.last s.term s.group s.now s.vote s.ents rfl rfl rfl
    ·rcases r2 with⟨J,Q,-⟩|⟨J,-⟩
     ·exfalso;have G:o.fuse=none:=i.fuse (d.fuse L);have e2:o.room=D.room:=i.room.trans d.room;rcases Q with Q|Q|⟨-,Q⟩
      ·omega
      ·omega
      ·exact Q G
     ·exact J
  ·rw[if_pos y];exact⟨o,G,_,rfl,i.srt,n,i.room.trans d.room,by omega,by omega,fun L _ _=>absurd (d.fuse L) (f1 y)⟩
 ·rw[if_pos v];exact⟨C,e0,_,rfl,d.srt,B,d.room,by omega,by omega,fun L _ _=>absurd L (f0 v)⟩
end
theorem zEx {n:Nat}{e:Ent}(hn:n≤4611686018427387904)(h:zA1 e=true):(zEw n e).length≤46+e.data.length+9*e.nodes.length:=by
 have j:=zBE h;unfold zEw zFB zDs;simp only[List.length_cons,List.length_append];have b:=zAg hn;have c:=zBI e.term;have d:=zBI e.kind;have f:=zAg (n:=e.data.length) (by omega);have g:=zAg (n:=e.nodes.length) (by omega);have i:=zA9 e.nodes;omega
theorem ents_len2 {c:Nat}:∀(n:Nat) (es:List Ent),(∀e∈es,zA1 e=true∧e.data.length+9*e.nodes.length≤c)→n+es.length≤4611686018427387904→∀l∈zA0 n es,l.length≤46+c
 | _,[],_,_,l,b=>by cases b
 | n,e::r,h,hn,l,b=>by
  simp only[List.length_cons]at hn;cases b with
  | head =>
   have:=zEx (n:=n+1) (e:=e) (by omega) (h e (by simp)).1;have:=(h e (by simp)).2;omega
  | tail _ b=>exact ents_len2 (n+1) r (fun x d=>h x (by simp[d])) (by omega) l b
def ke1:Ent:=⟨1,0,[],[]⟩
def ke2:Ent:=⟨2,1,[120],[]⟩
def kM1:zAJ:=⟨0,0,[0,1,2],0,-1,[],[ke1,ke2],false⟩
def kS:zDE:=⟨1,1,[0,1,2],[115]⟩
def kM2:zAJ:=⟨1,1,[0,1,2],0,-1,[115],[ke2],false⟩
theorem kM2_is:kM1.rebase kS=kM2:=by rfl
theorem kS_is:(⟨1,(kM1.termAt ((1:Nat):Int)).getD 0,(kM1.grpIn (1-kM1.number)).1,[115]⟩:zDE)=kS:=by rfl
theorem known5:∃q r,zAr [97] (zC6 65536 [97] [0,1,2]) (zAJ.none0 [0,1,2]) [ke1,ke2]=⟨q,kM1,0⟩∧zAe [97] q kM1 ((1:Nat):Int) [115]=⟨r,kM2,0⟩:=by
 have h:=keep_start (room:=65536) (g:=[0,1,2]) (by rfl);have i:∀e∈[ke1,ke2],zA1 e=true:=fun e j=>by
  rcases(show e=ke1∨e=ke2 by simpa using j)with rfl|rfl<;>rfl
 have z:(zAL (zA0 (zAJ.none0 [0,1,2]).last [ke1,ke2])).length≤200:=by
  have k:=zDn (c:=47) (zA0 (zAJ.none0 [0,1,2]).last [ke1,ke2]) (ents_len2 (c:=1) _ _ (fun e j=>⟨i e j,by rcases(show e=ke1∨e=ke2 by simpa using j)with rfl|rfl<;>decide⟩) (show 0+2≤_ by decide));rw[zCe]at k;exact Nat.le_trans k (by decide)
 obtain⟨q,k,t⟩:=app_go h (by simp) i (show 0+2≤_ by decide) (.inr (by omega));have y:kM2.OK:=⟨by decide,by rfl,by rfl,by rfl,⟨by decide,by decide⟩,by decide,fun e j=>by rw[show e=ke2 by simpa[kM2]using j];rfl⟩;have o:∀l∈kM2.rows,l.length≤200:=fun l m=>by
  rcases(show l=zEp 1 1 [0,1,2]∨l=zCW 0 (-1)∨l∈zA0 1 [ke2] by simpa[zAJ.rows,kM2]using m)with rfl|rfl|m
  ·unfold zEp zDs;have a:(zEB 1).length≤9:=zAg (by omega);have b:=zBI 1;have c:=zAg (n:=([0,1,2]:List Int).length) (by decide);have d:=zA9 [0,1,2];simp only[List.length_cons,List.length_append,List.length_nil]at c d ⊢;omega
  ·have:=zDN 0 (-1);omega
  ·have:=ents_len2 (c:=1) 1 [ke2] (fun e j=>by rw[show e=ke2 by simpa using j];exact⟨rfl,by decide⟩) (by decide) l m;omega
 have p:=zDn (c:=200) kM2.rows o;have B:kS.bytes.length≤200:=by
  unfold zDE.bytes kS zEk zDs zFB;have a:(zEB 1).length≤9:=zAg (by omega);have b:=zBI 1;have c:=zAg (n:=([0,1,2]:List Int).length) (by decide);have d:=zA9 [0,1,2];have f:=zAg (n:=([115]:Bs).length) (by decide);simp only[List.length_cons,List.length_append,List.length_nil]at c d f ⊢;omega
 have v:({zAJ.none0 [0,1,2]with entries:=(zAJ.none0 [0,1,2]).entries++[ke1,ke2] }:zAJ)=kM1:=rfl;rw[v]at k t;obtain⟨r,A,C⟩:=goes_go t (s:=kS) ⟨by decide,by rfl,by rfl,by decide⟩ (by decide) (by decide) (by omega) (by rw[kM2_is];exact y) (by decide) (by rw[kM2_is];exact fun l m=>Nat.le_trans (o l m) (by decide)) (by
  rw[kM2_is];have:kM2.rows.length=3:=rfl;rw[this]at p;omega)
 refine⟨q,r,k,?_⟩;rw[compact_go t (show 0<1 by decide) (show 1≤2 by decide) (by decide),kS_is,A,kM2_is]
end Go.Proofs.YtapfnehdgailmaaGreat
