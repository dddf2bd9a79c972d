/- What the program's functions and the document's do, and plain laws, for PJournalPlays. -/
import Derived.Sort.Walk0
import Derived.Test.YtapfnehdgailmaaGreatJB
import Derived.Test.YtapfnehdgailmaaGreatJF
import Derived.Test.YtapfnehdgailmaaGreatJM
open Go.Proofs.Tryz
set_option maxRecDepth 100000
set_option maxHeartbeats 64000000
namespace Go.Proofs.YtapfnehdgailmaaGreat
open Go.RowKit Go.Sat Go.Maps
theorem zE2 {P:Program}{fn:Func}{p u v z:Tmp}{ty:TypeId}(h:fn.results=#[.cell p ty,.tmp u,.tmp v,.tmp z])(b:Array Value)(w:World)(g:Nat)(t:TypeId)(cs:Array Value)(c:Nat×Nat)(d:TypeDesc)
  (l:b.getD p undef=.pointer (some ⟨g,0,none⟩)) (j:w.heap[g]?=some (.cells cs t c))
  (m:P.underlying ty=some d) (i:(match d with | .struct _ | .array _ _=>true|_=>false)=true) (k:(P.info? ty).map (·.size)=some cs.size) :
  (results fn b).run P w=.ok (.tuple #[.agg cs,b.getD u undef,b.getD v undef,b.getD z undef]) w:=by
 have f:(results fn b).run P w=((asAddr (b.getD p undef)).run P w).andThen fun a n=>((loadVar ty a).run P n).andThen fun x o=>.ok (.tuple #[x,b.getD u undef,b.getD v undef,b.getD z undef]) o:=by
  simp only[results,h];simp[Sem.run_bind,Result.andThen]
 rw[f,l];simp[asAddr,run_loadVar_row w g t ty cs c d j m i k]
def zB8 (W:World)(b:Nat)(x y z:Value):World:=((W.setCell ⟨b,0,none⟩ x).setCell ⟨b,1,none⟩ y).setCell ⟨b,2,none⟩ z
theorem base_keep {W:World}{b:Nat}{x y z:Value}(h:W.heap[b]?=some (.cells #[x,y,z] 130 (0,0))):(zB8 W b x y z).heap[b]?=some (.cells #[x,y,z] 130 (0,0))∧Chg (fun _=>False) W (zB8 W b x y z):=by
 have f:=zAC h 0 x;have g:=zAC f 1 y;have d:=zAC g 2 z;have d:(zB8 W b x y z).heap[b]?=some (.cells #[x,y,z] 130 (0,0)):=by simpa[zB8]using d
 have c:Chg (fun k=>k=b) W (zB8 W b x y z):=((Chg.setCell W ⟨b,0,none⟩ x).trans (Chg.setCell _ ⟨b,1,none⟩ y) fun _ _ e=>e).trans (Chg.setCell _ ⟨b,2,none⟩ z) fun _ _ e=>e;refine⟨d,c.os,c.tape,c.output,c.size,fun k i _=>?_⟩
 by_cases e:k=b
 ·rw[e,d,h]
 ·exact c.block k i e
def RsnTold (w1:World)(r:Nat×Option zDP)(e:Ending)(w':World):Prop :=
 Below w1.heap.size w1 w'∧∃(n t:Int) (gp:Option Addr) (gn gc:Nat) (dv:Value),e=.returned (.tuple #[.agg #[.int .i64 n,.int .i64 t,.slice gp gn gc],dv,.bool r.2.isSome,.int .i64 (r.1:Int)]) ∧
  ∀s,r.2=some s→n=s.number∧t=s.term∧zCd w' (.slice gp gn gc) s.group∧zAi w' 5 dv s.data∧∀k,((Value.slice gp gn gc).ownBlock=some k∨dv.ownBlock=some k)→w1.heap.size≤k
theorem loadE_cases (o:Option zAW):loadE o=0∨loadE o=3∨loadE o=7:=by
 unfold loadE
 split
 ·split
  ·exact .inl rfl
  ·exact .inr (.inl rfl)
 ·exact .inr (.inr rfl)
theorem loadB_le {D:zAA}(h:D.OK)(n:Bs):(zDq (Sat.get n D.files)).length≤1073741824:=by
 have b:=zEH h n;cases c:Sat.get n D.files with
 | none=>rw[zFO];exact Nat.zero_le _
 | some f =>
  rw[c]at b;rw[zD4];unfold oneB decB
  split
  ·split
   ·rw[List.length_take,List.length_drop];omega
   ·exact Nat.zero_le _
  ·exact Nat.zero_le _
theorem snapOf_7 {o:Option zAW}(h:loadE o=7):zC5 o=(0,none):=by unfold zC5;rw[if_pos h]
theorem snapOf_3 {o:Option zAW}(h:loadE o=3):zC5 o=(3,none):=by unfold zC5;rw[if_neg (by omega),if_pos (by omega),h]
theorem snapOf_0 {o:Option zAW}(h:loadE o=0):zC5 o=match zC9 (zDq o)with|none=>(3,none)|some s=>(0,some s):=by unfold zC5;rw[if_neg (by omega),if_neg (by omega)];rfl
theorem snap_no {w1 w2:World}{r:Nat×Option zDP}{k:Nat}(g:r=(k,none))(f:Below w1.heap.size w1 w2)(n t:Int)(d:Option Addr)(c b:Nat)(dv:Value):RsnTold w1 r (.returned (.tuple #[.agg #[.int .i64 n,.int .i64 t,.slice d c b],dv,.bool false,.int .i64 (k:Int)])) w2:=by
 subst g;exact⟨f,n,t,d,c,b,dv,rfl,fun s h=>by cases h⟩
section
variable {w w1 w2:World} {j d:Nat} {pre:ByteArray} {D:zAA} {M:zAJ} {F:Nat→Prop}
theorem rsnap_calls (h:zAk w w1 j d pre D M F) :
  Calls prog 77 #[.pointer (some ⟨j,0,none⟩)] w1 (RsnTold w1 (zC5 (Sat.get (zBt (nm pre)) D.files))):=by
 have bd:=h.psz;have Y:(sSnp pre).size=pre.size+5:=zGM pre;obtain⟨c3,c4,-⟩:=h.jc;have aY:=loadB_le h.okD (zBt (nm pre));have H:=zh h;have R:=zh (zAD w1 (.cells #[.int .i64 0,.int .i64 0,.slice none 0 0] 130));have af:=zh (zAI w1 (.cells #[.int .i64 0,.int .i64 0,.slice none 0 0] 130));have Ho:=zW (Sat.get (zBt (nm pre)) D.files=Sat.get (zBt (nm pre)) D.files) rfl;generalize aJ:Sat.get (zBt (nm pre)) D.files=o at *;clear Ho;have Ho:=zh aJ;clear h aJ;rcases loadE_cases o with h0|h3|h7
 ·have HI:=zh (snapOf_0 h0);have He:=zh h0;clear h0;generalize zC5 o=SO at *;generalize aE:zDq o=y at *;have aU:=zh aE;clear aE
  go_enter func77,ntmps77
  go_wp2_with fail;refine ost (fun w':World=>w'.cell? ⟨j,3,none⟩=some (.pointer (some ⟨d,0,none⟩))∧w'.cell? ⟨j,4,none⟩=some (.string pre)) 15 (⟨zBQ c3 _,zBQ c4 _⟩) fun f=>?_;have m:=zh (R.o.trans ((zAP (w1.alloc (.cells #[.int .i64 0,.int .i64 0,.slice none 0 0] 130))).mono R.o.size));have q:=zW ((w1.alloc (.cells #[.int .i64 0,.int .i64 0,.slice none 0 0] 130)).drew.heap[w1.heap.size]?=_) af.o;generalize (w1.alloc (.cells #[.int .i64 0,.int .i64 0,.slice none 0 0] 130)).drew=W1 at *;refine Pl [0,1,2,3,4,5,6,7,8] ?_
  iterate 9 (refine Pc rfl ?_;simp only[uZ])
  refine Pn ?_;refine oon 9 rfl fun K hK=>?_;have t:=zh (load_calls (H.o.next m.o).st (sSnp pre) (by rw[Y];omega));rw[nm_snp]at t;go_wp2_with fail;refine t.o.mono ?_;rintro e w2 ⟨v,rfl,Q,Z,E,-⟩;rw[Ho.o]at Q ⊢;have C:=zh (And.intro (zAH f.1 E) (zAH f.2 E));have B:=zh (m.o.trans (E.mono m.o.size));have b:=zh ((E.block _ (zAB q.o)).trans q.o);have U:=zh Q;obtain⟨pv,cv,rfl,-⟩:=zAL Q;clear Q Z E t;rw[He.o];rw[aU.o]at U ⊢;go_wp2_with fail;refine hK.o _ _ (C.o) fun f=>?_;clear hK
  try simp only[uZ]
  refine Pl [10,11,12,13,14] ?_
  iterate 5 (refine Pc rfl ?_;simp only[uZ])
  refine Pn ?_;refine odn ?_;clear C m q;have az:=zh (zBx (show zAb w2 (.slice pv y.length cv) y from U.o.has) (by omega));go_wp2_with fail;refine az.o.mono ?_;rintro e w3 ⟨r,rfl,hr,al,aM,ai⟩;have ap:=zW (Below w1.heap.size w1 w3) (B.o.trans (ai.mono B.o.size));have ab:=(ai.block _ (zAB b.o)).trans b.o;have aF:w1.heap.size<r:=Nat.lt_of_lt_of_le (zAB b.o) al;have HP:=zW (zDN (w3.alloc (.cells #[.pointer (some ⟨w1.heap.size,0,none⟩),.pointer (some ⟨w1.heap.size,1,none⟩)] 204)) r [⟨w1.heap.size,0,none⟩,⟨w1.heap.size,1,none⟩]) (by
   have n:=zBB (.cells #[.pointer (some ⟨w1.heap.size,0,none⟩),.pointer (some ⟨w1.heap.size,1,none⟩)] 204) ab;refine⟨fun a O=>?_,fun a O=>?_,fun a O=>?_,fun a O=>?_⟩
   all_goals
    simp only[List.mem_cons,List.not_mem_nil,or_false]at O;rcases O with rfl|rfl
   ·exact⟨_,zAG n rfl⟩
   ·exact⟨_,zAG n rfl⟩
   ·exact zAE n 0
   ·exact zAE n 1
   ·intro e;have e2:w1.heap.size=r:=e;omega
   ·intro e;have e2:w1.heap.size=r:=e;omega
   ·rfl
   ·rfl)
  have aZ:=zAB ab;have HN:=zh (zEW (hr.chg (Chg.alloc w3 (.cells #[.pointer (some ⟨w1.heap.size,0,none⟩),.pointer (some ⟨w1.heap.size,1,none⟩)] 204)) (fun e=>e) fun _ _ e=>e) (g:=w3.heap.size) (c:=2) HP.o (by simp) (fun i a hi=>by
   refine zAG (zAI w3 _) ?_
   match i,hi with
   | 0,hi=>cases hi;rfl
   | 1,hi=>cases hi;rfl) (fun e=>by omega) (fun a O e=>by
    simp only[List.mem_cons,List.not_mem_nil,or_false]at O;rcases O with rfl|rfl
    ·have e3:w1.heap.size=w3.heap.size:=e;omega
    ·have e3:w1.heap.size=w3.heap.size:=e;omega) (fun k n=>⟨by omega,fun a O e=>by
    have:=zAB b.o;simp only[List.mem_cons,List.not_mem_nil,or_false]at O;rcases O with rfl|rfl
    ·have e3:k=w1.heap.size:=e;omega
    ·have e3:k=w1.heap.size:=e;omega⟩))
  have HS:=zh (And.intro aF (And.intro aM (And.intro al (zAB b.o))));have ay:=zh (zBB (.cells #[.pointer (some ⟨w1.heap.size,0,none⟩),.pointer (some ⟨w1.heap.size,1,none⟩)] 204) ab);have aP:=zh (ap.o.trans ((zAD w3 (.cells #[.pointer (some ⟨w1.heap.size,0,none⟩),.pointer (some ⟨w1.heap.size,1,none⟩)] 204)).mono ap.o.size));clear hr al aM ai ab aF aZ;have ba:=Rd.num_le ⟨y,false⟩;have bc:=Rd.num_le (Rd.num ⟨y,false⟩).2;have aR:=zW (Rd.ints 2 ⟨y,false⟩=([((Rd.num ⟨y,false⟩).1:Int),((Rd.num ⟨y,false⟩).2.num.1:Int)],(Rd.num ⟨y,false⟩).2.num.2)) rfl;have T:=zW (zC9 y=(if((Rd.num ⟨y,false⟩).2.num.2.grp zAZ).2.bytes.2.whole∧1≤(Rd.num ⟨y,false⟩).1∧(Rd.num ⟨y,false⟩).1≤1099511627776∧(Rd.num ⟨y,false⟩).2.num.1≤1099511627776∧((Rd.num ⟨y,false⟩).2.num.2.grp zAZ).2.bytes.1.length≤524288 then some ⟨(Rd.num ⟨y,false⟩).1,((Rd.num ⟨y,false⟩).2.num.1:Int),((Rd.num ⟨y,false⟩).2.num.2.grp zAZ).1,((Rd.num ⟨y,false⟩).2.num.2.grp zAZ).2.bytes.1⟩else none)) rfl;generalize (Rd.num ⟨y,false⟩).1=A at *;generalize (Rd.num ⟨y,false⟩).2.num.1=G at *;generalize (Rd.num ⟨y,false⟩).2.num.2=W at *;go_wp2_with fail;refine HN.o.mono ?_;rintro e w4 ⟨rfl,X,aG,ak⟩;rw[show([⟨w1.heap.size,0,none⟩,⟨w1.heap.size,1,none⟩]:List Addr).length=2 from rfl,aR.o]at X ak;have hq:=ak w1.heap.size (zAB ay.o) (by have:=HS.o.1;omega);have aN:=zAC ay.o 0 (.int .i64 (A:Int));have am:=zAC aN 1 (.int .i64 (G:Int));rw[show((#[Value.int IntKind.i64 0,.int .i64 0,.slice none 0 0]:Array Value).setIfInBounds 0 (.int .i64 (A:Int))).setIfInBounds 1 (.int .i64 (G:Int))=#[.int .i64 (A:Int),.int .i64 (G:Int),.slice none 0 0]from rfl]at am;have ag:=zW (w4.heap[w1.heap.size]?=some (.cells #[.int .i64 (A:Int),.int .i64 (G:Int),.slice none 0 0] 130 (0,0))) (hq.trans am);have ad:=zW (Below w1.heap.size w1 w4) (by
   refine(((Chg.of_below aP.o).mono fun _ _ e=>e.elim:Chg (fun k=>w1.heap.size≤k) w1 _).trans aG fun k _ e=>?_).below (Nat.le_refl _) fun k n e=>by omega
   rcases e with rfl|⟨a,O,rfl⟩
   ·have:=HS.o.1;omega
   ·simp only[List.mem_cons,List.not_mem_nil,or_false]at O;rcases O with rfl|rfl<;>exact Nat.le_refl _)
  have aS:=zh X.lt;have HG:=zh (readGrp_grp X (fun k n=>⟨by have:=X.lt;omega,by omega⟩));clear X aG ak hq aN am b;go_wp2_with fail;refine HG.o.mono ?_;rintro e w5 ⟨v5,rfl,an,aH,aK,aj⟩;have aO:=zW (Below w1.heap.size w1 w5) (ad.o.trans (aj.below ad.o.size fun k n e=>by have:=HS.o.1;omega));have ac:=(aj.block _ (zAB ag.o) (by have:=HS.o.1;omega)).trans ag.o;obtain⟨N,L,e5,-⟩:=zAw an;subst e5;have ae:=zW (∀k,(Value.slice N (W.grp zAZ).1.length L).ownBlock=some k→w1.heap.size≤k∧k≠w1.heap.size∧k≠r) (fun k n=>by
   have h1:=aH k n;have h2:=zAB ag.o;have h3:=ad.o.size;have h6:=aS.o;exact⟨by omega,by omega,by omega⟩)
  have q2:=zAX ac;have fr:=zAE ac 2;have h6:=zAC ac 2 (.slice N (W.grp zAZ).1.length L);rw[show(#[Value.int IntKind.i64 (A:Int),.int .i64 (G:Int),.slice none 0 0]:Array Value).setIfInBounds 2 (.slice N (W.grp zAZ).1.length L)=#[.int .i64 (A:Int),.int .i64 (G:Int),.slice N (W.grp zAZ).1.length L]from rfl]at h6;have ah:=zh h6;have aw:=zW (zCd (w5.setCell ⟨w1.heap.size,2,none⟩ (.slice N (W.grp zAZ).1.length L)) (.slice N (W.grp zAZ).1.length L) (W.grp zAZ).1) (OwnR.keep an fun k n=>set_other _ fun e=>(ae.o k n).2.1 e);have aQ:=zh (zGG (aK.chg (Chg.setCell w5 ⟨w1.heap.size,2,none⟩ (.slice N (W.grp zAZ).1.length L)) (fun e=>by have:=HS.o.1;have e2:r=w1.heap.size:=e;omega) (fun k n e=>by have h7:=HS.o.2.2.2;have e2:k=w1.heap.size:=e;omega)));have aq:=zW (Below w1.heap.size w1 (w5.setCell ⟨w1.heap.size,2,none⟩ (.slice N (W.grp zAZ).1.length L))) ((((Chg.of_below aO.o).mono fun _ _ e=>e.elim:Chg (fun k=>k=w1.heap.size) w1 w5).trans (Chg.setCell w5 ⟨w1.heap.size,2,none⟩ _) fun k _ e=>e).below (Nat.le_refl _) fun k n e=>by omega);clear an aH aK aj ac h6;generalize (W.grp zAZ).2=R4 at *;generalize (W.grp zAZ).1=gg at *;go_wp2_with fail;clear q2 fr;generalize w5.setCell ⟨w1.heap.size,2,none⟩ (.slice N gg.length L)=w6 at *;refine aQ.o.mono ?_;rintro e w7 ⟨v7,rfl,ao,aI,aL,aa⟩;have ar:=zW (Below w1.heap.size w1 w7) (aq.o.trans (aa.below aq.o.size fun k n e=>by have:=HS.o.1;omega));have J:=zh ((aa.block _ (zAB ah.o) (by have:=HS.o.1;omega)).trans ah.o);have ax:=zW (zCd w7 (.slice N gg.length L) gg) (OwnR.keep aw.o fun k n=>aa.block k (OwnR.lt aw.o n) fun e=>(ae.o k n).2.2 e);have HW:=zh (zDc aL.at.hd);have aT:=zW (∀k,v7.ownBlock=some k→w1.heap.size≤k∧k≠w1.heap.size) (fun k n=>by
   have h1:=aI k n;have h2:=zAB ah.o;exact⟨by omega,by omega⟩)
  have av:=zh ao;generalize R4.bytes.2=R5 at *;generalize R4.bytes.1=bb at *;obtain⟨p7,c7,e7,-⟩:=zAL ao;subst e7;clear ao aI aL aa;have S:=zh (base_keep J.o);have HZ:=zh S.o.1;have au:=zW (Below w1.heap.size w1 (zB8 w7 w1.heap.size (.int .i64 (A:Int)) (.int .i64 (G:Int)) (.slice N gg.length L))) (ar.o.trans (S.o.2.below ar.o.size fun _ _ e=>e));have V:=zh (fun(hn:zC9 y=none)=>snap_no (r:=SO) (k:=3) (by rw[HI.o,hn]) au.o (A:Int) (G:Int) N gg.length L (.slice none 0 0));have aA:=zh (fun(hn:zC9 y=some ⟨A,(G:Int),gg,bb⟩)=>show RsnTold w1 SO (.returned (.tuple #[.agg #[.int .i64 (A:Int),.int .i64 (G:Int),.slice N gg.length L],.slice p7 bb.length c7,.bool true,.int .i64 0])) (zB8 w7 w1.heap.size (.int .i64 (A:Int)) (.int .i64 (G:Int)) (.slice N gg.length L)) by
   rw[HI.o,hn];refine⟨au.o,_,_,_,_,_,_,rfl,fun s hs=>?_⟩;cases hs;exact⟨rfl,rfl,OwnR.keep ax.o fun k n=>S.o.2.block k (OwnR.lt ax.o n) fun e=>e,OwnR.keep av.o fun k n=>S.o.2.block k (OwnR.lt av.o n) fun e=>e,fun k n=>n.elim (fun h=>(ae.o k h).1) fun h=>(aT.o k h).1⟩)
  have Ht:=zh (zD0 w7 (G:Int));have q0:=zAU J.o;have q1:=zAY J.o;have q2:=zAX J.o;have aB:=zAE J.o 0;have aC:=zAE J.o 1;have aD:=zAE J.o 2;clear S HI aY;unfold zB8 at *;have l:=zh (fun tm hp=>zE2 (P:=prog) (fn:=Tryz.f77) (p:=2) (u:=3) (v:=4) (z:=5) (ty:=130) rfl tm (((w7.setCell ⟨w1.heap.size,0,none⟩ (.int .i64 (A:Int))).setCell ⟨w1.heap.size,1,none⟩ (.int .i64 (G:Int))).setCell ⟨w1.heap.size,2,none⟩ (.slice N gg.length L)) w1.heap.size _ _ (0,0) _ hp HZ.o underlying130 rfl (by kernel_rfl));cases hw:R5.whole with
  | false =>
   rw[hw]at HW;have I:=zh (V.o (by rw[T.o,hw,if_neg (by simp)]));clear hw;go_wp2_with fail;refine HW.o.mono ?_;rintro e w8 ⟨rfl,rfl⟩;go_wp2_with fail
   (try simp only[Exit.inBlock,Exit.then])
   refine bodyPost_ret (l.o _ rfl) rfl ?_;exact I.o
  | true =>
   rw[hw]at HW
   by_cases h1:1≤A
   ·have d1:decide ((A:Int)<1)=false:=by simp;omega
    have aV:decide (A<1)=false:=by simp;omega
    by_cases h2:A≤1099511627776
    ·have d2:decide ((1099511627776:Int)<(A:Int))=false:=by simp;omega
     have aW:decide (1099511627776<A)=false:=by simp;omega
     by_cases h3:G≤1099511627776
     ·rw[show zDe (G:Int)=true from zAs.2 ⟨by omega,by omega⟩]at Ht
      by_cases h4:bb.length≤524288
      focus
       have d4:decide ((524288:Int)<(bb.length:Int))=false:=by simp;omega
       have aX:decide (524288<bb.length)=false:=by simp;omega
       have I:=zh (aA.o (by rw[T.o,hw,if_pos ⟨rfl,h1,h2,h3,h4⟩]))
      rotate_left
      focus
       have d4:decide ((524288:Int)<(bb.length:Int))=true:=by simp;omega
       have aX:decide (524288<bb.length)=true:=by simp;omega
       have I:=zh (V.o (by rw[T.o,if_neg (fun e=>h4 e.2.2.2.2)]))
      all_goals
       clear hw h1 h2 h3 h4;go_wp2_with fail;refine HW.o.mono ?_;rintro e w8 ⟨rfl,rfl⟩;go_wp2_with fail;refine Ht.o.mono ?_;rintro e w8 ⟨rfl,rfl⟩;go_wp2_with fail;(try simp only[Exit.inBlock,Exit.then]);refine bodyPost_ret (l.o _ rfl) rfl ?_;exact I.o
     ·rw[show zDe (G:Int)=false by rw[Bool.eq_false_iff];intro e;have:=zAs.1 e;omega]at Ht;have I:=zh (V.o (by rw[T.o,if_neg (fun e=>h3 e.2.2.2.1)]));clear hw h1 h2 h3;go_wp2_with fail;refine HW.o.mono ?_;rintro e w8 ⟨rfl,rfl⟩;go_wp2_with fail;refine Ht.o.mono ?_;rintro e w8 ⟨rfl,rfl⟩;go_wp2_with fail
      (try simp only[Exit.inBlock,Exit.then])
      refine bodyPost_ret (l.o _ rfl) rfl ?_;exact I.o
    ·have d2:decide ((1099511627776:Int)<(A:Int))=true:=by simp;omega
     have aW:decide (1099511627776<A)=true:=by simp;omega
     have I:=zh (V.o (by rw[T.o,if_neg (fun e=>h2 e.2.2.1)]));clear hw h1 h2;go_wp2_with fail;refine HW.o.mono ?_;rintro e w8 ⟨rfl,rfl⟩;go_wp2_with fail
     (try simp only[Exit.inBlock,Exit.then])
     refine bodyPost_ret (l.o _ rfl) rfl ?_;exact I.o
   ·have d1:decide ((A:Int)<1)=true:=by simp;omega
    have aV:decide (A<1)=true:=by simp;omega
    have I:=zh (V.o (by rw[T.o,if_neg (fun e=>h1 e.2.1)]));clear hw h1;go_wp2_with fail;refine HW.o.mono ?_;rintro e w8 ⟨rfl,rfl⟩;go_wp2_with fail
    (try simp only[Exit.inBlock,Exit.then])
    refine bodyPost_ret (l.o _ rfl) rfl ?_;exact I.o
 focus
  have HI:=zh (snapOf_3 h3);have He:=zh h3;clear h3;generalize zC5 o=SO at *;go_enter func77,ntmps77;go_wp2_with fail;refine ost (fun w':World=>w'.cell? ⟨j,3,none⟩=some (.pointer (some ⟨d,0,none⟩))∧w'.cell? ⟨j,4,none⟩=some (.string pre)) 15 (⟨zBQ c3 _,zBQ c4 _⟩) fun f=>?_;have m:=zh (R.o.trans ((zAP (w1.alloc (.cells #[.int .i64 0,.int .i64 0,.slice none 0 0] 130))).mono R.o.size));have q:=zW ((w1.alloc (.cells #[.int .i64 0,.int .i64 0,.slice none 0 0] 130)).drew.heap[w1.heap.size]?=_) af.o;generalize (w1.alloc (.cells #[.int .i64 0,.int .i64 0,.slice none 0 0] 130)).drew=W1 at *;refine Pl [0,1,2,3,4,5,6,7,8] ?_;iterate 9 (refine Pc rfl ?_;simp only[uZ])
  refine Pn ?_;refine oon 9 rfl fun K hK=>?_;have t:=zh (load_calls (H.o.next m.o).st (sSnp pre) (by rw[Y];omega));rw[nm_snp]at t;go_wp2_with fail;refine t.o.mono ?_;rintro e w2 ⟨v,rfl,Q,Z,E,-⟩;rw[Ho.o]at Q ⊢;have C:=zh (And.intro (zAH f.1 E) (zAH f.2 E));have B:=zh (m.o.trans (E.mono m.o.size));have b:=zh ((E.block _ (zAB q.o)).trans q.o);have U:=zh Q;obtain⟨pv,cv,rfl,-⟩:=zAL Q;clear Q Z E t;rw[He.o];go_wp2_with fail;refine hK.o _ _ (C.o) fun f=>?_;clear hK;try simp only[uZ]
  refine Pl [10,11,12,13,14] ?_;iterate 5 (refine Pc rfl ?_;simp only[uZ])
  refine Pn ?_;refine odn ?_;clear C m q;have S:=zh (base_keep b.o);have HZ:=zh S.o.1;have I:=zh (snap_no (r:=SO) (k:=3) HI.o (B.o.trans (S.o.2.below B.o.size fun _ _ e=>e)) 0 0 none 0 0 (.slice none 0 0))
 rotate_left
 focus
  have HI:=zh (snapOf_7 h7);have He:=zh h7;clear h7;generalize zC5 o=SO at *;go_enter func77,ntmps77;go_wp2_with fail;refine ost (fun w':World=>w'.cell? ⟨j,3,none⟩=some (.pointer (some ⟨d,0,none⟩))∧w'.cell? ⟨j,4,none⟩=some (.string pre)) 15 (⟨zBQ c3 _,zBQ c4 _⟩) fun f=>?_;have m:=zh (R.o.trans ((zAP (w1.alloc (.cells #[.int .i64 0,.int .i64 0,.slice none 0 0] 130))).mono R.o.size));have q:=zW ((w1.alloc (.cells #[.int .i64 0,.int .i64 0,.slice none 0 0] 130)).drew.heap[w1.heap.size]?=_) af.o;generalize (w1.alloc (.cells #[.int .i64 0,.int .i64 0,.slice none 0 0] 130)).drew=W1 at *;refine Pl [0,1,2,3,4,5,6,7,8] ?_;iterate 9 (refine Pc rfl ?_;simp only[uZ])
  refine Pn ?_;refine oon 9 rfl fun K hK=>?_;have t:=zh (load_calls (H.o.next m.o).st (sSnp pre) (by rw[Y];omega));rw[nm_snp]at t;go_wp2_with fail;refine t.o.mono ?_;rintro e w2 ⟨v,rfl,Q,Z,E,-⟩;rw[Ho.o]at Q ⊢;have C:=zh (And.intro (zAH f.1 E) (zAH f.2 E));have B:=zh (m.o.trans (E.mono m.o.size));have b:=zh ((E.block _ (zAB q.o)).trans q.o);have U:=zh Q;obtain⟨pv,cv,rfl,-⟩:=zAL Q;clear Q Z E t;rw[He.o];go_wp2_with fail;refine hK.o _ _ (C.o) fun f=>?_;clear hK;try simp only[uZ]
  refine Pl [10,11,12,13,14] ?_;iterate 5 (refine Pc rfl ?_;simp only[uZ])
  refine Pn ?_;refine odn ?_;clear C m q;have S:=zh (base_keep b.o);have HZ:=zh S.o.1;have I:=zh (snap_no (r:=SO) (k:=0) HI.o (B.o.trans (S.o.2.below B.o.size fun _ _ e=>e)) 0 0 none 0 0 (.slice none 0 0))
 all_goals
  have q0:=zAU b.o;have q1:=zAY b.o;have q2:=zAX b.o;have aB:=zAE b.o 0;have aC:=zAE b.o 1;have aD:=zAE b.o 2;clear S b B U;unfold zB8 at *;have l:=zh (fun tm hp=>zE2 (P:=prog) (fn:=Tryz.f77) (p:=2) (u:=3) (v:=4) (z:=5) (ty:=130) rfl tm (((w2.setCell ⟨w1.heap.size,0,none⟩ (.int .i64 0)).setCell ⟨w1.heap.size,1,none⟩ (.int .i64 0)).setCell ⟨w1.heap.size,2,none⟩ (.slice none 0 0)) w1.heap.size _ _ (0,0) _ hp HZ.o underlying130 rfl (by kernel_rfl));go_wp2_with fail;(try simp only[Exit.inBlock,Exit.then]);refine bodyPost_ret (l.o _ rfl) rfl ?_;exact I.o
end
theorem scanJ_rows (k:Nat):∀b:Bs,b.length≤k→(∀x∈(zD9 b).1,x.length≤b.length)∧(zD9 b).1.length≤b.length:=by
 induction k with
 | zero =>
  intro b h;rw[zBz (.inl (List.eq_nil_of_length_eq_zero (by omega)))];exact⟨fun x c=>by simp at c,Nat.zero_le _⟩
 | succ k ih =>
  intro b h
  by_cases d:decE b=0
  ·have g:=zEI d;have f:=ih (b.drop (decL b)) (by rw[List.length_drop];omega);rw[scan_go d];rw[List.length_drop]at f;refine⟨fun x c=>?_,?_⟩
   ·rcases List.mem_cons.1 c with rfl|c
    ·unfold decB;rw[if_pos d,List.length_take,List.length_drop];omega
    ·exact Nat.le_trans (f.1 x c) (by omega)
   ·show _+1≤_
    omega
  ·rw[zBz (.inr d)];exact⟨fun x c=>by simp at c,Nat.zero_le _⟩
theorem scanJ_row {b x:Bs}{n:Nat}(h:n≤1073741824)(hn:b.length=n)(c:x∈(zD9 b).1):x.length≤1073741824:=Nat.le_trans ((scanJ_rows _ b (Nat.le_refl _)).1 x c) (by omega)
theorem zFn {b:Bs}{n:Nat}{rows:List Bs}(h:n≤1073741824)(hn:b.length=n)(c:(zD9 b).1=rows):rows.length≤1073741824:=by
 rw[←c];exact Nat.le_trans (scanJ_rows _ b (Nat.le_refl _)).2 (by omega)
theorem zBT.keepJ {w w':World}{v:Value}{vs:List Value}{ls:List Bs}(h:zBT w v vs ls)(d:∀j,(v.ownBlock=some j∨∃u∈vs,u.ownBlock=some j)→w'.heap[j]?=w.heap[j]?):zBT w' v vs ls :=
 ⟨h.row.keep fun k c=>d k (.inl c),fun i u b f g=>OwnR.keep (h.has i u b f g) fun k c=>d k (.inr ⟨u,List.mem_of_getElem? f,c⟩),h.sep⟩
def restJ:Nat→zAJ→List Bs→Option zAJ
 | 0,M,l=>zCa M l
 | _+1,M,l=>zCT M l
theorem restJ_cons (k:Nat)(M:zAJ)(x:Bs)(r:List Bs):restJ k M (x::r)=(zBs (decide (k=0)) M x).bind fun M'=>restJ (k+1) M' r:=by
 cases k<;>rfl
def RlTold (w w1:World)(j d:Nat)(pre:ByteArray)(F:Nat→Prop)(r:zAA×Nat×Bool×zAJ)(e:Ending)(w':World):Prop :=
 e=.returned (.tuple #[.bool r.2.2.1,.int .i64 (r.2.1:Int)])∧St w w' d r.1 F∧Same F w1 w'∧(r.2.1=0→zAk w w' j d pre r.1 r.2.2.2 F)
section
variable {w w1 w2:World} {j d:Nat} {pre:ByteArray} {D:zAA} {M:zAJ} {F:Nat→Prop}
theorem rl_end {r:zAA×Nat×Bool×zAJ}{k:Nat}{b:Bool}{M':zAJ}(h:zAk w w2 j d pre D M' F)(f:Same F w1 w2)(c:r=(D,k,b,M')):RlTold w w1 j d pre F r (.returned (.tuple #[.bool b,.int .i64 (k:Int)])) w2:=by
 subst c;exact⟨rfl,h.stF,f,fun _=>h⟩
theorem rl_bad {r:zAA×Nat×Bool×zAJ}{k:Nat}{b:Bool}{M':zAJ}(h:St w w2 d D F)(g:Same F w1 w2)(f:r=(D,k,b,M'))(c:k≠0):RlTold w w1 j d pre F r (.returned (.tuple #[.bool b,.int .i64 (k:Int)])) w2:=by
 subst f;exact⟨rfl,h,g,fun e=>(c e).elim⟩
theorem rec_told_no {o:Option zAJ}{e:Ending}(h:zB6 w w1 j d pre D F o e w2)(b:o=none):St w w2 d D F∧Same F w1 w2∧e=.returned (.bool false):=by
 subst b;exact h
theorem rec_told_yes {o:Option zAJ}{M':zAJ}{e:Ending}(h:zB6 w w1 j d pre D F o e w2)(b:o=some M'):Same F w1 w2∧e=.returned (.bool true)∧zAk w w2 j d pre D M' F:=by
 subst b;exact h.2
theorem zE1 (h:Sat.get (zAu (nm pre)) D.files=none):zBP D (nm pre) M=(D,0,true,M):=by unfold zBP;rw[h]
theorem zFk {f:zAW}(h:Sat.get (zAu (nm pre)) D.files=some f)(b:zCa M (zD9 f.data).1=none):zBP D (nm pre) M=(D,3,false,M):=by unfold zBP;rw[h];dsimp only;rw[b]
theorem readLog_ok {f:zAW}{M':zAJ}(h:Sat.get (zAu (nm pre)) D.files=some f)(b:zCa M (zD9 f.data).1=some M'):zBP D (nm pre) M=((tornOff D (zAu (nm pre)) (zD9 f.data).2 f.data.length).1,(tornOff D (zAu (nm pre)) (zD9 f.data).2 f.data.length).2,false,M'):=by unfold zBP;rw[h];dsimp only;rw[b]
theorem rlog_calls (h:zAk w w1 j d pre D M F)(hM:M.entries=[]) :
  Calls prog 78 #[.pointer (some ⟨j,0,none⟩)] w1 (RlTold w w1 j d pre F (zBP D (nm pre) M)):=by
 have aW:=h.psz;have ak:(zCN pre).size=pre.size+4:=zFT pre;obtain⟨c3,c4,-⟩:=h.jc;have H:=zh h;have HM:=zh hM;have z:=zh (jou_read h (zCN pre) (by rw[ak];omega));rw[zBq]at z;have s:=zEH h.okD (zAu (nm pre));cases U:Sat.get (zAu (nm pre)) D.files with
 | none =>
  have HR:=zh (zE1 (M:=M) U);have az:zDZ (none:Option zAW)=7:=rfl;rw[U,az]at z;clear h hM U az s
  go_enter func78,ntmps78
  go_wp2_with fail;refine z.o.mono ?_;rintro e w2 ⟨v2,rfl,-,-,ac⟩;have p:=zh (rl_end (w1:=w1) (k:=0) (H.o.next ac) (H.o.same ac) HR.o);clear ac;go_wp2_with fail
  go_ret2
  exact p.o
 | some f =>
  have ay:zDZ (some f)=0:=rfl;have af:f.data.length≤1073741824:=by rw[U]at s;exact s
  have ap:=zh (zFk (M:=M) U);have aE:=zh (fun M'=>readLog_ok (M:=M) (M':=M') U);rw[U,ay]at z;clear h hM U ay s
  go_enter func78,ntmps78
  go_wp2_with fail;refine z.o.mono ?_;rintro e w3 ⟨v3,rfl,I,aQ,ad⟩;have am:=zh (H.o.next ad);have aF:=zh (H.o.same ad);have I:zAi w3 5 v3 f.data:=I;obtain⟨pb,cb,rfl,T⟩:=zAL I;have aK:=zh (scan_calls I.has T af);clear ad I aQ T c3 c4;have aR:=scan_le f.data;generalize B:f.data.length=c at *;go_wp2_with fail;refine aK.o.mono ?_;rintro e w4 ⟨v4,vs,rfl,aj,aw,ae⟩;have an:=zh (FR_more am.o (⟨aj,aw,ae⟩:zEj w3 w4 v4 vs _));have K:=zh (aF.o.trans (am.o.same ae));have ao:=zh aj;have aJ:=zW (∀x∈(zD9 f.data).1,x.length≤1073741824) fun x X=>scanJ_row af B X;clear aj aw ae;obtain⟨pr,cr,rfl⟩:=OwnR.shape ao.o.row;generalize hq:(zD9 f.data).2=q at *;generalize C:(zD9 f.data).1=rows at *;have aV:rows.length≤1073741824:=zFn af B C;generalize ax:rows.length=n at *;have ab:=zh ax;clear hq C ax B
  by_cases Q:n=0
  ·have aA:rows=[]:=List.eq_nil_of_length_eq_zero (by rw[ab.o,Q]);have p:=zh (rl_bad (w1:=w1) (j:=j) (pre:=pre) (k:=3) (an.o.stF.less fun _ h=>.inl h) K.o (ap.o (by rw[aA];rfl)) (by decide));have e0:((n:Int)==0)=true:=by simp;omega
   clear aA Q;go_wp2_with fail
   go_ret2
   exact p.o
  ·have e0:((n:Int)==0)=false:=by simp;omega
   have aH:=zh Q;clear Q;go_wp2_with fail
   go_loopw [38] (fun i wr=>∃(k:Nat) (N:zAJ),k≤n∧i=.int .i64 k∧(k=0→N=M)∧zAk w wr j d pre D N (FR F (.slice pr n cr) vs)∧Same (FR F (.slice pr n cr) vs) w4 wr∧zCa M rows=restJ k N (rows.drop k)) (fun i _=>n-(intOf i).toNat)
   case atStart=>exact⟨0,M,Nat.zero_le _,rfl,fun _=>rfl,an.o,fun _ _=>rfl,rfl⟩
   case round =>
    clear e0;obtain⟨k,N,hk,rfl,O,hJ,hs,b⟩:=hrel
    by_cases aP:k<n
    ·have y:k<rows.length:=by rw[ab.o];exact aP
     rw[List.drop_eq_getElem_cons y,restJ_cons]at b;have t:=ao.o.keepJ (w':=wr) fun x X=>hs x (.inr X);have P:k<vs.length:=by rw[t.len];exact y
     have L:=t.has k _ _ (List.getElem?_eq_getElem P) (List.getElem?_eq_getElem y);have l:∃g,pr=some ⟨g,0,none⟩∧wr.cell? ⟨g,k,none⟩=some vs[k]:=by
      rcases t.row.2 with⟨-,h0⟩|⟨g,aS,cur,e,-⟩
      ·omega
      ·refine⟨g,?_,?_⟩
       ·simp only[Value.slice.injEq]at e;exact e.1
       ·have S:=t.row.cells (g:=g) (by rw[e];rfl) k _ (List.getElem?_eq_getElem P);rwa[add_zero]at S
     obtain⟨g,rfl,l⟩:=l;have J:=aJ.o _ (List.getElem_mem y);obtain⟨px,cx,ah,-⟩:=zAL L;rw[ah]at L l;have R:=zh (record_calls hJ (decide (k=0)) (fun hf=>by rw[O (by simpa using hf)];exact HM.o) L.has J);have Hs:=zh hs;have aT:((k:Int)==0)=decide (k=0):=by
      by_cases h0:k=0
      ·subst h0;rfl
      ·rw[decide_eq_false h0];simp;omega
     cases S:zBs (decide (k=0)) N rows[k]with
     | none =>
      rw[S]at b;have Hc:=zh S;have aD:=zh (ap.o b);clear hJ hs b t L J S ah P O;generalize rows[k]=x at *;generalize x.length=m at *;generalize decide (k=0)=fk at *;clear y;go_wp2_with fail;refine R.o.mono ?_;intro e w6 r;obtain⟨au,a,rfl⟩:=rec_told_no r Hc.o;have p:=zh (rl_bad (w1:=w1) (j:=j) (pre:=pre) (k:=3) (au.less fun _ h=>.inl h) (K.o.trans fun x X=>(a x (.inl X)).trans (Hs.o x (.inl X))) aD.o (by decide));clear au a r;go_wp2_with fail
      go_ret2
      exact p.o
     | some Mn =>
      rw[S]at b;have Hc:=zh S;have aI:=zW (zCa M rows=restJ (k+1) Mn (rows.drop (k+1))) b;clear hJ hs b t L J S ah P O;generalize rows[k]=x at *;generalize x.length=m at *;generalize decide (k=0)=fk at *;clear y;go_wp2_with fail;refine R.o.mono ?_;intro e w6 r;obtain⟨a,rfl,ar⟩:=rec_told_yes r Hc.o;have p:=zh (And.intro ar (Hs.o.trans a));clear a ar r;go_wp2_with fail;go_roundw
      case rel=>exact⟨k+1,Mn,by omega,by go_num,fun h=>by omega,p.o.1,p.o.2,aI.o⟩
      case measure=>simp[intOf];omega
    ·have aO:k=n:=by omega
     subst aO;have V:zCa M rows=some N:=by
      rw[b,List.drop_of_length_le (by rw[ab.o];exact Nat.le_refl _)];cases k with
      | zero=>exact absurd rfl aH.o
      | succ k=>rfl
     have Z:=zh (aE.o N V);have Y:=zW (zAk w wr j d pre D N F) (hJ.less fun _ h=>.inl h);have aa:=zW (Same F w1 wr) (K.o.trans fun x X=>hs x (.inl X));obtain⟨c3,c4,-⟩:=Y.o.jc;clear hJ hs b V O;generalize aN:N=Mz at *;clear aN
     by_cases ai:q<c
     ·have dq:decide ((q:Int)<(c:Int))=true:=by simp;omega
      have aM:decide (q<c)=true:=by simp;omega
      cases G:D.truncate (zAu (nm pre)) (q:Int)with
      | mk D1 e1 =>
       have aq:=zW (Calls prog 156 #[.pointer (some ⟨d,0,none⟩),.string (zCN pre),.int .i64 (q:Int)] wr fun e w'=>e=.returned (.int .i64 (e1:Int))∧zAk w w' j d pre D1 Mz F∧Same F wr w'∧w'.heap[j]?=wr.heap[j]?) (by
        have:=jou_trunc Y.o (zCN pre) (by rw[ak];omega) (q:Int) (by omega) (by omega);rwa[zBq,G]at this)
       by_cases ag:e1=0
       ·subst ag;cases al:D1.sync [zAu (nm pre)]with
        | mk D2 e2 =>
         have r:tornOff D (zAu (nm pre)) q c=(D2,e2):=by unfold tornOff;rw[if_pos ai,G,if_neg (by simp)];exact al
         have A:=Z.o;rw[r]at A;have HR:=zh A;have aL:=zh (fun W (h:zAk w W j d pre D1 Mz F)=>show Calls prog 130 #[.pointer (some ⟨d,0,none⟩),.slice (some ⟨W.heap.size,0,none⟩) 1 1] (W.alloc (.cells #[.string (zCN pre)] 9)) fun e w'=>e=.returned (.int .i64 (e2:Int))∧zAk w w' j d pre D2 Mz F∧Same F W w'∧w'.heap[j]?=W.heap[j]? by
          have:=jou_sync h (zCN pre) (by rw[ak];omega);rwa[zBq,al]at this)
         clear G al r A;go_wp2_with fail;refine aq.o.mono ?_;rintro e w6 ⟨rfl,v,E,-⟩;have aC:=zh v;have aG:=zh (aa.o.trans E);obtain⟨c3,c4,-⟩:=v.jc;clear v E;go_wp2_with fail;refine(aL.o w6 aC.o).mono ?_;rintro e w7 ⟨rfl,av,aB,-⟩;have p:=zh (rl_end (w1:=w1) av (aG.o.trans aB) HR.o);clear av aB;go_wp2_with fail
         go_ret2
         exact p.o
       ·have r:tornOff D (zAu (nm pre)) q c=(D1,e1):=by unfold tornOff;rw[if_pos ai,G,if_pos ag]
        have A:=Z.o;rw[r]at A;have HR:=zh A;have aU:((e1:Int) != 0)=true:=by simp;omega
        clear G r A ag;go_wp2_with fail;refine aq.o.mono ?_;rintro e w6 ⟨rfl,v,E,-⟩;have p:=zh (rl_end (w1:=w1) v (aa.o.trans E) HR.o);clear v E;go_wp2_with fail
        go_ret2
        exact p.o
     ·have dq:decide ((q:Int)<(c:Int))=false:=by simp;omega
      have aM:decide (q<c)=false:=by simp;omega
      have r:tornOff D (zAu (nm pre)) q c=(D,0):=by unfold tornOff;rw[if_neg ai]
      have A:=Z.o;rw[r]at A;have p:=zh (rl_end (w1:=w1) Y.o aa.o A);clear r A;go_wp2_with fail
      go_ret2
      exact p.o
end
theorem zFu {R:Rd}(h:R.bytes.2.whole=true):R.bad=false:=by
 cases c:R.bad with
 | false=>rfl
 | true =>
  exfalso;have b:R.num.2.bad=true:=by
   unfold Rd.num
   split
   ·exact c
   ·rfl
  rw[show R.bytes=R.num.2.raw R.num.1 from rfl]at h;unfold Rd.raw at h
  split at h
  ·unfold Rd.whole at h;dsimp only at h;rw[b]at h;simp at h
  ·cases h
theorem grp_bad {R:Rd}(h:(R.grp zAZ).2.bad=false):zAZ (R.grp zAZ).1=true:=by
 unfold Rd.grp at h ⊢
 split at h
 ·cases h
 ·rename_i h7
  rw[if_neg h7];dsimp only at h ⊢
  split at h
  ·assumption
  ·cases h
theorem snapIs_ok {b:Bs}{s:zDP}(h:zC9 b=some s):s.OK∧s.data.length≤524288∧1≤s.number:=by
 unfold zC9 at h;dsimp only at h
 split at h
 ·rename_i hc
  cases h;obtain⟨i,d,f,g,c⟩:=hc;exact⟨⟨f,zAs.2 ⟨Int.natCast_nonneg _,Int.ofNat_le.2 g⟩,grp_bad (zFu i),Nat.le_trans c (by decide)⟩,c,d⟩
 ·cases h
theorem snapOf_ok {o:Option zAW}{s:zDP}(h:(zC5 o).2=some s):s.OK∧s.data.length≤524288∧1≤s.number:=by
 unfold zC5 at h
 split at h
 ·cases h
 ·split at h
  ·cases h
  ·split at h
   ·cases h
   ·rename_i hs
    cases h;exact snapIs_ok hs
theorem each1_room (g:Bs→zAW→List (Bs×zAW)→List (Bs×zAW))(D:zAA)(n:Bs):(zAA.each1 g D n).1.room=D.room:=by
 unfold zAA.each1
 split
 ·rfl
 ·split<;>rfl
theorem zGI (D:zAA)(n:Bs):(D.rid1 n).1.room=D.room:=by
 unfold zAA.rid1
 split
 ·show(zAA.each _ D [n]).1.room=_
  simp only[zAA.each]
  split
  ·exact each1_room _ _ _
  ·exact each1_room _ _ _
 ·rfl
theorem data_room {D:zAA}(h:D.OK){n:Bs}{f:zAW}(c:Sat.get n D.files=some f):f.data.length≤D.room:=by
 have b:zAA.size f≤D.used:=le_sum h.srt c;have d:=h.used;unfold zAA.size at b;omega
theorem scanJ_twelve (k:Nat):∀b:Bs,b.length≤k→12*(zD9 b).1.length≤b.length:=by
 induction k with
 | zero =>
  intro b h;rw[zBz (.inl (List.eq_nil_of_length_eq_zero (by omega)))];exact Nat.zero_le _
 | succ k ih =>
  intro b h
  by_cases c:decE b=0
  ·have f:=zEI c;have d:=ih (b.drop (decL b)) (by rw[List.length_drop];omega);rw[scan_go c];rw[List.length_drop]at d
   show 12*(_+1)≤_
   omega
  ·rw[zBz (.inr c)];exact Nat.zero_le _
theorem rec1_len {f:Bool}{M M':zAJ}{p:Bs}(h:zBs f M p=some M'):M'.entries.length≤M.entries.length+1:=by
 unfold zBs at h
 split at h
 ·cases h
 ·dsimp only at h
  repeat' split at h
  all_goals first
   | (cases h;done)
   | (cases h;simp;done)
   | (cases h;simp;omega)
theorem recGo_len:∀(l:List Bs) {M M':zAJ},zCT M l=some M'→M'.entries.length≤M.entries.length+l.length
 | [],M,M',h=>by cases h;exact Nat.le_refl _
 | p::r,M,M',h=>by
  have h:(zBs false M p).bind (fun M'=>zCT M' r)=some M':=h;cases b:zBs false M p with
  | none=>rw[b]at h;cases h
  | some M1 =>
   rw[b]at h;have c:=recGo_len r (M:=M1) (M':=M') h;have d:=rec1_len b;rw[List.length_cons];omega
theorem recAll_len {l:List Bs}{M M':zAJ}(h:zCa M l=some M'):M'.entries.length≤M.entries.length+l.length:=by
 cases l with
 | nil=>cases h
 | cons p r =>
  have h:(zBs true M p).bind (fun M'=>zCT M' r)=some M':=h;cases b:zBs true M p with
  | none=>rw[b]at h;cases h
  | some M1 =>
   rw[b]at h;have c:=recGo_len r (M:=M1) (M':=M') h;have d:=rec1_len b;rw[List.length_cons];omega
theorem zCL {D D':zAA}{pre:Bs}{M M':zAJ}{e:Nat}{a:Bool}(d:D.OK)(k:D.room≤1048576)(c:M.entries=[])(h:zBP D pre M=(D',e,a,M')):M'.entries.length≤1000000:=by
 unfold zBP at h
 split at h
 ·have b:M=M':=congrArg (fun x=>x.2.2.2) h;rw[←b,c];exact Nat.zero_le _
 ·rename_i f hf
  have i:=data_room d hf;have j:=scanJ_twelve _ f.data (Nat.le_refl _)
  split at h
  ·have b:M=M':=congrArg (fun x=>x.2.2.2) h;rw[←b,c];exact Nat.zero_le _
  ·rename_i M1 hM1
   have g:=recAll_len hM1;have b:M1=M':=congrArg (fun x=>x.2.2.2) h;rw[←b];rw[c]at g;simp only[List.length_nil]at g;omega
structure OpensJ (D:zAA)(pre:Bs)(nodes:List Int) where
 D1:zAA
 e1:Nat
 h1:D.rid1 (zAF (zAu pre))=(D1,e1)
 D2:zAA
 e2:Nat
 h2:D1.rid1 (zAF (zBt pre))=(D2,e2)
 s:Nat×Option zDP
 hs:zC5 (Sat.get (zBt pre) D2.files)=s
 l:zAA×Nat×Bool×zAJ
 hl:zBP D2 pre (zAJ.none0 nodes)=l
theorem zF9 (D:zAA)(pre:Bs)(nodes:List Int):Nonempty (OpensJ D pre nodes):=⟨⟨_,_,rfl,_,_,rfl,_,rfl,_,rfl⟩⟩
section
variable {D:zAA} {pre:Bs} {nodes:List Int} (O:OpensJ D pre nodes)
theorem oj_arg (h:pre.length<1∨20<pre.length∨zAZ nodes=false):zAV D pre nodes=(D,1,zAJ.none0 nodes):=by
 unfold zAV;rw[if_pos h]
theorem oj_rid1 (b:O.e1≠0):D.rid [zAF (zAu pre),zAF (zBt pre)]=(O.D1,O.e1):=by
 unfold zAA.rid;rw[O.h1];exact if_neg b
theorem oj_rid2 (c:O.e1=0):D.rid [zAF (zAu pre),zAF (zBt pre)]=(O.D2,O.e2):=by
 unfold zAA.rid;rw[O.h1];refine(if_pos c).trans ?_
 show zAA.rid O.D1 [zAF (zBt pre)]=_
 unfold zAA.rid;rw[O.h2];dsimp only
 by_cases b:O.e2=0
 ·rw[if_pos b]
  show(O.D2,0)=_
  rw[b]
 ·exact if_neg b
theorem oj_e1 (h:¬(pre.length<1∨20<pre.length∨zAZ nodes=false))(b:O.e1≠0):zAV D pre nodes=(O.D1,O.e1,zAJ.none0 nodes):=by
 unfold zAV;rw[if_neg h,oj_rid1 O b];exact if_pos b
theorem oj_e2 (h:¬(pre.length<1∨20<pre.length∨zAZ nodes=false))(b:O.e1=0)(c:O.e2≠0):zAV D pre nodes=(O.D2,O.e2,zAJ.none0 nodes):=by
 unfold zAV;rw[if_neg h,oj_rid2 O b];exact if_pos c
theorem oj_e3 (h:¬(pre.length<1∨20<pre.length∨zAZ nodes=false))(b:O.e1=0)(c:O.e2=0)(d:O.s.1≠0):zAV D pre nodes=(O.D2,O.s.1,zAJ.none0 nodes):=by
 unfold zAV;rw[if_neg h,oj_rid2 O b];dsimp only;rw[if_neg (by simpa using c),O.hs];exact if_pos d
theorem oj_go (h:¬(pre.length<1∨20<pre.length∨zAZ nodes=false))(b:O.e1=0)(c:O.e2=0)(d:O.s.1=0):zAV D pre nodes=(if O.l.2.1≠0 then(O.l.1,O.l.2.1,zAJ.none0 nodes)else
 match zAo O.s.2 O.l.2.2.2 O.l.2.2.1 with
 | none=>(O.l.1,3,zAJ.none0 nodes)
 | some (anew,M)=>if anew then((zAT O.l.1 pre M).1,(zAT O.l.1 pre M).2,M)else(O.l.1,0,M)):=by
 unfold zAV;rw[if_neg h,oj_rid2 O b];dsimp only;rw[if_neg (by simpa using c),O.hs,if_neg (by simpa using d),O.hl];rfl
theorem oj_e4 (h:¬(pre.length<1∨20<pre.length∨zAZ nodes=false))(b:O.e1=0)(c:O.e2=0)(d:O.s.1=0)(f:O.l.2.1≠0):zAV D pre nodes=(O.l.1,O.l.2.1,zAJ.none0 nodes):=(oj_go O h b c d).trans (if_pos f)
theorem oj_no (h:¬(pre.length<1∨20<pre.length∨zAZ nodes=false))(b:O.e1=0)(c:O.e2=0)(d:O.s.1=0)(f:O.l.2.1=0)(g:zAo O.s.2 O.l.2.2.2 O.l.2.2.1=none):zAV D pre nodes=(O.l.1,3,zAJ.none0 nodes):=by
 rw[oj_go O h b c d,if_neg (by simpa using f),g]
theorem oj_keep (h:¬(pre.length<1∨20<pre.length∨zAZ nodes=false))(b:O.e1=0)(c:O.e2=0)(d:O.s.1=0)(f:O.l.2.1=0){M:zAJ}(g:zAo O.s.2 O.l.2.2.2 O.l.2.2.1=some (false,M)):zAV D pre nodes=(O.l.1,0,M):=by
 rw[oj_go O h b c d,if_neg (by simpa using f),g];rfl
theorem oj_anew (h:¬(pre.length<1∨20<pre.length∨zAZ nodes=false))(b:O.e1=0)(c:O.e2=0)(d:O.s.1=0)(f:O.l.2.1=0){M:zAJ}(g:zAo O.s.2 O.l.2.2.2 O.l.2.2.1=some (true,M)):zAV D pre nodes=((zAT O.l.1 pre M).1,(zAT O.l.1 pre M).2,M):=by
 rw[oj_go O h b c d,if_neg (by simpa using f),g];rfl
end
def zFs (w w1:World)(d:Nat)(pre:ByteArray)(F:Nat→Prop)(r:zAA×Nat×zAJ)(e:Ending)(w':World):Prop :=
 St w w' d r.1 F∧Same F w1 w'∧((r.2.1=0∧∃j,e=.returned (.tuple #[.pointer (some ⟨j,0,none⟩),.int .i64 0])∧zAk w w' j d pre r.1 r.2.2 F)∨(r.2.1≠0∧e=.returned (.tuple #[.pointer none,.int .i64 (r.2.1:Int)])))
theorem jou_fresh {w w1:World}{d:Nat}{D:zAA}{F:Nat→Prop}{nodes:List Int}{f:Value}(h:St w w1 d D (fun k=>F k∨f.ownBlock=some k))(pre:ByteArray)(o:1≤pre.size∧pre.size≤20)(n:zAZ nodes=true)(c:zCd w1 f nodes)(j:∀k,f.ownBlock=some k→w.heap.size≤k∧¬F k) :
  zAk w (w1.alloc (.cells #[.int .i64 0,.int .i64 0,f,.pointer (some ⟨d,0,none⟩),.string pre,.int .i64 0,.int .i64 (-1),.slice none 0 0,.slice none 0 0,.bool false] 132)) w1.heap.size d pre D (zAJ.none0 nodes) F:=by
 have g:=zAD w1 (.cells #[.int .i64 0,.int .i64 0,f,.pointer (some ⟨d,0,none⟩),.string pre,.int .i64 0,.int .i64 (-1),.slice none 0 0,.slice none 0 0,.bool false] 132);refine⟨fun k=>k=w1.heap.size∨f.ownBlock=some k,f,.slice none 0 0,.slice none 0 0,[],⟨zAI w1 _,zGB c g,OwnR.nil _ _ _,OwnR.nil _ _ _,⟨rfl,fun i e v l q=>(by simp at q)⟩,.inl rfl,fun k b=>⟨.inr b,fun e=>by have:=OwnR.lt c b;omega,fun e=>(by cases e)⟩,fun k b=>(by cases b),fun k b=>(by cases b),fun u p=>(by simp at p),fun k b=>?_,o,⟨Nat.zero_le _,rfl,n,rfl,⟨show(-1:Int)≤-1 by decide,show(-1:Int)<7 by decide⟩,Nat.zero_le _,fun e l=>(by cases l)⟩⟩,h.move (Chg.of_below g) (fun _ _ h=>h.elim) (fun k b=>?_),fun k b=>?_,fun k b=>Nat.lt_of_lt_of_le (h.flt (.inl b)) g.size⟩
 ·rcases b with b|b
  ·rw[b];simp
  ·exact Nat.lt_of_lt_of_le (OwnR.lt c b) g.size
 ·rcases b with(b|b)|b
  ·exact⟨.inr (by omega),by rw[b];simp⟩
  ·exact⟨.inl (.inr b),Nat.lt_of_lt_of_le (OwnR.lt c b) g.size⟩
  ·exact⟨.inl (.inl b),Nat.lt_of_lt_of_le (h.flt (.inl b)) g.size⟩
 ·rcases b with b|b
  ·exact⟨by rw[b];exact h.below.size,fun m=>by have:=h.flt (.inl m);omega⟩
  ·exact j k b
structure zAQ where
 n:Bs
 b:Value
 f:zAW
def zAQ.cells (x:zAQ):List Value:=[encStr x.n,x.b,.int .i64 (x.f.lasts:Int)]
def zAQ.key (x:zAQ):Bs×zAW:=(x.n,x.f)
def zFY:Option Nat→Int
 | none=>-1
 | some k=>k
theorem zFE (L:List zAQ)(i:Nat)(x:zAQ)(h:L[i]?=some x)(j:Nat)(b:j<3):(L.flatMap zAQ.cells)[i*3+j]?=x.cells[j]?:=by
 induction L generalizing i with
 | nil=>simp at h
 | cons y r ih =>
  rw[List.flatMap_cons];cases i with
  | zero =>
   simp at h;subst h;rw[List.getElem?_append_left (by simp[zAQ.cells];omega)];simp
  | succ i =>
   rw[List.getElem?_append_right (by simp[zAQ.cells];omega)];have e:(i+1)*3+j-y.cells.length=i*3+j:=by simp[zAQ.cells];omega
   rw[e];exact ih i (by simpa using h)
structure zAd (w:World)(r:Nat)(v:Value)(L:List zAQ)(own:Nat→Prop)(D:zAA):Prop where
 cells:w.heap[r]?=some (.cells #[.int .i64 (D.room:Int),v,.int .i64 (zFY D.fuse)] 118 (0,0))
 row:OwnR w 127 3 v L.length (L.flatMap zAQ.cells)
 files:D.files=L.map zAQ.key
 data:∀x∈L,zAi w 5 x.b x.f.data
 or:own r
 ov:∀k,v.ownBlock=some k→own k∧k≠r
 ob:∀x∈L,∀k,x.b.ownBlock=some k→own k∧k≠r∧v.ownBlock≠some k
 olt:∀k,own k→k<w.heap.size
 ok:D.OK
def RefAt (w:World)(r:Nat)(D:zAA)(own:Nat→Prop):Prop:=∃v L,zAd w r v L own D
theorem zAd.keep {w w':World}{r:Nat}{v:Value}{L:List zAQ}{own:Nat→Prop}{D:zAA}(h:zAd w r v L own D)(f:w.heap.size≤w'.heap.size)(c:∀k,own k→w'.heap[k]?=w.heap[k]?):zAd w' r v L own D where
 cells:=(c r h.or).trans h.cells
 row:=h.row.keep fun k b=>c k (h.ov k b).1
 files:=h.files
 data:=fun x d=>OwnR.keep (h.data x d) fun k b=>c k (h.ob x d k b).1
 or:=h.or
 ov:=h.ov
 ob:=h.ob
 olt:=fun k b=>Nat.lt_of_lt_of_le (h.olt k b) f
 ok:=h.ok
theorem RefAt.keep {w w':World}{r:Nat}{own:Nat→Prop}{D:zAA}(h:RefAt w r D own)(c:w.heap.size≤w'.heap.size)(b:∀k,own k→w'.heap[k]?=w.heap[k]?):RefAt w' r D own:=by
 obtain⟨v,L,h⟩:=h;exact⟨v,L,h.keep c b⟩
section
variable {w:World} {r:Nat} {v:Value} {L:List zAQ} {own:Nat→Prop} {D:zAA}
theorem zAd.c0 (h:zAd w r v L own D):w.cell? ⟨r,0,none⟩=some (.int .i64 (D.room:Int)):=zAG h.cells rfl
theorem zAd.c1 (h:zAd w r v L own D):w.cell? ⟨r,1,none⟩=some v:=zAG h.cells rfl
theorem zAd.c2 (h:zAd w r v L own D):w.cell? ⟨r,2,none⟩=some (.int .i64 (zFY D.fuse)):=zAG h.cells rfl
theorem zAd.len (h:zAd w r v L own D):L.length=D.files.length:=by rw[h.files,List.length_map]
theorem zAd.at (h:zAd w r v L own D):L=[]∨∃g c,v=.slice (some ⟨g,0,none⟩) L.length c∧L.length≤c∧∀i x,L[i]?=some x→w.cell? ⟨g,i*3,none⟩=some (encStr x.n)∧w.cell? ⟨g,i*3+1,none⟩=some x.b∧w.cell? ⟨g,i*3+2,none⟩=some (.int .i64 (x.f.lasts:Int)):=by
 rcases h.row.2 with⟨rfl,hn⟩|⟨g,d,cur,e,m,k,_⟩
 ·exact .inl (List.eq_nil_of_length_eq_zero hn)
 ·refine .inr ⟨g,d,e,k,fun i x l=>?_⟩;have j:=h.row.cells (g:=g) (by rw[e];rfl);refine⟨?_,?_,?_⟩
  ·have:=j (i*3+0) (encStr x.n) ((zFE L i x l 0 (by omega)).trans rfl);rwa[add_zero]at this
  ·have:=j (i*3+1) x.b ((zFE L i x l 1 (by omega)).trans rfl);rwa[add_zero]at this
  ·have:=j (i*3+2) _ ((zFE L i x l 2 (by omega)).trans rfl);rwa[add_zero]at this
theorem zAd.slice (h:zAd w r v L own D):∃p c,v=.slice p L.length c:=OwnR.shape h.row
end
def zA5 (n:Bs):List Bs→Nat
 | []=>0
 | x::r=>if bytesBefore x n then zA5 n r+1 else 0
def isAt (n:Bs)(l:List Bs):Bool:=l[zA5 n l]? ==some n
theorem less_before (x:Bs)(s:ByteArray):Op.bytesLess x s.toList=bytesBefore x (nm s):=by
 have e:s.toList=nm s:=ByteArray.toList_eq s;rw[e,Bool.eq_iff_iff,bb_lt,bytesLess_eq,decide_eq_true_eq]
theorem drop_cons {α:Type}{l:List α}{k:Nat}{x:α}(h:l[k]?=some x):l.drop k=x::l.drop (k+1):=by
 obtain⟨b,rfl⟩:=List.getElem?_eq_some_iff.1 h;exact List.drop_eq_getElem_cons b
theorem zEC {n x:Bs}{r:List Bs}(h:bytesBefore x n=true):zA5 n (x::r)=zA5 n r+1:=by
 show(if bytesBefore x n then _ else _)=_
 rw[if_pos h]
theorem zFU {n x:Bs}{r:List Bs}(h:bytesBefore x n=false):zA5 n (x::r)=0:=by
 show(if bytesBefore x n then _ else _)=_
 rw[if_neg (by simp[h])]
theorem spotN_le (n:Bs):∀l,zA5 n l≤l.length
 | []=>Nat.le_refl _
 | x::r=>by
  have:=spotN_le n r;cases h:bytesBefore x n with
  | true=>rw[zEC h];simp;omega
  | false=>rw[zFU h];exact Nat.zero_le _
theorem zBm {w:World}{r:Nat}{v:Value}{L:List zAQ}{own:Nat→Prop}{D:zAA}(h:zAd w r v L own D)(s:ByteArray) :
  Calls prog 70 #[.pointer (some ⟨r,0,none⟩),.string s] w fun e w'=>e=.returned (.tuple #[.int .i64 (zA5 (nm s) (L.map zAQ.n):Int),.bool (isAt (nm s) (L.map zAQ.n))])∧∃q,w'=w.drewN q:=by
 obtain⟨p,c,rfl⟩:=h.slice;have T:=h.c1;have F:=zh h.at
 have E:L.length≤4096:=by rw[h.len];exact h.ok.count
 clear h;have A:(L.map zAQ.n).length=L.length:=List.length_map ..;generalize P:L.length=N at *;have S:=zh P;have t:=zh A;clear P A
 go_enter func70,ntmps70
 go_wp2_with fail
 go_loop [6] (fun i=>∃k:Nat,k≤N∧i=.int .i64 k∧zA5 (nm s) (L.map zAQ.n)=k+zA5 (nm s) ((L.map zAQ.n).drop k)) (fun i=>N-(intOf i).toNat)
 case atStart=>exact⟨0,Nat.zero_le _,rfl,by simp⟩
 case round =>
  obtain⟨k,W,rfl,b⟩:=hrel
  by_cases J:k<N
  ·have l:k<L.length:=by rw[S.o];exact J
   obtain⟨y,O⟩:∃y,L[k]?=some y:=⟨_,List.getElem?_eq_getElem l⟩;have m:(L.map zAQ.n)[k]?=some y.n:=by rw[List.getElem?_map,O];rfl
   rw[drop_cons m]at b;rcases F.o with V|⟨g,T,U,-,Q⟩
   ·rw[V]at l;simp at l
   cases U;obtain⟨M,-,-⟩:=Q k y O;rw[enc_str]at M;have a:=zh b;have G:=zh m;clear Q l O b m;generalize y.n=x at *;cases B:bytesBefore x (nm s)with
   | true =>
    have H:Op.bytesLess x s.toList=true:=by rw[less_before];exact B
    go_wp2_with fail
    go_round
    case rel=>exact⟨k+1,by omega,by go_num,by rw[a.o,zEC B];omega⟩
    case measure=>simp[intOf];omega
   | false =>
    have H:Op.bytesLess x s.toList=false:=by rw[less_before];exact B
    have d:zA5 (nm s) (L.map zAQ.n)=k:=by rw[a.o,zFU B];rfl
    have z:isAt (nm s) (L.map zAQ.n)=(x==nm s):=by unfold isAt;rw[d,G.o];rfl
    have f:=zh (show Value.tuple #[.int .i64 (k:Int),.bool (x==s.toList)]=.tuple #[.int .i64 (zA5 (nm s) (L.map zAQ.n):Int),.bool (isAt (nm s) (L.map zAQ.n))] by rw[d,z,ByteArray.toList_eq];rfl);clear d z B;go_wp2_with fail
    go_quiet (fail)
    go_wp2
    go_ret2
    exact⟨congrArg Ending.returned f.o,_,rfl⟩
  ·have I:k=N:=by omega
   subst I;have R:(L.map zAQ.n).drop k=[]:=List.drop_of_length_le (by rw[t.o];exact Nat.le_refl _);rw[R]at b;have j:zA5 (nm s) (L.map zAQ.n)=k:=b;have C:isAt (nm s) (L.map zAQ.n)=false:=by unfold isAt;rw[j,List.getElem?_eq_none (by rw[t.o];exact Nat.le_refl _)];rfl
   have f:=zh (show Value.tuple #[.int .i64 (k:Int),.bool false]=.tuple #[.int .i64 (zA5 (nm s) (L.map zAQ.n):Int),.bool (isAt (nm s) (L.map zAQ.n))] by rw[j,C]);clear b j C R;go_wp2_with fail
   go_quiet (fail)
   go_wp2
   go_ret2
   exact⟨congrArg Ending.returned f.o,_,rfl⟩
end Go.Proofs.YtapfnehdgailmaaGreat
