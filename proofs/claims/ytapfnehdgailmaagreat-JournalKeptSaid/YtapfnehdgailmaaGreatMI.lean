/- What the program's functions and the document's do, and plain laws, for PJournalKept. -/
import Derived.Sort.Walk0
import Derived.Test.YtapfnehdgailmaaGreatMA
import Derived.Test.YtapfnehdgailmaaGreatMD
import Derived.Test.YtapfnehdgailmaaGreatMH
open Go.Proofs.Tryz
set_option maxRecDepth 100000
set_option maxHeartbeats 64000000
namespace Go.Proofs.YtapfnehdgailmaaGreat
open Go.RowKit Go.Sat Go.Maps
theorem zE4 {P:Program}{fn:Func}{p u v z:Tmp}{ty:TypeId}(h:fn.results=#[.cell p ty,.tmp u,.tmp v,.tmp z])(b:Array Value)(w:World)(g:Nat)(t:TypeId)(cs:Array Value)(c:Nat×Nat)(d:TypeDesc)
  (l:b.getD p undef=.pointer (some ⟨g,0,none⟩)) (j:w.heap[g]?=some (.cells cs t c))
  (m:P.underlying ty=some d) (i:(match d with | .struct _ | .array _ _=>true|_=>false)=true) (k:(P.info? ty).map (·.size)=some cs.size) :
  (results fn b).run P w=.ok (.tuple #[.agg cs,b.getD u undef,b.getD v undef,b.getD z undef]) w:=by
 have f:(results fn b).run P w=((asAddr (b.getD p undef)).run P w).andThen fun a n=>((loadVar ty a).run P n).andThen fun x o=>.ok (.tuple #[x,b.getD u undef,b.getD v undef,b.getD z undef]) o:=by
  simp only[results,h];simp[Sem.run_bind,Result.andThen]
 rw[f,l];simp[asAddr,run_loadVar_row w g t ty cs c d j m i k]
def zCG (W:World)(b:Nat)(x y z:Value):World:=((W.setCell ⟨b,0,none⟩ x).setCell ⟨b,1,none⟩ y).setCell ⟨b,2,none⟩ z
theorem base_keep {W:World}{b:Nat}{x y z:Value}(h:W.heap[b]?=some (.cells #[x,y,z] 130 (0,0))):(zCG W b x y z).heap[b]?=some (.cells #[x,y,z] 130 (0,0))∧Chg (fun _=>False) W (zCG W b x y z):=by
 have f:=zAD h 0 x;have g:=zAD f 1 y;have d:=zAD g 2 z;have d:(zCG W b x y z).heap[b]?=some (.cells #[x,y,z] 130 (0,0)):=by simpa[zCG]using d
 have c:Chg (fun k=>k=b) W (zCG W b x y z):=((Chg.setCell W ⟨b,0,none⟩ x).trans (Chg.setCell _ ⟨b,1,none⟩ y) fun _ _ e=>e).trans (Chg.setCell _ ⟨b,2,none⟩ z) fun _ _ e=>e;refine⟨d,c.os,c.tape,c.output,c.size,fun k i _=>?_⟩
 by_cases e:k=b
 ·rw[e,d,h]
 ·exact c.block k i e
def RsnTold (w1:World)(r:Nat×Option zC8)(e:Ending)(w':World):Prop :=
 Below w1.heap.size w1 w'∧∃(n t:Int) (gp:Option Addr) (gn gc:Nat) (dv:Value),e=.returned (.tuple #[.agg #[.int .i64 n,.int .i64 t,.slice gp gn gc],dv,.bool r.2.isSome,.int .i64 (r.1:Int)]) ∧
  ∀s,r.2=some s→n=s.number∧t=s.term∧zCp w' (.slice gp gn gc) s.group∧zAk w' 5 dv s.data∧∀k,((Value.slice gp gn gc).ownBlock=some k∨dv.ownBlock=some k)→w1.heap.size≤k
theorem loadE_cases (o:Option zAS):loadE o=0∨loadE o=3∨loadE o=7:=by
 unfold loadE
 split
 ·split
  ·exact .inl rfl
  ·exact .inr (.inl rfl)
 ·exact .inr (.inr rfl)
theorem loadB_le {D:zAA}(h:D.OK)(n:Bs):(zEX (Sat.get n D.files)).length≤1073741824:=by
 have b:=zFI h n;cases c:Sat.get n D.files with
 | none=>rw[loadB_none];exact Nat.zero_le _
 | some f =>
  rw[c]at b;rw[zFR];unfold oneB decB
  split
  ·split
   ·rw[List.length_take,List.length_drop];omega
   ·exact Nat.zero_le _
  ·exact Nat.zero_le _
theorem zGc {o:Option zAS}(h:loadE o=7):zCD o=(0,none):=by unfold zCD;rw[if_pos h]
theorem snapOf_3 {o:Option zAS}(h:loadE o=3):zCD o=(3,none):=by unfold zCD;rw[if_neg (by omega),if_pos (by omega),h]
theorem snapOf_0 {o:Option zAS}(h:loadE o=0):zCD o=match zDD (zEX o)with|none=>(3,none)|some s=>(0,some s):=by unfold zCD;rw[if_neg (by omega),if_neg (by omega)];rfl
theorem snap_no {w1 w2:World}{r:Nat×Option zC8}{k:Nat}(g:r=(k,none))(f:Below w1.heap.size w1 w2)(n t:Int)(d:Option Addr)(c b:Nat)(dv:Value):RsnTold w1 r (.returned (.tuple #[.agg #[.int .i64 n,.int .i64 t,.slice d c b],dv,.bool false,.int .i64 (k:Int)])) w2:=by
 subst g;exact⟨f,n,t,d,c,b,dv,rfl,fun s h=>by cases h⟩
section
variable {w w1 w2:World} {j d:Nat} {pre:ByteArray} {D:zAA} {M:zAH} {F:Nat→Prop}
theorem rsnap_calls (h:zAj w w1 j d pre D M F) :
  Calls prog 77 #[.pointer (some ⟨j,0,none⟩)] w1 (RsnTold w1 (zCD (Sat.get (zBR (nm pre)) D.files))):=by
 have bd:=h.psz;have Y:(sSnp pre).size=pre.size+5:=zGb pre;obtain⟨c3,c4,-⟩:=h.jc;have aY:=loadB_le h.okD (zBR (nm pre));have H:=zh h;have R:=zh (zAC w1 (.cells #[.int .i64 0,.int .i64 0,.slice none 0 0] 130));have af:=zh (zAJ w1 (.cells #[.int .i64 0,.int .i64 0,.slice none 0 0] 130));have Ho:=zW (Sat.get (zBR (nm pre)) D.files=Sat.get (zBR (nm pre)) D.files) rfl;generalize aJ:Sat.get (zBR (nm pre)) D.files=o at *;clear Ho;have Ho:=zh aJ;clear h aJ;rcases loadE_cases o with h0|h3|h7
 ·have HI:=zh (snapOf_0 h0);have He:=zh h0;clear h0;generalize zCD o=SO at *;generalize aE:zEX o=y at *;have aU:=zh aE;clear aE
  go_enter func77,ntmps77
  go_wp2_with fail;refine ost (fun w':World=>w'.cell? ⟨j,3,none⟩=some (.pointer (some ⟨d,0,none⟩))∧w'.cell? ⟨j,4,none⟩=some (.string pre)) 15 (⟨zBX c3 _,zBX c4 _⟩) fun f=>?_;have m:=zh (R.o.trans ((zAU (w1.alloc (.cells #[.int .i64 0,.int .i64 0,.slice none 0 0] 130))).mono R.o.size));have q:=zW ((w1.alloc (.cells #[.int .i64 0,.int .i64 0,.slice none 0 0] 130)).drew.heap[w1.heap.size]?=_) af.o;generalize (w1.alloc (.cells #[.int .i64 0,.int .i64 0,.slice none 0 0] 130)).drew=W1 at *;refine Pl [0,1,2,3,4,5,6,7,8] ?_
  iterate 9 (refine Pc rfl ?_;simp only[uZ])
  refine Pn ?_;refine oon 9 rfl fun K hK=>?_;have t:=zh (load_calls (H.o.next m.o).st (sSnp pre) (by rw[Y];omega));rw[nm_snp]at t;go_wp2_with fail;refine t.o.mono ?_;rintro e w2 ⟨v,rfl,Q,Z,E,-⟩;rw[Ho.o]at Q ⊢;have C:=zh (And.intro (zAI f.1 E) (zAI f.2 E));have B:=zh (m.o.trans (E.mono m.o.size));have b:=zh ((E.block _ (zAB q.o)).trans q.o);have U:=zh Q;obtain⟨pv,cv,rfl,-⟩:=zAN Q;clear Q Z E t;rw[He.o];rw[aU.o]at U ⊢;go_wp2_with fail;refine hK.o _ _ (C.o) fun f=>?_;clear hK
  try simp only[uZ]
  refine Pl [10,11,12,13,14] ?_
  iterate 5 (refine Pc rfl ?_;simp only[uZ])
  refine Pn ?_;refine odn ?_;clear C m q;have az:=zh (zB4 (show zAY w2 (.slice pv y.length cv) y from U.o.has) (by omega));go_wp2_with fail;refine az.o.mono ?_;rintro e w3 ⟨r,rfl,hr,al,aM,ai⟩;have ap:=zW (Below w1.heap.size w1 w3) (B.o.trans (ai.mono B.o.size));have ab:=(ai.block _ (zAB b.o)).trans b.o;have aF:w1.heap.size<r:=Nat.lt_of_lt_of_le (zAB b.o) al;have HP:=zW (zDQ (w3.alloc (.cells #[.pointer (some ⟨w1.heap.size,0,none⟩),.pointer (some ⟨w1.heap.size,1,none⟩)] 204)) r [⟨w1.heap.size,0,none⟩,⟨w1.heap.size,1,none⟩]) (by
   have n:=zBA (.cells #[.pointer (some ⟨w1.heap.size,0,none⟩),.pointer (some ⟨w1.heap.size,1,none⟩)] 204) ab;refine⟨fun a O=>?_,fun a O=>?_,fun a O=>?_,fun a O=>?_⟩
   all_goals
    simp only[List.mem_cons,List.not_mem_nil,or_false]at O;rcases O with rfl|rfl
   ·exact⟨_,zAG n rfl⟩
   ·exact⟨_,zAG n rfl⟩
   ·exact zAE n 0
   ·exact zAE n 1
   ·intro e;have e2:w1.heap.size=r:=e;omega
   ·intro e;have e2:w1.heap.size=r:=e;omega
   ·rfl
   ·rfl)
  have aZ:=zAB ab;have HN:=zh (zEb (hr.chg (Chg.alloc w3 (.cells #[.pointer (some ⟨w1.heap.size,0,none⟩),.pointer (some ⟨w1.heap.size,1,none⟩)] 204)) (fun e=>e) fun _ _ e=>e) (g:=w3.heap.size) (c:=2) HP.o (by simp) (fun i a hi=>by
   refine zAG (zAJ w3 _) ?_
   match i,hi with
   | 0,hi=>cases hi;rfl
   | 1,hi=>cases hi;rfl) (fun e=>by omega) (fun a O e=>by
    simp only[List.mem_cons,List.not_mem_nil,or_false]at O;rcases O with rfl|rfl
    ·have e3:w1.heap.size=w3.heap.size:=e;omega
    ·have e3:w1.heap.size=w3.heap.size:=e;omega) (fun k n=>⟨by omega,fun a O e=>by
    have:=zAB b.o;simp only[List.mem_cons,List.not_mem_nil,or_false]at O;rcases O with rfl|rfl
    ·have e3:k=w1.heap.size:=e;omega
    ·have e3:k=w1.heap.size:=e;omega⟩))
  have HS:=zh (And.intro aF (And.intro aM (And.intro al (zAB b.o))));have ay:=zh (zBA (.cells #[.pointer (some ⟨w1.heap.size,0,none⟩),.pointer (some ⟨w1.heap.size,1,none⟩)] 204) ab);have aP:=zh (ap.o.trans ((zAC w3 (.cells #[.pointer (some ⟨w1.heap.size,0,none⟩),.pointer (some ⟨w1.heap.size,1,none⟩)] 204)).mono ap.o.size));clear hr al aM ai ab aF aZ;have ba:=Rd.num_le ⟨y,false⟩;have bc:=Rd.num_le (Rd.num ⟨y,false⟩).2;have aR:=zW (Rd.ints 2 ⟨y,false⟩=([((Rd.num ⟨y,false⟩).1:Int),((Rd.num ⟨y,false⟩).2.num.1:Int)],(Rd.num ⟨y,false⟩).2.num.2)) rfl;have T:=zW (zDD y=(if((Rd.num ⟨y,false⟩).2.num.2.grp zAX).2.bytes.2.whole∧1≤(Rd.num ⟨y,false⟩).1∧(Rd.num ⟨y,false⟩).1≤1099511627776∧(Rd.num ⟨y,false⟩).2.num.1≤1099511627776∧((Rd.num ⟨y,false⟩).2.num.2.grp zAX).2.bytes.1.length≤524288 then some ⟨(Rd.num ⟨y,false⟩).1,((Rd.num ⟨y,false⟩).2.num.1:Int),((Rd.num ⟨y,false⟩).2.num.2.grp zAX).1,((Rd.num ⟨y,false⟩).2.num.2.grp zAX).2.bytes.1⟩else none)) rfl;generalize (Rd.num ⟨y,false⟩).1=A at *;generalize (Rd.num ⟨y,false⟩).2.num.1=G at *;generalize (Rd.num ⟨y,false⟩).2.num.2=W at *;go_wp2_with fail;refine HN.o.mono ?_;rintro e w4 ⟨rfl,X,aG,ak⟩;rw[show([⟨w1.heap.size,0,none⟩,⟨w1.heap.size,1,none⟩]:List Addr).length=2 from rfl,aR.o]at X ak;have hq:=ak w1.heap.size (zAB ay.o) (by have:=HS.o.1;omega);have aN:=zAD ay.o 0 (.int .i64 (A:Int));have am:=zAD aN 1 (.int .i64 (G:Int));rw[show((#[Value.int IntKind.i64 0,.int .i64 0,.slice none 0 0]:Array Value).setIfInBounds 0 (.int .i64 (A:Int))).setIfInBounds 1 (.int .i64 (G:Int))=#[.int .i64 (A:Int),.int .i64 (G:Int),.slice none 0 0]from rfl]at am;have ag:=zW (w4.heap[w1.heap.size]?=some (.cells #[.int .i64 (A:Int),.int .i64 (G:Int),.slice none 0 0] 130 (0,0))) (hq.trans am);have ad:=zW (Below w1.heap.size w1 w4) (by
   refine(((Chg.of_below aP.o).mono fun _ _ e=>e.elim:Chg (fun k=>w1.heap.size≤k) w1 _).trans aG fun k _ e=>?_).below (Nat.le_refl _) fun k n e=>by omega
   rcases e with rfl|⟨a,O,rfl⟩
   ·have:=HS.o.1;omega
   ·simp only[List.mem_cons,List.not_mem_nil,or_false]at O;rcases O with rfl|rfl<;>exact Nat.le_refl _)
  have aS:=zh X.lt;have HG:=zh (readGrp_grp X (fun k n=>⟨by have:=X.lt;omega,by omega⟩));clear X aG ak hq aN am b;go_wp2_with fail;refine HG.o.mono ?_;rintro e w5 ⟨v5,rfl,an,aH,aK,aj⟩;have aO:=zW (Below w1.heap.size w1 w5) (ad.o.trans (aj.below ad.o.size fun k n e=>by have:=HS.o.1;omega));have ac:=(aj.block _ (zAB ag.o) (by have:=HS.o.1;omega)).trans ag.o;obtain⟨N,L,e5,-⟩:=zAw an;subst e5;have ae:=zW (∀k,(Value.slice N (W.grp zAX).1.length L).ownBlock=some k→w1.heap.size≤k∧k≠w1.heap.size∧k≠r) (fun k n=>by
   have h1:=aH k n;have h2:=zAB ag.o;have h3:=ad.o.size;have h6:=aS.o;exact⟨by omega,by omega,by omega⟩)
  have q2:=zAo ac;have fr:=zAE ac 2;have h6:=zAD ac 2 (.slice N (W.grp zAX).1.length L);rw[show(#[Value.int IntKind.i64 (A:Int),.int .i64 (G:Int),.slice none 0 0]:Array Value).setIfInBounds 2 (.slice N (W.grp zAX).1.length L)=#[.int .i64 (A:Int),.int .i64 (G:Int),.slice N (W.grp zAX).1.length L]from rfl]at h6;have ah:=zh h6;have aw:=zW (zCp (w5.setCell ⟨w1.heap.size,2,none⟩ (.slice N (W.grp zAX).1.length L)) (.slice N (W.grp zAX).1.length L) (W.grp zAX).1) (OwnR.keep an fun k n=>set_other _ fun e=>(ae.o k n).2.1 e);have aQ:=zh (zGS (aK.chg (Chg.setCell w5 ⟨w1.heap.size,2,none⟩ (.slice N (W.grp zAX).1.length L)) (fun e=>by have:=HS.o.1;have e2:r=w1.heap.size:=e;omega) (fun k n e=>by have h7:=HS.o.2.2.2;have e2:k=w1.heap.size:=e;omega)));have aq:=zW (Below w1.heap.size w1 (w5.setCell ⟨w1.heap.size,2,none⟩ (.slice N (W.grp zAX).1.length L))) ((((Chg.of_below aO.o).mono fun _ _ e=>e.elim:Chg (fun k=>k=w1.heap.size) w1 w5).trans (Chg.setCell w5 ⟨w1.heap.size,2,none⟩ _) fun k _ e=>e).below (Nat.le_refl _) fun k n e=>by omega);clear an aH aK aj ac h6;generalize (W.grp zAX).2=R4 at *;generalize (W.grp zAX).1=gg at *;go_wp2_with fail;clear q2 fr;generalize w5.setCell ⟨w1.heap.size,2,none⟩ (.slice N gg.length L)=w6 at *;refine aQ.o.mono ?_;rintro e w7 ⟨v7,rfl,ao,aI,aL,aa⟩;have ar:=zW (Below w1.heap.size w1 w7) (aq.o.trans (aa.below aq.o.size fun k n e=>by have:=HS.o.1;omega));have J:=zh ((aa.block _ (zAB ah.o) (by have:=HS.o.1;omega)).trans ah.o);have ax:=zW (zCp w7 (.slice N gg.length L) gg) (OwnR.keep aw.o fun k n=>aa.block k (OwnR.lt aw.o n) fun e=>(ae.o k n).2.2 e);have HW:=zh (zDd aL.at.hd);have aT:=zW (∀k,v7.ownBlock=some k→w1.heap.size≤k∧k≠w1.heap.size) (fun k n=>by
   have h1:=aI k n;have h2:=zAB ah.o;exact⟨by omega,by omega⟩)
  have av:=zh ao;generalize R4.bytes.2=R5 at *;generalize R4.bytes.1=bb at *;obtain⟨p7,c7,e7,-⟩:=zAN ao;subst e7;clear ao aI aL aa;have S:=zh (base_keep J.o);have HZ:=zh S.o.1;have au:=zW (Below w1.heap.size w1 (zCG w7 w1.heap.size (.int .i64 (A:Int)) (.int .i64 (G:Int)) (.slice N gg.length L))) (ar.o.trans (S.o.2.below ar.o.size fun _ _ e=>e));have V:=zh (fun(hn:zDD y=none)=>snap_no (r:=SO) (k:=3) (by rw[HI.o,hn]) au.o (A:Int) (G:Int) N gg.length L (.slice none 0 0));have aA:=zh (fun(hn:zDD y=some ⟨A,(G:Int),gg,bb⟩)=>show RsnTold w1 SO (.returned (.tuple #[.agg #[.int .i64 (A:Int),.int .i64 (G:Int),.slice N gg.length L],.slice p7 bb.length c7,.bool true,.int .i64 0])) (zCG w7 w1.heap.size (.int .i64 (A:Int)) (.int .i64 (G:Int)) (.slice N gg.length L)) by
   rw[HI.o,hn];refine⟨au.o,_,_,_,_,_,_,rfl,fun s hs=>?_⟩;cases hs;exact⟨rfl,rfl,OwnR.keep ax.o fun k n=>S.o.2.block k (OwnR.lt ax.o n) fun e=>e,OwnR.keep av.o fun k n=>S.o.2.block k (OwnR.lt av.o n) fun e=>e,fun k n=>n.elim (fun h=>(ae.o k h).1) fun h=>(aT.o k h).1⟩)
  have Ht:=zh (zD2 w7 (G:Int));have q0:=zAd J.o;have q1:=zAn J.o;have q2:=zAo J.o;have aB:=zAE J.o 0;have aC:=zAE J.o 1;have aD:=zAE J.o 2;clear S HI aY;unfold zCG at *;have l:=zh (fun tm hp=>zE4 (P:=prog) (fn:=Tryz.f77) (p:=2) (u:=3) (v:=4) (z:=5) (ty:=130) rfl tm (((w7.setCell ⟨w1.heap.size,0,none⟩ (.int .i64 (A:Int))).setCell ⟨w1.heap.size,1,none⟩ (.int .i64 (G:Int))).setCell ⟨w1.heap.size,2,none⟩ (.slice N gg.length L)) w1.heap.size _ _ (0,0) _ hp HZ.o underlying130 rfl (by kernel_rfl));cases hw:R5.whole with
  | false =>
   rw[hw]at HW;have I:=zh (V.o (by rw[T.o,hw,if_neg (by simp)]));clear hw;go_wp2_with fail;refine HW.o.mono ?_;rintro e w8 ⟨rfl,rfl⟩;go_wp2_with fail
   (try simp only[Exit.inBlock,Exit.then])
   refine bodyPost_ret (l.o _ rfl) rfl ?_;exact I.o
  | true =>
   rw[hw]at HW
   by_cases h1:1≤A
   ·have d1:decide ((A:Int)<1)=false:=by simp;omega
    have aV:decide (A<1)=false:=by simp;omega
    by_cases h2:A≤1099511627776
    ·have d2:decide ((1099511627776:Int)<(A:Int))=false:=by simp;omega
     have aW:decide (1099511627776<A)=false:=by simp;omega
     by_cases h3:G≤1099511627776
     ·rw[show zDG (G:Int)=true from zAl.2 ⟨by omega,by omega⟩]at Ht
      by_cases h4:bb.length≤524288
      focus
       have d4:decide ((524288:Int)<(bb.length:Int))=false:=by simp;omega
       have aX:decide (524288<bb.length)=false:=by simp;omega
       have I:=zh (aA.o (by rw[T.o,hw,if_pos ⟨rfl,h1,h2,h3,h4⟩]))
      rotate_left
      focus
       have d4:decide ((524288:Int)<(bb.length:Int))=true:=by simp;omega
       have aX:decide (524288<bb.length)=true:=by simp;omega
       have I:=zh (V.o (by rw[T.o,if_neg (fun e=>h4 e.2.2.2.2)]))
      all_goals
       clear hw h1 h2 h3 h4;go_wp2_with fail;refine HW.o.mono ?_;rintro e w8 ⟨rfl,rfl⟩;go_wp2_with fail;refine Ht.o.mono ?_;rintro e w8 ⟨rfl,rfl⟩;go_wp2_with fail;(try simp only[Exit.inBlock,Exit.then]);refine bodyPost_ret (l.o _ rfl) rfl ?_;exact I.o
     ·rw[show zDG (G:Int)=false by rw[Bool.eq_false_iff];intro e;have:=zAl.1 e;omega]at Ht;have I:=zh (V.o (by rw[T.o,if_neg (fun e=>h3 e.2.2.2.1)]));clear hw h1 h2 h3;go_wp2_with fail;refine HW.o.mono ?_;rintro e w8 ⟨rfl,rfl⟩;go_wp2_with fail;refine Ht.o.mono ?_;rintro e w8 ⟨rfl,rfl⟩;go_wp2_with fail
      (try simp only[Exit.inBlock,Exit.then])
      refine bodyPost_ret (l.o _ rfl) rfl ?_;exact I.o
    ·have d2:decide ((1099511627776:Int)<(A:Int))=true:=by simp;omega
     have aW:decide (1099511627776<A)=true:=by simp;omega
     have I:=zh (V.o (by rw[T.o,if_neg (fun e=>h2 e.2.2.1)]));clear hw h1 h2;go_wp2_with fail;refine HW.o.mono ?_;rintro e w8 ⟨rfl,rfl⟩;go_wp2_with fail
     (try simp only[Exit.inBlock,Exit.then])
     refine bodyPost_ret (l.o _ rfl) rfl ?_;exact I.o
   ·have d1:decide ((A:Int)<1)=true:=by simp;omega
    have aV:decide (A<1)=true:=by simp;omega
    have I:=zh (V.o (by rw[T.o,if_neg (fun e=>h1 e.2.1)]));clear hw h1;go_wp2_with fail;refine HW.o.mono ?_;rintro e w8 ⟨rfl,rfl⟩;go_wp2_with fail
    (try simp only[Exit.inBlock,Exit.then])
    refine bodyPost_ret (l.o _ rfl) rfl ?_;exact I.o
 focus
  have HI:=zh (snapOf_3 h3);have He:=zh h3;clear h3;generalize zCD o=SO at *;go_enter func77,ntmps77;go_wp2_with fail;refine ost (fun w':World=>w'.cell? ⟨j,3,none⟩=some (.pointer (some ⟨d,0,none⟩))∧w'.cell? ⟨j,4,none⟩=some (.string pre)) 15 (⟨zBX c3 _,zBX c4 _⟩) fun f=>?_;have m:=zh (R.o.trans ((zAU (w1.alloc (.cells #[.int .i64 0,.int .i64 0,.slice none 0 0] 130))).mono R.o.size));have q:=zW ((w1.alloc (.cells #[.int .i64 0,.int .i64 0,.slice none 0 0] 130)).drew.heap[w1.heap.size]?=_) af.o;generalize (w1.alloc (.cells #[.int .i64 0,.int .i64 0,.slice none 0 0] 130)).drew=W1 at *;refine Pl [0,1,2,3,4,5,6,7,8] ?_;iterate 9 (refine Pc rfl ?_;simp only[uZ])
  refine Pn ?_;refine oon 9 rfl fun K hK=>?_;have t:=zh (load_calls (H.o.next m.o).st (sSnp pre) (by rw[Y];omega));rw[nm_snp]at t;go_wp2_with fail;refine t.o.mono ?_;rintro e w2 ⟨v,rfl,Q,Z,E,-⟩;rw[Ho.o]at Q ⊢;have C:=zh (And.intro (zAI f.1 E) (zAI f.2 E));have B:=zh (m.o.trans (E.mono m.o.size));have b:=zh ((E.block _ (zAB q.o)).trans q.o);have U:=zh Q;obtain⟨pv,cv,rfl,-⟩:=zAN Q;clear Q Z E t;rw[He.o];go_wp2_with fail;refine hK.o _ _ (C.o) fun f=>?_;clear hK;try simp only[uZ]
  refine Pl [10,11,12,13,14] ?_;iterate 5 (refine Pc rfl ?_;simp only[uZ])
  refine Pn ?_;refine odn ?_;clear C m q;have S:=zh (base_keep b.o);have HZ:=zh S.o.1;have I:=zh (snap_no (r:=SO) (k:=3) HI.o (B.o.trans (S.o.2.below B.o.size fun _ _ e=>e)) 0 0 none 0 0 (.slice none 0 0))
 rotate_left
 focus
  have HI:=zh (zGc h7);have He:=zh h7;clear h7;generalize zCD o=SO at *;go_enter func77,ntmps77;go_wp2_with fail;refine ost (fun w':World=>w'.cell? ⟨j,3,none⟩=some (.pointer (some ⟨d,0,none⟩))∧w'.cell? ⟨j,4,none⟩=some (.string pre)) 15 (⟨zBX c3 _,zBX c4 _⟩) fun f=>?_;have m:=zh (R.o.trans ((zAU (w1.alloc (.cells #[.int .i64 0,.int .i64 0,.slice none 0 0] 130))).mono R.o.size));have q:=zW ((w1.alloc (.cells #[.int .i64 0,.int .i64 0,.slice none 0 0] 130)).drew.heap[w1.heap.size]?=_) af.o;generalize (w1.alloc (.cells #[.int .i64 0,.int .i64 0,.slice none 0 0] 130)).drew=W1 at *;refine Pl [0,1,2,3,4,5,6,7,8] ?_;iterate 9 (refine Pc rfl ?_;simp only[uZ])
  refine Pn ?_;refine oon 9 rfl fun K hK=>?_;have t:=zh (load_calls (H.o.next m.o).st (sSnp pre) (by rw[Y];omega));rw[nm_snp]at t;go_wp2_with fail;refine t.o.mono ?_;rintro e w2 ⟨v,rfl,Q,Z,E,-⟩;rw[Ho.o]at Q ⊢;have C:=zh (And.intro (zAI f.1 E) (zAI f.2 E));have B:=zh (m.o.trans (E.mono m.o.size));have b:=zh ((E.block _ (zAB q.o)).trans q.o);have U:=zh Q;obtain⟨pv,cv,rfl,-⟩:=zAN Q;clear Q Z E t;rw[He.o];go_wp2_with fail;refine hK.o _ _ (C.o) fun f=>?_;clear hK;try simp only[uZ]
  refine Pl [10,11,12,13,14] ?_;iterate 5 (refine Pc rfl ?_;simp only[uZ])
  refine Pn ?_;refine odn ?_;clear C m q;have S:=zh (base_keep b.o);have HZ:=zh S.o.1;have I:=zh (snap_no (r:=SO) (k:=0) HI.o (B.o.trans (S.o.2.below B.o.size fun _ _ e=>e)) 0 0 none 0 0 (.slice none 0 0))
 all_goals
  have q0:=zAd b.o;have q1:=zAn b.o;have q2:=zAo b.o;have aB:=zAE b.o 0;have aC:=zAE b.o 1;have aD:=zAE b.o 2;clear S b B U;unfold zCG at *;have l:=zh (fun tm hp=>zE4 (P:=prog) (fn:=Tryz.f77) (p:=2) (u:=3) (v:=4) (z:=5) (ty:=130) rfl tm (((w2.setCell ⟨w1.heap.size,0,none⟩ (.int .i64 0)).setCell ⟨w1.heap.size,1,none⟩ (.int .i64 0)).setCell ⟨w1.heap.size,2,none⟩ (.slice none 0 0)) w1.heap.size _ _ (0,0) _ hp HZ.o underlying130 rfl (by kernel_rfl));go_wp2_with fail;(try simp only[Exit.inBlock,Exit.then]);refine bodyPost_ret (l.o _ rfl) rfl ?_;exact I.o
end
theorem scanJ_rows (k:Nat):∀b:Bs,b.length≤k→(∀x∈(zDv b).1,x.length≤b.length)∧(zDv b).1.length≤b.length:=by
 induction k with
 | zero =>
  intro b h;rw[zB6 (.inl (List.eq_nil_of_length_eq_zero (by omega)))];exact⟨fun x c=>by simp at c,Nat.zero_le _⟩
 | succ k ih =>
  intro b h
  by_cases d:decE b=0
  ·have g:=zEL d;have f:=ih (b.drop (decL b)) (by rw[List.length_drop];omega);rw[scan_go d];rw[List.length_drop]at f;refine⟨fun x c=>?_,?_⟩
   ·rcases List.mem_cons.1 c with rfl|c
    ·unfold decB;rw[if_pos d,List.length_take,List.length_drop];omega
    ·exact Nat.le_trans (f.1 x c) (by omega)
   ·show _+1≤_
    omega
  ·rw[zB6 (.inr d)];exact⟨fun x c=>by simp at c,Nat.zero_le _⟩
theorem scanJ_row {b x:Bs}{n:Nat}(h:n≤1073741824)(hn:b.length=n)(c:x∈(zDv b).1):x.length≤1073741824:=Nat.le_trans ((scanJ_rows _ b (Nat.le_refl _)).1 x c) (by omega)
theorem zFt {b:Bs}{n:Nat}{rows:List Bs}(h:n≤1073741824)(hn:b.length=n)(c:(zDv b).1=rows):rows.length≤1073741824:=by
 rw[←c];exact Nat.le_trans (scanJ_rows _ b (Nat.le_refl _)).2 (by omega)
theorem zBa.keepJ {w w':World}{v:Value}{vs:List Value}{ls:List Bs}(h:zBa w v vs ls)(d:∀j,(v.ownBlock=some j∨∃u∈vs,u.ownBlock=some j)→w'.heap[j]?=w.heap[j]?):zBa w' v vs ls :=
 ⟨h.row.keep fun k c=>d k (.inl c),fun i u b f g=>OwnR.keep (h.has i u b f g) fun k c=>d k (.inr ⟨u,List.mem_of_getElem? f,c⟩),h.sep⟩
def restJ:Nat→zAH→List Bs→Option zAH
 | 0,M,l=>zCC M l
 | _+1,M,l=>zBU M l
theorem restJ_cons (k:Nat)(M:zAH)(x:Bs)(r:List Bs):restJ k M (x::r)=(zBe (decide (k=0)) M x).bind fun M'=>restJ (k+1) M' r:=by
 cases k<;>rfl
def RlTold (w w1:World)(j d:Nat)(pre:ByteArray)(F:Nat→Prop)(r:zAA×Nat×Bool×zAH)(e:Ending)(w':World):Prop :=
 e=.returned (.tuple #[.bool r.2.2.1,.int .i64 (r.2.1:Int)])∧St w w' d r.1 F∧Same F w1 w'∧(r.2.1=0→zAj w w' j d pre r.1 r.2.2.2 F)
section
variable {w w1 w2:World} {j d:Nat} {pre:ByteArray} {D:zAA} {M:zAH} {F:Nat→Prop}
theorem rl_end {r:zAA×Nat×Bool×zAH}{k:Nat}{b:Bool}{M':zAH}(h:zAj w w2 j d pre D M' F)(f:Same F w1 w2)(c:r=(D,k,b,M')):RlTold w w1 j d pre F r (.returned (.tuple #[.bool b,.int .i64 (k:Int)])) w2:=by
 subst c;exact⟨rfl,h.stF,f,fun _=>h⟩
theorem rl_bad {r:zAA×Nat×Bool×zAH}{k:Nat}{b:Bool}{M':zAH}(h:St w w2 d D F)(g:Same F w1 w2)(f:r=(D,k,b,M'))(c:k≠0):RlTold w w1 j d pre F r (.returned (.tuple #[.bool b,.int .i64 (k:Int)])) w2:=by
 subst f;exact⟨rfl,h,g,fun e=>(c e).elim⟩
theorem rec_told_no {o:Option zAH}{e:Ending}(h:zCF w w1 j d pre D F o e w2)(b:o=none):St w w2 d D F∧Same F w1 w2∧e=.returned (.bool false):=by
 subst b;exact h
theorem rec_told_yes {o:Option zAH}{M':zAH}{e:Ending}(h:zCF w w1 j d pre D F o e w2)(b:o=some M'):Same F w1 w2∧e=.returned (.bool true)∧zAj w w2 j d pre D M' F:=by
 subst b;exact h.2
theorem zE3 (h:Sat.get (zAm (nm pre)) D.files=none):zBj D (nm pre) M=(D,0,true,M):=by unfold zBj;rw[h]
theorem zFp {f:zAS}(h:Sat.get (zAm (nm pre)) D.files=some f)(b:zCC M (zDv f.data).1=none):zBj D (nm pre) M=(D,3,false,M):=by unfold zBj;rw[h];dsimp only;rw[b]
theorem readLog_ok {f:zAS}{M':zAH}(h:Sat.get (zAm (nm pre)) D.files=some f)(b:zCC M (zDv f.data).1=some M'):zBj D (nm pre) M=((tornOff D (zAm (nm pre)) (zDv f.data).2 f.data.length).1,(tornOff D (zAm (nm pre)) (zDv f.data).2 f.data.length).2,false,M'):=by unfold zBj;rw[h];dsimp only;rw[b]
theorem rlog_calls (h:zAj w w1 j d pre D M F)(hM:M.entries=[]) :
  Calls prog 78 #[.pointer (some ⟨j,0,none⟩)] w1 (RlTold w w1 j d pre F (zBj D (nm pre) M)):=by
 have aW:=h.psz;have ak:(zCS pre).size=pre.size+4:=zFY pre;obtain⟨c3,c4,-⟩:=h.jc;have H:=zh h;have HM:=zh hM;have z:=zh (jou_read h (zCS pre) (by rw[ak];omega));rw[zBy]at z;have s:=zFI h.okD (zAm (nm pre));cases U:Sat.get (zAm (nm pre)) D.files with
 | none =>
  have HR:=zh (zE3 (M:=M) U);have az:zDa (none:Option zAS)=7:=rfl;rw[U,az]at z;clear h hM U az s
  go_enter func78,ntmps78
  go_wp2_with fail;refine z.o.mono ?_;rintro e w2 ⟨v2,rfl,-,-,ac⟩;have p:=zh (rl_end (w1:=w1) (k:=0) (H.o.next ac) (H.o.same ac) HR.o);clear ac;go_wp2_with fail
  go_ret2
  exact p.o
 | some f =>
  have ay:zDa (some f)=0:=rfl;have af:f.data.length≤1073741824:=by rw[U]at s;exact s
  have ap:=zh (zFp (M:=M) U);have aE:=zh (fun M'=>readLog_ok (M:=M) (M':=M') U);rw[U,ay]at z;clear h hM U ay s
  go_enter func78,ntmps78
  go_wp2_with fail;refine z.o.mono ?_;rintro e w3 ⟨v3,rfl,I,aQ,ad⟩;have am:=zh (H.o.next ad);have aF:=zh (H.o.same ad);have I:zAk w3 5 v3 f.data:=I;obtain⟨pb,cb,rfl,T⟩:=zAN I;have aK:=zh (scan_calls I.has T af);clear ad I aQ T c3 c4;have aR:=scan_le f.data;generalize B:f.data.length=c at *;go_wp2_with fail;refine aK.o.mono ?_;rintro e w4 ⟨v4,vs,rfl,aj,aw,ae⟩;have an:=zh (FR_more am.o (⟨aj,aw,ae⟩:zEl w3 w4 v4 vs _));have K:=zh (aF.o.trans (am.o.same ae));have ao:=zh aj;have aJ:=zW (∀x∈(zDv f.data).1,x.length≤1073741824) fun x X=>scanJ_row af B X;clear aj aw ae;obtain⟨pr,cr,rfl⟩:=OwnR.shape ao.o.row;generalize hq:(zDv f.data).2=q at *;generalize C:(zDv f.data).1=rows at *;have aV:rows.length≤1073741824:=zFt af B C;generalize ax:rows.length=n at *;have ab:=zh ax;clear hq C ax B
  by_cases Q:n=0
  ·have aA:rows=[]:=List.eq_nil_of_length_eq_zero (by rw[ab.o,Q]);have p:=zh (rl_bad (w1:=w1) (j:=j) (pre:=pre) (k:=3) (an.o.stF.less fun _ h=>.inl h) K.o (ap.o (by rw[aA];rfl)) (by decide));have e0:((n:Int)==0)=true:=by simp;omega
   clear aA Q;go_wp2_with fail
   go_ret2
   exact p.o
  ·have e0:((n:Int)==0)=false:=by simp;omega
   have aH:=zh Q;clear Q;go_wp2_with fail
   go_loopw [38] (fun i wr=>∃(k:Nat) (N:zAH),k≤n∧i=.int .i64 k∧(k=0→N=M)∧zAj w wr j d pre D N (FR F (.slice pr n cr) vs)∧Same (FR F (.slice pr n cr) vs) w4 wr∧zCC M rows=restJ k N (rows.drop k)) (fun i _=>n-(intOf i).toNat)
   case atStart=>exact⟨0,M,Nat.zero_le _,rfl,fun _=>rfl,an.o,fun _ _=>rfl,rfl⟩
   case round =>
    clear e0;obtain⟨k,N,hk,rfl,O,hJ,hs,b⟩:=hrel
    by_cases aP:k<n
    ·have y:k<rows.length:=by rw[ab.o];exact aP
     rw[List.drop_eq_getElem_cons y,restJ_cons]at b;have t:=ao.o.keepJ (w':=wr) fun x X=>hs x (.inr X);have P:k<vs.length:=by rw[t.len];exact y
     have L:=t.has k _ _ (List.getElem?_eq_getElem P) (List.getElem?_eq_getElem y);have l:∃g,pr=some ⟨g,0,none⟩∧wr.cell? ⟨g,k,none⟩=some vs[k]:=by
      rcases t.row.2 with⟨-,h0⟩|⟨g,aS,cur,e,-⟩
      ·omega
      ·refine⟨g,?_,?_⟩
       ·simp only[Value.slice.injEq]at e;exact e.1
       ·have S:=t.row.cells (g:=g) (by rw[e];rfl) k _ (List.getElem?_eq_getElem P);rwa[add_zero]at S
     obtain⟨g,rfl,l⟩:=l;have J:=aJ.o _ (List.getElem_mem y);obtain⟨px,cx,ah,-⟩:=zAN L;rw[ah]at L l;have R:=zh (record_calls hJ (decide (k=0)) (fun hf=>by rw[O (by simpa using hf)];exact HM.o) L.has J);have Hs:=zh hs;have aT:((k:Int)==0)=decide (k=0):=by
      by_cases h0:k=0
      ·subst h0;rfl
      ·rw[decide_eq_false h0];simp;omega
     cases S:zBe (decide (k=0)) N rows[k]with
     | none =>
      rw[S]at b;have Hc:=zh S;have aD:=zh (ap.o b);clear hJ hs b t L J S ah P O;generalize rows[k]=x at *;generalize x.length=m at *;generalize decide (k=0)=fk at *;clear y;go_wp2_with fail;refine R.o.mono ?_;intro e w6 r;obtain⟨au,a,rfl⟩:=rec_told_no r Hc.o;have p:=zh (rl_bad (w1:=w1) (j:=j) (pre:=pre) (k:=3) (au.less fun _ h=>.inl h) (K.o.trans fun x X=>(a x (.inl X)).trans (Hs.o x (.inl X))) aD.o (by decide));clear au a r;go_wp2_with fail
      go_ret2
      exact p.o
     | some Mn =>
      rw[S]at b;have Hc:=zh S;have aI:=zW (zCC M rows=restJ (k+1) Mn (rows.drop (k+1))) b;clear hJ hs b t L J S ah P O;generalize rows[k]=x at *;generalize x.length=m at *;generalize decide (k=0)=fk at *;clear y;go_wp2_with fail;refine R.o.mono ?_;intro e w6 r;obtain⟨a,rfl,ar⟩:=rec_told_yes r Hc.o;have p:=zh (And.intro ar (Hs.o.trans a));clear a ar r;go_wp2_with fail;go_roundw
      case rel=>exact⟨k+1,Mn,by omega,by go_num,fun h=>by omega,p.o.1,p.o.2,aI.o⟩
      case measure=>simp[intOf];omega
    ·have aO:k=n:=by omega
     subst aO;have V:zCC M rows=some N:=by
      rw[b,List.drop_of_length_le (by rw[ab.o];exact Nat.le_refl _)];cases k with
      | zero=>exact absurd rfl aH.o
      | succ k=>rfl
     have Z:=zh (aE.o N V);have Y:=zW (zAj w wr j d pre D N F) (hJ.less fun _ h=>.inl h);have aa:=zW (Same F w1 wr) (K.o.trans fun x X=>hs x (.inl X));obtain⟨c3,c4,-⟩:=Y.o.jc;clear hJ hs b V O;generalize aN:N=Mz at *;clear aN
     by_cases ai:q<c
     ·have dq:decide ((q:Int)<(c:Int))=true:=by simp;omega
      have aM:decide (q<c)=true:=by simp;omega
      cases G:D.truncate (zAm (nm pre)) (q:Int)with
      | mk D1 e1 =>
       have aq:=zW (Calls prog 156 #[.pointer (some ⟨d,0,none⟩),.string (zCS pre),.int .i64 (q:Int)] wr fun e w'=>e=.returned (.int .i64 (e1:Int))∧zAj w w' j d pre D1 Mz F∧Same F wr w'∧w'.heap[j]?=wr.heap[j]?) (by
        have:=jou_trunc Y.o (zCS pre) (by rw[ak];omega) (q:Int) (by omega) (by omega);rwa[zBy,G]at this)
       by_cases ag:e1=0
       ·subst ag;cases al:D1.sync [zAm (nm pre)]with
        | mk D2 e2 =>
         have r:tornOff D (zAm (nm pre)) q c=(D2,e2):=by unfold tornOff;rw[if_pos ai,G,if_neg (by simp)];exact al
         have A:=Z.o;rw[r]at A;have HR:=zh A;have aL:=zh (fun W (h:zAj w W j d pre D1 Mz F)=>show Calls prog 130 #[.pointer (some ⟨d,0,none⟩),.slice (some ⟨W.heap.size,0,none⟩) 1 1] (W.alloc (.cells #[.string (zCS pre)] 9)) fun e w'=>e=.returned (.int .i64 (e2:Int))∧zAj w w' j d pre D2 Mz F∧Same F W w'∧w'.heap[j]?=W.heap[j]? by
          have:=jou_sync h (zCS pre) (by rw[ak];omega);rwa[zBy,al]at this)
         clear G al r A;go_wp2_with fail;refine aq.o.mono ?_;rintro e w6 ⟨rfl,v,E,-⟩;have aC:=zh v;have aG:=zh (aa.o.trans E);obtain⟨c3,c4,-⟩:=v.jc;clear v E;go_wp2_with fail;refine(aL.o w6 aC.o).mono ?_;rintro e w7 ⟨rfl,av,aB,-⟩;have p:=zh (rl_end (w1:=w1) av (aG.o.trans aB) HR.o);clear av aB;go_wp2_with fail
         go_ret2
         exact p.o
       ·have r:tornOff D (zAm (nm pre)) q c=(D1,e1):=by unfold tornOff;rw[if_pos ai,G,if_pos ag]
        have A:=Z.o;rw[r]at A;have HR:=zh A;have aU:((e1:Int) != 0)=true:=by simp;omega
        clear G r A ag;go_wp2_with fail;refine aq.o.mono ?_;rintro e w6 ⟨rfl,v,E,-⟩;have p:=zh (rl_end (w1:=w1) v (aa.o.trans E) HR.o);clear v E;go_wp2_with fail
        go_ret2
        exact p.o
     ·have dq:decide ((q:Int)<(c:Int))=false:=by simp;omega
      have aM:decide (q<c)=false:=by simp;omega
      have r:tornOff D (zAm (nm pre)) q c=(D,0):=by unfold tornOff;rw[if_neg ai]
      have A:=Z.o;rw[r]at A;have p:=zh (rl_end (w1:=w1) Y.o aa.o A);clear r A;go_wp2_with fail
      go_ret2
      exact p.o
end
theorem zF3 {R:Rd}(h:R.bytes.2.whole=true):R.bad=false:=by
 cases c:R.bad with
 | false=>rfl
 | true =>
  exfalso;have b:R.num.2.bad=true:=by
   unfold Rd.num
   split
   ·exact c
   ·rfl
  rw[show R.bytes=R.num.2.raw R.num.1 from rfl]at h;unfold Rd.raw at h
  split at h
  ·unfold Rd.whole at h;dsimp only at h;rw[b]at h;simp at h
  ·cases h
theorem grp_bad {R:Rd}(h:(R.grp zAX).2.bad=false):zAX (R.grp zAX).1=true:=by
 unfold Rd.grp at h ⊢
 split at h
 ·cases h
 ·rename_i h7
  rw[if_neg h7];dsimp only at h ⊢
  split at h
  ·assumption
  ·cases h
theorem snapIs_ok {b:Bs}{s:zC8}(h:zDD b=some s):s.OK∧s.data.length≤524288∧1≤s.number:=by
 unfold zDD at h;dsimp only at h
 split at h
 ·rename_i hc
  cases h;obtain⟨i,d,f,g,c⟩:=hc;exact⟨⟨f,zAl.2 ⟨Int.natCast_nonneg _,Int.ofNat_le.2 g⟩,grp_bad (zF3 i),Nat.le_trans c (by decide)⟩,c,d⟩
 ·cases h
theorem snapOf_ok {o:Option zAS}{s:zC8}(h:(zCD o).2=some s):s.OK∧s.data.length≤524288∧1≤s.number:=by
 unfold zCD at h
 split at h
 ·cases h
 ·split at h
  ·cases h
  ·split at h
   ·cases h
   ·rename_i hs
    cases h;exact snapIs_ok hs
theorem each1_room (g:Bs→zAS→List (Bs×zAS)→List (Bs×zAS))(D:zAA)(n:Bs):(zAA.each1 g D n).1.room=D.room:=by
 unfold zAA.each1
 split
 ·rfl
 ·split<;>rfl
theorem zGW (D:zAA)(n:Bs):(D.rid1 n).1.room=D.room:=by
 unfold zAA.rid1
 split
 ·show(zAA.each _ D [n]).1.room=_
  simp only[zAA.each]
  split
  ·exact each1_room _ _ _
  ·exact each1_room _ _ _
 ·rfl
theorem data_room {D:zAA}(h:D.OK){n:Bs}{f:zAS}(c:Sat.get n D.files=some f):f.data.length≤D.room:=by
 have b:zAA.size f≤D.used:=le_sum h.srt c;have d:=h.used;unfold zAA.size at b;omega
theorem scanJ_twelve (k:Nat):∀b:Bs,b.length≤k→12*(zDv b).1.length≤b.length:=by
 induction k with
 | zero =>
  intro b h;rw[zB6 (.inl (List.eq_nil_of_length_eq_zero (by omega)))];exact Nat.zero_le _
 | succ k ih =>
  intro b h
  by_cases c:decE b=0
  ·have f:=zEL c;have d:=ih (b.drop (decL b)) (by rw[List.length_drop];omega);rw[scan_go c];rw[List.length_drop]at d
   show 12*(_+1)≤_
   omega
  ·rw[zB6 (.inr c)];exact Nat.zero_le _
theorem rec1_len {f:Bool}{M M':zAH}{p:Bs}(h:zBe f M p=some M'):M'.entries.length≤M.entries.length+1:=by
 unfold zBe at h
 split at h
 ·cases h
 ·dsimp only at h
  repeat' split at h
  all_goals first
   | (cases h;done)
   | (cases h;simp;done)
   | (cases h;simp;omega)
theorem recGo_len:∀(l:List Bs) {M M':zAH},zBU M l=some M'→M'.entries.length≤M.entries.length+l.length
 | [],M,M',h=>by cases h;exact Nat.le_refl _
 | p::r,M,M',h=>by
  have h:(zBe false M p).bind (fun M'=>zBU M' r)=some M':=h;cases b:zBe false M p with
  | none=>rw[b]at h;cases h
  | some M1 =>
   rw[b]at h;have c:=recGo_len r (M:=M1) (M':=M') h;have d:=rec1_len b;rw[List.length_cons];omega
theorem recAll_len {l:List Bs}{M M':zAH}(h:zCC M l=some M'):M'.entries.length≤M.entries.length+l.length:=by
 cases l with
 | nil=>cases h
 | cons p r =>
  have h:(zBe true M p).bind (fun M'=>zBU M' r)=some M':=h;cases b:zBe true M p with
  | none=>rw[b]at h;cases h
  | some M1 =>
   rw[b]at h;have c:=recGo_len r (M:=M1) (M':=M') h;have d:=rec1_len b;rw[List.length_cons];omega
theorem zCR {D D':zAA}{pre:Bs}{M M':zAH}{e:Nat}{a:Bool}(d:D.OK)(k:D.room≤1048576)(c:M.entries=[])(h:zBj D pre M=(D',e,a,M')):M'.entries.length≤1000000:=by
 unfold zBj at h
 split at h
 ·have b:M=M':=congrArg (fun x=>x.2.2.2) h;rw[←b,c];exact Nat.zero_le _
 ·rename_i f hf
  have i:=data_room d hf;have j:=scanJ_twelve _ f.data (Nat.le_refl _)
  split at h
  ·have b:M=M':=congrArg (fun x=>x.2.2.2) h;rw[←b,c];exact Nat.zero_le _
  ·rename_i M1 hM1
   have g:=recAll_len hM1;have b:M1=M':=congrArg (fun x=>x.2.2.2) h;rw[←b];rw[c]at g;simp only[List.length_nil]at g;omega
structure OpensJ (D:zAA)(pre:Bs)(nodes:List Int) where
 D1:zAA
 e1:Nat
 h1:D.rid1 (zAF (zAm pre))=(D1,e1)
 D2:zAA
 e2:Nat
 h2:D1.rid1 (zAF (zBR pre))=(D2,e2)
 s:Nat×Option zC8
 hs:zCD (Sat.get (zBR pre) D2.files)=s
 l:zAA×Nat×Bool×zAH
 hl:zBj D2 pre (zAH.none0 nodes)=l
theorem zGM (D:zAA)(pre:Bs)(nodes:List Int):Nonempty (OpensJ D pre nodes):=⟨⟨_,_,rfl,_,_,rfl,_,rfl,_,rfl⟩⟩
section
variable {D:zAA} {pre:Bs} {nodes:List Int} (O:OpensJ D pre nodes)
theorem oj_arg (h:pre.length<1∨20<pre.length∨zAX nodes=false):zAV D pre nodes=(D,1,zAH.none0 nodes):=by
 unfold zAV;rw[if_pos h]
theorem oj_rid1 (b:O.e1≠0):D.rid [zAF (zAm pre),zAF (zBR pre)]=(O.D1,O.e1):=by
 unfold zAA.rid;rw[O.h1];exact if_neg b
theorem oj_rid2 (c:O.e1=0):D.rid [zAF (zAm pre),zAF (zBR pre)]=(O.D2,O.e2):=by
 unfold zAA.rid;rw[O.h1];refine(if_pos c).trans ?_
 show zAA.rid O.D1 [zAF (zBR pre)]=_
 unfold zAA.rid;rw[O.h2];dsimp only
 by_cases b:O.e2=0
 ·rw[if_pos b]
  show(O.D2,0)=_
  rw[b]
 ·exact if_neg b
theorem oj_e1 (h:¬(pre.length<1∨20<pre.length∨zAX nodes=false))(b:O.e1≠0):zAV D pre nodes=(O.D1,O.e1,zAH.none0 nodes):=by
 unfold zAV;rw[if_neg h,oj_rid1 O b];exact if_pos b
theorem oj_e2 (h:¬(pre.length<1∨20<pre.length∨zAX nodes=false))(b:O.e1=0)(c:O.e2≠0):zAV D pre nodes=(O.D2,O.e2,zAH.none0 nodes):=by
 unfold zAV;rw[if_neg h,oj_rid2 O b];exact if_pos c
theorem oj_e3 (h:¬(pre.length<1∨20<pre.length∨zAX nodes=false))(b:O.e1=0)(c:O.e2=0)(d:O.s.1≠0):zAV D pre nodes=(O.D2,O.s.1,zAH.none0 nodes):=by
 unfold zAV;rw[if_neg h,oj_rid2 O b];dsimp only;rw[if_neg (by simpa using c),O.hs];exact if_pos d
theorem oj_go (h:¬(pre.length<1∨20<pre.length∨zAX nodes=false))(b:O.e1=0)(c:O.e2=0)(d:O.s.1=0):zAV D pre nodes=(if O.l.2.1≠0 then(O.l.1,O.l.2.1,zAH.none0 nodes)else
 match zAh O.s.2 O.l.2.2.2 O.l.2.2.1 with
 | none=>(O.l.1,3,zAH.none0 nodes)
 | some (anew,M)=>if anew then((zAT O.l.1 pre M).1,(zAT O.l.1 pre M).2,M)else(O.l.1,0,M)):=by
 unfold zAV;rw[if_neg h,oj_rid2 O b];dsimp only;rw[if_neg (by simpa using c),O.hs,if_neg (by simpa using d),O.hl];rfl
theorem oj_e4 (h:¬(pre.length<1∨20<pre.length∨zAX nodes=false))(b:O.e1=0)(c:O.e2=0)(d:O.s.1=0)(f:O.l.2.1≠0):zAV D pre nodes=(O.l.1,O.l.2.1,zAH.none0 nodes):=(oj_go O h b c d).trans (if_pos f)
theorem oj_no (h:¬(pre.length<1∨20<pre.length∨zAX nodes=false))(b:O.e1=0)(c:O.e2=0)(d:O.s.1=0)(f:O.l.2.1=0)(g:zAh O.s.2 O.l.2.2.2 O.l.2.2.1=none):zAV D pre nodes=(O.l.1,3,zAH.none0 nodes):=by
 rw[oj_go O h b c d,if_neg (by simpa using f),g]
theorem oj_keep (h:¬(pre.length<1∨20<pre.length∨zAX nodes=false))(b:O.e1=0)(c:O.e2=0)(d:O.s.1=0)(f:O.l.2.1=0){M:zAH}(g:zAh O.s.2 O.l.2.2.2 O.l.2.2.1=some (false,M)):zAV D pre nodes=(O.l.1,0,M):=by
 rw[oj_go O h b c d,if_neg (by simpa using f),g];rfl
theorem oj_anew (h:¬(pre.length<1∨20<pre.length∨zAX nodes=false))(b:O.e1=0)(c:O.e2=0)(d:O.s.1=0)(f:O.l.2.1=0){M:zAH}(g:zAh O.s.2 O.l.2.2.2 O.l.2.2.1=some (true,M)):zAV D pre nodes=((zAT O.l.1 pre M).1,(zAT O.l.1 pre M).2,M):=by
 rw[oj_go O h b c d,if_neg (by simpa using f),g];rfl
end
def zFz (w w1:World)(d:Nat)(pre:ByteArray)(F:Nat→Prop)(r:zAA×Nat×zAH)(e:Ending)(w':World):Prop :=
 St w w' d r.1 F∧Same F w1 w'∧((r.2.1=0∧∃j,e=.returned (.tuple #[.pointer (some ⟨j,0,none⟩),.int .i64 0])∧zAj w w' j d pre r.1 r.2.2 F)∨(r.2.1≠0∧e=.returned (.tuple #[.pointer none,.int .i64 (r.2.1:Int)])))
theorem jou_fresh {w w1:World}{d:Nat}{D:zAA}{F:Nat→Prop}{nodes:List Int}{f:Value}(h:St w w1 d D (fun k=>F k∨f.ownBlock=some k))(pre:ByteArray)(o:1≤pre.size∧pre.size≤20)(n:zAX nodes=true)(c:zCp w1 f nodes)(j:∀k,f.ownBlock=some k→w.heap.size≤k∧¬F k) :
  zAj w (w1.alloc (.cells #[.int .i64 0,.int .i64 0,f,.pointer (some ⟨d,0,none⟩),.string pre,.int .i64 0,.int .i64 (-1),.slice none 0 0,.slice none 0 0,.bool false] 132)) w1.heap.size d pre D (zAH.none0 nodes) F:=by
 have g:=zAC w1 (.cells #[.int .i64 0,.int .i64 0,f,.pointer (some ⟨d,0,none⟩),.string pre,.int .i64 0,.int .i64 (-1),.slice none 0 0,.slice none 0 0,.bool false] 132);refine⟨fun k=>k=w1.heap.size∨f.ownBlock=some k,f,.slice none 0 0,.slice none 0 0,[],⟨zAJ w1 _,zGN c g,OwnR.nil _ _ _,OwnR.nil _ _ _,⟨rfl,fun i e v l q=>(by simp at q)⟩,.inl rfl,fun k b=>⟨.inr b,fun e=>by have:=OwnR.lt c b;omega,fun e=>(by cases e)⟩,fun k b=>(by cases b),fun k b=>(by cases b),fun u p=>(by simp at p),fun k b=>?_,o,⟨Nat.zero_le _,rfl,n,rfl,⟨show(-1:Int)≤-1 by decide,show(-1:Int)<7 by decide⟩,Nat.zero_le _,fun e l=>(by cases l)⟩⟩,h.move (Chg.of_below g) (fun _ _ h=>h.elim) (fun k b=>?_),fun k b=>?_,fun k b=>Nat.lt_of_lt_of_le (h.flt (.inl b)) g.size⟩
 ·rcases b with b|b
  ·rw[b];simp
  ·exact Nat.lt_of_lt_of_le (OwnR.lt c b) g.size
 ·rcases b with(b|b)|b
  ·exact⟨.inr (by omega),by rw[b];simp⟩
  ·exact⟨.inl (.inr b),Nat.lt_of_lt_of_le (OwnR.lt c b) g.size⟩
  ·exact⟨.inl (.inl b),Nat.lt_of_lt_of_le (h.flt (.inl b)) g.size⟩
 ·rcases b with b|b
  ·exact⟨by rw[b];exact h.below.size,fun m=>by have:=h.flt (.inl m);omega⟩
  ·exact j k b
section
variable {D:zAA} {n b:Bs}
theorem put1_app (i:D.fuse≠some 0)(k:1≤n.length)(hn:n.length≤60)(d:Sat.get (zAF n) D.files=none)(g:D.used+b.length≤D.room)(l:D.files.length<4096) :
  D.append (zAF n) b=(⟨D.room,put (zAF n) ⟨b,0⟩ D.files,offF D.fuse 1⟩,0):=by
 have j:D.may [zAF n]=0:=by
  unfold zAA.may;rw[if_neg i,if_pos];simp only[List.all_cons,List.all_nil,Bool.and_true,okN,zEE];simp;omega
 have f:D.full (zAF n) b=false:=by
  unfold zAA.full;rw[d];simp;omega
 unfold zAA.append;rw[if_neg (by rw[j];simp),if_neg (by rw[f];simp)];have c:D.cur (zAF n)=⟨[],0⟩:=by unfold zAA.cur;rw[d];rfl
 rw[c];rfl
theorem put1_syn {room:Nat}{L:List (Bs×zAS)}{f:Option Nat}(h:Srt L)(d:f≠some 0)(j:1≤n.length)(hn:n.length≤60) :
  zAA.sync ⟨room,put (zAF n) ⟨b,0⟩ L,f⟩ [zAF n]=(⟨room,put (zAF n) ⟨b,b.length⟩ L,offF f 1⟩,0):=by
 have i:zAA.may ⟨room,put (zAF n) ⟨b,0⟩ L,f⟩ [zAF n]=0:=by
  unfold zAA.may;rw[if_neg d,if_pos];simp only[List.all_cons,List.all_nil,Bool.and_true,okN,zEE];simp;omega
 have c:zAA.each1 zAA.gSync ⟨room,put (zAF n) ⟨b,0⟩ L,f⟩ (zAF n)=(⟨room,put (zAF n) ⟨b,b.length⟩ L,offF f 1⟩,0):=by
  unfold zAA.each1;rw[if_neg (by rw[i];simp)];have g:Sat.get (zAF n) (zAA.files ⟨room,put (zAF n) ⟨b,0⟩ L,f⟩)=some ⟨b,0⟩:=zBQ h _ _;rw[g]
  show((⟨room,put _ _ (put _ _ L),_⟩:zAA),0)=_
  rw[put_put h];rfl
 show(if(zAA.each1 _ _ _).2=0 then _ else _)=_
 rw[c,if_pos rfl];rfl
theorem put1_all (h:D.OK)(g:∀j,D.fuse=some j→3≤j)(c:1≤n.length)(hn:n.length≤60)(f:Sat.get (zAF n) D.files=none)(d:D.used+b.length≤D.room)(k:D.files.length<4096) :
  D.save1 n b=(⟨D.room,put n ⟨b,b.length⟩ D.files,offF D.fuse 3⟩,0):=by
 have i:D.save0 n=(D,0):=by unfold zAA.save0;rw[f];rfl
 have l:D.fuse≠some 0:=fun e=>by have:=g 0 e;omega
 rw[save1_ren i (put1_app l c hn f d k) (put1_syn h.srt (off_ne fun j e=>by have:=g j e;omega) c hn),off_off,
  save_ren h.srt (off_ne fun j e=>by have:=g j e;omega) c hn f,off_off]
end
def zFc (g:List Int):Bs:=zAK (zEo 0 0 g)++zAK (zCV 0 (-1))
theorem zFU (g:List Int):zAL (zAH.none0 g).rows=zFc g:=by
 show zAL [zEo 0 0 g,zCV 0 (-1)]=_
 unfold zFc;rw[←zCJ (zEo 0 0 g),←zCJ (zCV 0 (-1)),←zCj];rfl
theorem zFL {g:List Int}(h:zAX g=true):(zFc g).length≤150:=by
 have f:=(zCi h).1;unfold zFc;rw[List.length_append,zAe,zAe];have i:(zCV 0 (-1)).length≤19:=by
  unfold zCV;have a:=zBK 0;have b:=zBK ((-1)+1);simp only[List.length_cons,List.length_append];omega
 have j:(zEo 0 0 g).length≤100:=by
  unfold zEo zDq;have a:(zD8 0).length≤9:=zAg (by omega);have b:=zBK 0;have c:=zAg (n:=g.length) (by omega);have d:=zA9 g;simp only[List.length_cons,List.length_append];omega
 omega
def zCW (room:Nat)(pre:Bs)(g:List Int):zAA:=⟨room,[(zAm pre,⟨zFc g,(zFc g).length⟩)],none⟩
theorem save_fresh {room:Nat}(l:200≤room)(b:room≤1073741824){pre:Bs}(k:1≤pre.length∧pre.length≤20){g:List Int}(d:zAX g=true) :
  (zAA.fresh room).save1 (zAm pre) (zFc g)=(zCW room pre g,0):=by
 have c:(zAm pre).length=pre.length+4:=by unfold zAm logX;simp
 have i:=zFL d;have f:(zAA.fresh room).used=0:=rfl;rw[put1_all (ok_fresh room b) (fun j e=>by cases e) (by rw[c];omega) (by rw[c];omega) rfl (by rw[f];show 0+_≤room;omega) (show 0<4096 by decide)];rfl
theorem jopen_fresh {room:Nat}(t:200≤room)(j:room≤1073741824){pre:Bs}(s:1≤pre.length∧pre.length≤20){g:List Int}(k:zAX g=true) :
  zAV (zAA.fresh room) pre g=(zCW room pre g,0,zAH.none0 g):=by
 obtain⟨O⟩:=zGM (zAA.fresh room) pre g;have f:=O.h1;have c:=O.h2;have d:=O.hs;have b:=O.hl;have l:(zAA.fresh room).rid1 (zAF (zAm pre))=(zAA.fresh room,0):=rfl;rw[l]at f;have o:zAA.fresh room=O.D1:=congrArg Prod.fst f;have q:0=O.e1:=congrArg Prod.snd f;rw[←o]at c;have m:(zAA.fresh room).rid1 (zAF (zBR pre))=(zAA.fresh room,0):=rfl;rw[m]at c;have p:zAA.fresh room=O.D2:=congrArg Prod.fst c;have r:0=O.e2:=congrArg Prod.snd c;rw[←p]at d b;have b3:zCD (Sat.get (zBR pre) (zAA.fresh room).files)=(0,none):=zGc zD7;rw[b3]at d;have n:zBj (zAA.fresh room) pre (zAH.none0 g)=(zAA.fresh room,0,true,zAH.none0 g):=rfl;rw[n]at b;have v:zAT (zAA.fresh room) pre (zAH.none0 g)=(zCW room pre g,0):=by
  unfold zAT;rw[zFU,save_fresh t j s k]
 have i:¬(pre.length<1∨20<pre.length∨zAX g=false):=by
  rintro(h|h|h)
  ·omega
  ·omega
  ·rw[k]at h;cases h
 rw[oj_anew O i q.symm r.symm (by rw[←d]) (by rw[←b]) (M:=zAH.none0 g) (by rw[←d,←b];rfl),←b,v]
section
variable {w w1 w2:World} {j d:Nat} {pre:ByteArray} {D:zAA} {M:zAH} {F F2:Nat→Prop}
theorem zCL {D':zAA}{M':zAH}{k:Nat}{r:zAA×Nat×zAH}(h:St w w2 d D' F)(f:Same F w1 w2)(c:r=(D',k,M'))(b:k≠0):zFz w w1 d pre F r (.returned (.tuple #[.pointer none,.int .i64 (k:Int)])) w2:=by
 subst c;exact⟨h,f,.inr ⟨b,rfl⟩⟩
theorem zE1 {D':zAA}{M':zAH}{r:zAA×Nat×zAH}(h:zAj w w2 j d pre D' M' F)(c:Same F w1 w2)(b:r=(D',0,M')):zFz w w1 d pre F r (.returned (.tuple #[.pointer (some ⟨j,0,none⟩),.int .i64 0])) w2:=by
 subst b;exact⟨h.stF,c,.inl ⟨rfl,j,rfl,h⟩⟩
theorem jou_data (h:zAj w w1 j d pre D M F){dv:Value}{b:Bs}(r:zAk w1 5 dv b)(hF:∀k,dv.ownBlock=some k→F k∧w.heap.size≤k)(g:∀k,F2 k→F k∧dv.ownBlock≠some k)(a:b.length≤1073741824) :
  zAj w (w1.setCell ⟨j,7,none⟩ dv) j d pre D {M with data:=b} F2∧Same F2 w1 (w1.setCell ⟨j,7,none⟩ dv):=by
 obtain⟨own,z,t,y,vs,f,hS,hn,A⟩:=h;have n:∀k,dv.ownBlock=some k→¬own k:=fun k c l=>(hn k l).2 (hF k c).1;have o:∀k,k≠j→(w1.setCell ⟨j,7,none⟩ dv).heap[k]?=w1.heap[k]?:=fun k c=>set_other _ c;have m:∀k,dv.ownBlock=some k→k≠j:=fun k c e=>n k c (e▸f.ol);refine zAj.turned2 (M':={M with data:=b}) (own':=fun k=>own k∨dv.ownBlock=some k) (gv':=z) (dv':=dv) (ev':=y) (vs':=vs) hS hn A ⟨?_,OwnR.keep f.group fun k c=>o k (f.og k c).2.1,OwnR.keep r fun k c=>o k (m k c),f.row.keep fun k c=>o k (f.oe k c).2,⟨f.rows.1,fun i e v p q=>(f.rows.2 i e v p q).keep fun k c=>o k (f.ov v (List.mem_of_getElem? q) k c).2.1⟩,.inl f.ol,fun k c=>⟨.inl (f.og k c).1,(f.og k c).2⟩,fun k c=>⟨.inr c,m k c,fun e=>n k c (f.oe k e).1⟩,fun k c=>⟨.inl (f.oe k c).1,(f.oe k c).2⟩,fun u s k c=>⟨.inl (f.ov u s k c).1,(f.ov u s k c).2⟩,fun k c=>?_,f.psz,⟨f.ok.last,f.ok.term,f.ok.group,f.ok.now,f.ok.vote,a,f.ok.ents⟩⟩ ((Chg.setCell w1 ⟨j,7,none⟩ dv).mono fun x _ e=>by rw[e];exact f.ol) (fun k c=>?_) fun k c=>⟨(g k c).1,fun l=>?_⟩
 ·have p:=zAD f.cells 7 dv;simpa using p
 ·have:k<w1.heap.size:=c.elim (f.olt k) fun h=>OwnR.lt r h;simpa[World.setCell]using this
 ·exact c.imp id fun h=>.inr (hF k h)
 ·rcases l with l|l
  ·exact(hn k l).2 (g k c).1
  ·exact(g k c).2 l
theorem jopen_calls (h:St w w1 d D F)(bN:D.room≤1048576)(pre:ByteArray){nodes:List Int}{pn:Option Addr}{nn cn:Nat}(hx:zBg w1 (.slice pn nn cn) nodes)(bu:nodes.length≤1099511627776) :
  Calls prog 17 #[.pointer (some ⟨d,0,none⟩),.string pre,.slice pn nn cn] w1 (zFz w w1 d pre F (zAV D (nm pre) nodes)):=by
 have aH:(nm pre).length=pre.size:=nm_len pre;have aN:=zh (zET hx bu)
 by_cases hp:pre.size<1∨20<pre.size
 ·have p:=zh (zCL (pre:=pre) (k:=1) h (fun _ _=>rfl) (oj_arg (pre:=nm pre) (nodes:=nodes) (by rw[aH];exact hp.elim .inl fun h=>.inr (.inl h))) (by decide));clear h aH hx;generalize bQ:pre.size=z at *
  by_cases hz:z<1
  ·have bP:z=0:=by omega
   subst bP
   go_enter func17,ntmps17
   go_wp2_with fail
   go_ret2
   exact p.o
  ·have bW:20<z:=by omega
   go_enter func17,ntmps17
   go_wp2_with fail
   go_ret2
   exact p.o
 ·cases aj:zAX nodes with
  | false =>
   rw[aj]at aN;have p:=zh (zCL (pre:=pre) (k:=1) h (fun _ _=>rfl) (oj_arg (pre:=nm pre) (nodes:=nodes) (.inr (.inr aj))) (by decide));clear h aH hx aj;generalize bQ:pre.size=z at *
   go_enter func17,ntmps17
   go_wp2_with fail;refine aN.o.mono ?_;rintro e w2 ⟨rfl,rfl⟩;go_wp2_with fail
   go_ret2
   exact p.o
  | true =>
   rw[aj]at aN;have bg:1≤pre.size∧pre.size≤20:=by omega
   have ac:¬((nm pre).length<1∨20<(nm pre).length∨zAX nodes=false):=by
    rw[aH];rintro(h|h|h)
    ·omega
    ·omega
    ·rw[aj]at h;cases h
   obtain⟨O⟩:=zGM D (nm pre) nodes;have aF:=zGW D (zAF (zAm (nm pre)));rw[O.h1]at aF;have aG:=zGW O.D1 (zAF (zBR (nm pre)));rw[O.h2]at aG;have L:=zh (show O.D2.room≤1048576 by have h1:O.D1.room=D.room:=aF;have h2:O.D2.room=O.D1.room:=aG;omega);have bm:=zh O.h1;have bn:=zh O.h2;have bo:=zh O.hs;have bb:=zh O.hl;have bB:=zh (oj_e1 O ac);have bC:=zh (oj_e2 O ac);have aV:=zh (oj_e3 O ac);have aI:=zh (oj_e4 O ac);have aK:=zh (oj_no O ac);have aJ:=zh (fun M=>oj_keep O ac (M:=M));have ap:=zh (fun M=>oj_anew O ac (M:=M));clear aF aG;generalize O.D1=D1 at *;generalize O.e1=e1 at *;generalize O.D2=D2 at *;generalize O.e2=e2 at *;generalize O.s=sn at *;generalize O.l=li at *;clear O;obtain⟨ks,so⟩:=sn;obtain⟨D3,e3,a3,v⟩:=li;have aV:=zW (e1=0→e2=0→ks≠0→zAV D (nm pre) nodes=(D2,ks,zAH.none0 nodes)) aV.o;have aI:=zW (e1=0→e2=0→ks=0→e3≠0→zAV D (nm pre) nodes=(D3,e3,zAH.none0 nodes)) aI.o;have aK:=zW (e1=0→e2=0→ks=0→e3=0→zAh so v a3=none→zAV D (nm pre) nodes=(D3,3,zAH.none0 nodes)) aK.o;have aJ:=zW (∀M,e1=0→e2=0→ks=0→e3=0→zAh so v a3=some (false,M)→zAV D (nm pre) nodes=(D3,0,M)) aJ.o;have ap:=zW (∀M,e1=0→e2=0→ks=0→e3=0→zAh so v a3=some (true,M)→zAV D (nm pre) nodes=((zAT D3 (nm pre) M).1,(zAT D3 (nm pre) M).2,M)) ap.o;have bI:=zh (zD0 hx bu);have HS:=zh h;have bS:=bg.1;have bT:=bg.2;have bx:(zCS pre).size=pre.size+4:=zFY pre;have aU:(sSnp pre).size=pre.size+5:=zGb pre;have bJ:=zh aj;have i0:∀(W:World) (a b:ByteArray),(Instr.index 133 (.agg #[.string a,.string b]) (.int .i64 0)).run prog W=.ok (.string a) W:=fun _ _ _=>by kernel_rfl
   have i1:∀(W:World) (a b:ByteArray),(Instr.index 133 (.agg #[.string a,.string b]) (.int .i64 1)).run prog W=.ok (.string b) W:=fun _ _ _=>by kernel_rfl
   clear h aH hx aj ac hp
   go_enter func17,ntmps17
   go_wp2_with fail;refine aN.o.mono ?_;rintro e w2 ⟨rfl,rfl⟩;go_wp2_with fail;refine bI.o.mono ?_;rintro e w3 ⟨gv,rfl,aR,aP,g⟩;obtain⟨pg,cg,rfl,-⟩:=zAw aR;have bD:=zh (jou_fresh (F:=F) (HS.o.move (F':=fun k=>F k∨(Value.slice pg nodes.length cg).ownBlock=some k) (Chg.of_below g) (fun _ _ h=>h.elim) fun k m=>m.elim (fun h=>⟨.inl h,Nat.lt_of_lt_of_le (HS.o.flt h) g.size⟩) fun h=>⟨.inr (aP k h),OwnR.lt aR h⟩) pre bg bJ.o aR fun k m=>⟨Nat.le_trans HS.o.below.size (aP k m),fun hf=>by have h1:=HS.o.flt hf;have h2:=aP k m;omega⟩);have bG:=zW (Same F w2 (w3.alloc (.cells #[.int .i64 0,.int .i64 0,.slice pg nodes.length cg,.pointer (some ⟨d,0,none⟩),.string pre,.int .i64 0,.int .i64 (-1),.slice none 0 0,.slice none 0 0,.bool false] 132))) fun k m=>((zAC w3 (.cells #[.int .i64 0,.int .i64 0,.slice pg nodes.length cg,.pointer (some ⟨d,0,none⟩),.string pre,.int .i64 0,.int .i64 (-1),.slice none 0 0,.slice none 0 0,.bool false] 132)).block k (Nat.lt_of_lt_of_le (HS.o.flt m) g.size)).trans (g.block k (HS.o.flt m));clear aR aP g;generalize bO:w2=w1 at *;clear bO;go_wp2_with fail;generalize w3.heap.size=j at *;generalize w3.alloc (.cells #[.int .i64 0,.int .i64 0,.slice pg nodes.length cg,.pointer (some ⟨d,0,none⟩),.string pre,.int .i64 0,.int .i64 (-1),.slice none 0 0,.slice none 0 0,.bool false] 132)=W0 at *
   go_loopw [51] (fun x wr=>Same F w1 wr∧((x=.int .i64 0∧zAj w wr j d pre D (zAH.none0 nodes) F)∨(x=.int .i64 1∧e1=0∧zAj w wr j d pre D1 (zAH.none0 nodes) F)∨(x=.int .i64 2∧e1=0∧e2=0∧zAj w wr j d pre D2 (zAH.none0 nodes) F))) (fun i _=>2-(intOf i).toNat)
   case atStart=>exact⟨bG.o,.inl ⟨rfl,bD.o⟩⟩
   case round =>
    obtain⟨ad,hx⟩:=hrel;rcases hx with⟨rfl,hJ⟩|⟨rfl,aA,hJ⟩|⟨rfl,aA,bs,hJ⟩
    ·have r:=zh (jou_read hJ (zBV (zCS pre)) (by rw[zCP,bx];omega));rw[zEi,zBy]at r;have I:=zh hJ;have ah:=zh ad;cases hg:Sat.get (zAF (zAm (nm pre))) D.files with
     | none =>
      have hr:D.rid1 (zAF (zAm (nm pre)))=(D,0):=by unfold zAA.rid1;rw[hg];rfl
      have aa:=bm.o;rw[hr]at aa;have aC:D=D1:=congrArg Prod.fst aa;have aD:0=e1:=congrArg Prod.snd aa;have aE:zDa (none:Option zAS)=7:=rfl;rw[hg,aE]at r;have Q:=zW (e1=0) aD.symm;have H:=zW (zAj w wr j d pre D1 (zAH.none0 nodes) F) (aC▸I.o);clear hJ ad hg hr aa aC aD aE;go_wp2_with fail;refine r.o.mono ?_;rintro e w3 ⟨v3,rfl,-,-,g⟩;have p:=zh (And.intro (ah.o.trans (I.o.same g)) (H.o.next g));clear g r;go_wp2_with fail;go_roundw
      case rel=>first|exact⟨p.o.1,.inr (.inl ⟨rfl,Q.o,p.o.2⟩)⟩|((repeat apply Exists.intro);exact⟨⟨p.o.1,.inr (.inl ⟨rfl,Q.o,p.o.2⟩)⟩,rfl⟩)
      case measure=>simp[intOf]
     | some f =>
      have hr:D.remove [zAF (zAm (nm pre))]=(D1,e1):=by
       have:=bm.o;unfold zAA.rid1 at this;rw[hg]at this;exact this
      have aB:zDa (some f)=0:=rfl;rw[hg,aB]at r;have L:=zh (fun W (h:zAj w W j d pre D (zAH.none0 nodes) F)=>show Calls prog 76 #[.pointer (some ⟨d,0,none⟩),.slice (some ⟨W.heap.size,0,none⟩) 1 1] (W.alloc (.cells #[.string (zBV (zCS pre))] 9)) fun e w'=>e=.returned (.int .i64 (e1:Int))∧zAj w w' j d pre D1 (zAH.none0 nodes) F∧Same F W w'∧w'.heap[j]?=W.heap[j]? by
       have:=jou_remove h (zBV (zCS pre)) (by rw[zCP,bx];omega);rwa[zEi,zBy,hr]at this)
      clear hJ ad hg hr aB
      by_cases he:e1=0
      ·have Q:=zh he;rw[he]at L;clear he;go_wp2_with fail;refine r.o.mono ?_;rintro e w3 ⟨v3,rfl,-,-,g⟩;have ae:=zh (I.o.next g);have af:=zh (ah.o.trans (I.o.same g));clear g r;go_wp2_with fail;refine(L.o w3 ae.o).mono ?_;rintro e Y ⟨rfl,T,G,-⟩;have p:=zh (And.intro (af.o.trans G) T);clear T G L;go_wp2_with fail;go_roundw
       case rel=>first|exact⟨p.o.1,.inr (.inl ⟨rfl,Q.o,p.o.2⟩)⟩|((repeat apply Exists.intro);exact⟨⟨p.o.1,.inr (.inl ⟨rfl,Q.o,p.o.2⟩)⟩,rfl⟩)
       case measure=>simp[intOf]
      ·have al:((e1:Int) != 0)=true:=by simp;omega
       have J:=zh (bB.o he);have He:=zh he;clear he;go_wp2_with fail;refine r.o.mono ?_;rintro e w3 ⟨v3,rfl,-,-,g⟩;have ae:=zh (I.o.next g);have af:=zh (ah.o.trans (I.o.same g));clear g r;go_wp2_with fail;refine(L.o w3 ae.o).mono ?_;rintro e Y ⟨rfl,T,G,-⟩;have p:=zh (zCL (pre:=pre) (w1:=w1) T.stF (af.o.trans G) J.o He.o);clear T G L;go_wp2_with fail
       go_ret2
       exact p.o
    ·have B:=zh aA;clear aA;have r:=zh (jou_read hJ (zBV (sSnp pre)) (by rw[zCP,aU];omega));rw[zEi,nm_snp]at r;have I:=zh hJ;have ah:=zh ad;cases hg:Sat.get (zAF (zBR (nm pre))) D1.files with
     | none =>
      have hr:D1.rid1 (zAF (zBR (nm pre)))=(D1,0):=by unfold zAA.rid1;rw[hg];rfl
      have aa:=bn.o;rw[hr]at aa;have aC:D1=D2:=congrArg Prod.fst aa;have aD:0=e2:=congrArg Prod.snd aa;have aE:zDa (none:Option zAS)=7:=rfl;rw[hg,aE]at r;have Q:=zW (e2=0) aD.symm;have H:=zW (zAj w wr j d pre D2 (zAH.none0 nodes) F) (aC▸I.o);clear hJ ad hg hr aa aC aD aE;go_wp2_with fail;refine r.o.mono ?_;rintro e w3 ⟨v3,rfl,-,-,g⟩;have p:=zh (And.intro (ah.o.trans (I.o.same g)) (H.o.next g));clear g r;go_wp2_with fail;go_roundw
      case rel=>first|exact⟨p.o.1,.inr (.inr ⟨rfl,B.o,Q.o,p.o.2⟩)⟩|((repeat apply Exists.intro);exact⟨⟨p.o.1,.inr (.inr ⟨rfl,B.o,Q.o,p.o.2⟩)⟩,rfl⟩)
      case measure=>simp[intOf]
     | some f =>
      have hr:D1.remove [zAF (zBR (nm pre))]=(D2,e2):=by
       have:=bn.o;unfold zAA.rid1 at this;rw[hg]at this;exact this
      have aB:zDa (some f)=0:=rfl;rw[hg,aB]at r;have L:=zh (fun W (h:zAj w W j d pre D1 (zAH.none0 nodes) F)=>show Calls prog 76 #[.pointer (some ⟨d,0,none⟩),.slice (some ⟨W.heap.size,0,none⟩) 1 1] (W.alloc (.cells #[.string (zBV (sSnp pre))] 9)) fun e w'=>e=.returned (.int .i64 (e2:Int))∧zAj w w' j d pre D2 (zAH.none0 nodes) F∧Same F W w'∧w'.heap[j]?=W.heap[j]? by
       have:=jou_remove h (zBV (sSnp pre)) (by rw[zCP,aU];omega);rwa[zEi,nm_snp,hr]at this)
      clear hJ ad hg hr aB
      by_cases he:e2=0
      ·have Q:=zh he;rw[he]at L;clear he;go_wp2_with fail;refine r.o.mono ?_;rintro e w3 ⟨v3,rfl,-,-,g⟩;have ae:=zh (I.o.next g);have af:=zh (ah.o.trans (I.o.same g));clear g r;go_wp2_with fail;refine(L.o w3 ae.o).mono ?_;rintro e Y ⟨rfl,T,G,-⟩;have p:=zh (And.intro (af.o.trans G) T);clear T G L;go_wp2_with fail;go_roundw
       case rel=>first|exact⟨p.o.1,.inr (.inr ⟨rfl,B.o,Q.o,p.o.2⟩)⟩|((repeat apply Exists.intro);exact⟨⟨p.o.1,.inr (.inr ⟨rfl,B.o,Q.o,p.o.2⟩)⟩,rfl⟩)
       case measure=>simp[intOf]
      ·have al:((e2:Int) != 0)=true:=by simp;omega
       have J:=zh (bC.o B.o he);have He:=zh he;clear he;go_wp2_with fail;refine r.o.mono ?_;rintro e w3 ⟨v3,rfl,-,-,g⟩;have ae:=zh (I.o.next g);have af:=zh (ah.o.trans (I.o.same g));clear g r;go_wp2_with fail;refine(L.o w3 ae.o).mono ?_;rintro e Y ⟨rfl,T,G,-⟩;have p:=zh (zCL (pre:=pre) (w1:=w1) T.stF (af.o.trans G) J.o He.o);clear T G L;go_wp2_with fail
       go_ret2
       exact p.o
    ·have B:=zh aA;have X:=zh bs;have aq:=zh hJ;have bH:=zh ad;have bp:=zh (rsnap_calls hJ);rw[bo.o]at bp;have ay:=zh (fun(h3:e3=0)=>zCR hJ.okD L.o (show(zAH.none0 nodes).entries=[]from rfl) (bb.o.trans (by rw[h3])));clear aA bs hJ ad;go_wp2_with fail;refine bp.o.mono ?_;intro e Y hT;obtain⟨aO,n,t,gp,gn,gc,dv,rfl,bz⟩:=hT;have am:=zh (aq.o.next aO);have aY:=zh (bH.o.trans (aq.o.same aO));have ba:=zh aO;have bq:=zh bz;clear aO bz
     by_cases an:ks=0
     ·have K:=zh an;cases so with
      | none =>
       have av:=zh (rlog_calls (am.o.box (.cells #[.int .i64 n,.int .i64 t,.slice gp gn gc] 130)) (show(zAH.none0 nodes).entries=[]from rfl));rw[bb.o]at av;have aw:=zh (aY.o.trans (am.o.same (zAC Y (.cells #[.int .i64 n,.int .i64 t,.slice gp gn gc] 130))));have bh:=zh (zAJ Y (.cells #[.int .i64 n,.int .i64 t,.slice gp gn gc] 130));subst an;go_wp2_with fail;generalize Y.alloc (.cells #[.int .i64 n,.int .i64 t,.slice gp gn gc] 130)=w5 at *;refine av.o.mono ?_;rintro e w6 ⟨rfl,U,P,ak⟩
       by_cases N:e3=0
       ·have R:=zh N;have Z:=zh ((ak N).less (F':=F) fun k m=>.inl m);have ab:=zh (aw.o.trans fun k m=>P k (.inl m));subst N;clear U P ak;obtain⟨own,gv,bM,ev,vs,ai,-⟩:=id Z.o;have c0:=ai.c 0 rfl;clear ai
        by_cases aS:0<v.number
        ·have J:=zh (aK.o B.o X.o K.o R.o (show zAh none v a3=none by unfold zAh;exact if_pos aS));have p:=zh (fun q=>zCL (pre:=pre) (w1:=w1) (Z.o.drewN q).stF ab.o J.o (by decide));have d0:decide ((0:Int)<(v.number:Int))=true:=by simp;omega
         have bd:decide (0<v.number)=true:=by simp;omega
         clear aS;go_wp2_with fail
         go_quiet (fail)
         go_wp2_with fail
         go_quiet (fail)
         go_wp2_with fail
         go_ret2
         exact p.o _
        ·have H:=zW (zAh none v a3=some (a3,v)) (by unfold zAh;exact if_neg aS);have d0:decide ((0:Int)<(v.number:Int))=false:=by simp;omega
         have bd:decide (0<v.number)=false:=by simp;omega
         clear aS;cases a3 with
         | false =>
          have J:=zh (aJ.o v B.o X.o K.o R.o H.o);have p:=zh (fun q=>zE1 (pre:=pre) (w1:=w1) (Z.o.drewN q) ab.o J.o);go_wp2_with fail
          go_quiet (fail)
          go_wp2_with fail
          go_quiet (fail)
          go_wp2_with fail
          go_ret2
          exact p.o _
         | true =>
          have au:=ap.o v B.o X.o K.o R.o H.o;go_wp2_with fail
          go_quiet (fail)
          go_wp2_with fail
          go_quiet (fail)
          go_wp2_with fail;generalize E:(World.drewN _ _)=WQ;have ar:=zW (zAj w WQ j d pre D3 v F) (by rw[←E];exact Z.o.drewN _);have ag:=zW (Same F w1 WQ) (by rw[←E];exact ab.o);clear E c0;cases V:zAT D3 (nm pre) v with
          | mk D4 e4 =>
           have C:=zW (Calls prog 80 #[.pointer (some ⟨j,0,none⟩)] WQ (zCK w WQ j d pre v F (D4,e4))) (by
            have:=zDH ar.o (ay.o R.o);rwa[V]at this)
           have J:=au;rw[V]at J;have J:=zh J;clear V
           by_cases S:e4=0
           ·subst S;go_wp2_with fail;refine C.o.mono ?_;rintro e w9 ⟨rfl,y,A⟩;have p:=zh (zE1 (pre:=pre) (w1:=w1) y (ag.o.trans A) J.o);clear y A C;go_wp2_with fail
            go_ret2
            exact p.o
           ·have al:((e4:Int) != 0)=true:=by simp;omega
            have ax:=zh S;clear S;go_wp2_with fail;refine C.o.mono ?_;rintro e w9 ⟨rfl,y,A⟩;have p:=zh (zCL (pre:=pre) (w1:=w1) (show St w w9 d D4 F from y.stF) (ag.o.trans A) J.o ax.o);clear y A C;go_wp2_with fail
            go_ret2
            exact p.o
       ·have al:((e3:Int) != 0)=true:=by simp;omega
        have p:=zh (zCL (pre:=pre) (w1:=w1) (U.less (F:=F) fun k m=>.inl m) (aw.o.trans fun k m=>P k (.inl m)) (aI.o B.o X.o K.o N) N);clear U P ak N;go_wp2_with fail
        go_ret2
        exact p.o
      | some s =>
       obtain⟨rfl,rfl,bf,be,bv⟩:=bq.o s rfl;have bA:=snapOf_ok (o:=Sat.get (zBR (nm pre)) D2.files) (s:=s) (by rw[bo.o]);obtain⟨bX,bV,eg,-⟩:=zAw bf;simp only[Value.slice.injEq]at eg;obtain⟨rfl,rfl,rfl⟩:=eg;obtain⟨pd,cd,rfl,-⟩:=zAN be;have br:=zh bA;have bc:=zh bv;have aX:=zh bf;have aW:=zh be;have bF:=zW (zAj w (Y.alloc (.cells #[.int .i64 (s.number:Int),.int .i64 s.term,.slice gp s.group.length gc] 130)) j d pre D2 (zAH.none0 nodes) (fun k=>F k∨k=Y.heap.size∨((Value.slice gp s.group.length gc).ownBlock=some k∨(Value.slice pd s.data.length cd).ownBlock=some k))) ((aq.o.more (ba.o.trans ((zAC Y (.cells #[.int .i64 (s.number:Int),.int .i64 s.term,.slice gp s.group.length gc] 130)).mono ba.o.size)) fun k m=>by
        have G:Y.heap.size<(Y.alloc (.cells #[.int .i64 (s.number:Int),.int .i64 s.term,.slice gp s.group.length gc] 130)).heap.size:=by simp
        rcases m with m|m|m
        ·exact .inl m
        ·exact .inr ⟨by rw[m];exact ba.o.size,by rw[m];exact G⟩
        ·refine .inr ⟨bc.o k m,Nat.lt_trans ?_ G⟩;exact m.elim (OwnR.lt aX.o) (OwnR.lt aW.o)))
       have av:=zh (rlog_calls bF.o (show(zAH.none0 nodes).entries=[]from rfl));rw[bb.o]at av;have aw:=zh (aY.o.trans (am.o.same (zAC Y (.cells #[.int .i64 (s.number:Int),.int .i64 s.term,.slice gp s.group.length gc] 130))));have bh:=zh (zAJ Y (.cells #[.int .i64 (s.number:Int),.int .i64 s.term,.slice gp s.group.length gc] 130));have bj:=zh (zGN aX.o (zAC Y (.cells #[.int .i64 (s.number:Int),.int .i64 s.term,.slice gp s.group.length gc] 130)));have bi:=zh (zCM aW.o (zAC Y (.cells #[.int .i64 (s.number:Int),.int .i64 s.term,.slice gp s.group.length gc] 130)));have az:=zW (∀k,((Value.slice gp s.group.length gc).ownBlock=some k∨(Value.slice pd s.data.length cd).ownBlock=some k)→w.heap.size≤k∧¬F k) (fun k m=>⟨Nat.le_trans aq.o.bel.size (bc.o k m),fun hf=>by have h1:=aq.o.flt hf;have h2:=bc.o k m;omega⟩);have bU:=zW (∀k,((Value.slice gp s.group.length gc).ownBlock=some k∨(Value.slice pd s.data.length cd).ownBlock=some k)→k≠Y.heap.size) (fun k m e=>by
        have:=m.elim (OwnR.lt aX.o) (OwnR.lt aW.o);omega)
       have bR:=zW (∀k,F k→k≠Y.heap.size) (fun k hf e=>by have h1:=am.o.flt hf;omega);subst an;clear bf be bv bA;go_wp2_with fail;generalize Y.heap.size=b4 at *;generalize Y.alloc (.cells #[.int .i64 (s.number:Int),.int .i64 s.term,.slice gp s.group.length gc] 130)=w5 at *;refine av.o.mono ?_;rintro e w6 ⟨rfl,U,P,ak⟩
       by_cases N:e3=0
       ·have R:=zh N;have Z:=zh (ak N);have ab:=zh (aw.o.trans fun k m=>P k (.inl m));have aL:=zh ((P b4 (.inr (.inl rfl))).trans bh.o);have bk:=zh (OwnR.keep bj.o fun k m=>P k (.inr (.inr (.inl m))));have aT:=zh (OwnR.keep bi.o fun k m=>P k (.inr (.inr (.inr m))));subst N;clear U P ak;obtain⟨own,gv,bM,ev,vs,ai,-⟩:=id Z.o;have c0:=ai.c 0 rfl;have c7:=ai.c 7 rfl;have f7:=ai.fr 7;have z0:=zAd aL.o;have z1:=zAn aL.o;have z2:=zAo aL.o;clear ai
        by_cases ao:v.number<s.number
        ·have H:=zW (zAh (some s) v a3=some (true,v.rebase s)) (by unfold zAh;exact if_pos ao);have d0:decide ((v.number:Int)<(s.number:Int))=true:=by simp;omega
         have bd:decide (v.number<s.number)=true:=by simp;omega
         have au:=ap.o _ B.o X.o K.o R.o H.o;clear ao c7 f7;go_wp2_with fail
         go_quiet (fail)
         go_wp2_with fail;generalize E:(World.drewN _ _)=WQ;have ar:=zW (zAj w WQ j d pre D3 v _) (by rw[←E];exact Z.o.drewN _);have ag:=zW (Same F w1 WQ) (by rw[←E];exact ab.o);have aZ:=zW (WQ.heap[b4]?=some (.cells #[.int .i64 (s.number:Int),.int .i64 s.term,.slice gp s.group.length gc] 130 (0,0))) (by rw[←E];exact aL.o);have bK:=zh (zGI (F2:=F) ar.o br.o.1 (pg:=gp) (cg:=gc) (pd:=pd) (cd:=cd) (OwnR.keep bk.o fun k _=>by rw[←E];rfl) (OwnR.keep aT.o fun k _=>by rw[←E];rfl) (fun k m=>⟨.inr (.inr m),(az.o k m).1⟩) fun k m=>⟨.inl m,fun e=>(az.o k (.inl e)).2 m,fun e=>(az.o k (.inr e)).2 m⟩);have z0:=zAd aZ.o;have z1:=zAn aZ.o;have z2:=zAo aZ.o;clear E c0;go_wp2_with fail;refine bK.o.mono ?_;rintro e w7 ⟨rfl,bt,bw⟩;have bE:=zh bt;have bl:=zh (ag.o.trans bw);clear bt bw z0 z1 z2;go_wp2_with fail;cases V:zAT D3 (nm pre) (v.rebase s)with
         | mk D4 e4 =>
          have C:=zW (Calls prog 80 #[.pointer (some ⟨j,0,none⟩)] w7 (zCK w w7 j d pre (v.rebase s) F (D4,e4))) (by
           have:=zDH bE.o (Nat.le_trans (zEC v s) (ay.o R.o));rwa[V]at this)
          have J:=au;rw[V]at J;have J:=zh J;clear V
          by_cases S:e4=0
          ·subst S;go_wp2_with fail;refine C.o.mono ?_;rintro e w9 ⟨rfl,y,A⟩;have p:=zh (zE1 (pre:=pre) (w1:=w1) y (bl.o.trans A) J.o);clear y A C;go_wp2_with fail
           go_ret2
           exact p.o
          ·have al:((e4:Int) != 0)=true:=by simp;omega
           have ax:=zh S;clear S;go_wp2_with fail;refine C.o.mono ?_;rintro e w9 ⟨rfl,y,A⟩;have p:=zh (zCL (pre:=pre) (w1:=w1) (show St w w9 d D4 F from y.stF) (bl.o.trans A) J.o ax.o);clear y A C;go_wp2_with fail
           go_ret2
           exact p.o
        ·have d0:decide ((v.number:Int)<(s.number:Int))=false:=by simp;omega
         have bd:decide (v.number<s.number)=false:=by simp;omega
         by_cases aQ:s.number<v.number
         ·have H:=zW (zAh (some s) v a3=none) (by unfold zAh;exact(if_neg ao).trans (if_pos aQ));have d1:decide ((s.number:Int)<(v.number:Int))=true:=by simp;omega
          have bL:decide (s.number<v.number)=true:=by simp;omega
          have p:=zh (fun q q2=>zCL (pre:=pre) (w1:=w1) (((Z.o.drewN q).drewN q2).stF.less (F:=F) fun k m=>.inl m) ab.o (aK.o B.o X.o K.o R.o H.o) (by decide));clear ao aQ c7 f7;go_wp2_with fail
          go_quiet (fail)
          go_wp2_with fail
          go_quiet (fail)
          go_wp2_with fail
          go_ret2
          exact p.o _ _
         ·have H:=zW (zAh (some s) v a3=some (a3,{v with data:=s.data})) (by unfold zAh;exact(if_neg ao).trans (if_neg aQ));have d1:decide ((s.number:Int)<(v.number:Int))=false:=by simp;omega
          have bL:decide (s.number<v.number)=false:=by simp;omega
          clear ao aQ;have aM:=zh (fun q=>jou_data (F2:=F) (Z.o.drewN q) (dv:=.slice pd s.data.length cd) (OwnR.keep aT.o fun _ _=>rfl) (fun k m=>⟨.inr (.inr (.inr m)),(az.o k (.inr m)).1⟩) (fun k m=>⟨.inl m,fun e=>(az.o k (.inr e)).2 m⟩) (Nat.le_trans br.o.2.1 (by decide)));cases a3 with
          | false =>
           have J:=zh (aJ.o _ B.o X.o K.o R.o H.o);have p:=zh (fun q=>zE1 (pre:=pre) (w1:=w1) (aM.o q).1 (ab.o.trans (aM.o q).2) J.o);go_wp2_with fail
           go_quiet (fail)
           go_wp2_with fail
           go_quiet (fail)
           go_wp2_with fail
           go_ret2
           exact p.o _
          | true =>
           have au:=ap.o _ B.o X.o K.o R.o H.o;go_wp2_with fail
           go_quiet (fail)
           go_wp2_with fail
           go_quiet (fail)
           go_wp2_with fail;generalize E:(World.setCell _ _ _)=WQ;have ar:=zW (zAj w WQ j d pre D3 {v with data:=s.data} F) (by rw[←E];exact(aM.o _).1);have ag:=zW (Same F w1 WQ) (by rw[←E];exact ab.o.trans (aM.o _).2);clear E c0 c7 f7 z0 z1 z2;cases V:zAT D3 (nm pre) {v with data:=s.data}with
           | mk D4 e4 =>
            have C:=zW (Calls prog 80 #[.pointer (some ⟨j,0,none⟩)] WQ (zCK w WQ j d pre {v with data:=s.data} F (D4,e4))) (by
             have:=zDH ar.o (ay.o R.o);rwa[V]at this)
            have J:=au;rw[V]at J;have J:=zh J;clear V
            by_cases S:e4=0
            ·subst S;go_wp2_with fail;refine C.o.mono ?_;rintro e w9 ⟨rfl,y,A⟩;have p:=zh (zE1 (pre:=pre) (w1:=w1) y (ag.o.trans A) J.o);clear y A C;go_wp2_with fail
             go_ret2
             exact p.o
            ·have al:((e4:Int) != 0)=true:=by simp;omega
             have ax:=zh S;clear S;go_wp2_with fail;refine C.o.mono ?_;rintro e w9 ⟨rfl,y,A⟩;have p:=zh (zCL (pre:=pre) (w1:=w1) (show St w w9 d D4 F from y.stF) (ag.o.trans A) J.o ax.o);clear y A C;go_wp2_with fail
             go_ret2
             exact p.o
       ·have al:((e3:Int) != 0)=true:=by simp;omega
        have p:=zh (zCL (pre:=pre) (w1:=w1) (U.less (F:=F) fun k m=>.inl m) (aw.o.trans fun k m=>P k (.inl m)) (aI.o B.o X.o K.o N) N);clear U P ak N;go_wp2_with fail
        go_ret2
        exact p.o
     ·have al:((ks:Int) != 0)=true:=by simp;omega
      have p:=zh (zCL (pre:=pre) (w1:=w1) ((am.o.box (.cells #[.int .i64 n,.int .i64 t,.slice gp gn gc] 130)).stF.less (F:=F) fun k m=>.inl m) (aY.o.trans (am.o.same (zAC Y _))) (aV.o B.o X.o an) an);clear an;go_wp2_with fail
      go_ret2
      exact p.o
end
structure zAR where
 n:Bs
 b:Value
 f:zAS
def zAR.cells (x:zAR):List Value:=[encStr x.n,x.b,.int .i64 (x.f.lasts:Int)]
def zAR.key (x:zAR):Bs×zAS:=(x.n,x.f)
def leftOf:Option Nat→Int
 | none=>-1
 | some k=>k
theorem zFH (L:List zAR)(i:Nat)(x:zAR)(h:L[i]?=some x)(j:Nat)(b:j<3):(L.flatMap zAR.cells)[i*3+j]?=x.cells[j]?:=by
 induction L generalizing i with
 | nil=>simp at h
 | cons y r ih =>
  rw[List.flatMap_cons];cases i with
  | zero =>
   simp at h;subst h;rw[List.getElem?_append_left (by simp[zAR.cells];omega)];simp
  | succ i =>
   rw[List.getElem?_append_right (by simp[zAR.cells];omega)];have e:(i+1)*3+j-y.cells.length=i*3+j:=by simp[zAR.cells];omega
   rw[e];exact ih i (by simpa using h)
structure zAf (w:World)(r:Nat)(v:Value)(L:List zAR)(own:Nat→Prop)(D:zAA):Prop where
 cells:w.heap[r]?=some (.cells #[.int .i64 (D.room:Int),v,.int .i64 (leftOf D.fuse)] 118 (0,0))
 row:OwnR w 127 3 v L.length (L.flatMap zAR.cells)
 files:D.files=L.map zAR.key
 data:∀x∈L,zAk w 5 x.b x.f.data
 or:own r
 ov:∀k,v.ownBlock=some k→own k∧k≠r
 ob:∀x∈L,∀k,x.b.ownBlock=some k→own k∧k≠r∧v.ownBlock≠some k
 olt:∀k,own k→k<w.heap.size
 ok:D.OK
def RefAt (w:World)(r:Nat)(D:zAA)(own:Nat→Prop):Prop:=∃v L,zAf w r v L own D
theorem zAf.keep {w w':World}{r:Nat}{v:Value}{L:List zAR}{own:Nat→Prop}{D:zAA}(h:zAf w r v L own D)(f:w.heap.size≤w'.heap.size)(c:∀k,own k→w'.heap[k]?=w.heap[k]?):zAf w' r v L own D where
 cells:=(c r h.or).trans h.cells
 row:=h.row.keep fun k b=>c k (h.ov k b).1
 files:=h.files
 data:=fun x d=>OwnR.keep (h.data x d) fun k b=>c k (h.ob x d k b).1
 or:=h.or
 ov:=h.ov
 ob:=h.ob
 olt:=fun k b=>Nat.lt_of_lt_of_le (h.olt k b) f
 ok:=h.ok
theorem RefAt.keep {w w':World}{r:Nat}{own:Nat→Prop}{D:zAA}(h:RefAt w r D own)(c:w.heap.size≤w'.heap.size)(b:∀k,own k→w'.heap[k]?=w.heap[k]?):RefAt w' r D own:=by
 obtain⟨v,L,h⟩:=h;exact⟨v,L,h.keep c b⟩
section
variable {w:World} {r:Nat} {v:Value} {L:List zAR} {own:Nat→Prop} {D:zAA}
theorem zAf.c0 (h:zAf w r v L own D):w.cell? ⟨r,0,none⟩=some (.int .i64 (D.room:Int)):=zAG h.cells rfl
theorem zAf.c1 (h:zAf w r v L own D):w.cell? ⟨r,1,none⟩=some v:=zAG h.cells rfl
theorem zAf.c2 (h:zAf w r v L own D):w.cell? ⟨r,2,none⟩=some (.int .i64 (leftOf D.fuse)):=zAG h.cells rfl
theorem zAf.len (h:zAf w r v L own D):L.length=D.files.length:=by rw[h.files,List.length_map]
theorem zAf.at (h:zAf w r v L own D):L=[]∨∃g c,v=.slice (some ⟨g,0,none⟩) L.length c∧L.length≤c∧∀i x,L[i]?=some x→w.cell? ⟨g,i*3,none⟩=some (encStr x.n)∧w.cell? ⟨g,i*3+1,none⟩=some x.b∧w.cell? ⟨g,i*3+2,none⟩=some (.int .i64 (x.f.lasts:Int)):=by
 rcases h.row.2 with⟨rfl,hn⟩|⟨g,d,cur,e,m,k,_⟩
 ·exact .inl (List.eq_nil_of_length_eq_zero hn)
 ·refine .inr ⟨g,d,e,k,fun i x l=>?_⟩;have j:=h.row.cells (g:=g) (by rw[e];rfl);refine⟨?_,?_,?_⟩
  ·have:=j (i*3+0) (encStr x.n) ((zFH L i x l 0 (by omega)).trans rfl);rwa[add_zero]at this
  ·have:=j (i*3+1) x.b ((zFH L i x l 1 (by omega)).trans rfl);rwa[add_zero]at this
  ·have:=j (i*3+2) _ ((zFH L i x l 2 (by omega)).trans rfl);rwa[add_zero]at this
theorem zAf.slice (h:zAf w r v L own D):∃p c,v=.slice p L.length c:=OwnR.shape h.row
end
def zA3 (n:Bs):List Bs→Nat
 | []=>0
 | x::r=>if bytesBefore x n then zA3 n r+1 else 0
def isAt (n:Bs)(l:List Bs):Bool:=l[zA3 n l]? ==some n
theorem less_before (x:Bs)(s:ByteArray):Op.bytesLess x s.toList=bytesBefore x (nm s):=by
 have e:s.toList=nm s:=ByteArray.toList_eq s;rw[e,Bool.eq_iff_iff,bb_lt,bytesLess_eq,decide_eq_true_eq]
theorem drop_cons {α:Type}{l:List α}{k:Nat}{x:α}(h:l[k]?=some x):l.drop k=x::l.drop (k+1):=by
 obtain⟨b,rfl⟩:=List.getElem?_eq_some_iff.1 h;exact List.drop_eq_getElem_cons b
theorem zEF {n x:Bs}{r:List Bs}(h:bytesBefore x n=true):zA3 n (x::r)=zA3 n r+1:=by
 show(if bytesBefore x n then _ else _)=_
 rw[if_pos h]
theorem zFZ {n x:Bs}{r:List Bs}(h:bytesBefore x n=false):zA3 n (x::r)=0:=by
 show(if bytesBefore x n then _ else _)=_
 rw[if_neg (by simp[h])]
theorem spotN_le (n:Bs):∀l,zA3 n l≤l.length
 | []=>Nat.le_refl _
 | x::r=>by
  have:=spotN_le n r;cases h:bytesBefore x n with
  | true=>rw[zEF h];simp;omega
  | false=>rw[zFZ h];exact Nat.zero_le _
theorem zBu {w:World}{r:Nat}{v:Value}{L:List zAR}{own:Nat→Prop}{D:zAA}(h:zAf w r v L own D)(s:ByteArray) :
  Calls prog 70 #[.pointer (some ⟨r,0,none⟩),.string s] w fun e w'=>e=.returned (.tuple #[.int .i64 (zA3 (nm s) (L.map zAR.n):Int),.bool (isAt (nm s) (L.map zAR.n))])∧∃q,w'=w.drewN q:=by
 obtain⟨p,c,rfl⟩:=h.slice;have T:=h.c1;have F:=zh h.at
 have E:L.length≤4096:=by rw[h.len];exact h.ok.count
 clear h;have A:(L.map zAR.n).length=L.length:=List.length_map ..;generalize P:L.length=N at *;have S:=zh P;have t:=zh A;clear P A
 go_enter func70,ntmps70
 go_wp2_with fail
 go_loop [6] (fun i=>∃k:Nat,k≤N∧i=.int .i64 k∧zA3 (nm s) (L.map zAR.n)=k+zA3 (nm s) ((L.map zAR.n).drop k)) (fun i=>N-(intOf i).toNat)
 case atStart=>exact⟨0,Nat.zero_le _,rfl,by simp⟩
 case round =>
  obtain⟨k,W,rfl,b⟩:=hrel
  by_cases J:k<N
  ·have l:k<L.length:=by rw[S.o];exact J
   obtain⟨y,O⟩:∃y,L[k]?=some y:=⟨_,List.getElem?_eq_getElem l⟩;have m:(L.map zAR.n)[k]?=some y.n:=by rw[List.getElem?_map,O];rfl
   rw[drop_cons m]at b;rcases F.o with V|⟨g,T,U,-,Q⟩
   ·rw[V]at l;simp at l
   cases U;obtain⟨M,-,-⟩:=Q k y O;rw[enc_str]at M;have a:=zh b;have G:=zh m;clear Q l O b m;generalize y.n=x at *;cases B:bytesBefore x (nm s)with
   | true =>
    have H:Op.bytesLess x s.toList=true:=by rw[less_before];exact B
    go_wp2_with fail
    go_round
    case rel=>exact⟨k+1,by omega,by go_num,by rw[a.o,zEF B];omega⟩
    case measure=>simp[intOf];omega
   | false =>
    have H:Op.bytesLess x s.toList=false:=by rw[less_before];exact B
    have d:zA3 (nm s) (L.map zAR.n)=k:=by rw[a.o,zFZ B];rfl
    have z:isAt (nm s) (L.map zAR.n)=(x==nm s):=by unfold isAt;rw[d,G.o];rfl
    have f:=zh (show Value.tuple #[.int .i64 (k:Int),.bool (x==s.toList)]=.tuple #[.int .i64 (zA3 (nm s) (L.map zAR.n):Int),.bool (isAt (nm s) (L.map zAR.n))] by rw[d,z,ByteArray.toList_eq];rfl);clear d z B;go_wp2_with fail
    go_quiet (fail)
    go_wp2
    go_ret2
    exact⟨congrArg Ending.returned f.o,_,rfl⟩
  ·have I:k=N:=by omega
   subst I;have R:(L.map zAR.n).drop k=[]:=List.drop_of_length_le (by rw[t.o];exact Nat.le_refl _);rw[R]at b;have j:zA3 (nm s) (L.map zAR.n)=k:=b;have C:isAt (nm s) (L.map zAR.n)=false:=by unfold isAt;rw[j,List.getElem?_eq_none (by rw[t.o];exact Nat.le_refl _)];rfl
   have f:=zh (show Value.tuple #[.int .i64 (k:Int),.bool false]=.tuple #[.int .i64 (zA3 (nm s) (L.map zAR.n):Int),.bool (isAt (nm s) (L.map zAR.n))] by rw[j,C]);clear b j C R;go_wp2_with fail
   go_quiet (fail)
   go_wp2
   go_ret2
   exact⟨congrArg Ending.returned f.o,_,rfl⟩
end Go.Proofs.YtapfnehdgailmaaGreat
