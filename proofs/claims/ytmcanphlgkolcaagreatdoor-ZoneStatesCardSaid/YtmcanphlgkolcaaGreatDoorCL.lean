/- What the program's functions and the document's do, and plain laws, for PZoneStates. -/
import Derived.Handy
import Derived.Test.YtmcanphlgkolcaaGreatDoorCA
import Derived.Test.YtmcanphlgkolcaaGreatDoorCB
import Derived.Test.YtmcanphlgkolcaaGreatDoorCD
import Derived.Test.YtmcanphlgkolcaaGreatDoorCE
import Derived.Test.YtmcanphlgkolcaaGreatDoorCG
import Derived.Test.YtmcanphlgkolcaaGreatDoorCI
import Derived.Test.YtmcanphlgkolcaaGreatDoorCJ
import Derived.Test.YtmcanphlgkolcaaGreatDoorCK
open Go.Proofs.Tryz
set_option maxRecDepth 100000
set_option maxHeartbeats 64000000
namespace Go.Proofs.YtmcanphlgkolcaaGreatDoor
open Go.RowKit Go.Sat Go.Maps
def zCY:List Value:=[.nilFunc,.func (.func 100) #[] #[],.func (.func 101) #[] #[],.func (.func 102) #[] #[],.func (.func 103) #[] #[],.func (.func 104) #[] #[],.func (.func 105) #[] #[],.func (.func 106) #[] #[]]
theorem KindsL_one:∀v∈zCY,v.oneCell'=true:=by
 intro v b;unfold zCY at b;simp only[List.mem_cons,List.not_mem_nil,or_false]at b;rcases b with rfl|rfl|rfl|rfl|rfl|rfl|rfl|rfl<;>rfl
def RepC (x:Nat):List Value:=[.int .i64 (x:Int),.int .i64 0,.int .i64 0,.int .i64 0,.int .i64 0,.int .i64 0]
theorem zCQ (x:Nat):∀v∈RepC x,v.oneCell'=true:=by
 intro v b;unfold RepC at b;simp only[List.mem_cons,List.not_mem_nil,or_false]at b;rcases b with rfl|rfl|rfl|rfl|rfl|rfl<;>rfl
def putX (r:VRep)(o:OpM):Nat:=(putM r.V o.atW (It.one o.item o.count)).2
def putE (E:zBu)(r:VRep)(o:OpM):zBu:={AtE E (nm o.atK) r with vs:=zDv (nm o.atK) {r with V:=(putM r.V o.atW (It.one o.item o.count)).1} (AtE E (nm o.atK) r).vs}
structure MidA (w:World)(o:OpM)(eb vm sm tm am:Nat)(E:zBu)(own:Nat→Option (Nat×Bs))(b4 q:Nat)(r:VRep)(own':Nat→Option (Nat×Bs))(W:World):Prop where
 op:W.heap[w.heap.size]?=some (.cells (OpL o).toArray 25 (0,0))
 z:W.heap[b4]?=some (.cells zAa.toArray 48 (0,0))
 rq:W.heap[q]?=some (.cells (RepC (putX r o)).toArray 48 (0,0))
 n1:own' w.heap.size=none
 n2:own' b4=none
 n3:own' q=none
 d1:w.heap.size<b4
 d2:b4<q
 old:∀k,k<w.heap.size→own' k=own k
 chg:Chg (fun k=>own k≠none) w W
 get:zBS (nm o.atK) (AtE E (nm o.atK) r).vs=some r
 new:zBS (nm o.atK) E.vs=none→r.V=[]
theorem ss_store {w:World}{sm:Nat}{b:List (Int×Sess)}(h:zAd w prog 3 (intK underlying3) sessE sm b)(c:Int)(j:zCs c)(hn:b.length<maxLen)(s:Sess) :
  ∃w',(Instr.mapUpdate 153 (.map (some sm)) (.int .i64 c) s.v).run prog w=.ok () w'∧zAd w' prog 3 (intK underlying3) sessE sm (zDv c s b)∧Chg (fun k=>k=sm) w w':=by
 obtain⟨w',d,f,i⟩:=zAd.store h intKeyed underlying153 hn (a:=c) j (x:=s) trivial;exact⟨w',d,f,zCr i⟩
theorem tidy_ss (E:zBu)(n:Bs):(zDe E n).ss=E.ss:=by
 unfold zDe
 split
 ·split<;>rfl
 ·rfl
theorem put_ss (E:zBu)(r:VRep)(o:OpM):(putE E r o).ss=E.ss:=by
 unfold putE AtE
 split<;>rfl
theorem midA_of {w b j:World}{o:OpM}{eb vm sm tm am:Nat}{E:zBu}{own:Nat→Option (Nat×Bs)}{b4 q:Nat}{r:VRep}{own':Nat→Option (Nat×Bs)}(d:b.heap[w.heap.size]?=some (.cells (OpL o).toArray 25 (0,0)))(s:b.heap[b4]?=some (.cells zAa.toArray 48 (0,0)))(v:w.heap.size<b4)(y:b4<q)(c:∀k,w.heap.size≤k→own k=none)
  (B:own' w.heap.size=own w.heap.size) (C:own' b4=own b4) (t:own' q=none) (n:∀k,k<w.heap.size→own' k=own k) (a:Chg (fun k=>own k≠none) w b) (p:zAI b eb vm sm tm am (putE E r o) own') (h:zBS (nm o.atK) (AtE E (nm o.atK) r).vs=some r) (A:zBS (nm o.atK) E.vs=none→r.V=[])
  (z:j.heap[q]?=some (.cells (RepC (putX r o)).toArray 48 (0,0))) (f:Chg (fun k=>k=q) b j):MidA w o eb vm sm tm am E own b4 q r own' j∧zAI j eb vm sm tm am (putE E r o) own':=by
 refine⟨⟨(f.block _ (zAA d) (by omega)).trans d,(f.block _ (zAA s) (by omega)).trans s,z,B.trans (c _ (Nat.le_refl _)),C.trans (c _ (by omega)),t,v,y,n,a.trans f fun i D e=>by omega,h,A⟩,p.keep (fun k m=>f.block k (p.oLt k m) fun e=>?_) f.size⟩;rw[e]at m;exact m t
theorem zDn {w:World}{eb vm sm tm am:Nat}{E:zBu}{own:Nat→Option (Nat×Bs)}(h:zAI w eb vm sm tm am E own)(o:OpM)(ho:o.wf)(hm:o.may=true)(j:o.kind=1)
  (I:zBS o.client E.ss=none) (aq:E.ss.length<maxLen) (hn:E.vs.length<maxLen) (ao:∀r,zBS (nm o.atK) E.vs=some r→r.V.length<maxLen∧(zAb r.V o.atW).is=true)
  (hV:∀r:VRep,(zBS (nm o.atK) E.vs=none→r.V=[])→zBS (nm o.atK) (AtE E (nm o.atK) r).vs=some r→∀p∈(putE E r o).vs,p.2.V.length≤1099511627776) :
  Calls prog 45 #[.pointer (some ⟨eb,0,none⟩),.agg (OpL o).toArray] w fun e w'=>∃r own',e=.returned (.tuple #[.agg (RepC (putX r o)).toArray,.bool true]) ∧
   zBS (nm o.atK) (AtE E (nm o.atK) r).vs=some r∧(zBS (nm o.atK) E.vs=none→r.V=[])∧zAI w' eb vm sm tm am {zDe (putE E r o) (nm o.atK)with ss:=zDv o.client ⟨o.seq,putX r o,0,It.zero⟩ E.ss} own'∧(∀k,k<w.heap.size→own' k=own k)∧Chg (fun k=>own k≠none) w w':=by
 have HP:=zh (fun(W:World) (hW:zAI W eb vm sm tm am E own)=>zCl hW o ho hm ⟨by rw[j];decide,by rw[j];decide⟩ I);have HM:=zh (fun(W:World) (hW:zAI W eb vm sm tm am E own)=>mint_calls hW o ho hn ao);have H:=zh h;have Hx:=zh (And.intro ho (And.intro I (And.intro aq hV)));have Hk:=zh j;clear h hm I aq hn ao hV j ho
 go_enter func45,ntmps45
 go_wp2_with (first
  | (refine bbox rfl 25 (.tmp 1) rfl (L:=OpL o) rfl ?_;intro w2 an ai ap;have H2:=zh (And.intro an (And.intro ai ap));clear an ai ap)
  | (refine zAe rfl 48 rfl (zeroValue48 _) (by decide) ?_;intro w3 B d R;have H3:=zh (And.intro B (And.intro ((d.block _ (zAA H2.o.1)).trans H2.o.1) (And.intro (H2.o.2.1.trans (d.mono H2.o.2.1.size)) H2.o.2.2)));clear B d R H2)
  | (refine zA1 rfl 25 (.tmp 3) rfl w.heap.size rfl (L:=OpL o) H3.o.2.1 underlying25 rfl (by kernel_rfl) ?_))
 refine(HP.o _ (H.o.keep (fun k j=>H3.o.2.2.1.block k (H.o.oLt k j)) H3.o.2.2.1.size)).mono ?_;rintro e w4 ⟨rfl,n⟩;have S:=zh (And.intro ((n.block _ (zAA H3.o.1)).trans H3.o.1) (And.intro ((n.block _ (zAA H3.o.2.1)).trans H3.o.2.1) (And.intro (H3.o.2.2.1.trans (n.mono H3.o.2.2.1.size)) (H3.o.2.2.2))));clear n
 go_upto_region 5 with(first
  | (refine zAe rfl 48 rfl (zeroValue48 _) (by decide) ?_;intro w5 B d R;have H5:=zh (And.intro B (And.intro ((d.block _ (zAA S.o.1)).trans S.o.1) (And.intro ((d.block _ (zAA S.o.2.1)).trans S.o.2.1) (S.o.2.2.1.trans (d.mono S.o.2.2.1.size)))));have m:=zh (And.intro (zAA S.o.1) (And.intro S.o.2.2.2 S.o.2.2.1.size));clear B d R)
  | (refine zAg rfl 48 (.tmp 6) (.tmp 14) rfl w4.heap.size rfl (L:=zAa) rfl H5.o.1 rfl (by kernel_rfl) zA8 ?_;intro w6 hn s;have T:=zh (And.intro ((s.block _ (zAA H5.o.2.1) (by have:=m.o;omega)).trans H5.o.2.1) (And.intro ((s.block _ (zAA H5.o.2.2.1) (by have:=m.o;omega)).trans H5.o.2.2.1) (zAY H5.o.2.2.2 s m.o.2.2)));clear hn s H5 S)
  | (refine zBY rfl 174 #[(1,.func 100),(2,.func 101),(3,.func 102),(4,.func 103),(5,.func 104),(6,.func 105),(7,.func 106)] rfl (v:=.agg zCY.toArray) (by kernel_rfl) ?_)
  | (refine zAe rfl 174 rfl (zeroValue174 _) (by decide) ?_;intro w7 B d R;have H7:=zh (And.intro B (And.intro ((d.block _ (zAA T.o.1)).trans T.o.1) (And.intro ((d.block _ (zAA T.o.2.1)).trans T.o.2.1) (T.o.2.2.trans (d.mono T.o.2.2.size)))));have J:=zh (And.intro (zAA T.o.1) (And.intro (zAA T.o.2.1) T.o.2.2.size));clear B d R T)
  | (refine zAg rfl 174 (.tmp 8) (.tmp 18) rfl w6.heap.size rfl (L:=zCY) rfl H7.o.1 rfl (by kernel_rfl) KindsL_one ?_;intro w8 hn s;have H8:=zh (And.intro hn (And.intro ((s.block _ (zAA H7.o.2.1) (by have:=J.o;omega)).trans H7.o.2.1) (And.intro ((s.block _ (zAA H7.o.2.2.1) (by have:=J.o;omega)).trans H7.o.2.2.1) (zAY H7.o.2.2.2 s J.o.2.2))));clear hn s H7))
 simp only[uZ]
 go_cut [9] (fun s9 wx=>∃q r own',s9=.pointer (some ⟨q,0,none⟩)∧MidA w o eb vm sm tm am E own w2.heap.size q r own' wx∧zAI wx eb vm sm tm am (putE E r o) own')
 case first =>
  refine ost (fun w':World=>w'.heap[w.heap.size]?=some (.cells (OpL o).toArray 25 (0,0))∧w'.heap[w6.heap.size]?=some (.cells zCY.toArray 174 (0,0))) 9 ⟨H8.o.2.2.1,H8.o.1⟩ fun b=>?_;have C:=zW (w8.drew.heap[w2.heap.size]?=some (.cells zAa.toArray 48 (0,0))∧Below w.heap.size w w8.drew) (⟨H8.o.2.1,H8.o.2.2.2.trans ⟨rfl,rfl,rfl,Nat.le_refl _,fun _ _=>rfl⟩⟩);generalize w8.drew=W0 at *;have af:=zh (zAA b.2);have HE:=zh (H.o.keep (fun k j=>C.o.2.block k (H.o.oLt k j)) C.o.2.size);have M:=zh (fun k (j:w.heap.size≤k)=>(Classical.byContradiction fun Y=>by have:=H.o.oLt k Y;omega:own k=none));have ag:=zh ((Chg.of_below C.o.2).mono fun _ _ e=>e.elim:Chg (fun k=>own k≠none) w W0);refine Pl [0,1,2,3,4,5] ?_
  iterate 6 (refine Pd rfl (by intro w' a;first|exact zBr 25 (.tmp 3) rfl rfl a.1 underlying25 rfl (by kernel_rfl)|(have c0:=zAB a.1 (i:=0) (v:=.int .i64 1) (by show some (Value.int .i64 o.kind)=_;rw[Hk.o]);have k1:=zAB a.2 (i:=1) (v:=.func (.func 100) #[] #[]) rfl;go_simp;try with_reducible rfl)) ?_;simp only[uZ])
  refine Pn ?_;refine zBb 6 7 rfl rfl (by kernel_rfl) (by rfl) (by rfl) (fun K t=>?_) (fun K t=>?_)
  ·go_wp2_with fail;refine(HM.o _ HE.o).mono ?_;rintro e w9 ⟨r,own',he,hg,Q,U,P,s⟩;obtain rfl:e=.returned (.agg (RepC (putX r o)).toArray):=he;have D:∀k,w.heap.size≤k→k<W0.heap.size→w9.heap[k]?=W0.heap[k]?:=fun k h1 O=>s.block k O fun Y=>Y (M.o k h1);have hz:=(D _ (by have:=m.o;omega) (zAA C.o.1)).trans C.o.1;have f:=zh (And.intro hg (And.intro Q (And.intro U (And.intro P (And.intro (ag.o.trans s fun _ _ e=>e) hz)))));have hS:(fun w':World=>w'.heap[w.heap.size]?=some (.cells (OpL o).toArray 25 (0,0))∧w'.heap[w6.heap.size]?=some (.cells zCY.toArray 174 (0,0))) w9:=⟨(D _ (Nat.le_refl _) (zAA b.1)).trans b.1,(D _ J.o.2.2 (zAA b.2)).trans b.2⟩;have N:=zh s.size;clear hg Q U P s D hz b;go_wp2_with fail;refine t.o _ _ hS fun b=>?_;clear t hS
   try simp only[uZ]
   refine oon 7 rfl fun K t=>?_;refine zAo 48 rfl (zeroValue48 _) (by decide) ?_;intro ae hn n ad;refine t.o _ _ ⟨(n.block _ (zAA b.1)).trans b.1,(n.block _ (zAA b.2)).trans b.2⟩ fun b=>?_;clear t
   try simp only[uZ]
   refine oon 8 rfl fun K t=>?_;refine zAi 48 (.tmp 9) (.tmp 25) rfl w9.heap.size rfl (L:=RepC (putX r o)) rfl hn rfl (by kernel_rfl) (zCQ _) ?_;intro av O I;have X:=zAA f.o.2.2.2.2.2;refine t.o _ _ ⟨(I.block _ (zAA b.1) (by have:=m.o;omega)).trans b.1,(I.block _ (zAA b.2) (by have:=af.o;have:=N.o;omega)).trans b.2⟩ (fun y=>?_);clear t;have A:=midA_of (r:=r) b.1 ((n.block _ X).trans f.o.2.2.2.2.2) (by have:=m.o;omega) X M.o (f.o.2.2.2.1 _ (by have:=m.o;have:=zAA C.o.1;omega)) (f.o.2.2.2.1 _ (zAA C.o.1)) (Classical.byContradiction fun Y=>by have:=f.o.2.2.1.oLt _ Y;omega) (fun k j=>f.o.2.2.2.1 k (Nat.lt_of_lt_of_le j C.o.2.size)) (f.o.2.2.2.2.1.trans (Chg.of_below n) fun _ _ e=>e.elim) (f.o.2.2.1.keep (fun k j=>n.block k (f.o.2.2.1.oLt k j)) n.size) f.o.1 f.o.2.1 O I;have HF:=zh A;clear A O I b y hn n;refine odn ?_;go_wp2_with fail
   go_meet
   exact⟨w9.heap.size,r,own',rfl,HF.o⟩
  ·refine zAo 48 rfl (zeroValue48 _) (by decide) ?_;intro w9 hn n ad;refine t.o _ _ ⟨(n.block _ (zAA b.1)).trans b.1,(n.block _ (zAA b.2)).trans b.2⟩ fun b=>?_;clear t
   try simp only[uZ]
   refine oon 6 rfl fun K t=>?_;go_wp2_with fail;refine(HM.o _ (HE.o.keep (fun k j=>n.block k (HE.o.oLt k j)) n.size)).mono ?_;rintro e ae ⟨r,own',he,hg,Q,U,P,s⟩;obtain rfl:e=.returned (.agg (RepC (putX r o)).toArray):=he;have D:∀k,w.heap.size≤k→k<w9.heap.size→ae.heap[k]?=w9.heap[k]?:=fun k h1 O=>s.block k O fun Y=>Y (M.o k h1);have hz:=(D _ (by have:=m.o;omega) (Nat.lt_of_lt_of_le (zAA C.o.1) n.size)).trans ((n.block _ (zAA C.o.1)).trans C.o.1);have hq:=(D _ C.o.2.size (by omega)).trans hn;have f:=zh (And.intro hg (And.intro Q (And.intro U (And.intro P (And.intro ((ag.o.trans (Chg.of_below n) fun _ _ e=>e.elim).trans s fun _ _ e=>e) (And.intro hz hq))))));have hS:(fun w':World=>w'.heap[w.heap.size]?=some (.cells (OpL o).toArray 25 (0,0))∧w'.heap[w6.heap.size]?=some (.cells zCY.toArray 174 (0,0))) ae:=⟨(D _ (Nat.le_refl _) (zAA b.1)).trans b.1,(D _ J.o.2.2 (zAA b.2)).trans b.2⟩;have N:=zh ad;have ar:=zh (zAA b.1);clear hg Q U P s D hz b hq hn n ad;go_wp2_with fail;refine t.o _ _ hS fun b=>?_;clear t hS
   try simp only[uZ]
   refine oon 8 rfl fun K t=>?_;refine zAi 48 (.tmp 9) (.tmp 25) rfl W0.heap.size rfl (L:=RepC (putX r o)) rfl f.o.2.2.2.2.2.2 rfl (by kernel_rfl) (zCQ _) ?_;intro av O I;have X:=zAA C.o.1;refine t.o _ _ ⟨(I.block _ (zAA b.1) (by have:=m.o;omega)).trans b.1,(I.block _ (zAA b.2) (by have:=af.o;omega)).trans b.2⟩ (fun y=>?_);clear t;have A:=midA_of (r:=r) b.1 f.o.2.2.2.2.2.1 (by have:=m.o;omega) X M.o (f.o.2.2.2.1 _ ar.o) (f.o.2.2.2.1 _ (by have:=N.o;omega)) ((f.o.2.2.2.1 _ (by have:=N.o;omega)).trans (M.o _ C.o.2.size)) (fun k j=>f.o.2.2.2.1 k (by have:=N.o;have:=C.o.2.size;omega)) f.o.2.2.2.2.1 f.o.2.2.1 f.o.1 f.o.2.1 O I;have HF:=zh A;clear A O I b y;refine odn ?_;go_wp2_with fail
   go_meet
   exact⟨W0.heap.size,r,own',rfl,HF.o⟩
 case rest =>
  obtain⟨q,r,own',rfl,hM,U⟩:=hcut;have HT:=zh (zD0 U o.atK Hx.o.1.2.1.1 (Hx.o.2.2.2 r hM.new hM.get));have c3:=zAB hM.op (i:=3) (v:=.string o.atK) rfl;have c:=zh (And.intro hM U);clear hM U;go_wp2_with fail;refine HT.o.mono ?_;rintro e W5 ⟨rfl,ah,ab⟩;have D:∀k,own' k=none→k<wc.heap.size→W5.heap[k]?=wc.heap[k]?:=fun k h1 O=>ab.block k O fun Y=>Y h1;have ac:=(D _ c.o.1.n1 (zAA c.o.1.op)).trans c.o.1.op;have hz:=(D _ c.o.1.n2 (zAA c.o.1.z)).trans c.o.1.z;have hq:=(D _ c.o.1.n3 (zAA c.o.1.rq)).trans c.o.1.rq;have c0:=zAB ac (i:=0) (v:=.int .i64 1) (by show some (Value.int .i64 o.kind)=_;rw[Hk.o]);have F:=zh (And.intro ac (And.intro hz (And.intro hq (And.intro ah (c.o.1.chg.trans ab fun i hi e=>by rw[←c.o.1.old i hi];exact e)))));clear c3 D ac hz hq ah ab
  go_upto_region 8 with(fail)
  have aj:=F.o.2.2.2.1.cells;refine ost (fun w':World=>w'.heap[w.heap.size]?=some (.cells (OpL o).toArray 25 (0,0))∧w'.heap[eb]?=some (zDJ vm sm tm am)∧w'.heap[q]?=some (.cells (RepC (putX r o)).toArray 48 (0,0))) 11 ⟨F.o.1,aj,F.o.2.2.1⟩ fun b=>?_;have HX:=zh (And.intro (F.o.2.2.2.1.keep (w':=W5.drew) (fun _ _=>rfl) (Nat.le_refl _)) (And.intro (show W5.drew.heap[w2.heap.size]?=_ from F.o.2.1) (F.o.2.2.2.2.trans (show Chg (fun _=>False) W5 W5.drew from Chg.of_below ⟨rfl,rfl,rfl,Nat.le_refl _,fun _ _=>rfl⟩) fun _ _ e=>e.elim)));clear aj c0;generalize W5.drew=W6 at *;refine Pl [0,1,2,3,4,5,6,7,8] ?_
  iterate 9 (refine Pd rfl (by intro w' a;first|exact zBr 48 (.tmp 9) rfl rfl a.2.2 underlying48 rfl (by kernel_rfl)|(have c1:=zAB a.1 (i:=1) (v:=.int .i64 o.client) rfl;have c2:=zAB a.1 (i:=2) (v:=.int .i64 o.seq) rfl;have e1:=zAB a.2.1 (i:=1) (v:=.map (some sm)) rfl;go_simp;try with_reducible rfl)) ?_;simp only[uZ])
  refine Pn ?_;refine Pl [9] ?_;refine Pd (v:=Sess.v ⟨o.seq,putX r o,0,It.zero⟩) rfl (by intro w' a;kernel_rfl) ?_;simp only[uZ];refine Pn ?_;refine oon 10 rfl fun K t=>?_;have ak:(zDe (putE E r o) (nm o.atK)).ss=E.ss:=(tidy_ss _ _).trans (put_ss _ _ _);obtain⟨w',au,al,G⟩:=ss_store HX.o.1.sess o.client Hx.o.1.1.2.1 (by rw[ak];exact Hx.o.2.2.1) ⟨o.seq,putX r o,0,It.zero⟩;have aa:own' sm≠none:=by rw[HX.o.1.oS];simp
  have Z:∀k,own' k=none→k≠sm:=fun k j e=>by rw[←e]at aa;exact aa j
  have HY:=zh (And.intro (HX.o.1.said al G) (And.intro ((G.block _ (zAA HX.o.2.1) (Z _ c.o.1.n2)).trans HX.o.2.1) (HX.o.2.2.trans G fun i hi e=>by rw[←c.o.1.old i hi,e];exact aa)));have hS:w'.heap[w.heap.size]?=some (.cells (OpL o).toArray 25 (0,0))∧w'.heap[eb]?=some (zDJ vm sm tm am)∧w'.heap[q]?=some (.cells (RepC (putX r o)).toArray 48 (0,0)):=⟨(G.block _ (zAA b.1) (Z _ c.o.1.n1)).trans b.1,HY.o.1.cells,(G.block _ (zAA b.2.2) (Z _ c.o.1.n3)).trans b.2.2⟩;clear al G aa Z b;go_wp2_with fail;refine t.o _ _ hS fun b=>?_;clear t au;have HQ:=zh hS;clear hS b;refine odn ?_;go_wp2_with (first
   | (refine zA1 rfl 48 (.tmp 9) rfl q rfl (L:=RepC (putX r o)) HQ.o.2.2 underlying48 rfl (by kernel_rfl) ?_)
   | (refine zAg rfl 48 (.tmp 4) (.tmp 49) rfl w2.heap.size rfl (L:=RepC (putX r o)) rfl HY.o.2.1 rfl (by kernel_rfl) (zCQ _) ?_;intro w9 hn s;have HZ:=zh (And.intro hn s);clear hn s))
  refine bodyPost_ret (zAS (p:=4) (u:=5) rfl _ _ w2.heap.size _ _ (0,0) _ rfl HZ.o.1 underlying48 rfl (by kernel_rfl)) rfl ?_;refine⟨r,own',rfl,c.o.1.get,c.o.1.new,?_,c.o.1.old,HY.o.2.2.trans HZ.o.2 fun i hi e=>by have:=c.o.1.d1;omega⟩;have h9:=HY.o.1.keep (w':=w9) (fun k j=>HZ.o.2.block k (HY.o.1.oLt k j) fun e=>by rw[e]at j;exact j c.o.1.n2) HZ.o.2.size;rw[ak]at h9;exact h9
structure DoS (w w1:World)(z d eb l vm sm tm am:Nat)(h:zAj)(pre:ByteArray)(D:zAD)(M:zAl)(E:zBu)(own:Nat→Option (Nat×Bs))(ev:Value)(F G:Nat→Prop)(W:World):Prop where
 led:zAm w W l d pre D M (fun k=>F k∨k=z∨own k≠none∨ev.ownBlock=some k∨G k)
 zon:W.heap[z]?=some (zBR h eb l ev false)
 eco:zAI W eb vm sm tm am E own
 same:∀k,F k→W.heap[k]?=w1.heap[k]?
 fz:∀k,F k→k≠z∧own k=none∧ev.ownBlock≠some k∧¬G k
 nz:own z=none
 ne:∀k,ev.ownBlock=some k→k≠z∧own k=none
 gz:∀k,G k→k≠z∧own k=none∧ev.ownBlock≠some k
 lz:w.heap.size≤z
 lo:∀k,own k≠none→w.heap.size≤k
 le:∀k,ev.ownBlock=some k→w.heap.size≤k
 lg:∀k,G k→w.heap.size≤k
section
variable {w w1 W W':World} {z d eb l vm sm tm am:Nat} {h:zAj} {pre:ByteArray} {D D':zAD} {M M':zAl} {E E':zBu} {own own':Nat→Option (Nat×Bs)} {ev ev':Value} {F G G':Nat→Prop}
theorem zEW.doS (q:zEW w w1 z d h pre D M E ev false F):∃eb l vm sm tm am own,DoS w w1 z d eb l vm sm tm am h pre D M E own ev F NoF w1:=by
 obtain⟨eb,l,vm,sm,tm,am,own,p,r,o,c,f,i,j,m,n⟩:=q;refine⟨eb,l,vm,sm,tm,am,own,p.less fun k b=>?_,r,o,fun _ _=>rfl,fun k b=>⟨(c k b).1,(c k b).2.1,(c k b).2.2,fun e=>e⟩,f,i,fun k b=>b.elim,j,m,n,fun k b=>b.elim⟩;rcases b with b|b|b|b|b
 ·exact .inl b
 ·exact .inr (.inl b)
 ·exact .inr (.inr (.inl b))
 ·exact .inr (.inr (.inr b))
 ·exact b.elim
theorem DoS.flt (hS:DoS w w1 z d eb l vm sm tm am h pre D M E own ev F G W){k:Nat}(b:F k∨k=z∨own k≠none∨ev.ownBlock=some k∨G k):k<W.heap.size:=hS.led.flt b
theorem DoS.add (hS:DoS w w1 z d eb l vm sm tm am h pre D M E own ev F G W)(f:Below W.heap.size W W')(j:∀k,G' k→G k∨W.heap.size≤k∧k<W'.heap.size):DoS w w1 z d eb l vm sm tm am h pre D M E own ev F G' W':=by
 have n:=hS.led.bel.size;have i:∀k,W.heap.size≤k→k≠z∧own k=none∧ev.ownBlock≠some k:=fun k b=>⟨fun e=>by have:=hS.flt (.inr (.inl e));omega,Classical.byContradiction fun m=>by have:=hS.flt (.inr (.inr (.inl m)));omega,fun e=>by have:=hS.flt (.inr (.inr (.inr (.inl e))));omega⟩;refine⟨hS.led.more f fun k b=>?_,(f.block z (zAA hS.zon)).trans hS.zon,hS.eco.keep (fun k b=>f.block k (hS.eco.oLt k b)) f.size,fun k b=>(f.block k (hS.flt (.inl b))).trans (hS.same k b),fun k b=>⟨(hS.fz k b).1,(hS.fz k b).2.1,(hS.fz k b).2.2.1,fun e=>?_⟩,hS.nz,hS.ne,fun k b=>?_,hS.lz,hS.lo,hS.le,fun k b=>?_⟩
 ·rcases b with b|b|b|b|b
  ·exact .inl (.inl b)
  ·exact .inl (.inr (.inl b))
  ·exact .inl (.inr (.inr (.inl b)))
  ·exact .inl (.inr (.inr (.inr (.inl b))))
  ·exact(j k b).imp (fun e=>.inr (.inr (.inr (.inr e)))) id
 ·rcases j k e with c|c
  ·exact(hS.fz k b).2.2.2 c
  ·have:=hS.flt (.inl b);omega
 ·rcases j k b with c|c
  ·exact hS.gz k c
  ·exact i k c.1
 ·rcases j k b with c|c
  ·exact hS.lg k c
  ·omega
theorem DoS.next (hS:DoS w w1 z d eb l vm sm tm am h pre D M E own ev F G W)(b:Below W.heap.size W W'):DoS w w1 z d eb l vm sm tm am h pre D M E own ev F G W':=hS.add b fun _ c=>.inl c
theorem DoS.turn (hS:DoS w w1 z d eb l vm sm tm am h pre D M E own ev F G W)(m:zAI W' eb vm sm tm am E' own')(c:Chg (fun k=>own k≠none) W W')(f:∀k,k<W.heap.size→own' k=own k):DoS w w1 z d eb l vm sm tm am h pre D M E' own' ev F G W':=by
 have q:=hS.led.bel.size;have j:∀k,own k=none→k<W.heap.size→W'.heap[k]?=W.heap[k]?:=fun k i o=>c.block k o fun p=>p i;refine⟨hS.led.move c (fun k b n=>⟨.inr (.inr (.inl n)),hS.lo k n⟩) (fun k b=>?_),(j z hS.nz (zAA hS.zon)).trans hS.zon,m,fun k b=>(j k (hS.fz k b).2.1 (hS.flt (.inl b))).trans (hS.same k b),fun k b=>⟨(hS.fz k b).1,(f k (hS.flt (.inl b))).trans (hS.fz k b).2.1,(hS.fz k b).2.2⟩,(f z (zAA hS.zon)).trans hS.nz,fun k b=>⟨(hS.ne k b).1,(f k (hS.flt (.inr (.inr (.inr (.inl b)))))).trans (hS.ne k b).2⟩,fun k b=>⟨(hS.gz k b).1,(f k (hS.flt (.inr (.inr (.inr (.inr b)))))).trans (hS.gz k b).2.1,(hS.gz k b).2.2⟩,hS.lz,fun k b=>?_,hS.le,hS.lg⟩
 ·rcases b with b|b|b|b|b
  ·exact⟨.inl (.inl b),Nat.lt_of_lt_of_le (hS.flt (.inl b)) c.size⟩
  ·exact⟨.inl (.inr (.inl b)),Nat.lt_of_lt_of_le (hS.flt (.inr (.inl b))) c.size⟩
  ·refine⟨?_,m.oLt k b⟩
   by_cases i:k<W.heap.size
   ·exact .inl (.inr (.inr (.inl (by rw[←f k i];exact b))))
   ·exact .inr (by omega)
  ·exact⟨.inl (.inr (.inr (.inr (.inl b)))),Nat.lt_of_lt_of_le (hS.flt (.inr (.inr (.inr (.inl b))))) c.size⟩
  ·exact⟨.inl (.inr (.inr (.inr (.inr b)))),Nat.lt_of_lt_of_le (hS.flt (.inr (.inr (.inr (.inr b))))) c.size⟩
 ·by_cases i:k<W.heap.size
  ·exact hS.lo k (by rw[←f k i];exact b)
  ·omega
theorem DoS.set (hS:DoS w w1 z d eb l vm sm tm am h pre D M E own ev F G W)(i:Chg (fun k=>k=z) W W')(p:W'.heap[z]?=some (zBR h eb l ev' false))(j:∀k,ev'.ownBlock=some k→ev.ownBlock=some k∨W.heap.size≤k∧k<W'.heap.size):DoS w w1 z d eb l vm sm tm am h pre D M E own ev' F G W':=by
 have q:=hS.led.bel.size;have f:∀k,W.heap.size≤k→k≠z∧own k=none∧¬F k∧¬G k:=fun k b=>⟨fun e=>by have:=hS.flt (.inr (.inl e));omega,Classical.byContradiction fun o=>by have:=hS.flt (.inr (.inr (.inl o)));omega,fun e=>by have:=hS.flt (.inl e);omega,fun e=>by have:=hS.flt (.inr (.inr (.inr (.inr e))));omega⟩;have m:∀k,own k≠none→k≠z:=fun k b e=>by rw[e]at b;exact b hS.nz
 refine⟨hS.led.move i (fun k b n=>⟨.inr (.inl n),by rw[n];exact hS.lz⟩) (fun k b=>?_),p,hS.eco.keep (fun k b=>i.block k (hS.eco.oLt k b) (m k b)) i.size,fun k b=>(i.block k (hS.flt (.inl b)) (hS.fz k b).1).trans (hS.same k b),fun k b=>⟨(hS.fz k b).1,(hS.fz k b).2.1,fun e=>?_,(hS.fz k b).2.2.2⟩,hS.nz,fun k b=>?_,fun k b=>⟨(hS.gz k b).1,(hS.gz k b).2.1,fun e=>?_⟩,hS.lz,hS.lo,fun k b=>?_,hS.lg⟩
 ·rcases b with b|b|b|b|b
  ·exact⟨.inl (.inl b),Nat.lt_of_lt_of_le (hS.flt (.inl b)) i.size⟩
  ·exact⟨.inl (.inr (.inl b)),Nat.lt_of_lt_of_le (hS.flt (.inr (.inl b))) i.size⟩
  ·exact⟨.inl (.inr (.inr (.inl b))),Nat.lt_of_lt_of_le (hS.flt (.inr (.inr (.inl b)))) i.size⟩
  ·rcases j k b with c|c
   ·exact⟨.inl (.inr (.inr (.inr (.inl c)))),Nat.lt_of_lt_of_le (hS.flt (.inr (.inr (.inr (.inl c))))) i.size⟩
   ·exact⟨.inr c.1,c.2⟩
  ·exact⟨.inl (.inr (.inr (.inr (.inr b)))),Nat.lt_of_lt_of_le (hS.flt (.inr (.inr (.inr (.inr b))))) i.size⟩
 ·rcases j k e with c|c
  ·exact(hS.fz k b).2.2.1 c
  ·exact(f k c.1).2.2.1 b
 ·rcases j k b with c|c
  ·exact hS.ne k c
  ·exact⟨(f k c.1).1,(f k c.1).2.1⟩
 ·rcases j k e with c|c
  ·exact(hS.gz k b).2.2 c
  ·exact(f k c.1).2.2.2 b
 ·rcases j k b with c|c
  ·exact hS.le k c
  ·omega
theorem DoS.wrote (hS:DoS w w1 z d eb l vm sm tm am h pre D M E own ev F G W)(f:zAm w W' l d pre D' M' (fun k=>F k∨k=z∨own k≠none∨ev.ownBlock=some k∨G k))(c:Same (fun k=>F k∨k=z∨own k≠none∨ev.ownBlock=some k∨G k) W W'):DoS w w1 z d eb l vm sm tm am h pre D' M' E own ev F G W' :=
 ⟨f,(c z (.inr (.inl rfl))).trans hS.zon,hS.eco.keep2 fun k b=>c k (.inr (.inr (.inl b))),fun k b=>(c k (.inl b)).trans (hS.same k b),hS.fz,hS.nz,hS.ne,hS.gz,hS.lz,hS.lo,hS.le,hS.lg⟩
end
section
variable {w w1 W:World} {z d eb l vm sm tm am:Nat} {h:zAj} {pre:ByteArray} {D:zAD} {M:zAl} {E:zBu} {own:Nat→Option (Nat×Bs)} {ev:Value} {F G:Nat→Prop}
theorem zEQ (hS:DoS w w1 z d eb l vm sm tm am h pre D M E own ev F G W):Calls prog 44 #[.pointer (some ⟨z,0,none⟩),.int .i64 0] W fun e w'=>e=.returned (.int .i64 0)∧DoS w w1 z d eb l vm sm tm am h pre D M E own ev F G w'∧Chg (fun k=>k=z) W w':=by
 have H:=zh hS;have f:=zAB hS.zon (i:=8) (v:=.bool false) rfl;have j:=zAE hS.zon 8;clear hS
 go_enter func44,ntmps44
 go_wp2_with fail;go_ret;have c:=zAH H.o.zon 8 (.bool false);exact⟨rfl,H.o.set (Chg.setCell W ⟨z,8,none⟩ (.bool false)) c fun k b=>.inl b,Chg.setCell W ⟨z,8,none⟩ (.bool false)⟩
theorem zDg (hS:DoS w w1 z d eb l vm sm tm am h pre D M E own ev F G W)(t:M.last<M.base+16):Calls prog 46 #[.pointer (some ⟨z,0,none⟩)] W fun e w'=>e=.returned (.int .i64 0)∧Below W.heap.size W w':=by
 have j:=zh (base_calls hS.led);have k:=zh (fun W' (hb:Below W.heap.size W W')=>zAv (hS.led.next hb));have p:=hS.led.last;have n:M.base≤1099511627776:=by
  have:M.base≤M.last:=by unfold zAl.last;omega
  omega
 have m:=zAB hS.zon (i:=6) (v:=.pointer (some ⟨l,0,none⟩)) rfl;have c:=zh hS.zon;clear hS
 go_enter func46,ntmps46
 go_wp2_with fail;refine j.o.mono ?_;rintro e s ⟨v,rfl,f⟩;have b:=zW (Below W.heap.size W s) f.2.2;clear f;have m:=zAB ((b.o.block _ (zAA c.o)).trans c.o) (i:=6) (v:=.pointer (some ⟨l,0,none⟩)) rfl;go_wp2_with fail;refine(k.o _ b.o).mono ?_;rintro e w3 ⟨rfl,q,rfl⟩;have r:(M.last:Int)-M.base<16:=by omega
 go_wp2_with fail;go_ret;exact⟨rfl,b.o.trans ⟨rfl,rfl,rfl,Nat.le_refl _,fun _ _=>rfl⟩⟩
end
def EncR (w:World)(l:Bs)(e:Ending)(w':World):Prop:=∃v,e=.returned (.tuple #[v,.int .i64 0])∧zA4 w' 5 v l∧(∀j,v.ownBlock=some j→w.heap.size≤j)∧Below w.heap.size w w'
theorem zBX {a:Int}(h:zCs a):-9223372036854775808≤a∧a≤9223372036854775807:=by
 unfold zCs Lit.wf at h;simp[IntKind.min,IntKind.max,IntKind.signed,IntKind.bits]at h;omega
theorem may_sizes {o:OpM}(b:o.may=true):o.atK.size≤16∧o.atW.size≤16:=by
 unfold OpM.may zDs at b;simp at b;omega
theorem zEO (w:World)(o:OpM)(h:o.wf)(hm:o.may=true)(ak:o.toK.size≤1099511627776∧o.toW.size≤1099511627776):Calls prog 42 #[o.v] w (EncR w o.enc):=by
 have Hm:=zh (fun W=>zBK W o h);rw[hm]at Hm;have M:=zh h;have m:=zh (And.intro (may_sizes hm) ak);have Hb:=zh (fun x:Obj=>zAC w x);have e0:o.v=.agg #[.int .i64 o.kind,.int .i64 o.client,.int .i64 o.seq,.string o.atK,.string o.atW,.string o.toK,.string o.toW,.int .i64 o.item,.int .i64 o.count,.int .i64 o.price,.bool o.buy,.int .i64 o.id]:=rfl;rw[e0]at Hm ⊢
 go_enter func42,ntmps42
 go_wp2_with fail;refine(Hm.o _).mono ?_;rintro e w2 ⟨rfl,hb⟩;have n0:=(hb.block w.heap.size (by simp)).trans (zAF w _);have HB:=zh ((Hb.o _).trans (hb.mono (Hb.o _).size));have n1:=((zAC w2 (.cells #[.slice none 0 0] 133)).block _ (zAA n0)).trans n0;obtain⟨k0,k1,k2,k3,k4,k5,k6,k7,k8,k9,aa,ad⟩:=zCH n0;obtain⟨q0,q1,q2,q3,q4,q5,q6,q7,q8,q9,ab,ae⟩:=zCH n1;have HN:=zh n1;have am:w.heap.size<w2.heap.size:=zAA n0;clear hb n0 n1;cases N:o.buy with
 | false =>
  rw[N]at aa ab;go_wp2_with fail;refine(zCC (wrB_new w2) [o.kind,o.client,o.seq] #[.int .i64 o.kind,.int .i64 o.client,.int .i64 o.seq] rfl (by have h1:=zBX M.o.1.1;have h2:=zBX M.o.1.2.1;have h3:=zBX M.o.1.2.2;simp;omega) (by simp) (w2.heap.size+1) 3 3 (by simp) rfl (0,0)).mono ?_;rintro e w4 ⟨rfl,s,f⟩;have n4:=(f.block w.heap.size (by omega)).trans HN.o;obtain⟨-,-,-,r3,-,-,-,-,-,-,-,-⟩:=zCH n4;obtain⟨c1,W1,ag,t,b,B⟩:=zBC w4 o.atK;have m1:=(b.block _ (zAA n4)).trans n4;obtain⟨-,-,-,-,r4,-,-,-,-,-,-,-⟩:=zCH m1;obtain⟨c2,W2,ah,y,c,C⟩:=zBC W1 o.atW;have m2:=(c.block _ (zAA m1)).trans m1;obtain⟨-,-,-,-,-,r5,-,-,-,-,-,-⟩:=zCH m2;obtain⟨c3,W3,ai,z,d,D⟩:=zBC W2 o.toK;have m3:=(d.block _ (zAA m2)).trans m2;obtain⟨-,-,-,-,-,-,r6,-,-,-,-,-⟩:=zCH m3;obtain⟨c4,W4,aj,A,q,E⟩:=zBC W3 o.toW;have K:=(q.block _ (zAA m3)).trans m3;have HY:=zh (And.intro s (And.intro f (And.intro K (And.intro t (And.intro y (And.intro z (And.intro A (And.intro b (And.intro c (And.intro d q))))))))));have HS:=zh (And.intro B (And.intro C (And.intro D E)));clear s f K m3 m2 m1 n4 t y z A b c d q B C D E k0 k1 k2 k3 k4 k5 k6 k7 k8 k9 aa ad q0 q1 q2 q3 q4 q5 q6 q7 q8 q9 ab ae;go_wp2_with fail;obtain⟨s,f,K,t,y,z,A,b,c,d,J⟩:=HY.o;obtain⟨B,C,D,E⟩:=HS.o;have I:=d.trans (J.mono d.size);have H:=c.trans (I.mono c.size);have G:=b.trans (H.mono b.size);have F:(zA5 [o.kind,o.client,o.seq]).length≤27:=zAq _;have r:∀x:Bs,x.length≤1099511627776→(zAw x).length≤9+x.length:=fun x hx=>by
   have:=zAk (n:=x.length) (by omega);simp[zAw];omega
  have S:=r o.atK.data.toList (by have:=m.o.1.1;simp;omega);have T:=r o.atW.data.toList (by have:=m.o.1.2;simp;omega);have U:=r o.toK.data.toList (by have:=m.o.2.1;simpa using this);have V:=r o.toW.data.toList (by have:=m.o.2.2;simpa using this);have i:(zBL [((.slice (some ⟨w4.heap.size,0,none⟩) o.atK.size c1:Value),o.atK.data.toList),(.slice (some ⟨W1.heap.size,0,none⟩) o.atW.size c2,o.atW.data.toList),(.slice (some ⟨W2.heap.size,0,none⟩) o.toK.size c3,o.toK.data.toList),(.slice (some ⟨W3.heap.size,0,none⟩) o.toW.size c4,o.toW.data.toList)])=zAw o.atK.data.toList++zAw o.atW.data.toList++zAw o.toK.data.toList++zAw o.toW.data.toList:=by simp[zBL]
  have P:=zh (And.intro F (And.intro S (And.intro T (And.intro U V))));have HR:=zDS s G (rows:=[(.slice (some ⟨w4.heap.size,0,none⟩) o.atK.size c1,o.atK.data.toList),(.slice (some ⟨W1.heap.size,0,none⟩) o.atW.size c2,o.atW.data.toList),(.slice (some ⟨W2.heap.size,0,none⟩) o.toK.size c3,o.toK.data.toList),(.slice (some ⟨W3.heap.size,0,none⟩) o.toW.size c4,o.toW.data.toList)])
   #[.slice (some ⟨w4.heap.size,0,none⟩) o.atK.size c1,.slice (some ⟨W1.heap.size,0,none⟩) o.atW.size c2,.slice (some ⟨W2.heap.size,0,none⟩) o.toK.size c3,.slice (some ⟨W3.heap.size,0,none⟩) o.toW.size c4] rfl
   (fun W hW p hp=>by
    simp only[List.mem_cons,List.not_mem_nil,or_false]at hp;rcases hp with rfl|rfl|rfl|rfl
    ·exact t W fun k e=>by subst e;exact(hW _ (by omega) (by omega)).trans (H.block _ (by omega))
    ·exact y W fun k e=>by subst e;exact(hW _ (by omega) (by omega)).trans (I.block _ (by omega))
    ·exact z W fun k e=>by subst e;exact(hW _ (by omega) (by omega)).trans (J.block _ (by omega))
    ·exact A W fun k e=>by subst e;exact hW _ (by omega) (by omega))
   (by rw[i];have af:=m.o;simp only[List.length_append,Array.length_toList,List.nil_append]at *;have:=ByteArray.size_data (a:=o.atK);have:=ByteArray.size_data (a:=o.atW);have:=ByteArray.size_data (a:=o.toK);have:=ByteArray.size_data (a:=o.toW);omega) W4.heap.size 4 4 rfl rfl (by decide) (0,0)
  rw[i]at HR;refine HR.mono ?_;rintro e w5 ⟨rfl,Y,L⟩;have n5:=(L.block w.heap.size (by omega)).trans K;obtain⟨-,-,-,-,-,-,-,r7,r8,r9,-,al⟩:=zCH n5;have O:=zh (And.intro Y (f.trans (((G.mono (show w2.heap.size≤w4.heap.size by have:=f.size;simp at this;omega)).trans L))));clear Y L n5 HR s f K t y z A b c d J I H G B C D E S T U V i F r;go_wp2_with fail;refine(zCC O.o.1 [o.item,o.count,o.price,0,o.id] #[.int .i64 o.item,.int .i64 o.count,.int .i64 o.price,.int .i64 0,.int .i64 o.id] rfl (by have h1:=zBX M.o.2.2.1;have h2:=zBX M.o.2.2.2.1;have h3:=zBX M.o.2.2.2.2.1;have h4:=zBX M.o.2.2.2.2.2;simp;omega) (by have h1:=P.o;have h2:=m.o;have:=ByteArray.size_data (a:=o.atK);have:=ByteArray.size_data (a:=o.atW);have:=ByteArray.size_data (a:=o.toK);have:=ByteArray.size_data (a:=o.toW);simp only[List.length_append,List.length_nil,List.length_cons,Array.length_toList,List.nil_append]at *;omega) w5.heap.size 5 5 rfl rfl (0,0)).mono ?_;rintro e w6 ⟨rfl,Z,Q⟩;have HO:=zh (wrB_out Z (by have h1:=P.o;have h2:=m.o;have h3:=zAq [o.item,o.count,o.price,0,o.id];have:=ByteArray.size_data (a:=o.atK);have:=ByteArray.size_data (a:=o.atW);have:=ByteArray.size_data (a:=o.toK);have:=ByteArray.size_data (a:=o.toW);simp only[List.length_append,List.length_nil,List.length_cons,Array.length_toList,List.nil_append]at *;omega));have ac:=zh (O.o.2.trans Q);clear Z Q;go_wp2_with fail;refine HO.o.mono ?_;rintro e w7 ⟨u,rfl,hu,X,R⟩;have HU:=zh (And.intro hu (And.intro X R));clear hu X R;go_wp2_with fail
  go_ret2
  have e:o.enc=[]++zA5 [o.kind,o.client,o.seq]++(zAw o.atK.data.toList++zAw o.atW.data.toList++zAw o.toK.data.toList++zAw o.toW.data.toList)++zA5 [o.item,o.count,o.price,0,o.id]:=by
   unfold OpM.enc;rw[N];rfl
  refine⟨u,rfl,by rw[e];exact HU.o.1,fun j hj=>Nat.le_trans HB.o.size (HU.o.2.1 j hj),HB.o.trans (((zAC w2 _).trans (ac.o.trans HU.o.2.2)).mono HB.o.size)⟩
 | true =>
  rw[N]at aa ab;go_wp2_with fail;refine(zCC (wrB_new w2) [o.kind,o.client,o.seq] #[.int .i64 o.kind,.int .i64 o.client,.int .i64 o.seq] rfl (by have h1:=zBX M.o.1.1;have h2:=zBX M.o.1.2.1;have h3:=zBX M.o.1.2.2;simp;omega) (by simp) (w2.heap.size+1) 3 3 (by simp) rfl (0,0)).mono ?_;rintro e w4 ⟨rfl,s,f⟩;have n4:=(f.block w.heap.size (by omega)).trans HN.o;obtain⟨-,-,-,r3,-,-,-,-,-,-,-,-⟩:=zCH n4;obtain⟨c1,W1,ag,t,b,B⟩:=zBC w4 o.atK;have m1:=(b.block _ (zAA n4)).trans n4;obtain⟨-,-,-,-,r4,-,-,-,-,-,-,-⟩:=zCH m1;obtain⟨c2,W2,ah,y,c,C⟩:=zBC W1 o.atW;have m2:=(c.block _ (zAA m1)).trans m1;obtain⟨-,-,-,-,-,r5,-,-,-,-,-,-⟩:=zCH m2;obtain⟨c3,W3,ai,z,d,D⟩:=zBC W2 o.toK;have m3:=(d.block _ (zAA m2)).trans m2;obtain⟨-,-,-,-,-,-,r6,-,-,-,-,-⟩:=zCH m3;obtain⟨c4,W4,aj,A,q,E⟩:=zBC W3 o.toW;have K:=(q.block _ (zAA m3)).trans m3;have HY:=zh (And.intro s (And.intro f (And.intro K (And.intro t (And.intro y (And.intro z (And.intro A (And.intro b (And.intro c (And.intro d q))))))))));have HS:=zh (And.intro B (And.intro C (And.intro D E)));clear s f K m3 m2 m1 n4 t y z A b c d q B C D E k0 k1 k2 k3 k4 k5 k6 k7 k8 k9 aa ad q0 q1 q2 q3 q4 q5 q6 q7 q8 q9 ab ae;go_wp2_with fail;obtain⟨s,f,K,t,y,z,A,b,c,d,J⟩:=HY.o;obtain⟨B,C,D,E⟩:=HS.o;have I:=d.trans (J.mono d.size);have H:=c.trans (I.mono c.size);have G:=b.trans (H.mono b.size);have F:(zA5 [o.kind,o.client,o.seq]).length≤27:=zAq _;have r:∀x:Bs,x.length≤1099511627776→(zAw x).length≤9+x.length:=fun x hx=>by
   have:=zAk (n:=x.length) (by omega);simp[zAw];omega
  have S:=r o.atK.data.toList (by have:=m.o.1.1;simp;omega);have T:=r o.atW.data.toList (by have:=m.o.1.2;simp;omega);have U:=r o.toK.data.toList (by have:=m.o.2.1;simpa using this);have V:=r o.toW.data.toList (by have:=m.o.2.2;simpa using this);have i:(zBL [((.slice (some ⟨w4.heap.size,0,none⟩) o.atK.size c1:Value),o.atK.data.toList),(.slice (some ⟨W1.heap.size,0,none⟩) o.atW.size c2,o.atW.data.toList),(.slice (some ⟨W2.heap.size,0,none⟩) o.toK.size c3,o.toK.data.toList),(.slice (some ⟨W3.heap.size,0,none⟩) o.toW.size c4,o.toW.data.toList)])=zAw o.atK.data.toList++zAw o.atW.data.toList++zAw o.toK.data.toList++zAw o.toW.data.toList:=by simp[zBL]
  have P:=zh (And.intro F (And.intro S (And.intro T (And.intro U V))));have HR:=zDS s G (rows:=[(.slice (some ⟨w4.heap.size,0,none⟩) o.atK.size c1,o.atK.data.toList),(.slice (some ⟨W1.heap.size,0,none⟩) o.atW.size c2,o.atW.data.toList),(.slice (some ⟨W2.heap.size,0,none⟩) o.toK.size c3,o.toK.data.toList),(.slice (some ⟨W3.heap.size,0,none⟩) o.toW.size c4,o.toW.data.toList)])
   #[.slice (some ⟨w4.heap.size,0,none⟩) o.atK.size c1,.slice (some ⟨W1.heap.size,0,none⟩) o.atW.size c2,.slice (some ⟨W2.heap.size,0,none⟩) o.toK.size c3,.slice (some ⟨W3.heap.size,0,none⟩) o.toW.size c4] rfl
   (fun W hW p hp=>by
    simp only[List.mem_cons,List.not_mem_nil,or_false]at hp;rcases hp with rfl|rfl|rfl|rfl
    ·exact t W fun k e=>by subst e;exact(hW _ (by omega) (by omega)).trans (H.block _ (by omega))
    ·exact y W fun k e=>by subst e;exact(hW _ (by omega) (by omega)).trans (I.block _ (by omega))
    ·exact z W fun k e=>by subst e;exact(hW _ (by omega) (by omega)).trans (J.block _ (by omega))
    ·exact A W fun k e=>by subst e;exact hW _ (by omega) (by omega))
   (by rw[i];have af:=m.o;simp only[List.length_append,Array.length_toList,List.nil_append]at *;have:=ByteArray.size_data (a:=o.atK);have:=ByteArray.size_data (a:=o.atW);have:=ByteArray.size_data (a:=o.toK);have:=ByteArray.size_data (a:=o.toW);omega) W4.heap.size 4 4 rfl rfl (by decide) (0,0)
  rw[i]at HR;refine HR.mono ?_;rintro e w5 ⟨rfl,Y,L⟩;have n5:=(L.block w.heap.size (by omega)).trans K;obtain⟨-,-,-,-,-,-,-,r7,r8,r9,-,al⟩:=zCH n5;have O:=zh (And.intro Y (f.trans (((G.mono (show w2.heap.size≤w4.heap.size by have:=f.size;simp at this;omega)).trans L))));clear Y L n5 HR s f K t y z A b c d J I H G B C D E S T U V i F r;go_wp2_with fail;refine(zCC O.o.1 [o.item,o.count,o.price,1,o.id] #[.int .i64 o.item,.int .i64 o.count,.int .i64 o.price,.int .i64 1,.int .i64 o.id] rfl (by have h1:=zBX M.o.2.2.1;have h2:=zBX M.o.2.2.2.1;have h3:=zBX M.o.2.2.2.2.1;have h4:=zBX M.o.2.2.2.2.2;simp;omega) (by have h1:=P.o;have h2:=m.o;have:=ByteArray.size_data (a:=o.atK);have:=ByteArray.size_data (a:=o.atW);have:=ByteArray.size_data (a:=o.toK);have:=ByteArray.size_data (a:=o.toW);simp only[List.length_append,List.length_nil,List.length_cons,Array.length_toList,List.nil_append]at *;omega) w5.heap.size 5 5 rfl rfl (0,0)).mono ?_;rintro e w6 ⟨rfl,Z,Q⟩;have HO:=zh (wrB_out Z (by have h1:=P.o;have h2:=m.o;have h3:=zAq [o.item,o.count,o.price,1,o.id];have:=ByteArray.size_data (a:=o.atK);have:=ByteArray.size_data (a:=o.atW);have:=ByteArray.size_data (a:=o.toK);have:=ByteArray.size_data (a:=o.toW);simp only[List.length_append,List.length_nil,List.length_cons,Array.length_toList,List.nil_append]at *;omega));have ac:=zh (O.o.2.trans Q);clear Z Q;go_wp2_with fail;refine HO.o.mono ?_;rintro e w7 ⟨u,rfl,hu,X,R⟩;have HU:=zh (And.intro hu (And.intro X R));clear hu X R;go_wp2_with fail
  go_ret2
  have e:o.enc=[]++zA5 [o.kind,o.client,o.seq]++(zAw o.atK.data.toList++zAw o.atW.data.toList++zAw o.toK.data.toList++zAw o.toW.data.toList)++zA5 [o.item,o.count,o.price,1,o.id]:=by
   unfold OpM.enc;rw[N];rfl
  refine⟨u,rfl,by rw[e];exact HU.o.1,fun j hj=>Nat.le_trans HB.o.size (HU.o.2.1 j hj),HB.o.trans (((zAC w2 _).trans (ac.o.trans HU.o.2.2)).mono HB.o.size)⟩
structure DoK (w w1:World)(z d eb l vm sm tm am:Nat)(h:zAj)(pre:ByteArray)(D:zAD)(M:zAl)(E:zBu)(own:Nat→Option (Nat×Bs))(ev:Value)(F G:Nat→Prop)(o:OpM)(b0 b4:Nat)(W:World):Prop where
 s:DoS w w1 z d eb l vm sm tm am h pre D M E own ev F G W
 op:W.heap[b0]?=some (.cells (OpL o).toArray 25 (0,0))
 rep:W.heap[b4]?=some (.cells zAa.toArray 48 (0,0))
 g0:G b0
 g4:G b4
section
variable {w w1 W W':World} {z d eb l vm sm tm am:Nat} {h:zAj} {pre:ByteArray} {D D':zAD} {M M':zAl} {E E':zBu} {own own':Nat→Option (Nat×Bs)} {ev ev':Value} {F G G':Nat→Prop} {o:OpM} {b0 b4:Nat}
theorem DoK.add (b:DoK w w1 z d eb l vm sm tm am h pre D M E own ev F G o b0 b4 W)(f:Below W.heap.size W W')(i:∀k,G' k→G k∨W.heap.size≤k∧k<W'.heap.size)(c:∀k,G k→G' k):DoK w w1 z d eb l vm sm tm am h pre D M E own ev F G' o b0 b4 W' :=
 ⟨b.s.add f i,(f.block _ (zAA b.op)).trans b.op,(f.block _ (zAA b.rep)).trans b.rep,c _ b.g0,c _ b.g4⟩
theorem DoK.next (c:DoK w w1 z d eb l vm sm tm am h pre D M E own ev F G o b0 b4 W)(f:Below W.heap.size W W'):DoK w w1 z d eb l vm sm tm am h pre D M E own ev F G o b0 b4 W':=c.add f (fun _ b=>.inl b) fun _ b=>b
theorem DoK.drew (b:DoK w w1 z d eb l vm sm tm am h pre D M E own ev F G o b0 b4 W):DoK w w1 z d eb l vm sm tm am h pre D M E own ev F G o b0 b4 W.drew:=b.next ⟨rfl,rfl,rfl,Nat.le_refl _,fun _ _=>rfl⟩
theorem DoK.turn (b:DoK w w1 z d eb l vm sm tm am h pre D M E own ev F G o b0 b4 W)(i:zAI W' eb vm sm tm am E' own')(c:Chg (fun k=>own k≠none) W W')(j:∀k,k<W.heap.size→own' k=own k):DoK w w1 z d eb l vm sm tm am h pre D M E' own' ev F G o b0 b4 W' :=
 ⟨b.s.turn i c j,(c.block _ (zAA b.op) fun f=>f (b.s.gz _ b.g0).2.1).trans b.op,(c.block _ (zAA b.rep) fun f=>f (b.s.gz _ b.g4).2.1).trans b.rep,b.g0,b.g4⟩
theorem DoK.set (b:DoK w w1 z d eb l vm sm tm am h pre D M E own ev F G o b0 b4 W)(c:Chg (fun k=>k=z) W W')(i:W'.heap[z]?=some (zBR h eb l ev' false))(f:∀k,ev'.ownBlock=some k→ev.ownBlock=some k∨W.heap.size≤k∧k<W'.heap.size):DoK w w1 z d eb l vm sm tm am h pre D M E own ev' F G o b0 b4 W' :=
 ⟨b.s.set c i f,(c.block _ (zAA b.op) (b.s.gz _ b.g0).1).trans b.op,(c.block _ (zAA b.rep) (b.s.gz _ b.g4).1).trans b.rep,b.g0,b.g4⟩
theorem DoK.wrote (b:DoK w w1 z d eb l vm sm tm am h pre D M E own ev F G o b0 b4 W)(f:zAm w W' l d pre D' M' (fun k=>F k∨k=z∨own k≠none∨ev.ownBlock=some k∨G k))(c:Same (fun k=>F k∨k=z∨own k≠none∨ev.ownBlock=some k∨G k) W W'):DoK w w1 z d eb l vm sm tm am h pre D' M' E own ev F G o b0 b4 W' :=
 ⟨b.s.wrote f c,(c _ (.inr (.inr (.inr (.inr b.g0))))).trans b.op,(c _ (.inr (.inr (.inr (.inr b.g4))))).trans b.rep,b.g0,b.g4⟩
theorem DoS.hit (b:DoS w w1 z d eb l vm sm tm am h pre D M E own ev F G W){q:Nat}(f:Chg (fun k=>k=q) W W')(i:G q):DoS w w1 z d eb l vm sm tm am h pre D M E own ev F G W' :=
 ⟨b.led.move f (fun k _ j=>⟨.inr (.inr (.inr (.inr (by rw[j];exact i)))),by rw[j];exact b.lg _ i⟩) (fun k c=>⟨.inl c,Nat.lt_of_lt_of_le (b.flt c) f.size⟩),(f.block z (zAA b.zon) fun e=>(b.gz _ i).1 e.symm).trans b.zon,b.eco.keep (fun k c=>f.block k (b.eco.oLt k c) fun e=>c (by rw[e];exact(b.gz _ i).2.1)) f.size,fun k c=>(f.block k (b.flt (.inl c)) fun e=>(b.fz k c).2.2.2 (by rw[e];exact i)).trans (b.same k c),b.fz,b.nz,b.ne,b.gz,b.lz,b.lo,b.le,b.lg⟩
theorem DoS.drop (c:DoS w w1 z d eb l vm sm tm am h pre D M E own ev F G W):DoS w w1 z d eb l vm sm tm am h pre D M E own ev F NoF W :=
 ⟨c.led.less fun k b=>by
  rcases b with b|b|b|b|b
  ·exact .inl b
  ·exact .inr (.inl b)
  ·exact .inr (.inr (.inl b))
  ·exact .inr (.inr (.inr (.inl b)))
  ·exact b.elim,c.zon,c.eco,c.same,fun k b=>⟨(c.fz k b).1,(c.fz k b).2.1,(c.fz k b).2.2.1,fun e=>e⟩,c.nz,c.ne,fun k b=>b.elim,c.lz,c.lo,c.le,fun k b=>b.elim⟩
theorem DoS.setG (hS:DoS w w1 z d eb l vm sm tm am h pre D M E own ev F G W)(f:Chg (fun k=>k=z) W W')(o:W'.heap[z]?=some (zBR h eb l ev' false))(i:∀k,ev'.ownBlock=some k→G k)(c:∀k,G' k→G k∧ev'.ownBlock≠some k):DoS w w1 z d eb l vm sm tm am h pre D M E own ev' F G' W':=by
 have m:∀k,own k≠none→k≠z:=fun k b e=>by rw[e]at b;exact b hS.nz
 refine⟨hS.led.move f (fun k b n=>⟨.inr (.inl n),by rw[n];exact hS.lz⟩) (fun k b=>?_),o,hS.eco.keep (fun k b=>f.block k (hS.eco.oLt k b) (m k b)) f.size,fun k b=>(f.block k (hS.flt (.inl b)) (hS.fz k b).1).trans (hS.same k b),fun k b=>⟨(hS.fz k b).1,(hS.fz k b).2.1,fun e=>(hS.fz k b).2.2.2 (i k e),fun e=>(hS.fz k b).2.2.2 (c k e).1⟩,hS.nz,fun k b=>⟨(hS.gz k (i k b)).1,(hS.gz k (i k b)).2.1⟩,fun k b=>⟨(hS.gz k (c k b).1).1,(hS.gz k (c k b).1).2.1,(c k b).2⟩,hS.lz,hS.lo,fun k b=>hS.lg k (i k b),fun k b=>hS.lg k (c k b).1⟩;have j:∀k,(F k∨k=z∨own k≠none∨ev.ownBlock=some k∨G k)→((F k∨k=z∨own k≠none∨ev.ownBlock=some k∨G k)∨W.heap.size≤k)∧k<W'.heap.size:=fun k b=>⟨.inl b,Nat.lt_of_lt_of_le (hS.flt b) f.size⟩;rcases b with b|b|b|b|b
 ·exact j k (.inl b)
 ·exact j k (.inr (.inl b))
 ·exact j k (.inr (.inr (.inl b)))
 ·exact j k (.inr (.inr (.inr (.inr (i k b)))))
 ·exact j k (.inr (.inr (.inr (.inr (c k b).1))))
theorem DoK.setG (b:DoK w w1 z d eb l vm sm tm am h pre D M E own ev F G o b0 b4 W)(c:Chg (fun k=>k=z) W W')(n:W'.heap[z]?=some (zBR h eb l ev' false))(m:∀k,ev'.ownBlock=some k→G k)(j:∀k,G' k→G k∧ev'.ownBlock≠some k)(f:G' b0)(i:G' b4):DoK w w1 z d eb l vm sm tm am h pre D M E own ev' F G' o b0 b4 W' :=
 ⟨b.s.setG c n m j,(c.block _ (zAA b.op) (b.s.gz _ b.g0).1).trans b.op,(c.block _ (zAA b.rep) (b.s.gz _ b.g4).1).trans b.rep,f,i⟩
theorem DoK.hit (b:DoK w w1 z d eb l vm sm tm am h pre D M E own ev F G o b0 b4 W){q:Nat}(f:Chg (fun k=>k=q) W W')(i:G q)(m:b0≠q)(n:b4≠q):DoK w w1 z d eb l vm sm tm am h pre D M E own ev F G o b0 b4 W' :=
 ⟨⟨b.s.led.move f (fun k _ j=>⟨.inr (.inr (.inr (.inr (by rw[j];exact i)))),by rw[j];exact b.s.lg _ i⟩) (fun k c=>⟨.inl c,Nat.lt_of_lt_of_le (b.s.flt c) f.size⟩),(f.block z (zAA b.s.zon) fun e=>(b.s.gz _ i).1 e.symm).trans b.s.zon,b.s.eco.keep (fun k c=>f.block k (b.s.eco.oLt k c) fun e=>c (by rw[e];exact(b.s.gz _ i).2.1)) f.size,fun k c=>(f.block k (b.s.flt (.inl c)) fun e=>(b.s.fz k c).2.2.2 (by rw[e];exact i)).trans (b.s.same k c),b.s.fz,b.s.nz,b.s.ne,b.s.gz,b.s.lz,b.s.lo,b.s.le,b.s.lg⟩,(f.block _ (zAA b.op) m).trans b.op,(f.block _ (zAA b.rep) n).trans b.rep,b.g0,b.g4⟩
end
theorem domint_calls {w w1:World}{z d eb l vm sm tm am:Nat}{h:zAj}{pre:ByteArray}{D D2:zAD}{M M2:zAl}{n2:Nat}{E:zBu}{own:Nat→Option (Nat×Bs)}{F:Nat→Prop}(hS:DoS w w1 z d eb l vm sm tm am h pre D M E own (.slice none 0 0) F NoF w1)
  (aO:h.state=1) (I:h.fr.size≤16∧h.tu.size≤16) (o:OpM) (aG:zDr h.fr h.tu o.atK=true) (ho:o.wf) (aP:o.toK.size≤1099511627776∧o.toW.size≤1099511627776) (hm:o.may=true) (j:o.kind=1)
  (hs:zBS o.client E.ss=none) (aN:E.ss.length<maxLen) (hn:E.vs.length<maxLen) (aK:∀r,zBS (nm o.atK) E.vs=some r→r.V.length<maxLen∧(zAb r.V o.atW).is=true)
  (hV:∀r:VRep,(zBS (nm o.atK) E.vs=none→r.V=[])→zBS (nm o.atK) (AtE E (nm o.atK) r).vs=some r→∀p∈(putE E r o).vs,p.2.V.length≤1099511627776)
  (ae:zAV (nm pre) D M o.enc=⟨D2,M2,n2,0⟩) (ah:o.enc.length≤140737488355328) (aH:M2.last<M2.base+16) :
  Calls prog 14 #[.pointer (some ⟨z,0,none⟩),.agg (OpL o).toArray] w1 fun e w'=>∃r own' ev',e=.returned (.tuple #[.agg (RepC (putX r o)).toArray,.int .i64 0]) ∧
   (zBS (nm o.atK) E.vs=none→r.V=[])∧DoS w w1 z d eb l vm sm tm am h pre D2 M2 {zDe (putE E r o) (nm o.atK)with ss:=zDv o.client ⟨o.seq,putX r o,0,It.zero⟩ E.ss} own' ev' F NoF w':=by
 have Hm:=zh (fun W=>zBK W o ho);rw[hm]at Hm;have az:=zh (fun W=>zCd W h.fr h.tu o.atK (by omega) (by omega) (by have:=ho.2.1.1;unfold zCo maxLen at this;omega));rw[aG]at az;have HP:=zh (fun(W:World) (hW:zAI W eb vm sm tm am E own)=>zCl hW o ho hm ⟨by rw[j];decide,by rw[j];decide⟩ hs);have HA:=zh (fun(W:World) (hW:zAI W eb vm sm tm am E own)=>zDn hW o ho hm j hs aN hn aK hV);have aV:=zh (fun W=>zEO W o ho hm aP);have H:=zh hS;have Hx:=zh (And.intro aO (And.intro ae (And.intro ah aH)));clear aG aP hs aN hn aK hV ae ah aH aO hS j hm ho I;obtain⟨i5,aF,ai,aj,ak⟩:=info_parts (show(prog.info? 102).map (fun i=>(i.zero,i.size,i.bytes))=some (some (.agg #[.int .i64 0,.int .i64 0,.int .i64 0,.int .i64 0,.int .i64 0,.string ⟨#[]⟩,.string ⟨#[]⟩,.string ⟨#[]⟩,.string ⟨#[]⟩,.int .i64 0,.int .i64 0,.int .i64 0,.bool false,.int .i64 0]),14,144) by kernel_rfl);have aa:=zh (And.intro aF (And.intro ai (And.intro aj ak)));clear aF ai aj ak
 go_enter func14,ntmps14
 go_upto_region 7 with(first
  | (refine bbox rfl 25 (.tmp 1) rfl (L:=OpL o) rfl ?_;intro Q aI aC aM;have H2:=zh (And.intro aI (And.intro aC aM));clear aI aC aM)
  | (refine zAe rfl 48 rfl (zeroValue48 _) (by decide) ?_;intro w3 aJ ap ba;have H3:=zW (DoK w w1 z d eb l vm sm tm am h pre D M E own (.slice none 0 0) F (fun k=>k=w1.heap.size∨k=Q.heap.size) o w1.heap.size Q.heap.size w3) (⟨H.o.add (H2.o.2.1.trans (ap.mono H2.o.2.1.size)) (fun k j=>.inr (by have:=H2.o.2.2;omega)),(ap.block _ (zAA H2.o.1)).trans H2.o.1,aJ,.inl rfl,.inr rfl⟩);have bf:=zh H2.o.2.2;clear aJ ap ba H2;have c8:=zAB H3.o.s.zon (i:=8) (v:=.bool false) rfl;have c4:=zAB H3.o.s.zon (i:=4) (v:=.int .i64 1) (by show some (Value.int .i64 h.state)=_;rw[Hx.o.1])))
 refine ost (fun w':World=>w'.heap[w1.heap.size]?=some (.cells (OpL o).toArray 25 (0,0))∧w'.heap[z]?=some (zBR h eb l (.slice none 0 0) false)) 15 ⟨H3.o.op,H3.o.s.zon⟩ fun b=>?_;have H4:=zh H3.o.drew;clear c8 c4;generalize w3.drew=w4 at *;refine Pl [0] ?_;refine Pd rfl (by intro w' y;exact zBr 25 (.tmp 3) rfl rfl y.1 underlying25 rfl (by kernel_rfl)) ?_;simp only[uZ];refine Pn ?_;refine oon 1 rfl fun K c=>?_;go_wp2_with fail;refine(Hm.o _).mono ?_;rintro e w5 ⟨rfl,t⟩;have H5:=zh (H4.o.next t);clear t b;go_wp2_with fail;refine c.o _ _ ⟨H5.o.op,H5.o.s.zon⟩ fun b=>?_;clear c
 try simp only[uZ]
 refine Pl [2,3,4,5,6,7,8,9,10] ?_
 iterate 9 (refine Pd rfl (by intro w' y;have c3:=zAB y.1 (i:=3) (v:=.string o.atK) rfl;have p1:=zAB y.2 (i:=1) (v:=.string h.fr) rfl;have p2:=zAB y.2 (i:=2) (v:=.string h.tu) rfl;go_simp;try with_reducible rfl) ?_;simp only[uZ])
 refine Pn ?_;refine oon 11 rfl fun K c=>?_;go_wp2_with fail;refine(az.o _).mono ?_;rintro e w6 ⟨rfl,t⟩;have H6:=zh (H5.o.next t);clear t b;go_wp2_with fail;refine c.o _ _ ⟨H6.o.op,H6.o.s.zon⟩ fun b=>?_;clear c
 try simp only[uZ]
 refine Pl [12,13,14] ?_
 iterate 3 (refine Pc rfl ?_;simp only[uZ])
 refine Pn ?_;clear b;refine odn ?_
 go_upto_region 9 with(fail)
 have H7:=H6
 try simp only[uZ]
 go_cut [7] (fun s7 wx=>s7=.bool false∧DoK w w1 z d eb l vm sm tm am h pre D M E own (.slice none 0 0) F (fun k=>k=w1.heap.size∨k=Q.heap.size) o w1.heap.size Q.heap.size wx)
 case first =>
  refine ost (fun w':World=>w'.heap[w1.heap.size]?=some (.cells (OpL o).toArray 25 (0,0))∧w'.heap[z]?=some (zBR h eb l (.slice none 0 0) false)) 12 ⟨H7.o.op,H7.o.s.zon⟩ fun b=>?_;have H8:=zh H7.o.drew;clear H7;generalize w6.drew=J at *;refine Pl [0,1,2,3,4] ?_
  iterate 5 (refine Pd rfl (by intro w' y;first|exact zBr 25 (.tmp 3) rfl rfl y.1 underlying25 rfl (by kernel_rfl)|(have c5:=zAB y.2 (i:=5) (v:=.pointer (some ⟨eb,0,none⟩)) rfl;go_simp;try with_reducible rfl)) ?_;simp only[uZ])
  refine Pn ?_;refine zBb 5 9 rfl rfl (by kernel_rfl) (by rfl) (by rfl) (fun K c=>?_) (fun K c=>?_)
  ·clear b;go_wp2_with fail;refine(HP.o _ H8.o.s.eco).mono ?_;rintro e w9 ⟨rfl,t⟩;have H9:=zh (H8.o.next t);clear t;go_wp2_with fail;refine c.o _ _ ⟨H9.o.op,H9.o.s.zon⟩ fun b=>?_;clear c
   try simp only[uZ]
   refine Pl [6,7,8] ?_
   iterate 3 (refine Pc rfl ?_;simp only[uZ])
   refine Pn ?_;refine oon 9 rfl fun K c=>?_;refine zAo 48 rfl (zeroValue48 _) (by decide) ?_;intro aS hn t I;have R:=zh (H9.o.next t);have ao:=zh hn;have av:=zW (Below w9.heap.size w9 aS) t;have aW:=zW (w.heap.size≤w9.heap.size) H9.o.s.led.bel.size;clear hn t b;refine c.o _ _ ⟨R.o.op,R.o.s.zon⟩ fun b=>?_;clear c
   try simp only[uZ]
   refine oon 10 rfl fun K c=>?_;refine zAi 48 (.tmp 6) (.tmp 56) rfl w9.heap.size rfl (L:=zAa) rfl ao.o rfl (by kernel_rfl) zA8 ?_;intro bd hn C;have N:=zh (H9.o.next (zAY (w:=w9) av.o C (Nat.le_refl _)));clear hn C b;refine c.o _ _ ⟨N.o.op,N.o.s.zon⟩ fun b=>?_;clear c
   try simp only[uZ]
   refine Pl [11] ?_
   iterate 1 (refine Pc rfl ?_;simp only[uZ])
   refine Pn ?_;clear b;refine odn ?_;go_wp2_with fail
   go_meet
   exact⟨rfl,N.o⟩
  ·refine zAo 48 rfl (zeroValue48 _) (by decide) ?_;intro w9 hn t I;have H9:=zh (H8.o.next t);have Z:=zh (And.intro hn t);clear hn t b;refine c.o _ _ ⟨H9.o.op,H9.o.s.zon⟩ fun b=>?_;clear c
   try simp only[uZ]
   refine oon 5 rfl fun K c=>?_;clear b;go_wp2_with fail;refine(HP.o _ H9.o.s.eco).mono ?_;rintro e aS ⟨rfl,t⟩;have R:=zh (H9.o.next t);have ac:=zh (And.intro ((t.block _ (zAA Z.o.1)).trans Z.o.1) (Z.o.2.trans (t.mono Z.o.2.size)));clear t;go_wp2_with fail;refine c.o _ _ ⟨R.o.op,R.o.s.zon⟩ fun b=>?_;clear c
   try simp only[uZ]
   refine Pl [6,7,8] ?_
   iterate 3 (refine Pc rfl ?_;simp only[uZ])
   refine Pn ?_;refine oon 10 rfl fun K c=>?_;refine zAi 48 (.tmp 6) (.tmp 56) rfl J.heap.size rfl (L:=zAa) rfl ac.o.1 rfl (by kernel_rfl) zA8 ?_;intro bd hn C;have N:=zh (H8.o.next (zAY (w:=J) ac.o.2 C (Nat.le_refl _)));clear hn C b;refine c.o _ _ ⟨N.o.op,N.o.s.zon⟩ fun b=>?_;clear c
   try simp only[uZ]
   refine Pl [11] ?_
   iterate 1 (refine Pc rfl ?_;simp only[uZ])
   refine Pn ?_;clear b;refine odn ?_;go_wp2_with fail
   go_meet
   exact⟨rfl,N.o⟩
 case rest =>
  obtain⟨rfl,hD⟩:=hcut;have H8:=zh hD;clear hD H7;go_wp2_with (refine zA1 rfl 25 (.tmp 3) rfl w1.heap.size rfl (L:=OpL o) H8.o.op underlying25 rfl (by kernel_rfl) ?_)
  refine(aV.o _).mono ?_;rintro e bg ⟨v,rfl,hv,aQ,t⟩;have al:=zh (H8.o.add (G':=fun k=>(k=w1.heap.size∨k=Q.heap.size)∨v.ownBlock=some k) t (fun k j=>j.imp id fun e=>⟨aQ k e,OwnR.lt hv e⟩) fun k j=>.inl j);obtain⟨pv,cv,rfl,-⟩:=zAN hv;have Hv:=zh hv;clear hv aQ t H8;have ay:=zh (zDX al.o.s.led (fun W _ hs=>has_own Hv.o fun k j=>hs k (.inr (.inr (.inr (.inr (.inr j)))))) Hx.o.2.2.1);rw[Hx.o.2.1]at ay;have c6:=zAB al.o.s.zon (i:=6) (v:=.pointer (some ⟨l,0,none⟩)) rfl;go_wp2_with fail;refine ay.o.mono ?_;rintro e bh ⟨rfl,hL,hs⟩;have aw:=zh (al.o.wrote hL hs);clear hL hs c6;have aU:=zh (zEQ aw.o.s);go_wp2_with fail;refine aU.o.mono ?_;rintro e be ⟨rfl,aB,C⟩;have an:=zh (aw.o.set C aB.zon fun k j=>.inl j);clear C aB
  go_upto_region 16 with(fail)
  try simp only[uZ]
  go_cut [12] (fun bc wx=>∃q r own',bc=.pointer (some ⟨q,0,none⟩)∧wx.heap[q]?=some (.cells (RepC (putX r o)).toArray 48 (0,0))∧(zBS (nm o.atK) E.vs=none→r.V=[])∧DoK w w1 z d eb l vm sm tm am h pre D2 M2 {zDe (putE E r o) (nm o.atK)with ss:=zDv o.client ⟨o.seq,putX r o,0,It.zero⟩ E.ss} own' (.slice none 0 0) F (fun k=>((k=w1.heap.size∨k=Q.heap.size)∨(Value.slice pv o.enc.length cv).ownBlock=some k)∨k=q) o w1.heap.size Q.heap.size wx)
  case first =>
   refine ost (fun w':World=>w'.heap[w1.heap.size]?=some (.cells (OpL o).toArray 25 (0,0))∧w'.heap[z]?=some (zBR h eb l (.slice none 0 0) false)) 12 ⟨an.o.op,an.o.s.zon⟩ fun b=>?_;have B:=zh an.o.drew;generalize be.drew=J at *;refine Pl [0,1,2,3,4] ?_
   iterate 5 (refine Pd rfl (by intro w' y;first|exact zBr 25 (.tmp 3) rfl rfl y.1 underlying25 rfl (by kernel_rfl)|(have c5:=zAB y.2 (i:=5) (v:=.pointer (some ⟨eb,0,none⟩)) rfl;go_simp;try with_reducible rfl)) ?_;simp only[uZ])
   refine Pn ?_;refine zBb 5 9 rfl rfl (by kernel_rfl) (by rfl) (by rfl) (fun K c=>?_) (fun K c=>?_)
   ·clear b;go_wp2_with fail;refine(HA.o _ B.o.s.eco).mono ?_;rintro e X ⟨r,own',rfl,-,G,hE,U,C⟩;have f:=zh (And.intro G (B.o.turn hE C U));clear G hE U C;go_wp2_with fail;refine c.o _ _ ⟨f.o.2.op,f.o.2.s.zon⟩ fun b=>?_;clear c
    try simp only[uZ]
    refine Pl [6,7,8] ?_
    iterate 3 (refine Pc rfl ?_;simp only[uZ])
    refine Pn ?_;refine oon 9 rfl fun K c=>?_;refine zAo 48 rfl (zeroValue48 _) (by decide) ?_;intro au hn t I;have ad:=zh (And.intro hn t);have m:=zh (f.o.2.next t);have bb:=zh I;clear hn t b I;refine c.o _ _ ⟨m.o.op,m.o.s.zon⟩ fun b=>?_;clear c
    try simp only[uZ]
    refine oon 10 rfl fun K c=>?_;refine zAi 48 (.tmp 12) (.tmp 87) rfl X.heap.size rfl (L:=RepC (putX r o)) rfl ad.o.1 rfl (by kernel_rfl) (zCQ _) ?_;intro aT hn C;have A:=zh (And.intro hn (f.o.2.add (G':=fun k=>((k=w1.heap.size∨k=Q.heap.size)∨(Value.slice pv o.enc.length cv).ownBlock=some k)∨k=X.heap.size) (zAY (w:=X) ad.o.2 C (Nat.le_refl _)) (fun k j=>j.imp id fun e=>⟨by omega,by have:=zAA hn;omega⟩) fun k j=>.inl j));clear hn C b;refine c.o _ _ ⟨A.o.2.op,A.o.2.s.zon⟩ fun b=>?_;clear c
    try simp only[uZ]
    refine Pl [11] ?_
    iterate 1 (refine Pc rfl ?_;simp only[uZ])
    refine Pn ?_;clear b;refine odn ?_;go_wp2_with fail
    go_meet
    exact⟨X.heap.size,r,own',rfl,A.o.1,f.o.1,A.o.2⟩
   ·refine zAo 48 rfl (zeroValue48 _) (by decide) ?_;intro X hn t I;have f:=zh (And.intro hn (B.o.add (G':=fun k=>((k=w1.heap.size∨k=Q.heap.size)∨(Value.slice pv o.enc.length cv).ownBlock=some k)∨k=J.heap.size) t (fun k j=>j.imp id fun e=>⟨by omega,by omega⟩) fun k j=>.inl j));have aA:=zh (And.intro (zAA B.o.op) (zAA B.o.rep));clear hn t b I;refine c.o _ _ ⟨f.o.2.op,f.o.2.s.zon⟩ fun b=>?_;clear c
    try simp only[uZ]
    refine oon 5 rfl fun K c=>?_;clear b;go_wp2_with fail;refine(HA.o _ f.o.2.s.eco).mono ?_;rintro e au ⟨r,own',rfl,-,G,hE,U,C⟩;have m:=zh (And.intro G (And.intro (f.o.2.turn hE C U) ((C.block _ (zAA f.o.1) fun hh=>hh (f.o.2.s.gz _ (.inr rfl)).2.1).trans f.o.1)));clear G hE U C;go_wp2_with fail;refine c.o _ _ ⟨m.o.2.1.op,m.o.2.1.s.zon⟩ fun b=>?_;clear c
    try simp only[uZ]
    refine Pl [6,7,8] ?_
    iterate 3 (refine Pc rfl ?_;simp only[uZ])
    refine Pn ?_;refine oon 10 rfl fun K c=>?_;refine zAi 48 (.tmp 12) (.tmp 87) rfl J.heap.size rfl (L:=RepC (putX r o)) rfl m.o.2.2 rfl (by kernel_rfl) (zCQ _) ?_;intro aT hn C;have A:=zh (And.intro hn (m.o.2.1.hit C (.inr rfl) (by have:=aA.o.1;omega) (by have:=aA.o.2;omega)));clear hn C b;refine c.o _ _ ⟨A.o.2.op,A.o.2.s.zon⟩ fun b=>?_;clear c
    try simp only[uZ]
    refine Pl [11] ?_
    iterate 1 (refine Pc rfl ?_;simp only[uZ])
    refine Pn ?_;clear b;refine odn ?_;go_wp2_with fail
    go_meet
    exact⟨J.heap.size,r,own',rfl,A.o.1,m.o.1,A.o.2⟩
  case rest =>
   obtain⟨q,r,own',rfl,hq,G,hD⟩:=hcut;have B:=zh (And.intro hq (And.intro G hD));clear hq G hD
   go_upto_region 17 with(fail)
   have ag:=zAB B.o.2.2.s.zon (i:=7) (v:=.slice none 0 0) rfl;have af:=zAB B.o.2.2.s.zon (i:=0) (v:=.int .i64 h.id) rfl;refine g_start [17] (fun w':World=>w'.heap[w1.heap.size]?=some (.cells (OpL o).toArray 25 (0,0))∧w'.cell? ⟨z,7,none⟩=some (.slice none 0 0)∧w'.cell? ⟨z,0,none⟩=some (.int .i64 h.id)) (n:=18) (by kernel_rfl) rfl ⟨B.o.2.2.op,ag,af⟩ fun b=>?_;clear ag af;have f:=zW (wc.drew.heap[q]?=some (.cells (RepC (putX r o)).toArray 48 (0,0))∧_) (And.intro B.o.1 B.o.2.2.drew);have aY:=zh B.o.2.1;clear B;generalize wc.drew=J at *;refine Gl [0,1,2,3,5,6,7,8,10] ?_
   iterate 9 (refine Gp rfl ?_;simp only[uZ])
   refine Gn ?_;refine Gl [4,9,11] ?_
   iterate 3 (refine Gd rfl (by intro w' y;first|exact zBr 25 (.tmp 3) rfl rfl y.1 underlying25 rfl (by kernel_rfl)|(have c7:=y.2.1;have c0:=y.2.2;go_simp;try with_reducible rfl)) ?_;simp only[uZ])
   refine Gn ?_;refine Gl [12] ?_;refine Gd (v:=.agg #[.int .i64 h.id,.int .i64 (n2:Int),.int .i64 o.kind,.int .i64 o.client,.int .i64 o.seq,.string o.atK,.string o.atW,.string o.toK,.string o.toW,.int .i64 o.item,.int .i64 o.count,.int .i64 o.price,.bool o.buy,.int .i64 o.id]) rfl (by intro w' y;kernel_rfl) ?_;simp only[uZ];refine Gn ?_;refine g_one 13 rfl (by kernel_rfl) (by rfl) (fun K c=>?_);go_wp2_with fail;have ar:=zBN J (.cells #[.int .i64 h.id,.int .i64 (n2:Int),.int .i64 o.kind,.int .i64 o.client,.int .i64 o.seq,.string o.atK,.string o.atW,.string o.toK,.string o.toW,.int .i64 o.item,.int .i64 o.count,.int .i64 o.price,.bool o.buy,.int .i64 o.id] 102);refine c.o _ _ ⟨(ar.block _ (zAA b.1)).trans b.1,zAP b.2.1 _,zAP b.2.2 _⟩ fun b=>?_;clear c;have HX:=zh (And.intro ar (zAF J (.cells #[.int .i64 h.id,.int .i64 (n2:Int),.int .i64 o.kind,.int .i64 o.client,.int .i64 o.seq,.string o.atK,.string o.atW,.string o.toK,.string o.toW,.int .i64 o.item,.int .i64 o.count,.int .i64 o.price,.bool o.buy,.int .i64 o.id] 102)));clear ar;generalize J.alloc (.cells #[.int .i64 h.id,.int .i64 (n2:Int),.int .i64 o.kind,.int .i64 o.client,.int .i64 o.seq,.string o.atK,.string o.atW,.string o.toK,.string o.toW,.int .i64 o.item,.int .i64 o.count,.int .i64 o.price,.bool o.buy,.int .i64 o.id] 102)=au at *
   try simp only[uZ]
   refine g_one 14 rfl (by kernel_rfl) (by rfl) (fun K c=>?_);have aR:zBH au 14 (.slice (some ⟨J.heap.size,0,none⟩) 1 1) 1 [.int .i64 h.id,.int .i64 (n2:Int),.int .i64 o.kind,.int .i64 o.client,.int .i64 o.seq,.string o.atK,.string o.atW,.string o.toK,.string o.toW,.int .i64 o.item,.int .i64 o.count,.int .i64 o.price,.bool o.buy,.int .i64 o.id]:=⟨rfl,some ⟨J.heap.size,0,none⟩,1,rfl,fun e=>(by cases e),fun a ha i u hu=>by
    cases ha;rw[add_zero];refine zAB HX.o.2 ?_;simpa using hu⟩
   refine zCg (.tmp 93) (.tmp 102) 54 rfl 102 i5 (.agg #[.int .i64 0,.int .i64 0,.int .i64 0,.int .i64 0,.int .i64 0,.string ⟨#[]⟩,.string ⟨#[]⟩,.string ⟨#[]⟩,.string ⟨#[]⟩,.int .i64 0,.int .i64 0,.int .i64 0,.bool false,.int .i64 0]) 14 144 underlying54 aa.o.1 aa.o.2.1 aa.o.2.2.1 aa.o.2.2.2 rfl (by decide) (.slice none 0 0) 0 [] rfl (OwnR.nil _ _ _) (.slice (some ⟨J.heap.size,0,none⟩) 1 1) 1 _ rfl aR (by intro v hv;simp only[List.mem_cons,List.not_mem_nil,or_false]at hv;rcases hv with rfl|rfl|rfl|rfl|rfl|rfl|rfl|rfl|rfl|rfl|rfl|rfl|rfl|rfl<;>rfl) (by decide) (by decide) ?_;intro v3 w3 O P S;have aq:Below J.heap.size J w3:=HX.o.1.trans ((Chg.of_grown P).below HX.o.1.size fun k j e=>by cases e);have T:∀k,v3.ownBlock=some k→J.heap.size≤k∧k<w3.heap.size:=fun k j=>⟨by
    rcases S with e|⟨g,e,hg⟩
    ·rw[e]at j;cases j
    ·rw[e]at j;cases j;exact Nat.le_trans HX.o.1.size hg,OwnR.lt O j⟩
   obtain⟨p3,q3,rfl⟩:=OwnR.shape O;have m:=zh (And.intro ((aq.block _ (zAA f.o.1)).trans f.o.1) (f.o.2.add (G':=fun k=>(((k=w1.heap.size∨k=Q.heap.size)∨(Value.slice pv o.enc.length cv).ownBlock=some k)∨k=q)∨(Value.slice p3 (0+1) q3).ownBlock=some k) aq (fun k j=>j.imp id fun e=>T k e) fun k j=>.inl j));have HG:=zh (fun k (j:((k=w1.heap.size∨k=Q.heap.size)∨(Value.slice pv o.enc.length cv).ownBlock=some k)∨k=q) (e:(Value.slice p3 (0+1) q3).ownBlock=some k)=>(by have h1:=(T k e).1;have h2:=f.o.2.s.flt (.inr (.inr (.inr (.inr j))));omega:False));have ab:=m.o.2.s.zon;have aE:=zAB ab (i:=7) (v:=.slice none 0 0) rfl;have aD:=zAB ab (i:=0) (v:=.int .i64 h.id) rfl;have aZ:=zAE ab 7;clear aR O P S aq T ab f b;refine c.o _ _ ⟨m.o.2.op,aE,aD⟩ fun b=>?_;clear c
   try simp only[uZ]
   refine Gl [15,16] ?_
   iterate 2 (refine Gp rfl ?_;simp only[uZ])
   refine Gn ?_;clear b;refine g_end 17 rfl (by kernel_rfl) (by rfl) (by kernel_rfl) (fun K c=>?_);go_wp2_with fail;refine c.o _ _ ?_;clear c
   try simp only[uZ]
   have aL:q≠z:=(m.o.2.s.gz q (.inl (.inr rfl))).1;have A:=zh (And.intro (((Chg.setCell w3 ⟨z,7,none⟩ (.slice p3 (0+1) q3)).block q (zAA m.o.1) aL).trans m.o.1) (m.o.2.setG (ev':=.slice p3 (0+1) q3) (Chg.setCell w3 ⟨z,7,none⟩ (.slice p3 (0+1) q3)) (zAH m.o.2.s.zon 7 (.slice p3 (0+1) q3)) (fun k j=>.inr j) (fun k j=>⟨.inl j,fun e=>HG.o k j e⟩) (.inl (.inl (.inl rfl))) (.inl (.inl (.inr rfl)))));clear aE aD aZ aL;refine g_done (by kernel_rfl) ?_ _;have aX:=zh (zDg A.o.2.s Hx.o.2.2.2);clear m;generalize w3.setCell ⟨z,7,none⟩ (.slice p3 (0+1) q3)=aT at *;go_wp2_with fail;refine aX.o.mono ?_;rintro e bi ⟨rfl,t⟩;have Y:=zh (And.intro ((t.block q (zAA A.o.1)).trans A.o.1) (A.o.2.next t));clear t A;go_wp2_with (first
    | (refine zA1 rfl 48 (.tmp 12) rfl q rfl (L:=RepC (putX r o)) Y.o.1 underlying48 rfl (by kernel_rfl) ?_)
    | (refine zAg rfl 48 (.tmp 4) (.tmp 112) rfl Q.heap.size rfl (L:=RepC (putX r o)) rfl Y.o.2.rep rfl (by kernel_rfl) (zCQ _) ?_;intro bj hn C;have ax:=zh (And.intro hn (Y.o.2.s.hit C Y.o.2.g4));clear hn C))
   refine bodyPost_ret (zAS (p:=4) (u:=5) rfl _ _ Q.heap.size _ _ (0,0) _ rfl ax.o.1 underlying48 rfl (by kernel_rfl)) rfl ?_;exact⟨r,own',.slice p3 (0+1) q3,rfl,aY.o,ax.o.2.drop⟩
theorem none15_calls (w:World):Calls prog 10 #[] w (NewR w [0,0,0,0]):=by
 have i:=zAF w REconO;have c:=zh (zAC w REconO);have f:=zh (renc0_calls i);unfold REconO at f;clear i
 go_enter func10,ntmps10
 go_wp2_with fail;refine f.o.mono ?_;rintro e p ⟨v,rfl,d,b,k⟩;obtain⟨n,k1,rfl,-⟩:=zAN d;have H1:=zh (And.intro d (And.intro b k));clear d b k;go_wp2_with fail;go_ret;exact⟨_,rfl,H1.o.1,fun j m=>Nat.le_trans (Below.size c.o) (H1.o.2.1 j m),c.o.trans (H1.o.2.2.mono c.o.size)⟩
def H1:zAj:=⟨1,⟨#[]⟩,⟨#[]⟩,1,1⟩
def O1:OpM:=⟨1,1,1,⟨#[97]⟩,⟨#[120]⟩,⟨#[]⟩,⟨#[]⟩,0,5,0,false,0⟩
theorem tl0:(⟨#[]⟩:ByteArray).toList=[]:=by
 unfold ByteArray.toList ByteArray.toList.loop;rfl
theorem tlA:(⟨#[97]⟩:ByteArray).toList=[97]:=by
 unfold ByteArray.toList ByteArray.toList.loop ByteArray.toList.loop;rfl
theorem isSpanN:zC9 ⟨#[]⟩ ⟨#[]⟩=true:=by
 unfold zC9;rw[tl0];rfl
theorem H1_is:H1.is=true:=by
 show(decide (1≤(1:Int))&&decide ((1:Int)≤1048576)&&zC9 ⟨#[]⟩ ⟨#[]⟩&&decide (1≤(1:Int))&&decide ((1:Int)≤1099511627776)&&decide (1≤(1:Int))&&decide ((1:Int)≤3))=true
 rw[isSpanN];rfl
theorem inSpan1:zDr H1.fr H1.tu O1.atK=true:=by
 show zDr ⟨#[]⟩ ⟨#[]⟩ ⟨#[97]⟩=true
 unfold zDr strLt;rw[isSpanN,tl0,tlA];rfl
theorem O1_may:O1.may=true:=by decide
theorem O1_wf:O1.wf:=by
 refine⟨⟨rfl,rfl,rfl⟩,⟨?_,?_,?_,?_⟩,rfl,rfl,rfl,rfl⟩<;>(show _≤maxLen;decide)
theorem lies_crash {pre:Bs}{D:zAD}{im:Option (Nat×Bs)}{es:List Bs}(h:Lies pre D im es)(k:Int):Lies pre (D.crash k) im es:=by
 have c:∀b:Bs,zAD.crashF k (whole b)=whole b:=fun b=>crash_whole b k;refine⟨?_,?_,?_⟩
 ·rw[get_crash,h.log]
  split
  ·rfl
  ·show some (zAD.crashF k _)=_
   rw[c]
 ·rw[get_crash,h.img];cases im with
  | none=>rfl
  | some x=>show some (zAD.crashF k _)=some _;rw[c]
 ·rw[get_crash,h.sh];rfl
theorem zp1:(nm (zpre 1)).length=2:=by
 rw[zDk]
 show(122::Lib.decDigits 1).toArray.size=2
 rw[Lib.decDigits_one (by decide)];rfl
theorem zd1_len:(zBm H1 [0,0,0,0]).length≤1000:=by
 have d:=zAq [H1.id];have f:=zAq [H1.epoch,H1.state];have i:=zAk (n:=0) (by decide);have j:=zAk (n:=0+1+1+1+1) (by decide);unfold zBm zAw;have b:H1.fr.data.toList=[]:=rfl;have c:H1.tu.data.toList=[]:=rfl;simp only[b,c,List.length_append,List.length_nil,List.length_cons]at *;omega
theorem o1_len:O1.enc.length≤1000:=by
 have i:=zAq [O1.kind,O1.client,O1.seq];have j:=zAq [O1.item,O1.count,O1.price,if O1.buy then 1 else 0,O1.id];have k:=zAk (n:=0) (by decide);have m:=zAk (n:=0+1) (by decide);unfold OpM.enc zAw;have b:O1.atK.data.toList=[97]:=rfl;have c:O1.atW.data.toList=[120]:=rfl;have d:O1.toK.data.toList=[]:=rfl;have f:O1.toW.data.toList=[]:=rfl;simp only[b,c,d,f,List.length_append,List.length_nil,List.length_cons]at *;omega
def I1:Option (Nat×Bs):=some (0,zBm H1 [0,0,0,0])
theorem laid1:∃b,zA6 (zAD.fresh 262144) (nm (zpre 1))=(zAD.fresh 262144,0,MM none [])∧zAs (nm (zpre 1)) (zAD.fresh 262144) (MM none []) 0 (zBm H1 [0,0,0,0])=⟨b,MM I1 [],0,0⟩ ∧
  (b.OK→∃c,zAV (nm (zpre 1)) b (MM I1 []) O1.enc=⟨c,MM I1 [O1.enc],1,0⟩∧zA6 (c.crash 0) (nm (zpre 1))=(c.crash 0,0,MM I1 [O1.enc])):=by
 have d:1≤(nm (zpre 1)).length∧(nm (zpre 1)).length≤20:=by rw[zp1];decide
 have q:=lies_new (nm (zpre 1)) 262144;have z:=zd1_len;have y:=o1_len;obtain⟨b,r,f,j,-⟩:=wri_lies (n:=0) (p:=zBm H1 [0,0,0,0]) d (ok_fresh 262144 (by decide)) (tame_new (by decide)) q (by decide) (by decide) (by omega) (by omega) (by decide);have o:OkI I1:=⟨by decide,by omega⟩;have m:Fits (zAz I1) ([]++[O1.enc]):=⟨by decide,fun e k=>by
  simp only[List.nil_append,List.mem_singleton]at k;rw[k];omega⟩
 refine⟨b,open_lies d q trivial ⟨by decide,by intro e h;cases h⟩,r,fun t=>?_⟩;obtain⟨c,s,i,v,-⟩:=app_lies (p:=O1.enc) d.2 t j f o m (by omega) (by decide);exact⟨c,s,open_lies d (lies_crash i 0) o m⟩
def HeadL (h:zAj):List Value:=[.int .i64 h.id,.string h.fr,.string h.tu,.int .i64 h.epoch,.int .i64 h.state]
def zAj.lits (h:zAj):List Lit:=[.int .i64 h.id,.string h.fr.data.toList,.string h.tu.data.toList,.int .i64 h.epoch,.int .i64 h.state]
theorem yeql {P:Program}{o:Oper}{ev:Operand→Value}{w:World}(ty n:TypeId)(x y:Operand)(i:o.op=.binOp .eql ty x y n){a b:Array Value}(k:ev x=.agg a)(m:ev y=.agg b){c:Bool}(f:P.eqGuardType P.depth ty=false)(j:(Op.equalIn 10000 ty (.agg a) (.agg b)).run P w=.ok c w):(execOp ev o).run P w=.ok (.value (.bool c)) w:=by
 unfold execOp;simp only[i,k,m];have d:(Op.equalIn Op.maxDepth ty (.agg a) (.agg b)).run P w=.ok c w:=j;simp[eqGuard,binOp,Op.equal,Sem.run_bind,d,f,Result.andThen]
theorem r12isZ_calls (w:World)(a b:ByteArray)(d:a.size≤9223372036854775807)(f:b.size≤9223372036854775807) :
  Calls prog 35 #[.agg #[.string a,.string b]] w fun e w'=>e=.returned (.bool (zC9 a b))∧w'=w.alloc (.cells #[.string a,.string b] 27):=by
 have c:=zh (zAC w (.cells #[.string a,.string b] 27))
 go_enter func35,ntmps35
 go_wp2_with fail
 all_goals
  go_ret;refine⟨?_,rfl⟩
  congr 2
  simp_all [zC9,strLt,strEq]
  try omega
theorem r15mayZ_calls (w:World)(h:zAj)(m:h.wf):Calls prog 11 #[.agg #[.int .i64 h.id,.string h.fr,.string h.tu,.int .i64 h.epoch,.int .i64 h.state]] w (RetB h.is w):=by
 obtain⟨d,fr,tu,f,i⟩:=h;have r:=zh (fun W=>r12isZ_calls W fr tu m.1 m.2);have j:=zh (zAC w (.cells #[.int .i64 d,.string fr,.string tu,.int .i64 f,.int .i64 i] 42));have p:zAj.is ⟨d,fr,tu,f,i⟩=(decide (1≤d)&&decide (d≤1048576)&&zC9 fr tu&&decide (1≤f)&&decide (f≤1099511627776)&&decide (1≤i)&&decide (i≤3)):=rfl;rw[p];clear p m;dsimp only
 by_cases q:1≤d∧d≤1048576
 ·obtain⟨q,v⟩:=q
  go_enter func11,ntmps11
  go_wp2_with fail;refine(r.o _).mono ?_;rintro e n ⟨rfl,c⟩;have k:=zW (Below w.heap.size w n) (c▸j.o.trans ((zAC _ _).mono j.o.size));have s:n.cell? ⟨w.heap.size,3,none⟩=some (.int .i64 f):=by rw[c];exact zAB (zAW _ (zAF w _)) rfl
  have t:n.cell? ⟨w.heap.size,4,none⟩=some (.int .i64 i):=by rw[c];exact zAB (zAW _ (zAF w _)) rfl
  clear c;cases y:zC9 fr tu
  all_goals
   go_wp2_with fail
   all_goals
    go_ret;refine⟨?_,k.o⟩;refine congrArg (fun b=>Ending.returned (.bool b)) (?_:_=_);rw[Bool.eq_iff_iff]
    simp_all
    try omega
 ·go_enter func11,ntmps11
  go_wp2_with fail
  all_goals
   go_ret;refine⟨?_,j.o⟩
   congr 2
   simp_all
   try omega
theorem makeno_calls (w:World)(d:Nat)(h:zAj)(j:h.is=false)(k:h.wf)(i:Int)(v:Value) :
  Calls prog 9 #[.pointer (some ⟨d,0,none⟩),.agg (HeadL h).toArray,.int .i64 i,v] w fun e w'=>e=.returned (.tuple #[.pointer none,.int .i64 1])∧Below w.heap.size w w':=by
 have f:=zh (fun W=>zDt W h k);rw[j]at f;clear j k
 go_enter func9,ntmps9
 go_wp2_with (first
  | (refine bbox rfl 35 (.tmp 1) rfl (L:=HeadL h) rfl ?_;intro p hn b n;have c:=zh (And.intro hn b);clear hn b n)
  | (refine zA1 rfl 35 (.tmp 5) rfl w.heap.size rfl (L:=HeadL h) c.o.1 underlying35 rfl (by kernel_rfl) ?_))
 refine(f.o _).mono ?_;rintro e w3 ⟨rfl,b⟩;have m:=zh (c.o.2.trans (b.mono c.o.2.size));clear b;go_wp2_with fail
 go_ret2
 exact⟨rfl,m.o⟩
def H9 (b:Int)(fr tu:ByteArray):zAj:=⟨9,fr,tu,1,b⟩
theorem zp9:(nm (zpre 9)).length=2:=by
 rw[zDk]
 show(122::Lib.decDigits 9).toArray.size=2
 rw[Lib.decDigits_one (by decide)];rfl
theorem zd9_len (b:Int){fr tu:ByteArray}(o:fr.size≤16)(p:tu.size≤16):(zBm (H9 b fr tu) [0,0,0,0]).length≤1000:=by
 have f:=zAq [(H9 b fr tu).id];have i:=zAq [(H9 b fr tu).epoch,(H9 b fr tu).state];have j:=zBq (x:=fr.data.toList) (by simp;omega);have m:=zBq (x:=tu.data.toList) (by simp;omega);have k:=zAk (n:=0+1+1+1+1) (by decide);have c:fr.data.toList.length=fr.size:=by simp
 have d:tu.data.toList.length=tu.size:=by simp
 unfold zBm;rw[show(H9 b fr tu).fr=fr from rfl,show(H9 b fr tu).tu=tu from rfl];rw[show zAw [0,0,0,0]=zET (0+1+1+1+1)++[0,0,0,0]from rfl];simp only[List.length_append,List.length_nil,List.length_cons]at *;omega
theorem laid9 (c:Int){fr tu:ByteArray}(v:fr.size≤16)(z:tu.size≤16):∃d,zA6 (zAD.fresh 262144) (nm (zpre 9))=(zAD.fresh 262144,0,MM none [])∧zAs (nm (zpre 9)) (zAD.fresh 262144) (MM none []) 4 (zBm (H9 c fr tu) [0,0,0,0])=⟨d,MM (some (4,zBm (H9 c fr tu) [0,0,0,0])) [],0,0⟩ ∧
  (d.OK→∀b:Bs,b.length≤60000→∃f,zAV (nm (zpre 9)) d (MM (some (4,zBm (H9 c fr tu) [0,0,0,0])) []) b=⟨f,MM (some (4,zBm (H9 c fr tu) [0,0,0,0])) [b],5,0⟩):=by
 have m:1≤(nm (zpre 9)).length∧(nm (zpre 9)).length≤20:=by rw[zp9];decide
 have q:=lies_new (nm (zpre 9)) 262144;have A:=zd9_len c v z;obtain⟨d,r,i,j,-⟩:=wri_lies (n:=4) (p:=zBm (H9 c fr tu) [0,0,0,0]) m (ok_fresh 262144 (by decide)) (tame_new (by decide)) q (by decide) (by decide) (by omega) (by omega) (by decide);refine⟨d,open_lies m q trivial ⟨by decide,by intro e h;cases h⟩,r,fun t b a=>?_⟩;have y:OkI (some (4,zBm (H9 c fr tu) [0,0,0,0])):=⟨by decide,by omega⟩;have k:Fits (zAz (some (4,zBm (H9 c fr tu) [0,0,0,0]))) ([]++[b]):=⟨by show 4+1≤_;omega,fun e o=>by
  simp only[List.nil_append,List.mem_singleton]at o;rw[o];omega⟩
 obtain⟨f,s,-,-,-⟩:=app_lies (p:=b) m.2 t j i y k (by omega) (by decide);exact⟨f,s⟩
theorem enc_len {o:OpM}(f:o.may=true):o.enc.length≤1000:=by
 have d:=may_sizes f;have c:=OpM.names_le (OpM.may_iff f).2.2.2;have i:=zAq [o.kind,o.client,o.seq];have j:=zAq [o.item,o.count,o.price,if o.buy then 1 else 0,o.id];have b:∀x:ByteArray,x.size≤16→(zAw x.data.toList).length≤25:=fun x q=>by
  have:=zBq (x:=x.data.toList) (by simp;omega);simp at this;omega
 have k:=b _ d.1;have m:=b _ d.2;have n:=b _ c.2.2.2.2.2.1;have p:=b _ c.2.2.2.2.2.2;unfold OpM.enc;simp only[List.length_append,List.length_nil,List.length_cons]at *;omega
def zD8 (i:Int)(f:ByteArray)(buy:Bool)(d b c:Int):List Value:=[.int .i64 i,.string f,.bool buy,.int .i64 d,.int .i64 b,.int .i64 c]
theorem bmay_calls (w:World){j:Int}{f:ByteArray}{buy:Bool}{d b c:Int}(y:1≤j∧j≤1099511627776)(z:1≤f.size∧f.size≤16)(a:1≤d∧d<4)(h:1≤b∧b≤1048576)(A:1≤c∧c≤1024) :
  Calls prog 214 #[.agg (zD8 j f buy d b c).toArray] w (RetB true w):=by
 have B:=zh (zAC w (.cells (zD8 j f buy d b c).toArray 237))
 go_enter func214,ntmps214
 go_wp2_with (refine bbox rfl 237 (.tmp 0) rfl (L:=zD8 j f buy d b c) rfl ?_;intro C hn k n;have m:=zh k;have p:=zAB hn (i:=0) (v:=.int .i64 j) rfl;have q:=zAB hn (i:=1) (v:=.string f) rfl;have r:=zAB hn (i:=3) (v:=.int .i64 d) rfl;have s:=zAB hn (i:=4) (v:=.int .i64 b) rfl;have t:=zAB hn (i:=5) (v:=.int .i64 c) rfl;clear hn k n)
 all_goals first
  | (exfalso;omega)
  | (go_ret;exact⟨rfl,m.o⟩)
theorem bside_calls (w:World){bb:Nat}{b:Int}(c:1≤b∧b<4)(buy:Bool) :
  Calls prog 215 #[.pointer (some ⟨bb,0,none⟩),.int .i64 b,.bool buy] w fun e w'=>∃i,i<8∧e=.returned (.pointer (some ⟨bb,i,none⟩))∧w'=w:=by
 rcases(by omega:b=1∨b=2∨b=3)with rfl|rfl|rfl
 all_goals cases buy
 all_goals
  go_enter func215,ntmps215
  go_wp2_with fail;go_ret;exact⟨_,by decide,rfl,rfl⟩
theorem bpush_calls {w:World}{bb i:Nat}{N:Array Value}{t:TypeId}(P:w.heap[bb]?=some (.cells N t (0,0)))(T:N[i]?=some (.slice none 0 0))(D:Int)(q:ByteArray)(buy:Bool)(j b f:Int) :
  Calls prog 328 #[.pointer (some ⟨bb,i,none⟩),.iface 237 (.agg (zD8 D q buy j b f).toArray)] w fun e w'=>∃p c,e=.returned (.tuple #[])∧w'.cell? ⟨bb,i,none⟩=some (.slice p 1 c)∧w'.frozen? ⟨bb,i,none⟩=false∧Chg (fun k=>k=bb) w w':=by
 obtain⟨i5,J,A,B,C⟩:=info_parts (show(prog.info? 237).map (fun i=>(i.zero,i.size,i.bytes))=some (some (.agg #[.int .i64 0,.string ⟨#[]⟩,.bool false,.int .i64 0,.int .i64 0,.int .i64 0]),6,56) by kernel_rfl);have y:=zh (And.intro J (And.intro A (And.intro B C)));have Q:=zh (And.intro P T);have Z:=zAB P T;have V:∀W:World,(Instr.typeAssert (.iface 237 (.agg (zD8 D q buy j b f).toArray)) 20 237 false).run prog W=.ok (.agg (zD8 D q buy j b f).toArray) W:=fun _=>by kernel_rfl
 have ab:=zAA P;clear J A B C P T
 go_enter func328,ntmps328
 go_upto_region 0 with(fail)
 try simp only[uZ]
 refine g_start [9] (fun w':World=>w'.cell? ⟨bb,i,none⟩=some (.slice none 0 0)) (n:=10) (by kernel_rfl) rfl Z fun m=>?_;have M:=zW (w.drew.heap[bb]?=some (.cells N t (0,0))) Q.o.1;have Y:=zh (zAG w);clear Z;generalize w.drew=z at *;refine Gl [0,1,2,4] ?_
 iterate 4 (refine Gp rfl ?_;simp only[uZ])
 refine Gn ?_;refine Gl [3,5] ?_;refine Gd rfl (by intro w' I;have d:=I;go_simp;try with_reducible rfl) ?_;simp only[uZ];refine Gd (v:=.agg (zD8 D q buy j b f).toArray) rfl (by intro w' I;have d:=V w';go_simp;try with_reducible rfl) ?_;simp only[uZ];refine Gn ?_;refine g_one 6 rfl (by kernel_rfl) (by rfl) (fun K h=>?_);unfold zD8;go_wp2_with fail;have G:=zBN z (.cells #[.int .i64 D,.string q,.bool buy,.int .i64 j,.int .i64 b,.int .i64 f] 237);refine h.o _ _ (zAP m _) fun m=>?_;clear h;have R:=zh (And.intro G (zAF z (.cells #[.int .i64 D,.string q,.bool buy,.int .i64 j,.int .i64 b,.int .i64 f] 237)));have H1:=zh ((G.block _ (zAA M.o)).trans M.o);clear G;generalize z.alloc (.cells #[.int .i64 D,.string q,.bool buy,.int .i64 j,.int .i64 b,.int .i64 f] 237)=X at *
 try simp only[uZ]
 refine g_one 7 rfl (by kernel_rfl) (by rfl) (fun K h=>?_);have L:zBH X 6 (.slice (some ⟨z.heap.size,0,none⟩) 1 1) 1 [.int .i64 D,.string q,.bool buy,.int .i64 j,.int .i64 b,.int .i64 f]:=⟨rfl,some ⟨z.heap.size,0,none⟩,1,rfl,fun e=>(by cases e),fun a ha i u hu=>by
  cases ha;rw[add_zero];refine zAB R.o.2 ?_;simpa using hu⟩
 refine zCg (.tmp 7) (.tmp 10) 303 rfl 237 i5 (.agg #[.int .i64 0,.string ⟨#[]⟩,.bool false,.int .i64 0,.int .i64 0,.int .i64 0]) 6 56 underlying303 y.o.1 y.o.2.1 y.o.2.2.1 y.o.2.2.2 rfl (by decide) (.slice none 0 0) 0 [] rfl (OwnR.nil _ _ _) (.slice (some ⟨z.heap.size,0,none⟩) 1 1) 1 _ rfl L (by intro v hv;simp only[List.mem_cons,List.not_mem_nil,or_false]at hv;rcases hv with rfl|rfl|rfl|rfl|rfl|rfl<;>rfl) (by decide) (by decide) ?_;intro v3 w3 s r H;have F:Below z.heap.size z w3:=R.o.1.trans ((Chg.of_grown r).below R.o.1.size fun k hk e=>by cases e);obtain⟨p3,q3,rfl⟩:=OwnR.shape s;have O:=(F.block _ (zAA M.o)).trans M.o;have S:=zAB O Q.o.2;have aa:=zAE O i;have E:=zh (And.intro O (Y.o.trans (F.mono Y.o.size)));clear L s r H F O m;refine h.o _ _ S fun m=>?_;clear h
 try simp only[uZ]
 refine Gl [8] ?_
 iterate 1 (refine Gp rfl ?_;simp only[uZ])
 refine Gn ?_;refine g_end 9 rfl (by kernel_rfl) (by rfl) (by kernel_rfl) (fun K h=>?_);clear m;go_wp2_with fail;refine h.o _ _ ?_;clear h
 try simp only[uZ]
 refine g_done (by kernel_rfl) ?_ _;go_wp2_with fail
 go_end0
 exact⟨p3,q3,rfl,zAB (zAH E.o.1 i _) (by have U:i<N.size:=(Array.getElem?_eq_some_iff.1 Q.o.2).1;simp[U]),zAE (zAH E.o.1 i _) i,((Chg.of_below E.o.2).mono fun _ _ e=>e.elim:Chg (fun k=>k=bb) w w3).trans (Chg.setCell w3 ⟨bb,i,none⟩ _) fun _ _ e=>e⟩
theorem hup0_calls (w:World)(h:Value):Calls prog 258 #[h,.int .i64 0] w fun e w'=>e=.returned (.tuple #[])∧w'=w:=by
 go_enter func258,ntmps258
 go_wp2_with fail
 go_loopw [1,4] (fun j i wr=>j=.int .i64 0∧wr=w) (fun _ _ _=>0)
 case atStart=>exact⟨rfl,rfl⟩
 case round =>
  obtain⟨rfl,b⟩:=hrel;obtain rfl:=b.symm;go_wp2_with fail
  go_end0
  exact⟨rfl,rfl⟩
theorem plen_calls (w:World)(p:Option Addr)(n c:Nat):Calls prog 324 #[.slice p n c] w fun e w'=>e=.returned (.int .i64 (n:Int))∧w'=w:=by
 go_enter func324,ntmps324
 go_wp2_with fail;go_ret;exact⟨rfl,rfl⟩
theorem len_pre (W : World) (n bb i : Nat) : (method (n + 1) 307 (.pointer (some ⟨bb, i, none⟩)) "Len").run prog W = (do let v ← loadVar 303 ⟨bb, i, none⟩; pure (324, v) : Sem (FuncId × Value)).run prog W := by kernel_rfl
theorem len_method {W : World} {bb i : Nat} {v : Value} (b : W.cell? ⟨bb, i, none⟩ = some v) (n : Nat) : (method (n + 1) 307 (.pointer (some ⟨bb, i, none⟩)) "Len").run prog W = .ok (324, v) W := by
 rw[len_pre];simp[go_sem,b]
theorem hpush_calls {w:World}{bb i:Nat}{q:Array Value}{t:TypeId}(r:w.heap[bb]?=some (.cells q t (0,0)))(v:q[i]?=some (.slice none 0 0))(y:Int)(n:ByteArray)(buy:Bool)(f b d:Int) :
  Calls prog 217 #[.iface 307 (.pointer (some ⟨bb,i,none⟩)),.iface 237 (.agg (zD8 y n buy f b d).toArray)] w fun e w'=>e=.returned (.tuple #[])∧Chg (fun k=>k=bb) w w':=by
 have a:=zh (bpush_calls r v y n buy f b d);clear r v
 go_enter func217,ntmps217
 go_wp2_with fail;refine a.o.mono ?_;rintro e B ⟨p,c,rfl,s,D,m⟩;have z:=zh m;have A:=zh (fun W h=>hup0_calls W h);clear m D;go_wp2_with fail;rw[len_method s];clear s;go_wp2_with fail;refine(plen_calls B p 1 c).mono ?_;rintro e C ⟨rfl,j⟩;obtain rfl:=j;go_wp2_with fail;refine(A.o _ _).mono ?_;rintro e C ⟨rfl,j⟩;obtain rfl:=j;go_wp2_with fail
 go_end0
 exact⟨rfl,z.o⟩
end Go.Proofs.YtmcanphlgkolcaaGreatDoor
