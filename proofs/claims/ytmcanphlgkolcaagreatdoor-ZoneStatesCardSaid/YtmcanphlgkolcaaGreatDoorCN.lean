/- What the program's functions and the document's do, and plain laws, for PZoneStates. -/
import Derived.Test.YtmcanphlgkolcaaGreatDoorCJ
import Derived.Test.YtmcanphlgkolcaaGreatDoorCL
import Derived.Test.YtmcanphlgkolcaaGreatDoorCM
open Go.Proofs.Tryz
set_option maxRecDepth 100000
set_option maxHeartbeats 64000000
namespace Go.Proofs.YtmcanphlgkolcaaGreatDoor
open Go.RowKit Go.Sat Go.Maps
def zC6 (x i:Int):List Value:=[.int .i64 x,.int .i64 i,.int .i64 0,.int .i64 0,.int .i64 0,.int .i64 0]
theorem zBA (x i:Int):∀v∈zC6 x i,v.oneCell'=true:=by
 intro v b;unfold zC6 at b;simp only[List.mem_cons,List.not_mem_nil,or_false]at b;rcases b with rfl|rfl|rfl|rfl|rfl|rfl<;>rfl
def KindR (w:World)(c vm d f b:Nat)(E:zBu)(own:Nat→Option (Nat×Bs))(e:Ending)(w':World):Prop :=
 ∃x i E1 own',e=.returned (.agg (zC6 x i).toArray)∧(∀p∈E1.vs,p.2.V.length≤1099511627776)∧E1.ss=E.ss∧zAI w' c vm d f b E1 own'∧(∀k,k<w.heap.size→own' k=own k)∧Chg (fun k=>own k≠none) w w'
structure MidK (w:World)(o:OpM)(eb vm sm tm am:Nat)(own:Nat→Option (Nat×Bs))(b4 q:Nat)(x i:Int)(own':Nat→Option (Nat×Bs))(W:World):Prop where
 op:W.heap[w.heap.size]?=some (.cells (OpL o).toArray 25 (0,0))
 z:W.heap[b4]?=some (.cells zAa.toArray 48 (0,0))
 rq:W.heap[q]?=some (.cells (zC6 x i).toArray 48 (0,0))
 n1:own' w.heap.size=none
 n2:own' b4=none
 n3:own' q=none
 d1:w.heap.size<b4
 d2:b4<q
 old:∀k,k<w.heap.size→own' k=own k
 chg:Chg (fun k=>own k≠none) w W
theorem midK_of {w c m:World}{o:OpM}{p vm t v n:Nat}{own:Nat→Option (Nat×Bs)}{b4 q:Nat}{x i:Int}{y:zBu}{b:Nat→Option (Nat×Bs)}(f:c.heap[w.heap.size]?=some (.cells (OpL o).toArray 25 (0,0)))(a:c.heap[b4]?=some (.cells zAa.toArray 48 (0,0)))(A:w.heap.size<b4)(B:b4<q)(d:∀k,w.heap.size≤k→own k=none)
  (E:b w.heap.size=own w.heap.size) (F:b b4=own b4) (h:b q=none) (s:∀k,k<w.heap.size→b k=own k) (D:Chg (fun k=>own k≠none) w c) (z:zAI c p vm t v n (y) b)
  (C:m.heap[q]?=some (.cells (zC6 x i).toArray 48 (0,0))) (j:Chg (fun k=>k=q) c m):MidK w o p vm t v n own b4 q x i b m∧zAI m p vm t v n (y) b:=by
 refine⟨⟨(j.block _ (zAA f) (by omega)).trans f,(j.block _ (zAA a) (by omega)).trans a,C,E.trans (d _ (Nat.le_refl _)),F.trans (d _ (by omega)),h,A,B,s,D.trans j fun i G e=>by omega⟩,z.keep (fun k r=>j.block k (z.oLt k r) fun e=>?_) j.size⟩;rw[e]at r;exact r h
theorem applyk_calls {w:World}{I vm J tm Z:Nat}{E:zBu}{own:Nat→Option (Nat×Bs)}(h:zAI w I vm J tm Z E own)(o:OpM)(ho:o.wf)(fk:Nat)
  (ap:(o.kind=1∧fk=100)∨(o.kind=2∧fk=101)∨(o.kind=3∧fk=102)∨(o.kind=4∧fk=103)∨(o.kind=5∧fk=104))
  (hP:∀W,zAI W I vm J tm Z E own→Calls prog 41 #[.pointer (some ⟨I,0,none⟩),.agg (OpL o).toArray] W fun e w'=>e=.returned (.tuple #[.agg zAa.toArray,.bool false])∧Below W.heap.size W w')
  (hM:∀W,zAI W I vm J tm Z E own→Calls prog fk #[.pointer (some ⟨I,0,none⟩),.agg (OpL o).toArray] W (KindR W I vm J tm Z E own)) (aw:E.ss.length<maxLen) :
  Calls prog 45 #[.pointer (some ⟨I,0,none⟩),.agg (OpL o).toArray] w fun e w'=>∃x i E2 c,e=.returned (.tuple #[.agg (zC6 x i).toArray,.bool true])∧zAI w' I vm J tm Z E2 c∧(∀k,k<w.heap.size→c k=own k)∧Chg (fun k=>own k≠none) w w':=by
 have HP:=zh hP;have HM:=zh hM;have H:=zh h;have Hx:=zh (And.intro ho aw);have ad:=zh ap;clear h hP hM aw ap ho
 go_enter func45,ntmps45
 go_wp2_with (first
  | (refine bbox rfl 25 (.tmp 1) rfl (L:=OpL o) rfl ?_;intro w2 au al av;have H2:=zh (And.intro au (And.intro al av));clear au al av)
  | (refine zAe rfl 48 rfl (zeroValue48 _) (by decide) ?_;intro w3 B j T;have H3:=zh (And.intro B (And.intro ((j.block _ (zAA H2.o.1)).trans H2.o.1) (And.intro (H2.o.2.1.trans (j.mono H2.o.2.1.size)) H2.o.2.2)));clear B j T H2)
  | (refine zA1 rfl 25 (.tmp 3) rfl w.heap.size rfl (L:=OpL o) H3.o.2.1 underlying25 rfl (by kernel_rfl) ?_))
 refine(HP.o _ (H.o.keep (fun k A=>H3.o.2.2.1.block k (H.o.oLt k A)) H3.o.2.2.1.size)).mono ?_;rintro e w4 ⟨rfl,r⟩;have X:=zh (And.intro ((r.block _ (zAA H3.o.1)).trans H3.o.1) (And.intro ((r.block _ (zAA H3.o.2.1)).trans H3.o.2.1) (And.intro (H3.o.2.2.1.trans (r.mono H3.o.2.2.1.size)) (H3.o.2.2.2))));clear r
 go_upto_region 5 with(first
  | (refine zAe rfl 48 rfl (zeroValue48 _) (by decide) ?_;intro w5 B j T;have H5:=zh (And.intro B (And.intro ((j.block _ (zAA X.o.1)).trans X.o.1) (And.intro ((j.block _ (zAA X.o.2.1)).trans X.o.2.1) (X.o.2.2.1.trans (j.mono X.o.2.2.1.size)))));have n:=zh (And.intro (zAA X.o.1) (And.intro X.o.2.2.2 X.o.2.2.1.size));clear B j T)
  | (refine zAg rfl 48 (.tmp 6) (.tmp 14) rfl w4.heap.size rfl (L:=zAa) rfl H5.o.1 rfl (by kernel_rfl) zA8 ?_;intro w6 hn s;have Y:=zh (And.intro ((s.block _ (zAA H5.o.2.1) (by have:=n.o;omega)).trans H5.o.2.1) (And.intro ((s.block _ (zAA H5.o.2.2.1) (by have:=n.o;omega)).trans H5.o.2.2.1) (zAY H5.o.2.2.2 s n.o.2.2)));clear hn s H5 X)
  | (refine zBY rfl 174 #[(1,.func 100),(2,.func 101),(3,.func 102),(4,.func 103),(5,.func 104),(6,.func 105),(7,.func 106)] rfl (v:=.agg zCY.toArray) (by kernel_rfl) ?_)
  | (refine zAe rfl 174 rfl (zeroValue174 _) (by decide) ?_;intro w7 B j T;have H7:=zh (And.intro B (And.intro ((j.block _ (zAA Y.o.1)).trans Y.o.1) (And.intro ((j.block _ (zAA Y.o.2.1)).trans Y.o.2.1) (Y.o.2.2.trans (j.mono Y.o.2.2.size)))));have M:=zh (And.intro (zAA Y.o.1) (And.intro (zAA Y.o.2.1) Y.o.2.2.size));clear B j T Y)
  | (refine zAg rfl 174 (.tmp 8) (.tmp 18) rfl w6.heap.size rfl (L:=zCY) rfl H7.o.1 rfl (by kernel_rfl) KindsL_one ?_;intro w8 hn s;have H8:=zh (And.intro hn (And.intro ((s.block _ (zAA H7.o.2.1) (by have:=M.o;omega)).trans H7.o.2.1) (And.intro ((s.block _ (zAA H7.o.2.2.1) (by have:=M.o;omega)).trans H7.o.2.2.1) (zAY H7.o.2.2.2 s M.o.2.2))));clear hn s H7))
 simp only[uZ]
 go_cut [9] (fun s9 wx=>∃q x i U c,s9=.pointer (some ⟨q,0,none⟩)∧MidK w o I vm J tm Z own w2.heap.size q x i c wx∧(∀p∈U.vs,p.2.V.length≤1099511627776)∧U.ss=E.ss∧zAI wx I vm J tm Z (U) c)
 case first =>
  refine ost (fun w':World=>w'.heap[w.heap.size]?=some (.cells (OpL o).toArray 25 (0,0))∧w'.heap[w6.heap.size]?=some (.cells zCY.toArray 174 (0,0))) 9 ⟨H8.o.2.2.1,H8.o.1⟩ fun b=>?_;have C:=zW (w8.drew.heap[w2.heap.size]?=some (.cells zAa.toArray 48 (0,0))∧Below w.heap.size w w8.drew) (⟨H8.o.2.1,H8.o.2.2.2.trans ⟨rfl,rfl,rfl,Nat.le_refl _,fun _ _=>rfl⟩⟩);generalize w8.drew=W0 at *;have ai:=zh (zAA b.2);have HE:=zh (H.o.keep (fun k A=>C.o.2.block k (H.o.oLt k A)) C.o.2.size);have N:=zh (fun k (A:w.heap.size≤k)=>(Classical.byContradiction fun hh=>by have:=H.o.oLt k hh;omega:own k=none));have aj:=zh ((Chg.of_below C.o.2).mono fun _ _ e=>e.elim:Chg (fun k=>own k≠none) w W0);rcases ad.o with⟨Q,rfl⟩|⟨Q,rfl⟩|⟨Q,rfl⟩|⟨Q,rfl⟩|⟨Q,rfl⟩
  all_goals
   refine Pl [0,1,2,3,4,5] ?_
   iterate 6 (refine Pd rfl (by intro w' f;first|exact zBr 25 (.tmp 3) rfl rfl f.1 underlying25 rfl (by kernel_rfl)|(have c0:=zAB f.1 (i:=0) (v:=.int .i64 o.kind) rfl;rw[Q]at c0;have k1:=zAB f.2 (i:=1) (v:=.func (.func 100) #[] #[]) rfl;have k2:=zAB f.2 (i:=2) (v:=.func (.func 101) #[] #[]) rfl;have k3:=zAB f.2 (i:=3) (v:=.func (.func 102) #[] #[]) rfl;have k4:=zAB f.2 (i:=4) (v:=.func (.func 103) #[] #[]) rfl;have k5:=zAB f.2 (i:=5) (v:=.func (.func 104) #[] #[]) rfl;go_simp;try with_reducible rfl)) ?_;simp only[uZ])
   refine Pn ?_;refine zBb 6 7 rfl rfl (by kernel_rfl) (by rfl) (by rfl) (fun K t=>?_) (fun K t=>?_)
   ·go_wp2_with fail;refine(HM.o _ HE.o).mono ?_;rintro e w9 ⟨x,i,U,c,rfl,hg,S,hE,R,s⟩;have D:∀k,w.heap.size≤k→k<W0.heap.size→w9.heap[k]?=W0.heap[k]?:=fun k h1 P=>s.block k P fun hh=>hh (N.o k h1);have hz:=(D _ (by have:=n.o;omega) (zAA C.o.1)).trans C.o.1;have m:=zh (And.intro hg (And.intro S (And.intro hE (And.intro R (And.intro (aj.o.trans s fun _ _ e=>e) hz)))));have hS:(fun w':World=>w'.heap[w.heap.size]?=some (.cells (OpL o).toArray 25 (0,0))∧w'.heap[w6.heap.size]?=some (.cells zCY.toArray 174 (0,0))) w9:=⟨(D _ (Nat.le_refl _) (zAA b.1)).trans b.1,(D _ M.o.2.2 (zAA b.2)).trans b.2⟩;have O:=zh s.size;clear hg S hE R s D hz b;go_wp2_with fail;refine t.o _ _ hS fun b=>?_;clear t hS
    try simp only[uZ]
    refine oon 7 rfl fun K t=>?_;refine zAo 48 rfl (zeroValue48 _) (by decide) ?_;intro ah hn r ag;refine t.o _ _ ⟨(r.block _ (zAA b.1)).trans b.1,(r.block _ (zAA b.2)).trans b.2⟩ fun b=>?_;clear t
    try simp only[uZ]
    refine oon 8 rfl fun K t=>?_;refine zAi 48 (.tmp 9) (.tmp 25) rfl w9.heap.size rfl (L:=zC6 x i) rfl hn rfl (by kernel_rfl) (zBA _ _) ?_;intro aF P hs;have aa:=zAA m.o.2.2.2.2.2;refine t.o _ _ ⟨(hs.block _ (zAA b.1) (by have:=n.o;omega)).trans b.1,(hs.block _ (zAA b.2) (by have:=ai.o;have:=O.o;omega)).trans b.2⟩ (fun y=>?_);clear t;have a:=midK_of b.1 ((r.block _ aa).trans m.o.2.2.2.2.2) (by have:=n.o;omega) aa N.o (m.o.2.2.2.1 _ (by have:=n.o;have:=zAA C.o.1;omega)) (m.o.2.2.2.1 _ (zAA C.o.1)) (Classical.byContradiction fun hh=>by have:=m.o.2.2.1.oLt _ hh;omega) (fun k A=>m.o.2.2.2.1 k (Nat.lt_of_lt_of_le A C.o.2.size)) (m.o.2.2.2.2.1.trans (Chg.of_below r) fun _ _ e=>e.elim) (m.o.2.2.1.keep (fun k A=>r.block k (m.o.2.2.1.oLt k A)) r.size) P hs;have HF:=zh a;clear a P hs b y hn r;refine odn ?_;go_wp2_with fail
    go_meet
    exact⟨w9.heap.size,x,i,U,c,rfl,HF.o.1,m.o.1,m.o.2.1,HF.o.2⟩
   ·refine zAo 48 rfl (zeroValue48 _) (by decide) ?_;intro w9 hn r ag;refine t.o _ _ ⟨(r.block _ (zAA b.1)).trans b.1,(r.block _ (zAA b.2)).trans b.2⟩ fun b=>?_;clear t
    try simp only[uZ]
    refine oon 6 rfl fun K t=>?_;go_wp2_with fail;refine(HM.o _ (HE.o.keep (fun k A=>r.block k (HE.o.oLt k A)) r.size)).mono ?_;rintro e ah ⟨x,i,U,c,rfl,hg,S,hE,R,s⟩;have D:∀k,w.heap.size≤k→k<w9.heap.size→ah.heap[k]?=w9.heap[k]?:=fun k h1 P=>s.block k P fun hh=>hh (N.o k h1);have hz:=(D _ (by have:=n.o;omega) (Nat.lt_of_lt_of_le (zAA C.o.1) r.size)).trans ((r.block _ (zAA C.o.1)).trans C.o.1);have hq:=(D _ C.o.2.size (by omega)).trans hn;have m:=zh (And.intro hg (And.intro S (And.intro hE (And.intro R (And.intro ((aj.o.trans (Chg.of_below r) fun _ _ e=>e.elim).trans s fun _ _ e=>e) (And.intro hz hq))))));have hS:(fun w':World=>w'.heap[w.heap.size]?=some (.cells (OpL o).toArray 25 (0,0))∧w'.heap[w6.heap.size]?=some (.cells zCY.toArray 174 (0,0))) ah:=⟨(D _ (Nat.le_refl _) (zAA b.1)).trans b.1,(D _ M.o.2.2 (zAA b.2)).trans b.2⟩;have O:=zh ag;have ay:=zh (zAA b.1);clear hg S hE R s D hz b hq hn r ag;go_wp2_with fail;refine t.o _ _ hS fun b=>?_;clear t hS
    try simp only[uZ]
    refine oon 8 rfl fun K t=>?_;refine zAi 48 (.tmp 9) (.tmp 25) rfl W0.heap.size rfl (L:=zC6 x i) rfl m.o.2.2.2.2.2.2 rfl (by kernel_rfl) (zBA _ _) ?_;intro aF P hs;have aa:=zAA C.o.1;refine t.o _ _ ⟨(hs.block _ (zAA b.1) (by have:=n.o;omega)).trans b.1,(hs.block _ (zAA b.2) (by have:=ai.o;omega)).trans b.2⟩ (fun y=>?_);clear t;have a:=midK_of b.1 m.o.2.2.2.2.2.1 (by have:=n.o;omega) aa N.o (m.o.2.2.2.1 _ ay.o) (m.o.2.2.2.1 _ (by have:=O.o;omega)) ((m.o.2.2.2.1 _ (by have:=O.o;omega)).trans (N.o _ C.o.2.size)) (fun k A=>m.o.2.2.2.1 k (by have:=O.o;have:=C.o.2.size;omega)) m.o.2.2.2.2.1 m.o.2.2.1 P hs;have HF:=zh a;clear a P hs b y;refine odn ?_;go_wp2_with fail
    go_meet
    exact⟨W0.heap.size,x,i,U,c,rfl,HF.o.1,m.o.1,m.o.2.1,HF.o.2⟩
 case rest =>
  obtain⟨q,x,i,U,c,rfl,hM,aq,ax,hE⟩:=hcut;have HT:=zh (zD0 hE o.atK Hx.o.1.2.1.1 aq);have c3:=zAB hM.op (i:=3) (v:=.string o.atK) rfl;have d:=zh (And.intro hM hE);have az:=zh ax;have aC:(o.kind==6)=false:=by rcases ad.o with h|h|h|h|h<;>rw[h.1]<;>rfl
  have aD:(o.kind==7)=false:=by rcases ad.o with h|h|h|h|h<;>rw[h.1]<;>rfl
  have aA:¬o.kind=6:=by simpa using aC
  have aB:¬o.kind=7:=by simpa using aD
  have aG:(o.kind != 6)=true:=by simpa using aA
  have aH:(o.kind != 7)=true:=by simpa using aB
  clear hM hE aq ax;go_wp2_with fail;refine HT.o.mono ?_;rintro e W5 ⟨rfl,ak,ae⟩;have D:∀k,c k=none→k<wc.heap.size→W5.heap[k]?=wc.heap[k]?:=fun k h1 P=>ae.block k P fun hh=>hh h1;have af:=(D _ d.o.1.n1 (zAA d.o.1.op)).trans d.o.1.op;have hz:=(D _ d.o.1.n2 (zAA d.o.1.z)).trans d.o.1.z;have hq:=(D _ d.o.1.n3 (zAA d.o.1.rq)).trans d.o.1.rq;have c0:=zAB af (i:=0) (v:=.int .i64 o.kind) rfl;have F:=zh (And.intro af (And.intro hz (And.intro hq (And.intro ak (d.o.1.chg.trans ae fun i hi e=>by rw[←d.o.1.old i hi];exact e)))));clear c3 D af hz hq ak ae
  go_upto_region 8 with(fail)
  have an:=F.o.2.2.2.1.cells;refine ost (fun w':World=>w'.heap[w.heap.size]?=some (.cells (OpL o).toArray 25 (0,0))∧w'.heap[I]?=some (zDJ vm J tm Z)∧w'.heap[q]?=some (.cells (zC6 x i).toArray 48 (0,0))) 11 ⟨F.o.1,an,F.o.2.2.1⟩ fun b=>?_;have HX:=zh (And.intro (F.o.2.2.2.1.keep (w':=W5.drew) (fun _ _=>rfl) (Nat.le_refl _)) (And.intro (show W5.drew.heap[w2.heap.size]?=_ from F.o.2.1) (F.o.2.2.2.2.trans (show Chg (fun _=>False) W5 W5.drew from Chg.of_below ⟨rfl,rfl,rfl,Nat.le_refl _,fun _ _=>rfl⟩) fun _ _ e=>e.elim)));clear an c0;generalize W5.drew=W6 at *;refine Pl [0,1,2,3,4,5,6,7,8] ?_
  iterate 9 (refine Pd rfl (by intro w' f;first|exact zBr 48 (.tmp 9) rfl rfl f.2.2 underlying48 rfl (by kernel_rfl)|(have c1:=zAB f.1 (i:=1) (v:=.int .i64 o.client) rfl;have c2:=zAB f.1 (i:=2) (v:=.int .i64 o.seq) rfl;have e1:=zAB f.2.1 (i:=1) (v:=.map (some J)) rfl;go_simp;try with_reducible rfl)) ?_;simp only[uZ])
  refine Pn ?_;refine Pl [9] ?_;refine Pd (v:=Sess.v ⟨o.seq,x,i,It.zero⟩) rfl (by intro w' f;kernel_rfl) ?_;simp only[uZ];refine Pn ?_;refine oon 10 rfl fun K t=>?_;have ao:(zDe U (nm o.atK)).ss=E.ss:=(tidy_ss _ _).trans az.o;obtain⟨w',aE,ar,G⟩:=ss_store HX.o.1.sess o.client Hx.o.1.1.2.1 (by rw[ao];exact Hx.o.2) ⟨o.seq,x,i,It.zero⟩;have ac:c J≠none:=by rw[HX.o.1.oS];simp
  have ab:∀k,c k=none→k≠J:=fun k A e=>by rw[←e]at ac;exact ac A
  have HY:=zh (And.intro (HX.o.1.said ar G) (And.intro ((G.block _ (zAA HX.o.2.1) (ab _ d.o.1.n2)).trans HX.o.2.1) (HX.o.2.2.trans G fun i hi e=>by rw[←d.o.1.old i hi,e];exact ac)));have hS:w'.heap[w.heap.size]?=some (.cells (OpL o).toArray 25 (0,0))∧w'.heap[I]?=some (zDJ vm J tm Z)∧w'.heap[q]?=some (.cells (zC6 x i).toArray 48 (0,0)):=⟨(G.block _ (zAA b.1) (ab _ d.o.1.n1)).trans b.1,HY.o.1.cells,(G.block _ (zAA b.2.2) (ab _ d.o.1.n3)).trans b.2.2⟩;clear ar G ac ab b;go_wp2_with fail;refine t.o _ _ hS fun b=>?_;clear t aE;have HQ:=zh hS;clear hS b;refine odn ?_;go_wp2_with (first
   | (refine zA1 rfl 48 (.tmp 9) rfl q rfl (L:=zC6 x i) HQ.o.2.2 underlying48 rfl (by kernel_rfl) ?_)
   | (refine zAg rfl 48 (.tmp 4) (.tmp 49) rfl w2.heap.size rfl (L:=zC6 x i) rfl HY.o.2.1 rfl (by kernel_rfl) (zBA _ _) ?_;intro w9 hn s;have HZ:=zh (And.intro hn s);clear hn s))
  refine bodyPost_ret (zAS (p:=4) (u:=5) rfl _ _ w2.heap.size _ _ (0,0) _ rfl HZ.o.1 underlying48 rfl (by kernel_rfl)) rfl ?_;refine⟨x,i,{zDe U (nm o.atK)with ss:=zDv o.client ⟨o.seq,x,i,It.zero⟩ E.ss},c,rfl,?_,d.o.1.old,HY.o.2.2.trans HZ.o.2 fun i hi e=>by have:=d.o.1.d1;omega⟩;have h9:=HY.o.1.keep (w':=w9) (fun k A=>HZ.o.2.block k (HY.o.1.oLt k A) fun e=>by rw[e]at A;exact A d.o.1.n2) HZ.o.2.size;rw[ao]at h9;exact h9
theorem peekno_calls {w:World}{s vm C D B:Nat}{E:zBu}{own:Nat→Option (Nat×Bs)}(_h:zAI w s vm C D B E own)(o:OpM)(z:o.wf)(y:o.may=false) :
  Calls prog 41 #[.pointer (some ⟨s,0,none⟩),.agg (OpL o).toArray] w fun e w'=>e=.returned (.tuple #[.agg (RepC 1).toArray,.bool true])∧Below w.heap.size w w':=by
 have r:=zh (fun W=>zBK W o z);rw[y]at r;clear _h z y
 go_enter func41,ntmps41
 go_wp2_with (first
  | (refine bbox rfl 25 (.tmp 1) rfl (L:=OpL o) rfl ?_;intro a i f k;have c:=zh (And.intro i (And.intro f k));clear i f k)
  | (refine zAe rfl 48 rfl (zeroValue48 _) (by decide) ?_;intro w3 j b q;have H3:=zh (And.intro j (And.intro ((b.block _ (zAA c.o.1)).trans c.o.1) (And.intro (c.o.2.1.trans (b.mono c.o.2.1.size)) c.o.2.2)));clear j b q c)
  | (refine zA1 rfl 25 (.tmp 3) rfl w.heap.size rfl (L:=OpL o) H3.o.2.1 underlying25 rfl (by kernel_rfl) ?_))
 refine(r.o _).mono ?_;rintro e G ⟨rfl,n⟩;have m:=zh (And.intro ((n.block _ (zAA H3.o.1)).trans H3.o.1) (And.intro ((n.block _ (zAA H3.o.2.1)).trans H3.o.2.1) (And.intro (H3.o.2.2.1.trans (n.mono H3.o.2.2.1.size)) (H3.o.2.2.2))));clear n;have A:=zh (zAA m.o.1);go_wp2_with (first
  | (refine zBY rfl 48 #[(0,.const (.int .i64 1))] rfl (v:=.agg (RepC 1).toArray) (by kernel_rfl) ?_)
  | (refine zAg rfl 48 (.tmp 4) (.tmp 18) rfl a.heap.size rfl (L:=RepC 1) rfl m.o.1 rfl (by kernel_rfl) (zCQ 1) ?_;intro F hn t;have d:=zh (And.intro hn (zAY m.o.2.2.1 t (by have:=m.o.2.2.2;omega)));clear hn t))
 refine bodyPost_ret (zAS (p:=4) (u:=5) rfl _ _ a.heap.size _ _ (0,0) _ rfl d.o.1 underlying48 rfl (by kernel_rfl)) rfl ?_;exact⟨rfl,d.o.2⟩
theorem am_none {w:World}{b:Nat}{d:List ((Int×Int)×Bool)}(h:zAd w prog 164 zBt boolE b d)(c s:Int)(i:zCs c∧zCs s)(j:zBS (c,s) d=none) :
  (Instr.lookup 155 (.map (some b)) (.agg #[.int .i64 c,.int .i64 s]) false).run prog w=.ok (.bool false) w:=by
 have f:=h.look zCO underlying155 (by kernel_rfl) (a:=(c,s)) i;rw[show(zBt).v (c,s)=.agg #[.int .i64 c,.int .i64 s]from rfl]at f;rw[f,j];rfl
theorem tm_none {w:World}{d:Nat}{f:List ((Int×Int)×zDm)}(h:zAd w prog 164 zBt transE d f)(c s:Int)(i:zCs c∧zCs s)(j:zBS (c,s) f=none) :
  (Instr.lookup 154 (.map (some d)) (.agg #[.int .i64 c,.int .i64 s]) true).run prog w=.ok (.tuple #[.agg #[.int .i64 0,.int .i64 0,.string ⟨#[]⟩,.string ⟨#[]⟩,.string ⟨#[]⟩,.string ⟨#[]⟩,.int .i64 0,.int .i64 0],.bool false]) w:=by
 have b:=h.look_ok zCO underlying154 (by kernel_rfl) (a:=(c,s)) i;rw[show(zBt).v (c,s)=.agg #[.int .i64 c,.int .i64 s]from rfl]at b;rw[b,j];rfl
theorem peek6_calls {w:World}{D vm s X q:Nat}{E:zBu}{own:Nat→Option (Nat×Bs)}(h:zAI w D vm s X q E own)(o:OpM)(ho:o.wf)(hm:o.may=true)(hk:o.kind=6)
  (hs:zBS o.client E.ss=none) (hg:zBS (o.client,o.seq) E.ar=none) :
  Calls prog 41 #[.pointer (some ⟨D,0,none⟩),.agg (OpL o).toArray] w fun e w'=>e=.returned (.tuple #[.agg zAa.toArray,.bool false])∧Below w.heap.size w w':=by
 have Hm:=zh (fun W=>zBK W o ho);rw[hm]at Hm;have H:=zh h;have V:=zh (And.intro hs ho);have Z:=zh (And.intro hk hg);clear hg hs hm h ho hk
 go_enter func41,ntmps41
 go_wp2_with (first
  | (refine bbox rfl 25 (.tmp 1) rfl (L:=OpL o) rfl ?_;intro F Q O R;have a:=zh (And.intro Q (And.intro O R));clear Q O R)
  | (refine zAe rfl 48 rfl (zeroValue48 _) (by decide) ?_;intro w3 m f y;have H3:=zh (And.intro m (And.intro ((f.block _ (zAA a.o.1)).trans a.o.1) (And.intro (a.o.2.1.trans (f.mono a.o.2.1.size)) a.o.2.2)));clear m f y a)
  | (refine zA1 rfl 25 (.tmp 3) rfl w.heap.size rfl (L:=OpL o) H3.o.2.1 underlying25 rfl (by kernel_rfl) ?_))
 refine(Hm.o _).mono ?_;rintro e Y ⟨rfl,k⟩;have j:=zh (And.intro ((k.block _ (zAA H3.o.1)).trans H3.o.1) (And.intro ((k.block _ (zAA H3.o.2.1)).trans H3.o.2.1) (And.intro (H3.o.2.2.1.trans (k.mono H3.o.2.2.1.size)) (H3.o.2.2.2))));clear k;have c1:=zAB j.o.2.1 (i:=1) (v:=.int .i64 o.client) rfl;have c2:=zAB j.o.2.1 (i:=2) (v:=.int .i64 o.seq) rfl;go_wp2_with (first
  | (refine zAe rfl 164 rfl (zeroValue164 _) (by decide) ?_;intro w5 m f y;have A:=zh (And.intro m (And.intro ((f.block _ (zAA j.o.1)).trans j.o.1) (And.intro ((f.block _ (zAA j.o.2.1)).trans j.o.2.1) (j.o.2.2.1.trans (f.mono j.o.2.2.1.size)))));have t:=zh (zAA j.o.1);clear m f y)
  | (refine zAg rfl 164 (.tmp 6) (.tmp 23) rfl Y.heap.size rfl (L:=[.int .i64 o.client,.int .i64 o.seq]) rfl A.o.1 rfl (by kernel_rfl) (by intro v hv;simp only[List.mem_cons,List.not_mem_nil,or_false]at hv;rcases hv with rfl|rfl<;>rfl) ?_;intro T hn c;have J:=zh (And.intro ((c.block _ (zAA A.o.2.1) (by have:=t.o;omega)).trans A.o.2.1) (And.intro ((c.block _ (zAA A.o.2.2.1) (by have:=t.o;have:=j.o.2.2.2;omega)).trans A.o.2.2.1) (zAY A.o.2.2.2 c j.o.2.2.1.size)));have Hw:=zh hn;clear hn c))
 clear c1 c2;have P:T.heap[D]?=some (zDJ vm s X q):=(J.o.2.2.block _ (H.o.oLt _ (by rw[H.o.oE];simp))).trans H.o.cells;have S:zAd T prog 3 (intK underlying3) sessE s E.ss:=H.o.sess.keep (J.o.2.2.block _ (H.o.oLt _ (by rw[H.o.oS];simp)));refine ost (fun w':World=>w'.heap[w.heap.size]?=some (.cells (OpL o).toArray 25 (0,0))∧w'.heap[D]?=some (zDJ vm s X q)∧zAd w' prog 3 (intK underlying3) sessE s E.ss∧w'.heap[Y.heap.size]?=some (.cells #[.int .i64 o.client,.int .i64 o.seq] 164 (0,0))) 13 ⟨J.o.2.1,P,S.keep rfl,Hw.o⟩ fun b=>?_;clear P S;have B:=zW (T.drew.heap[F.heap.size]?=some (.cells zAa.toArray 48 (0,0))∧Below w.heap.size w T.drew) (⟨J.o.1,J.o.2.2.trans ⟨rfl,rfl,rfl,Nat.le_refl _,fun _ _=>rfl⟩⟩);generalize T.drew=w7 at *;refine Pl [0,1,2,3,4,5,6,7,8,9] ?_
 iterate 10 (refine Pd rfl (by intro w' d;have p1:=zAB d.1 (i:=1) (v:=.int .i64 o.client) rfl;have q1:=zAB d.2.1 (i:=1) (v:=.map (some s)) rfl;have hl:=ss_none d.2.2.1 o.client V.o.2.1.2.1 V.o.1;go_simp;try with_reducible rfl) ?_;simp only[uZ])
 refine Pn ?_;refine oon 10 rfl fun K r=>?_;refine zAo 166 rfl (zeroValue166 _) (by decide) ?_;intro w8 hn k ad;have U:=zW (w8.heap[w7.heap.size]?=some (.cells SessL.toArray 166 (0,0))∧w8.heap[F.heap.size]?=some (.cells zAa.toArray 48 (0,0))∧Below w.heap.size w w8) (⟨hn,(k.block _ (zAA B.o.1)).trans B.o.1,B.o.2.trans (k.mono B.o.2.size)⟩);have aa:=zW (Y.heap.size<w7.heap.size) (zAA b.2.2.2);have M:=zh (And.intro (zAA B.o.1) (And.intro (zAA b.1) (And.intro (zAA b.2.1) B.o.2.size)));refine r.o _ _ ⟨(k.block _ (zAA b.1)).trans b.1,(k.block _ (zAA b.2.1)).trans b.2.1,b.2.2.1.keep (k.block _ (b.2.2.1.lt)),(k.block _ (zAA b.2.2.2)).trans b.2.2.2⟩ fun b=>?_;clear r hn k ad
 try simp only[uZ]
 refine oon 11 rfl fun K r=>?_;refine zAi 166 (.tmp 7) (.tmp 32) rfl w7.heap.size rfl (L:=SessL) rfl U.o.1 rfl (by kernel_rfl) SessL_one ?_;intro z hn c;have H9:=zW (z.heap[F.heap.size]?=some (.cells zAa.toArray 48 (0,0))∧Below w.heap.size w z) (⟨(c.block _ (zAA U.o.2.1) (by have:=M.o.1;omega)).trans U.o.2.1,zAY U.o.2.2 c M.o.2.2.2⟩);refine r.o _ _ ⟨(c.block _ (zAA b.1) (by have:=M.o.2.1;omega)).trans b.1,(c.block _ (zAA b.2.1) (by have:=M.o.2.2.1;omega)).trans b.2.1,b.2.2.1.keep (c.block _ b.2.2.1.lt (by have h1:=b.2.2.1.lt;have h2:=H.o.oLt s (by rw[H.o.oS];simp);have:=M.o.2.2.2;omega)),(c.block _ (zAA b.2.2.2) (by have:=aa.o;omega)).trans b.2.2.2⟩ (fun b=>?_);clear r hn c
 try simp only[uZ]
 refine Pl [12] ?_
 iterate 1 (refine Pc rfl ?_;simp only[uZ])
 refine Pn ?_;refine odn ?_;have c0:=zAB b.1 (i:=0) (v:=.int .i64 o.kind) rfl;have Hh:=zh b;clear b;have ac:(o.kind==6)=true:=by rw[Z.o.1];rfl
 have ab:o.kind=6:=Z.o.1
 go_upto_region 6 with(fail)
 try simp only[uZ]
 have N:zAd z prog 164 zBt boolE q E.ar:=H.o.arr.keep (H9.o.2.block _ (H.o.oLt _ (by rw[H.o.oA];simp)));refine ost (fun w':World=>w'.heap[D]?=some (zDJ vm s X q)∧zAd w' prog 164 zBt boolE q E.ar∧w'.heap[Y.heap.size]?=some (.cells #[.int .i64 o.client,.int .i64 o.seq] 164 (0,0))) 9 ⟨Hh.o.2.1,N,Hh.o.2.2.2⟩ fun b=>?_;have G:=zW (z.drew.heap[F.heap.size]?=some (.cells zAa.toArray 48 (0,0))∧Below w.heap.size w z.drew) (⟨H9.o.1,H9.o.2.trans ((zAG z).mono H9.o.2.size)⟩);have C:=zh (And.intro (H.o.oLt D (by rw[H.o.oE];simp)) (And.intro (H.o.oLt q (by rw[H.o.oA];simp)) (And.intro t.o j.o.2.2.2)));clear N c0 ac ab;generalize z.drew=wA at *;refine Pl [0,1,2,3,4,5,6] ?_;refine Pd (v:=.agg zAa.toArray) rfl (by intro w' d;kernel_rfl) ?_;simp only[uZ]
 iterate 6 (refine Pd rfl (by intro w' d;first|exact zBr 164 (.tmp 6) (L:=[.int .i64 o.client,.int .i64 o.seq]) rfl rfl d.2.2 underlying164 rfl (by kernel_rfl)|(have q3:=zAB d.1 (i:=3) (v:=.map (some q)) rfl;have hl:=am_none d.2.1 o.client o.seq ⟨V.o.2.1.2.1,V.o.2.1.2.2⟩ Z.o.2;go_simp;try with_reducible rfl)) ?_;simp only[uZ])
 refine Pn ?_;refine oon 7 rfl fun K r=>?_;refine zAi 48 (.tmp 4) (.tmp 38) rfl F.heap.size rfl (L:=zAa) rfl G.o.1 rfl (by kernel_rfl) zA8 ?_;intro wB hn c;have I:=zh (And.intro hn (zAY G.o.2 c (by have:=C.o.2.2.2;omega)));refine r.o _ _ ⟨(c.block _ (zAA b.1) (by have:=C.o.1;have:=C.o.2.2.2;omega)).trans b.1,b.2.1.keep (c.block _ b.2.1.lt (by have:=C.o.2.1;have:=C.o.2.2.2;omega)),(c.block _ (zAA b.2.2) (by have:=C.o.2.2.1;omega)).trans b.2.2⟩ (fun n=>?_);clear r hn c b
 try simp only[uZ]
 refine Pl [8] ?_;refine Pc rfl ?_;simp only[uZ];refine Pn ?_;refine odn ?_;clear n;go_wp2_with fail;refine bodyPost_ret (zAS (p:=4) (u:=5) rfl _ _ F.heap.size _ _ (0,0) _ rfl I.o.1 underlying48 rfl (by kernel_rfl)) rfl ?_;exact⟨rfl,I.o.2⟩
theorem peek7_calls {w:World}{J vm y z am:Nat}{E:zBu}{own:Nat→Option (Nat×Bs)}(h:zAI w J vm y z am E own)(o:OpM)(ho:o.wf)(hm:o.may=true)(hk:o.kind=7)
  (hs:zBS o.client E.ss=none) (hg:zBS (o.client,o.seq) E.ts=none) :
  Calls prog 41 #[.pointer (some ⟨J,0,none⟩),.agg (OpL o).toArray] w fun e w'=>e=.returned (.tuple #[.agg zAa.toArray,.bool true])∧Below w.heap.size w w':=by
 have Hm:=zh (fun W=>zBK W o ho);rw[hm]at Hm;have H:=zh h;have Hs:=zh (And.intro hs ho);have P:=zh (And.intro hk hg);clear hg hs hm h ho hk
 go_enter func41,ntmps41
 go_wp2_with (first
  | (refine bbox rfl 25 (.tmp 1) rfl (L:=OpL o) rfl ?_;intro a U S V;have F:=zh (And.intro U (And.intro S V));clear U S V)
  | (refine zAe rfl 48 rfl (zeroValue48 _) (by decide) ?_;intro w3 q f B;have H3:=zh (And.intro q (And.intro ((f.block _ (zAA F.o.1)).trans F.o.1) (And.intro (F.o.2.1.trans (f.mono F.o.2.1.size)) F.o.2.2)));clear q f B F)
  | (refine zA1 rfl 25 (.tmp 3) rfl w.heap.size rfl (L:=OpL o) H3.o.2.1 underlying25 rfl (by kernel_rfl) ?_))
 refine(Hm.o _).mono ?_;rintro e w4 ⟨rfl,d⟩;have m:=zh (And.intro ((d.block _ (zAA H3.o.1)).trans H3.o.1) (And.intro ((d.block _ (zAA H3.o.2.1)).trans H3.o.2.1) (And.intro (H3.o.2.2.1.trans (d.mono H3.o.2.2.1.size)) (H3.o.2.2.2))));clear d;have c1:=zAB m.o.2.1 (i:=1) (v:=.int .i64 o.client) rfl;have c2:=zAB m.o.2.1 (i:=2) (v:=.int .i64 o.seq) rfl;go_wp2_with (first
  | (refine zAe rfl 164 rfl (zeroValue164 _) (by decide) ?_;intro w5 q f B;have G:=zh (And.intro q (And.intro ((f.block _ (zAA m.o.1)).trans m.o.1) (And.intro ((f.block _ (zAA m.o.2.1)).trans m.o.2.1) (m.o.2.2.1.trans (f.mono m.o.2.2.1.size)))));have A:=zh (zAA m.o.1);clear q f B)
  | (refine zAg rfl 164 (.tmp 6) (.tmp 23) rfl w4.heap.size rfl (L:=[.int .i64 o.client,.int .i64 o.seq]) rfl G.o.1 rfl (by kernel_rfl) (by intro v Y;simp only[List.mem_cons,List.not_mem_nil,or_false]at Y;rcases Y with rfl|rfl<;>rfl) ?_;intro Z hn c;have O:=zh (And.intro ((c.block _ (zAA G.o.2.1) (by have:=A.o;omega)).trans G.o.2.1) (And.intro ((c.block _ (zAA G.o.2.2.1) (by have:=A.o;have:=m.o.2.2.2;omega)).trans G.o.2.2.1) (zAY G.o.2.2.2 c m.o.2.2.1.size)));have Hw:=zh hn;clear hn c))
 clear c1 c2;have T:Z.heap[J]?=some (zDJ vm y z am):=(O.o.2.2.block _ (H.o.oLt _ (by rw[H.o.oE];simp))).trans H.o.cells;have X:zAd Z prog 3 (intK underlying3) sessE y E.ss:=H.o.sess.keep (O.o.2.2.block _ (H.o.oLt _ (by rw[H.o.oS];simp)));refine ost (fun w':World=>w'.heap[w.heap.size]?=some (.cells (OpL o).toArray 25 (0,0))∧w'.heap[J]?=some (zDJ vm y z am)∧zAd w' prog 3 (intK underlying3) sessE y E.ss∧w'.heap[w4.heap.size]?=some (.cells #[.int .i64 o.client,.int .i64 o.seq] 164 (0,0))) 13 ⟨O.o.2.1,T,X.keep rfl,Hw.o⟩ fun b=>?_;clear T X;have I:=zW (Z.drew.heap[a.heap.size]?=some (.cells zAa.toArray 48 (0,0))∧Below w.heap.size w Z.drew) (⟨O.o.1,O.o.2.2.trans ⟨rfl,rfl,rfl,Nat.le_refl _,fun _ _=>rfl⟩⟩);generalize Z.drew=w7 at *;refine Pl [0,1,2,3,4,5,6,7,8,9] ?_
 iterate 10 (refine Pd rfl (by intro w' j;have p1:=zAB j.1 (i:=1) (v:=.int .i64 o.client) rfl;have q1:=zAB j.2.1 (i:=1) (v:=.map (some y)) rfl;have hl:=ss_none j.2.2.1 o.client Hs.o.2.1.2.1 Hs.o.1;go_simp;try with_reducible rfl) ?_;simp only[uZ])
 refine Pn ?_;refine oon 10 rfl fun K n=>?_;refine zAo 166 rfl (zeroValue166 _) (by decide) ?_;intro w8 hn d C;have H8:=zW (w8.heap[w7.heap.size]?=some (.cells SessL.toArray 166 (0,0))∧w8.heap[a.heap.size]?=some (.cells zAa.toArray 48 (0,0))∧Below w.heap.size w w8) (⟨hn,(d.block _ (zAA I.o.1)).trans I.o.1,I.o.2.trans (d.mono I.o.2.size)⟩);have aa:=zW (w4.heap.size<w7.heap.size) (zAA b.2.2.2);have Q:=zh (And.intro (zAA I.o.1) (And.intro (zAA b.1) (And.intro (zAA b.2.1) I.o.2.size)));refine n.o _ _ ⟨(d.block _ (zAA b.1)).trans b.1,(d.block _ (zAA b.2.1)).trans b.2.1,b.2.2.1.keep (d.block _ (b.2.2.1.lt)),(d.block _ (zAA b.2.2.2)).trans b.2.2.2⟩ fun b=>?_;clear n hn d C
 try simp only[uZ]
 refine oon 11 rfl fun K n=>?_;refine zAi 166 (.tmp 7) (.tmp 32) rfl w7.heap.size rfl (L:=SessL) rfl H8.o.1 rfl (by kernel_rfl) SessL_one ?_;intro D hn c;have H9:=zW (D.heap[a.heap.size]?=some (.cells zAa.toArray 48 (0,0))∧Below w.heap.size w D) (⟨(c.block _ (zAA H8.o.2.1) (by have:=Q.o.1;omega)).trans H8.o.2.1,zAY H8.o.2.2 c Q.o.2.2.2⟩);refine n.o _ _ ⟨(c.block _ (zAA b.1) (by have:=Q.o.2.1;omega)).trans b.1,(c.block _ (zAA b.2.1) (by have:=Q.o.2.2.1;omega)).trans b.2.1,b.2.2.1.keep (c.block _ b.2.2.1.lt (by have h1:=b.2.2.1.lt;have h2:=H.o.oLt y (by rw[H.o.oS];simp);have:=Q.o.2.2.2;omega)),(c.block _ (zAA b.2.2.2) (by have:=aa.o;omega)).trans b.2.2.2⟩ (fun b=>?_);clear n hn c
 try simp only[uZ]
 refine Pl [12] ?_
 iterate 1 (refine Pc rfl ?_;simp only[uZ])
 refine Pn ?_;refine odn ?_;have c0:=zAB b.1 (i:=0) (v:=.int .i64 o.kind) rfl;have Hh:=zh b;clear b;have ad:(o.kind==6)=false:=by rw[P.o.1];rfl
 have ae:(o.kind==7)=true:=by rw[P.o.1];rfl
 have ab:¬o.kind=6:=by rw[P.o.1];decide
 have ac:o.kind=7:=P.o.1
 go_upto_region 8 with(fail)
 try simp only[uZ]
 have R:zAd D prog 164 zBt transE z E.ts:=H.o.trans.keep (H9.o.2.block _ (H.o.oLt _ (by rw[H.o.oT];simp)));refine ost (fun w':World=>w'.heap[J]?=some (zDJ vm y z am)∧zAd w' prog 164 zBt transE z E.ts∧w'.heap[w4.heap.size]?=some (.cells #[.int .i64 o.client,.int .i64 o.seq] 164 (0,0))) 12 ⟨Hh.o.2.1,R,Hh.o.2.2.2⟩ fun b=>?_;have k:=zW (D.drew.heap[a.heap.size]?=some (.cells zAa.toArray 48 (0,0))∧Below w.heap.size w D.drew) (⟨H9.o.1,H9.o.2.trans ((zAG D).mono H9.o.2.size)⟩);have HL:=zh (And.intro (H.o.oLt J (by rw[H.o.oE];simp)) (And.intro (H.o.oLt z (by rw[H.o.oT];simp)) (And.intro A.o m.o.2.2.2)));clear R c0 ad ab ae ac;generalize D.drew=wA at *;have s:=zh (And.intro (zAA k.o.1) (And.intro (zAA b.1) (And.intro b.2.1.lt (zAA b.2.2))));refine Pl [0,1,2,3,4,5,6,7,8] ?_
 iterate 9 (refine Pd rfl (by intro w' j;first|exact zBr 164 (.tmp 6) (L:=[.int .i64 o.client,.int .i64 o.seq]) rfl rfl j.2.2 underlying164 rfl (by kernel_rfl)|(have q2:=zAB j.1 (i:=2) (v:=.map (some z)) rfl;have hl:=tm_none j.2.1 o.client o.seq ⟨Hs.o.2.1.2.1,Hs.o.2.1.2.2⟩ P.o.2;go_simp;try with_reducible rfl)) ?_;simp only[uZ])
 refine Pn ?_;refine oon 9 rfl fun K n=>?_;refine zAo 148 rfl (zeroValue148 _) (by decide) ?_;intro wB hn d C;have r:=zW (wB.heap[wA.heap.size]?=_∧wB.heap[a.heap.size]?=some (.cells zAa.toArray 48 (0,0))∧Below w.heap.size w wB) (⟨hn,(d.block _ (zAA k.o.1)).trans k.o.1,k.o.2.trans (d.mono k.o.2.size)⟩);refine n.o _ _ ⟨(d.block _ (zAA b.1)).trans b.1,b.2.1.keep (d.block _ b.2.1.lt),(d.block _ (zAA b.2.2)).trans b.2.2⟩ fun b=>?_;clear n hn d C
 try simp only[uZ]
 refine oon 10 rfl fun K n=>?_;refine zAi 148 (.tmp 9) (.tmp 56) rfl wA.heap.size rfl (L:=[.int .i64 0,.int .i64 0,.string ⟨#[]⟩,.string ⟨#[]⟩,.string ⟨#[]⟩,.string ⟨#[]⟩,.int .i64 0,.int .i64 0]) rfl r.o.1 rfl (by kernel_rfl) (by intro v Y;simp only[List.mem_cons,List.not_mem_nil,or_false]at Y;rcases Y with rfl|rfl|rfl|rfl|rfl|rfl|rfl|rfl<;>rfl) ?_;intro wC hn c;have M:=zW (wC.heap[a.heap.size]?=some (.cells zAa.toArray 48 (0,0))∧Below w.heap.size w wC) (⟨(c.block _ (zAA r.o.2.1) (by have:=s.o.1;omega)).trans r.o.2.1,zAY r.o.2.2 c k.o.2.size⟩);refine n.o _ _ ⟨(c.block _ (zAA b.1) (by have:=s.o.2.1;omega)).trans b.1,b.2.1.keep (c.block _ b.2.1.lt (by have:=s.o.2.2.1;omega)),(c.block _ (zAA b.2.2) (by have:=s.o.2.2.2;omega)).trans b.2.2⟩ (fun t=>?_);clear n hn c b
 try simp only[uZ]
 refine Pl [11] ?_;refine Pc rfl ?_;simp only[uZ];refine Pn ?_;refine odn ?_;clear t;go_wp2_with (first
  | (refine zBY rfl 48 #[] rfl (v:=.agg zAa.toArray) (by kernel_rfl) ?_)
  | (refine zAg rfl 48 (.tmp 4) (.tmp 58) rfl a.heap.size rfl (L:=zAa) rfl M.o.1 rfl (by kernel_rfl) zA8 ?_;intro wD hn c;have N:=zh (And.intro hn (zAY M.o.2 c (by have:=HL.o.2.2.2;omega)));clear hn c))
 refine bodyPost_ret (zAS (p:=4) (u:=5) rfl _ _ a.heap.size _ _ (0,0) _ rfl N.o.1 underlying48 rfl (by kernel_rfl)) rfl ?_;exact⟨rfl,N.o.2⟩
theorem applyknown_calls {w:World}{v vm C D A:Nat}{E:zBu}{own:Nat→Option (Nat×Bs)}(h:zAI w v vm C D A E own)(o:OpM)(x i:Int)
  (B:∀W,zAI W v vm C D A E own→Calls prog 41 #[.pointer (some ⟨v,0,none⟩),.agg (OpL o).toArray] W fun e w'=>e=.returned (.tuple #[.agg (zC6 x i).toArray,.bool true])∧Below W.heap.size W w') :
  Calls prog 45 #[.pointer (some ⟨v,0,none⟩),.agg (OpL o).toArray] w fun e w'=>e=.returned (.tuple #[.agg (zC6 x i).toArray,.bool false])∧Below w.heap.size w w':=by
 have I:=zh B;have H:=zh h;clear h B
 go_enter func45,ntmps45
 go_wp2_with (first
  | (refine bbox rfl 25 (.tmp 1) rfl (L:=OpL o) rfl ?_;intro F s r t;have m:=zh (And.intro s (And.intro r t));clear s r t)
  | (refine zAe rfl 48 rfl (zeroValue48 _) (by decide) ?_;intro w3 c b j;have H3:=zh (And.intro c (And.intro ((b.block _ (zAA m.o.1)).trans m.o.1) (And.intro (m.o.2.1.trans (b.mono m.o.2.1.size)) m.o.2.2)));clear c b j m)
  | (refine zA1 rfl 25 (.tmp 3) rfl w.heap.size rfl (L:=OpL o) H3.o.2.1 underlying25 rfl (by kernel_rfl) ?_))
 refine(I.o _ (H.o.keep (fun k J=>H3.o.2.2.1.block k (H.o.oLt k J)) H3.o.2.2.1.size)).mono ?_;rintro e G ⟨rfl,z⟩;have d:=zh (And.intro ((z.block _ (zAA H3.o.1)).trans H3.o.1) (And.intro (H3.o.2.2.1.trans (z.mono H3.o.2.2.1.size)) H3.o.2.2.2));clear z;go_wp2_with (first
  | (refine zAe rfl 48 rfl (zeroValue48 _) (by decide) ?_;intro M c b j;have q:=zh (And.intro c (And.intro ((b.block _ (zAA d.o.1)).trans d.o.1) (d.o.2.1.trans (b.mono d.o.2.1.size))));have f:=zh (And.intro (zAA d.o.1) (And.intro d.o.2.2 d.o.2.1.size));clear c b j)
  | (refine zAg rfl 48 (.tmp 6) (.tmp 14) rfl G.heap.size rfl (L:=zC6 x i) rfl q.o.1 rfl (by kernel_rfl) (zBA _ _) ?_;intro N hn n;have y:=zh (And.intro hn (And.intro ((n.block _ (zAA q.o.2.1) (by have:=f.o;omega)).trans q.o.2.1) (zAY q.o.2.2 n f.o.2.2)));clear hn n q d)
  | (refine zA1 rfl 48 (.tmp 6) rfl G.heap.size rfl (L:=zC6 x i) y.o.1 underlying48 rfl (by kernel_rfl) ?_)
  | (refine zAg rfl 48 (.tmp 4) (.tmp 17) rfl F.heap.size rfl (L:=zC6 x i) rfl y.o.2.1 rfl (by kernel_rfl) (zBA _ _) ?_;intro O hn n;have a:=zh (And.intro hn (zAY y.o.2.2 n (by have:=f.o;omega)));clear hn n))
 refine bodyPost_ret (zAS (p:=4) (u:=5) rfl _ _ F.heap.size _ _ (0,0) _ rfl a.o.1 underlying48 rfl (by kernel_rfl)) rfl ?_;exact⟨rfl,a.o.2⟩
theorem applya_calls {w:World}{S vm sm tm am:Nat}{E:zBu}{own:Nat→Option (Nat×Bs)}(h:zAI w S vm sm tm am E own)(o:OpM)(ho:o.wf)
  (ai:o.kind=6)
  (hP:∀W,zAI W S vm sm tm am E own→Calls prog 41 #[.pointer (some ⟨S,0,none⟩),.agg (OpL o).toArray] W fun e w'=>e=.returned (.tuple #[.agg zAa.toArray,.bool false])∧Below W.heap.size W w')
  (hM:∀W,zAI W S vm sm tm am E own→Calls prog 105 #[.pointer (some ⟨S,0,none⟩),.agg (OpL o).toArray] W (KindR W S vm sm tm am E own)) :
  Calls prog 45 #[.pointer (some ⟨S,0,none⟩),.agg (OpL o).toArray] w fun e w'=>∃x i E2 c,e=.returned (.tuple #[.agg (zC6 x i).toArray,.bool true])∧zAI w' S vm sm tm am E2 c∧(∀k,k<w.heap.size→c k=own k)∧Chg (fun k=>own k≠none) w w':=by
 have HP:=zh hP;have HM:=zh hM;have H:=zh h;have Hx:=zh (And.intro ho True.intro);have U:=zh ai;clear h hP hM ai ho
 go_enter func45,ntmps45
 go_wp2_with (first
  | (refine bbox rfl 25 (.tmp 1) rfl (L:=OpL o) rfl ?_;intro w2 ak ah al;have H2:=zh (And.intro ak (And.intro ah al));clear ak ah al)
  | (refine zAe rfl 48 rfl (zeroValue48 _) (by decide) ?_;intro w3 A f P;have H3:=zh (And.intro A (And.intro ((f.block _ (zAA H2.o.1)).trans H2.o.1) (And.intro (H2.o.2.1.trans (f.mono H2.o.2.1.size)) H2.o.2.2)));clear A f P H2)
  | (refine zA1 rfl 25 (.tmp 3) rfl w.heap.size rfl (L:=OpL o) H3.o.2.1 underlying25 rfl (by kernel_rfl) ?_))
 refine(HP.o _ (H.o.keep (fun k C=>H3.o.2.2.1.block k (H.o.oLt k C)) H3.o.2.2.1.size)).mono ?_;rintro e w4 ⟨rfl,n⟩;have Q:=zh (And.intro ((n.block _ (zAA H3.o.1)).trans H3.o.1) (And.intro ((n.block _ (zAA H3.o.2.1)).trans H3.o.2.1) (And.intro (H3.o.2.2.1.trans (n.mono H3.o.2.2.1.size)) (H3.o.2.2.2))));clear n
 go_upto_region 5 with(first
  | (refine zAe rfl 48 rfl (zeroValue48 _) (by decide) ?_;intro w5 A f P;have H5:=zh (And.intro A (And.intro ((f.block _ (zAA Q.o.1)).trans Q.o.1) (And.intro ((f.block _ (zAA Q.o.2.1)).trans Q.o.2.1) (Q.o.2.2.1.trans (f.mono Q.o.2.2.1.size)))));have m:=zh (And.intro (zAA Q.o.1) (And.intro Q.o.2.2.2 Q.o.2.2.1.size));clear A f P)
  | (refine zAg rfl 48 (.tmp 6) (.tmp 14) rfl w4.heap.size rfl (L:=zAa) rfl H5.o.1 rfl (by kernel_rfl) zA8 ?_;intro w6 hn r;have R:=zh (And.intro ((r.block _ (zAA H5.o.2.1) (by have:=m.o;omega)).trans H5.o.2.1) (And.intro ((r.block _ (zAA H5.o.2.2.1) (by have:=m.o;omega)).trans H5.o.2.2.1) (zAY H5.o.2.2.2 r m.o.2.2)));clear hn r H5 Q)
  | (refine zBY rfl 174 #[(1,.func 100),(2,.func 101),(3,.func 102),(4,.func 103),(5,.func 104),(6,.func 105),(7,.func 106)] rfl (v:=.agg zCY.toArray) (by kernel_rfl) ?_)
  | (refine zAe rfl 174 rfl (zeroValue174 _) (by decide) ?_;intro w7 A f P;have H7:=zh (And.intro A (And.intro ((f.block _ (zAA R.o.1)).trans R.o.1) (And.intro ((f.block _ (zAA R.o.2.1)).trans R.o.2.1) (R.o.2.2.trans (f.mono R.o.2.2.size)))));have G:=zh (And.intro (zAA R.o.1) (And.intro (zAA R.o.2.1) R.o.2.2.size));clear A f P R)
  | (refine zAg rfl 174 (.tmp 8) (.tmp 18) rfl w6.heap.size rfl (L:=zCY) rfl H7.o.1 rfl (by kernel_rfl) KindsL_one ?_;intro w8 hn r;have H8:=zh (And.intro hn (And.intro ((r.block _ (zAA H7.o.2.1) (by have:=G.o;omega)).trans H7.o.2.1) (And.intro ((r.block _ (zAA H7.o.2.2.1) (by have:=G.o;omega)).trans H7.o.2.2.1) (zAY H7.o.2.2.2 r G.o.2.2))));clear hn r H7))
 simp only[uZ]
 go_cut [9] (fun s9 wx=>∃q x i T c,s9=.pointer (some ⟨q,0,none⟩)∧MidK w o S vm sm tm am own w2.heap.size q x i c wx∧(∀p∈T.vs,p.2.V.length≤1099511627776)∧T.ss=E.ss∧zAI wx S vm sm tm am (T) c)
 case first =>
  refine ost (fun w':World=>w'.heap[w.heap.size]?=some (.cells (OpL o).toArray 25 (0,0))∧w'.heap[w6.heap.size]?=some (.cells zCY.toArray 174 (0,0))) 9 ⟨H8.o.2.2.1,H8.o.1⟩ fun b=>?_;have B:=zW (w8.drew.heap[w2.heap.size]?=some (.cells zAa.toArray 48 (0,0))∧Below w.heap.size w w8.drew) (⟨H8.o.2.1,H8.o.2.2.2.trans ⟨rfl,rfl,rfl,Nat.le_refl _,fun _ _=>rfl⟩⟩);generalize w8.drew=W0 at *;have ae:=zh (zAA b.2);have HE:=zh (H.o.keep (fun k C=>B.o.2.block k (H.o.oLt k C)) B.o.2.size);have I:=zh (fun k (C:w.heap.size≤k)=>(Classical.byContradiction fun Z=>by have:=H.o.oLt k Z;omega:own k=none));have af:=zh ((Chg.of_below B.o.2).mono fun _ _ e=>e.elim:Chg (fun k=>own k≠none) w W0);have ap:=U.o
  all_goals
   refine Pl [0,1,2,3,4,5] ?_
   iterate 6 (refine Pd rfl (by intro w' y;first|exact zBr 25 (.tmp 3) rfl rfl y.1 underlying25 rfl (by kernel_rfl)|(have c0:=zAB y.1 (i:=0) (v:=.int .i64 o.kind) rfl;rw[ap]at c0;have k1:=zAB y.2 (i:=1) (v:=.func (.func 100) #[] #[]) rfl;have k2:=zAB y.2 (i:=2) (v:=.func (.func 101) #[] #[]) rfl;have k3:=zAB y.2 (i:=3) (v:=.func (.func 102) #[] #[]) rfl;have k4:=zAB y.2 (i:=4) (v:=.func (.func 103) #[] #[]) rfl;have k6:=zAB y.2 (i:=6) (v:=.func (.func 105) #[] #[]) rfl;have k5:=zAB y.2 (i:=5) (v:=.func (.func 104) #[] #[]) rfl;go_simp;try with_reducible rfl)) ?_;simp only[uZ])
   refine Pn ?_;refine zBb 6 7 rfl rfl (by kernel_rfl) (by rfl) (by rfl) (fun K t=>?_) (fun K t=>?_)
   ·go_wp2_with fail;refine(HM.o _ HE.o).mono ?_;rintro e w9 ⟨x,i,T,c,rfl,hg,O,X,N,r⟩;have D:∀k,w.heap.size≤k→k<W0.heap.size→w9.heap[k]?=W0.heap[k]?:=fun k h1 M=>r.block k M fun Z=>Z (I.o k h1);have hz:=(D _ (by have:=m.o;omega) (zAA B.o.1)).trans B.o.1;have j:=zh (And.intro hg (And.intro O (And.intro X (And.intro N (And.intro (af.o.trans r fun _ _ e=>e) hz)))));have hS:(fun w':World=>w'.heap[w.heap.size]?=some (.cells (OpL o).toArray 25 (0,0))∧w'.heap[w6.heap.size]?=some (.cells zCY.toArray 174 (0,0))) w9:=⟨(D _ (Nat.le_refl _) (zAA b.1)).trans b.1,(D _ G.o.2.2 (zAA b.2)).trans b.2⟩;have J:=zh r.size;clear hg O X N r D hz b;go_wp2_with fail;refine t.o _ _ hS fun b=>?_;clear t hS
    try simp only[uZ]
    refine oon 7 rfl fun K t=>?_;refine zAo 48 rfl (zeroValue48 _) (by decide) ?_;intro ad hn n ac;refine t.o _ _ ⟨(n.block _ (zAA b.1)).trans b.1,(n.block _ (zAA b.2)).trans b.2⟩ fun b=>?_;clear t
    try simp only[uZ]
    refine oon 8 rfl fun K t=>?_;refine zAi 48 (.tmp 9) (.tmp 25) rfl w9.heap.size rfl (L:=zC6 x i) rfl hn rfl (by kernel_rfl) (zBA _ _) ?_;intro aq M hs;have Y:=zAA j.o.2.2.2.2.2;refine t.o _ _ ⟨(hs.block _ (zAA b.1) (by have:=m.o;omega)).trans b.1,(hs.block _ (zAA b.2) (by have:=ae.o;have:=J.o;omega)).trans b.2⟩ (fun s=>?_);clear t;have a:=midK_of b.1 ((n.block _ Y).trans j.o.2.2.2.2.2) (by have:=m.o;omega) Y I.o (j.o.2.2.2.1 _ (by have:=m.o;have:=zAA B.o.1;omega)) (j.o.2.2.2.1 _ (zAA B.o.1)) (Classical.byContradiction fun Z=>by have:=j.o.2.2.1.oLt _ Z;omega) (fun k C=>j.o.2.2.2.1 k (Nat.lt_of_lt_of_le C B.o.2.size)) (j.o.2.2.2.2.1.trans (Chg.of_below n) fun _ _ e=>e.elim) (j.o.2.2.1.keep (fun k C=>n.block k (j.o.2.2.1.oLt k C)) n.size) M hs;have HF:=zh a;clear a M hs b s hn n;refine odn ?_;go_wp2_with fail
    go_meet
    exact⟨w9.heap.size,x,i,T,c,rfl,HF.o.1,j.o.1,j.o.2.1,HF.o.2⟩
   ·refine zAo 48 rfl (zeroValue48 _) (by decide) ?_;intro w9 hn n ac;refine t.o _ _ ⟨(n.block _ (zAA b.1)).trans b.1,(n.block _ (zAA b.2)).trans b.2⟩ fun b=>?_;clear t
    try simp only[uZ]
    refine oon 6 rfl fun K t=>?_;go_wp2_with fail;refine(HM.o _ (HE.o.keep (fun k C=>n.block k (HE.o.oLt k C)) n.size)).mono ?_;rintro e ad ⟨x,i,T,c,rfl,hg,O,X,N,r⟩;have D:∀k,w.heap.size≤k→k<w9.heap.size→ad.heap[k]?=w9.heap[k]?:=fun k h1 M=>r.block k M fun Z=>Z (I.o k h1);have hz:=(D _ (by have:=m.o;omega) (Nat.lt_of_lt_of_le (zAA B.o.1) n.size)).trans ((n.block _ (zAA B.o.1)).trans B.o.1);have hq:=(D _ B.o.2.size (by omega)).trans hn;have j:=zh (And.intro hg (And.intro O (And.intro X (And.intro N (And.intro ((af.o.trans (Chg.of_below n) fun _ _ e=>e.elim).trans r fun _ _ e=>e) (And.intro hz hq))))));have hS:(fun w':World=>w'.heap[w.heap.size]?=some (.cells (OpL o).toArray 25 (0,0))∧w'.heap[w6.heap.size]?=some (.cells zCY.toArray 174 (0,0))) ad:=⟨(D _ (Nat.le_refl _) (zAA b.1)).trans b.1,(D _ G.o.2.2 (zAA b.2)).trans b.2⟩;have J:=zh ac;have ao:=zh (zAA b.1);clear hg O X N r D hz b hq hn n ac;go_wp2_with fail;refine t.o _ _ hS fun b=>?_;clear t hS
    try simp only[uZ]
    refine oon 8 rfl fun K t=>?_;refine zAi 48 (.tmp 9) (.tmp 25) rfl W0.heap.size rfl (L:=zC6 x i) rfl j.o.2.2.2.2.2.2 rfl (by kernel_rfl) (zBA _ _) ?_;intro aq M hs;have Y:=zAA B.o.1;refine t.o _ _ ⟨(hs.block _ (zAA b.1) (by have:=m.o;omega)).trans b.1,(hs.block _ (zAA b.2) (by have:=ae.o;omega)).trans b.2⟩ (fun s=>?_);clear t;have a:=midK_of b.1 j.o.2.2.2.2.2.1 (by have:=m.o;omega) Y I.o (j.o.2.2.2.1 _ ao.o) (j.o.2.2.2.1 _ (by have:=J.o;omega)) ((j.o.2.2.2.1 _ (by have:=J.o;omega)).trans (I.o _ B.o.2.size)) (fun k C=>j.o.2.2.2.1 k (by have:=J.o;have:=B.o.2.size;omega)) j.o.2.2.2.2.1 j.o.2.2.1 M hs;have HF:=zh a;clear a M hs b s;refine odn ?_;go_wp2_with fail
    go_meet
    exact⟨W0.heap.size,x,i,T,c,rfl,HF.o.1,j.o.1,j.o.2.1,HF.o.2⟩
 case rest =>
  obtain⟨q,x,i,T,c,rfl,hM,aj,an,X⟩:=hcut;have HT:=zh (zD0 X o.atK Hx.o.1.2.1.1 aj);have c3:=zAB hM.op (i:=3) (v:=.string o.atK) rfl;have d:=zh (And.intro hM X);have ar:=zh an;have av:(o.kind==6)=true:=by rw[U.o];rfl
  have au:o.kind=6:=U.o;have aw:(o.kind != 6)=false:=by rw[U.o];rfl
  clear hM X aj an;go_wp2_with fail;refine HT.o.mono ?_;rintro e W5 ⟨rfl,ag,aa⟩;have D:∀k,c k=none→k<wc.heap.size→W5.heap[k]?=wc.heap[k]?:=fun k h1 M=>aa.block k M fun Z=>Z h1;have ab:=(D _ d.o.1.n1 (zAA d.o.1.op)).trans d.o.1.op;have hz:=(D _ d.o.1.n2 (zAA d.o.1.z)).trans d.o.1.z;have hq:=(D _ d.o.1.n3 (zAA d.o.1.rq)).trans d.o.1.rq;have c0:=zAB ab (i:=0) (v:=.int .i64 o.kind) rfl;have F:=zh (And.intro ab (And.intro hz (And.intro hq (And.intro ag (d.o.1.chg.trans aa fun i hi e=>by rw[←d.o.1.old i hi];exact e)))));clear c3 D ab hz hq ag aa;go_wp2_with (first
   | (refine zA1 rfl 48 (.tmp 9) rfl q rfl (L:=zC6 x i) F.o.2.2.1 underlying48 rfl (by kernel_rfl) ?_)
   | (refine zAg rfl 48 (.tmp 4) (.tmp 49) rfl w2.heap.size rfl (L:=zC6 x i) rfl F.o.2.1 rfl (by kernel_rfl) (zBA _ _) ?_;intro w9 hn r;have HZ:=zh (And.intro hn r);clear hn r))
  refine bodyPost_ret (zAS (p:=4) (u:=5) rfl _ _ w2.heap.size _ _ (0,0) _ rfl HZ.o.1 underlying48 rfl (by kernel_rfl)) rfl ?_;refine⟨x,i,zDe T (nm o.atK),c,rfl,?_,d.o.1.old,F.o.2.2.2.2.trans HZ.o.2 fun i hi e=>by have:=d.o.1.d1;omega⟩;exact F.o.2.2.2.1.keep (w':=w9) (fun k C=>HZ.o.2.block k (F.o.2.2.2.1.oLt k C) fun e=>by rw[e]at C;exact C d.o.1.n2) HZ.o.2.size
theorem ate0 (n:Bs)(r:VRep):(AtE E0 n r).vs=[(n,r)]∧(AtE E0 n r).ss=[]:=by
 unfold AtE;rw[if_pos (show zBS n E0.vs=none from rfl)];exact⟨rfl,rfl⟩
theorem kindR_atz {w w':World}{d vm j k c:Nat}{own:Nat→Option (Nat×Bs)}{n:Bs}{x i:Int}{e:Ending}(h:AtZ w d vm j k c E0 own n (RepV x i) e w'):KindR w d vm j k c E0 own e w':=by
 obtain⟨r,b,rfl,t,o,m,s,q⟩:=h;refine⟨x,i,_,b,rfl,?_,(ate0 n r).2,m,s,q⟩;intro p f;rw[(ate0 n r).1,List.mem_singleton]at f;rw[f]
 show r.V.length≤_
 rw[o]
 decide
theorem kindR_same {w w':World}{d vm f j c:Nat}{own:Nat→Option (Nat×Bs)}(h:zAI w d vm f j c E0 own){x i:Int}{e:Ending}(m:e=.returned (RepV x i))(b:Below w.heap.size w w'):KindR w d vm f j c E0 own e w' :=
 ⟨x,i,E0,own,m,(fun _ o=>by cases o),rfl,h.keep (fun k n=>b.block k (h.oLt k n)) b.size,fun _ _=>rfl,(Chg.of_below b).mono fun _ _ e=>e.elim⟩
def AppZ (w:World)(c vm d f b:Nat)(own:Nat→Option (Nat×Bs))(e:Ending)(w':World):Prop :=
 ∃x i k E2 own',e=.returned (.tuple #[.agg (zC6 x i).toArray,.bool k])∧zAI w' c vm d f b E2 own'∧(∀k,k<w.heap.size→own' k=own k)∧Chg (fun k=>own k≠none) w w'
theorem appZ_known {w w':World}{d vm f j c:Nat}{own:Nat→Option (Nat×Bs)}(h:zAI w d vm f j c E0 own){x i:Int}{e:Ending}(m:e=.returned (.tuple #[.agg (zC6 x i).toArray,.bool false]))(b:Below w.heap.size w w'):AppZ w d vm f j c own e w' :=
 ⟨x,i,false,E0,own,m,h.keep (fun k n=>b.block k (h.oLt k n)) b.size,fun _ _=>rfl,(Chg.of_below b).mono fun _ _ e=>e.elim⟩
theorem cnt_facts {o:OpM}(h:o.cnt=true):(0≤o.item∧o.item<4)∧(1≤o.count∧o.count≤1048576):=by
 unfold OpM.cnt at h;simp at h;omega
theorem may_facts {o:OpM}(h:o.may=true):zEf o.atW=true∧(1≤o.atW.size∧o.atW.size≤16)∧o.names=true:=by
 unfold OpM.may zDs at h;simp at h;refine⟨?_,by omega,h.2⟩;unfold zEf;simp;omega
theorem putM_len (b:ByteArray)(x:It):((putM [] b x).1).length≤1:=by
 unfold putM laysM
 split
 ·split
  ·split
   ·exact Nat.zero_le _
   ·exact Nat.le_refl _
  ·exact Nat.zero_le _
 ·exact Nat.zero_le _
theorem kput_one (n:Bs)(r b:VRep):zDv n b [(n,r)]=[(n,b)]:=by
 simp[zDv,kdel,kins]
theorem kindR_mint {w w':World}{d vm i j c:Nat}{own:Nat→Option (Nat×Bs)}{o:OpM}{e:Ending}(h:MintR w d vm i j c E0 own o e w'):KindR w d vm i j c E0 own e w':=by
 obtain⟨r,b,rfl,s,m,k,q,n⟩:=h;refine⟨_,0,_,b,rfl,?_,?_,k,q,n⟩
 rotate_left
 ·exact(ate0 (nm o.atK) r).2
 intro p f;rw[(ate0 _ r).1,kput_one,List.mem_singleton]at f;rw[f]
 show(putM r.V o.atW (It.one o.item o.count)).1.length≤_
 rw[m rfl];exact Nat.le_trans (putM_len _ _) (by decide)
theorem kindR_arr {w w':World}{d vm i j c:Nat}{own:Nat→Option (Nat×Bs)}{o:OpM}{e:Ending}(h:ArrR w d vm i j c E0 own o e w'):KindR w d vm i j c E0 own e w':=by
 obtain⟨r,b,rfl,s,m,k,q,n⟩:=h;refine⟨0,0,_,b,rfl,?_,?_,k,q,n⟩
 rotate_left
 ·exact(ate0 (nm o.atK) r).2
 intro p f;rw[(ate0 _ r).1,kput_one,List.mem_singleton]at f;rw[f]
 show(putM r.V o.atW (It.one o.item o.count)).1.length≤_
 rw[m rfl];exact Nat.le_trans (putM_len _ _) (by decide)
theorem applyz_calls {w:World}{m vm t v s:Nat}{own:Nat→Option (Nat×Bs)}(h:zAI w m vm t v s E0 own)(o:OpM)(d:o.wf) :
  Calls prog 45 #[.pointer (some ⟨m,0,none⟩),.agg (OpL o).toArray] w (AppZ w m vm t v s own):=by
 have j:([]:List (Bs×VRep)).length<maxLen:=by decide
 cases y:o.may with
 | false=>exact(applyknown_calls h o 1 0 fun W b=>peekno_calls b o d y).mono fun e w' c=>appZ_known h c.1 c.2
 | true =>
  have C:=may_facts y;have hn:=C.2.2;have z:∀W,zAI W m vm t v s E0 own→o.kind≠6∧o.kind≠7→Calls prog 41 #[.pointer (some ⟨m,0,none⟩),.agg (OpL o).toArray] W fun e w'=>e=.returned (.tuple #[.agg zAa.toArray,.bool false])∧Below W.heap.size W w':=fun W b F=>zCl b o d y F rfl;have f:∀{fk:Nat},((o.kind=1∧fk=100)∨(o.kind=2∧fk=101)∨(o.kind=3∧fk=102)∨(o.kind=4∧fk=103)∨(o.kind=5∧fk=104))→o.kind≠6∧o.kind≠7→(∀W,zAI W m vm t v s E0 own→Calls prog fk #[.pointer (some ⟨m,0,none⟩),.agg (OpL o).toArray] W (KindR W m vm t v s E0 own))→Calls prog 45 #[.pointer (some ⟨m,0,none⟩),.agg (OpL o).toArray] w (AppZ w m vm t v s own):=fun {fk} a h2 h3 =>
   (applyk_calls h o d fk a (fun W b=>z W b h2) h3 (by decide)).mono fun e w' ⟨x,i,A,k,c,B,q,p⟩=>⟨x,i,true,A,k,c,B,q,p⟩
  unfold OpM.names at hn
  by_cases k1:o.kind=1
  ·exact f (.inl ⟨k1,rfl⟩) (by omega) fun W b=>(mint_calls b o d j fun r D=>by cases D).mono fun e w' c=>kindR_mint c
  by_cases E:o.kind=6
  ·exact(applya_calls h o d E (fun W b=>peek6_calls b o d y E rfl rfl) fun W b=>(arrive_calls b o d j (by decide) fun r D=>by cases D).mono fun e w' c=>kindR_arr c).mono fun e w' ⟨x,i,A,k,c,B,q,p⟩=>⟨x,i,true,A,k,c,B,q,p⟩
  by_cases k2:o.kind=2
  ·rw[if_neg (by omega),if_pos k2]at hn;simp only[Bool.and_eq_true]at hn;have p:=cnt_facts hn.1.1.1.2;have a:=holds_one (n:=o.count) p.1 ⟨p.2.1,by omega⟩;exact f (.inr (.inl ⟨k2,rfl⟩)) (by omega) fun W b=>(sendz_calls b o d j rfl C.1 a.1 a.2).mono fun e w' c=>kindR_atz c
  by_cases k3:o.kind=3
  ·rw[if_neg (by omega),if_neg k2,if_pos k3]at hn;simp only[Bool.and_eq_true,decide_eq_true_eq]at hn;have p:=cnt_facts hn.1.1.2;exact f (.inr (.inr (.inl ⟨k3,rfl⟩))) (by omega) fun W b=>(ordz_calls b o d j rfl C.2.1 ⟨hn.1.1.1.1.1,p.1.2⟩ p.2 ⟨hn.1.1.1.1.2,hn.1.1.1.2⟩).mono fun e w' c=>kindR_atz c
  by_cases k4:o.kind=4
  ·exact f (.inr (.inr (.inr (.inl ⟨k4,rfl⟩)))) (by omega) fun W b=>(canz_calls b o d j rfl).mono fun e w' c=>kindR_atz c
  by_cases G:o.kind=5
  ·exact f (.inr (.inr (.inr (.inr ⟨G,rfl⟩)))) (by omega) fun W b=>(lookz_calls b o d rfl).mono fun e w' c=>kindR_same b c.1 c.2
  by_cases H:o.kind=7
  ·exact(applyknown_calls h o 0 0 fun W b=>peek7_calls b o d y H rfl rfl).mono fun e w' c=>appZ_known h c.1 c.2
  ·rw[if_neg (by omega),if_neg k2,if_neg k3,if_neg k4,if_neg (by omega)]at hn;cases hn
theorem zEG {w:World}{z d l:Nat}{h:zAj}{dead:Bool}(b:w.heap[z]?=some (zBR h d l (.slice none 0 0) dead)) :
  Calls prog 17 #[.pointer (some ⟨z,0,none⟩)] w fun e w'=>e=.returned (.slice none 0 0)∧Chg (fun k=>k=z) w w':=by
 have f:=zAB b (i:=7) (v:=.slice none 0 0) rfl;have j:=zAE b 7;have c:=zh (Chg.setCell w ⟨z,7,none⟩ (.slice none 0 0));clear b
 go_enter func17,ntmps17
 go_wp2_with fail;go_ret;exact⟨rfl,c.o⟩
theorem donew_calls {w w1:World}{z d P l vm sm tm am:Nat}{h:zAj}{Q:ByteArray}{D D2:zAD}{M M2:zAl}{n2:Nat}{own:Nat→Option (Nat×Bs)}{F:Nat→Prop}(hS:DoS w w1 z d P l vm sm tm am h Q D M E0 own (.slice none 0 0) F NoF w1)
  (aN:h.state=1) (G:h.fr.size≤16∧h.tu.size≤16) (o:OpM) (aH:zDr h.fr h.tu o.atK=true) (ho:o.wf) (aO:o.toK.size≤1099511627776∧o.toW.size≤1099511627776) (hm:o.may=true)
  (hP:∀W,zAI W P vm sm tm am E0 own→Calls prog 41 #[.pointer (some ⟨P,0,none⟩),.agg (OpL o).toArray] W fun e w'=>e=.returned (.tuple #[.agg zAa.toArray,.bool false])∧Below W.heap.size W w')
  (af:zAV (nm Q) D M o.enc=⟨D2,M2,n2,0⟩) (ai:o.enc.length≤140737488355328) (aI:M2.last<M2.base+16) :
  Calls prog 14 #[.pointer (some ⟨z,0,none⟩),.agg (OpL o).toArray] w1 fun e w'=>∃x i Y A ev',e=.returned (.tuple #[.agg (zC6 x i).toArray,.int .i64 0])∧DoS w w1 z d P l vm sm tm am h Q D2 M2 Y A ev' F NoF w':=by
 have Hm:=zh (fun W=>zBK W o ho);rw[hm]at Hm;have aA:=zh (fun W=>zCd W h.fr h.tu o.atK (by omega) (by omega) (by have:=ho.2.1.1;unfold zCo maxLen at this;omega));rw[aH]at aA;have HP:=zh hP;have HA:=zh (fun(W:World) (hW:zAI W P vm sm tm am E0 own)=>applyz_calls hW o ho);have aU:=zh (fun W=>zEO W o ho hm aO);have H:=zh hS;have Hx:=zh (And.intro aN (And.intro af (And.intro ai aI)));clear aH aO hP af ai aI aN hS hm ho G;obtain⟨i5,aG,aj,ak,al⟩:=info_parts (show(prog.info? 102).map (fun i=>(i.zero,i.size,i.bytes))=some (some (.agg #[.int .i64 0,.int .i64 0,.int .i64 0,.int .i64 0,.int .i64 0,.string ⟨#[]⟩,.string ⟨#[]⟩,.string ⟨#[]⟩,.string ⟨#[]⟩,.int .i64 0,.int .i64 0,.int .i64 0,.bool false,.int .i64 0]),14,144) by kernel_rfl);have ab:=zh (And.intro aG (And.intro aj (And.intro ak al)));clear aG aj ak al
 go_enter func14,ntmps14
 go_upto_region 7 with(first
  | (refine bbox rfl 25 (.tmp 1) rfl (L:=OpL o) rfl ?_;intro R aJ aD aM;have H2:=zh (And.intro aJ (And.intro aD aM));clear aJ aD aM)
  | (refine zAe rfl 48 rfl (zeroValue48 _) (by decide) ?_;intro w3 aK aq aY;have H3:=zW (DoK w w1 z d P l vm sm tm am h Q D M E0 own (.slice none 0 0) F (fun k=>k=w1.heap.size∨k=R.heap.size) o w1.heap.size R.heap.size w3) (⟨H.o.add (H2.o.2.1.trans (aq.mono H2.o.2.1.size)) (fun k r=>.inr (by have:=H2.o.2.2;omega)),(aq.block _ (zAA H2.o.1)).trans H2.o.1,aK,.inl rfl,.inr rfl⟩);have bd:=zh H2.o.2.2;clear aK aq aY H2;have c8:=zAB H3.o.s.zon (i:=8) (v:=.bool false) rfl;have c4:=zAB H3.o.s.zon (i:=4) (v:=.int .i64 1) (by show some (Value.int .i64 h.state)=_;rw[Hx.o.1])))
 refine ost (fun w':World=>w'.heap[w1.heap.size]?=some (.cells (OpL o).toArray 25 (0,0))∧w'.heap[z]?=some (zBR h P l (.slice none 0 0) false)) 15 ⟨H3.o.op,H3.o.s.zon⟩ fun b=>?_;have H4:=zh H3.o.drew;clear c8 c4;generalize w3.drew=w4 at *;refine Pl [0] ?_;refine Pd rfl (by intro w' t;exact zBr 25 (.tmp 3) rfl rfl t.1 underlying25 rfl (by kernel_rfl)) ?_;simp only[uZ];refine Pn ?_;refine oon 1 rfl fun K c=>?_;go_wp2_with fail;refine(Hm.o _).mono ?_;rintro e w5 ⟨rfl,m⟩;have H5:=zh (H4.o.next m);clear m b;go_wp2_with fail;refine c.o _ _ ⟨H5.o.op,H5.o.s.zon⟩ fun b=>?_;clear c
 try simp only[uZ]
 refine Pl [2,3,4,5,6,7,8,9,10] ?_
 iterate 9 (refine Pd rfl (by intro w' t;have c3:=zAB t.1 (i:=3) (v:=.string o.atK) rfl;have p1:=zAB t.2 (i:=1) (v:=.string h.fr) rfl;have p2:=zAB t.2 (i:=2) (v:=.string h.tu) rfl;go_simp;try with_reducible rfl) ?_;simp only[uZ])
 refine Pn ?_;refine oon 11 rfl fun K c=>?_;go_wp2_with fail;refine(aA.o _).mono ?_;rintro e w6 ⟨rfl,m⟩;have H6:=zh (H5.o.next m);clear m b;go_wp2_with fail;refine c.o _ _ ⟨H6.o.op,H6.o.s.zon⟩ fun b=>?_;clear c
 try simp only[uZ]
 refine Pl [12,13,14] ?_
 iterate 3 (refine Pc rfl ?_;simp only[uZ])
 refine Pn ?_;clear b;refine odn ?_
 go_upto_region 9 with(fail)
 have H7:=H6
 try simp only[uZ]
 go_cut [7] (fun s7 wx=>s7=.bool false∧DoK w w1 z d P l vm sm tm am h Q D M E0 own (.slice none 0 0) F (fun k=>k=w1.heap.size∨k=R.heap.size) o w1.heap.size R.heap.size wx)
 case first =>
  refine ost (fun w':World=>w'.heap[w1.heap.size]?=some (.cells (OpL o).toArray 25 (0,0))∧w'.heap[z]?=some (zBR h P l (.slice none 0 0) false)) 12 ⟨H7.o.op,H7.o.s.zon⟩ fun b=>?_;have H8:=zh H7.o.drew;clear H7;generalize w6.drew=I at *;refine Pl [0,1,2,3,4] ?_
  iterate 5 (refine Pd rfl (by intro w' t;first|exact zBr 25 (.tmp 3) rfl rfl t.1 underlying25 rfl (by kernel_rfl)|(have c5:=zAB t.2 (i:=5) (v:=.pointer (some ⟨P,0,none⟩)) rfl;go_simp;try with_reducible rfl)) ?_;simp only[uZ])
  refine Pn ?_;refine zBb 5 9 rfl rfl (by kernel_rfl) (by rfl) (by rfl) (fun K c=>?_) (fun K c=>?_)
  ·clear b;go_wp2_with fail;refine(HP.o _ H8.o.s.eco).mono ?_;rintro e w9 ⟨rfl,m⟩;have H9:=zh (H8.o.next m);clear m;go_wp2_with fail;refine c.o _ _ ⟨H9.o.op,H9.o.s.zon⟩ fun b=>?_;clear c
   try simp only[uZ]
   refine Pl [6,7,8] ?_
   iterate 3 (refine Pc rfl ?_;simp only[uZ])
   refine Pn ?_;refine oon 9 rfl fun K c=>?_;refine zAo 48 rfl (zeroValue48 _) (by decide) ?_;intro aR hn m G;have S:=zh (H9.o.next m);have ap:=zh hn;have aw:=zW (Below w9.heap.size w9 aR) m;have aV:=zW (w.heap.size≤w9.heap.size) H9.o.s.led.bel.size;clear hn m b;refine c.o _ _ ⟨S.o.op,S.o.s.zon⟩ fun b=>?_;clear c
   try simp only[uZ]
   refine oon 10 rfl fun K c=>?_;refine zAi 48 (.tmp 6) (.tmp 56) rfl w9.heap.size rfl (L:=zAa) rfl ap.o rfl (by kernel_rfl) zA8 ?_;intro bb hn C;have J:=zh (H9.o.next (zAY (w:=w9) aw.o C (Nat.le_refl _)));clear hn C b;refine c.o _ _ ⟨J.o.op,J.o.s.zon⟩ fun b=>?_;clear c
   try simp only[uZ]
   refine Pl [11] ?_
   iterate 1 (refine Pc rfl ?_;simp only[uZ])
   refine Pn ?_;clear b;refine odn ?_;go_wp2_with fail
   go_meet
   exact⟨rfl,J.o⟩
  ·refine zAo 48 rfl (zeroValue48 _) (by decide) ?_;intro w9 hn m G;have H9:=zh (H8.o.next m);have aa:=zh (And.intro hn m);clear hn m b;refine c.o _ _ ⟨H9.o.op,H9.o.s.zon⟩ fun b=>?_;clear c
   try simp only[uZ]
   refine oon 5 rfl fun K c=>?_;clear b;go_wp2_with fail;refine(HP.o _ H9.o.s.eco).mono ?_;rintro e aR ⟨rfl,m⟩;have S:=zh (H9.o.next m);have ad:=zh (And.intro ((m.block _ (zAA aa.o.1)).trans aa.o.1) (aa.o.2.trans (m.mono aa.o.2.size)));clear m;go_wp2_with fail;refine c.o _ _ ⟨S.o.op,S.o.s.zon⟩ fun b=>?_;clear c
   try simp only[uZ]
   refine Pl [6,7,8] ?_
   iterate 3 (refine Pc rfl ?_;simp only[uZ])
   refine Pn ?_;refine oon 10 rfl fun K c=>?_;refine zAi 48 (.tmp 6) (.tmp 56) rfl I.heap.size rfl (L:=zAa) rfl ad.o.1 rfl (by kernel_rfl) zA8 ?_;intro bb hn C;have J:=zh (H8.o.next (zAY (w:=I) ad.o.2 C (Nat.le_refl _)));clear hn C b;refine c.o _ _ ⟨J.o.op,J.o.s.zon⟩ fun b=>?_;clear c
   try simp only[uZ]
   refine Pl [11] ?_
   iterate 1 (refine Pc rfl ?_;simp only[uZ])
   refine Pn ?_;clear b;refine odn ?_;go_wp2_with fail
   go_meet
   exact⟨rfl,J.o⟩
 case rest =>
  obtain⟨rfl,hD⟩:=hcut;have H8:=zh hD;clear hD H7;go_wp2_with (refine zA1 rfl 25 (.tmp 3) rfl w1.heap.size rfl (L:=OpL o) H8.o.op underlying25 rfl (by kernel_rfl) ?_)
  refine(aU.o _).mono ?_;rintro e bf ⟨v,rfl,hv,aP,m⟩;have an:=zh (H8.o.add (G':=fun k=>(k=w1.heap.size∨k=R.heap.size)∨v.ownBlock=some k) m (fun k r=>r.imp id fun e=>⟨aP k e,OwnR.lt hv e⟩) fun k r=>.inl r);obtain⟨pv,cv,rfl,-⟩:=zAN hv;have Hv:=zh hv;clear hv aP m H8;have az:=zh (zDX an.o.s.led (fun W _ hs=>has_own Hv.o fun k r=>hs k (.inr (.inr (.inr (.inr (.inr r)))))) Hx.o.2.2.1);rw[Hx.o.2.1]at az;have c6:=zAB an.o.s.zon (i:=6) (v:=.pointer (some ⟨l,0,none⟩)) rfl;go_wp2_with fail;refine az.o.mono ?_;rintro e bg ⟨rfl,hL,hs⟩;have ax:=zh (an.o.wrote hL hs);clear hL hs c6;have aT:=zh (zEQ ax.o.s);go_wp2_with fail;refine aT.o.mono ?_;rintro e bc ⟨rfl,aC,C⟩;have ao:=zh (ax.o.set C aC.zon fun k r=>.inl r);clear C aC
  go_upto_region 16 with(fail)
  try simp only[uZ]
  go_cut [12] (fun ba wx=>∃q x i Y A,ba=.pointer (some ⟨q,0,none⟩)∧wx.heap[q]?=some (.cells (zC6 x i).toArray 48 (0,0))∧True∧DoK w w1 z d P l vm sm tm am h Q D2 M2 Y A (.slice none 0 0) F (fun k=>((k=w1.heap.size∨k=R.heap.size)∨(Value.slice pv o.enc.length cv).ownBlock=some k)∨k=q) o w1.heap.size R.heap.size wx)
  case first =>
   refine ost (fun w':World=>w'.heap[w1.heap.size]?=some (.cells (OpL o).toArray 25 (0,0))∧w'.heap[z]?=some (zBR h P l (.slice none 0 0) false)) 12 ⟨ao.o.op,ao.o.s.zon⟩ fun b=>?_;have B:=zh ao.o.drew;generalize bc.drew=I at *;refine Pl [0,1,2,3,4] ?_
   iterate 5 (refine Pd rfl (by intro w' t;first|exact zBr 25 (.tmp 3) rfl rfl t.1 underlying25 rfl (by kernel_rfl)|(have c5:=zAB t.2 (i:=5) (v:=.pointer (some ⟨P,0,none⟩)) rfl;go_simp;try with_reducible rfl)) ?_;simp only[uZ])
   refine Pn ?_;refine zBb 5 9 rfl rfl (by kernel_rfl) (by rfl) (by rfl) (fun K c=>?_) (fun K c=>?_)
   ·clear b;go_wp2_with fail;refine(HA.o _ B.o.s.eco).mono ?_;rintro e X ⟨x,i,kk,Y,A,rfl,hE,V,C⟩;have E:=True.intro;have f:=zh (And.intro E (B.o.turn hE C V));clear E hE V C;go_wp2_with fail;refine c.o _ _ ⟨f.o.2.op,f.o.2.s.zon⟩ fun b=>?_;clear c
    try simp only[uZ]
    refine Pl [6,7,8] ?_
    iterate 3 (refine Pc rfl ?_;simp only[uZ])
    refine Pn ?_;refine oon 9 rfl fun K c=>?_;refine zAo 48 rfl (zeroValue48 _) (by decide) ?_;intro av hn m G;have ae:=zh (And.intro hn m);have j:=zh (f.o.2.next m);have aZ:=zh G;clear hn m b G;refine c.o _ _ ⟨j.o.op,j.o.s.zon⟩ fun b=>?_;clear c
    try simp only[uZ]
    refine oon 10 rfl fun K c=>?_;refine zAi 48 (.tmp 12) (.tmp 87) rfl X.heap.size rfl (L:=zC6 x i) rfl ae.o.1 rfl (by kernel_rfl) (zBA _ _) ?_;intro aS hn C;have y:=zh (And.intro hn (f.o.2.add (G':=fun k=>((k=w1.heap.size∨k=R.heap.size)∨(Value.slice pv o.enc.length cv).ownBlock=some k)∨k=X.heap.size) (zAY (w:=X) ae.o.2 C (Nat.le_refl _)) (fun k r=>r.imp id fun e=>⟨by omega,by have:=zAA hn;omega⟩) fun k r=>.inl r));clear hn C b;refine c.o _ _ ⟨y.o.2.op,y.o.2.s.zon⟩ fun b=>?_;clear c
    try simp only[uZ]
    refine Pl [11] ?_
    iterate 1 (refine Pc rfl ?_;simp only[uZ])
    refine Pn ?_;clear b;refine odn ?_;go_wp2_with fail
    go_meet
    exact⟨X.heap.size,x,i,Y,A,rfl,y.o.1,f.o.1,y.o.2⟩
   ·refine zAo 48 rfl (zeroValue48 _) (by decide) ?_;intro X hn m G;have f:=zh (And.intro hn (B.o.add (G':=fun k=>((k=w1.heap.size∨k=R.heap.size)∨(Value.slice pv o.enc.length cv).ownBlock=some k)∨k=I.heap.size) m (fun k r=>r.imp id fun e=>⟨by omega,by omega⟩) fun k r=>.inl r));have aB:=zh (And.intro (zAA B.o.op) (zAA B.o.rep));clear hn m b G;refine c.o _ _ ⟨f.o.2.op,f.o.2.s.zon⟩ fun b=>?_;clear c
    try simp only[uZ]
    refine oon 5 rfl fun K c=>?_;clear b;go_wp2_with fail;refine(HA.o _ f.o.2.s.eco).mono ?_;rintro e av ⟨x,i,kk,Y,A,rfl,hE,V,C⟩;have E:=True.intro;have j:=zh (And.intro E (And.intro (f.o.2.turn hE C V) ((C.block _ (zAA f.o.1) fun hh=>hh (f.o.2.s.gz _ (.inr rfl)).2.1).trans f.o.1)));clear E hE V C;go_wp2_with fail;refine c.o _ _ ⟨j.o.2.1.op,j.o.2.1.s.zon⟩ fun b=>?_;clear c
    try simp only[uZ]
    refine Pl [6,7,8] ?_
    iterate 3 (refine Pc rfl ?_;simp only[uZ])
    refine Pn ?_;refine oon 10 rfl fun K c=>?_;refine zAi 48 (.tmp 12) (.tmp 87) rfl I.heap.size rfl (L:=zC6 x i) rfl j.o.2.2 rfl (by kernel_rfl) (zBA _ _) ?_;intro aS hn C;have y:=zh (And.intro hn (j.o.2.1.hit C (.inr rfl) (by have:=aB.o.1;omega) (by have:=aB.o.2;omega)));clear hn C b;refine c.o _ _ ⟨y.o.2.op,y.o.2.s.zon⟩ fun b=>?_;clear c
    try simp only[uZ]
    refine Pl [11] ?_
    iterate 1 (refine Pc rfl ?_;simp only[uZ])
    refine Pn ?_;clear b;refine odn ?_;go_wp2_with fail
    go_meet
    exact⟨I.heap.size,x,i,Y,A,rfl,y.o.1,j.o.1,y.o.2⟩
  case rest =>
   obtain⟨q,x,i,Y,A,rfl,hq,E,hD⟩:=hcut;have B:=zh (And.intro hq (And.intro E hD));clear hq E hD
   go_upto_region 17 with(fail)
   have ah:=zAB B.o.2.2.s.zon (i:=7) (v:=.slice none 0 0) rfl;have ag:=zAB B.o.2.2.s.zon (i:=0) (v:=.int .i64 h.id) rfl;refine g_start [17] (fun w':World=>w'.heap[w1.heap.size]?=some (.cells (OpL o).toArray 25 (0,0))∧w'.cell? ⟨z,7,none⟩=some (.slice none 0 0)∧w'.cell? ⟨z,0,none⟩=some (.int .i64 h.id)) (n:=18) (by kernel_rfl) rfl ⟨B.o.2.2.op,ah,ag⟩ fun b=>?_;clear ah ag;have f:=zW (wc.drew.heap[q]?=some (.cells (zC6 x i).toArray 48 (0,0))∧_) (And.intro B.o.1 B.o.2.2.drew);have be:=zh B.o.2.1;clear B;generalize wc.drew=I at *;refine Gl [0,1,2,3,5,6,7,8,10] ?_
   iterate 9 (refine Gp rfl ?_;simp only[uZ])
   refine Gn ?_;refine Gl [4,9,11] ?_
   iterate 3 (refine Gd rfl (by intro w' t;first|exact zBr 25 (.tmp 3) rfl rfl t.1 underlying25 rfl (by kernel_rfl)|(have c7:=t.2.1;have c0:=t.2.2;go_simp;try with_reducible rfl)) ?_;simp only[uZ])
   refine Gn ?_;refine Gl [12] ?_;refine Gd (v:=.agg #[.int .i64 h.id,.int .i64 (n2:Int),.int .i64 o.kind,.int .i64 o.client,.int .i64 o.seq,.string o.atK,.string o.atW,.string o.toK,.string o.toW,.int .i64 o.item,.int .i64 o.count,.int .i64 o.price,.bool o.buy,.int .i64 o.id]) rfl (by intro w' t;kernel_rfl) ?_;simp only[uZ];refine Gn ?_;refine g_one 13 rfl (by kernel_rfl) (by rfl) (fun K c=>?_);go_wp2_with fail;have au:=zBN I (.cells #[.int .i64 h.id,.int .i64 (n2:Int),.int .i64 o.kind,.int .i64 o.client,.int .i64 o.seq,.string o.atK,.string o.atW,.string o.toK,.string o.toW,.int .i64 o.item,.int .i64 o.count,.int .i64 o.price,.bool o.buy,.int .i64 o.id] 102);refine c.o _ _ ⟨(au.block _ (zAA b.1)).trans b.1,zAP b.2.1 _,zAP b.2.2 _⟩ fun b=>?_;clear c;have HX:=zh (And.intro au (zAF I (.cells #[.int .i64 h.id,.int .i64 (n2:Int),.int .i64 o.kind,.int .i64 o.client,.int .i64 o.seq,.string o.atK,.string o.atW,.string o.toK,.string o.toW,.int .i64 o.item,.int .i64 o.count,.int .i64 o.price,.bool o.buy,.int .i64 o.id] 102)));clear au;generalize I.alloc (.cells #[.int .i64 h.id,.int .i64 (n2:Int),.int .i64 o.kind,.int .i64 o.client,.int .i64 o.seq,.string o.atK,.string o.atW,.string o.toK,.string o.toW,.int .i64 o.item,.int .i64 o.count,.int .i64 o.price,.bool o.buy,.int .i64 o.id] 102)=av at *
   try simp only[uZ]
   refine g_one 14 rfl (by kernel_rfl) (by rfl) (fun K c=>?_);have aQ:zBH av 14 (.slice (some ⟨I.heap.size,0,none⟩) 1 1) 1 [.int .i64 h.id,.int .i64 (n2:Int),.int .i64 o.kind,.int .i64 o.client,.int .i64 o.seq,.string o.atK,.string o.atW,.string o.toK,.string o.toW,.int .i64 o.item,.int .i64 o.count,.int .i64 o.price,.bool o.buy,.int .i64 o.id]:=⟨rfl,some ⟨I.heap.size,0,none⟩,1,rfl,fun e=>(by cases e),fun a ha i u hu=>by
    cases ha;rw[add_zero];refine zAB HX.o.2 ?_;simpa using hu⟩
   refine zCg (.tmp 93) (.tmp 102) 54 rfl 102 i5 (.agg #[.int .i64 0,.int .i64 0,.int .i64 0,.int .i64 0,.int .i64 0,.string ⟨#[]⟩,.string ⟨#[]⟩,.string ⟨#[]⟩,.string ⟨#[]⟩,.int .i64 0,.int .i64 0,.int .i64 0,.bool false,.int .i64 0]) 14 144 underlying54 ab.o.1 ab.o.2.1 ab.o.2.2.1 ab.o.2.2.2 rfl (by decide) (.slice none 0 0) 0 [] rfl (OwnR.nil _ _ _) (.slice (some ⟨I.heap.size,0,none⟩) 1 1) 1 _ rfl aQ (by intro v hv;simp only[List.mem_cons,List.not_mem_nil,or_false]at hv;rcases hv with rfl|rfl|rfl|rfl|rfl|rfl|rfl|rfl|rfl|rfl|rfl|rfl|rfl|rfl<;>rfl) (by decide) (by decide) ?_;intro v3 w3 N O T;have ar:Below I.heap.size I w3:=HX.o.1.trans ((Chg.of_grown O).below HX.o.1.size fun k r e=>by cases e);have U:∀k,v3.ownBlock=some k→I.heap.size≤k∧k<w3.heap.size:=fun k r=>⟨by
    rcases T with e|⟨g,e,hg⟩
    ·rw[e]at r;cases r
    ·rw[e]at r;cases r;exact Nat.le_trans HX.o.1.size hg,OwnR.lt N r⟩
   obtain⟨p3,q3,rfl⟩:=OwnR.shape N;have j:=zh (And.intro ((ar.block _ (zAA f.o.1)).trans f.o.1) (f.o.2.add (G':=fun k=>(((k=w1.heap.size∨k=R.heap.size)∨(Value.slice pv o.enc.length cv).ownBlock=some k)∨k=q)∨(Value.slice p3 (0+1) q3).ownBlock=some k) ar (fun k r=>r.imp id fun e=>U k e) fun k r=>.inl r));have HG:=zh (fun k (r:((k=w1.heap.size∨k=R.heap.size)∨(Value.slice pv o.enc.length cv).ownBlock=some k)∨k=q) (e:(Value.slice p3 (0+1) q3).ownBlock=some k)=>(by have h1:=(U k e).1;have h2:=f.o.2.s.flt (.inr (.inr (.inr (.inr r))));omega:False));have ac:=j.o.2.s.zon;have aF:=zAB ac (i:=7) (v:=.slice none 0 0) rfl;have aE:=zAB ac (i:=0) (v:=.int .i64 h.id) rfl;have aX:=zAE ac 7;clear aQ N O T ar U ac f b;refine c.o _ _ ⟨j.o.2.op,aF,aE⟩ fun b=>?_;clear c
   try simp only[uZ]
   refine Gl [15,16] ?_
   iterate 2 (refine Gp rfl ?_;simp only[uZ])
   refine Gn ?_;clear b;refine g_end 17 rfl (by kernel_rfl) (by rfl) (by kernel_rfl) (fun K c=>?_);go_wp2_with fail;refine c.o _ _ ?_;clear c
   try simp only[uZ]
   have aL:q≠z:=(j.o.2.s.gz q (.inl (.inr rfl))).1;have y:=zh (And.intro (((Chg.setCell w3 ⟨z,7,none⟩ (.slice p3 (0+1) q3)).block q (zAA j.o.1) aL).trans j.o.1) (j.o.2.setG (ev':=.slice p3 (0+1) q3) (Chg.setCell w3 ⟨z,7,none⟩ (.slice p3 (0+1) q3)) (zAH j.o.2.s.zon 7 (.slice p3 (0+1) q3)) (fun k r=>.inr r) (fun k r=>⟨.inl r,fun e=>HG.o k r e⟩) (.inl (.inl (.inl rfl))) (.inl (.inl (.inr rfl)))));clear aF aE aX aL;refine g_done (by kernel_rfl) ?_ _;have aW:=zh (zDg y.o.2.s Hx.o.2.2.2);clear j;generalize w3.setCell ⟨z,7,none⟩ (.slice p3 (0+1) q3)=aS at *;go_wp2_with fail;refine aW.o.mono ?_;rintro e bh ⟨rfl,m⟩;have Z:=zh (And.intro ((m.block q (zAA y.o.1)).trans y.o.1) (y.o.2.next m));clear m y;go_wp2_with (first
    | (refine zA1 rfl 48 (.tmp 12) rfl q rfl (L:=zC6 x i) Z.o.1 underlying48 rfl (by kernel_rfl) ?_)
    | (refine zAg rfl 48 (.tmp 4) (.tmp 112) rfl R.heap.size rfl (L:=zC6 x i) rfl Z.o.2.rep rfl (by kernel_rfl) (zBA _ _) ?_;intro bi hn C;have ay:=zh (And.intro hn (Z.o.2.s.hit C Z.o.2.g4));clear hn C))
   refine bodyPost_ret (zAS (p:=4) (u:=5) rfl _ _ R.heap.size _ _ (0,0) _ rfl ay.o.1 underlying48 rfl (by kernel_rfl)) rfl ?_;exact⟨x,i,Y,A,.slice p3 (0+1) q3,rfl,ay.o.2.drop⟩
structure KnB (w1:World)(o:OpM)(b0 b4:Nat)(R:List Value)(W:World):Prop where
 op:W.heap[b0]?=some (.cells (OpL o).toArray 25 (0,0))
 rep:W.heap[b4]?=some (.cells R.toArray 48 (0,0))
 bel:Below w1.heap.size w1 W
 n4:w1.heap.size≤b4
 n0:b0≠b4
section
variable {w1 W W':World} {o:OpM} {b0 b4:Nat} {R:List Value}
theorem KnB.next (h:KnB w1 o b0 b4 R W)(b:Below W.heap.size W W'):KnB w1 o b0 b4 R W' :=
 ⟨(b.block _ (zAA h.op)).trans h.op,(b.block _ (zAA h.rep)).trans h.rep,h.bel.trans (b.mono h.bel.size),h.n4,h.n0⟩
theorem KnB.drew (h:KnB w1 o b0 b4 R W):KnB w1 o b0 b4 R W.drew:=h.next ⟨rfl,rfl,rfl,Nat.le_refl _,fun _ _=>rfl⟩
theorem KnB.zon (h:KnB w1 o b0 b4 R W){z:Nat}{O:Obj}(b:w1.heap[z]?=some O):W.heap[z]?=some O:=(h.bel.block _ (zAA b)).trans b
theorem KnB.eco (h:KnB w1 o b0 b4 R W){c vm f i b:Nat}{E:zBu}{own:Nat→Option (Nat×Bs)}(d:zAI w1 c vm f i b E own):zAI W c vm f i b E own:=d.keep (fun k j=>h.bel.block k (d.oLt k j)) h.bel.size
end
theorem dorange_calls {w1:World}{z M l:Nat}{h:zAj}{ev:Value}(P:w1.heap[z]?=some (zBR h M l ev false))(B:h.state=1)(G:h.fr.size≤16∧h.tu.size≤16)(o:OpM)(E:o.wf)(O:o.may=true)(s:zDr h.fr h.tu o.atK=false) :
  Calls prog 14 #[.pointer (some ⟨z,0,none⟩),.agg (OpL o).toArray] w1 fun e w'=>e=.returned (.tuple #[.agg zAa.toArray,.int .i64 10])∧Below w1.heap.size w1 w':=by
 have J:=zh (fun W=>zBK W o E);rw[O]at J;have m:=zh (fun W=>zCd W h.fr h.tu o.atK (by omega) (by omega) (by have:=E.2.1.1;unfold zCo maxLen at this;omega));rw[s]at m;have k:=zh P;have D:=zh B;clear s B P O E G
 go_enter func14,ntmps14
 go_upto_region 7 with(first
  | (refine bbox rfl 25 (.tmp 1) rfl (L:=OpL o) rfl ?_;intro H t r A;have d:=zh (And.intro t (And.intro r A));clear t r A)
  | (refine zAe rfl 48 rfl (zeroValue48 _) (by decide) ?_;intro w3 y f F;have H3:=zW (KnB w1 o w1.heap.size H.heap.size zAa w3) (⟨(f.block _ (zAA d.o.1)).trans d.o.1,y,d.o.2.1.trans (f.mono d.o.2.1.size),d.o.2.1.size,by have:=d.o.2.2;omega⟩);clear y f F d;have T:=zAB (H3.o.zon k.o) (i:=8) (v:=.bool false) rfl;have S:=zAB (H3.o.zon k.o) (i:=4) (v:=.int .i64 1) (by show some (Value.int .i64 h.state)=_;rw[D.o])))
 refine ost (fun w':World=>w'.heap[w1.heap.size]?=some (.cells (OpL o).toArray 25 (0,0))∧w'.heap[z]?=some (zBR h M l ev false)) 15 ⟨H3.o.op,H3.o.zon k.o⟩ fun b=>?_;have Q:=zh H3.o.drew;generalize w3.drew=X at *;refine Pl [0] ?_;refine Pd rfl (by intro w' c;exact zBr 25 (.tmp 3) rfl rfl c.1 underlying25 rfl (by kernel_rfl)) ?_;simp only[uZ];refine Pn ?_;refine oon 1 rfl fun K n=>?_;go_wp2_with fail;refine(J.o _).mono ?_;rintro e Y ⟨rfl,q⟩;have C:=zh (Q.o.next q);clear q b;go_wp2_with fail;refine n.o _ _ ⟨C.o.op,C.o.zon k.o⟩ fun b=>?_;clear n
 try simp only[uZ]
 refine Pl [2,3,4,5,6,7,8,9,10] ?_
 iterate 9 (refine Pd rfl (by intro w' c;have R:=zAB c.1 (i:=3) (v:=.string o.atK) rfl;have U:=zAB c.2 (i:=1) (v:=.string h.fr) rfl;have V:=zAB c.2 (i:=2) (v:=.string h.tu) rfl;go_simp;try with_reducible rfl) ?_;simp only[uZ])
 refine Pn ?_;refine oon 11 rfl fun K n=>?_;go_wp2_with fail;refine(m.o _).mono ?_;rintro e Z ⟨rfl,q⟩;have j:=zh (C.o.next q);clear q b;go_wp2_with fail;refine n.o _ _ ⟨j.o.op,j.o.zon k.o⟩ fun b=>?_;clear n
 try simp only[uZ]
 refine Pl [12,13,14] ?_
 iterate 3 (refine Pc rfl ?_;simp only[uZ])
 refine Pn ?_;clear b;refine odn ?_;go_wp2_with (first
  | (refine zBY rfl 48 #[] rfl (v:=.agg zAa.toArray) (by kernel_rfl) ?_)
  | (refine zAg rfl 48 (.tmp 4) (.tmp 48) rfl H.heap.size rfl (L:=zAa) rfl j.o.rep rfl (by kernel_rfl) zA8 ?_;intro w7 a N;have I:=zh (And.intro a (zAY j.o.bel N j.o.n4));clear a N))
 refine bodyPost_ret (zAS (p:=4) (u:=5) rfl _ _ H.heap.size _ _ (0,0) _ rfl I.o.1 underlying48 rfl (by kernel_rfl)) rfl ?_;exact⟨rfl,I.o.2⟩
theorem zEb {w1:World}{z B l vm sm tm am:Nat}{E:zBu}{own:Nat→Option (Nat×Bs)}{h:zAj}{ev:Value}(hz:w1.heap[z]?=some (zBR h B l ev false))(hE:zAI w1 B vm sm tm am E own)(S:h.state=1)(G:h.fr.size≤16∧h.tu.size≤16)(o:OpM)(ho:o.wf)(N:o.may=true→zDr h.fr h.tu o.atK=true)(x i:Int)
  (hP:∀W,zAI W B vm sm tm am E own→Calls prog 41 #[.pointer (some ⟨B,0,none⟩),.agg (OpL o).toArray] W fun e w'=>e=.returned (.tuple #[.agg (zC6 x i).toArray,.bool true])∧Below W.heap.size W w') :
  Calls prog 14 #[.pointer (some ⟨z,0,none⟩),.agg (OpL o).toArray] w1 fun e w'=>e=.returned (.tuple #[.agg (zC6 x i).toArray,.int .i64 0])∧Below w1.heap.size w1 w':=by
 have HP:=zh hP;have HE:=zh hE;have U:=zh (fun W=>zBK W o ho);have r:=zh (fun(O:o.may=true)=>(show ∀W,Calls prog 40 #[.agg #[.string h.fr,.string h.tu],.string o.atK] W (RetB true W)from fun W=>by
  have:=zCd W h.fr h.tu o.atK (by omega) (by omega) (by have:=ho.2.1.1;unfold zCo maxLen at this;omega);rw[N O]at this;exact this))
 have m:=zh hz;have Y:=zh S;clear N S hz ho G hP hE
 go_enter func14,ntmps14
 go_upto_region 7 with(first
  | (refine bbox rfl 25 (.tmp 1) rfl (L:=OpL o) rfl ?_;intro H P M R;have D:=zh (And.intro P (And.intro M R));clear P M R)
  | (refine zAe rfl 48 rfl (zeroValue48 _) (by decide) ?_;intro w3 Q F ab;have H3:=zW (KnB w1 o w1.heap.size H.heap.size zAa w3) (⟨(F.block _ (zAA D.o.1)).trans D.o.1,Q,D.o.2.1.trans (F.mono D.o.2.1.size),D.o.2.1.size,by have:=D.o.2.2;omega⟩);clear Q F ab D;have c8:=zAB (H3.o.zon m.o) (i:=8) (v:=.bool false) rfl;have c4:=zAB (H3.o.zon m.o) (i:=4) (v:=.int .i64 1) (by show some (Value.int .i64 h.state)=_;rw[Y.o])))
 try simp only[uZ]
 go_cut [33] (fun ac V=>ac=.bool false∧KnB w1 o w1.heap.size H.heap.size zAa V)
 case first =>
  cases O:o.may with
  | true =>
   have r:=zh (r.o O);rw[O]at U;refine ost (fun w':World=>w'.heap[w1.heap.size]?=some (.cells (OpL o).toArray 25 (0,0))∧w'.heap[z]?=some (zBR h B l ev false)) 15 ⟨H3.o.op,H3.o.zon m.o⟩ fun b=>?_;have I:=zh H3.o.drew;generalize w3.drew=w4 at *;refine Pl [0] ?_;refine Pd rfl (by intro w' f;exact zBr 25 (.tmp 3) rfl rfl f.1 underlying25 rfl (by kernel_rfl)) ?_;simp only[uZ];refine Pn ?_;refine oon 1 rfl fun K c=>?_;go_wp2_with fail;refine(U.o _).mono ?_;rintro e w5 ⟨rfl,d⟩;have a:=zh (I.o.next d);clear d b I;go_wp2_with fail;refine c.o _ _ ⟨a.o.op,a.o.zon m.o⟩ fun b=>?_;clear c
   try simp only[uZ]
   refine Pl [2,3,4,5,6,7,8,9,10] ?_
   iterate 9 (refine Pd rfl (by intro w' f;have c3:=zAB f.1 (i:=3) (v:=.string o.atK) rfl;have p1:=zAB f.2 (i:=1) (v:=.string h.fr) rfl;have p2:=zAB f.2 (i:=2) (v:=.string h.tu) rfl;go_simp;try with_reducible rfl) ?_;simp only[uZ])
   refine Pn ?_;refine oon 11 rfl fun K c=>?_;go_wp2_with fail;refine(r.o _).mono ?_;rintro e w6 ⟨rfl,d⟩;have t:=zh (a.o.next d);clear d r b a;go_wp2_with fail;refine c.o _ _ ⟨t.o.op,t.o.zon m.o⟩ fun b=>?_;clear c
   try simp only[uZ]
   refine Pl [12,13,14] ?_
   iterate 3 (refine Pc rfl ?_;simp only[uZ])
   refine Pn ?_;clear b;refine odn ?_;go_wp2_with fail
   go_meet
   exact⟨rfl,t.o⟩
  | false =>
   rw[O]at U;refine ost (fun w':World=>w'.heap[w1.heap.size]?=some (.cells (OpL o).toArray 25 (0,0))∧w'.heap[z]?=some (zBR h B l ev false)) 15 ⟨H3.o.op,H3.o.zon m.o⟩ fun b=>?_;have I:=zh H3.o.drew;generalize w3.drew=w4 at *;refine Pl [0] ?_;refine Pd rfl (by intro w' f;exact zBr 25 (.tmp 3) rfl rfl f.1 underlying25 rfl (by kernel_rfl)) ?_;simp only[uZ];refine Pn ?_;refine oon 1 rfl fun K c=>?_;go_wp2_with fail;refine(U.o _).mono ?_;rintro e w5 ⟨rfl,d⟩;have a:=zh (I.o.next d);clear d b I;go_wp2_with fail;refine c.o _ _ ⟨a.o.op,a.o.zon m.o⟩ fun b=>?_;clear c
   try simp only[uZ]
   refine Pl [2,3,4,5,6,7,8,9,10,11,12,13,14] ?_;refine Pc rfl ?_;simp only[uZ]
   iterate 10 (refine Ps rfl ?_;simp only[uZ])
   iterate 2 (refine Pc rfl ?_;simp only[uZ])
   refine Pn ?_;clear b;refine odn ?_;go_wp2_with fail
   go_meet
   exact⟨rfl,a.o⟩
 case rest =>
  obtain⟨rfl,J⟩:=hcut;have t:=zh J;clear J r c8 c4
  go_upto_region 9 with(fail)
  try simp only[uZ]
  go_cut [6,7] (fun s6 s7 V=>∃q,s6=.pointer (some ⟨q,0,none⟩)∧s7=.bool true∧V.heap[q]?=some (.cells (zC6 x i).toArray 48 (0,0))∧q≠H.heap.size∧KnB w1 o w1.heap.size H.heap.size zAa V)
  case first =>
   refine ost (fun w':World=>w'.heap[w1.heap.size]?=some (.cells (OpL o).toArray 25 (0,0))∧w'.heap[z]?=some (zBR h B l ev false)) 12 ⟨t.o.op,t.o.zon m.o⟩ fun b=>?_;have s:=zh t.o.drew;clear t;generalize wc.drew=Z at *;refine Pl [0,1,2,3,4] ?_
   iterate 5 (refine Pd rfl (by intro w' f;first|exact zBr 25 (.tmp 3) rfl rfl f.1 underlying25 rfl (by kernel_rfl)|(have c5:=zAB f.2 (i:=5) (v:=.pointer (some ⟨B,0,none⟩)) rfl;go_simp;try with_reducible rfl)) ?_;simp only[uZ])
   refine Pn ?_;refine zBb 5 9 rfl rfl (by kernel_rfl) (by rfl) (by rfl) (fun K c=>?_) (fun K c=>?_)
   ·clear b;go_wp2_with fail;refine(HP.o _ (s.o.eco HE.o)).mono ?_;rintro e T ⟨rfl,d⟩;have H9:=zh (s.o.next d);clear d;go_wp2_with fail;refine c.o _ _ ⟨H9.o.op,H9.o.zon m.o⟩ fun b=>?_;clear c
    try simp only[uZ]
    refine Pl [6,7,8] ?_
    iterate 3 (refine Pc rfl ?_;simp only[uZ])
    refine Pn ?_;refine oon 9 rfl fun K c=>?_;refine zAo 48 rfl (zeroValue48 _) (by decide) ?_;intro ad hn d G;have n:=zh (H9.o.next d);have A:=zh (And.intro hn (zAA H9.o.rep));have k:=zh d;have af:=zW (w1.heap.size≤T.heap.size) H9.o.bel.size;clear hn d b;refine c.o _ _ ⟨n.o.op,n.o.zon m.o⟩ fun b=>?_;clear c
    try simp only[uZ]
    refine oon 10 rfl fun K c=>?_;refine zAi 48 (.tmp 6) (.tmp 56) rfl T.heap.size rfl (L:=zC6 x i) rfl A.o.1 rfl (by kernel_rfl) (zBA _ _) ?_;intro ae hn C;have j:=zh (And.intro hn (H9.o.next (zAY (w:=T) k.o C (Nat.le_refl _))));clear hn C b;refine c.o _ _ ⟨j.o.2.op,j.o.2.zon m.o⟩ fun b=>?_;clear c
    try simp only[uZ]
    refine Pl [11] ?_
    iterate 1 (refine Pc rfl ?_;simp only[uZ])
    refine Pn ?_;clear b;refine odn ?_;go_wp2_with fail
    go_meet
    exact⟨T.heap.size,rfl,rfl,j.o.1,by have:=A.o.2;omega,j.o.2⟩
   ·refine zAo 48 rfl (zeroValue48 _) (by decide) ?_;intro T hn d G;have H9:=zh (s.o.next d);have y:=zh (And.intro hn d);have X:=zh (zAA s.o.rep);clear hn d b;refine c.o _ _ ⟨H9.o.op,H9.o.zon m.o⟩ fun b=>?_;clear c
    try simp only[uZ]
    refine oon 5 rfl fun K c=>?_;clear b;go_wp2_with fail;refine(HP.o _ (H9.o.eco HE.o)).mono ?_;rintro e ad ⟨rfl,d⟩;have n:=zh (H9.o.next d);have k:=zh (And.intro ((d.block _ (zAA y.o.1)).trans y.o.1) (y.o.2.trans (d.mono y.o.2.size)));clear d;go_wp2_with fail;refine c.o _ _ ⟨n.o.op,n.o.zon m.o⟩ fun b=>?_;clear c
    try simp only[uZ]
    refine Pl [6,7,8] ?_
    iterate 3 (refine Pc rfl ?_;simp only[uZ])
    refine Pn ?_;refine oon 10 rfl fun K c=>?_;refine zAi 48 (.tmp 6) (.tmp 56) rfl Z.heap.size rfl (L:=zC6 x i) rfl k.o.1 rfl (by kernel_rfl) (zBA _ _) ?_;intro ae hn C;have j:=zh (And.intro hn (s.o.next (zAY (w:=Z) k.o.2 C (Nat.le_refl _))));clear hn C b;refine c.o _ _ ⟨j.o.2.op,j.o.2.zon m.o⟩ fun b=>?_;clear c
    try simp only[uZ]
    refine Pl [11] ?_
    iterate 1 (refine Pc rfl ?_;simp only[uZ])
    refine Pn ?_;clear b;refine odn ?_;go_wp2_with fail
    go_meet
    exact⟨Z.heap.size,rfl,rfl,j.o.1,by have:=X.o;omega,j.o.2⟩
  case rest =>
   obtain⟨q,rfl,rfl,hq,aa,J⟩:=hcut;have s:=zh (And.intro hq J);clear hq J aa t;go_wp2_with (first
    | (refine zA1 rfl 48 (.tmp 6) rfl q rfl (L:=zC6 x i) s.o.1 underlying48 rfl (by kernel_rfl) ?_)
    | (refine zAg rfl 48 (.tmp 4) (.tmp 59) rfl H.heap.size rfl (L:=zC6 x i) rfl s.o.2.rep rfl (by kernel_rfl) (zBA _ _) ?_;intro ag hn C;have H9:=zh (And.intro hn (zAY s.o.2.bel C s.o.2.n4));clear hn C))
   refine bodyPost_ret (zAS (p:=4) (u:=5) rfl _ _ H.heap.size _ _ (0,0) _ rfl H9.o.1 underlying48 rfl (by kernel_rfl)) rfl ?_;exact⟨rfl,H9.o.2⟩
theorem dofrozen_calls {w:World}{z B l:Nat}{h:zAj}{ev:Value}(A:w.heap[z]?=some (zBR h B l ev false))(r:h.state≠1)(o:OpM) :
  Calls prog 14 #[.pointer (some ⟨z,0,none⟩),.agg (OpL o).toArray] w fun e w'=>e=.returned (.tuple #[.agg zAa.toArray,.int .i64 16])∧Below w.heap.size w w':=by
 have y:=zh A;have hn:(h.state != 1)=true:=by simpa using r
 clear A
 go_enter func14,ntmps14
 go_wp2_with (first
  | (refine bbox rfl 25 (.tmp 1) rfl (L:=OpL o) rfl ?_;intro s n c k;have m:=zh (And.intro c k);clear n c k)
  | (refine zAe rfl 48 rfl (zeroValue48 _) (by decide) ?_;intro w3 f d q;have H3:=zh (And.intro f (And.intro (m.o.1.trans (d.mono m.o.1.size)) (show w.heap.size≤s.heap.size from m.o.1.size)));clear f d q m;have b:=(H3.o.2.1.block _ (zAA y.o)).trans y.o;have D:=zAB b (i:=8) (v:=.bool false) rfl;have C:=zAB b (i:=4) (v:=.int .i64 h.state) rfl;clear b)
  | (refine zBY rfl 48 #[] rfl (v:=.agg zAa.toArray) (by kernel_rfl) ?_)
  | (refine zAg rfl 48 (.tmp 4) (.tmp 32) rfl s.heap.size rfl (L:=zAa) rfl H3.o.1 rfl (by kernel_rfl) zA8 ?_;intro E j a;have t:=zh (And.intro j (zAY H3.o.2.1 a H3.o.2.2));clear j a))
 refine bodyPost_ret (zAS (p:=4) (u:=5) rfl _ _ s.heap.size _ _ (0,0) _ rfl t.o.1 underlying48 rfl (by kernel_rfl)) rfl ?_;exact⟨rfl,t.o.2⟩
theorem zDl {w:World}{z f l:Nat}{h:zAj}{ev:Value}(c:w.heap[z]?=some (zBR h f l ev false))(b:h.state≠3)(i:Int)(v:Value) :
  Calls prog 16 #[.pointer (some ⟨z,0,none⟩),.int .i64 i,v] w fun e w'=>e=.returned (.int .i64 16)∧Below w.heap.size w w':=by
 have hn:(h.state != 3)=true:=by simpa using b
 have k:=zAB c (i:=8) (v:=.bool false) rfl;have j:=zAB c (i:=4) (v:=.int .i64 h.state) rfl;have d:=zh (Below.refl w.heap.size w);clear c
 go_enter func16,ntmps16
 go_wp2_with fail;go_ret;exact⟨rfl,d.o⟩
end Go.Proofs.YtmcanphlgkolcaaGreatDoor
