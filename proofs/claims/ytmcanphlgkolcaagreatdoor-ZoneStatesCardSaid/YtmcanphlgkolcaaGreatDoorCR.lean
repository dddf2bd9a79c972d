/- What the program's functions and the document's do, and plain laws, for PZoneStates. -/
import Derived.Test.YtmcanphlgkolcaaGreatDoorCA
import Derived.Test.YtmcanphlgkolcaaGreatDoorCK
import Derived.Test.YtmcanphlgkolcaaGreatDoorCL
import Derived.Test.YtmcanphlgkolcaaGreatDoorCM
import Derived.Test.YtmcanphlgkolcaaGreatDoorCN
import Derived.Test.YtmcanphlgkolcaaGreatDoorCO
import Derived.Test.YtmcanphlgkolcaaGreatDoorCQ
open Go.Proofs.Tryz
set_option maxRecDepth 100000
set_option maxHeartbeats 64000000
namespace Go.Proofs.YtmcanphlgkolcaaGreatDoor
open Go.RowKit Go.Sat Go.Maps
structure ShK (w w1:World)(z d eb l vm sm tm am:Nat)(h:zAj)(pre:ByteArray)(D:zAD)(M:zAl)(E:zBu)(own:Nat→Option (Nat×Bs))(F G:Nat→Prop)(o:OpM)(b0:Nat)(W:World):Prop where
 s:DoS w w1 z d eb l vm sm tm am h pre D M E own (.slice none 0 0) F G W
 op:W.heap[b0]?=some (.cells (OpL o).toArray 25 (0,0))
 g0:G b0
section
variable {w w1 W W':World} {z d eb l vm sm tm am:Nat} {h:zAj} {pre:ByteArray} {D D':zAD} {M M':zAl} {E E':zBu} {own own':Nat→Option (Nat×Bs)} {F G G':Nat→Prop} {o:OpM} {b0:Nat}
theorem ShK.next (b:ShK w w1 z d eb l vm sm tm am h pre D M E own F G o b0 W)(c:Below W.heap.size W W'):ShK w w1 z d eb l vm sm tm am h pre D M E own F G o b0 W' :=
 ⟨b.s.next c,(c.block _ (zAA b.op)).trans b.op,b.g0⟩
theorem ShK.drew (b:ShK w w1 z d eb l vm sm tm am h pre D M E own F G o b0 W):ShK w w1 z d eb l vm sm tm am h pre D M E own F G o b0 W.drew:=b.next ⟨rfl,rfl,rfl,Nat.le_refl _,fun _ _=>rfl⟩
theorem ShK.turn (b:ShK w w1 z d eb l vm sm tm am h pre D M E own F G o b0 W)(f:zAI W' eb vm sm tm am E' own')(c:Chg (fun k=>own k≠none) W W')(j:∀k,k<W.heap.size→own' k=own k):ShK w w1 z d eb l vm sm tm am h pre D M E' own' F G o b0 W' :=
 ⟨b.s.turn f c j,(c.block _ (zAA b.op) fun i=>i (b.s.gz _ b.g0).2.1).trans b.op,b.g0⟩
theorem ShK.set (b:ShK w w1 z d eb l vm sm tm am h pre D M E own F G o b0 W)(c:Chg (fun k=>k=z) W W')(i:W'.heap[z]?=some (zBR h eb l (.slice none 0 0) false)):ShK w w1 z d eb l vm sm tm am h pre D M E own F G o b0 W' :=
 ⟨b.s.set c i (fun k f=>by cases f),(c.block _ (zAA b.op) (b.s.gz _ b.g0).1).trans b.op,b.g0⟩
theorem ShK.wrote (b:ShK w w1 z d eb l vm sm tm am h pre D M E own F G o b0 W)(f:zAm w W' l d pre D' M' (fun k=>F k∨k=z∨own k≠none∨(Value.slice none 0 0).ownBlock=some k∨G k))(c:Same (fun k=>F k∨k=z∨own k≠none∨(Value.slice none 0 0).ownBlock=some k∨G k) W W'):ShK w w1 z d eb l vm sm tm am h pre D' M' E own F G o b0 W' :=
 ⟨b.s.wrote f c,(c _ (.inr (.inr (.inr (.inr b.g0))))).trans b.op,b.g0⟩
end
theorem shipany_calls {w w1 W:World}{z d eb l vm sm tm am:Nat}{h:zAj}{pre:ByteArray}{D D2:zAD}{M M2:zAl}{n2:Nat}{own:Nat→Option (Nat×Bs)}{F G:Nat→Prop}(hS:DoS w w1 z d eb l vm sm tm am h pre D M E0 own (.slice none 0 0) F G W)
  (Q:h.state=3) (ac:h.fr.size≤16∧h.tu.size≤16) {v:Value} (b:Bs) (hx:zA4 W 5 v b) (hG:∀k,v.ownBlock=some k→G k) (t:b.length≤65536) (hl:M.last=4)
  (H:zAV (nm pre) D M b=⟨D2,M2,n2,0⟩) (aa:M2.last<M2.base+16) :
  Calls prog 16 #[.pointer (some ⟨z,0,none⟩),.int .i64 5,v] W fun e w'=>∃g,e=.returned (.int .i64 g)∧w'.heap[z]?=some (zBR h eb l (.slice none 0 0) false)∧Below w.heap.size w w':=by
 obtain⟨p,c,rfl,-⟩:=zAN hx;have af:=zh (zER hS.zoneF hl);obtain⟨ad,-⟩:=opQ_wf b (by omega);have Hw:=zh ad;have X:=zh ac;have aj:=zh Q;have Hb:=zh t;have Hx:=zh (And.intro hx hG);have Ha:=zh (And.intro H aa);have H1:=zh hS;have c8:=zAB hS.zon (i:=8) (v:=.bool false) rfl;have c4:=zAB hS.zon (i:=4) (v:=.int .i64 3) (by show some (Value.int .i64 h.state)=_;rw[Q]);clear ad ac Q t hx hG H aa hl hS
 go_enter func16,ntmps16
 go_wp2_with fail;refine af.o.mono ?_;rintro e w2 ⟨rfl,q,rfl⟩;have H2:=zh (H1.o.next (zAJ W.heap.size W q));have Y:=zW (zA4 (W.drewN q) 5 (.slice p b.length c) b) (zCV Hx.o.1 (zAJ W.heap.size W q));clear c8 c4;generalize W.drewN q=w2 at *;have HD:=zh (opdec_calls b rfl Y.o.has (by have:=Hb.o;omega))
 by_cases j:(opE b).whole=true∧(opQ b).may=true∧(opQ b).enc=b
 ·rw[opDecV_yes j]at HD;generalize opQ b=o at *;have HA:=zh (fun(W:World) (hW:zAI W eb vm sm tm am E0 own)=>applyz_calls hW o Hw.o);have ah:=zh (fun W=>zCd W h.fr h.tu o.atK (by have:=X.o;omega) (by have:=X.o;omega) (by have:=Hw.o.2.1.1;unfold zCo maxLen at this;omega));generalize N:b.length=m at *;have HL:=zh N;clear j N;go_wp2_with fail;refine HD.o.mono ?_;rintro e w3 ⟨rfl,r⟩;have H3:=zh (And.intro (H2.o.next r) (zCV Y.o r));clear r
  go_upto_region 10 with(first
   | (refine zAe rfl 25 rfl (zeroValue25 _) (by decide) ?_;intro w4 hn t a;have J:=zh (And.intro hn (And.intro t a));clear hn t a)
   | (refine zAg rfl 25 (.tmp 7) (.tmp 35) rfl w3.heap.size rfl (L:=OpL o) rfl J.o.1 rfl (by kernel_rfl) (zCE _) ?_;intro A hn y;have O:=zAY (w:=w3) J.o.2.1 y (Nat.le_refl _);have C:=zh (And.intro (show ShK w w1 z d eb l vm sm tm am h pre D M E0 own F (fun k=>G k∨k=w3.heap.size) o w3.heap.size A from⟨H3.o.1.add O (fun k hk=>hk.imp id fun e=>⟨by omega,by have:=zAA hn;omega⟩),hn,.inr rfl⟩) (zCV H3.o.2 O));clear hn y O J H3))
  try simp only[uZ]
  generalize w3.heap.size=ob at *;refine ost (fun w':World=>w'.heap[ob]?=some (.cells (OpL o).toArray 25 (0,0))∧w'.heap[z]?=some (zBR h eb l (.slice none 0 0) false)) 14 ⟨C.o.1.op,C.o.1.s.zon⟩ fun f=>?_;have R:=zh (And.intro C.o.1.drew (zCV C.o.2 (show Below A.heap.size A A.drew from⟨rfl,rfl,rfl,Nat.le_refl _,fun _ _=>rfl⟩)));clear C;generalize A.drew=w6 at *;refine Pl [0,1,2] ?_
  iterate 3 (refine Pc rfl ?_;simp only[uZ])
  refine Pn ?_;refine Pl [3,4,5,6,7,8,9,10] ?_
  iterate 8 (refine Pd rfl (by intro w' n;have c3:=zAB n.1 (i:=3) (v:=.string o.atK) rfl;have p1:=zAB n.2 (i:=1) (v:=.string h.fr) rfl;have p2:=zAB n.2 (i:=2) (v:=.string h.tu) rfl;go_simp;try with_reducible rfl) ?_;simp only[uZ])
  refine Pn ?_;refine oon 11 rfl fun K hK=>?_;go_wp2_with fail;refine(ah.o _).mono ?_;rintro e w7 ⟨rfl,P⟩;have E:=zh (And.intro (R.o.1.next P) (zCV R.o.2 P));clear P f R;go_wp2_with fail;refine hK.o _ _ ⟨E.o.1.op,E.o.1.s.zon⟩ fun f=>?_;clear hK
  try simp only[uZ]
  refine Pl [12,13] ?_
  iterate 2 (refine Pc rfl ?_;simp only[uZ])
  refine Pn ?_;clear f;refine odn ?_;cases ak:zDr h.fr h.tu o.atK with
  | false =>
   go_wp2_with fail;go_ret;exact⟨3,rfl,E.o.1.s.zon,E.o.1.s.led.bel⟩
  | true =>
   have V:=zh (zDX E.o.1.s.led (fun W _ a=>has_own E.o.2 fun k hk=>a k (.inr (.inr (.inr (.inr (.inl (Hx.o.2 k hk))))))) (by have:=Hb.o;have:=HL.o;omega));rw[Ha.o.1]at V;have c6:=zAB E.o.1.s.zon (i:=6) (v:=.pointer (some ⟨l,0,none⟩)) rfl;go_wp2_with fail;refine V.o.mono ?_;rintro e al ⟨rfl,N,a⟩;have S:=zh (E.o.1.wrote N a);clear N a c6;have ae:=zh (zEQ S.o.s);go_wp2_with fail;refine ae.o.mono ?_;rintro e ai ⟨rfl,Z,y⟩;have I:=zh (S.o.set y Z.zon);clear y Z
   go_upto_region 15 with(fail)
   try simp only[uZ]
   refine ost (fun w':World=>w'.heap[ob]?=some (.cells (OpL o).toArray 25 (0,0))∧w'.heap[z]?=some (zBR h eb l (.slice none 0 0) false)) 6 ⟨I.o.op,I.o.s.zon⟩ fun f=>?_;have T:=zh I.o.drew;generalize ai.drew=W0 at *;refine Pl [0,1,2,3,4] ?_
   iterate 5 (refine Pd rfl (by intro w' n;first|exact zBr 25 (.tmp 7) rfl rfl n.1 underlying25 rfl (by kernel_rfl)|(have c5:=zAB n.2 (i:=5) (v:=.pointer (some ⟨eb,0,none⟩)) rfl;go_simp;try with_reducible rfl)) ?_;simp only[uZ])
   refine Pn ?_;refine oon 5 rfl fun K hK=>?_;clear f;go_wp2_with fail;refine(HA.o _ T.o.s.eco).mono ?_;rintro e an ⟨x,i,kk,E2,own',rfl,hE,ab,y⟩;have B:=zh (T.o.turn hE y ab);clear hE ab y;go_wp2_with fail;refine hK.o _ _ ⟨B.o.op,B.o.s.zon⟩ fun f=>?_;clear hK f
   try simp only[uZ]
   refine odn ?_;have ag:=zh (zDg B.o.s Ha.o.2);go_wp2_with fail;refine ag.o.mono ?_;rintro e ao ⟨rfl,t⟩;have U:=zh (B.o.next t);clear t;go_wp2_with fail;go_ret;exact⟨0,rfl,U.o.s.zon,U.o.s.led.bel⟩
 ·rw[opDecV_no j]at HD;generalize N:b.length=m at *;clear j N;go_wp2_with fail;refine HD.o.mono ?_;rintro e w3 ⟨rfl,r⟩;have H3:=zh (H2.o.next r);clear r
  go_upto_region 10 with(first
   | (refine zAe rfl 25 rfl (zeroValue25 _) (by decide) ?_;intro w4 hn t a;have J:=zh (And.intro hn (And.intro t a));clear hn t a)
   | (refine zAg rfl 25 (.tmp 7) (.tmp 35) rfl w3.heap.size rfl (L:=OpZL) rfl J.o.1 rfl (by kernel_rfl) OpZL_one ?_;intro A hn y;have C:=zh (H3.o.next (zAY (w:=w3) J.o.2.1 y (Nat.le_refl _)));clear hn y J H3))
  try simp only[uZ]
  refine ost (fun w':World=>w'.heap[z]?=some (zBR h eb l (.slice none 0 0) false)) 14 C.o.zon fun f=>?_;have R:=zh (C.o.next (show Below A.heap.size A A.drew from⟨rfl,rfl,rfl,Nat.le_refl _,fun _ _=>rfl⟩));clear C;generalize A.drew=w6 at *;refine Pl [0,1,2,3,4,5,6,7,8,9,10,11,12,13] ?_
  iterate 3 (refine Pc rfl ?_;simp only[uZ])
  iterate 10 (refine Ps rfl ?_;simp only[uZ])
  refine Pc rfl ?_;simp only[uZ];refine Pn ?_;clear f;refine odn ?_;go_wp2_with fail;go_ret;exact⟨3,rfl,R.o.zon,R.o.led.bel⟩
theorem decTo0:@DecTo [0,0,0,0] (fun E=>E=E0):=fun W v f=>(zEa f).mono fun e w'=>by
 rintro⟨eb,rfl,⟨vm,sm,tm,am,own,b,d⟩,c⟩;exact⟨eb,rfl,⟨vm,sm,tm,am,E0,own,b,d,rfl⟩,c⟩
def QO1 (E:zBu):Prop:=∃r,zBS (nm O1.atK) E.vs=some r∧zAb r.V O1.atW=⟨5,0,0,0⟩
theorem put1_vs (r:VRep)(h:r.V=[]):∃r':VRep,(putE E0 r O1).vs=[(nm O1.atK,r')]∧r'.V=[(nm O1.atW,⟨5,0,0,0⟩)]∧(zDe (putE E0 r O1) (nm O1.atK)).vs=[(nm O1.atK,r')]:=by
 obtain⟨vb,b,bb,V⟩:=r;obtain rfl:V=[]:=h;exact⟨⟨vb,b,bb,[(nm O1.atW,⟨5,0,0,0⟩)]⟩,by kernel_rfl,rfl,by kernel_rfl⟩
theorem put1_len (r:VRep)(h:r.V=[]):∀p∈(putE E0 r O1).vs,p.2.V.length≤1099511627776:=by
 obtain⟨f,c,d,-⟩:=put1_vs r h;intro p b;rw[c,List.mem_singleton]at b;rw[b,d]
 decide
theorem q1_of (r:VRep)(h:r.V=[])(b:List (Int×Sess)):QO1 {zDe (putE E0 r O1) (nm O1.atK)with ss:=b}:=by
 obtain⟨f,i,c,d⟩:=put1_vs r h;refine⟨f,?_,?_⟩
 ·show zBS _ (zDe (putE E0 r O1) (nm O1.atK)).vs=_
  rw[d]
  kernel_rfl
 ·unfold zAb;rw[c]
  kernel_rfl
theorem appTo1:AppTo O1 (fun E=>E=E0) QO1:=fun W eb vm sm tm am E own d j=>by
 subst j;refine(zDn d O1 O1_wf O1_may rfl rfl (by decide) (by decide) (fun r b=>by cases b) (fun r b _=>put1_len r (b rfl))).mono ?_;rintro e w' ⟨r,own',rfl,-,b,c,i,f⟩;exact⟨_,_,own',rfl,q1_of r (b rfl) _,c,i,f⟩
theorem preTo1:PreTo 1 (zpre 1):=fun W=>zEo W 1 (by decide)
theorem zCj (w:World):Calls prog 12 #[] w (RetB true w):=by
 obtain⟨D1,U,aa,j⟩:=laid1;have Q:=zh (st_new (w:=w) (w1:=w) 262144 (by decide) (by decide) (Below.refl _ _));have HN:=zh (fun W=>none15_calls W);have HM:=zh (fun(W:World) (d:Nat) (p:Option Addr) (c:Nat) (hS:St w W d (zAD.fresh 262144) NoF) (hx:zAf W (.slice p 4 c) [0,0,0,0])=>make0_calls hS H1 H1_is 1 rfl (by decide) 0 (by decide) hx U aa (by have:=zd1_len;omega));have H:=zh j;clear U aa j
 go_enter func12,ntmps12
 go_wp2_with fail;refine Q.o.mono ?_;rintro e W1 ⟨d,rfl,hd⟩;have Hd:=zW (St w W1 d (zAD.fresh 262144) NoF) hd;clear hd;go_wp2_with (refine zBY rfl 35 #[(0,.const (.int .i64 1)),(2,.const (.int .i64 1)),(3,.const (.int .i64 1))] rfl (v:=.agg #[.int .i64 H1.id,.string H1.fr,.string H1.tu,.int .i64 H1.epoch,.int .i64 H1.state]) (by kernel_rfl) ?_)
 refine(HN.o _).mono ?_;rintro e W2 ⟨v,rfl,hv,al,f⟩;obtain⟨pv,cv,rfl⟩:=hv.slice;have ag:=zh (HM.o W2 d pv cv (Hd.o.next f) hv.has);clear hv al f;go_wp2_with fail;refine ag.o.mono ?_;rintro e W3 ⟨z,rfl,M,-⟩;have HZ:=zh M;have ai:=zh M.bel.size;clear M
 go_upto_region 6 with(first
  | (refine zBY rfl 23 #[(0,.const (.string ⟨#[97]⟩)),(1,.const (.string ⟨#[120]⟩))] rfl (v:=.agg #[.string O1.atK,.string O1.atW]) (by kernel_rfl) ?_)
  | (refine zBY rfl 25 #[(0,.const (.int .i64 1)),(1,.const (.int .i64 1)),(2,.const (.int .i64 1)),(3,.tmp 27),(6,.const (.int .i64 5))] rfl (v:=.agg (OpL O1).toArray) (by kernel_rfl) ?_)
  | (refine zAe rfl 25 rfl (zeroValue25 _) (by decide) ?_;intro W5 hn f Z;have H5:=zh (And.intro hn (And.intro (HZ.o.move (F':=fun k=>k=W3.heap.size) (Chg.of_below f) (fun _ _ e=>e.elim) (fun k t=>⟨.inr (by omega),by omega⟩)) Z));clear hn f Z HZ)
  | (refine zAg rfl 25 (.tmp 5) (.tmp 28) rfl W3.heap.size rfl rfl H5.o.1 rfl (by kernel_rfl) (zCE _) ?_;intro W6 hn S;have H6:=zh (And.intro hn (H5.o.2.1.move (F':=fun k=>k=W3.heap.size) S (fun k _ e=>⟨e,by have:=ai.o;omega⟩) fun k t=>⟨.inl t,by have:=zAA hn;omega⟩));clear hn S H5))
 try simp only[uZ]
 generalize W3.heap.size=J at *;obtain⟨eb,l,vm,sm,tm,am,own,hS⟩:=H6.o.2.doS;obtain⟨D2,C,V⟩:=H.o hS.led.okD;have ae:=zh (domint_calls hS rfl ⟨by decide,by decide⟩ O1 inSpan1 O1_wf ⟨by decide,by decide⟩ O1_may rfl rfl (by decide) (by decide) (fun r X=>by cases X) (fun r X _=>put1_len r (X rfl)) C (by have:=o1_len;omega) (by decide));have aj:=zh V;have Hf:=zh (And.intro H6.o.1 (And.intro hS.led.bel (hS.led.flt (.inl rfl))));clear hS C V;go_wp2_with (first
  | (refine zA1 rfl 25 (.tmp 5) rfl J rfl (L:=OpL O1) Hf.o.1 underlying25 rfl (by kernel_rfl) ?_))
 refine ae.o.mono ?_;rintro e W7 ⟨r,an,ax,rfl,X,hS⟩;have H7:=zh (And.intro ((hS.same J rfl).trans Hf.o.1) (hS.led.stF.less (F:=fun k=>k=J) fun k t=>.inl t));have ao:=zh (And.intro hS.led.bel.size (zAA H7.o.1));clear X hS
 go_upto_region 7 with(first
  | (refine zAe rfl 48 rfl (zeroValue48 _) (by decide) ?_;intro W8 hn f Z;have H8:=zh (And.intro hn (And.intro f Z));clear hn f Z)
  | (refine zAg rfl 48 (.tmp 6) (.tmp 33) rfl W7.heap.size rfl (L:=RepC (putX r O1)) rfl H8.o.1 rfl (by kernel_rfl) (zCQ _) ?_;intro W9 hn S;have H9:=zh (zAY (w:=W7) H8.o.2.1 S (Nat.le_refl _));clear hn S H8))
 try simp only[uZ]
 have N:=zh (And.intro ((H9.o.block _ (zAA H7.o.1)).trans H7.o.1) (H7.o.2.next H9.o));have ad:=zh (st_crash N.o.2 0 (by decide) (by decide));go_wp2_with fail;refine ad.o.mono ?_;rintro e ap ⟨rfl,hS,s⟩;have ah:=zh (zopen_calls (os:=[O1]) (img:=[0,0,0,0]) hS H1_is preTo1 aj.o rfl (by have:=zd1_len;omega) (by decide) rfl (fun o ho=>by rw[List.mem_singleton]at ho;subst ho;exact⟨O1_may,by have:=o1_len;omega⟩) (by decide) (fun k E=>if k=0 then E=E0 else QO1 E) decTo0 (fun k o t=>by
  match k,t with
  | 0,t=>cases t;exact appTo1
  | n+1,t=>simp at t))
 have ac:=zh ((s J rfl).trans N.o.1);clear hS s;go_wp2_with fail;refine ah.o.mono ?_;rintro e R ⟨z2,E2,aw,rfl,M,hq,-,s⟩;have D:=zh (And.intro ((s J rfl).trans ac.o) (And.intro M (show QO1 E2 from hq)));clear M hq s
 go_upto_region 9 with(fail)
 try simp only[uZ]
 refine ost (fun W:World=>W.heap[J]?=some (.cells (OpL O1).toArray 25 (0,0))) 25 D.o.1 fun b=>?_;have G:=zh (And.intro (D.o.2.1.next (zAG R)) D.o.2.2);generalize R.drew=I at *;refine Pl [0,1,2,3,4,5,6,7,8,9,10,11] ?_
 iterate 12 (refine Pc rfl ?_;simp only[uZ])
 refine Pn ?_;have HL:=zh (zER (m:=1) G.o.1 rfl);refine oon 12 rfl fun K B=>?_;go_wp2_with fail;refine HL.o.mono ?_;rintro e ak ⟨rfl,q,rfl⟩;have O:=zh (And.intro (G.o.1.next (zAJ _ I q)) G.o.2);have A:(I.drewN q).heap[J]?=some (.cells (OpL O1).toArray 25 (0,0)):=b;clear b;generalize I.drewN q=ak at *;go_wp2_with fail;refine B.o _ _ A fun b=>?_;clear B A
 try simp only[uZ]
 refine Pl [13,14,15,16,18] ?_
 iterate 5 (refine Pc rfl ?_;simp only[uZ])
 refine Pn ?_;refine Pl [19,21] ?_;refine Pd (v:=.agg #[.string O1.atK,.string O1.atW]) rfl (by intro w' a;have d3:=zAB a (i:=3) (v:=.string O1.atK) rfl;have d4:=zAB a (i:=4) (v:=.string O1.atW) rfl;go_simp;try with_reducible rfl) ?_;simp only[uZ];refine Pd (v:=.agg #[.int .i64 5,.int .i64 0,.int .i64 0,.int .i64 0]) rfl (by intro w' a;kernel_rfl) ?_;simp only[uZ];refine Pn ?_;obtain⟨av,l2,aA,ay,az,au,own2,y⟩:=O.o.1.doS;obtain⟨r2,Y,T⟩:=O.o.2;have af:=zh (zecon_calls y.zon);have P:=zh (econAt_calls y.eco O1.atK O1.atW (by decide) (by decide) Y);rw[T]at P;have h:=zh y.led.bel;clear y Y T;refine oon 17 rfl fun K B=>?_;go_wp2_with fail;refine af.o.mono ?_;rintro e aq ⟨rfl,ab⟩;obtain rfl:=ab.symm;go_wp2_with fail;refine B.o _ _ b fun _=>?_;clear B
 try simp only[uZ]
 refine oon 20 rfl fun K B=>?_;go_wp2_with fail;refine P.o.mono ?_;rintro e ar ⟨rfl,f⟩;have HB:=zh (h.o.trans (f.mono h.o.size));go_wp2_with fail;refine B.o _ _ ((f.block _ (zAA b)).trans b) fun _=>?_;clear B b f
 try simp only[uZ]
 refine Pl [22,23,24] ?_;refine Pd (v:=.bool true) rfl (by intro w' a;exact yeql 46 _ (.tmp 62) (.tmp 63) rfl rfl rfl (by kernel_rfl) (it_eq w' ⟨5,0,0,0⟩ ⟨5,0,0,0⟩ ⟨rfl,rfl,rfl,rfl⟩ ⟨rfl,rfl,rfl,rfl⟩)) ?_;simp only[uZ]
 iterate 2 (refine Pc rfl ?_;simp only[uZ])
 refine Pn ?_;refine odn ?_;go_wp2_with fail;go_ret;exact⟨rfl,HB.o⟩
def hv1 (o:OpM):Bool:=decide (60<o.atK.size)||decide (60<o.atW.size)||decide (60<o.toK.size)||decide (60<o.toW.size)
theorem heavy1_calls {w:World}{g:Nat}{o:OpM}(b:w.heap[g]?=some (.cells (OpL o).toArray 25 (0,0)))(s:o.atK.size≤9223372036854775807∧o.atW.size≤9223372036854775807∧o.toK.size≤9223372036854775807∧o.toW.size≤9223372036854775807) :
  Calls prog 7 #[.slice (some ⟨g,0,none⟩) 1 1] w fun e w'=>e=.returned (.bool (hv1 o))∧w'=w:=by
 have t:=zAB b (i:=3) (v:=.string o.atK) rfl;have y:=zAB b (i:=4) (v:=.string o.atW) rfl;have z:=zAB b (i:=5) (v:=.string o.toK) rfl;have a:=zAB b (i:=6) (v:=.string o.toW) rfl;obtain⟨A,B,C,D⟩:=s;unfold hv1;clear b;generalize o.atK=n at *;generalize o.atW=p at *;generalize o.toK=q at *;generalize o.toW=r at *
 go_enter func7,ntmps7
 go_wp2_with fail
 go_loopw [3] (fun i wr=>∃k:Nat,k≤1∧i=.int .i64 k∧wr=w∧(k=1→¬60<n.size∧¬60<p.size∧¬60<q.size∧¬60<r.size)) (fun i _=>1-(intOf i).toNat)
 case atStart=>exact⟨0,by omega,rfl,rfl,fun h=>by omega⟩
 case round =>
  obtain⟨k,E,rfl,rfl,m⟩:=hrel;rcases(by omega:k=0∨k=1)with rfl|rfl
  ·clear m
   by_cases c:60<n.size
   ·go_wp2_with fail;go_ret;exact⟨by simp,rfl⟩
   ·by_cases d:60<p.size
    ·go_wp2_with fail;go_ret;exact⟨by simp,rfl⟩
    ·by_cases f:60<q.size
     ·go_wp2_with fail;go_ret;exact⟨by simp,rfl⟩
     ·by_cases j:60<r.size
      ·go_wp2_with fail;go_ret;exact⟨by simp[j],rfl⟩
      ·go_wp2_with fail
       go_round
       case rel=>exact⟨1,by omega,by go_num,by trivial,fun _=>⟨c,d,f,j⟩⟩
       case measure=>simp[intOf]
  ·obtain⟨c,d,f,j⟩:=m rfl;go_wp2_with fail;go_ret;exact⟨by simp,rfl⟩
theorem op_laidZ (o:OpM):List.foldl (fun(b:Array Value) (x:Value×Nat)=>b.setIfInBounds x.snd x.fst) #[.int .i64 0,.int .i64 0,.int .i64 0,.string ⟨#[]⟩,.string ⟨#[]⟩,.string ⟨#[]⟩,.string ⟨#[]⟩,.int .i64 0,.int .i64 0,.int .i64 0,.bool false,.int .i64 0] (OpL o).zipIdx=(OpL o).toArray:=by kernel_rfl
theorem headL_one (h:zAj):∀v∈HeadL h,v.oneCell'=true:=by
 intro v b;unfold HeadL at b;simp only[List.mem_cons,List.not_mem_nil,or_false]at b;rcases b with rfl|rfl|rfl|rfl|rfl<;>rfl
def SpanL (a b:ByteArray):List Value:=[.string a,.string b]
theorem hv1_no {o:OpM}(h:hv1 o=false):o.atK.size≤60∧o.atW.size≤60∧o.toK.size≤60∧o.toW.size≤60:=by
 unfold hv1 at h;simp at h;omega
theorem zstates_walk (w:World)(C:Int)(aH:zCs C)(o:OpM)(ho:(zCs o.kind∧zCs o.client∧zCs o.seq)∧(o.atK.size≤9223372036854775807∧o.atW.size≤9223372036854775807∧o.toK.size≤9223372036854775807∧o.toW.size≤9223372036854775807)∧zCs o.item∧zCs o.count∧zCs o.price∧zCs o.id)(fr tu:ByteArray)(hf:fr.size≤9223372036854775807)(ht:tu.size≤9223372036854775807) :
  Calls prog 3 #[.int .i64 C,.agg (OpL o).toArray,.agg (SpanL fr tu).toArray] w (RetB true w):=by
 have Ho:=zh ho;clear ho;have aQ:=zh (zBX aH);clear aH
 go_enter func3,ntmps3
 go_upto_region 1 with(first
  | (refine bbox rfl 25 (.tmp 1) rfl (L:=OpL o) rfl ?_;intro w2 hn j P;have H2:=zh (And.intro hn (And.intro j P));clear hn j P)
  | (refine bbox rfl 27 (.tmp 2) rfl (L:=SpanL fr tu) rfl ?_;intro w3 hn j P;have H3:=zh (And.intro hn (And.intro ((j.block _ (zAA H2.o.1)).trans H2.o.1) (H2.o.2.1.trans (j.mono H2.o.2.1.size))));clear hn j P H2))
 try simp only[uZ]
 have aE:(OpL o).length=12:=rfl;go_wp2_with (refine zA1 rfl 25 (.tmp 4) rfl w.heap.size rfl (L:=OpL o) H3.o.2.1 underlying25 rfl (by kernel_rfl) ?_)
 clear aE;rw[op_laidZ];have ah:=zh (zAC w3 (.cells (OpL o).toArray 25));refine(heavy1_calls (g:=w3.heap.size) (o:=o) (zAF w3 (.cells (OpL o).toArray 25)) Ho.o.2.1).mono ?_;rintro e w4 ⟨rfl,aJ⟩;have D:=zW (w4.heap[w2.heap.size]?=some (.cells (SpanL fr tu).toArray 27 (0,0))∧w4.heap[w.heap.size]?=some (.cells (OpL o).toArray 25 (0,0))∧Below w.heap.size w w4) (by
  subst aJ;exact⟨(ah.o.block _ (zAA H3.o.1)).trans H3.o.1,(ah.o.block _ (zAA H3.o.2.1)).trans H3.o.2.1,H3.o.2.2.trans (ah.o.mono H3.o.2.2.size)⟩)
 clear aJ;generalize w2.heap.size=sb at *;have s0:=zAB D.o.1 (i:=0) (v:=.string fr) rfl;have s1:=zAB D.o.1 (i:=1) (v:=.string tu) rfl;cases N:hv1 o with
 | true =>
  go_wp2_with fail;go_ret;exact⟨rfl,D.o.2.2⟩
 | false =>
 by_cases h1:16<fr.size
 ·go_wp2_with fail;go_ret;exact⟨rfl,D.o.2.2⟩
 by_cases h2:16<tu.size
 ·go_wp2_with fail;go_ret;exact⟨rfl,D.o.2.2⟩
 have aO:=hv1_no N;have au:=zW (o.wf) (⟨Ho.o.1,⟨by unfold zCo maxLen;omega,by unfold zCo maxLen;omega,by unfold zCo maxLen;omega,by unfold zCo maxLen;omega⟩,Ho.o.2.2⟩);have aj:=zh (fun hm:o.may=true=>enc_len hm);have an:(H9 C fr tu).wf:=⟨hf,ht⟩;have ad:=zh (fun W=>r15mayZ_calls W (H9 C fr tu) an);have aM:=zh (fun hh W d v=>makeno_calls W d (H9 C fr tu) hh an 4 v);obtain⟨D1,aF,aI,A⟩:=laid9 C (fr:=fr) (tu:=tu) (by omega) (by omega);have aP:=zd9_len C (fr:=fr) (tu:=tu) (by omega) (by omega);have HM:=zh (fun(Q:(H9 C fr tu).is=true) (W:World) (d:Nat) (F:Nat→Prop) (p:Option Addr) (c:Nat) (hS:St w4 W d (zAD.fresh 262144) F) (hx:zAf W (.slice p 4 c) [0,0,0,0])=>make0_calls hS (H9 C fr tu) Q 9 rfl (by decide) 4 (by decide) hx aF aI (by omega));have aq:=zh A;have ae:=zW ((H9 C fr tu).fr.size≤16∧(H9 C fr tu).tu.size≤16) (⟨by show fr.size≤16;omega,by show tu.size≤16;omega⟩);have ar:=zh (st_new (w:=w4) (w1:=w4) 262144 (by decide) (by decide) (Below.refl _ _));have HN:=zh (fun W=>none15_calls W);clear aF aI A aP aO an hf ht;go_wp2_with fail;refine ar.o.mono ?_;rintro x W1 ⟨d,rfl,hd⟩;have Hd:=zW (St w4 W1 d (zAD.fresh 262144) NoF) hd;clear hd;have af:Below w4.heap.size w4 W1:=Hd.o.below;have ap:=zh ((af.block _ (zAA D.o.1)).trans D.o.1);clear af s0 s1;have s0:=zAB ap.o (i:=0) (v:=.string fr) rfl;have s1:=zAB ap.o (i:=1) (v:=.string tu) rfl
 go_upto_region 5 with(first
  | (refine zBY rfl 35 #[(0,.const (.int .i64 9)),(1,.tmp 36),(2,.const (.int .i64 1)),(3,.tmp 37)] rfl (v:=.agg (HeadL (H9 C fr tu)).toArray) (by kernel_rfl) ?_)
  | (refine zAe rfl 35 rfl (zeroValue35 _) (by decide) ?_;intro W2 hn j P;have HH:=zh (And.intro hn j);clear hn j P)
  | (refine zAg rfl 35 (.tmp 9) (.tmp 38) rfl W1.heap.size rfl (L:=HeadL (H9 C fr tu)) rfl HH.o.1 rfl (by kernel_rfl) (headL_one _) ?_;intro W3 hn M;have aB:=zAY (w:=W1) HH.o.2 M (Nat.le_refl _);have H5:=zh (And.intro hn (St.more (F':=fun k=>k=W1.heap.size) Hd.o aB (fun k hk=>⟨.inr (by omega),by have:=zAA hn;omega⟩)));clear hn M aB HH))
 try simp only[uZ]
 clear s0 s1;generalize W1.heap.size=j at *
 by_cases Q:(H9 C fr tu).is=true
 rotate_left
 ·refine ost (fun W:World=>W.heap[j]?=some (.cells (HeadL (H9 C fr tu)).toArray 35 (0,0))) 9 H5.o.1 fun n=>?_;have H6:=zh (H5.o.2.next (zAG W3));generalize W3.drew=W4 at *;refine Pl [0,1] ?_;refine Pc rfl ?_;simp only[uZ];refine Pd rfl (by intro w' ak;exact zBr 35 (.tmp 9) rfl rfl ak underlying35 rfl (by kernel_rfl)) ?_;simp only[uZ];refine Pn ?_;refine oon 2 rfl fun K X=>?_;go_wp2_with fail;refine(HN.o _).mono ?_;rintro x W5 ⟨v,rfl,N,E,O⟩;obtain⟨pv,cv,rfl⟩:=N.slice;have S:=zh (And.intro ((O.block _ (zAA n)).trans n) (And.intro (H6.o.next O) N.has));clear N E O H6;go_wp2_with fail;refine X.o _ _ S.o.1 fun n=>?_;clear X
  try simp only[uZ]
  refine oon 3 rfl fun K X=>?_;clear n;go_wp2_with fail;refine(aM.o (by cases h:(H9 C fr tu).is with|true=>exact absurd h Q|false=>rfl) _ _ _).mono ?_;rintro x W6 ⟨rfl,al⟩;have H8:=zh (And.intro ((al.block _ (zAA S.o.1)).trans S.o.1) (D.o.2.2.trans (((S.o.2.1.below).trans (al.mono S.o.2.1.below.size)).mono D.o.2.2.size)));clear al S;go_wp2_with fail;refine X.o _ _ H8.o.1 fun n=>?_;clear X
  try simp only[uZ]
  refine Pl [4,5,6,7,8] ?_
  iterate 5 (refine Pc rfl ?_;simp only[uZ])
  refine Pn ?_;clear n;refine odn ?_;have aD:(H9 C fr tu).is=false:=by cases h:(H9 C fr tu).is with|true=>exact absurd h Q|false=>rfl
  rw[aD]at ad;go_wp2_with (refine zA1 rfl 35 (.tmp 9) rfl j rfl (L:=HeadL (H9 C fr tu)) H8.o.1 underlying35 rfl (by kernel_rfl) ?_)
  refine(ad.o _).mono ?_;rintro x W7 ⟨rfl,Y⟩;have H9:=zh (H8.o.2.trans (Y.mono H8.o.2.size));clear Y H8;go_wp2_with fail;refine(zCj _).mono ?_;rintro x W8 ⟨rfl,aC⟩;have ac:=zh (H9.o.trans (aC.mono H9.o.size));clear aC;go_wp2_with fail;go_ret;exact⟨rfl,ac.o⟩
 refine ost (fun W:World=>W.heap[j]?=some (.cells (HeadL (H9 C fr tu)).toArray 35 (0,0))) 9 H5.o.1 fun n=>?_;have H6:=zh (H5.o.2.next (zAG W3));generalize W3.drew=W4 at *;refine Pl [0,1] ?_;refine Pc rfl ?_;simp only[uZ];refine Pd rfl (by intro w' ak;exact zBr 35 (.tmp 9) rfl rfl ak underlying35 rfl (by kernel_rfl)) ?_;simp only[uZ];refine Pn ?_;refine oon 2 rfl fun K X=>?_;go_wp2_with fail;refine(HN.o _).mono ?_;rintro x W5 ⟨v,rfl,N,E,O⟩;obtain⟨pv,cv,rfl⟩:=N.slice;have S:=zh (And.intro ((O.block _ (zAA n)).trans n) (And.intro (H6.o.next O) N.has));clear N E O H6;go_wp2_with fail;refine X.o _ _ S.o.1 fun n=>?_;clear X
 try simp only[uZ]
 refine oon 3 rfl fun K X=>?_;clear n;have aL:=zh (HM.o Q _ d _ pv cv S.o.2.1 S.o.2.2);go_wp2_with fail;refine aL.o.mono ?_;rintro x W6 ⟨z,rfl,hZ,aG⟩;have H8:=zh (And.intro ((aG j rfl).trans S.o.1) hZ);clear hZ aG S;go_wp2_with fail;refine X.o _ _ H8.o.1 fun n=>?_;clear X
 try simp only[uZ]
 refine Pl [4,5,6,7,8] ?_
 iterate 5 (refine Pc rfl ?_;simp only[uZ])
 refine Pn ?_;clear n;refine odn ?_;rw[Q]at ad;go_wp2_with (refine zA1 rfl 35 (.tmp 9) rfl j rfl (L:=HeadL (H9 C fr tu)) H8.o.1 underlying35 rfl (by kernel_rfl) ?_)
 refine(ad.o _).mono ?_;rintro x W7 ⟨rfl,Y⟩;have ao:=zh (H8.o.2.next Y);clear Y H8;have HL:=zh (zER (m:=4) ao.o rfl);go_wp2_with fail;refine HL.o.mono ?_;rintro x W8 ⟨rfl,q,rfl⟩;have ac:=zh (ao.o.next (zAJ _ W7 q));generalize W7.drewN q=W8 at *;obtain⟨eb,l,vm,sm,tm,am,own,hS⟩:=ac.o.doS;have A:=aq.o hS.led.okD;have aK:=zh A;have ai:=zh (doany_calls hS ae.o o au.o (fun hm=>by
  obtain⟨D2,h2⟩:=A o.enc (by have:=aj.o hm;omega);exact⟨D2,_,_,h2,by show 4+1<4+16;decide⟩) aj.o)
 have HE:=zh (fun W=>r10any_calls W o au.o aj.o);have T:=zh (And.intro hS ((hS.led.bel.block _ (zAA D.o.2.1)).trans D.o.2.1));clear hS A ac
 by_cases e1:C=1
 ·subst e1;go_wp2_with (refine zA1 rfl 25 (.tmp 4) rfl w.heap.size rfl (L:=OpL o) T.o.2 underlying25 rfl (by kernel_rfl) ?_)
  refine ai.o.mono ?_;rintro e W9 ⟨x,i,f,aA,rfl,R,J,ab⟩;have s:=zh (And.intro R J);clear R J ab
  go_upto_region 11 with(first
   | (refine zAe rfl 48 rfl (zeroValue48 _) (by decide) ?_;intro av hn j P;have U:=zh (And.intro hn (And.intro j P));clear hn j P)
   | (refine zAg rfl 48 (.tmp 12) (.tmp 73) rfl W9.heap.size rfl (L:=zC6 x i) rfl U.o.1 rfl (by kernel_rfl) (zBA _ _) ?_;intro aw hn M;have j:=zAY (w:=W9) U.o.2.1 M (Nat.le_refl _);have t:=zh (And.intro ((j.block _ (zAA s.o.1)).trans s.o.1) (s.o.2.trans (j.mono s.o.2.size)));clear hn M j U s))
  try simp only[uZ]
  have H:=zh ((t.o.2.block _ (zAA D.o.2.1)).trans D.o.2.1);go_wp2_with (refine zA1 rfl 25 (.tmp 4) rfl w.heap.size rfl (L:=OpL o) H.o underlying25 rfl (by kernel_rfl) ?_)
  refine(HE.o _).mono ?_;rintro e ax ⟨v,b,y,rfl,N,E,j,aa⟩;have a:=zh (And.intro ((j.block _ (zAA t.o.1)).trans t.o.1) (t.o.2.trans (j.mono t.o.2.size)));clear N E j aa t H;have I:=zh (zDl a.o.1 (show(1:Int)≠3 by decide) 5 v);go_wp2_with fail;refine I.o.mono ?_;rintro e ay ⟨rfl,j⟩;have B:=zh (a.o.2.trans (j.mono a.o.2.size));clear j I a;go_wp2_with fail;refine(zCj _).mono ?_;rintro e az ⟨rfl,j⟩;have G:=zh (D.o.2.2.trans ((B.o.trans (j.mono B.o.size)).mono D.o.2.2.size));clear j B;go_wp2_with fail;go_ret;exact⟨rfl,G.o⟩
 by_cases e3:C=3
 ·subst e3;go_wp2_with (refine zA1 rfl 25 (.tmp 4) rfl w.heap.size rfl (L:=OpL o) T.o.2 underlying25 rfl (by kernel_rfl) ?_)
  refine ai.o.mono ?_;rintro e W9 ⟨x,i,f,aA,rfl,R,J,ab⟩;obtain⟨rfl,Z⟩:=ab (by show(3:Int)≠1;decide);have s:=zh (And.intro (T.o.1.next Z) J);clear R J Z
  go_upto_region 11 with(first
   | (refine zAe rfl 48 rfl (zeroValue48 _) (by decide) ?_;intro av hn j P;have U:=zh (And.intro hn (And.intro j P));clear hn j P)
   | (refine zAg rfl 48 (.tmp 12) (.tmp 73) rfl W9.heap.size rfl (L:=zC6 x i) rfl U.o.1 rfl (by kernel_rfl) (zBA _ _) ?_;intro aw hn M;have j:=zAY (w:=W9) U.o.2.1 M (Nat.le_refl _);have t:=zh (And.intro (s.o.1.next j) (s.o.2.trans (j.mono s.o.2.size)));clear hn M j U s))
  try simp only[uZ]
  have H:=zh ((t.o.2.block _ (zAA D.o.2.1)).trans D.o.2.1);go_wp2_with (refine zA1 rfl 25 (.tmp 4) rfl w.heap.size rfl (L:=OpL o) H.o underlying25 rfl (by kernel_rfl) ?_)
  refine(HE.o _).mono ?_;rintro e ax ⟨v,b,y,rfl,N,E,j,aa⟩;obtain⟨D2,A⟩:=aK.o b (by omega);have r:=t.o.1.add (G':=fun k=>v.ownBlock=some k) j (fun k hk=>.inr ⟨E k hk,OwnR.lt N hk⟩);have I:=zh (shipany_calls r rfl ae.o b N (fun k hk=>hk) (by omega) rfl A (by show 4+1<4+16;decide));have a:=zh (And.intro r.zon (And.intro r.led.bel r.lz));clear N E j aa t H A r;go_wp2_with fail;refine I.o.mono ?_;rintro e ay ⟨g,rfl,hz,j⟩;have B:=zh (And.intro hz (And.intro j a.o.2.2));clear hz j I a;have V:=zh (zEG B.o.1);go_wp2_with fail;refine V.o.mono ?_;rintro e az ⟨rfl,M⟩;have G:=zh (zAY B.o.2.1 M B.o.2.2);clear M V B;go_wp2_with fail;refine(zCj _).mono ?_;rintro e aN ⟨rfl,j⟩;have ag:=zh (D.o.2.2.trans ((G.o.trans (j.mono G.o.size)).mono D.o.2.2.size));clear j G;go_wp2_with fail;go_ret;exact⟨rfl,ag.o⟩
 have aS:(C != 1)=true:=by simpa using e1
 have aT:(C != 3)=true:=by simpa using e3
 have aR:decide (C=1)=false:=decide_eq_false e1;go_wp2_with (refine zA1 rfl 25 (.tmp 4) rfl w.heap.size rfl (L:=OpL o) T.o.2 underlying25 rfl (by kernel_rfl) ?_)
 refine ai.o.mono ?_;rintro e W9 ⟨x,i,f,aA,rfl,R,J,ab⟩;obtain⟨rfl,Z⟩:=ab (by exact e1);have s:=zh (And.intro (T.o.1.next Z) J);clear R J Z
 go_upto_region 11 with(first
  | (refine zAe rfl 48 rfl (zeroValue48 _) (by decide) ?_;intro av hn j P;have U:=zh (And.intro hn (And.intro j P));clear hn j P)
  | (refine zAg rfl 48 (.tmp 12) (.tmp 73) rfl W9.heap.size rfl (L:=zC6 x i) rfl U.o.1 rfl (by kernel_rfl) (zBA _ _) ?_;intro aw hn M;have j:=zAY (w:=W9) U.o.2.1 M (Nat.le_refl _);have t:=zh (And.intro (s.o.1.next j) (s.o.2.trans (j.mono s.o.2.size)));clear hn M j U s))
 try simp only[uZ]
 have H:=zh ((t.o.2.block _ (zAA D.o.2.1)).trans D.o.2.1);go_wp2_with (refine zA1 rfl 25 (.tmp 4) rfl w.heap.size rfl (L:=OpL o) H.o underlying25 rfl (by kernel_rfl) ?_)
 refine(HE.o _).mono ?_;rintro e ax ⟨v,b,y,rfl,N,E,j,aa⟩;have r:=t.o.1.next j;have I:=zh (zDl r.zon (show(H9 C fr tu).state≠3 from e3) 5 v);have a:=zh (And.intro r.zon (And.intro r.led.bel r.lz));clear N E j aa t H r;go_wp2_with fail;refine I.o.mono ?_;rintro e ay ⟨rfl,j⟩;have B:=zh (And.intro ((j.block _ (zAA a.o.1)).trans a.o.1) (And.intro (a.o.2.1.trans (j.mono a.o.2.1.size)) a.o.2.2));clear j I a;have V:=zh (zEG B.o.1);go_wp2_with fail;refine V.o.mono ?_;rintro e az ⟨rfl,M⟩;have G:=zh (zAY B.o.2.1 M B.o.2.2);clear M V B;go_wp2_with fail;refine(zCj _).mono ?_;rintro e aN ⟨rfl,j⟩;have ag:=zh (D.o.2.2.trans ((G.o.trans (j.mono G.o.size)).mono D.o.2.2.size));clear j G;go_wp2_with fail;go_ret;exact⟨rfl,ag.o⟩
end Go.Proofs.YtmcanphlgkolcaaGreatDoor
namespace Go.Proofs.YtmcanphlgkolcaaGreatDoor
open Go.RowKit Go.Sat Go.ChangeShapes Go.WideShapes Go.ChangeAt Go.Deep
theorem zC7 {W:World}{base:Nat}{x:Value}(h:Cell.okWide prog W .any base 3 x):∃z,x=.int .i64 z∧-9223372036854775808≤z∧z≤9223372036854775807:=by
 simp only[Cell.okWide,underlying3]at h;cases x<;>simp_all [Cell.ok]
 rename_i k z
 obtain⟨b,h⟩:=h;subst b;unfold IntKind.has at h;simp[IntKind.min,IntKind.max,IntKind.signed,IntKind.bits]at h;omega
theorem zD3 {W:World}{base:Nat}{x:Value}(h:Cell.okWide prog W .any base 9 x):∃s:ByteArray,x=.string s∧s.size≤9223372036854775807:=by
 simp only[Cell.okWide,underlying9]at h;cases x<;>simp_all [Cell.ok]
 have e:IntKind.i64.max=9223372036854775807:=rfl;omega
theorem cell_bool {W:World}{base:Nat}{x:Value}(h:Cell.okWide prog W .any base 4 x):∃s:Bool,x=.bool s:=by
 simp only[Cell.okWide,underlying4]at h;cases x<;>simp_all [Cell.ok]
theorem int_arg {W:World}{base:Nat}{v:Value}(b:Value.okWide prog W .any base 3 v):∃z,v=.int .i64 z∧-9223372036854775808≤z∧z≤9223372036854775807:=by
 simp only[Value.okWide,underlying3]at b;exact zC7 b
theorem list12:∀{l:List Value},l.length=12→∃x0 x1 x2 x3 x4 x5 x6 x7 x8 x9 x10 x11,l=[x0,x1,x2,x3,x4,x5,x6,x7,x8,x9,x10,x11]
 | [x0,x1,x2,x3,x4,x5,x6,x7,x8,x9,x10,x11],_=>⟨x0,x1,x2,x3,x4,x5,x6,x7,x8,x9,x10,x11,rfl⟩
def OpM.fits (o:OpM):Prop:=(zCs o.kind∧zCs o.client∧zCs o.seq)∧(o.atK.size≤9223372036854775807∧o.atW.size≤9223372036854775807∧o.toK.size≤9223372036854775807∧o.toW.size≤9223372036854775807)∧zCs o.item∧zCs o.count∧zCs o.price∧zCs o.id
theorem op_arg {W:World}{base:Nat}{v:Value}(r:Value.okWide prog W .any base 25 v):∃o:OpM,v=.agg (OpL o).toArray∧o.fits:=by
 have j:prog.cellsOf 25=12:=by kernel_rfl
 have c:prog.cellTypes prog.depth 25=some [3,3,3,9,9,9,9,3,3,3,4,3]:=by kernel_rfl
 simp only[Value.okWide,underlying25]at r;obtain⟨⟨l⟩,rfl,b,ts,G,-,H⟩:=r;rw[j]at b;rw[G]at c;cases c;obtain⟨R,S,T,U,V,X,Y,Z,K,x9,n,p,rfl⟩:=list12 (by simpa using b);have g:∀(i:Nat) (u:Nat) (x:Value),[R,S,T,U,V,X,Y,Z,K,x9,n,p].toArray[i]?=some x→[3,3,3,9,9,9,9,3,3,3,4,3][i%12]?=some u→Cell.okWide prog W .any base u x:=fun i u x L J=>by
  obtain⟨Q,k,I⟩:=H i x L;have e:some u=some Q:=J.symm.trans k;cases e;exact I
 obtain⟨z0,rfl,s,b0⟩:=zC7 (g 0 _ _ rfl rfl);obtain⟨z1,rfl,t,A⟩:=zC7 (g 1 _ _ rfl rfl);obtain⟨z2,rfl,y,B⟩:=zC7 (g 2 _ _ rfl rfl);obtain⟨M,rfl,b3⟩:=zD3 (g 3 _ _ rfl rfl);obtain⟨N,rfl,C⟩:=zD3 (g 4 _ _ rfl rfl);obtain⟨O,rfl,b5⟩:=zD3 (g 5 _ _ rfl rfl);obtain⟨P,rfl,b6⟩:=zD3 (g 6 _ _ rfl rfl);obtain⟨z7,rfl,z,D⟩:=zC7 (g 7 _ _ rfl rfl);obtain⟨z8,rfl,a,E⟩:=zC7 (g 8 _ _ rfl rfl);obtain⟨z9,rfl,h,F⟩:=zC7 (g 9 _ _ rfl rfl);obtain⟨m,rfl⟩:=cell_bool (g 10 _ _ rfl rfl);obtain⟨q,rfl,d,f⟩:=zC7 (g 11 _ _ rfl rfl);exact⟨⟨z0,z1,z2,M,N,O,P,z7,z8,z9,m,q⟩,rfl,⟨zBx ⟨s,b0⟩,zBx ⟨t,A⟩,zBx ⟨y,B⟩⟩,⟨b3,C,b5,b6⟩,zBx ⟨z,D⟩,zBx ⟨a,E⟩,zBx ⟨h,F⟩,zBx ⟨d,f⟩⟩
def zAj.fits (h:zAj):Prop:=(zCs h.id∧zCs h.epoch∧zCs h.state)∧h.fr.size≤9223372036854775807∧h.tu.size≤9223372036854775807
theorem list2:∀{l:List Value},l.length=2→∃x0 x1,l=[x0,x1]
 | [x0,x1],_=>⟨x0,x1,rfl⟩
theorem span_arg {W:World}{base:Nat}{v:Value}(j:Value.okWide prog W .any base 27 v):∃a b:ByteArray,v=.agg #[.string a,.string b]∧a.size≤9223372036854775807∧b.size≤9223372036854775807:=by
 have n:prog.cellsOf 27=2:=by kernel_rfl
 have d:prog.cellTypes prog.depth 27=some [9,9]:=by kernel_rfl
 simp only[Value.okWide,underlying27]at j;obtain⟨⟨l⟩,rfl,c,h,m,-,o⟩:=j;rw[n]at c;rw[m]at d;cases d;obtain⟨y,z,rfl⟩:=list2 (by simpa using c);have g:∀(i:Nat) (u:Nat) (x:Value),[y,z].toArray[i]?=some x→[9,9][i%2]?=some u→Cell.okWide prog W .any base u x:=fun i u x r q=>by
  obtain⟨t,f,p⟩:=o i x r;have e:some u=some t:=q.symm.trans f;cases e;exact p
 obtain⟨s0,rfl,b0⟩:=zD3 (g 0 _ _ rfl rfl);obtain⟨s,rfl,k⟩:=zD3 (g 1 _ _ rfl rfl);exact⟨s0,s,rfl,b0,k⟩
end Go.Proofs.YtmcanphlgkolcaaGreatDoor
