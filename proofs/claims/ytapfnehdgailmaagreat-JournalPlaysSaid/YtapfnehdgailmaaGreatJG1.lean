/- What the program's functions and the document's do, and plain laws, for PJournalPlays. -/
import Derived.Deep.CutRange
import Derived.Test.YtapfnehdgailmaaGreatJB
import Derived.Test.YtapfnehdgailmaaGreatJC1
import Derived.Test.YtapfnehdgailmaaGreatJD1
import Derived.Test.YtapfnehdgailmaaGreatJE
import Derived.Test.YtapfnehdgailmaaGreatJE1
import Derived.Test.YtapfnehdgailmaaGreatJF1
import Derived.Test.YtapfnehdgailmaaGreatJH
import Derived.Test.YtapfnehdgailmaaGreatJI
import Derived.Test.YtapfnehdgailmaaGreatJK
import Derived.Test.YtapfnehdgailmaaGreatJW
open Go.Proofs.Tryz
set_option maxRecDepth 100000
set_option maxHeartbeats 64000000
namespace Go.Proofs.YtapfnehdgailmaaGreat
open Go.RowKit Go.Sat Go.Maps
theorem stood_calls {w W:World}{pb j d x r:Nat}{D:zAA}{M:zAJ}{G:Nat→Prop}(h:zA6 w W j d x r D M D M G)(hp:W.heap[pb]?=some (zCg d r (.pointer (some ⟨j,0,none⟩)) (.pointer (some ⟨x,0,none⟩)) false)) :
  Calls prog 64 #[.pointer (some ⟨pb,0,none⟩)] W (True3 W):=by
 have an:=zW (∀J,Below W.heap.size W J→Calls prog 19 #[.pointer (some ⟨j,0,none⟩),.pointer (some ⟨x,0,none⟩)] J (zBL J M M)) (fun J g=>by
  obtain⟨F,ay,ax,hL,hR,-⟩:=h.next g;exact alike_calls hL hR.new)
 obtain⟨own,v,L,hS,hR,-⟩:=h.pairF;have HS:=zh hS;have HR:=zh hR;have s:=zh hp;have C:=zh (fun J (g:Below W.heap.size W J)=>st_list (hS.next g));have E:=zh (fun J (g:Below W.heap.size W J)=>rlist_calls (hR.below g));have ai:(zCK D).length≤4096:=by unfold zCK;rw[List.length_map];exact hS.ok.count
 have ap:=zW (∀x∈zCK D,x.length≤64) (fun x hx=>by
  obtain⟨q,hq,rfl⟩:=List.mem_map.1 hx;exact(okN_string (hS.ok.names q hq)).2)
 have Y:=zh (fun n=>zEH hS.ok n);clear hS hR h hp
 go_enter func64,ntmps64
 go_wp2_with fail;refine ost (fun w:World=>w.heap[pb]?=some (zCg d r (.pointer (some ⟨j,0,none⟩)) (.pointer (some ⟨x,0,none⟩)) false)) 10 s.o fun c=>?_;have l:=zh (zAP W);have Ha:=zh (an.o _ (zAP W));clear s;generalize W.drew=Wd at *;refine Pl [0,1,2,3,4,5,6,7] ?_
 iterate 8 (refine Pd rfl (by intro w g;have S:=zAU g;have p1:=zAY g;have p2:=zAX g;have p3:=zAf g;go_simp;try with_reducible rfl) ?_;simp only[uZ])
 refine Pn ?_;refine oon 8 rfl fun K N=>?_;go_wp2_with fail;refine Ha.o.mono ?_;rintro e w3 ⟨b,rfl,g,f⟩;obtain rfl:=g (JEq.refl M);have p:=zW ((fun w:World=>w.heap[pb]?=some (zCg d r (.pointer (some ⟨j,0,none⟩)) (.pointer (some ⟨x,0,none⟩)) false)) w3) ((f.block pb (zAB c)).trans c);have t:=zh (l.o.trans (f.mono l.o.size));clear g f l c;go_wp2_with fail;refine N.o _ _ p.o fun c=>?_;clear N p
 try simp only[uZ]
 refine Pl [9] ?_
 iterate 1 (refine Pc rfl ?_;simp only[uZ])
 refine Pn ?_;refine odn ?_;have s:=zh c;clear c;have S:=zAU s.o;have p1:=zAY s.o;have E:=zh (E.o w3 t.o);go_wp2_with fail;refine E.o.mono ?_;rintro e w1 ⟨v2,rfl,ae,-,R⟩;have P:=zh ((R.block pb (zAB s.o)).trans s.o);have O:=zh (t.o.trans (R.mono t.o.size));have aq:=zW (HasN w1 v2 (zCK D)) (OwnR.holds ae);have C:=zh (C.o w1 O.o);clear R ae E t s S p1;have S:=zAU P.o;go_wp2_with fail;refine C.o.mono ?_;rintro e w2 ⟨v1,rfl,ad,-,H,-⟩;have T:=zh (O.o.trans (H.mono O.o.size));have al:=zh ((H.block pb (zAB P.o)).trans P.o);have ac:HasN w2 v1 (zCK D):=OwnR.holds ad;have I:HasN w2 v2 (zCK D):=zAK.chg aq.o (Chg.of_below H) fun _ _=>id;obtain⟨p2,c2,e2⟩:=I.slice;subst e2;have aj:=zh I;have aa:=zh (texts5_calls ac I (by omega) (by omega));rw[show(zCK D==zCK D)=true from beq_self_eq_true _]at aa;clear ad H C ac I S;generalize av:zCK D=nl at *;generalize hN:nl.length=nn at *;have HN:=zh hN;clear av hN;go_wp2_with fail;refine aa.o.mono ?_;rintro e w4 ⟨rfl,q,rfl⟩;have U:=zh (T.o.trans ((zAa w2 q).mono T.o.size));have V:=zW ((w2.drewN q).heap[pb]?=_) al.o;have ak:=zW (HasN (w2.drewN q) (.slice p2 nn c2) nl) (zAK.chg aj.o (Chg.of_below (zAa w2 q)) fun _ _=>id);generalize w2.drewN q=w4 at *;go_wp2_with fail
 go_loopw [4] (fun i wr=>∃k:Nat,k≤nn∧i=.int .i64 k∧Below w4.heap.size w4 wr) (fun i _=>nn-(intOf i).toNat)
 case atStart=>exact⟨0,Nat.zero_le _,rfl,Below.refl _ _⟩
 case round =>
  obtain⟨k,hk,rfl,g⟩:=hrel;have t:=zh (U.o.trans (g.mono U.o.size))
  by_cases au:k<nn
  ·have B:k<nl.length:=by rw[HN.o];exact au
   have hy:=List.getElem?_eq_getElem B;have aw:=ap.o _ (List.getElem_mem B);rcases HasN.at ak.o with h0|⟨b2,o2,c4,e2,ab⟩
   ·rw[h0]at B;simp at B
   rw[HN.o]at e2;cases e2;have m:=ab k _ hy;rw[enc_str]at m;replace m:=zA2 g m;have s:=zh ((g.block pb (zAB V.o)).trans V.o);have a:=zh g;generalize nl[k]=y at *;have ah:(⟨y.toArray⟩:ByteArray).size≤9223372036854775807:=by
    have:(⟨y.toArray⟩:ByteArray).size=y.length:=by rw[←nm_len,nm_str]
    omega
   have ar:=zh ah;clear ab B hy aw g ah;go_wp2_with fail;refine ost (fun w:World=>w.heap[pb]?=some (zCg d r (.pointer (some ⟨j,0,none⟩)) (.pointer (some ⟨x,0,none⟩)) false)∧w.cell? ⟨b2,o2+k,none⟩=some (.string ⟨y.toArray⟩)) 14 ⟨s.o,m⟩ fun c=>?_;have l:=zh (t.o.trans ((zAP wr).mono t.o.size));have z:=zh (a.o.trans ((zAP wr).mono a.o.size));clear a;clear s m t;generalize wr.drew=W5 at *;refine Pl [0,1,2,3,4,5,6,7] ?_
   iterate 8 (refine Pd rfl (by intro w Q;obtain⟨g,m⟩:=Q;have S:=zAU g;have p1:=zAY g;have p2:=zAX g;have p3:=zAf g;go_simp;try with_reducible rfl) ?_;simp only[uZ])
   refine Pn ?_;refine oon 8 rfl fun K N=>?_;have A:=zh (st_read (HS.o.next l.o) ⟨y.toArray⟩ ar.o);go_wp2_with fail;refine A.o.mono ?_;rintro e w5 ⟨v5,rfl,af,-,f,-⟩;have p:=zW ((fun w:World=>w.heap[pb]?=some (zCg d r (.pointer (some ⟨j,0,none⟩)) (.pointer (some ⟨x,0,none⟩)) false)∧w.cell? ⟨b2,o2+k,none⟩=some (.string ⟨y.toArray⟩)) w5) (⟨(f.block pb (zAB c.1)).trans c.1,zA2 f c.2⟩);have t:=zh (l.o.trans (f.mono l.o.size));have a:=zh (z.o.trans (f.mono z.o.size));have X:=zh af;clear af f z;clear l A c;go_wp2_with fail;refine N.o _ _ p.o fun c=>?_;clear N p
   try simp only[uZ]
   refine Pl [9,10,11,12,13] ?_
   iterate 5 (refine Pc rfl ?_;simp only[uZ])
   refine Pn ?_;refine odn ?_;have s:=zh c.1;have m:=c.2;clear c;go_wp2_with fail;refine ost (fun w:World=>w.heap[pb]?=some (zCg d r (.pointer (some ⟨j,0,none⟩)) (.pointer (some ⟨x,0,none⟩)) false)∧w.cell? ⟨b2,o2+k,none⟩=some (.string ⟨y.toArray⟩)) 14 ⟨s.o,m⟩ fun c=>?_;have l:=zh (t.o.trans ((zAP w5).mono t.o.size));have z:=zh (a.o.trans ((zAP w5).mono a.o.size));have am:=zh (zGA X.o (zAP w5));clear a X;clear s m t;generalize w5.drew=W6 at *;refine Pl [0,1,2,3,4,5,6,7] ?_
   iterate 8 (refine Pd rfl (by intro w Q;obtain⟨g,m⟩:=Q;have S:=zAU g;have p1:=zAY g;have p2:=zAX g;have p3:=zAf g;go_simp;try with_reducible rfl) ?_;simp only[uZ])
   refine Pn ?_;refine oon 8 rfl fun K N=>?_;have A:=zh (zCM (HR.o.below l.o) ⟨y.toArray⟩);go_wp2_with fail;refine A.o.mono ?_;rintro e w6 ⟨v6,rfl,ag,-,f⟩;have p:=zW ((fun w:World=>w.heap[pb]?=some (zCg d r (.pointer (some ⟨j,0,none⟩)) (.pointer (some ⟨x,0,none⟩)) false)∧w.cell? ⟨b2,o2+k,none⟩=some (.string ⟨y.toArray⟩)) w6) (⟨(f.block pb (zAB c.1)).trans c.1,zA2 f c.2⟩);have t:=zh (l.o.trans (f.mono l.o.size));have a:=zh (z.o.trans (f.mono z.o.size));have X:=zh (zGA am.o f).has;have HW:=zh ag.has;clear ag f z;clear l A c;go_wp2_with fail;refine N.o _ _ p.o fun c=>?_;clear N p
   try simp only[uZ]
   refine Pl [9,10,11,12,13] ?_
   iterate 5 (refine Pc rfl ?_;simp only[uZ])
   refine Pn ?_;refine odn ?_;have s:=zh c.1;have m:=c.2;clear c;go_wp2_with fail;have Z:=zh (zEb X.o HW.o (by have:=Y.o (nm ⟨y.toArray⟩);omega) (by have:=Y.o (nm ⟨y.toArray⟩);omega));rw[beq_self_eq_true]at Z;clear X s t m;go_wp2_with fail;refine Z.o.mono ?_;rintro e w7 ⟨rfl,q,rfl⟩;have ao:=zh (a.o.trans ((zAa w6 q).mono a.o.size));clear a;go_wp2_with fail;go_roundw
   case rel=>exact⟨k+1,by omega,by go_num,ao.o⟩
   case measure=>simp[intOf];omega
  ·have HE:=t.o;clear g;go_wp2_with fail;go_ret;exact⟨rfl,HE⟩
theorem known5_calls (w:World):Calls prog 20 #[] w fun e w'=>e=.returned (.bool true)∧Below w.heap.size w w':=by
 have ai:=zh (start_calls w 65536 (by decide) (by decide));obtain⟨D1,D2,L,M⟩:=known5;have aa:=zh L;have ab:=zh M;clear L M;have kc:=fun(w:World) (C:Array Value) (n c:Nat)=>Lib.run_convert_bytes_const (P:=prog) w 22 5 C n c underlying22 underlying5
 go_enter func20,ntmps20
 go_wp2_with fail;refine ai.o.mono ?_;rintro e w1 ⟨p,d,r,rfl,⟨j,x,hJ,hp⟩,-⟩;have HJ:=zh hJ;have Hp:=zh hp;have c2:=zAX hp;clear hJ hp;have V:=zW (zAk w ((w1.alloc (.cells #[.int .u8 120] 5 (1,2))).alloc (.cells #[.int .i64 1,.int .i64 0,.slice none 0 0,.slice none 0 0,.int .i64 2,.int .i64 1,.slice (some ⟨w1.heap.size,0,none⟩) 1 1,.slice none 0 0] 50)) j d sA (zDS 65536 [97] zEL) (zAJ.none0 zEL) (fun k=>(k=p∨k=w1.heap.size)∨k=w1.heap.size+1)) (by
  have:=(HJ.o.box (.cells #[.int .u8 120] 5 (1,2))).box (.cells #[.int .i64 1,.int .i64 0,.slice none 0 0,.slice none 0 0,.int .i64 2,.int .i64 1,.slice (some ⟨w1.heap.size,0,none⟩) 1 1,.slice none 0 0] 50);simpa using this)
 have D:((w1.alloc (.cells #[.int .u8 120] 5 (1,2))).alloc (.cells #[.int .i64 1,.int .i64 0,.slice none 0 0,.slice none 0 0,.int .i64 2,.int .i64 1,.slice (some ⟨w1.heap.size,0,none⟩) 1 1,.slice none 0 0] 50)).heap[w1.heap.size]?=some (.cells #[.int .u8 120] 5 (1,2)):=zBB _ (zAI w1 _);have E:((w1.alloc (.cells #[.int .u8 120] 5 (1,2))).alloc (.cells #[.int .i64 1,.int .i64 0,.slice none 0 0,.slice none 0 0,.int .i64 2,.int .i64 1,.slice (some ⟨w1.heap.size,0,none⟩) 1 1,.slice none 0 0] 50)).heap[w1.heap.size+1]?=some (.cells #[.int .i64 1,.int .i64 0,.slice none 0 0,.slice none 0 0,.int .i64 2,.int .i64 1,.slice (some ⟨w1.heap.size,0,none⟩) 1 1,.slice none 0 0] 50):=by have:=zAI (w1.alloc (.cells #[.int .u8 120] 5 (1,2))) (.cells #[.int .i64 1,.int .i64 0,.slice none 0 0,.slice none 0 0,.int .i64 2,.int .i64 1,.slice (some ⟨w1.heap.size,0,none⟩) 1 1,.slice none 0 0] 50);simpa using this
 have U:=zW (∀W,Below w.heap.size w W→Same (fun k=>(k=p∨k=w1.heap.size)∨k=w1.heap.size+1) ((w1.alloc (.cells #[.int .u8 120] 5 (1,2))).alloc (.cells #[.int .i64 1,.int .i64 0,.slice none 0 0,.slice none 0 0,.int .i64 2,.int .i64 1,.slice (some ⟨w1.heap.size,0,none⟩) 1 1,.slice none 0 0] 50)) W→zCG W (.slice (some ⟨w1.heap.size+1,0,none⟩) 2 2) [ke1,ke2] [(.slice none 0 0,.slice none 0 0),(.slice (some ⟨w1.heap.size,0,none⟩) 1 1,.slice none 0 0)]) (fun W _ Q=>by
  have h1:=(Q w1.heap.size (.inl (.inr rfl))).trans D;have h2:=(Q (w1.heap.size+1) (.inr rfl)).trans E;have f:∀l:List Value,l=[]→zAK W 1 (.slice none 0 0) 0 l:=fun l e=>by rw[e];exact⟨rfl,none,0,rfl,fun _=>rfl,fun a m=>by cases m⟩
  refine⟨rfl,⟨rfl,some ⟨w1.heap.size+1,0,none⟩,2,rfl,fun e=>(by cases e),fun a m i u y=>?_⟩,fun i e v H g=>?_⟩
  ·cases m;rw[add_zero];refine zAG h2 ?_;simpa[zA3,zEq,ke1,ke2]using y
  ·match i,H,g with
   | 0,H,g =>
    cases H;cases g;exact⟨f _ rfl,f _ rfl,by decide,by decide⟩
   | 1,H,g =>
    cases H;cases g;refine⟨⟨rfl,some ⟨w1.heap.size,0,none⟩,1,rfl,fun e=>(by cases e),fun a m i u y=>?_⟩,f _ rfl,by decide,by decide⟩;cases m;rw[add_zero];refine zAG h1 ?_;simpa[zAR,ke2]using y)
 have h:=zh (zF5 V.o U.o (by decide));rw[show zAn (nm sA) (zDS 65536 [97] zEL) (zAJ.none0 zEL) [ke1,ke2]=⟨D1,kM1,0⟩from aa.o]at h;have ad:=zh (zBB (.cells #[.int .i64 1,.int .i64 0,.slice none 0 0,.slice none 0 0,.int .i64 2,.int .i64 1,.slice (some ⟨w1.heap.size,0,none⟩) 1 1,.slice none 0 0] 50) (zBB (.cells #[.int .u8 120] 5 (1,2)) Hp.o));clear D E;go_wp2_with fail;refine h.o.mono ?_;rintro e w2 ⟨rfl,I,N⟩;have X:=zh (I.less (F':=fun k=>k=p) fun k hk=>.inl (.inl hk));have B:=zh ((N p (.inl (.inl rfl))).trans ad.o);have d2:=zAX B.o;clear I N c2;have Y:=zh (X.o.box (.cells #[.int .u8 115] 5 (1,2)));have F:=zAI w2 (.cells #[.int .u8 115] 5 (1,2));have A:=zh (zFX Y.o (show kM1.entries.length≤1000000 by decide) 1 (by decide) (pd:=some ⟨w2.heap.size,0,none⟩) (n:=1) (cd:=1) (b:=[115]) rfl (by decide) fun W _ Q=>⟨rfl,some ⟨w2.heap.size,0,none⟩,1,rfl,fun e=>(by cases e),fun a m i u y=>by
  cases m;rw[add_zero];refine zAG ((Q w2.heap.size (.inr rfl)).trans F) ?_;simpa[zAR]using y⟩)
 rw[show zAe (nm sA) D1 kM1 1 [115]=⟨D2,kM2,0⟩from ab.o]at A;have ae:=zh (zBB (.cells #[.int .u8 115] 5 (1,2)) B.o);clear F;go_wp2_with fail;refine A.o.mono ?_;rintro e w3 ⟨rfl,J,O⟩;have s:=zh J;have af:=zh ((O p (.inl rfl)).trans ae.o);have e2:=zAX af.o;have K:=zh (zFh s.o);clear J O d2;go_wp2_with fail;refine K.o.mono ?_;rintro e w4 ⟨rfl,R,rfl⟩;have Z:=zh (s.o.drewN R);have ac:=zh (zCl Z.o);have e2:(w3.drewN R).cell? ⟨p,2,none⟩=some (.pointer (some ⟨j,0,none⟩)):=e2;rw[show((kM2.number:Nat):Int)=1 from rfl,show kM2.term=1 from rfl];go_wp2_with fail;refine ac.o.mono ?_;rintro e w5 ⟨rfl,q5,rfl⟩;rw[show((kM2.last:Nat):Int)=2 from rfl,show kM2.lastT=2 from rfl];have t:=zh (s.o.drewN (R+q5));have ah:=zh (jsnap_calls t.o);have e3:((w3.drewN R).drewN q5).cell? ⟨p,2,none⟩=some (.pointer (some ⟨j,0,none⟩)):=e2;go_wp2_with fail;refine ah.o.mono ?_;rintro e q ⟨v,u,rfl,g,-,-,G⟩;have z:=zW (Below w.heap.size w q) (t.o.bel.trans (G.mono t.o.bel.size));have g:zAi q 5 v [115]:=g;have Hv:=zW (zAb (q.alloc (.cells #[.int .u8 115] 5 (1,2))) v [115]) ((zCD g (zAD q (.cells #[.int .u8 115] 5 (1,2)))).has);obtain⟨pv,cv,rfl,-⟩:=zAL g;have Hl:=zW (zAb (q.alloc (.cells #[.int .u8 115] 5 (1,2))) (.slice (some ⟨q.heap.size,0,none⟩) 1 1) [115]) (⟨rfl,some ⟨q.heap.size,0,none⟩,1,rfl,fun e=>(by cases e),fun a m i u y=>by
  cases m;rw[add_zero];refine zAG (zAI q _) ?_;simpa[zAR]using y⟩)
 have ag:=zh (zEb Hv.o Hl.o (by decide) (by decide));have S:=zh (z.o.alloc z.o.size (.cells #[.int .u8 115] 5 (1,2)));clear g G;go_wp2_with fail;refine ag.o.mono ?_;rintro e w7 ⟨rfl,n7,rfl⟩;have T:=zh (S.o.trans ⟨rfl,rfl,rfl,Nat.le_refl _,fun _ _=>rfl⟩:Below w.heap.size w ((q.alloc (.cells #[.int .u8 115] 5 (1,2))).drewN n7));rw[show((([115]:Bs)==[115]):Bool)=true from rfl];go_wp2_with fail;go_ret;exact⟨rfl,T.o⟩
theorem zC6.below {w W:World}{v:Value}{es:List Ent}{f:List EV}(h:zC6 w v es f)(b:Below w.heap.size w W):zC6 W v es f :=
 ⟨h.1,zAK.chg h.2.1 (Chg.of_below b) fun _ _=>id,fun i e u c d=>⟨zAb.below (h.2.2 i e u c d).1 b,zAK.chg (h.2.2 i e u c d).2.1 (Chg.of_below b) fun _ _=>id,(h.2.2 i e u c d).2.2⟩⟩
theorem Step5At.below {w W:World}{g j:Nat}{s:zDn}(h:Step5At w g j s)(b:Below w.heap.size w W):Step5At W g j s :=
 ⟨zA2 b h.ck,zA2 b h.ca,zA2 b h.cb,zA2 b h.c3,zA2 b h.c4,zA2 b h.c5,h.he.below b,zAK.chg h.hn (Chg.of_below b) fun _ _=>id,zAb.below h.hd b,h.ok⟩
theorem Steps5.below {w W:World}{p:Option Addr}{n:Nat}{l:List zDn}(h:Steps5 w p n l)(c:Below w.heap.size w W):Steps5 W p n l :=
 ⟨h.1,h.2.imp id fun⟨g,o,e,b⟩=>⟨g,o,e,fun i s d=>(b i s d).below c⟩⟩
theorem jplays_walk {w:World}{p:Option Addr}{n c:Nat}{l:List zDn}(hx:Steps5 w p n l)(hn:n≤140737488355328)(room:Int)(hr:-9223372036854775808≤room∧room≤9223372036854775807) :
  Calls prog 12 #[.int .i64 room,.slice p n c] w (True3 w):=by
 have ar:=zh (heavy5_calls (c:=c) hx hn);have H:=zh (fun W=>known5_calls W)
 go_enter func12,ntmps12
 go_wp2_with fail;refine ar.o.mono ?_;rintro e w1 ⟨hv,rfl,J,q,rfl⟩;have S:=zh J;have Hx:=zh (hx.below (zAa w q));have A:=zW (Below w.heap.size w (w.drewN q)) (zAa w q);clear J hx;generalize w.drewN q=U at *;cases hv with
 | true =>
  go_wp2_with fail;refine(H.o _).mono ?_;rintro e O ⟨rfl,v⟩;have L:=zW (Below w.heap.size w O) ((A.o).trans (v.mono (A.o).size));go_wp2_with fail;go_ret;exact⟨rfl,L.o⟩
 | false =>
  by_cases h1:room<200
  ·have ay:=h1;go_wp2_with fail;refine(H.o _).mono ?_;rintro e O ⟨rfl,v⟩;have L:=zW (Below w.heap.size w O) ((A.o).trans (v.mono (A.o).size));go_wp2_with fail;go_ret;exact⟨rfl,L.o⟩
  by_cases h2:1048576<room
  ·have az:=h2;go_wp2_with fail;refine(H.o _).mono ?_;rintro e O ⟨rfl,v⟩;have L:=zW (Below w.heap.size w O) ((A.o).trans (v.mono (A.o).size));go_wp2_with fail;go_ret;exact⟨rfl,L.o⟩
  obtain⟨rm,rfl⟩:∃rm:Nat,room=(rm:Int):=⟨room.toNat,by omega⟩;have ak:=zh (show rm≤1048576 by omega);have au:=zh (start2_calls U rm (by omega) (by omega));go_wp2_with fail;refine au.o.mono ?_;rintro e w2 ⟨pb,d,r,rfl,⟨j,x,B,m,hJ,hp,hR,K⟩,am⟩;have aq:=zW (zA6 U w2 j d x r _ _ _ _ (fun k=>k=pb)) (⟨fun k=>k=pb∨B k∨m k,B,m,hJ,hR,fun k hk=>⟨.inr hk,(K k hk).1⟩,fun k hk=>⟨.inl hk,fun e=>(K k (.inl e)).2 hk,fun e=>(K k (.inr e)).2 hk⟩⟩);have ap:=zh hp;have aj:=zh am;clear hJ hp hR K am;go_wp2_with fail
  go_loopw [7] (fun i wr=>∃(k j x:Nat) (D:zAA) (M:zAJ),k≤n∧k≤80∧i=.int .i64 k∧zA6 U wr j d x r D M D M (fun k=>k=pb)∧wr.heap[pb]?=some (zCg d r (.pointer (some ⟨j,0,none⟩)) (.pointer (some ⟨x,0,none⟩)) false)∧Inv5 rm k D M) (fun i _=>n-(intOf i).toNat)
  case atStart=>exact⟨0,j,x,_,_,Nat.zero_le _,by omega,rfl,aq.o,ap.o,inv_start⟩
  case round =>
   obtain⟨k,j,x,D,M,hk,aA,rfl,hY,hP,hI⟩:=hrel;have N:=zh hY;have HP:=zh hP;have Q:=zh hI;clear hY hP hI
   by_cases aB:k<n
   ·by_cases av:k<80
    ·have Y:k<l.length:=by have:=Hx.o.1;omega
     obtain⟨s,hs⟩:∃s,l[k]?=some s:=⟨_,List.getElem?_eq_getElem Y⟩;rcases Hx.o.2 with aw|⟨g,o,rfl,al⟩
     ·rw[aw]at Y;simp at Y
     have f:=al k s hs;have ai:=S.o rfl k s av hs;have ae:=zh (f.he.has fun e he=>by have:=ai.2.2.2 e he;omega);have ah:=zh f.hn;have ad:=zh f.hd;obtain⟨ax,an,ao,-⟩:=f.ok;obtain⟨kd,a,b,pl,nl,cl,pn,nn,cn,pd,nd,cd,es,vs,nodes,aa⟩:=s;have h:=N.o.bel;have c0:wr.cell? ⟨g,o+k*6,none⟩=some (.int .i64 kd):=(h.cell (World.block_lt_of_cell? U _ f.ck)).trans f.ck;have c1:wr.cell? ⟨g,o+k*6+1,none⟩=some (.int .i64 a):=(h.cell (World.block_lt_of_cell? U _ f.ca)).trans f.ca;have c2:wr.cell? ⟨g,o+k*6+2,none⟩=some (.int .i64 b):=(h.cell (World.block_lt_of_cell? U _ f.cb)).trans f.cb;have c3:wr.cell? ⟨g,o+k*6+3,none⟩=some (.slice pl nl cl):=(h.cell (World.block_lt_of_cell? U _ f.c3)).trans f.c3;have c4:wr.cell? ⟨g,o+k*6+4,none⟩=some (.slice pn nn cn):=(h.cell (World.block_lt_of_cell? U _ f.c4)).trans f.c4;have c5:wr.cell? ⟨g,o+k*6+5,none⟩=some (.slice pd nd cd):=(h.cell (World.block_lt_of_cell? U _ f.c5)).trans f.c5;have R:=zh ai;have af:=zh an;have ag:=zh ao;dsimp only at ax af ag ae ah ad;have p3:=zAf HP.o;have y:wr.cell? ⟨x,9,none⟩=some (.bool M.dead):=by
      obtain⟨F,B,m,-,hR,-⟩:=N.o;obtain⟨gv,dv,ev,hc⟩:=hR.cellsD;exact zAG hc rfl
     clear f al hs Y ai an ao h;cases X:M.dead with
     | true =>
      rw[X]at y;clear X
      by_cases k6:kd=6
      ·subst k6;have Hd:=zh (does_calls (kd:=6) (a:=a) (b:=b) N.o HP.o ae.o ah.o ad.o af.o ag.o R.o (by have:=Q.o.ents;omega) aj.o (by have:=Q.o.small.1;omega) fun _=>snp_few Q.o.small a);have G:=zh (inv_does Q.o (by obtain⟨F,B,m,hL,-⟩:=N.o;exact hL.okM) (by obtain⟨F,B,m,hL,-⟩:=N.o;exact hL.okD) ak.o R.o);generalize zEo ⟨6,a,b,pl,nl,cl,pn,nn,cn,pd,nd,cd,es,vs,nodes,aa⟩ D M=Z at *;obtain⟨D9,T,ov⟩:=Z;go_wp2_with fail;refine Hd.o.mono ?_;rintro e w5 ⟨rfl,j',x',E,V,hF⟩;have t:=zh E;dsimp only at E V hF G;clear Hd c0 c1 c2 c3 c4 c5 y p3;have p4:=zDD E;clear E;cases ov with
       | true =>
        have HT:=zh (V rfl);clear V hF;go_wp2_with fail;refine(H.o _).mono ?_;rintro e O ⟨rfl,v⟩;have L:=zW (Below w.heap.size w O) ((A.o.trans (HT.o.mono A.o.size)).trans (v.mono (A.o.trans (HT.o.mono A.o.size)).size));go_wp2_with fail;go_ret;exact⟨rfl,L.o⟩
       | false =>
        have z:=zh (hF rfl);clear V hF;have p3:=zAf t.o;have P:=zh (stood_calls z.o t.o);have y:w5.cell? ⟨x',9,none⟩=some (.bool T.dead):=by
         obtain⟨F,B,m,-,hR,-⟩:=z.o;obtain⟨gv,dv,ev,hc⟩:=hR.cellsD;exact zAG hc rfl
        cases C:T.dead with
        | true =>
         rw[C]at y;clear C;go_wp2_with fail;go_roundw
         case rel=>exact⟨k+1,j',x',D9,T,by omega,by omega,by go_num,z.o,t.o,G.o⟩
         case measure=>simp[intOf];omega
        | false =>
         rw[C]at y;clear C;go_wp2_with fail;refine P.o.mono ?_;rintro e w6 ⟨rfl,I⟩;have ac:=zh (z.o.next I);have ab:=zh ((I.block pb (zAB t.o)).trans t.o);clear I P z t p3 p4 y;go_wp2_with fail;go_roundw
         case rel=>exact⟨k+1,j',x',D9,T,by omega,by omega,by go_num,ac.o,ab.o,G.o⟩
         case measure=>simp[intOf];omega
      ·have aC:(kd != 6)=true:=by simpa using k6
       go_wp2_with fail;go_roundw
       case rel=>exact⟨k+1,j,x,D,M,by omega,by omega,by go_num,N.o,HP.o,Q.o.more⟩
       case measure=>simp[intOf];omega
     | false =>
      rw[X]at y;clear X;have Hd:=zh (does_calls (kd:=kd) (a:=a) (b:=b) N.o HP.o ae.o ah.o ad.o af.o ag.o R.o (by have:=Q.o.ents;omega) aj.o (by have:=Q.o.small.1;omega) fun _=>snp_few Q.o.small a);have G:=zh (inv_does Q.o (by obtain⟨F,B,m,hL,-⟩:=N.o;exact hL.okM) (by obtain⟨F,B,m,hL,-⟩:=N.o;exact hL.okD) ak.o R.o);generalize zEo ⟨kd,a,b,pl,nl,cl,pn,nn,cn,pd,nd,cd,es,vs,nodes,aa⟩ D M=Z at *;obtain⟨D9,T,ov⟩:=Z;go_wp2_with fail;refine Hd.o.mono ?_;rintro e w5 ⟨rfl,j',x',E,V,hF⟩;have t:=zh E;dsimp only at E V hF G;clear Hd c0 c1 c2 c3 c4 c5 y p3;have p4:=zDD E;clear E;cases ov with
      | true =>
       have HT:=zh (V rfl);clear V hF;go_wp2_with fail;refine(H.o _).mono ?_;rintro e O ⟨rfl,v⟩;have L:=zW (Below w.heap.size w O) ((A.o.trans (HT.o.mono A.o.size)).trans (v.mono (A.o.trans (HT.o.mono A.o.size)).size));go_wp2_with fail;go_ret;exact⟨rfl,L.o⟩
      | false =>
       have z:=zh (hF rfl);clear V hF;have p3:=zAf t.o;have P:=zh (stood_calls z.o t.o);have y:w5.cell? ⟨x',9,none⟩=some (.bool T.dead):=by
        obtain⟨F,B,m,-,hR,-⟩:=z.o;obtain⟨gv,dv,ev,hc⟩:=hR.cellsD;exact zAG hc rfl
       cases C:T.dead with
       | true =>
        rw[C]at y;clear C;go_wp2_with fail;go_roundw
        case rel=>exact⟨k+1,j',x',D9,T,by omega,by omega,by go_num,z.o,t.o,G.o⟩
        case measure=>simp[intOf];omega
       | false =>
        rw[C]at y;clear C;go_wp2_with fail;refine P.o.mono ?_;rintro e w6 ⟨rfl,I⟩;have ac:=zh (z.o.next I);have ab:=zh ((I.block pb (zAB t.o)).trans t.o);clear I P z t p3 p4 y;go_wp2_with fail;go_roundw
        case rel=>exact⟨k+1,j',x',D9,T,by omega,by omega,by go_num,ac.o,ab.o,G.o⟩
        case measure=>simp[intOf];omega
    ·obtain rfl:k=80:=by omega
     go_wp2_with fail;refine(H.o _).mono ?_;rintro e O ⟨rfl,v⟩;have L:=zW (Below w.heap.size w O) ((A.o.trans (N.o.bel.mono A.o.size)).trans (v.mono (A.o.trans (N.o.bel.mono A.o.size)).size));go_wp2_with fail;go_ret;exact⟨rfl,L.o⟩
   ·obtain rfl:n=k:=by omega
    go_wp2_with fail;refine(H.o _).mono ?_;rintro e O ⟨rfl,v⟩;have L:=zW (Below w.heap.size w O) ((A.o.trans (N.o.bel.mono A.o.size)).trans (v.mono (A.o.trans (N.o.bel.mono A.o.size)).size));go_wp2_with fail;go_ret;exact⟨rfl,L.o⟩
end Go.Proofs.YtapfnehdgailmaaGreat
