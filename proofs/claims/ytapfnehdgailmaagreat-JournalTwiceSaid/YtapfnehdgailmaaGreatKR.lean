/- What the program's functions and the document's do, and plain laws, for PJournalTwice. -/
import Derived.Test.YtapfnehdgailmaaGreatKE
import Derived.Test.YtapfnehdgailmaaGreatKG
import Derived.Test.YtapfnehdgailmaaGreatKK
import Derived.Test.YtapfnehdgailmaaGreatKN
import Derived.Test.YtapfnehdgailmaaGreatKQ
open Go.Proofs.Tryz
set_option maxRecDepth 100000
set_option maxHeartbeats 64000000
namespace Go.Proofs.YtapfnehdgailmaaGreat
open Go.RowKit Go.Sat Go.Maps
section
variable {w w1 w2:World} {j r:Nat} {pre:ByteArray} {D:zAA} {M:zAJ} {Hot Cold:Nat→Prop}
theorem rjcompact_calls (h:RJF w1 j r pre D M Hot Cold)(P:M.entries.length≤1000000)(i:Int)(hi:-9223372036854775808≤i∧i≤9223372036854775807){pd:Option Addr}{n cd:Nat}{b:Bs}(hn:b.length=n)(Q:n≤140737488355328)(I:zAY w1 (.slice pd n cd) b)(S:b≠[]→∀k,(Value.slice pd n cd).ownBlock=some k→¬Hot k) :
  Calls prog 47 #[.pointer (some ⟨j,0,none⟩),.int .i64 i,.slice pd n cd] w1 (zBz w1 j r pre Hot Cold (zAe (nm pre) D M i b)):=by
 obtain⟨gv,dv,ev,c⟩:=h.cellsD;have c9:w1.cell? ⟨j,9,none⟩=some (.bool M.dead):=zAG c rfl;have CJ:=zh c;have m:=zh (fun k w2 (hb:Below w1.heap.size w1 w2) (hr:zAe (nm pre) D M i b=⟨D,M,k⟩)=>rj_same h hr hb);have Y:=zW (zAe (nm pre) D M i b=if M.dead then⟨D,M,9⟩else if i≤(M.number:Int)∨(M.last:Int)<i∨524288<b.length then⟨D,M,1⟩else zA5 (nm pre) D M ⟨i.toNat,(M.termAt i).getD 0,(M.grpIn (i.toNat-M.number)).1,b⟩) rfl;have d:=zh (zFi h i hi);have g:=h.okM;have f:=g.last;cases B:M.dead with
 | true =>
  rw[B]at c9;have s:=zh (m.o 9 w1 (Below.refl _ _) (by rw[Y.o,B];rfl));clear h c
  go_enter func47,ntmps47
  go_wp2_with fail;go_ret;exact s.o
 | false =>
  rw[B]at c9
  by_cases l:(M.number:Int)<i∧i≤(M.last:Int)
  ·have O:(M.last:Int)=(M.number:Int)+(M.entries.length:Int):=by unfold zAJ.last;omega
   obtain⟨t,K⟩:∃t,M.termAt i=some t:=by
    have ae:(i-(M.number:Int)-1).toNat<M.entries.length:=by omega
    exact⟨_,zEI l.1 (List.getElem?_eq_getElem ae)⟩
   rw[K]at d;simp only[Option.getD_some,Option.isSome_some]at d;have A:∀q,(w1.drewN q).cell? ⟨j,0,none⟩=some (.int .i64 (M.number:Int)):=fun q=>zAW CJ.out;have af:((i:Int)==(M.number:Int))=false:=by simp;omega
   by_cases y:524288<n
   ·have H:decide (524288<(n:Int))=true:=by simp;omega
    have s:=zh (fun q=>m.o 1 (w1.drewN q) ⟨rfl,rfl,rfl,Nat.le_refl _,fun _ _=>rfl⟩ (by rw[Y.o,B,if_neg (by simp),if_pos (.inr (.inr (by rw[hn];exact y)))]));clear h c g f O l
    go_enter func47,ntmps47
    go_wp2_with fail;refine d.o.mono ?_;rintro e w2 ⟨rfl,q,rfl⟩;have Z:=A q;go_wp2_with fail;go_ret;exact s.o q
   ·have H:decide (524288<(n:Int))=false:=by simp;omega
    have ab:=zW (zAe (nm pre) D M i b=zA5 (nm pre) D M ⟨i.toNat,t,(M.grpIn (i.toNat-M.number)).1,b⟩) (by rw[Y.o,B,if_neg (by simp),if_neg (by rw[hn];omega),K];rfl);have T:=termAt_ok g K;have U:M.upto i=i.toNat-M.number:=by unfold zAJ.upto;omega
    have L:=zFS g (i.toNat-M.number);have z:=zh (fun q=>rjgrpAt_calls (h.drewN q) i (by omega) hi.2);rw[U]at z;have N:((i.toNat:Nat):Int)=i:=by omega
    have C:=zh (fun W pg cg (hb:Below w1.heap.size w1 W) (V:zCm W (.slice pg (M.grpIn (i.toNat-M.number)).1.length cg) (M.grpIn (i.toNat-M.number)).1) (p:∀k,(Value.slice pg (M.grpIn (i.toNat-M.number)).1.length cg).ownBlock=some k→w1.heap.size≤k)=>show Calls prog 120 #[.pointer (some ⟨j,0,none⟩),.agg #[.int .i64 i,.int .i64 t,.slice pg (M.grpIn (i.toNat-M.number)).1.length cg],.slice pd n cd] W (zBz w1 j r pre Hot Cold (zAe (nm pre) D M i b)) by
     have h1:=zGb (h.below hb) P (n2:=i.toNat) (t2:=t) (g2:=(M.grpIn (i.toNat-M.number)).1) (dd:=b) (by omega) ⟨by show i.toNat≤_;omega,T,L,by show b.length≤_;omega⟩ (by omega) (pg:=pg) (cg:=cg) (pd:=pd) (cd:=cd) (OwnR.holds V) (fun k hk ho=>by have h1:=p k hk;have h2:=h.hlt ho;omega) (by rw[hn];exact zAM.chg I (Chg.of_below hb) fun _ _=>id) (by rw[hn];exact S);rw[N,hn]at h1;rw[ab.o];exact h1.mono fun e w' E=>⟨E.1,E.step.since hb⟩)
    clear h c g f O l T U N I S L K hn Q P hi y;generalize zAe (nm pre) D M i b=ag at *;generalize M.grpIn (i.toNat-M.number)=G at *;obtain⟨G1,G2⟩:=G;dsimp only at z C;generalize J:G1.length=gl at *;have ad:=zh J;clear J
    go_enter func47,ntmps47
    go_wp2_with fail;refine d.o.mono ?_;rintro e w2 ⟨rfl,q,rfl⟩;have Z:=A q;have ac:=zh (z.o q);go_wp2_with fail;clear Z A c9 af H;refine ac.o.mono ?_;rintro e w3 ⟨v,rfl,V,p,F⟩;have aa:=zh ((⟨rfl,rfl,rfl,Nat.le_refl _,fun _ _=>rfl⟩:Below w1.heap.size w1 (w1.drewN q)).trans F);obtain⟨pg,cg,X⟩:=OwnR.shape V;rw[ad.o]at X;subst X;have Hs:=zh (C.o w3 pg cg aa.o V p);clear V p F;go_wp2_with fail;refine Hs.o.mono ?_;rintro e w4 E;have s:=zh E;obtain⟨rfl,-⟩:=E;go_wp2_with fail;go_ret;exact s.o
  ·have R:i≤(M.number:Int)∨(M.last:Int)<i:=by omega
   have s:=zh (fun q=>m.o 1 (w1.drewN q) ⟨rfl,rfl,rfl,Nat.le_refl _,fun _ _=>rfl⟩ (by rw[Y.o,B,if_neg (by simp),if_pos (by omega)]));have A:∀q,(w1.drewN q).cell? ⟨j,0,none⟩=some (.int .i64 (M.number:Int)):=fun q=>zAW CJ.out
   by_cases a:i=(M.number:Int)
   focus rw[a,zEh]at d;simp only[Option.getD_some,Option.isSome_some]at d;subst a
   rotate_left
   focus rw[termAt_no l a]at d;simp only[Option.getD_none,Option.isSome_none]at d
   all_goals
    clear h c g f l R;go_enter func47,ntmps47;go_wp2_with fail;refine d.o.mono ?_;rintro e w2 ⟨rfl,q,rfl⟩;have Z:=A q;go_wp2_with fail;go_ret;exact s.o q
end
section
variable {w w1 w2:World} {j r:Nat} {pre:ByteArray} {D:zAA} {M:zAJ} {Hot Cold:Nat→Prop}
theorem rjinstall_calls (h:RJF w1 j r pre D M Hot Cold)(J:M.entries.length≤1000000)(i t:Int)(hi:-9223372036854775808≤i∧i≤9223372036854775807){g:List Int}{pg:Option Addr}{F cg:Nat}(O:zBe w1 (.slice pg F cg) g)(I:g.length≤1099511627776)(N:g≠[]→∀k,(Value.slice pg F cg).ownBlock=some k→¬Hot k)
  {pd:Option Addr} {n cd:Nat} {b:Bs} (hn:b.length=n) (H:zAY w1 (.slice pd n cd) b) (L:b≠[]→∀k,(Value.slice pd n cd).ownBlock=some k→¬Hot k) :
  Calls prog 48 #[.pointer (some ⟨j,0,none⟩),.int .i64 i,.int .i64 t,.slice pg F cg,.slice pd n cd] w1 (zBz w1 j r pre Hot Cold (zAh (nm pre) D M i t g b)):=by
 obtain⟨gv,dv,ev,d⟩:=h.cellsD;have T:w1.cell? ⟨j,9,none⟩=some (.bool M.dead):=zAG d rfl;have c0:w1.cell? ⟨j,0,none⟩=some (.int .i64 (M.number:Int)):=zAG d rfl;have a:=zh (fun k w2 (C:Below w1.heap.size w1 w2) (hr:zAh (nm pre) D M i t g b=⟨D,M,k⟩)=>rj_same h hr C);have P:=zW (zAh (nm pre) D M i t g b=if M.dead then⟨D,M,9⟩else if i≤(M.number:Int)∨1099511627776<i∨zDR t=false∨zAX g=false∨524288<b.length then⟨D,M,1⟩else zA5 (nm pre) D M ⟨i.toNat,t,g,b⟩) rfl;have m:=zh (zDC O I);have s:g.length=F:=by obtain⟨_,_,e⟩:=O.slice;simp only[Value.slice.injEq]at e;exact e.2.1.symm
 have aa:=zh s;have Hn:=zh hn;have R:=zh (fun q (p:(M.number:Int)<i) (v:i≤1099511627776) (y:zDR t=true) (z:zAX g=true) (E:n≤524288) (A:M.dead=false)=>show Calls prog 120 #[.pointer (some ⟨j,0,none⟩),.agg #[.int .i64 i,.int .i64 t,.slice pg F cg],.slice pd n cd] (w1.drewN q) (zBz w1 j r pre Hot Cold (zAh (nm pre) D M i t g b)) by
  have C:Below w1.heap.size w1 (w1.drewN q):=⟨rfl,rfl,rfl,Nat.le_refl _,fun _ _=>rfl⟩;have h9:=zGb (h.below C) J (n2:=i.toNat) (t2:=t) (g2:=g) (dd:=b) (by omega) ⟨by show i.toNat≤_;omega,y,z,by show b.length≤_;omega⟩ (by omega) (pg:=pg) (cg:=cg) (pd:=pd) (cd:=cd) (by rw[s];exact zAM.chg O (Chg.of_below C) fun _ _=>id) (by rw[s];exact N (by rintro rfl;simp[zAX]at z)) (by rw[hn];exact zAM.chg H (Chg.of_below C) fun _ _=>id) (by rw[hn];exact L);have V:((i.toNat:Nat):Int)=i:=by omega
  rw[V,hn,s]at h9;rw[P.o,A,if_neg (by simp),if_neg (by rw[y,z,hn];simp;omega)];exact h9.mono fun e w' G=>⟨G.1,G.step.since C⟩)
 have B:=zW (zDR t=true↔0≤t∧t≤1099511627776) zAo;clear h d O I N H L s hn J hi;generalize zAh (nm pre) D M i t g b=X at *;cases A:M.dead with
 | true =>
  rw[A]at T;have c:=zh (a.o 9 w1 (Below.refl _ _) (by rw[P.o,A];rfl))
  go_enter func48,ntmps48
  go_wp2_with fail;go_ret;exact c.o
 | false =>
  rw[A]at T;have Q:=zW (X=if i≤(M.number:Int)∨1099511627776<i∨zDR t=false∨zAX g=false∨524288<b.length then⟨D,M,1⟩else zA5 (nm pre) D M ⟨i.toNat,t,g,b⟩) (by rw[P.o,A];rfl);have Hd:=zh A;have l:=zh (fun q ho=>a.o 1 (w1.drewN q) ⟨rfl,rfl,rfl,Nat.le_refl _,fun _ _=>rfl⟩ (by rw[Q.o,if_pos ho]));clear A;generalize C:M.number=W at *
  by_cases p:i≤(W:Int)
  ·have Y:decide (i≤(W:Int))=true:=decide_eq_true p;have c:=zh (l.o 0 (.inl p));clear p
   go_enter func48,ntmps48
   go_wp2_with fail;go_ret;exact c.o
  have Y:decide (i≤(W:Int))=false:=decide_eq_false p
  by_cases v:1099511627776<i
  ·have Z:decide (1099511627776<i)=true:=decide_eq_true v;have c:=zh (l.o 0 (.inr (.inl v)));clear p v
   go_enter func48,ntmps48
   go_wp2_with fail;go_ret;exact c.o
  have Z:decide (1099511627776<i)=false:=decide_eq_false v
  by_cases y:t<0
  ·have K:decide (t<0)=true:=decide_eq_true y;have c:=zh (l.o 0 (.inr (.inr (.inl (by rw[Bool.eq_false_iff];intro e;have:=B.o.1 e;omega)))));clear p v y
   go_enter func48,ntmps48
   go_wp2_with fail;go_ret;exact c.o
  have K:decide (t<0)=false:=decide_eq_false y
  by_cases z:1099511627776<t
  ·have d4:decide (1099511627776<t)=true:=decide_eq_true z;have c:=zh (l.o 0 (.inr (.inr (.inl (by rw[Bool.eq_false_iff];intro e;have:=B.o.1 e;omega)))));clear p v y z
   go_enter func48,ntmps48
   go_wp2_with fail;go_ret;exact c.o
  have d4:decide (1099511627776<t)=false:=decide_eq_false z;have HT:=zh (B.o.2 ⟨by omega,by omega⟩);cases f:zAX g with
  | false =>
   rw[f]at m;have c:=zh (fun q=>l.o q (.inr (.inr (.inr (.inl f)))));clear p v y z f
   go_enter func48,ntmps48
   go_wp2_with fail;refine m.o.mono ?_;rintro e w2 ⟨rfl,q,rfl⟩;go_wp2_with fail;go_ret;exact c.o q
  | true =>
   rw[f]at m
   by_cases E:524288<n
   ·have d5:decide ((524288:Int)<(n:Int))=true:=decide_eq_true (by omega);have U:decide (524288<n)=true:=decide_eq_true E;have c:=zh (fun q=>l.o q (.inr (.inr (.inr (.inr (by rw[Hn.o];exact E))))));clear p v y z E f
    go_enter func48,ntmps48
    go_wp2_with fail;refine m.o.mono ?_;rintro e w2 ⟨rfl,q,rfl⟩;go_wp2_with fail;go_ret;exact c.o q
   ·have d5:decide ((524288:Int)<(n:Int))=false:=decide_eq_false (by omega);have U:decide (524288<n)=false:=decide_eq_false E;have Hs:=zh (fun q=>R.o q (by omega) (by omega) HT.o f (by omega) Hd.o);clear p v y z E f
    go_enter func48,ntmps48
    go_wp2_with fail;refine m.o.mono ?_;rintro e w2 ⟨rfl,q,rfl⟩;have S:=zh (Hs.o q);clear c0 T Y Z K d4;go_wp2_with fail;refine S.o.mono ?_;rintro e w4 G;have c:=zh G;obtain⟨rfl,-⟩:=G;go_wp2_with fail;go_ret;exact c.o
end
theorem rscan_calls {w:World}{p:Option Addr}{n c:Nat}{b:Bs}(h:zAY w (.slice p n c) b)(Z:n≤c)(hl:b.length≤1073741824) :
  Calls prog 88 #[.slice p n c] w (Scanned w b):=by
 obtain⟨i1,ad,-,ag,-⟩:=info_parts (show(prog.info? 5).map (fun i=>(i.zero,i.size,i.bytes))=some (some (.int .u8 0),1,1) by kernel_rfl);obtain⟨i0,hi,ah,ai,aj⟩:=info_parts (show(prog.info? 22).map (fun i=>(i.zero,i.size,i.bytes))=some (some (.slice none 0 0),1,24) by kernel_rfl);have hn:b.length=n:=by obtain⟨_,_,e⟩:=h.slice;simp only[Value.slice.injEq]at e;exact e.2.1.symm
 have ak:n≤1073741824:=by omega
 have H:=zh h;have Hn:=zh hn;have ab:=zh Z;clear h hn Z hl
 go_enter func88,ntmps88
 go_wp2_with fail
 go_loopw [4,5] (ScanRel w b n) (fun _ y _=>n-(intOf y).toNat)
 case atStart=>exact⟨0,_,[],[],Nat.zero_le _,rfl,rfl,Nat.zero_le _,zBY.nil _,⟨fun k hk=>(by cases hk),fun u hu=>(by simp at hu)⟩,Below.refl _ _,by simp,by simp⟩
 case round =>
  obtain⟨k,v,vs,ls,hk,rfl,rfl,al,A,a,X,f,l⟩:=hrel
  by_cases ae:k<n
  ·obtain⟨r0,af⟩:∃r0,(Value.slice p n c).ownBlock≠some r0:=by
    cases(Value.slice p n c).ownBlock with
    | none=>exact⟨0,by simp⟩
    | some g=>exact⟨g+1,by simp⟩
   obtain⟨p',c',an,hh,Y,-⟩:=run_tail (P:=prog) underlying22 ad ag (zAY.below H.o X) ab.o r0 k af (Nat.le_of_lt ae);have R:=zh (rdec_calls hh Y (by rw[List.length_drop,Hn.o];omega));have r:=zh (And.intro A (And.intro a (And.intro X (And.intro f l))));have ac:(b.drop k).length=n-k:=by rw[List.length_drop,Hn.o]
   clear hh Y A a X f l
   by_cases D:decE (b.drop k)=0
   ·have hL:=zEN D;rw[ac]at hL;have J:=zh (scan_go D);rw[List.drop_drop]at J;unfold zEJ at R;rw[D]at R;generalize decL (b.drop k)=L at *;generalize decB (b.drop k)=x at *;clear D;go_wp2_with fail;refine R.o.mono ?_;rintro e w2 ⟨v2,rfl,N,M,s⟩;have C:=r.o.1.below s;have V:=zh N;have T:=zW (∀j,v2.ownBlock=some j→v.ownBlock≠some j) (fun j F e=>by have h1:=M j F;have h2:=OwnR.lt r.o.1.row e;omega);have aa:=zW (∀j,v2.ownBlock=some j→w.heap.size≤j) fun j F=>Nat.le_trans r.o.2.2.1.size (M j F);have I:=zh s;have S:=zh C;obtain⟨Q,O,rfl,-⟩:=zAN N;clear N M s C;generalize hq:x.length=q at *;have Hq:=zh hq;generalize hm:ls.length=m at *;have Hm:=zh hm;clear hq hm;have B:=zh (show OwnR w2 22 1 v m vs by have:=S.o.row;rwa[Hm.o]at this);go_wp2_with (at_builtin;have W:=B.o.keep (w':=w2.alloc (.cells #[.slice Q q O] 22)) (fun j F=>(zAv w2 _).block j (OwnR.lt B.o F));have K:=zDL w2 (.slice Q q O) 22 (0,0);refine zAP _ rfl (.tmp 23) (.tmp 25) 108 rfl 22 i0 (.slice none 0 0) 1 24 underlying108 hi ah ai aj rfl (by decide) v m _ rfl W (.slice (some ⟨w2.heap.size,0,none⟩) 1 1) 1 _ rfl K (by simp[Value.oneCell']) (by unfold maxLen;omega) (by omega) ?_;clear W K;intro v3 w3 z d t;go_loud (have hE:=zBY.push (b:=x) (S.o.below (zAv w2 (.cells #[.slice Q q O] 22))) (OwnR.keep V.o fun j F=>(zAv w2 _).block j (OwnR.lt V.o F)) T.o (by rw[Hm.o];exact z) d t;have hN:=zEM.push (u:=.slice Q q O) r.o.2.1 aa.o t (by have h1:=r.o.2.2.1.size;have h2:=I.o.size;have h3:=(zAv w2 (.cells #[.slice Q q O] 22)).size;omega);have hB:Below w.heap.size w w3:=by {have h1:=r.o.2.2.1.trans ((I.o.trans ((zAv w2 (.cells #[.slice Q q O] 22)).mono I.o.size)).mono r.o.2.2.1.size);exact((Chg.of_below h1).trans (Chg.of_grown d) fun j F e=>by have h5:=r.o.2.1.1 j e.symm;omega).below (Nat.le_refl _) fun _ _=>id};have G:=zh (And.intro hE (And.intro hN hB));clear hE hN hB d t;obtain⟨p3,q3,rfl⟩:=OwnR.shape z;clear z))
    go_roundw
    case rel=>exact⟨k+L,_,_,ls++[x],by omega,by go_num,rfl,by rw[List.length_append,Hm.o];simp;omega,G.o.1,G.o.2.1,G.o.2.2,by rw[r.o.2.2.2.1,J.o];simp,by rw[r.o.2.2.2.2,J.o];simp;omega⟩
    case measure=>simp[intOf];omega
   ·have U:=zh (zB5 (.inr D));have am:((decE (b.drop k):Int) != 0)=true:=by simp;omega
    unfold zEJ at R;generalize decE (b.drop k)=E at *;generalize decL (b.drop k)=L at *;go_wp2_with fail;refine R.o.mono ?_;rintro e w2 ⟨v2,rfl,-,-,s⟩;have G:=zW (Scanned w b (.returned (.tuple #[v,.int .i64 (k:Int)])) w2) (⟨v,vs,by rw[r.o.2.2.2.2,U.o];rfl,by rw[r.o.2.2.2.1,U.o,List.append_nil];exact r.o.1.below s,r.o.2.1,r.o.2.2.1.trans (s.mono r.o.2.2.1.size)⟩);clear s;go_wp2_with fail
    go_ret2
    exact G.o
  ·have D:b.drop k=[]:=List.drop_of_length_le (by rw[Hn.o];omega);rw[D,zB5 (.inl rfl)]at f l;have G:=zW (Scanned w b (.returned (.tuple #[v,.int .i64 (k:Int)])) wr) (⟨v,vs,by rw[l];rfl,by rw[f,List.append_nil];exact A,a,X⟩);clear A a X f l D;go_wp2_with fail
   go_ret2
   exact G.o
def ROS (w:World)(F:Nat→Prop)(j r:Nat)(pre:ByteArray)(own:Nat→Prop)(W:World)(D:zAA)(M:zAJ):Prop :=
 ∃Hot Cold,RJF W j r pre D M Hot Cold∧Chg own w W∧(∀k,Hot k∨Cold k→own k∨w.heap.size≤k)∧∀k,F k→k<W.heap.size∧¬Hot k∧¬Cold k
section
variable {w W W2:World} {F F' own:Nat→Prop} {j r:Nat} {pre:ByteArray} {D:zAA} {M:zAJ}
theorem ROS.okM (h:ROS w F j r pre own W D M):M.OK:=let ⟨_,_,h,_⟩:=h;h.okM
theorem ROS.okD (h:ROS w F j r pre own W D M):D.OK:=let ⟨_,_,h,_⟩:=h;h.okD
theorem ROS.flt (h:ROS w F j r pre own W D M){k:Nat}(b:F k):k<W.heap.size:=let ⟨_,_,_,_,_,hf⟩:=h;(hf k b).1
theorem ROS.jlt (h:ROS w F j r pre own W D M):j<W.heap.size:=let ⟨_,_,h,_⟩:=h;h.hlt h.jhot
theorem ROS.fj (h:ROS w F j r pre own W D M){k:Nat}(c:F k):k≠j:=by
 obtain⟨_,_,h,_,_,b⟩:=h;exact fun e=>(b k c).2.1 (e▸h.jhot)
theorem ROS.cells (h:ROS w F j r pre own W D M):∃gv dv ev,W.heap[j]?=some (RJC r (M.number:Int) M.term gv pre M.now M.vote dv ev M.dead):=let ⟨_,_,h,_⟩:=h;h.cellsD
theorem ROS.next (h:ROS w F j r pre own W D M)(b:Below W.heap.size W W2):ROS w F j r pre own W2 D M:=by
 obtain⟨Hot,Cold,hF,f,g,c⟩:=h;exact⟨Hot,Cold,hF.below b,f.trans ((Chg.of_below b).mono (T:=own) fun _ _ e=>e.elim) fun _ _ h=>h,g,fun k d=>⟨Nat.lt_of_lt_of_le (c k d).1 b.size,(c k d).2⟩⟩
theorem ROS.same (h:ROS w F j r pre own W D M)(b:Below W.heap.size W W2):Same F W W2:=fun k c=>b.block k (h.flt c)
theorem ROS.less (h:ROS w F j r pre own W D M)(hF:∀k,F' k→F k):ROS w F' j r pre own W D M:=by
 obtain⟨Hot,Cold,b,c,f,d⟩:=h;exact⟨Hot,Cold,b,c,f,fun k g=>d k (hF k g)⟩
theorem ROS.more (h:ROS w F j r pre own W D M)(b:Below W.heap.size W W2)(hF:∀k,F' k→F k∨(W.heap.size≤k∧k<W2.heap.size)):ROS w F' j r pre own W2 D M:=by
 have l:=h.next b;obtain⟨Hot,Cold,c,f,g,d⟩:=h;refine⟨Hot,Cold,c.below b,f.trans ((Chg.of_below b).mono (T:=own) fun _ _ e=>e.elim) fun _ _ h=>h,g,fun k i=>?_⟩;rcases hF k i with h|h
 ·exact⟨Nat.lt_of_lt_of_le (d k h).1 b.size,(d k h).2⟩
 ·exact⟨h.2,fun e=>by have:=c.hlt e;omega,fun e=>by have:=c.clt e;omega⟩
theorem ros_step {D':zAA}{M':zAJ}{Hot Cold:Nat→Prop}(o:Chg own w W)(n:∀k,Hot k∨Cold k→own k∨w.heap.size≤k)(g:∀k,F k→k<W.heap.size∧¬Hot k∧¬Cold k)(q:zAq W j r pre Hot Cold W2 D' M'):ROS w F j r pre own W2 D' M'∧Same F W W2:=by
 obtain⟨i,d,m,f,l,c⟩:=q;have s:=o.size;refine⟨⟨i,d,m,o.trans f fun k b p=>(n k (.inl p)).resolve_right (by omega),fun k b=>?_,fun k b=>⟨Nat.lt_of_lt_of_le (g k b).1 f.size,fun e=>?_,fun e=>?_⟩⟩,fun k b=>f.block k (g k b).1 (g k b).2.1⟩
 ·rcases b with b|b
  ·rcases l k b with h|h
   ·exact n k (.inl h)
   ·exact .inr (by omega)
  ·rcases c k b with h|h
   ·exact n k (.inr h)
   ·exact .inr (by omega)
 ·rcases l k e with h|h
  ·exact(g k b).2.1 h
  ·have:=(g k b).1;omega
 ·rcases c k e with h|h
  ·exact(g k b).2.2 h
  ·have:=(g k b).1;omega
theorem ros_ref (h:ROS w F j r pre own W D M):∃v L b,zAc W r v L b D:=by
 obtain⟨_,_,⟨_,b,_,_,_,_,v,L,_,c,_⟩,_⟩:=h;exact⟨v,L,b,c⟩
theorem zFX {P:Program}{f:FuncId}{args:Array Value}{Re:zAA×Nat}{wc:World}(h:ROS w F j r pre own W D M)(g:Below W.heap.size W wc)(m:∀v L b,zAc wc r v L b D→Calls P f args wc (zCo wc r b Re)) :
  Calls P f args wc fun e w'=>e=.returned (.int .i64 (Re.2:Int))∧ROS w F j r pre own w' Re.1 M∧Same F W w':=by
 obtain⟨Hot,Cold,hF,i,l,k⟩:=h;refine(rj_disk hF g fun v L b d _=>m v L b d).mono ?_;rintro e w' ⟨rfl,c,-⟩;exact⟨rfl,ros_step i l k c⟩
theorem zGc (h:ROS w F j r pre own W D M)(b:M.entries.length≤1000000) :
  Calls prog 93 #[.pointer (some ⟨j,0,none⟩)] W fun e w'=>e=.returned (.int .i64 ((zAU D (nm pre) M).2:Int))∧ROS w F j r pre own w' (zAU D (nm pre) M).1 M∧Same F W w':=by
 obtain⟨Hot,Cold,hF,d,g,f⟩:=h;refine(rjanew_calls hF b).mono ?_;rintro e w' ⟨rfl,c,-⟩;exact⟨rfl,ros_step d g f c⟩
theorem ros_stands (h:ROS w F j r pre own W D M){n2:Nat}{t2:Int}{g2:List Int}(c:M.number<n2)(o:(⟨n2,t2,g2,M.data⟩:zDE).OK){pg:Option Addr}{cg:Nat}(l:zBe W (.slice pg g2.length cg) g2)(d:∀k,(Value.slice pg g2.length cg).ownBlock=some k→F k) :
  Calls prog 92 #[.pointer (some ⟨j,0,none⟩),.agg #[.int .i64 (n2:Int),.int .i64 t2,.slice pg g2.length cg]] W fun e w'=>e=.returned (.tuple #[])∧ROS w F j r pre own w' D (M.rebase ⟨n2,t2,g2,M.data⟩)∧Same F W w':=by
 have b:=fun k n=>h.fj (k:=k) (d k n);obtain⟨Hot,Cold,hF,g,m,i⟩:=h;refine(zFh hF c o l b).mono ?_;rintro e w' ⟨rfl,f⟩;exact⟨rfl,ros_step g m i f⟩
theorem ros_data (h:ROS w F j r pre own W D M){q:Bs}{v2:Value}(P:zAY W v2 q)(hF:∀k,v2.ownBlock=some k→F k∧w.heap.size≤k)(d:∀k,F' k→F k∧v2.ownBlock≠some k)(z:q.length≤1073741824) :
  ROS w F' j r pre own (W.setCell ⟨j,7,none⟩ v2) D {M with data:=q}∧Same F W (W.setCell ⟨j,7,none⟩ v2):=by
 have n:=fun k b=>h.fj (k:=k) b;have Q:=h.jlt;obtain⟨Hot,Cold,l,J,a,g⟩:=h;have A:=l.jhot;obtain⟨O,p,G,dv,E,vs,v,L,c,I,H,s,t⟩:=l;have hS:Chg (fun k=>k=j) W (W.setCell ⟨j,7,none⟩ v2):=Chg.setCell W ⟨j,7,none⟩ _;have f:=zAC c.cells 7 v2;have B:∀k,v2.ownBlock=some k→k≠j:=fun k b=>n k (hF k b).1;have m:∀k,Cold k→k≠j:=fun k b e=>c.dis k b (e▸c.oj);have T:=J.size;have y:zF3 (W.setCell ⟨j,7,none⟩ v2) j r pre O (fun k=>Cold k∨v2.ownBlock=some k) {M with data:=q} G v2 E vs:={
  cells:=by simpa using f
  group:=zAM.chg c.group hS fun k b=>m k (c.cg k b)
  data:=zAY.chg P hS fun k b=>B k b
  row:=c.row.keep fun k b=>hS.block k (c.olt k (c.oe k b).1) (c.oe k b).2
  rlen:=c.rlen
  rows:=fun i e v N C=>(c.rows i e v N C).keep fun k b=>hS.block k (c.clt k (c.cv v (List.mem_of_getElem? C) k b)) (m k (c.cv v (List.mem_of_getElem? C) k b))
  oj:=c.oj
  oe:=c.oe
  cg:=fun k b=>.inl (c.cg k b)
  cd:=fun k b=>.inr b
  cv:=fun u R k b=>.inl (c.cv u R k b)
  dis:=fun k b o=>by
   rcases b with b|b
   ·exact c.dis k b o
   ·exact(g k (hF k b).1).2.1 ((t k).2 (.inl o))
  olt:=fun k b=>Nat.lt_of_lt_of_le (c.olt k b) hS.size
  clt:=fun k b=>Nat.lt_of_lt_of_le (b.elim (c.clt k) fun e=>(g k (hF k e).1).1) hS.size
  psz:=c.psz
  ok:=⟨c.ok.last,c.ok.term,c.ok.group,c.ok.now,c.ok.vote,z,c.ok.ents⟩ }
 refine⟨⟨Hot,_,⟨O,p,G,v2,E,vs,v,L,y,I.keep hS.size (fun k b=>hS.block k (I.olt k b) fun e=>H j c.oj (e▸b)),H,fun k b o=>?_,t⟩,J.trans hS fun k b e=>?_,fun k b=>?_,fun k b=>⟨?_,?_,?_⟩⟩,fun k b=>hS.block k (g k b).1 (n k b)⟩
 ·rcases b with b|b
  ·exact s k b o
  ·exact(g k (hF k b).1).2.1 ((t k).2 (.inr o))
 ·exact(a j (.inl A)).elim (fun h=>e▸h) fun h=>by have S:k=j:=e;omega
 ·rcases b with b|b|b
  ·exact a k (.inl b)
  ·exact a k (.inr b)
  ·exact .inr (hF k b).2
 ·exact Nat.lt_of_lt_of_le (g k (d k b).1).1 hS.size
 ·exact(g k (d k b).1).2.1
 ·exact fun e=>e.elim (g k (d k b).1).2.2 (d k b).2
theorem ros_new (h:ROS w F j r pre own W D M):∃S,zBi S W j r pre M∧(∀k,S k→k<W.heap.size∧¬F k) ∧
  (∀f M',zBi (fun k=>S k∨W.heap.size≤k) f j r pre M'→Chg (fun k=>S k∨W.heap.size≤k) W f→ROS w F j r pre own f D M'∧Same F W f) ∧
  ∀f,Chg (fun k=>S k∨W.heap.size≤k) W f→∃own',RefAt f r D own'∧Chg own w f∧∀k,own' k→own k∨w.heap.size≤k:=by
 obtain⟨Hot,Cold,C,G,H,p⟩:=h;obtain⟨O,c,N,dv,J,vs,v,L,A,l,Q,a,y⟩:=C;have R:=G.size;have q:∀k,F k→¬(O k∨Cold k):=fun k b e=>e.elim (fun o=>(p k b).2.1 ((y k).2 (.inl o))) (p k b).2.2;have m:∀k,(O k∨Cold k)→own k∨w.heap.size≤k:=fun k b=>H k (b.imp (fun o=>(y k).2 (.inl o)) id);have n:∀k,(O k∨Cold k)→¬c k:=fun k b=>b.elim (Q k) (a k);refine⟨fun k=>O k∨Cold k,⟨O,Cold,N,dv,J,vs,A,fun _ h=>h⟩,fun k b=>⟨b.elim (A.olt k) (A.clt k),fun e=>q k e b⟩,fun f M' P g=>?_,fun f g=>⟨c,⟨v,L,l.keep g.size fun k b=>g.block k (l.olt k b) fun e=>e.elim (fun e=>n k e b) fun e=>by have:=l.olt k b;omega⟩,G.trans g fun k b e=>e.elim (fun e=>(m k e).resolve_right (by omega)) fun e=>by omega,fun k b=>H k (.inl ((y k).2 (.inr b)))⟩⟩;obtain⟨t,C',gv',dv',ev',vs',B,s⟩:=P;have E:=l.keep g.size fun k b=>g.block k (l.olt k b) fun e=>e.elim (fun e=>n k e b) fun e=>by have:=l.olt k b;omega
 have i:∀k,(t k∨C' k)→¬c k:=fun k b I=>by
  rcases s k b with e|e
  ·exact n k e I
  ·have:=l.olt k I;omega
 have d:∀k,(t k∨C' k)→own k∨w.heap.size≤k:=fun k b=>by
  rcases s k b with e|e
  ·exact m k e
  ·exact .inr (by omega)
 have z:∀k,F k→¬(t k∨C' k):=fun k b e=>by
  rcases s k e with e|e
  ·exact q k b e
  ·have:=(p k b).1;omega
 refine⟨⟨fun k=>t k∨c k,C',⟨t,c,gv',dv',ev',vs',v,L,B,E,fun k b=>i k (.inl b),fun k b=>i k (.inr b),fun k=>Iff.rfl⟩,G.trans g fun k b e=>?_,fun k b=>?_,fun k b=>⟨Nat.lt_of_lt_of_le (p k b).1 g.size,fun e=>?_,fun e=>z k b (.inr e)⟩⟩,fun k b=>g.block k (p k b).1 fun e=>?_⟩
 ·rcases e with e|e
  ·exact(m k e).resolve_right (by omega)
  ·omega
 ·rcases b with(b|b)|b
  ·exact d k (.inl b)
  ·exact H k (.inl ((y k).2 (.inr b)))
  ·exact d k (.inr b)
 ·rcases e with e|e
  ·exact z k b (.inl e)
  ·exact(p k b).2.1 ((y k).2 (.inr e))
 ·rcases e with e|e
  ·exact q k b e
  ·have:=(p k b).1;omega
def zFk (w:World)(r:Nat)(pre:ByteArray)(own:Nat→Prop)(R:zAA×Nat×zAJ)(e:Ending)(w':World):Prop :=
 (R.2.1=0∧∃j Hot Cold,e=.returned (.tuple #[.pointer (some ⟨j,0,none⟩),.int .i64 0])∧RJF w' j r pre R.1 R.2.2 Hot Cold∧Chg own w w'∧∀k,Hot k∨Cold k→own k∨w.heap.size≤k) ∨
 (R.2.1≠0∧e=.returned (.tuple #[.pointer none,.int .i64 (R.2.1:Int)])∧∃own',RefAt w' r R.1 own'∧Chg own w w'∧∀k,own' k→own k∨w.heap.size≤k)
theorem zBZ {R:zAA×Nat×zAJ}(h:ROS w F j r pre own W D M)(b:R=(D,0,M)):zFk w r pre own R (.returned (.tuple #[.pointer (some ⟨j,0,none⟩),.int .i64 0])) W:=by
 subst b;obtain⟨Hot,Cold,hF,c,d,-⟩:=h;exact .inl ⟨rfl,j,Hot,Cold,rfl,hF,c,d⟩
theorem zAk {R:zAA×Nat×zAJ}{M':zAJ}{k:Nat}(h:ROS w F j r pre own W D M)(c:R=(D,k,M'))(d:k≠0):zFk w r pre own R (.returned (.tuple #[.pointer none,.int .i64 (k:Int)])) W:=by
 subst c;obtain⟨Hot,Cold,hF,i,l,-⟩:=h;obtain⟨O,b,n,dv,m,vs,v,L,o,c,p,f,g⟩:=hF;exact .inr ⟨d,rfl,b,⟨v,L,c⟩,i,fun k d=>l k (.inl ((g k).2 (.inr d)))⟩
theorem ropened_bad2 {R:zAA×Nat×zAJ}{M':zAJ}{k:Nat}(h:∃own',RefAt W r D own'∧Chg own w W∧∀k,own' k→own k∨w.heap.size≤k)(b:R=(D,k,M'))(c:k≠0):zFk w r pre own R (.returned (.tuple #[.pointer none,.int .i64 (k:Int)])) W:=by
 subst b;exact .inr ⟨c,rfl,h⟩
theorem ropened_arg {R:zAA×Nat×zAJ}{M':zAJ}{k:Nat}{v:Value}{L:List zAR}(h:zAc w r v L own D)(c:Below w.heap.size w W)(d:R=(D,k,M'))(b:k≠0):zFk w r pre own R (.returned (.tuple #[.pointer none,.int .i64 (k:Int)])) W:=by
 subst d;exact .inr ⟨b,rfl,own,⟨v,L,h.below c⟩,(Chg.of_below c).mono fun _ _ e=>e.elim,fun k b=>.inl b⟩
theorem ros_fresh {v:Value}{L:List zAR}{nodes:List Int}{g:Value}(h:zAc w r v L own D)(n:Below w.heap.size w W)(q:1≤pre.size∧pre.size≤20)(p:zAX nodes=true)(c:W.heap[j]?=some (RJC r 0 0 g pre 0 (-1) (.slice none 0 0) (.slice none 0 0) false))(a:w.heap.size≤j)(l:zBe W g nodes)(d:∀k,g.ownBlock=some k→w.heap.size≤k∧k<W.heap.size∧k≠j)(hF:∀k,F k→k<W.heap.size∧w.heap.size≤k∧k≠j∧g.ownBlock≠some k) :
  ROS w F j r pre own W D (zAJ.none0 nodes):=by
 have f:=h.olt;refine⟨fun k=>k=j∨own k,fun k=>g.ownBlock=some k,⟨fun k=>k=j,own,g,.slice none 0 0,.slice none 0 0,[],v,L,{
  cells:=c
  group:=l
  data:=zAj.has (e:=0) (OwnR.nil _ _ _)
  row:=OwnR.nil _ _ _
  rlen:=rfl
  rows:=fun i e v o t=>by simp at t
  oj:=rfl
  oe:=fun k b=>by cases b
  cg:=fun k b=>b
  cd:=fun k b=>by cases b
  cv:=fun u s=>by simp at s
  dis:=fun k b e=>(d k b).2.2 e
  olt:=fun k b=>by rw[b];exact zAB c
  clt:=fun k b=>(d k b).2.1
  psz:=q
  ok:=⟨Nat.zero_le _,rfl,p,rfl,⟨show(-1:Int)≤-1 by decide,show(-1:Int)<7 by decide⟩,Nat.zero_le _,fun e o=>(by cases o)⟩ },h.below n,fun k b m=>?_,fun k b m=>?_,fun k=>Iff.rfl⟩,(Chg.of_below n).mono fun _ _ e=>e.elim,fun k b=>?_,fun k b=>⟨(hF k b).1,fun e=>?_,(hF k b).2.2.2⟩⟩
 ·have:=f k m;rw[b]at this;omega
 ·have:=f k m;have:=(d k b).1;omega
 ·rcases b with(b|b)|b
  ·exact .inr (by omega)
  ·exact .inl b
  ·exact .inr (d k b).1
 ·rcases e with e|e
  ·exact(hF k b).2.2.1 e
  ·have y:=f k e;have z:=(hF k b).2.1;omega
end
theorem rsnap_len {b:Bs}{l:List Int}{c:Rd}(h:RLst (Rd.num ⟨b,false⟩).2.num.2 l c)(d:c.bad=false):c.bytes.1.length≤b.length:=by
 refine Nat.le_trans (rbytes_le c) ?_;rcases h with⟨-,-,-,rfl⟩|⟨-,h⟩
 ·refine Nat.le_trans (zDc _ _) ?_;exact Nat.le_trans (Rd.num_rest _) (zDc 2 ⟨b,false⟩)
 ·rw[h]at d;cases d
end Go.Proofs.YtapfnehdgailmaaGreat
