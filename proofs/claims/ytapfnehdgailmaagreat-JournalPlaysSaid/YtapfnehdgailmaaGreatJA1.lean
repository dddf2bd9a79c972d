/- What the program's functions and the document's do, and plain laws, for PJournalPlays. -/
import Derived.Test.YtapfnehdgailmaaGreatJG
import Derived.Test.YtapfnehdgailmaaGreatJK
import Derived.Test.YtapfnehdgailmaaGreatJR
import Derived.Test.YtapfnehdgailmaaGreatJU
import Derived.Test.YtapfnehdgailmaaGreatJY
import Derived.Test.YtapfnehdgailmaaGreatJZ
open Go.Proofs.Tryz
set_option maxRecDepth 100000
set_option maxHeartbeats 64000000
namespace Go.Proofs.YtapfnehdgailmaaGreat
open Go.RowKit Go.Sat Go.Maps
theorem rscan_calls {w:World}{p:Option Addr}{n c:Nat}{b:Bs}(h:zAb w (.slice p n c) b)(Z:n≤c)(hl:b.length≤1073741824) :
  Calls prog 88 #[.slice p n c] w (Scanned w b):=by
 obtain⟨i1,ad,-,ag,-⟩:=info_parts (show(prog.info? 5).map (fun i=>(i.zero,i.size,i.bytes))=some (some (.int .u8 0),1,1) by kernel_rfl);obtain⟨i0,hi,ah,ai,aj⟩:=info_parts (show(prog.info? 22).map (fun i=>(i.zero,i.size,i.bytes))=some (some (.slice none 0 0),1,24) by kernel_rfl);have hn:b.length=n:=by obtain⟨_,_,e⟩:=h.slice;simp only[Value.slice.injEq]at e;exact e.2.1.symm
 have ak:n≤1073741824:=by omega
 have H:=zh h;have Hn:=zh hn;have ab:=zh Z;clear h hn Z hl
 go_enter func88,ntmps88
 go_wp2_with fail
 go_loopw [4,5] (ScanRel w b n) (fun _ y _=>n-(intOf y).toNat)
 case atStart=>exact⟨0,_,[],[],Nat.zero_le _,rfl,rfl,Nat.zero_le _,zBT.nil _,⟨fun k hk=>(by cases hk),fun u hu=>(by simp at hu)⟩,Below.refl _ _,by simp,by simp⟩
 case round =>
  obtain⟨k,v,vs,ls,hk,rfl,rfl,al,A,a,X,f,l⟩:=hrel
  by_cases ae:k<n
  ·obtain⟨r0,af⟩:∃r0,(Value.slice p n c).ownBlock≠some r0:=by
    cases(Value.slice p n c).ownBlock with
    | none=>exact⟨0,by simp⟩
    | some g=>exact⟨g+1,by simp⟩
   obtain⟨p',c',an,hh,Y,-⟩:=run_tail (P:=prog) underlying22 ad ag (zAb.below H.o X) ab.o r0 k af (Nat.le_of_lt ae);have R:=zh (rdec_calls hh Y (by rw[List.length_drop,Hn.o];omega));have r:=zh (And.intro A (And.intro a (And.intro X (And.intro f l))));have ac:(b.drop k).length=n-k:=by rw[List.length_drop,Hn.o]
   clear hh Y A a X f l
   by_cases D:decE (b.drop k)=0
   ·have hL:=zEI D;rw[ac]at hL;have J:=zh (scan_go D);rw[List.drop_drop]at J;unfold zEE at R;rw[D]at R;generalize decL (b.drop k)=L at *;generalize decB (b.drop k)=x at *;clear D;go_wp2_with fail;refine R.o.mono ?_;rintro e w2 ⟨v2,rfl,N,M,s⟩;have C:=r.o.1.below s;have V:=zh N;have T:=zW (∀j,v2.ownBlock=some j→v.ownBlock≠some j) (fun j F e=>by have h1:=M j F;have h2:=OwnR.lt r.o.1.row e;omega);have aa:=zW (∀j,v2.ownBlock=some j→w.heap.size≤j) fun j F=>Nat.le_trans r.o.2.2.1.size (M j F);have I:=zh s;have S:=zh C;obtain⟨Q,O,rfl,-⟩:=zAL N;clear N M s C;generalize hq:x.length=q at *;have Hq:=zh hq;generalize hm:ls.length=m at *;have Hm:=zh hm;clear hq hm;have B:=zh (show OwnR w2 22 1 v m vs by have:=S.o.row;rwa[Hm.o]at this);go_wp2_with (at_builtin;have W:=B.o.keep (w':=w2.alloc (.cells #[.slice Q q O] 22)) (fun j F=>(zAv w2 _).block j (OwnR.lt B.o F));have K:=zDG w2 (.slice Q q O) 22 (0,0);refine zAO _ rfl (.tmp 23) (.tmp 25) 108 rfl 22 i0 (.slice none 0 0) 1 24 underlying108 hi ah ai aj rfl (by decide) v m _ rfl W (.slice (some ⟨w2.heap.size,0,none⟩) 1 1) 1 _ rfl K (by simp[Value.oneCell']) (by unfold maxLen;omega) (by omega) ?_;clear W K;intro v3 w3 z d t;go_loud (have hE:=zBT.push (b:=x) (S.o.below (zAv w2 (.cells #[.slice Q q O] 22))) (OwnR.keep V.o fun j F=>(zAv w2 _).block j (OwnR.lt V.o F)) T.o (by rw[Hm.o];exact z) d t;have hN:=zEG.push (u:=.slice Q q O) r.o.2.1 aa.o t (by have h1:=r.o.2.2.1.size;have h2:=I.o.size;have h3:=(zAv w2 (.cells #[.slice Q q O] 22)).size;omega);have hB:Below w.heap.size w w3:=by {have h1:=r.o.2.2.1.trans ((I.o.trans ((zAv w2 (.cells #[.slice Q q O] 22)).mono I.o.size)).mono r.o.2.2.1.size);exact((Chg.of_below h1).trans (Chg.of_grown d) fun j F e=>by have h5:=r.o.2.1.1 j e.symm;omega).below (Nat.le_refl _) fun _ _=>id};have G:=zh (And.intro hE (And.intro hN hB));clear hE hN hB d t;obtain⟨p3,q3,rfl⟩:=OwnR.shape z;clear z))
    go_roundw
    case rel=>exact⟨k+L,_,_,ls++[x],by omega,by go_num,rfl,by rw[List.length_append,Hm.o];simp;omega,G.o.1,G.o.2.1,G.o.2.2,by rw[r.o.2.2.2.1,J.o];simp,by rw[r.o.2.2.2.2,J.o];simp;omega⟩
    case measure=>simp[intOf];omega
   ·have U:=zh (zBz (.inr D));have am:((decE (b.drop k):Int) != 0)=true:=by simp;omega
    unfold zEE at R;generalize decE (b.drop k)=E at *;generalize decL (b.drop k)=L at *;go_wp2_with fail;refine R.o.mono ?_;rintro e w2 ⟨v2,rfl,-,-,s⟩;have G:=zW (Scanned w b (.returned (.tuple #[v,.int .i64 (k:Int)])) w2) (⟨v,vs,by rw[r.o.2.2.2.2,U.o];rfl,by rw[r.o.2.2.2.1,U.o,List.append_nil];exact r.o.1.below s,r.o.2.1,r.o.2.2.1.trans (s.mono r.o.2.2.1.size)⟩);clear s;go_wp2_with fail
    go_ret2
    exact G.o
  ·have D:b.drop k=[]:=List.drop_of_length_le (by rw[Hn.o];omega);rw[D,zBz (.inl rfl)]at f l;have G:=zW (Scanned w b (.returned (.tuple #[v,.int .i64 (k:Int)])) wr) (⟨v,vs,by rw[l];rfl,by rw[f,List.append_nil];exact A,a,X⟩);clear A a X f l D;go_wp2_with fail
   go_ret2
   exact G.o
def ROS (w:World)(F:Nat→Prop)(j r:Nat)(pre:ByteArray)(own:Nat→Prop)(W:World)(D:zAA)(M:zAJ):Prop :=
 ∃Hot Cold,RJF W j r pre D M Hot Cold∧Chg own w W∧(∀k,Hot k∨Cold k→own k∨w.heap.size≤k)∧∀k,F k→k<W.heap.size∧¬Hot k∧¬Cold k
section
variable {w W W2:World} {F F' own:Nat→Prop} {j r:Nat} {pre:ByteArray} {D:zAA} {M:zAJ}
theorem ROS.okM (h:ROS w F j r pre own W D M):M.OK:=let ⟨_,_,h,_⟩:=h;h.okM
theorem ROS.okD (h:ROS w F j r pre own W D M):D.OK:=let ⟨_,_,h,_⟩:=h;h.okD
theorem ROS.flt (h:ROS w F j r pre own W D M){k:Nat}(b:F k):k<W.heap.size:=let ⟨_,_,_,_,_,hf⟩:=h;(hf k b).1
theorem ROS.jlt (h:ROS w F j r pre own W D M):j<W.heap.size:=let ⟨_,_,h,_⟩:=h;h.hlt h.jhot
theorem ROS.fj (h:ROS w F j r pre own W D M){k:Nat}(c:F k):k≠j:=by
 obtain⟨_,_,h,_,_,b⟩:=h;exact fun e=>(b k c).2.1 (e▸h.jhot)
theorem ROS.cells (h:ROS w F j r pre own W D M):∃gv dv ev,W.heap[j]?=some (RJC r (M.number:Int) M.term gv pre M.now M.vote dv ev M.dead):=let ⟨_,_,h,_⟩:=h;h.cellsD
theorem ROS.next (h:ROS w F j r pre own W D M)(d:Below W.heap.size W W2):ROS w F j r pre own W2 D M:=by
 obtain⟨c,b,hF,i,l,f⟩:=h;exact⟨c,b,hF.below d,i.trans ((Chg.of_below d).mono (T:=own) fun _ _ e=>e.elim) fun _ _ h=>h,l,fun k g=>⟨Nat.lt_of_lt_of_le (f k g).1 d.size,(f k g).2⟩⟩
theorem ROS.same (h:ROS w F j r pre own W D M)(b:Below W.heap.size W W2):Same F W W2:=fun k c=>b.block k (h.flt c)
theorem ROS.less (h:ROS w F j r pre own W D M)(hF:∀k,F' k→F k):ROS w F' j r pre own W D M:=by
 obtain⟨c,b,d,f,i,g⟩:=h;exact⟨c,b,d,f,i,fun k l=>g k (hF k l)⟩
theorem ROS.more (h:ROS w F j r pre own W D M)(c:Below W.heap.size W W2)(hF:∀k,F' k→F k∨(W.heap.size≤k∧k<W2.heap.size)):ROS w F' j r pre own W2 D M:=by
 have n:=h.next c;obtain⟨d,b,f,i,l,g⟩:=h;refine⟨d,b,f.below c,i.trans ((Chg.of_below c).mono (T:=own) fun _ _ e=>e.elim) fun _ _ h=>h,l,fun k m=>?_⟩;rcases hF k m with h|h
 ·exact⟨Nat.lt_of_lt_of_le (g k h).1 c.size,(g k h).2⟩
 ·exact⟨h.2,fun e=>by have:=f.hlt e;omega,fun e=>by have:=f.clt e;omega⟩
theorem ros_step {D':zAA}{M':zAJ}{g c:Nat→Prop}(q:Chg own w W)(p:∀k,g k∨c k→own k∨w.heap.size≤k)(l:∀k,F k→k<W.heap.size∧¬g k∧¬c k)(t:zAq W j r pre g c W2 D' M'):ROS w F j r pre own W2 D' M'∧Same F W W2:=by
 obtain⟨m,f,o,i,n,d⟩:=t;have v:=q.size;refine⟨⟨m,f,o,q.trans i fun k b s=>(p k (.inl s)).resolve_right (by omega),fun k b=>?_,fun k b=>⟨Nat.lt_of_lt_of_le (l k b).1 i.size,fun e=>?_,fun e=>?_⟩⟩,fun k b=>i.block k (l k b).1 (l k b).2.1⟩
 ·rcases b with b|b
  ·rcases n k b with h|h
   ·exact p k (.inl h)
   ·exact .inr (by omega)
  ·rcases d k b with h|h
   ·exact p k (.inr h)
   ·exact .inr (by omega)
 ·rcases n k e with h|h
  ·exact(l k b).2.1 h
  ·have:=(l k b).1;omega
 ·rcases d k e with h|h
  ·exact(l k b).2.2 h
  ·have:=(l k b).1;omega
theorem ros_ref (h:ROS w F j r pre own W D M):∃v L b,zAd W r v L b D:=by
 obtain⟨_,_,⟨_,b,_,_,_,_,v,L,_,c,_⟩,_⟩:=h;exact⟨v,L,b,c⟩
theorem zFR {P:Program}{f:FuncId}{args:Array Value}{Re:zAA×Nat}{wc:World}(h:ROS w F j r pre own W D M)(k:Below W.heap.size W wc)(o:∀v L b,zAd wc r v L b D→Calls P f args wc (zCh wc r b Re)) :
  Calls P f args wc fun e w'=>e=.returned (.int .i64 (Re.2:Int))∧ROS w F j r pre own w' Re.1 M∧Same F W w':=by
 obtain⟨g,d,hF,l,n,m⟩:=h;refine(rj_disk hF k fun v L b i _=>o v L b i).mono ?_;rintro e w' ⟨rfl,c,-⟩;exact⟨rfl,ros_step l n m c⟩
theorem zGK (h:ROS w F j r pre own W D M)(b:M.entries.length≤1000000) :
  Calls prog 93 #[.pointer (some ⟨j,0,none⟩)] W fun e w'=>e=.returned (.int .i64 ((zAT D (nm pre) M).2:Int))∧ROS w F j r pre own w' (zAT D (nm pre) M).1 M∧Same F W w':=by
 obtain⟨f,d,hF,g,k,i⟩:=h;refine(rjanew_calls hF b).mono ?_;rintro e w' ⟨rfl,c,-⟩;exact⟨rfl,ros_step g k i c⟩
theorem ros_stands (h:ROS w F j r pre own W D M){n2:Nat}{t2:Int}{g2:List Int}(c:M.number<n2)(q:(⟨n2,t2,g2,M.data⟩:zDP).OK){pg:Option Addr}{cg:Nat}(n:zBY W (.slice pg g2.length cg) g2)(d:∀k,(Value.slice pg g2.length cg).ownBlock=some k→F k) :
  Calls prog 92 #[.pointer (some ⟨j,0,none⟩),.agg #[.int .i64 (n2:Int),.int .i64 t2,.slice pg g2.length cg]] W fun e w'=>e=.returned (.tuple #[])∧ROS w F j r pre own w' D (M.rebase ⟨n2,t2,g2,M.data⟩)∧Same F W w':=by
 have b:=fun k p=>h.fj (k:=k) (d k p);obtain⟨i,g,hF,l,o,m⟩:=h;refine(zFZ hF c q n b).mono ?_;rintro e w' ⟨rfl,f⟩;exact⟨rfl,ros_step l o m f⟩
theorem ros_data (h:ROS w F j r pre own W D M){s:Bs}{v2:Value}(R:zAb W v2 s)(hF:∀k,v2.ownBlock=some k→F k∧w.heap.size≤k)(d:∀k,F' k→F k∧v2.ownBlock≠some k)(A:s.length≤1073741824) :
  ROS w F' j r pre own (W.setCell ⟨j,7,none⟩ v2) D {M with data:=s}∧Same F W (W.setCell ⟨j,7,none⟩ v2):=by
 have o:=fun k b=>h.fj (k:=k) b;have S:=h.jlt;obtain⟨t,f,m,P,B,l⟩:=h;have C:=m.jhot;obtain⟨O,q,I,dv,H,vs,v,L,c,N,J,y,z⟩:=m;have hS:Chg (fun k=>k=j) W (W.setCell ⟨j,7,none⟩ v2):=Chg.setCell W ⟨j,7,none⟩ _;have g:=zAC c.cells 7 v2;have E:∀k,v2.ownBlock=some k→k≠j:=fun k b=>o k (hF k b).1;have n:∀k,f k→k≠j:=fun k b e=>c.dis k b (e▸c.oj);have V:=P.size;have a:zFq (W.setCell ⟨j,7,none⟩ v2) j r pre O (fun k=>f k∨v2.ownBlock=some k) {M with data:=s} I v2 H vs:={
  cells:=by simpa using g
  group:=zAK.chg c.group hS fun k b=>n k (c.cg k b)
  data:=zAb.chg R hS fun k b=>E k b
  row:=c.row.keep fun k b=>hS.block k (c.olt k (c.oe k b).1) (c.oe k b).2
  rlen:=c.rlen
  rows:=fun i e v Q G=>(c.rows i e v Q G).keep fun k b=>hS.block k (c.clt k (c.cv v (List.mem_of_getElem? G) k b)) (n k (c.cv v (List.mem_of_getElem? G) k b))
  oj:=c.oj
  oe:=c.oe
  cg:=fun k b=>.inl (c.cg k b)
  cd:=fun k b=>.inr b
  cv:=fun u T k b=>.inl (c.cv u T k b)
  dis:=fun k b p=>by
   rcases b with b|b
   ·exact c.dis k b p
   ·exact(l k (hF k b).1).2.1 ((z k).2 (.inl p))
  olt:=fun k b=>Nat.lt_of_lt_of_le (c.olt k b) hS.size
  clt:=fun k b=>Nat.lt_of_lt_of_le (b.elim (c.clt k) fun e=>(l k (hF k e).1).1) hS.size
  psz:=c.psz
  ok:=⟨c.ok.last,c.ok.term,c.ok.group,c.ok.now,c.ok.vote,A,c.ok.ents⟩ }
 refine⟨⟨t,_,⟨O,q,I,v2,H,vs,v,L,a,N.keep hS.size (fun k b=>hS.block k (N.olt k b) fun e=>J j c.oj (e▸b)),J,fun k b p=>?_,z⟩,P.trans hS fun k b e=>?_,fun k b=>?_,fun k b=>⟨?_,?_,?_⟩⟩,fun k b=>hS.block k (l k b).1 (o k b)⟩
 ·rcases b with b|b
  ·exact y k b p
  ·exact(l k (hF k b).1).2.1 ((z k).2 (.inr p))
 ·exact(B j (.inl C)).elim (fun h=>e▸h) fun h=>by have U:k=j:=e;omega
 ·rcases b with b|b|b
  ·exact B k (.inl b)
  ·exact B k (.inr b)
  ·exact .inr (hF k b).2
 ·exact Nat.lt_of_lt_of_le (l k (d k b).1).1 hS.size
 ·exact(l k (d k b).1).2.1
 ·exact fun e=>e.elim (l k (d k b).1).2.2 (d k b).2
theorem ros_new (h:ROS w F j r pre own W D M):∃S,zBc S W j r pre M∧(∀k,S k→k<W.heap.size∧¬F k) ∧
  (∀g M',zBc (fun k=>S k∨W.heap.size≤k) g j r pre M'→Chg (fun k=>S k∨W.heap.size≤k) W g→ROS w F j r pre own g D M'∧Same F W g) ∧
  ∀g,Chg (fun k=>S k∨W.heap.size≤k) W g→∃own',RefAt g r D own'∧Chg own w g∧∀k,own' k→own k∨w.heap.size≤k:=by
 obtain⟨N,c,E,H,I,q⟩:=h;obtain⟨O,d,Q,dv,P,vs,v,L,B,m,T,A,z⟩:=E;have U:=H.size;have s:∀k,F k→¬(O k∨c k):=fun k b e=>e.elim (fun o=>(q k b).2.1 ((z k).2 (.inl o))) (q k b).2.2;have n:∀k,(O k∨c k)→own k∨w.heap.size≤k:=fun k b=>I k (b.imp (fun o=>(z k).2 (.inl o)) id);have p:∀k,(O k∨c k)→¬d k:=fun k b=>b.elim (T k) (A k);refine⟨fun k=>O k∨c k,⟨O,c,Q,dv,P,vs,B,fun _ h=>h⟩,fun k b=>⟨b.elim (B.olt k) (B.clt k),fun e=>s k e b⟩,fun g M' R i=>?_,fun g i=>⟨d,⟨v,L,m.keep i.size fun k b=>i.block k (m.olt k b) fun e=>e.elim (fun e=>p k e b) fun e=>by have:=m.olt k b;omega⟩,H.trans i fun k b e=>e.elim (fun e=>(n k e).resolve_right (by omega)) fun e=>by omega,fun k b=>I k (.inl ((z k).2 (.inr b)))⟩⟩;obtain⟨y,C',gv',dv',ev',vs',C,t⟩:=R;have G:=m.keep i.size fun k b=>i.block k (m.olt k b) fun e=>e.elim (fun e=>p k e b) fun e=>by have:=m.olt k b;omega
 have l:∀k,(y k∨C' k)→¬d k:=fun k b J=>by
  rcases t k b with e|e
  ·exact p k e J
  ·have:=m.olt k J;omega
 have f:∀k,(y k∨C' k)→own k∨w.heap.size≤k:=fun k b=>by
  rcases t k b with e|e
  ·exact n k e
  ·exact .inr (by omega)
 have a:∀k,F k→¬(y k∨C' k):=fun k b e=>by
  rcases t k e with e|e
  ·exact s k b e
  ·have:=(q k b).1;omega
 refine⟨⟨fun k=>y k∨d k,C',⟨y,d,gv',dv',ev',vs',v,L,C,G,fun k b=>l k (.inl b),fun k b=>l k (.inr b),fun k=>Iff.rfl⟩,H.trans i fun k b e=>?_,fun k b=>?_,fun k b=>⟨Nat.lt_of_lt_of_le (q k b).1 i.size,fun e=>?_,fun e=>a k b (.inr e)⟩⟩,fun k b=>i.block k (q k b).1 fun e=>?_⟩
 ·rcases e with e|e
  ·exact(n k e).resolve_right (by omega)
  ·omega
 ·rcases b with(b|b)|b
  ·exact f k (.inl b)
  ·exact I k (.inl ((z k).2 (.inr b)))
  ·exact f k (.inr b)
 ·rcases e with e|e
  ·exact a k b (.inl e)
  ·exact(q k b).2.1 ((z k).2 (.inr e))
 ·rcases e with e|e
  ·exact s k b e
  ·have:=(q k b).1;omega
def zFc (w:World)(r:Nat)(pre:ByteArray)(own:Nat→Prop)(R:zAA×Nat×zAJ)(e:Ending)(w':World):Prop :=
 (R.2.1=0∧∃j Hot Cold,e=.returned (.tuple #[.pointer (some ⟨j,0,none⟩),.int .i64 0])∧RJF w' j r pre R.1 R.2.2 Hot Cold∧Chg own w w'∧∀k,Hot k∨Cold k→own k∨w.heap.size≤k) ∨
 (R.2.1≠0∧e=.returned (.tuple #[.pointer none,.int .i64 (R.2.1:Int)])∧∃own',RefAt w' r R.1 own'∧Chg own w w'∧∀k,own' k→own k∨w.heap.size≤k)
theorem zBU {R:zAA×Nat×zAJ}(h:ROS w F j r pre own W D M)(d:R=(D,0,M)):zFc w r pre own R (.returned (.tuple #[.pointer (some ⟨j,0,none⟩),.int .i64 0])) W:=by
 subst d;obtain⟨c,b,hF,f,g,-⟩:=h;exact .inl ⟨rfl,j,c,b,rfl,hF,f,g⟩
theorem zAj {R:zAA×Nat×zAJ}{M':zAJ}{k:Nat}(h:ROS w F j r pre own W D M)(c:R=(D,k,M'))(d:k≠0):zFc w r pre own R (.returned (.tuple #[.pointer none,.int .i64 (k:Int)])) W:=by
 subst c;obtain⟨g,f,hF,m,n,-⟩:=h;obtain⟨O,b,p,dv,o,vs,v,L,q,c,s,i,l⟩:=hF;exact .inr ⟨d,rfl,b,⟨v,L,c⟩,m,fun k d=>n k (.inl ((l k).2 (.inr d)))⟩
theorem ropened_bad2 {R:zAA×Nat×zAJ}{M':zAJ}{k:Nat}(h:∃own',RefAt W r D own'∧Chg own w W∧∀k,own' k→own k∨w.heap.size≤k)(b:R=(D,k,M'))(c:k≠0):zFc w r pre own R (.returned (.tuple #[.pointer none,.int .i64 (k:Int)])) W:=by
 subst b;exact .inr ⟨c,rfl,h⟩
theorem ropened_arg {R:zAA×Nat×zAJ}{M':zAJ}{k:Nat}{v:Value}{L:List zAQ}(h:zAd w r v L own D)(c:Below w.heap.size w W)(d:R=(D,k,M'))(b:k≠0):zFc w r pre own R (.returned (.tuple #[.pointer none,.int .i64 (k:Int)])) W:=by
 subst d;exact .inr ⟨b,rfl,own,⟨v,L,h.below c⟩,(Chg.of_below c).mono fun _ _ e=>e.elim,fun k b=>.inl b⟩
theorem ros_fresh {v:Value}{L:List zAQ}{nodes:List Int}{g:Value}(h:zAd w r v L own D)(n:Below w.heap.size w W)(q:1≤pre.size∧pre.size≤20)(p:zAZ nodes=true)(c:W.heap[j]?=some (RJC r 0 0 g pre 0 (-1) (.slice none 0 0) (.slice none 0 0) false))(a:w.heap.size≤j)(l:zBY W g nodes)(d:∀k,g.ownBlock=some k→w.heap.size≤k∧k<W.heap.size∧k≠j)(hF:∀k,F k→k<W.heap.size∧w.heap.size≤k∧k≠j∧g.ownBlock≠some k) :
  ROS w F j r pre own W D (zAJ.none0 nodes):=by
 have f:=h.olt;refine⟨fun k=>k=j∨own k,fun k=>g.ownBlock=some k,⟨fun k=>k=j,own,g,.slice none 0 0,.slice none 0 0,[],v,L,{
  cells:=c
  group:=l
  data:=zAi.has (e:=0) (OwnR.nil _ _ _)
  row:=OwnR.nil _ _ _
  rlen:=rfl
  rows:=fun i e v o t=>by simp at t
  oj:=rfl
  oe:=fun k b=>by cases b
  cg:=fun k b=>b
  cd:=fun k b=>by cases b
  cv:=fun u s=>by simp at s
  dis:=fun k b e=>(d k b).2.2 e
  olt:=fun k b=>by rw[b];exact zAB c
  clt:=fun k b=>(d k b).2.1
  psz:=q
  ok:=⟨Nat.zero_le _,rfl,p,rfl,⟨show(-1:Int)≤-1 by decide,show(-1:Int)<7 by decide⟩,Nat.zero_le _,fun e o=>(by cases o)⟩ },h.below n,fun k b m=>?_,fun k b m=>?_,fun k=>Iff.rfl⟩,(Chg.of_below n).mono fun _ _ e=>e.elim,fun k b=>?_,fun k b=>⟨(hF k b).1,fun e=>?_,(hF k b).2.2.2⟩⟩
 ·have:=f k m;rw[b]at this;omega
 ·have:=f k m;have:=(d k b).1;omega
 ·rcases b with(b|b)|b
  ·exact .inr (by omega)
  ·exact .inl b
  ·exact .inr (d k b).1
 ·rcases e with e|e
  ·exact(hF k b).2.2.1 e
  ·have y:=f k e;have z:=(hF k b).2.1;omega
end
theorem rsnap_len {b:Bs}{l:List Int}{c:Rd}(h:RLst (Rd.num ⟨b,false⟩).2.num.2 l c)(d:c.bad=false):c.bytes.1.length≤b.length:=by
 refine Nat.le_trans (rbytes_le c) ?_;rcases h with⟨-,-,-,rfl⟩|⟨-,h⟩
 ·refine Nat.le_trans (zDX _ _) ?_;exact Nat.le_trans (Rd.num_rest _) (zDX 2 ⟨b,false⟩)
 ·rw[h]at d;cases d
end Go.Proofs.YtapfnehdgailmaaGreat
