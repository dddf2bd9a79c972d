/- What the program's functions and the document's do, and plain laws, for PJournalTwice. -/
import Derived.Deep.DeepCutAuto
import Derived.Test.YtapfnehdgailmaaGreatKA
import Derived.Test.YtapfnehdgailmaaGreatKC
import Derived.Test.YtapfnehdgailmaaGreatKD
import Derived.Test.YtapfnehdgailmaaGreatKE
import Derived.Test.YtapfnehdgailmaaGreatKF
import Derived.Test.YtapfnehdgailmaaGreatKG
import Derived.Test.YtapfnehdgailmaaGreatKI
import Derived.Test.YtapfnehdgailmaaGreatKJ
import Derived.Test.YtapfnehdgailmaaGreatKM
import Derived.Test.YtapfnehdgailmaaGreatKN
import Derived.Test.YtapfnehdgailmaaGreatKO
import Derived.Test.YtapfnehdgailmaaGreatKQ
import Derived.Test.YtapfnehdgailmaaGreatKR
import Derived.Test.YtapfnehdgailmaaGreatKS
open Go.Proofs.Tryz
set_option maxRecDepth 100000
set_option maxHeartbeats 64000000
namespace Go.Proofs.YtapfnehdgailmaaGreat
open Go.RowKit Go.Sat Go.Maps
abbrev zEm (d r:Nat)(j x:Value)(over:Bool):Obj:=.cells #[.pointer (some ⟨d,0,none⟩),.pointer (some ⟨r,0,none⟩),j,x,.bool over] 47 (0,0)
abbrev zDw:List Int:=[0,1,2]
abbrev LitO:Obj:=.cells #[.int .i64 0,.int .i64 1,.int .i64 2] 3 (0,0)
theorem zGI (W:World):zBe (W.alloc LitO) (.slice (some ⟨W.heap.size,0,none⟩) 3 3) zDw :=
 ⟨by simp,some ⟨W.heap.size,0,none⟩,3,rfl,fun e=>(by cases e),fun a b i u c=>by
  cases b;rw[add_zero];refine zAG (zAI W _) ?_;simpa using c⟩
theorem refIn_move {w w':World}{r:Nat}{D:zAA}(h:zAc w r (.slice none 0 0) [] (fun k=>k=r) D)(f:∀k,k=r→w'.heap[k]?=w.heap[k]?)(d:r<w'.heap.size):zAc w' r (.slice none 0 0) [] (fun k=>k=r) D where
 cells:=(f r rfl).trans h.cells
 row:=OwnR.nil _ _ _
 files:=h.files
 data:=fun x c=>by cases c
 or:=rfl
 ov:=fun k b=>by cases b
 ob:=fun x c=>by cases c
 olt:=fun k b=>by rw[b];exact d
 ok:=h.ok
def Opened (w:World)(p d r room:Nat)(w':World):Prop :=
 ∃j x,zAl w w' j d sA (zC6 room [97] zDw) (zAJ.none0 zDw) (fun k=>k=p)∧w'.heap[p]?=some (zEm d r (.pointer (some ⟨j,0,none⟩)) (.pointer (some ⟨x,0,none⟩)) false)
def Opened2 (w:World)(p d r room:Nat)(w':World):Prop :=
 ∃j x Hot Cold,zAl w w' j d sA (zC6 room [97] zDw) (zAJ.none0 zDw) (fun k=>k=p∨Hot k∨Cold k)∧w'.heap[p]?=some (zEm d r (.pointer (some ⟨j,0,none⟩)) (.pointer (some ⟨x,0,none⟩)) false) ∧
  RJF w' x r sA (zC6 room [97] zDw) (zAJ.none0 zDw) Hot Cold∧∀k,Hot k∨Cold k→w.heap.size≤k∧k≠p
theorem Opened2.opened {w:World}{p d r room:Nat}{w':World}(h:Opened2 w p d r room w'):Opened w p d r room w':=by
 obtain⟨j,x,c,b,f,i,-,-⟩:=h;exact⟨j,x,f.less fun k g=>.inl g,i⟩
theorem popen2_calls {w w1:World}{d r p room:Nat}(h:St w w1 d (zAA.fresh room) (fun k=>k=p∨k=r))(hR:zAc w1 r (.slice none 0 0) [] (fun k=>k=r) (zAA.fresh room))(L:w1.heap[p]?=some (zEm d r (.pointer none) (.pointer none) false))(H:w.heap.size≤r∧w.heap.size≤p)(I:p≠r)(Y:200≤room)(J:room≤1048576) :
  Calls prog 97 #[.pointer (some ⟨p,0,none⟩)] w1 fun e w'=>e=.returned (.bool true)∧Opened2 w p d r room w':=by
 have t:zAS (zAA.fresh room) (nm sA) zDw=(zC6 room [97] zDw,0,zAJ.none0 zDw):=jopen_fresh Y (by omega) (pre:=[97]) ⟨by decide,by decide⟩ (by rfl);have C:=zh (zFt (h.next (zAD w1 LitO)) (show(zAA.fresh room).room≤1048576 from J) sA (zGI w1) (by simp));rw[t]at C;have T:=zh (fun W (hW:zAc W r (.slice none 0 0) [] (fun k=>k=r) (zAA.fresh room))=>show Calls prog 18 #[.pointer (some ⟨r,0,none⟩),.string sA,.slice (some ⟨W.heap.size,0,none⟩) 3 3] (W.alloc LitO) (zFk (W.alloc LitO) r sA (fun k=>k=r) (zC6 room [97] zDw,0,zAJ.none0 zDw)) by
  have:=ropen_calls (hW.below (zAD W LitO)) (show(zAA.fresh room).room≤1048576 from J) sA (zGI W) (by simp) fun O=>open_snp_le (D:=zAA.fresh room) List.Pairwise.nil (show(zAA.fresh room).used≤524288 from Nat.zero_le _) O;rwa[t]at this)
 have HR:=zh hR;have q:=zh H;have F:=zh I;have Hp:=zh L;have U:=zh (fun k (b:k=p∨k=r)=>h.flt b);have V:=zAy LitO L;have c0:=zAW L;clear h hR L H I V t
 go_enter func97,ntmps97
 go_wp2_with fail;refine C.o.mono ?_;rintro e w2 ⟨ac,K,s⟩;rcases s with⟨-,j,rfl,hj⟩|⟨v,-⟩
 ·have a:=zh hj;have E:=zh ((K p (.inl rfl)).trans (zAy LitO Hp.o));have n:∀k,k=r→w2.heap[k]?=w1.heap[k]?:=fun k b=>by
   rw[b];exact(K r (.inr rfl)).trans (zEt w1 LitO (U.o r (.inr rfl)))
  have P:=zh (refIn_move HR.o n (a.o.flt (.inr rfl)));have c1:=zAd E.o;clear ac K hj n c0;have G:=zh (T.o w2 P.o);go_wp2_with fail;refine G.o.mono ?_;rintro e y hT;rcases hT with⟨-,z,g,c,rfl,hF,l,m⟩|⟨v,-⟩
  rotate_left
  ·exact absurd rfl v
  have ab:=(zAD w2 LitO).size;have aa:=a.o.bel.size;have Z:r<w2.heap.size:=a.o.flt (.inr rfl);have X:p<w2.heap.size:=a.o.flt (.inl rfl);have B:=zW (∀k,g k∨c k→w.heap.size≤k∧k≠p∧k<y.heap.size) (fun k b=>by
   refine⟨?_,?_,b.elim (fun h=>hF.hlt h) fun h=>hF.clt h⟩
   ·rcases m k b with e|e
    ·rw[e];exact q.o.1
    ·omega
   ·rcases m k b with e|e
    ·rw[e];exact fun e=>F.o e.symm
    ·omega)
  have HF:=zh hF;have A:=zW (zAl w y j d sA (zC6 room [97] zDw) (zAJ.none0 zDw) (fun k=>k=p∨g k∨c k)) ((a.o.next (zAD w2 LitO)).move l (fun k _ e=>⟨.inr e,by rw[e];exact q.o.1⟩) fun k b=>by
   rcases b with b|b
   ·exact⟨.inl (.inl b),by rw[b];have:=l.size;omega⟩
   ·refine⟨?_,(B.o k b).2.2⟩;rcases m k b with e|e
    ·exact .inl (.inr e)
    ·exact .inr e)
  have f:=(l.block p (by omega) F.o).trans (zAy LitO E.o);have Q:=zh f;have d2:=zAb f;have d3:=zAu f;have f2:=zAE f 2;have f3:=zAE f 3;have i:Chg (fun k=>k=p) y ((y.setCell ⟨p,2,none⟩ (.pointer (some ⟨j,0,none⟩))).setCell ⟨p,3,none⟩ (.pointer (some ⟨z,0,none⟩))):=(Chg.setCell y ⟨p,2,none⟩ _).trans (Chg.setCell _ ⟨p,3,none⟩ _) fun _ _ e=>e;have M:=zh (HF.o.chg i fun k e=>⟨fun h=>(B.o k (.inl h)).2.1 e,fun h=>(B.o k (.inr h)).2.1 e⟩);have N:=zW (zAl w ((y.setCell ⟨p,2,none⟩ (.pointer (some ⟨j,0,none⟩))).setCell ⟨p,3,none⟩ (.pointer (some ⟨z,0,none⟩))) j d sA (zC6 room [97] zDw) (zAJ.none0 zDw) (fun k=>k=p∨g k∨c k)) (A.o.move (S:=fun k=>k=p) i (fun k _ e=>⟨.inl e,by rw[e];exact q.o.2⟩) fun k b=>⟨.inl b,Nat.lt_of_lt_of_le (A.o.flt b) i.size⟩);have R:=zW (((y.setCell ⟨p,2,none⟩ (.pointer (some ⟨j,0,none⟩))).setCell ⟨p,3,none⟩ (.pointer (some ⟨z,0,none⟩))).heap[p]?=some (zEm d r (.pointer (some ⟨j,0,none⟩)) (.pointer (some ⟨z,0,none⟩)) false)) (by
   have h1:=zAC Q.o 2 (.pointer (some ⟨j,0,none⟩));have h2:=zAC h1 3 (.pointer (some ⟨z,0,none⟩));simpa using h2)
  clear l f Z X c1 hF m ab aa i;go_wp2_with fail;go_ret;exact⟨rfl,j,z,g,c,N.o,R.o,M.o,fun k b=>⟨(B.o k b).1,(B.o k b).2.1⟩⟩
 ·exact absurd rfl v
theorem start2_calls (w:World)(room:Nat)(D:200≤room)(E:room≤1048576) :
  Calls prog 21 #[.int .i64 (room:Int)] w fun e w'=>∃p d r,e=.returned (.tuple #[.pointer (some ⟨p,0,none⟩),.bool true])∧Opened2 w p d r room w'∧w.heap.size≤p:=by
 have i:=zh (st_new (w:=w) (w1:=w) (room:Int) (by omega) (by omega) (Below.refl _ _));have z:=zh (fun W=>rnew_calls W (room:Int) (by omega) (by omega));have y:=zh (fun W d r p a b c e f=>popen2_calls (w:=w) (w1:=W) (d:=d) (r:=r) (p:=p) a b c e f D E);rw[Int.toNat_natCast]at i
 go_enter func21,ntmps21
 go_wp2_with fail;refine i.o.mono ?_;rintro e w2 ⟨d,rfl,q⟩;have l:=zh q;have n:=zh (z.o w2);rw[Int.toNat_natCast]at n;clear q;go_wp2_with fail;refine n.o.mono ?_;rintro e w3 ⟨r,rfl,B,g,j⟩;have F:=B.olt r rfl;have A:=zW (St w (w3.alloc (zEm d r (.pointer none) (.pointer none) false)) d (zAA.fresh room) (fun k=>k=w3.heap.size∨k=r)) (l.o.move (Chg.of_below (g.trans ((zAD w3 _).mono g.size))) (fun _ _ h=>h.elim) fun k C=>by
  have J:=g.size;have I:(w3.alloc (zEm d r (.pointer none) (.pointer none) false)).heap.size=w3.heap.size+1:=by simp
  rcases C with C|C
  ·exact⟨.inr (by omega),by omega⟩
  ·exact⟨.inr (by omega),by omega⟩)
 have s:=zh (B.below (zAD w3 (zEm d r (.pointer none) (.pointer none) false)));have m:=zW (w.heap.size≤r∧w.heap.size≤w3.heap.size) (⟨Nat.le_trans l.o.below.size j,Nat.le_trans l.o.below.size g.size⟩);have t:=zh (show w3.heap.size≠r by omega);have v:=zh (y.o _ _ _ _ A.o s.o (zAI w3 _) m.o t.o);clear B g j F;go_wp2_with fail;refine v.o.mono ?_;rintro e L ⟨rfl,G⟩;have H:=zh G;clear G;go_wp2_with fail
 go_ret2
 exact⟨_,_,_,rfl,H.o,m.o.2⟩
theorem start_calls (w:World)(room:Nat)(b:200≤room)(c:room≤1048576) :
  Calls prog 21 #[.int .i64 (room:Int)] w fun e w'=>∃p d r,e=.returned (.tuple #[.pointer (some ⟨p,0,none⟩),.bool true])∧Opened w p d r room w'∧w.heap.size≤p:=by
 refine(start2_calls w room b c).mono ?_;rintro e w' ⟨p,d,r,g,i,f⟩;exact⟨p,d,r,g,i.opened,f⟩
def zCP (w w1:World)(d:Nat)(D:zAA)(r:Nat)(R:zAA)(F:Nat→Prop):Prop :=
 ∃own v L,St w w1 d D (fun k=>own k∨F k)∧zAc w1 r v L own R∧(∀k,own k→w.heap.size≤k∧¬F k)∧∀k,F k→k<w1.heap.size
section
variable {w w1 w2:World} {d:Nat} {D:zAA} {r:Nat} {R:zAA} {F F':Nat→Prop}
theorem zCP.bel (h:zCP w w1 d D r R F):Below w.heap.size w w1:=let ⟨_,_,_,hS,_⟩:=h;hS.below
theorem zCP.okD (h:zCP w w1 d D r R F):D.OK:=let ⟨_,_,_,hS,_⟩:=h;hS.ok
theorem zCP.flt (h:zCP w w1 d D r R F){k:Nat}(b:F k):k<w1.heap.size:=let ⟨_,_,_,_,_,_,hF⟩:=h;hF k b
theorem zCP.pair (h:zCP w w1 d D r R F):Pair w w1 d D r R:=by
 obtain⟨own,v,L,hS,c,hn,-⟩:=h;exact⟨own,v,L,hS.less fun _ b=>.inl b,c,fun k b=>(hn k b).1⟩
theorem Pair.apart (h:Pair w w1 d D r R):zCP w w1 d D r R NoF:=by
 obtain⟨own,v,L,hS,c,hn⟩:=h;exact⟨own,v,L,hS.less fun _ b=>b.elim id fun h=>h.elim,c,fun k b=>⟨hn k b,fun h=>h⟩,fun _ h=>h.elim⟩
theorem zCP.move {S:Nat→Prop}(h:zCP w w1 d D r R F)(f:Chg S w1 w2)(hS:∀k,k<w1.heap.size→S k→F k∧w.heap.size≤k)(hF:∀k,F' k→(F k∨w1.heap.size≤k)∧k<w2.heap.size):zCP w w2 d D r R F':=by
 obtain⟨own,v,L,i,c,hn,l⟩:=h;refine⟨own,v,L,i.move f (fun k b g=>⟨.inr (hS k b g).1,(hS k b g).2⟩) (fun k b=>?_),c.keep f.size fun k b=>f.block k (c.olt k b) fun g=>(hn k b).2 (hS k (c.olt k b) g).1,fun k b=>⟨(hn k b).1,fun j=>?_⟩,fun k b=>(hF k b).2⟩
 ·rcases b with b|b
  ·exact⟨.inl (.inl b),Nat.lt_of_lt_of_le (c.olt k b) f.size⟩
  ·exact⟨(hF k b).1.imp .inr id,(hF k b).2⟩
 ·rcases(hF k j).1 with h|h
  ·exact(hn k b).2 h
  ·have:=c.olt k b;omega
theorem zCP.next (h:zCP w w1 d D r R F)(b:Below w1.heap.size w1 w2):zCP w w2 d D r R F :=
 h.move (Chg.of_below b) (fun _ _ h=>h.elim) fun _ c=>⟨.inl c,Nat.lt_of_lt_of_le (h.flt c) b.size⟩
theorem zCP.same (h:zCP w w1 d D r R F)(b:Below w1.heap.size w1 w2):Same F w1 w2:=fun _ c=>b.block _ (h.flt c)
theorem zCP.less (h:zCP w w1 d D r R F)(hF:∀k,F' k→F k):zCP w w1 d D r R F' :=
 h.move (Chg.refl _ _:Chg (fun _=>False) w1 w1) (fun _ _ h=>h.elim) fun _ b=>⟨.inl (hF _ b),h.flt (hF _ b)⟩
theorem zCP.box (h:zCP w w1 d D r R F)(o:Obj):zCP w (w1.alloc o) d D r R (fun k=>F k∨k=w1.heap.size) :=
 h.move (Chg.of_below ((Below.refl _ _).alloc (Nat.le_refl _) o)) (fun _ _ h=>h.elim) fun k b=>by
  rcases b with b|b
  ·have:=h.flt b;exact⟨.inl b,by simp;omega⟩
  ·exact⟨.inr (by omega),by simp;omega⟩
theorem pairf_disk0 {P:Program}{f:FuncId}{args:Array Value}{D':zAA}{wc:World}(h:zCP w w1 d D r R F)(g:Below w1.heap.size w1 wc)(m:∀G,St w w1 d D G→Calls P f args wc (Told0 w d G wc D')) :
  Calls P f args wc fun e w'=>e=.returned (.tuple #[])∧zCP w w' d D' r R F∧Same F w1 w':=by
 obtain⟨own,v,L,hS,j,hn,l⟩:=h;refine(m _ hS).mono ?_;rintro e w' ⟨rfl,c,i⟩;refine⟨rfl,⟨own,v,L,c,?_,hn,fun k b=>c.flt (.inr b)⟩,fun k b=>(i k (.inr b)).trans (g.block k (l k b))⟩;exact zAc.same (j.below g) (c.less fun _ b=>.inl b) fun k b=>i k (.inl b)
theorem zCP.moved {w':World}{own own':Nat→Prop}{v':Value}{L':List zAR}{i:zAA}(hS:St w w1 d D (fun k=>own k∨F k))(hn:∀k,own k→w.heap.size≤k∧¬F k)(g:∀k,F k→k<w1.heap.size)(c:zAc w' r v' L' own' i)(f:Chg own w1 w')(j:∀k,own' k→own k∨w1.heap.size≤k):zCP w w' d D r i F∧Same F w1 w':=by
 refine⟨⟨own',v',L',hS.move f (fun k _ b=>⟨.inl b,(hn k b).1⟩) (fun k b=>?_),c,fun k b=>?_,fun k b=>Nat.lt_of_lt_of_le (g k b) f.size⟩,fun k b=>f.block k (g k b) fun m=>(hn k m).2 b⟩
 ·rcases b with b|b
  ·exact⟨(j k b).imp .inl id,c.olt k b⟩
  ·exact⟨.inl (.inr b),Nat.lt_of_lt_of_le (g k b) f.size⟩
 ·rcases j k b with h|h
  ·exact hn k h
  ·exact⟨Nat.le_trans hS.below.size h,fun l=>by have:=g k l;omega⟩
theorem pairf_rcrash (h:zCP w w1 d D r R F)(n:Int)(c:-9223372036854775808≤n)(hn:n≤9223372036854775807) :
  Calls prog 51 #[.pointer (some ⟨r,0,none⟩),.int .i64 n] w1 fun e w'=>e=.returned (.tuple #[])∧zCP w w' d D r (R.crash n) F∧Same F w1 w':=by
 obtain⟨own,v,L,hS,f,g,j⟩:=h;refine(rcrash_calls f n c hn).mono ?_;rintro e w' ⟨rfl,own',v',L',b,i,k⟩;exact⟨rfl,zCP.moved hS g j b i k⟩
end
def zA7 (w w1:World)(j d x r:Nat)(D:zAA)(M:zAJ)(D2:zAA)(M2:zAJ)(G:Nat→Prop):Prop :=
 ∃F Hot Cold,zAl w w1 j d sA D M F∧RJF w1 x r sA D2 M2 Hot Cold∧(∀k,Hot k∨Cold k→F k∧w.heap.size≤k)∧∀k,G k→F k∧¬Hot k∧¬Cold k
theorem RJF.same {w1 w2:World}{j r:Nat}{pre:ByteArray}{D:zAA}{M:zAJ}{d b:Nat→Prop}(h:RJF w1 j r pre D M d b)(g:∀k,d k∨b k→w2.heap[k]?=w1.heap[k]?∧k<w2.heap.size):RJF w2 j r pre D M d b:=by
 obtain⟨O,own,p,dv,n,vs,v,L,s,f,t,q,l⟩:=h;have c:∀k,O k∨b k→d k∨b k:=fun k c=>c.imp (fun o=>(l k).2 (.inl o)) id;refine⟨O,own,p,dv,n,vs,v,L,s.keep (fun k h=>(g k (c k h)).1) (fun k h=>(g k (c k h)).2),?_,t,q,l⟩;have i:∀k,own k→d k∨b k:=fun k c=>.inl ((l k).2 (.inr c));exact {
  cells:=(g r (i r f.or)).1.trans f.cells
  row:=f.row.keep fun k c=>(g k (i k (f.ov k c).1)).1
  files:=f.files
  data:=fun x m=>OwnR.keep (f.data x m) fun k c=>(g k (i k (f.ob x m k c).1)).1
  or:=f.or
  ov:=f.ov
  ob:=f.ob
  olt:=fun k c=>(g k (i k c)).2
  ok:=f.ok}
section
variable {w w1 w2:World} {j d x r:Nat} {D D2 D':zAA} {M M2 M':zAJ} {G:Nat→Prop}
theorem zA7.bel (h:zA7 w w1 j d x r D M D2 M2 G):Below w.heap.size w w1:=let ⟨_,_,_,h,_⟩:=h;h.bel
theorem zA7.glt (h:zA7 w w1 j d x r D M D2 M2 G){k:Nat}(b:G k):k<w1.heap.size:=let ⟨_,_,_,hL,_,_,hG⟩:=h;hL.flt (hG k b).1
theorem zA7.next (h:zA7 w w1 j d x r D M D2 M2 G)(f:Below w1.heap.size w1 w2):zA7 w w2 j d x r D M D2 M2 G:=by
 obtain⟨F,c,b,i,k,l,g⟩:=h;exact⟨F,c,b,i.next f,k.below f,l,g⟩
theorem zA7.same (h:zA7 w w1 j d x r D M D2 M2 G)(b:Below w1.heap.size w1 w2):Same G w1 w2:=fun _ c=>b.block _ (h.glt c)
theorem zA7.less {G':Nat→Prop}(h:zA7 w w1 j d x r D M D2 M2 G)(f:∀k,G' k→G k):zA7 w w1 j d x r D M D2 M2 G':=by
 obtain⟨F,c,b,i,l,m,g⟩:=h;exact⟨F,c,b,i,l,m,fun k h=>g k (f k h)⟩
theorem zA7.more {G':Nat→Prop}(h:zA7 w w1 j d x r D M D2 M2 G)(m:Below w1.heap.size w1 w2)(c:∀k,G' k→G k∨(w1.heap.size≤k∧k<w2.heap.size)):zA7 w w2 j d x r D M D2 M2 G':=by
 obtain⟨F,f,b,o,i,n,l⟩:=h;refine⟨fun k=>F k∨G' k,f,b,o.more m fun k h=>?_,i.below m,fun k h=>⟨.inl (n k h).1,(n k h).2⟩,fun k h=>⟨.inr h,?_⟩⟩
 ·rcases h with h|h
  ·exact .inl h
  ·exact(c k h).imp (fun e=>(l k e).1) id
 ·rcases c k h with e|e
  ·exact(l k e).2
  ·exact⟨fun g=>by have:=i.hlt g;omega,fun g=>by have:=i.clt g;omega⟩
theorem zA7.box (h:zA7 w w1 j d x r D M D2 M2 G)(o:Obj):zA7 w (w1.alloc o) j d x r D M D2 M2 (fun k=>G k∨k=w1.heap.size) :=
 h.more (zAD w1 o) fun k b=>b.imp id fun e=>⟨by omega,by simp;omega⟩
theorem py_p {P:Program}{f:FuncId}{args:Array Value}{Q:Ending→Prop}{wc:World}(h:zA7 w w1 j d x r D M D2 M2 G)(q:∀F,zAl w w1 j d sA D M F→Calls P f args wc fun e w'=>Q e∧zAl w w' j d sA D' M' F∧Same F w1 w') :
  Calls P f args wc fun e w'=>Q e∧zA7 w w' j d x r D' M' D2 M2 G∧Same G w1 w':=by
 obtain⟨F,g,b,n,o,i,l⟩:=h;refine(q F n).mono ?_;rintro e w' ⟨p,c,m⟩;exact⟨p,⟨F,g,b,c,o.same fun k h=>⟨m k (i k h).1,c.flt (i k h).1⟩,i,l⟩,fun k h=>m k (l k h).1⟩
theorem py_r {P:Program}{f:FuncId}{args:Array Value}{Q:Ending→Prop}{wc:World}(h:zA7 w w1 j d x r D M D2 M2 G)(A:∀g b,RJF w1 x r sA D2 M2 g b→(∀k,g k→w.heap.size≤k)→(∀k,G k→¬g k)→Calls P f args wc fun e w'=>Q e∧zAq w1 x r sA g b w' D' M') :
  Calls P f args wc fun e w'=>Q e∧zA7 w w' j d x r D M D' M' G∧Same G w1 w':=by
 obtain⟨F,g,b,o,z,s,m⟩:=h;refine(A g b z (fun k h=>(s k (.inl h)).2) fun k h=>(m k h).2.1).mono ?_;rintro e w' ⟨a,i,c,n,t,y,q⟩;have B:=o.bel.size;have l:∀k,i k∨c k→(F k∨w1.heap.size≤k)∧k<w'.heap.size∧w.heap.size≤k:=fun k h=>by
  have v:(g k∨b k)∨w1.heap.size≤k:=h.elim (fun e=>(y k e).imp .inl id) fun e=>(q k e).imp .inr id;refine⟨v.imp (fun e=>(s k e).1) id,h.elim n.hlt n.clt,?_⟩;rcases v with e|e
  ·exact(s k e).2
  ·omega
 refine⟨a,⟨fun k=>i k∨c k∨G k,i,c,o.move t (fun k _ e=>s k (.inl e)) fun k h=>?_,n,fun k h=>⟨h.elim .inl fun e=>.inr (.inl e),(l k h).2.2⟩,fun k h=>⟨.inr (.inr h),fun e=>?_,fun e=>?_⟩⟩,fun k h=>t.block k (o.flt (m k h).1) (m k h).2.1⟩
 ·rcases h with h|h|h
  ·exact⟨(l k (.inl h)).1,(l k (.inl h)).2.1⟩
  ·exact⟨(l k (.inr h)).1,(l k (.inr h)).2.1⟩
  ·exact⟨.inl (m k h).1,Nat.lt_of_lt_of_le (o.flt (m k h).1) t.size⟩
 ·rcases y k e with p|p
  ·exact(m k h).2.1 p
  ·have:=o.flt (m k h).1;omega
 ·rcases q k e with p|p
  ·exact(m k h).2.2 p
  ·have:=o.flt (m k h).1;omega
theorem zA7.pairF (h:zA7 w w1 j d x r D M D2 M2 G):zCP w w1 d D r D2 G:=by
 obtain⟨F,g,l,t,y,f,c⟩:=h;obtain⟨n,A,dv,a,vs,C,hS,hn,m⟩:=t;obtain⟨O,own,q,o,p,z,v,L,E,b,H,B,s⟩:=y;have i:∀k,own k→g k:=fun k f=>(s k).2 (.inr f);refine⟨own,v,L,hS.move (S:=fun _=>False) (Chg.refl _ _) (fun _ _ h=>h.elim) (fun k h=>?_),b,fun k h=>⟨(f k (.inl (i k h))).2,fun e=>(c k e).2.1 (i k h)⟩,fun k h=>m k (c k h).1⟩;rcases h with h|h
 ·exact⟨.inl (.inr (f k (.inl (i k h))).1),b.olt k h⟩
 ·exact⟨.inl (.inr (c k h).1),m k (c k h).1⟩
theorem rj_fuse {f b:Nat→Prop}(h:RJF w1 x r sA D2 M2 f b)(n:Int)(i:-9223372036854775808≤n)(hn:n≤9223372036854775807) :
  Calls prog 49 #[.pointer (some ⟨r,0,none⟩),.int .i64 n] w1 fun e w'=>e=.returned (.tuple #[])∧zAq w1 x r sA f b w' (D2.setFuse n) M2:=by
 obtain⟨O,own,s,dv,q,vs,v,L,t,y,m,j,l⟩:=h;refine(rfuse_calls y n hn i).mono ?_;rintro e w' ⟨rfl,g,p⟩;exact⟨rfl,f,b,⟨O,own,s,dv,q,vs,v,L,t.chg p fun k d=>⟨fun o=>m k o d,fun c=>j k c d⟩,g,m,j,l⟩,p.mono fun k _ d=>(l k).2 (.inr d),fun k d=>.inl d,fun k d=>.inl d⟩
theorem jou_fuse {F:Nat→Prop}(h:zAl w w1 j d sA D M F)(n:Int)(g:-9223372036854775808≤n)(hn:n≤9223372036854775807) :
  Calls prog 40 #[.pointer (some ⟨d,0,none⟩),.int .i64 n] w1 fun e w'=>e=.returned (.tuple #[])∧zAl w w' j d sA (D.setFuse n) M F∧Same F w1 w':=by
 obtain⟨own,m,dv,l,vs,o,hS,f,p⟩:=h;refine(st_fuse hS n g hn).mono ?_;rintro e w' ⟨rfl,b,i⟩;exact⟨rfl,⟨own,m,dv,l,vs,o.keep (fun k c=>i k (.inl c)) fun k c=>b.flt (.inl c),b,f,fun k c=>b.flt (.inr c)⟩,fun k c=>i k (.inr c)⟩
theorem py_term (h:zA7 w w1 j d x r D M D2 M2 G)(t v:Int)(c:-9223372036854775808≤t∧t≤9223372036854775807)(f:-9223372036854775808≤v∧v≤9223372036854775807) :
  Calls prog 27 #[.pointer (some ⟨j,0,none⟩),.int .i64 t,.int .i64 v] w1 fun e w'=>e=.returned (.int .i64 ((zBQ [97] D M t v).err:Int))∧zA7 w w' j d x r (zBQ [97] D M t v).disk (zBQ [97] D M t v).jou D2 M2 G∧Same G w1 w' :=
 py_p (Q:=fun e=>e=.returned (.int .i64 ((zBQ [97] D M t v).err:Int))) h fun _ b=>jsetTerm_calls b t v c f
theorem py_rterm (h:zA7 w w1 j d x r D M D2 M2 G)(t v:Int)(c:-9223372036854775808≤t∧t≤9223372036854775807)(f:-9223372036854775808≤v∧v≤9223372036854775807) :
  Calls prog 45 #[.pointer (some ⟨x,0,none⟩),.int .i64 t,.int .i64 v] w1 fun e w'=>e=.returned (.int .i64 ((zBQ [97] D2 M2 t v).err:Int))∧zA7 w w' j d x r D M (zBQ [97] D2 M2 t v).disk (zBQ [97] D2 M2 t v).jou G∧Same G w1 w' :=
 py_r (Q:=fun e=>e=.returned (.int .i64 ((zBQ [97] D2 M2 t v).err:Int))) h fun _ _ b _ _=>(rjterm_calls b t v c f).mono fun _ _ h=>⟨h.1,h.step⟩
theorem py_cut (h:zA7 w w1 j d x r D M D2 M2 G)(i:Int)(c:-9223372036854775808≤i∧i≤9223372036854775807) :
  Calls prog 23 #[.pointer (some ⟨j,0,none⟩),.int .i64 i] w1 fun e w'=>e=.returned (.int .i64 ((zB2 [97] D M i).err:Int))∧zA7 w w' j d x r (zB2 [97] D M i).disk (zB2 [97] D M i).jou D2 M2 G∧Same G w1 w' :=
 py_p (Q:=fun e=>e=.returned (.int .i64 ((zB2 [97] D M i).err:Int))) h fun _ b=>jcut_calls b i c
theorem py_rcut (h:zA7 w w1 j d x r D M D2 M2 G)(i:Int)(c:-9223372036854775808≤i∧i≤9223372036854775807) :
  Calls prog 46 #[.pointer (some ⟨x,0,none⟩),.int .i64 i] w1 fun e w'=>e=.returned (.int .i64 ((zB2 [97] D2 M2 i).err:Int))∧zA7 w w' j d x r D M (zB2 [97] D2 M2 i).disk (zB2 [97] D2 M2 i).jou G∧Same G w1 w' :=
 py_r (Q:=fun e=>e=.returned (.int .i64 ((zB2 [97] D2 M2 i).err:Int))) h fun _ _ b _ _=>(rjcut_calls b i c).mono fun _ _ h=>⟨h.1,h.step⟩
theorem py_compact (h:zA7 w w1 j d x r D M D2 M2 G)(m:M.entries.length≤1000000)(i:Int)(k:-9223372036854775808≤i∧i≤9223372036854775807){p:Option Addr}{n c:Nat}{b:Bs}(hn:b.length=n)(l:n≤140737488355328)(o:zAY w (.slice p n c) b) :
  Calls prog 30 #[.pointer (some ⟨j,0,none⟩),.int .i64 i,.slice p n c] w1 fun e w'=>e=.returned (.int .i64 ((zAe [97] D M i b).err:Int))∧zA7 w w' j d x r (zAe [97] D M i b).disk (zAe [97] D M i b).jou D2 M2 G∧Same G w1 w' :=
 py_p (Q:=fun e=>e=.returned (.int .i64 ((zAe [97] D M i b).err:Int))) h fun _ f=>zFf f m i k hn l fun _ g _=>zAY.old o g
theorem py_rcompact (h:zA7 w w1 j d x r D M D2 M2 G)(v:M2.entries.length≤1000000)(i:Int)(q:-9223372036854775808≤i∧i≤9223372036854775807){p:Option Addr}{n c:Nat}{b:Bs}(hn:b.length=n)(t:n≤140737488355328)(l:zAY w (.slice p n c) b) :
  Calls prog 47 #[.pointer (some ⟨x,0,none⟩),.int .i64 i,.slice p n c] w1 fun e w'=>e=.returned (.int .i64 ((zAe [97] D2 M2 i b).err:Int))∧zA7 w w' j d x r D M (zAe [97] D2 M2 i b).disk (zAe [97] D2 M2 i b).jou G∧Same G w1 w' :=
 py_r (Q:=fun e=>e=.returned (.int .i64 ((zAe [97] D2 M2 i b).err:Int))) h fun _ _ m o _=>(rjcompact_calls m v i q hn t (zAY.old l h.bel) fun f k s g=>by
  have y:=zAY.lt l f s;have z:=o k g;omega).mono fun _ _ h=>⟨h.1,h.step⟩
theorem hasI_lt {v:Value}{g:List Int}(h:zBe w v g)(b:g≠[]){k:Nat}(c:v.ownBlock=some k):k<w.heap.size:=by
 obtain⟨o,p,d,rfl,m,l⟩:=h;cases g with
 | nil=>exact absurd rfl b
 | cons z g =>
  cases p with
  | none=>cases c
  | some a =>
   have f:=l a rfl 0 _ rfl;have i:=World.block_lt_of_cell? w _ f;have j:(a.add 0).block=a.block:=by unfold Addr.add;split<;>rfl
   rw[j]at i;have n:k=a.block:=(Option.some.inj c).symm;omega
theorem py_install (h:zA7 w w1 j d x r D M D2 M2 G)(z:M.entries.length≤1000000)(i t:Int)(v:-9223372036854775808≤i∧i≤9223372036854775807){p q:Option Addr}{m e n c:Nat}{g:List Int}{b:Bs}(hn:b.length=n)(y:n≤140737488355328)(k:g.length=m)(f:m≤1099511627776)(s:zBe w (.slice q m e) g)(a:zAY w (.slice p n c) b) :
  Calls prog 38 #[.pointer (some ⟨j,0,none⟩),.int .i64 i,.int .i64 t,.slice q m e,.slice p n c] w1 fun e w'=>e=.returned (.int .i64 ((zAh [97] D M i t g b).err:Int))∧zA7 w w' j d x r (zAh [97] D M i t g b).disk (zAh [97] D M i t g b).jou D2 M2 G∧Same G w1 w' :=
 py_p (Q:=fun e=>e=.returned (.int .i64 ((zAh [97] D M i t g b).err:Int))) h fun _ l=>jinstall_calls l z i t v hn y k f (zAM.chg s (Chg.of_below l.bel) fun _ _=>id) fun _ o _=>zAY.old a o
theorem py_rinstall (h:zA7 w w1 j d x r D M D2 M2 G)(E:M2.entries.length≤1000000)(i t:Int)(C:-9223372036854775808≤i∧i≤9223372036854775807){p q:Option Addr}{m e n c:Nat}{g:List Int}{b:Bs}(hn:b.length=n)(o:g.length≤1099511627776)(v:zBe w (.slice q m e) g)(z:zAY w (.slice p n c) b) :
  Calls prog 48 #[.pointer (some ⟨x,0,none⟩),.int .i64 i,.int .i64 t,.slice q m e,.slice p n c] w1 fun e w'=>e=.returned (.int .i64 ((zAh [97] D2 M2 i t g b).err:Int))∧zA7 w w' j d x r D M (zAh [97] D2 M2 i t g b).disk (zAh [97] D2 M2 i t g b).jou G∧Same G w1 w' :=
 py_r (Q:=fun e=>e=.returned (.int .i64 ((zAh [97] D2 M2 i t g b).err:Int))) h fun _ _ B y _=>(rjinstall_calls B E i t C (zAM.chg v (Chg.of_below h.bel) fun _ _=>id) o (fun f k s l=>by
  have a:=hasI_lt v f s;have A:=y k l;omega) hn (zAY.old z h.bel) fun f k s l=>by
  have a:=zAY.lt z f s;have A:=y k l;omega).mono fun _ _ h=>⟨h.1,h.step⟩
theorem py_fuse (h:zA7 w w1 j d x r D M D2 M2 G)(n:Int)(b:-9223372036854775808≤n)(hn:n≤9223372036854775807) :
  Calls prog 40 #[.pointer (some ⟨d,0,none⟩),.int .i64 n] w1 fun e w'=>e=.returned (.tuple #[])∧zA7 w w' j d x r (D.setFuse n) M D2 M2 G∧Same G w1 w' :=
 py_p (Q:=fun e=>e=.returned (.tuple #[])) h fun _ c=>jou_fuse c n b hn
theorem py_rfuse (h:zA7 w w1 j d x r D M D2 M2 G)(n:Int)(b:-9223372036854775808≤n)(hn:n≤9223372036854775807) :
  Calls prog 49 #[.pointer (some ⟨r,0,none⟩),.int .i64 n] w1 fun e w'=>e=.returned (.tuple #[])∧zA7 w w' j d x r D M (D2.setFuse n) M2 G∧Same G w1 w' :=
 py_r (Q:=fun e=>e=.returned (.tuple #[])) h fun _ _ c _ _=>rj_fuse c n b hn
end
def Own5Told (w:World)(e:Ent)(r:Ending)(w':World):Prop:=∃v:EV,r=.returned (zC7 e v)∧zDT w' e v∧(∀k,(v.1.ownBlock=some k∨v.2.ownBlock=some k)→w.heap.size≤k)∧(∀k,v.1.ownBlock=some k→v.2.ownBlock≠some k)∧Below w.heap.size w w'
theorem own5_calls {w:World}{e:Ent}{v:EV}(h:zBP w e v):Calls prog 121 #[zC7 e v] w (Own5Told w e):=by
 obtain⟨i0,hi,ay,az,q⟩:=info_parts (show(prog.info? 5).map (fun i=>(i.zero,i.size,i.bytes))=some (some (.int .u8 0),1,1) by kernel_rfl);obtain⟨i1,au,af,ag,ah⟩:=info_parts (show(prog.info? 3).map (fun i=>(i.zero,i.size,i.bytes))=some (some (.int .i64 0),1,8) by kernel_rfl);obtain⟨t,k,c,d⟩:=e;obtain⟨U,v2⟩:=v;have Q:=zAD w (.cells #[.int .i64 t,.int .i64 k,U,v2] 50);have ab:Below w.heap.size w ((w.alloc (.cells #[.int .i64 t,.int .i64 k,U,v2] 50)).alloc (.cells #[.int .i64 0,.int .i64 0,.slice none 0 0,.slice none 0 0] 50)):=Q.alloc Q.size _;have s:((w.alloc (.cells #[.int .i64 t,.int .i64 k,U,v2] 50)).alloc (.cells #[.int .i64 0,.int .i64 0,.slice none 0 0,.slice none 0 0] 50)).heap[w.heap.size]?=some (.cells #[.int .i64 t,.int .i64 k,U,v2] 50 (0,0)):=(zDG _ _ (by simp)).trans (zAI w _);have F:((w.alloc (.cells #[.int .i64 t,.int .i64 k,U,v2] 50)).alloc (.cells #[.int .i64 0,.int .i64 0,.slice none 0 0,.slice none 0 0] 50)).heap[w.heap.size+1]?=some (.cells #[.int .i64 0,.int .i64 0,.slice none 0 0,.slice none 0 0] 50 (0,0)):=by
  have:=zAI (w.alloc (.cells #[.int .i64 t,.int .i64 k,U,v2] 50)) (.cells #[.int .i64 0,.int .i64 0,.slice none 0 0,.slice none 0 0] 50);simpa using this
 have H:=zh h;have ar:=h.dl;have ax:=h.nl;obtain⟨p1,c1,e1⟩:=h.data.slice;obtain⟨X,W,e2⟩:=h.nodes.slice;have an:U=.slice p1 c.length c1:=e1;have ao:v2=.slice X d.length W:=e2;dsimp only at ar ax;subst an;subst ao;clear e1 e2 h Q;unfold zC7;dsimp only
 go_enter func121,ntmps121
 go_upto_region 1 with(fail)
 generalize (w.alloc (.cells #[.int .i64 t,.int .i64 k,.slice p1 c.length c1,.slice X d.length W] 50)).alloc (.cells #[.int .i64 0,.int .i64 0,.slice none 0 0,.slice none 0 0] 50)=V at *;generalize S:w.heap.size=b at *;have l2:=zAb s;have l3:=zAu s;have E:=zh (And.intro s (And.intro F ab));clear s F ab;have Y:=zh (zAD V (.cells #[] 5));have ac:=(Y.o.block b (zAB E.o.1)).trans E.o.1;have lA:=zAb ac;have B:=zh (zAx V 5);have C:=zW (zAM (V.alloc (.cells #[] 5)) 1 (.slice p1 c.length c1) c.length (zAQ c)) (zAY.below (H.o.below (S▸E.o.2.2)).data Y.o);have ae:b+2≤V.heap.size:=by have:=zAB E.o.2.1;omega
 clear ac
 go_upto_region 2 with(at_builtin;refine zAP _ rfl (.tmp 3) (.tmp 5) 22 rfl 5 i0 (.int .u8 0) 1 1 underlying22 hi ay az q rfl (by decide) (.slice (some ⟨V.heap.size,0,none⟩) 0 0) 0 [] rfl B.o (.slice p1 c.length c1) c.length _ rfl C.o (zAO _) (by unfold maxLen;omega) (by omega) ?_;intro v3 w3 n f m;go_loud (have L:=zh (copy_new rfl n f m);clear f m n B C;obtain⟨l,g,e3,-⟩:=zAN L.o.1;subst e3;have G:=zh ((L.o.2.2.block b (zAB E.o.1)).trans E.o.1);have ak:=zh ((L.o.2.2.block (b+1) (zAB E.o.2.1)).trans E.o.2.1);have q2:=zAb G.o;have qf:=zAE G.o 2))
 have A:=zW ((w3.setCell ⟨b,2,none⟩ (.slice l c.length g)).heap[b]?=some (.cells #[.int .i64 t,.int .i64 k,.slice l c.length g,.slice X d.length W] 50 (0,0))) (by simpa using zAC G.o 2 (.slice l c.length g));have M:=zW ((w3.setCell ⟨b,2,none⟩ (.slice l c.length g)).heap[b+1]?=_) ((set_other _ (by show b+1≠b;omega)).trans ak.o);have K:=zh (Chg.setCell w3 ⟨b,2,none⟩ (.slice l c.length g));have O:=zW (∀k,(Value.slice l c.length g).ownBlock=some k→b+2≤k) fun k hk=>Nat.le_trans ae (L.o.2.1 k hk);have N:=zW (zAj (w3.setCell ⟨b,2,none⟩ (.slice l c.length g)) 5 (.slice l c.length g) c) (OwnR.keep L.o.1 fun k hk=>set_other _ (show k≠b by have:=O.o k hk;omega));have aj:=zW (zBe (w3.setCell ⟨b,2,none⟩ (.slice l c.length g)) (.slice X d.length W) d) (holds_keep0 (zAM.chg (H.o.below (S▸E.o.2.2)).nodes (Chg.of_below L.o.2.2) fun _ _=>id) K.o fun aw k hk e=>by
  have h1:=hasI_lt H.o.nodes (fun e=>aw (by have e:d=[]:=e;rw[e];rfl)) hk;have e:k=b:=e;omega)
 clear q2 qf lA l2 l3;generalize w3.setCell ⟨b,2,none⟩ (.slice l c.length g)=P at *;have aA:b+2≤P.heap.size:=by have:=zAB M.o;omega
 have Z:=zh (zAD P (.cells #[] 3));have ad:=(Z.o.block b (zAB A.o)).trans A.o;have lB:=zAu ad;have l3:=zAu A.o;have B:=zh (zAx P 3);have C:=zW (zAM (P.alloc (.cells #[] 3)) 1 (.slice X d.length W) d.length (d.map (Value.int .i64))) (zAM.chg aj.o (Chg.of_below Z.o) fun _ _=>id);clear ad
 go_upto_region 3 with(at_builtin;refine zAP _ rfl (.tmp 8) (.tmp 10) 38 rfl 3 i1 (.int .i64 0) 1 8 underlying38 au af ag ah rfl (by decide) (.slice (some ⟨P.heap.size,0,none⟩) 0 0) 0 [] rfl B.o (.slice X d.length W) d.length _ rfl C.o (fun u hu=>by obtain⟨z,-,rfl⟩:=List.mem_map.1 hu;rfl) (by unfold maxLen;omega) (by omega) ?_;intro v5 w5 n f m;go_loud (have J:=zh (zC5 n f m);clear f m n B C;obtain⟨y,r,e5⟩:=OwnR.shape J.o.1;subst e5;have I:=zh ((J.o.2.2.block b (zAB A.o)).trans A.o);have al:=zh ((J.o.2.2.block (b+1) (zAB M.o)).trans M.o);have q3:=zAu I.o;have qf:=zAE I.o 3))
 have ai:=zh (Chg.setCell w5 ⟨b,3,none⟩ (.slice y d.length r));have D:(w5.setCell ⟨b,3,none⟩ (.slice y d.length r)).heap[b]?=some (.cells #[.int .i64 t,.int .i64 k,.slice l c.length g,.slice y d.length r] 50 (0,0)):=by simpa using zAC I.o 3 (.slice y d.length r)
 have p:(w5.setCell ⟨b,3,none⟩ (.slice y d.length r)).heap[b+1]?=some (.cells #[.int .i64 0,.int .i64 0,.slice none 0 0,.slice none 0 0] 50 (0,0)):=(set_other _ (by show b+1≠b;omega)).trans al.o;clear q3 qf lB l3;generalize w5.setCell ⟨b,3,none⟩ (.slice y d.length r)=W5 at *;have d0:=zAW D;have d1:=zAd D;have d2:=zAb D;have d3:=zAu D;have e0:=zAW p;have e1:=zAd p;have e2:=zAb p;have e3:=zAu p;have fr:=zAE p;have am:=zh p;clear D p;go_wp2_with fail;have q:((((W5.setCell ⟨b+1,0,none⟩ (.int .i64 t)).setCell ⟨b+1,1,none⟩ (.int .i64 k)).setCell ⟨b+1,2,none⟩ (.slice l c.length g)).setCell ⟨b+1,3,none⟩ (.slice y d.length r)).heap[b+1]?=some (.cells #[.int .i64 t,.int .i64 k,.slice l c.length g,.slice y d.length r] 50 (0,0)):=by
  have h1:=zAC am.o 0 (.int .i64 t);have h2:=zAC h1 1 (.int .i64 k);have h3:=zAC h2 2 (.slice l c.length g);have h4:=zAC h3 3 (.slice y d.length r);simpa using h4
 have HG:=zW (Chg (fun j=>j=b+1) W5 ((((W5.setCell ⟨b+1,0,none⟩ (.int .i64 t)).setCell ⟨b+1,1,none⟩ (.int .i64 k)).setCell ⟨b+1,2,none⟩ (.slice l c.length g)).setCell ⟨b+1,3,none⟩ (.slice y d.length r))) ((((Chg.setCell W5 ⟨b+1,0,none⟩ _).trans (Chg.setCell _ ⟨b+1,1,none⟩ _) fun _ _ e=>e).trans (Chg.setCell _ ⟨b+1,2,none⟩ _) fun _ _ e=>e).trans (Chg.setCell _ ⟨b+1,3,none⟩ _) fun _ _ e=>e);clear d0 d1 d2 d3 e0 e1 e2 e3 fr;generalize (((W5.setCell ⟨b+1,0,none⟩ (.int .i64 t)).setCell ⟨b+1,1,none⟩ (.int .i64 k)).setCell ⟨b+1,2,none⟩ (.slice l c.length g)).setCell ⟨b+1,3,none⟩ (.slice y d.length r)=W6 at *;have z0:=zAW q;have z1:=zAd q;have z2:=zAb q;have z3:=zAu q;have HE:=zW (Own5Told w ⟨t,k,c,d⟩ (.returned (zC7 ⟨t,k,c,d⟩ (.slice l c.length g,.slice y d.length r))) W6) (by
  have hC:Chg (fun j=>j=b∨j=b+1) w5 W6:=(ai.o.mono fun _ _ e=>.inl e).trans (HG.o.mono (T:=fun j=>j=b∨j=b+1) fun _ _ e=>.inr e) fun _ _ e=>e;have aa:Chg (fun j=>j=b∨j=b+1) P W6:=((Chg.of_below J.o.2.2).mono fun _ _ e=>e.elim).trans hC fun _ _ e=>e;have R:∀k,(Value.slice y d.length r).ownBlock=some k→P.heap.size≤k:=J.o.2.1;refine⟨(.slice l c.length g,.slice y d.length r),rfl,⟨OwnR.keep N.o fun j a=>aa.block j (OwnR.lt N.o a) fun e=>?_,OwnR.keep J.o.1 fun j a=>hC.block j (OwnR.lt J.o.1 a) fun e=>?_⟩,fun j a=>?_,fun j a av=>?_,?_⟩
  ·have:=O.o j a;omega
  ·have:=R j a;omega
  ·rcases a with a|a
   ·have:=O.o j a;omega
   ·have:=R j a;omega
  ·have h1:=R j av;have h2:=OwnR.lt N.o a;omega
  ·have ap:Below w.heap.size w V:=by rw[S];exact E.o.2.2
   have aq:Chg (fun j=>j=b∨j=b+1) w W6:=(((Chg.of_below ap).mono fun _ _ e=>e.elim).trans ((Chg.of_below L.o.2.2).mono fun _ _ e=>e.elim) fun _ _ e=>e).trans ((K.o.mono fun _ _ e=>.inl e).trans aa fun _ _ e=>e) fun _ _ e=>e;exact aq.below (Nat.le_refl _) fun i hi e=>by omega)
 (try simp only[Exit.inBlock,Exit.then])
 refine bodyPost_ret (results_cell_row rfl _ W6 (b+1) _ _ (0,0) _ rfl q underlying50 rfl (by kernel_rfl)) rfl ?_;exact HE.o
theorem spoil5_calls {w:World}{v:Value}{l:Bs}(h:zAj w 5 v l)(hl:l.length≤1099511627776) :
  Calls prog 122 #[v] w fun e w'=>e=.returned (.tuple #[])∧Chg (fun k=>v.ownBlock=some k) w w':=by
 obtain⟨X,U,J,L,M⟩:=info_parts (show(prog.info? 5).map (fun i=>(i.zero,i.size,i.bytes))=some (some (.int .u8 0),1,1) by kernel_rfl);obtain⟨p,c,rfl⟩:=OwnR.shape h;generalize hn:l.length=n at *;have N:=zh (zAD w (.cells #[.int .u8 99] 5));have r:=zW (OwnR (w.alloc (.cells #[.int .u8 99] 5)) 5 1 (.slice p n c) n (zAQ l)) (by
  have O:OwnR w 5 1 (.slice p n c) n (zAQ l):=by unfold zAj at h;rwa[hn]at h
  exact O.keep fun k G=>N.o.block k (OwnR.lt O G))
 have s:=zh (zDL w (.int .u8 99) 5 (0,0));clear h hn
 go_enter func122,ntmps122
 go_upto_region 1 with(at_builtin;refine zAP _ rfl (.tmp 4) (.tmp 5) 22 rfl 5 X (.int .u8 0) 1 1 underlying22 U J L M rfl (by decide) (.slice p n c) n _ rfl r.o (.slice (some ⟨w.heap.size,0,none⟩) 1 1) 1 _ rfl s.o (by simp[Value.oneCell']) (by unfold maxLen;omega) (by omega) ?_;intro v3 w3 d b f;go_loud (have Q:=zh (And.intro d (And.intro b f));clear b f;obtain⟨p3,Y,A⟩:=OwnR.shape d;subst A;clear d r s))
 obtain⟨d,b,f⟩:=Q.o;have t:Chg (fun k=>(Value.slice p n c).ownBlock=some k) w w3:=((Chg.of_below N.o).mono fun _ _ e=>e.elim).trans ((Chg.of_grown b).mono fun _ _ e=>e.symm) fun _ _ e=>e;have I:w.heap.size<(w.alloc (.cells #[.int .u8 99] 5)).heap.size:=by simp
 rcases d.2 with⟨-,K⟩|⟨g,S,cur,A,q,H,E,F,-⟩
 ·omega
 simp only[Value.slice.injEq]at A;obtain⟨rfl,-,rfl⟩:=A;have y:∀k,k<w.heap.size→k=g→(Value.slice p n c).ownBlock=some k:=fun k G e=>by
  subst e;rcases f with D|⟨g2,D,T⟩
  ·rw[←D];rfl
  ·have Z:k=g2:=Option.some.inj D;omega
 have C:=zh y;have R:=zW (∃cur:Array Value,w3.heap[g]?=some (.cells cur 5 (0,0))∧n+1≤cur.size) (⟨cur,q,by omega⟩);have P:=zh t;clear d b f t q y I H E F;go_wp2_with fail
 go_loopw [3] (fun i wr=>∃k:Nat,k≤n+1∧i=.int .i64 k∧Chg (fun k=>(Value.slice p n c).ownBlock=some k) w wr∧∃cur:Array Value,wr.heap[g]?=some (.cells cur 5 (0,0))∧n+1≤cur.size) (fun i _=>n+1-(intOf i).toNat)
 case atStart=>exact⟨0,Nat.zero_le _,rfl,P.o,R.o⟩
 case round =>
  obtain⟨k,G,rfl,B,cur,q,m⟩:=hrel
  by_cases W:k<n+1
  ·have z:k<cur.size:=by omega
   have kc:wr.cell? ⟨g,k,none⟩=some cur[k]:=zAG q (by simp[z]);have kf:=zAE q k;have a:=zh (And.intro (B.trans (Chg.setCell wr ⟨g,k,none⟩ (.int .u8 98)) fun j V e=>C.o j V e) (show ∃cur:Array Value,(wr.setCell ⟨g,k,none⟩ (.int .u8 98)).heap[g]?=some (.cells cur 5 (0,0))∧n+1≤cur.size from⟨_,zAC q k (.int .u8 98),by simpa using m⟩));generalize cur[k]=u at *;clear B q m z;go_wp2_with fail;go_roundw
   case rel=>exact⟨k+1,by omega,by go_num,a.o.1,a.o.2⟩
   case measure=>simp[intOf];omega
  ·have a:=zh B;clear B q m;go_wp2_with fail
   go_end0
   exact⟨rfl,a.o⟩
structure zEl (W0 w:World)(v:Value)(es:List Ent)(us:List EV):Prop where
 len:us.length=es.length
 row:OwnR w 50 4 v es.length (zA3 es us)
 vnew:∀k,v.ownBlock=some k→W0.heap.size≤k
 ent:∀(i:Nat) e u,es[i]?=some e→us[i]?=some u→zDT w e u
 new:∀(i:Nat) u,us[i]?=some u→∀k,(u.1.ownBlock=some k∨u.2.ownBlock=some k)→W0.heap.size≤k∧v.ownBlock≠some k
 dis:∀(i i':Nat) u u',i≠i'→us[i]?=some u→us[i']?=some u'→∀k,u.1.ownBlock=some k→¬(u'.1.ownBlock=some k∨u'.2.ownBlock=some k)
 one:∀(i:Nat) u,us[i]?=some u→∀k,u.1.ownBlock=some k→u.2.ownBlock≠some k
 bel:Below W0.heap.size W0 w
theorem zEl.nil (c:World):zEl c c (.slice none 0 0) [] [] where
 len:=rfl
 row:=OwnR.nil _ _ _
 vnew:=fun k f=>by cases f
 ent:=fun i e u d=>by simp at d
 new:=fun i u b=>by simp at b
 dis:=fun i g u j _ b=>by simp at b
 one:=fun i u b=>by simp at b
 bel:=Below.refl _ _
theorem zEl.lt {d w:World}{v:Value}{es:List Ent}{c:List EV}(h:zEl d w v es c){i:Nat}{u:EV}(b:c[i]?=some u){k:Nat}(g:u.1.ownBlock=some k∨u.2.ownBlock=some k):k<w.heap.size:=by
 have f:=(List.getElem?_eq_some_iff.1 b).1;exact(h.ent i _ u (List.getElem?_eq_getElem (by rw[←h.len];exact f)) b).lt g
theorem zFR {α:Type}{l:List α}{a b:α}{i:Nat}(h:(l++[a])[i]?=some b):l[i]?=some b∨(i=l.length∧b=a):=by
 by_cases f:i<l.length
 ·rw[List.getElem?_append_left f]at h;exact .inl h
 ·rw[List.getElem?_append_right (by omega)]at h;have c:=(List.getElem?_eq_some_iff.1 h).1;simp at c;have d:i-l.length=0:=by omega
  rw[d]at h;simp at h;exact .inr ⟨by omega,h.symm⟩
theorem zEl.push {R w w2 F w3:World}{v v3:Value}{es:List Ent}{E:List EV}{e:Ent}{u:EV}(h:zEl R w v es E)(o:Below w.heap.size w w2)(H:zDT w2 e u)(d:∀k,(u.1.ownBlock=some k∨u.2.ownBlock=some k)→w.heap.size≤k)(a:∀k,u.1.ownBlock=some k→u.2.ownBlock≠some k)
  (j:Below w2.heap.size w2 F) (A:OwnR w3 50 4 v3 (es.length+1) (zA3 es E++zEy e u)) (W:F.grownBy w3 v.ownBlock) (t:v3.ownBlock=v.ownBlock∨∃g,v3.ownBlock=some g∧F.heap.size≤g):zEl R w3 v3 (es++[e]) (E++[u]):=by
 have Q:=o.size;have Y:=j.size;have P:=h.bel.size;have l:=Chg.of_grown W;have X:=l.size;have n:∀k,v.ownBlock=some k→k<w.heap.size:=fun k b=>OwnR.lt h.row b;have q:∀k,v3.ownBlock=some k→v.ownBlock=some k∨F.heap.size≤k:=fun k b=>by
  rcases t with e|⟨g,e,M⟩
  ·exact .inl (e▸b)
  ·rw[b]at e;cases e;exact .inr M
 have z:∀k,k<w.heap.size→v.ownBlock≠some k→w3.heap[k]?=w.heap[k]?:=fun k b p=>((l.block k (by omega) fun e=>p e.symm).trans (j.block k (by omega))).trans (o.block k b);have s:(es++[e]).length=es.length+1:=by simp
 have B:E.length=es.length:=h.len;refine⟨by simp[h.len],?_,fun k b=>?_,fun i f y G c=>?_,fun i y c k b=>?_,fun i Z y K p c C k b=>?_,fun i y c k b=>?_,?_⟩
 ·rw[s,zEz es E [e] [u] h.len,show zA3 [e] [u]=zEy e u by simp[zA3]];exact A
 ·rcases q k b with e|e
  ·exact h.vnew k e
  ·omega
 ·rcases zFR c with c|⟨T,rfl⟩
  ·have O:i<es.length:=by rw[←B];exact(List.getElem?_eq_some_iff.1 c).1
   rw[List.getElem?_append_left O]at G;exact(h.ent i f y G c).keep fun k b=>z k (h.lt c b) (h.new i y c k b).2
  ·have L:f=e:=by
    rw[T,B]at G;simpa using G.symm
   subst L;exact H.keep fun k b=>(l.block k (by have:=H.lt b;omega) fun e=>by have I:=d k b;have J:=n k e.symm;omega).trans (j.block k (H.lt b))
 ·rcases zFR c with c|⟨-,rfl⟩
  ·refine⟨(h.new i y c k b).1,fun e=>?_⟩;rcases q k e with e|e
   ·exact(h.new i y c k b).2 e
   ·have:=h.lt c b;omega
  ·refine⟨by have:=d k b;omega,fun e=>?_⟩;rcases q k e with e|e
   ·have I:=d k b;have J:=n k e;omega
   ·have:=H.lt b;omega
 ·rcases zFR c with D|⟨T,U⟩
  ·rcases zFR C with r|⟨N,S⟩
   ·exact h.dis i Z y K p D r k b
   ·intro m;rw[S]at m;have I:=h.lt D (.inl b);have J:=d k m;omega
  ·rw[U]at b;rcases zFR C with r|⟨N,S⟩
   ·intro m;have I:=h.lt r m;have J:=d k (.inl b);omega
   ·omega
 ·rcases zFR c with c|⟨-,rfl⟩
  ·exact h.one i y c k b
  ·exact a k b
 ·refine h.bel.trans ((o.trans (j.mono Q)).mono P |>.trans ?_);have V:Chg (fun k=>v.ownBlock=some k) F w3:=l.mono fun _ _ e=>e.symm;exact V.below (by omega) fun k b e=>by have:=h.vnew k e;omega
theorem zEl.keep {d w W:World}{v:Value}{es:List Ent}{j:List EV}(h:zEl d w v es j)(g:∀k,d.heap.size≤k→k<w.heap.size→W.heap[k]?=w.heap[k]?)(m:∀e∈es,e.data.length≤6000∧e.nodes.length≤6000):zCO W v es j:=by
 refine⟨h.len,OwnR.holds (OwnR.keep h.row fun k b=>g k (h.vnew k b) (OwnR.lt h.row b)),fun i e u f c=>?_⟩;have l:=(h.ent i e u f c).keep fun k b=>g k (h.new i u c k b).1 (h.lt c b);have n:=m e (List.mem_of_getElem? f);exact l.has (by omega) (by omega)
theorem zCO.below {w W:World}{v:Value}{es:List Ent}{c:List EV}(h:zCO w v es c)(b:Below w.heap.size w W):zCO W v es c :=
 ⟨h.1,zAM.chg h.2.1 (Chg.of_below b) fun _ _=>id,fun i e u d f=>(h.2.2 i e u d f).below b⟩
section
variable {w w1:World} {j d x r:Nat} {D D2:zAA} {M M2:zAJ} {G:Nat→Prop}
theorem py_append (h:zA7 w w1 j d x r D M D2 M2 G){p:Option Addr}{n c:Nat}{es:List Ent}{vs:List EV}(s:∀W,Same G w1 W→zCO W (.slice p n c) es vs)(hn:n≤1000000) :
  Calls prog 22 #[.pointer (some ⟨j,0,none⟩),.slice p n c] w1 fun e w'=>e=.returned (.int .i64 ((zAr [97] D M es).err:Int))∧zA7 w w' j d x r (zAr [97] D M es).disk (zAr [97] D M es).jou D2 M2 G∧Same G w1 w':=by
 obtain⟨F,l,b,o,q,g,m⟩:=h;refine(zGL o (es:=es) (vs:=vs) (fun W _ i=>s W fun k g=>i k (m k g).1) hn).mono ?_;rintro e w' ⟨rfl,f,i⟩;exact⟨rfl,⟨F,l,b,f,q.same fun k h=>⟨i k (g k h).1,f.flt (g k h).1⟩,g,m⟩,fun k h=>i k (m k h).1⟩
theorem py_rappend (h:zA7 w w1 j d x r D M D2 M2 G){p:Option Addr}{n c:Nat}{es:List Ent}{vs:List EV}(s:zCO w (.slice p n c) es vs)(hn:n≤1000000) :
  Calls prog 44 #[.pointer (some ⟨x,0,none⟩),.slice p n c] w1 fun e w'=>e=.returned (.int .i64 ((zAr [97] D2 M2 es).err:Int))∧zA7 w w' j d x r D M (zAr [97] D2 M2 es).disk (zAr [97] D2 M2 es).jou G∧Same G w1 w' :=
 py_r (Q:=fun e=>e=.returned (.int .i64 ((zAr [97] D2 M2 es).err:Int))) h fun t _ z q _=>(rjappend_calls z (es:=es) (vs:=vs) (fun W A=>s.below (h.bel.trans (A.below h.bel.size fun k E e=>by have:=q k e;omega))) (fun g b o e=>by
  cases es with
  | nil=>exact absurd rfl g
  | cons y ys =>
   obtain⟨B,F,v,l,-,f,-⟩:=s.ent (i:=0) (by simp);rw[e]at l;cases l;have m:=World.block_lt_of_cell? w _ f;intro a;have C:=q b a;have m:b<w.heap.size:=m;omega) hn).mono fun _ _ h=>⟨h.1,h.step⟩
end
def OwnL (w:World)(v:Value)(es:List Ent)(b:List EV)(k:Nat):Prop:=OwnR w 50 4 v es.length (zA3 es b)∧∀(i:Nat) e u,k≤i→es[i]?=some e→b[i]?=some u→zDT w e u
theorem zBG {w w':World}{a:Addr}{v:Value}(h:Below w.heap.size w w')(b:w.cell? a=some v):w'.cell? a=some v :=
 (h.cell (World.block_lt_of_cell? w _ b)).trans b
theorem zEl.loop0 {d w W:World}{v:Value}{es:List Ent}{g:List EV}(h:zEl d w v es g)(f:∀k,d.heap.size≤k→k<w.heap.size→W.heap[k]?=w.heap[k]?):OwnL W v es g 0 :=
 ⟨OwnR.keep h.row fun k b=>f k (h.vnew k b) (OwnR.lt h.row b),fun i e u _ j c=>(h.ent i e u j c).keep fun k b=>f k (h.new i u c k b).1 (h.lt c b)⟩
theorem OwnL.next {w w':World}{v:Value}{es:List Ent}{j:List EV}{k:Nat}(h:OwnL w v es j k)(c:Below w.heap.size w w'):OwnL w' v es j k :=
 ⟨OwnR.keep h.1 fun _ b=>c.block _ (OwnR.lt h.1 b),fun i e u f d g=>(h.2 i e u f d g).keep fun _ b=>c.block _ ((h.2 i e u f d g).lt b)⟩
theorem zEl.spoilt {m o w w':World}{v:Value}{es:List Ent}{d:List EV}{k:Nat}{u:EV}(h:zEl m o v es d)(c:OwnL w v es d k)(l:d[k]?=some u)(g:Chg (fun z=>u.1.ownBlock=some z) w w'):OwnL w' v es d (k+1) :=
 ⟨OwnR.keep c.1 fun z b=>g.block z (OwnR.lt c.1 b) fun e=>(h.new k u l z (.inl e)).2 b,
  fun i e y p j f=>(c.2 i e y (by omega) j f).keep fun z b=>g.block z ((c.2 i e y (by omega) j f).lt b) fun n=>h.dis k i u y (by omega) l f z n b⟩
theorem zEl.moved {f l w W:World}{v:Value}{es:List Ent}{d:List EV}{k:Nat}(h:zEl f l v es d)(g:OwnL w v es d k)(j:∀z,f.heap.size≤z→z<l.heap.size→W.heap[z]?=w.heap[z]?):OwnL W v es d k :=
 ⟨OwnR.keep g.1 fun z b=>j z (h.vnew z b) (OwnR.lt h.row b),fun i e u n m c=>(g.2 i e u n m c).keep fun z b=>j z (h.new i u c z b).1 (h.lt c b)⟩
theorem OwnL.ent {w:World}{p:Option Addr}{n c:Nat}{es:List Ent}{f:List EV}{k:Nat}(h:OwnL w (.slice p n c) es f k)(g:f.length=es.length)(t:k<es.length):∃b o u,p=some ⟨b,o,none⟩∧f[k]?=some u∧zDT w es[k] u ∧
  w.cell? ⟨b,o+k*4,none⟩=some (.int .i64 es[k].term)∧w.cell? ⟨b,o+k*4+1,none⟩=some (.int .i64 es[k].kind)∧w.cell? ⟨b,o+k*4+2,none⟩=some u.1∧w.cell? ⟨b,o+k*4+3,none⟩=some u.2:=by
 have s:=OwnR.holds h.1;obtain⟨a,z,l⟩:=OwnR.shape h.1;simp only[Value.slice.injEq]at l;obtain⟨rfl,rfl,rfl⟩:=l;have i:f[k]?=some (f[k]'(by omega)):=List.getElem?_eq_getElem _;generalize f[k]'(by omega)=v at i;have q:=List.getElem?_eq_getElem t;have j:zA3 es f≠[]:=fun e=>by
  have:=zD0 es f g;rw[e]at this;simp at this;omega
 obtain⟨b,o,rfl,r⟩:=holds_at4 s j;have d:∀(m:Nat) u,(zEy es[k] v)[m]?=some u→w.cell? ⟨b,o+(k*4+m),none⟩=some u:=fun m u y=>r _ _ (zEO _ _ k _ v q i m u y);exact⟨b,o,v,rfl,i,h.2 k _ v (Nat.le_refl _) q i,d 0 _ rfl,d 1 _ rfl,d 2 _ rfl,d 3 _ rfl⟩
section
variable {S:Nat→Prop} {w1 w2:World} {j r:Nat} {pre:ByteArray} {M:zAJ}
theorem RJF.new {D:zAA}{c b:Nat→Prop}(h:RJF w1 j r pre D M c b):zBi (fun k=>c k∨b k) w1 j r pre M:=by
 obtain⟨O,own,f,dv,d,vs,v,L,i,o,n,m,g⟩:=h;exact⟨O,b,f,dv,d,vs,i,fun k l=>l.imp (fun h=>(g k).2 (.inl h)) id⟩
theorem rntermAt_calls (h:zBi S w1 j r pre M)(i:Int)(W:-9223372036854775808≤i∧i≤9223372036854775807) :
  Calls prog 95 #[.pointer (some ⟨j,0,none⟩),.int .i64 i] w1 fun e w'=>e=.returned (.tuple #[.int .i64 ((M.termAt i).getD 0),.bool (M.termAt i).isSome])∧∃q,w'=w1.drewN q:=by
 have d:=h.ok.last;obtain⟨O,C,V,dv,U,vs,s,v⟩:=h;have R:=s.c 0 rfl;have T:=s.c 1 rfl;have A:=s.c 8 rfl;obtain⟨p,c,m⟩:=s.row.shape
 by_cases f:i=(M.number:Int)
 ·have G:(i==(M.number:Int))=true:=by simpa using f
  have z:=zh (show M.termAt i=some M.term by rw[f];exact zEh);clear s v f m d A;generalize M.termAt i=E at *;generalize M.number=b at *
  go_enter func95,ntmps95
  go_wp2_with fail
  go_ret2
  exact⟨by rw[z.o];rfl,0,rfl⟩
 ·have G:(i==(M.number:Int))=false:=by simpa using f
  unfold zAJ.last at d
  by_cases l:i<(M.number:Int)
  ·have z:=zh (show M.termAt i=none by unfold zAJ.termAt;rw[if_neg f,if_pos l]);have F:decide (i<(M.number:Int))=true:=decide_eq_true l;clear s v f m d A l;generalize M.termAt i=E at *;generalize M.number=b at *
   go_enter func95,ntmps95
   go_wp2_with fail
   go_quiet (fail)
   go_wp2_with fail
   go_ret2
   exact⟨by rw[z.o];rfl,_,rfl⟩
  ·have F:decide (i<(M.number:Int))=false:=decide_eq_false l;rw[m]at A;have J:IntKind.i64.wrap ((M.number:Int)+(M.entries.length:Int))=((M.number+M.entries.length:Nat):Int):=by rw[IntWalk.i64_in _ (by omega)];omega
   by_cases t:((M.number+M.entries.length:Nat):Int)<i
   ·have z:=zh (show M.termAt i=none by
     unfold zAJ.termAt;rw[if_neg f,if_neg l,List.getElem?_eq_none (by omega)];rfl)
    have B:decide (((M.number+M.entries.length:Nat):Int)<i)=true:=decide_eq_true t;clear s v f m d l t;generalize M.termAt i=E at *;generalize M.number+M.entries.length=P at *;generalize M.number=b at *;generalize M.entries.length=n at *
    go_enter func95,ntmps95
    go_wp2_with fail
    go_quiet (fail)
    go_wp2_with fail
    go_ret2
    exact⟨by rw[z.o];rfl,_,rfl⟩
   ·have B:decide (((M.number+M.entries.length:Nat):Int)<i)=false:=decide_eq_false t;have a:(i-(M.number:Int)-1).toNat<M.entries.length:=by omega
    obtain⟨g,Q,v',y,I,-,X,-,-,-⟩:=s.ent (List.getElem?_eq_getElem a);have z:=zh (zEI (M:=M) (show(M.number:Int)<i by omega) (List.getElem?_eq_getElem a));rw[m]at y;cases y;clear s v m I;generalize H:(i-(M.number:Int)-1).toNat=k at *;generalize M.entries[k]=e at *;generalize D:M.number+M.entries.length=P at *;generalize M.termAt i=E at *;generalize M.entries.length=n at *;generalize M.number=b at *;have L:IntKind.i64.wrap (i-(b:Int))=(k:Int)+1:=by rw[IntWalk.i64_in _ (by omega)];omega
    have N:IntKind.i64.wrap (k:Int)=(k:Int):=IntWalk.i64_in _ (by omega);clear H d l t f D
    go_enter func95,ntmps95
    go_wp2_with fail
    go_quiet (fail)
    go_wp2_with fail
    go_quiet (fail)
    go_wp2_with fail
    go_ret2
    exact⟨by rw[z.o];rfl,_,zGB _ _ _⟩
theorem rngrpAt_calls (h:zBi S w1 j r pre M)(z:Int)(aG:(M.number:Int)≤z)(aF:z≤9223372036854775807) :
  Calls prog 119 #[.pointer (some ⟨j,0,none⟩),.int .i64 z] w1 (zBX w1 (M.grpIn (M.upto z))):=by
 obtain⟨i0,hi,an,ao,ap⟩:=info_parts (show(prog.info? 3).map (fun i=>(i.zero,i.size,i.bytes))=some (some (.int .i64 0),1,8) by kernel_rfl);have a:=h.ok.last;have am:=h.ok.group;have Z:=zh h.ok.ents;obtain⟨O,C,gv,dv,ev,vs,V,ax⟩:=h;have HJ:=zh V;have c0:=V.c 0 rfl;have c2:=V.c 2 rfl;have c8:=V.c 8 rfl;obtain⟨pg,cg,ae⟩:=V.group.slice;obtain⟨p8,au,X⟩:=V.row.shape;rw[ae]at c2;rw[X]at c8;have ar:=zh (ae▸V.group);have az:=(zDt am).2;unfold zAJ.last at a;clear ax am ae;obtain⟨m,hm⟩:∃m,m=M.upto z:=⟨_,rfl⟩;rw[←hm];have Hm:=zW (∀k,k<M.entries.length→(k+1≤m↔(M.number:Int)+k+1≤z)) (fun k hk=>by
  rw[hm];unfold zAJ.upto;omega)
 have aw:m≤M.entries.length:=by
  rw[hm];exact Nat.min_le_right _ _
 clear hm;generalize hb:M.number=b at *;generalize hn:M.entries.length=n at *;generalize Y:M.group.length=U at *;have Hn:=zh hn;have T:=zh Y;clear hn Y;have ay:IntKind.i64.wrap ((n:Int)-1)=(n:Int)-1:=IntWalk.i64_in _ (by omega);clear V
 go_enter func119,ntmps119
 go_wp2_with fail
 go_loopw [6] (fun x wr=>∃k:Nat,k≤n∧x=.int .i64 ((k:Int)-1)∧M.grpIn m=M.grpIn (min k m)∧Below w1.heap.size w1 wr) (fun x _=>(intOf x+1).toNat)
 case atStart=>exact⟨n,Nat.le_refl _,rfl,by rw[Nat.min_eq_right aw],Below.refl _ _⟩
 case round =>
  obtain⟨k,hk,rfl,P,f⟩:=hrel;have ah:=zAH c0 f;have ai:=zAH c2 f;have aj:=zAH c8 f;cases k with
  | zero =>
   have G:=zh P;have HB:=zh f;have B:=zh (f.trans (⟨rfl,rfl,rfl,Nat.le_refl _,fun _ _=>rfl⟩:Below w1.heap.size wr wr.drew));have t:=zh (fun W (hb2:Below wr.drew.heap.size wr.drew W)=>(show zAM W 1 (.slice pg U cg) U (zFq M.group) by
    have h1:zBe W (.slice pg U cg) M.group:=zAM.chg ar.o (Chg.of_below ((f.trans (⟨rfl,rfl,rfl,Nat.le_refl _,fun _ _=>rfl⟩:Below w1.heap.size wr wr.drew)).trans (hb2.mono f.size))) fun _ _=>id;unfold zBe at h1;rwa[T.o]at h1))
   have ak:decide ((0:Int)≤((0:Nat):Int)-1)=false:=by decide
   clear P f aj;go_wp2_with fail;refine ost (fun w':World=>w'.cell? ⟨j,2,none⟩=some (.slice pg U cg)∧w'.cell? ⟨j,0,none⟩=some (.int .i64 (b:Int))) 14 (⟨ai,ah⟩) fun d=>?_;generalize wr.drew=W1 at *;refine Pl [1,2,3,4,5,7,8,9,10,11] ?_
   iterate 10 (refine Pc rfl ?_;simp only[uZ])
   refine Pn ?_;refine oon 0 rfl fun K I=>?_;have A:=zh (zAD W1 (.cells #[] 3));have aa:=zh (And.intro (zAH d.1 A.o) (zAH d.2 A.o));have p:=zh d;go_wp2_with fail;refine I.o _ _ (aa.o) fun d=>?_;clear I
   try simp only[uZ]
   refine oon 6 rfl fun K I=>?_;have F:=zh (zAx W1 3);have H:=zh (t.o _ A.o);refine zAn (.tmp 56) (.tmp 61) 38 rfl 3 i0 (.int .i64 0) 1 8 underlying38 hi an ao ap rfl (by decide) (.slice (some ⟨W1.heap.size,0,none⟩) 0 0) 0 [] rfl F.o (.slice pg U cg) U _ rfl H.o (fun u hu=>by obtain⟨z,-,rfl⟩:=List.mem_map.1 hu;rfl) (by unfold maxLen;omega) (by omega) ?_;intro v4 w4 s l q;have N:=zh (zC5 s l q);have ab:=zh (And.intro (zAH p.o.1 N.o.2.2) (zAH p.o.2 N.o.2.2));clear s l q F H;obtain⟨p4,c4,rfl⟩:=OwnR.shape N.o.1;refine I.o _ _ (ab.o) fun d=>?_;clear I
   try simp only[uZ]
   refine Pl [12,13] ?_
   iterate 2 (refine Pc rfl ?_;simp only[uZ])
   refine Pn ?_;have HE:=zW (zBX w1 (M.grpIn m) (.returned (.tuple #[.slice p4 U c4,.int .i64 (b:Int)])) w4) (by
    have hE:=N.o;rw[G.o,Nat.zero_min];refine⟨.slice p4 U c4,?_,?_,fun y hy=>Nat.le_trans B.o.size (hE.2.1 y hy),B.o.trans (hE.2.2.mono B.o.size)⟩
    ·show _=Ending.returned (.tuple #[_,.int .i64 (M.number:Int)])
     rw[hb]
    ·show zCm w4 _ M.group
     unfold zCm;rw[T.o];exact hE.1)
   refine odn ?_;go_wp2_with fail
   go_ret2
   exact HE.o
  | succ k =>
   have af:k<M.entries.length:=by rw[Hn.o];omega
   have he:=List.getElem?_eq_getElem af;obtain⟨g,c,v,ad,-,ac,k0,k1,k2,k3⟩:=HJ.o.ent he;rw[X]at ad;rw[Hn.o]at ad;cases ad;have hf:=zBE (Z.o _ (List.getElem_mem af));have Q:=fun h1 h2=>grp_min_yes (m:=m) he h1 h2;have J:=fun h1=>grp_min_no (m:=m) he h1;generalize M.entries[k]=e at *;have L:=Hm.o k (by omega);obtain⟨pn,cn,en⟩:=ac.nodes.slice;rw[en]at k3;have k1:=zAH k1 f;have k3:=zAH k3 f;have t:=zh (fun W (hb2:Below wr.drew.heap.size wr.drew W)=>(show zAM W 1 (.slice pn e.nodes.length cn) e.nodes.length (zFq e.nodes) by
    rw[←en];exact zAM.chg ac.nodes (Chg.of_below ((f.trans (⟨rfl,rfl,rfl,Nat.le_refl _,fun _ _=>rfl⟩:Below w1.heap.size wr wr.drew)).trans (hb2.mono f.size))) fun _ _=>id))
   have G:=zh P;have HB:=zh f;have B:=zh (f.trans (⟨rfl,rfl,rfl,Nat.le_refl _,fun _ _=>rfl⟩:Below w1.heap.size wr wr.drew));have ak:decide ((0:Int)≤((k+1:Nat):Int)-1)=true:=decide_eq_true (by omega);have al:((k+1:Nat):Int)-1=(k:Int):=by omega
   rw[al]at ak ⊢;have aC:e.nodes.length≤7:=by omega
   have aA:k≤1099511627776:=by omega
   have aB:k<n:=by omega
   clear P f ai af he ac en hf al;obtain⟨x0,ag⟩:∃x0,x0=b+k:=⟨_,rfl⟩;obtain⟨x1,R⟩:∃x1,x1=b+k+1:=⟨_,rfl⟩;have aD:IntKind.i64.wrap ((b:Int)+(k:Int))=(x0:Int):=by rw[IntWalk.i64_in _ (by omega)];omega
   have aE:IntKind.i64.wrap ((x0:Int)+1)=(x1:Int):=by rw[IntWalk.i64_in _ (by omega)];omega
   have aq:=zh R
   by_cases D:e.kind=2
   ·have hq:(e.kind==2)=true:=by simpa using D
    by_cases E:k+1≤m
    ·have av:decide ((x1:Int)≤z)=true:=decide_eq_true (by have:=L.1 E;omega);have HG:=zh (Q D E);clear Q J L D E ag R a;go_wp2_with fail;refine ost (fun w':World=>w'.cell? ⟨j,8,none⟩=some (.slice (some ⟨g,0,none⟩) n au)∧w'.cell? ⟨g,k*4+3,none⟩=some (.slice pn e.nodes.length cn)∧w'.cell? ⟨j,0,none⟩=some (.int .i64 (b:Int))) 20 (⟨aj,k3,ah⟩) fun d=>?_;generalize wr.drew=W1 at *;refine Pl [1,2,3,4,5,6,7,8,10,11,12,13,14,15,16,17] ?_
     iterate 16 (refine Pc rfl ?_;simp only[uZ])
     refine Pn ?_;refine oon 0 rfl fun K I=>?_;have A:=zh (zAD W1 (.cells #[] 3));have aa:=zh (And.intro (zAH d.1 A.o) (And.intro (zAH d.2.1 A.o) (zAH d.2.2 A.o)));have p:=zh d;go_wp2_with fail;refine I.o _ _ (aa.o) fun d=>?_;clear I
     try simp only[uZ]
     refine oon 9 rfl fun K I=>?_;have F:=zh (zAx W1 3);have H:=zh (t.o _ A.o);refine zAn (.tmp 38) (.tmp 46) 38 rfl 3 i0 (.int .i64 0) 1 8 underlying38 hi an ao ap rfl (by decide) (.slice (some ⟨W1.heap.size,0,none⟩) 0 0) 0 [] rfl F.o (.slice pn e.nodes.length cn) e.nodes.length _ rfl H.o (fun u hu=>by obtain⟨z,-,rfl⟩:=List.mem_map.1 hu;rfl) (by unfold maxLen;omega) (by omega) ?_;intro v4 w4 s l q;have N:=zh (zC5 s l q);have ab:=zh (And.intro (zAH p.o.1 N.o.2.2) (And.intro (zAH p.o.2.1 N.o.2.2) (zAH p.o.2.2 N.o.2.2)));clear s l q F H;obtain⟨p4,c4,rfl⟩:=OwnR.shape N.o.1;refine I.o _ _ (ab.o) fun d=>?_;clear I
     try simp only[uZ]
     refine Pl [18,19] ?_
     iterate 2 (refine Pc rfl ?_;simp only[uZ])
     refine Pn ?_;have HE:=zW (zBX w1 (M.grpIn m) (.returned (.tuple #[.slice p4 e.nodes.length c4,.int .i64 (x1:Int)])) w4) (by
      have hE:=N.o;rw[G.o,HG.o];refine⟨.slice p4 e.nodes.length c4,?_,hE.1,fun y hy=>Nat.le_trans B.o.size (hE.2.1 y hy),B.o.trans (hE.2.2.mono B.o.size)⟩
      show _=Ending.returned (.tuple #[_,.int .i64 ((M.number+k+1:Nat):Int)])
      rw[hb,←aq.o])
     refine odn ?_;go_wp2_with fail
     go_ret2
     exact HE.o
    ·have av:decide ((x1:Int)≤z)=false:=decide_eq_false (by have:=fun h=>E (L.2 h);omega);have HG:=zh (J (.inr E));clear Q J L D E ag R a;go_wp2_with fail;go_roundw
     case rel=>exact⟨k,by omega,rfl,G.o.trans HG.o,HB.o⟩
     case measure =>
      show((k:Int)-1+1).toNat<((k:Int)+1).toNat
      omega
   ·have hq:(e.kind==2)=false:=by simpa using D
    have HG:=zh (J (.inl D));clear Q J L D ag R a;go_wp2_with fail;go_roundw
    case rel=>exact⟨k,by omega,rfl,G.o.trans HG.o,HB.o⟩
    case measure =>
     show((k:Int)-1+1).toNat<((k:Int)+1).toNat
     omega
theorem rnconf_calls (h:zBi S w1 j r pre M) :
  Calls prog 94 #[.pointer (some ⟨j,0,none⟩)] w1 (zBX w1 (M.grpIn M.entries.length)):=by
 have i:=h.ok.last;have g:M.number≤M.last:=Nat.le_add_right _ _;have b:=zh (rngrpAt_calls h 4611686018427387904 (by omega) (by decide));rw[upto_all M (by omega)]at b;clear h
 go_enter func94,ntmps94
 go_wp2_with fail;refine b.o.mono ?_;rintro e w2 ⟨v,rfl,d,hn,c⟩;have f:=zW (zBX w1 (M.grpIn M.entries.length) (.returned (.tuple #[v,.int .i64 ((M.grpIn M.entries.length).2:Int)])) w2) (⟨v,rfl,d,hn,c⟩);clear d hn c;go_wp2_with fail
 go_ret2
 exact f.o
theorem rnat_yes (h:zBi S w1 j r pre M)(i:Int)(hi:-9223372036854775808≤i∧i≤9223372036854775807)(aj:(M.number:Int)<i){e:Ent}(Y:M.entries[(i-(M.number:Int)-1).toNat]?=some e) :
  Calls prog 96 #[.pointer (some ⟨j,0,none⟩),.int .i64 i] w1 fun r w'=>∃v:EV,r=.returned (.tuple #[zC7 e v,.int .i64 0])∧zDT w' e v∧(∀k,(v.1.ownBlock=some k∨v.2.ownBlock=some k)→w1.heap.size≤k)∧Below w1.heap.size w1 w':=by
 have al:=(List.getElem?_eq_some_iff.1 Y).1;have ai:i≤(M.last:Int):=by unfold zAJ.last;omega
 have a:=zAD w1 (.cells #[.int .i64 0,.int .i64 0,.slice none 0 0,.slice none 0 0] 50);have p:=h.ok.last;have E:=h.ok.ents e (List.mem_of_getElem? Y);obtain⟨O,C,gv,dv,ev,vs,X,am⟩:=h;obtain⟨g,c,v,rfl,hv,z,k0,k1,k2,k3⟩:=X.ent Y;obtain⟨B,t,I⟩:=z.data.slice;obtain⟨D,y,J⟩:=z.nodes.slice;obtain⟨v1,v2⟩:=v;have I:v1=.slice B e.data.length t:=I;have J:v2=.slice D e.nodes.length y:=J;subst I;subst J;have c0:=X.c 0 rfl;have c8:=X.c 8 rfl;have hf:=zBE E;generalize hk:(i-(M.number:Int)-1).toNat=k at *;have HX:=zW (EntIn w1 j g M.entries.length c M.number k e (.slice B e.data.length t,.slice D e.nodes.length y)) (⟨c8,c0,k0,k1,k2,k3⟩);have HA:=zh z
 have ap:e.data.length≤65536:=by omega
 have aq:e.nodes.length≤7:=by omega
 unfold zAJ.last at p;have ak:i=(M.number:Int)+1+(k:Int):=by omega
 have ac:=zAH c0 a;have ad:=zAH c8 a;clear X am hv z c0 c8 k0 k1 k2 k3 E hf Y hk;generalize M.entries.length=n at *;generalize M.number=b at *;have au:IntKind.i64.wrap (i-(b:Int))=(k:Int)+1:=by rw[IntWalk.i64_in _ (by omega)];omega
 have av:IntKind.i64.wrap (k:Int)=(k:Int):=IntWalk.i64_in _ (by omega);obtain⟨x0,ao⟩:∃x0,x0=b+n:=⟨_,rfl⟩;have an:IntKind.i64.wrap ((b:Int)+(n:Int))=(x0:Int):=by rw[IntWalk.i64_in _ (by omega)];omega
 have ag:decide (i≤(b:Int))=false:=decide_eq_false (by omega);have ah:decide ((x0:Int)<i)=false:=decide_eq_false (by omega);have ar:k<n:=by omega
 clear ak ao ai aj p al
 go_enter func96,ntmps96
 go_wp2_with fail
 go_quiet (fail)
 have N:=zW (Below w1.heap.size w1 ((w1.alloc (.cells #[.int .i64 0,.int .i64 0,.slice none 0 0,.slice none 0 0] 50)).drewN nq)) (a.trans ⟨rfl,rfl,rfl,by simp,fun _ _=>rfl⟩);have HR:=zW (((w1.alloc (.cells #[.int .i64 0,.int .i64 0,.slice none 0 0,.slice none 0 0] 50)).drewN nq).heap[w1.heap.size]?=_) (zAI w1 _);generalize (w1.alloc (.cells #[.int .i64 0,.int .i64 0,.slice none 0 0,.slice none 0 0] 50)).drewN nq=W at *;clear a ac ad ag ah an;go_wp2_with fail;refine ost (fun w':World=>w'.cell? ⟨j,8,none⟩=some (.slice (some ⟨g,0,none⟩) n c)∧w'.cell? ⟨j,0,none⟩=some (.int .i64 (b:Int))∧w'.cell? ⟨g,k*4,none⟩=some (.int .i64 e.term)∧w'.cell? ⟨g,k*4+1,none⟩=some (.int .i64 e.kind)∧w'.cell? ⟨g,k*4+2,none⟩=some (.slice B e.data.length t)∧w'.cell? ⟨g,k*4+3,none⟩=some (.slice D e.nodes.length y)) 17 ((zDF HX.o (N.o.trans ⟨rfl,rfl,rfl,Nat.le_refl _,fun _ _=>rfl⟩)).all) fun d=>?_;generalize L:W.drew=W1 at *;have G:=zW (Below w1.heap.size w1 W1) (by rw[←L];exact N.o.trans ⟨rfl,rfl,rfl,Nat.le_refl _,fun _ _=>rfl⟩);have H:=zh (Eq.trans (show W1.heap[w1.heap.size]?=W.heap[w1.heap.size]? by rw[←L];rfl) HR.o);clear L;refine Pl [0,1,2,3,4,5,6,7,8,9,10,11,12,13] ?_
 iterate 14 (refine Pc rfl ?_;simp only[uZ])
 refine Pn ?_;refine oon 14 rfl fun K T=>?_;have R:=zh (rown_calls (HA.o.below G.o) (by omega) (by omega));go_wp2_with fail;refine R.o.mono ?_;rintro r F ⟨⟨u1,u2⟩,rfl,Z,U,A⟩;obtain⟨s,m,eu,-⟩:=zAN Z.data;obtain⟨q,l,en,-⟩:=zAw Z.nodes;have af:u1=.slice s e.data.length m:=eu;have ae:u2=.slice q e.nodes.length l:=en;subst af;subst ae;clear eu en;have P:=zh (G.o.trans (A.mono G.o.size));have aa:=zh (zDF (⟨d⟩:EntIn W1 j g n c b k e (.slice B e.data.length t,.slice D e.nodes.length y)) A);have f:=zh ((A.block _ (zAB H.o)).trans H.o);have V:=zh (And.intro Z U);have Q:=zh (zAB H.o);clear Z U A;go_wp2_with fail;refine T.o _ _ (aa.o.all) fun d=>?_;clear T
 try simp only[uZ]
 refine oon 15 rfl fun K T=>?_;have r0:=zAW f.o;have r1:=zAd f.o;have r2:=zAb f.o;have r3:=zAu f.o;have fr:=zAE f.o;unfold zC7;go_wp2_with fail;have hz:((((F.setCell ⟨w1.heap.size,0,none⟩ (.int .i64 e.term)).setCell ⟨w1.heap.size,1,none⟩ (.int .i64 e.kind)).setCell ⟨w1.heap.size,2,none⟩ (.slice s e.data.length m)).setCell ⟨w1.heap.size,3,none⟩ (.slice q e.nodes.length l)).heap[w1.heap.size]?=some (.cells #[.int .i64 e.term,.int .i64 e.kind,(.slice s e.data.length m),(.slice q e.nodes.length l)] 50 (0,0)):=by
  have h1:=zAC f.o 0 (.int .i64 e.term);have h2:=zAC h1 1 (.int .i64 e.kind);have h3:=zAC h2 2 (.slice s e.data.length m);have h4:=zAC h3 3 (.slice q e.nodes.length l);simpa using h4
 have hC:Chg (fun x=>x=w1.heap.size) F ((((F.setCell ⟨w1.heap.size,0,none⟩ (.int .i64 e.term)).setCell ⟨w1.heap.size,1,none⟩ (.int .i64 e.kind)).setCell ⟨w1.heap.size,2,none⟩ (.slice s e.data.length m)).setCell ⟨w1.heap.size,3,none⟩ (.slice q e.nodes.length l)):=(((Chg.setCell F ⟨w1.heap.size,0,none⟩ _).trans (Chg.setCell _ ⟨w1.heap.size,1,none⟩ _) fun _ _ e=>e).trans (Chg.setCell _ ⟨w1.heap.size,2,none⟩ _) fun _ _ e=>e).trans (Chg.setCell _ ⟨w1.heap.size,3,none⟩ _) fun _ _ e=>e;have hB:Below w1.heap.size w1 ((((F.setCell ⟨w1.heap.size,0,none⟩ (.int .i64 e.term)).setCell ⟨w1.heap.size,1,none⟩ (.int .i64 e.kind)).setCell ⟨w1.heap.size,2,none⟩ (.slice s e.data.length m)).setCell ⟨w1.heap.size,3,none⟩ (.slice q e.nodes.length l)):=P.o.trans (hC.below P.o.size fun k hk e=>by omega);have ab:=zh (zDF HX.o hB);have HE:=zW (∃v:EV,Ending.returned (.tuple #[.agg #[.int .i64 e.term,.int .i64 e.kind,(.slice s e.data.length m),(.slice q e.nodes.length l)],.int .i64 0])=.returned (.tuple #[zC7 e v,.int .i64 0])∧zDT ((((F.setCell ⟨w1.heap.size,0,none⟩ (.int .i64 e.term)).setCell ⟨w1.heap.size,1,none⟩ (.int .i64 e.kind)).setCell ⟨w1.heap.size,2,none⟩ (.slice s e.data.length m)).setCell ⟨w1.heap.size,3,none⟩ (.slice q e.nodes.length l)) e v∧(∀k,(v.1.ownBlock=some k∨v.2.ownBlock=some k)→w1.heap.size≤k)∧Below w1.heap.size w1 ((((F.setCell ⟨w1.heap.size,0,none⟩ (.int .i64 e.term)).setCell ⟨w1.heap.size,1,none⟩ (.int .i64 e.kind)).setCell ⟨w1.heap.size,2,none⟩ (.slice s e.data.length m)).setCell ⟨w1.heap.size,3,none⟩ (.slice q e.nodes.length l))) (
  ⟨(.slice s e.data.length m,.slice q e.nodes.length l),rfl,V.o.1.keep fun x hx=>hC.block x (V.o.1.lt hx) fun e=>by have h1:=V.o.2 x hx;have h2:=Q.o;omega,fun x hx=>by have h1:=V.o.2 x hx;have h2:=Q.o;omega,hB⟩)
 have HZ:=zh hz;clear r0 r1 r2 r3 fr hC hB hz;generalize (((F.setCell ⟨w1.heap.size,0,none⟩ (.int .i64 e.term)).setCell ⟨w1.heap.size,1,none⟩ (.int .i64 e.kind)).setCell ⟨w1.heap.size,2,none⟩ (.slice s e.data.length m)).setCell ⟨w1.heap.size,3,none⟩ (.slice q e.nodes.length l)=W6 at *;refine T.o _ _ (ab.o.all) fun d=>?_;clear T
 try simp only[uZ]
 refine otk 16 (v:=?v1x16) rfl ?_;simp only[uZ];refine odn ?_;go_wp2_with fail
 (try simp only[Exit.inBlock,Exit.then])
 refine bodyPost_ret (zDA rfl _ W6 w1.heap.size _ _ (0,0) _ rfl HZ.o underlying50 rfl (by kernel_rfl)) rfl ?_;exact HE.o
theorem rnat_no (h:zBi S w1 j r pre M)(i:Int)(K:-9223372036854775808≤i∧i≤9223372036854775807)(q:¬((M.number:Int)<i∧i≤(M.last:Int))) :
  Calls prog 96 #[.pointer (some ⟨j,0,none⟩),.int .i64 i] w1 fun r w'=>r=.returned (.tuple #[.agg #[.int .i64 0,.int .i64 0,.slice none 0 0,.slice none 0 0],.int .i64 7])∧Below w1.heap.size w1 w':=by
 have g:=zAD w1 (.cells #[.int .i64 0,.int .i64 0,.slice none 0 0,.slice none 0 0] 50);have f:=h.ok.last;obtain⟨O,C,Z,dv,N,vs,y,I⟩:=h;obtain⟨p8,L,p⟩:=y.row.shape;have v:=zAH (y.c 0 rfl) g;have s:=zAH (y.c 8 rfl) g;unfold zAJ.last at f q;have v:(w1.alloc (.cells #[.int .i64 0,.int .i64 0,.slice none 0 0,.slice none 0 0] 50)).cell? ⟨j,0,none⟩=some (.int .i64 (M.number:Int)):=v;have s:(w1.alloc (.cells #[.int .i64 0,.int .i64 0,.slice none 0 0,.slice none 0 0] 50)).cell? ⟨j,8,none⟩=some N:=s;rw[p]at s;clear y I p;generalize M.entries.length=n at *;generalize M.number=b at *;obtain⟨z,t⟩:∃z,z=b+n:=⟨_,rfl⟩;have T:IntKind.i64.wrap ((b:Int)+(n:Int))=(z:Int):=by rw[IntWalk.i64_in _ (by omega)];omega
 by_cases m:i≤(b:Int)
 focus have H:decide (i≤(b:Int))=true:=decide_eq_true m
 rotate_left
 focus have H:decide (i≤(b:Int))=false:=decide_eq_false m;have Q:decide ((z:Int)<i)=true:=decide_eq_true (by omega)
 all_goals
  clear q m t f;go_enter func96,ntmps96;go_wp2_with fail;go_quiet (fail);have l:=zW (Below w1.heap.size w1 ((w1.alloc (.cells #[.int .i64 0,.int .i64 0,.slice none 0 0,.slice none 0 0] 50)).drewN nq)) (g.trans ⟨rfl,rfl,rfl,by simp,fun _ _=>rfl⟩);have d:((w1.alloc (.cells #[.int .i64 0,.int .i64 0,.slice none 0 0,.slice none 0 0] 50)).drewN nq).heap[w1.heap.size]?=some (.cells #[.int .i64 0,.int .i64 0,.slice none 0 0,.slice none 0 0] 50):=zAI w1 _;generalize (w1.alloc (.cells #[.int .i64 0,.int .i64 0,.slice none 0 0,.slice none 0 0] 50)).drewN nq=W at *;have U:=zAW d;have V:=zAd d;have X:=zAb d;have Y:=zAu d;have P:=zAE d;have A:=zh d;clear g d v s;go_wp2_with fail;have J:((((W.setCell ⟨w1.heap.size,0,none⟩ (.int .i64 0)).setCell ⟨w1.heap.size,1,none⟩ (.int .i64 0)).setCell ⟨w1.heap.size,2,none⟩ (.slice none 0 0)).setCell ⟨w1.heap.size,3,none⟩ (.slice none 0 0)).heap[w1.heap.size]?=some (.cells #[.int .i64 0,.int .i64 0,.slice none 0 0,.slice none 0 0] 50):=by
   have B:=zAC A.o 0 (.int .i64 0);have D:=zAC B 1 (.int .i64 0);have E:=zAC D 2 (.slice none 0 0);have F:=zAC E 3 (.slice none 0 0);simpa using F
  have G:Chg (fun x=>x=w1.heap.size) W ((((W.setCell ⟨w1.heap.size,0,none⟩ (.int .i64 0)).setCell ⟨w1.heap.size,1,none⟩ (.int .i64 0)).setCell ⟨w1.heap.size,2,none⟩ (.slice none 0 0)).setCell ⟨w1.heap.size,3,none⟩ (.slice none 0 0)):=(((Chg.setCell W ⟨w1.heap.size,0,none⟩ _).trans (Chg.setCell _ ⟨w1.heap.size,1,none⟩ _) fun _ _ e=>e).trans (Chg.setCell _ ⟨w1.heap.size,2,none⟩ _) fun _ _ e=>e).trans (Chg.setCell _ ⟨w1.heap.size,3,none⟩ _) fun _ _ e=>e;have a:=zW (Below w1.heap.size w1 _) (l.o.trans (G.below l.o.size fun k R e=>by omega));(try simp only[Exit.inBlock,Exit.then]);refine bodyPost_ret (zDA rfl _ _ w1.heap.size _ _ (0,0) _ rfl J underlying50 rfl (by kernel_rfl)) rfl ?_;exact⟨rfl,a.o⟩
end
theorem holds_drewN {w:World}{s n:Nat}{v:Value}{xs:List Value}(h:zAM w s v n xs)(q:Nat):zAM (w.drewN q) s v n xs :=
 zAM.keep h fun _ _=>rfl
theorem take_eqG {α:Type}{l m:List α}{k:Nat}{x y:α}(b:l[k]?=some x)(c:m[k]?=some y)(h:l.take k=m.take k)(e:x=y):l.take (k+1)=m.take (k+1):=by
 rw[List.take_add_one,List.take_add_one,b,c,h,e]
theorem ne_atG {α:Type}[BEq α][LawfulBEq α]{l m:List α}{k:Nat}{x y:α}(c:l[k]?=some x)(b:m[k]?=some y)(e:x≠y):(l==m)=false:=by
 rw[beq_eq_false_iff_ne];rintro rfl;rw[c]at b;exact e (Option.some.inj b)
theorem zFp {w:World}{x y:Value}{l m:List Int}(H:zBe w x l)(I:zBe w y m)(hl:l.length≤140737488355328)(hm:m.length≤140737488355328) :
  Calls prog 26 #[x,y] w (SamePost w (l==m)):=by
 by_cases d:l.length=m.length
 ·have S:=H.at
  have T:=I.at
  obtain⟨K,U,rfl⟩:=H.slice;obtain⟨py,V,rfl⟩:=I.slice;have B:((l.length:Int) != (m.length:Int))=false:=by simp[d]
  have r:=zh d;have O:=zh S;have P:=zh T;clear H I d S T;generalize E:l.length=N at *;generalize G:m.length=M at *;have z:=zh E;have A:=zh G;clear E G
  go_enter func26,ntmps26
  go_wp2
  go_loopw [5] (fun i wr=>∃k q:Nat,k≤N∧i=.int .i64 k∧l.take k=m.take k∧wr=w.drewN q) (fun i _=>N-(intOf i).toNat)
  case atStart=>exact⟨0,0,Nat.zero_le _,rfl,rfl,rfl⟩
  case round =>
   obtain⟨k,q,hk,rfl,n,rfl⟩:=hrel;have f:=zh n;clear n
   by_cases R:k<N
   ·have F:k<M:=by have:=r.o;omega
    have g:k<l.length:=by rw[z.o];exact R
    have j:k<m.length:=by rw[A.o];exact F
    have v:l[k]?=some l[k]:=List.getElem?_eq_getElem g;have J:m[k]?=some m[k]:=List.getElem?_eq_getElem j;rcases O.o with h|⟨b,o,c,W,C⟩
    ·rw[h]at g;simp at g
    rcases P.o with h|⟨b2,o2,c2,X,D⟩
    ·rw[h]at j;simp at j
    cases W;cases X;have Y:=C k _ v;have Z:=D k _ J;have t:=zh (fun e=>take_eqG v J f.o e);have Q:=zh (fun e=>ne_atG v J e);clear C D v J;generalize l[k]=a at *;generalize m[k]=b at *
    by_cases p:a=b
    ·subst p;clear g j;go_wp2_with fail
     go_quiet (fail)
     go_wp2
     go_roundw
     case rel=>exact⟨k+1,q+nq,by omega,by go_num,t.o trivial,by first|rfl|rw[World.drewN_drewN]⟩
     case measure=>simp[intOf];omega
    ·have hd:((a != b)=true):=by simpa using p
     have L:=zh p;clear p g j;go_wp2_with fail
     go_quiet (fail)
     go_wp2
     go_ret;exact⟨by rw[Q.o L.o];rfl,q+nq,by first|rfl|rw[World.drewN_drewN]⟩
   ·go_wp2
    go_ret;refine⟨?_,q,rfl⟩;have v:=f.o;rw[List.take_of_length_le (by rw[z.o];omega),List.take_of_length_le (by rw[A.o];have:=r.o;omega)]at v;simp[v]
 ·obtain⟨K,U,rfl⟩:=H.slice;obtain⟨py,V,rfl⟩:=I.slice;have B:((l.length:Int) != (m.length:Int))=true:=by simp;omega
  have s:(l==m)=false:=by rw[beq_eq_false_iff_ne];rintro rfl;exact d rfl
  rw[s];clear H I d s
  go_enter func26,ntmps26
  go_wp2
  go_ret;exact⟨rfl,0,rfl⟩
theorem zFz {w:World}{x y:Value}{l m:Bs}(I:zAY w x l)(J:zAY w y m)(hl:l.length≤140737488355328)(hm:m.length≤140737488355328) :
  Calls prog 33 #[x,y] w (SamePost w (l==m)):=by
 by_cases d:l.length=m.length
 ·have S:=I.at
  have T:=J.at
  obtain⟨px,U,rfl⟩:=I.slice;obtain⟨py,V,rfl⟩:=J.slice;have C:((l.length:Int) != (m.length:Int))=false:=by simp[d]
  have r:=zh d;have O:=zh S;have P:=zh T;clear I J d S T;generalize F:l.length=N at *;generalize H:m.length=M at *;have A:=zh F;have B:=zh H;clear F H
  go_enter func33,ntmps33
  go_wp2
  go_loopw [5] (fun i wr=>∃k q:Nat,k≤N∧i=.int .i64 k∧l.take k=m.take k∧wr=w.drewN q) (fun i _=>N-(intOf i).toNat)
  case atStart=>exact⟨0,0,Nat.zero_le _,rfl,rfl,rfl⟩
  case round =>
   obtain⟨k,q,hk,rfl,p,rfl⟩:=hrel;have g:=zh p;clear p
   by_cases R:k<N
   ·have G:k<M:=by have:=r.o;omega
    have j:k<l.length:=by rw[A.o];exact R
    have n:k<m.length:=by rw[B.o];exact G
    have z:l[k]?=some l[k]:=List.getElem?_eq_getElem j;have L:m[k]?=some m[k]:=List.getElem?_eq_getElem n;rcases O.o with h|⟨b,o,c,W,D⟩
    ·rw[h]at j;simp at j
    rcases P.o with h|⟨b2,o2,c2,X,E⟩
    ·rw[h]at n;simp at n
    cases W;cases X;have Y:=D k _ z;have Z:=E k _ L;have v:=zh (fun e=>take_eq_succ z L g.o e);have Q:=zh (fun e=>ne_at z L e);clear D E z L;generalize l[k]=a at *;generalize m[k]=b at *
    by_cases f:a=b
    ·have K:((a.toNat:Int) != (b.toNat:Int))=false:=by simp[f]
     have t:=zh f;clear f j n;go_wp2_with fail
     go_quiet (fail)
     go_wp2
     go_roundw
     case rel=>exact⟨k+1,q+nq,by omega,by go_num,v.o t.o,by first|rfl|rw[World.drewN_drewN]⟩
     case measure=>simp[intOf];omega
    ·have K:((a.toNat:Int) != (b.toNat:Int))=true:=by
      simp only[bne_iff_ne,ne_eq,Int.natCast_inj];exact fun e=>f (UInt8.toNat.inj e)
     have t:=zh f;clear f j n;go_wp2_with fail
     go_quiet (fail)
     go_wp2
     go_ret;exact⟨by rw[Q.o t.o];rfl,q+nq,by first|rfl|rw[World.drewN_drewN]⟩
   ·go_wp2
    go_ret;refine⟨?_,q,rfl⟩;have z:=g.o;rw[List.take_of_length_le (by rw[A.o];omega),List.take_of_length_le (by rw[B.o];have:=r.o;omega)]at z;simp[z]
 ·obtain⟨px,U,rfl⟩:=I.slice;obtain⟨py,V,rfl⟩:=J.slice;have C:((l.length:Int) != (m.length:Int))=true:=by simp;omega
  have s:(l==m)=false:=by rw[beq_eq_false_iff_ne];rintro rfl;exact d rfl
  rw[s];clear I J d s
  go_enter func33,ntmps33
  go_wp2
  go_ret;exact⟨rfl,0,rfl⟩
def entEq (e f:Ent):Bool:=decide (e.term=f.term)&&decide (e.kind=f.kind)&&(e.data==f.data)&&(e.nodes==f.nodes)
theorem entEq_refl (e:Ent):entEq e e=true:=by simp[entEq]
theorem zDr {w:World}{e f:Ent}{v u:EV}(y:zBP w e v)(t:zBP w f u) :
  Calls prog 37 #[zC7 e v,zC7 f u] w fun r w'=>r=.returned (.bool (entEq e f))∧Below w.heap.size w w':=by
 obtain⟨l,k1,m,h⟩:=e;obtain⟨t2,k2,n,A⟩:=f;obtain⟨D,v2⟩:=v;obtain⟨B,C⟩:=u;have k:=(zAD w (.cells #[.int .i64 l,.int .i64 k1,D,v2] 50)).alloc (by simp) (.cells #[.int .i64 t2,.int .i64 k2,B,C] 50);have c:=y.below k;have b:=t.below k;have g:=zh (zFz c.data b.data (Nat.le_trans c.dl (by decide)) (Nat.le_trans b.dl (by decide)));have p:=zh (fun q=>zFp (holds_drewN c.nodes q) (holds_drewN b.nodes q) (Nat.le_trans c.nl (by decide)) (Nat.le_trans b.nl (by decide)));have j:=zh k;clear k y t c b;unfold zC7 entEq;dsimp only at g p ⊢
 by_cases d:l=t2
 ·have z:(l==t2)=true:=by simpa using d
  rw[decide_eq_true d]
  by_cases i:k1=k2
  ·have a:(k1==k2)=true:=by simpa using i
   rw[decide_eq_true i];subst d;subst i;cases s:m==n with
   | true =>
    rw[s]at g
    go_enter func37,ntmps37
    go_wp2_with fail;refine g.o.mono ?_;rintro r w2 ⟨rfl,q,rfl⟩;go_wp2_with fail;refine(p.o q).mono ?_;rintro r w3 ⟨rfl,q2,rfl⟩;go_wp2_with fail;go_ret;exact⟨by simp,j.o.trans ⟨rfl,rfl,rfl,Nat.le_refl _,fun _ _=>rfl⟩⟩
   | false =>
    rw[s]at g
    go_enter func37,ntmps37
    go_wp2_with fail;refine g.o.mono ?_;rintro r w2 ⟨rfl,q,rfl⟩;go_wp2_with fail;go_ret;exact⟨by simp,j.o.trans ⟨rfl,rfl,rfl,Nat.le_refl _,fun _ _=>rfl⟩⟩
  ·have a:(k1==k2)=false:=by simpa using i
   rw[decide_eq_false i];subst d
   go_enter func37,ntmps37
   go_wp2_with fail;go_ret;exact⟨by simp,j.o.trans ⟨rfl,rfl,rfl,Nat.le_refl _,fun _ _=>rfl⟩⟩
 ·have z:(l==t2)=false:=by simpa using d
  rw[decide_eq_false d]
  go_enter func37,ntmps37
  go_wp2_with fail;go_ret;exact⟨by simp,j.o.trans ⟨rfl,rfl,rfl,Nat.le_refl _,fun _ _=>rfl⟩⟩
end Go.Proofs.YtapfnehdgailmaaGreat
