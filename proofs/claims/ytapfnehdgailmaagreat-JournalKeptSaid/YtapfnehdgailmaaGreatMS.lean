/- What the program's functions and the document's do, and plain laws, for PJournalKept. -/
import Derived.Deep.CutRange
import Derived.Deep.DeepCutAuto
import Derived.Test.YtapfnehdgailmaaGreatMD
import Derived.Test.YtapfnehdgailmaaGreatME
import Derived.Test.YtapfnehdgailmaaGreatMF
import Derived.Test.YtapfnehdgailmaaGreatMG
import Derived.Test.YtapfnehdgailmaaGreatMI
import Derived.Test.YtapfnehdgailmaaGreatMJ
import Derived.Test.YtapfnehdgailmaaGreatML
import Derived.Test.YtapfnehdgailmaaGreatMM
import Derived.Test.YtapfnehdgailmaaGreatMO
import Derived.Test.YtapfnehdgailmaaGreatMQ
import Derived.Test.YtapfnehdgailmaaGreatMR
open Go.Proofs.Tryz
set_option maxRecDepth 100000
set_option maxHeartbeats 64000000
namespace Go.Proofs.YtapfnehdgailmaaGreat
open Go.RowKit Go.Sat Go.Maps
abbrev zCE (d r:Nat)(j x:Value)(over:Bool):Obj:=.cells #[.pointer (some ⟨d,0,none⟩),.pointer (some ⟨r,0,none⟩),j,x,.bool over] 47 (0,0)
abbrev zDu:List Int:=[0,1,2]
abbrev LitO:Obj:=.cells #[.int .i64 0,.int .i64 1,.int .i64 2] 3 (0,0)
theorem hasI_012 (W:World):zBg (W.alloc LitO) (.slice (some ⟨W.heap.size,0,none⟩) 3 3) zDu :=
 ⟨by simp,some ⟨W.heap.size,0,none⟩,3,rfl,fun e=>(by cases e),fun a b i u c=>by
  cases b;rw[add_zero];refine zAG (zAJ W _) ?_;simpa using c⟩
theorem refIn_move {w w':World}{r:Nat}{D:zAA}(h:zAf w r (.slice none 0 0) [] (fun k=>k=r) D)(f:∀k,k=r→w'.heap[k]?=w.heap[k]?)(d:r<w'.heap.size):zAf w' r (.slice none 0 0) [] (fun k=>k=r) D where
 cells:=(f r rfl).trans h.cells
 row:=OwnR.nil _ _ _
 files:=h.files
 data:=fun x c=>by cases c
 or:=rfl
 ov:=fun k b=>by cases b
 ob:=fun x c=>by cases c
 olt:=fun k b=>by rw[b];exact d
 ok:=h.ok
def Opened (w:World)(p d r room:Nat)(w':World):Prop :=
 ∃j x,zAj w w' j d sA (zCW room [97] zDu) (zAH.none0 zDu) (fun k=>k=p)∧w'.heap[p]?=some (zCE d r (.pointer (some ⟨j,0,none⟩)) (.pointer (some ⟨x,0,none⟩)) false)
def Opened2 (w:World)(p d r room:Nat)(w':World):Prop :=
 ∃j x Hot Cold,zAj w w' j d sA (zCW room [97] zDu) (zAH.none0 zDu) (fun k=>k=p∨Hot k∨Cold k)∧w'.heap[p]?=some (zCE d r (.pointer (some ⟨j,0,none⟩)) (.pointer (some ⟨x,0,none⟩)) false) ∧
  RJF w' x r sA (zCW room [97] zDu) (zAH.none0 zDu) Hot Cold∧∀k,Hot k∨Cold k→w.heap.size≤k∧k≠p
theorem Opened2.opened {w:World}{p d r room:Nat}{w':World}(h:Opened2 w p d r room w'):Opened w p d r room w':=by
 obtain⟨j,x,c,b,f,i,-,-⟩:=h;exact⟨j,x,f.less fun k g=>.inl g,i⟩
theorem popen2_calls {w w1:World}{d r p room:Nat}(h:St w w1 d (zAA.fresh room) (fun k=>k=p∨k=r))(hR:zAf w1 r (.slice none 0 0) [] (fun k=>k=r) (zAA.fresh room))(L:w1.heap[p]?=some (zCE d r (.pointer none) (.pointer none) false))(H:w.heap.size≤r∧w.heap.size≤p)(I:p≠r)(Y:200≤room)(J:room≤1048576) :
  Calls prog 97 #[.pointer (some ⟨p,0,none⟩)] w1 fun e w'=>e=.returned (.bool true)∧Opened2 w p d r room w':=by
 have t:zAV (zAA.fresh room) (nm sA) zDu=(zCW room [97] zDu,0,zAH.none0 zDu):=jopen_fresh Y (by omega) (pre:=[97]) ⟨by decide,by decide⟩ (by rfl);have C:=zh (jopen_calls (h.next (zAC w1 LitO)) (show(zAA.fresh room).room≤1048576 from J) sA (hasI_012 w1) (by simp));rw[t]at C;have T:=zh (fun W (hW:zAf W r (.slice none 0 0) [] (fun k=>k=r) (zAA.fresh room))=>show Calls prog 18 #[.pointer (some ⟨r,0,none⟩),.string sA,.slice (some ⟨W.heap.size,0,none⟩) 3 3] (W.alloc LitO) (ROpened (W.alloc LitO) r sA (fun k=>k=r) (zCW room [97] zDu,0,zAH.none0 zDu)) by
  have:=ropen_calls (hW.below (zAC W LitO)) (show(zAA.fresh room).room≤1048576 from J) sA (hasI_012 W) (by simp) fun O=>open_snp_le (D:=zAA.fresh room) List.Pairwise.nil (show(zAA.fresh room).used≤524288 from Nat.zero_le _) O;rwa[t]at this)
 have HR:=zh hR;have q:=zh H;have F:=zh I;have Hp:=zh L;have U:=zh (fun k (b:k=p∨k=r)=>h.flt b);have V:=zBA LitO L;have c0:=zAd L;clear h hR L H I V t
 go_enter func97,ntmps97
 go_wp2_with fail;refine C.o.mono ?_;rintro e w2 ⟨ac,K,s⟩;rcases s with⟨-,j,rfl,hj⟩|⟨v,-⟩
 ·have a:=zh hj;have E:=zh ((K p (.inl rfl)).trans (zBA LitO Hp.o));have n:∀k,k=r→w2.heap[k]?=w1.heap[k]?:=fun k b=>by
   rw[b];exact(K r (.inr rfl)).trans (zF0 w1 LitO (U.o r (.inr rfl)))
  have P:=zh (refIn_move HR.o n (a.o.flt (.inr rfl)));have c1:=zAn E.o;clear ac K hj n c0;have G:=zh (T.o w2 P.o);go_wp2_with fail;refine G.o.mono ?_;rintro e y hT;rcases hT with⟨-,z,g,c,rfl,hF,l,m⟩|⟨v,-⟩
  rotate_left
  ·exact absurd rfl v
  have ab:=(zAC w2 LitO).size;have aa:=a.o.bel.size;have Z:r<w2.heap.size:=a.o.flt (.inr rfl);have X:p<w2.heap.size:=a.o.flt (.inl rfl);have B:=zW (∀k,g k∨c k→w.heap.size≤k∧k≠p∧k<y.heap.size) (fun k b=>by
   refine⟨?_,?_,b.elim (fun h=>hF.hlt h) fun h=>hF.clt h⟩
   ·rcases m k b with e|e
    ·rw[e];exact q.o.1
    ·omega
   ·rcases m k b with e|e
    ·rw[e];exact fun e=>F.o e.symm
    ·omega)
  have HF:=zh hF;have A:=zW (zAj w y j d sA (zCW room [97] zDu) (zAH.none0 zDu) (fun k=>k=p∨g k∨c k)) ((a.o.next (zAC w2 LitO)).move l (fun k _ e=>⟨.inr e,by rw[e];exact q.o.1⟩) fun k b=>by
   rcases b with b|b
   ·exact⟨.inl (.inl b),by rw[b];have:=l.size;omega⟩
   ·refine⟨?_,(B.o k b).2.2⟩;rcases m k b with e|e
    ·exact .inl (.inr e)
    ·exact .inr e)
  have f:=(l.block p (by omega) F.o).trans (zBA LitO E.o);have Q:=zh f;have d2:=zAo f;have d3:=zBI f;have f2:=zAE f 2;have f3:=zAE f 3;have i:Chg (fun k=>k=p) y ((y.setCell ⟨p,2,none⟩ (.pointer (some ⟨j,0,none⟩))).setCell ⟨p,3,none⟩ (.pointer (some ⟨z,0,none⟩))):=(Chg.setCell y ⟨p,2,none⟩ _).trans (Chg.setCell _ ⟨p,3,none⟩ _) fun _ _ e=>e;have M:=zh (HF.o.chg i fun k e=>⟨fun h=>(B.o k (.inl h)).2.1 e,fun h=>(B.o k (.inr h)).2.1 e⟩);have N:=zW (zAj w ((y.setCell ⟨p,2,none⟩ (.pointer (some ⟨j,0,none⟩))).setCell ⟨p,3,none⟩ (.pointer (some ⟨z,0,none⟩))) j d sA (zCW room [97] zDu) (zAH.none0 zDu) (fun k=>k=p∨g k∨c k)) (A.o.move (S:=fun k=>k=p) i (fun k _ e=>⟨.inl e,by rw[e];exact q.o.2⟩) fun k b=>⟨.inl b,Nat.lt_of_lt_of_le (A.o.flt b) i.size⟩);have R:=zW (((y.setCell ⟨p,2,none⟩ (.pointer (some ⟨j,0,none⟩))).setCell ⟨p,3,none⟩ (.pointer (some ⟨z,0,none⟩))).heap[p]?=some (zCE d r (.pointer (some ⟨j,0,none⟩)) (.pointer (some ⟨z,0,none⟩)) false)) (by
   have h1:=zAD Q.o 2 (.pointer (some ⟨j,0,none⟩));have h2:=zAD h1 3 (.pointer (some ⟨z,0,none⟩));simpa using h2)
  clear l f Z X c1 hF m ab aa i;go_wp2_with fail;go_ret;exact⟨rfl,j,z,g,c,N.o,R.o,M.o,fun k b=>⟨(B.o k b).1,(B.o k b).2.1⟩⟩
 ·exact absurd rfl v
theorem zFB (w:World)(room:Nat)(D:200≤room)(E:room≤1048576) :
  Calls prog 21 #[.int .i64 (room:Int)] w fun e w'=>∃p d r,e=.returned (.tuple #[.pointer (some ⟨p,0,none⟩),.bool true])∧Opened2 w p d r room w'∧w.heap.size≤p:=by
 have i:=zh (st_new (w:=w) (w1:=w) (room:Int) (by omega) (by omega) (Below.refl _ _));have z:=zh (fun W=>rnew_calls W (room:Int) (by omega) (by omega));have y:=zh (fun W d r p a b c e f=>popen2_calls (w:=w) (w1:=W) (d:=d) (r:=r) (p:=p) a b c e f D E);rw[Int.toNat_natCast]at i
 go_enter func21,ntmps21
 go_wp2_with fail;refine i.o.mono ?_;rintro e w2 ⟨d,rfl,q⟩;have l:=zh q;have n:=zh (z.o w2);rw[Int.toNat_natCast]at n;clear q;go_wp2_with fail;refine n.o.mono ?_;rintro e w3 ⟨r,rfl,B,g,j⟩;have F:=B.olt r rfl;have A:=zW (St w (w3.alloc (zCE d r (.pointer none) (.pointer none) false)) d (zAA.fresh room) (fun k=>k=w3.heap.size∨k=r)) (l.o.move (Chg.of_below (g.trans ((zAC w3 _).mono g.size))) (fun _ _ h=>h.elim) fun k C=>by
  have J:=g.size;have I:(w3.alloc (zCE d r (.pointer none) (.pointer none) false)).heap.size=w3.heap.size+1:=by simp
  rcases C with C|C
  ·exact⟨.inr (by omega),by omega⟩
  ·exact⟨.inr (by omega),by omega⟩)
 have s:=zh (B.below (zAC w3 (zCE d r (.pointer none) (.pointer none) false)));have m:=zW (w.heap.size≤r∧w.heap.size≤w3.heap.size) (⟨Nat.le_trans l.o.below.size j,Nat.le_trans l.o.below.size g.size⟩);have t:=zh (show w3.heap.size≠r by omega);have v:=zh (y.o _ _ _ _ A.o s.o (zAJ w3 _) m.o t.o);clear B g j F;go_wp2_with fail;refine v.o.mono ?_;rintro e L ⟨rfl,G⟩;have H:=zh G;clear G;go_wp2_with fail
 go_ret2
 exact⟨_,_,_,rfl,H.o,m.o.2⟩
theorem start_calls (w:World)(room:Nat)(b:200≤room)(c:room≤1048576) :
  Calls prog 21 #[.int .i64 (room:Int)] w fun e w'=>∃p d r,e=.returned (.tuple #[.pointer (some ⟨p,0,none⟩),.bool true])∧Opened w p d r room w'∧w.heap.size≤p:=by
 refine(zFB w room b c).mono ?_;rintro e w' ⟨p,d,r,g,i,f⟩;exact⟨p,d,r,g,i.opened,f⟩
def zDP (w w1:World)(d:Nat)(D:zAA)(r:Nat)(R:zAA)(F:Nat→Prop):Prop :=
 ∃own v L,St w w1 d D (fun k=>own k∨F k)∧zAf w1 r v L own R∧(∀k,own k→w.heap.size≤k∧¬F k)∧∀k,F k→k<w1.heap.size
section
variable {w w1 w2:World} {d:Nat} {D:zAA} {r:Nat} {R:zAA} {F F':Nat→Prop}
theorem zDP.bel (h:zDP w w1 d D r R F):Below w.heap.size w w1:=let ⟨_,_,_,hS,_⟩:=h;hS.below
theorem zDP.okD (h:zDP w w1 d D r R F):D.OK:=let ⟨_,_,_,hS,_⟩:=h;hS.ok
theorem zDP.flt (h:zDP w w1 d D r R F){k:Nat}(b:F k):k<w1.heap.size:=let ⟨_,_,_,_,_,_,hF⟩:=h;hF k b
theorem zDP.pair (h:zDP w w1 d D r R F):Pair w w1 d D r R:=by
 obtain⟨own,v,L,hS,c,hn,-⟩:=h;exact⟨own,v,L,hS.less fun _ b=>.inl b,c,fun k b=>(hn k b).1⟩
theorem Pair.apart (h:Pair w w1 d D r R):zDP w w1 d D r R NoF:=by
 obtain⟨own,v,L,hS,c,hn⟩:=h;exact⟨own,v,L,hS.less fun _ b=>b.elim id fun h=>h.elim,c,fun k b=>⟨hn k b,fun h=>h⟩,fun _ h=>h.elim⟩
theorem zDP.move {S:Nat→Prop}(h:zDP w w1 d D r R F)(f:Chg S w1 w2)(hS:∀k,k<w1.heap.size→S k→F k∧w.heap.size≤k)(hF:∀k,F' k→(F k∨w1.heap.size≤k)∧k<w2.heap.size):zDP w w2 d D r R F':=by
 obtain⟨own,v,L,i,c,hn,l⟩:=h;refine⟨own,v,L,i.move f (fun k b g=>⟨.inr (hS k b g).1,(hS k b g).2⟩) (fun k b=>?_),c.keep f.size fun k b=>f.block k (c.olt k b) fun g=>(hn k b).2 (hS k (c.olt k b) g).1,fun k b=>⟨(hn k b).1,fun j=>?_⟩,fun k b=>(hF k b).2⟩
 ·rcases b with b|b
  ·exact⟨.inl (.inl b),Nat.lt_of_lt_of_le (c.olt k b) f.size⟩
  ·exact⟨(hF k b).1.imp .inr id,(hF k b).2⟩
 ·rcases(hF k j).1 with h|h
  ·exact(hn k b).2 h
  ·have:=c.olt k b;omega
theorem zDP.next (h:zDP w w1 d D r R F)(b:Below w1.heap.size w1 w2):zDP w w2 d D r R F :=
 h.move (Chg.of_below b) (fun _ _ h=>h.elim) fun _ c=>⟨.inl c,Nat.lt_of_lt_of_le (h.flt c) b.size⟩
theorem zDP.same (h:zDP w w1 d D r R F)(b:Below w1.heap.size w1 w2):Same F w1 w2:=fun _ c=>b.block _ (h.flt c)
theorem zDP.less (h:zDP w w1 d D r R F)(hF:∀k,F' k→F k):zDP w w1 d D r R F' :=
 h.move (Chg.refl _ _:Chg (fun _=>False) w1 w1) (fun _ _ h=>h.elim) fun _ b=>⟨.inl (hF _ b),h.flt (hF _ b)⟩
theorem zDP.box (h:zDP w w1 d D r R F)(o:Obj):zDP w (w1.alloc o) d D r R (fun k=>F k∨k=w1.heap.size) :=
 h.move (Chg.of_below ((Below.refl _ _).alloc (Nat.le_refl _) o)) (fun _ _ h=>h.elim) fun k b=>by
  rcases b with b|b
  ·have:=h.flt b;exact⟨.inl b,by simp;omega⟩
  ·exact⟨.inr (by omega),by simp;omega⟩
end
def zDo (w w1:World)(j d x r:Nat)(D:zAA)(M:zAH)(D2:zAA)(M2:zAH)(G:Nat→Prop):Prop :=
 ∃F Hot Cold,zAj w w1 j d sA D M F∧RJF w1 x r sA D2 M2 Hot Cold∧(∀k,Hot k∨Cold k→F k∧w.heap.size≤k)∧∀k,G k→F k∧¬Hot k∧¬Cold k
theorem RJF.same {w1 w2:World}{j r:Nat}{pre:ByteArray}{D:zAA}{M:zAH}{d b:Nat→Prop}(h:RJF w1 j r pre D M d b)(g:∀k,d k∨b k→w2.heap[k]?=w1.heap[k]?∧k<w2.heap.size):RJF w2 j r pre D M d b:=by
 obtain⟨O,own,p,dv,n,vs,v,L,s,f,t,q,l⟩:=h;have c:∀k,O k∨b k→d k∨b k:=fun k c=>c.imp (fun o=>(l k).2 (.inl o)) id;refine⟨O,own,p,dv,n,vs,v,L,s.keep (fun k h=>(g k (c k h)).1) (fun k h=>(g k (c k h)).2),?_,t,q,l⟩;have i:∀k,own k→d k∨b k:=fun k c=>.inl ((l k).2 (.inr c));exact {
  cells:=(g r (i r f.or)).1.trans f.cells
  row:=f.row.keep fun k c=>(g k (i k (f.ov k c).1)).1
  files:=f.files
  data:=fun x m=>OwnR.keep (f.data x m) fun k c=>(g k (i k (f.ob x m k c).1)).1
  or:=f.or
  ov:=f.ov
  ob:=f.ob
  olt:=fun k c=>(g k (i k c)).2
  ok:=f.ok}
section
variable {w w1 w2:World} {j d x r:Nat} {D D2 D':zAA} {M M2 M':zAH} {G:Nat→Prop}
theorem zDo.bel (h:zDo w w1 j d x r D M D2 M2 G):Below w.heap.size w w1:=let ⟨_,_,_,h,_⟩:=h;h.bel
theorem zDo.glt (h:zDo w w1 j d x r D M D2 M2 G){k:Nat}(b:G k):k<w1.heap.size:=let ⟨_,_,_,hL,_,_,hG⟩:=h;hL.flt (hG k b).1
theorem zDo.next (h:zDo w w1 j d x r D M D2 M2 G)(f:Below w1.heap.size w1 w2):zDo w w2 j d x r D M D2 M2 G:=by
 obtain⟨F,c,b,i,k,l,g⟩:=h;exact⟨F,c,b,i.next f,k.below f,l,g⟩
theorem zDo.same (h:zDo w w1 j d x r D M D2 M2 G)(b:Below w1.heap.size w1 w2):Same G w1 w2:=fun _ c=>b.block _ (h.glt c)
theorem zDo.less {G':Nat→Prop}(h:zDo w w1 j d x r D M D2 M2 G)(f:∀k,G' k→G k):zDo w w1 j d x r D M D2 M2 G':=by
 obtain⟨F,c,b,i,l,m,g⟩:=h;exact⟨F,c,b,i,l,m,fun k h=>g k (f k h)⟩
theorem zDo.more {G':Nat→Prop}(h:zDo w w1 j d x r D M D2 M2 G)(m:Below w1.heap.size w1 w2)(c:∀k,G' k→G k∨(w1.heap.size≤k∧k<w2.heap.size)):zDo w w2 j d x r D M D2 M2 G':=by
 obtain⟨F,f,b,o,i,n,l⟩:=h;refine⟨fun k=>F k∨G' k,f,b,o.more m fun k h=>?_,i.below m,fun k h=>⟨.inl (n k h).1,(n k h).2⟩,fun k h=>⟨.inr h,?_⟩⟩
 ·rcases h with h|h
  ·exact .inl h
  ·exact(c k h).imp (fun e=>(l k e).1) id
 ·rcases c k h with e|e
  ·exact(l k e).2
  ·exact⟨fun g=>by have:=i.hlt g;omega,fun g=>by have:=i.clt g;omega⟩
theorem zDo.box (h:zDo w w1 j d x r D M D2 M2 G)(o:Obj):zDo w (w1.alloc o) j d x r D M D2 M2 (fun k=>G k∨k=w1.heap.size) :=
 h.more (zAC w1 o) fun k b=>b.imp id fun e=>⟨by omega,by simp;omega⟩
theorem jou_fuse {F:Nat→Prop}(h:zAj w w1 j d sA D M F)(n:Int)(g:-9223372036854775808≤n)(hn:n≤9223372036854775807) :
  Calls prog 40 #[.pointer (some ⟨d,0,none⟩),.int .i64 n] w1 fun e w'=>e=.returned (.tuple #[])∧zAj w w' j d sA (D.setFuse n) M F∧Same F w1 w':=by
 obtain⟨own,m,dv,l,vs,o,hS,f,p⟩:=h;refine(st_fuse hS n g hn).mono ?_;rintro e w' ⟨rfl,b,i⟩;exact⟨rfl,⟨own,m,dv,l,vs,o.keep (fun k c=>i k (.inl c)) fun k c=>b.flt (.inl c),b,f,fun k c=>b.flt (.inr c)⟩,fun k c=>i k (.inr c)⟩
theorem hasI_lt {v:Value}{g:List Int}(h:zBg w v g)(b:g≠[]){k:Nat}(c:v.ownBlock=some k):k<w.heap.size:=by
 obtain⟨o,p,d,rfl,m,l⟩:=h;cases g with
 | nil=>exact absurd rfl b
 | cons z g =>
  cases p with
  | none=>cases c
  | some a =>
   have f:=l a rfl 0 _ rfl;have i:=World.block_lt_of_cell? w _ f;have j:(a.add 0).block=a.block:=by unfold Addr.add;split<;>rfl
   rw[j]at i;have n:k=a.block:=(Option.some.inj c).symm;omega
end
structure OwnEs (W0 w:World)(v:Value)(es:List Ent)(us:List EV):Prop where
 len:us.length=es.length
 row:OwnR w 50 4 v es.length (zAz es us)
 vnew:∀k,v.ownBlock=some k→W0.heap.size≤k
 ent:∀(i:Nat) e u,es[i]?=some e→us[i]?=some u→zDg w e u
 new:∀(i:Nat) u,us[i]?=some u→∀k,(u.1.ownBlock=some k∨u.2.ownBlock=some k)→W0.heap.size≤k∧v.ownBlock≠some k
 dis:∀(i i':Nat) u u',i≠i'→us[i]?=some u→us[i']?=some u'→∀k,u.1.ownBlock=some k→¬(u'.1.ownBlock=some k∨u'.2.ownBlock=some k)
 one:∀(i:Nat) u,us[i]?=some u→∀k,u.1.ownBlock=some k→u.2.ownBlock≠some k
 bel:Below W0.heap.size W0 w
theorem OwnEs.nil (c:World):OwnEs c c (.slice none 0 0) [] [] where
 len:=rfl
 row:=OwnR.nil _ _ _
 vnew:=fun k f=>by cases f
 ent:=fun i e u d=>by simp at d
 new:=fun i u b=>by simp at b
 dis:=fun i g u j _ b=>by simp at b
 one:=fun i u b=>by simp at b
 bel:=Below.refl _ _
theorem OwnEs.lt {d w:World}{v:Value}{es:List Ent}{c:List EV}(h:OwnEs d w v es c){i:Nat}{u:EV}(b:c[i]?=some u){k:Nat}(g:u.1.ownBlock=some k∨u.2.ownBlock=some k):k<w.heap.size:=by
 have f:=(List.getElem?_eq_some_iff.1 b).1;exact(h.ent i _ u (List.getElem?_eq_getElem (by rw[←h.len];exact f)) b).lt g
theorem zFN {α:Type}{l:List α}{a b:α}{i:Nat}(h:(l++[a])[i]?=some b):l[i]?=some b∨(i=l.length∧b=a):=by
 by_cases f:i<l.length
 ·rw[List.getElem?_append_left f]at h;exact .inl h
 ·rw[List.getElem?_append_right (by omega)]at h;have c:=(List.getElem?_eq_some_iff.1 h).1;simp at c;have d:i-l.length=0:=by omega
  rw[d]at h;simp at h;exact .inr ⟨by omega,h.symm⟩
theorem OwnEs.push {R w w2 F w3:World}{v v3:Value}{es:List Ent}{E:List EV}{e:Ent}{u:EV}(h:OwnEs R w v es E)(o:Below w.heap.size w w2)(H:zDg w2 e u)(d:∀k,(u.1.ownBlock=some k∨u.2.ownBlock=some k)→w.heap.size≤k)(a:∀k,u.1.ownBlock=some k→u.2.ownBlock≠some k)
  (j:Below w2.heap.size w2 F) (A:OwnR w3 50 4 v3 (es.length+1) (zAz es E++zEm e u)) (W:F.grownBy w3 v.ownBlock) (t:v3.ownBlock=v.ownBlock∨∃g,v3.ownBlock=some g∧F.heap.size≤g):OwnEs R w3 v3 (es++[e]) (E++[u]):=by
 have Q:=o.size;have Y:=j.size;have P:=h.bel.size;have l:=Chg.of_grown W;have X:=l.size;have n:∀k,v.ownBlock=some k→k<w.heap.size:=fun k b=>OwnR.lt h.row b;have q:∀k,v3.ownBlock=some k→v.ownBlock=some k∨F.heap.size≤k:=fun k b=>by
  rcases t with e|⟨g,e,M⟩
  ·exact .inl (e▸b)
  ·rw[b]at e;cases e;exact .inr M
 have z:∀k,k<w.heap.size→v.ownBlock≠some k→w3.heap[k]?=w.heap[k]?:=fun k b p=>((l.block k (by omega) fun e=>p e.symm).trans (j.block k (by omega))).trans (o.block k b);have s:(es++[e]).length=es.length+1:=by simp
 have B:E.length=es.length:=h.len;refine⟨by simp[h.len],?_,fun k b=>?_,fun i f y G c=>?_,fun i y c k b=>?_,fun i Z y K p c C k b=>?_,fun i y c k b=>?_,?_⟩
 ·rw[s,zEv es E [e] [u] h.len,show zAz [e] [u]=zEm e u by simp[zAz]];exact A
 ·rcases q k b with e|e
  ·exact h.vnew k e
  ·omega
 ·rcases zFN c with c|⟨T,rfl⟩
  ·have O:i<es.length:=by rw[←B];exact(List.getElem?_eq_some_iff.1 c).1
   rw[List.getElem?_append_left O]at G;exact(h.ent i f y G c).keep fun k b=>z k (h.lt c b) (h.new i y c k b).2
  ·have L:f=e:=by
    rw[T,B]at G;simpa using G.symm
   subst L;exact H.keep fun k b=>(l.block k (by have:=H.lt b;omega) fun e=>by have I:=d k b;have J:=n k e.symm;omega).trans (j.block k (H.lt b))
 ·rcases zFN c with c|⟨-,rfl⟩
  ·refine⟨(h.new i y c k b).1,fun e=>?_⟩;rcases q k e with e|e
   ·exact(h.new i y c k b).2 e
   ·have:=h.lt c b;omega
  ·refine⟨by have:=d k b;omega,fun e=>?_⟩;rcases q k e with e|e
   ·have I:=d k b;have J:=n k e;omega
   ·have:=H.lt b;omega
 ·rcases zFN c with D|⟨T,U⟩
  ·rcases zFN C with r|⟨N,S⟩
   ·exact h.dis i Z y K p D r k b
   ·intro m;rw[S]at m;have I:=h.lt D (.inl b);have J:=d k m;omega
  ·rw[U]at b;rcases zFN C with r|⟨N,S⟩
   ·intro m;have I:=h.lt r m;have J:=d k (.inl b);omega
   ·omega
 ·rcases zFN c with c|⟨-,rfl⟩
  ·exact h.one i y c k b
  ·exact a k b
 ·refine h.bel.trans ((o.trans (j.mono Q)).mono P |>.trans ?_);have V:Chg (fun k=>v.ownBlock=some k) F w3:=l.mono fun _ _ e=>e.symm;exact V.below (by omega) fun k b e=>by have:=h.vnew k e;omega
theorem OwnEs.keep {d w W:World}{v:Value}{es:List Ent}{j:List EV}(h:OwnEs d w v es j)(g:∀k,d.heap.size≤k→k<w.heap.size→W.heap[k]?=w.heap[k]?)(m:∀e∈es,e.data.length≤6000∧e.nodes.length≤6000):zCb W v es j:=by
 refine⟨h.len,OwnR.holds (OwnR.keep h.row fun k b=>g k (h.vnew k b) (OwnR.lt h.row b)),fun i e u f c=>?_⟩;have l:=(h.ent i e u f c).keep fun k b=>g k (h.new i u c k b).1 (h.lt c b);have n:=m e (List.mem_of_getElem? f);exact l.has (by omega) (by omega)
theorem zCb.below {w W:World}{v:Value}{es:List Ent}{c:List EV}(h:zCb w v es c)(b:Below w.heap.size w W):zCb W v es c :=
 ⟨h.1,zAM.chg h.2.1 (Chg.of_below b) fun _ _=>id,fun i e u d f=>(h.2.2 i e u d f).below b⟩
section
variable {w w1:World} {j d x r:Nat} {D D2:zAA} {M M2:zAH} {G:Nat→Prop}
end
def zA8 (w w1:World)(j d x r:Nat)(D:zAA)(M:zAH)(D2:zAA)(M2:zAH)(G S:Nat→Prop):Prop :=
 ∃F Hot Cold,zAj w w1 j d sA D M F∧RJF w1 x r sA D2 M2 Hot Cold∧(∀k,Hot k∨Cold k→F k∧w.heap.size≤k)∧(∀k,G k→F k∧¬Hot k∧¬Cold k)∧∀k,S k→F k∧¬Hot k
section
variable {w w1 w2:World} {j d x r:Nat} {D D2 D':zAA} {M M2 M':zAH} {G S:Nat→Prop}
theorem zA8.bel (h:zA8 w w1 j d x r D M D2 M2 G S):Below w.heap.size w w1:=let ⟨_,_,_,h,_⟩:=h;h.bel
theorem zA8.lt (h:zA8 w w1 j d x r D M D2 M2 G S){k:Nat}(b:G k∨S k):k<w1.heap.size:=let ⟨_,_,_,hL,_,_,hG,hS⟩:=h;hL.flt (b.elim (fun e=>(hG k e).1) fun e=>(hS k e).1)
theorem zA8.next (h:zA8 w w1 j d x r D M D2 M2 G S)(f:Below w1.heap.size w1 w2):zA8 w w2 j d x r D M D2 M2 G S:=by
 obtain⟨F,c,b,i,k,l,g⟩:=h;exact⟨F,c,b,i.next f,k.below f,l,g⟩
theorem zA8.okM (h:zA8 w w1 j d x r D M D2 M2 G S):M.OK:=let ⟨_,_,_,h,_⟩:=h;h.okM
theorem zA8.okN (h:zA8 w w1 j d x r D M D2 M2 G S):M2.OK:=let ⟨_,_,_,_,h,_⟩:=h;h.okM
theorem zA8.less {G' S':Nat→Prop}(h:zA8 w w1 j d x r D M D2 M2 G S)(f:∀k,G' k→G k)(g:∀k,S' k→S k):zA8 w w1 j d x r D M D2 M2 G' S':=by
 obtain⟨F,c,b,l,m,n,i,hS⟩:=h;exact⟨F,c,b,l,m,n,fun k h=>i k (f k h),fun k h=>hS k (g k h)⟩
theorem zA8.more {G' S':Nat→Prop}(h:zA8 w w1 j d x r D M D2 M2 G S)(n:Below w1.heap.size w1 w2)(f:∀k,G' k→G k∨(w1.heap.size≤k∧k<w2.heap.size))(g:∀k,S' k→S k∨(w1.heap.size≤k∧k<w2.heap.size)):zA8 w w2 j d x r D M D2 M2 G' S':=by
 obtain⟨F,l,b,p,i,o,m,hS⟩:=h;refine⟨fun k=>F k∨G' k∨S' k,l,b,p.more n fun k h=>?_,i.below n,fun k h=>⟨.inl (o k h).1,(o k h).2⟩,fun k h=>⟨.inr (.inl h),?_⟩,fun k h=>⟨.inr (.inr h),?_⟩⟩
 ·rcases h with h|h|h
  ·exact .inl h
  ·exact(f k h).imp (fun e=>(m k e).1) id
  ·exact(g k h).imp (fun e=>(hS k e).1) id
 ·rcases f k h with e|e
  ·exact(m k e).2
  ·exact⟨fun c=>by have:=i.hlt c;omega,fun c=>by have:=i.clt c;omega⟩
 ·rcases g k h with e|e
  ·exact(hS k e).2
  ·exact fun c=>by have:=i.hlt c;omega
theorem zA8.box (h:zA8 w w1 j d x r D M D2 M2 G S)(o:Obj):zA8 w (w1.alloc o) j d x r D M D2 M2 (fun k=>G k∨k=w1.heap.size) S :=
 h.more (zAC w1 o) (fun k b=>b.imp id fun e=>⟨by omega,by simp;omega⟩) fun k b=>.inl b
theorem zA8.chg {T:Nat→Prop}(h:zA8 w w1 j d x r D M D2 M2 G S)(l:Chg T w1 w2)(i:∀k,T k→G k∧w.heap.size≤k):zA8 w w2 j d x r D M D2 M2 G S:=by
 obtain⟨F,f,b,m,n,c,g⟩:=h;exact⟨F,f,b,m.move l (fun k _ e=>⟨(g.1 k (i k e).1).1,(i k e).2⟩) fun k c=>⟨.inl c,Nat.lt_of_lt_of_le (m.flt c) l.size⟩,n.chg l fun k e=>(g.1 k (i k e).1).2,c,g⟩
theorem pk_p {P:Program}{f:FuncId}{args:Array Value}{Q:Ending→Prop}{wc:World}(h:zA8 w w1 j d x r D M D2 M2 G S)(q:∀F,zAj w w1 j d sA D M F→Calls P f args wc fun e w'=>Q e∧zAj w w' j d sA D' M' F∧Same F w1 w') :
  Calls P f args wc fun e w'=>Q e∧zA8 w w' j d x r D' M' D2 M2 G S∧Same (fun k=>G k∨S k) w1 w':=by
 obtain⟨F,g,b,n,o,i,l,hS⟩:=h;refine(q F n).mono ?_;rintro e w' ⟨p,c,m⟩;exact⟨p,⟨F,g,b,c,o.same fun k h=>⟨m k (i k h).1,c.flt (i k h).1⟩,i,l,hS⟩,fun k h=>m k (h.elim (fun e=>(l k e).1) fun e=>(hS k e).1)⟩
theorem pk_r {P:Program}{f:FuncId}{args:Array Value}{Q:Ending→Prop}{wc:World}(h:zA8 w w1 j d x r D M D2 M2 G S)(B:∀c b,RJF w1 x r sA D2 M2 c b→(∀k,c k→w.heap.size≤k)→(∀k,G k→¬c k)→Calls P f args wc fun e w'=>Q e∧zAs w1 x r sA c b w' D' M') :
  Calls P f args wc fun e w'=>Q e∧zA8 w w' j d x r D M D' M' G S∧Same (fun k=>G k∨S k) w1 w':=by
 obtain⟨F,c,b,o,a,t,n,hS⟩:=h;refine(B c b a (fun k h=>(t k (.inl h)).2) fun k h=>(n k h).2.1).mono ?_;rintro e w' ⟨A,i,g,p,v,y,q⟩;have C:=o.bel.size;have l:∀k,i k∨g k→(F k∨w1.heap.size≤k)∧k<w'.heap.size∧w.heap.size≤k:=fun k h=>by
  have z:(c k∨b k)∨w1.heap.size≤k:=h.elim (fun e=>(y k e).imp .inl id) fun e=>(q k e).imp .inr id;refine⟨z.imp (fun e=>(t k e).1) id,h.elim p.hlt p.clt,?_⟩;rcases z with e|e
  ·exact(t k e).2
  ·omega
 have s:∀k,G k∨S k→F k∧¬c k:=fun k h=>h.elim (fun e=>⟨(n k e).1,(n k e).2.1⟩) (hS k);refine⟨A,⟨fun k=>i k∨g k∨(G k∨S k),i,g,o.move v (fun k _ e=>t k (.inl e)) fun k h=>?_,p,fun k h=>⟨h.elim .inl fun e=>.inr (.inl e),(l k h).2.2⟩,fun k h=>⟨.inr (.inr (.inl h)),fun e=>?_,fun e=>?_⟩,fun k h=>⟨.inr (.inr (.inr h)),fun e=>?_⟩⟩,fun k h=>v.block k (o.flt (s k h).1) (s k h).2⟩
 ·rcases h with h|h|h
  ·exact⟨(l k (.inl h)).1,(l k (.inl h)).2.1⟩
  ·exact⟨(l k (.inr h)).1,(l k (.inr h)).2.1⟩
  ·exact⟨.inl (s k h).1,Nat.lt_of_lt_of_le (o.flt (s k h).1) v.size⟩
 ·rcases y k e with m|m
  ·exact(n k h).2.1 m
  ·have:=o.flt (n k h).1;omega
 ·rcases q k e with m|m
  ·exact(n k h).2.2 m
  ·have:=o.flt (n k h).1;omega
 ·rcases y k e with m|m
  ·exact(hS k h).2 m
  ·have:=o.flt (hS k h).1;omega
theorem pk_term (h:zA8 w w1 j d x r D M D2 M2 G S)(t v:Int)(c:-9223372036854775808≤t∧t≤9223372036854775807)(f:-9223372036854775808≤v∧v≤9223372036854775807) :
  Calls prog 27 #[.pointer (some ⟨j,0,none⟩),.int .i64 t,.int .i64 v] w1 fun e w'=>e=.returned (.int .i64 ((zA2 [97] D M t v).err:Int))∧zA8 w w' j d x r (zA2 [97] D M t v).disk (zA2 [97] D M t v).jou D2 M2 G S∧Same (fun k=>G k∨S k) w1 w' :=
 pk_p (Q:=fun e=>e=.returned (.int .i64 ((zA2 [97] D M t v).err:Int))) h fun _ b=>jsetTerm_calls b t v c f
theorem pk_rterm (h:zA8 w w1 j d x r D M D2 M2 G S)(t v:Int)(c:-9223372036854775808≤t∧t≤9223372036854775807)(f:-9223372036854775808≤v∧v≤9223372036854775807) :
  Calls prog 45 #[.pointer (some ⟨x,0,none⟩),.int .i64 t,.int .i64 v] w1 fun e w'=>e=.returned (.int .i64 ((zA2 [97] D2 M2 t v).err:Int))∧zA8 w w' j d x r D M (zA2 [97] D2 M2 t v).disk (zA2 [97] D2 M2 t v).jou G S∧Same (fun k=>G k∨S k) w1 w' :=
 pk_r (Q:=fun e=>e=.returned (.int .i64 ((zA2 [97] D2 M2 t v).err:Int))) h fun _ _ b _ _=>(rjterm_calls b t v c f).mono fun _ _ h=>⟨h.1,h.step⟩
theorem pk_cut (h:zA8 w w1 j d x r D M D2 M2 G S)(i:Int)(c:-9223372036854775808≤i∧i≤9223372036854775807) :
  Calls prog 23 #[.pointer (some ⟨j,0,none⟩),.int .i64 i] w1 fun e w'=>e=.returned (.int .i64 ((zBW [97] D M i).err:Int))∧zA8 w w' j d x r (zBW [97] D M i).disk (zBW [97] D M i).jou D2 M2 G S∧Same (fun k=>G k∨S k) w1 w' :=
 pk_p (Q:=fun e=>e=.returned (.int .i64 ((zBW [97] D M i).err:Int))) h fun _ b=>jcut_calls b i c
theorem pk_rcut (h:zA8 w w1 j d x r D M D2 M2 G S)(i:Int)(c:-9223372036854775808≤i∧i≤9223372036854775807) :
  Calls prog 46 #[.pointer (some ⟨x,0,none⟩),.int .i64 i] w1 fun e w'=>e=.returned (.int .i64 ((zBW [97] D2 M2 i).err:Int))∧zA8 w w' j d x r D M (zBW [97] D2 M2 i).disk (zBW [97] D2 M2 i).jou G S∧Same (fun k=>G k∨S k) w1 w' :=
 pk_r (Q:=fun e=>e=.returned (.int .i64 ((zBW [97] D2 M2 i).err:Int))) h fun _ _ b _ _=>(rjcut_calls b i c).mono fun _ _ h=>⟨h.1,h.step⟩
theorem pk_compact (h:zA8 w w1 j d x r D M D2 M2 G S)(o:M.entries.length≤1000000)(i:Int)(l:-9223372036854775808≤i∧i≤9223372036854775807){p:Option Addr}{n c:Nat}{b:Bs}(hn:b.length=n)(m:n≤140737488355328)(q:zAY w (.slice p n c) b) :
  Calls prog 30 #[.pointer (some ⟨j,0,none⟩),.int .i64 i,.slice p n c] w1 fun e w'=>e=.returned (.int .i64 ((zAW [97] D M i b).err:Int))∧zA8 w w' j d x r (zAW [97] D M i b).disk (zAW [97] D M i b).jou D2 M2 G S∧Same (fun k=>G k∨S k) w1 w' :=
 pk_p (Q:=fun e=>e=.returned (.int .i64 ((zAW [97] D M i b).err:Int))) h fun _ f=>zFd f o i l hn m fun _ g _=>zAY.old q g
theorem pk_rcompact (h:zA8 w w1 j d x r D M D2 M2 G S)(v:M2.entries.length≤1000000)(i:Int)(q:-9223372036854775808≤i∧i≤9223372036854775807){p:Option Addr}{n c:Nat}{b:Bs}(hn:b.length=n)(t:n≤140737488355328)(l:zAY w (.slice p n c) b) :
  Calls prog 47 #[.pointer (some ⟨x,0,none⟩),.int .i64 i,.slice p n c] w1 fun e w'=>e=.returned (.int .i64 ((zAW [97] D2 M2 i b).err:Int))∧zA8 w w' j d x r D M (zAW [97] D2 M2 i b).disk (zAW [97] D2 M2 i b).jou G S∧Same (fun k=>G k∨S k) w1 w' :=
 pk_r (Q:=fun e=>e=.returned (.int .i64 ((zAW [97] D2 M2 i b).err:Int))) h fun _ _ m o _=>(rjcompact_calls m v i q hn t (zAY.old l h.bel) fun f k s g=>by
  have y:=zAY.lt l f s;have z:=o k g;omega).mono fun _ _ h=>⟨h.1,h.step⟩
theorem pk_install (h:zA8 w w1 j d x r D M D2 M2 G S)(a:M.entries.length≤1000000)(i t:Int)(y:-9223372036854775808≤i∧i≤9223372036854775807){p q:Option Addr}{m e n c:Nat}{g:List Int}{b:Bs}(hn:b.length=n)(z:n≤140737488355328)(l:g.length=m)(f:m≤1099511627776)(v:zBg w (.slice q m e) g)(A:zAY w (.slice p n c) b) :
  Calls prog 38 #[.pointer (some ⟨j,0,none⟩),.int .i64 i,.int .i64 t,.slice q m e,.slice p n c] w1 fun e w'=>e=.returned (.int .i64 ((zAa [97] D M i t g b).err:Int))∧zA8 w w' j d x r (zAa [97] D M i t g b).disk (zAa [97] D M i t g b).jou D2 M2 G S∧Same (fun k=>G k∨S k) w1 w' :=
 pk_p (Q:=fun e=>e=.returned (.int .i64 ((zAa [97] D M i t g b).err:Int))) h fun _ o=>jinstall_calls o a i t y hn z l f (zAM.chg v (Chg.of_below o.bel) fun _ _=>id) fun _ s _=>zAY.old A s
theorem pk_rinstall (h:zA8 w w1 j d x r D M D2 M2 G S)(E:M2.entries.length≤1000000)(i t:Int)(C:-9223372036854775808≤i∧i≤9223372036854775807){p q:Option Addr}{m e n c:Nat}{g:List Int}{b:Bs}(hn:b.length=n)(o:g.length≤1099511627776)(v:zBg w (.slice q m e) g)(z:zAY w (.slice p n c) b) :
  Calls prog 48 #[.pointer (some ⟨x,0,none⟩),.int .i64 i,.int .i64 t,.slice q m e,.slice p n c] w1 fun e w'=>e=.returned (.int .i64 ((zAa [97] D2 M2 i t g b).err:Int))∧zA8 w w' j d x r D M (zAa [97] D2 M2 i t g b).disk (zAa [97] D2 M2 i t g b).jou G S∧Same (fun k=>G k∨S k) w1 w' :=
 pk_r (Q:=fun e=>e=.returned (.int .i64 ((zAa [97] D2 M2 i t g b).err:Int))) h fun _ _ B y _=>(rjinstall_calls B E i t C (zAM.chg v (Chg.of_below h.bel) fun _ _=>id) o (fun f k s l=>by
  have a:=hasI_lt v f s;have A:=y k l;omega) hn (zAY.old z h.bel) fun f k s l=>by
  have a:=zAY.lt z f s;have A:=y k l;omega).mono fun _ _ h=>⟨h.1,h.step⟩
theorem pk_fuse (h:zA8 w w1 j d x r D M D2 M2 G S)(n:Int)(b:-9223372036854775808≤n)(hn:n≤9223372036854775807) :
  Calls prog 40 #[.pointer (some ⟨d,0,none⟩),.int .i64 n] w1 fun e w'=>e=.returned (.tuple #[])∧zA8 w w' j d x r (D.setFuse n) M D2 M2 G S∧Same (fun k=>G k∨S k) w1 w' :=
 pk_p (Q:=fun e=>e=.returned (.tuple #[])) h fun _ c=>jou_fuse c n b hn
end
theorem shot_calls {w1:World}{x r:Nat}{pre:ByteArray}{D:zAA}{N:zAH}{Z g:Nat→Prop}(h:RJF w1 x r pre D N Z g) :
  Calls prog 41 #[.pointer (some ⟨x,0,none⟩)] w1 fun e w'=>∃y,e=.returned (.pointer (some ⟨y,0,none⟩))∧zA4 (fun k=>g k∨(w1.heap.size≤k∧k<w'.heap.size)) w' y r pre N∧Below w1.heap.size w1 w':=by
 obtain⟨O,own,gv,dv,ev,vs,v,L,b,-⟩:=h;obtain⟨A,t,rfl⟩:=b.row.shape;obtain⟨pg,cg,rfl⟩:=b.group.slice;obtain⟨pd,cd,rfl⟩:=b.data.slice;obtain⟨i4,aa,Q,R,S⟩:=info_parts (show(prog.info? 50).map (fun i=>(i.zero,i.size,i.bytes))=some (some (.agg #[.int .i64 0,.int .i64 0,.slice none 0 0,.slice none 0 0]),4,64) by kernel_rfl);have C:=b.ok.last;unfold zAH.last at C;have f:=b.cells;have H:=zh (zDz N.entries vs b.one);have T:=zh (((zAC w1 (RJC r (N.number:Int) N.term (.slice pg N.group.length cg) pre N.now N.vote (.slice pd N.data.length cd) (.slice A N.entries.length t) N.dead)).block x (zAB f)).trans f);have U:=zh (zAJ w1 (.cells #[.int .i64 (N.number:Int),.int .i64 N.term,.slice pg N.group.length cg,.pointer (some ⟨r,0,none⟩),.string pre,.int .i64 N.now,.int .i64 N.vote,.slice pd N.data.length cd,.slice A N.entries.length t,.bool N.dead] 84));have HJ:=zh b;have ac:=zh (zAB f);have c0:=zAd f;have c1:=zAn f;have c2:=zAo f;have c3:=zBI f;have c4:=cell4 f;have c5:=cell5 f;have c6:=zAG f (i:=6) rfl;have m:=zAG f (i:=7) rfl;have c8:=zAG f (i:=8) rfl;have c9:=zAG f (i:=9) rfl;clear f b
 go_enter func41,ntmps41
 go_upto_region 2 with(fail)
 have c:=zh (zAC w1 (.cells #[.int .i64 (N.number:Int),.int .i64 N.term,.slice pg N.group.length cg,.pointer (some ⟨r,0,none⟩),.string pre,.int .i64 N.now,.int .i64 N.vote,.slice pd N.data.length cd,.slice A N.entries.length t,.bool N.dead] 84));generalize hn:N.entries.length=n at *;have Hn:=zh hn;generalize q:w1.alloc (.cells #[.int .i64 (N.number:Int),.int .i64 N.term,.slice pg N.group.length cg,.pointer (some ⟨r,0,none⟩),.string pre,.int .i64 N.now,.int .i64 N.vote,.slice pd N.data.length cd,.slice A n t,.bool N.dead] 84)=l at *;have c:=zW (Below w1.heap.size w1 l) (by subst q;exact c.o);have T:=zW (l.heap[x]?=some (.cells #[.int .i64 (N.number:Int),.int .i64 N.term,.slice pg N.group.length cg,.pointer (some ⟨r,0,none⟩),.string pre,.int .i64 N.now,.int .i64 N.vote,.slice pd N.data.length cd,.slice A n t,.bool N.dead] 84 (0,0))) (by subst q;exact T.o);have U:=zW (l.heap[w1.heap.size]?=some (.cells #[.int .i64 (N.number:Int),.int .i64 N.term,.slice pg N.group.length cg,.pointer (some ⟨r,0,none⟩),.string pre,.int .i64 N.now,.int .i64 N.vote,.slice pd N.data.length cd,.slice A n t,.bool N.dead] 84 (0,0))) (by subst q;exact U.o);have I:=zW (w1.heap.size<l.heap.size) (zAB U.o);clear q hn c0 c1 c2 c3 c4 c5 c6 m c8 c9;have K:=zW (zAM (l.alloc (.cells #[] 50)) 4 (.slice A n t) n (zAz N.entries vs)) (by
  have G:=OwnR.holds HJ.o.row;rw[Hn.o]at G;exact zAM.chg G (Chg.of_below (c.o.trans ((zAC l (.cells #[] 50)).mono c.o.size))) fun _ _=>id)
 have Y:=zh (zBC l 50 4);have P:=((zAC l (.cells #[] 50)).block x (zAB T.o)).trans T.o;have c8:=zAG P (i:=8) rfl;clear P;generalize hy:w1.heap.size=y at *;go_wp2_with (at_builtin;refine zAP _ rfl (.tmp 7) (.tmp 11) 78 rfl 50 i4 (.agg #[.int .i64 0,.int .i64 0,.slice none 0 0,.slice none 0 0]) 4 64 underlying78 aa Q R S rfl (by decide) (.slice (some ⟨l.heap.size,0,none⟩) 0 0) 0 [] rfl Y.o (.slice A n t) n _ rfl K.o H.o (by unfold maxLen;omega) (by omega) ?_;intro v7 F a j z;go_loud (have B:=zh (zF4 a j z);clear a j z c8;obtain⟨E,m,rfl⟩:=OwnR.shape B.o.1;have s:=(B.o.2.2.block y (by have:=I.o;omega)).trans U.o;have k8:=zAG s (i:=8) rfl;have f8:=zAE s 8;have X:=zh s;clear s))
 go_ret;subst hy;have J:=B.o.2.2;have ab:=J.size;have ad:=I.o;have V:=B.o.2.1;have p:Below w1.heap.size w1 (F.setCell ⟨w1.heap.size,8,none⟩ (.slice E n m)):=(c.o.trans (J.mono c.o.size)).trans ((Chg.setCell F ⟨w1.heap.size,8,none⟩ _).below (Nat.le_trans c.o.size ab) fun k d e=>by
  have e:k=w1.heap.size:=e;omega)
 refine⟨w1.heap.size,rfl,⟨fun k=>k=w1.heap.size∨(Value.slice E n m).ownBlock=some k,g,.slice pg N.group.length cg,.slice pd N.data.length cd,.slice E n m,vs,?_,fun k d=>?_⟩,p⟩
 ·have M:∀k,(Value.slice E n m).ownBlock=some k→k<F.heap.size:=fun k d=>OwnR.lt B.o.1 d;have W:(F.setCell ⟨w1.heap.size,8,none⟩ (.slice E n m)).heap.size=F.heap.size:=by simp[World.setCell]
  have b:=HJ.o;exact {
   cells:=by
    have:=zAD X.o 8 (.slice E n m);simpa using this
   group:=zAM.chg b.group (Chg.of_below p) fun _ _=>id
   data:=zAY.below b.data p
   row:=by
    rw[Hn.o];exact B.o.1.keep fun k d=>set_other _ fun e=>by
     have G:=V k d;have e:k=w1.heap.size:=e;omega
   rlen:=b.rlen
   rows:=fun i e v he hv=>(b.rows i e v he hv).below p
   oj:=.inl rfl
   oe:=fun k d=>⟨.inr d,fun e=>by have:=V k d;omega⟩
   cg:=b.cg
   cd:=b.cd
   cv:=b.cv
   dis:=fun k d=>by
    have G:=b.clt k d;rintro(e|e)
    ·omega
    ·have:=V k e;omega
   olt:=fun k d=>by
    rw[W];rcases d with e|e
    ·omega
    ·exact M k e
   clt:=fun k d=>by
    rw[W];have G:=b.clt k d;omega
   psz:=b.psz
   ok:=b.ok}
 ·have W:(F.setCell ⟨w1.heap.size,8,none⟩ (.slice E n m)).heap.size=F.heap.size:=by simp[World.setCell]
  rw[W];rcases d with(e|e)|e
  ·exact .inr ⟨by omega,by omega⟩
  ·have G:=V k e;have h2:=OwnR.lt B.o.1 e;exact .inr ⟨by omega,h2⟩
  ·exact .inl e
def ptrV (y:Nat):Value:=.pointer (some ⟨y,0,none⟩)
def zDp (w:World)(r:Nat)(S:Nat→Prop)(v:Value)(Ns:List zAH):Prop :=
 ∃ys:List Nat,ys.length=Ns.length∧OwnR w 35 1 v Ns.length (ys.map ptrV)∧∀(i:Nat) y N,ys[i]?=some y→Ns[i]?=some N→zA4 S w y r sA N
section
variable {w w2 w3:World} {r:Nat} {S S':Nat→Prop} {v v2 v3:Value} {Ns Ms:List zAH}
theorem zA4.same {y:Nat}{pre:ByteArray}{N:zAH}(h:zA4 S w y r pre N)(c:∀k,S k→w2.heap[k]?=w.heap[k]?∧k<w2.heap.size):zA4 S w2 y r pre N:=by
 obtain⟨O,C,f,dv,d,vs,g,hn⟩:=h;exact⟨O,C,f,dv,d,vs,g.keep (fun k b=>(c k (hn k b)).1) (fun k b=>(c k (hn k b)).2),hn⟩
theorem zDp.keep (h:zDp w r S v Ns)(c:∀k,S k∨v.ownBlock=some k→w2.heap[k]?=w.heap[k]?)(l:∀k,S k→k<w2.heap.size):zDp w2 r S v Ns:=by
 obtain⟨n,d,f,g⟩:=h;exact⟨n,d,f.keep fun k b=>c k (.inr b),fun i y N m j=>(g i y N m j).same fun k b=>⟨c k (.inl b),l k b⟩⟩
theorem zDp.wide (h:zDp w r S v Ns)(hS:∀k,S k→S' k):zDp w r S' v Ns:=by
 obtain⟨j,b,c,d⟩:=h;exact⟨j,b,c,fun i y N g f=>(d i y N g f).wide hS⟩
theorem zDp.lt (h:zDp w r S v Ns){k:Nat}(c:v.ownBlock=some k):k<w.heap.size:=by
 obtain⟨g,d,b,f⟩:=h;exact OwnR.lt b c
theorem shots_nil (w:World)(r:Nat)(S:Nat→Prop):zDp (w.alloc (.cells #[] 35)) r S (.slice (some ⟨w.heap.size,0,none⟩) 0 0) [] :=
 ⟨[],rfl,zBC w _ 1,fun i y N b=>by simp at b⟩
theorem own_oneP (w:World)(x:Value)(e:TypeId):OwnR (w.alloc (.cells #[x] e)) e 1 (.slice (some ⟨w.heap.size,0,none⟩) 1 1) 1 [x] :=
 ⟨by simp,.inr ⟨_,1,#[x],rfl,zAJ w _,Nat.le_refl _,by decide,by simp,by simp⟩⟩
theorem shots_one {y:Nat}{N:zAH}(h:zA4 S w y r sA N):zDp (w.alloc (.cells #[.pointer (some ⟨y,0,none⟩)] 35)) r S (.slice (some ⟨w.heap.size,0,none⟩) 1 1) [N] :=
 ⟨[y],rfl,own_oneP w _ _,fun i z K b c=>by
  cases i with
  | zero =>
   cases b;cases c;exact h.below (zAC w _)
  | succ i=>simp at b⟩
theorem shots_grown {f zs:List Nat}(d:f.length=Ns.length)(l:∀(i:Nat) y N,f[i]?=some y→Ns[i]?=some N→zA4 S w2 y r sA N)(m:zs.length=Ms.length)(n:∀(i:Nat) y N,zs[i]?=some y→Ms[i]?=some N→zA4 S w2 y r sA N)
  (c:OwnR w3 35 1 v3 (Ns.length+Ms.length) (f.map ptrV++zs.map ptrV)) (p:w2.grownBy w3 v.ownBlock) (hS:∀k,S k→v.ownBlock≠some k∧k<w2.heap.size):zDp w3 r S v3 (Ns++Ms):=by
 have o:=Chg.of_grown p;have s:=o.size;have b:∀y N,zA4 S w2 y r sA N→zA4 S w3 y r sA N:=fun y N h=>h.same fun k b=>⟨o.block k (hS k b).2 fun e=>(hS k b).1 e.symm,by have:=(hS k b).2;omega⟩;refine⟨f++zs,by simp[d,m],by rw[List.length_append,List.map_append];exact c,fun i y N j g=>?_⟩
 by_cases q:i<f.length
 ·rw[List.getElem?_append_left q]at j;rw[List.getElem?_append_left (by omega)]at g;exact b y N (l i y N j g)
 ·rw[List.getElem?_append_right (by omega)]at j;rw[List.getElem?_append_right (by omega),←d]at g;exact b y N (n _ y N j g)
theorem pk_shot {w w1:World}{j d x r:Nat}{D D2:zAA}{M M2:zAH}{G S:Nat→Prop}(h:zA8 w w1 j d x r D M D2 M2 G S)(E:∀k,S k→¬G k) :
  Calls prog 41 #[.pointer (some ⟨x,0,none⟩)] w1 fun e w'=>∃y S',e=.returned (.pointer (some ⟨y,0,none⟩))∧zA8 w w' j d x r D M D2 M2 G S'∧(∀k,S k→S' k)∧zA4 S' w' y r sA M2∧Below w1.heap.size w1 w'∧∀k,S' k→¬G k:=by
 have p:=fun k g=>h.lt (k:=k) g;obtain⟨F,c,b,z,f,g,l,hS⟩:=h;refine(shot_calls f).mono ?_;rintro e w' ⟨y,rfl,hn,i⟩;have H:=i.size;have I:=z.bel.size;obtain⟨O,own,B,dv,A,vs,v,L,t,m,C,q,s⟩:=f;have n:∀k,b k→¬c k:=fun k a e=>by
  rcases(s k).1 e with e|e
  ·exact t.dis k a e
  ·exact q k a e
 have f:RJF w1 x r sA D2 M2 c b:=⟨O,own,B,dv,A,vs,v,L,t,m,C,q,s⟩;refine⟨y,fun k=>S k∨b k∨(w1.heap.size≤k∧k<w'.heap.size),rfl,⟨fun k=>F k∨(w1.heap.size≤k∧k<w'.heap.size),c,b,z.more i fun k h=>h,f.below i,fun k h=>⟨.inl (g k h).1,(g k h).2⟩,fun k h=>⟨.inl (l k h).1,(l k h).2⟩,fun k h=>?_⟩,fun k h=>.inl h,hn.wide fun k h=>.inr h,i,fun k h o=>?_⟩
 ·rcases h with h|h|h
  ·exact⟨.inl (hS k h).1,(hS k h).2⟩
  ·exact⟨.inl (g k (.inr h)).1,n k h⟩
  ·exact⟨.inr h,fun e=>by have:=f.hlt e;omega⟩
 ·rcases h with h|h|h
  ·exact E k h o
  ·exact(l k o).2.2 h
  ·have:=p k (.inl o);omega
end
theorem pk_two {W w2 w3:World}{n d r o h v room:Nat}(D:Opened2 W n d r room w2)(E:Opened2 w2 o h v room w3)(G:w2.heap.size≤o) :
  ∃j y t x,zA8 W w3 j d x v (zCW room [97] zDu) (zAH.none0 zDu) (zCW room [97] zDu) (zAH.none0 zDu) (fun k=>k=n∨k=o) (fun _=>False) ∧
   w3.heap[n]?=some (zCE d r (.pointer (some ⟨j,0,none⟩)) (.pointer (some ⟨y,0,none⟩)) false)∧w3.heap[o]?=some (zCE h v (.pointer (some ⟨t,0,none⟩)) (.pointer (some ⟨x,0,none⟩)) false):=by
 obtain⟨j,y,C,z,A,B,-,-⟩:=D;obtain⟨t,x,f,c,p,m,g,i⟩:=E;have q:=p.bel;have H:=q.size;have I:=A.bel.size;have s:=zAB B;have F:=zAB m;refine⟨j,y,t,x,⟨fun k=>(k=n∨k=o)∨f k∨c k,f,c,A.more q fun k b=>?_,g,fun k b=>⟨.inr b,by have:=(i k b).1;omega⟩,fun k b=>⟨.inl b,?_⟩,fun k b=>b.elim⟩,(q.block n s).trans B,m⟩
 ·rcases b with(b|b)|b
  ·exact .inl (.inl b)
  ·exact .inr ⟨by omega,by omega⟩
  ·exact .inr ⟨(i k b).1,b.elim g.hlt g.clt⟩
 ·have l:¬(f k∨c k):=fun e=>by
   have a:=i k e;rcases b with b|b
   ·omega
   ·exact a.2 b
  exact⟨fun e=>l (.inl e),fun e=>l (.inr e)⟩
def zBL (N:Bs→Prop)(K R:Nat)(D:zAA):Prop:=D.room=R∧∀q∈D.files,N q.1→q.2.data.length≤K
section
variable {N:Bs→Prop} {K R:Nat} {D:zAA}
theorem zBL.get (h:zBL N K R D){n:Bs}{f:zAS}(b:Sat.get n D.files=some f)(hn:N n):f.data.length≤K:=h.2 _ (zBv b) hn
theorem zBL.put (h:zBL N K R D){n:Bs}{f:zAS}(b:N n→f.data.length≤K):∀q∈Sat.put n f D.files,N q.1→q.2.data.length≤K:=fun q c hn=>by
 rcases zBl.1 c with e|⟨e,-⟩
 ·subst e;exact b hn
 ·exact h.2 q e hn
theorem zBL.append (h:zBL N K R D){n b:Bs}(hn:N n→(D.cur n).data.length+b.length≤K):zBL N K R (D.append n b).1:=by
 unfold zAA.append
 split
 ·exact h
 ·split
  ·exact h
  ·exact⟨h.1,h.put fun e=>by
    have:=hn e;simp only[List.length_append];exact this⟩
theorem small_each {g:Bs→zAS→List (Bs×zAS)→List (Bs×zAS)}(c:∀(D:zAA) n f,zBL N K R D→Sat.get n D.files=some f→∀q∈g n f D.files,N q.1→q.2.data.length≤K):∀(l:List Bs) (D:zAA),zBL N K R D→zBL N K R (zAA.each g D l).1
 | [],_,h=>h
 | n::r,D,h=>by
  have b:zBL N K R (zAA.each1 g D n).1:=by
   unfold zAA.each1
   split
   ·exact h
   ·split
    ·exact h
    ·next f hf=>exact⟨h.1,c D n f h hf⟩
  unfold zAA.each
  split
  ·exact small_each c r _ b
  ·exact b
theorem zBL.sync (h:zBL N K R D)(l:List Bs):zBL N K R (D.sync l).1 :=
 small_each (fun D n f h b=>h.put (f:=⟨f.data,f.data.length⟩) fun e=>(h.get b e:f.data.length≤K)) l D h
theorem zBL.remove (h:zBL N K R D)(l:List Bs):zBL N K R (D.remove l).1 :=
 small_each (fun D n f h _ q b=>h.2 q (zBT.1 b).1) l D h
theorem zBL.truncate (h:zBL N K R D)(n:Bs)(k:Int):zBL N K R (D.truncate n k).1:=by
 unfold zAA.truncate
 split
 ·exact h
 ·split
  ·exact h
  ·next f hf =>
   split
   ·exact h
   ·exact⟨h.1,h.put fun e=>by
     have b:=h.get hf e;simp only[List.length_take];omega⟩
theorem zBL.rename (h:zBL N K R D){o n:Bs}(hn:N n→N o):zBL N K R (D.rename o n).1:=by
 unfold zAA.rename
 split
 ·exact h
 ·split
  ·exact h
  ·next f hf =>
   have b:zBL N K R {D with files:=del o D.files}:=⟨h.1,fun q c=>h.2 q (zBT.1 c).1⟩;exact⟨h.1,b.put fun e=>h.get hf (hn e)⟩
theorem zBL.crash (h:zBL N K R D)(k:Int):zBL N K R (D.crash k):=⟨h.1,fun q b hn=>by
 unfold zAA.crash mp at b;obtain⟨y,c,rfl⟩:=List.mem_map.1 b;have d:=h.2 y c hn;simp only[zAA.crashF,List.length_take];omega⟩
theorem zBL.setFuse (h:zBL N K R D)(k:Int):zBL N K R (D.setFuse k):=h
theorem zBL.rid1 (h:zBL N K R D)(n:Bs):zBL N K R (D.rid1 n).1:=by
 unfold zAA.rid1
 split
 ·exact h.remove _
 ·exact h
theorem zBL.rid (h:zBL N K R D):∀l:List Bs,zBL N K R (D.rid l).1:=fun l=>by
 induction l generalizing D with
 | nil=>exact h
 | cons n r ih =>
  unfold zAA.rid
  split
  ·exact ih (h.rid1 n)
  ·exact h.rid1 n
theorem zBL.tornOff (h:zBL N K R D)(n:Bs)(k b:Nat):zBL N K R (tornOff D n k b).1:=by
 unfold Go.Proofs.YtapfnehdgailmaaGreat.tornOff
 split
 ·split
  ·exact h.truncate _ _
  ·exact(h.truncate _ _).sync _
 ·exact h
theorem zBL.layOn (h:zBL N K R D){n:Bs}(hn:¬N n)(b:Bs):zBL N K R (layOn D n b).1:=by
 unfold Go.Proofs.YtapfnehdgailmaaGreat.layOn;have c:=h.append (n:=n) (b:=b) fun e=>absurd e hn
 split
 ·exact c
 ·exact c.sync _
theorem save0_none {n:Bs}(h:(D.save0 n).2=0):Sat.get (zAF n) (D.save0 n).1.files=none:=by
 unfold zAA.save0 at h ⊢
 split
 ·next c =>
  rw[if_pos c]at h;unfold zAA.remove zAA.each at h ⊢;have b:(zAA.each1 zAA.gRemove D (zAF n)).2=0:=by
   split at h
   ·next e=>exact e
   ·exact h
  rw[if_pos b];unfold zAA.each;unfold zAA.each1 at b ⊢
  split
  ·next e =>
   rw[if_pos e]at b;exact absurd b e
  ·next e =>
   rw[if_neg e]at b
   split
   ·next e2 =>
    rw[e2]at c;cases c
   ·next f hf=>exact zCX _ _
 ·next c=>simpa using c
theorem zBL.save1 (h:zBL N K R D){n b:Bs}(hn:N n→N (zAF n))(f:N (zAF n)→b.length≤K):zBL N K R (D.save1 n b).1:=by
 unfold zAA.save1;have d:zBL N K R (D.save0 n).1:=by
  unfold zAA.save0
  split
  ·exact h.remove _
  ·exact h
 dsimp only
 split
 ·exact d
 ·next e =>
  have g:(D.save0 n).2=0:=by simpa using e
  have c:zBL N K R ((D.save0 n).1.append (zAF n) b).1:=d.append fun e=>by
   have:=f e;unfold zAA.cur;rw[save0_none g];simpa using this
  split
  ·exact c
  ·split
   ·exact c.sync _
   ·exact(c.sync _).rename hn
theorem zBL.save (h:zBL N K R D){n l:Bs}(hn:N n→N (zAF n))(b:N (zAF n)→(zAK l).length≤K):zBL N K R (D.save n l).1:=by
 unfold zAA.save
 split
 ·exact h
 ·exact h.save1 hn b
end
structure Ch (n:Bs)(x:Nat)(D D':zAA):Prop where
 srt:Srt D'.files
 oth:∀m,m≠n→Sat.get m D'.files=Sat.get m D.files
 room:D'.room=D.room
 used:D'.used≤D.used+x
 cnt:D'.files.length≤D.files.length+1
 fuse:D.fuse=none→D'.fuse=none
section
variable {D:zAA} {n b:Bs}
theorem Ch.refl (h:Srt D.files)(x:Nat):Ch n x D D:=⟨h,fun _ _=>rfl,rfl,Nat.le_add_right _ _,Nat.le_succ _,id⟩
theorem zEV (h:Srt D.files)(f:zAS):zBM zAA.size (put n f D.files)+zAA.size (D.cur n)=D.used+zAA.size f:=by
 rw[sum_put];unfold zAA.used zAA.cur;cases b:Sat.get n D.files with
 | none =>
  rw[zC1 b]
  show zAA.size f+_+zAA.size (⟨[],0⟩:zAS)=_
  have:zAA.size (⟨[],0⟩:zAS)=0:=rfl;omega
 | some o =>
  rw[zC0 (f:=zAA.size) h b]
  show zAA.size f+_+zAA.size o=_
  omega
theorem zFP (f:zAS):(put n f D.files).length≤D.files.length+1:=by
 rw[zFm];exact Nat.succ_le_succ (zD6 _ _)
theorem zC3 (L:List (Bs×zAS))(h:D.fuse=none):(zAA.done {D with files:=L}).fuse=none:=by
 show D.fuse.map _=none
 rw[h];rfl
theorem jc_may (hn:okN n=true):(D.fuse=some 0∧D.may [n]=9)∨(D.fuse≠some 0∧D.may [n]=0):=by
 unfold zAA.may
 by_cases h:D.fuse=some 0
 ·exact .inl ⟨h,if_pos h⟩
 ·refine .inr ⟨h,?_⟩;rw[if_neg h];simp[hn]
theorem jc_append (h:Srt D.files)(hn:okN n=true):∃D' e,D.append n b=(D',e)∧Ch n b.length D D' ∧
  ((D'=D∧e≠0∧(e=9∧D.fuse=some 0∨D.room<D.used+b.length∨4096≤D.files.length))∨(e=0∧Sat.get n D'.files=some ⟨(D.cur n).data++b,(D.cur n).lasts⟩)):=by
 unfold zAA.append;rcases jc_may (D:=D) hn with⟨f,d⟩|⟨f,d⟩
 ·rw[d,if_pos (by decide)];exact⟨_,_,rfl,.refl h _,.inl ⟨rfl,by decide,.inl ⟨rfl,f⟩⟩⟩
 ·rw[d,if_neg (by decide)]
  by_cases c:D.full n b=true
  ·rw[if_pos c];refine⟨_,_,rfl,.refl h _,.inl ⟨rfl,by decide,.inr ?_⟩⟩;unfold zAA.full at c;simp only[Bool.or_eq_true,Bool.and_eq_true,decide_eq_true_eq]at c;exact c.elim .inl fun e=>.inr e.2
  ·rw[if_neg c];have g:=zEV (n:=n) h ⟨(D.cur n).data++b,(D.cur n).lasts⟩;have i:zAA.size (⟨(D.cur n).data++b,(D.cur n).lasts⟩:zAS)=zAA.size (D.cur n)+b.length:=List.length_append;refine⟨_,_,rfl,⟨zBr h,fun m d=>zBP h _ d,rfl,?_,zFP _,zC3 _⟩,.inr ⟨rfl,zBQ h _ _⟩⟩
   show zBM zAA.size (put n _ D.files)≤_
   omega
theorem jc_one (g:Bs→zAS→List (Bs×zAS)→List (Bs×zAS))(D:zAA)(n:Bs):zAA.each g D [n]=zAA.each1 g D n:=by
 unfold zAA.each
 split
 ·next e =>
  unfold zAA.each;exact Prod.ext rfl e.symm
 ·rfl
theorem jc_sync (h:Srt D.files)(hn:okN n=true):∃D' e,D.sync [n]=(D',e)∧Ch n 0 D D' ∧
  ((D'=D∧e≠0∧(e=9∧D.fuse=some 0∨Sat.get n D.files=none))∨(e=0∧∃f,Sat.get n D.files=some f∧Sat.get n D'.files=some ⟨f.data,f.data.length⟩)):=by
 unfold zAA.sync;rw[jc_one];unfold zAA.each1;rcases jc_may (D:=D) hn with⟨c,b⟩|⟨c,b⟩
 ·rw[b,if_pos (by decide)];exact⟨_,_,rfl,.refl h _,.inl ⟨rfl,by decide,.inl ⟨rfl,c⟩⟩⟩
 ·rw[b,if_neg (by decide)];cases d:Sat.get n D.files with
  | none=>exact⟨_,_,rfl,.refl h _,.inl ⟨rfl,by decide,.inr rfl⟩⟩
  | some f =>
   have i:=zEV (n:=n) h ⟨f.data,f.data.length⟩;have g:zAA.size (D.cur n)=f.data.length:=by unfold zAA.cur;rw[d];rfl
   have j:zAA.size (⟨f.data,f.data.length⟩:zAS)=f.data.length:=rfl;refine⟨_,_,rfl,⟨zBr h,fun m b=>zBP h _ b,rfl,?_,zFP _,zC3 _⟩,.inr ⟨rfl,f,rfl,zBQ h _ _⟩⟩
   show zBM zAA.size (put n _ D.files)≤_
   omega
theorem jc_used_del (h:Srt D.files):zBM zAA.size (del n D.files)≤D.used:=by
 unfold zAA.used;cases b:Sat.get n D.files with
 | none=>rw[zC1 b];exact Nat.le_refl _
 | some o=>rw[zC0 (f:=zAA.size) h b];omega
theorem jc_remove (h:Srt D.files)(hn:okN n=true):∃D' e,D.remove [n]=(D',e)∧Ch n 0 D D' ∧
  ((D'=D∧e≠0∧(e=9∧D.fuse=some 0∨Sat.get n D.files=none))∨(e=0∧Sat.get n D'.files=none)):=by
 unfold zAA.remove;rw[jc_one];unfold zAA.each1;rcases jc_may (D:=D) hn with⟨c,b⟩|⟨c,b⟩
 ·rw[b,if_pos (by decide)];exact⟨_,_,rfl,.refl h _,.inl ⟨rfl,by decide,.inl ⟨rfl,c⟩⟩⟩
 ·rw[b,if_neg (by decide)];cases d:Sat.get n D.files with
  | none=>exact⟨_,_,rfl,.refl h _,.inl ⟨rfl,by decide,.inr rfl⟩⟩
  | some f =>
   exact⟨_,_,rfl,⟨zCU h,fun m b=>zCg h b,rfl,jc_used_del h,Nat.le_trans (zD6 _ _) (Nat.le_succ _),zC3 _⟩,.inr ⟨rfl,zCX _ _⟩⟩
theorem jc_rid1 (h:Srt D.files)(hn:okN n=true):∃D' e,D.rid1 n=(D',e)∧Ch n 0 D D'∧((D'=D∧e=9∧D.fuse=some 0)∨(e=0∧Sat.get n D'.files=none)):=by
 unfold zAA.rid1;cases g:Sat.get n D.files with
 | none=>exact⟨_,_,rfl,.refl h _,.inr ⟨rfl,g⟩⟩
 | some f =>
  obtain⟨D',e,i,j,d⟩:=jc_remove h hn;refine⟨D',e,i,j,?_⟩;rcases d with⟨a,b,c|c⟩|d
  ·exact .inl ⟨a,c⟩
  ·rw[g]at c;cases c
  ·exact .inr d
theorem jc_trunc (h:Srt D.files)(hn:okN n=true){f:zAS}(d:Sat.get n D.files=some f){k:Nat}(i:k≤f.data.length):∃D' e,D.truncate n (k:Int)=(D',e)∧Ch n 0 D D' ∧
  ((D'=D∧e=9∧D.fuse=some 0)∨(e=0∧Sat.get n D'.files=some ⟨f.data.take k,min f.lasts k⟩)):=by
 unfold zAA.truncate;rcases jc_may (D:=D) hn with⟨c,b⟩|⟨c,b⟩
 ·rw[b,if_pos (by decide)];exact⟨_,_,rfl,.refl h _,.inl ⟨rfl,rfl,c⟩⟩
 ·rw[b,if_neg (by decide),d];dsimp only;rw[if_neg (by omega),Int.toNat_natCast];have j:=zEV (n:=n) h ⟨f.data.take k,min f.lasts k⟩;have g:zAA.size (D.cur n)=f.data.length:=by unfold zAA.cur;rw[d];rfl
  have l:zAA.size (⟨f.data.take k,min f.lasts k⟩:zAS)=min k f.data.length:=List.length_take;refine⟨_,_,rfl,⟨zBr h,fun m b=>zBP h _ b,rfl,?_,zFP _,zC3 _⟩,.inr ⟨rfl,zBQ h _ _⟩⟩
  show zBM zAA.size (put n _ D.files)≤_
  omega
theorem jc_rename (h:Srt D.files){o:Bs}(l:okN o=true)(hn:okN n=true)(i:o≠n){f:zAS}(k:Sat.get o D.files=some f):∃D' e,D.rename o n=(D',e)∧Srt D'.files∧(∀m,m≠n→m≠o→Sat.get m D'.files=Sat.get m D.files)∧D'.room=D.room∧D'.used≤D.used∧D'.files.length≤D.files.length+1∧(D.fuse=none→D'.fuse=none) ∧
  ((D'=D∧e=9∧D.fuse=some 0)∨(e=0∧Sat.get n D'.files=some f∧Sat.get o D'.files=none)):=by
 unfold zAA.rename;have c:(D.fuse=some 0∧D.may [o,n]=9)∨(D.fuse≠some 0∧D.may [o,n]=0):=by
  unfold zAA.may
  by_cases h:D.fuse=some 0
  ·exact .inl ⟨h,if_pos h⟩
  ·refine .inr ⟨h,?_⟩;rw[if_neg h];simp[hn,l]
 rcases c with⟨j,c⟩|⟨j,c⟩
 ·rw[c,if_pos (by decide)];exact⟨_,_,rfl,h,fun _ _ _=>rfl,rfl,Nat.le_refl _,Nat.le_succ _,id,.inl ⟨rfl,rfl,j⟩⟩
 ·rw[c,if_neg (by decide),k];have b:Srt (del o D.files):=zCU h;refine⟨_,_,rfl,zBr b,fun m d g=>(zBP b _ d).trans (zCg h g),rfl,?_,?_,zC3 _,.inr ⟨rfl,zBQ b _ _,(zBP b _ i).trans (zCX _ _)⟩⟩
  ·show zBM zAA.size (put n f (del o D.files))≤D.used
   have d:=zEV (D:={D with files:=del o D.files}) (n:=n) b f;have g:D.used=zAA.size f+zBM zAA.size (del o D.files):=zC0 (f:=zAA.size) h k;have p:(⟨D.room,del o D.files,D.fuse⟩:zAA).used=zBM zAA.size (del o D.files):=rfl;dsimp only at d;omega
  ·show(put n f (del o D.files)).length≤_
   have:=zFP (D:={D with files:=del o D.files}) (n:=n) f;have g:=zD6 o D.files;dsimp only at this;omega
end
structure Ch2 (n o:Bs)(x c:Nat)(D D':zAA):Prop where
 srt:Srt D'.files
 oth:∀m,m≠n→m≠o→Sat.get m D'.files=Sat.get m D.files
 room:D'.room=D.room
 used:D'.used≤D.used+x
 cnt:D'.files.length≤D.files.length+c
 fuse:D.fuse=none→D'.fuse=none
section
variable {D:zAA} {n b:Bs}
theorem Ch.two {x:Nat}{D':zAA}(h:Ch n x D D')(o:Bs):Ch2 n o x 1 D D':=⟨h.srt,fun m b _=>h.oth m b,h.room,h.used,h.cnt,h.fuse⟩
theorem Ch.two' {x:Nat}{D':zAA}(h:Ch n x D D')(o:Bs):Ch2 o n x 1 D D':=⟨h.srt,fun m _ b=>h.oth m b,h.room,h.used,h.cnt,h.fuse⟩
theorem Ch2.trans {o:Bs}{x y c d:Nat}{b D2:zAA}(h:Ch2 n o x c D b)(k:Ch2 n o y d b D2):Ch2 n o (x+y) (c+d) D D2 :=
 ⟨k.srt,fun m f g=>(k.oth m f g).trans (h.oth m f g),k.room.trans h.room,by have:=h.used;have:=k.used;omega,by have:=h.cnt;have:=k.cnt;omega,fun e=>k.fuse (h.fuse e)⟩
theorem Ch2.more {o:Bs}{x y c d:Nat}{b:zAA}(h:Ch2 n o x c D b)(g:x≤y)(f:c≤d):Ch2 n o y d D b :=
 ⟨h.srt,h.oth,h.room,by have:=h.used;omega,by have:=h.cnt;omega,h.fuse⟩
theorem jc_save0 (h:Srt D.files)(b:okN (zAF n)=true):∃D' e,D.save0 n=(D',e)∧Ch (zAF n) 0 D D'∧((D'=D∧e=9∧D.fuse=some 0)∨(e=0∧Sat.get (zAF n) D'.files=none)):=jc_rid1 h b
theorem sh_ne_n (n:Bs):zAF n≠n:=fun e=>by
 have:=congrArg List.length e;unfold zAF at this;simp at this
theorem jc_save1 (h:Srt D.files)(hn:okN n=true)(q:okN (zAF n)=true):∃D' e,D.save1 n b=(D',e)∧Ch2 n (zAF n) b.length 4 D D' ∧
  ((e≠0∧(D.room<D.used+b.length∨4096≤D.files.length+1∨e=9∧D.fuse≠none)∧Sat.get n D'.files=Sat.get n D.files)∨(e=0∧Sat.get n D'.files=some (wh b)∧Sat.get (zAF n) D'.files=none)):=by
 have d:=sh_ne_n n;unfold zAA.save1;obtain⟨z,S,H,g,J⟩:=jc_save0 h q;rw[H];dsimp only;rcases J with⟨rfl,rfl,i⟩|⟨rfl,B⟩
 ·rw[if_pos (by decide)];exact⟨_,_,rfl,((Ch.refl h 0).two' n).more (Nat.zero_le _) (by omega),.inl ⟨by decide,.inr (.inr ⟨rfl,by rw[i];simp⟩),rfl⟩⟩
 ·rw[if_neg (by decide)];obtain⟨R,T,q1,k,L⟩:=jc_append (b:=b) g.srt q;rw[q1];dsimp only;have y:=(g.two' n).trans (k.two' n);rcases L with⟨rfl,m,c⟩|⟨rfl,s⟩
  ·rw[if_pos m];refine⟨_,_,rfl,y.more (by omega) (by omega),.inl ⟨m,?_,g.oth n d.symm⟩⟩;have:=g.used;have:=g.cnt;rcases c with⟨c,i⟩|c|c
   ·exact .inr (.inr ⟨c,fun e=>by rw[g.fuse e]at i;cases i⟩)
   ·rw[g.room]at c;exact .inl (by omega)
   ·exact .inr (.inl (by omega))
  ·rw[if_neg (by decide)];have l:z.cur (zAF n)=⟨[],0⟩:=by unfold zAA.cur;rw[B];rfl
   rw[l]at s;obtain⟨D2,U,q2,p,M⟩:=jc_sync k.srt q;rw[q2];dsimp only;have t2:=y.trans (p.two' n);have j:Sat.get n D2.files=Sat.get n D.files:=(p.oth n d.symm).trans ((k.oth n d.symm).trans (g.oth n d.symm));rcases M with⟨rfl,o,c⟩|⟨rfl,f,v,g2⟩
   ·rw[if_pos o];refine⟨_,_,rfl,t2.more (by omega) (by omega),.inl ⟨o,?_,j⟩⟩;rcases c with⟨c,i⟩|c
    ·exact .inr (.inr ⟨c,fun e=>by rw[k.fuse (g.fuse e)]at i;cases i⟩)
    ·rw[s]at c;cases c
   ·rw[if_neg (by decide)];rw[s]at v;have A:f=⟨b,0⟩:=(Option.some.inj v).symm;subst A;obtain⟨a,V,I,O,G,t,Q,F,r,N⟩:=jc_rename (n:=n) p.srt q hn d g2;rw[I];have P:Ch2 n (zAF n) 0 1 D2 a:=⟨O,G,t,Q,F,r⟩;refine⟨_,_,rfl,(t2.trans P).more (by omega) (by omega),?_⟩;rcases N with⟨rfl,rfl,i⟩|⟨rfl,C,E⟩
    ·exact .inl ⟨by decide,.inr (.inr ⟨rfl,fun e=>by rw[p.fuse (k.fuse (g.fuse e))]at i;cases i⟩),j⟩
    ·exact .inr ⟨rfl,C,E⟩
theorem jc_lay (h:Srt D.files)(hn:okN n=true){f:zAS}(y:Sat.get n D.files=some f):∃D' e,layOn D n b=(D',e)∧Ch n b.length D D' ∧
  ((e≠0∧(D.room<D.used+b.length∨4096≤D.files.length∨e=9∧D.fuse≠none)∧(Sat.get n D'.files=some f∨Sat.get n D'.files=some ⟨f.data++b,f.lasts⟩))∨(e=0∧Sat.get n D'.files=some (wh (f.data++b)))):=by
 have k:D.cur n=f:=by unfold zAA.cur;rw[y];rfl
 unfold layOn;obtain⟨p,G,q1,i,a⟩:=jc_append (b:=b) h hn;rw[q1];dsimp only;rw[k]at a;rcases a with⟨rfl,l,d⟩|⟨rfl,q⟩
 ·rw[if_pos l];refine⟨_,_,rfl,i,.inl ⟨l,?_,.inl y⟩⟩;rcases d with⟨d,o⟩|d|d
  ·exact .inr (.inr ⟨d,by rw[o];simp⟩)
  ·exact .inl d
  ·exact .inr (.inl d)
 ·rw[if_neg (by decide)];obtain⟨D2,H,q2,j,A⟩:=jc_sync i.srt hn;rw[q2];have r:D2.files.length≤D.files.length+1:=by
   -- the file is there already: no name is new
   have E:=i.cnt;have I:=j.cnt;rcases A with⟨rfl,-⟩|⟨s,C,g,-⟩
   ·exact E
   ·have J:D2.files.length=p.files.length:=by
     have c:p.sync [n]=(D2,0):=by rw[q2,s]
     unfold zAA.sync at c;rw[jc_one]at c;unfold zAA.each1 at c
     split at c
     ·next e=>exact absurd (congrArg Prod.snd c) e
     ·rw[g]at c;have v:=congrArg (fun x:zAA×Nat=>x.1.files) c;dsimp only at v;rw[←v]
      show(put n _ p.files).length=_
      rw[zFm,←len_del i.srt g]
    omega
  have F:Ch n b.length D D2:=⟨j.srt,fun m z=>(j.oth m z).trans (i.oth m z),j.room.trans i.room,by have:=i.used;have:=j.used;omega,r,fun e=>j.fuse (i.fuse e)⟩;refine⟨_,_,rfl,F,?_⟩;rcases A with⟨rfl,t,d⟩|⟨rfl,C,g,g2⟩
  ·refine .inl ⟨t,?_,.inr q⟩;rcases d with⟨d,o⟩|d
   ·exact .inr (.inr ⟨d,fun e=>by rw[i.fuse e]at o;cases o⟩)
   ·rw[q]at d;cases d
  ·rw[q]at g;have B:=Option.some.inj g;subst B;exact .inr ⟨rfl,g2⟩
theorem jc_torn (h:Srt D.files)(hn:okN n=true){f:zAS}(l:Sat.get n D.files=some f){k:Nat}(r:k≤f.data.length):∃D' e,tornOff D n k f.data.length=(D',e)∧Ch2 n n 0 2 D D' ∧
  (e≠0→D.fuse≠none)∧(Sat.get n D'.files=some f∨Sat.get n D'.files=some (wh (f.data.take k))∨Sat.get n D'.files=some ⟨f.data.take k,min f.lasts k⟩):=by
 unfold tornOff
 by_cases d:k<f.data.length
 ·rw[if_pos d];obtain⟨t,v,q1,g,s⟩:=jc_trunc h hn l r;rw[q1];dsimp only;rcases s with⟨rfl,rfl,c⟩|⟨rfl,i⟩
  ·rw[if_pos (by decide)];exact⟨_,_,rfl,(g.two n).more (Nat.le_refl _) (by omega),fun _ e=>(by rw[e]at c;cases c),.inl l⟩
  ·rw[if_neg (by decide)];obtain⟨D2,y,q2,p,o⟩:=jc_sync g.srt hn;rw[q2];refine⟨_,_,rfl,(g.two n).trans (p.two n),?_,?_⟩
   ·intro j e;rcases o with⟨-,-,⟨-,c⟩|m⟩|⟨rfl,-⟩
    ·rw[g.fuse e]at c;cases c
    ·rw[i]at m;cases m
    ·exact j rfl
   ·rcases o with⟨rfl,-⟩|⟨-,z,b,g2⟩
    ·exact .inr (.inr i)
    ·rw[i]at b;have q:=Option.some.inj b;subst q;exact .inr (.inl g2)
 ·rw[if_neg d];exact⟨_,_,rfl,((Ch.refl h 0).two n).more (Nat.le_refl _) (by omega),fun j=>absurd rfl j,.inl l⟩
end
def Last (o:Option zAS):Prop:=∀f,o=some f→f.lasts=f.data.length
def LogIs (g:List Int)(o:Option zAS)(b:zAH):Prop :=
 ∃f ls t,o=some f∧f.lasts=f.data.length∧f.data=zAL ls++t∧(∀l∈ls,l.length≤1048576)∧(t=[]∨decE t≠0)∧zCC (zAH.none0 g) ls=some b
def SaysF (g:List Int)(r:Nat)(d c:Option zAS)(M:zAH):Prop :=
 ∃so M0 b,zCD c=(0,so)∧Last c∧LogIs g d M0∧zAh so M0 false=some (b,M)∧(b=true→M.OK∧(zAL M.rows).length≤r)
theorem rec1_keeps {f:Bool}{M M':zAH}{p:Bs}(h:zBe f M p=some M'):M'.data=M.data∧M'.dead=M.dead:=by
 unfold zBe at h;cases p with
 | nil=>cases h
 | cons k r =>
  dsimp only at h
  repeat' split at h
  all_goals first
   | (cases h;done)
   | (cases h;exact⟨rfl,rfl⟩)
theorem recGo_keeps:∀(l:List Bs) {M M':zAH},zBU M l=some M'→M'.data=M.data∧M'.dead=M.dead
 | [],_,_,h=>by cases h;exact⟨rfl,rfl⟩
 | p::r,M,M',h=>by
  have h:(zBe false M p).bind (fun M'=>zBU M' r)=some M':=h;cases c:zBe false M p with
  | none=>rw[c]at h;cases h
  | some M1 =>
   rw[c]at h;have a:=rec1_keeps c;have b:=recGo_keeps r h;exact⟨b.1.trans a.1,b.2.trans a.2⟩
theorem recAll_keeps {l:List Bs}{M M':zAH}(h:zCC M l=some M'):M'.data=M.data∧M'.dead=M.dead:=by
 cases l with
 | nil=>cases h
 | cons p r =>
  have h:(zBe true M p).bind (fun M'=>zBU M' r)=some M':=h;cases c:zBe true M p with
  | none=>rw[c]at h;cases h
  | some M1 =>
   rw[c]at h;have a:=rec1_keeps c;have b:=recGo_keeps r h;exact⟨b.1.trans a.1,b.2.trans a.2⟩
theorem joins_again {c:Option zC8}{b M:zAH}(h:zAh c b false=some (true,M))(d:b.dead=false):zAh c {M with data:=[],dead:=false} false=some (false,M):=by
 unfold zAh at h ⊢;cases c with
 | none =>
  dsimp only at h
  split at h
  ·cases h
  ·cases h
 | some s =>
  dsimp only at h ⊢
  split at h
  ·have e:b.rebase s=M:=congrArg Prod.snd (Option.some.inj h);subst e;rw[if_neg (show ¬(b.rebase s).number<s.number from Nat.lt_irrefl _),if_neg (show ¬s.number<(b.rebase s).number from Nat.lt_irrefl _)];unfold zAH.rebase;rw[d]
  ·split at h
   ·cases h
   ·cases h
def crashO (k:Int)(o:Option zAS):Option zAS:=o.map (zAA.crashF k)
theorem zF5 (D:zAA)(k:Int)(n:Bs):Sat.get n (D.crash k).files=crashO k (Sat.get n D.files):=zGL _ _ _
theorem crash_last {f:zAS}(h:f.lasts=f.data.length)(k:Int):zAA.crashF k f=f:=by
 obtain⟨d,l⟩:=f;have h:l=d.length:=h;subst h;exact zFh d k
theorem Last.crash {o:Option zAS}(h:Last o)(k:Int):crashO k o=o:=by
 cases o with
 | none=>rfl
 | some f=>exact congrArg some (crash_last (h f rfl) k)
theorem SaysF.crash {g:List Int}{r:Nat}{i j:Option zAS}{M:zAH}(h:SaysF g r i j M)(k:Int):SaysF g r (crashO k i) (crashO k j) M:=by
 obtain⟨s,l,b,m,c,n,o,p⟩:=h;rw[c.crash k];obtain⟨f,ls,t,rfl,d,q⟩:=n;refine⟨s,l,b,m,c,⟨f,ls,t,?_,d,q⟩,o,p⟩;exact congrArg some (crash_last d k)
section
variable {D:zAA}
theorem n_lo:okN (zAm [97])=true:=by decide
theorem n_sn:okN (zBR [97])=true:=by decide
theorem n_shl:okN (zAF (zAm [97]))=true:=by decide
theorem n_shs:okN (zAF (zBR [97]))=true:=by decide
theorem lo_sn:zAm [97]≠zBR [97]:=by decide
theorem lo_shl:zAm [97]≠zAF (zAm [97]):=by decide
theorem lo_shs:zAm [97]≠zAF (zBR [97]):=by decide
theorem sn_shl:zBR [97]≠zAF (zAm [97]):=by decide
theorem sn_shs:zBR [97]≠zAF (zBR [97]):=by decide
theorem jc_rid (h:Srt D.files):∃D' e,D.rid [zAF (zAm [97]),zAF (zBR [97])]=(D',e)∧Ch2 (zAF (zAm [97])) (zAF (zBR [97])) 0 2 D D'∧(e≠0→D.fuse≠none):=by
 obtain⟨i,j,q1,c,f⟩:=jc_rid1 h n_shl;unfold zAA.rid;rw[q1];dsimp only;rcases f with⟨rfl,rfl,b⟩|⟨rfl,l⟩
 ·rw[if_neg (by decide)];exact⟨_,_,rfl,(c.two _).more (Nat.le_refl _) (by omega),fun _ e=>by rw[e]at b;cases b⟩
 ·rw[if_pos rfl];obtain⟨D2,k,q2,d,g⟩:=jc_rid1 c.srt n_shs;unfold zAA.rid;rw[q2];dsimp only;have t2:=(c.two (zAF (zBR [97]))).trans (d.two' (zAF (zAm [97])));rcases g with⟨rfl,rfl,b⟩|⟨rfl,g2⟩
  ·rw[if_neg (by decide)];exact⟨_,_,rfl,t2,fun _ e=>by rw[c.fuse e]at b;cases b⟩
  ·rw[if_pos rfl];unfold zAA.rid;exact⟨_,_,rfl,t2,fun e=>absurd rfl e⟩
theorem open_says {g:List Int}{r:Nat}{M:zAH}(hg:zAX g=true)(hs:Srt D.files)(h:SaysF g r (Sat.get (zAm [97]) D.files) (Sat.get (zBR [97]) D.files) M) :
  ∃D' e M',zAV D [97] g=(D',e,M')∧Srt D'.files∧SaysF g r (Sat.get (zAm [97]) D'.files) (Sat.get (zBR [97]) D'.files) M∧D'.room=D.room∧D'.used≤D.used+r∧D'.files.length≤D.files.length+8 ∧
   (D.fuse=none→D.used+r≤D.room→D.files.length≤4000→e=0∧M'=M):=by
 have W:¬((([97]:Bs).length)<1∨20<([97]:Bs).length∨zAX g=false):=by
  rintro(h|h|h)
  ·exact absurd h (by decide)
  ·exact absurd h (by decide)
  ·rw[hg]at h;cases h
 obtain⟨T,E,b,I,R,⟨f,ls,t,gl,O,j,m,K,c⟩,P,S⟩:=h;have z:=recAll_keeps c;unfold zAV;rw[if_neg W];obtain⟨C,e0,q0,d,f0⟩:=jc_rid hs;rw[q0];dsimp only;have p:Sat.get (zAm [97]) C.files=some f:=(d.oth _ lo_shl lo_shs).trans gl;have q:Sat.get (zBR [97]) C.files=Sat.get (zBR [97]) D.files:=d.oth _ sn_shl sn_shs;have B:SaysF g r (Sat.get (zAm [97]) C.files) (Sat.get (zBR [97]) C.files) M:=by
  rw[p,q];exact⟨T,E,b,I,R,⟨f,ls,t,rfl,O,j,m,K,c⟩,P,S⟩
 have ae:=d.used;have ab:=d.cnt
 by_cases v:e0=0
 ·subst v;rw[if_neg (by decide),q,I];dsimp only;rw[if_neg (by decide)];have Z:zDv f.data=(ls,(zAL ls).length):=by rw[j];exact scan_recs ls t m K
  have V:(zAL ls).length≤f.data.length:=by rw[j,List.length_append];omega
  have a:f.data.take (zAL ls).length=zAL ls:=by rw[j];exact List.take_left
  obtain⟨o,G,q1,i,f1,A⟩:=jc_torn d.srt n_lo p V;have X:zBj C [97] (zAH.none0 g)=(o,G,false,E):=by
   unfold zBj;rw[p];dsimp only;rw[Z];dsimp only;rw[c];dsimp only;rw[q1]
  rw[X];dsimp only;have k:LogIs g (Sat.get (zAm [97]) o.files) E:=by
   rcases A with A|A|A
   ·exact⟨f,ls,t,A,O,j,m,K,c⟩
   ·refine⟨_,ls,[],A,rfl,?_,m,.inl rfl,c⟩;rw[List.append_nil];exact a
   ·refine⟨_,ls,[],A,?_,?_,m,.inl rfl,c⟩
    ·show min f.lasts (zAL ls).length=(f.data.take (zAL ls).length).length
     rw[a];omega
    ·rw[List.append_nil];exact a
  have H:Sat.get (zBR [97]) o.files=Sat.get (zBR [97]) D.files:=(i.oth _ lo_sn.symm lo_sn.symm).trans q;have n:SaysF g r (Sat.get (zAm [97]) o.files) (Sat.get (zBR [97]) o.files) M:=by
   rw[H];exact⟨T,E,b,I,R,k,P,S⟩
  have af:=i.used;have ac:=i.cnt
  by_cases y:G=0
  ·subst y;rw[if_neg (by decide),P];dsimp only;cases b with
   | false =>
    rw[if_neg (by decide)];exact⟨o,0,M,rfl,i.srt,n,i.room.trans d.room,by omega,by omega,fun _ _ _=>⟨rfl,rfl⟩⟩
   | true =>
    rw[if_pos rfl];obtain⟨s,hr⟩:=S rfl;unfold zAT;obtain⟨D2,e2,q2,F,r2⟩:=jc_save1 (b:=zAL M.rows) i.srt n_lo n_shl;rw[q2];have ag:=F.used;have ad:=F.cnt;have U:Sat.get (zBR [97]) D2.files=Sat.get (zBR [97]) D.files:=(F.oth _ lo_sn.symm sn_shl).trans H;refine⟨D2,e2,M,rfl,F.srt,?_,(F.room.trans i.room).trans d.room,by omega,by omega,fun L Y aa=>⟨?_,rfl⟩⟩
    ·rw[U];rcases r2 with⟨-,-,g2⟩|⟨-,g2,-⟩
     ·rw[g2];exact⟨T,E,true,I,R,k,P,S⟩
     ·rw[g2];refine⟨T,{M with data:=[],dead:=false},false,I,R,⟨wh (zAL M.rows),M.rows,[],rfl,rfl,(List.append_nil _).symm,fun l hl=>Nat.le_trans ((zE6 s).1 l hl) (by decide),.inl rfl,?_⟩,joins_again P z.2,fun e=>by cases e⟩;exact zGV (M:=M) (N:=zAH.none0 g) s.last s.term s.group s.now s.vote s.ents rfl rfl rfl
    ·rcases r2 with⟨J,Q,-⟩|⟨J,-⟩
     ·exfalso;have G:o.fuse=none:=i.fuse (d.fuse L);have e2:o.room=D.room:=i.room.trans d.room;rcases Q with Q|Q|⟨-,Q⟩
      ·omega
      ·omega
      ·exact Q G
     ·exact J
  ·rw[if_pos y];exact⟨o,G,_,rfl,i.srt,n,i.room.trans d.room,by omega,by omega,fun L _ _=>absurd (d.fuse L) (f1 y)⟩
 ·rw[if_pos v];exact⟨C,e0,_,rfl,d.srt,B,d.room,by omega,by omega,fun L _ _=>absurd L (f0 v)⟩
end
def entW (e:Ent):Nat:=5+e.data.length+e.nodes.length
def zBO (l:List Ent):Nat:=(l.map entW).sum
theorem zF9 (a b:List Ent):zBO (a++b)=zBO a+zBO b:=by unfold zBO;rw[List.map_append,List.sum_append]
theorem entsW_take (a:List Ent)(k:Nat):zBO (a.take k)≤zBO a:=by
 have h:=zF9 (a.take k) (a.drop k);rw[List.take_append_drop]at h;omega
theorem entsW_drop (a:List Ent)(k:Nat):zBO (a.drop k)≤zBO a:=by
 have h:=zF9 (a.take k) (a.drop k);rw[List.take_append_drop]at h;omega
theorem recs_ents:∀(n:Nat) (es:List Ent),(∀e∈es,zAt e=true)→n+es.length≤4611686018427387904→(zAL (zAx n es)).length≤12*zBO es
 | _,[],_,_=>Nat.zero_le _
 | n,e::r,h,hn=>by
  rw[List.length_cons]at hn;have d:=zEu (n:=n+1) (e:=e) (by omega) (h e (List.mem_cons_self ..));have f:=recs_ents (n+1) r (fun x c=>h x (List.mem_cons_of_mem _ c)) (by omega);have b:zBO (e::r)=entW e+zBO r:=by unfold zBO;rw[List.map_cons,List.sum_cons]
  unfold zAx;rw[zBD,List.length_append,zAe,b];unfold entW;omega
theorem rows_le {M:zAH}(h:M.OK):(zAL M.rows).length≤150+12*zBO M.entries:=by
 have f:=h.last;unfold zAH.last at f;have g:=recs_ents M.number M.entries h.ents (by omega);have i:=zDJ M.now M.vote;have j:(zEo M.number M.term M.group).length≤91:=by
  have a:=(zES h.group).2;have b:=zER M.group (by omega);have c:=zBK M.term;have d:=zAg (n:=M.number) (by omega);unfold zEo;simp only[List.length_cons,List.length_append];omega
 unfold zAH.rows;rw[zBD,zBD,List.length_append,List.length_append,zAe,zAe];omega
theorem rebase_w (M:zAH)(s:zC8):zBO (M.rebase s).entries≤zBO M.entries:=by
 show zBO (if M.number<s.number∧M.termAt s.number=some s.term then M.entries.drop (s.number-M.number)else [])≤_
 split
 ·exact entsW_drop _ _
 ·exact Nat.zero_le _
theorem rec1_num {M M':zAH}{p:Bs}(h:zBe false M p=some M'):M'.number=M.number:=by
 unfold zBe at h;cases p with
 | nil=>cases h
 | cons k r =>
  dsimp only at h
  repeat' split at h
  all_goals first
   | (cases h;done)
   | (cases h;rfl)
   | (exfalso;simp_all;done)
theorem recGo_num:∀(l:List Bs) {M M':zAH},zBU M l=some M'→M'.number=M.number
 | [],_,_,h=>by cases h;rfl
 | p::r,M,M',h=>by
  have h:(zBe false M p).bind (fun M'=>zBU M' r)=some M':=h;cases b:zBe false M p with
  | none=>rw[b]at h;cases h
  | some M1 =>
   rw[b]at h;exact(recGo_num r h).trans (rec1_num b)
structure zCZ (g:List Int)(A:Nat)(M:zAH)(D:zAA):Prop where
 ex:∃ls s M0,D.files=(dJ 1048576 (zAL ls) (zCT s)).files∧(∀l∈ls,l.length≤1048576)∧SnapOK s∧(∀x,s=some x→(zAK x.bytes).length≤100000)∧zCC (zAH.none0 g) ls=some M0∧zAh s M0 false=some (false,M)∧(zAL ls).length≤150+12*A
 room:D.room=1048576
 ok:M.OK
 ents:zBO M.entries≤A
 alive:M.dead=false
structure AftJ (g:List Int)(A:Nat)(P:zAH→Prop)(D:zAA):Prop where
 srt:Srt D.files
 room:D.room=1048576
 used:D.used≤2*(150+12*A)+200000
 cnt:D.files.length≤10
 says:∀k,∃M,P M∧SaysF g (150+12*A) (crashO k (Sat.get (zAm [97]) D.files)) (crashO k (Sat.get (zBR [97]) D.files)) M
theorem dj_other {room:Nat}{c:Bs}{s:Option Bs}{m:Bs}(d:m≠zAm [97])(g:m≠zBR [97]):Sat.get m (dJ room c s).files=none:=zCh.2 fun p f=>by
 cases s with
 | none =>
  rw[show p=(zAm [97],wh c) by simpa[dJ,snpL]using f];exact d.symm
 | some b =>
  rcases(show p=(zAm [97],wh c)∨p=(zBR [97],wh b) by simpa[dJ,snpL]using f)with rfl|rfl
  ·exact d.symm
  ·exact g.symm
theorem dj_two {room:Nat}{c:Bs}{s:Option Bs}:(dJ room c s).files.length≤2:=by
 cases s
 ·show 1≤2
  decide
 ·exact Nat.le_refl 2
theorem zF6 {room:Nat}{c:Bs}{s:Option zC8}(b:SnapOK s):zCD (Sat.get (zBR [97]) (dJ room c (zCT s)).files)=(0,s):=by
 rw[zF7];cases s with
 | none=>exact zGc zD7
 | some x =>
  obtain⟨q1,q2,d,f⟩:=b x rfl;exact snapOf_bytes q1 q2 d f
theorem last_wh (o:Option Bs):Last (o.map wh):=fun f c=>by
 cases o with
 | none=>cases c
 | some b=>cases c;rfl
theorem files_dj {room:Nat}{D:zAA}{c:Bs}{s:Option Bs}(h:Srt D.files)(f:Sat.get (zAm [97]) D.files=some (wh c))(g:Sat.get (zBR [97]) D.files=s.map wh)(i:∀m,m≠zAm [97]→m≠zBR [97]→Sat.get m D.files=none):D.files=(dJ room c s).files :=
 srt_ext h dj_srt fun m=>by
  by_cases b:m=zAm [97]
  ·rw[b,f,dj_log]
  ·by_cases d:m=zBR [97]
   ·rw[d,g,zF7]
   ·rw[i m b d,dj_other b d]
section
variable {g:List Int} {A c:Nat} {M M':zAH} {D:zAA}
theorem zCZ.used (h:zCZ g A M D):D.used≤150+12*A+100000:=by
 obtain⟨ls,s,d,c,-,-,b,-,-,f⟩:=h.ex;have:D.used=(dJ 1048576 (zAL ls) (zCT s)).used:=by unfold zAA.used;rw[c]
 rw[this,dj_used];cases s with
 | none=>dsimp only[zCT,Option.map_none];omega
 | some x =>
  have:=b x rfl;dsimp only[zCT,Option.map_some];omega
theorem zCZ.cnt (h:zCZ g A M D):D.files.length≤2:=by
 obtain⟨ls,s,c,b,-⟩:=h.ex;rw[b];exact dj_two
theorem zCZ.srt (h:zCZ g A M D):Srt D.files:=by
 obtain⟨ls,s,c,b,-⟩:=h.ex;rw[b];exact dj_srt
theorem zCZ.more (h:zCZ g A M D)(c:Nat):zCZ g (A+c) M D:=by
 obtain⟨⟨ls,s,i,j,k,l,m,n,o,p⟩,b,d,e,f⟩:=h;exact⟨⟨ls,s,i,j,k,l,m,n,o,by omega⟩,b,d,by omega,f⟩
theorem zCZ.aft (h:zCZ g A M D):AftJ g A (fun N=>N=M) D:=by
 refine⟨h.srt,h.room,by have:=h.used;omega,by have:=h.cnt;omega,fun k=>⟨M,rfl,?_⟩⟩;obtain⟨ls,s,b,j,c,d,-,f,i,-⟩:=h.ex;refine SaysF.crash ?_ k;rw[j,dj_log];exact⟨s,b,false,zF6 d,by rw[zF7];exact last_wh _,⟨wh (zAL ls),ls,[],rfl,rfl,(List.append_nil _).symm,c,.inl rfl,f⟩,i,fun e=>by cases e⟩
theorem AftJ.mono {P Q:zAH→Prop}(h:AftJ g A P D)(c:∀N,P N→Q N):AftJ g A Q D:=⟨h.srt,h.room,h.used,h.cnt,fun k=>by
 obtain⟨N,a,b⟩:=h.says k;exact⟨N,c N a,b⟩⟩
theorem live_lays {rs:List Bs}(h:zCZ g A M D)(B:∀l∈rs,l.length≤1048576)(d:zBU M rs=some M')(X:M'.dead=false)(aa:M'.OK)(hc:(zAL rs).length≤12*c)(he:zBO M'.entries≤A+c)(hA:A+c≤6100) :
  ((zBw [97] D M rs M').err=0∧(zBw [97] D M rs M').jou=M'∧zCZ g (A+c) M' (zBw [97] D M rs M').disk∧(D.fuse=none→(zBw [97] D M rs M').disk.fuse=none)) ∨
  ((zBw [97] D M rs M').err=9∧D.fuse≠none∧(zBw [97] D M rs M').jou=M.die∧AftJ g (A+c) (fun N=>∃w,zBU M (rs.take w)=some N) (zBw [97] D M rs M').disk):=by
 have ak:=h.used;have ag:=h.cnt;have ab:=h.srt;obtain⟨⟨ls,s,Q,H,S,h2,T,U,h4,h5⟩,n,af,ah,ae⟩:=h;obtain⟨hM,hJ,V,W⟩:=joins_is h4;have gl:Sat.get (zAm [97]) D.files=some (wh (zAL ls)):=by rw[H,dj_log]
 have gs:Sat.get (zBR [97]) D.files=(zCT s).map wh:=by rw[H,zF7]
 have so:zCD ((zCT s).map wh)=(0,s):=by rw[←zF7 (room:=1048576) (c:=zAL ls)];exact zF6 h2
 -- a journal read from the log and some of the records
 have C:∀w N,zBU M (rs.take w)=some N→∃i,zBU Q (rs.take w)=some i∧zAh s i false=some (false,N):=fun w N C=>by
  have v:(zBU Q (rs.take w)).map (·.dat M.data)=some N:=by rw[←recGo_dat,←hM,C]
  cases E:zBU Q (rs.take w)with
  | none=>rw[E]at v;cases v
  | some i =>
   rw[E]at v;have R:i.dat M.data=N:=Option.some.inj v;refine⟨i,rfl,?_⟩;rw[hJ i (recGo_num _ E)];cases s with
   | none =>
    have e0:=W rfl;rw[e0,E]at C;rw[Option.some.inj C]
   | some x =>
    show some (false,i.dat x.data)=_
    rw[←V x rfl,R]
 obtain⟨D',e,q,o,r⟩:=jc_lay (b:=zAL rs) ab n_lo gl;have aj:=o.used;have ai:=o.cnt;have F:Sat.get (zBR [97]) D'.files=(zCT s).map wh:=(o.oth _ lo_sn.symm).trans gs;unfold zBw;rw[q];dsimp only;rcases r with⟨Z,O,y⟩|⟨rfl,y⟩
 ·rw[if_pos Z];have P:e=9∧D.fuse≠none:=by
   rcases O with O|O|O
   ·omega
   ·omega
   ·exact O
  refine .inr ⟨P.1,P.2,rfl,o.srt,o.room.trans n,by dsimp only;omega,by dsimp only;omega,fun k=>?_⟩
  ·dsimp only;rw[F,(last_wh (zCT s)).crash k];rcases y with y|y
   ·rw[y,(show Last (some (wh (zAL ls)))from fun f H=>by cases H;rfl).crash k];exact⟨M,⟨0,rfl⟩,s,Q,false,so,last_wh _,⟨wh (zAL ls),ls,[],rfl,rfl,(List.append_nil _).symm,S,.inl rfl,U⟩,h4,fun e=>by cases e⟩
   ·rw[y];have hd:(wh (zAL ls)).data=zAL ls:=rfl;have I:(wh (zAL ls)).lasts=(zAL ls).length:=rfl;rw[hd,I];obtain⟨j,hj⟩:∃j,j=(max 0 k).toNat%((zAL rs).length+1):=⟨_,rfl⟩;have K:j≤(zAL rs).length:=by
     have:=Nat.mod_lt (max 0 k).toNat (show 0<(zAL rs).length+1 by omega);omega
    have Y:zAA.crashF k ⟨zAL ls++zAL rs,(zAL ls).length⟩=⟨zAL ls++(zAL rs).take j,(zAL ls).length+j⟩:=by
     have ac:zAA.stays ⟨zAL ls++zAL rs,(zAL ls).length⟩ k=(zAL ls).length+j:=by
      unfold zAA.stays;dsimp only;rw[List.length_append,show(zAL ls).length+(zAL rs).length-(zAL ls).length=(zAL rs).length by omega,←hj]
     unfold zAA.crashF;rw[ac];dsimp only;rw[List.take_append,List.take_of_length_le (by omega),show(zAL ls).length+j-(zAL ls).length=j by omega]
    show ∃N,_∧SaysF g _ (some (zAA.crashF k ⟨zAL ls++zAL rs,(zAL ls).length⟩)) _ N
    rw[Y];obtain⟨t,ht,ad,-⟩:=cut_recs rs j K B;generalize wholeN rs j=w at ht;have J:∃N,zBU M (rs.take w)=some N:=by
     have R:rs=rs.take w++rs.drop w:=(List.take_append_drop _ _).symm;rw[R,recGo_app]at d;cases E:zBU M (rs.take w)with
     | none=>rw[E]at d;cases d
     | some N=>exact⟨N,rfl⟩
    obtain⟨N,G⟩:=J;obtain⟨i,p,z⟩:=C w N G;refine⟨N,⟨w,G⟩,s,i,false,so,last_wh _,⟨_,ls++rs.take w,t,rfl,?_,?_,fun l I=>?_,ad,?_⟩,z,fun e=>by cases e⟩
    ·show(zAL ls).length+j=(zAL ls++(zAL rs).take j).length
     rw[List.length_append,List.length_take];omega
    ·show zAL ls++(zAL rs).take j=_
     rw[ht,zCj,List.append_assoc]
    ·exact(List.mem_append.1 I).elim (S l) fun h9=>B l (List.mem_of_mem_take h9)
    ·rw[recAll_app U,p]
 ·rw[if_neg (by decide)];have L:rs.take rs.length=rs:=List.take_length;obtain⟨i,p,z⟩:=C rs.length M' (by rw[L];exact d);rw[L]at p;refine .inl ⟨rfl,rfl,⟨⟨ls++rs,s,i,?_,fun l I=>?_,h2,T,?_,z,?_⟩,o.room.trans n,aa,he,X⟩,o.fuse⟩
  ·refine files_dj o.srt (by rw[y,zCj];rfl) F fun m m1 m2=>?_;dsimp only;rw[o.oth m m1,H];exact dj_other m1 m2
  ·exact(List.mem_append.1 I).elim (S l) (B l)
  ·rw[recAll_app U,p]
  ·rw[zCj,List.length_append];omega
end
end Go.Proofs.YtapfnehdgailmaaGreat
