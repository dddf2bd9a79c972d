/- What the program's functions and the document's do, and plain laws, for PJournalPlays. -/
import Derived.Deep.DeepCutAuto
import Derived.Deep.Fields
import Derived.Deep.Strs
import Derived.Test.YtapfnehdgailmaaGreatJB
import Derived.Test.YtapfnehdgailmaaGreatJB1
import Derived.Test.YtapfnehdgailmaaGreatJE
import Derived.Test.YtapfnehdgailmaaGreatJF
import Derived.Test.YtapfnehdgailmaaGreatJG
import Derived.Test.YtapfnehdgailmaaGreatJI
import Derived.Test.YtapfnehdgailmaaGreatJL
import Derived.Test.YtapfnehdgailmaaGreatJN
import Derived.Test.YtapfnehdgailmaaGreatJO
import Derived.Test.YtapfnehdgailmaaGreatJT
import Derived.Test.YtapfnehdgailmaaGreatJU
import Derived.Test.YtapfnehdgailmaaGreatJZ
open Go.Proofs.Tryz
set_option maxRecDepth 100000
set_option maxHeartbeats 64000000
namespace Go.Proofs.YtapfnehdgailmaaGreat
open Go.RowKit Go.Sat Go.Maps
theorem oneB_short (b:Bs):(oneB b).length≤b.length:=by
 unfold oneB
 split
 ·unfold decB
  split
  ·rw[List.length_take,List.length_drop];omega
  ·exact Nat.zero_le _
 ·exact Nat.zero_le _
theorem loadB_short (o:Option zAW):(zDq o).length≤(zCj o).length:=by
 unfold zDq
 split
 ·exact oneB_short _
 ·exact Nat.zero_le _
theorem data_used {D:zAA}(h:Srt D.files)(n:Bs):(zCj (Sat.get n D.files)).length≤D.used:=by
 cases b:Sat.get n D.files with
 | none=>exact Nat.zero_le _
 | some f=>exact le_sum (f:=zAA.size) h b
theorem each1_less {D:zAA}(h:Srt D.files)(n:Bs):(zAA.each1 zAA.gRemove D n).1.used≤D.used∧Srt (zAA.each1 zAA.gRemove D n).1.files:=by
 unfold zAA.each1
 split
 ·exact⟨Nat.le_refl _,h⟩
 ·cases b:Sat.get n D.files with
  | none=>exact⟨Nat.le_refl _,h⟩
  | some f =>
   refine⟨?_,zCv h⟩
   show zBZ zAA.size (del n D.files)≤zBZ zAA.size D.files
   rw[zDr h b];omega
theorem rid1_less {D:zAA}(h:Srt D.files)(n:Bs):(D.rid1 n).1.used≤D.used∧Srt (D.rid1 n).1.files:=by
 unfold zAA.rid1
 split
 ·show(zAA.each zAA.gRemove D [n]).1.used≤_∧Srt (zAA.each zAA.gRemove D [n]).1.files
  simp only[zAA.each]
  split
  ·exact each1_less h n
  ·exact each1_less h n
 ·exact⟨Nat.le_refl _,h⟩
theorem open_snp_le {D:zAA}{g:List Int}{pre:Bs}(h:Srt D.files){u:Nat}(k:D.used≤u)(O:OpensJ D pre g):(zDq (Sat.get (zBt pre) O.D2.files)).length≤u:=by
 have b:=rid1_less h (zAF (zAu pre));rw[O.h1]at b;have c:=rid1_less b.2 (zAF (zBt pre));rw[O.h2]at c;have d:=loadB_short (Sat.get (zBt pre) O.D2.files);have f:(zCj (Sat.get (zBt pre) O.D2.files)).length≤O.D2.used:=data_used c.2 (zBt pre);have i:O.D1.used≤D.used:=b.1;have j:O.D2.used≤O.D1.used:=c.1;omega
abbrev zCg (d r:Nat)(j x:Value)(over:Bool):Obj:=.cells #[.pointer (some ⟨d,0,none⟩),.pointer (some ⟨r,0,none⟩),j,x,.bool over] 47 (0,0)
abbrev zEL:List Int:=[0,1,2]
abbrev LitO:Obj:=.cells #[.int .i64 0,.int .i64 1,.int .i64 2] 3 (0,0)
theorem hasI_012 (W:World):zBY (W.alloc LitO) (.slice (some ⟨W.heap.size,0,none⟩) 3 3) zEL :=
 ⟨by simp,some ⟨W.heap.size,0,none⟩,3,rfl,fun e=>(by cases e),fun a b i u c=>by
  cases b;rw[add_zero];refine zAG (zAI W _) ?_;simpa using c⟩
theorem refIn_move {w w':World}{r:Nat}{D:zAA}(h:zAd w r (.slice none 0 0) [] (fun k=>k=r) D)(f:∀k,k=r→w'.heap[k]?=w.heap[k]?)(d:r<w'.heap.size):zAd w' r (.slice none 0 0) [] (fun k=>k=r) D where
 cells:=(f r rfl).trans h.cells
 row:=OwnR.nil _ _ _
 files:=h.files
 data:=fun x c=>by cases c
 or:=rfl
 ov:=fun k b=>by cases b
 ob:=fun x c=>by cases c
 olt:=fun k b=>by rw[b];exact d
 ok:=h.ok
def Opened (w:World)(p d r room:Nat)(w':World):Prop :=
 ∃j x,zAk w w' j d sA (zDS room [97] zEL) (zAJ.none0 zEL) (fun k=>k=p)∧w'.heap[p]?=some (zCg d r (.pointer (some ⟨j,0,none⟩)) (.pointer (some ⟨x,0,none⟩)) false)
def Opened2 (w:World)(p d r room:Nat)(w':World):Prop :=
 ∃j x Hot Cold,zAk w w' j d sA (zDS room [97] zEL) (zAJ.none0 zEL) (fun k=>k=p∨Hot k∨Cold k)∧w'.heap[p]?=some (zCg d r (.pointer (some ⟨j,0,none⟩)) (.pointer (some ⟨x,0,none⟩)) false) ∧
  RJF w' x r sA (zDS room [97] zEL) (zAJ.none0 zEL) Hot Cold∧∀k,Hot k∨Cold k→w.heap.size≤k∧k≠p
theorem Opened2.opened {w:World}{p d r room:Nat}{w':World}(h:Opened2 w p d r room w'):Opened w p d r room w':=by
 obtain⟨j,x,c,b,f,i,-,-⟩:=h;exact⟨j,x,f.less fun k g=>.inl g,i⟩
theorem popen2_calls {w w1:World}{d r p room:Nat}(h:St w w1 d (zAA.fresh room) (fun k=>k=p∨k=r))(hR:zAd w1 r (.slice none 0 0) [] (fun k=>k=r) (zAA.fresh room))(L:w1.heap[p]?=some (zCg d r (.pointer none) (.pointer none) false))(H:w.heap.size≤r∧w.heap.size≤p)(I:p≠r)(Y:200≤room)(J:room≤1048576) :
  Calls prog 97 #[.pointer (some ⟨p,0,none⟩)] w1 fun e w'=>e=.returned (.bool true)∧Opened2 w p d r room w':=by
 have t:zAV (zAA.fresh room) (nm sA) zEL=(zDS room [97] zEL,0,zAJ.none0 zEL):=jopen_fresh Y (by omega) (pre:=[97]) ⟨by decide,by decide⟩ (by rfl);have C:=zh (jopen_calls (h.next (zAD w1 LitO)) (show(zAA.fresh room).room≤1048576 from J) sA (hasI_012 w1) (by simp));rw[t]at C;have T:=zh (fun W (hW:zAd W r (.slice none 0 0) [] (fun k=>k=r) (zAA.fresh room))=>show Calls prog 18 #[.pointer (some ⟨r,0,none⟩),.string sA,.slice (some ⟨W.heap.size,0,none⟩) 3 3] (W.alloc LitO) (zFc (W.alloc LitO) r sA (fun k=>k=r) (zDS room [97] zEL,0,zAJ.none0 zEL)) by
  have:=ropen_calls (hW.below (zAD W LitO)) (show(zAA.fresh room).room≤1048576 from J) sA (hasI_012 W) (by simp) fun O=>open_snp_le (D:=zAA.fresh room) List.Pairwise.nil (show(zAA.fresh room).used≤524288 from Nat.zero_le _) O;rwa[t]at this)
 have HR:=zh hR;have q:=zh H;have F:=zh I;have Hp:=zh L;have U:=zh (fun k (b:k=p∨k=r)=>h.flt b);have V:=zBB LitO L;have c0:=zAU L;clear h hR L H I V t
 go_enter func97,ntmps97
 go_wp2_with fail;refine C.o.mono ?_;rintro e w2 ⟨ac,K,s⟩;rcases s with⟨-,j,rfl,hj⟩|⟨v,-⟩
 ·have a:=zh hj;have E:=zh ((K p (.inl rfl)).trans (zBB LitO Hp.o));have n:∀k,k=r→w2.heap[k]?=w1.heap[k]?:=fun k b=>by
   rw[b];exact(K r (.inr rfl)).trans (zFt w1 LitO (U.o r (.inr rfl)))
  have P:=zh (refIn_move HR.o n (a.o.flt (.inr rfl)));have c1:=zAY E.o;clear ac K hj n c0;have G:=zh (T.o w2 P.o);go_wp2_with fail;refine G.o.mono ?_;rintro e y hT;rcases hT with⟨-,z,g,c,rfl,hF,l,m⟩|⟨v,-⟩
  rotate_left
  ·exact absurd rfl v
  have ab:=(zAD w2 LitO).size;have aa:=a.o.bel.size;have Z:r<w2.heap.size:=a.o.flt (.inr rfl);have X:p<w2.heap.size:=a.o.flt (.inl rfl);have B:=zW (∀k,g k∨c k→w.heap.size≤k∧k≠p∧k<y.heap.size) (fun k b=>by
   refine⟨?_,?_,b.elim (fun h=>hF.hlt h) fun h=>hF.clt h⟩
   ·rcases m k b with e|e
    ·rw[e];exact q.o.1
    ·omega
   ·rcases m k b with e|e
    ·rw[e];exact fun e=>F.o e.symm
    ·omega)
  have HF:=zh hF;have A:=zW (zAk w y j d sA (zDS room [97] zEL) (zAJ.none0 zEL) (fun k=>k=p∨g k∨c k)) ((a.o.next (zAD w2 LitO)).move l (fun k _ e=>⟨.inr e,by rw[e];exact q.o.1⟩) fun k b=>by
   rcases b with b|b
   ·exact⟨.inl (.inl b),by rw[b];have:=l.size;omega⟩
   ·refine⟨?_,(B.o k b).2.2⟩;rcases m k b with e|e
    ·exact .inl (.inr e)
    ·exact .inr e)
  have f:=(l.block p (by omega) F.o).trans (zBB LitO E.o);have Q:=zh f;have d2:=zAX f;have d3:=zAf f;have f2:=zAE f 2;have f3:=zAE f 3;have i:Chg (fun k=>k=p) y ((y.setCell ⟨p,2,none⟩ (.pointer (some ⟨j,0,none⟩))).setCell ⟨p,3,none⟩ (.pointer (some ⟨z,0,none⟩))):=(Chg.setCell y ⟨p,2,none⟩ _).trans (Chg.setCell _ ⟨p,3,none⟩ _) fun _ _ e=>e;have M:=zh (HF.o.chg i fun k e=>⟨fun h=>(B.o k (.inl h)).2.1 e,fun h=>(B.o k (.inr h)).2.1 e⟩);have N:=zW (zAk w ((y.setCell ⟨p,2,none⟩ (.pointer (some ⟨j,0,none⟩))).setCell ⟨p,3,none⟩ (.pointer (some ⟨z,0,none⟩))) j d sA (zDS room [97] zEL) (zAJ.none0 zEL) (fun k=>k=p∨g k∨c k)) (A.o.move (S:=fun k=>k=p) i (fun k _ e=>⟨.inl e,by rw[e];exact q.o.2⟩) fun k b=>⟨.inl b,Nat.lt_of_lt_of_le (A.o.flt b) i.size⟩);have R:=zW (((y.setCell ⟨p,2,none⟩ (.pointer (some ⟨j,0,none⟩))).setCell ⟨p,3,none⟩ (.pointer (some ⟨z,0,none⟩))).heap[p]?=some (zCg d r (.pointer (some ⟨j,0,none⟩)) (.pointer (some ⟨z,0,none⟩)) false)) (by
   have h1:=zAC Q.o 2 (.pointer (some ⟨j,0,none⟩));have h2:=zAC h1 3 (.pointer (some ⟨z,0,none⟩));simpa using h2)
  clear l f Z X c1 hF m ab aa i;go_wp2_with fail;go_ret;exact⟨rfl,j,z,g,c,N.o,R.o,M.o,fun k b=>⟨(B.o k b).1,(B.o k b).2.1⟩⟩
 ·exact absurd rfl v
theorem start2_calls (w:World)(room:Nat)(D:200≤room)(E:room≤1048576) :
  Calls prog 21 #[.int .i64 (room:Int)] w fun e w'=>∃p d r,e=.returned (.tuple #[.pointer (some ⟨p,0,none⟩),.bool true])∧Opened2 w p d r room w'∧w.heap.size≤p:=by
 have i:=zh (st_new (w:=w) (w1:=w) (room:Int) (by omega) (by omega) (Below.refl _ _));have z:=zh (fun W=>rnew_calls W (room:Int) (by omega) (by omega));have y:=zh (fun W d r p a b c e f=>popen2_calls (w:=w) (w1:=W) (d:=d) (r:=r) (p:=p) a b c e f D E);rw[Int.toNat_natCast]at i
 go_enter func21,ntmps21
 go_wp2_with fail;refine i.o.mono ?_;rintro e w2 ⟨d,rfl,q⟩;have l:=zh q;have n:=zh (z.o w2);rw[Int.toNat_natCast]at n;clear q;go_wp2_with fail;refine n.o.mono ?_;rintro e w3 ⟨r,rfl,B,g,j⟩;have F:=B.olt r rfl;have A:=zW (St w (w3.alloc (zCg d r (.pointer none) (.pointer none) false)) d (zAA.fresh room) (fun k=>k=w3.heap.size∨k=r)) (l.o.move (Chg.of_below (g.trans ((zAD w3 _).mono g.size))) (fun _ _ h=>h.elim) fun k C=>by
  have J:=g.size;have I:(w3.alloc (zCg d r (.pointer none) (.pointer none) false)).heap.size=w3.heap.size+1:=by simp
  rcases C with C|C
  ·exact⟨.inr (by omega),by omega⟩
  ·exact⟨.inr (by omega),by omega⟩)
 have s:=zh (B.below (zAD w3 (zCg d r (.pointer none) (.pointer none) false)));have m:=zW (w.heap.size≤r∧w.heap.size≤w3.heap.size) (⟨Nat.le_trans l.o.below.size j,Nat.le_trans l.o.below.size g.size⟩);have t:=zh (show w3.heap.size≠r by omega);have v:=zh (y.o _ _ _ _ A.o s.o (zAI w3 _) m.o t.o);clear B g j F;go_wp2_with fail;refine v.o.mono ?_;rintro e L ⟨rfl,G⟩;have H:=zh G;clear G;go_wp2_with fail
 go_ret2
 exact⟨_,_,_,rfl,H.o,m.o.2⟩
theorem start_calls (w:World)(room:Nat)(b:200≤room)(c:room≤1048576) :
  Calls prog 21 #[.int .i64 (room:Int)] w fun e w'=>∃p d r,e=.returned (.tuple #[.pointer (some ⟨p,0,none⟩),.bool true])∧Opened w p d r room w'∧w.heap.size≤p:=by
 refine(start2_calls w room b c).mono ?_;rintro e w' ⟨p,d,r,g,i,f⟩;exact⟨p,d,r,g,i.opened,f⟩
def zCH (w w1:World)(d:Nat)(D:zAA)(r:Nat)(R:zAA)(F:Nat→Prop):Prop :=
 ∃own v L,St w w1 d D (fun k=>own k∨F k)∧zAd w1 r v L own R∧(∀k,own k→w.heap.size≤k∧¬F k)∧∀k,F k→k<w1.heap.size
section
variable {w w1 w2:World} {d:Nat} {D:zAA} {r:Nat} {R:zAA} {F F':Nat→Prop}
theorem zCH.bel (h:zCH w w1 d D r R F):Below w.heap.size w w1:=let ⟨_,_,_,hS,_⟩:=h;hS.below
theorem zCH.okD (h:zCH w w1 d D r R F):D.OK:=let ⟨_,_,_,hS,_⟩:=h;hS.ok
theorem zCH.flt (h:zCH w w1 d D r R F){k:Nat}(b:F k):k<w1.heap.size:=let ⟨_,_,_,_,_,_,hF⟩:=h;hF k b
theorem zCH.pair (h:zCH w w1 d D r R F):Pair w w1 d D r R:=by
 obtain⟨own,v,L,hS,c,hn,-⟩:=h;exact⟨own,v,L,hS.less fun _ b=>.inl b,c,fun k b=>(hn k b).1⟩
theorem Pair.apart (h:Pair w w1 d D r R):zCH w w1 d D r R NoF:=by
 obtain⟨own,v,L,hS,c,hn⟩:=h;exact⟨own,v,L,hS.less fun _ b=>b.elim id fun h=>h.elim,c,fun k b=>⟨hn k b,fun h=>h⟩,fun _ h=>h.elim⟩
theorem zCH.move {S:Nat→Prop}(h:zCH w w1 d D r R F)(f:Chg S w1 w2)(hS:∀k,k<w1.heap.size→S k→F k∧w.heap.size≤k)(hF:∀k,F' k→(F k∨w1.heap.size≤k)∧k<w2.heap.size):zCH w w2 d D r R F':=by
 obtain⟨own,v,L,i,c,hn,l⟩:=h;refine⟨own,v,L,i.move f (fun k b g=>⟨.inr (hS k b g).1,(hS k b g).2⟩) (fun k b=>?_),c.keep f.size fun k b=>f.block k (c.olt k b) fun g=>(hn k b).2 (hS k (c.olt k b) g).1,fun k b=>⟨(hn k b).1,fun j=>?_⟩,fun k b=>(hF k b).2⟩
 ·rcases b with b|b
  ·exact⟨.inl (.inl b),Nat.lt_of_lt_of_le (c.olt k b) f.size⟩
  ·exact⟨(hF k b).1.imp .inr id,(hF k b).2⟩
 ·rcases(hF k j).1 with h|h
  ·exact(hn k b).2 h
  ·have:=c.olt k b;omega
theorem zCH.next (h:zCH w w1 d D r R F)(b:Below w1.heap.size w1 w2):zCH w w2 d D r R F :=
 h.move (Chg.of_below b) (fun _ _ h=>h.elim) fun _ c=>⟨.inl c,Nat.lt_of_lt_of_le (h.flt c) b.size⟩
theorem zCH.same (h:zCH w w1 d D r R F)(b:Below w1.heap.size w1 w2):Same F w1 w2:=fun _ c=>b.block _ (h.flt c)
theorem zCH.less (h:zCH w w1 d D r R F)(hF:∀k,F' k→F k):zCH w w1 d D r R F' :=
 h.move (Chg.refl _ _:Chg (fun _=>False) w1 w1) (fun _ _ h=>h.elim) fun _ b=>⟨.inl (hF _ b),h.flt (hF _ b)⟩
theorem zCH.box (h:zCH w w1 d D r R F)(o:Obj):zCH w (w1.alloc o) d D r R (fun k=>F k∨k=w1.heap.size) :=
 h.move (Chg.of_below ((Below.refl _ _).alloc (Nat.le_refl _) o)) (fun _ _ h=>h.elim) fun k b=>by
  rcases b with b|b
  ·have:=h.flt b;exact⟨.inl b,by simp;omega⟩
  ·exact⟨.inr (by omega),by simp;omega⟩
theorem pairf_disk0 {P:Program}{f:FuncId}{args:Array Value}{D':zAA}{wc:World}(h:zCH w w1 d D r R F)(g:Below w1.heap.size w1 wc)(m:∀G,St w w1 d D G→Calls P f args wc (Told0 w d G wc D')) :
  Calls P f args wc fun e w'=>e=.returned (.tuple #[])∧zCH w w' d D' r R F∧Same F w1 w':=by
 obtain⟨own,v,L,hS,j,hn,l⟩:=h;refine(m _ hS).mono ?_;rintro e w' ⟨rfl,c,i⟩;refine⟨rfl,⟨own,v,L,c,?_,hn,fun k b=>c.flt (.inr b)⟩,fun k b=>(i k (.inr b)).trans (g.block k (l k b))⟩;exact zAd.same (j.below g) (c.less fun _ b=>.inl b) fun k b=>i k (.inl b)
theorem zCH.moved {w':World}{own own':Nat→Prop}{v':Value}{L':List zAQ}{i:zAA}(hS:St w w1 d D (fun k=>own k∨F k))(hn:∀k,own k→w.heap.size≤k∧¬F k)(g:∀k,F k→k<w1.heap.size)(c:zAd w' r v' L' own' i)(f:Chg own w1 w')(j:∀k,own' k→own k∨w1.heap.size≤k):zCH w w' d D r i F∧Same F w1 w':=by
 refine⟨⟨own',v',L',hS.move f (fun k _ b=>⟨.inl b,(hn k b).1⟩) (fun k b=>?_),c,fun k b=>?_,fun k b=>Nat.lt_of_lt_of_le (g k b) f.size⟩,fun k b=>f.block k (g k b) fun m=>(hn k m).2 b⟩
 ·rcases b with b|b
  ·exact⟨(j k b).imp .inl id,c.olt k b⟩
  ·exact⟨.inl (.inr b),Nat.lt_of_lt_of_le (g k b) f.size⟩
 ·rcases j k b with h|h
  ·exact hn k h
  ·exact⟨Nat.le_trans hS.below.size h,fun l=>by have:=g k l;omega⟩
theorem pairf_rcrash (h:zCH w w1 d D r R F)(n:Int)(c:-9223372036854775808≤n)(hn:n≤9223372036854775807) :
  Calls prog 51 #[.pointer (some ⟨r,0,none⟩),.int .i64 n] w1 fun e w'=>e=.returned (.tuple #[])∧zCH w w' d D r (R.crash n) F∧Same F w1 w':=by
 obtain⟨own,v,L,hS,f,g,j⟩:=h;refine(rcrash_calls f n c hn).mono ?_;rintro e w' ⟨rfl,own',v',L',b,i,k⟩;exact⟨rfl,zCH.moved hS g j b i k⟩
end
def zA6 (w w1:World)(j d x r:Nat)(D:zAA)(M:zAJ)(D2:zAA)(M2:zAJ)(G:Nat→Prop):Prop :=
 ∃F Hot Cold,zAk w w1 j d sA D M F∧RJF w1 x r sA D2 M2 Hot Cold∧(∀k,Hot k∨Cold k→F k∧w.heap.size≤k)∧∀k,G k→F k∧¬Hot k∧¬Cold k
theorem RJF.same {w1 w2:World}{j r:Nat}{pre:ByteArray}{D:zAA}{M:zAJ}{d b:Nat→Prop}(h:RJF w1 j r pre D M d b)(g:∀k,d k∨b k→w2.heap[k]?=w1.heap[k]?∧k<w2.heap.size):RJF w2 j r pre D M d b:=by
 obtain⟨O,own,p,dv,n,vs,v,L,s,f,t,q,l⟩:=h;have c:∀k,O k∨b k→d k∨b k:=fun k c=>c.imp (fun o=>(l k).2 (.inl o)) id;refine⟨O,own,p,dv,n,vs,v,L,s.keep (fun k h=>(g k (c k h)).1) (fun k h=>(g k (c k h)).2),?_,t,q,l⟩;have i:∀k,own k→d k∨b k:=fun k c=>.inl ((l k).2 (.inr c));exact {
  cells:=(g r (i r f.or)).1.trans f.cells
  row:=f.row.keep fun k c=>(g k (i k (f.ov k c).1)).1
  files:=f.files
  data:=fun x m=>OwnR.keep (f.data x m) fun k c=>(g k (i k (f.ob x m k c).1)).1
  or:=f.or
  ov:=f.ov
  ob:=f.ob
  olt:=fun k c=>(g k (i k c)).2
  ok:=f.ok}
section
variable {w w1 w2:World} {j d x r:Nat} {D D2 D':zAA} {M M2 M':zAJ} {G:Nat→Prop}
theorem zA6.bel (h:zA6 w w1 j d x r D M D2 M2 G):Below w.heap.size w w1:=let ⟨_,_,_,h,_⟩:=h;h.bel
theorem zA6.glt (h:zA6 w w1 j d x r D M D2 M2 G){k:Nat}(b:G k):k<w1.heap.size:=let ⟨_,_,_,hL,_,_,hG⟩:=h;hL.flt (hG k b).1
theorem zA6.next (h:zA6 w w1 j d x r D M D2 M2 G)(f:Below w1.heap.size w1 w2):zA6 w w2 j d x r D M D2 M2 G:=by
 obtain⟨F,c,b,i,k,l,g⟩:=h;exact⟨F,c,b,i.next f,k.below f,l,g⟩
theorem zA6.same (h:zA6 w w1 j d x r D M D2 M2 G)(b:Below w1.heap.size w1 w2):Same G w1 w2:=fun _ c=>b.block _ (h.glt c)
theorem zA6.less {G':Nat→Prop}(h:zA6 w w1 j d x r D M D2 M2 G)(f:∀k,G' k→G k):zA6 w w1 j d x r D M D2 M2 G':=by
 obtain⟨F,c,b,i,l,m,g⟩:=h;exact⟨F,c,b,i,l,m,fun k h=>g k (f k h)⟩
theorem zA6.more {G':Nat→Prop}(h:zA6 w w1 j d x r D M D2 M2 G)(m:Below w1.heap.size w1 w2)(c:∀k,G' k→G k∨(w1.heap.size≤k∧k<w2.heap.size)):zA6 w w2 j d x r D M D2 M2 G':=by
 obtain⟨F,f,b,o,i,n,l⟩:=h;refine⟨fun k=>F k∨G' k,f,b,o.more m fun k h=>?_,i.below m,fun k h=>⟨.inl (n k h).1,(n k h).2⟩,fun k h=>⟨.inr h,?_⟩⟩
 ·rcases h with h|h
  ·exact .inl h
  ·exact(c k h).imp (fun e=>(l k e).1) id
 ·rcases c k h with e|e
  ·exact(l k e).2
  ·exact⟨fun g=>by have:=i.hlt g;omega,fun g=>by have:=i.clt g;omega⟩
theorem zA6.box (h:zA6 w w1 j d x r D M D2 M2 G)(o:Obj):zA6 w (w1.alloc o) j d x r D M D2 M2 (fun k=>G k∨k=w1.heap.size) :=
 h.more (zAD w1 o) fun k b=>b.imp id fun e=>⟨by omega,by simp;omega⟩
theorem py_p {P:Program}{f:FuncId}{args:Array Value}{Q:Ending→Prop}{wc:World}(h:zA6 w w1 j d x r D M D2 M2 G)(q:∀F,zAk w w1 j d sA D M F→Calls P f args wc fun e w'=>Q e∧zAk w w' j d sA D' M' F∧Same F w1 w') :
  Calls P f args wc fun e w'=>Q e∧zA6 w w' j d x r D' M' D2 M2 G∧Same G w1 w':=by
 obtain⟨F,g,b,n,o,i,l⟩:=h;refine(q F n).mono ?_;rintro e w' ⟨p,c,m⟩;exact⟨p,⟨F,g,b,c,o.same fun k h=>⟨m k (i k h).1,c.flt (i k h).1⟩,i,l⟩,fun k h=>m k (l k h).1⟩
theorem py_r {P:Program}{f:FuncId}{args:Array Value}{Q:Ending→Prop}{wc:World}(h:zA6 w w1 j d x r D M D2 M2 G)(A:∀g b,RJF w1 x r sA D2 M2 g b→(∀k,g k→w.heap.size≤k)→(∀k,G k→¬g k)→Calls P f args wc fun e w'=>Q e∧zAq w1 x r sA g b w' D' M') :
  Calls P f args wc fun e w'=>Q e∧zA6 w w' j d x r D M D' M' G∧Same G w1 w':=by
 obtain⟨F,g,b,o,z,s,m⟩:=h;refine(A g b z (fun k h=>(s k (.inl h)).2) fun k h=>(m k h).2.1).mono ?_;rintro e w' ⟨a,i,c,n,t,y,q⟩;have B:=o.bel.size;have l:∀k,i k∨c k→(F k∨w1.heap.size≤k)∧k<w'.heap.size∧w.heap.size≤k:=fun k h=>by
  have v:(g k∨b k)∨w1.heap.size≤k:=h.elim (fun e=>(y k e).imp .inl id) fun e=>(q k e).imp .inr id;refine⟨v.imp (fun e=>(s k e).1) id,h.elim n.hlt n.clt,?_⟩;rcases v with e|e
  ·exact(s k e).2
  ·omega
 refine⟨a,⟨fun k=>i k∨c k∨G k,i,c,o.move t (fun k _ e=>s k (.inl e)) fun k h=>?_,n,fun k h=>⟨h.elim .inl fun e=>.inr (.inl e),(l k h).2.2⟩,fun k h=>⟨.inr (.inr h),fun e=>?_,fun e=>?_⟩⟩,fun k h=>t.block k (o.flt (m k h).1) (m k h).2.1⟩
 ·rcases h with h|h|h
  ·exact⟨(l k (.inl h)).1,(l k (.inl h)).2.1⟩
  ·exact⟨(l k (.inr h)).1,(l k (.inr h)).2.1⟩
  ·exact⟨.inl (m k h).1,Nat.lt_of_lt_of_le (o.flt (m k h).1) t.size⟩
 ·rcases y k e with p|p
  ·exact(m k h).2.1 p
  ·have:=o.flt (m k h).1;omega
 ·rcases q k e with p|p
  ·exact(m k h).2.2 p
  ·have:=o.flt (m k h).1;omega
theorem zA6.pairF (h:zA6 w w1 j d x r D M D2 M2 G):zCH w w1 d D r D2 G:=by
 obtain⟨F,g,l,t,y,f,c⟩:=h;obtain⟨n,A,dv,a,vs,C,hS,hn,m⟩:=t;obtain⟨O,own,q,o,p,z,v,L,E,b,H,B,s⟩:=y;have i:∀k,own k→g k:=fun k f=>(s k).2 (.inr f);refine⟨own,v,L,hS.move (S:=fun _=>False) (Chg.refl _ _) (fun _ _ h=>h.elim) (fun k h=>?_),b,fun k h=>⟨(f k (.inl (i k h))).2,fun e=>(c k e).2.1 (i k h)⟩,fun k h=>m k (c k h).1⟩;rcases h with h|h
 ·exact⟨.inl (.inr (f k (.inl (i k h))).1),b.olt k h⟩
 ·exact⟨.inl (.inr (c k h).1),m k (c k h).1⟩
theorem rj_fuse {f b:Nat→Prop}(h:RJF w1 x r sA D2 M2 f b)(n:Int)(i:-9223372036854775808≤n)(hn:n≤9223372036854775807) :
  Calls prog 49 #[.pointer (some ⟨r,0,none⟩),.int .i64 n] w1 fun e w'=>e=.returned (.tuple #[])∧zAq w1 x r sA f b w' (D2.setFuse n) M2:=by
 obtain⟨O,own,s,dv,q,vs,v,L,t,y,m,j,l⟩:=h;refine(rfuse_calls y n hn i).mono ?_;rintro e w' ⟨rfl,g,p⟩;exact⟨rfl,f,b,⟨O,own,s,dv,q,vs,v,L,t.chg p fun k d=>⟨fun o=>m k o d,fun c=>j k c d⟩,g,m,j,l⟩,p.mono fun k _ d=>(l k).2 (.inr d),fun k d=>.inl d,fun k d=>.inl d⟩
theorem jou_fuse {F:Nat→Prop}(h:zAk w w1 j d sA D M F)(n:Int)(g:-9223372036854775808≤n)(hn:n≤9223372036854775807) :
  Calls prog 40 #[.pointer (some ⟨d,0,none⟩),.int .i64 n] w1 fun e w'=>e=.returned (.tuple #[])∧zAk w w' j d sA (D.setFuse n) M F∧Same F w1 w':=by
 obtain⟨own,m,dv,l,vs,o,hS,f,p⟩:=h;refine(st_fuse hS n g hn).mono ?_;rintro e w' ⟨rfl,b,i⟩;exact⟨rfl,⟨own,m,dv,l,vs,o.keep (fun k c=>i k (.inl c)) fun k c=>b.flt (.inl c),b,f,fun k c=>b.flt (.inr c)⟩,fun k c=>i k (.inr c)⟩
theorem py_term (h:zA6 w w1 j d x r D M D2 M2 G)(t v:Int)(c:-9223372036854775808≤t∧t≤9223372036854775807)(f:-9223372036854775808≤v∧v≤9223372036854775807) :
  Calls prog 27 #[.pointer (some ⟨j,0,none⟩),.int .i64 t,.int .i64 v] w1 fun e w'=>e=.returned (.int .i64 ((zBI [97] D M t v).err:Int))∧zA6 w w' j d x r (zBI [97] D M t v).disk (zBI [97] D M t v).jou D2 M2 G∧Same G w1 w' :=
 py_p (Q:=fun e=>e=.returned (.int .i64 ((zBI [97] D M t v).err:Int))) h fun _ b=>jsetTerm_calls b t v c f
theorem py_rterm (h:zA6 w w1 j d x r D M D2 M2 G)(t v:Int)(c:-9223372036854775808≤t∧t≤9223372036854775807)(f:-9223372036854775808≤v∧v≤9223372036854775807) :
  Calls prog 45 #[.pointer (some ⟨x,0,none⟩),.int .i64 t,.int .i64 v] w1 fun e w'=>e=.returned (.int .i64 ((zBI [97] D2 M2 t v).err:Int))∧zA6 w w' j d x r D M (zBI [97] D2 M2 t v).disk (zBI [97] D2 M2 t v).jou G∧Same G w1 w' :=
 py_r (Q:=fun e=>e=.returned (.int .i64 ((zBI [97] D2 M2 t v).err:Int))) h fun _ _ b _ _=>(rjterm_calls b t v c f).mono fun _ _ h=>⟨h.1,h.step⟩
theorem py_cut (h:zA6 w w1 j d x r D M D2 M2 G)(i:Int)(c:-9223372036854775808≤i∧i≤9223372036854775807) :
  Calls prog 23 #[.pointer (some ⟨j,0,none⟩),.int .i64 i] w1 fun e w'=>e=.returned (.int .i64 ((zBp [97] D M i).err:Int))∧zA6 w w' j d x r (zBp [97] D M i).disk (zBp [97] D M i).jou D2 M2 G∧Same G w1 w' :=
 py_p (Q:=fun e=>e=.returned (.int .i64 ((zBp [97] D M i).err:Int))) h fun _ b=>jcut_calls b i c
theorem py_rcut (h:zA6 w w1 j d x r D M D2 M2 G)(i:Int)(c:-9223372036854775808≤i∧i≤9223372036854775807) :
  Calls prog 46 #[.pointer (some ⟨x,0,none⟩),.int .i64 i] w1 fun e w'=>e=.returned (.int .i64 ((zBp [97] D2 M2 i).err:Int))∧zA6 w w' j d x r D M (zBp [97] D2 M2 i).disk (zBp [97] D2 M2 i).jou G∧Same G w1 w' :=
 py_r (Q:=fun e=>e=.returned (.int .i64 ((zBp [97] D2 M2 i).err:Int))) h fun _ _ b _ _=>(rjcut_calls b i c).mono fun _ _ h=>⟨h.1,h.step⟩
theorem py_compact (h:zA6 w w1 j d x r D M D2 M2 G)(m:M.entries.length≤1000000)(i:Int)(k:-9223372036854775808≤i∧i≤9223372036854775807){p:Option Addr}{n c:Nat}{b:Bs}(hn:b.length=n)(l:n≤140737488355328)(o:zAb w (.slice p n c) b) :
  Calls prog 30 #[.pointer (some ⟨j,0,none⟩),.int .i64 i,.slice p n c] w1 fun e w'=>e=.returned (.int .i64 ((zAe [97] D M i b).err:Int))∧zA6 w w' j d x r (zAe [97] D M i b).disk (zAe [97] D M i b).jou D2 M2 G∧Same G w1 w' :=
 py_p (Q:=fun e=>e=.returned (.int .i64 ((zAe [97] D M i b).err:Int))) h fun _ f=>zFX f m i k hn l fun _ g _=>zAb.old o g
theorem py_rcompact (h:zA6 w w1 j d x r D M D2 M2 G)(v:M2.entries.length≤1000000)(i:Int)(q:-9223372036854775808≤i∧i≤9223372036854775807){p:Option Addr}{n c:Nat}{b:Bs}(hn:b.length=n)(t:n≤140737488355328)(l:zAb w (.slice p n c) b) :
  Calls prog 47 #[.pointer (some ⟨x,0,none⟩),.int .i64 i,.slice p n c] w1 fun e w'=>e=.returned (.int .i64 ((zAe [97] D2 M2 i b).err:Int))∧zA6 w w' j d x r D M (zAe [97] D2 M2 i b).disk (zAe [97] D2 M2 i b).jou G∧Same G w1 w' :=
 py_r (Q:=fun e=>e=.returned (.int .i64 ((zAe [97] D2 M2 i b).err:Int))) h fun _ _ m o _=>(rjcompact_calls m v i q hn t (zAb.old l h.bel) fun f k s g=>by
  have y:=zAb.lt l f s;have z:=o k g;omega).mono fun _ _ h=>⟨h.1,h.step⟩
theorem hasI_lt {v:Value}{g:List Int}(h:zBY w v g)(b:g≠[]){k:Nat}(c:v.ownBlock=some k):k<w.heap.size:=by
 obtain⟨o,p,d,rfl,m,l⟩:=h;cases g with
 | nil=>exact absurd rfl b
 | cons z g =>
  cases p with
  | none=>cases c
  | some a =>
   have f:=l a rfl 0 _ rfl;have i:=World.block_lt_of_cell? w _ f;have j:(a.add 0).block=a.block:=by unfold Addr.add;split<;>rfl
   rw[j]at i;have n:k=a.block:=(Option.some.inj c).symm;omega
theorem py_install (h:zA6 w w1 j d x r D M D2 M2 G)(z:M.entries.length≤1000000)(i t:Int)(v:-9223372036854775808≤i∧i≤9223372036854775807){p q:Option Addr}{m e n c:Nat}{g:List Int}{b:Bs}(hn:b.length=n)(y:n≤140737488355328)(k:g.length=m)(f:m≤1099511627776)(s:zBY w (.slice q m e) g)(a:zAb w (.slice p n c) b) :
  Calls prog 38 #[.pointer (some ⟨j,0,none⟩),.int .i64 i,.int .i64 t,.slice q m e,.slice p n c] w1 fun e w'=>e=.returned (.int .i64 ((zAg [97] D M i t g b).err:Int))∧zA6 w w' j d x r (zAg [97] D M i t g b).disk (zAg [97] D M i t g b).jou D2 M2 G∧Same G w1 w' :=
 py_p (Q:=fun e=>e=.returned (.int .i64 ((zAg [97] D M i t g b).err:Int))) h fun _ l=>jinstall_calls l z i t v hn y k f (zAK.chg s (Chg.of_below l.bel) fun _ _=>id) fun _ o _=>zAb.old a o
theorem py_rinstall (h:zA6 w w1 j d x r D M D2 M2 G)(E:M2.entries.length≤1000000)(i t:Int)(C:-9223372036854775808≤i∧i≤9223372036854775807){p q:Option Addr}{m e n c:Nat}{g:List Int}{b:Bs}(hn:b.length=n)(o:g.length≤1099511627776)(v:zBY w (.slice q m e) g)(z:zAb w (.slice p n c) b) :
  Calls prog 48 #[.pointer (some ⟨x,0,none⟩),.int .i64 i,.int .i64 t,.slice q m e,.slice p n c] w1 fun e w'=>e=.returned (.int .i64 ((zAg [97] D2 M2 i t g b).err:Int))∧zA6 w w' j d x r D M (zAg [97] D2 M2 i t g b).disk (zAg [97] D2 M2 i t g b).jou G∧Same G w1 w' :=
 py_r (Q:=fun e=>e=.returned (.int .i64 ((zAg [97] D2 M2 i t g b).err:Int))) h fun _ _ B y _=>(rjinstall_calls B E i t C (zAK.chg v (Chg.of_below h.bel) fun _ _=>id) o (fun f k s l=>by
  have a:=hasI_lt v f s;have A:=y k l;omega) hn (zAb.old z h.bel) fun f k s l=>by
  have a:=zAb.lt z f s;have A:=y k l;omega).mono fun _ _ h=>⟨h.1,h.step⟩
theorem py_fuse (h:zA6 w w1 j d x r D M D2 M2 G)(n:Int)(b:-9223372036854775808≤n)(hn:n≤9223372036854775807) :
  Calls prog 40 #[.pointer (some ⟨d,0,none⟩),.int .i64 n] w1 fun e w'=>e=.returned (.tuple #[])∧zA6 w w' j d x r (D.setFuse n) M D2 M2 G∧Same G w1 w' :=
 py_p (Q:=fun e=>e=.returned (.tuple #[])) h fun _ c=>jou_fuse c n b hn
theorem py_rfuse (h:zA6 w w1 j d x r D M D2 M2 G)(n:Int)(b:-9223372036854775808≤n)(hn:n≤9223372036854775807) :
  Calls prog 49 #[.pointer (some ⟨r,0,none⟩),.int .i64 n] w1 fun e w'=>e=.returned (.tuple #[])∧zA6 w w' j d x r D M (D2.setFuse n) M2 G∧Same G w1 w' :=
 py_r (Q:=fun e=>e=.returned (.tuple #[])) h fun _ _ c _ _=>rj_fuse c n b hn
end
def Own5Told (w:World)(e:Ent)(r:Ending)(w':World):Prop:=∃v:EV,r=.returned (zCf e v)∧zDM w' e v∧(∀k,(v.1.ownBlock=some k∨v.2.ownBlock=some k)→w.heap.size≤k)∧(∀k,v.1.ownBlock=some k→v.2.ownBlock≠some k)∧Below w.heap.size w w'
theorem own5_calls {w:World}{e:Ent}{v:EV}(h:zBH w e v):Calls prog 121 #[zCf e v] w (Own5Told w e):=by
 obtain⟨i0,hi,ay,az,q⟩:=info_parts (show(prog.info? 5).map (fun i=>(i.zero,i.size,i.bytes))=some (some (.int .u8 0),1,1) by kernel_rfl);obtain⟨i1,au,af,ag,ah⟩:=info_parts (show(prog.info? 3).map (fun i=>(i.zero,i.size,i.bytes))=some (some (.int .i64 0),1,8) by kernel_rfl);obtain⟨t,k,c,d⟩:=e;obtain⟨U,v2⟩:=v;have Q:=zAD w (.cells #[.int .i64 t,.int .i64 k,U,v2] 50);have ab:Below w.heap.size w ((w.alloc (.cells #[.int .i64 t,.int .i64 k,U,v2] 50)).alloc (.cells #[.int .i64 0,.int .i64 0,.slice none 0 0,.slice none 0 0] 50)):=Q.alloc Q.size _;have s:((w.alloc (.cells #[.int .i64 t,.int .i64 k,U,v2] 50)).alloc (.cells #[.int .i64 0,.int .i64 0,.slice none 0 0,.slice none 0 0] 50)).heap[w.heap.size]?=some (.cells #[.int .i64 t,.int .i64 k,U,v2] 50 (0,0)):=(zC8 _ _ (by simp)).trans (zAI w _);have F:((w.alloc (.cells #[.int .i64 t,.int .i64 k,U,v2] 50)).alloc (.cells #[.int .i64 0,.int .i64 0,.slice none 0 0,.slice none 0 0] 50)).heap[w.heap.size+1]?=some (.cells #[.int .i64 0,.int .i64 0,.slice none 0 0,.slice none 0 0] 50 (0,0)):=by
  have:=zAI (w.alloc (.cells #[.int .i64 t,.int .i64 k,U,v2] 50)) (.cells #[.int .i64 0,.int .i64 0,.slice none 0 0,.slice none 0 0] 50);simpa using this
 have H:=zh h;have ar:=h.dl;have ax:=h.nl;obtain⟨p1,c1,e1⟩:=h.data.slice;obtain⟨X,W,e2⟩:=h.nodes.slice;have an:U=.slice p1 c.length c1:=e1;have ao:v2=.slice X d.length W:=e2;dsimp only at ar ax;subst an;subst ao;clear e1 e2 h Q;unfold zCf;dsimp only
 go_enter func121,ntmps121
 go_upto_region 1 with(fail)
 generalize (w.alloc (.cells #[.int .i64 t,.int .i64 k,.slice p1 c.length c1,.slice X d.length W] 50)).alloc (.cells #[.int .i64 0,.int .i64 0,.slice none 0 0,.slice none 0 0] 50)=V at *;generalize S:w.heap.size=b at *;have l2:=zAX s;have l3:=zAf s;have E:=zh (And.intro s (And.intro F ab));clear s F ab;have Y:=zh (zAD V (.cells #[] 5));have ac:=(Y.o.block b (zAB E.o.1)).trans E.o.1;have lA:=zAX ac;have B:=zh (zAx V 5);have C:=zW (zAK (V.alloc (.cells #[] 5)) 1 (.slice p1 c.length c1) c.length (zAR c)) (zAb.below (H.o.below (S▸E.o.2.2)).data Y.o);have ae:b+2≤V.heap.size:=by have:=zAB E.o.2.1;omega
 clear ac
 go_upto_region 2 with(at_builtin;refine zAO _ rfl (.tmp 3) (.tmp 5) 22 rfl 5 i0 (.int .u8 0) 1 1 underlying22 hi ay az q rfl (by decide) (.slice (some ⟨V.heap.size,0,none⟩) 0 0) 0 [] rfl B.o (.slice p1 c.length c1) c.length _ rfl C.o (zAN _) (by unfold maxLen;omega) (by omega) ?_;intro v3 w3 n f m;go_loud (have L:=zh (copy_new rfl n f m);clear f m n B C;obtain⟨l,g,e3,-⟩:=zAL L.o.1;subst e3;have G:=zh ((L.o.2.2.block b (zAB E.o.1)).trans E.o.1);have ak:=zh ((L.o.2.2.block (b+1) (zAB E.o.2.1)).trans E.o.2.1);have q2:=zAX G.o;have qf:=zAE G.o 2))
 have A:=zW ((w3.setCell ⟨b,2,none⟩ (.slice l c.length g)).heap[b]?=some (.cells #[.int .i64 t,.int .i64 k,.slice l c.length g,.slice X d.length W] 50 (0,0))) (by simpa using zAC G.o 2 (.slice l c.length g));have M:=zW ((w3.setCell ⟨b,2,none⟩ (.slice l c.length g)).heap[b+1]?=_) ((set_other _ (by show b+1≠b;omega)).trans ak.o);have K:=zh (Chg.setCell w3 ⟨b,2,none⟩ (.slice l c.length g));have O:=zW (∀k,(Value.slice l c.length g).ownBlock=some k→b+2≤k) fun k hk=>Nat.le_trans ae (L.o.2.1 k hk);have N:=zW (zAi (w3.setCell ⟨b,2,none⟩ (.slice l c.length g)) 5 (.slice l c.length g) c) (OwnR.keep L.o.1 fun k hk=>set_other _ (show k≠b by have:=O.o k hk;omega));have aj:=zW (zBY (w3.setCell ⟨b,2,none⟩ (.slice l c.length g)) (.slice X d.length W) d) (holds_keep0 (zAK.chg (H.o.below (S▸E.o.2.2)).nodes (Chg.of_below L.o.2.2) fun _ _=>id) K.o fun aw k hk e=>by
  have h1:=hasI_lt H.o.nodes (fun e=>aw (by have e:d=[]:=e;rw[e];rfl)) hk;have e:k=b:=e;omega)
 clear q2 qf lA l2 l3;generalize w3.setCell ⟨b,2,none⟩ (.slice l c.length g)=P at *;have aA:b+2≤P.heap.size:=by have:=zAB M.o;omega
 have Z:=zh (zAD P (.cells #[] 3));have ad:=(Z.o.block b (zAB A.o)).trans A.o;have lB:=zAf ad;have l3:=zAf A.o;have B:=zh (zAx P 3);have C:=zW (zAK (P.alloc (.cells #[] 3)) 1 (.slice X d.length W) d.length (d.map (Value.int .i64))) (zAK.chg aj.o (Chg.of_below Z.o) fun _ _=>id);clear ad
 go_upto_region 3 with(at_builtin;refine zAO _ rfl (.tmp 8) (.tmp 10) 38 rfl 3 i1 (.int .i64 0) 1 8 underlying38 au af ag ah rfl (by decide) (.slice (some ⟨P.heap.size,0,none⟩) 0 0) 0 [] rfl B.o (.slice X d.length W) d.length _ rfl C.o (fun u hu=>by obtain⟨z,-,rfl⟩:=List.mem_map.1 hu;rfl) (by unfold maxLen;omega) (by omega) ?_;intro v5 w5 n f m;go_loud (have J:=zh (zC0 n f m);clear f m n B C;obtain⟨y,r,e5⟩:=OwnR.shape J.o.1;subst e5;have I:=zh ((J.o.2.2.block b (zAB A.o)).trans A.o);have al:=zh ((J.o.2.2.block (b+1) (zAB M.o)).trans M.o);have q3:=zAf I.o;have qf:=zAE I.o 3))
 have ai:=zh (Chg.setCell w5 ⟨b,3,none⟩ (.slice y d.length r));have D:(w5.setCell ⟨b,3,none⟩ (.slice y d.length r)).heap[b]?=some (.cells #[.int .i64 t,.int .i64 k,.slice l c.length g,.slice y d.length r] 50 (0,0)):=by simpa using zAC I.o 3 (.slice y d.length r)
 have p:(w5.setCell ⟨b,3,none⟩ (.slice y d.length r)).heap[b+1]?=some (.cells #[.int .i64 0,.int .i64 0,.slice none 0 0,.slice none 0 0] 50 (0,0)):=(set_other _ (by show b+1≠b;omega)).trans al.o;clear q3 qf lB l3;generalize w5.setCell ⟨b,3,none⟩ (.slice y d.length r)=W5 at *;have d0:=zAU D;have d1:=zAY D;have d2:=zAX D;have d3:=zAf D;have e0:=zAU p;have e1:=zAY p;have e2:=zAX p;have e3:=zAf p;have fr:=zAE p;have am:=zh p;clear D p;go_wp2_with fail;have q:((((W5.setCell ⟨b+1,0,none⟩ (.int .i64 t)).setCell ⟨b+1,1,none⟩ (.int .i64 k)).setCell ⟨b+1,2,none⟩ (.slice l c.length g)).setCell ⟨b+1,3,none⟩ (.slice y d.length r)).heap[b+1]?=some (.cells #[.int .i64 t,.int .i64 k,.slice l c.length g,.slice y d.length r] 50 (0,0)):=by
  have h1:=zAC am.o 0 (.int .i64 t);have h2:=zAC h1 1 (.int .i64 k);have h3:=zAC h2 2 (.slice l c.length g);have h4:=zAC h3 3 (.slice y d.length r);simpa using h4
 have HG:=zW (Chg (fun j=>j=b+1) W5 ((((W5.setCell ⟨b+1,0,none⟩ (.int .i64 t)).setCell ⟨b+1,1,none⟩ (.int .i64 k)).setCell ⟨b+1,2,none⟩ (.slice l c.length g)).setCell ⟨b+1,3,none⟩ (.slice y d.length r))) ((((Chg.setCell W5 ⟨b+1,0,none⟩ _).trans (Chg.setCell _ ⟨b+1,1,none⟩ _) fun _ _ e=>e).trans (Chg.setCell _ ⟨b+1,2,none⟩ _) fun _ _ e=>e).trans (Chg.setCell _ ⟨b+1,3,none⟩ _) fun _ _ e=>e);clear d0 d1 d2 d3 e0 e1 e2 e3 fr;generalize (((W5.setCell ⟨b+1,0,none⟩ (.int .i64 t)).setCell ⟨b+1,1,none⟩ (.int .i64 k)).setCell ⟨b+1,2,none⟩ (.slice l c.length g)).setCell ⟨b+1,3,none⟩ (.slice y d.length r)=W6 at *;have z0:=zAU q;have z1:=zAY q;have z2:=zAX q;have z3:=zAf q;have HE:=zW (Own5Told w ⟨t,k,c,d⟩ (.returned (zCf ⟨t,k,c,d⟩ (.slice l c.length g,.slice y d.length r))) W6) (by
  have hC:Chg (fun j=>j=b∨j=b+1) w5 W6:=(ai.o.mono fun _ _ e=>.inl e).trans (HG.o.mono (T:=fun j=>j=b∨j=b+1) fun _ _ e=>.inr e) fun _ _ e=>e;have aa:Chg (fun j=>j=b∨j=b+1) P W6:=((Chg.of_below J.o.2.2).mono fun _ _ e=>e.elim).trans hC fun _ _ e=>e;have R:∀k,(Value.slice y d.length r).ownBlock=some k→P.heap.size≤k:=J.o.2.1;refine⟨(.slice l c.length g,.slice y d.length r),rfl,⟨OwnR.keep N.o fun j a=>aa.block j (OwnR.lt N.o a) fun e=>?_,OwnR.keep J.o.1 fun j a=>hC.block j (OwnR.lt J.o.1 a) fun e=>?_⟩,fun j a=>?_,fun j a av=>?_,?_⟩
  ·have:=O.o j a;omega
  ·have:=R j a;omega
  ·rcases a with a|a
   ·have:=O.o j a;omega
   ·have:=R j a;omega
  ·have h1:=R j av;have h2:=OwnR.lt N.o a;omega
  ·have ap:Below w.heap.size w V:=by rw[S];exact E.o.2.2
   have aq:Chg (fun j=>j=b∨j=b+1) w W6:=(((Chg.of_below ap).mono fun _ _ e=>e.elim).trans ((Chg.of_below L.o.2.2).mono fun _ _ e=>e.elim) fun _ _ e=>e).trans ((K.o.mono fun _ _ e=>.inl e).trans aa fun _ _ e=>e) fun _ _ e=>e;exact aq.below (Nat.le_refl _) fun i hi e=>by omega)
 (try simp only[Exit.inBlock,Exit.then])
 refine bodyPost_ret (results_cell_row rfl _ W6 (b+1) _ _ (0,0) _ rfl q underlying50 rfl (by kernel_rfl)) rfl ?_;exact HE.o
theorem spoil5_calls {w:World}{v:Value}{l:Bs}(h:zAi w 5 v l)(hl:l.length≤1099511627776) :
  Calls prog 122 #[v] w fun e w'=>e=.returned (.tuple #[])∧Chg (fun k=>v.ownBlock=some k) w w':=by
 obtain⟨X,U,J,L,M⟩:=info_parts (show(prog.info? 5).map (fun i=>(i.zero,i.size,i.bytes))=some (some (.int .u8 0),1,1) by kernel_rfl);obtain⟨p,c,rfl⟩:=OwnR.shape h;generalize hn:l.length=n at *;have N:=zh (zAD w (.cells #[.int .u8 99] 5));have r:=zW (OwnR (w.alloc (.cells #[.int .u8 99] 5)) 5 1 (.slice p n c) n (zAR l)) (by
  have O:OwnR w 5 1 (.slice p n c) n (zAR l):=by unfold zAi at h;rwa[hn]at h
  exact O.keep fun k G=>N.o.block k (OwnR.lt O G))
 have s:=zh (zDG w (.int .u8 99) 5 (0,0));clear h hn
 go_enter func122,ntmps122
 go_upto_region 1 with(at_builtin;refine zAO _ rfl (.tmp 4) (.tmp 5) 22 rfl 5 X (.int .u8 0) 1 1 underlying22 U J L M rfl (by decide) (.slice p n c) n _ rfl r.o (.slice (some ⟨w.heap.size,0,none⟩) 1 1) 1 _ rfl s.o (by simp[Value.oneCell']) (by unfold maxLen;omega) (by omega) ?_;intro v3 w3 d b f;go_loud (have Q:=zh (And.intro d (And.intro b f));clear b f;obtain⟨p3,Y,A⟩:=OwnR.shape d;subst A;clear d r s))
 obtain⟨d,b,f⟩:=Q.o;have t:Chg (fun k=>(Value.slice p n c).ownBlock=some k) w w3:=((Chg.of_below N.o).mono fun _ _ e=>e.elim).trans ((Chg.of_grown b).mono fun _ _ e=>e.symm) fun _ _ e=>e;have I:w.heap.size<(w.alloc (.cells #[.int .u8 99] 5)).heap.size:=by simp
 rcases d.2 with⟨-,K⟩|⟨g,S,cur,A,q,H,E,F,-⟩
 ·omega
 simp only[Value.slice.injEq]at A;obtain⟨rfl,-,rfl⟩:=A;have y:∀k,k<w.heap.size→k=g→(Value.slice p n c).ownBlock=some k:=fun k G e=>by
  subst e;rcases f with D|⟨g2,D,T⟩
  ·rw[←D];rfl
  ·have Z:k=g2:=Option.some.inj D;omega
 have C:=zh y;have R:=zW (∃cur:Array Value,w3.heap[g]?=some (.cells cur 5 (0,0))∧n+1≤cur.size) (⟨cur,q,by omega⟩);have P:=zh t;clear d b f t q y I H E F;go_wp2_with fail
 go_loopw [3] (fun i wr=>∃k:Nat,k≤n+1∧i=.int .i64 k∧Chg (fun k=>(Value.slice p n c).ownBlock=some k) w wr∧∃cur:Array Value,wr.heap[g]?=some (.cells cur 5 (0,0))∧n+1≤cur.size) (fun i _=>n+1-(intOf i).toNat)
 case atStart=>exact⟨0,Nat.zero_le _,rfl,P.o,R.o⟩
 case round =>
  obtain⟨k,G,rfl,B,cur,q,m⟩:=hrel
  by_cases W:k<n+1
  ·have z:k<cur.size:=by omega
   have kc:wr.cell? ⟨g,k,none⟩=some cur[k]:=zAG q (by simp[z]);have kf:=zAE q k;have a:=zh (And.intro (B.trans (Chg.setCell wr ⟨g,k,none⟩ (.int .u8 98)) fun j V e=>C.o j V e) (show ∃cur:Array Value,(wr.setCell ⟨g,k,none⟩ (.int .u8 98)).heap[g]?=some (.cells cur 5 (0,0))∧n+1≤cur.size from⟨_,zAC q k (.int .u8 98),by simpa using m⟩));generalize cur[k]=u at *;clear B q m z;go_wp2_with fail;go_roundw
   case rel=>exact⟨k+1,by omega,by go_num,a.o.1,a.o.2⟩
   case measure=>simp[intOf];omega
  ·have a:=zh B;clear B q m;go_wp2_with fail
   go_end0
   exact⟨rfl,a.o⟩
structure zEi (W0 w:World)(v:Value)(es:List Ent)(us:List EV):Prop where
 len:us.length=es.length
 row:OwnR w 50 4 v es.length (zA3 es us)
 vnew:∀k,v.ownBlock=some k→W0.heap.size≤k
 ent:∀(i:Nat) e u,es[i]?=some e→us[i]?=some u→zDM w e u
 new:∀(i:Nat) u,us[i]?=some u→∀k,(u.1.ownBlock=some k∨u.2.ownBlock=some k)→W0.heap.size≤k∧v.ownBlock≠some k
 dis:∀(i i':Nat) u u',i≠i'→us[i]?=some u→us[i']?=some u'→∀k,u.1.ownBlock=some k→¬(u'.1.ownBlock=some k∨u'.2.ownBlock=some k)
 one:∀(i:Nat) u,us[i]?=some u→∀k,u.1.ownBlock=some k→u.2.ownBlock≠some k
 bel:Below W0.heap.size W0 w
theorem zEi.nil (c:World):zEi c c (.slice none 0 0) [] [] where
 len:=rfl
 row:=OwnR.nil _ _ _
 vnew:=fun k f=>by cases f
 ent:=fun i e u d=>by simp at d
 new:=fun i u b=>by simp at b
 dis:=fun i g u j _ b=>by simp at b
 one:=fun i u b=>by simp at b
 bel:=Below.refl _ _
theorem zEi.lt {d w:World}{v:Value}{es:List Ent}{c:List EV}(h:zEi d w v es c){i:Nat}{u:EV}(b:c[i]?=some u){k:Nat}(g:u.1.ownBlock=some k∨u.2.ownBlock=some k):k<w.heap.size:=by
 have f:=(List.getElem?_eq_some_iff.1 b).1;exact(h.ent i _ u (List.getElem?_eq_getElem (by rw[←h.len];exact f)) b).lt g
theorem zFK {α:Type}{l:List α}{a b:α}{i:Nat}(h:(l++[a])[i]?=some b):l[i]?=some b∨(i=l.length∧b=a):=by
 by_cases f:i<l.length
 ·rw[List.getElem?_append_left f]at h;exact .inl h
 ·rw[List.getElem?_append_right (by omega)]at h;have c:=(List.getElem?_eq_some_iff.1 h).1;simp at c;have d:i-l.length=0:=by omega
  rw[d]at h;simp at h;exact .inr ⟨by omega,h.symm⟩
theorem zEi.push {R w w2 F w3:World}{v v3:Value}{es:List Ent}{E:List EV}{e:Ent}{u:EV}(h:zEi R w v es E)(o:Below w.heap.size w w2)(H:zDM w2 e u)(d:∀k,(u.1.ownBlock=some k∨u.2.ownBlock=some k)→w.heap.size≤k)(a:∀k,u.1.ownBlock=some k→u.2.ownBlock≠some k)
  (j:Below w2.heap.size w2 F) (A:OwnR w3 50 4 v3 (es.length+1) (zA3 es E++zEq e u)) (W:F.grownBy w3 v.ownBlock) (t:v3.ownBlock=v.ownBlock∨∃g,v3.ownBlock=some g∧F.heap.size≤g):zEi R w3 v3 (es++[e]) (E++[u]):=by
 have Q:=o.size;have Y:=j.size;have P:=h.bel.size;have l:=Chg.of_grown W;have X:=l.size;have n:∀k,v.ownBlock=some k→k<w.heap.size:=fun k b=>OwnR.lt h.row b;have q:∀k,v3.ownBlock=some k→v.ownBlock=some k∨F.heap.size≤k:=fun k b=>by
  rcases t with e|⟨g,e,M⟩
  ·exact .inl (e▸b)
  ·rw[b]at e;cases e;exact .inr M
 have z:∀k,k<w.heap.size→v.ownBlock≠some k→w3.heap[k]?=w.heap[k]?:=fun k b p=>((l.block k (by omega) fun e=>p e.symm).trans (j.block k (by omega))).trans (o.block k b);have s:(es++[e]).length=es.length+1:=by simp
 have B:E.length=es.length:=h.len;refine⟨by simp[h.len],?_,fun k b=>?_,fun i f y G c=>?_,fun i y c k b=>?_,fun i Z y K p c C k b=>?_,fun i y c k b=>?_,?_⟩
 ·rw[s,zEr es E [e] [u] h.len,show zA3 [e] [u]=zEq e u by simp[zA3]];exact A
 ·rcases q k b with e|e
  ·exact h.vnew k e
  ·omega
 ·rcases zFK c with c|⟨T,rfl⟩
  ·have O:i<es.length:=by rw[←B];exact(List.getElem?_eq_some_iff.1 c).1
   rw[List.getElem?_append_left O]at G;exact(h.ent i f y G c).keep fun k b=>z k (h.lt c b) (h.new i y c k b).2
  ·have L:f=e:=by
    rw[T,B]at G;simpa using G.symm
   subst L;exact H.keep fun k b=>(l.block k (by have:=H.lt b;omega) fun e=>by have I:=d k b;have J:=n k e.symm;omega).trans (j.block k (H.lt b))
 ·rcases zFK c with c|⟨-,rfl⟩
  ·refine⟨(h.new i y c k b).1,fun e=>?_⟩;rcases q k e with e|e
   ·exact(h.new i y c k b).2 e
   ·have:=h.lt c b;omega
  ·refine⟨by have:=d k b;omega,fun e=>?_⟩;rcases q k e with e|e
   ·have I:=d k b;have J:=n k e;omega
   ·have:=H.lt b;omega
 ·rcases zFK c with D|⟨T,U⟩
  ·rcases zFK C with r|⟨N,S⟩
   ·exact h.dis i Z y K p D r k b
   ·intro m;rw[S]at m;have I:=h.lt D (.inl b);have J:=d k m;omega
  ·rw[U]at b;rcases zFK C with r|⟨N,S⟩
   ·intro m;have I:=h.lt r m;have J:=d k (.inl b);omega
   ·omega
 ·rcases zFK c with c|⟨-,rfl⟩
  ·exact h.one i y c k b
  ·exact a k b
 ·refine h.bel.trans ((o.trans (j.mono Q)).mono P |>.trans ?_);have V:Chg (fun k=>v.ownBlock=some k) F w3:=l.mono fun _ _ e=>e.symm;exact V.below (by omega) fun k b e=>by have:=h.vnew k e;omega
theorem zEi.keep {d w W:World}{v:Value}{es:List Ent}{j:List EV}(h:zEi d w v es j)(g:∀k,d.heap.size≤k→k<w.heap.size→W.heap[k]?=w.heap[k]?)(m:∀e∈es,e.data.length≤6000∧e.nodes.length≤6000):zCG W v es j:=by
 refine⟨h.len,OwnR.holds (OwnR.keep h.row fun k b=>g k (h.vnew k b) (OwnR.lt h.row b)),fun i e u f c=>?_⟩;have l:=(h.ent i e u f c).keep fun k b=>g k (h.new i u c k b).1 (h.lt c b);have n:=m e (List.mem_of_getElem? f);exact l.has (by omega) (by omega)
theorem zCG.below {w W:World}{v:Value}{es:List Ent}{c:List EV}(h:zCG w v es c)(b:Below w.heap.size w W):zCG W v es c :=
 ⟨h.1,zAK.chg h.2.1 (Chg.of_below b) fun _ _=>id,fun i e u d f=>(h.2.2 i e u d f).below b⟩
section
variable {w w1:World} {j d x r:Nat} {D D2:zAA} {M M2:zAJ} {G:Nat→Prop}
theorem py_append (h:zA6 w w1 j d x r D M D2 M2 G){p:Option Addr}{n c:Nat}{es:List Ent}{vs:List EV}(s:∀W,Same G w1 W→zCG W (.slice p n c) es vs)(hn:n≤1000000) :
  Calls prog 22 #[.pointer (some ⟨j,0,none⟩),.slice p n c] w1 fun e w'=>e=.returned (.int .i64 ((zAn [97] D M es).err:Int))∧zA6 w w' j d x r (zAn [97] D M es).disk (zAn [97] D M es).jou D2 M2 G∧Same G w1 w':=by
 obtain⟨F,l,b,o,q,g,m⟩:=h;refine(zF5 o (es:=es) (vs:=vs) (fun W _ i=>s W fun k g=>i k (m k g).1) hn).mono ?_;rintro e w' ⟨rfl,f,i⟩;exact⟨rfl,⟨F,l,b,f,q.same fun k h=>⟨i k (g k h).1,f.flt (g k h).1⟩,g,m⟩,fun k h=>i k (m k h).1⟩
theorem py_rappend (h:zA6 w w1 j d x r D M D2 M2 G){p:Option Addr}{n c:Nat}{es:List Ent}{vs:List EV}(s:zCG w (.slice p n c) es vs)(hn:n≤1000000) :
  Calls prog 44 #[.pointer (some ⟨x,0,none⟩),.slice p n c] w1 fun e w'=>e=.returned (.int .i64 ((zAn [97] D2 M2 es).err:Int))∧zA6 w w' j d x r D M (zAn [97] D2 M2 es).disk (zAn [97] D2 M2 es).jou G∧Same G w1 w' :=
 py_r (Q:=fun e=>e=.returned (.int .i64 ((zAn [97] D2 M2 es).err:Int))) h fun t _ z q _=>(rjappend_calls z (es:=es) (vs:=vs) (fun W A=>s.below (h.bel.trans (A.below h.bel.size fun k E e=>by have:=q k e;omega))) (fun g b o e=>by
  cases es with
  | nil=>exact absurd rfl g
  | cons y ys =>
   obtain⟨B,F,v,l,-,f,-⟩:=s.ent (i:=0) (by simp);rw[e]at l;cases l;have m:=World.block_lt_of_cell? w _ f;intro a;have C:=q b a;have m:b<w.heap.size:=m;omega) hn).mono fun _ _ h=>⟨h.1,h.step⟩
end
def OwnL (w:World)(v:Value)(es:List Ent)(b:List EV)(k:Nat):Prop:=OwnR w 50 4 v es.length (zA3 es b)∧∀(i:Nat) e u,k≤i→es[i]?=some e→b[i]?=some u→zDM w e u
theorem zA2 {w w':World}{a:Addr}{v:Value}(h:Below w.heap.size w w')(b:w.cell? a=some v):w'.cell? a=some v :=
 (h.cell (World.block_lt_of_cell? w _ b)).trans b
theorem zEi.loop0 {d w W:World}{v:Value}{es:List Ent}{g:List EV}(h:zEi d w v es g)(f:∀k,d.heap.size≤k→k<w.heap.size→W.heap[k]?=w.heap[k]?):OwnL W v es g 0 :=
 ⟨OwnR.keep h.row fun k b=>f k (h.vnew k b) (OwnR.lt h.row b),fun i e u _ j c=>(h.ent i e u j c).keep fun k b=>f k (h.new i u c k b).1 (h.lt c b)⟩
theorem OwnL.next {w w':World}{v:Value}{es:List Ent}{j:List EV}{k:Nat}(h:OwnL w v es j k)(c:Below w.heap.size w w'):OwnL w' v es j k :=
 ⟨OwnR.keep h.1 fun _ b=>c.block _ (OwnR.lt h.1 b),fun i e u f d g=>(h.2 i e u f d g).keep fun _ b=>c.block _ ((h.2 i e u f d g).lt b)⟩
theorem zEi.spoilt {m o w w':World}{v:Value}{es:List Ent}{d:List EV}{k:Nat}{u:EV}(h:zEi m o v es d)(c:OwnL w v es d k)(l:d[k]?=some u)(g:Chg (fun z=>u.1.ownBlock=some z) w w'):OwnL w' v es d (k+1) :=
 ⟨OwnR.keep c.1 fun z b=>g.block z (OwnR.lt c.1 b) fun e=>(h.new k u l z (.inl e)).2 b,
  fun i e y p j f=>(c.2 i e y (by omega) j f).keep fun z b=>g.block z ((c.2 i e y (by omega) j f).lt b) fun n=>h.dis k i u y (by omega) l f z n b⟩
theorem zEi.moved {f l w W:World}{v:Value}{es:List Ent}{d:List EV}{k:Nat}(h:zEi f l v es d)(g:OwnL w v es d k)(j:∀z,f.heap.size≤z→z<l.heap.size→W.heap[z]?=w.heap[z]?):OwnL W v es d k :=
 ⟨OwnR.keep g.1 fun z b=>j z (h.vnew z b) (OwnR.lt h.row b),fun i e u n m c=>(g.2 i e u n m c).keep fun z b=>j z (h.new i u c z b).1 (h.lt c b)⟩
theorem OwnL.ent {w:World}{p:Option Addr}{n c:Nat}{es:List Ent}{f:List EV}{k:Nat}(h:OwnL w (.slice p n c) es f k)(g:f.length=es.length)(t:k<es.length):∃b o u,p=some ⟨b,o,none⟩∧f[k]?=some u∧zDM w es[k] u ∧
  w.cell? ⟨b,o+k*4,none⟩=some (.int .i64 es[k].term)∧w.cell? ⟨b,o+k*4+1,none⟩=some (.int .i64 es[k].kind)∧w.cell? ⟨b,o+k*4+2,none⟩=some u.1∧w.cell? ⟨b,o+k*4+3,none⟩=some u.2:=by
 have s:=OwnR.holds h.1;obtain⟨a,z,l⟩:=OwnR.shape h.1;simp only[Value.slice.injEq]at l;obtain⟨rfl,rfl,rfl⟩:=l;have i:f[k]?=some (f[k]'(by omega)):=List.getElem?_eq_getElem _;generalize f[k]'(by omega)=v at i;have q:=List.getElem?_eq_getElem t;have j:zA3 es f≠[]:=fun e=>by
  have:=zDx es f g;rw[e]at this;simp at this;omega
 obtain⟨b,o,rfl,r⟩:=holds_at4 s j;have d:∀(m:Nat) u,(zEq es[k] v)[m]?=some u→w.cell? ⟨b,o+(k*4+m),none⟩=some u:=fun m u y=>r _ _ (zEJ _ _ k _ v q i m u y);exact⟨b,o,v,rfl,i,h.2 k _ v (Nat.le_refl _) q i,d 0 _ rfl,d 1 _ rfl,d 2 _ rfl,d 3 _ rfl⟩
end Go.Proofs.YtapfnehdgailmaaGreat
namespace Go.Proofs.YtapfnehdgailmaaGreat
open Go.RowKit Go.Sat Go.ChangeShapes Go.WideShapes Go.ChangeAt Go.Deep
section
variable {H:Type} {enc:TypeId×Value→H} {P:Program} {W:World}
theorem bulk_pos (d:DataW H):1≤Rows.uptoBulk d:=by
 cases d with
 | lit l=>cases l<;>simp[Rows.uptoBulk]
 | _=>simp[Rows.uptoBulk]
theorem bulk_mem {d:DataW H}:∀{l:List (DataW H)},d∈l→Rows.uptoBulk d≤Rows.uptoBulkAll l
 | [],h=>by simp at h
 | x::r,h=>by
  simp only[Rows.uptoBulkAll];rcases List.mem_cons.1 h with rfl|h
  ·omega
  ·have:=bulk_mem h;omega
theorem bulk_len:∀l:List (DataW H),l.length≤Rows.uptoBulkAll l
 | []=>Nat.zero_le _
 | x::r=>by
  have b:=bulk_len r;have c:=bulk_pos x;simp only[Rows.uptoBulkAll,List.length_cons];omega
theorem bulk_slice (l r:List (DataW H)):Rows.uptoBulkAll l≤Rows.uptoBulk (.slice l r):=by simp only[Rows.uptoBulk];omega
theorem bulk_agg (l:List (DataW H)):Rows.uptoBulkAll l≤Rows.uptoBulk (.agg l):=by simp only[Rows.uptoBulk];omega
theorem slice_bulk {t e:TypeId}{fuel:Nat}{a:Option Addr}{b g:Nat}{d:DataW H}{ps:List MemPlace}(q:P.underlying t=some (.slice e))(o:DataW.trod enc P W 0 (fun _=>true) true fuel t [.slice a b g]=some (d,ps)):b≤Rows.uptoBulk d:=by
 rcases open_slice q o with⟨f,-⟩|⟨x,l,c,m,n,D,Pl,f,-,v,y,p,k,s⟩
 ·simp only[List.cons.injEq,Value.slice.injEq,and_true]at f;omega
 ·simp only[List.cons.injEq,Value.slice.injEq,and_true]at f;obtain⟨rfl,rfl,rfl⟩:=f;obtain⟨rfl,-⟩:=Prod.mk.inj k;have i:=bulk_len ((List.range b).map D);have r:=bulk_slice ((List.range b).map D) ((List.range (m-b)).map fun j=>D (b+j));rw[List.length_map,List.length_range]at i;omega
def FieldAt (enc:TypeId×Value→H)(P:Program)(W:World)(B K:Nat)(a:Addr)(t:TypeId):Prop :=
 ∃(v:Value) (fuel:Nat) (d:DataW H) (ps:List MemPlace),W.cell? a=some v∧DataW.trod enc P W 0 (fun _=>true) true fuel t [v]=some (d,ps)∧(∀m∈d.weights P t,m≤B)∧Rows.uptoBulk d≤K
theorem open_recs {t e:TypeId}{q:Array Field}{fuel:Nat}{a:Option Addr}{b A B:Nat}{d:DataW H}{ps:List MemPlace}(J:P.underlying t=some (.slice e))(R:P.underlying e=some (.struct q))
  (y:oneCellFields P q=true) (T:P.cellsOf e=q.size) (X:DataW.trod enc P W 0 (fun _=>true) true fuel t [.slice a b A]=some (d,ps)) (S:∀n∈d.weights P t,n≤B) :
  (a=none∧b=0)∨∃x,a=some x∧b*P.bytesOf e≤B∧∀i,i<b→∀j f,q[j]?=some f→FieldAt enc P W B (Rows.uptoBulk d) (x.add (i*q.size+j)) f.type:=by
 rcases open_slice J X with⟨g,-⟩|⟨x,l,c,m,n,D,Pl,g,-,hl,hm,I,V,Y⟩
 ·simp only[List.cons.injEq,Value.slice.injEq,and_true]at g;exact .inl ⟨g.1,g.2.1⟩
 ·simp only[List.cons.injEq,Value.slice.injEq,and_true]at g;obtain⟨rfl,rfl,rfl⟩:=g;obtain⟨rfl,-⟩:=Prod.mk.inj V;have Z:b≤m:=by rw[I];split<;>omega
  have O:=zE8 J S;simp only[List.length_map,List.length_range]at O;refine .inr ⟨x,rfl,Nat.le_trans (Nat.mul_le_mul_right _ (Nat.le_add_right _ _)) O,fun i E j f h=>?_⟩;obtain⟨r,Q,L⟩:=Y i (by omega);rw[T]at Q;obtain⟨_,U,C⟩:=World.cells?_some Q;obtain⟨p,n',-,hy,-,aa,s⟩:=DataW.trod_struct R L;obtain⟨N,-⟩:=Prod.mk.inj hy;have F:j<q.size:=(Array.getElem?_eq_some_iff.1 h).1;obtain⟨K,G⟩:=hone_of y j f h;have M:=s j f h;rw[K,G,List.drop_eq_getElem_cons (show j<r.length by omega),List.take_succ_cons,List.take_zero,List.getElem?_eq_getElem (show j<p.length by omega)]at M;have o:=C j F;rw[Go.Deep.add_add,List.getElem?_eq_getElem (show j<r.length by omega)]at o;have v:D i∈(List.range b).map D:=List.mem_map.2 ⟨i,List.mem_range.2 E,rfl⟩;have z:(p.map (·.1))[j]?=some (p[j]'(by omega)).1:=by
   rw[List.getElem?_map,List.getElem?_eq_getElem (show j<p.length by omega)];rfl
  refine⟨_,n',(p[j]'(by omega)).1,(p[j]'(by omega)).2,o,M,fun k G=>?_,?_⟩
  rotate_left
  ·have k1:=bulk_mem (List.mem_of_getElem? z);have k2:=bulk_agg (p.map (·.1));have k3:=bulk_mem v;have k4:=bulk_slice ((List.range b).map D) ((List.range (m-b)).map fun j=>D (b+j));rw[N]at k3;omega
  refine weights_elem J S v k ?_;rw[N];simp only[DataW.weights,R];refine DataW.weights_mem_each (j:=j) (t:=f.type) (d:=(p[j]'(by omega)).1) ?_ z k G;rw[List.getElem?_map,Array.getElem?_toList,h];rfl
theorem zEt {a:Addr}{t:TypeId}{k:IntKind}{B K:Nat}(g:P.underlying t=some (.int k))(h:FieldAt enc P W B K a t):∃n,W.cell? a=some (.int k n)∧(Lit.int k n).wf=true:=by
 obtain⟨v,fuel,d,ps,f,b,-⟩:=h;obtain⟨n,e,-,c⟩:=DataW.trod_int g b;cases e;exact⟨n,f,c⟩
end
section
variable {H:Type} {enc:TypeId×Value→H} {W:World}
theorem zDs {P:Program}{t e:TypeId}{fuel:Nat}{v:Value}{x:DataW H×List MemPlace}(f:P.underlying t=some (.slice e))(h:DataW.trod enc P W 0 (fun _=>true) true fuel t [v]=some x):∃a d c,v=.slice a d c:=by
 rcases open_slice f h with⟨b,-⟩|⟨a,d,c,_,_,_,_,b,-⟩<;>(simp only[List.cons.injEq,and_true]at b;exact⟨_,_,_,b⟩)
theorem field_bytes {a:Addr}{K:Nat}(h:FieldAt enc prog W reachBytes K a 22):∃p n c l,W.cell? a=some (.slice p n c)∧zAb W (.slice p n c) l∧l.length≤140737488355328∧l.length≤K:=by
 obtain⟨v,fuel,d,ps,i,b,k,j⟩:=h;obtain⟨p,n,c,rfl⟩:=zDs underlying22 b;obtain⟨l,f,hn⟩:=bytes_arg b k;have g:=slice_bulk underlying22 b;obtain⟨o,m,e⟩:=f.slice;cases e;exact⟨p,_,c,l,i,f,hn,Nat.le_trans g j⟩
end
section
variable {H:Type} {enc:TypeId×Value→H} {W:World} {fuel:Nat} {d:DataW H} {ps:List MemPlace}
theorem ints_arg {a:Option Addr}{b j:Nat}(y:DataW.trod enc prog W 0 (fun _=>true) true fuel 38 [.slice a b j]=some (d,ps))(A:∀n∈d.weights prog 38,n≤reachBytes) :
  ∃l:List Int,zBY W (.slice a b j) l∧l.length=b∧b≤17592186044416∧∀z∈l,-9223372036854775808≤z∧z≤9223372036854775807:=by
 rcases open_ints underlying38 underlying3 (by kernel_rfl) y with⟨f,_⟩|⟨x,l,c,zs,f,_,C,D,r,t,k,q⟩
 ·simp at f;obtain⟨rfl,rfl,rfl⟩:=f;exact⟨[],⟨by simp,none,0,rfl,fun _=>rfl,fun a m=>by cases m⟩,rfl,by decide,fun z r=>by cases r⟩
 ·simp at f;obtain⟨rfl,rfl,rfl⟩:=f;simp only[if_true]at r;simp only[Prod.mk.injEq]at t;obtain⟨rfl,_⟩:=t;have o:=zE8 underlying38 A;rw[show prog.bytesOf 3=8 by kernel_rfl]at o;simp only[lits,List.length_map,List.length_take,List.length_drop]at o;have g:(zs.take b).length=b:=by rw[List.length_take];omega
  refine⟨zs.take b,⟨by simp,some x,j,by rw[g],fun e=>(by cases e),fun B m i u p=>?_⟩,g,by unfold reachBytes at o;omega,fun z s=>?_⟩
  ·cases m;have h:i<b:=by
    have:=(List.getElem?_eq_some_iff.1 p).1;rw[List.length_map,g]at this;exact this
   rw[k i (by omega)];have v:zs.getD i 0=zs[i]'(by omega):=by simp[List.getD,List.getElem?_eq_getElem (show i<zs.length by omega)]
   rw[List.getElem?_map,List.getElem?_take,if_pos h,List.getElem?_eq_getElem (show i<zs.length by omega),Option.map_some]at p;rw[v];exact p
  ·have:=bounds_i64 (q z (List.mem_of_mem_take s));exact⟨this.1,this.2⟩
end
end Go.Proofs.YtapfnehdgailmaaGreat
