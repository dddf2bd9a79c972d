/- What the program's functions and the document's do, and plain laws, for PJournalPlays. -/
import Derived.BigQuiet
import Derived.ChangeOld
import Derived.Deep.LoopGhost
import Derived.Deep.Matrix
import Derived.Deep.QuietTactic
import Derived.OpenShut
import Derived.ProofKit
import Derived.ShutString
import Derived.SizedLaws
import Derived.Test.YtapfnehdgailmaaGreatChecked
import Derived.Test.YtapfnehdgailmaaGreatJA
import Derived.Test.YtapfnehdgailmaaGreatRows
import Derived.Test.YtapfnehdgailmaaGreatJShelf
open Go.Proofs.Tryz
set_option maxRecDepth 100000
set_option maxHeartbeats 64000000
namespace Go.Sat
open Go
section
variable {P:Program} {l:List Oper} {Q:Exit→Act→World→Prop} {md:Region.Mode} {S:World→Prop} {fuel:Nat} {listed:Array Bool} {a:Act} {w:World}
theorem otk (i:Nat){o:Oper}{r:List Oper}{v:Value}(d:l.drop i=o::r)(h:wpAnyH P md l.toArray Q S fuel (listed.setIfInBounds i true) (a.put o.dst v) w)
  (f:Region.noSelect l.toArray=true:=by kernel_rfl) (hf:Region.free md l.toArray listed i=true:=by kernel_rfl) (hr:(Region.ready md l.toArray listed).contains i=true:=by kernel_rfl)
  (hQ:∀c a w,Q (.panic c) (a.put o.dst v) w→Q (.panic c) a w:=by exact fun _ _ _ h=>h) (hw:Region.wanted o (yielded l.toArray a.tmps)=true:=by rfl) (hS:S w:=by assumption)
  (hy:∀w,S w→(execOp a.eval o).run P w=.ok (.value v) w:=by(intro w b;(try dsimp only at b);go_simp;try with_reducible rfl)):wpAnyH P md l.toArray Q S (fuel+1) listed a w :=
 zBb i d f hf hr hQ hw hS hy h
theorem otc (i:Nat){o:Oper}{r:List Oper}{v:Value}(b:l.drop i=o::r)(f:∀w,S w→(execOp a.eval o).run P w=.ok (.value v) w)(h:wpAnyH P md l.toArray Q S fuel (listed.setIfInBounds i true) (a.put o.dst v) w)
  (d:Region.noSelect l.toArray=true:=by kernel_rfl) (hf:Region.free md l.toArray listed i=true:=by kernel_rfl) (hr:(Region.ready md l.toArray listed).contains i=true:=by kernel_rfl)
  (hQ:∀c a w,Q (.panic c) (a.put o.dst v) w→Q (.panic c) a w:=by exact fun _ _ _ h=>h) (hw:Region.wanted o (yielded l.toArray a.tmps)=true:=by rfl) (hS:S w:=by assumption):wpAnyH P md l.toArray Q S (fuel+1) listed a w :=
 zBb i b d hf hr hQ hw hS f h
theorem osk (i:Nat){o:Oper}{r:List Oper}(b:l.drop i=o::r)(h:wpAnyH P md l.toArray Q S fuel (listed.setIfInBounds i true) (a.put o.dst undef) w)
  (d:Region.noSelect l.toArray=true:=by kernel_rfl) (hf:Region.free md l.toArray listed i=true:=by kernel_rfl) (hr:(Region.ready md l.toArray listed).contains i=true:=by kernel_rfl)
  (hQ:∀c a w,Q (.panic c) (a.put o.dst undef) w→Q (.panic c) a w:=by exact fun _ _ _ h=>h) (hw:Region.wanted o (yielded l.toArray a.tmps)=false:=by rfl) (hS:S w:=by assumption):wpAnyH P md l.toArray Q S (fuel+1) listed a w :=
 ord_skip i b d hf hr hQ hw hS h
theorem uA {α:Type}{l:List α}{i:Nat}{a:α}:l.toArray.setIfInBounds i a=(l.set i a).toArray:=List.setIfInBounds_toArray _ _ _
theorem uB {α:Type}{x:α}{xs:List α}{a:α}:(x::xs).set 0 a=a::xs:=List.set_cons_zero
theorem uC {α:Type}{x:α}{xs:List α}{i:Nat}{a:α}:(x::xs).set (i+1) a=x::xs.set i a:=List.set_cons_succ
theorem uZ:(∀(a:Act) (v:Value),a.put none v=a)∧(∀(a:Act) (d:Nat) (v:Value),a.put (some d) v={a with tmps:=a.tmps.setIfInBounds d v})∧(∀{α:Type} (l:List α) (i:Nat) (a:α),l.toArray.setIfInBounds i a=(l.set i a).toArray)∧(∀{α:Type} (x:α) (xs:List α) (a:α),(x::xs).set 0 a=a::xs)∧∀{α:Type} (x:α) (xs:List α) (i:Nat) (a:α),(x::xs).set (i+1) a=x::xs.set i a:=⟨fun _ _=>rfl,fun _ _ _=>rfl,fun _ _ _=>uA,fun _ _ _=>uB,fun _ _ _ _=>uC⟩
theorem oon (i:Nat){o:Oper}{r:List Oper}(b:l.drop i=o::r)(h:∀K:Act→World→Prop,Shut (∀a w,S w→(S w→wpAnyH P md l.toArray Q S fuel (listed.setIfInBounds i true) a w)→K a w)→Oper.wp P o a w K Q)
  (c:Region.ready md l.toArray listed=[i]:=by kernel_rfl) (hw:Region.wanted o (yielded l.toArray a.tmps)=true:=by rfl):wpAnyH P md l.toArray Q S (fuel+1) listed a w:=ord_one i b c hw h
theorem ost (S:World→Prop){c:Nat}(n:Nat)(hS:S w.drew)(h:S w.drew→wpAnyH P .any l.toArray Q S n (Array.replicate n false) a w.drew)(b:P.follows .mixedOrders=true:=by kernel_rfl)(hn:l.length=n:=by rfl):(Code.region c l.toArray true).wp P Q a w:=ord_start S b hn hS h
theorem odn {b:Array Oper}(h:Q .normal a w)(c:Region.ready md b listed=[]:=by kernel_rfl):wpAnyH P md b Q S fuel listed a w:=wpAnyH_done c h _
theorem gtk {xs:List Nat}(i:Nat){o:Oper}{r:List Oper}{v:Value}(d:l.drop i=o::r)(h:zBk P md l.toArray Q xs S fuel (listed.setIfInBounds i true) (a.put o.dst v) w)
  (f:Region.noSelect l.toArray=true:=by kernel_rfl) (hf:Region.free md l.toArray listed i=true:=by kernel_rfl) (hr:(Region.ready md l.toArray listed).contains i=true:=by kernel_rfl)
  (hx:(!xs.contains i&&waits md l.toArray xs i&&calm xs listed)=true:=by kernel_rfl) (hQ:∀c a w,Q (.panic c) (a.put o.dst v) w→Q (.panic c) a w:=by exact fun _ _ _ h=>h) (hw:Region.wanted o (yielded l.toArray a.tmps)=true:=by rfl) (hS:S w:=by assumption)
  (hy:∀w,S w→(execOp a.eval o).run P w=.ok (.value v) w:=by(intro w b;(try dsimp only at b);go_simp;try with_reducible rfl)):zBk P md l.toArray Q xs S (fuel+1) listed a w :=
 zEw i d f hf hr hx hQ hw hS hy h
theorem gpu {xs:List Nat}(i:Nat){o:Oper}{r:List Oper}{v:Value}(b:l.drop i=o::r)(h:zBk P md l.toArray Q xs S fuel (listed.setIfInBounds i true) (a.put o.dst v) w)
  (d:Region.noSelect l.toArray=true:=by kernel_rfl) (hf:Region.free md l.toArray listed i=true:=by kernel_rfl) (hr:(Region.ready md l.toArray listed).contains i=true:=by kernel_rfl)
  (hx:(!xs.contains i)=true:=by kernel_rfl) (hQ:∀c a w,Q (.panic c) (a.put o.dst v) w→Q (.panic c) a w:=by exact fun _ _ _ h=>h) (hw:Region.wanted o (yielded l.toArray a.tmps)=true:=by rfl) (hS:S w:=by assumption)
  (hy:∀w,(execOp a.eval o).run P w=.ok (.value v) w:=by(intro w;go_simp;try with_reducible rfl)):zBk P md l.toArray Q xs S (fuel+1) listed a w :=
 g_pure0 i b d hf hr hx hQ hw hS hy h
def wpPlan (P:Program)(md:Region.Mode)(l:List Oper)(Q:Exit→Act→World→Prop)(S:World→Prop)(fuel:Nat)(listed:Array Bool)(a:Act)(w:World)(_:List Nat):Prop:=wpAnyH P md l.toArray Q S fuel listed a w
theorem Pl (b:List Nat)(h:wpPlan P md l Q S fuel listed a w b):wpAnyH P md l.toArray Q S fuel listed a w:=h
theorem Pn (h:wpAnyH P md l.toArray Q S fuel listed a w):wpPlan P md l Q S fuel listed a w []:=h
theorem Pc {i:Nat}{d:List Nat}{o:Oper}{r:List Oper}{v:Value}(f:l.drop i=o::r)(h:wpPlan P md l Q S fuel (listed.setIfInBounds i true) (a.put o.dst v) w d)
  (g:Region.noSelect l.toArray=true:=by kernel_rfl) (hf:Region.free md l.toArray listed i=true:=by kernel_rfl) (hr:(Region.ready md l.toArray listed).contains i=true:=by kernel_rfl)
  (hQ:∀c a w,Q (.panic c) (a.put o.dst v) w→Q (.panic c) a w:=by exact fun _ _ _ h=>h) (hw:Region.wanted o (yielded l.toArray a.tmps)=true:=by rfl) (hS:S w:=by first|assumption|trivial)
  (hy:∀w,S w→(execOp a.eval o).run P w=.ok (.value v) w:=by(intro w b;(try dsimp only at b);go_simp;first|done|with_reducible rfl|(rw[if_neg (by omega)];try with_reducible rfl))):wpPlan P md l Q S (fuel+1) listed a w (i::d) :=
 zBb i f g hf hr hQ hw hS hy h
def zDt (P:Program)(md:Region.Mode)(l:List Oper)(Q:Exit→Act→World→Prop)(xs:List Nat)(S:World→Prop)(fuel:Nat)(listed:Array Bool)(a:Act)(w:World)(_:List Nat):Prop:=zBk P md l.toArray Q xs S fuel listed a w
theorem Gl {xs:List Nat}(b:List Nat)(h:zDt P md l Q xs S fuel listed a w b):zBk P md l.toArray Q xs S fuel listed a w:=h
theorem Gn {xs:List Nat}(h:zBk P md l.toArray Q xs S fuel listed a w):zDt P md l Q xs S fuel listed a w []:=h
theorem Gc {xs:List Nat}{i:Nat}{d:List Nat}{o:Oper}{r:List Oper}{v:Value}(f:l.drop i=o::r)(h:zDt P md l Q xs S fuel (listed.setIfInBounds i true) (a.put o.dst v) w d)
  (g:Region.noSelect l.toArray=true:=by kernel_rfl) (hf:Region.free md l.toArray listed i=true:=by kernel_rfl) (hr:(Region.ready md l.toArray listed).contains i=true:=by kernel_rfl)
  (hx:(!xs.contains i&&waits md l.toArray xs i&&calm xs listed)=true:=by kernel_rfl) (hQ:∀c a w,Q (.panic c) (a.put o.dst v) w→Q (.panic c) a w:=by exact fun _ _ _ h=>h) (hw:Region.wanted o (yielded l.toArray a.tmps)=true:=by rfl) (hS:S w:=by assumption)
  (hy:∀w,S w→(execOp a.eval o).run P w=.ok (.value v) w:=by(intro w b;(try dsimp only at b);go_simp;first|done|with_reducible rfl|(rw[if_neg (by omega)];try with_reducible rfl))):zDt P md l Q xs S (fuel+1) listed a w (i::d) :=
 zEw i f g hf hr hx hQ hw hS hy h
theorem Gp {xs:List Nat}{i:Nat}{b:List Nat}{o:Oper}{r:List Oper}{v:Value}(d:l.drop i=o::r)(h:zDt P md l Q xs S fuel (listed.setIfInBounds i true) (a.put o.dst v) w b)
  (f:Region.noSelect l.toArray=true:=by kernel_rfl) (hf:Region.free md l.toArray listed i=true:=by kernel_rfl) (hr:(Region.ready md l.toArray listed).contains i=true:=by kernel_rfl)
  (hx:(!xs.contains i)=true:=by kernel_rfl) (hQ:∀c a w,Q (.panic c) (a.put o.dst v) w→Q (.panic c) a w:=by exact fun _ _ _ h=>h) (hw:Region.wanted o (yielded l.toArray a.tmps)=true:=by rfl) (hS:S w:=by assumption)
  (hy:∀w,(execOp a.eval o).run P w=.ok (.value v) w:=by(intro w;go_simp;try with_reducible rfl)):zDt P md l Q xs S (fuel+1) listed a w (i::b) :=
 g_pure0 i d f hf hr hx hQ hw hS hy h
theorem Pd {i:Nat}{b:List Nat}{o:Oper}{r:List Oper}{v:Value}(d:l.drop i=o::r)(g:∀w,S w→(execOp a.eval o).run P w=.ok (.value v) w)(h:wpPlan P md l Q S fuel (listed.setIfInBounds i true) (a.put o.dst v) w b)
  (f:Region.noSelect l.toArray=true:=by kernel_rfl) (hf:Region.free md l.toArray listed i=true:=by kernel_rfl) (hr:(Region.ready md l.toArray listed).contains i=true:=by kernel_rfl)
  (hQ:∀c a w,Q (.panic c) (a.put o.dst v) w→Q (.panic c) a w:=by exact fun _ _ _ h=>h) (hw:Region.wanted o (yielded l.toArray a.tmps)=true:=by rfl) (hS:S w:=by first|assumption|trivial):wpPlan P md l Q S (fuel+1) listed a w (i::b) :=
 zBb i d f hf hr hQ hw hS g h
theorem Ps {i:Nat}{b:List Nat}{o:Oper}{r:List Oper}(d:l.drop i=o::r)(h:wpPlan P md l Q S fuel (listed.setIfInBounds i true) (a.put o.dst undef) w b)
  (f:Region.noSelect l.toArray=true:=by kernel_rfl) (hf:Region.free md l.toArray listed i=true:=by kernel_rfl) (hr:(Region.ready md l.toArray listed).contains i=true:=by kernel_rfl)
  (hQ:∀c a w,Q (.panic c) (a.put o.dst undef) w→Q (.panic c) a w:=by exact fun _ _ _ h=>h) (hw:Region.wanted o (yielded l.toArray a.tmps)=false:=by rfl) (hS:S w:=by first|assumption|trivial):wpPlan P md l Q S (fuel+1) listed a w (i::b) :=
 ord_skip i d f hf hr hQ hw hS h
theorem Gd {xs:List Nat}{i:Nat}{b:List Nat}{o:Oper}{r:List Oper}{v:Value}(d:l.drop i=o::r)(g:∀w,S w→(execOp a.eval o).run P w=.ok (.value v) w)(h:zDt P md l Q xs S fuel (listed.setIfInBounds i true) (a.put o.dst v) w b)
  (f:Region.noSelect l.toArray=true:=by kernel_rfl) (hf:Region.free md l.toArray listed i=true:=by kernel_rfl) (hr:(Region.ready md l.toArray listed).contains i=true:=by kernel_rfl)
  (hx:(!xs.contains i&&waits md l.toArray xs i&&calm xs listed)=true:=by kernel_rfl) (hQ:∀c a w,Q (.panic c) (a.put o.dst v) w→Q (.panic c) a w:=by exact fun _ _ _ h=>h) (hw:Region.wanted o (yielded l.toArray a.tmps)=true:=by rfl) (hS:S w:=by assumption):zDt P md l Q xs S (fuel+1) listed a w (i::b) :=
 zEw i d f hf hr hx hQ hw hS g h
theorem Gs {xs:List Nat}{i:Nat}{b:List Nat}{o:Oper}{r:List Oper}(d:l.drop i=o::r)(h:zDt P md l Q xs S fuel (listed.setIfInBounds i true) (a.put o.dst undef) w b)
  (f:Region.noSelect l.toArray=true:=by kernel_rfl) (hf:Region.free md l.toArray listed i=true:=by kernel_rfl) (hr:(Region.ready md l.toArray listed).contains i=true:=by kernel_rfl)
  (hx:(!xs.contains i)=true:=by kernel_rfl) (hQ:∀c a w,Q (.panic c) (a.put o.dst undef) w→Q (.panic c) a w:=by exact fun _ _ _ h=>h) (hw:Region.wanted o (yielded l.toArray a.tmps)=false:=by rfl) (hS:S w:=by assumption):zDt P md l Q xs S (fuel+1) listed a w (i::b) :=
 g_skip i d f hf hr hx hQ hw hS h
end
end Go.Sat
namespace Go.Proofs.YtapfnehdgailmaaGreat
open Go.RowKit Go.Sat
def zBE (w:World)(x:Value)(ls:List Bs):Prop :=
 ∃p c,x=.slice p ls.length c∧ls.length≤c∧(ls≠[]→∃b o vs,p=some ⟨b,o,none⟩∧Lib.PartsAt w ⟨b,o,none⟩ vs ls)
theorem zF0 {B:Nat}{w:World}{v:Value}{l:Bs}(h:Lib.FreshBytes B w v l):zAb w v l:=by
 obtain⟨g,c,zs,rfl,_,s,_,t,q,n,o,_⟩:=h;refine zAb.of_kit ⟨some ⟨g,0,none⟩,c,rfl,fun e=>(by cases e),fun a m i x f=>?_⟩;cases m;have p:i<l.length:=(List.getElem?_eq_some_iff.1 f).1;rw[add_zero,o i (by omega)];have b:i<zs.length:=by omega
 have j:(zs.take l.length)[i]?=some zs[i]:=by rw[List.getElem?_take,if_pos p,List.getElem?_eq_getElem b]
 have d:(Lib.bytesOf (zs.take l.length))[i]?=some x:=by rw[n];exact f
 simp only[Lib.bytesOf,List.getElem?_map,j,Option.map_some,Option.some.injEq]at d;have r:=q zs[i] (List.getElem_mem b);have k:zs.getD i 0=zs[i]:=by simp[List.getD,List.getElem?_eq_getElem b]
 rw[k,←d]
 congr 2
 simp;omega
theorem join_flat (ls:List Bs):Lib.join ls []=ls.flatten:=by
 cases ls with
 | nil=>rfl
 | cons x r =>
  rw[Lib.join_cons];simp[Lib.joinTail]
theorem flat_len (ls:List Bs):ls.flatten.length=Lib.lens ls:=by simp[Lib.lens,List.length_flatten]
theorem bjoin {w:World}{x:Value}{ls:List Bs}(h:zBE w x ls)(hn:ls.length≤140737488355328)(C:ls.flatten.length≤140737488355328) :
  Calls prog 145 #[x,.slice none 0 0] w fun e w'=>∃v,e=.returned v∧zAb w' v ls.flatten∧Below w.heap.size w w':=by
 obtain⟨p,c,rfl,E,D⟩:=h;cases ls with
 | nil =>
  refine(Tryz.bytes_Join_none p c (.slice none 0 0) w).mono ?_;rintro e w' ⟨rfl,rfl⟩;refine⟨_,rfl,?_,(Below.refl _ _).alloc (Nat.le_refl _) _⟩;exact zAb.of_kit ⟨_,_,rfl,fun e=>(by cases e),fun a j i x F=>by simp at F⟩
 | cons l0 r =>
  obtain⟨b,o,vs,rfl,B⟩:=D (by simp);cases r with
  | nil =>
   obtain⟨l,m,G,z,f,t,q⟩:=B.get 0 (by simp);simp at z;subst z;have d:w.cell? ⟨b,o,none⟩=some (.slice l l0.length m):=by simpa[Addr.add]using f
   by_cases A:l0.length=0
   ·have s:l0=[]:=List.eq_nil_of_length_eq_zero A;subst s;refine(Tryz.bytes_Join_one_empty b o c l m (.slice none 0 0) w d).mono ?_;rintro e w' ⟨rfl,rfl⟩;exact⟨_,rfl,zAb.of_kit ⟨none,0,rfl,fun _=>rfl,fun a j=>(by cases j)⟩,Below.refl _ _⟩
   ·obtain⟨y,rfl⟩:∃a,l=some a:=by
     cases l with
     | none=>exact absurd (by rw[t rfl];rfl) A
     | some a=>exact⟨a,rfl⟩
    refine(Tryz.bytes_Join_one b o c y m l0 (.slice none 0 0) w d (q y rfl) (by omega) (by simpa using C)).mono ?_;rintro e w' ⟨v,rfl,k,n⟩;exact⟨v,rfl,by simpa using zF0 k,n⟩
  | cons l1 r =>
   have g:Lib.HoldsBytes w (.slice none 0 0) []:=⟨none,0,rfl,fun _=>rfl,fun a j=>(by cases j)⟩;refine(Tryz.bytes_Join_many b o _ c vs (l0::l1::r) (.slice none 0 0) [] w rfl (by simp) B E g hn (by rw[←flat_len];simpa using C)).mono ?_;rintro e w' ⟨v,rfl,k,n⟩;rw[join_flat]at k;exact⟨v,rfl,zF0 k,n⟩
theorem zCm {w:World}{x:Value}{ls:List Bs}(h:zBE w x ls)(hn:ls.length≤140737488355328)(i:ls.flatten.length≤140737488355328) :
  Calls prog 66 #[x] w fun e w'=>∃v,e=.returned v∧zAb w' v ls.flatten∧Below w.heap.size w w':=by
 have b:=bjoin h hn i;obtain⟨p,c,rfl,k,f⟩:=h;have d:=zh b;clear b f
 go_enter func66,ntmps66
 go_wp2_with fail;refine d.o.mono ?_;rintro e w' ⟨v,rfl,j,g⟩;go_wp2_with fail;go_ret;exact⟨v,rfl,j,g⟩
theorem zBv {w:World}{x:Value}{l:Bs}(h:zAb w x l)(o:l.length≤140737488355328) :
  Calls prog 111 #[x] w fun e w'=>∃v,e=.returned v∧zAi w' 5 v l∧(∀k,v.ownBlock=some k→w.heap.size≤k)∧Below w.heap.size w w':=by
 obtain⟨p,c,rfl,j,n⟩:=h.kit;cases p with
 | none =>
  have:=j rfl;subst this;refine(Tryz.bytes_Clone_nil _ c w).mono ?_;rintro e w' ⟨rfl,rfl⟩;exact⟨_,rfl,OwnR.nil _ _ _,fun k d=>(by cases d),Below.refl _ _⟩
 | some a =>
  refine(Tryz.bytes_Clone_at a l.length c (Lib.numsL l) w (Lib.numsL_length l) o fun i f=>?_).mono ?_
  ·rw[n a rfl i l[i] (List.getElem?_eq_getElem f)];simp[Lib.numsL,List.getD,List.getElem?_map,List.getElem?_eq_getElem f]
  ·rintro e w' ⟨v,rfl,b,_,m⟩;have g:(Lib.numsL l).map (Value.int .u8)=zAR l:=by simp[Lib.numsL,zAR]
   rw[g]at b;exact⟨v,rfl,OwnR.of_kit b,fun k d=>OwnR.block_ge b d,m⟩
end Go.Proofs.YtapfnehdgailmaaGreat
namespace Go.Proofs.YtapfnehdgailmaaGreat
open Go.RowKit Go.Sat Go.ChangeShapes Go.WideShapes Go.ChangeAt Go.Deep
theorem bytes_at {W:World}{a:Addr}{zs:List Int}{f b:Nat}(v:b≤f)(y:zs.length=f)(g:∀i,i<f→W.cell? (a.add i)=some (.int .u8 (zs.getD i 0)))(l:∀n∈zs,(Lit.int .u8 n).wf=true)(c:Nat) :
  zAb W (.slice (some a) b c) (Lib.bytesOf (zs.take b))∧(Lib.bytesOf (zs.take b)).length=b:=by
 have d:(Lib.bytesOf (zs.take b)).length=b:=by simp only[Lib.bytesOf,List.length_map,List.length_take];omega
 refine⟨?_,d⟩;refine zAb.of_kit ⟨some a,c,by rw[d],fun e=>(by cases e),fun s q i x k=>?_⟩;cases q;have r:i<b:=by rw[←d];exact(List.getElem?_eq_some_iff.1 k).1
 have j:i<zs.length:=by omega
 rw[g i (by omega)];have m:zs.getD i 0=zs[i]:=by simp[List.getD,List.getElem?_eq_getElem j]
 have o:(Lib.bytesOf (zs.take b))[i]?=some (UInt8.ofNat zs[i].toNat):=by
  simp only[Lib.bytesOf,List.getElem?_map,List.getElem?_take,if_pos r,List.getElem?_eq_getElem j,Option.map_some]
 rw[o]at k;simp only[Option.some.injEq]at k;rw[m,←k];have p:=l zs[i] (List.getElem_mem j);have t:=bounds_u8 p;simp;omega
theorem zE8 {P:Program}{H:Type}{t e:TypeId}{b c:List (DataW H)}(d:P.underlying t=some (.slice e)){B:Nat}(h:∀n∈(DataW.slice b c).weights P t,n≤B):(b.length+c.length)*P.bytesOf e≤B :=
 h _ (by simp[DataW.weights,d])
theorem weights_in {P:Program}{H:Type}{e:TypeId}{d:DataW H}{n:Nat}(hn:n∈d.weights P e):∀{b:List (DataW H)},d∈b→n∈DataW.weightsAll P e b
 | [],h=>by simp at h
 | x::r,h=>by
  simp only[DataW.weightsAll,List.mem_append];rcases List.mem_cons.1 h with rfl|h
  ·exact .inl hn
  ·exact .inr (weights_in hn h)
theorem weights_elem {P:Program}{H:Type}{t e:TypeId}{b c:List (DataW H)}(g:P.underlying t=some (.slice e)){B:Nat}(h:∀n∈(DataW.slice b c).weights P t,n≤B){d:DataW H}(f:d∈b):∀n∈d.weights P e,n≤B :=
 fun n hn=>h n (by simp[DataW.weights,g,weights_in hn f])
section
variable {H:Type} {enc:TypeId×Value→H} {W:World} {fuel:Nat} {d:DataW H} {ps:List MemPlace}
theorem bytes_arg {a:Option Addr}{j f:Nat}(t:DataW.trod enc prog W 0 (fun _=>true) true fuel 22 [.slice a j f]=some (d,ps))(y:∀n∈d.weights prog 22,n≤reachBytes) :
  ∃l,zAb W (.slice a j f) l∧l.length≤140737488355328:=by
 rcases open_ints underlying22 underlying5 (by kernel_rfl) t with⟨b,_⟩|⟨x,l,c,zs,b,_,v,h,p,o,g,m⟩
 ·simp at b;obtain⟨rfl,rfl,rfl⟩:=b;exact⟨[],⟨by simp[zAR],none,0,rfl,fun _=>rfl,fun a s=>by cases s⟩,by simp⟩
 ·simp at b;obtain⟨rfl,rfl,rfl⟩:=b;simp only[if_true]at p;obtain⟨q,r⟩:=bytes_at v p (fun i z=>g i (by omega)) m f;refine⟨_,q,?_⟩;simp only[Prod.mk.injEq]at o;obtain⟨rfl,_⟩:=o;have k:=zE8 underlying22 y;rw[show prog.bytesOf 5=1 by kernel_rfl]at k;simp only[lits,List.length_map,List.length_take,List.length_drop]at k;rw[r];unfold reachBytes at k;omega
end
end Go.Proofs.YtapfnehdgailmaaGreat
namespace Go.Proofs.YtapfnehdgailmaaGreat
open Go.RowKit Go.Sat Go.Maps
/-! ### The model -/
structure zAW where
 data:Bs
 lasts:Nat
structure zAA where
 room:Nat
 files:List (Bs×zAW)
 fuse:Option Nat
def okN (n:Bs):Bool:=decide (1≤n.length)&&decide (n.length≤64)
namespace zAA
def size (f:zAW):Nat:=f.data.length
def used (D:zAA):Nat:=zBZ size D.files
def may (D:zAA)(ns:List Bs):Nat:=if D.fuse=some 0 then 9 else if ns.all okN then 0 else 1
def done (D:zAA):zAA:={D with fuse:=D.fuse.map (·-1) }
def cur (D:zAA)(n:Bs):zAW:=(get n D.files).getD ⟨[],0⟩
def full (D:zAA)(n b:Bs):Bool:=decide (D.room<D.used+b.length)||((get n D.files).isNone&&decide (4096≤D.files.length))
def append (D:zAA)(n b:Bs):zAA×Nat :=
 if D.may [n]≠0 then(D,D.may [n])
 else if D.full n b then(D,6)
 else(done {D with files:=put n ⟨(D.cur n).data++b,(D.cur n).lasts⟩ D.files},0)
def each1 (g:Bs→zAW→List (Bs×zAW)→List (Bs×zAW))(D:zAA)(n:Bs):zAA×Nat :=
 if D.may [n]≠0 then(D,D.may [n])
 else match get n D.files with
  | none=>(D,7)
  | some f=>(done {D with files:=g n f D.files},0)
def each (g:Bs→zAW→List (Bs×zAW)→List (Bs×zAW))(D:zAA):List Bs→zAA×Nat
 | []=>(D,0)
 | n::r=>if(each1 g D n).2=0 then each g (each1 g D n).1 r else each1 g D n
def gSync (n:Bs)(f:zAW)(L:List (Bs×zAW)):List (Bs×zAW):=put n ⟨f.data,f.data.length⟩ L
def gRemove (n:Bs)(_:zAW)(L:List (Bs×zAW)):List (Bs×zAW):=del n L
def sync (D:zAA)(ns:List Bs):zAA×Nat:=D.each gSync ns
def remove (D:zAA)(ns:List Bs):zAA×Nat:=D.each gRemove ns
def truncate (D:zAA)(n:Bs)(k:Int):zAA×Nat :=
 if D.may [n]≠0 then(D,D.may [n])
 else match get n D.files with
  | none=>(D,7)
  | some f=>if k<0∨(f.data.length:Int)<k then(D,1)
   else(done {D with files:=put n ⟨f.data.take k.toNat,min f.lasts k.toNat⟩ D.files},0)
def rename (D:zAA)(o n:Bs):zAA×Nat :=
 if D.may [o,n]≠0 then(D,D.may [o,n])
 else match get o D.files with
  | none=>(D,7)
  | some f=>(done {D with files:=put n f (del o D.files) },0)
def setFuse (D:zAA)(n:Int):zAA:={D with fuse:=if n<0 then none else some n.toNat}
def stays (f:zAW)(k:Int):Nat:=f.lasts+(max 0 k).toNat%(f.data.length-f.lasts+1)
def crashF (k:Int)(f:zAW):zAW:=⟨f.data.take (stays f k),stays f k⟩
def crash (D:zAA)(k:Int):zAA:={D with files:=mp (crashF k) D.files,fuse:=none}
def fresh (room:Nat):zAA:=⟨room,[],none⟩
def copy (D:zAA):zAA:={D with fuse:=none}
structure OK (D:zAA):Prop where
 srt:Srt D.files
 room:D.room≤1073741824
 used:D.used≤D.room
 count:D.files.length≤4096
 names:∀p∈D.files,okN p.1=true
 lasts:∀p∈D.files,p.2.lasts≤p.2.data.length
 fuse:∀k,D.fuse=some k→k≤9223372036854775807
end zAA
/-! ### In memory -/
abbrev Own:=Nat→Option (Nat×Bs)
structure zB4 where
 fb:Nat
 v:Value
 f:zAW
structure FileAt (w:World)(own:Own)(n:Bs)(r:zB4):Prop where
 cells:w.heap[r.fb]?=some (.cells #[r.v,.int .i64 (r.f.lasts:Int)] 123 (0,0))
 ob:own r.fb=some (2,n)
 row:zAi w 5 r.v r.f.data
 og:∀g,r.v.ownBlock=some g→own g=some (3,n)
def fbD (r:zB4):DataW Nat:=.held r.fb
structure zAc (w:World)(d m:Nat)(left:Int)(L:List (Bs×zB4))(own:Own)(D:zAA):Prop where
 cells:w.heap[d]?=some (.cells #[.int .i64 (D.room:Int),.map (some m),.bool D.fuse.isSome,.int .i64 left] 115 (0,0))
 left:∀k,D.fuse=some k→left=(k:Int)
 map:w.ownsMap prog 9 ptrR m L.length (dm fbD L)
 files:D.files=mp zB4.f L
 srt:Srt L
 file:∀p∈L,FileAt w own p.1 p.2
 od:own d=some (0,[])
 om:own m=some (1,[])
 olt:∀k t,own k=some t→k<w.heap.size
 ok:D.OK
def zCP (w:World)(d:Nat)(D:zAA)(own:Own):Prop:=∃m left L,zAc w d m left L own D
def Ext (w:World)(own own':Own):Prop:=∀k,k<w.heap.size→own k=none→own' k=none
def Has (own:Own)(k:Nat):Prop:=own k≠none
theorem FileAt.keep {w w':World}{own:Own}{n:Bs}{r:zB4}(h:FileAt w own n r)(b:∀k,own k≠none→w'.heap[k]?=w.heap[k]?):FileAt w' own n r :=
 ⟨(b _ (by rw[h.ob];simp)).trans h.cells,h.ob,h.row.keep fun k c=>b k (by rw[h.og k c];simp),h.og⟩
theorem zAc.keep {w w':World}{d m:Nat}{left:Int}{L:List (Bs×zB4)}{own:Own}{D:zAA}(h:zAc w d m left L own D)(g:w.heap.size≤w'.heap.size)
  (c:∀k,own k≠none→w'.heap[k]?=w.heap[k]?):zAc w' d m left L own D where
 cells:=(c d (by rw[h.od];simp)).trans h.cells
 left:=h.left
 map:=by
  obtain⟨es,b,f,r⟩:=h.map;exact⟨es,b,(c m (by rw[h.om];simp)).trans f,r⟩
 files:=h.files
 srt:=h.srt
 file p hp:=(h.file p hp).keep c
 od:=h.od
 om:=h.om
 olt k t hk:=Nat.lt_of_lt_of_le (h.olt k t hk) g
 ok:=h.ok
theorem zAc.chg {w w':World}{S:Nat→Prop}{d m:Nat}{left:Int}{L:List (Bs×zB4)}{own:Own}{D:zAA}(h:zAc w d m left L own D)(b:Chg S w w')(hS:∀k,S k→own k=none) :
  zAc w' d m left L own D :=
 h.keep b.size fun k c=>b.block k (by
  cases f:own k with
  | none=>exact absurd f c
  | some t=>exact h.olt k t f) fun s=>c (hS k s)
theorem zCP.chg {w w':World}{S:Nat→Prop}{d:Nat}{own:Own}{D:zAA}(h:zCP w d D own)(b:Chg S w w')(hS:∀k,S k→own k=none):zCP w' d D own:=by
 obtain⟨m,left,L,h⟩:=h;exact⟨m,left,L,h.chg b hS⟩
section
variable {w:World} {d m:Nat} {left:Int} {L:List (Bs×zB4)} {own:Own} {D:zAA}
theorem zAc.c0 (h:zAc w d m left L own D):w.cell? ⟨d,0,none⟩=some (.int .i64 (D.room:Int)):=zAG h.cells rfl
theorem zAc.c1 (h:zAc w d m left L own D):w.cell? ⟨d,1,none⟩=some (.map (some m)):=zAG h.cells rfl
theorem zAc.c2 (h:zAc w d m left L own D):w.cell? ⟨d,2,none⟩=some (.bool D.fuse.isSome):=zAG h.cells rfl
theorem zAc.c3 (h:zAc w d m left L own D):w.cell? ⟨d,3,none⟩=some (.int .i64 left):=zAG h.cells rfl
theorem zAc.get (h:zAc w d m left L own D)(n:Bs):Sat.get n D.files=(Sat.get n L).map zB4.f:=by rw[h.files,mp_get]
theorem zAc.len (h:zAc w d m left L own D):D.files.length=L.length:=by rw[h.files,mp_len]
theorem zAc.used (h:zAc w d m left L own D):D.used=zBZ (fun r:zB4=>r.f.data.length) L:=by
 unfold zAA.used;rw[h.files,mp_sum];rfl
theorem zAc.dlt (h:zAc w d m left L own D):d<w.heap.size:=h.olt d _ h.od
theorem zAc.mlt (h:zAc w d m left L own D):m<w.heap.size:=h.olt m _ h.om
theorem zAc.dm_ne (h:zAc w d m left L own D):d≠m:=by
 intro e;have b:=h.od;rw[e,h.om]at b;simp at b
end
theorem le_sum {α:Type}{f:α→Nat}{L:List (Bs×α)}{n:Bs}{a:α}(h:Srt L)(b:get n L=some a):f a≤zBZ f L:=by
 rw[zDr (f:=f) h b];omega
theorem okN_string {n:Bs}(h:okN n=true):1≤n.length∧n.length≤64:=by simpa[okN]using h
end Go.Proofs.YtapfnehdgailmaaGreat
namespace Go.Proofs.YtapfnehdgailmaaGreat
open Go.RowKit Go.Sat Go.Maps
theorem zB5:Keyed prog 9:=string_keyed underlying9
theorem zBr (w:World):(zeroValue 121).run prog w=.ok (.pointer none) w:=by kernel_rfl
/-! ### New -/
theorem new_walk (n:Int)(w:World)(c:0≤n)(d:n≤1073741824) :
  Calls prog 13 #[.int .i64 n] w fun e w'=>e=.returned (.tuple #[.pointer (some ⟨w.heap.size+1,0,none⟩),.int .i64 0])∧w'=(w.alloc (.map #[] 0)).alloc (.cells #[.int .i64 n,.map (some w.heap.size),.bool false,.int .i64 0] 115):=by
 have b:=@run_makeMap prog
 go_enter func13,ntmps13
 go_wp2
 go_ret2
 exact⟨rfl,rfl⟩
theorem ok_fresh (n:Nat)(h:n≤1073741824):(zAA.fresh n).OK where
 srt:=srt_nil
 room:=h
 used:=Nat.zero_le _
 count:=Nat.zero_le _
 names p hp:=by simp[zAA.fresh]at hp
 lasts p hp:=by simp[zAA.fresh]at hp
 fuse k hk:=by simp[zAA.fresh]at hk
theorem new_calls (n:Int)(w:World)(c:0≤n)(f:n≤1073741824) :
  Calls prog 13 #[.int .i64 n] w fun e w'=>∃d own,e=.returned (.tuple #[.pointer (some ⟨d,0,none⟩),.int .i64 0])∧zCP w' d (zAA.fresh n.toNat) own∧Chg (fun _=>False) w w' ∧
   (∀k,k<w.heap.size→own k=none):=by
 refine(new_walk n w c f).mono ?_;rintro e w' ⟨rfl,rfl⟩;refine⟨w.heap.size+1,fun k=>if k=w.heap.size+1 then some (0,[])else if k=w.heap.size then some (1,[])else none,rfl,⟨w.heap.size,0,[],?_⟩,((Chg.alloc w _).trans (Chg.alloc _ _) fun _ _ h=>h),fun k b=>?_⟩
 ·have i:(w.alloc (.map #[] 0)).heap.size=w.heap.size+1:=by simp
  refine⟨?_,fun k b=>by simp[zAA.fresh]at b,?_,rfl,srt_nil,fun p g=>by simp at g,by simp,by simp,fun k t b=>?_,ok_fresh _ (by omega)⟩
  ·have:=zAI (w.alloc (.map #[] 0)) (.cells #[.int .i64 n,.map (some w.heap.size),.bool false,.int .i64 0] 115);rw[i]at this;rw[this];simp only[zAA.fresh,Option.isSome_none];rw[show((n.toNat:Int))=n by omega]
  ·exact(World.ownsMap_made w prog 9 ptrR).alloc _
  ·split at b
   ·simp;omega
   ·split at b
    ·simp;omega
    ·cases b
 ·simp only;rw[if_neg (by omega),if_neg (by omega)]
/-! ### may -/
def zEm (w:World)(p:Option Addr)(c:List ByteArray):Prop :=
 c=[]∨∃b o,p=some ⟨b,o,none⟩∧∀i s,c[i]?=some s→w.cell? ⟨b,o+i,none⟩=some (.string s)
def nm (s:ByteArray):Bs:=s.data.toList
theorem nm_len (s:ByteArray):(nm s).length=s.size:=by simp[nm]
def namesE (b:List ByteArray):Int:=if(b.map nm).all okN then 0 else 1
theorem okN_nm (s:ByteArray):okN (nm s)=(decide (1≤s.size)&&decide (s.size≤64)):=by simp[okN,nm_len]
theorem may_burnt (d:Nat)(p:Option Addr)(n c:Nat)(w:World)(b:w.cell? ⟨d,2,none⟩=some (.bool true))(f:w.cell? ⟨d,3,none⟩=some (.int .i64 0)) :
  Calls prog 65 #[.pointer (some ⟨d,0,none⟩),.slice p n c] w fun e w'=>e=.returned (.int .i64 9)∧w=w':=by
 go_enter func65,ntmps65
 go_wp2
 go_ret;exact⟨rfl,rfl⟩
theorem take_ok {b:List ByteArray}{k:Nat}(c:k<b.length)(h:((b.take k).map nm).all okN=true)(d:okN (nm b[k])=true):((b.take (k+1)).map nm).all okN=true:=by
 rw[List.take_succ_eq_append_getElem c,List.map_append,List.all_append,h];simp[d]
theorem bad_at {b:List ByteArray}{k:Nat}(c:k<b.length)(d:okN (nm b[k])=false):namesE b=1:=by
 have:(b.map nm).all okN=false:=by
  rw[List.all_eq_false];exact⟨nm b[k],List.mem_map.2 ⟨_,List.getElem_mem c,rfl⟩,by rw[d];simp⟩
 simp[namesE,this]
theorem may_names (d:Nat)(p:Option Addr)(j:List ByteArray)(c:Nat)(w:World)(f:Bool)(l:Int)(E:w.cell? ⟨d,2,none⟩=some (.bool f))(F:w.cell? ⟨d,3,none⟩=some (.int .i64 l))
  (C:f=false∨l≠0) (D:zEm w p j) (I:j.length≤140737488355328) (y:∀s∈j,s.size≤9223372036854775807) :
  Calls prog 65 #[.pointer (some ⟨d,0,none⟩),.slice p j.length c] w fun e w'=>e=.returned (.int .i64 (namesE j))∧w=w':=by
 have a:f=false∨(f=true∧(l==0)=false):=by
  cases f with
  | false=>exact .inl rfl
  | true =>
   rcases C with h|h
   ·cases h
   ·exact .inr ⟨rfl,by simpa using h⟩
 clear C;rcases a with rfl|⟨rfl,H⟩
 all_goals
  go_enter func65,ntmps65
  go_wp2
  go_loop [24] (fun i=>∃k:Nat,k≤j.length∧i=.int .i64 k∧((j.take k).map nm).all okN=true) (fun i=>j.length-(intOf i).toNat)
  case atStart=>exact⟨0,Nat.zero_le _,rfl,rfl⟩
  case round =>
   obtain⟨k,G,rfl,g⟩:=hrel
   by_cases m:k<j.length
   ·have v:j[k]?=some j[k]:=List.getElem?_eq_getElem m;rcases D with h|⟨b,o,rfl,B⟩
    ·subst h;simp at m
    have z:=B k _ v;have J:j[k].size≤9223372036854775807:=y _ (List.getElem_mem m);have n:=zh (take_ok m g);have q:=zh (bad_at m);clear B y g v;rw[okN_nm]at n q;generalize j[k]=s at *
    by_cases A:1≤s.size
    ·by_cases t:s.size≤64
     ·go_wp2
      go_round
      case rel=>exact⟨k+1,by omega,by go_num,n.o (by simp[A,t])⟩
      case measure=>simp[intOf];omega
     ·go_wp2
      go_ret;exact⟨by rw[q.o (by simp[t])];rfl,rfl⟩
    ·go_wp2
     go_ret;exact⟨by rw[q.o (by simp[A])];rfl,rfl⟩
   ·have r:=zh g;clear g
    go_wp2
    go_ret;have h:=r.o;rw[List.take_of_length_le (by omega)]at h;exact⟨by simp[namesE,h],rfl⟩
theorem zBd {w:World}{d m:Nat}{left:Int}{L:List (Bs×zB4)}{own:Own}{D:zAA}(h:zAc w d m left L own D)(p:Option Addr)(b:List ByteArray)(c:Nat)
  (r:zEm w p b) (q:b.length≤140737488355328) (j:∀s∈b,s.size≤9223372036854775807) :
  Calls prog 65 #[.pointer (some ⟨d,0,none⟩),.slice p b.length c] w fun e w'=>e=.returned (.int .i64 (D.may (b.map nm):Int))∧w=w':=by
 have i:=h.c2;have l:=h.c3
 by_cases f:D.fuse=some 0
 ·have o:=h.left 0 f;rw[f]at i;subst o;refine(may_burnt d p b.length c w i l).mono ?_;rintro e w' ⟨rfl,rfl⟩;exact⟨by simp[zAA.may,f],rfl⟩
 ·have n:D.fuse.isSome=false∨left≠0:=by
   cases g:D.fuse with
   | none=>exact .inl rfl
   | some k =>
    refine .inr ?_;rw[h.left k g];intro e;have:k=0:=by omega
    subst this;exact f g
  refine(may_names d p b c w _ left i l n r q j).mono ?_;rintro e w' ⟨rfl,rfl⟩;refine⟨?_,rfl⟩;unfold namesE zAA.may;rw[if_neg f]
  split<;>rfl
/-! ### done -/
theorem done_walk (d:Nat)(w:World)(f:Bool)(l:Int)(c:w.cell? ⟨d,2,none⟩=some (.bool f))(g:w.cell? ⟨d,3,none⟩=some (.int .i64 l))(k:w.frozen? ⟨d,3,none⟩=false)(b:f=true→1≤l∧l≤9223372036854775807) :
  Calls prog 68 #[.pointer (some ⟨d,0,none⟩)] w fun e w'=>e=.returned (.int .i64 0)∧(if f then w.setCell ⟨d,3,none⟩ (.int .i64 (l-1))else w)=w':=by
 cases f with
 | false =>
  go_enter func68,ntmps68
  go_wp2
  go_ret;exact⟨rfl,rfl⟩
 | true =>
  obtain⟨j,i⟩:=b rfl;clear b
  go_enter func68,ntmps68
  go_wp2
  go_ret;exact⟨rfl,rfl⟩
theorem ok_done {D:zAA}(h:D.OK):D.done.OK where
 srt:=h.srt
 room:=h.room
 used:=h.used
 count:=h.count
 names:=h.names
 lasts:=h.lasts
 fuse k hk:=by
  simp only[zAA.done,Option.map_eq_some_iff]at hk;obtain⟨j,b,rfl⟩:=hk;have:=h.fuse j b;omega
theorem zDJ {w:World}{d m:Nat}{left:Int}{L:List (Bs×zB4)}{own:Own}{D:zAA}(h:zAc w d m left L own D)(l:D.fuse≠some 0) :
  Calls prog 68 #[.pointer (some ⟨d,0,none⟩)] w fun e w'=>e=.returned (.int .i64 0)∧zCP w' d D.done own∧Chg (fun k=>k=d) w w':=by
 refine(done_walk d w _ left h.c2 h.c3 (zAE h.cells 3) ?_).mono ?_
 ·intro o;cases b:D.fuse with
  | none=>rw[b]at o;cases o
  | some k =>
   rw[h.left k b];have:k≠0:=fun e=>l (by rw[b,e]);have:=h.ok.fuse k b;omega
 ·rintro e w' ⟨rfl,rfl⟩;refine⟨rfl,?_,?_⟩
  ·cases b:D.fuse with
   | none =>
    refine⟨m,left,L,?_⟩;have q:D.done=D:=by
     cases D;simp only at b;subst b;rfl
    rw[q];exact h
   | some k =>
    refine⟨m,left-1,L,?_⟩;simp only[Option.isSome_some,if_true];have n:∀j,j≠d→(w.setCell ⟨d,3,none⟩ (.int .i64 (left-1))).heap[j]?=w.heap[j]?:=fun j f=>set_other _ f;have i:∀j t,own j=some t→t≠(0,[])→j≠d:=fun j t f v e=>by
     rw[e,h.od]at f;exact v (Option.some.inj f).symm
    refine⟨?_,?_,?_,h.files,h.srt,fun p s=>?_,h.od,h.om,fun j t f=>by simpa[World.setCell]using h.olt j t f,ok_done h.ok⟩
    ·rw[zAC h.cells];simp[zAA.done,b]
    ·intro j f;simp only[zAA.done,b,Option.map_some,Option.some.injEq]at f;have y:=h.left k b;have:k≠0:=fun e=>l (by rw[b,e]);omega
    ·exact h.map.setCell h.dm_ne.symm _
    ·have c:=h.file p s;refine⟨(n _ (i _ _ c.ob (by simp))).trans c.cells,c.ob,c.row.keep fun g r=>n _ (i _ _ (c.og g r) (by simp)),c.og⟩
  ·split
   ·exact Chg.setCell w ⟨d,3,none⟩ _
   ·exact Chg.refl _ _
/-! ### Used -/
theorem zGQ {w:World}{d m:Nat}{left:Int}{L:List (Bs×zB4)}{own:Own}{D:zAA}(h:zAc w d m left L own D) :
  Calls prog 67 #[.pointer (some ⟨d,0,none⟩)] w fun e w'=>e=.returned (.int .i64 (D.used:Int))∧Below w.heap.size w w':=by
 have K:=h.c1;obtain⟨S,hS⟩:∃S,S=D.used:=⟨_,rfl⟩;have A:zBZ (fun r:zB4=>r.f.data.length) L=S:=by rw[hS,h.used]
 have U:S≤1073741824:=by
  have:=h.ok.used;have:=h.ok.room;omega
 rw[←hS];have i:=h.map;have G:=h.srt;have X:Hid (zAc w d m left L own D):=h;clear h hS
 go_enter func67,ntmps67
 go_wp2_with (first|(at_range;refine wpList_range_own _ rfl _ 113 rfl 9 121 zB5 underlying113 ptrR m L.length (dm fbD L) rfl i ?_;intro w0 l B Q))
 go_frame
 go_loopw [3] (fun P wr=>∃rest a,wr.ranges prog 9 ptrR m w.heap.size L.length (dm fbD L) rest a∧(∃k:Nat,P=.int .i64 (k:Int)∧k+zBZ (fun r:zB4=>r.f.data.length) (rem rest L)=S)∧Below w.heap.size w wr) (fun _ wr=>wr.rangeLeft m w.heap.size)
 case atStart =>
  refine⟨_,_,l,⟨0,rfl,?_⟩,(Below.refl _ _).grown B (Nat.le_refl _) (fun _ e=>by cases e)⟩;rw[show rem (Maps.has (dm fbD L)) L=L from rem_start _ L,A,Nat.zero_add]
 case round =>
  obtain⟨rest,a,y,⟨k,rfl,V⟩,b⟩:=hrel;have N:=zh V;clear V l B Q A i;go_wp2_with (first|(at_next;refine zFA _ rfl _ rfl 9 underlying9 zB5 zB4.fb L m w.heap.size L.length _ _ rfl y ?_ ?_))
  ·intro I;have hS:k=S:=by
    have:=N.o;rw[rem_end I]at this;simpa[zBZ]using this
   subst hS
   go_wp2
   go_ret;exact⟨rfl,b⟩
  ·intro s x w1 T t I hs n F C R Y;have M:=X.o.file _ (zBn t);have g:Below w.heap.size w w1:=b.grown C b.size (fun j e=>by cases e;exact Nat.le_refl _);have q:w1.cell? ⟨x.fb,0,none⟩=some x.v:=(g.cell (p:=⟨x.fb,0,none⟩) (zAB M.cells)).trans (zAG M.cells rfl);obtain⟨p,c,J⟩:∃p c,x.v=.slice p x.f.data.length c:=by
    obtain⟨_,p,c,J,_⟩:=M.row.holds;exact⟨p,c,J⟩
   have H:=rem_sum (f:=fun r:zB4=>r.f.data.length) G t I;have Z:k+x.f.data.length≤S:=by
    have:=N.o;omega
   have E:k+x.f.data.length+zBZ (fun r:zB4=>r.f.data.length) (rem (fun z=>rest z&& !z.sameKey (.string s.data.toList)) L)=S:=by
    have:=N.o;omega
   have O:=zh E;have W:=zh (show w1.rangeLeft m w.heap.size<wr.rangeLeft m w.heap.size by rw[n.left_eq,y.left_eq];exact F);rw[J]at q;clear E H t I C R F y b M J;generalize x.f.data.length=j at *
   go_wp2
   go_roundw
   case rel=>exact⟨_,_,n,⟨k+j,by go_num,O.o⟩,g⟩
   case measure=>exact W.o
end Go.Proofs.YtapfnehdgailmaaGreat
namespace Go.Sat
theorem put_same {α:Type}{L:List (Bs×α)}(h:Srt L){n:Bs}{a:α}(c:get n L=some a):put n a L=L :=
 srt_ext (zCO h) h fun m=>by
  by_cases b:m=n
  ·subst b;rw[zCQ h,c]
  ·rw[zDE h a b]
theorem dm_mp {H α:Type}(g:α→DataW H)(f:α→Nat)(d:∀a b,f a=f b→g a=g b){L M:List (Bs×α)}(h:mp f L=mp f M):dm g L=dm g M:=by
 have:∀L M:List (Bs×α),mp f L=mp f M→L.map (fun p=>(Lit.string p.1,g p.2))=M.map (fun p=>(Lit.string p.1,g p.2)):=by
  intro L
  induction L with
  | nil =>
   intro M c;cases M with
   | nil=>rfl
   | cons y s=>simp[mp]at c
  | cons x r ih =>
   intro M c;cases M with
   | nil=>simp[mp]at c
   | cons y s =>
    simp only[mp,List.map_cons,List.cons.injEq,Prod.mk.injEq]at c;obtain⟨⟨i,j⟩,k⟩:=c;simp only[List.map_cons];rw[ih s k,i,d _ _ j]
 unfold dm;rw[this L M h]
end Go.Sat
namespace Go.Proofs.YtapfnehdgailmaaGreat
open Go.RowKit Go.Sat Go.Maps
theorem fbD_of {a b:zB4}(h:a.fb=b.fb):fbD a=fbD b:=by simp[fbD,h]
section
variable {w:World} {d m:Nat} {left:Int} {L:List (Bs×zB4)} {own:Own} {D:zAA}
theorem zAc.fileAt (h:zAc w d m left L own D){n:Bs}{r:zB4}(b:Sat.get n L=some r):FileAt w own n r:=h.file _ (zBn b)
theorem zAc.ne_of (g:zAc w d m left L own D){j k:Nat}{s t:Nat×Bs}(c:own j=some s)(f:own k=some t)(b:s≠t):j≠k:=fun e=>by
 rw[e,f]at c;exact b (Option.some.inj c).symm
theorem zAc.upd (h:zAc w d m left L own D){n:Bs}{r:zB4}(H:Sat.get n L=some r){w':World}{v':Value}{f':zAW}
  (P:w.heap.size≤w'.heap.size) (M:∀k,k<w.heap.size→k≠r.fb→some k≠r.v.ownBlock→w'.heap[k]?=w.heap[k]?)
  (N:w'.heap[r.fb]?=some (.cells #[v',.int .i64 (f'.lasts:Int)] 123 (0,0))) (q:zAi w' 5 v' f'.data)
  (o:∀g,v'.ownBlock=some g→r.v.ownBlock=some g∨w.heap.size≤g) (C:zAA.OK {D with files:=put n f' D.files}) :
  ∃own',zAc w' d m left (put n ⟨r.fb,v',f'⟩ L) own' {D with files:=put n f' D.files}∧Ext w own own':=by
 have a:=h.fileAt H;have F:∀g,v'.ownBlock=some g→own g=some (3,n)∨own g=none:=fun g b=>by
  rcases o g b with l|l
  ·exact .inl (a.og g l)
  ·cases z:own g with
   | none=>exact .inr rfl
   | some t=>have:=h.olt g t z;omega
 have A:∀g,v'.ownBlock=some g→g<w'.heap.size:=fun g b=>OwnR.lt q b;refine⟨fun k=>if v'.ownBlock=some k then some (3,n)else own k,?_,fun k i z=>?_⟩
 ·have f:∀k t,own k=some t→t≠(2,n)→t≠(3,n)→w'.heap[k]?=w.heap[k]?:=fun k t i J B =>
   M k (h.olt k t i) (fun e=>J (by rw[e,a.ob]at i;exact(Option.some.inj i).symm)) (fun e=>B (by rw[a.og k e.symm]at i;exact(Option.some.inj i).symm))
  have c:∀k t,own k=some t→t≠(3,n)→(if v'.ownBlock=some k then some (3,n)else own k)=some t:=fun k t i B=>by
   rw[if_neg fun e=>?_,i];rcases F k e with l|l
   ·rw[i]at l;exact B (Option.some.inj l)
   ·rw[i]at l;cases l
  refine⟨(f d _ h.od (by simp) (by simp)).trans h.cells,h.left,?_,?_,zCO h.srt,?_,c d _ h.od (by simp),c m _ h.om (by simp),?_,C⟩
  ·have G:mp zB4.fb (put n ⟨r.fb,v',f'⟩ L)=mp zB4.fb L:=by
    rw[mp_put];exact put_same (mp_srt h.srt) (by rw[mp_get,H];rfl)
   have I:(put n (⟨r.fb,v',f'⟩:zB4) L).length=L.length:=by rw[←mp_len zB4.fb,G,mp_len]
   rw[dm_mp fbD zB4.fb (fun _ _=>fbD_of) G,I];obtain⟨es,s,O,rest⟩:=h.map;exact⟨es,s,(f m _ h.om (by simp) (by simp)).trans O,rest⟩
  ·rw[mp_put,←h.files]
  ·intro p E;rcases zBe.1 E with rfl|⟨E,y⟩
   ·refine⟨N,c _ _ a.ob (by simp),q,fun g b=>?_⟩
    show(if v'.ownBlock=some g then some (3,n)else own g)=some (3,n)
    rw[if_pos b]
   ·have j:=h.file p E;refine⟨(f _ _ j.ob (by simpa using y) (by simp)).trans j.cells,c _ _ j.ob (by simp),j.row.keep fun g b=>f g _ (j.og g b) (by simp) (by simpa using y),fun g b=>c _ _ (j.og g b) (by simpa using y)⟩
  ·intro k t i
   split at i
   ·rename_i e
    exact A k e
   ·exact Nat.lt_of_lt_of_le (h.olt k t i) P
 ·show(if v'.ownBlock=some k then some (3,n)else own k)=none
  rw[if_neg fun e=>?_,z];rcases o k e with l|l
  ·rw[a.og k l]at z;cases z
  ·omega
theorem zAc.add (h:zAc w d m left L own D){n:Bs}(E:Sat.get n L=none){w':World}{r:zB4}(J:w.heap.size≤w'.heap.size)(G:∀k,k<w.heap.size→k≠m→w'.heap[k]?=w.heap[k]?)
  (H:∃q,w'.ownsMap prog 9 ptrR m q ((dm fbD L).put (.string n) (fbD r)))
  (B:w'.heap[r.fb]?=some (.cells #[r.v,.int .i64 (r.f.lasts:Int)] 123 (0,0))) (hn:w.heap.size≤r.fb) (o:zAi w' 5 r.v r.f.data) (A:∀g,r.v.ownBlock=some g→w.heap.size≤g∧g≠r.fb)
  (z:zAA.OK {D with files:=put n r.f D.files}) :
  ∃own',zAc w' d m left (put n r L) own' {D with files:=put n r.f D.files}∧Ext w own own':=by
 have s:∀k,w.heap.size≤k→own k=none:=fun k j=>by
  cases y:own k with
  | none=>rfl
  | some t=>have:=h.olt k t y;omega
 refine⟨fun k=>if k=r.fb then some (2,n)else if r.v.ownBlock=some k then some (3,n)else own k,?_,fun k j y=>?_⟩
 ·have b:∀k t,own k=some t→(if k=r.fb then some (2,n)else if r.v.ownBlock=some k then some (3,n)else own k)=some t:=fun k t j=>by
   have:=h.olt k t j;rw[if_neg (by omega),if_neg (fun e=>by have:=(A k e).1;omega),j]
  have l:∀k t,own k=some t→t≠(1,[])→w'.heap[k]?=w.heap[k]?:=fun k t j F=>G k (h.olt k t j) fun e=>F (by rw[e,h.om]at j;exact(Option.some.inj j).symm);refine⟨(l d _ h.od (by simp)).trans h.cells,h.left,?_,?_,zCO h.srt,?_,b d _ h.od,b m _ h.om,?_,z⟩
  ·obtain⟨q,C⟩:=H;rw[dm_put]at C;have:=exactly C;rwa[dm_size]at this
  ·rw[mp_put,←h.files]
  ·intro p a;rcases zBe.1 a with rfl|⟨a,I⟩
   ·refine⟨B,by simp,o,fun g c=>?_⟩
    show(if g=r.fb then some (2,n)else if r.v.ownBlock=some g then some (3,n)else own g)=some (3,n)
    rw[if_neg (A g c).2,if_pos c]
   ·have i:=h.file p a;exact⟨(l _ _ i.ob (by simp)).trans i.cells,b _ _ i.ob,i.row.keep fun g c=>l g _ (i.og g c) (by simp),fun g c=>b _ _ (i.og g c)⟩
  ·intro k t j
   split at j
   ·rename_i e
    rw[e];exact zAB B
   ·split at j
    ·rename_i e
     exact OwnR.lt o e
    ·exact Nat.lt_of_lt_of_le (h.olt k t j) J
 ·show(if k=r.fb then some (2,n)else if r.v.ownBlock=some k then some (3,n)else own k)=none
  rw[if_neg (by omega),if_neg (fun e=>by have:=(A k e).1;omega),y]
theorem zAc.remap (h:zAc w d m left L own D){w':World}{L':List (Bs×zB4)}{D':zAA}(S:w.heap.size≤w'.heap.size)(Q:∀k,k<w.heap.size→k≠m→w'.heap[k]?=w.heap[k]?)
  (R:∃q,w'.ownsMap prog 9 ptrR m q (dm fbD L')) (P:Srt L') (z:D'.room=D.room) (c:D'.fuse=D.fuse) (j:D'.files=mp zB4.f L') (J:D'.OK)
  (o:∀p∈L',∃q∈L,q.2=p.2) (B:∀p∈L',∀q∈L',p.2.fb=q.2.fb→p=q) :
  ∃own',zAc w' d m left L' own' D'∧Ext w own own':=by
 classical
 -- a name for each block that a file of L' has
 let nameOf:Bs→Option Bs:=fun n=>(L'.find? fun p=>L.any fun q=>decide (q.1=n∧q.2.fb=p.2.fb)).map (·.1)
 have E:∀p∈L',∀q∈L,q.2=p.2→nameOf q.1=some p.1:=by
  intro p C q v e;have I:∃y,(L'.find? fun p=>L.any fun A=>decide (A.1=q.1∧A.2.fb=p.2.fb))=some y:=by
   rw[←Option.isSome_iff_exists,List.find?_isSome];exact⟨p,C,List.any_eq_true.2 ⟨q,v,by simp[e]⟩⟩
  obtain⟨y,N⟩:=I;have H:=List.find?_some N;have O:=List.mem_of_find?_eq_some N;obtain⟨A,b,G⟩:=List.any_eq_true.1 H;simp only[decide_eq_true_eq]at G;have M:A=q:=zF7 h.srt b v G.1;have:y=p:=B y O p C (by rw[←G.2,M,e])
  show(L'.find? fun p=>L.any fun A=>decide (A.1=q.1∧A.2.fb=p.2.fb)).map (·.1)=some p.1
  rw[N,this];rfl
 refine⟨fun k=>match own k with
  | some (0,s)=>some (0,s)
  | some (1,s)=>some (1,s)
  | some (t,s)=>(nameOf s).map fun T=>(t,T)
  | none=>none,?_,fun k _ F=>by simp only[F]⟩
 have i:∀k t,own k=some t→t≠(1,[])→w'.heap[k]?=w.heap[k]?:=fun k t l H=>Q k (h.olt k t l) fun e=>H (by rw[e,h.om]at l;exact(Option.some.inj l).symm);refine⟨?_,fun k l=>h.left k (by rw[←c];exact l),?_,j,P,?_,by simp only[h.od],by simp only[h.om],?_,J⟩
 ·rw[i d _ h.od (by simp),h.cells,z,c]
 ·obtain⟨q,v⟩:=R;have:=exactly v;rwa[dm_size]at this
 ·intro p C;obtain⟨q,v,e⟩:=o p C;have b:=h.file q v;have hn:=E p C q v e;rw[e]at b;refine⟨(i _ _ b.ob (by simp)).trans b.cells,?_,b.row.keep fun g r=>i g _ (b.og g r) (by simp),fun g r=>?_⟩
  ·simp only[b.ob,hn];rfl
  ·simp only[b.og g r,hn];rfl
 ·intro k t l;cases F:own k with
  | none=>simp only[F]at l;cases l
  | some s=>exact Nat.lt_of_lt_of_le (h.olt k s F) S
end
end Go.Proofs.YtapfnehdgailmaaGreat
