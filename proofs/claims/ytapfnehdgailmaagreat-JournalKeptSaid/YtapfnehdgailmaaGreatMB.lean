/- What the program's functions and the document's do, and plain laws, for PJournalKept. -/
import Derived.Test.YtapfnehdgailmaaGreatMA
open Go.Proofs.Tryz
set_option maxRecDepth 100000
set_option maxHeartbeats 64000000
namespace Go.Proofs.YtapfnehdgailmaaGreat
open Go.RowKit Go.Sat Go.Maps
theorem zCB:Keyed prog 9:=string_keyed underlying9
theorem zBz (w:World):(zeroValue 121).run prog w=.ok (.pointer none) w:=by kernel_rfl
/-! ### New -/
theorem new_walk (n:Int)(w:World)(c:0≤n)(d:n≤1073741824) :
  Calls prog 13 #[.int .i64 n] w fun e w'=>e=.returned (.tuple #[.pointer (some ⟨w.heap.size+1,0,none⟩),.int .i64 0])∧w'=(w.alloc (.map #[] 0)).alloc (.cells #[.int .i64 n,.map (some w.heap.size),.bool false,.int .i64 0] 115):=by
 have b:=@run_makeMap prog
 go_enter func13,ntmps13
 go_wp2
 go_ret2
 exact⟨rfl,rfl⟩
theorem ok_fresh (n:Nat)(h:n≤1073741824):(zAA.fresh n).OK where
 srt:=srt_nil
 room:=h
 used:=Nat.zero_le _
 count:=Nat.zero_le _
 names p hp:=by simp[zAA.fresh]at hp
 lasts p hp:=by simp[zAA.fresh]at hp
 fuse k hk:=by simp[zAA.fresh]at hk
theorem new_calls (n:Int)(w:World)(c:0≤n)(f:n≤1073741824) :
  Calls prog 13 #[.int .i64 n] w fun e w'=>∃d own,e=.returned (.tuple #[.pointer (some ⟨d,0,none⟩),.int .i64 0])∧zCa w' d (zAA.fresh n.toNat) own∧Chg (fun _=>False) w w' ∧
   (∀k,k<w.heap.size→own k=none):=by
 refine(new_walk n w c f).mono ?_;rintro e w' ⟨rfl,rfl⟩;refine⟨w.heap.size+1,fun k=>if k=w.heap.size+1 then some (0,[])else if k=w.heap.size then some (1,[])else none,rfl,⟨w.heap.size,0,[],?_⟩,((Chg.alloc w _).trans (Chg.alloc _ _) fun _ _ h=>h),fun k b=>?_⟩
 ·have i:(w.alloc (.map #[] 0)).heap.size=w.heap.size+1:=by simp
  refine⟨?_,fun k b=>by simp[zAA.fresh]at b,?_,rfl,srt_nil,fun p g=>by simp at g,by simp,by simp,fun k t b=>?_,ok_fresh _ (by omega)⟩
  ·have:=zAJ (w.alloc (.map #[] 0)) (.cells #[.int .i64 n,.map (some w.heap.size),.bool false,.int .i64 0] 115);rw[i]at this;rw[this];simp only[zAA.fresh,Option.isSome_none];rw[show((n.toNat:Int))=n by omega]
  ·exact(World.ownsMap_made w prog 9 ptrR).alloc _
  ·split at b
   ·simp;omega
   ·split at b
    ·simp;omega
    ·cases b
 ·simp only;rw[if_neg (by omega),if_neg (by omega)]
/-! ### may -/
def zEq (w:World)(p:Option Addr)(c:List ByteArray):Prop :=
 c=[]∨∃b o,p=some ⟨b,o,none⟩∧∀i s,c[i]?=some s→w.cell? ⟨b,o+i,none⟩=some (.string s)
def nm (s:ByteArray):Bs:=s.data.toList
theorem nm_len (s:ByteArray):(nm s).length=s.size:=by simp[nm]
def namesE (b:List ByteArray):Int:=if(b.map nm).all okN then 0 else 1
theorem okN_nm (s:ByteArray):okN (nm s)=(decide (1≤s.size)&&decide (s.size≤64)):=by simp[okN,nm_len]
theorem may_burnt (d:Nat)(p:Option Addr)(n c:Nat)(w:World)(b:w.cell? ⟨d,2,none⟩=some (.bool true))(f:w.cell? ⟨d,3,none⟩=some (.int .i64 0)) :
  Calls prog 65 #[.pointer (some ⟨d,0,none⟩),.slice p n c] w fun e w'=>e=.returned (.int .i64 9)∧w=w':=by
 go_enter func65,ntmps65
 go_wp2
 go_ret;exact⟨rfl,rfl⟩
theorem take_ok {b:List ByteArray}{k:Nat}(c:k<b.length)(h:((b.take k).map nm).all okN=true)(d:okN (nm b[k])=true):((b.take (k+1)).map nm).all okN=true:=by
 rw[List.take_succ_eq_append_getElem c,List.map_append,List.all_append,h];simp[d]
theorem bad_at {b:List ByteArray}{k:Nat}(c:k<b.length)(d:okN (nm b[k])=false):namesE b=1:=by
 have:(b.map nm).all okN=false:=by
  rw[List.all_eq_false];exact⟨nm b[k],List.mem_map.2 ⟨_,List.getElem_mem c,rfl⟩,by rw[d];simp⟩
 simp[namesE,this]
theorem may_names (d:Nat)(p:Option Addr)(j:List ByteArray)(c:Nat)(w:World)(f:Bool)(l:Int)(E:w.cell? ⟨d,2,none⟩=some (.bool f))(F:w.cell? ⟨d,3,none⟩=some (.int .i64 l))
  (C:f=false∨l≠0) (D:zEq w p j) (I:j.length≤140737488355328) (y:∀s∈j,s.size≤9223372036854775807) :
  Calls prog 65 #[.pointer (some ⟨d,0,none⟩),.slice p j.length c] w fun e w'=>e=.returned (.int .i64 (namesE j))∧w=w':=by
 have a:f=false∨(f=true∧(l==0)=false):=by
  cases f with
  | false=>exact .inl rfl
  | true =>
   rcases C with h|h
   ·cases h
   ·exact .inr ⟨rfl,by simpa using h⟩
 clear C;rcases a with rfl|⟨rfl,H⟩
 all_goals
  go_enter func65,ntmps65
  go_wp2
  go_loop [24] (fun i=>∃k:Nat,k≤j.length∧i=.int .i64 k∧((j.take k).map nm).all okN=true) (fun i=>j.length-(intOf i).toNat)
  case atStart=>exact⟨0,Nat.zero_le _,rfl,rfl⟩
  case round =>
   obtain⟨k,G,rfl,g⟩:=hrel
   by_cases m:k<j.length
   ·have v:j[k]?=some j[k]:=List.getElem?_eq_getElem m;rcases D with h|⟨b,o,rfl,B⟩
    ·subst h;simp at m
    have z:=B k _ v;have J:j[k].size≤9223372036854775807:=y _ (List.getElem_mem m);have n:=zh (take_ok m g);have q:=zh (bad_at m);clear B y g v;rw[okN_nm]at n q;generalize j[k]=s at *
    by_cases A:1≤s.size
    ·by_cases t:s.size≤64
     ·go_wp2
      go_round
      case rel=>exact⟨k+1,by omega,by go_num,n.o (by simp[A,t])⟩
      case measure=>simp[intOf];omega
     ·go_wp2
      go_ret;exact⟨by rw[q.o (by simp[t])];rfl,rfl⟩
    ·go_wp2
     go_ret;exact⟨by rw[q.o (by simp[A])];rfl,rfl⟩
   ·have r:=zh g;clear g
    go_wp2
    go_ret;have h:=r.o;rw[List.take_of_length_le (by omega)]at h;exact⟨by simp[namesE,h],rfl⟩
theorem zBk {w:World}{d m:Nat}{left:Int}{L:List (Bs×zCA)}{own:Own}{D:zAA}(h:zAc w d m left L own D)(p:Option Addr)(b:List ByteArray)(c:Nat)
  (r:zEq w p b) (q:b.length≤140737488355328) (j:∀s∈b,s.size≤9223372036854775807) :
  Calls prog 65 #[.pointer (some ⟨d,0,none⟩),.slice p b.length c] w fun e w'=>e=.returned (.int .i64 (D.may (b.map nm):Int))∧w=w':=by
 have i:=h.c2;have l:=h.c3
 by_cases f:D.fuse=some 0
 ·have o:=h.left 0 f;rw[f]at i;subst o;refine(may_burnt d p b.length c w i l).mono ?_;rintro e w' ⟨rfl,rfl⟩;exact⟨by simp[zAA.may,f],rfl⟩
 ·have n:D.fuse.isSome=false∨left≠0:=by
   cases g:D.fuse with
   | none=>exact .inl rfl
   | some k =>
    refine .inr ?_;rw[h.left k g];intro e;have:k=0:=by omega
    subst this;exact f g
  refine(may_names d p b c w _ left i l n r q j).mono ?_;rintro e w' ⟨rfl,rfl⟩;refine⟨?_,rfl⟩;unfold namesE zAA.may;rw[if_neg f]
  split<;>rfl
/-! ### done -/
theorem done_walk (d:Nat)(w:World)(f:Bool)(l:Int)(c:w.cell? ⟨d,2,none⟩=some (.bool f))(g:w.cell? ⟨d,3,none⟩=some (.int .i64 l))(k:w.frozen? ⟨d,3,none⟩=false)(b:f=true→1≤l∧l≤9223372036854775807) :
  Calls prog 68 #[.pointer (some ⟨d,0,none⟩)] w fun e w'=>e=.returned (.int .i64 0)∧(if f then w.setCell ⟨d,3,none⟩ (.int .i64 (l-1))else w)=w':=by
 cases f with
 | false =>
  go_enter func68,ntmps68
  go_wp2
  go_ret;exact⟨rfl,rfl⟩
 | true =>
  obtain⟨j,i⟩:=b rfl;clear b
  go_enter func68,ntmps68
  go_wp2
  go_ret;exact⟨rfl,rfl⟩
theorem ok_done {D:zAA}(h:D.OK):D.done.OK where
 srt:=h.srt
 room:=h.room
 used:=h.used
 count:=h.count
 names:=h.names
 lasts:=h.lasts
 fuse k hk:=by
  simp only[zAA.done,Option.map_eq_some_iff]at hk;obtain⟨j,b,rfl⟩:=hk;have:=h.fuse j b;omega
theorem zDM {w:World}{d m:Nat}{left:Int}{L:List (Bs×zCA)}{own:Own}{D:zAA}(h:zAc w d m left L own D)(l:D.fuse≠some 0) :
  Calls prog 68 #[.pointer (some ⟨d,0,none⟩)] w fun e w'=>e=.returned (.int .i64 0)∧zCa w' d D.done own∧Chg (fun k=>k=d) w w':=by
 refine(done_walk d w _ left h.c2 h.c3 (zAE h.cells 3) ?_).mono ?_
 ·intro o;cases b:D.fuse with
  | none=>rw[b]at o;cases o
  | some k =>
   rw[h.left k b];have:k≠0:=fun e=>l (by rw[b,e]);have:=h.ok.fuse k b;omega
 ·rintro e w' ⟨rfl,rfl⟩;refine⟨rfl,?_,?_⟩
  ·cases b:D.fuse with
   | none =>
    refine⟨m,left,L,?_⟩;have q:D.done=D:=by
     cases D;simp only at b;subst b;rfl
    rw[q];exact h
   | some k =>
    refine⟨m,left-1,L,?_⟩;simp only[Option.isSome_some,if_true];have n:∀j,j≠d→(w.setCell ⟨d,3,none⟩ (.int .i64 (left-1))).heap[j]?=w.heap[j]?:=fun j f=>set_other _ f;have i:∀j t,own j=some t→t≠(0,[])→j≠d:=fun j t f v e=>by
     rw[e,h.od]at f;exact v (Option.some.inj f).symm
    refine⟨?_,?_,?_,h.files,h.srt,fun p s=>?_,h.od,h.om,fun j t f=>by simpa[World.setCell]using h.olt j t f,ok_done h.ok⟩
    ·rw[zAD h.cells];simp[zAA.done,b]
    ·intro j f;simp only[zAA.done,b,Option.map_some,Option.some.injEq]at f;have y:=h.left k b;have:k≠0:=fun e=>l (by rw[b,e]);omega
    ·exact h.map.setCell h.dm_ne.symm _
    ·have c:=h.file p s;refine⟨(n _ (i _ _ c.ob (by simp))).trans c.cells,c.ob,c.row.keep fun g r=>n _ (i _ _ (c.og g r) (by simp)),c.og⟩
  ·split
   ·exact Chg.setCell w ⟨d,3,none⟩ _
   ·exact Chg.refl _ _
/-! ### Used -/
theorem zGh {w:World}{d m:Nat}{left:Int}{L:List (Bs×zCA)}{own:Own}{D:zAA}(h:zAc w d m left L own D) :
  Calls prog 67 #[.pointer (some ⟨d,0,none⟩)] w fun e w'=>e=.returned (.int .i64 (D.used:Int))∧Below w.heap.size w w':=by
 have K:=h.c1;obtain⟨S,hS⟩:∃S,S=D.used:=⟨_,rfl⟩;have A:zBM (fun r:zCA=>r.f.data.length) L=S:=by rw[hS,h.used]
 have U:S≤1073741824:=by
  have:=h.ok.used;have:=h.ok.room;omega
 rw[←hS];have i:=h.map;have G:=h.srt;have X:Hid (zAc w d m left L own D):=h;clear h hS
 go_enter func67,ntmps67
 go_wp2_with (first|(at_range;refine wpList_range_own _ rfl _ 113 rfl 9 121 zCB underlying113 ptrR m L.length (dm fbD L) rfl i ?_;intro w0 l B Q))
 go_frame
 go_loopw [3] (fun P wr=>∃rest a,wr.ranges prog 9 ptrR m w.heap.size L.length (dm fbD L) rest a∧(∃k:Nat,P=.int .i64 (k:Int)∧k+zBM (fun r:zCA=>r.f.data.length) (rem rest L)=S)∧Below w.heap.size w wr) (fun _ wr=>wr.rangeLeft m w.heap.size)
 case atStart =>
  refine⟨_,_,l,⟨0,rfl,?_⟩,(Below.refl _ _).grown B (Nat.le_refl _) (fun _ e=>by cases e)⟩;rw[show rem (Maps.has (dm fbD L)) L=L from rem_start _ L,A,Nat.zero_add]
 case round =>
  obtain⟨rest,a,y,⟨k,rfl,V⟩,b⟩:=hrel;have N:=zh V;clear V l B Q A i;go_wp2_with (first|(at_next;refine zFE _ rfl _ rfl 9 underlying9 zCB zCA.fb L m w.heap.size L.length _ _ rfl y ?_ ?_))
  ·intro I;have hS:k=S:=by
    have:=N.o;rw[rem_end I]at this;simpa[zBM]using this
   subst hS
   go_wp2
   go_ret;exact⟨rfl,b⟩
  ·intro s x w1 T t I hs n F C R Y;have M:=X.o.file _ (zBv t);have g:Below w.heap.size w w1:=b.grown C b.size (fun j e=>by cases e;exact Nat.le_refl _);have q:w1.cell? ⟨x.fb,0,none⟩=some x.v:=(g.cell (p:=⟨x.fb,0,none⟩) (zAB M.cells)).trans (zAG M.cells rfl);obtain⟨p,c,J⟩:∃p c,x.v=.slice p x.f.data.length c:=by
    obtain⟨_,p,c,J,_⟩:=M.row.holds;exact⟨p,c,J⟩
   have H:=rem_sum (f:=fun r:zCA=>r.f.data.length) G t I;have Z:k+x.f.data.length≤S:=by
    have:=N.o;omega
   have E:k+x.f.data.length+zBM (fun r:zCA=>r.f.data.length) (rem (fun z=>rest z&& !z.sameKey (.string s.data.toList)) L)=S:=by
    have:=N.o;omega
   have O:=zh E;have W:=zh (show w1.rangeLeft m w.heap.size<wr.rangeLeft m w.heap.size by rw[n.left_eq,y.left_eq];exact F);rw[J]at q;clear E H t I C R F y b M J;generalize x.f.data.length=j at *
   go_wp2
   go_roundw
   case rel=>exact⟨_,_,n,⟨k+j,by go_num,O.o⟩,g⟩
   case measure=>exact W.o
end Go.Proofs.YtapfnehdgailmaaGreat
namespace Go.Sat
theorem put_same {α:Type}{L:List (Bs×α)}(h:Srt L){n:Bs}{a:α}(c:get n L=some a):put n a L=L :=
 srt_ext (zBr h) h fun m=>by
  by_cases b:m=n
  ·subst b;rw[zBQ h,c]
  ·rw[zBP h a b]
theorem dm_mp {H α:Type}(g:α→DataW H)(f:α→Nat)(d:∀a b,f a=f b→g a=g b){L M:List (Bs×α)}(h:mp f L=mp f M):dm g L=dm g M:=by
 have:∀L M:List (Bs×α),mp f L=mp f M→L.map (fun p=>(Lit.string p.1,g p.2))=M.map (fun p=>(Lit.string p.1,g p.2)):=by
  intro L
  induction L with
  | nil =>
   intro M c;cases M with
   | nil=>rfl
   | cons y s=>simp[mp]at c
  | cons x r ih =>
   intro M c;cases M with
   | nil=>simp[mp]at c
   | cons y s =>
    simp only[mp,List.map_cons,List.cons.injEq,Prod.mk.injEq]at c;obtain⟨⟨i,j⟩,k⟩:=c;simp only[List.map_cons];rw[ih s k,i,d _ _ j]
 unfold dm;rw[this L M h]
end Go.Sat
namespace Go.Proofs.YtapfnehdgailmaaGreat
open Go.RowKit Go.Sat Go.Maps
theorem fbD_of {a b:zCA}(h:a.fb=b.fb):fbD a=fbD b:=by simp[fbD,h]
section
variable {w:World} {d m:Nat} {left:Int} {L:List (Bs×zCA)} {own:Own} {D:zAA}
theorem zAc.fileAt (h:zAc w d m left L own D){n:Bs}{r:zCA}(b:Sat.get n L=some r):FileAt w own n r:=h.file _ (zBv b)
theorem zAc.ne_of (_h:zAc w d m left L own D){j k:Nat}{s t:Nat×Bs}(c:own j=some s)(f:own k=some t)(b:s≠t):j≠k:=fun e=>by
 rw[e,f]at c;exact b (Option.some.inj c).symm
theorem zAc.upd (h:zAc w d m left L own D){n:Bs}{r:zCA}(H:Sat.get n L=some r){w':World}{v':Value}{f':zAS}
  (P:w.heap.size≤w'.heap.size) (M:∀k,k<w.heap.size→k≠r.fb→some k≠r.v.ownBlock→w'.heap[k]?=w.heap[k]?)
  (N:w'.heap[r.fb]?=some (.cells #[v',.int .i64 (f'.lasts:Int)] 123 (0,0))) (q:zAk w' 5 v' f'.data)
  (o:∀g,v'.ownBlock=some g→r.v.ownBlock=some g∨w.heap.size≤g) (C:zAA.OK {D with files:=put n f' D.files}) :
  ∃own',zAc w' d m left (put n ⟨r.fb,v',f'⟩ L) own' {D with files:=put n f' D.files}∧Ext w own own':=by
 have a:=h.fileAt H;have F:∀g,v'.ownBlock=some g→own g=some (3,n)∨own g=none:=fun g b=>by
  rcases o g b with l|l
  ·exact .inl (a.og g l)
  ·cases z:own g with
   | none=>exact .inr rfl
   | some t=>have:=h.olt g t z;omega
 have A:∀g,v'.ownBlock=some g→g<w'.heap.size:=fun g b=>OwnR.lt q b;refine⟨fun k=>if v'.ownBlock=some k then some (3,n)else own k,?_,fun k i z=>?_⟩
 ·have f:∀k t,own k=some t→t≠(2,n)→t≠(3,n)→w'.heap[k]?=w.heap[k]?:=fun k t i J B =>
   M k (h.olt k t i) (fun e=>J (by rw[e,a.ob]at i;exact(Option.some.inj i).symm)) (fun e=>B (by rw[a.og k e.symm]at i;exact(Option.some.inj i).symm))
  have c:∀k t,own k=some t→t≠(3,n)→(if v'.ownBlock=some k then some (3,n)else own k)=some t:=fun k t i B=>by
   rw[if_neg fun e=>?_,i];rcases F k e with l|l
   ·rw[i]at l;exact B (Option.some.inj l)
   ·rw[i]at l;cases l
  refine⟨(f d _ h.od (by simp) (by simp)).trans h.cells,h.left,?_,?_,zBr h.srt,?_,c d _ h.od (by simp),c m _ h.om (by simp),?_,C⟩
  ·have G:mp zCA.fb (put n ⟨r.fb,v',f'⟩ L)=mp zCA.fb L:=by
    rw[mp_put];exact put_same (mp_srt h.srt) (by rw[zGL,H];rfl)
   have I:(put n (⟨r.fb,v',f'⟩:zCA) L).length=L.length:=by rw[←mp_len zCA.fb,G,mp_len]
   rw[dm_mp fbD zCA.fb (fun _ _=>fbD_of) G,I];obtain⟨es,s,O,rest⟩:=h.map;exact⟨es,s,(f m _ h.om (by simp) (by simp)).trans O,rest⟩
  ·rw[mp_put,←h.files]
  ·intro p E;rcases zBl.1 E with rfl|⟨E,y⟩
   ·refine⟨N,c _ _ a.ob (by simp),q,fun g b=>?_⟩
    show(if v'.ownBlock=some g then some (3,n)else own g)=some (3,n)
    rw[if_pos b]
   ·have j:=h.file p E;refine⟨(f _ _ j.ob (by simpa using y) (by simp)).trans j.cells,c _ _ j.ob (by simp),j.row.keep fun g b=>f g _ (j.og g b) (by simp) (by simpa using y),fun g b=>c _ _ (j.og g b) (by simpa using y)⟩
  ·intro k t i
   split at i
   ·rename_i e
    exact A k e
   ·exact Nat.lt_of_lt_of_le (h.olt k t i) P
 ·show(if v'.ownBlock=some k then some (3,n)else own k)=none
  rw[if_neg fun e=>?_,z];rcases o k e with l|l
  ·rw[a.og k l]at z;cases z
  ·omega
theorem zAc.add (h:zAc w d m left L own D){n:Bs}(_hg:Sat.get n L=none){w':World}{r:zCA}(I:w.heap.size≤w'.heap.size)(F:∀k,k<w.heap.size→k≠m→w'.heap[k]?=w.heap[k]?)
  (G:∃q,w'.ownsMap prog 9 ptrR m q ((dm fbD L).put (.string n) (fbD r)))
  (B:w'.heap[r.fb]?=some (.cells #[r.v,.int .i64 (r.f.lasts:Int)] 123 (0,0))) (hn:w.heap.size≤r.fb) (o:zAk w' 5 r.v r.f.data) (A:∀g,r.v.ownBlock=some g→w.heap.size≤g∧g≠r.fb)
  (z:zAA.OK {D with files:=put n r.f D.files}) :
  ∃own',zAc w' d m left (put n r L) own' {D with files:=put n r.f D.files}∧Ext w own own':=by
 have s:∀k,w.heap.size≤k→own k=none:=fun k j=>by
  cases y:own k with
  | none=>rfl
  | some t=>have:=h.olt k t y;omega
 refine⟨fun k=>if k=r.fb then some (2,n)else if r.v.ownBlock=some k then some (3,n)else own k,?_,fun k j y=>?_⟩
 ·have b:∀k t,own k=some t→(if k=r.fb then some (2,n)else if r.v.ownBlock=some k then some (3,n)else own k)=some t:=fun k t j=>by
   have:=h.olt k t j;rw[if_neg (by omega),if_neg (fun e=>by have:=(A k e).1;omega),j]
  have l:∀k t,own k=some t→t≠(1,[])→w'.heap[k]?=w.heap[k]?:=fun k t j E=>F k (h.olt k t j) fun e=>E (by rw[e,h.om]at j;exact(Option.some.inj j).symm);refine⟨(l d _ h.od (by simp)).trans h.cells,h.left,?_,?_,zBr h.srt,?_,b d _ h.od,b m _ h.om,?_,z⟩
  ·obtain⟨q,C⟩:=G;rw[dm_put]at C;have:=exactly C;rwa[dm_size]at this
  ·rw[mp_put,←h.files]
  ·intro p a;rcases zBl.1 a with rfl|⟨a,H⟩
   ·refine⟨B,by simp,o,fun g c=>?_⟩
    show(if g=r.fb then some (2,n)else if r.v.ownBlock=some g then some (3,n)else own g)=some (3,n)
    rw[if_neg (A g c).2,if_pos c]
   ·have i:=h.file p a;exact⟨(l _ _ i.ob (by simp)).trans i.cells,b _ _ i.ob,i.row.keep fun g c=>l g _ (i.og g c) (by simp),fun g c=>b _ _ (i.og g c)⟩
  ·intro k t j
   split at j
   ·rename_i e
    rw[e];exact zAB B
   ·split at j
    ·rename_i e
     exact OwnR.lt o e
    ·exact Nat.lt_of_lt_of_le (h.olt k t j) I
 ·show(if k=r.fb then some (2,n)else if r.v.ownBlock=some k then some (3,n)else own k)=none
  rw[if_neg (by omega),if_neg (fun e=>by have:=(A k e).1;omega),y]
theorem zAc.remap (h:zAc w d m left L own D){w':World}{L':List (Bs×zCA)}{D':zAA}(S:w.heap.size≤w'.heap.size)(Q:∀k,k<w.heap.size→k≠m→w'.heap[k]?=w.heap[k]?)
  (R:∃q,w'.ownsMap prog 9 ptrR m q (dm fbD L')) (P:Srt L') (z:D'.room=D.room) (c:D'.fuse=D.fuse) (j:D'.files=mp zCA.f L') (J:D'.OK)
  (o:∀p∈L',∃q∈L,q.2=p.2) (B:∀p∈L',∀q∈L',p.2.fb=q.2.fb→p=q) :
  ∃own',zAc w' d m left L' own' D'∧Ext w own own':=by
 classical
 -- a name for each block that a file of L' has
 let nameOf:Bs→Option Bs:=fun n=>(L'.find? fun p=>L.any fun q=>decide (q.1=n∧q.2.fb=p.2.fb)).map (·.1)
 have E:∀p∈L',∀q∈L,q.2=p.2→nameOf q.1=some p.1:=by
  intro p C q v e;have I:∃y,(L'.find? fun p=>L.any fun A=>decide (A.1=q.1∧A.2.fb=p.2.fb))=some y:=by
   rw[←Option.isSome_iff_exists,List.find?_isSome];exact⟨p,C,List.any_eq_true.2 ⟨q,v,by simp[e]⟩⟩
  obtain⟨y,N⟩:=I;have H:=List.find?_some N;have O:=List.mem_of_find?_eq_some N;obtain⟨A,b,G⟩:=List.any_eq_true.1 H;simp only[decide_eq_true_eq]at G;have M:A=q:=zGJ h.srt b v G.1;have:y=p:=B y O p C (by rw[←G.2,M,e])
  show(L'.find? fun p=>L.any fun A=>decide (A.1=q.1∧A.2.fb=p.2.fb)).map (·.1)=some p.1
  rw[N,this];rfl
 refine⟨fun k=>match own k with
  | some (0,s)=>some (0,s)
  | some (1,s)=>some (1,s)
  | some (t,s)=>(nameOf s).map fun T=>(t,T)
  | none=>none,?_,fun k _ F=>by simp only[F]⟩
 have i:∀k t,own k=some t→t≠(1,[])→w'.heap[k]?=w.heap[k]?:=fun k t l H=>Q k (h.olt k t l) fun e=>H (by rw[e,h.om]at l;exact(Option.some.inj l).symm);refine⟨?_,fun k l=>h.left k (by rw[←c];exact l),?_,j,P,?_,by simp only[h.od],by simp only[h.om],?_,J⟩
 ·rw[i d _ h.od (by simp),h.cells,z,c]
 ·obtain⟨q,v⟩:=R;have:=exactly v;rwa[dm_size]at this
 ·intro p C;obtain⟨q,v,e⟩:=o p C;have b:=h.file q v;have hn:=E p C q v e;rw[e]at b;refine⟨(i _ _ b.ob (by simp)).trans b.cells,?_,b.row.keep fun g r=>i g _ (b.og g r) (by simp),fun g r=>?_⟩
  ·simp only[b.ob,hn];rfl
  ·simp only[b.og g r,hn];rfl
 ·intro k t l;cases F:own k with
  | none=>simp only[F]at l;cases l
  | some s=>exact Nat.lt_of_lt_of_le (h.olt k s F) S
end
def zDO (w:World)(d:Nat)(own:Own)(r:zAA×Nat)(e:Ending)(w':World):Prop :=
 ∃own',e=.returned (.int .i64 (r.2:Int))∧zCa w' d r.1 own'∧Chg (Has own) w w'∧Ext w own own'
theorem zBc (w:World)(s:ByteArray):zEq (w.alloc (.cells #[.string s] 9)) (some ⟨w.heap.size,0,none⟩) [s]:=by
 refine .inr ⟨_,_,rfl,fun i u b=>?_⟩;have c:i=0:=by
  have:=(List.getElem?_eq_some_iff.1 b).1;simp at this;exact this
 subst c;simp at b;subst b;exact zAG (zAJ w _) rfl
theorem zCf (w:World)(own:Own):Ext w own own:=fun _ _ h=>h
section
variable {w:World} {d m:Nat} {left:Int} {L:List (Bs×zCA)} {own:Own} {D:zAA}
theorem append_bad (h:zAc w d m left L own D)(s:ByteArray)(x:Value)(i:s.size≤9223372036854775807)(g:D.may [nm s]≠0) :
  Calls prog 15 #[.pointer (some ⟨d,0,none⟩),.string s,x] w (zDO w d own (D,D.may [nm s])):=by
 have c:=h.chg (Chg.alloc w (.cells #[.string s] 9)) (fun k f=>f.elim);have b:=zBk c _ [s] 1 (zBc w s) (by simp) (by simpa using i);simp only[List.map_cons,List.map_nil]at b;generalize f:D.may [nm s]=k at g b ⊢;have n:((k:Int) != 0)=true:=by simp;exact g
 have j:=zh c;have l:=zh b;clear h b c g f
 go_enter func15,ntmps15
 go_wp2_with fail;refine l.o.mono ?_;rintro e w' ⟨rfl,rfl⟩;go_wp2_with fail;go_ret;exact⟨own,rfl,⟨m,left,L,j.o⟩,(Chg.alloc w _).mono (fun _ _ h=>h.elim),zCf _ _⟩
def Still (b:World)(d m:Nat)(left:Int)(L:List (Bs×zCA))(own:Own)(D:zAA)(w:World):Prop:=zAc w d m left L own D∧Below b.heap.size b w
theorem zB7 {c w1 w2:World}(h:Still c d m left L own D w1)(b:Below w1.heap.size w1 w2):Still c d m left L own D w2 :=
 ⟨h.1.chg (Chg.of_below b) (fun _ f=>f.elim),h.2.trans (b.mono h.2.size)⟩
theorem zCx {w w1:World}{x:Value}{ls:List Bs}(h:zBF w x ls)(z:Below w.heap.size w w1):zBF w1 x ls:=by
 obtain⟨p,c,rfl,A,t⟩:=h;refine⟨p,c,rfl,A,fun m=>?_⟩;obtain⟨b,o,vs,rfl,q,r,s⟩:=t m;have d:∀a v,w.cell? a=some v→w1.cell? a=some v:=fun a v f=>(z.cell (World.block_lt_of_cell? w a f)).trans f;refine⟨b,o,vs,rfl,q,fun i v f=>d _ _ (r i v f),fun i v l f B=>?_⟩;obtain⟨p,g,rfl,n,k⟩:=s i v l f B;exact⟨p,g,rfl,n,fun a y j x C=>d _ _ (k a y j x C)⟩
theorem below2 {S:Nat→Prop}{w b w2:World}(h:Below w.heap.size w b)(k:Below b.heap.size b w2):Chg S w w2 :=
 ((Chg.of_below h).trans (Chg.of_below k) fun _ _ h=>h).mono fun _ _ h=>h.elim
theorem append_full (h:zAc w d m left L own D)(s:ByteArray)(x:Value)(ls:List Bs)(V:zBF w x ls)(hn:ls.length≤140737488355328)(hl:ls.flatten.length≤140737488355328)(v:s.size≤9223372036854775807)(Q:D.may [nm s]=0)
  (G:D.room<D.used+ls.flatten.length) :
  Calls prog 15 #[.pointer (some ⟨d,0,none⟩),.string s,x] w (zDO w d own (D,6)):=by
 have p:=(Below.refl w.heap.size w).alloc (Nat.le_refl _) (.cells #[.string s] 9);have A:=h.chg (Chg.alloc w (.cells #[.string s] 9)) (fun k H=>H.elim);have C:=zBk A _ [s] 1 (zBc w s) (by simp) (by simpa using v);simp only[List.map_cons,List.map_nil,Q]at C;have P:=zCs (zCx V p) hn hl;have X:=zh A;have Hc:=zh C;have Hj:=zh P;have z:=zh p;have hr:=h.ok.room;have T:=h.ok.used;clear h C A Q P V p
 go_enter func15,ntmps15
 go_wp2_with fail;refine Hc.o.mono ?_;rintro e w' ⟨rfl,rfl⟩;go_wp2_with fail;refine Hj.o.mono ?_;rintro e w1 ⟨b,rfl,O,f⟩;obtain⟨pb,cb,rfl⟩:=zAY.slice O;clear O;have r:=X.o.chg (Chg.of_below f) (fun k H=>H.elim);have ab:=r.c1;have E:=r.c0;obtain⟨fv,I⟩:=run_look_any w1 zCB underlying9 underlying113 (zBz w1) zCA.fb r.map v;have Z:Still (w.alloc (.cells #[.string s] 9)) d m left L own D w1.drew:=zB7 ⟨r,f⟩ ((Below.refl _ _).drew);have J:=fun W (h:Still (w.alloc (.cells #[.string s] 9)) d m left L own D W)=>zGh h.1;generalize M:D.room=R at G hr T E;generalize N:D.used=U at G T J;generalize ls.flatten.length=n at *;have ac:decide ((R:Int)-(U:Int)<(n:Int))=true:=by simp;omega
 have S:IntKind.i64.wrap ((R:Int)-(U:Int))=(R:Int)-(U:Int):=IntWalk.i64_in _ (by omega);have Y:=zh M;have K:=zh N;clear M N G r f;generalize y:w.alloc (.cells #[.string s] 9)=w0 at *;have aa:=zh y;clear y;go_wp2_with fail;obtain⟨ι,F,ad,t,l,c⟩:=classOf _ Z;have a:∀n,(F n).cell? ⟨d,0,none⟩=some (.int .i64 (R:Int)):=fun n=>by rw[(l n).1.c0,Y.o]
 have g:=zh l;have i:=zh c;clear l c;refine zCl F (by kernel_rfl) (by kernel_rfl) t ?_
 repeat(go_big_quiet_step ((go_at_call 67;refine(J _ (g.o _)).mono ?_;rintro e w2 ⟨rfl,B⟩;exact⟨rfl,i.o _ (zB7 (g.o _) B)⟩)))
 refine wpQuiet_nil ?_;rintro _ ⟨q,rfl⟩;have j:=g.o q;clear t a;generalize F q=w2 at j ⊢
 go_wp2
 go_ret;exact⟨own,rfl,⟨m,left,L,j.1⟩,below2 z.o j.2,zCf _ _⟩
theorem zDj {D:zAA}{ns:List Bs}(h:D.may ns=0):D.fuse≠some 0∧ns.all okN=true:=by
 unfold zAA.may at h
 split at h
 ·cases h
 ·rename_i h1
  refine⟨h1,?_⟩
  split at h
  ·assumption
  ·cases h
theorem ok_append {D:zAA}(h:D.OK){n b:Bs}(l:D.may [n]=0)(k:D.full n b=false):zAA.OK {D with files:=put n ⟨(D.cur n).data++b,(D.cur n).lasts⟩ D.files}:=by
 have hn:okN n=true:=by simpa using (zDj l).2
 simp only[zAA.full,Bool.or_eq_false_iff,decide_eq_false_iff_not,Bool.and_eq_false_iff]at k;obtain⟨o,j⟩:=k;have g:∀f,Sat.get n D.files=some f→D.cur n=f:=fun f c=>by simp[zAA.cur,c]
 have d:Sat.get n D.files=none→D.cur n=⟨[],0⟩:=fun c=>by simp[zAA.cur,c]
 refine⟨zBr h.srt,h.room,?_,?_,?_,?_,h.fuse⟩
 ·show zBM zAA.size (put n _ D.files)≤D.room
  rw[sum_put];have m:D.used=zAA.size (D.cur n)+zBM zAA.size (del n D.files):=by
   cases c:Sat.get n D.files with
   | none=>rw[d c,zC1 c];simp[zAA.used,zAA.size]
   | some f=>rw[g f c];exact zC0 h.srt c
  simp only[zAA.size,List.length_append]at m ⊢;omega
 ·show(put n _ D.files).length≤4096
  rw[zFm];cases c:Sat.get n D.files with
  | none =>
   rw[c]at j;simp at j;rw[zC1 c];omega
  | some f =>
   have:=len_del h.srt c;have:=h.count;omega
 ·intro p i;rcases zBl.1 i with rfl|⟨i,_⟩
  ·exact hn
  ·exact h.names p i
 ·intro p i;rcases zBl.1 i with rfl|⟨i,_⟩
  ·cases c:Sat.get n D.files with
   | none=>rw[d c];simp
   | some f =>
    rw[g f c];have:f.lasts≤f.data.length:=h.lasts _ (zBv c);simp only[List.length_append];omega
  ·exact h.lasts p i
theorem len_run {W:World}(h:zAc W d m left L own D)(ty:TypeId):(Builtin.len_ #[113] ty #[.map (some m)]).run prog W=.ok (.int .i64 (L.length:Int)) W:=by
 have:=h.map.len underlying113 ty;rwa[dm_size]at this
theorem append_count (h:zAc w d m left L own D)(s:ByteArray)(x:Value)(ls:List Bs)(hx:zBF w x ls)(hn:ls.length≤140737488355328)(hl:ls.flatten.length≤140737488355328)(A:s.size≤9223372036854775807)(hm:D.may [nm s]=0)
  (P:D.used+ls.flatten.length≤D.room) (Q:Sat.get (nm s) L=none) (c:4096≤L.length) :
  Calls prog 15 #[.pointer (some ⟨d,0,none⟩),.string s,x] w (zDO w d own (D,6)):=by
 have t:=(Below.refl w.heap.size w).alloc (Nat.le_refl _) (.cells #[.string s] 9);have H:=h.chg (Chg.alloc w (.cells #[.string s] 9)) (fun k V=>V.elim);have M:=zBk H _ [s] 1 (zBc w s) (by simp) (by simpa using A);simp only[List.map_cons,List.map_nil,hm]at M;have hj:=zCs (zCx hx t) hn hl;have hr:=h.ok.room;have I:L.length≤4096:=by rw[←h.len];exact h.ok.count
 have H1:=zh H;have Hc:=zh M;have Hj:=zh hj;have C:=zh t;clear h M H hm hj hx t
 go_enter func15,ntmps15
 go_wp2_with fail;refine Hc.o.mono ?_;rintro e w' ⟨rfl,rfl⟩;go_wp2_with fail;refine Hj.o.mono ?_;rintro e w1 ⟨b,rfl,K,i⟩;obtain⟨pb,cb,rfl⟩:=zAY.slice K;clear K;have B:=H1.o.chg (Chg.of_below i) (fun k V=>V.elim);have O:=B.c1;have v:=zBq w1 zCB underlying9 underlying113 (zBz w1) zCA.fb B.map A Q;have X:Still w1 d m left L own D w1.drew:=zB7 ⟨B,Below.refl _ _⟩ ((Below.refl _ _).drew);have Y:=fun W (h:Still w1 d m left L own D W)=>zGh h.1;generalize Z:D.room=R at P hr;generalize hU:D.used=U at P Y;generalize j:L.length=N at c I;generalize ls.flatten.length=n at *;have ac:decide ((R:Int)-(U:Int)<(n:Int))=false:=by simp;omega
 have ab:IntKind.i64.wrap ((R:Int)-(U:Int))=(R:Int)-(U:Int):=IntWalk.i64_in _ (by omega);have aa:decide ((4096:Int)≤(N:Int))=true:=by simp;omega
 have HR:=zh Z;have z:=zh j;have y:=zh i;have Hg:=zh Q;clear Z hU P B i Q j c;go_wp2_with fail;obtain⟨ι,F,ad,a,f,g⟩:=classOf _ X;have E:∀n,(F n).cell? ⟨d,0,none⟩=some (.int .i64 (R:Int)):=fun n=>by rw[(f n).1.c0,HR.o]
 have G:∀n,(F n).cell? ⟨d,1,none⟩=some (.map (some m)):=fun n=>(f n).1.c1;have fl:∀n ty,(Builtin.len_ #[113] ty #[.map (some m)]).run prog (F n)=.ok (.int .i64 (N:Int)) (F n):=fun n ty=>by rw[len_run (f n).1 ty,z.o]
 have l:=zh f;have p:=zh g;clear f g X;refine zCl F (by kernel_rfl) (by kernel_rfl) a ?_
 repeat(go_big_quiet_step ((go_at_call 67;refine(Y _ (l.o _)).mono ?_;rintro e w2 ⟨rfl,J⟩;exact⟨rfl,p.o _ (zB7 (l.o _) J)⟩)))
 refine wpQuiet_nil ?_;rintro _ ⟨q,rfl⟩;have r:=l.o q;clear a E G fl v O;generalize F q=w2 at r ⊢
 go_wp2
 go_ret;exact⟨own,rfl,⟨m,left,L,r.1⟩,(below2 (S:=Has own) C.o y.o).trans ((Chg.of_below r.2).mono (T:=Has own) fun _ _ h=>h.elim) fun _ _ h=>h,zCf _ _⟩
theorem append_old (h:zAc w d m left L own D)(s:ByteArray)(x:Value)(ls:List Bs)(hx:zBF w x ls)(hn:ls.length≤140737488355328)(hl:ls.flatten.length≤140737488355328)(al:s.size≤9223372036854775807)(hm:D.may [nm s]=0)
  (hf:D.full (nm s) ls.flatten=false) (r:zCA) (hg:Sat.get (nm s) L=some r) :
  Calls prog 15 #[.pointer (some ⟨d,0,none⟩),.string s,x] w (zDO w d own (zAA.done {D with files:=put (nm s) ⟨r.f.data++ls.flatten,r.f.lasts⟩ D.files},0)):=by
 have Z:=(Below.refl w.heap.size w).alloc (Nat.le_refl _) (.cells #[.string s] 9);have h1:=h.chg (Chg.alloc w (.cells #[.string s] 9)) (fun k z=>z.elim);have hc:=zBk h1 _ [s] 1 (zBc w s) (by simp) (by simpa using al);simp only[List.map_cons,List.map_nil,hm]at hc;have hj:=zCs (zCx hx Z) hn hl;have N:D.cur (nm s)=r.f:=by simp[zAA.cur,h.get,hg]
 have aa:=ok_append h.ok hm hf;rw[N]at aa;have ah:=(zDj hm).1;have P:D.used+ls.flatten.length≤D.room:=by
  simp only[zAA.full,Bool.or_eq_false_iff,decide_eq_false_iff_not]at hf;omega
 have aF:r.f.data.length≤D.used:=by rw[h.used];exact le_sum (f:=fun r:zCA=>r.f.data.length) h.srt hg
 have H1:=zh h1;have Hc:=zh hc;have Hj:=zh hj;have ab:=zh Z;have aq:=zh aa;have ao:=zh ah;have hr:=h.ok.room;clear h hc h1 hm hj hx Z aa N hf ah
 go_enter func15,ntmps15
 go_wp2_with fail;refine Hc.o.mono ?_;rintro e w' ⟨rfl,rfl⟩;go_wp2_with fail;refine Hj.o.mono ?_;rintro e w1 ⟨b,rfl,hb,C⟩;have Hb:=zh hb;obtain⟨pb,cb,rfl⟩:=zAY.slice hb;clear hb;have A:=H1.o.chg (Chg.of_below C) (fun k z=>z.elim);have av:=A.c1;have af:=A.c0;have K:=zB9 w1 zCB underlying9 underlying113 (zBz w1) zCA.fb A.map al hg;have am:Still w1 d m left L own D w1:=⟨A,Below.refl _ _⟩;have HS:Still w1 d m left L own D w1.drew:=zB7 am ((Below.refl _ _).drew);have HU:=fun W (h:Still w1 d m left L own D W)=>zGh h.1;have I:=zh C;generalize hR:D.room=R at P hr af;generalize hU:D.used=U at P HU aF;generalize aj:ls.flatten.length=n at *;have aL:decide ((R:Int)-(U:Int)<(n:Int))=false:=by simp;omega
 have aJ:IntKind.i64.wrap ((R:Int)-(U:Int))=(R:Int)-(U:Int):=IntWalk.i64_in _ (by omega);have HR:=zh hR;have aK:=zh hU;have ac:=zh aj;have Hg:=zh hg;clear hR hU A C aj hg;go_wp2_with fail;obtain⟨ι,F,aM,ae,Y,B⟩:=classOf _ HS;have ar:∀n,(F n).cell? ⟨d,0,none⟩=some (.int .i64 (R:Int)):=fun n=>by rw[(Y n).1.c0,HR.o]
 have Q:=zh Y;have V:=zh B;clear Y B;refine zCl F (by kernel_rfl) (by kernel_rfl) ae ?_
 repeat(go_big_quiet_step ((go_at_call 67;refine(HU _ (Q.o _)).mono ?_;rintro e w2 ⟨rfl,au⟩;exact⟨rfl,V.o _ (zB7 (Q.o _) au)⟩)))
 refine wpQuiet_nil ?_;rintro _ ⟨q,rfl⟩;have a:=Q.o q;clear ae ar K av af HS;generalize F q=w2 at a ⊢;have j:=a.1.fileAt Hg.o;have ay:w2.cell? ⟨r.fb,0,none⟩=some r.v:=zAG j.cells rfl;obtain⟨i0,hi,aG,aH,aI⟩:=info_parts (show(prog.info? 5).map (fun i=>(i.zero,i.size,i.bytes))=some (some (.int .u8 0),1,1) by kernel_rfl);have G:=j.row;have H:zAY w2 (.slice pb n cb) ls.flatten:=zAY.below Hb.o a.2;unfold zAY at H;rw[ac.o]at H;obtain⟨p1,c1,hv⟩:=zAk.slice G;have M:∀k,r.v.ownBlock=some k→k≠r.fb:=fun k z=>a.1.ne_of (j.og k z) j.ob (by simp);have X:=zh a;have t:=zh j;have Hv:=zh hv;have an:=zh H;have ad:=zh G;have J:=zh M;clear j hv G H M a;go_wp2_with (first|(at_builtin;refine zAP w2 rfl (.tmp 61) (.tmp 62) 22 rfl 5 i0 (.int .u8 0) 1 1 underlying22 hi aG aH aI rfl (by decide) r.v r.f.data.length (zAQ r.f.data) rfl ad.o (.slice pb n cb) n (zAQ ls.flatten) rfl an.o (zAO _) (by unfold maxLen;omega) (by omega) ?_;intro v' w3 l c p;obtain⟨p2,c2,rfl⟩:=OwnR.shape l;have y:=zEQ c t.o.cells (fun e=>J.o _ e rfl);have aw:=zAG (i:=0) y rfl;have aA:=zAE y 0;have ap:=zh (And.intro l (And.intro c (And.intro p y)));clear l c p y))
 obtain⟨l,c,p,y⟩:=ap.o;have A:=X.o.1;have aB:=zAB t.o.cells;have ak:∀k,(Value.slice p2 (r.f.data.length+n) c2).ownBlock=some k→k≠r.fb:=fun k z=>by
  rcases p with e|⟨g,e,ai⟩
  ·exact J.o k (by rw[←e];exact z)
  ·rw[e]at z;cases z;omega
 obtain⟨own',h4,O⟩:=A.upd (w':=w3.setCell ⟨r.fb,0,none⟩ (.slice p2 (r.f.data.length+n) c2)) (f':=⟨r.f.data++ls.flatten,r.f.lasts⟩) (v':=.slice p2 (r.f.data.length+n) c2) Hg.o
  (by simpa[World.setCell]using c.size) (fun k z h1 A=>(set_other _ h1).trans (c.block k z A)) (by rw[zAD y];simp)
  (by
   have e1:(r.f.data++ls.flatten).length=r.f.data.length+n:=by rw[List.length_append,ac.o]
   unfold zAk;rw[e1,zBt];exact OwnR.keep l fun k z=>set_other _ (ak k z))
  (fun g E=>by
   rcases p with e|⟨g',e,ai⟩
   ·exact .inl (by rw[←e];exact E)
   ·rw[e]at E;cases E;exact .inr ai) aq.o
 refine(zDM h4 ao.o).mono ?_;rintro e w5 ⟨rfl,az,ax⟩;have ag:Chg (Has own) w w5:=by
  have aD:Has own d:=by unfold Has;rw[A.od];simp
  have aC:Has own r.fb:=by unfold Has;rw[t.o.ob];simp
  have aE:∀g,r.v.ownBlock=some g→Has own g:=fun g E=>by unfold Has;rw[t.o.og g E];simp
  have k1:Chg (Has own) w w1:=below2 ab.o I.o;have k2:Chg (Has own) w w2:=k1.trans ((Chg.of_below X.o.2).mono (T:=Has own) fun _ _ h=>h.elim) fun _ _ h=>h;have k3:Chg (Has own) w w3:=k2.trans (Chg.of_grown c) fun i _ e=>aE i e.symm;have c4:Chg (Has own) w (w3.setCell ⟨r.fb,0,none⟩ (.slice p2 (r.f.data.length+n) c2)):=k3.trans (Chg.setCell w3 ⟨r.fb,0,none⟩ (.slice p2 (r.f.data.length+n) c2)) fun i _ e=>by rw[e];exact aC
  exact c4.trans ax fun i _ e=>by rw[e];exact aD
 clear l c p y A h4 aB ak aw aA;have Hx:=zh O;clear O;go_wp2_with fail;go_ret;exact⟨own',rfl,az,ag,fun k z=>Hx.o k (Nat.lt_of_lt_of_le z (Nat.le_trans (below2 (S:=fun _=>False) ab.o I.o).size X.o.2.size))⟩
theorem new_has {w2 w3:World}{o:Obj}(h:zAc w2 d m left L own D){v:Value}{l:Bs}(n:zAY w2 v l)(f:(w2.alloc o).grownBy w3 (some m)):zAY w3 v l:=by
 obtain⟨es,b,g,_⟩:=h.map;have c:Chg (fun k=>k=m) w2 w3:=((Chg.alloc w2 _).mono (T:=fun k=>k=m) fun _ _ h=>h.elim).trans (Chg.of_grown f) fun i _ e=>by simpa using e
 exact zAM.chg2 n c fun a u j _=>no_cell_map g j
theorem append_new (h:zAc w d m left L own D)(s:ByteArray)(x:Value)(ls:List Bs)(hx:zBF w x ls)(hn:ls.length≤140737488355328)(hl:ls.flatten.length≤140737488355328)(aj:s.size≤9223372036854775807)(hm:D.may [nm s]=0)
  (hf:D.full (nm s) ls.flatten=false) (hg:Sat.get (nm s) L=none) :
  Calls prog 15 #[.pointer (some ⟨d,0,none⟩),.string s,x] w (zDO w d own (zAA.done {D with files:=put (nm s) ⟨ls.flatten,0⟩ D.files},0)):=by
 have af:=(Below.refl w.heap.size w).alloc (Nat.le_refl _) (.cells #[.string s] 9);have h1:=h.chg (Chg.alloc w (.cells #[.string s] 9)) (fun k t=>t.elim);have hc:=zBk h1 _ [s] 1 (zBc w s) (by simp) (by simpa using aj);simp only[List.map_cons,List.map_nil,hm]at hc;have hj:=zCs (zCx hx af) hn hl;have V:D.cur (nm s)=⟨[],0⟩:=by simp[zAA.cur,h.get,hg]
 have O:=ok_append h.ok hm hf;rw[V]at O;simp only[List.nil_append]at O;have aq:=(zDj hm).1;have aI:D.used+ls.flatten.length≤D.room∧L.length<4096:=by
  simp only[zAA.full,Bool.or_eq_false_iff,decide_eq_false_iff_not,h.get,hg,h.len,Option.map_none,Option.isNone_none,Bool.true_and]at hf;omega
 obtain⟨Y,M⟩:=aI;have hr:=h.ok.room;have H1:=zh h1;have Hc:=zh hc;have Hj:=zh hj;have ak:=zh af;have ay:=zh O;have av:=zh aq;clear h hc h1 hm hj hx af O V hf aq
 go_enter func15,ntmps15
 go_wp2_with fail;refine Hc.o.mono ?_;rintro e w' ⟨rfl,rfl⟩;go_wp2_with fail;refine Hj.o.mono ?_;rintro e w1 ⟨b,rfl,hb,B⟩;have Hb:=zh hb;obtain⟨pb,cb,rfl⟩:=zAY.slice hb;clear hb;have I:=H1.o.chg (Chg.of_below B) (fun k t=>t.elim);have ap:=I.c1;have ah:=zBq w1 zCB underlying9 underlying113 (zBz w1) zCA.fb I.map aj hg;have HS:Still w1 d m left L own D w1.drew:=zB7 ⟨I,Below.refl _ _⟩ ((Below.refl _ _).drew);have HU:=fun W (h:Still w1 d m left L own D W)=>zGh h.1;generalize hR:D.room=R at Y hr;generalize hU:D.used=U at Y HU;generalize Z:L.length=N at M;generalize ar:ls.flatten.length=n at *;have aT:decide ((R:Int)-(U:Int)<(n:Int))=false:=by simp;omega
 have aQ:IntKind.i64.wrap ((R:Int)-(U:Int))=(R:Int)-(U:Int):=IntWalk.i64_in _ (by omega);have aP:decide ((4096:Int)≤(N:Int))=false:=by simp;omega
 have HR:=zh hR;have Q:=zh Z;have P:=zh B;have Hg:=zh hg;have an:=zh ar;clear hR hU I B hg Z ar;go_wp2_with fail;obtain⟨ι,F,aU,ao,a,A⟩:=classOf _ HS;have aA:∀n,(F n).cell? ⟨d,0,none⟩=some (.int .i64 (R:Int)):=fun n=>by rw[(a n).1.c0,HR.o]
 have aB:∀n,(F n).cell? ⟨d,1,none⟩=some (.map (some m)):=fun n=>(a n).1.c1;have fl:∀n ty,(Builtin.len_ #[113] ty #[.map (some m)]).run prog (F n)=.ok (.int .i64 (N:Int)) (F n):=fun n ty=>by rw[len_run (a n).1 ty,Q.o]
 have ab:=zh a;have ac:=zh A;clear a A HS;refine zCl F (by kernel_rfl) (by kernel_rfl) ao ?_
 repeat(go_big_quiet_step ((go_at_call 67;refine(HU _ (ab.o _)).mono ?_;rintro e w2 ⟨rfl,aC⟩;exact⟨rfl,ac.o _ (zB7 (ab.o _) aC)⟩)))
 refine wpQuiet_nil ?_;rintro _ ⟨q,rfl⟩;have y:=ab.o q;clear ao aA aB fl ah ap HU;generalize F q=w2 at y ⊢;have ap:=y.1.c1;have aR:=y.1.dlt;have hN:L.length<maxLen:=by rw[Q.o];unfold maxLen;omega
 have K:=y.1.map.alloc (.cells #[.slice none 0 0,.int .i64 0] 123);have z:=zh y;have am:=zh K;clear y K;obtain⟨i0,hi,aM,aN,aO⟩:=info_parts (show(prog.info? 5).map (fun i=>(i.zero,i.size,i.bytes))=some (some (.int .u8 0),1,1) by kernel_rfl);go_wp2_with (first|(at_mapUpdate;refine wpList_mapUpdate_own _ rfl _ _ _ 113 rfl 9 121 zCB underlying113 ptrR m L.length (dm fbD L) rfl am.o hN _ _ _ rfl rfl (WideMaps.keyOf_string_mk underlying9 aj) (.held w2.heap.size) [] rfl ?_;intro w3 j l;have G:=zEQ l (zAJ w2 _) (by intro e;have h9:=z.o.1.mlt;cases e;omega);have aD:=zAG (i:=0) G rfl;have ae:=zh (And.intro j (And.intro l G));clear j l G)|(at_builtin;have J:=new_has z.o.1 (zAY.below Hb.o z.o.2) ae.o.2.1;unfold zAY at J;rw[an.o]at J;refine zAP w3 rfl (.tmp 61) (.tmp 62) 22 rfl 5 i0 (.int .u8 0) 1 1 underlying22 hi aM aN aO rfl (by decide) (.slice none 0 0) 0 [] rfl (OwnR.nil _ _ _) (.slice pb n cb) n (zAQ ls.flatten) rfl J (zAO _) (by unfold maxLen;omega) (by omega) ?_;clear J;intro v' w4 f c p;obtain⟨p2,c2,rfl⟩:=OwnR.shape f;have v:=zEQ c ae.o.2.2 (by intro e;cases e);have aE:=zAG (i:=0) v rfl;have aH:=zAE v 0;have aw:=zh (And.intro f (And.intro c (And.intro p v)));clear f c p v))
 obtain⟨j,l,_⟩:=ae.o;obtain⟨f,c,p,v⟩:=aw.o;have I:=z.o.1;have aK:w2.heap.size+1≤w3.heap.size:=by
  have:=l.size;simpa using this
 have aL:=c.size;have ai:∀k,(Value.slice p2 (0+n) c2).ownBlock=some k→w2.heap.size≤k∧k≠w2.heap.size:=fun k t=>by
  rcases p with e|⟨g,e,aS⟩
  ·rw[e]at t;cases t
  ·rw[e]at t;cases t;omega
 have H:∀k,k<w2.heap.size→k≠m→w4.heap[k]?=w2.heap[k]?:=fun k t ag=>by
  rw[c.block k (by omega) (by intro e;cases e),l.block k (by simp;omega) (by intro e;cases e;exact ag rfl)];exact heap_alloc_old w2 _ t
 obtain⟨own',h4,X⟩:=I.add (w':=w4.setCell ⟨w2.heap.size,0,none⟩ (.slice p2 (0+n) c2)) (r:=⟨w2.heap.size,.slice p2 (0+n) c2,⟨ls.flatten,0⟩⟩) Hg.o
  (by simp[World.setCell];omega) (fun k t ag=>(set_other _ (by simp;omega)).trans (H k t ag))
  ⟨_,(j.kept c (by intro e;cases e)).setCell (by have:=I.mlt;simp;omega) _⟩ (by rw[zAD v];simp) (Nat.le_refl _)
  (by
   have e1:ls.flatten.length=0+n:=by rw[an.o,Nat.zero_add]
   unfold zAk
   show OwnR _ _ _ _ ls.flatten.length _
   rw[e1];exact OwnR.keep f fun k t=>set_other _ (ai k t).2)
  ai ay.o
 have C:Chg (Has own) w (w4.setCell ⟨w2.heap.size,0,none⟩ (.slice p2 (0+n) c2)):=by
  have aJ:Has own m:=by unfold Has;rw[I.om];simp
  have k1:Chg (Has own) w w1:=below2 ak.o P.o;have k2:Chg (Has own) w w2:=k1.trans ((Chg.of_below z.o.2).mono (T:=Has own) fun _ _ h=>h.elim) fun _ _ h=>h;have k4:Chg (fun k=>k=m) w2 w4:=⟨by rw[c.os,l.os];rfl,by rw[c.tape,l.tape];rfl,by rw[c.output,l.output];rfl,by omega,H⟩;have k5:Chg (fun k=>k=m∨w2.heap.size≤k) w2 (w4.setCell ⟨w2.heap.size,0,none⟩ (.slice p2 (0+n) c2)):=(k4.mono (T:=fun k=>k=m∨w2.heap.size≤k) fun _ _ h=>.inl h).trans (Chg.setCell w4 _ _) fun i _ e=>.inr (by rw[e];exact Nat.le_refl _);have aV:=k2.size;exact k2.trans k5 fun i hi e=>by
   rcases e with e|e
   ·rw[e];exact aJ
   ·omega
 have au:Has own d:=by unfold Has;rw[I.od];simp
 have aa:=Nat.le_trans (below2 (S:=fun _=>False) ak.o P.o).size z.o.2.size;simp only[Nat.zero_add]at h4 C;have E:=zDM h4 av.o;have ad:=zh E;have al:=zh C;have Hx:=zh X;have ax:=zh au;have az:=zh aa;clear j l f c p v I aK aL ai H h4 X C au aa E aD aE aH;refine ad.o.mono ?_;rintro e w5 ⟨rfl,aG,aF⟩;go_wp2_with fail;go_ret;exact⟨own',rfl,aG,al.o.trans aF fun i _ e=>by rw[e];exact ax.o,fun k t=>Hx.o k (Nat.lt_of_lt_of_le t az.o)⟩
theorem append_calls (h:zCa w d D own)(s:ByteArray)(x:Value)(ls:List Bs)(n:zBF w x ls)(hn:ls.length≤140737488355328)(l:ls.flatten.length≤140737488355328)(c:s.size≤9223372036854775807) :
  Calls prog 15 #[.pointer (some ⟨d,0,none⟩),.string s,x] w (zDO w d own (D.append (nm s) ls.flatten)):=by
 obtain⟨m,left,L,h⟩:=h;unfold zAA.append
 by_cases g:D.may [nm s]=0
 ·rw[if_neg (by simpa using g)]
  by_cases i:D.full (nm s) ls.flatten=true
  ·rw[if_pos i]
   by_cases o:D.room<D.used+ls.flatten.length
   ·exact append_full h s x ls n hn l c g o
   ·simp only[zAA.full,o,decide_false,Bool.false_or,Bool.and_eq_true,Option.isNone_iff_eq_none,decide_eq_true_eq,h.get,h.len,Option.map_eq_none_iff]at i;exact append_count h s x ls n hn l c g (by omega) i.1 i.2
  ·rw[if_neg i];have j:D.full (nm s) ls.flatten=false:=by simpa using i
   cases k:Sat.get (nm s) L with
   | none =>
    have b:D.cur (nm s)=⟨[],0⟩:=by simp[zAA.cur,h.get,k]
    rw[b];exact append_new h s x ls n hn l c g j k
   | some r =>
    have b:D.cur (nm s)=r.f:=by simp[zAA.cur,h.get,k]
    rw[b];exact append_old h s x ls n hn l c g j r k
 ·rw[if_pos (by simpa using g)];exact append_bad h s x c g
end
def Did (W:World)(d:Nat)(own:Own)(D:zAA)(e:Ending)(w':World):Prop :=
 ∃own',e=.returned (.tuple #[])∧zCa w' d D own'∧Chg (Has own) W w'∧Ext W own own'
theorem ok_sync {D:zAA}(h:D.OK){n:Bs}{f:zAS}(c:Sat.get n D.files=some f):zAA.OK {D with files:=zAA.gSync n f D.files} where
 srt:=zBr h.srt
 room:=h.room
 used:=by
  show zBM zAA.size (put n _ D.files)≤D.room
  rw[sum_put];have d:D.used=zAA.size f+zBM zAA.size (del n D.files):=zC0 h.srt c;have:=h.used;simp only[zAA.size]at d ⊢;omega
 count:=by
  show(put n _ D.files).length≤4096
  rw[zFm];have:=len_del h.srt c;have:=h.count;omega
 names p b:=by
  rcases zBl.1 b with rfl|⟨b,_⟩
  ·exact(h.names (n,f) (zBv c):okN n=true)
  ·exact h.names p b
 lasts p b:=by
  rcases zBl.1 b with rfl|⟨b,_⟩
  ·exact Nat.le_refl _
  ·exact h.lasts p b
 fuse:=h.fuse
theorem ok_del {D:zAA}(h:D.OK)(n:Bs):zAA.OK {D with files:=del n D.files} where
 srt:=zCU h.srt
 room:=h.room
 used:=by
  show zBM zAA.size (del n D.files)≤D.room
  cases b:Sat.get n D.files with
  | none=>rw[zC1 b];exact h.used
  | some f =>
   have c:D.used=zAA.size f+zBM zAA.size (del n D.files):=zC0 h.srt b;have:=h.used;omega
 count:=Nat.le_trans (zD6 _ _) h.count
 names p hp:=h.names p (zBT.1 hp).1
 lasts p hp:=h.lasts p (zBT.1 hp).1
 fuse:=h.fuse
section
variable {w:World} {d m:Nat} {left:Int} {L:List (Bs×zCA)} {own:Own} {D:zAA}
theorem has_d (h:zAc w d m left L own D):Has own d:=by unfold Has;rw[h.od];simp
theorem has_m (h:zAc w d m left L own D):Has own m:=by unfold Has;rw[h.om];simp
theorem has_f (h:zAc w d m left L own D){n:Bs}{r:zCA}(b:Sat.get n L=some r):Has own r.fb:=by unfold Has;rw[(h.fileAt b).ob];simp
theorem sync1_calls (h:zAc w d m left L own D)(s:ByteArray){r:zCA}(l:Sat.get (nm s) L=some r) :
  Calls prog 182 #[.string s,.pointer (some ⟨r.fb,0,none⟩)] w (Did w d own {D with files:=zAA.gSync (nm s) r.f D.files}):=by
 have b:=h.fileAt l;have B:=zAG (i:=0) b.cells rfl;have C:=zAG (i:=1) b.cells rfl;have G:=zAE b.cells 1;obtain⟨p,c,a⟩:=zAk.slice b.row;have E:r.f.data.length≤1073741824:=by
  have:=h.ok.used;have:=h.ok.room;have:r.f.data.length≤D.used:=by rw[h.used];exact le_sum (f:=fun r:zCA=>r.f.data.length) h.srt l
  omega
 have j:Did w d own {D with files:=zAA.gSync (nm s) r.f D.files} (.returned (.tuple #[])) (w.setCell ⟨r.fb,1,none⟩ (.int .i64 (r.f.data.length:Int))):=by
  have z:∀k,r.v.ownBlock=some k→k≠r.fb:=fun k t=>h.ne_of (b.og k t) b.ob (by simp);obtain⟨own',A,F⟩:=h.upd (w':=w.setCell ⟨r.fb,1,none⟩ (.int .i64 (r.f.data.length:Int))) (v':=r.v) (f':=⟨r.f.data,r.f.data.length⟩) l (by simp[World.setCell]) (fun k _ t _=>set_other _ t)
   (by rw[zAD b.cells];simp) (b.row.keep fun k t=>set_other _ (z k t)) (fun g y=>.inl y) (ok_sync h.ok (by rw[h.get,l];rfl))
  exact⟨own',rfl,⟨m,left,_,A⟩,(Chg.setCell w _ _).mono fun k _ e=>by rw[e];exact has_f h l,F⟩
 rw[a]at B;have q:=zh j;clear j h l b a;generalize r.f.data.length=n at *
 go_enter func182,ntmps182
 go_wp2
 go_end0
 exact q.o
theorem remove1_calls (h:zAc w d m left L own D)(s:ByteArray)(I:s.size≤9223372036854775807){r:zCA}(_hg:Sat.get (nm s) L=some r)(y:Nat)(G:w.cell? ⟨y,0,none⟩=some (.pointer (some ⟨d,0,none⟩))) :
  Calls prog 147 #[.string s,.pointer (some ⟨r.fb,0,none⟩),.pointer (some ⟨y,0,none⟩)] w (Did w d own {D with files:=zAA.gRemove (nm s) r.f D.files}):=by
 have F:=h.c1;have n:=WideMaps.keyOf_string_mk underlying9 I;have i:∀w',w'.ownsMap prog 9 ptrR m L.length ((dm fbD L).del (.string s.data.toList))→w.mapTurned w' m→Did w d own {D with files:=zAA.gRemove (nm s) r.f D.files} (.returned (.tuple #[])) w':=by
  intro w' b J;rw[dm_del]at b;have j:=J.grown;obtain⟨own',E,M⟩:=h.remap (w':=w') (L':=del (nm s) L) (D':={D with files:=del (nm s) D.files}) j.size (fun k H v=>j.block k H (by intro e;cases e;exact v rfl)) ⟨_,b⟩ (zCU h.srt) rfl rfl
   (by rw[mp_del,←h.files]) (ok_del h.ok _) (fun p t=>⟨p,(zBT.1 t).1,rfl⟩) (fun p t q a e=>by
    have B:=h.file p (zBT.1 t).1;have C:=h.file q (zBT.1 a).1;have z:=B.ob;rw[e,C.ob]at z;exact zGJ h.srt (zBT.1 t).1 (zBT.1 a).1 (by simpa using z.symm))
  exact⟨own',rfl,⟨m,left,_,E⟩,(Chg.of_grown j).mono fun k _ e=>by cases e;exact has_m h,M⟩
 have b:=h.map;have l:=zh i;clear i h _hg
 go_enter func147,ntmps147
 go_wp2_with (first|(at_delete;refine wpList_delete_own _ rfl _ _ 113 9 rfl 121 zCB underlying113 ptrR m L.length (dm fbD L) rfl b _ _ rfl n ?_;intro w1 g c;have A:=zh (l.o _ g c);clear g c))
 go_end0
 exact A.o
theorem each_append (g:Bs→zAS→List (Bs×zAS)→List (Bs×zAS))(D:zAA)(l r:List Bs)(h:(D.each g l).2=0):D.each g (l++r)=(D.each g l).1.each g r:=by
 induction l generalizing D with
 | nil=>rfl
 | cons n l ih =>
  simp only[List.cons_append,zAA.each]at h ⊢
  by_cases b:(zAA.each1 g D n).2=0
  ·rw[if_pos b]at h ⊢;rw[if_pos b];exact ih _ h
  ·rw[if_neg b]at h;exact absurd h b
def zFf (w:World)(d:Nat)(own:Own)(D:zAA)(g:Bs→zAS→List (Bs×zAS)→List (Bs×zAS))(ns:List Bs)(k:Nat)(wr:World):Prop :=
 ∃own' m left L,zAc wr d m left L own' (D.each g (ns.take k)).1∧(D.each g (ns.take k)).2=0∧Chg (Has own) w wr∧Ext w own own'
def DoesAt (b:Value)(g:Bs→zAS→List (Bs×zAS)→List (Bs×zAS))(d:Nat)(w:World)(own:Own):Prop :=
 (b=.func (.func 182) #[] #[]∧g=zAA.gSync) ∨
 ∃cb,b=.func (.func 147) #[] #[.pointer (some ⟨cb,0,none⟩)]∧g=zAA.gRemove∧w.cell? ⟨cb,0,none⟩=some (.pointer (some ⟨d,0,none⟩))∧own cb=none
theorem each_round {w wr:World}{g:Bs→zAS→List (Bs×zAS)→List (Bs×zAS)}{ns:List Bs}{k:Nat}{n:Bs}(o:zFf w d own D g ns k wr)(hn:ns[k]?=some n) :
  ∃D',D.each g ns=(if(zAA.each1 g D' n).2=0 then(zAA.each1 g D' n).1.each g (ns.drop (k+1))else zAA.each1 g D' n)∧(D.each g (ns.take k)).1=D' ∧
   ((zAA.each1 g D' n).2=0→D.each g (ns.take (k+1))=zAA.each1 g D' n):=by
 obtain⟨own',m,left,L,_,f,_⟩:=o;refine⟨_,?_,rfl,fun i=>?_⟩
 ·have c:k<ns.length:=(List.getElem?_eq_some_iff.1 hn).1;have b:ns[k]=n:=(List.getElem?_eq_some_iff.1 hn).2;have j:ns=ns.take k++n::ns.drop (k+1):=by rw[←b,←List.drop_eq_getElem_cons c,List.take_append_drop]
  have l:D.each g ns=D.each g (ns.take k++n::ns.drop (k+1)):=by rw[←j]
  rw[l,each_append g D _ _ f];rfl
 ·have c:k<ns.length:=(List.getElem?_eq_some_iff.1 hn).1;have b:ns[k]=n:=(List.getElem?_eq_some_iff.1 hn).2;rw[List.take_succ_eq_append_getElem c,each_append g D _ _ f,b];simp only[zAA.each,if_pos i];exact Prod.ext rfl i.symm
theorem chg_ext {w wr w2:World}{own own':Own}(h:Chg (Has own) w wr)(d:Ext w own own')(k:Chg (Has own') wr w2):Chg (Has own) w w2 :=
 h.trans k fun i b t c=>t (d i b c)
theorem ext_trans {w wr:World}{own own' own2:Own}(d:w.heap.size≤wr.heap.size)(h:Ext w own own')(k:Ext wr own' own2):Ext w own own2:=fun i b c=>k i (Nat.lt_of_lt_of_le b d) (h i b c)
theorem each1_bad {g:Bs→zAS→List (Bs×zAS)→List (Bs×zAS)}{D:zAA}{n:Bs}(h:D.may [n]≠0):zAA.each1 g D n=(D,D.may [n]):=by
 unfold zAA.each1;rw[if_pos h]
theorem each1_none {g:Bs→zAS→List (Bs×zAS)→List (Bs×zAS)}{D:zAA}{n:Bs}(h:D.may [n]=0)(b:Sat.get n D.files=none):zAA.each1 g D n=(D,7):=by
 unfold zAA.each1;rw[if_neg (by simpa using h),b]
theorem each1_some {g:Bs→zAS→List (Bs×zAS)→List (Bs×zAS)}{D:zAA}{n:Bs}{f:zAS}(h:D.may [n]=0)(b:Sat.get n D.files=some f):zAA.each1 g D n=(zAA.done {D with files:=g n f D.files},0):=by
 unfold zAA.each1;rw[if_neg (by simpa using h),b]
theorem zF8 {w wr:World}{g:Bs→zAS→List (Bs×zAS)→List (Bs×zAS)}{ns:List Bs}{k:Nat}{n:Bs}{D':zAA}{e:Nat}{o:Obj}(j:zFf w d own D g ns k wr)(hn:ns[k]?=some n)
  (f:(D.each g (ns.take k)).1=D') (l:zAA.each1 g D' n=(D',e)) (q:e≠0):zDO w d own (D.each g ns) (.returned (.int .i64 (e:Int))) (wr.alloc o):=by
 obtain⟨s,b,c,_⟩:=each_round j hn;rw[f]at c;subst c;rw[l,if_neg q]at b;obtain⟨own',m,left,L,i,t,p,r⟩:=j;rw[f]at i;rw[b];exact⟨own',rfl,⟨m,left,L,i.chg (Chg.alloc wr o) fun _ h=>h.elim⟩,p.trans ((Chg.alloc wr o).mono (T:=Has own) fun _ _ h=>h.elim) fun _ _ h=>h,r⟩
theorem each_next {w wr w3:World}{g:Bs→zAS→List (Bs×zAS)→List (Bs×zAS)}{ns:List Bs}{k:Nat}{n:Bs}{D' f:zAA}{own2:Own}(q:zFf w d own D g ns k wr)(hn:ns[k]?=some n)
  (o:(D.each g (ns.take k)).1=D') (b:zAA.each1 g D' n=(f,0)) (c:zCa w3 d f own2) (p:Chg (Has own) w w3) (r:Ext w own own2):zFf w d own D g ns (k+1) w3:=by
 obtain⟨s,_,i,l⟩:=each_round q hn;rw[o]at i;subst i;have j:=l (by rw[b]);obtain⟨m,left,L,c⟩:=c;exact⟨own2,m,left,L,by rw[j,b];exact c,by rw[j,b],p,r⟩
theorem each_calls (h:zCa w d D own)(p:Option Addr)(q:List ByteArray)(c:Nat)(hs:zEq w p q)(hm:q.length≤140737488355328)(aw:∀s∈q,s.size≤9223372036854775807)(av:∀a,p=some a→own a.block=none)
  (fv:Value) (g:Bs→zAS→List (Bs×zAS)→List (Bs×zAS)) (aA:DoesAt fv g d w own) :
  Calls prog 146 #[.pointer (some ⟨d,0,none⟩),.slice p q.length c,fv] w (zDO w d own (D.each g (q.map nm))):=by
 obtain⟨m0,an,L0,h⟩:=h;have t:zFf w d own D g (q.map nm) 0 w:=⟨own,m0,an,L0,by simpa[zAA.each]using h,by simp[zAA.each],Chg.refl _ _,zCf _ _⟩;clear h;have ap:=zh av;have aq:=zh aw;have Hs:=zh hs;clear av aw hs;rcases aA with⟨rfl,rfl⟩|⟨cb,rfl,rfl,ar,au⟩
 ·go_enter func146,ntmps146
  go_wp2
  go_loopw [15] (fun i wr=>∃k:Nat,k≤q.length∧i=.int .i64 k∧zFf w d own D zAA.gSync (q.map nm) k wr) (fun i _=>q.length-(intOf i).toNat)
  case atStart=>exact⟨0,Nat.zero_le _,rfl,t⟩
  case round =>
   clear t;obtain⟨k,hk,rfl,hrel⟩:=hrel
   by_cases B:k<q.length
   ·have ae:q[k]?=some q[k]:=List.getElem?_eq_getElem B;have I:q[k].size≤9223372036854775807:=aq.o _ (List.getElem_mem B);have ac:(q.map nm)[k]?=some (nm q[k]):=by simp[B]
    have E:=hrel;obtain⟨own',m,left,L,G,V,S,hx⟩:=hrel;generalize hD:(D.each zAA.gSync ((q.map nm).take k)).1=D' at *;have z:∃b o,p=some ⟨b,o,none⟩∧wr.cell? ⟨b,o+k,none⟩=some (.string q[k]):=by
     rcases Hs.o with h|⟨b,o,rfl,al⟩
     ·rw[h]at B;simp at B
     ·refine⟨b,o,rfl,S.cell (al k _ ae) ?_⟩;intro hh;exact hh (ap.o ⟨b,o,none⟩ rfl)
    obtain⟨b,o,rfl,z⟩:=z;generalize q[k]=s at *;have H:=G.chg (Chg.alloc wr (.cells #[.string s] 9)) (fun k hk=>hk.elim);have f:=zBk H _ [s] 1 (zBc wr s) (by simp) (by simpa using I);simp only[List.map_cons,List.map_nil]at f;have y:=zh E;have N:=zh ac;have HD:=zh hD;have Hc:=zh S;have Hx:=zh hx;have H0:=zh V;clear E ac hD S hx ae V
    by_cases j:D'.may [nm s]=0
    ·rw[j]at f;have az:=H.c1;cases Q:Sat.get (nm s) L with
     | none =>
      have R:=zBq _ zCB underlying9 underlying113 (zBz _) zCA.fb H.map I Q;have n:=zF8 (o:=.cells #[.string s] 9) y.o N.o HD.o (each1_none (g:=zAA.gSync) j (by rw[G.get,Q];rfl)) (by decide);have v:=zh n;have l:=zh f;clear n f H G Q j;go_wp2_with fail;refine l.o.mono ?_;rintro e w' ⟨rfl,rfl⟩;go_wp2_with fail;go_ret;exact v.o
     | some r =>
      have R:=zB9 _ zCB underlying9 underlying113 (zBz _) zCA.fb H.map I Q;have aa:=sync1_calls H s Q;have C:=fun w3 own2=>each_next (w3:=w3) (own2:=own2) y.o N.o HD.o (each1_some (g:=zAA.gSync) j (by rw[G.get,Q];rfl));have ab:=(zDj j).1;have l:=zh f;have ai:=zh aa;have M:=zh C;have aj:=zh ab;clear f H G Q j aa C ab;go_wp2_with fail;refine l.o.mono ?_;rintro e w' ⟨rfl,rfl⟩;go_wp2_with fail;refine ai.o.mono ?_;rintro e w2 ⟨own2,rfl,⟨m2,ao,L2,P⟩,X,af⟩;have A:=zDM P aj.o;have ad:Has own2 d:=has_d P;have Z:=chg_ext Hc.o Hx.o (((Chg.alloc wr _).mono (T:=Has own') fun _ _ h=>h.elim).trans X fun _ _ h=>h);have ag:=ext_trans Hc.o.size Hx.o (fun i hi ho=>af i (by simp;omega) ho);have J:=zh A;have ak:=zh ad;have ah:=zh Z;have W:=zh ag;clear A ad Z ag P X af;go_wp2_with fail;refine J.o.mono ?_;rintro e w3 ⟨rfl,K,Y⟩;have F:=M.o _ _ K (chg_ext ah.o W.o (Y.mono fun i _ e=>by rw[e];exact ak.o)) W.o;have O:=zh F;clear K Y F;go_wp2_with fail;go_roundw
      case rel=>exact⟨k+1,by omega,by go_num,O.o⟩
      case measure=>simp[intOf];omega
    ·have n:=zF8 (o:=.cells #[.string s] 9) y.o N.o HD.o (each1_bad (g:=zAA.gSync) j) j;generalize D'.may [nm s]=e at *;have aB:((e:Int) != 0)=true:=by simp;exact j
     have v:=zh n;have l:=zh f;clear n f H G j;go_wp2_with fail;refine l.o.mono ?_;rintro e w' ⟨rfl,rfl⟩;go_wp2_with fail;go_ret;exact v.o
   ·have am:k=q.length:=by omega
    obtain⟨own',m,left,L,G,V,S,hx⟩:=hrel;rw[List.take_of_length_le (by simp;omega)]at G V;have Hd:=zh G;have H0:=zh V;have Hc:=zh S;have Hx:=zh hx;clear G V S hx am;go_wp2_with fail;go_ret;exact⟨own',by rw[H0.o];rfl,⟨m,left,L,Hd.o⟩,Hc.o,Hx.o⟩
 ·have ax:=zh ar;have ay:=zh au;clear ar au
  go_enter func146,ntmps146
  go_wp2
  go_loopw [15] (fun i wr=>∃k:Nat,k≤q.length∧i=.int .i64 k∧zFf w d own D zAA.gRemove (q.map nm) k wr) (fun i _=>q.length-(intOf i).toNat)
  case atStart=>exact⟨0,Nat.zero_le _,rfl,t⟩
  case round =>
   clear t;obtain⟨k,hk,rfl,hrel⟩:=hrel
   by_cases B:k<q.length
   ·have ae:q[k]?=some q[k]:=List.getElem?_eq_getElem B;have I:q[k].size≤9223372036854775807:=aq.o _ (List.getElem_mem B);have ac:(q.map nm)[k]?=some (nm q[k]):=by simp[B]
    have E:=hrel;obtain⟨own',m,left,L,G,V,S,hx⟩:=hrel;generalize hD:(D.each zAA.gRemove ((q.map nm).take k)).1=D' at *;have z:∃b o,p=some ⟨b,o,none⟩∧wr.cell? ⟨b,o+k,none⟩=some (.string q[k]):=by
     rcases Hs.o with h|⟨b,o,rfl,al⟩
     ·rw[h]at B;simp at B
     ·refine⟨b,o,rfl,S.cell (al k _ ae) ?_⟩;intro hh;exact hh (ap.o ⟨b,o,none⟩ rfl)
    obtain⟨b,o,rfl,z⟩:=z;generalize q[k]=s at *;have H:=G.chg (Chg.alloc wr (.cells #[.string s] 9)) (fun k hk=>hk.elim);have f:=zBk H _ [s] 1 (zBc wr s) (by simp) (by simpa using I);simp only[List.map_cons,List.map_nil]at f;have U:(wr.alloc (.cells #[.string s] 9)).cell? ⟨cb,0,none⟩=some (.pointer (some ⟨d,0,none⟩)) :=
     (Chg.alloc wr _).cell (S.cell ax.o fun hh=>hh ay.o) fun h=>h
    have y:=zh E;have N:=zh ac;have HD:=zh hD;have Hc:=zh S;have Hx:=zh hx;have H0:=zh V;clear E ac hD S hx ae V
    by_cases j:D'.may [nm s]=0
    ·rw[j]at f;have az:=H.c1;cases Q:Sat.get (nm s) L with
     | none =>
      have R:=zBq _ zCB underlying9 underlying113 (zBz _) zCA.fb H.map I Q;have n:=zF8 (o:=.cells #[.string s] 9) y.o N.o HD.o (each1_none (g:=zAA.gRemove) j (by rw[G.get,Q];rfl)) (by decide);have v:=zh n;have l:=zh f;clear n f H G Q j U;go_wp2_with fail;refine l.o.mono ?_;rintro e w' ⟨rfl,rfl⟩;go_wp2_with fail;go_ret;exact v.o
     | some r =>
      have R:=zB9 _ zCB underlying9 underlying113 (zBz _) zCA.fb H.map I Q;have aa:=remove1_calls H s I Q cb U;have C:=fun w3 own2=>each_next (w3:=w3) (own2:=own2) y.o N.o HD.o (each1_some (g:=zAA.gRemove) j (by rw[G.get,Q];rfl));have ab:=(zDj j).1;have l:=zh f;have ai:=zh aa;have M:=zh C;have aj:=zh ab;clear f H G Q j aa C ab U;go_wp2_with fail;refine l.o.mono ?_;rintro e w' ⟨rfl,rfl⟩;go_wp2_with fail;refine ai.o.mono ?_;rintro e w2 ⟨own2,rfl,⟨m2,ao,L2,P⟩,X,af⟩;have A:=zDM P aj.o;have ad:Has own2 d:=has_d P;have Z:=chg_ext Hc.o Hx.o (((Chg.alloc wr _).mono (T:=Has own') fun _ _ h=>h.elim).trans X fun _ _ h=>h);have ag:=ext_trans Hc.o.size Hx.o (fun i hi ho=>af i (by simp;omega) ho);have J:=zh A;have ak:=zh ad;have ah:=zh Z;have W:=zh ag;clear A ad Z ag P X af;go_wp2_with fail;refine J.o.mono ?_;rintro e w3 ⟨rfl,K,Y⟩;have F:=M.o _ _ K (chg_ext ah.o W.o (Y.mono fun i _ e=>by rw[e];exact ak.o)) W.o;have O:=zh F;clear K Y F;go_wp2_with fail;go_roundw
      case rel=>exact⟨k+1,by omega,by go_num,O.o⟩
      case measure=>simp[intOf];omega
    ·have n:=zF8 (o:=.cells #[.string s] 9) y.o N.o HD.o (each1_bad (g:=zAA.gRemove) j) j;generalize D'.may [nm s]=e at *;have aB:((e:Int) != 0)=true:=by simp;exact j
     have v:=zh n;have l:=zh f;clear n f H G j U;go_wp2_with fail;refine l.o.mono ?_;rintro e w' ⟨rfl,rfl⟩;go_wp2_with fail;go_ret;exact v.o
   ·have am:k=q.length:=by omega
    obtain⟨own',m,left,L,G,V,S,hx⟩:=hrel;rw[List.take_of_length_le (by simp;omega)]at G V;have Hd:=zh G;have H0:=zh V;have Hc:=zh S;have Hx:=zh hx;clear G V S hx am;go_wp2_with fail;go_ret;exact⟨own',by rw[H0.o];rfl,⟨m,left,L,Hd.o⟩,Hc.o,Hx.o⟩
theorem sync_calls (h:zCa w d D own)(p:Option Addr)(b:List ByteArray)(c:Nat)(m:zEq w p b)(l:b.length≤140737488355328)(g:∀s∈b,s.size≤9223372036854775807)(f:∀a,p=some a→own a.block=none) :
  Calls prog 130 #[.pointer (some ⟨d,0,none⟩),.slice p b.length c] w (zDO w d own (D.sync (b.map nm))):=by
 have k:=each_calls h p b c m l g f (.func (.func 182) #[] #[]) zAA.gSync (.inl ⟨rfl,rfl⟩);have q:=zh k;clear k h m l g f
 go_enter func130,ntmps130
 go_wp2_with fail;refine q.o.mono ?_;rintro e w' ⟨own',rfl,j,i,n⟩;have r:=zh (And.intro j (And.intro i n));clear j i n;go_wp2_with fail;go_ret;exact⟨own',rfl,r.o⟩
theorem remove_calls (h:zCa w d D own)(p:Option Addr)(g:List ByteArray)(c:Nat)(E:zEq w p g)(C:g.length≤140737488355328)(q:∀s∈g,s.size≤9223372036854775807)(l:∀a,p=some a→own a.block=none) :
  Calls prog 76 #[.pointer (some ⟨d,0,none⟩),.slice p g.length c] w (zDO w d own (D.remove (g.map nm))):=by
 have f:own w.heap.size=none:=by
  obtain⟨m,left,L,h⟩:=h;cases y:own w.heap.size with
  | none=>rfl
  | some t=>have:=h.olt _ t y;omega
 have z:=h.chg (Chg.alloc w (.cells #[.pointer (some ⟨d,0,none⟩)] 23)) (fun _ h=>h.elim);have n:zEq (w.alloc (.cells #[.pointer (some ⟨d,0,none⟩)] 23)) p g:=by
  rcases E with h|⟨b,o,rfl,v⟩
  ·exact .inl h
  ·exact .inr ⟨b,o,rfl,fun i s I=>(Chg.alloc w _).cell (v i s I) fun h=>h⟩
 have B:=each_calls z p g c n C q l (.func (.func 147) #[] #[.pointer (some ⟨w.heap.size,0,none⟩)]) zAA.gRemove (.inr ⟨_,rfl,rfl,zAG (zAJ w _) rfl,f⟩);have G:=zh B;clear B h E C q l z n f
 go_enter func76,ntmps76
 go_wp2_with fail;refine G.o.mono ?_;rintro e w' ⟨own',rfl,A,v,F⟩;have j:Chg (Has own) w w':=((Chg.alloc w _).mono (T:=Has own) fun _ _ h=>h.elim).trans v fun _ _ h=>h;have r:Ext w own own':=fun k J y=>F k (by simp;omega) y;have H:=zh (And.intro A (And.intro j r));clear A v F j r;go_wp2_with fail;go_ret;exact⟨own',rfl,H.o⟩
end
end Go.Proofs.YtapfnehdgailmaaGreat
namespace Go.Sat
open Go.RowKit
theorem run_cut {P:Program}(w:World){t e:TypeId}{i:TypeInfo}(l:P.underlying t=some (.slice e))(j:P.info? e=some i)(a:Option Addr)(c b k:Nat)(h:k≤b) :
  (Instr.slice t (.slice a c b) none (some (.int .i64 (k:Int))) (some (.int .i64 (k:Int)))).run P w=.ok (.slice a k k) w:=by
 have f:(Instr.sliceBound (.int .i64 (k:Int)) b .slice3Acap).run P w=.ok k w:=by
  rw[run_sliceBound _ _ _ _ _ (by omega) (by omega)];simp
 have g:(Instr.sliceBound (.int .i64 (k:Int)) k .slice3B).run P w=.ok k w:=by
  rw[run_sliceBound _ _ _ _ _ (by omega) (by omega)];simp
 have d:(if k=0 then a else a.map fun x=>x.add (0*i.size))=a:=by
  split
  ·rfl
  ·cases a<;>simp[Addr.add]
 simp only[Nat.zero_mul]at d;simp[Instr.slice,run_underlying l,Instr.sliceBounds,f,g,sizeOf,typeInfo,j,Result.andThen,d]
theorem OwnR.cut {w:World}{e:TypeId}{p:Option Addr}{n c:Nat}{xs:List Value}(h:OwnR w e 1 (.slice p n c) n xs){k:Nat}(l:k≤n):OwnR w e 1 (.slice p k k) k (xs.take k):=by
 obtain⟨r,h⟩:=h;refine⟨by rw[List.length_take];omega,?_⟩;rcases h with⟨b,q⟩|⟨g,d,cur,b,j,m,f,i,o⟩
 ·cases b;have:k=0:=by omega
  subst this;exact .inl ⟨rfl,rfl⟩
 ·cases b;refine .inr ⟨g,k,cur,rfl,j,Nat.le_refl _,by omega,by omega,?_⟩;rw[←o,List.take_take,Nat.mul_one,Nat.mul_one,Nat.min_eq_left l]
theorem OwnR.cap_le {w:World}{e:TypeId}{p:Option Addr}{n c:Nat}{xs:List Value}(h:OwnR w e 1 (.slice p n c) n xs):n≤c∧c≤maxLen:=by
 rcases h.2 with⟨b,k⟩|⟨g,i,cur,b,l,f,d,j,m⟩
 ·cases b;exact⟨Nat.le_refl _,Nat.zero_le _⟩
 ·cases b;exact⟨f,d⟩
theorem grown_set (w:World)(a:Addr)(u:Value):w.grownBy (w.setCell a u) (some a.block) :=
 ⟨rfl,rfl,rfl,by simp[World.setCell],fun k _ b=>Below.heap_setCell _ _ _ _ fun e=>b (by rw[e])⟩
end Go.Sat
namespace Go.Proofs.YtapfnehdgailmaaGreat
open Go.RowKit Go.Sat Go.Maps
section
variable {w:World} {d m:Nat} {left:Int} {L:List (Bs×zCA)} {own:Own} {D:zAA}
theorem data_le (h:zAc w d m left L own D){n:Bs}{r:zCA}(b:Sat.get n L=some r):r.f.data.length≤1073741824:=by
 have:=h.ok.used;have:=h.ok.room;have:r.f.data.length≤D.used:=by rw[h.used];exact le_sum (f:=fun r:zCA=>r.f.data.length) h.srt b
 omega
/-! ### Read -/
def zDC (o:Option zAS):Bs:=(o.map zAS.data).getD []
def zDa (o:Option zAS):Int:=if o.isSome then 0 else 7
def ReadPost (w:World)(o:Option zAS)(e:Ending)(w':World):Prop :=
 ∃v,e=.returned (.tuple #[v,.int .i64 (zDa o)])∧zAk w' 5 v (zDC o)∧(∀k,v.ownBlock=some k→w.heap.size≤k)∧Below w.heap.size w w'
theorem read_calls (h:zCa w d D own)(s:ByteArray)(n:s.size≤9223372036854775807) :
  Calls prog 75 #[.pointer (some ⟨d,0,none⟩),.string s] w (ReadPost w (Sat.get (nm s) D.files)):=by
 obtain⟨m,left,L,h⟩:=h;have t:=h.c1;rw[h.get];cases c:Sat.get (nm s) L with
 | none =>
  have b:=zBq w zCB underlying9 underlying113 (zBz w) zCA.fb h.map n c;clear h c
  go_enter func75,ntmps75
  go_wp2
  go_ret2
  exact⟨_,rfl,OwnR.nil _ _ _,fun k y=>(by cases y),Below.refl _ _⟩
 | some r =>
  have b:=zB9 w zCB underlying9 underlying113 (zBz w) zCA.fb h.map n c;have j:=h.fileAt c;have z:=zAG (i:=0) j.cells rfl;have f:=zB2 j.row.has (by have:=data_le h c;omega);have g:=zh f;clear h c j f
  go_enter func75,ntmps75
  go_wp2_with fail;refine g.o.mono ?_;rintro e w' ⟨v,rfl,p,hn,l⟩;have q:=zh (And.intro p (And.intro hn l));clear p hn l;go_wp2_with fail
  go_ret2
  exact⟨_,rfl,q.o⟩
/-! ### Fuse -/
theorem ok_fuse {D:zAA}(h:D.OK)(n:Int)(hn:n≤9223372036854775807):(D.setFuse n).OK where
 srt:=h.srt
 room:=h.room
 used:=h.used
 count:=h.count
 names:=h.names
 lasts:=h.lasts
 fuse k b:=by
  simp only[zAA.setFuse]at b
  split at b
  ·cases b
  ·cases b;omega
theorem setTop (h:zAc w d m left L own D){w':World}{b:Int}{D':zAA}(A:w.heap.size≤w'.heap.size)(q:∀k,k≠d→w'.heap[k]?=w.heap[k]?)(_hroom:D'.room=D.room)(i:D'.files=D.files)
  (r:w'.heap[d]?=some (.cells #[.int .i64 (D'.room:Int),.map (some m),.bool D'.fuse.isSome,.int .i64 b] 115 (0,0))) (y:∀k,D'.fuse=some k→b=(k:Int)) (n:D'.OK):zAc w' d m b L own D':=by
 have f:∀k t,own k=some t→t≠(0,[])→w'.heap[k]?=w.heap[k]?:=fun k t o B=>q k fun e=>by
  rw[e,h.od]at o;exact B (Option.some.inj o).symm
 refine⟨r,y,?_,by rw[i];exact h.files,h.srt,fun p a=>?_,h.od,h.om,fun j t v=>Nat.lt_of_lt_of_le (h.olt j t v) A,n⟩
 ·obtain⟨es,l,z,rest⟩:=h.map;exact⟨es,l,(f m _ h.om (by simp)).trans z,rest⟩
 ·have c:=h.file p a;exact⟨(f _ _ c.ob (by simp)).trans c.cells,c.ob,c.row.keep fun g s=>f _ _ (c.og g s) (by simp),c.og⟩
theorem fuse_calls (h:zCa w d D own)(n:Int)(hn:n≤9223372036854775807)(z:-9223372036854775808≤n) :
  Calls prog 40 #[.pointer (some ⟨d,0,none⟩),.int .i64 n] w (Did w d own (D.setFuse n)):=by
 obtain⟨m,left,L,h⟩:=h;have q:=h.c2;have r:=h.c3;have t:=zAE h.cells 2;have v:=zAE h.cells 3;have f:∀(b:Bool) (l:Int),b=(D.setFuse n).fuse.isSome→(∀k,(D.setFuse n).fuse=some k→l=(k:Int))→Did w d own (D.setFuse n) (.returned (.tuple #[])) ((w.setCell ⟨d,2,none⟩ (.bool b)).setCell ⟨d,3,none⟩ (.int .i64 l)):=by
  intro b l p y;refine⟨own,rfl,⟨m,l,L,setTop h (by simp[World.setCell]) (fun k g=>(set_other _ g).trans (set_other _ g)) rfl rfl ?_ y (ok_fuse h.ok n hn)⟩,?_,zCf _ _⟩
  ·rw[zAD (zAD h.cells 2 _) 3,←p];simp[zAA.setFuse]
  ·exact((Chg.setCell w ⟨d,2,none⟩ _).trans (Chg.setCell _ ⟨d,3,none⟩ _) fun _ _ e=>e).mono fun k _ e=>by rw[e];exact has_d h
 have c:=zh f;clear f h
 by_cases j:0≤n
 ·have s:decide (0≤n)=true:=by simpa using j
  go_enter func40,ntmps40
  go_wp2
  go_end0
  refine c.o _ _ ?_ ?_
  ·simp[zAA.setFuse];omega
  ·intro k g;simp only[zAA.setFuse,if_neg (show ¬n<0 by omega),Option.some.injEq]at g;omega
 ·have s:decide (0≤n)=false:=by simpa using j
  have i:n<0:=by omega
  go_enter func40,ntmps40
  go_wp2
  go_end0
  refine c.o _ _ ?_ ?_
  ·simp[zAA.setFuse,i]
  ·intro k g;simp only[zAA.setFuse,if_pos i]at g;cases g
/-! ### Crash -/
def part (rest:Lit→Bool)(k:Int)(b:List (Bs×zAS)):List (Bs×zAS):=b.map fun p=>(p.1,if rest (.string p.1)then p.2 else zAA.crashF k p.2)
theorem zGO {rest:Lit→Bool}{k:Int}{b:List (Bs×zAS)}(h:Srt b):Srt (part rest k b):=by
 unfold Srt part;rw[List.pairwise_map];exact h
theorem part_get (rest:Lit→Bool)(k:Int)(n:Bs)(b:List (Bs×zAS)):Sat.get n (part rest k b)=(Sat.get n b).map fun f=>if rest (.string n)then f else zAA.crashF k f:=by
 unfold part Sat.get;rw[List.find?_map];cases g:List.find? ((fun p:Bs×zAS=>p.1==n) ∘ fun p:Bs×zAS=>(p.1,if rest (.string p.1)then p.2 else zAA.crashF k p.2)) b with
 | none =>
  have:List.find? (fun p:Bs×zAS=>p.1==n) b=none:=g;rw[this];rfl
 | some p =>
  have c:List.find? (fun p:Bs×zAS=>p.1==n) b=some p:=g;have d:=List.find?_some c;simp only[beq_iff_eq]at d;rw[c];simp[d]
theorem part_step {rest:Lit→Bool}{k:Int}{b:List (Bs×zAS)}(h:Srt b){n:Bs}{f:zAS}(d:Sat.get n b=some f) :
  put n (zAA.crashF k f) (part rest k b)=part (fun z=>rest z&& !z.sameKey (.string n)) k b:=by
 refine srt_ext (zBr (zGO h)) (zGO h) fun j=>?_
 by_cases c:j=n
 ·subst c;rw[zBQ (zGO h),part_get,d,sk];simp
 ·rw[zBP (zGO h) _ c,part_get,part_get];have:(Lit.string j).sameKey (.string n)=false:=by rw[sk];simpa using c
  rw[this];simp
theorem part_all {rest:Lit→Bool}{k:Int}{b:List (Bs×zAS)}(h:∀p∈b,rest (.string p.1)=true):part rest k b=b:=by
 unfold part
 conv=>rhs;rw[←List.map_id b]
 refine List.map_congr_left fun p c=>?_;rw[h p c];rfl
theorem part_none {rest:Lit→Bool}{k:Int}{b:List (Bs×zAS)}(h:∀z,rest z=false):part rest k b=mp (zAA.crashF k) b:=by
 unfold part mp;refine List.map_congr_left fun p _=>?_;rw[h];rfl
theorem stays_le (f:zAS)(k:Int)(h:f.lasts≤f.data.length):f.lasts≤zAA.stays f k∧zAA.stays f k≤f.data.length:=by
 unfold zAA.stays;have:=Nat.mod_lt (max 0 k).toNat (show 0<f.data.length-f.lasts+1 by omega);omega
theorem ok_part {D:zAA}(h:D.OK)(rest:Lit→Bool)(k:Int):zAA.OK {D with files:=part rest k D.files} where
 srt:=zGO h.srt
 room:=h.room
 used:=by
  refine Nat.le_trans ?_ h.used
  show zBM zAA.size (part rest k D.files)≤zBM zAA.size D.files
  have d:=h.lasts;generalize D.files=f at d
  induction f with
  | nil=>exact Nat.le_refl _
  | cons p r ih =>
   have c:=ih fun q b=>d q (by simp[b]);have g:=d p (by simp);simp only[part,List.map_cons,zBM,List.sum_cons]at c ⊢;have i:zAA.size (if rest (.string p.1)then p.2 else zAA.crashF k p.2)≤zAA.size p.2:=by
    split
    ·exact Nat.le_refl _
    ·simp only[zAA.size,zAA.crashF,List.length_take];omega
   omega
 count:=by
  show(part rest k D.files).length≤4096
  simp only[part,List.length_map];exact h.count
 names p hp:=by
  obtain⟨q,b,rfl⟩:=List.mem_map.1 hp;exact h.names q b
 lasts p hp:=by
  obtain⟨q,b,rfl⟩:=List.mem_map.1 hp;have c:=h.lasts q b
  show zAS.lasts (if rest (.string q.1)then q.2 else zAA.crashF k q.2)≤(if rest (.string q.1)then q.2 else zAA.crashF k q.2).data.length
  split
  ·exact c
  ·have:=stays_le q.2 k c;simp only[zAA.crashF,List.length_take];omega
 fuse:=h.fuse
theorem ok_crash {D:zAA}(h:D.OK)(k:Int):(D.crash k).OK:=by
 have:=ok_part h (fun _=>false) k;rw[part_none fun _=>rfl]at this;exact⟨this.srt,this.room,this.used,this.count,this.names,this.lasts,fun j b=>by simp[zAA.crash]at b⟩
theorem own_none (h:zAc w d m left L own D){k:Nat}(c:w.heap.size≤k):own k=none:=by
 cases b:own k with
 | none=>rfl
 | some t=>have:=h.olt _ t b;omega
structure CrashRel (w:World)(d m:Nat)(left:Int)(L:List (Bs×zCA))(own:Own)(D:zAA)(k:Int)(wr:World):Prop where
 ex:∃rest cnt L' own',wr.ranges prog 9 ptrR m w.heap.size L.length (dm fbD L) rest cnt∧zAc wr d m left L' own' {D with files:=part rest k D.files}∧mp zCA.fb L'=mp zCA.fb L∧Chg (Has own) w wr∧Ext w own own'∧own' w.heap.size=none
theorem crash_walk (h:zAc w d m left L own D)(k:Int)(hk:-9223372036854775808≤k)(aE:k≤9223372036854775807) :
  Calls prog 28 #[.pointer (some ⟨d,0,none⟩),.int .i64 k] w (Did w d own (D.crash k)):=by
 have h1:=h.c1;have y:=h.map;have O:=h.srt;have t:=h.ok;have hL:Hid (zAc w d m left L own D):=h;clear h
 go_enter func28,ntmps28
 go_wp2_with (first|(at_range;refine wpList_range_own _ rfl _ 113 rfl 9 121 zCB underlying113 ptrR m L.length (dm fbD L) rfl y ?_;intro w0 ac ae aw))
 go_frame
 go_loopw [5] (fun _ wr=>CrashRel w d m left L own D k wr) (fun _ wr=>wr.rangeLeft m w.heap.size)
 case atStart =>
  refine⟨_,_,L,own,ac,?_,rfl,(Chg.of_grown ae).mono (fun _ _ e=>by cases e),zCf _ _,own_none hL.o (Nat.le_refl _)⟩;have G:=hL.o.chg (Chg.of_grown ae) (fun _ e=>by cases e);have Q:part (Maps.has (dm fbD L)) k D.files=D.files:=part_all fun p hp=>by
   rw[hL.o.files]at hp;obtain⟨q,hq,rfl⟩:=List.mem_map.1 hp
   show Maps.has (dm fbD L) (.string q.1)=true
   rw[dm_has,zDN O hq];rfl
  rw[Q];exact G
 case round =>
  obtain⟨rest,ay,L',own',V,G,T,hc,hx,F⟩:=hrel.ex;clear ac ae aw y hrel;go_wp2_with (first|(at_next;refine zFE _ rfl _ rfl 9 underlying9 zCB zCA.fb L m w.heap.size L.length _ _ rfl V ?_ ?_))
  ·intro hl;rw[part_none hl]at G;have aB:=G.c2;have aD:=zAE G.cells 2;have Z:Did w d own (D.crash k) (.returned (.tuple #[])) (wr.setCell ⟨d,2,none⟩ (.bool false)):=by
    refine⟨own',rfl,⟨m,left,L',setTop G (D':=D.crash k) (by simp[World.setCell]) (fun _ hk=>set_other _ hk) rfl rfl ?_ (fun j hj=>by simp[zAA.crash]at hj) (ok_crash t k)⟩,?_,hx⟩
    ·rw[zAD G.cells];simp[zAA.crash]
    ·exact chg_ext hc hx ((Chg.setCell wr ⟨d,2,none⟩ _).mono fun _ _ e=>by rw[e];exact has_d G)
   have aj:=zh Z;clear Z G hc hx T hl V t O F
   go_wp2
   go_end0
   exact aj.o
  ·intro s x w1 ak af hl hs N an U ax aC
   -- the file as it lies now
   have ab:∀j,some j=some w.heap.size→own' j=none:=fun j e=>by
    cases e;exact F
   have S:=G.chg (Chg.of_grown U) ab;obtain⟨r,A,a⟩:∃r,Sat.get (nm s) L'=some r∧r.fb=x.fb:=by
    have Q:(Sat.get (nm s) L').map zCA.fb=some x.fb:=by
     rw[←zGL,T,zGL,show Sat.get (nm s) L=some x from af];rfl
    exact Option.map_eq_some_iff.1 Q
   have J:Sat.get (nm s) D.files=some x.f:=by rw[hL.o.files,zGL,show Sat.get (nm s) L=some x from af];rfl
   have M:r.f=x.f:=by
    have Q:(Sat.get (nm s) L').map zCA.f=some x.f:=by
     rw[←zGL,←G.files,part_get,J];simp only[Option.map_some,show rest (.string (nm s))=true from hl,if_true]
    rw[A]at Q;exact Option.some.inj Q
   have I:=S.fileAt A;have b:=I.cells;rw[M,a]at b;obtain⟨p,c,hv⟩:=zAk.slice I.row;have al:=OwnR.cap_le (by have:=I.row;unfold zAk at this;rw[hv]at this;exact this);rw[M]at hv al;have ag:x.f.lasts≤x.f.data.length:=t.lasts _ (zBv J);have am:=data_le S A;rw[M]at am;have ai:=stays_le x.f k ag;rw[hv]at b;have az:=zAG (i:=0) b rfl;have aA:=zAG (i:=1) b rfl;have aG:=zAE b 0;have aH:=zAE b 1;have C:zAA.stays x.f k=x.f.lasts+(max 0 k).toNat%(x.f.data.length-x.f.lasts+1):=rfl;have Y:∀nq,CrashRel w d m left L own D k (((w1.drewN nq).setCell ⟨x.fb,0,none⟩ (.slice p (zAA.stays x.f k) (zAA.stays x.f k))).setCell ⟨x.fb,1,none⟩ (.int .i64 ((zAA.stays x.f k:Nat):Int))) ∧
     (((w1.drewN nq).setCell ⟨x.fb,0,none⟩ (.slice p (zAA.stays x.f k) (zAA.stays x.f k))).setCell ⟨x.fb,1,none⟩ (.int .i64 ((zAA.stays x.f k:Nat):Int))).rangeLeft m w.heap.size<wr.rangeLeft m w.heap.size:=by
    intro nq;have B:zAc (w1.drewN nq) d m left L' own' {D with files:=part rest k D.files}:=S.keep (Nat.le_refl _) fun _ _=>rfl;have H:(w1.drewN nq).heap[x.fb]?=some (.cells #[.slice p x.f.data.length c,.int .i64 (x.f.lasts:Int)] 123 (0,0)):=b;have aq:OwnR (w1.drewN nq) 5 1 (.slice p x.f.data.length c) x.f.data.length (zAQ x.f.data):=by
     have:=(B.fileAt A).row;rw[M,hv]at this;exact this
    have y:own' x.fb=some (2,nm s):=by
     have:=I.ob;rw[a]at this;exact this
    have ao:∀g,(Value.slice p (zAA.stays x.f k) (zAA.stays x.f k)).ownBlock=some g→g≠x.fb:=fun g E=>by
     have Q:r.v.ownBlock=some g:=by rw[hv,zCI p _ _ (zAA.stays x.f k) (zAA.stays x.f k)];exact E
     exact B.ne_of ((B.fileAt A).og g Q) y (by simp)
    have ah:(x.f.data.take (zAA.stays x.f k)).length=zAA.stays x.f k:=by rw[List.length_take];omega
    have aa:m≠x.fb:=B.ne_of B.om y (by simp);have K:w.heap.size≠x.fb:=fun e=>by rw[e,y]at F;cases F
    obtain⟨P,h4,ar⟩:=B.upd (w':=((w1.drewN nq).setCell ⟨x.fb,0,none⟩ (.slice p (zAA.stays x.f k) (zAA.stays x.f k))).setCell ⟨x.fb,1,none⟩ (.int .i64 ((zAA.stays x.f k:Nat):Int)))
     (v':=.slice p (zAA.stays x.f k) (zAA.stays x.f k)) (f':=zAA.crashF k x.f) A (by simp[World.setCell]) (fun j _ hj _=>by rw[a]at hj;exact(set_other _ hj).trans (set_other _ hj))
     (by rw[a,zAD (zAD H 0 _) 1];simp[zAA.crashF])
     (by
      unfold zAk
      show OwnR _ _ _ _ (x.f.data.take (zAA.stays x.f k)).length _
      rw[ah]
      show OwnR _ _ _ _ _ (zAQ (x.f.data.take (zAA.stays x.f k)))
      rw[zFg];exact OwnR.keep (aq.cut ai.2) fun g E=>(set_other _ (ao g E)).trans (set_other _ (ao g E)))
     (fun g E=>.inl (by rw[hv,zCI p _ _ (zAA.stays x.f k) (zAA.stays x.f k)];exact E))
     (by
      show zAA.OK {D with files:=put (nm s) (zAA.crashF k x.f) (part rest k D.files) }
      rw[part_step t.srt J];exact ok_part t _ k)
    have h5:zAc (((w1.drewN nq).setCell ⟨x.fb,0,none⟩ (.slice p (zAA.stays x.f k) (zAA.stays x.f k))).setCell ⟨x.fb,1,none⟩ (.int .i64 ((zAA.stays x.f k:Nat):Int))) d m left (put (nm s) ⟨r.fb,.slice p (zAA.stays x.f k) (zAA.stays x.f k),zAA.crashF k x.f⟩ L') P
      {D with files:=part (fun z=>rest z&& !z.sameKey (.string (nm s))) k D.files}:=by
     rw[←part_step t.srt J];exact h4
    have g1:=grown_set (w1.drewN nq) ⟨x.fb,0,none⟩ (.slice p (zAA.stays x.f k) (zAA.stays x.f k));have g2:=grown_set ((w1.drewN nq).setCell ⟨x.fb,0,none⟩ (.slice p (zAA.stays x.f k) (zAA.stays x.f k))) ⟨x.fb,1,none⟩ (.int .i64 ((zAA.stays x.f k:Nat):Int));have ap:(w1.drewN nq).ranges prog 9 ptrR m w.heap.size L.length (dm fbD L) (fun z=>rest z&& !z.sameKey (.string s.data.toList)) ak:=N;have ad:=(ap.kept g1 (by simpa using aa) (by simpa using K)).kept g2 (by simpa using aa) (by simpa using K);refine⟨⟨_,_,_,P,ad,h5,?_,?_,?_,?_⟩,?_⟩
    ·rw[mp_put,put_same (mp_srt B.srt) (by rw[zGL,A];rfl),T]
    ·have c1:Chg (fun j=>j=x.fb∨j=w.heap.size) wr w1:=(Chg.of_grown U).mono fun j _ e=>.inr (by cases e;rfl);have c2:Chg (fun j=>j=x.fb∨j=w.heap.size) wr (w1.drewN nq):=⟨c1.os,c1.tape,c1.output,c1.size,c1.block⟩;have c3:=(c2.trans (Chg.of_grown g1) fun j _ e=>.inl (by cases e;rfl)).trans (Chg.of_grown g2) fun j _ e=>.inl (by cases e;rfl);refine hc.trans c3 fun i hi e=>?_;rcases e with e|e
     ·intro ho;have:=hx i hi ho;rw[e,y]at this;cases this
     ·omega
    ·exact ext_trans (Nat.le_trans hc.size U.size) hx ar
    ·exact ar _ (by have:=N.lt;exact this) F
    ·rw[ad.left_eq,V.left_eq];exact an
   have X:=zh Y;have av:=zh ai;have R:=zh C;clear Y G S A a J M hv b hc hx F U N an V T I af hl hs ax ai C O t ab;generalize x.f.data.length=n at *;generalize x.f.lasts=l at *;have e6:wrap64 ((l:Int)+max 0 k%((n:Int)-(l:Int)+1))=((zAA.stays x.f k:Nat):Int):=by
    rw[R.o];have Q:((n:Int)-(l:Int)+1)=((n-l+1:Nat):Int):=by omega
    have e2:max 0 k=(((max 0 k).toNat:Nat):Int):=by omega
    have e3:max 0 k%((n:Int)-(l:Int)+1)=(((max 0 k).toNat%(n-l+1):Nat):Int):=by rw[Q,Int.natCast_emod,←e2]
    have h5:=Nat.mod_lt (max 0 k).toNat (show 0<n-l+1 by omega);rw[e3,IntWalk.wrap64_in _ ⟨by omega,by omega⟩];omega
   have aF:∀W,(Instr.slice 22 (.slice p n c) none (some (.int .i64 ((zAA.stays x.f k:Nat):Int))) (some (.int .i64 ((zAA.stays x.f k:Nat):Int)))).run prog W=.ok (.slice p (zAA.stays x.f k) (zAA.stays x.f k)) W:=fun W=>by
    obtain⟨i0,hi,_⟩:=info_parts (show(prog.info? 5).map (fun i=>(i.zero,i.size,i.bytes))=some (some (.int .u8 0),1,1) by kernel_rfl);exact run_cut W underlying22 hi p n c _ (by have:=av.o;omega)
   have au:=zh e6;clear e6;generalize zAA.stays x.f k=st at *;go_wp2_with fail
   go_quiet (fail)
   rw[au.o];go_wp2_with fail;go_roundw
   case rel=>exact(X.o nq).1
   case measure=>exact(X.o nq).2
end
end Go.Proofs.YtapfnehdgailmaaGreat
