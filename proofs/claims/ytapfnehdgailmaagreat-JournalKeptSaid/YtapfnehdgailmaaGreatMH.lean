/- What the program's functions and the document's do, and plain laws, for PJournalKept. -/
import Derived.Test.YtapfnehdgailmaaGreatMA
import Derived.Test.YtapfnehdgailmaaGreatMC
import Derived.Test.YtapfnehdgailmaaGreatMG
open Go.Proofs.Tryz
set_option maxRecDepth 100000
set_option maxHeartbeats 64000000
namespace Go.Proofs.YtapfnehdgailmaaGreat
open Go.RowKit Go.Sat Go.Maps
theorem setCell_heap {w u:World}(a:Addr)(v:Value){b:Nat}(h:w.heap[b]?=u.heap[b]?):(w.setCell a v).heap[b]?=(u.setCell a v).heap[b]?:=by
 simp[World.setCell,Array.getElem?_modify,h]
def putN (w:World):List Addr→List Int→World
 | a::l,z::zs=>putN (w.setCell a (.int .i64 z)) l zs
 | _,_=>w
theorem putN_snoc:∀(l:List Addr) (zs:List Int) (w:World) (a:Addr) (z:Int),zs.length=l.length→putN w (l++[a]) (zs++[z])=(putN w l zs).setCell a (.int .i64 z)
 | [],[],_,_,_,_=>rfl
 | _::l,_::zs,_,a,z,h=>putN_snoc l zs _ a z (by simpa using h)
 | [],_::_,_,_,_,h=>by simp at h
 | _::_,[],_,_,_,h=>by simp at h
theorem zC2:∀(k:Nat) (R:Rd),(Rd.ints k R).1.length=k
 | 0,_=>rfl
 | k+1,R=>by
  show((R.num.1:Int)::(Rd.ints k R.num.2).1).length=_
  rw[List.length_cons,zC2 k]
theorem zD1:∀(k:Nat) (R:Rd),Rd.ints (k+1) R=((Rd.ints k R).1++[((Rd.ints k R).2.num.1:Int)],(Rd.ints k R).2.num.2)
 | 0,R=>rfl
 | k+1,R=>by
  show((R.num.1:Int)::(Rd.ints (k+1) R.num.2).1,(Rd.ints (k+1) R.num.2).2)=_
  rw[zD1 k R.num.2];rfl
theorem ints_mem:∀(k:Nat) (R:Rd),∀z∈(Rd.ints k R).1,0≤z∧z≤4611686018427387904
 | 0,_,z,b=>by cases b
 | k+1,R,z,b=>by
  have c:=Rd.num_le R;rcases List.mem_cons.1 (show z∈((R.num.1:Int)::(Rd.ints k R.num.2).1)from b)with rfl|b
  ·omega
  ·exact ints_mem k _ z b
theorem zDZ:∀(k:Nat) (R:Rd),(Rd.ints k R).2.rest.length≤R.rest.length
 | 0,_=>Nat.le_refl _
 | k+1,R=>Nat.le_trans (zDZ k R.num.2) (Rd.num_rest R)
structure zDQ (w:World)(r:Nat)(ps:List Addr):Prop where
 cell:∀a∈ps,∃z,w.cell? a=some (.int .i64 z)
 free:∀a∈ps,w.frozen? a=false
 ne:∀a∈ps,a.block≠r
 sp:∀a∈ps,a.spot=none
def NumsTold (A:Nat→Prop)(w:World)(r:Nat)(R:Rd)(c:List Addr)(w':World):Prop :=
 RdX A w' r (Rd.ints c.length R).2∧Chg (fun b=>b=r∨∃a∈c,b=a.block) w w'∧∀b,b<w.heap.size→b≠r→w'.heap[b]?=(putN w c (Rd.ints c.length R).1).heap[b]?
theorem zDQ.chg {w w':World}{r:Nat}{d:List Addr}(h:zDQ w r d)(g:Chg (fun k=>k=r) w w'):zDQ w' r d:=by
 have f:∀a∈d,w'.heap[a.block]?=w.heap[a.block]?:=fun a b=>by
  obtain⟨z,c⟩:=h.cell a b;exact g.block _ (World.block_lt_of_cell? _ _ c) (h.ne a b)
 exact⟨fun a b=>by obtain⟨z,c⟩:=h.cell a b;exact⟨z,(World.cell?_of_block (f a b)).trans c⟩,fun a b=>by have:=h.free a b;simpa[World.frozen?,f a b]using this,h.ne,h.sp⟩
theorem zDQ.set {w:World}{r:Nat}{i:List Addr}(h:zDQ w r i){a:Addr}(l:a∈i)(z:Int):zDQ (w.setCell a (.int .i64 z)) r i:=by
 have c:∀b,w.cell? b≠none→(∃y,(w.setCell a (.int .i64 z)).cell? b=some y∧(y=.int .i64 z∨w.cell? b=some y)):=fun b d=>by
  by_cases e:a=b
  ·subst e;exact⟨.int .i64 z,by obtain⟨k,g⟩:=h.cell a l;exact World.cell?_setCell_same w a _ g,.inl rfl⟩
  ·rw[World.cell?_setCell_other (h:=e)];cases m:w.cell? b with
   | none=>exact absurd m d
   | some y=>exact⟨y,rfl,.inr rfl⟩
 refine⟨fun b d=>?_,fun b d=>by rw[World.frozen?_setCell];exact h.free b d,h.ne,h.sp⟩
 ·obtain⟨k,g⟩:=h.cell b d;obtain⟨y,j,f⟩:=c b (by rw[g];simp);rcases f with rfl|f
  ·exact⟨z,j⟩
  ·rw[g]at f;cases f;exact⟨k,j⟩
theorem zEb {A:Nat→Prop}{w:World}{r:Nat}{R:Rd}(h:RdX A w r R){g c:Nat}{d:List Addr}(hp:zDQ w r d)(hl:d.length≤1000)(hg:∀i a,d[i]?=some a→w.cell? ⟨g,i,none⟩=some (.pointer (some a)))(M:g≠r)(L:∀a∈d,a.block≠g)(K:∀k,A k→k≠r∧∀a∈d,k≠a.block) :
  Calls prog 150 #[.pointer (some ⟨r,0,none⟩),.slice (some ⟨g,0,none⟩) d.length c] w fun e w'=>e=.returned (.tuple #[])∧NumsTold A w r R d w':=by
 have Hg:=zh hg;have H:=zh h;have Hp:=zh hp;have X:=zh M;have W:=zh L;have HA:=zh K;clear h hp hg M L K;generalize hn:d.length=n at *;have P:=zh hn;clear hn
 go_enter func150,ntmps150
 go_wp2_with fail
 go_loopw [9] (fun i wr=>∃k:Nat,k≤n∧i=.int .i64 k∧RdX A wr r (Rd.ints k R).2∧Chg (fun b=>b=r∨∃a∈d,b=a.block) w wr∧zDQ wr r d∧∀b,b<w.heap.size→b≠r→wr.heap[b]?=(putN w (d.take k) (Rd.ints k R).1).heap[b]?) (fun i _=>n-(intOf i).toNat)
 case atStart=>exact⟨0,Nat.zero_le _,rfl,H.o,Chg.refl _ _,Hp.o,fun b _ _=>by rw[List.take_zero];rfl⟩
 case round =>
  obtain⟨k,hk,rfl,p,l,y,m⟩:=hrel
  by_cases Z:k<n
  ·have q:k<d.length:=by rw[P.o];exact Z
   have Q:=List.getElem?_eq_getElem q;have G:=List.getElem_mem q;have ab:=l.cell (Hg.o k _ Q) (fun e=>e.elim X.o fun⟨a,h1,h2⟩=>W.o a h1 h2.symm);have Y:=zh (zD1 k R);have V:=zh (List.take_succ_eq_append_getElem q);generalize d[k]=a at *;have D:=zW (((Rd.ints k R).1).length=(d.take k).length) (by rw[zC2,List.length_take,Nat.min_eq_left (by omega)]);have E:=zW (Calls prog 191 #[.pointer (some ⟨r,0,none⟩)] wr (NumX A wr r (Rd.ints k R).2)) (by obtain⟨_,_,_,h,Q⟩:=p;exact zCu h Q);have O:=zh (And.intro l (And.intro y m));have j:=zh G;have ad:=Rd.num_le (Rd.ints k R).2;clear p l y m q Q G;generalize F:(Rd.ints k R).2=Rk at *;generalize hv:Rk.num.1=v at *;have aa:=zh F;have Hv:=zh hv;clear F hv;go_wp2_with fail;refine E.o.mono ?_;rintro e w2 ⟨rfl,N,s⟩;have f:=O.o.2.1.chg s;have C:=zh f;obtain⟨z,hz⟩:=f.cell a j.o;have ac:=f.free a j.o;have U:=zh N;have B:=zh s;rw[Hv.o];clear N s f;go_wp2_with fail;have S:=zW (RdX A (w2.setCell a (.int .i64 (v:Int))) r (Rd.ints (k+1) R).2∧Chg (fun b=>b=r∨∃a∈d,b=a.block) w (w2.setCell a (.int .i64 (v:Int)))∧zDQ (w2.setCell a (.int .i64 (v:Int))) r d∧∀b,b<w.heap.size→b≠r→(w2.setCell a (.int .i64 (v:Int))).heap[b]?=(putN w (d.take (k+1)) (Rd.ints (k+1) R).1).heap[b]?) (by
    rw[Y.o,V.o];refine⟨U.o.chg (Chg.setCell w2 a _) (fun e=>C.o.ne a j.o e.symm) (fun k hk e=>(HA.o k hk).2 a j.o e),?_,C.o.set j.o _,fun b hb I=>?_⟩
    ·exact(O.o.1.trans (B.o.mono (T:=fun b=>b=r∨∃a∈d,b=a.block) fun _ _ e=>.inl e) fun _ _ e=>e).trans ((Chg.setCell w2 a (.int .i64 (v:Int))).mono (T:=fun b=>b=r∨∃a∈d,b=a.block) fun _ _ e=>.inr ⟨a,j.o,e⟩) fun _ _ e=>e
    ·rw[putN_snoc _ _ _ _ _ D.o];exact setCell_heap _ _ ((B.o.block b (Nat.lt_of_lt_of_le hb O.o.1.size) I).trans (O.o.2.2 b hb I)))
   go_roundw
   case rel=>exact⟨k+1,by omega,by go_num,S.o⟩
   case measure=>simp[intOf];omega
  ·have t:k=n:=by omega
   have J:d.take k=d:=List.take_of_length_le (by rw[P.o];omega);rw[J,t]at m;rw[t]at p;have S:=zW (NumsTold A w r R d wr) (⟨by rw[P.o];exact p,l,by rw[P.o];exact m⟩);clear p l y m J t;go_wp2_with fail
   go_end0
   exact⟨rfl,S.o⟩
def zEp (A:Nat→Prop)(w:World)(r:Nat)(g:List Int×Rd)(e:Ending)(w':World):Prop :=
 ∃v,e=.returned v∧zCp w' v g.1∧(∀k,v.ownBlock=some k→w.heap.size≤k)∧RdX A w' r g.2∧Chg (fun k=>k=r) w w'
theorem any_calls (w:World)(x:Value):Calls prog 196 #[x] w fun e w'=>e=.returned (.bool true)∧w'=w:=by
 go_enter func196,ntmps196
 go_wp2_with fail;go_ret;exact⟨rfl,rfl⟩
theorem grp_big {may:List Int→Bool}{R:Rd}(h:7<R.num.1):R.grp may=([],Rd.fail):=by
 unfold Rd.grp;rw[if_pos h]
theorem zDY {may:List Int→Bool}{R:Rd}(h:¬7<R.num.1):R.grp may=((Rd.ints R.num.1 R.num.2).1,if may (Rd.ints R.num.1 R.num.2).1 then(Rd.ints R.num.1 R.num.2).2 else Rd.fail):=by
 unfold Rd.grp;rw[if_neg h]
theorem grp_round {A:Nat→Prop}{w wr w3 c:World}{r k v:Nat}{m l:Value}{zs:List Int}{q:Rd}{o:Obj}(h:∀k,A k→k<w.heap.size∧k≠r)(D:r<w.heap.size)(b:∀y,m.ownBlock=some y→w.heap.size≤y∧y≠r)(f:Chg (fun k=>k=r) w wr)
  (p:RdX A w3 r q) (d:Chg (fun k=>k=r) wr w3) (n:zs.length=k) (j:OwnR c 3 1 l (k+1) (intsV zs++[.int .i64 (v:Int)])) (B:(w3.alloc o).grownBy c m.ownBlock) (i:l.ownBlock=m.ownBlock∨∃g,l.ownBlock=some g∧(w3.alloc o).heap.size≤g) :
  zCp c l (zs++[(v:Int)])∧(∀y,l.ownBlock=some y→w.heap.size≤y∧y≠r)∧RdX A c r q∧Chg (fun k=>k=r) w c:=by
 have E:=f.size;have F:=d.size;have t:=zAv w3 o;have G:=t.size;have s:Chg (fun k=>some k=m.ownBlock) w3 c:=((Chg.of_below t).mono fun _ _ e=>e.elim).trans (Chg.of_grown B) fun _ _ e=>e;refine⟨?_,fun y a=>?_,p.chg s (fun e=>(b r e.symm).2 rfl) (fun x z e=>by have H:=(b x e.symm).1;have I:=(h x z).1;omega),(f.trans d fun _ _ e=>e).trans s fun x z e=>by have:=(b x e.symm).1;omega⟩
 ·unfold zCp intsV;rw[List.length_append,n,List.map_append];exact j
 ·rcases i with e|⟨g,e,C⟩
  ·exact b y (e▸a)
  ·rw[a]at e;cases e;exact⟨by omega,by omega⟩
theorem readGrp_grp {A:Nat→Prop}{w:World}{r:Nat}{R:Rd}(h:RdX A w r R)(hA:∀k,A k→k<w.heap.size∧k≠r) :
  Calls prog 151 #[.pointer (some ⟨r,0,none⟩),.func (.func 73) #[] #[]] w (zEp A w r (R.grp zAX)):=by
 obtain⟨i0,hi,ag,ah,ai⟩:=info_parts (show(prog.info? 3).map (fun i=>(i.zero,i.size,i.bytes))=some (some (.int .i64 0),1,8) by kernel_rfl);have P:=zW (Calls prog 191 #[.pointer (some ⟨r,0,none⟩)] w (NumX A w r R)) (by obtain⟨_,_,_,h,ha⟩:=h;exact zCu h ha);have ak:=Rd.num_le R;have HB:=zh (grp_big (may:=zAX) (R:=R));have HS:=zh (zDY (may:=zAX) (R:=R));have HA:=zh hA;have ad:=zh h.lt;clear h hA;generalize R.grp zAX=G at *;generalize hn:R.num.1=n at *;generalize Q:R.num.2=l at *;have Hn:=zh hn;have Y:=zh Q;clear hn Q
 go_enter func151,ntmps151
 go_wp2_with fail;refine P.o.mono ?_;rintro e w2 ⟨rfl,t,L⟩;rw[Y.o]at t;rw[Hn.o];have Z:=zh t;have O:=zh L
 by_cases h7:7<n
 ·have c:=zW (Calls prog 192 #[.pointer (some ⟨r,0,none⟩)] w2 (RStepX A w2 r Rd.fail (.tuple #[]))) (by obtain⟨_,_,_,h,_⟩:=t;exact zDK h);have E:=zh (HB.o h7);clear t L;go_wp2_with fail;refine c.o.mono ?_;rintro e w3 ⟨rfl,a,m⟩;have D:=zW (zEp A w r G (.returned (.slice none 0 0)) w3) (⟨.slice none 0 0,rfl,by rw[E.o];exact OwnR.nil _ _ _,fun k hk=>(by cases hk),by rw[E.o];exact a,O.o.trans m fun _ _ e=>e⟩);clear a m c;go_wp2_with fail;go_ret;exact D.o
 ·have E:=zh (HS.o h7);have am:n≤7:=by omega
  clear t L;go_wp2_with fail
  go_loopw [6,14] (fun x i wr=>∃(k:Nat) (J:Value),k≤n∧i=.int .i64 k∧J=x∧zCp wr J (Rd.ints k l).1∧(∀y,J.ownBlock=some y→w.heap.size≤y∧y≠r)∧RdX A wr r (Rd.ints k l).2∧Chg (fun k=>k=r) w wr) (fun _ i _=>n-(intOf i).toNat)
  case atStart=>exact⟨0,_,Nat.zero_le _,rfl,rfl,OwnR.nil _ _ _,fun y C=>(by cases C),Z.o,O.o⟩
  case round =>
   obtain⟨k,J,hk,rfl,rfl,b,d,B,F⟩:=hrel
   by_cases al:k<n
   ·have ac:=zW (Calls prog 191 #[.pointer (some ⟨r,0,none⟩)] wr (NumX A wr r (Rd.ints k l).2)) (by obtain⟨_,_,_,h,ha⟩:=B;exact zCu h ha);have ae:=zh (zD1 k l);have N:=zC2 k l;have p:=zh (And.intro b (And.intro d F));have H:=zW (OwnR wr 3 1 J k (intsV (Rd.ints k l).1)) (by have:=b;unfold zCp at this;rwa[N]at this);have ab:=zh N;have aj:=Rd.num_le (Rd.ints k l).2;have I:=zh ae.o;clear b d B F N;generalize hv:(Rd.ints k l).2.num.1=v at *;have Hv:=zh hv;clear hv;go_wp2_with fail;refine ac.o.mono ?_;rintro e w3 ⟨rfl,a,m⟩;have K:=zh a;have X:=zh m;rw[Hv.o];have q:=zh (H.o.keep fun y C=>m.block y (OwnR.lt H.o C) fun e=>(p.o.2.1 y C).2 e);clear a m;go_wp2_with (at_builtin;have S:=q.o.keep (w':=w3.alloc (.cells #[.int .i64 (v:Int)] 3)) (fun z hz=>(zAv w3 _).block z (OwnR.lt q.o hz));have W:=zDn w3 (.int .i64 (v:Int)) 3 (0,0);refine zAP _ rfl (.tmp 16) (.tmp 19) 38 rfl 3 i0 (.int .i64 0) 1 8 underlying38 hi ag ah ai rfl (by decide) J k _ rfl S (.slice (some ⟨w3.heap.size,0,none⟩) 1 1) 1 _ rfl W (by simp[Value.oneCell']) (by unfold maxLen;omega) (by omega) ?_;clear S W;intro v4 w4 f j s;go_loud (have D:=zh (grp_round (v:=v) HA.o ad.o p.o.2.1 p.o.2.2 K.o X.o ab.o f j s);clear j s;obtain⟨p4,q4,rfl⟩:=OwnR.shape f;clear f))
    go_roundw
    case rel=>exact⟨k+1,_,by omega,by go_num,rfl,by rw[I.o];exact D.o.1,D.o.2.1,by rw[I.o];exact D.o.2.2.1,D.o.2.2.2⟩
    case measure=>simp[intOf];omega
   ·have af:k=n:=by omega
    subst af;have T:=zC2 k l;obtain⟨px,cx,e1,-⟩:=zAw b;have g:=zW (Calls prog 73 #[J] wr fun e w'=>e=.returned (.bool (zAX (Rd.ints k l).1))∧w'=wr) (by rw[e1];exact zET (by rw[←e1];exact zCp.has b) (by omega));have c:=zW (Calls prog 192 #[.pointer (some ⟨r,0,none⟩)] wr (RStepX A wr r Rd.fail (.tuple #[]))) (by obtain⟨_,_,_,h,_⟩:=B;exact zDK h);have p:=zh (And.intro b (And.intro d (And.intro F B)));have aa:=zW (J.ownBlock≠some r) fun e=>(d r e).2 rfl;subst e1;clear b d F B T;cases U:zAX (Rd.ints k l).1 with
    | false =>
     rw[U]at g E;go_wp2_with fail;refine g.o.mono ?_;rintro e w3 ⟨rfl,rfl⟩;go_wp2_with fail;refine c.o.mono ?_;rintro e w4 ⟨rfl,V,M⟩;have D:=zW (zEp A w r G (.returned (.slice px (Rd.ints k l).1.length cx)) w4) (⟨_,rfl,by rw[E.o];exact OwnR.keep p.o.1 fun y C=>M.block y (OwnR.lt p.o.1 C) fun e=>aa.o (e▸C),fun y C=>(p.o.2.1 y C).1,by rw[E.o];exact V,p.o.2.2.1.trans M fun _ _ e=>e⟩);clear V M c;go_wp2_with fail;go_ret;exact D.o
    | true =>
     rw[U]at g E;have D:=zW (zEp A w r G (.returned (.slice px (Rd.ints k l).1.length cx)) wr) (⟨_,rfl,by rw[E.o];exact p.o.1,fun y C=>(p.o.2.1 y C).1,by rw[E.o];exact p.o.2.2.2,p.o.2.2.1⟩);go_wp2_with fail;refine g.o.mono ?_;rintro e w3 ⟨rfl,rfl⟩;go_wp2_with fail;go_ret;exact D.o
theorem readGrp_any {A:Nat→Prop}{w:World}{r:Nat}{R:Rd}(h:RdX A w r R)(hA:∀k,A k→k<w.heap.size∧k≠r) :
  Calls prog 151 #[.pointer (some ⟨r,0,none⟩),.func (.func 196) #[] #[]] w (zEp A w r (R.grp anyG)):=by
 obtain⟨i0,hi,ag,ah,ai⟩:=info_parts (show(prog.info? 3).map (fun i=>(i.zero,i.size,i.bytes))=some (some (.int .i64 0),1,8) by kernel_rfl);have P:=zW (Calls prog 191 #[.pointer (some ⟨r,0,none⟩)] w (NumX A w r R)) (by obtain⟨_,_,_,h,ha⟩:=h;exact zCu h ha);have ak:=Rd.num_le R;have HB:=zh (grp_big (may:=anyG) (R:=R));have HS:=zh (zDY (may:=anyG) (R:=R));have HA:=zh hA;have ad:=zh h.lt;clear h hA;generalize R.grp anyG=G at *;generalize hn:R.num.1=n at *;generalize Q:R.num.2=l at *;have Hn:=zh hn;have Y:=zh Q;clear hn Q
 go_enter func151,ntmps151
 go_wp2_with fail;refine P.o.mono ?_;rintro e w2 ⟨rfl,t,L⟩;rw[Y.o]at t;rw[Hn.o];have Z:=zh t;have O:=zh L
 by_cases h7:7<n
 ·have c:=zW (Calls prog 192 #[.pointer (some ⟨r,0,none⟩)] w2 (RStepX A w2 r Rd.fail (.tuple #[]))) (by obtain⟨_,_,_,h,_⟩:=t;exact zDK h);have E:=zh (HB.o h7);clear t L;go_wp2_with fail;refine c.o.mono ?_;rintro e w3 ⟨rfl,a,m⟩;have D:=zW (zEp A w r G (.returned (.slice none 0 0)) w3) (⟨.slice none 0 0,rfl,by rw[E.o];exact OwnR.nil _ _ _,fun k hk=>(by cases hk),by rw[E.o];exact a,O.o.trans m fun _ _ e=>e⟩);clear a m c;go_wp2_with fail;go_ret;exact D.o
 ·have E:=zh (HS.o h7);have am:n≤7:=by omega
  clear t L;go_wp2_with fail
  go_loopw [6,14] (fun x i wr=>∃(k:Nat) (H:Value),k≤n∧i=.int .i64 k∧H=x∧zCp wr H (Rd.ints k l).1∧(∀y,H.ownBlock=some y→w.heap.size≤y∧y≠r)∧RdX A wr r (Rd.ints k l).2∧Chg (fun k=>k=r) w wr) (fun _ i _=>n-(intOf i).toNat)
  case atStart=>exact⟨0,_,Nat.zero_le _,rfl,rfl,OwnR.nil _ _ _,fun y C=>(by cases C),Z.o,O.o⟩
  case round =>
   obtain⟨k,H,hk,rfl,rfl,b,d,B,F⟩:=hrel
   by_cases al:k<n
   ·have ac:=zW (Calls prog 191 #[.pointer (some ⟨r,0,none⟩)] wr (NumX A wr r (Rd.ints k l).2)) (by obtain⟨_,_,_,h,ha⟩:=B;exact zCu h ha);have ae:=zh (zD1 k l);have N:=zC2 k l;have p:=zh (And.intro b (And.intro d F));have I:=zW (OwnR wr 3 1 H k (intsV (Rd.ints k l).1)) (by have:=b;unfold zCp at this;rwa[N]at this);have ab:=zh N;have aj:=Rd.num_le (Rd.ints k l).2;have J:=zh ae.o;clear b d B F N;generalize hv:(Rd.ints k l).2.num.1=v at *;have Hv:=zh hv;clear hv;go_wp2_with fail;refine ac.o.mono ?_;rintro e w3 ⟨rfl,a,m⟩;have K:=zh a;have X:=zh m;rw[Hv.o];have q:=zh (I.o.keep fun y C=>m.block y (OwnR.lt I.o C) fun e=>(p.o.2.1 y C).2 e);clear a m;go_wp2_with (at_builtin;have S:=q.o.keep (w':=w3.alloc (.cells #[.int .i64 (v:Int)] 3)) (fun z hz=>(zAv w3 _).block z (OwnR.lt q.o hz));have W:=zDn w3 (.int .i64 (v:Int)) 3 (0,0);refine zAP _ rfl (.tmp 16) (.tmp 19) 38 rfl 3 i0 (.int .i64 0) 1 8 underlying38 hi ag ah ai rfl (by decide) H k _ rfl S (.slice (some ⟨w3.heap.size,0,none⟩) 1 1) 1 _ rfl W (by simp[Value.oneCell']) (by unfold maxLen;omega) (by omega) ?_;clear S W;intro v4 w4 f j s;go_loud (have D:=zh (grp_round (v:=v) HA.o ad.o p.o.2.1 p.o.2.2 K.o X.o ab.o f j s);clear j s;obtain⟨p4,q4,rfl⟩:=OwnR.shape f;clear f))
    go_roundw
    case rel=>exact⟨k+1,_,by omega,by go_num,rfl,by rw[J.o];exact D.o.1,D.o.2.1,by rw[J.o];exact D.o.2.2.1,D.o.2.2.2⟩
    case measure=>simp[intOf];omega
   ·have af:k=n:=by omega
    subst af;have T:=zC2 k l;obtain⟨px,cx,e1,-⟩:=zAw b;have g:=zW (Calls prog 196 #[H] wr fun e w'=>e=.returned (.bool (anyG (Rd.ints k l).1))∧w'=wr) (by exact any_calls wr H);have c:=zW (Calls prog 192 #[.pointer (some ⟨r,0,none⟩)] wr (RStepX A wr r Rd.fail (.tuple #[]))) (by obtain⟨_,_,_,h,_⟩:=B;exact zDK h);have p:=zh (And.intro b (And.intro d (And.intro F B)));have aa:=zW (H.ownBlock≠some r) fun e=>(d r e).2 rfl;subst e1;clear b d F B T;cases U:anyG (Rd.ints k l).1 with
    | false =>
     rw[U]at g E;go_wp2_with fail;refine g.o.mono ?_;rintro e w3 ⟨rfl,rfl⟩;go_wp2_with fail;refine c.o.mono ?_;rintro e w4 ⟨rfl,V,M⟩;have D:=zW (zEp A w r G (.returned (.slice px (Rd.ints k l).1.length cx)) w4) (⟨_,rfl,by rw[E.o];exact OwnR.keep p.o.1 fun y C=>M.block y (OwnR.lt p.o.1 C) fun e=>aa.o (e▸C),fun y C=>(p.o.2.1 y C).1,by rw[E.o];exact V,p.o.2.2.1.trans M fun _ _ e=>e⟩);clear V M c;go_wp2_with fail;go_ret;exact D.o
    | true =>
     rw[U]at g E;have D:=zW (zEp A w r G (.returned (.slice px (Rd.ints k l).1.length cx)) wr) (⟨_,rfl,by rw[E.o];exact p.o.1,fun y C=>(p.o.2.1 y C).1,by rw[E.o];exact p.o.2.2.2,p.o.2.2.1⟩);go_wp2_with fail;refine g.o.mono ?_;rintro e w3 ⟨rfl,rfl⟩;go_wp2_with fail;go_ret;exact D.o
def zCF (w w1:World)(j d:Nat)(pre:ByteArray)(D:zAA)(F:Nat→Prop)(o:Option zAH)(e:Ending)(w':World):Prop :=
 St w w' d D F∧Same F w1 w'∧match o with
 | none=>e=.returned (.bool false)
 | some M'=>e=.returned (.bool true)∧zAj w w' j d pre D M' F
theorem zGT {w w2:World}{r:Nat}{k:UInt8}{l:Bs}(h:RdX (fun k=>w.heap.size≤k∧k<r) w2 r ⟨k::l,false⟩) :
  Calls prog 193 #[.pointer (some ⟨r,0,none⟩),.int .i64 1] w2 fun e w'=>∃g q,e=.returned (.slice (some ⟨g,0,none⟩) 1 q)∧w'.cell? ⟨g,0,none⟩=some (.int .u8 (k.toNat:Int))∧RdX (fun k=>w.heap.size≤k∧k<r) w' r ⟨l,false⟩∧Chg (fun j=>j=r) w2 w':=by
 obtain⟨p,n,c,h,o⟩:=h;refine(rawX_calls h o 1 (by decide) (by decide)).mono ?_;rintro e w' ⟨v,rfl,d,t,f,s⟩;have i:Rd.raw ⟨k::l,false⟩ (1:Int).toNat=([k],⟨l,false⟩):=by
  unfold Rd.raw;simp
 rw[i]at d f;rcases d.2 with⟨-,m⟩|⟨g,b,cur,rfl,-⟩
 ·simp at m
 ·have:=OwnR.cells d (g:=g) rfl 0 (.int .u8 (k.toNat:Int)) rfl;rw[add_zero]at this;exact⟨g,b,rfl,this,f,s⟩
section
variable {w w1 w2:World} {j d:Nat} {pre:ByteArray} {D:zAA} {M:zAH} {F:Nat→Prop}
theorem rec_no (h:zAj w w1 j d pre D M F)(b:Below w1.heap.size w1 w2){o:Option zAH}(c:o=none):zCF w w1 j d pre D F o (.returned (.bool false)) w2:=by
 subst c;exact⟨(h.next b).stF,h.same b,rfl⟩
theorem rec_noj (h:zAj w w1 j d pre D M F)(c:Chg (fun k=>k=j) w1 w2){o:Option zAH}(l:o=none):zCF w w1 j d pre D F o (.returned (.bool false)) w2:=by
 subst l;obtain⟨own,n,dv,m,vs,g,hS,hn,i⟩:=h;have f:Chg own w1 w2:=c.mono fun k _ e=>by rw[e];exact g.ol
 exact⟨hS.move f (fun k _ b=>⟨.inl b,(hn k b).1⟩) fun k b=>⟨.inl (.inr b),Nat.lt_of_lt_of_le (i k b) c.size⟩,fun k b=>c.block k (i k b) fun e=>(hn j g.ol).2 (e▸b),rfl⟩
theorem rec_fst_ok (h:zAj w w1 j d pre D M F)(z:Chg (fun k=>k=j) w1 w2){n:Nat}{t:Int}{g:List Int}{m:Value}(c:∀own p dv s vs,zBn w1 j d pre own M p dv s vs→w2.heap[j]?=some (.cells #[.int .i64 (n:Int),.int .i64 t,m,.pointer (some ⟨d,0,none⟩),.string pre,.int .i64 M.now,.int .i64 M.vote,dv,s,.bool M.dead] 132 (0,0)))
  (G:zCp w2 m g) (f:∀k,m.ownBlock=some k→w1.heap.size≤k) (I:M.entries=[]) (r:n≤1099511627776) (N:zDG t=true) (A:zAX g=true) {o:Option zAH} (E:o=some {M with number:=n,term:=t,group:=g}):zCF w w1 j d pre D F o (.returned (.bool true)) w2:=by
 subst E;obtain⟨own,p,dv,s,vs,b,hS,hn,L⟩:=h;have a:Chg own w1 w2:=z.mono fun k _ e=>by rw[e];exact b.ol
 have J:=b.olt j b.ol;have B:∀k,own k→k≠j→w2.heap[k]?=w1.heap[k]?:=fun k E C=>z.block k (b.olt k E) C;have y:zBn w2 j d pre (fun k=>own k∨m.ownBlock=some k) {M with number:=n,term:=t,group:=g} m dv s vs:=by
  refine⟨c _ _ _ _ _ b,G,OwnR.keep b.data fun k h=>B k (b.od k h).1 (b.od k h).2.1,b.row.keep fun k h=>B k (b.oe k h).1 (b.oe k h).2,⟨b.rows.1,fun i e v q l=>(b.rows.2 i e v q l).keep fun k h=>B k (b.ov v (List.mem_of_getElem? l) k h).1 (b.ov v (List.mem_of_getElem? l) k h).2.1⟩,.inl b.ol,fun k h=>⟨.inr h,fun e=>by have:=f k h;omega,fun e=>by have q:=f k h;have l:=b.olt k (b.oe k e).1;omega⟩,fun k h=>⟨.inl (b.od k h).1,(b.od k h).2⟩,fun k h=>⟨.inl (b.oe k h).1,(b.oe k h).2⟩,fun u H k h=>⟨.inl (b.ov u H k h).1,(b.ov u H k h).2⟩,fun k h=>?_,b.psz,⟨?_,N,A,b.ok.now,b.ok.vote,b.ok.data,b.ok.ents⟩⟩
  ·rcases h with h|h
   ·exact Nat.lt_of_lt_of_le (b.olt k h) z.size
   ·exact OwnR.lt G h
  ·show n+M.entries.length≤_
   rw[I];exact r
 obtain⟨q,l⟩:=zAj.turned hS hn L y a fun k h=>h.imp id (f k);exact⟨q.stF,l,rfl,q⟩
theorem rec_yes {M':zAH}(h:zAj w w2 j d pre D M' F)(c:Same F w1 w2){o:Option zAH}(b:o=some M'):zCF w w1 j d pre D F o (.returned (.bool true)) w2:=by
 subst b;exact⟨h.stF,c,rfl,h⟩
theorem rec1_early {f:Bool}{k:UInt8}{l:Bs}(h:f≠decide (k=1)):zBe f M (k::l)=none:=by
 unfold zBe;dsimp only;rw[if_pos h]
theorem rec1_other {f:Bool}{k:UInt8}{l:Bs}(b:k≠1)(c:k≠2)(d:k≠3)(g:k≠4):zBe f M (k::l)=none:=by
 unfold zBe;dsimp only
 by_cases h:f≠decide (k=1)
 ·rw[if_pos h]
 ·rw[if_neg h,if_neg b,if_neg c,if_neg d,if_neg g]
theorem jou_places {own:Nat→Prop}{k dv i:Value}{vs:List EV}{W:World}{r:Nat}(l:zBn w1 j d pre own M k dv i vs)(m:Below w1.heap.size w1 W)(g:j≠r):zDQ W r [⟨j,0,none⟩,⟨j,1,none⟩]:=by
 have b:=l.below m;refine⟨fun a f=>?_,fun a f=>?_,fun a f=>?_,fun a f=>?_⟩
 all_goals
  simp only[List.mem_cons,List.not_mem_nil,or_false]at f;rcases f with rfl|rfl
 ·exact⟨_,b.c 0 rfl⟩
 ·exact⟨_,b.c 1 rfl⟩
 ·exact b.fr 0
 ·exact b.fr 1
 ·exact g
 ·exact g
 ·rfl
 ·rfl
theorem grp_whole {R:Rd}(h:(R.grp zAX).2.whole=true):zAX (R.grp zAX).1=true:=by
 unfold Rd.grp at h ⊢
 split at h
 ·cases h
 ·rename_i h7
  rw[if_neg h7];dsimp only at h ⊢
  split at h
  ·assumption
  ·cases h
theorem rec_k1 (h:zAj w w1 j d pre D M F){p:Option Addr}{n c:Nat}{l:Bs}(hx:zAY w1 (.slice p n c) (1::l))(hl:n≤1073741824)(he:M.entries=[]) :
  Calls prog 155 #[.pointer (some ⟨j,0,none⟩),.bool true,.slice p n c] w1 (zCF w w1 j d pre D F (zBe true M (1::l))):=by
 have ai:=zh (zB4 hx (by obtain⟨_,_,e⟩:=hx.slice;simp only[Value.slice.injEq]at e;omega));have H:=zh h;have f:=zh h.jlt;have HM:=zh (show zBe true M (1::l)=(if(Rd.num ⟨l,false⟩).2.num.2.grp zAX |>.2.whole then
    if(Rd.num ⟨l,false⟩).1≤1099511627776∧(Rd.num ⟨l,false⟩).2.num.1≤1099511627776 then
     some {M with number:=(Rd.num ⟨l,false⟩).1,term:=((Rd.num ⟨l,false⟩).2.num.1:Int),group:=((Rd.num ⟨l,false⟩).2.num.2.grp zAX).1}else none
   else none)from rfl)
 have af:=zh (grp_whole (R:=(Rd.num ⟨l,false⟩).2.num.2));have aD:=Rd.num_le ⟨l,false⟩;have aE:=Rd.num_le (Rd.num ⟨l,false⟩).2;have HI:=zW (Rd.ints 2 ⟨l,false⟩=([((Rd.num ⟨l,false⟩).1:Int),((Rd.num ⟨l,false⟩).2.num.1:Int)],(Rd.num ⟨l,false⟩).2.num.2)) rfl;have He:=zh he;generalize zBe true M (1::l)=O at *;generalize (Rd.num ⟨l,false⟩).1=I at *;generalize (Rd.num ⟨l,false⟩).2.num.1=J at *;generalize (Rd.num ⟨l,false⟩).2.num.2=R3 at *;clear h hx he
 go_enter func155,ntmps155
 go_wp2_with fail;refine ai.o.mono ?_;rintro e w2 ⟨r,rfl,hr,ap,ao,ak⟩;have au:=zh (zGT hr);have ad:=zh ak;have s:=zh (And.intro ap ao);clear hr ap ao ak;go_wp2_with fail;refine au.o.mono ?_;rintro e w3 ⟨g,q,rfl,hg,aa,al⟩;have m:=zW (Below w1.heap.size w1 w3) (ad.o.trans (al.below ad.o.size fun i hi e=>by have:=s.o.1;omega));have av:=zh aa;have aw:=zh aa.lt;have aC:w3.cell? ⟨g,0,none⟩=some (.int .u8 1):=hg;clear aa al hg;go_wp2_with fail;refine ost (fun _:World=>True) 11 (trivial) fun C=>?_;refine Pl [0,1,2,3,4,5,6,7,8] ?_
 iterate 9 (refine Pc rfl ?_;simp only[uZ])
 refine Pn ?_;refine oon 9 rfl fun K hK=>?_;go_wp2_with fail;refine hK.o _ _ (trivial) fun C=>?_;clear hK
 try simp only[uZ]
 refine oon 10 rfl fun K hK=>?_;have HP:=zW (zDQ (w3.drew.alloc (.cells #[.pointer (some ⟨j,0,none⟩),.pointer (some ⟨j,1,none⟩)] 204)) r [⟨j,0,none⟩,⟨j,1,none⟩]) (by
  obtain⟨own,gv,dv,t,vs,E,-⟩:=H.o;exact jou_places E (m.o.trans ((zAU w3).trans (zAC w3.drew _) |>.mono m.o.size)) (by have:=s.o.1;have:=f.o;omega))
 have HN:=zh (zEb (R:=⟨l,false⟩) ((av.o.chg (Chg.drew w3) (fun e=>e) fun _ _ e=>e).chg (Chg.alloc w3.drew (.cells #[.pointer (some ⟨j,0,none⟩),.pointer (some ⟨j,1,none⟩)] 204)) (fun e=>e) fun _ _ e=>e) (g:=w3.drew.heap.size) (c:=2) HP.o (by simp) (fun i a hi=>by
  refine zAG (zAJ w3.drew _) ?_
  match i,hi with
  | 0,hi=>cases hi;rfl
  | 1,hi=>cases hi;rfl) (fun e=>by have:=aw.o;have e2:w3.heap.size=r:=e;omega) (fun a V e=>by
   have v:=f.o;have S:=m.o.size;have e2:a.block=w3.heap.size:=e;simp at V;rcases V with rfl|rfl
   ·have e3:j=w3.heap.size:=e2;omega
   ·have e3:j=w3.heap.size:=e2;omega) (fun k hk=>⟨by omega,fun a V e=>by
   have v:=f.o;simp at V;rcases V with rfl|rfl
   ·have e3:k=j:=e;omega
   ·have e3:k=j:=e;omega⟩))
 go_wp2_with fail;refine HN.o.mono ?_;rintro e w4 ⟨rfl,am⟩;have P:=zh am;clear am;go_wp2_with fail;refine hK.o _ _ (trivial) fun C=>?_;clear hK
 try simp only[uZ]
 refine odn ?_;have ax:=zh (readGrp_grp (A:=fun k=>w1.heap.size≤k∧k<r) (w:=w4) (by have:=P.o.1;rw[show [(⟨j,0,none⟩:Addr),⟨j,1,none⟩].length=2 from rfl,HI.o]at this;exact this) (fun k hk=>⟨by have:=P.o.1.lt;omega,by omega⟩));have ae:=zW (Chg (fun k=>k=j) w1 w4) (by
  refine((Chg.of_below (m.o.trans (((zAU w3).trans (zAC w3.drew (.cells #[.pointer (some ⟨j,0,none⟩),.pointer (some ⟨j,1,none⟩)] 204))).mono m.o.size))).mono (T:=fun k=>k=j) fun _ _ e=>e.elim).trans P.o.2.1 fun k hk e=>?_;rcases e with e|⟨a,V,e⟩
  ·have:=s.o.1;omega
  ·simp at V;rcases V with rfl|rfl<;>exact e)
 have ag:=zh (fun own b dv t vs (E:zBn w1 j d pre own M b dv t vs)=>show w4.heap[j]?=some (.cells #[.int .i64 (I:Int),.int .i64 (J:Int),b,.pointer (some ⟨d,0,none⟩),.string pre,.int .i64 M.now,.int .i64 M.vote,dv,t,.bool M.dead] 132 (0,0)) by
  have aA:=f.o;have aF:=m.o.size;rw[P.o.2.2 j (by simp;show j<w3.heap.size+1;omega) (by have:=s.o.1;omega)];rw[show [(⟨j,0,none⟩:Addr),⟨j,1,none⟩].length=2 from rfl,HI.o];have az:=(((zAU w3).trans (zAC w3.drew (.cells #[.pointer (some ⟨j,0,none⟩),.pointer (some ⟨j,1,none⟩)] 204))).block j (by omega)).trans ((m.o.block j aA).trans E.cells);have v:=zAD az 0 (.int .i64 (I:Int));have S:=zAD v 1 (.int .i64 (J:Int));have e0:∀(W:World) (z:Int),putN W [(⟨j,0,none⟩:Addr),⟨j,1,none⟩] [(I:Int),(J:Int)]=(W.setCell ⟨j,0,none⟩ (.int .i64 (I:Int))).setCell ⟨j,1,none⟩ (.int .i64 (J:Int)):=fun _ _=>rfl;rw[e0 _ 0];simpa using S)
 go_wp2_with fail;refine ax.o.mono ?_;rintro e L ⟨y,rfl,ac,an,ab,Z⟩;have aq:=zW (Chg (fun k=>k=j) w1 L) (ae.o.trans (Z.mono (T:=fun k=>k=r) fun _ _ e=>e) fun k hk e=>by have:=s.o.1;omega);have aj:=zW (r≠j) (fun e=>by have v:=s.o.1;have S:=f.o;omega);have ah:=zh (fun own b dv t vs (E:zBn w1 j d pre own M b dv t vs)=>(Z.block j (zAB (ag.o own b dv t vs E)) fun e=>aj.o e.symm).trans (ag.o own b dv t vs E));have Y:=zh (And.intro ac (show ∀k,y.ownBlock=some k→w1.heap.size≤k from fun k hk=>Nat.le_trans ae.o.size (an k hk)));have aB:=zh ab;obtain⟨own,b,dv,t,vs,E,-⟩:=H.o;have U:=ah.o own b dv t vs E;have c2:=zAo U;have f2:=zAE U 2;have h6:=zAD U 2 y;have d0:(L.setCell ⟨j,2,none⟩ y).cell? ⟨j,0,none⟩=some (.int .i64 (I:Int)):=zAG h6 (by simp);have d1:(L.setCell ⟨j,2,none⟩ y).cell? ⟨j,1,none⟩=some (.int .i64 (J:Int)):=zAG h6 (by simp);have Hd:=zh (And.intro d0 d1);have HW:=zh (zDd ((ab.at.hd).same (w':=L.setCell ⟨j,2,none⟩ y) (set_other _ aj.o)));have N:=zW (Chg (fun k=>k=j) w1 (L.setCell ⟨j,2,none⟩ y)) (aq.o.trans (Chg.setCell L ⟨j,2,none⟩ y) fun _ _ e=>e);have ar:=zW (zCp (L.setCell ⟨j,2,none⟩ y) y (R3.grp zAX).1) (OwnR.keep Y.o.1 fun k hk=>set_other _ fun e=>by have v:=Y.o.2 k hk;have S:=f.o;have e2:k=j:=e;omega);have ay:=zh (fun own b dv t vs (E:zBn w1 j d pre own M b dv t vs)=>show(L.setCell ⟨j,2,none⟩ y).heap[j]?=some (.cells #[.int .i64 (I:Int),.int .i64 (J:Int),y,.pointer (some ⟨d,0,none⟩),.string pre,.int .i64 M.now,.int .i64 M.vote,dv,t,.bool M.dead] 132 (0,0)) by
  have:=zAD (ah.o own b dv t vs E) 2 y;simpa using this)
 obtain⟨p5,c5,e5,-⟩:=zAw ac;subst e5;clear ac an ab Z E U h6 d0 d1;generalize (R3.grp zAX).2=R5 at *;generalize (R3.grp zAX).1=gg at *;cases G:R5.whole with
 | false =>
  rw[G]at HW;have X:=zh (rec_noj (o:=O) H.o N.o (by rw[HM.o,G];rfl));clear G;go_wp2_with fail;clear c2 f2;generalize L.setCell ⟨j,2,none⟩ (.slice p5 gg.length c5)=w6 at *;refine HW.o.mono ?_;rintro e w7 ⟨rfl,rfl⟩;go_wp2_with fail;go_ret;exact X.o
 | true =>
  rw[G]at HW;go_wp2_with fail;clear c2 f2;generalize L.setCell ⟨j,2,none⟩ (.slice p5 gg.length c5)=w6 at *;refine HW.o.mono ?_;rintro e w7 ⟨rfl,rfl⟩;obtain⟨d0,d1⟩:=Hd.o;have B:=zh (zD2 w7 (I:Int));have Q:=zh (zD2 w7 (J:Int))
  by_cases v:I≤1099511627776
  ·rw[show zDG (I:Int)=true from zAl.2 ⟨by omega,by omega⟩]at B
   by_cases S:J≤1099511627776
   focus rw[show zDG (J:Int)=true from zAl.2 ⟨by omega,by omega⟩]at Q;have X:=zh (rec_fst_ok (o:=O) H.o N.o ay.o ar.o Y.o.2 He.o v (zAl.2 ⟨by omega,by omega⟩) (af.o G) (by rw[HM.o,if_pos G,if_pos ⟨v,S⟩]))
   rotate_left
   focus rw[show zDG (J:Int)=false by rw[Bool.eq_false_iff];intro e;have:=zAl.1 e;omega]at Q;have X:=zh (rec_noj (o:=O) H.o N.o (by rw[HM.o,if_pos G,if_neg (fun e=>S e.2)]))
   all_goals
    clear G v S;go_wp2_with fail;refine B.o.mono ?_;rintro e w8 ⟨rfl,rfl⟩;go_wp2_with fail;refine Q.o.mono ?_;rintro e w8 ⟨rfl,rfl⟩;go_wp2_with fail;go_ret;exact X.o
  ·rw[show zDG (I:Int)=false by rw[Bool.eq_false_iff];intro e;have:=zAl.1 e;omega]at B;have X:=zh (rec_noj (o:=O) H.o N.o (by rw[HM.o,if_pos G,if_neg (fun e=>v e.1)]));clear G v;go_wp2_with fail;refine B.o.mono ?_;rintro e w8 ⟨rfl,rfl⟩;go_wp2_with fail;go_ret;exact X.o
end
section
variable {w w1 w2:World} {j d:Nat} {pre:ByteArray} {D:zAA} {M:zAH} {F:Nat→Prop}
theorem rec_cut_ok {k:Nat}{own:Nat→Prop}{g dv:Value}{p:Option Addr}{n c:Nat}{vs:List EV}(f:zBn w2 j d pre own M g dv (.slice p n c) vs)(hS:St w w2 d D (fun k=>own k∨F k))(hn:∀k,own k→w.heap.size≤k∧¬F k)(r:∀k,F k→k<w2.heap.size)
  (t:Same F w1 w2) (b:M.entries.length=n) (m:k≤n) {o:Option zAH} (s:o=some {M with entries:=M.entries.take k}) (q:Nat):zCF w w1 j d pre D F o (.returned (.bool true)) ((w2.setCell ⟨j,8,none⟩ (.slice p k c)).drewN q):=by
 obtain⟨i,l⟩:=zAj.turned (D:=D) (F:=F) hS hn r (jouIn_cut f b m (.inr rfl)) ((Chg.setCell w2 ⟨j,8,none⟩ _).mono fun x _ e=>by rw[e];exact f.ol) fun _ h=>.inl h;exact rec_yes (i.drewN q) (t.trans l) s
theorem rec_k4 (h:zAj w w1 j d pre D M F){p:Option Addr}{n c:Nat}{l:Bs}(hx:zAY w1 (.slice p n c) (4::l))(hl:n≤1073741824) :
  Calls prog 155 #[.pointer (some ⟨j,0,none⟩),.bool false,.slice p n c] w1 (zCF w w1 j d pre D F (zBe false M (4::l))):=by
 obtain⟨i0,ak,-,-,-⟩:=info_parts (show(prog.info? 50).map (fun i=>(i.zero,i.size,i.bytes))=some (some (.agg #[.int .i64 0,.int .i64 0,.slice none 0 0,.slice none 0 0]),4,64) by kernel_rfl);have N:=zh (zB4 hx (by obtain⟨_,_,e⟩:=hx.slice;simp only[Value.slice.injEq]at e;omega));have H:=zh h;have HM:=zW (zBe false M (4::l)=(if(Rd.num ⟨l,false⟩).2.whole∧M.number<(Rd.num ⟨l,false⟩).1∧(Rd.num ⟨l,false⟩).1≤M.last+1 then some {M with entries:=M.entries.take ((Rd.num ⟨l,false⟩).1-M.number-1) }else none)) rfl;have aq:=Rd.num_le ⟨l,false⟩;generalize zBe false M (4::l)=O at *;clear h hx
 go_enter func155,ntmps155
 go_wp2_with fail;refine N.o.mono ?_;rintro e w2 ⟨r,rfl,hr,V,U,Q⟩;have ab:=zh (zGT hr);have I:=zh Q;have L:=zh (And.intro V U);clear hr V U Q;go_wp2_with fail;refine ab.o.mono ?_;rintro e w3 ⟨g,q,rfl,hg,C,R⟩;have J:=zW (Below w1.heap.size w1 w3) (I.o.trans (R.below I.o.size fun i hi e=>by have:=L.o.1;omega));have ac:=zh C;have al:=zh C.lt;have ap:w3.cell? ⟨g,0,none⟩=some (.int .u8 4):=hg;clear C R hg;go_wp2_with fail;have HN:=zW (Calls prog 191 #[.pointer (some ⟨r,0,none⟩)] w3 (NumX _ w3 r ⟨l,false⟩)) (by obtain⟨_,_,_,h,ha⟩:=ac.o;exact zCu h ha);refine HN.o.mono ?_;rintro e Y ⟨rfl,T,S⟩;have f:=zW (Below w1.heap.size w1 Y) (J.o.trans (S.below J.o.size fun i hi e=>by have:=L.o.1;omega));have ae:=zh (zCr (H.o.next f.o));have HW:=zh (fun q=>zDd ((T.at.hd).same (w':=Y.drewN q) rfl));have af:=zh (fun q (ho:O=none)=>rec_no (o:=O) H.o (w2:=Y.drewN q) (f.o.trans ⟨rfl,rfl,rfl,Nat.le_refl _,fun _ _=>rfl⟩) ho);have P:=zh (fun q=>And.intro ((H.o.next f.o).drewN q) (show Same F w1 (Y.drewN q)from H.o.same (f.o.trans ⟨rfl,rfl,rfl,Nat.le_refl _,fun _ _=>rfl⟩)));have B:=H.o.okM.last;have HL:=zW (M.last=M.number+M.entries.length) rfl;generalize (Rd.num ⟨l,false⟩).2=R1 at *;generalize (Rd.num ⟨l,false⟩).1=m at *;clear T S;go_wp2_with fail;refine ae.o.mono ?_;rintro e w5 ⟨rfl,q,rfl⟩;have E:=zh (HW.o q);have a:=zh (af.o q);have ad:=zh (P.o q);generalize Y.drewN q=w5 at *;cases y:R1.whole with
 | false =>
  rw[y]at E;have z:=zh (a.o (by rw[HM.o,y,if_neg (by simp)]));clear y;go_wp2_with fail;refine E.o.mono ?_;rintro e Z ⟨rfl,rfl⟩;go_wp2_with fail;go_ret;exact z.o
 | true =>
  rw[y]at E;obtain⟨hj,hs⟩:=ad.o;obtain⟨own,gv,dv,ev,vs,s,hS,hn,t⟩:=hj;have c0:=s.c 0 rfl
  by_cases A:M.number<m
  ·have d1:decide (m≤M.number)=false:=by simpa using A
   have ag:decide ((m:Int)≤(M.number:Int))=false:=by simpa using A
   have au:IntKind.i64.wrap ((M.last:Int)+1)=(M.last:Int)+1:=IntWalk.i64_in _ (by omega)
   by_cases h2:m≤M.last+1
   ·have d2:decide ((M.last:Int)+1<(m:Int))=false:=by simp;omega
    have ah:decide (M.last+1<m)=false:=by simp;omega
    obtain⟨X,G,rfl⟩:=s.row.shape;have aj:M.entries.length≤G:=by
     rcases s.row.2 with⟨e1,e2⟩|⟨g,am,cur,e1,-,e3,-⟩
     ·rw[e2];exact Nat.zero_le _
     ·simp only[Value.slice.injEq]at e1;omega
    have aa:=HL.o;have av:IntKind.i64.wrap ((m:Int)-(M.number:Int))=((m-M.number-1:Nat):Int)+1:=by rw[IntWalk.i64_in _ (by omega)];omega
    have aw:IntKind.i64.wrap (((m-M.number-1:Nat):Int))=((m-M.number-1:Nat):Int):=IntWalk.i64_in _ (by omega);have z:=zh (rec_cut_ok (o:=O) (k:=m-M.number-1) s hS hn t hs rfl (by omega) (by rw[HM.o,y,if_pos ⟨rfl,A,h2⟩]) 1);have ar:∀W,(Instr.slice 78 (.slice X M.entries.length G) none (some (.int .i64 ((m-M.number-1:Nat):Int))) none).run prog W=.ok (.slice X (m-M.number-1) G) W:=fun W=>zCO W underlying78 ak X _ G _ (by omega);have d8:=s.c 8 rfl;have f8:=s.fr 8;generalize m-M.number-1=k at *;clear y s hS hn t hs A h2 B aa aj;generalize M.last=la at *;generalize M.number=b at *;generalize M.entries.length=ne at *;go_wp2_with fail;refine E.o.mono ?_;rintro e Z ⟨rfl,rfl⟩;go_wp2_with fail;refine zDX [16] (fun w':World=>w'.cell? ⟨j,8,none⟩=some (.slice X ne G)∧w'.cell? ⟨j,0,none⟩=some (.int .i64 (b:Int))) (n:=17) (by kernel_rfl) rfl (⟨d8,c0⟩) fun ai=>?_;refine Gl [0,1,2,3] ?_
    iterate 4 (refine Gp rfl ?_;simp only[uZ])
    refine Gn ?_;refine gtk 4 (v:=?v14x4) rfl ?_;simp only[uZ];refine Gl [5,6,7,8,9] ?_
    iterate 5 (refine Gp rfl ?_;simp only[uZ])
    refine Gn ?_;refine gtk 10 (v:=?v14x10) rfl ?_;simp only[uZ];refine Gl [11,12,13,14,15] ?_
    iterate 5 (refine Gp rfl ?_;simp only[uZ])
    refine Gn ?_;refine g_end 16 rfl (by kernel_rfl) (by rfl) (by kernel_rfl) (fun K hK=>?_);have ao:Z.drew.frozen? ⟨j,8,none⟩=false:=f8;have an:Z.drew.cell? ⟨j,8,none⟩=some (.slice X ne G):=d8;go_wp2_with fail;refine hK.o _ _ ?_;clear hK
    try simp only[uZ]
    refine zEy (by kernel_rfl) ?_ _;go_wp2_with fail;go_ret;exact z.o
   ·have d2:decide ((M.last:Int)+1<(m:Int))=true:=by simp;omega
    have ah:decide (M.last+1<m)=true:=by simp;omega
    have z:=zh (a.o (by rw[HM.o,if_neg (fun e=>h2 e.2.2)]));clear y s hS hn t hs A h2;go_wp2_with fail;refine E.o.mono ?_;rintro e Z ⟨rfl,rfl⟩;go_wp2_with fail;go_ret;exact z.o
  ·have d1:decide (m≤M.number)=true:=by simp;omega
   have ag:decide ((m:Int)≤(M.number:Int))=true:=by simp;omega
   have z:=zh (a.o (by rw[HM.o,if_neg (fun e=>A e.2.1)]));clear y s hS hn t hs A;go_wp2_with fail;refine E.o.mono ?_;rintro e Z ⟨rfl,rfl⟩;go_wp2_with fail;go_ret;exact z.o
theorem rec_nil (h:zAj w w1 j d pre D M F){p:Option Addr}{c:Nat}(f:Bool)(y:zAY w1 (.slice p 0 c) []) :
  Calls prog 155 #[.pointer (some ⟨j,0,none⟩),.bool f,.slice p 0 c] w1 (zCF w w1 j d pre D F (zBe f M [])):=by
 have g:=zh (zB4 y (by simp));have H:=zh h;clear h y
 go_enter func155,ntmps155
 go_wp2_with fail;refine g.o.mono ?_;rintro e w2 ⟨r,rfl,m,B,A,l⟩;obtain⟨J,I,C,m,s⟩:=m;have z:=zh (rawX_calls m s 1 (by decide) (by decide));have b:=zh l;clear m s l;go_wp2_with fail;refine z.o.mono ?_;rintro e w3 ⟨v,rfl,n,-,-,t⟩;have k:Below w1.heap.size w1 w3:=b.o.trans (t.below b.o.size fun i G e=>by omega);have a:Rd.raw ⟨[],false⟩ (1:Int).toNat=([],Rd.fail):=by
  unfold Rd.raw;simp
 rw[a]at n;obtain⟨L,E,rfl,-⟩:=zAN n;have q:=zh (rec_no (o:=zBe f M []) H.o k rfl);clear n t k;cases f with
 | false =>
  go_wp2_with fail;go_ret;exact q.o
 | true =>
  go_wp2_with fail;go_ret;exact q.o
theorem rec_else (h:zAj w w1 j d pre D M F){p:Option Addr}{n c:Nat}{f:Bool}{k:UInt8}{l:Bs}(Y:zAY w1 (.slice p n c) (k::l))(hl:n≤1073741824)(b:f≠decide (k=1)∨(k≠1∧k≠2∧k≠3∧k≠4)) :
  Calls prog 155 #[.pointer (some ⟨j,0,none⟩),.bool f,.slice p n c] w1 (zCF w w1 j d pre D F (zBe f M (k::l))):=by
 have E:=zh (zB4 Y (by obtain⟨_,_,e⟩:=Y.slice;simp only[Value.slice.injEq]at e;omega));have H:=zh h;have hM:zBe f M (k::l)=none:=by
  rcases b with b|⟨s,S,T,U⟩
  ·exact rec1_early b
  ·exact rec1_other s S T U
 have HM:=zh hM;have V:k.toNat<256:=k.toNat_lt;have m:∀z:UInt8,k=z↔k.toNat=z.toNat:=fun z=>⟨fun e=>by rw[e],fun e=>UInt8.toNat.inj e⟩;have t:=m 1;have v:=m 2;have y:=m 3;have a:=m 4;have K:(1:UInt8).toNat=1:=rfl;have e2:(2:UInt8).toNat=2:=rfl;have e3:(3:UInt8).toNat=3:=rfl;have e4:(4:UInt8).toNat=4:=rfl;rw[K]at t;rw[e2]at v;rw[e3]at y;rw[e4]at a;clear m K e2 e3 e4 hM h Y;have X:IntKind.i64.wrap (k.toNat:Int)=(k.toNat:Int):=IntWalk.i64_in _ (by omega)
 go_enter func155,ntmps155
 go_wp2_with fail;refine E.o.mono ?_;rintro e w2 ⟨r,rfl,hr,L,J,G⟩;have Q:=zh (zGT hr);have B:=zh G;have R:=zh (And.intro L J);clear hr L J G;go_wp2_with fail;refine Q.o.mono ?_;rintro e w3 ⟨g,q,rfl,hg,A,I⟩;have O:=zW (Below w1.heap.size w1 w3) (B.o.trans (I.below B.o.size fun i hi e=>by have:=R.o.1;omega));have ab:=zh A;have ac:=zh A.lt;have W:w3.cell? ⟨g,0,none⟩=some (.int .u8 (k.toNat:Int)):=hg;clear A I hg;have P:=zh (rec_no (o:=zBe f M (k::l)) H.o O.o HM.o);have Z:=zh b;have C:=zh (And.intro t (And.intro v (And.intro y a)));clear b t v y a
 by_cases s:k.toNat=1
 ·have b:k=1:=C.o.1.2 s;have hf:f=false:=by
   rcases Z.o with h|h
   ·rw[decide_eq_true b]at h;simpa using h
   ·exact absurd b h.1
  subst hf;rw[s]at W X;clear s b V;go_wp2_with fail;go_ret;exact P.o
 ·have b:¬k=1:=fun e=>s (C.o.1.1 e);have ad:decide (k.toNat=1)=false:=decide_eq_false s;have aa:((k.toNat:Int)==1)=false:=beq_eq_false_iff_ne.2 (by omega);cases f with
  | true =>
   clear b;go_wp2_with fail;go_ret;exact P.o
  | false =>
   have N:k≠1∧k≠2∧k≠3∧k≠4:=by
    rcases Z.o with h|h
    ·exact absurd (decide_eq_false b).symm h
    ·exact h
   have S:¬k.toNat=2:=fun e=>N.2.1 (C.o.2.1.2 e);have T:¬k.toNat=3:=fun e=>N.2.2.1 (C.o.2.2.1.2 e);have U:¬k.toNat=4:=fun e=>N.2.2.2 (C.o.2.2.2.2 e);have q2:decide (k.toNat=2)=false:=decide_eq_false S;have ae:((k.toNat:Int)==2)=false:=beq_eq_false_iff_ne.2 (by omega);have q3:decide (k.toNat=3)=false:=decide_eq_false T;have af:((k.toNat:Int)==3)=false:=beq_eq_false_iff_ne.2 (by omega);have q4:decide (k.toNat=4)=false:=decide_eq_false U;have ag:((k.toNat:Int)==4)=false:=beq_eq_false_iff_ne.2 (by omega);clear b N;go_wp2_with fail;go_ret;exact P.o
end
section
variable {w w1 w2:World} {j d:Nat} {pre:ByteArray} {D:zAA} {M:zAH} {F:Nat→Prop}
theorem rec_trm_ok (h:zAj w w2 j d pre D M F)(m:Same F w1 w2){t v:Int}(k:M.mayVote t v=true)(b:0≤t){o:Option zAH}(l:o=some {M with now:=t,vote:=v}) :
  zCF w w1 j d pre D F o (.returned (.bool true)) ((w2.setCell ⟨j,5,none⟩ (.int .i64 t)).setCell ⟨j,6,none⟩ (.int .i64 v)):=by
 obtain⟨-,c,f⟩:=zGK k;obtain⟨g,i⟩:=jou_set56 h t v (zAl.2 ⟨b,c⟩) f;exact rec_yes g (m.trans i) l
theorem rec_k2 (h:zAj w w1 j d pre D M F){p:Option Addr}{n c:Nat}{l:Bs}(hx:zAY w1 (.slice p n c) (2::l))(hl:n≤1073741824) :
  Calls prog 155 #[.pointer (some ⟨j,0,none⟩),.bool false,.slice p n c] w1 (zCF w w1 j d pre D F (zBe false M (2::l))):=by
 obtain⟨i0,ax,aB,aC,aD⟩:=info_parts (show(prog.info? 3).map (fun i=>(i.zero,i.size,i.bytes))=some (some (.int .i64 0),1,8) by kernel_rfl);have ac:=zh (zB4 hx (by obtain⟨_,_,e⟩:=hx.slice;simp only[Value.slice.injEq]at e;omega));have H:=zh h;have HM:=zh (show zBe false M (2::l)=(if(Rd.num ⟨l,false⟩).2.num.2.whole&&M.mayVote ((Rd.num ⟨l,false⟩).1:Int) (((Rd.num ⟨l,false⟩).2.num.1:Int)-1)then
    some {M with now:=((Rd.num ⟨l,false⟩).1:Int),vote:=(((Rd.num ⟨l,false⟩).2.num.1:Int)-1) }else none)from rfl)
 have ay:=Rd.num_le ⟨l,false⟩;have az:=Rd.num_le (Rd.num ⟨l,false⟩).2;have HI:=zW (Rd.ints 2 ⟨l,false⟩=([((Rd.num ⟨l,false⟩).1:Int),((Rd.num ⟨l,false⟩).2.num.1:Int)],(Rd.num ⟨l,false⟩).2.num.2)) rfl;generalize zBe false M (2::l)=O at *;generalize (Rd.num ⟨l,false⟩).1=S at *;generalize (Rd.num ⟨l,false⟩).2.num.1=b at *;generalize (Rd.num ⟨l,false⟩).2.num.2=R3 at *;clear h hx
 go_enter func155,ntmps155
 go_wp2_with fail;refine ac.o.mono ?_;rintro e w2 ⟨r,rfl,hr,ak,E,af⟩;have ao:=zh (zGT hr);have Y:=zh af;have aa:=zh (And.intro ak E);clear hr ak E af;go_wp2_with fail;refine ao.o.mono ?_;rintro e w3 ⟨g,q,rfl,hg,V,ag⟩;have z:=zW (Below w1.heap.size w1 w3) (Y.o.trans (ag.below Y.o.size fun i X e=>by have:=aa.o.1;omega));have ap:=zh V;have K:=zh V.lt;have av:w3.cell? ⟨g,0,none⟩=some (.int .u8 2):=hg;clear V ag hg;go_wp2_with fail;have E:=K.o;have f:(((w3.alloc (.cells #[.int .i64 0] 3)).alloc (.cells #[.int .i64 0] 3)).alloc (.cells #[.pointer (some ⟨w3.heap.size,0,none⟩),.pointer (some ⟨w3.heap.size+1,0,none⟩)] 204)).heap[w3.heap.size]?=some (.cells #[.int .i64 0] 3):=zBA _ (zBA _ (zAJ w3 _));have m:(((w3.alloc (.cells #[.int .i64 0] 3)).alloc (.cells #[.int .i64 0] 3)).alloc (.cells #[.pointer (some ⟨w3.heap.size,0,none⟩),.pointer (some ⟨w3.heap.size+1,0,none⟩)] 204)).heap[w3.heap.size+1]?=some (.cells #[.int .i64 0] 3):=zBA _ (by have:=zAJ (w3.alloc (.cells #[.int .i64 0] 3)) (.cells #[.int .i64 0] 3);simpa using this);have ai:(((w3.alloc (.cells #[.int .i64 0] 3)).alloc (.cells #[.int .i64 0] 3)).alloc (.cells #[.pointer (some ⟨w3.heap.size,0,none⟩),.pointer (some ⟨w3.heap.size+1,0,none⟩)] 204)).heap[w3.heap.size+2]?=some (.cells #[.pointer (some ⟨w3.heap.size,0,none⟩),.pointer (some ⟨w3.heap.size+1,0,none⟩)] 204):=by have:=zAJ ((w3.alloc (.cells #[.int .i64 0] 3)).alloc (.cells #[.int .i64 0] 3)) (.cells #[.pointer (some ⟨w3.heap.size,0,none⟩),.pointer (some ⟨w3.heap.size+1,0,none⟩)] 204);simpa using this
 have HP:=zW (zDQ (((w3.alloc (.cells #[.int .i64 0] 3)).alloc (.cells #[.int .i64 0] 3)).alloc (.cells #[.pointer (some ⟨w3.heap.size,0,none⟩),.pointer (some ⟨w3.heap.size+1,0,none⟩)] 204)) r [⟨w3.heap.size,0,none⟩,⟨w3.heap.size+1,0,none⟩]) (by
  refine⟨fun a y=>?_,fun a y=>?_,fun a y=>?_,fun a y=>?_⟩
  all_goals
   simp only[List.mem_cons,List.not_mem_nil,or_false]at y;rcases y with rfl|rfl
  ·exact⟨_,zAG f rfl⟩
  ·exact⟨_,zAG m rfl⟩
  ·exact zAE f 0
  ·exact zAE m 0
  ·intro e;have e2:w3.heap.size=r:=e;omega
  ·intro e;have e2:w3.heap.size+1=r:=e;omega
  ·rfl
  ·rfl)
 have HN:=zh (zEb (R:=⟨l,false⟩) (((ap.o.chg (Chg.alloc w3 (.cells #[.int .i64 0] 3)) (fun e=>e) fun _ _ e=>e).chg (Chg.alloc _ (.cells #[.int .i64 0] 3)) (fun e=>e) fun _ _ e=>e).chg (Chg.alloc _ (.cells #[.pointer (some ⟨w3.heap.size,0,none⟩),.pointer (some ⟨w3.heap.size+1,0,none⟩)] 204)) (fun e=>e) fun _ _ e=>e) (g:=w3.heap.size+2) (c:=2) HP.o (by simp) (fun i a X=>by
  refine zAG ai ?_
  match i,X with
  | 0,X=>cases X;rfl
  | 1,X=>cases X;rfl) (fun e=>by omega) (fun a y e=>by
   simp only[List.mem_cons,List.not_mem_nil,or_false]at y;rcases y with rfl|rfl
   ·have e3:w3.heap.size=w3.heap.size+2:=e;omega
   ·have e3:w3.heap.size+1=w3.heap.size+2:=e;omega) (fun k hk=>⟨by omega,fun a y e=>by
   simp only[List.mem_cons,List.not_mem_nil,or_false]at y;rcases y with rfl|rfl
   ·have e3:k=w3.heap.size:=e;omega
   ·have e3:k=w3.heap.size+1:=e;omega⟩))
 have am:=zW (Below w1.heap.size w1 (((w3.alloc (.cells #[.int .i64 0] 3)).alloc (.cells #[.int .i64 0] 3)).alloc (.cells #[.pointer (some ⟨w3.heap.size,0,none⟩),.pointer (some ⟨w3.heap.size+1,0,none⟩)] 204))) (((z.o.alloc z.o.size (.cells #[.int .i64 0] 3)).alloc (by have:=z.o.size;simp;omega) (.cells #[.int .i64 0] 3)).alloc (by have:=z.o.size;simp;omega) (.cells #[.pointer (some ⟨w3.heap.size,0,none⟩),.pointer (some ⟨w3.heap.size+1,0,none⟩)] 204));have an:=zh (And.intro f (And.intro m (show(((w3.alloc (.cells #[.int .i64 0] 3)).alloc (.cells #[.int .i64 0] 3)).alloc (.cells #[.pointer (some ⟨w3.heap.size,0,none⟩),.pointer (some ⟨w3.heap.size+1,0,none⟩)] 204)).heap.size=w3.heap.size+3 by simp)));clear f m ai E;go_wp2_with fail;refine HN.o.mono ?_;rintro e I ⟨rfl,W,ah,N⟩;have ae:Below w1.heap.size w1 I:=by
  have hs:=z.o.size;have hr:=aa.o.1;refine(((Chg.of_below am.o).mono fun _ _ e=>e.elim:Chg (fun k=>w1.heap.size≤k) w1 _).trans ah fun k _ e=>?_).below (Nat.le_refl _) fun k hk e=>by omega
  rcases e with rfl|⟨a,y,rfl⟩
  ·exact hr
  ·simp only[List.mem_cons,List.not_mem_nil,or_false]at y;rcases y with rfl|rfl
   ·exact hs
   ·show w1.heap.size≤w3.heap.size+1
    omega
 rw[show [(⟨w3.heap.size,0,none⟩:Addr),⟨w3.heap.size+1,0,none⟩].length=2 from rfl,HI.o]at W N;obtain⟨f,m,aw⟩:=an.o;have E:=K.o;have G:I.heap[w3.heap.size]?=some (.cells #[.int .i64 (S:Int)] 3 (0,0)):=by
  rw[N _ (by omega) (by omega)];refine(set_other (w:=World.setCell _ ⟨w3.heap.size,0,none⟩ (.int .i64 (S:Int))) (.int .i64 (b:Int)) (by show w3.heap.size≠w3.heap.size+1;omega)).trans ?_;have:=zAD f 0 (.int .i64 (S:Int));simpa using this
 have s:I.heap[w3.heap.size+1]?=some (.cells #[.int .i64 (b:Int)] 3 (0,0)):=by
  rw[N _ (by omega) (by omega)];have h0:=(set_other (w:=(((w3.alloc (.cells #[.int .i64 0] 3)).alloc (.cells #[.int .i64 0] 3)).alloc (.cells #[.pointer (some ⟨w3.heap.size,0,none⟩),.pointer (some ⟨w3.heap.size+1,0,none⟩)] 204))) (a:=⟨w3.heap.size,0,none⟩) (.int .i64 (S:Int)) (show w3.heap.size+1≠w3.heap.size by omega)).trans m;have:=zAD h0 0 (.int .i64 (b:Int));rw[show(#[Value.int IntKind.i64 0]:Array Value).setIfInBounds 0 (.int .i64 (b:Int))=#[.int .i64 (b:Int)]from rfl]at this;exact this
 have al:=zh ae;have aq:=zh W;have aj:w3.heap.size≠r:=by omega
 have P:w3.heap.size+1≠r:=by omega
 have HQ:=zh (And.intro G (And.intro s (And.intro (And.intro aj P) (show w1.heap.size≤w3.heap.size from z.o.size))));clear W ah N ae f m aw E G s aj P av;generalize w3.heap.size=a at *;obtain⟨G,s,-,au⟩:=HQ.o;have c1:=zAd s;have f1:=zAE s 0;have aA:IntKind.i64.wrap ((b:Int)-1)=(b:Int)-1:=IntWalk.i64_in _ (by omega);have A:(I.setCell ⟨a+1,0,none⟩ (.int .i64 ((b:Int)-1))).heap[a]?=some (.cells #[.int .i64 (S:Int)] 3 (0,0)):=(set_other _ (by show a≠a+1;omega)).trans G;have B:(I.setCell ⟨a+1,0,none⟩ (.int .i64 ((b:Int)-1))).heap[a+1]?=some (.cells #[.int .i64 ((b:Int)-1)] 3 (0,0)):=by
  have:=zAD s 0 (.int .i64 ((b:Int)-1));simpa using this
 have HW:=zh (zDd ((aq.o.at.hd).same (w':=I.setCell ⟨a+1,0,none⟩ (.int .i64 ((b:Int)-1))) (set_other _ (fun e=>HQ.o.2.2.1.2 e.symm))));have C:Below w1.heap.size w1 (I.setCell ⟨a+1,0,none⟩ (.int .i64 ((b:Int)-1))):=(((Chg.of_below al.o).mono fun _ _ e=>e.elim:Chg (fun k=>k=a+1) w1 I).trans (Chg.setCell I ⟨a+1,0,none⟩ _) fun k _ e=>e).below (Nat.le_refl _) fun k hk e=>by omega
 have J:=zh (jmv_calls (H.o.next C) (S:Int) ((b:Int)-1));have ab:=zh (fun(ho:O=none)=>rec_no (o:=O) H.o C ho);have ad:=zh (fun L ho=>rec_trm_ok (o:=O) (H.o.next C) (H.o.same C) (t:=(S:Int)) (v:=(b:Int)-1) L (by omega) ho);have T:=zh (And.intro A B);obtain⟨own,gv,dv,ev,vs,hJ,-⟩:=H.o.next C;have ar:=zh (And.intro hJ.cells (And.intro (hJ.c 5 rfl) (hJ.c 6 rfl)));clear C A B G s au hJ;go_wp2_with fail;clear c1 f1;generalize I.setCell ⟨a+1,0,none⟩ (.int .i64 ((b:Int)-1))=w5 at *;cases Q:R3.whole with
 | false =>
  rw[Q]at HW;have Z:=zh (ab.o (by rw[HM.o,Q];rfl));clear Q;refine HW.o.mono ?_;rintro e w7 ⟨rfl,rfl⟩;go_wp2_with fail;go_ret;exact Z.o
 | true =>
  rw[Q]at HW;refine HW.o.mono ?_;rintro e w7 ⟨rfl,rfl⟩;obtain⟨A,B⟩:=T.o;have d0:=zAd A;have d1:=zAd B;cases L:M.mayVote (S:Int) ((b:Int)-1)with
  | false =>
   rw[L]at J;have Z:=zh (ab.o (by rw[HM.o,Q,L];rfl));clear Q L A B;go_wp2_with fail;refine J.o.mono ?_;rintro e w8 ⟨rfl,rfl⟩;go_wp2_with fail;go_ret;exact Z.o
  | true =>
   rw[L]at J;have Z:=zh (ad.o L (by rw[HM.o,Q,L];rfl));clear Q L A B;go_wp2_with fail;refine J.o.mono ?_;rintro e w8 ⟨rfl,rfl⟩;obtain⟨U,c5,c6⟩:=ar.o;have g5:=zAE U 5;have g6:=zAE U 6;clear U;go_wp2_with fail;go_ret;exact Z.o
end
theorem rdbytes_len (R:Rd):R.bytes.1.length≤R.rest.length:=by
 have h:=zDZ 1 R;rw[show(Rd.ints 1 R).2=R.num.2 from rfl]at h;rw[show R.bytes=R.num.2.raw R.num.1 from rfl];unfold Rd.raw
 split
 ·simp only[List.length_take];omega
 ·exact Nat.zero_le _
theorem grpany_len (R:Rd):(R.grp anyG).1.length≤7:=by
 by_cases h:7<R.num.1
 ·rw[grp_big h];simp
 ·rw[zDY h]
  show(Rd.ints R.num.1 R.num.2).1.length≤7
  rw[zC2];omega
section
variable {w w1 w2:World} {j d:Nat} {pre:ByteArray} {D:zAA} {M:zAH} {F:Nat→Prop}
theorem rec_ent_ok {own own':Nat→Prop}{c dv f ev':Value}{vs vs':List EV}{e:Ent}(_hJ:zBn w1 j d pre own M c dv f vs)(hS:St w w1 d D (fun k=>own k∨F k))(hn:∀k,own k→w.heap.size≤k∧¬F k)(l:∀k,F k→k<w1.heap.size)
  (b:zBn w2 j d pre own' {M with entries:=M.entries++[e] } c dv ev' vs') (hc:Chg own w1 w2) (hx:∀k,own' k→own k∨w1.heap.size≤k) {o:Option zAH} (ho:o=some {M with entries:=M.entries++[e] }):zCF w w1 j d pre D F o (.returned (.bool true)) w2:=by
 obtain⟨g,i⟩:=zAj.turned (D:=D) (F:=F) hS hn l b hc hx;exact rec_yes g i ho
theorem rec_k3 (h:zAj w w1 j d pre D M F){p:Option Addr}{n c:Nat}{l:Bs}(C:zAY w1 (.slice p n c) (3::l))(hl:n≤1073741824) :
  Calls prog 155 #[.pointer (some ⟨j,0,none⟩),.bool false,.slice p n c] w1 (zCF w w1 j d pre D F (zBe false M (3::l))):=by
 obtain⟨i0,cb,cg,ch,ci⟩:=info_parts (show(prog.info? 3).map (fun i=>(i.zero,i.size,i.bytes))=some (some (.int .i64 0),1,8) by kernel_rfl);obtain⟨i4,bO,bw,bx,bz⟩:=info_parts (show(prog.info? 50).map (fun i=>(i.zero,i.size,i.bytes))=some (some (.agg #[.int .i64 0,.int .i64 0,.slice none 0 0,.slice none 0 0]),4,64) by kernel_rfl);have bQ:l.length≤1073741824:=by
  obtain⟨_,_,e⟩:=C.slice;simp only[Value.slice.injEq,List.length_cons]at e;omega
 have ba:=zh (zB4 C (by rw[List.length_cons];omega));have H:=zh h;have HM:=zh (show zBe false M (3::l)=(if((Rd.ints 3 ⟨l,false⟩).2.bytes.2.grp anyG).2.whole∧(Rd.num ⟨l,false⟩).1=M.last+1∧(Rd.num ⟨l,false⟩).1≤1099511627776∧zAt ⟨((Rd.num ⟨l,false⟩).2.num.1:Int),((Rd.num ⟨l,false⟩).2.num.2.num.1:Int),(Rd.ints 3 ⟨l,false⟩).2.bytes.1,((Rd.ints 3 ⟨l,false⟩).2.bytes.2.grp anyG).1⟩then
    some {M with entries:=M.entries++[⟨((Rd.num ⟨l,false⟩).2.num.1:Int),((Rd.num ⟨l,false⟩).2.num.2.num.1:Int),(Rd.ints 3 ⟨l,false⟩).2.bytes.1,((Rd.ints 3 ⟨l,false⟩).2.bytes.2.grp anyG).1⟩] }else none)from rfl)
 have cc:=Rd.num_le ⟨l,false⟩;have cd:=Rd.num_le (Rd.num ⟨l,false⟩).2;have cf:=Rd.num_le (Rd.num ⟨l,false⟩).2.num.2;have HI:=zW (Rd.ints 3 ⟨l,false⟩=([((Rd.num ⟨l,false⟩).1:Int),((Rd.num ⟨l,false⟩).2.num.1:Int),((Rd.num ⟨l,false⟩).2.num.2.num.1:Int)],(Rd.ints 3 ⟨l,false⟩).2)) rfl;have bY:(Rd.ints 3 ⟨l,false⟩).2.bytes.1.length≤1073741824:=Nat.le_trans (rdbytes_len _) (Nat.le_trans (zDZ 3 ⟨l,false⟩) bQ);have ca:=grpany_len (Rd.ints 3 ⟨l,false⟩).2.bytes.2;generalize zBe false M (3::l)=O at *;generalize (Rd.num ⟨l,false⟩).1=U at *;generalize (Rd.num ⟨l,false⟩).2.num.1=E at *;generalize (Rd.num ⟨l,false⟩).2.num.2.num.1=I at *;generalize (Rd.ints 3 ⟨l,false⟩).2=R3 at *;clear h C
 go_enter func155,ntmps155
 go_wp2_with fail;refine ba.o.mono ?_;rintro e w2 ⟨r,rfl,hr,bu,aa,bm⟩;have bF:=zh (zGT hr);have aT:=zh bm;have an:=zh (And.intro bu aa);clear hr bu aa bm;go_wp2_with fail;refine bF.o.mono ?_;rintro e w3 ⟨g,q,rfl,hg,aP,bn⟩;have ab:=zW (Below w1.heap.size w1 w3) (aT.o.trans (bn.below aT.o.size fun i hi e=>by have:=an.o.1;omega));have bG:=zh aP;have aW:=zh aP.lt;have bP:w3.cell? ⟨g,0,none⟩=some (.int .u8 3):=hg;clear aP bn hg;go_wp2_with fail;have aa:=aW.o;have Y:(((w3.alloc (.cells #[.int .i64 0] 3)).alloc (.cells #[.int .i64 0,.int .i64 0,.slice none 0 0,.slice none 0 0] 50)).alloc (.cells #[.pointer (some ⟨w3.heap.size,0,none⟩),.pointer (some ⟨w3.heap.size+1,0,none⟩),.pointer (some ⟨w3.heap.size+1,1,none⟩)] 204)).heap[w3.heap.size]?=some (.cells #[.int .i64 0] 3):=zBA _ (zBA _ (zAJ w3 _));have N:(((w3.alloc (.cells #[.int .i64 0] 3)).alloc (.cells #[.int .i64 0,.int .i64 0,.slice none 0 0,.slice none 0 0] 50)).alloc (.cells #[.pointer (some ⟨w3.heap.size,0,none⟩),.pointer (some ⟨w3.heap.size+1,0,none⟩),.pointer (some ⟨w3.heap.size+1,1,none⟩)] 204)).heap[w3.heap.size+1]?=some (.cells #[.int .i64 0,.int .i64 0,.slice none 0 0,.slice none 0 0] 50):=zBA _ (by have:=zAJ (w3.alloc (.cells #[.int .i64 0] 3)) (.cells #[.int .i64 0,.int .i64 0,.slice none 0 0,.slice none 0 0] 50);simpa using this);have bq:(((w3.alloc (.cells #[.int .i64 0] 3)).alloc (.cells #[.int .i64 0,.int .i64 0,.slice none 0 0,.slice none 0 0] 50)).alloc (.cells #[.pointer (some ⟨w3.heap.size,0,none⟩),.pointer (some ⟨w3.heap.size+1,0,none⟩),.pointer (some ⟨w3.heap.size+1,1,none⟩)] 204)).heap[w3.heap.size+2]?=some (.cells #[.pointer (some ⟨w3.heap.size,0,none⟩),.pointer (some ⟨w3.heap.size+1,0,none⟩),.pointer (some ⟨w3.heap.size+1,1,none⟩)] 204):=by have:=zAJ ((w3.alloc (.cells #[.int .i64 0] 3)).alloc (.cells #[.int .i64 0,.int .i64 0,.slice none 0 0,.slice none 0 0] 50)) (.cells #[.pointer (some ⟨w3.heap.size,0,none⟩),.pointer (some ⟨w3.heap.size+1,0,none⟩),.pointer (some ⟨w3.heap.size+1,1,none⟩)] 204);simpa using this
 have HP:=zW (zDQ (((w3.alloc (.cells #[.int .i64 0] 3)).alloc (.cells #[.int .i64 0,.int .i64 0,.slice none 0 0,.slice none 0 0] 50)).alloc (.cells #[.pointer (some ⟨w3.heap.size,0,none⟩),.pointer (some ⟨w3.heap.size+1,0,none⟩),.pointer (some ⟨w3.heap.size+1,1,none⟩)] 204)) r [⟨w3.heap.size,0,none⟩,⟨w3.heap.size+1,0,none⟩,⟨w3.heap.size+1,1,none⟩]) (by
  refine⟨fun a T=>?_,fun a T=>?_,fun a T=>?_,fun a T=>?_⟩
  all_goals
   simp only[List.mem_cons,List.not_mem_nil,or_false]at T;rcases T with rfl|rfl|rfl
  ·exact⟨_,zAG Y rfl⟩
  ·exact⟨_,zAG N rfl⟩
  ·exact⟨_,zAG N rfl⟩
  ·exact zAE Y 0
  ·exact zAE N 0
  ·exact zAE N 1
  ·intro e;have e2:w3.heap.size=r:=e;omega
  ·intro e;have e2:w3.heap.size+1=r:=e;omega
  ·intro e;have e2:w3.heap.size+1=r:=e;omega
  ·rfl
  ·rfl
  ·rfl)
 have HN:=zh (zEb (R:=⟨l,false⟩) (((bG.o.chg (Chg.alloc w3 (.cells #[.int .i64 0] 3)) (fun e=>e) fun _ _ e=>e).chg (Chg.alloc _ (.cells #[.int .i64 0,.int .i64 0,.slice none 0 0,.slice none 0 0] 50)) (fun e=>e) fun _ _ e=>e).chg (Chg.alloc _ (.cells #[.pointer (some ⟨w3.heap.size,0,none⟩),.pointer (some ⟨w3.heap.size+1,0,none⟩),.pointer (some ⟨w3.heap.size+1,1,none⟩)] 204)) (fun e=>e) fun _ _ e=>e) (g:=w3.heap.size+2) (c:=3) HP.o (by simp) (fun i a hi=>by
  refine zAG bq ?_
  match i,hi with
  | 0,hi=>cases hi;rfl
  | 1,hi=>cases hi;rfl
  | 2,hi=>cases hi;rfl) (fun e=>by omega) (fun a T e=>by
   simp only[List.mem_cons,List.not_mem_nil,or_false]at T;rcases T with rfl|rfl|rfl
   ·have e3:w3.heap.size=w3.heap.size+2:=e;omega
   ·have e3:w3.heap.size+1=w3.heap.size+2:=e;omega
   ·have e3:w3.heap.size+1=w3.heap.size+2:=e;omega) (fun k s=>⟨by omega,fun a T e=>by
   simp only[List.mem_cons,List.not_mem_nil,or_false]at T;rcases T with rfl|rfl|rfl
   ·have e3:k=w3.heap.size:=e;omega
   ·have e3:k=w3.heap.size+1:=e;omega
   ·have e3:k=w3.heap.size+1:=e;omega⟩))
 have bB:=zW (Below w1.heap.size w1 (((w3.alloc (.cells #[.int .i64 0] 3)).alloc (.cells #[.int .i64 0,.int .i64 0,.slice none 0 0,.slice none 0 0] 50)).alloc (.cells #[.pointer (some ⟨w3.heap.size,0,none⟩),.pointer (some ⟨w3.heap.size+1,0,none⟩),.pointer (some ⟨w3.heap.size+1,1,none⟩)] 204))) (((ab.o.alloc ab.o.size (.cells #[.int .i64 0] 3)).alloc (by have:=ab.o.size;simp;omega) (.cells #[.int .i64 0,.int .i64 0,.slice none 0 0,.slice none 0 0] 50)).alloc (by have:=ab.o.size;simp;omega) (.cells #[.pointer (some ⟨w3.heap.size,0,none⟩),.pointer (some ⟨w3.heap.size+1,0,none⟩),.pointer (some ⟨w3.heap.size+1,1,none⟩)] 204));have bD:=zh (And.intro Y (And.intro N (show(((w3.alloc (.cells #[.int .i64 0] 3)).alloc (.cells #[.int .i64 0,.int .i64 0,.slice none 0 0,.slice none 0 0] 50)).alloc (.cells #[.pointer (some ⟨w3.heap.size,0,none⟩),.pointer (some ⟨w3.heap.size+1,0,none⟩),.pointer (some ⟨w3.heap.size+1,1,none⟩)] 204)).heap.size=w3.heap.size+3 by simp)));clear Y N bq aa;go_wp2_with fail;refine HN.o.mono ?_;rintro e w4 ⟨rfl,aQ,bo,av⟩;have be:Below w1.heap.size w1 w4:=by
  have hs:=ab.o.size;have hr:=an.o.1;refine(((Chg.of_below bB.o).mono fun _ _ e=>e.elim:Chg (fun k=>w1.heap.size≤k) w1 _).trans bo fun k _ e=>?_).below (Nat.le_refl _) fun k s e=>by omega
  rcases e with rfl|⟨a,T,rfl⟩
  ·exact hr
  ·simp only[List.mem_cons,List.not_mem_nil,or_false]at T;rcases T with rfl|rfl|rfl
   ·exact hs
   ·show w1.heap.size≤w3.heap.size+1
    omega
   ·show w1.heap.size≤w3.heap.size+1
    omega
 rw[show([⟨w3.heap.size,0,none⟩,⟨w3.heap.size+1,0,none⟩,⟨w3.heap.size+1,1,none⟩]:List Addr).length=3 from rfl,HI.o]at aQ av;obtain⟨Y,N,bS⟩:=bD.o;have aa:=aW.o;have S:w4.heap[w3.heap.size]?=some (.cells #[.int .i64 (U:Int)] 3 (0,0)):=by
  rw[av _ (by omega) (by omega)];refine(set_other (w:=World.setCell _ ⟨w3.heap.size+1,0,none⟩ (.int .i64 (E:Int))) (.int .i64 (I:Int)) (by show w3.heap.size≠w3.heap.size+1;omega)).trans ?_;refine(set_other (w:=World.setCell _ ⟨w3.heap.size,0,none⟩ (.int .i64 (U:Int))) (.int .i64 (E:Int)) (by show w3.heap.size≠w3.heap.size+1;omega)).trans ?_;have:=zAD Y 0 (.int .i64 (U:Int));simpa using this
 have y:w4.heap[w3.heap.size+1]?=some (.cells #[.int .i64 (E:Int),.int .i64 (I:Int),(.slice none 0 0),(.slice none 0 0)] 50 (0,0)):=by
  rw[av _ (by omega) (by omega)];have h0:=(set_other (w:=(((w3.alloc (.cells #[.int .i64 0] 3)).alloc (.cells #[.int .i64 0,.int .i64 0,.slice none 0 0,.slice none 0 0] 50)).alloc (.cells #[.pointer (some ⟨w3.heap.size,0,none⟩),.pointer (some ⟨w3.heap.size+1,0,none⟩),.pointer (some ⟨w3.heap.size+1,1,none⟩)] 204))) (a:=⟨w3.heap.size,0,none⟩) (.int .i64 (U:Int)) (show w3.heap.size+1≠w3.heap.size by omega)).trans N;have h1:=zAD h0 0 (.int .i64 (E:Int));have h2:=zAD h1 1 (.int .i64 (I:Int));rw[show((#[Value.int IntKind.i64 0,.int .i64 0,.slice none 0 0,.slice none 0 0]:Array Value).setIfInBounds 0 (.int .i64 (E:Int))).setIfInBounds 1 (.int .i64 (I:Int))=#[.int .i64 (E:Int),.int .i64 (I:Int),.slice none 0 0,.slice none 0 0]from rfl]at h2;exact h2
 have aF:=zh be;have bR:w3.heap.size≠r:=by omega
 have aB:w3.heap.size+1≠r:=by omega
 have aD:r<w3.heap.size:=aa;have bp:w1.heap.size≤w3.heap.size:=ab.o.size;have bC:=zh (zGS aQ);clear aQ bo av be Y N bS aa bP;generalize w3.heap.size=a at *;have HS:=zh (And.intro aB (And.intro aD bp));clear bR aB aD bp;have X:=zh (And.intro S y);clear S y;go_wp2_with fail;refine bC.o.mono ?_;rintro e w5 ⟨v5,rfl,aw,aN,aR,ar⟩;have bf:Below w1.heap.size w1 w5:=aF.o.trans (ar.below aF.o.size fun k s e=>by have:=an.o.1;omega);have S:=(ar.block a (zAB X.o.1) (by have:=HS.o.2.1;omega)).trans X.o.1;have y:=(ar.block (a+1) (zAB X.o.2) (fun e=>HS.o.1 e)).trans X.o.2;have bA:=zh bf;have bH:=zW (∀k,v5.ownBlock=some k→k≠r) (fun k s e=>by
  have h1:=aN k s;have h3:=zAB X.o.1;have h4:=HS.o.2.1;omega)
 have ae:=zh (And.intro aw (show ∀k,v5.ownBlock=some k→w1.heap.size≤k∧k≠a∧k≠a+1 from fun k s=>by
  have h1:=aN k s;have h2:=aF.o.size;have h3:=zAB X.o.1;have h4:=zAB X.o.2;exact⟨by omega,by omega,by omega⟩))
 generalize bX:R3.bytes.1=b at *;generalize R3.bytes.2=R4 at *;obtain⟨z,t,e5,-⟩:=zAN aw;subst e5;have c2:=zAo y;have f2:=zAE y 2;have h6:=zAD y 2 (.slice z b.length t);rw[show(#[Value.int IntKind.i64 (E:Int),.int .i64 (I:Int),.slice none 0 0,.slice none 0 0]:Array Value).setIfInBounds 2 (.slice z b.length t)=#[.int .i64 (E:Int),.int .i64 (I:Int),(.slice z b.length t),.slice none 0 0]from rfl]at h6;have bc:(w5.setCell ⟨a+1,2,none⟩ (.slice z b.length t)).heap[a]?=some (.cells #[.int .i64 (U:Int)] 3 (0,0)):=(set_other _ (by show a≠a+1;omega)).trans S;have ac:=zh (And.intro bc h6);have HG:=zh (readGrp_any (A:=fun k=>w1.heap.size≤k∧k<r) (w:=w5.setCell ⟨a+1,2,none⟩ (.slice z b.length t)) (aR.chg (Chg.setCell w5 ⟨a+1,2,none⟩ (.slice z b.length t)) (fun e=>HS.o.1 (show r=a+1 from e).symm) fun k s e=>by have:=HS.o.2.1;have e2:k=a+1:=e;omega) (fun k s=>⟨Nat.lt_of_lt_of_le (show k<w5.heap.size by have:=aR.lt;omega) (Chg.setCell w5 ⟨a+1,2,none⟩ (.slice z b.length t)).size,by omega⟩));have ag:=zW (Below w1.heap.size w1 (w5.setCell ⟨a+1,2,none⟩ (.slice z b.length t))) ((((Chg.of_below bA.o).mono fun _ _ e=>e.elim:Chg (fun k=>k=a+1) w1 w5).trans (Chg.setCell w5 ⟨a+1,2,none⟩ _) fun k _ e=>e).below (Nat.le_refl _) fun k s e=>by have:=HS.o.2.2;omega);have ay:=zW (zAk (w5.setCell ⟨a+1,2,none⟩ (.slice z b.length t)) 5 (.slice z b.length t) b) (OwnR.keep aw fun k s=>set_other _ fun e=>(ae.o.2 k s).2.2 e);clear aw aN aR ar bf S y h6 bc;go_wp2_with fail;clear c2 f2;generalize w5.setCell ⟨a+1,2,none⟩ (.slice z b.length t)=cj at *;refine HG.o.mono ?_;rintro e w6 ⟨v6,rfl,aS,aO,bt,ai⟩;have bg:Below w1.heap.size w1 w6:=ag.out.trans (ai.below ag.out.size fun k s e=>by have:=an.o.1;omega);have S:=(ai.block a (zAB ac.o.1) (by have:=HS.o.2.1;omega)).trans ac.o.1;have y:=(ai.block (a+1) (zAB ac.o.2) (fun e=>HS.o.1 e)).trans ac.o.2;have aE:zAk w6 5 (.slice z b.length t) b:=OwnR.keep ay.out fun k s=>ai.block k (OwnR.lt ay.out s) fun e=>by
  have h1:=aO;have h2:=ae.o.2 k s;have h3:=HS.o.2.1;have h4:=ae.o.2 k s;have h5:=bH.o k s;exact h5 e
 have aG:=zW (∀k,v6.ownBlock=some k→w1.heap.size≤k∧k≠a∧k≠a+1) (fun k s=>by
  have h1:=aO k s;have h2:=ag.out.size;have h3:=zAB ac.o.1;have h4:=zAB ac.o.2;exact⟨by omega,by omega,by omega⟩)
 generalize (R4.grp anyG).1=B at *;generalize (R4.grp anyG).2=R5 at *;obtain⟨P,J,e6,-⟩:=zAw aS;subst e6;have c3:=zBI y;have f3:=zAE y 3;have h7:=zAD y 3 (.slice P B.length J);rw[show(#[Value.int IntKind.i64 (E:Int),.int .i64 (I:Int),(.slice z b.length t),.slice none 0 0]:Array Value).setIfInBounds 3 (.slice P B.length J)=#[.int .i64 (E:Int),.int .i64 (I:Int),(.slice z b.length t),(.slice P B.length J)]from rfl]at h7;have bd:(w6.setCell ⟨a+1,3,none⟩ (.slice P B.length J)).heap[a]?=some (.cells #[.int .i64 (U:Int)] 3 (0,0)):=(set_other _ (by show a≠a+1;omega)).trans S;have bh:Below w1.heap.size w1 (w6.setCell ⟨a+1,3,none⟩ (.slice P B.length J)):=(((Chg.of_below bg).mono fun _ _ e=>e.elim:Chg (fun k=>k=a+1) w1 w6).trans (Chg.setCell w6 ⟨a+1,3,none⟩ _) fun k _ e=>e).below (Nat.le_refl _) fun k s e=>by have:=HS.o.2.2;omega
 have bE:=zh (And.intro bd h7);have aU:=zh bh;have bJ:=zh ((bt.at.hd).same (w':=w6.setCell ⟨a+1,3,none⟩ (.slice P B.length J)) (set_other _ fun e=>HS.o.1 (show r=a+1 from e).symm));have bI:=zW (zDg (w6.setCell ⟨a+1,3,none⟩ (.slice P B.length J)) (⟨(E:Int),(I:Int),b,B⟩:Ent) ((.slice z b.length t),(.slice P B.length J))) (⟨OwnR.keep aE fun k s=>set_other _ fun e=>(ae.o.2 k s).2.2 e,OwnR.keep aS fun k s=>set_other _ fun e=>(aG.o k s).2.2 e⟩);clear aS aE aO bt ai bg S y h7 bd bh;go_wp2_with fail;clear c3 f3;generalize w6.setCell ⟨a+1,3,none⟩ (.slice P B.length J)=af at *;have bK:=zh (zCr (H.o.next aU.o));refine bK.o.mono ?_;rintro e w7 ⟨rfl,q,rfl⟩;have V:=zW (Below w1.heap.size w1 (af.drewN q)) (aU.o.trans ⟨rfl,rfl,rfl,Nat.le_refl _,fun _ _=>rfl⟩);have HW:=zh (zDd (bJ.o.same (w':=af.drewN q) rfl));have ap:(af.drewN q).heap[a]?=some (.cells #[.int .i64 (U:Int)] 3 (0,0))∧(af.drewN q).heap[a+1]?=some (.cells #[.int .i64 (E:Int),.int .i64 (I:Int),(.slice z b.length t),(.slice P B.length J)] 50 (0,0)):=bE.o;have HU:=zW (zDg (af.drewN q) (⟨(E:Int),(I:Int),b,B⟩:Ent) ((.slice z b.length t),(.slice P B.length J))) (bI.o.keep fun _ _=>rfl);generalize af.drewN q=w7 at *;have ad:=zh ap;have ao:=zh (fun w8 (hb:Below w1.heap.size w1 w8) (ho:O=none)=>rec_no (o:=O) H.o hb ho);have aM:=H.o.okM.last;cases hw:R5.whole with
 | false =>
  rw[hw]at HW;have HE:=zh (ao.o w7 V.o (by rw[HM.o,hw,if_neg (by simp)]));clear hw ap;go_wp2_with fail;refine HW.o.mono ?_;rintro e w8 ⟨rfl,rfl⟩;go_wp2_with fail;go_ret;exact HE.o
 | true =>
  rw[hw]at HW;have Hw:=zh hw;have q0:=zAd ap.1;have bT:IntKind.i64.wrap ((M.last:Int)+1)=(M.last:Int)+1:=IntWalk.i64_in _ (by omega);clear hw ap
  by_cases h1:U=M.last+1
  ·by_cases h2:U≤1099511627776
   ·have d1:((U:Int) != (M.last:Int)+1)=false:=by simp;omega
    have d2:decide ((1099511627776:Int)<(U:Int))=false:=by simp;omega
    have bL:decide (1099511627776<U)=false:=by simp;omega
    have e0:=zAd ad.o.2;have e1:=zAn ad.o.2;have e2:=zAo ad.o.2;have e3:=zBI ad.o.2;have az:=zh (isone_calls (HU.o.has (show b.length≤1099511627776 by omega) (show B.length≤1099511627776 by omega)));unfold zDx at az;have am:=zh (And.intro h1 h2);clear h1 h2;go_wp2_with fail;refine HW.o.mono ?_;rintro e w8 ⟨rfl,rfl⟩;go_wp2_with fail;refine az.o.mono ?_;rintro e w9 ⟨rfl,G⟩;have bV:=zh G;cases au:zAt (⟨(E:Int),(I:Int),b,B⟩:Ent)with
    | false =>
     have HE:=zh (ao.o w9 (V.o.trans (G.mono V.o.size)) (by rw[HM.o,au,if_neg (by simp)]));clear au G;go_wp2_with fail;go_ret;exact HE.o
    | true =>
     have aZ:=zh au;have h9:=G;obtain⟨own,gv,dv,ev,us,hJ,hS,al,aj⟩:=H.o;have ah:=V.o.trans (h9.mono V.o.size);have Q:=hJ.below ah;obtain⟨pe,ce,rfl⟩:=hJ.row.shape;have c8:=Q.c 8 rfl;have aK:=(h9.block (a+1) (zAB ad.o.2)).trans ad.o.2;have HJ:=zh (And.intro hJ (And.intro hS (And.intro al aj)));have ax:=zh ah;have br:M.entries.length≤M.last:=by unfold zAH.last;omega
     have bU:=zh aK;have aX:=zh (HU.o.keep fun k s=>h9.block k (HU.o.lt s));have aC:M.last+1≤1099511627776:=by have:=am.o.1;have:=am.o.2;omega
     have aH:=zh (And.intro br aC);have Hm:=zW (M.entries.length=M.entries.length) rfl;clear au G hJ hS al aj ah Q h9 e0 e1 e2 e3 q0 br aC bT aM;generalize bs:M.entries.length=m at *;clear Hm;have Hm:=zh bs;clear bs;go_wp2_with fail;refine zDX [10] (fun w':World=>w'.cell? ⟨j,8,none⟩=some (.slice pe m ce)∧w'.heap[a+1]?=some (.cells #[.int .i64 (E:Int),.int .i64 (I:Int),(.slice z b.length t),(.slice P B.length J)] 50 (0,0))) (n:=11) (by kernel_rfl) rfl (⟨c8,aK⟩) fun f=>?_;have aV:=zW (Below w9.heap.size w9 w9.drew) (⟨rfl,rfl,rfl,by simp,fun _ _=>rfl⟩);clear c8 aK;generalize bW:w9.drew=Wd at *;refine Gl [0,1,2,3] ?_
     iterate 4 (refine Gp rfl ?_;simp only[uZ])
     refine Gn ?_;refine gtk 4 (v:=?v23x4) rfl ?_;simp only[uZ];refine zEz 5 (v:=.agg #[.int .i64 (E:Int),.int .i64 (I:Int),(.slice z b.length t),(.slice P B.length J)]) rfl (by kernel_rfl) (by kernel_rfl) (by kernel_rfl) (by kernel_rfl) (fun _ _ _ h=>h) (by rfl) (by assumption) (fun W aq=>by have q0:=zAd aq.2;have q1:=zAn aq.2;have q2:=zAo aq.2;have q3:=zBI aq.2;go_simp;try with_reducible rfl) ?_;simp only[uZ];refine zEP 6 rfl (by kernel_rfl) (by rfl) (fun K hK=>?_);have aY:=zh (And.intro (zBX f.1 (.cells #[.int .i64 (E:Int),.int .i64 (I:Int),(.slice z b.length t),(.slice P B.length J)] 50 (0,0))) ((zDU _ (.cells #[.int .i64 (E:Int),.int .i64 (I:Int),(.slice z b.length t),(.slice P B.length J)] 50 (0,0)) (zAB f.2)).trans f.2));go_wp2_with fail;refine hK.o _ _ (aY.o) fun f=>?_;clear hK
     try simp only[uZ]
     refine zEP 7 rfl (by kernel_rfl) (by rfl) (fun K hK=>?_);obtain⟨hJ,hS,al,aj⟩:=HJ.o;have G:=ax.o.trans (aV.o.mono ax.o.size);have Q:=hJ.below G;have bl:=aX.o.keep fun k s=>aV.o.block k (aX.o.lt s);have aL:=zAC Wd (.cells #[.int .i64 (E:Int),.int .i64 (I:Int),(.slice z b.length t),(.slice P B.length J)] 50 (0,0));have aJ:=(Q.below aL).row;rw[Hm.o]at aJ;have bv:zAM (Wd.alloc (.cells #[.int .i64 (E:Int),.int .i64 (I:Int),(.slice z b.length t),(.slice P B.length J)] 50 (0,0))) 4 (.slice (some ⟨Wd.heap.size,0,none⟩) 1 1) 1 (zEm (⟨(E:Int),(I:Int),b,B⟩:Ent) ((.slice z b.length t),(.slice P B.length J))):=⟨rfl,some ⟨Wd.heap.size,0,none⟩,1,rfl,fun e=>(by cases e),fun a T i u hu=>by
      cases T;rw[add_zero];refine zAG (zAJ Wd _) ?_;simpa[zEm]using hu⟩
     refine zAq (.tmp 137) (.tmp 139) 78 rfl 50 i4 (.agg #[.int .i64 0,.int .i64 0,.slice none 0 0,.slice none 0 0]) 4 64 underlying78 bO bw bx bz rfl (by decide) _ m _ rfl aJ (.slice (some ⟨Wd.heap.size,0,none⟩) 1 1) 1 _ rfl bv (by simp[zEm,Value.oneCell']) (by unfold maxLen;have:=aH.o;omega) (by have:=aH.o;omega) ?_;intro v3 w3 Z L ak;obtain⟨bi,bj,bk,aI⟩:=jouIn_push Q bl (fun x C ho=>by
      have h2:=hJ.olt x ho;rcases C with C|C
      ·have:=(ae.o.2 x C).1;omega
      ·have:=(aG.o x C).1;omega) aZ.o aH.o.2 aL (by rw[Hm.o];exact Z) L ak
     have HE:=zh (rec_ent_ok (o:=O) hJ hS al aj bi (((Chg.of_below G).mono fun _ _ h=>h.elim).trans bj fun _ _ h=>h) (fun x C=>by
      rcases C with C|C|C
      ·exact .inl C
      ·rcases C with C|C
       ·exact .inr (ae.o.2 x C).1
       ·exact .inr (aG.o x C).1
      ·exact(bk x C).imp id fun h=>Nat.le_trans G.size h) (by rw[HM.o,if_pos ⟨Hw.o,am.o.1,am.o.2,aZ.o⟩]))
     have aA:∀x,(Value.slice pe m ce).ownBlock=some x→x≠a+1:=fun x C e=>by have:=hJ.olt x (hJ.oe x C).1;have:=HS.o.2.2;omega
     have bN:w3.cell? ⟨j,8,none⟩=some (.slice pe m ce):=zAG (aI.trans Q.cells) (i:=8) rfl;have bZ:w3.frozen? ⟨j,8,none⟩=false:=zAE (aI.trans Q.cells) 8;have bM:w3.heap[a+1]?=some (.cells #[.int .i64 (E:Int),.int .i64 (I:Int),(.slice z b.length t),(.slice P B.length J)] 50 (0,0)):=(L.block _ (zAB f.2) fun e=>aA _ e.symm rfl).trans f.2;obtain⟨p3,q3,rfl⟩:=OwnR.shape Z;clear hJ hS al aj Q aL aJ bv Z L ak bi bj bk aI aA G bl;refine hK.o _ _ ⟨bN,bM⟩ fun f=>?_;clear hK
     try simp only[uZ]
     refine Gl [8,9] ?_
     iterate 2 (refine Gp rfl ?_;simp only[uZ])
     refine Gn ?_;refine g_end 10 rfl (by kernel_rfl) (by rfl) (by kernel_rfl) (fun K hK=>?_);go_wp2_with fail;refine hK.o _ _ ?_;clear hK
     try simp only[uZ]
     refine zEy (by kernel_rfl) ?_ _;go_wp2_with fail;go_ret;exact HE.o
   ·have d2:decide ((1099511627776:Int)<(U:Int))=true:=by simp;omega
    have bL:decide (1099511627776<U)=true:=by simp;omega
    have d1:((U:Int) != (M.last:Int)+1)=false:=by simp;omega
    have HE:=zh (ao.o w7 V.o (by rw[HM.o,if_neg (fun e=>h2 e.2.2.1)]));clear h1 h2;go_wp2_with fail;refine HW.o.mono ?_;rintro e w8 ⟨rfl,rfl⟩;go_wp2_with fail;go_ret;exact HE.o
  ·have d1:((U:Int) != (M.last:Int)+1)=true:=by simp;omega
   have HE:=zh (ao.o w7 V.o (by rw[HM.o,if_neg (fun e=>h1 e.2.1)]));clear h1;go_wp2_with fail;refine HW.o.mono ?_;rintro e w8 ⟨rfl,rfl⟩;go_wp2_with fail;go_ret;exact HE.o
end
section
variable {w w1 w2:World} {j d:Nat} {pre:ByteArray} {D:zAA} {M:zAH} {F:Nat→Prop}
theorem record_calls (h:zAj w w1 j d pre D M F)(f:Bool)(t:f=true→M.entries=[]){p:Option Addr}{n c:Nat}{b:Bs}(g:zAY w1 (.slice p n c) b)(o:b.length≤1073741824) :
  Calls prog 155 #[.pointer (some ⟨j,0,none⟩),.bool f,.slice p n c] w1 (zCF w w1 j d pre D F (zBe f M b)):=by
 have hn:n=b.length:=by
  obtain⟨_,_,e⟩:=g.slice;simp only[Value.slice.injEq]at e;exact e.2.1
 subst hn;cases b with
 | nil=>exact rec_nil h f g
 | cons k l =>
  by_cases i:f≠decide (k=1)
  ·exact rec_else h g o (.inl i)
  ·have i:f=decide (k=1):=by simpa using i
   by_cases m:k=1
   ·subst m;rw[i];exact rec_k1 h g o (t (by rw[i];rfl))
   ·rw[decide_eq_false m]at i;subst i
    by_cases q:k=2
    ·subst q;exact rec_k2 h g o
    ·by_cases r:k=3
     ·subst r;exact rec_k3 h g o
     ·by_cases s:k=4
      ·subst s;exact rec_k4 h g o
      ·exact rec_else h g o (.inr ⟨m,q,r,s⟩)
end
end Go.Proofs.YtapfnehdgailmaaGreat
