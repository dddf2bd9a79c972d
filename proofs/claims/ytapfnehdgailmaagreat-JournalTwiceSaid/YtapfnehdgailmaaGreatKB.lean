/- What the program's functions and the document's do, and plain laws, for PJournalTwice. -/
import Derived.Lib.SlBytesConst
import Derived.Test.YtapfnehdgailmaaGreatKA
open Go.Proofs.Tryz
set_option maxRecDepth 100000
set_option maxHeartbeats 64000000
namespace Go.Sat
theorem put_same {α:Type}{L:List (Bs×α)}(h:Srt L){n:Bs}{a:α}(c:get n L=some a):put n a L=L :=
 srt_ext (zBq h) h fun m=>by
  by_cases b:m=n
  ·subst b;rw[zBN h,c]
  ·rw[zBM h a b]
theorem dm_mp {H α:Type}(g:α→DataW H)(f:α→Nat)(d:∀a b,f a=f b→g a=g b){L M:List (Bs×α)}(h:mp f L=mp f M):dm g L=dm g M:=by
 have:∀L M:List (Bs×α),mp f L=mp f M→L.map (fun p=>(Lit.string p.1,g p.2))=M.map (fun p=>(Lit.string p.1,g p.2)):=by
  intro L
  induction L with
  | nil =>
   intro M c;cases M with
   | nil=>rfl
   | cons y s=>simp[mp]at c
  | cons x r ih =>
   intro M c;cases M with
   | nil=>simp[mp]at c
   | cons y s =>
    simp only[mp,List.map_cons,List.cons.injEq,Prod.mk.injEq]at c;obtain⟨⟨i,j⟩,k⟩:=c;simp only[List.map_cons];rw[ih s k,i,d _ _ j]
 unfold dm;rw[this L M h]
end Go.Sat
namespace Go.Proofs.YtapfnehdgailmaaGreat
open Go.RowKit Go.Sat Go.Maps
theorem fbD_of {a b:zCA}(h:a.fb=b.fb):fbD a=fbD b:=by simp[fbD,h]
section
variable {w:World} {d m:Nat} {left:Int} {L:List (Bs×zCA)} {own:Own} {D:zAA}
theorem zAa.fileAt (h:zAa w d m left L own D){n:Bs}{r:zCA}(b:Sat.get n L=some r):FileAt w own n r:=h.file _ (zBu b)
theorem zAa.ne_of (_h:zAa w d m left L own D){j k:Nat}{s t:Nat×Bs}(c:own j=some s)(f:own k=some t)(b:s≠t):j≠k:=fun e=>by
 rw[e,f]at c;exact b (Option.some.inj c).symm
theorem zAa.upd (h:zAa w d m left L own D){n:Bs}{r:zCA}(H:Sat.get n L=some r){w':World}{v':Value}{f':zAT}
  (P:w.heap.size≤w'.heap.size) (M:∀k,k<w.heap.size→k≠r.fb→some k≠r.v.ownBlock→w'.heap[k]?=w.heap[k]?)
  (N:w'.heap[r.fb]?=some (.cells #[v',.int .i64 (f'.lasts:Int)] 123 (0,0))) (q:zAj w' 5 v' f'.data)
  (o:∀g,v'.ownBlock=some g→r.v.ownBlock=some g∨w.heap.size≤g) (C:zAA.OK {D with files:=put n f' D.files}) :
  ∃own',zAa w' d m left (put n ⟨r.fb,v',f'⟩ L) own' {D with files:=put n f' D.files}∧Ext w own own':=by
 have a:=h.fileAt H;have F:∀g,v'.ownBlock=some g→own g=some (3,n)∨own g=none:=fun g b=>by
  rcases o g b with l|l
  ·exact .inl (a.og g l)
  ·cases z:own g with
   | none=>exact .inr rfl
   | some t=>have:=h.olt g t z;omega
 have A:∀g,v'.ownBlock=some g→g<w'.heap.size:=fun g b=>OwnR.lt q b;refine⟨fun k=>if v'.ownBlock=some k then some (3,n)else own k,?_,fun k i z=>?_⟩
 ·have f:∀k t,own k=some t→t≠(2,n)→t≠(3,n)→w'.heap[k]?=w.heap[k]?:=fun k t i J B =>
   M k (h.olt k t i) (fun e=>J (by rw[e,a.ob]at i;exact(Option.some.inj i).symm)) (fun e=>B (by rw[a.og k e.symm]at i;exact(Option.some.inj i).symm))
  have c:∀k t,own k=some t→t≠(3,n)→(if v'.ownBlock=some k then some (3,n)else own k)=some t:=fun k t i B=>by
   rw[if_neg fun e=>?_,i];rcases F k e with l|l
   ·rw[i]at l;exact B (Option.some.inj l)
   ·rw[i]at l;cases l
  refine⟨(f d _ h.od (by simp) (by simp)).trans h.cells,h.left,?_,?_,zBq h.srt,?_,c d _ h.od (by simp),c m _ h.om (by simp),?_,C⟩
  ·have G:mp zCA.fb (put n ⟨r.fb,v',f'⟩ L)=mp zCA.fb L:=by
    rw[mp_put];exact put_same (mp_srt h.srt) (by rw[zGP,H];rfl)
   have I:(put n (⟨r.fb,v',f'⟩:zCA) L).length=L.length:=by rw[←mp_len zCA.fb,G,mp_len]
   rw[dm_mp fbD zCA.fb (fun _ _=>fbD_of) G,I];obtain⟨es,s,O,rest⟩:=h.map;exact⟨es,s,(f m _ h.om (by simp) (by simp)).trans O,rest⟩
  ·rw[mp_put,←h.files]
  ·intro p E;rcases zBk.1 E with rfl|⟨E,y⟩
   ·refine⟨N,c _ _ a.ob (by simp),q,fun g b=>?_⟩
    show(if v'.ownBlock=some g then some (3,n)else own g)=some (3,n)
    rw[if_pos b]
   ·have j:=h.file p E;refine⟨(f _ _ j.ob (by simpa using y) (by simp)).trans j.cells,c _ _ j.ob (by simp),j.row.keep fun g b=>f g _ (j.og g b) (by simp) (by simpa using y),fun g b=>c _ _ (j.og g b) (by simpa using y)⟩
  ·intro k t i
   split at i
   ·rename_i e
    exact A k e
   ·exact Nat.lt_of_lt_of_le (h.olt k t i) P
 ·show(if v'.ownBlock=some k then some (3,n)else own k)=none
  rw[if_neg fun e=>?_,z];rcases o k e with l|l
  ·rw[a.og k l]at z;cases z
  ·omega
theorem zAa.add (h:zAa w d m left L own D){n:Bs}(_hg:Sat.get n L=none){w':World}{r:zCA}(I:w.heap.size≤w'.heap.size)(F:∀k,k<w.heap.size→k≠m→w'.heap[k]?=w.heap[k]?)
  (G:∃q,w'.ownsMap prog 9 ptrR m q ((dm fbD L).put (.string n) (fbD r)))
  (B:w'.heap[r.fb]?=some (.cells #[r.v,.int .i64 (r.f.lasts:Int)] 123 (0,0))) (hn:w.heap.size≤r.fb) (o:zAj w' 5 r.v r.f.data) (A:∀g,r.v.ownBlock=some g→w.heap.size≤g∧g≠r.fb)
  (z:zAA.OK {D with files:=put n r.f D.files}) :
  ∃own',zAa w' d m left (put n r L) own' {D with files:=put n r.f D.files}∧Ext w own own':=by
 have s:∀k,w.heap.size≤k→own k=none:=fun k j=>by
  cases y:own k with
  | none=>rfl
  | some t=>have:=h.olt k t y;omega
 refine⟨fun k=>if k=r.fb then some (2,n)else if r.v.ownBlock=some k then some (3,n)else own k,?_,fun k j y=>?_⟩
 ·have b:∀k t,own k=some t→(if k=r.fb then some (2,n)else if r.v.ownBlock=some k then some (3,n)else own k)=some t:=fun k t j=>by
   have:=h.olt k t j;rw[if_neg (by omega),if_neg (fun e=>by have:=(A k e).1;omega),j]
  have l:∀k t,own k=some t→t≠(1,[])→w'.heap[k]?=w.heap[k]?:=fun k t j E=>F k (h.olt k t j) fun e=>E (by rw[e,h.om]at j;exact(Option.some.inj j).symm);refine⟨(l d _ h.od (by simp)).trans h.cells,h.left,?_,?_,zBq h.srt,?_,b d _ h.od,b m _ h.om,?_,z⟩
  ·obtain⟨q,C⟩:=G;rw[dm_put]at C;have:=exactly C;rwa[dm_size]at this
  ·rw[mp_put,←h.files]
  ·intro p a;rcases zBk.1 a with rfl|⟨a,H⟩
   ·refine⟨B,by simp,o,fun g c=>?_⟩
    show(if g=r.fb then some (2,n)else if r.v.ownBlock=some g then some (3,n)else own g)=some (3,n)
    rw[if_neg (A g c).2,if_pos c]
   ·have i:=h.file p a;exact⟨(l _ _ i.ob (by simp)).trans i.cells,b _ _ i.ob,i.row.keep fun g c=>l g _ (i.og g c) (by simp),fun g c=>b _ _ (i.og g c)⟩
  ·intro k t j
   split at j
   ·rename_i e
    rw[e];exact zAB B
   ·split at j
    ·rename_i e
     exact OwnR.lt o e
    ·exact Nat.lt_of_lt_of_le (h.olt k t j) I
 ·show(if k=r.fb then some (2,n)else if r.v.ownBlock=some k then some (3,n)else own k)=none
  rw[if_neg (by omega),if_neg (fun e=>by have:=(A k e).1;omega),y]
theorem zAa.remap (h:zAa w d m left L own D){w':World}{L':List (Bs×zCA)}{D':zAA}(S:w.heap.size≤w'.heap.size)(Q:∀k,k<w.heap.size→k≠m→w'.heap[k]?=w.heap[k]?)
  (R:∃q,w'.ownsMap prog 9 ptrR m q (dm fbD L')) (P:Srt L') (z:D'.room=D.room) (c:D'.fuse=D.fuse) (j:D'.files=mp zCA.f L') (J:D'.OK)
  (o:∀p∈L',∃q∈L,q.2=p.2) (B:∀p∈L',∀q∈L',p.2.fb=q.2.fb→p=q) :
  ∃own',zAa w' d m left L' own' D'∧Ext w own own':=by
 classical
 -- a name for each block that a file of L' has
 let nameOf:Bs→Option Bs:=fun n=>(L'.find? fun p=>L.any fun q=>decide (q.1=n∧q.2.fb=p.2.fb)).map (·.1)
 have E:∀p∈L',∀q∈L,q.2=p.2→nameOf q.1=some p.1:=by
  intro p C q v e;have I:∃y,(L'.find? fun p=>L.any fun A=>decide (A.1=q.1∧A.2.fb=p.2.fb))=some y:=by
   rw[←Option.isSome_iff_exists,List.find?_isSome];exact⟨p,C,List.any_eq_true.2 ⟨q,v,by simp[e]⟩⟩
  obtain⟨y,N⟩:=I;have H:=List.find?_some N;have O:=List.mem_of_find?_eq_some N;obtain⟨A,b,G⟩:=List.any_eq_true.1 H;simp only[decide_eq_true_eq]at G;have M:A=q:=zGN h.srt b v G.1;have:y=p:=B y O p C (by rw[←G.2,M,e])
  show(L'.find? fun p=>L.any fun A=>decide (A.1=q.1∧A.2.fb=p.2.fb)).map (·.1)=some p.1
  rw[N,this];rfl
 refine⟨fun k=>match own k with
  | some (0,s)=>some (0,s)
  | some (1,s)=>some (1,s)
  | some (t,s)=>(nameOf s).map fun T=>(t,T)
  | none=>none,?_,fun k _ F=>by simp only[F]⟩
 have i:∀k t,own k=some t→t≠(1,[])→w'.heap[k]?=w.heap[k]?:=fun k t l H=>Q k (h.olt k t l) fun e=>H (by rw[e,h.om]at l;exact(Option.some.inj l).symm);refine⟨?_,fun k l=>h.left k (by rw[←c];exact l),?_,j,P,?_,by simp only[h.od],by simp only[h.om],?_,J⟩
 ·rw[i d _ h.od (by simp),h.cells,z,c]
 ·obtain⟨q,v⟩:=R;have:=exactly v;rwa[dm_size]at this
 ·intro p C;obtain⟨q,v,e⟩:=o p C;have b:=h.file q v;have hn:=E p C q v e;rw[e]at b;refine⟨(i _ _ b.ob (by simp)).trans b.cells,?_,b.row.keep fun g r=>i g _ (b.og g r) (by simp),fun g r=>?_⟩
  ·simp only[b.ob,hn];rfl
  ·simp only[b.og g r,hn];rfl
 ·intro k t l;cases F:own k with
  | none=>simp only[F]at l;cases l
  | some s=>exact Nat.lt_of_lt_of_le (h.olt k s F) S
end
def zDS (w:World)(d:Nat)(own:Own)(r:zAA×Nat)(e:Ending)(w':World):Prop :=
 ∃own',e=.returned (.int .i64 (r.2:Int))∧zCb w' d r.1 own'∧Chg (Has own) w w'∧Ext w own own'
theorem zBa (w:World)(s:ByteArray):zEs (w.alloc (.cells #[.string s] 9)) (some ⟨w.heap.size,0,none⟩) [s]:=by
 refine .inr ⟨_,_,rfl,fun i u b=>?_⟩;have c:i=0:=by
  have:=(List.getElem?_eq_some_iff.1 b).1;simp at this;exact this
 subst c;simp at b;subst b;exact zAG (zAI w _) rfl
theorem zCf (w:World)(own:Own):Ext w own own:=fun _ _ h=>h
section
variable {w:World} {d m:Nat} {left:Int} {L:List (Bs×zCA)} {own:Own} {D:zAA}
theorem append_bad (h:zAa w d m left L own D)(s:ByteArray)(x:Value)(i:s.size≤9223372036854775807)(g:D.may [nm s]≠0) :
  Calls prog 15 #[.pointer (some ⟨d,0,none⟩),.string s,x] w (zDS w d own (D,D.may [nm s])):=by
 have c:=h.chg (Chg.alloc w (.cells #[.string s] 9)) (fun k f=>f.elim);have b:=zBj c _ [s] 1 (zBa w s) (by simp) (by simpa using i);simp only[List.map_cons,List.map_nil]at b;generalize f:D.may [nm s]=k at g b ⊢;have n:((k:Int) != 0)=true:=by simp;exact g
 have j:=zh c;have l:=zh b;clear h b c g f
 go_enter func15,ntmps15
 go_wp2_with fail;refine l.o.mono ?_;rintro e w' ⟨rfl,rfl⟩;go_wp2_with fail;go_ret;exact⟨own,rfl,⟨m,left,L,j.o⟩,(Chg.alloc w _).mono (fun _ _ h=>h.elim),zCf _ _⟩
def Still (b:World)(d m:Nat)(left:Int)(L:List (Bs×zCA))(own:Own)(D:zAA)(w:World):Prop:=zAa w d m left L own D∧Below b.heap.size b w
theorem zB6 {c w1 w2:World}(h:Still c d m left L own D w1)(b:Below w1.heap.size w1 w2):Still c d m left L own D w2 :=
 ⟨h.1.chg (Chg.of_below b) (fun _ f=>f.elim),h.2.trans (b.mono h.2.size)⟩
theorem zCz {w w1:World}{x:Value}{ls:List Bs}(h:zBD w x ls)(z:Below w.heap.size w w1):zBD w1 x ls:=by
 obtain⟨p,c,rfl,A,t⟩:=h;refine⟨p,c,rfl,A,fun m=>?_⟩;obtain⟨b,o,vs,rfl,q,r,s⟩:=t m;have d:∀a v,w.cell? a=some v→w1.cell? a=some v:=fun a v f=>(z.cell (World.block_lt_of_cell? w a f)).trans f;refine⟨b,o,vs,rfl,q,fun i v f=>d _ _ (r i v f),fun i v l f B=>?_⟩;obtain⟨p,g,rfl,n,k⟩:=s i v l f B;exact⟨p,g,rfl,n,fun a y j x C=>d _ _ (k a y j x C)⟩
theorem below2 {S:Nat→Prop}{w b w2:World}(h:Below w.heap.size w b)(k:Below b.heap.size b w2):Chg S w w2 :=
 ((Chg.of_below h).trans (Chg.of_below k) fun _ _ h=>h).mono fun _ _ h=>h.elim
theorem append_full (h:zAa w d m left L own D)(s:ByteArray)(x:Value)(ls:List Bs)(V:zBD w x ls)(hn:ls.length≤140737488355328)(hl:ls.flatten.length≤140737488355328)(v:s.size≤9223372036854775807)(Q:D.may [nm s]=0)
  (G:D.room<D.used+ls.flatten.length) :
  Calls prog 15 #[.pointer (some ⟨d,0,none⟩),.string s,x] w (zDS w d own (D,6)):=by
 have p:=(Below.refl w.heap.size w).alloc (Nat.le_refl _) (.cells #[.string s] 9);have A:=h.chg (Chg.alloc w (.cells #[.string s] 9)) (fun k H=>H.elim);have C:=zBj A _ [s] 1 (zBa w s) (by simp) (by simpa using v);simp only[List.map_cons,List.map_nil,Q]at C;have P:=zCt (zCz V p) hn hl;have X:=zh A;have Hc:=zh C;have Hj:=zh P;have z:=zh p;have hr:=h.ok.room;have T:=h.ok.used;clear h C A Q P V p
 go_enter func15,ntmps15
 go_wp2_with fail;refine Hc.o.mono ?_;rintro e w' ⟨rfl,rfl⟩;go_wp2_with fail;refine Hj.o.mono ?_;rintro e w1 ⟨b,rfl,O,f⟩;obtain⟨pb,cb,rfl⟩:=zAY.slice O;clear O;have r:=X.o.chg (Chg.of_below f) (fun k H=>H.elim);have ab:=r.c1;have E:=r.c0;obtain⟨fv,I⟩:=run_look_any w1 zCB underlying9 underlying113 (zBx w1) zCA.fb r.map v;have Z:Still (w.alloc (.cells #[.string s] 9)) d m left L own D w1.drew:=zB6 ⟨r,f⟩ ((Below.refl _ _).drew);have J:=fun W (h:Still (w.alloc (.cells #[.string s] 9)) d m left L own D W)=>zGj h.1;generalize M:D.room=R at G hr T E;generalize N:D.used=U at G T J;generalize ls.flatten.length=n at *;have ac:decide ((R:Int)-(U:Int)<(n:Int))=true:=by simp;omega
 have S:IntKind.i64.wrap ((R:Int)-(U:Int))=(R:Int)-(U:Int):=IntWalk.i64_in _ (by omega);have Y:=zh M;have K:=zh N;clear M N G r f;generalize y:w.alloc (.cells #[.string s] 9)=w0 at *;have aa:=zh y;clear y;go_wp2_with fail;obtain⟨ι,F,ad,t,l,c⟩:=classOf _ Z;have a:∀n,(F n).cell? ⟨d,0,none⟩=some (.int .i64 (R:Int)):=fun n=>by rw[(l n).1.c0,Y.o]
 have g:=zh l;have i:=zh c;clear l c;refine zCl F (by kernel_rfl) (by kernel_rfl) t ?_
 repeat(go_big_quiet_step ((go_at_call 67;refine(J _ (g.o _)).mono ?_;rintro e w2 ⟨rfl,B⟩;exact⟨rfl,i.o _ (zB6 (g.o _) B)⟩)))
 refine wpQuiet_nil ?_;rintro _ ⟨q,rfl⟩;have j:=g.o q;clear t a;generalize F q=w2 at j ⊢
 go_wp2
 go_ret;exact⟨own,rfl,⟨m,left,L,j.1⟩,below2 z.o j.2,zCf _ _⟩
theorem zDm {D:zAA}{ns:List Bs}(h:D.may ns=0):D.fuse≠some 0∧ns.all okN=true:=by
 unfold zAA.may at h
 split at h
 ·cases h
 ·rename_i h1
  refine⟨h1,?_⟩
  split at h
  ·assumption
  ·cases h
theorem ok_append {D:zAA}(h:D.OK){n b:Bs}(l:D.may [n]=0)(k:D.full n b=false):zAA.OK {D with files:=put n ⟨(D.cur n).data++b,(D.cur n).lasts⟩ D.files}:=by
 have hn:okN n=true:=by simpa using (zDm l).2
 simp only[zAA.full,Bool.or_eq_false_iff,decide_eq_false_iff_not,Bool.and_eq_false_iff]at k;obtain⟨o,j⟩:=k;have g:∀f,Sat.get n D.files=some f→D.cur n=f:=fun f c=>by simp[zAA.cur,c]
 have d:Sat.get n D.files=none→D.cur n=⟨[],0⟩:=fun c=>by simp[zAA.cur,c]
 refine⟨zBq h.srt,h.room,?_,?_,?_,?_,h.fuse⟩
 ·show zBK zAA.size (put n _ D.files)≤D.room
  rw[sum_put];have m:D.used=zAA.size (D.cur n)+zBK zAA.size (del n D.files):=by
   cases c:Sat.get n D.files with
   | none=>rw[d c,zC3 c];simp[zAA.used,zAA.size]
   | some f=>rw[g f c];exact zC2 h.srt c
  simp only[zAA.size,List.length_append]at m ⊢;omega
 ·show(put n _ D.files).length≤4096
  rw[zFu];cases c:Sat.get n D.files with
  | none =>
   rw[c]at j;simp at j;rw[zC3 c];omega
  | some f =>
   have:=len_del h.srt c;have:=h.count;omega
 ·intro p i;rcases zBk.1 i with rfl|⟨i,_⟩
  ·exact hn
  ·exact h.names p i
 ·intro p i;rcases zBk.1 i with rfl|⟨i,_⟩
  ·cases c:Sat.get n D.files with
   | none=>rw[d c];simp
   | some f =>
    rw[g f c];have:f.lasts≤f.data.length:=h.lasts _ (zBu c);simp only[List.length_append];omega
  ·exact h.lasts p i
theorem len_run {W:World}(h:zAa W d m left L own D)(ty:TypeId):(Builtin.len_ #[113] ty #[.map (some m)]).run prog W=.ok (.int .i64 (L.length:Int)) W:=by
 have:=h.map.len underlying113 ty;rwa[dm_size]at this
theorem append_count (h:zAa w d m left L own D)(s:ByteArray)(x:Value)(ls:List Bs)(hx:zBD w x ls)(hn:ls.length≤140737488355328)(hl:ls.flatten.length≤140737488355328)(A:s.size≤9223372036854775807)(hm:D.may [nm s]=0)
  (P:D.used+ls.flatten.length≤D.room) (Q:Sat.get (nm s) L=none) (c:4096≤L.length) :
  Calls prog 15 #[.pointer (some ⟨d,0,none⟩),.string s,x] w (zDS w d own (D,6)):=by
 have t:=(Below.refl w.heap.size w).alloc (Nat.le_refl _) (.cells #[.string s] 9);have H:=h.chg (Chg.alloc w (.cells #[.string s] 9)) (fun k V=>V.elim);have M:=zBj H _ [s] 1 (zBa w s) (by simp) (by simpa using A);simp only[List.map_cons,List.map_nil,hm]at M;have hj:=zCt (zCz hx t) hn hl;have hr:=h.ok.room;have I:L.length≤4096:=by rw[←h.len];exact h.ok.count
 have H1:=zh H;have Hc:=zh M;have Hj:=zh hj;have C:=zh t;clear h M H hm hj hx t
 go_enter func15,ntmps15
 go_wp2_with fail;refine Hc.o.mono ?_;rintro e w' ⟨rfl,rfl⟩;go_wp2_with fail;refine Hj.o.mono ?_;rintro e w1 ⟨b,rfl,K,i⟩;obtain⟨pb,cb,rfl⟩:=zAY.slice K;clear K;have B:=H1.o.chg (Chg.of_below i) (fun k V=>V.elim);have O:=B.c1;have v:=zBp w1 zCB underlying9 underlying113 (zBx w1) zCA.fb B.map A Q;have X:Still w1 d m left L own D w1.drew:=zB6 ⟨B,Below.refl _ _⟩ ((Below.refl _ _).drew);have Y:=fun W (h:Still w1 d m left L own D W)=>zGj h.1;generalize Z:D.room=R at P hr;generalize hU:D.used=U at P Y;generalize j:L.length=N at c I;generalize ls.flatten.length=n at *;have ac:decide ((R:Int)-(U:Int)<(n:Int))=false:=by simp;omega
 have ab:IntKind.i64.wrap ((R:Int)-(U:Int))=(R:Int)-(U:Int):=IntWalk.i64_in _ (by omega);have aa:decide ((4096:Int)≤(N:Int))=true:=by simp;omega
 have HR:=zh Z;have z:=zh j;have y:=zh i;have Hg:=zh Q;clear Z hU P B i Q j c;go_wp2_with fail;obtain⟨ι,F,ad,a,f,g⟩:=classOf _ X;have E:∀n,(F n).cell? ⟨d,0,none⟩=some (.int .i64 (R:Int)):=fun n=>by rw[(f n).1.c0,HR.o]
 have G:∀n,(F n).cell? ⟨d,1,none⟩=some (.map (some m)):=fun n=>(f n).1.c1;have fl:∀n ty,(Builtin.len_ #[113] ty #[.map (some m)]).run prog (F n)=.ok (.int .i64 (N:Int)) (F n):=fun n ty=>by rw[len_run (f n).1 ty,z.o]
 have l:=zh f;have p:=zh g;clear f g X;refine zCl F (by kernel_rfl) (by kernel_rfl) a ?_
 repeat(go_big_quiet_step ((go_at_call 67;refine(Y _ (l.o _)).mono ?_;rintro e w2 ⟨rfl,J⟩;exact⟨rfl,p.o _ (zB6 (l.o _) J)⟩)))
 refine wpQuiet_nil ?_;rintro _ ⟨q,rfl⟩;have r:=l.o q;clear a E G fl v O;generalize F q=w2 at r ⊢
 go_wp2
 go_ret;exact⟨own,rfl,⟨m,left,L,r.1⟩,(below2 (S:=Has own) C.o y.o).trans ((Chg.of_below r.2).mono (T:=Has own) fun _ _ h=>h.elim) fun _ _ h=>h,zCf _ _⟩
theorem append_old (h:zAa w d m left L own D)(s:ByteArray)(x:Value)(ls:List Bs)(hx:zBD w x ls)(hn:ls.length≤140737488355328)(hl:ls.flatten.length≤140737488355328)(al:s.size≤9223372036854775807)(hm:D.may [nm s]=0)
  (hf:D.full (nm s) ls.flatten=false) (r:zCA) (hg:Sat.get (nm s) L=some r) :
  Calls prog 15 #[.pointer (some ⟨d,0,none⟩),.string s,x] w (zDS w d own (zAA.done {D with files:=put (nm s) ⟨r.f.data++ls.flatten,r.f.lasts⟩ D.files},0)):=by
 have Z:=(Below.refl w.heap.size w).alloc (Nat.le_refl _) (.cells #[.string s] 9);have h1:=h.chg (Chg.alloc w (.cells #[.string s] 9)) (fun k z=>z.elim);have hc:=zBj h1 _ [s] 1 (zBa w s) (by simp) (by simpa using al);simp only[List.map_cons,List.map_nil,hm]at hc;have hj:=zCt (zCz hx Z) hn hl;have N:D.cur (nm s)=r.f:=by simp[zAA.cur,h.get,hg]
 have aa:=ok_append h.ok hm hf;rw[N]at aa;have ah:=(zDm hm).1;have P:D.used+ls.flatten.length≤D.room:=by
  simp only[zAA.full,Bool.or_eq_false_iff,decide_eq_false_iff_not]at hf;omega
 have aF:r.f.data.length≤D.used:=by rw[h.used];exact le_sum (f:=fun r:zCA=>r.f.data.length) h.srt hg
 have H1:=zh h1;have Hc:=zh hc;have Hj:=zh hj;have ab:=zh Z;have aq:=zh aa;have ao:=zh ah;have hr:=h.ok.room;clear h hc h1 hm hj hx Z aa N hf ah
 go_enter func15,ntmps15
 go_wp2_with fail;refine Hc.o.mono ?_;rintro e w' ⟨rfl,rfl⟩;go_wp2_with fail;refine Hj.o.mono ?_;rintro e w1 ⟨b,rfl,hb,C⟩;have Hb:=zh hb;obtain⟨pb,cb,rfl⟩:=zAY.slice hb;clear hb;have A:=H1.o.chg (Chg.of_below C) (fun k z=>z.elim);have av:=A.c1;have af:=A.c0;have K:=zB8 w1 zCB underlying9 underlying113 (zBx w1) zCA.fb A.map al hg;have am:Still w1 d m left L own D w1:=⟨A,Below.refl _ _⟩;have HS:Still w1 d m left L own D w1.drew:=zB6 am ((Below.refl _ _).drew);have HU:=fun W (h:Still w1 d m left L own D W)=>zGj h.1;have I:=zh C;generalize hR:D.room=R at P hr af;generalize hU:D.used=U at P HU aF;generalize aj:ls.flatten.length=n at *;have aL:decide ((R:Int)-(U:Int)<(n:Int))=false:=by simp;omega
 have aJ:IntKind.i64.wrap ((R:Int)-(U:Int))=(R:Int)-(U:Int):=IntWalk.i64_in _ (by omega);have HR:=zh hR;have aK:=zh hU;have ac:=zh aj;have Hg:=zh hg;clear hR hU A C aj hg;go_wp2_with fail;obtain⟨ι,F,aM,ae,Y,B⟩:=classOf _ HS;have ar:∀n,(F n).cell? ⟨d,0,none⟩=some (.int .i64 (R:Int)):=fun n=>by rw[(Y n).1.c0,HR.o]
 have Q:=zh Y;have V:=zh B;clear Y B;refine zCl F (by kernel_rfl) (by kernel_rfl) ae ?_
 repeat(go_big_quiet_step ((go_at_call 67;refine(HU _ (Q.o _)).mono ?_;rintro e w2 ⟨rfl,au⟩;exact⟨rfl,V.o _ (zB6 (Q.o _) au)⟩)))
 refine wpQuiet_nil ?_;rintro _ ⟨q,rfl⟩;have a:=Q.o q;clear ae ar K av af HS;generalize F q=w2 at a ⊢;have j:=a.1.fileAt Hg.o;have ay:w2.cell? ⟨r.fb,0,none⟩=some r.v:=zAG j.cells rfl;obtain⟨i0,hi,aG,aH,aI⟩:=info_parts (show(prog.info? 5).map (fun i=>(i.zero,i.size,i.bytes))=some (some (.int .u8 0),1,1) by kernel_rfl);have G:=j.row;have H:zAY w2 (.slice pb n cb) ls.flatten:=zAY.below Hb.o a.2;unfold zAY at H;rw[ac.o]at H;obtain⟨p1,c1,hv⟩:=zAj.slice G;have M:∀k,r.v.ownBlock=some k→k≠r.fb:=fun k z=>a.1.ne_of (j.og k z) j.ob (by simp);have X:=zh a;have t:=zh j;have Hv:=zh hv;have an:=zh H;have ad:=zh G;have J:=zh M;clear j hv G H M a;go_wp2_with (first|(at_builtin;refine zAP w2 rfl (.tmp 61) (.tmp 62) 22 rfl 5 i0 (.int .u8 0) 1 1 underlying22 hi aG aH aI rfl (by decide) r.v r.f.data.length (zAQ r.f.data) rfl ad.o (.slice pb n cb) n (zAQ ls.flatten) rfl an.o (zAO _) (by unfold maxLen;omega) (by omega) ?_;intro v' w3 l c p;obtain⟨p2,c2,rfl⟩:=OwnR.shape l;have y:=zES c t.o.cells (fun e=>J.o _ e rfl);have aw:=zAG (i:=0) y rfl;have aA:=zAE y 0;have ap:=zh (And.intro l (And.intro c (And.intro p y)));clear l c p y))
 obtain⟨l,c,p,y⟩:=ap.o;have A:=X.o.1;have aB:=zAB t.o.cells;have ak:∀k,(Value.slice p2 (r.f.data.length+n) c2).ownBlock=some k→k≠r.fb:=fun k z=>by
  rcases p with e|⟨g,e,ai⟩
  ·exact J.o k (by rw[←e];exact z)
  ·rw[e]at z;cases z;omega
 obtain⟨own',h4,O⟩:=A.upd (w':=w3.setCell ⟨r.fb,0,none⟩ (.slice p2 (r.f.data.length+n) c2)) (f':=⟨r.f.data++ls.flatten,r.f.lasts⟩) (v':=.slice p2 (r.f.data.length+n) c2) Hg.o
  (by simpa[World.setCell]using c.size) (fun k z h1 A=>(set_other _ h1).trans (c.block k z A)) (by rw[zAC y];simp)
  (by
   have e1:(r.f.data++ls.flatten).length=r.f.data.length+n:=by rw[List.length_append,ac.o]
   unfold zAj;rw[e1,zBs];exact OwnR.keep l fun k z=>set_other _ (ak k z))
  (fun g E=>by
   rcases p with e|⟨g',e,ai⟩
   ·exact .inl (by rw[←e];exact E)
   ·rw[e]at E;cases E;exact .inr ai) aq.o
 refine(zDP h4 ao.o).mono ?_;rintro e w5 ⟨rfl,az,ax⟩;have ag:Chg (Has own) w w5:=by
  have aD:Has own d:=by unfold Has;rw[A.od];simp
  have aC:Has own r.fb:=by unfold Has;rw[t.o.ob];simp
  have aE:∀g,r.v.ownBlock=some g→Has own g:=fun g E=>by unfold Has;rw[t.o.og g E];simp
  have k1:Chg (Has own) w w1:=below2 ab.o I.o;have k2:Chg (Has own) w w2:=k1.trans ((Chg.of_below X.o.2).mono (T:=Has own) fun _ _ h=>h.elim) fun _ _ h=>h;have k3:Chg (Has own) w w3:=k2.trans (Chg.of_grown c) fun i _ e=>aE i e.symm;have c4:Chg (Has own) w (w3.setCell ⟨r.fb,0,none⟩ (.slice p2 (r.f.data.length+n) c2)):=k3.trans (Chg.setCell w3 ⟨r.fb,0,none⟩ (.slice p2 (r.f.data.length+n) c2)) fun i _ e=>by rw[e];exact aC
  exact c4.trans ax fun i _ e=>by rw[e];exact aD
 clear l c p y A h4 aB ak aw aA;have Hx:=zh O;clear O;go_wp2_with fail;go_ret;exact⟨own',rfl,az,ag,fun k z=>Hx.o k (Nat.lt_of_lt_of_le z (Nat.le_trans (below2 (S:=fun _=>False) ab.o I.o).size X.o.2.size))⟩
theorem new_has {w2 w3:World}{o:Obj}(h:zAa w2 d m left L own D){v:Value}{l:Bs}(n:zAY w2 v l)(f:(w2.alloc o).grownBy w3 (some m)):zAY w3 v l:=by
 obtain⟨es,b,g,_⟩:=h.map;have c:Chg (fun k=>k=m) w2 w3:=((Chg.alloc w2 _).mono (T:=fun k=>k=m) fun _ _ h=>h.elim).trans (Chg.of_grown f) fun i _ e=>by simpa using e
 exact zAM.chg2 n c fun a u j _=>no_cell_map g j
theorem append_new (h:zAa w d m left L own D)(s:ByteArray)(x:Value)(ls:List Bs)(hx:zBD w x ls)(hn:ls.length≤140737488355328)(hl:ls.flatten.length≤140737488355328)(aj:s.size≤9223372036854775807)(hm:D.may [nm s]=0)
  (hf:D.full (nm s) ls.flatten=false) (hg:Sat.get (nm s) L=none) :
  Calls prog 15 #[.pointer (some ⟨d,0,none⟩),.string s,x] w (zDS w d own (zAA.done {D with files:=put (nm s) ⟨ls.flatten,0⟩ D.files},0)):=by
 have af:=(Below.refl w.heap.size w).alloc (Nat.le_refl _) (.cells #[.string s] 9);have h1:=h.chg (Chg.alloc w (.cells #[.string s] 9)) (fun k t=>t.elim);have hc:=zBj h1 _ [s] 1 (zBa w s) (by simp) (by simpa using aj);simp only[List.map_cons,List.map_nil,hm]at hc;have hj:=zCt (zCz hx af) hn hl;have V:D.cur (nm s)=⟨[],0⟩:=by simp[zAA.cur,h.get,hg]
 have O:=ok_append h.ok hm hf;rw[V]at O;simp only[List.nil_append]at O;have aq:=(zDm hm).1;have aI:D.used+ls.flatten.length≤D.room∧L.length<4096:=by
  simp only[zAA.full,Bool.or_eq_false_iff,decide_eq_false_iff_not,h.get,hg,h.len,Option.map_none,Option.isNone_none,Bool.true_and]at hf;omega
 obtain⟨Y,M⟩:=aI;have hr:=h.ok.room;have H1:=zh h1;have Hc:=zh hc;have Hj:=zh hj;have ak:=zh af;have ay:=zh O;have av:=zh aq;clear h hc h1 hm hj hx af O V hf aq
 go_enter func15,ntmps15
 go_wp2_with fail;refine Hc.o.mono ?_;rintro e w' ⟨rfl,rfl⟩;go_wp2_with fail;refine Hj.o.mono ?_;rintro e w1 ⟨b,rfl,hb,B⟩;have Hb:=zh hb;obtain⟨pb,cb,rfl⟩:=zAY.slice hb;clear hb;have I:=H1.o.chg (Chg.of_below B) (fun k t=>t.elim);have ap:=I.c1;have ah:=zBp w1 zCB underlying9 underlying113 (zBx w1) zCA.fb I.map aj hg;have HS:Still w1 d m left L own D w1.drew:=zB6 ⟨I,Below.refl _ _⟩ ((Below.refl _ _).drew);have HU:=fun W (h:Still w1 d m left L own D W)=>zGj h.1;generalize hR:D.room=R at Y hr;generalize hU:D.used=U at Y HU;generalize Z:L.length=N at M;generalize ar:ls.flatten.length=n at *;have aT:decide ((R:Int)-(U:Int)<(n:Int))=false:=by simp;omega
 have aQ:IntKind.i64.wrap ((R:Int)-(U:Int))=(R:Int)-(U:Int):=IntWalk.i64_in _ (by omega);have aP:decide ((4096:Int)≤(N:Int))=false:=by simp;omega
 have HR:=zh hR;have Q:=zh Z;have P:=zh B;have Hg:=zh hg;have an:=zh ar;clear hR hU I B hg Z ar;go_wp2_with fail;obtain⟨ι,F,aU,ao,a,A⟩:=classOf _ HS;have aA:∀n,(F n).cell? ⟨d,0,none⟩=some (.int .i64 (R:Int)):=fun n=>by rw[(a n).1.c0,HR.o]
 have aB:∀n,(F n).cell? ⟨d,1,none⟩=some (.map (some m)):=fun n=>(a n).1.c1;have fl:∀n ty,(Builtin.len_ #[113] ty #[.map (some m)]).run prog (F n)=.ok (.int .i64 (N:Int)) (F n):=fun n ty=>by rw[len_run (a n).1 ty,Q.o]
 have ab:=zh a;have ac:=zh A;clear a A HS;refine zCl F (by kernel_rfl) (by kernel_rfl) ao ?_
 repeat(go_big_quiet_step ((go_at_call 67;refine(HU _ (ab.o _)).mono ?_;rintro e w2 ⟨rfl,aC⟩;exact⟨rfl,ac.o _ (zB6 (ab.o _) aC)⟩)))
 refine wpQuiet_nil ?_;rintro _ ⟨q,rfl⟩;have y:=ab.o q;clear ao aA aB fl ah ap HU;generalize F q=w2 at y ⊢;have ap:=y.1.c1;have aR:=y.1.dlt;have hN:L.length<maxLen:=by rw[Q.o];unfold maxLen;omega
 have K:=y.1.map.alloc (.cells #[.slice none 0 0,.int .i64 0] 123);have z:=zh y;have am:=zh K;clear y K;obtain⟨i0,hi,aM,aN,aO⟩:=info_parts (show(prog.info? 5).map (fun i=>(i.zero,i.size,i.bytes))=some (some (.int .u8 0),1,1) by kernel_rfl);go_wp2_with (first|(at_mapUpdate;refine wpList_mapUpdate_own _ rfl _ _ _ 113 rfl 9 121 zCB underlying113 ptrR m L.length (dm fbD L) rfl am.o hN _ _ _ rfl rfl (WideMaps.keyOf_string_mk underlying9 aj) (.held w2.heap.size) [] rfl ?_;intro w3 j l;have G:=zES l (zAI w2 _) (by intro e;have h9:=z.o.1.mlt;cases e;omega);have aD:=zAG (i:=0) G rfl;have ae:=zh (And.intro j (And.intro l G));clear j l G)|(at_builtin;have J:=new_has z.o.1 (zAY.below Hb.o z.o.2) ae.o.2.1;unfold zAY at J;rw[an.o]at J;refine zAP w3 rfl (.tmp 61) (.tmp 62) 22 rfl 5 i0 (.int .u8 0) 1 1 underlying22 hi aM aN aO rfl (by decide) (.slice none 0 0) 0 [] rfl (OwnR.nil _ _ _) (.slice pb n cb) n (zAQ ls.flatten) rfl J (zAO _) (by unfold maxLen;omega) (by omega) ?_;clear J;intro v' w4 f c p;obtain⟨p2,c2,rfl⟩:=OwnR.shape f;have v:=zES c ae.o.2.2 (by intro e;cases e);have aE:=zAG (i:=0) v rfl;have aH:=zAE v 0;have aw:=zh (And.intro f (And.intro c (And.intro p v)));clear f c p v))
 obtain⟨j,l,_⟩:=ae.o;obtain⟨f,c,p,v⟩:=aw.o;have I:=z.o.1;have aK:w2.heap.size+1≤w3.heap.size:=by
  have:=l.size;simpa using this
 have aL:=c.size;have ai:∀k,(Value.slice p2 (0+n) c2).ownBlock=some k→w2.heap.size≤k∧k≠w2.heap.size:=fun k t=>by
  rcases p with e|⟨g,e,aS⟩
  ·rw[e]at t;cases t
  ·rw[e]at t;cases t;omega
 have H:∀k,k<w2.heap.size→k≠m→w4.heap[k]?=w2.heap[k]?:=fun k t ag=>by
  rw[c.block k (by omega) (by intro e;cases e),l.block k (by simp;omega) (by intro e;cases e;exact ag rfl)];exact heap_alloc_old w2 _ t
 obtain⟨own',h4,X⟩:=I.add (w':=w4.setCell ⟨w2.heap.size,0,none⟩ (.slice p2 (0+n) c2)) (r:=⟨w2.heap.size,.slice p2 (0+n) c2,⟨ls.flatten,0⟩⟩) Hg.o
  (by simp[World.setCell];omega) (fun k t ag=>(set_other _ (by simp;omega)).trans (H k t ag))
  ⟨_,(j.kept c (by intro e;cases e)).setCell (by have:=I.mlt;simp;omega) _⟩ (by rw[zAC v];simp) (Nat.le_refl _)
  (by
   have e1:ls.flatten.length=0+n:=by rw[an.o,Nat.zero_add]
   unfold zAj
   show OwnR _ _ _ _ ls.flatten.length _
   rw[e1];exact OwnR.keep f fun k t=>set_other _ (ai k t).2)
  ai ay.o
 have C:Chg (Has own) w (w4.setCell ⟨w2.heap.size,0,none⟩ (.slice p2 (0+n) c2)):=by
  have aJ:Has own m:=by unfold Has;rw[I.om];simp
  have k1:Chg (Has own) w w1:=below2 ak.o P.o;have k2:Chg (Has own) w w2:=k1.trans ((Chg.of_below z.o.2).mono (T:=Has own) fun _ _ h=>h.elim) fun _ _ h=>h;have k4:Chg (fun k=>k=m) w2 w4:=⟨by rw[c.os,l.os];rfl,by rw[c.tape,l.tape];rfl,by rw[c.output,l.output];rfl,by omega,H⟩;have k5:Chg (fun k=>k=m∨w2.heap.size≤k) w2 (w4.setCell ⟨w2.heap.size,0,none⟩ (.slice p2 (0+n) c2)):=(k4.mono (T:=fun k=>k=m∨w2.heap.size≤k) fun _ _ h=>.inl h).trans (Chg.setCell w4 _ _) fun i _ e=>.inr (by rw[e];exact Nat.le_refl _);have aV:=k2.size;exact k2.trans k5 fun i hi e=>by
   rcases e with e|e
   ·rw[e];exact aJ
   ·omega
 have au:Has own d:=by unfold Has;rw[I.od];simp
 have aa:=Nat.le_trans (below2 (S:=fun _=>False) ak.o P.o).size z.o.2.size;simp only[Nat.zero_add]at h4 C;have E:=zDP h4 av.o;have ad:=zh E;have al:=zh C;have Hx:=zh X;have ax:=zh au;have az:=zh aa;clear j l f c p v I aK aL ai H h4 X C au aa E aD aE aH;refine ad.o.mono ?_;rintro e w5 ⟨rfl,aG,aF⟩;go_wp2_with fail;go_ret;exact⟨own',rfl,aG,al.o.trans aF fun i _ e=>by rw[e];exact ax.o,fun k t=>Hx.o k (Nat.lt_of_lt_of_le t az.o)⟩
theorem append_calls (h:zCb w d D own)(s:ByteArray)(x:Value)(ls:List Bs)(n:zBD w x ls)(hn:ls.length≤140737488355328)(l:ls.flatten.length≤140737488355328)(c:s.size≤9223372036854775807) :
  Calls prog 15 #[.pointer (some ⟨d,0,none⟩),.string s,x] w (zDS w d own (D.append (nm s) ls.flatten)):=by
 obtain⟨m,left,L,h⟩:=h;unfold zAA.append
 by_cases g:D.may [nm s]=0
 ·rw[if_neg (by simpa using g)]
  by_cases i:D.full (nm s) ls.flatten=true
  ·rw[if_pos i]
   by_cases o:D.room<D.used+ls.flatten.length
   ·exact append_full h s x ls n hn l c g o
   ·simp only[zAA.full,o,decide_false,Bool.false_or,Bool.and_eq_true,Option.isNone_iff_eq_none,decide_eq_true_eq,h.get,h.len,Option.map_eq_none_iff]at i;exact append_count h s x ls n hn l c g (by omega) i.1 i.2
  ·rw[if_neg i];have j:D.full (nm s) ls.flatten=false:=by simpa using i
   cases k:Sat.get (nm s) L with
   | none =>
    have b:D.cur (nm s)=⟨[],0⟩:=by simp[zAA.cur,h.get,k]
    rw[b];exact append_new h s x ls n hn l c g j k
   | some r =>
    have b:D.cur (nm s)=r.f:=by simp[zAA.cur,h.get,k]
    rw[b];exact append_old h s x ls n hn l c g j r k
 ·rw[if_pos (by simpa using g)];exact append_bad h s x c g
end
def Did (W:World)(d:Nat)(own:Own)(D:zAA)(e:Ending)(w':World):Prop :=
 ∃own',e=.returned (.tuple #[])∧zCb w' d D own'∧Chg (Has own) W w'∧Ext W own own'
theorem ok_sync {D:zAA}(h:D.OK){n:Bs}{f:zAT}(c:Sat.get n D.files=some f):zAA.OK {D with files:=zAA.gSync n f D.files} where
 srt:=zBq h.srt
 room:=h.room
 used:=by
  show zBK zAA.size (put n _ D.files)≤D.room
  rw[sum_put];have d:D.used=zAA.size f+zBK zAA.size (del n D.files):=zC2 h.srt c;have:=h.used;simp only[zAA.size]at d ⊢;omega
 count:=by
  show(put n _ D.files).length≤4096
  rw[zFu];have:=len_del h.srt c;have:=h.count;omega
 names p b:=by
  rcases zBk.1 b with rfl|⟨b,_⟩
  ·exact(h.names (n,f) (zBu c):okN n=true)
  ·exact h.names p b
 lasts p b:=by
  rcases zBk.1 b with rfl|⟨b,_⟩
  ·exact Nat.le_refl _
  ·exact h.lasts p b
 fuse:=h.fuse
theorem ok_del {D:zAA}(h:D.OK)(n:Bs):zAA.OK {D with files:=del n D.files} where
 srt:=zCV h.srt
 room:=h.room
 used:=by
  show zBK zAA.size (del n D.files)≤D.room
  cases b:Sat.get n D.files with
  | none=>rw[zC3 b];exact h.used
  | some f =>
   have c:D.used=zAA.size f+zBK zAA.size (del n D.files):=zC2 h.srt b;have:=h.used;omega
 count:=Nat.le_trans (zD7 _ _) h.count
 names p hp:=h.names p (zBR.1 hp).1
 lasts p hp:=h.lasts p (zBR.1 hp).1
 fuse:=h.fuse
section
variable {w:World} {d m:Nat} {left:Int} {L:List (Bs×zCA)} {own:Own} {D:zAA}
theorem has_d (h:zAa w d m left L own D):Has own d:=by unfold Has;rw[h.od];simp
theorem has_m (h:zAa w d m left L own D):Has own m:=by unfold Has;rw[h.om];simp
theorem has_f (h:zAa w d m left L own D){n:Bs}{r:zCA}(b:Sat.get n L=some r):Has own r.fb:=by unfold Has;rw[(h.fileAt b).ob];simp
theorem sync1_calls (h:zAa w d m left L own D)(s:ByteArray){r:zCA}(l:Sat.get (nm s) L=some r) :
  Calls prog 182 #[.string s,.pointer (some ⟨r.fb,0,none⟩)] w (Did w d own {D with files:=zAA.gSync (nm s) r.f D.files}):=by
 have b:=h.fileAt l;have B:=zAG (i:=0) b.cells rfl;have C:=zAG (i:=1) b.cells rfl;have G:=zAE b.cells 1;obtain⟨p,c,a⟩:=zAj.slice b.row;have E:r.f.data.length≤1073741824:=by
  have:=h.ok.used;have:=h.ok.room;have:r.f.data.length≤D.used:=by rw[h.used];exact le_sum (f:=fun r:zCA=>r.f.data.length) h.srt l
  omega
 have j:Did w d own {D with files:=zAA.gSync (nm s) r.f D.files} (.returned (.tuple #[])) (w.setCell ⟨r.fb,1,none⟩ (.int .i64 (r.f.data.length:Int))):=by
  have z:∀k,r.v.ownBlock=some k→k≠r.fb:=fun k t=>h.ne_of (b.og k t) b.ob (by simp);obtain⟨own',A,F⟩:=h.upd (w':=w.setCell ⟨r.fb,1,none⟩ (.int .i64 (r.f.data.length:Int))) (v':=r.v) (f':=⟨r.f.data,r.f.data.length⟩) l (by simp[World.setCell]) (fun k _ t _=>set_other _ t)
   (by rw[zAC b.cells];simp) (b.row.keep fun k t=>set_other _ (z k t)) (fun g y=>.inl y) (ok_sync h.ok (by rw[h.get,l];rfl))
  exact⟨own',rfl,⟨m,left,_,A⟩,(Chg.setCell w _ _).mono fun k _ e=>by rw[e];exact has_f h l,F⟩
 rw[a]at B;have q:=zh j;clear j h l b a;generalize r.f.data.length=n at *
 go_enter func182,ntmps182
 go_wp2
 go_end0
 exact q.o
theorem remove1_calls (h:zAa w d m left L own D)(s:ByteArray)(H:s.size≤9223372036854775807){r:zCA}(_hg:Sat.get (nm s) L=some r)(cb:Nat)(F:w.cell? ⟨cb,0,none⟩=some (.pointer (some ⟨d,0,none⟩))) :
  Calls prog 147 #[.string s,.pointer (some ⟨r.fb,0,none⟩),.pointer (some ⟨cb,0,none⟩)] w (Did w d own {D with files:=zAA.gRemove (nm s) r.f D.files}):=by
 have E:=h.c1;have n:=WideMaps.keyOf_string_mk underlying9 H;have i:∀w',w'.ownsMap prog 9 ptrR m L.length ((dm fbD L).del (.string s.data.toList))→w.mapTurned w' m→Did w d own {D with files:=zAA.gRemove (nm s) r.f D.files} (.returned (.tuple #[])) w':=by
  intro w' b I;rw[dm_del]at b;have j:=I.grown;obtain⟨own',C,J⟩:=h.remap (w':=w') (L':=del (nm s) L) (D':={D with files:=del (nm s) D.files}) j.size (fun k G v=>j.block k G (by intro e;cases e;exact v rfl)) ⟨_,b⟩ (zCV h.srt) rfl rfl
   (by rw[mp_del,←h.files]) (ok_del h.ok _) (fun p t=>⟨p,(zBR.1 t).1,rfl⟩) (fun p t q z e=>by
    have A:=h.file p (zBR.1 t).1;have B:=h.file q (zBR.1 z).1;have y:=A.ob;rw[e,B.ob]at y;exact zGN h.srt (zBR.1 t).1 (zBR.1 z).1 (by simpa using y.symm))
  exact⟨own',rfl,⟨m,left,_,C⟩,(Chg.of_grown j).mono fun k _ e=>by cases e;exact has_m h,J⟩
 have b:=h.map;have l:=zh i;clear i h _hg
 go_enter func147,ntmps147
 go_wp2_with (first|(at_delete;refine wpList_delete_own _ rfl _ _ 113 9 rfl 121 zCB underlying113 ptrR m L.length (dm fbD L) rfl b _ _ rfl n ?_;intro w1 g c;have a:=zh (l.o _ g c);clear g c))
 go_end0
 exact a.o
theorem each_append (g:Bs→zAT→List (Bs×zAT)→List (Bs×zAT))(D:zAA)(l r:List Bs)(h:(D.each g l).2=0):D.each g (l++r)=(D.each g l).1.each g r:=by
 induction l generalizing D with
 | nil=>rfl
 | cons n l ih =>
  simp only[List.cons_append,zAA.each]at h ⊢
  by_cases b:(zAA.each1 g D n).2=0
  ·rw[if_pos b]at h ⊢;rw[if_pos b];exact ih _ h
  ·rw[if_neg b]at h;exact absurd h b
def zFj (w:World)(d:Nat)(own:Own)(D:zAA)(g:Bs→zAT→List (Bs×zAT)→List (Bs×zAT))(ns:List Bs)(k:Nat)(wr:World):Prop :=
 ∃own' m left L,zAa wr d m left L own' (D.each g (ns.take k)).1∧(D.each g (ns.take k)).2=0∧Chg (Has own) w wr∧Ext w own own'
def DoesAt (b:Value)(g:Bs→zAT→List (Bs×zAT)→List (Bs×zAT))(d:Nat)(w:World)(own:Own):Prop :=
 (b=.func (.func 182) #[] #[]∧g=zAA.gSync) ∨
 ∃cb,b=.func (.func 147) #[] #[.pointer (some ⟨cb,0,none⟩)]∧g=zAA.gRemove∧w.cell? ⟨cb,0,none⟩=some (.pointer (some ⟨d,0,none⟩))∧own cb=none
theorem each_round {w wr:World}{g:Bs→zAT→List (Bs×zAT)→List (Bs×zAT)}{ns:List Bs}{k:Nat}{n:Bs}(o:zFj w d own D g ns k wr)(hn:ns[k]?=some n) :
  ∃D',D.each g ns=(if(zAA.each1 g D' n).2=0 then(zAA.each1 g D' n).1.each g (ns.drop (k+1))else zAA.each1 g D' n)∧(D.each g (ns.take k)).1=D' ∧
   ((zAA.each1 g D' n).2=0→D.each g (ns.take (k+1))=zAA.each1 g D' n):=by
 obtain⟨own',m,left,L,_,f,_⟩:=o;refine⟨_,?_,rfl,fun i=>?_⟩
 ·have c:k<ns.length:=(List.getElem?_eq_some_iff.1 hn).1;have b:ns[k]=n:=(List.getElem?_eq_some_iff.1 hn).2;have j:ns=ns.take k++n::ns.drop (k+1):=by rw[←b,←List.drop_eq_getElem_cons c,List.take_append_drop]
  have l:D.each g ns=D.each g (ns.take k++n::ns.drop (k+1)):=by rw[←j]
  rw[l,each_append g D _ _ f];rfl
 ·have c:k<ns.length:=(List.getElem?_eq_some_iff.1 hn).1;have b:ns[k]=n:=(List.getElem?_eq_some_iff.1 hn).2;rw[List.take_succ_eq_append_getElem c,each_append g D _ _ f,b];simp only[zAA.each,if_pos i];exact Prod.ext rfl i.symm
theorem chg_ext {w wr w2:World}{own own':Own}(h:Chg (Has own) w wr)(d:Ext w own own')(k:Chg (Has own') wr w2):Chg (Has own) w w2 :=
 h.trans k fun i b t c=>t (d i b c)
theorem ext_trans {w wr:World}{own own' own2:Own}(d:w.heap.size≤wr.heap.size)(h:Ext w own own')(k:Ext wr own' own2):Ext w own own2:=fun i b c=>k i (Nat.lt_of_lt_of_le b d) (h i b c)
theorem each1_bad {g:Bs→zAT→List (Bs×zAT)→List (Bs×zAT)}{D:zAA}{n:Bs}(h:D.may [n]≠0):zAA.each1 g D n=(D,D.may [n]):=by
 unfold zAA.each1;rw[if_pos h]
theorem each1_none {g:Bs→zAT→List (Bs×zAT)→List (Bs×zAT)}{D:zAA}{n:Bs}(h:D.may [n]=0)(b:Sat.get n D.files=none):zAA.each1 g D n=(D,7):=by
 unfold zAA.each1;rw[if_neg (by simpa using h),b]
theorem each1_some {g:Bs→zAT→List (Bs×zAT)→List (Bs×zAT)}{D:zAA}{n:Bs}{f:zAT}(h:D.may [n]=0)(b:Sat.get n D.files=some f):zAA.each1 g D n=(zAA.done {D with files:=g n f D.files},0):=by
 unfold zAA.each1;rw[if_neg (by simpa using h),b]
theorem zGC {w wr:World}{g:Bs→zAT→List (Bs×zAT)→List (Bs×zAT)}{ns:List Bs}{k:Nat}{n:Bs}{D':zAA}{e:Nat}{o:Obj}(j:zFj w d own D g ns k wr)(hn:ns[k]?=some n)
  (f:(D.each g (ns.take k)).1=D') (l:zAA.each1 g D' n=(D',e)) (q:e≠0):zDS w d own (D.each g ns) (.returned (.int .i64 (e:Int))) (wr.alloc o):=by
 obtain⟨s,b,c,_⟩:=each_round j hn;rw[f]at c;subst c;rw[l,if_neg q]at b;obtain⟨own',m,left,L,i,t,p,r⟩:=j;rw[f]at i;rw[b];exact⟨own',rfl,⟨m,left,L,i.chg (Chg.alloc wr o) fun _ h=>h.elim⟩,p.trans ((Chg.alloc wr o).mono (T:=Has own) fun _ _ h=>h.elim) fun _ _ h=>h,r⟩
theorem each_next {w wr w3:World}{g:Bs→zAT→List (Bs×zAT)→List (Bs×zAT)}{ns:List Bs}{k:Nat}{n:Bs}{D' f:zAA}{own2:Own}(q:zFj w d own D g ns k wr)(hn:ns[k]?=some n)
  (o:(D.each g (ns.take k)).1=D') (b:zAA.each1 g D' n=(f,0)) (c:zCb w3 d f own2) (p:Chg (Has own) w w3) (r:Ext w own own2):zFj w d own D g ns (k+1) w3:=by
 obtain⟨s,_,i,l⟩:=each_round q hn;rw[o]at i;subst i;have j:=l (by rw[b]);obtain⟨m,left,L,c⟩:=c;exact⟨own2,m,left,L,by rw[j,b];exact c,by rw[j,b],p,r⟩
theorem each_calls (h:zCb w d D own)(p:Option Addr)(q:List ByteArray)(c:Nat)(hs:zEs w p q)(hm:q.length≤140737488355328)(aw:∀s∈q,s.size≤9223372036854775807)(av:∀a,p=some a→own a.block=none)
  (fv:Value) (g:Bs→zAT→List (Bs×zAT)→List (Bs×zAT)) (aA:DoesAt fv g d w own) :
  Calls prog 146 #[.pointer (some ⟨d,0,none⟩),.slice p q.length c,fv] w (zDS w d own (D.each g (q.map nm))):=by
 obtain⟨m0,an,L0,h⟩:=h;have t:zFj w d own D g (q.map nm) 0 w:=⟨own,m0,an,L0,by simpa[zAA.each]using h,by simp[zAA.each],Chg.refl _ _,zCf _ _⟩;clear h;have ap:=zh av;have aq:=zh aw;have Hs:=zh hs;clear av aw hs;rcases aA with⟨rfl,rfl⟩|⟨cb,rfl,rfl,ar,au⟩
 ·go_enter func146,ntmps146
  go_wp2
  go_loopw [15] (fun i wr=>∃k:Nat,k≤q.length∧i=.int .i64 k∧zFj w d own D zAA.gSync (q.map nm) k wr) (fun i _=>q.length-(intOf i).toNat)
  case atStart=>exact⟨0,Nat.zero_le _,rfl,t⟩
  case round =>
   clear t;obtain⟨k,hk,rfl,hrel⟩:=hrel
   by_cases B:k<q.length
   ·have ae:q[k]?=some q[k]:=List.getElem?_eq_getElem B;have I:q[k].size≤9223372036854775807:=aq.o _ (List.getElem_mem B);have ac:(q.map nm)[k]?=some (nm q[k]):=by simp[B]
    have E:=hrel;obtain⟨own',m,left,L,G,V,S,hx⟩:=hrel;generalize hD:(D.each zAA.gSync ((q.map nm).take k)).1=D' at *;have z:∃b o,p=some ⟨b,o,none⟩∧wr.cell? ⟨b,o+k,none⟩=some (.string q[k]):=by
     rcases Hs.o with h|⟨b,o,rfl,al⟩
     ·rw[h]at B;simp at B
     ·refine⟨b,o,rfl,S.cell (al k _ ae) ?_⟩;intro hh;exact hh (ap.o ⟨b,o,none⟩ rfl)
    obtain⟨b,o,rfl,z⟩:=z;generalize q[k]=s at *;have H:=G.chg (Chg.alloc wr (.cells #[.string s] 9)) (fun k hk=>hk.elim);have f:=zBj H _ [s] 1 (zBa wr s) (by simp) (by simpa using I);simp only[List.map_cons,List.map_nil]at f;have y:=zh E;have N:=zh ac;have HD:=zh hD;have Hc:=zh S;have Hx:=zh hx;have H0:=zh V;clear E ac hD S hx ae V
    by_cases j:D'.may [nm s]=0
    ·rw[j]at f;have az:=H.c1;cases Q:Sat.get (nm s) L with
     | none =>
      have R:=zBp _ zCB underlying9 underlying113 (zBx _) zCA.fb H.map I Q;have n:=zGC (o:=.cells #[.string s] 9) y.o N.o HD.o (each1_none (g:=zAA.gSync) j (by rw[G.get,Q];rfl)) (by decide);have v:=zh n;have l:=zh f;clear n f H G Q j;go_wp2_with fail;refine l.o.mono ?_;rintro e w' ⟨rfl,rfl⟩;go_wp2_with fail;go_ret;exact v.o
     | some r =>
      have R:=zB8 _ zCB underlying9 underlying113 (zBx _) zCA.fb H.map I Q;have aa:=sync1_calls H s Q;have C:=fun w3 own2=>each_next (w3:=w3) (own2:=own2) y.o N.o HD.o (each1_some (g:=zAA.gSync) j (by rw[G.get,Q];rfl));have ab:=(zDm j).1;have l:=zh f;have ai:=zh aa;have M:=zh C;have aj:=zh ab;clear f H G Q j aa C ab;go_wp2_with fail;refine l.o.mono ?_;rintro e w' ⟨rfl,rfl⟩;go_wp2_with fail;refine ai.o.mono ?_;rintro e w2 ⟨own2,rfl,⟨m2,ao,L2,P⟩,X,af⟩;have A:=zDP P aj.o;have ad:Has own2 d:=has_d P;have Z:=chg_ext Hc.o Hx.o (((Chg.alloc wr _).mono (T:=Has own') fun _ _ h=>h.elim).trans X fun _ _ h=>h);have ag:=ext_trans Hc.o.size Hx.o (fun i hi ho=>af i (by simp;omega) ho);have J:=zh A;have ak:=zh ad;have ah:=zh Z;have W:=zh ag;clear A ad Z ag P X af;go_wp2_with fail;refine J.o.mono ?_;rintro e w3 ⟨rfl,K,Y⟩;have F:=M.o _ _ K (chg_ext ah.o W.o (Y.mono fun i _ e=>by rw[e];exact ak.o)) W.o;have O:=zh F;clear K Y F;go_wp2_with fail;go_roundw
      case rel=>exact⟨k+1,by omega,by go_num,O.o⟩
      case measure=>simp[intOf];omega
    ·have n:=zGC (o:=.cells #[.string s] 9) y.o N.o HD.o (each1_bad (g:=zAA.gSync) j) j;generalize D'.may [nm s]=e at *;have aB:((e:Int) != 0)=true:=by simp;exact j
     have v:=zh n;have l:=zh f;clear n f H G j;go_wp2_with fail;refine l.o.mono ?_;rintro e w' ⟨rfl,rfl⟩;go_wp2_with fail;go_ret;exact v.o
   ·have am:k=q.length:=by omega
    obtain⟨own',m,left,L,G,V,S,hx⟩:=hrel;rw[List.take_of_length_le (by simp;omega)]at G V;have Hd:=zh G;have H0:=zh V;have Hc:=zh S;have Hx:=zh hx;clear G V S hx am;go_wp2_with fail;go_ret;exact⟨own',by rw[H0.o];rfl,⟨m,left,L,Hd.o⟩,Hc.o,Hx.o⟩
 ·have ax:=zh ar;have ay:=zh au;clear ar au
  go_enter func146,ntmps146
  go_wp2
  go_loopw [15] (fun i wr=>∃k:Nat,k≤q.length∧i=.int .i64 k∧zFj w d own D zAA.gRemove (q.map nm) k wr) (fun i _=>q.length-(intOf i).toNat)
  case atStart=>exact⟨0,Nat.zero_le _,rfl,t⟩
  case round =>
   clear t;obtain⟨k,hk,rfl,hrel⟩:=hrel
   by_cases B:k<q.length
   ·have ae:q[k]?=some q[k]:=List.getElem?_eq_getElem B;have I:q[k].size≤9223372036854775807:=aq.o _ (List.getElem_mem B);have ac:(q.map nm)[k]?=some (nm q[k]):=by simp[B]
    have E:=hrel;obtain⟨own',m,left,L,G,V,S,hx⟩:=hrel;generalize hD:(D.each zAA.gRemove ((q.map nm).take k)).1=D' at *;have z:∃b o,p=some ⟨b,o,none⟩∧wr.cell? ⟨b,o+k,none⟩=some (.string q[k]):=by
     rcases Hs.o with h|⟨b,o,rfl,al⟩
     ·rw[h]at B;simp at B
     ·refine⟨b,o,rfl,S.cell (al k _ ae) ?_⟩;intro hh;exact hh (ap.o ⟨b,o,none⟩ rfl)
    obtain⟨b,o,rfl,z⟩:=z;generalize q[k]=s at *;have H:=G.chg (Chg.alloc wr (.cells #[.string s] 9)) (fun k hk=>hk.elim);have f:=zBj H _ [s] 1 (zBa wr s) (by simp) (by simpa using I);simp only[List.map_cons,List.map_nil]at f;have U:(wr.alloc (.cells #[.string s] 9)).cell? ⟨cb,0,none⟩=some (.pointer (some ⟨d,0,none⟩)) :=
     (Chg.alloc wr _).cell (S.cell ax.o fun hh=>hh ay.o) fun h=>h
    have y:=zh E;have N:=zh ac;have HD:=zh hD;have Hc:=zh S;have Hx:=zh hx;have H0:=zh V;clear E ac hD S hx ae V
    by_cases j:D'.may [nm s]=0
    ·rw[j]at f;have az:=H.c1;cases Q:Sat.get (nm s) L with
     | none =>
      have R:=zBp _ zCB underlying9 underlying113 (zBx _) zCA.fb H.map I Q;have n:=zGC (o:=.cells #[.string s] 9) y.o N.o HD.o (each1_none (g:=zAA.gRemove) j (by rw[G.get,Q];rfl)) (by decide);have v:=zh n;have l:=zh f;clear n f H G Q j U;go_wp2_with fail;refine l.o.mono ?_;rintro e w' ⟨rfl,rfl⟩;go_wp2_with fail;go_ret;exact v.o
     | some r =>
      have R:=zB8 _ zCB underlying9 underlying113 (zBx _) zCA.fb H.map I Q;have aa:=remove1_calls H s I Q cb U;have C:=fun w3 own2=>each_next (w3:=w3) (own2:=own2) y.o N.o HD.o (each1_some (g:=zAA.gRemove) j (by rw[G.get,Q];rfl));have ab:=(zDm j).1;have l:=zh f;have ai:=zh aa;have M:=zh C;have aj:=zh ab;clear f H G Q j aa C ab U;go_wp2_with fail;refine l.o.mono ?_;rintro e w' ⟨rfl,rfl⟩;go_wp2_with fail;refine ai.o.mono ?_;rintro e w2 ⟨own2,rfl,⟨m2,ao,L2,P⟩,X,af⟩;have A:=zDP P aj.o;have ad:Has own2 d:=has_d P;have Z:=chg_ext Hc.o Hx.o (((Chg.alloc wr _).mono (T:=Has own') fun _ _ h=>h.elim).trans X fun _ _ h=>h);have ag:=ext_trans Hc.o.size Hx.o (fun i hi ho=>af i (by simp;omega) ho);have J:=zh A;have ak:=zh ad;have ah:=zh Z;have W:=zh ag;clear A ad Z ag P X af;go_wp2_with fail;refine J.o.mono ?_;rintro e w3 ⟨rfl,K,Y⟩;have F:=M.o _ _ K (chg_ext ah.o W.o (Y.mono fun i _ e=>by rw[e];exact ak.o)) W.o;have O:=zh F;clear K Y F;go_wp2_with fail;go_roundw
      case rel=>exact⟨k+1,by omega,by go_num,O.o⟩
      case measure=>simp[intOf];omega
    ·have n:=zGC (o:=.cells #[.string s] 9) y.o N.o HD.o (each1_bad (g:=zAA.gRemove) j) j;generalize D'.may [nm s]=e at *;have aB:((e:Int) != 0)=true:=by simp;exact j
     have v:=zh n;have l:=zh f;clear n f H G j U;go_wp2_with fail;refine l.o.mono ?_;rintro e w' ⟨rfl,rfl⟩;go_wp2_with fail;go_ret;exact v.o
   ·have am:k=q.length:=by omega
    obtain⟨own',m,left,L,G,V,S,hx⟩:=hrel;rw[List.take_of_length_le (by simp;omega)]at G V;have Hd:=zh G;have H0:=zh V;have Hc:=zh S;have Hx:=zh hx;clear G V S hx am;go_wp2_with fail;go_ret;exact⟨own',by rw[H0.o];rfl,⟨m,left,L,Hd.o⟩,Hc.o,Hx.o⟩
theorem sync_calls (h:zCb w d D own)(p:Option Addr)(b:List ByteArray)(c:Nat)(m:zEs w p b)(l:b.length≤140737488355328)(g:∀s∈b,s.size≤9223372036854775807)(f:∀a,p=some a→own a.block=none) :
  Calls prog 130 #[.pointer (some ⟨d,0,none⟩),.slice p b.length c] w (zDS w d own (D.sync (b.map nm))):=by
 have k:=each_calls h p b c m l g f (.func (.func 182) #[] #[]) zAA.gSync (.inl ⟨rfl,rfl⟩);have q:=zh k;clear k h m l g f
 go_enter func130,ntmps130
 go_wp2_with fail;refine q.o.mono ?_;rintro e w' ⟨own',rfl,j,i,n⟩;have r:=zh (And.intro j (And.intro i n));clear j i n;go_wp2_with fail;go_ret;exact⟨own',rfl,r.o⟩
theorem remove_calls (h:zCb w d D own)(p:Option Addr)(g:List ByteArray)(c:Nat)(E:zEs w p g)(C:g.length≤140737488355328)(q:∀s∈g,s.size≤9223372036854775807)(l:∀a,p=some a→own a.block=none) :
  Calls prog 76 #[.pointer (some ⟨d,0,none⟩),.slice p g.length c] w (zDS w d own (D.remove (g.map nm))):=by
 have f:own w.heap.size=none:=by
  obtain⟨m,left,L,h⟩:=h;cases y:own w.heap.size with
  | none=>rfl
  | some t=>have:=h.olt _ t y;omega
 have z:=h.chg (Chg.alloc w (.cells #[.pointer (some ⟨d,0,none⟩)] 23)) (fun _ h=>h.elim);have n:zEs (w.alloc (.cells #[.pointer (some ⟨d,0,none⟩)] 23)) p g:=by
  rcases E with h|⟨b,o,rfl,v⟩
  ·exact .inl h
  ·exact .inr ⟨b,o,rfl,fun i s I=>(Chg.alloc w _).cell (v i s I) fun h=>h⟩
 have B:=each_calls z p g c n C q l (.func (.func 147) #[] #[.pointer (some ⟨w.heap.size,0,none⟩)]) zAA.gRemove (.inr ⟨_,rfl,rfl,zAG (zAI w _) rfl,f⟩);have G:=zh B;clear B h E C q l z n f
 go_enter func76,ntmps76
 go_wp2_with fail;refine G.o.mono ?_;rintro e w' ⟨own',rfl,A,v,F⟩;have j:Chg (Has own) w w':=((Chg.alloc w _).mono (T:=Has own) fun _ _ h=>h.elim).trans v fun _ _ h=>h;have r:Ext w own own':=fun k J y=>F k (by simp;omega) y;have H:=zh (And.intro A (And.intro j r));clear A v F j r;go_wp2_with fail;go_ret;exact⟨own',rfl,H.o⟩
end
end Go.Proofs.YtapfnehdgailmaaGreat
namespace Go.Sat
open Go.RowKit
theorem run_cut {P:Program}(w:World){t e:TypeId}{i:TypeInfo}(l:P.underlying t=some (.slice e))(j:P.info? e=some i)(a:Option Addr)(c b k:Nat)(h:k≤b) :
  (Instr.slice t (.slice a c b) none (some (.int .i64 (k:Int))) (some (.int .i64 (k:Int)))).run P w=.ok (.slice a k k) w:=by
 have f:(Instr.sliceBound (.int .i64 (k:Int)) b .slice3Acap).run P w=.ok k w:=by
  rw[run_sliceBound _ _ _ _ _ (by omega) (by omega)];simp
 have g:(Instr.sliceBound (.int .i64 (k:Int)) k .slice3B).run P w=.ok k w:=by
  rw[run_sliceBound _ _ _ _ _ (by omega) (by omega)];simp
 have d:(if k=0 then a else a.map fun x=>x.add (0*i.size))=a:=by
  split
  ·rfl
  ·cases a<;>simp[Addr.add]
 simp only[Nat.zero_mul]at d;simp[Instr.slice,run_underlying l,Instr.sliceBounds,f,g,sizeOf,typeInfo,j,Result.andThen,d]
theorem OwnR.cut {w:World}{e:TypeId}{p:Option Addr}{n c:Nat}{xs:List Value}(h:OwnR w e 1 (.slice p n c) n xs){k:Nat}(l:k≤n):OwnR w e 1 (.slice p k k) k (xs.take k):=by
 obtain⟨r,h⟩:=h;refine⟨by rw[List.length_take];omega,?_⟩;rcases h with⟨b,q⟩|⟨g,d,cur,b,j,m,f,i,o⟩
 ·cases b;have:k=0:=by omega
  subst this;exact .inl ⟨rfl,rfl⟩
 ·cases b;refine .inr ⟨g,k,cur,rfl,j,Nat.le_refl _,by omega,by omega,?_⟩;rw[←o,List.take_take,Nat.mul_one,Nat.mul_one,Nat.min_eq_left l]
theorem OwnR.cap_le {w:World}{e:TypeId}{p:Option Addr}{n c:Nat}{xs:List Value}(h:OwnR w e 1 (.slice p n c) n xs):n≤c∧c≤maxLen:=by
 rcases h.2 with⟨b,k⟩|⟨g,i,cur,b,l,f,d,j,m⟩
 ·cases b;exact⟨Nat.le_refl _,Nat.zero_le _⟩
 ·cases b;exact⟨f,d⟩
theorem grown_set (w:World)(a:Addr)(u:Value):w.grownBy (w.setCell a u) (some a.block) :=
 ⟨rfl,rfl,rfl,by simp[World.setCell],fun k _ b=>Below.heap_setCell _ _ _ _ fun e=>b (by rw[e])⟩
end Go.Sat
namespace Go.Proofs.YtapfnehdgailmaaGreat
open Go.RowKit Go.Sat Go.Maps
section
variable {w:World} {d m:Nat} {left:Int} {L:List (Bs×zCA)} {own:Own} {D:zAA}
theorem data_le (h:zAa w d m left L own D){n:Bs}{r:zCA}(b:Sat.get n L=some r):r.f.data.length≤1073741824:=by
 have:=h.ok.used;have:=h.ok.room;have:r.f.data.length≤D.used:=by rw[h.used];exact le_sum (f:=fun r:zCA=>r.f.data.length) h.srt b
 omega
/-! ### Read -/
def zCq (o:Option zAT):Bs:=(o.map zAT.data).getD []
def zDe (o:Option zAT):Int:=if o.isSome then 0 else 7
def ReadPost (w:World)(o:Option zAT)(e:Ending)(w':World):Prop :=
 ∃v,e=.returned (.tuple #[v,.int .i64 (zDe o)])∧zAj w' 5 v (zCq o)∧(∀k,v.ownBlock=some k→w.heap.size≤k)∧Below w.heap.size w w'
theorem read_calls (h:zCb w d D own)(s:ByteArray)(n:s.size≤9223372036854775807) :
  Calls prog 75 #[.pointer (some ⟨d,0,none⟩),.string s] w (ReadPost w (Sat.get (nm s) D.files)):=by
 obtain⟨m,left,L,h⟩:=h;have t:=h.c1;rw[h.get];cases c:Sat.get (nm s) L with
 | none =>
  have b:=zBp w zCB underlying9 underlying113 (zBx w) zCA.fb h.map n c;clear h c
  go_enter func75,ntmps75
  go_wp2
  go_ret2
  exact⟨_,rfl,OwnR.nil _ _ _,fun k y=>(by cases y),Below.refl _ _⟩
 | some r =>
  have b:=zB8 w zCB underlying9 underlying113 (zBx w) zCA.fb h.map n c;have j:=h.fileAt c;have z:=zAG (i:=0) j.cells rfl;have f:=zB0 j.row.has (by have:=data_le h c;omega);have g:=zh f;clear h c j f
  go_enter func75,ntmps75
  go_wp2_with fail;refine g.o.mono ?_;rintro e w' ⟨v,rfl,p,hn,l⟩;have q:=zh (And.intro p (And.intro hn l));clear p hn l;go_wp2_with fail
  go_ret2
  exact⟨_,rfl,q.o⟩
/-! ### Fuse -/
theorem ok_fuse {D:zAA}(h:D.OK)(n:Int)(hn:n≤9223372036854775807):(D.setFuse n).OK where
 srt:=h.srt
 room:=h.room
 used:=h.used
 count:=h.count
 names:=h.names
 lasts:=h.lasts
 fuse k b:=by
  simp only[zAA.setFuse]at b
  split at b
  ·cases b
  ·cases b;omega
theorem setTop (h:zAa w d m left L own D){w':World}{b:Int}{D':zAA}(A:w.heap.size≤w'.heap.size)(q:∀k,k≠d→w'.heap[k]?=w.heap[k]?)(_hroom:D'.room=D.room)(i:D'.files=D.files)
  (r:w'.heap[d]?=some (.cells #[.int .i64 (D'.room:Int),.map (some m),.bool D'.fuse.isSome,.int .i64 b] 115 (0,0))) (y:∀k,D'.fuse=some k→b=(k:Int)) (n:D'.OK):zAa w' d m b L own D':=by
 have f:∀k t,own k=some t→t≠(0,[])→w'.heap[k]?=w.heap[k]?:=fun k t o B=>q k fun e=>by
  rw[e,h.od]at o;exact B (Option.some.inj o).symm
 refine⟨r,y,?_,by rw[i];exact h.files,h.srt,fun p a=>?_,h.od,h.om,fun j t v=>Nat.lt_of_lt_of_le (h.olt j t v) A,n⟩
 ·obtain⟨es,l,z,rest⟩:=h.map;exact⟨es,l,(f m _ h.om (by simp)).trans z,rest⟩
 ·have c:=h.file p a;exact⟨(f _ _ c.ob (by simp)).trans c.cells,c.ob,c.row.keep fun g s=>f _ _ (c.og g s) (by simp),c.og⟩
theorem fuse_calls (h:zCb w d D own)(n:Int)(hn:n≤9223372036854775807)(z:-9223372036854775808≤n) :
  Calls prog 40 #[.pointer (some ⟨d,0,none⟩),.int .i64 n] w (Did w d own (D.setFuse n)):=by
 obtain⟨m,left,L,h⟩:=h;have q:=h.c2;have r:=h.c3;have t:=zAE h.cells 2;have v:=zAE h.cells 3;have f:∀(b:Bool) (l:Int),b=(D.setFuse n).fuse.isSome→(∀k,(D.setFuse n).fuse=some k→l=(k:Int))→Did w d own (D.setFuse n) (.returned (.tuple #[])) ((w.setCell ⟨d,2,none⟩ (.bool b)).setCell ⟨d,3,none⟩ (.int .i64 l)):=by
  intro b l p y;refine⟨own,rfl,⟨m,l,L,setTop h (by simp[World.setCell]) (fun k g=>(set_other _ g).trans (set_other _ g)) rfl rfl ?_ y (ok_fuse h.ok n hn)⟩,?_,zCf _ _⟩
  ·rw[zAC (zAC h.cells 2 _) 3,←p];simp[zAA.setFuse]
  ·exact((Chg.setCell w ⟨d,2,none⟩ _).trans (Chg.setCell _ ⟨d,3,none⟩ _) fun _ _ e=>e).mono fun k _ e=>by rw[e];exact has_d h
 have c:=zh f;clear f h
 by_cases j:0≤n
 ·have s:decide (0≤n)=true:=by simpa using j
  go_enter func40,ntmps40
  go_wp2
  go_end0
  refine c.o _ _ ?_ ?_
  ·simp[zAA.setFuse];omega
  ·intro k g;simp only[zAA.setFuse,if_neg (show ¬n<0 by omega),Option.some.injEq]at g;omega
 ·have s:decide (0≤n)=false:=by simpa using j
  have i:n<0:=by omega
  go_enter func40,ntmps40
  go_wp2
  go_end0
  refine c.o _ _ ?_ ?_
  ·simp[zAA.setFuse,i]
  ·intro k g;simp only[zAA.setFuse,if_pos i]at g;cases g
/-! ### Crash -/
def part (rest:Lit→Bool)(k:Int)(b:List (Bs×zAT)):List (Bs×zAT):=b.map fun p=>(p.1,if rest (.string p.1)then p.2 else zAA.crashF k p.2)
theorem zGS {rest:Lit→Bool}{k:Int}{b:List (Bs×zAT)}(h:Srt b):Srt (part rest k b):=by
 unfold Srt part;rw[List.pairwise_map];exact h
theorem part_get (rest:Lit→Bool)(k:Int)(n:Bs)(b:List (Bs×zAT)):Sat.get n (part rest k b)=(Sat.get n b).map fun f=>if rest (.string n)then f else zAA.crashF k f:=by
 unfold part Sat.get;rw[List.find?_map];cases g:List.find? ((fun p:Bs×zAT=>p.1==n) ∘ fun p:Bs×zAT=>(p.1,if rest (.string p.1)then p.2 else zAA.crashF k p.2)) b with
 | none =>
  have:List.find? (fun p:Bs×zAT=>p.1==n) b=none:=g;rw[this];rfl
 | some p =>
  have c:List.find? (fun p:Bs×zAT=>p.1==n) b=some p:=g;have d:=List.find?_some c;simp only[beq_iff_eq]at d;rw[c];simp[d]
theorem part_step {rest:Lit→Bool}{k:Int}{b:List (Bs×zAT)}(h:Srt b){n:Bs}{f:zAT}(d:Sat.get n b=some f) :
  put n (zAA.crashF k f) (part rest k b)=part (fun z=>rest z&& !z.sameKey (.string n)) k b:=by
 refine srt_ext (zBq (zGS h)) (zGS h) fun j=>?_
 by_cases c:j=n
 ·subst c;rw[zBN (zGS h),part_get,d,sk];simp
 ·rw[zBM (zGS h) _ c,part_get,part_get];have:(Lit.string j).sameKey (.string n)=false:=by rw[sk];simpa using c
  rw[this];simp
theorem part_all {rest:Lit→Bool}{k:Int}{b:List (Bs×zAT)}(h:∀p∈b,rest (.string p.1)=true):part rest k b=b:=by
 unfold part
 conv=>rhs;rw[←List.map_id b]
 refine List.map_congr_left fun p c=>?_;rw[h p c];rfl
theorem part_none {rest:Lit→Bool}{k:Int}{b:List (Bs×zAT)}(h:∀z,rest z=false):part rest k b=mp (zAA.crashF k) b:=by
 unfold part mp;refine List.map_congr_left fun p _=>?_;rw[h];rfl
theorem stays_le (f:zAT)(k:Int)(h:f.lasts≤f.data.length):f.lasts≤zAA.stays f k∧zAA.stays f k≤f.data.length:=by
 unfold zAA.stays;have:=Nat.mod_lt (max 0 k).toNat (show 0<f.data.length-f.lasts+1 by omega);omega
theorem ok_part {D:zAA}(h:D.OK)(rest:Lit→Bool)(k:Int):zAA.OK {D with files:=part rest k D.files} where
 srt:=zGS h.srt
 room:=h.room
 used:=by
  refine Nat.le_trans ?_ h.used
  show zBK zAA.size (part rest k D.files)≤zBK zAA.size D.files
  have d:=h.lasts;generalize D.files=f at d
  induction f with
  | nil=>exact Nat.le_refl _
  | cons p r ih =>
   have c:=ih fun q b=>d q (by simp[b]);have g:=d p (by simp);simp only[part,List.map_cons,zBK,List.sum_cons]at c ⊢;have i:zAA.size (if rest (.string p.1)then p.2 else zAA.crashF k p.2)≤zAA.size p.2:=by
    split
    ·exact Nat.le_refl _
    ·simp only[zAA.size,zAA.crashF,List.length_take];omega
   omega
 count:=by
  show(part rest k D.files).length≤4096
  simp only[part,List.length_map];exact h.count
 names p hp:=by
  obtain⟨q,b,rfl⟩:=List.mem_map.1 hp;exact h.names q b
 lasts p hp:=by
  obtain⟨q,b,rfl⟩:=List.mem_map.1 hp;have c:=h.lasts q b
  show zAT.lasts (if rest (.string q.1)then q.2 else zAA.crashF k q.2)≤(if rest (.string q.1)then q.2 else zAA.crashF k q.2).data.length
  split
  ·exact c
  ·have:=stays_le q.2 k c;simp only[zAA.crashF,List.length_take];omega
 fuse:=h.fuse
theorem ok_crash {D:zAA}(h:D.OK)(k:Int):(D.crash k).OK:=by
 have:=ok_part h (fun _=>false) k;rw[part_none fun _=>rfl]at this;exact⟨this.srt,this.room,this.used,this.count,this.names,this.lasts,fun j b=>by simp[zAA.crash]at b⟩
theorem own_none (h:zAa w d m left L own D){k:Nat}(c:w.heap.size≤k):own k=none:=by
 cases b:own k with
 | none=>rfl
 | some t=>have:=h.olt _ t b;omega
structure CrashRel (w:World)(d m:Nat)(left:Int)(L:List (Bs×zCA))(own:Own)(D:zAA)(k:Int)(wr:World):Prop where
 ex:∃rest cnt L' own',wr.ranges prog 9 ptrR m w.heap.size L.length (dm fbD L) rest cnt∧zAa wr d m left L' own' {D with files:=part rest k D.files}∧mp zCA.fb L'=mp zCA.fb L∧Chg (Has own) w wr∧Ext w own own'∧own' w.heap.size=none
theorem crash_walk (h:zAa w d m left L own D)(k:Int)(hk:-9223372036854775808≤k)(aE:k≤9223372036854775807) :
  Calls prog 28 #[.pointer (some ⟨d,0,none⟩),.int .i64 k] w (Did w d own (D.crash k)):=by
 have h1:=h.c1;have y:=h.map;have O:=h.srt;have t:=h.ok;have hL:Hid (zAa w d m left L own D):=h;clear h
 go_enter func28,ntmps28
 go_wp2_with (first|(at_range;refine wpList_range_own _ rfl _ 113 rfl 9 121 zCB underlying113 ptrR m L.length (dm fbD L) rfl y ?_;intro w0 ac ae aw))
 go_frame
 go_loopw [5] (fun _ wr=>CrashRel w d m left L own D k wr) (fun _ wr=>wr.rangeLeft m w.heap.size)
 case atStart =>
  refine⟨_,_,L,own,ac,?_,rfl,(Chg.of_grown ae).mono (fun _ _ e=>by cases e),zCf _ _,own_none hL.o (Nat.le_refl _)⟩;have G:=hL.o.chg (Chg.of_grown ae) (fun _ e=>by cases e);have Q:part (Maps.has (dm fbD L)) k D.files=D.files:=part_all fun p hp=>by
   rw[hL.o.files]at hp;obtain⟨q,hq,rfl⟩:=List.mem_map.1 hp
   show Maps.has (dm fbD L) (.string q.1)=true
   rw[dm_has,zDQ O hq];rfl
  rw[Q];exact G
 case round =>
  obtain⟨rest,ay,L',own',V,G,T,hc,hx,F⟩:=hrel.ex;clear ac ae aw y hrel;go_wp2_with (first|(at_next;refine zFI _ rfl _ rfl 9 underlying9 zCB zCA.fb L m w.heap.size L.length _ _ rfl V ?_ ?_))
  ·intro hl;rw[part_none hl]at G;have aB:=G.c2;have aD:=zAE G.cells 2;have Z:Did w d own (D.crash k) (.returned (.tuple #[])) (wr.setCell ⟨d,2,none⟩ (.bool false)):=by
    refine⟨own',rfl,⟨m,left,L',setTop G (D':=D.crash k) (by simp[World.setCell]) (fun _ hk=>set_other _ hk) rfl rfl ?_ (fun j hj=>by simp[zAA.crash]at hj) (ok_crash t k)⟩,?_,hx⟩
    ·rw[zAC G.cells];simp[zAA.crash]
    ·exact chg_ext hc hx ((Chg.setCell wr ⟨d,2,none⟩ _).mono fun _ _ e=>by rw[e];exact has_d G)
   have aj:=zh Z;clear Z G hc hx T hl V t O F
   go_wp2
   go_end0
   exact aj.o
  ·intro s x w1 ak af hl hs N an U ax aC
   -- the file as it lies now
   have ab:∀j,some j=some w.heap.size→own' j=none:=fun j e=>by
    cases e;exact F
   have S:=G.chg (Chg.of_grown U) ab;obtain⟨r,A,a⟩:∃r,Sat.get (nm s) L'=some r∧r.fb=x.fb:=by
    have Q:(Sat.get (nm s) L').map zCA.fb=some x.fb:=by
     rw[←zGP,T,zGP,show Sat.get (nm s) L=some x from af];rfl
    exact Option.map_eq_some_iff.1 Q
   have J:Sat.get (nm s) D.files=some x.f:=by rw[hL.o.files,zGP,show Sat.get (nm s) L=some x from af];rfl
   have M:r.f=x.f:=by
    have Q:(Sat.get (nm s) L').map zCA.f=some x.f:=by
     rw[←zGP,←G.files,part_get,J];simp only[Option.map_some,show rest (.string (nm s))=true from hl,if_true]
    rw[A]at Q;exact Option.some.inj Q
   have I:=S.fileAt A;have b:=I.cells;rw[M,a]at b;obtain⟨p,c,hv⟩:=zAj.slice I.row;have al:=OwnR.cap_le (by have:=I.row;unfold zAj at this;rw[hv]at this;exact this);rw[M]at hv al;have ag:x.f.lasts≤x.f.data.length:=t.lasts _ (zBu J);have am:=data_le S A;rw[M]at am;have ai:=stays_le x.f k ag;rw[hv]at b;have az:=zAG (i:=0) b rfl;have aA:=zAG (i:=1) b rfl;have aG:=zAE b 0;have aH:=zAE b 1;have C:zAA.stays x.f k=x.f.lasts+(max 0 k).toNat%(x.f.data.length-x.f.lasts+1):=rfl;have Y:∀nq,CrashRel w d m left L own D k (((w1.drewN nq).setCell ⟨x.fb,0,none⟩ (.slice p (zAA.stays x.f k) (zAA.stays x.f k))).setCell ⟨x.fb,1,none⟩ (.int .i64 ((zAA.stays x.f k:Nat):Int))) ∧
     (((w1.drewN nq).setCell ⟨x.fb,0,none⟩ (.slice p (zAA.stays x.f k) (zAA.stays x.f k))).setCell ⟨x.fb,1,none⟩ (.int .i64 ((zAA.stays x.f k:Nat):Int))).rangeLeft m w.heap.size<wr.rangeLeft m w.heap.size:=by
    intro nq;have B:zAa (w1.drewN nq) d m left L' own' {D with files:=part rest k D.files}:=S.keep (Nat.le_refl _) fun _ _=>rfl;have H:(w1.drewN nq).heap[x.fb]?=some (.cells #[.slice p x.f.data.length c,.int .i64 (x.f.lasts:Int)] 123 (0,0)):=b;have aq:OwnR (w1.drewN nq) 5 1 (.slice p x.f.data.length c) x.f.data.length (zAQ x.f.data):=by
     have:=(B.fileAt A).row;rw[M,hv]at this;exact this
    have y:own' x.fb=some (2,nm s):=by
     have:=I.ob;rw[a]at this;exact this
    have ao:∀g,(Value.slice p (zAA.stays x.f k) (zAA.stays x.f k)).ownBlock=some g→g≠x.fb:=fun g E=>by
     have Q:r.v.ownBlock=some g:=by rw[hv,zCH p _ _ (zAA.stays x.f k) (zAA.stays x.f k)];exact E
     exact B.ne_of ((B.fileAt A).og g Q) y (by simp)
    have ah:(x.f.data.take (zAA.stays x.f k)).length=zAA.stays x.f k:=by rw[List.length_take];omega
    have aa:m≠x.fb:=B.ne_of B.om y (by simp);have K:w.heap.size≠x.fb:=fun e=>by rw[e,y]at F;cases F
    obtain⟨P,h4,ar⟩:=B.upd (w':=((w1.drewN nq).setCell ⟨x.fb,0,none⟩ (.slice p (zAA.stays x.f k) (zAA.stays x.f k))).setCell ⟨x.fb,1,none⟩ (.int .i64 ((zAA.stays x.f k:Nat):Int)))
     (v':=.slice p (zAA.stays x.f k) (zAA.stays x.f k)) (f':=zAA.crashF k x.f) A (by simp[World.setCell]) (fun j _ hj _=>by rw[a]at hj;exact(set_other _ hj).trans (set_other _ hj))
     (by rw[a,zAC (zAC H 0 _) 1];simp[zAA.crashF])
     (by
      unfold zAj
      show OwnR _ _ _ _ (x.f.data.take (zAA.stays x.f k)).length _
      rw[ah]
      show OwnR _ _ _ _ _ (zAQ (x.f.data.take (zAA.stays x.f k)))
      rw[zFm];exact OwnR.keep (aq.cut ai.2) fun g E=>(set_other _ (ao g E)).trans (set_other _ (ao g E)))
     (fun g E=>.inl (by rw[hv,zCH p _ _ (zAA.stays x.f k) (zAA.stays x.f k)];exact E))
     (by
      show zAA.OK {D with files:=put (nm s) (zAA.crashF k x.f) (part rest k D.files) }
      rw[part_step t.srt J];exact ok_part t _ k)
    have h5:zAa (((w1.drewN nq).setCell ⟨x.fb,0,none⟩ (.slice p (zAA.stays x.f k) (zAA.stays x.f k))).setCell ⟨x.fb,1,none⟩ (.int .i64 ((zAA.stays x.f k:Nat):Int))) d m left (put (nm s) ⟨r.fb,.slice p (zAA.stays x.f k) (zAA.stays x.f k),zAA.crashF k x.f⟩ L') P
      {D with files:=part (fun z=>rest z&& !z.sameKey (.string (nm s))) k D.files}:=by
     rw[←part_step t.srt J];exact h4
    have g1:=grown_set (w1.drewN nq) ⟨x.fb,0,none⟩ (.slice p (zAA.stays x.f k) (zAA.stays x.f k));have g2:=grown_set ((w1.drewN nq).setCell ⟨x.fb,0,none⟩ (.slice p (zAA.stays x.f k) (zAA.stays x.f k))) ⟨x.fb,1,none⟩ (.int .i64 ((zAA.stays x.f k:Nat):Int));have ap:(w1.drewN nq).ranges prog 9 ptrR m w.heap.size L.length (dm fbD L) (fun z=>rest z&& !z.sameKey (.string s.data.toList)) ak:=N;have ad:=(ap.kept g1 (by simpa using aa) (by simpa using K)).kept g2 (by simpa using aa) (by simpa using K);refine⟨⟨_,_,_,P,ad,h5,?_,?_,?_,?_⟩,?_⟩
    ·rw[mp_put,put_same (mp_srt B.srt) (by rw[zGP,A];rfl),T]
    ·have c1:Chg (fun j=>j=x.fb∨j=w.heap.size) wr w1:=(Chg.of_grown U).mono fun j _ e=>.inr (by cases e;rfl);have c2:Chg (fun j=>j=x.fb∨j=w.heap.size) wr (w1.drewN nq):=⟨c1.os,c1.tape,c1.output,c1.size,c1.block⟩;have c3:=(c2.trans (Chg.of_grown g1) fun j _ e=>.inl (by cases e;rfl)).trans (Chg.of_grown g2) fun j _ e=>.inl (by cases e;rfl);refine hc.trans c3 fun i hi e=>?_;rcases e with e|e
     ·intro ho;have:=hx i hi ho;rw[e,y]at this;cases this
     ·omega
    ·exact ext_trans (Nat.le_trans hc.size U.size) hx ar
    ·exact ar _ (by have:=N.lt;exact this) F
    ·rw[ad.left_eq,V.left_eq];exact an
   have X:=zh Y;have av:=zh ai;have R:=zh C;clear Y G S A a J M hv b hc hx F U N an V T I af hl hs ax ai C O t ab;generalize x.f.data.length=n at *;generalize x.f.lasts=l at *;have e6:wrap64 ((l:Int)+max 0 k%((n:Int)-(l:Int)+1))=((zAA.stays x.f k:Nat):Int):=by
    rw[R.o];have Q:((n:Int)-(l:Int)+1)=((n-l+1:Nat):Int):=by omega
    have e2:max 0 k=(((max 0 k).toNat:Nat):Int):=by omega
    have e3:max 0 k%((n:Int)-(l:Int)+1)=(((max 0 k).toNat%(n-l+1):Nat):Int):=by rw[Q,Int.natCast_emod,←e2]
    have h5:=Nat.mod_lt (max 0 k).toNat (show 0<n-l+1 by omega);rw[e3,IntWalk.wrap64_in _ ⟨by omega,by omega⟩];omega
   have aF:∀W,(Instr.slice 22 (.slice p n c) none (some (.int .i64 ((zAA.stays x.f k:Nat):Int))) (some (.int .i64 ((zAA.stays x.f k:Nat):Int)))).run prog W=.ok (.slice p (zAA.stays x.f k) (zAA.stays x.f k)) W:=fun W=>by
    obtain⟨i0,hi,_⟩:=info_parts (show(prog.info? 5).map (fun i=>(i.zero,i.size,i.bytes))=some (some (.int .u8 0),1,1) by kernel_rfl);exact run_cut W underlying22 hi p n c _ (by have:=av.o;omega)
   have au:=zh e6;clear e6;generalize zAA.stays x.f k=st at *;go_wp2_with fail
   go_quiet (fail)
   rw[au.o];go_wp2_with fail;go_roundw
   case rel=>exact(X.o nq).1
   case measure=>exact(X.o nq).2
end
def St (w w1:World)(d:Nat)(D:zAA)(F:Nat→Prop):Prop :=
 ∃own,zCb w1 d D own∧Below w.heap.size w w1∧(∀k,k<w.heap.size∨F k→own k=none)∧∀k,F k→k<w1.heap.size
def NoF:Nat→Prop:=fun _=>False
theorem St.below {w w1:World}{d:Nat}{D:zAA}{F:Nat→Prop}(h:St w w1 d D F):Below w.heap.size w w1:=let ⟨_,_,h,_⟩:=h;h
theorem St.ok {w w1:World}{d:Nat}{D:zAA}{F:Nat→Prop}(h:St w w1 d D F):D.OK:=let ⟨_,⟨_,_,_,h⟩,_⟩:=h;h.ok
theorem St.move {w w1 w2:World}{d:Nat}{D:zAA}{F F' S:Nat→Prop}(h:St w w1 d D F)(n:Chg S w1 w2)(hS:∀k,k<w1.heap.size→S k→F k∧w.heap.size≤k)(hF:∀k,F' k→(F k∨w1.heap.size≤k)∧k<w2.heap.size):St w w2 d D F':=by
 obtain⟨own,j,f,hn,p⟩:=h;have l:∀k,w1.heap.size≤k→own k=none:=fun k b=>by
  obtain⟨m,left,L,j⟩:=j;exact own_none j b
 refine⟨own,j.chg (n.mono (T:=fun k=>S k∧k<w1.heap.size) fun k b c=>⟨c,b⟩) (fun k c=>hn k (.inr (hS k c.2 c.1).1)),?_,fun k b=>?_,fun k b=>(hF k b).2⟩
 ·exact((Chg.of_below f).trans n fun i o c=>by
   have g:=(hS i (Nat.lt_of_lt_of_le o f.size) c).2;omega).below (Nat.le_refl _) fun _ _=>id
 ·rcases b with b|b
  ·exact hn k (.inl b)
  ·rcases(hF k b).1 with g|g
   ·exact hn k (.inr g)
   ·exact l k g
theorem St.next {w w1 w2:World}{d:Nat}{D:zAA}{F:Nat→Prop}(h:St w w1 d D F)(b:Below w1.heap.size w1 w2):St w w2 d D F :=
 h.move (Chg.of_below b) (fun _ _ h=>h.elim) fun k c=>⟨.inl c,by obtain⟨_,_,_,_,f⟩:=h;exact Nat.lt_of_lt_of_le (f k c) b.size⟩
theorem St.alloc {w w1:World}{d:Nat}{D:zAA}{F:Nat→Prop}(h:St w w1 d D F)(o:Obj):St w (w1.alloc o) d D F:=h.next ((Below.refl _ _).alloc (Nat.le_refl _) o)
theorem St.drewN {w w1:World}{d:Nat}{D:zAA}{F:Nat→Prop}(h:St w w1 d D F)(n:Nat):St w (w1.drewN n) d D F:=h.next ⟨rfl,rfl,rfl,Nat.le_refl _,fun _ _=>rfl⟩
theorem St.noF {w w1:World}{d:Nat}{D:zAA}{F:Nat→Prop}(h:St w w1 d D F):St w w1 d D NoF:=h.move (S:=fun _=>False) (Chg.refl _ _) (fun _ _ h=>h.elim) fun _ h=>h.elim
def Same (F:Nat→Prop)(w1 w2:World):Prop:=∀k,F k→w2.heap[k]?=w1.heap[k]?
theorem St.step {w w1 w2:World}{d:Nat}{own own':Own}{D':zAA}{F:Nat→Prop}(l:Below w.heap.size w w1)(hn:∀k,k<w.heap.size∨F k→own k=none)(j:∀k,F k→k<w1.heap.size)(n:zCb w2 d D' own')(f:Chg (Has own) w1 w2)(m:Ext w1 own own') :
  St w w2 d D' F∧Same F w1 w2:=by
 refine⟨⟨own',n,((Chg.of_below l).trans f fun i o g=>(g (hn i (.inl o))).elim).below (Nat.le_refl _) fun _ _=>id,fun k b=>?_,fun k b=>Nat.lt_of_lt_of_le (j k b) f.size⟩,fun k b=>f.block k (j k b) fun g=>g (hn k (.inr b))⟩;rcases b with c|c
 ·exact m k (Nat.lt_of_lt_of_le c l.size) (hn k (.inl c))
 ·exact m k (j k c) (hn k (.inr c))
theorem zAY.old {w w1:World}{v:Value}{l:Bs}(h:zAY w v l)(b:Below w.heap.size w w1):zAY w1 v l:=h.below b
def Told (w:World)(d:Nat)(F:Nat→Prop)(w1:World)(r:zAA×Nat)(e:Ending)(w':World):Prop:=e=.returned (.int .i64 (r.2:Int))∧St w w' d r.1 F∧Same F w1 w'
def Told0 (w:World)(d:Nat)(F:Nat→Prop)(w1:World)(D:zAA)(e:Ending)(w':World):Prop:=e=.returned (.tuple #[])∧St w w' d D F∧Same F w1 w'
section
variable {w w1:World} {d:Nat} {D:zAA} {F:Nat→Prop}
theorem st_new (n:Int)(f:0≤n)(g:n≤1073741824)(c:Below w.heap.size w w1) :
  Calls prog 13 #[.int .i64 n] w1 fun e w'=>∃d,e=.returned (.tuple #[.pointer (some ⟨d,0,none⟩),.int .i64 0])∧St w w' d (zAA.fresh n.toNat) NoF:=by
 refine(new_calls n w1 f g).mono ?_;rintro e w' ⟨d,own,rfl,j,i,hn⟩;exact⟨d,rfl,own,j,((Chg.of_below c).trans i fun _ _ h=>h).below (Nat.le_refl _) fun _ _=>id,fun k b=>by
  rcases b with b|b
  ·exact hn k (Nat.lt_of_lt_of_le b c.size)
  ·exact b.elim,fun _ h=>h.elim⟩
theorem st_append (h:St w w1 d D F)(s:ByteArray)(x:Value)(ls:List Bs)(g:zBD w1 x ls)(hn:ls.length≤140737488355328)(l:ls.flatten.length≤140737488355328)(f:s.size≤9223372036854775807) :
  Calls prog 15 #[.pointer (some ⟨d,0,none⟩),.string s,x] w1 (Told w d F w1 (D.append (nm s) ls.flatten)):=by
 obtain⟨own,k,i,c,hF⟩:=h;refine(append_calls k s x ls g hn l f).mono ?_;rintro e w' ⟨own',rfl,b,j,g⟩;exact⟨rfl,St.step i c hF b j g⟩
theorem own_new {own:Own}(h:zCb w1 d D own){k:Nat}(b:w1.heap.size≤k):own k=none:=by
 obtain⟨m,left,L,h⟩:=h;exact own_none h b
theorem strs_new (w:World)(b:List ByteArray)(g:Nat)(d:g=w.heap.size)(e:TypeId)(c:Nat×Nat):zEs (w.alloc (.cells (b.map Value.string).toArray e c)) (some ⟨g,0,none⟩) b:=by
 subst d;refine .inr ⟨_,_,rfl,fun i u f=>?_⟩;refine zAG (zAI w _) ?_;simp[f]
theorem st_sync (h:St w w1 d D F)(b:List ByteArray)(g c:Nat)(p:g=w1.heap.size)(f:Nat×Nat)(v:b.length≤140737488355328)(m:∀s∈b,s.size≤9223372036854775807) :
  Calls prog 130 #[.pointer (some ⟨d,0,none⟩),.slice (some ⟨g,0,none⟩) b.length c] (w1.alloc (.cells (b.map Value.string).toArray 9 f)) (Told w d F (w1.alloc (.cells (b.map Value.string).toArray 9 f)) (D.sync (b.map nm))):=by
 obtain⟨own,o,n,l,hF⟩:=h;have j:=o.chg (Chg.alloc w1 (.cells (b.map Value.string).toArray 9 f)) (fun _ h=>h.elim);refine(sync_calls j (some ⟨g,0,none⟩) b c (strs_new w1 b g p _ f) v m (fun a q=>by cases q;exact own_new o (by rw[p];exact Nat.le_refl _))).mono ?_;rintro e w' ⟨own',rfl,i,r,y⟩;exact⟨rfl,St.step (n.alloc n.size _) l (fun k t=>by have:=hF k t;simp;omega) i r y⟩
theorem st_remove (h:St w w1 d D F)(b:List ByteArray)(g c:Nat)(p:g=w1.heap.size)(f:Nat×Nat)(v:b.length≤140737488355328)(m:∀s∈b,s.size≤9223372036854775807) :
  Calls prog 76 #[.pointer (some ⟨d,0,none⟩),.slice (some ⟨g,0,none⟩) b.length c] (w1.alloc (.cells (b.map Value.string).toArray 9 f)) (Told w d F (w1.alloc (.cells (b.map Value.string).toArray 9 f)) (D.remove (b.map nm))):=by
 obtain⟨own,o,n,l,hF⟩:=h;have j:=o.chg (Chg.alloc w1 (.cells (b.map Value.string).toArray 9 f)) (fun _ h=>h.elim);refine(remove_calls j (some ⟨g,0,none⟩) b c (strs_new w1 b g p _ f) v m (fun a q=>by cases q;exact own_new o (by rw[p];exact Nat.le_refl _))).mono ?_;rintro e w' ⟨own',rfl,i,r,y⟩;exact⟨rfl,St.step (n.alloc n.size _) l (fun k t=>by have:=hF k t;simp;omega) i r y⟩
theorem st_crash (h:St w w1 d D F)(k:Int)(l:-9223372036854775808≤k)(c:k≤9223372036854775807) :
  Calls prog 28 #[.pointer (some ⟨d,0,none⟩),.int .i64 k] w1 (Told0 w d F w1 (D.crash k)):=by
 obtain⟨own,⟨m,left,L,j⟩,g,f,hF⟩:=h;refine(crash_walk j k l c).mono ?_;rintro e w' ⟨own',rfl,b,i,n⟩;exact⟨rfl,St.step g f hF b i n⟩
theorem st_fuse (h:St w w1 d D F)(n:Int)(c:-9223372036854775808≤n)(hn:n≤9223372036854775807) :
  Calls prog 40 #[.pointer (some ⟨d,0,none⟩),.int .i64 n] w1 (Told0 w d F w1 (D.setFuse n)):=by
 obtain⟨own,j,g,f,hF⟩:=h;refine(fuse_calls j n hn c).mono ?_;rintro e w' ⟨own',rfl,b,i,k⟩;exact⟨rfl,St.step g f hF b i k⟩
def GotB (w:World)(d:Nat)(D:zAA)(F:Nat→Prop)(w1:World)(o:Option zAT)(e:Ending)(w':World):Prop :=
 ∃v,e=.returned (.tuple #[v,.int .i64 (zDe o)])∧zAj w' 5 v (zCq o)∧(∀k,v.ownBlock=some k→w1.heap.size≤k)∧Below w1.heap.size w1 w'∧St w w' d D F
theorem st_read (h:St w w1 d D F)(s:ByteArray)(i:s.size≤9223372036854775807) :
  Calls prog 75 #[.pointer (some ⟨d,0,none⟩),.string s] w1 (GotB w d D F w1 (Sat.get (nm s) D.files)):=by
 have c:=h;obtain⟨own,f,k,g,hF⟩:=h;refine(read_calls f s i).mono ?_;rintro e w' ⟨v,rfl,j,hn,b⟩;exact⟨v,rfl,j,hn,b,c.next b⟩
end
/-! ### What a law lays itself -/
theorem has_lit {w:World}{e:TypeId}{d:Nat×Nat}(cs:Array Value)(l:Bs)(g n c:Nat)(j:g=w.heap.size)(hn:n=l.length)(h:cs.toList=zAQ l):zAY (w.alloc (.cells cs e d)) (.slice (some ⟨g,0,none⟩) n c) l:=by
 subst j;subst hn;refine⟨by simp[zAQ],some ⟨w.heap.size,0,none⟩,c,rfl,fun e=>(by cases e),fun a f i u b=>?_⟩;cases f;rw[add_zero];refine zAG (zAI w _) ?_;rw[←h]at b;simpa using b
theorem zGJ {w:World}{v:Value}{l:Bs}(h:zAY w v l)(o:Obj):zAY (w.alloc o) v l:=h.chg (Chg.alloc w o) fun _ _=>id
theorem zCM {w:World}{v:Value}{l:Bs}(h:zAY w v l)(e:TypeId)(f:Nat×Nat)(g c:Nat)(k:g=w.heap.size)(j:1≤c):zBD (w.alloc (.cells #[v] e f)) (.slice (some ⟨g,0,none⟩) 1 c) [l]:=by
 subst k;refine⟨_,c,rfl,by simpa using j,fun _=>⟨_,_,[v],rfl,rfl,fun i u b=>?_,fun i u m b d=>?_⟩⟩
 ·rw[add_zero];refine zAG (zAI w _) ?_;simpa using b
 ·have n:i=0:=by
   have:=(List.getElem?_eq_some_iff.1 b).1;simpa using this
  subst n;simp at b d;subst b;subst d;exact(zGJ h _).kit
end Go.Proofs.YtapfnehdgailmaaGreat
namespace Go.Sat
open Go.RowKit
theorem zAY.at {w:World}{v:Value}{l:Bs}(h:zAY w v l):l=[]∨∃b o c,v=.slice (some ⟨b,o,none⟩) l.length c∧∀i x,l[i]?=some x→w.cell? ⟨b,o+i,none⟩=some (.int .u8 (x.toNat:Int)):=by
 obtain⟨p,c,rfl,g,f⟩:=h.kit;cases p with
 | none=>exact .inl (g rfl)
 | some a =>
  cases l with
  | nil=>exact .inl rfl
  | cons x r =>
   obtain⟨b,o,n⟩:=a;have j:=f _ rfl 0 x (by simp);have d:n=none:=by
    have:=World.cell?_spot j;simpa[Addr.add]using this
   subst d;refine .inr ⟨b,o,c,rfl,fun i y m=>?_⟩;have k:=f _ rfl i y m;have e:(⟨b,o,none⟩:Addr).add i=⟨b,o+i,none⟩:=by unfold Addr.add;split<;>simp_all
   rw[←e];exact k
end Go.Sat
namespace Go.Proofs.YtapfnehdgailmaaGreat
open Go.RowKit Go.Sat Go.Maps
theorem take_eq_succ {l m:Bs}{k:Nat}{x y:UInt8}(b:l[k]?=some x)(c:m[k]?=some y)(h:l.take k=m.take k)(e:x=y):l.take (k+1)=m.take (k+1):=by
 rw[List.take_add_one,List.take_add_one,b,c,h,e]
theorem ne_at {l m:Bs}{k:Nat}{x y:UInt8}(c:l[k]?=some x)(b:m[k]?=some y)(e:x≠y):(l==m)=false:=by
 rw[beq_eq_false_iff_ne];rintro rfl;rw[c]at b;exact e (Option.some.inj b)
def SamePost (w:World)(b:Bool)(e:Ending)(w':World):Prop:=e=.returned (.bool b)∧∃n,w'=w.drewN n
def True3 (w:World)(e:Ending)(w':World):Prop:=e=.returned (.bool true)∧Below w.heap.size w w'
def sA:ByteArray:=⟨#[97]⟩
def b5:Bs:=[49,50,51,52,53]
def b3:Bs:=[54,55,56]
def b6:Bs:=[49,50,51,52,53,54]
def K0:zAA:=zAA.fresh 100
def K1:zAA:=(K0.append [97] b5).1
def K2:zAA:=(K1.sync [[97]]).1
def K3:zAA:=(K2.append [97] b3).1
theorem k1:(K0.append (nm sA) [b5].flatten)=(K1,0):=by rfl
theorem k2:(K1.sync ([sA].map nm))=(K2,0):=by rfl
theorem k3:(K2.append (nm sA) [b3].flatten)=(K3,0):=by rfl
theorem k4:Sat.get (nm sA) (K3.crash 1).files=some ⟨b6,6⟩:=by rfl
end Go.Proofs.YtapfnehdgailmaaGreat
namespace Go.Sat
open Go.RowKit
theorem zAM.cut {w:World}{p:Option Addr}{n c:Nat}{xs:List Value}(h:zAM w 1 (.slice p n c) n xs){k:Nat}(m:k≤n)(d:Nat):zAM w 1 (.slice p k d) k (xs.take k):=by
 obtain⟨o,q,f,e,g,l⟩:=h;cases e;refine⟨by rw[List.length_take];omega,p,d,rfl,fun e=>?_,fun a j i u b=>l a j i u ?_⟩
 ·have:=g e;omega
 ·rw[List.getElem?_take]at b
  split at b
  ·exact b
  ·cases b
theorem zAY.cut {w:World}{p:Option Addr}{n c:Nat}{l:Bs}(h:zAY w (.slice p n c) l){k:Nat}(f:k≤l.length)(b:Nat):zAY w (.slice p k b) (l.take k):=by
 obtain⟨i,g,e⟩:=h.slice;cases e;unfold zAY at h ⊢;have d:(l.take k).length=k:=by rw[List.length_take];omega
 rw[d,zFm];exact zAM.cut h f b
theorem zB9 {P:Program}(w:World){t e:TypeId}{i:TypeInfo}(j:P.underlying t=some (.slice e))(g:P.info? e=some i)(a:Option Addr)(c b k:Nat)(h:k≤b) :
  (Instr.slice t (.slice a c b) none (some (.int .i64 (k:Int))) none).run P w=.ok (.slice a k b) w:=by
 have f:(Instr.sliceBound (.int .i64 (k:Int)) b .sliceAcap).run P w=.ok k w:=by
  rw[run_sliceBound _ _ _ _ _ (by omega) (by omega)];simp
 have d:(if b=0 then a else a.map fun x=>x.add (0*i.size))=a:=by
  split
  ·rfl
  ·cases a<;>simp[Addr.add]
 simp only[Nat.zero_mul]at d;simp[Instr.slice,run_underlying j,Instr.sliceBounds,f,sizeOf,typeInfo,g,Result.andThen,d]
theorem zAj.shape {w:World}{e:TypeId}{v:Value}{l:Bs}(h:zAj w e v l):v=.slice none 0 0∨∃g c,v=.slice (some ⟨g,0,none⟩) l.length c:=by
 rcases h.2 with⟨rfl,_⟩|⟨g,b,cur,rfl,_⟩
 ·exact .inl rfl
 ·exact .inr ⟨g,b,rfl⟩
end Go.Sat
namespace Go.Proofs.YtapfnehdgailmaaGreat
open Go.RowKit Go.Sat Go.Maps
theorem zBD.row {w:World}{p:Option Addr}{n c:Nat}{ls:List Bs}(h:zBD w (.slice p n c) ls){k:Nat}(f:k<ls.length) :
  n=ls.length∧∃b o v,p=some ⟨b,o,none⟩∧w.cell? ⟨b,o+k,none⟩=some v∧zAY w v ls[k]:=by
 obtain⟨t,r,e,s,q⟩:=h;cases e;have g:ls≠[]:=fun e=>by rw[e]at f;simp at f
 obtain⟨b,o,vs,rfl,j,l,m⟩:=q g;have d:k<vs.length:=by rw[j];exact f
 have i:(⟨b,o,none⟩:Addr).add k=⟨b,o+k,none⟩:=by unfold Addr.add;split<;>simp_all
 refine⟨rfl,b,o,vs[k],rfl,?_,zAY.of_kit (m k _ _ (List.getElem?_eq_getElem d) (List.getElem?_eq_getElem f))⟩;rw[←i];exact l k _ (List.getElem?_eq_getElem d)
theorem zBD.len {w:World}{p:Option Addr}{n c:Nat}{ls:List Bs}(h:zBD w (.slice p n c) ls):n=ls.length:=by
 obtain⟨d,b,e,_⟩:=h;cases e;rfl
/-! ### The disk behind k rounds -/
theorem flat_take {ls:List Bs}{k:Nat}(b:k<ls.length):(ls.take (k+1)).flatten=(ls.take k).flatten++ls[k]:=by
 rw[List.take_succ_eq_append_getElem b,List.flatten_append];simp
theorem flat_take_le (ls:List Bs)(k:Nat):(ls.take k).flatten.length≤ls.flatten.length:=by
 conv=>rhs;rw[←List.take_append_drop k ls,List.flatten_append,List.length_append]
 omega
end Go.Proofs.YtapfnehdgailmaaGreat
