/- What the program's functions and the document's do, and plain laws, for PZoneStates. -/
import Derived.Lib.SlBytesConst
import Derived.Test.YtmcanphlgkolcaaGreatDoorCA
import Derived.Test.YtmcanphlgkolcaaGreatDoorCB
open Go.Proofs.Tryz
set_option maxRecDepth 100000
set_option maxHeartbeats 64000000
namespace Go.Sat
theorem put_same {α:Type}{L:List (Bs×α)}(h:Srt L){n:Bs}{a:α}(c:get n L=some a):put n a L=L :=
 srt_ext (zBw h) h fun m=>by
  by_cases b:m=n
  ·subst b;rw[zBe h,c]
  ·rw[zBD h a b]
theorem dm_mp {H α:Type}(g:α→DataW H)(f:α→Nat)(d:∀a b,f a=f b→g a=g b){L M:List (Bs×α)}(h:mp f L=mp f M):dm g L=dm g M:=by
 have:∀L M:List (Bs×α),mp f L=mp f M→L.map (fun p=>(Lit.string p.1,g p.2))=M.map (fun p=>(Lit.string p.1,g p.2)):=by
  intro L
  induction L with
  | nil =>
   intro M c;cases M with
   | nil=>rfl
   | cons y s=>simp[mp]at c
  | cons x r ih =>
   intro M c;cases M with
   | nil=>simp[mp]at c
   | cons y s =>
    simp only[mp,List.map_cons,List.cons.injEq,Prod.mk.injEq]at c;obtain⟨⟨i,j⟩,k⟩:=c;simp only[List.map_cons];rw[ih s k,i,d _ _ j]
 unfold dm;rw[this L M h]
end Go.Sat
namespace Go.Proofs.YtmcanphlgkolcaaGreatDoor
open Go.RowKit Go.Sat Go.Maps
theorem fbD_of {a b:zBn}(h:a.fb=b.fb):fbD a=fbD b:=by simp[fbD,h]
section
variable {w:World} {d m:Nat} {left:Int} {L:List (Bs×zBn)} {own:Own} {D:zAD}
theorem zAR.fileAt (h:zAR w d m left L own D){n:Bs}{r:zBn}(b:Sat.get n L=some r):FileAt w own n r:=h.file _ (zBp b)
theorem zAR.ne_of (_h:zAR w d m left L own D){j k:Nat}{s t:Nat×Bs}(c:own j=some s)(f:own k=some t)(b:s≠t):j≠k:=fun e=>by
 rw[e,f]at c;exact b (Option.some.inj c).symm
theorem zAR.upd (h:zAR w d m left L own D){n:Bs}{r:zBn}(I:Sat.get n L=some r){w':World}{v':Value}{f':zAT}
  (Q:w.heap.size≤w'.heap.size) (N:∀k,k<w.heap.size→k≠r.fb→some k≠r.v.ownBlock→w'.heap[k]?=w.heap[k]?)
  (O:w'.heap[r.fb]?=some (.cells #[v',.int .i64 (f'.lasts:Int)] 110 (0,0))) (s:zA4 w' 5 v' f'.data)
  (q:∀g,v'.ownBlock=some g→r.v.ownBlock=some g∨w.heap.size≤g) (E:zAD.OK {D with files:=put n f' D.files}) :
  ∃own',zAR w' d m left (put n ⟨r.fb,v',f'⟩ L) own' {D with files:=put n f' D.files}∧Ext w own own':=by
 have A:=h.fileAt I;have G:∀g,v'.ownBlock=some g→own g=some (3,n)∨own g=none:=fun g b=>by
  rcases q g b with o|o
  ·exact .inl (A.og g o)
  ·cases a:own g with
   | none=>exact .inr rfl
   | some t=>have:=h.olt g t a;omega
 have B:∀g,v'.ownBlock=some g→g<w'.heap.size:=fun g b=>OwnR.lt s b;refine⟨fun k=>if v'.ownBlock=some k then some (3,n)else own k,?_,fun k i a=>?_⟩
 ·have f:∀k t,own k=some t→t≠(2,n)→t≠(3,n)→w'.heap[k]?=w.heap[k]?:=fun k t i M C =>
   N k (h.olt k t i) (fun e=>M (by rw[e,A.ob]at i;exact(Option.some.inj i).symm)) (fun e=>C (by rw[A.og k e.symm]at i;exact(Option.some.inj i).symm))
  have c:∀k t,own k=some t→t≠(3,n)→(if v'.ownBlock=some k then some (3,n)else own k)=some t:=fun k t i C=>by
   rw[if_neg fun e=>?_,i];rcases G k e with o|o
   ·rw[i]at o;exact C (Option.some.inj o)
   ·rw[i]at o;cases o
  refine⟨(f d _ h.od (by simp) (by simp)).trans h.cells,h.left,?_,?_,zBw h.srt,?_,c d _ h.od (by simp),c m _ h.om (by simp),?_,E⟩
  ·have H:mp zBn.fb (put n ⟨r.fb,v',f'⟩ L)=mp zBn.fb L:=by
    rw[mp_put];exact put_same (mp_srt h.srt) (by rw[mp_get,I];rfl)
   have J:(put n (⟨r.fb,v',f'⟩:zBn) L).length=L.length:=by rw[←mp_len zBn.fb,H,mp_len]
   rw[dm_mp fbD zBn.fb (fun _ _=>fbD_of) H,J];obtain⟨es,y,P,rest⟩:=h.map;exact⟨es,y,(f m _ h.om (by simp) (by simp)).trans P,rest⟩
  ·rw[mp_put,←h.files]
  ·intro p F;rcases zBg.1 F with rfl|⟨F,z⟩
   ·refine⟨O,c _ _ A.ob (by simp),s,fun g b=>?_⟩
    show(if v'.ownBlock=some g then some (3,n)else own g)=some (3,n)
    rw[if_pos b]
   ·have j:=h.file p F;refine⟨(f _ _ j.ob (by simpa using z) (by simp)).trans j.cells,c _ _ j.ob (by simp),j.row.keep fun g b=>f g _ (j.og g b) (by simp) (by simpa using z),fun g b=>c _ _ (j.og g b) (by simpa using z)⟩
  ·intro k t i
   split at i
   ·rename_i e
    exact B k e
   ·exact Nat.lt_of_lt_of_le (h.olt k t i) Q
 ·show(if v'.ownBlock=some k then some (3,n)else own k)=none
  rw[if_neg fun e=>?_,a];rcases q k e with o|o
  ·rw[A.og k o]at a;cases a
  ·omega
theorem zAR.add (h:zAR w d m left L own D){n:Bs}(_hg:Sat.get n L=none){w':World}{r:zBn}(J:w.heap.size≤w'.heap.size)(G:∀k,k<w.heap.size→k≠m→w'.heap[k]?=w.heap[k]?)
  (H:∃q,w'.ownsMap prog 9 ptrR m q ((dm fbD L).put (.string n) (fbD r)))
  (C:w'.heap[r.fb]?=some (.cells #[r.v,.int .i64 (r.f.lasts:Int)] 110 (0,0))) (hn:w.heap.size≤r.fb) (s:zA4 w' 5 r.v r.f.data) (B:∀g,r.v.ownBlock=some g→w.heap.size≤g∧g≠r.fb)
  (a:zAD.OK {D with files:=put n r.f D.files}) :
  ∃own',zAR w' d m left (put n r L) own' {D with files:=put n r.f D.files}∧Ext w own own':=by
 have y:∀k,w.heap.size≤k→own k=none:=fun k j=>by
  cases z:own k with
  | none=>rfl
  | some t=>have:=h.olt k t z;omega
 refine⟨fun k=>if k=r.fb then some (2,n)else if r.v.ownBlock=some k then some (3,n)else own k,?_,fun k j z=>?_⟩
 ·have b:∀k t,own k=some t→(if k=r.fb then some (2,n)else if r.v.ownBlock=some k then some (3,n)else own k)=some t:=fun k t j=>by
   have:=h.olt k t j;rw[if_neg (by omega),if_neg (fun e=>by have:=(B k e).1;omega),j]
  have o:∀k t,own k=some t→t≠(1,[])→w'.heap[k]?=w.heap[k]?:=fun k t j F=>G k (h.olt k t j) fun e=>F (by rw[e,h.om]at j;exact(Option.some.inj j).symm);refine⟨(o d _ h.od (by simp)).trans h.cells,h.left,?_,?_,zBw h.srt,?_,b d _ h.od,b m _ h.om,?_,a⟩
  ·obtain⟨q,E⟩:=H;rw[dm_put]at E;have:=exactly E;rwa[dm_size]at this
  ·rw[mp_put,←h.files]
  ·intro p A;rcases zBg.1 A with rfl|⟨A,I⟩
   ·refine⟨C,by simp,s,fun g c=>?_⟩
    show(if g=r.fb then some (2,n)else if r.v.ownBlock=some g then some (3,n)else own g)=some (3,n)
    rw[if_neg (B g c).2,if_pos c]
   ·have i:=h.file p A;exact⟨(o _ _ i.ob (by simp)).trans i.cells,b _ _ i.ob,i.row.keep fun g c=>o g _ (i.og g c) (by simp),fun g c=>b _ _ (i.og g c)⟩
  ·intro k t j
   split at j
   ·rename_i e
    rw[e];exact zAA C
   ·split at j
    ·rename_i e
     exact OwnR.lt s e
    ·exact Nat.lt_of_lt_of_le (h.olt k t j) J
 ·show(if k=r.fb then some (2,n)else if r.v.ownBlock=some k then some (3,n)else own k)=none
  rw[if_neg (by omega),if_neg (fun e=>by have:=(B k e).1;omega),z]
theorem zAR.remap (h:zAR w d m left L own D){w':World}{L':List (Bs×zBn)}{D':zAD}(T:w.heap.size≤w'.heap.size)(R:∀k,k<w.heap.size→k≠m→w'.heap[k]?=w.heap[k]?)
  (S:∃q,w'.ownsMap prog 9 ptrR m q (dm fbD L')) (Q:Srt L') (A:D'.room=D.room) (c:D'.fuse=D.fuse) (j:D'.files=mp zBn.f L') (M:D'.OK)
  (r:∀p∈L',∃q∈L,q.2=p.2) (C:∀p∈L',∀q∈L',p.2.fb=q.2.fb→p=q) :
  ∃own',zAR w' d m left L' own' D'∧Ext w own own':=by
 classical
 -- a name for each block that a file of L' has
 let nameOf:Bs→Option Bs:=fun n=>(L'.find? fun p=>L.any fun q=>decide (q.1=n∧q.2.fb=p.2.fb)).map (·.1)
 have F:∀p∈L',∀q∈L,q.2=p.2→nameOf q.1=some p.1:=by
  intro p E q z e;have J:∃y,(L'.find? fun p=>L.any fun B=>decide (B.1=q.1∧B.2.fb=p.2.fb))=some y:=by
   rw[←Option.isSome_iff_exists,List.find?_isSome];exact⟨p,E,List.any_eq_true.2 ⟨q,z,by simp[e]⟩⟩
  obtain⟨y,O⟩:=J;have I:=List.find?_some O;have P:=List.mem_of_find?_eq_some O;obtain⟨B,b,H⟩:=List.any_eq_true.1 I;simp only[decide_eq_true_eq]at H;have N:B=q:=zEh h.srt b z H.1;have:y=p:=C y P p E (by rw[←H.2,N,e])
  show(L'.find? fun p=>L.any fun B=>decide (B.1=q.1∧B.2.fb=p.2.fb)).map (·.1)=some p.1
  rw[O,this];rfl
 refine⟨fun k=>match own k with
  | some (0,s)=>some (0,s)
  | some (1,s)=>some (1,s)
  | some (t,s)=>(nameOf s).map fun U=>(t,U)
  | none=>none,?_,fun k _ G=>by simp only[G]⟩
 have i:∀k t,own k=some t→t≠(1,[])→w'.heap[k]?=w.heap[k]?:=fun k t o I=>R k (h.olt k t o) fun e=>I (by rw[e,h.om]at o;exact(Option.some.inj o).symm);refine⟨?_,fun k o=>h.left k (by rw[←c];exact o),?_,j,Q,?_,by simp only[h.od],by simp only[h.om],?_,M⟩
 ·rw[i d _ h.od (by simp),h.cells,A,c]
 ·obtain⟨q,z⟩:=S;have:=exactly z;rwa[dm_size]at this
 ·intro p E;obtain⟨q,z,e⟩:=r p E;have b:=h.file q z;have hn:=F p E q z e;rw[e]at b;refine⟨(i _ _ b.ob (by simp)).trans b.cells,?_,b.row.keep fun g v=>i g _ (b.og g v) (by simp),fun g v=>?_⟩
  ·simp only[b.ob,hn];rfl
  ·simp only[b.og g v,hn];rfl
 ·intro k t o;cases G:own k with
  | none=>simp only[G]at o;cases o
  | some s=>exact Nat.lt_of_lt_of_le (h.olt k s G) T
end
def zCt (w:World)(d:Nat)(own:Own)(r:zAD×Nat)(e:Ending)(w':World):Prop :=
 ∃own',e=.returned (.int .i64 (r.2:Int))∧zB6 w' d r.1 own'∧Chg (Has own) w w'∧Ext w own own'
theorem zCX (w:World)(s:ByteArray):zEV (w.alloc (.cells #[.string s] 9)) (some ⟨w.heap.size,0,none⟩) [s]:=by
 refine .inr ⟨_,_,rfl,fun i u b=>?_⟩;have c:i=0:=by
  have:=(List.getElem?_eq_some_iff.1 b).1;simp at this;exact this
 subst c;simp at b;subst b;exact zAB (zAF w _) rfl
theorem zCS (w:World)(own:Own):Ext w own own:=fun _ _ h=>h
section
variable {w:World} {d m:Nat} {left:Int} {L:List (Bs×zBn)} {own:Own} {D:zAD}
theorem append_bad (h:zAR w d m left L own D)(s:ByteArray)(x:Value)(j:s.size≤9223372036854775807)(i:D.may [nm s]≠0) :
  Calls prog 98 #[.pointer (some ⟨d,0,none⟩),.string s,x] w (zCt w d own (D,D.may [nm s])):=by
 have c:=h.chg (Chg.alloc w (.cells #[.string s] 9)) (fun k f=>f.elim);have b:=zBP c _ [s] 1 (zCX w s) (by simp) (by simpa using j);simp only[List.map_cons,List.map_nil]at b;generalize f:D.may [nm s]=k at i b ⊢;have p:((k:Int) != 0)=true:=by simp;exact i
 have H1:=zh c;have n:=zh b;clear h b c i f
 go_enter func98,ntmps98
 go_wp2_with fail;refine n.o.mono ?_;rintro e w' ⟨rfl,rfl⟩;go_wp2_with fail;go_ret;exact⟨own,rfl,⟨m,left,L,H1.o⟩,(Chg.alloc w _).mono (fun _ _ h=>h.elim),zCS _ _⟩
def Still (b:World)(d m:Nat)(left:Int)(L:List (Bs×zBn))(own:Own)(D:zAD)(w:World):Prop:=zAR w d m left L own D∧Below b.heap.size b w
theorem zBh {c w1 f:World}(h:Still c d m left L own D w1)(b:Below w1.heap.size w1 f):Still c d m left L own D f :=
 ⟨h.1.chg (Chg.of_below b) (fun _ i=>i.elim),h.2.trans (b.mono h.2.size)⟩
theorem zDO {w w1:World}{x:Value}{ls:List Bs}(h:zBM w x ls)(A:Below w.heap.size w w1):zBM w1 x ls:=by
 obtain⟨p,c,rfl,B,y⟩:=h;refine⟨p,c,rfl,B,fun n=>?_⟩;obtain⟨b,o,vs,rfl,r,s,t⟩:=y n;have d:∀a v,w.cell? a=some v→w1.cell? a=some v:=fun a v f=>(A.cell (World.block_lt_of_cell? w a f)).trans f;refine⟨b,o,vs,rfl,r,fun i v f=>d _ _ (s i v f),fun i v l f C=>?_⟩;obtain⟨p,k,rfl,q,m⟩:=t i v l f C;exact⟨p,k,rfl,q,fun a z j x D=>d _ _ (m a z j x D)⟩
theorem below2 {S:Nat→Prop}{w b c:World}(h:Below w.heap.size w b)(k:Below b.heap.size b c):Chg S w c :=
 ((Chg.of_below h).trans (Chg.of_below k) fun _ _ h=>h).mono fun _ _ h=>h.elim
theorem append_full (h:zAR w d m left L own D)(s:ByteArray)(x:Value)(ls:List Bs)(Y:zBM w x ls)(hn:ls.length≤140737488355328)(hl:ls.flatten.length≤140737488355328)(z:s.size≤9223372036854775807)(T:D.may [nm s]=0)
  (I:D.room<D.used+ls.flatten.length) :
  Calls prog 98 #[.pointer (some ⟨d,0,none⟩),.string s,x] w (zCt w d own (D,6)):=by
 have t:=(Below.refl w.heap.size w).alloc (Nat.le_refl _) (.cells #[.string s] 9);have C:=h.chg (Chg.alloc w (.cells #[.string s] 9)) (fun k J=>J.elim);have G:=zBP C _ [s] 1 (zCX w s) (by simp) (by simpa using z);simp only[List.map_cons,List.map_nil,T]at G;have S:=zCL (zDO Y t) hn hl;have H1:=zh C;have Hc:=zh G;have Hj:=zh S;have A:=zh t;have hr:=h.ok.room;have X:=h.ok.used;clear h G C T S Y t
 go_enter func98,ntmps98
 go_wp2_with fail;refine Hc.o.mono ?_;rintro e w' ⟨rfl,rfl⟩;go_wp2_with fail;refine Hj.o.mono ?_;rintro e w1 ⟨b,rfl,Q,f⟩;obtain⟨pb,cb,rfl⟩:=zAf.slice Q;clear Q;have v:=H1.o.chg (Chg.of_below f) (fun k J=>J.elim);have ac:=v.c1;have H:=v.c0;obtain⟨fv,M⟩:=run_look_any w1 zBo underlying9 underlying69 (zBc w1) zBn.fb v.map z;have K:Still (w.alloc (.cells #[.string s] 9)) d m left L own D w1.drew:=zBh ⟨v,f⟩ ((Below.refl _ _).drew);have N:=fun W (h:Still (w.alloc (.cells #[.string s] 9)) d m left L own D W)=>zEr h.1;generalize O:D.room=R at I hr X H;generalize P:D.used=U at I X N;generalize ls.flatten.length=n at *;have ad:decide ((R:Int)-(U:Int)<(n:Int))=true:=by simp;omega
 have V:IntKind.i64.wrap ((R:Int)-(U:Int))=(R:Int)-(U:Int):=IntWalk.i64_in _ (by omega);have Z:=zh O;have aa:=zh P;clear O P I v f;generalize a:w.alloc (.cells #[.string s] 9)=w0 at *;have ab:=zh a;clear a;go_wp2_with fail;obtain⟨ι,F,ae,y,r,c⟩:=classOf _ K;have B:∀n,(F n).cell? ⟨d,0,none⟩=some (.int .i64 (R:Int)):=fun n=>by rw[(r n).1.c0,Z.o]
 have i:=zh r;have j:=zh c;clear r c;refine zCB F (by kernel_rfl) (by kernel_rfl) y ?_
 repeat(go_big_quiet_step ((go_at_call 153;refine(N _ (i.o _)).mono ?_;rintro e w2 ⟨rfl,E⟩;exact⟨rfl,j.o _ (zBh (i.o _) E)⟩)))
 refine wpQuiet_nil ?_;rintro _ ⟨q,rfl⟩;have p:=i.o q;clear y B;generalize F q=w2 at p ⊢
 go_wp2
 go_ret;exact⟨own,rfl,⟨m,left,L,p.1⟩,below2 A.o p.2,zCS _ _⟩
theorem zDZ {D:zAD}{ns:List Bs}(h:D.may ns=0):D.fuse≠some 0∧ns.all okN=true:=by
 unfold zAD.may at h
 split at h
 ·cases h
 ·rename_i h1
  refine⟨h1,?_⟩
  split at h
  ·assumption
  ·cases h
theorem ok_append {D:zAD}(h:D.OK){n b:Bs}(o:D.may [n]=0)(m:D.full n b=false):zAD.OK {D with files:=put n ⟨(D.cur n).data++b,(D.cur n).lasts⟩ D.files}:=by
 have hn:okN n=true:=by simpa using (zDZ o).2
 simp only[zAD.full,Bool.or_eq_false_iff,decide_eq_false_iff_not,Bool.and_eq_false_iff]at m;obtain⟨r,k⟩:=m;have i:∀f,Sat.get n D.files=some f→D.cur n=f:=fun f c=>by simp[zAD.cur,c]
 have d:Sat.get n D.files=none→D.cur n=⟨[],0⟩:=fun c=>by simp[zAD.cur,c]
 refine⟨zBw h.srt,h.room,?_,?_,?_,?_,h.fuse⟩
 ·show zA7 zAD.size (put n _ D.files)≤D.room
  rw[sum_put];have q:D.used=zAD.size (D.cur n)+zA7 zAD.size (del n D.files):=by
   cases c:Sat.get n D.files with
   | none=>rw[d c,zCR c];simp[zAD.used,zAD.size]
   | some f=>rw[i f c];exact zC1 h.srt c
  simp only[zAD.size,List.length_append]at q ⊢;omega
 ·show(put n _ D.files).length≤4096
  rw[len_put];cases c:Sat.get n D.files with
  | none =>
   rw[c]at k;simp at k;rw[zCR c];omega
  | some f =>
   have:=len_del h.srt c;have:=h.count;omega
 ·intro p j;rcases zBg.1 j with rfl|⟨j,_⟩
  ·exact hn
  ·exact h.names p j
 ·intro p j;rcases zBg.1 j with rfl|⟨j,_⟩
  ·cases c:Sat.get n D.files with
   | none=>rw[d c];simp
   | some f =>
    rw[i f c];have:f.lasts≤f.data.length:=h.lasts _ (zBp c);simp only[List.length_append];omega
  ·exact h.lasts p j
theorem len_run {W:World}(h:zAR W d m left L own D)(ty:TypeId):(Builtin.len_ #[69] ty #[.map (some m)]).run prog W=.ok (.int .i64 (L.length:Int)) W:=by
 have:=h.map.len underlying69 ty;rwa[dm_size]at this
theorem append_count (h:zAR w d m left L own D)(s:ByteArray)(x:Value)(ls:List Bs)(hx:zBM w x ls)(hn:ls.length≤140737488355328)(hl:ls.flatten.length≤140737488355328)(C:s.size≤9223372036854775807)(hm:D.may [nm s]=0)
  (V:D.used+ls.flatten.length≤D.room) (X:Sat.get (nm s) L=none) (c:4096≤L.length) :
  Calls prog 98 #[.pointer (some ⟨d,0,none⟩),.string s,x] w (zCt w d own (D,6)):=by
 have y:=(Below.refl w.heap.size w).alloc (Nat.le_refl _) (.cells #[.string s] 9);have J:=h.chg (Chg.alloc w (.cells #[.string s] 9)) (fun k Y=>Y.elim);have P:=zBP J _ [s] 1 (zCX w s) (by simp) (by simpa using C);simp only[List.map_cons,List.map_nil,hm]at P;have hj:=zCL (zDO hx y) hn hl;have hr:=h.ok.room;have M:L.length≤4096:=by rw[←h.len];exact h.ok.count
 have H1:=zh J;have Hc:=zh P;have Hj:=zh hj;have G:=zh y;clear h P J hm hj hx y
 go_enter func98,ntmps98
 go_wp2_with fail;refine Hc.o.mono ?_;rintro e w' ⟨rfl,rfl⟩;go_wp2_with fail;refine Hj.o.mono ?_;rintro e w1 ⟨b,rfl,hb,j⟩;obtain⟨pb,cb,rfl⟩:=zAf.slice hb;clear hb;have E:=H1.o.chg (Chg.of_below j) (fun k Y=>Y.elim);have Q:=E.c1;have z:=zBU w1 zBo underlying9 underlying69 (zBc w1) zBn.fb E.map C X;have Z:Still w1 d m left L own D w1.drew:=zBh ⟨E,Below.refl _ _⟩ ((Below.refl _ _).drew);have K:=fun W (h:Still w1 d m left L own D W)=>zEr h.1;generalize hR:D.room=R at V hr;generalize hU:D.used=U at V K;generalize p:L.length=N at c M;generalize ls.flatten.length=n at *;have ac:decide ((R:Int)-(U:Int)<(n:Int))=false:=by simp;omega
 have ab:IntKind.i64.wrap ((R:Int)-(U:Int))=(R:Int)-(U:Int):=IntWalk.i64_in _ (by omega);have aa:decide ((4096:Int)≤(N:Int))=true:=by simp;omega
 have HR:=zh hR;have A:=zh p;have a:=zh j;have Hg:=zh X;clear hR hU V E j X p c;go_wp2_with fail;obtain⟨ι,F,ad,B,f,i⟩:=classOf _ Z;have H:∀n,(F n).cell? ⟨d,0,none⟩=some (.int .i64 (R:Int)):=fun n=>by rw[(f n).1.c0,HR.o]
 have I:∀n,(F n).cell? ⟨d,1,none⟩=some (.map (some m)):=fun n=>(f n).1.c1;have fl:∀n ty,(Builtin.len_ #[69] ty #[.map (some m)]).run prog (F n)=.ok (.int .i64 (N:Int)) (F n):=fun n ty=>by rw[len_run (f n).1 ty,A.o]
 have r:=zh f;have t:=zh i;clear f i Z;refine zCB F (by kernel_rfl) (by kernel_rfl) B ?_
 repeat(go_big_quiet_step ((go_at_call 153;refine(K _ (r.o _)).mono ?_;rintro e w2 ⟨rfl,O⟩;exact⟨rfl,t.o _ (zBh (r.o _) O)⟩)))
 refine wpQuiet_nil ?_;rintro _ ⟨q,rfl⟩;have v:=r.o q;clear B H I fl z Q;generalize F q=w2 at v ⊢
 go_wp2
 go_ret;exact⟨own,rfl,⟨m,left,L,v.1⟩,(below2 (S:=Has own) G.o a.o).trans ((Chg.of_below v.2).mono (T:=Has own) fun _ _ h=>h.elim) fun _ _ h=>h,zCS _ _⟩
theorem append_old (h:zAR w d m left L own D)(s:ByteArray)(x:Value)(ls:List Bs)(hx:zBM w x ls)(hn:ls.length≤140737488355328)(hl:ls.flatten.length≤140737488355328)(am:s.size≤9223372036854775807)(hm:D.may [nm s]=0)
  (hf:D.full (nm s) ls.flatten=false) (r:zBn) (hg:Sat.get (nm s) L=some r) :
  Calls prog 98 #[.pointer (some ⟨d,0,none⟩),.string s,x] w (zCt w d own (zAD.done {D with files:=put (nm s) ⟨r.f.data++ls.flatten,r.f.lasts⟩ D.files},0)):=by
 have K:=(Below.refl w.heap.size w).alloc (Nat.le_refl _) (.cells #[.string s] 9);have h1:=h.chg (Chg.alloc w (.cells #[.string s] 9)) (fun k a=>a.elim);have hc:=zBP h1 _ [s] 1 (zCX w s) (by simp) (by simpa using am);simp only[List.map_cons,List.map_nil,hm]at hc;have hj:=zCL (zDO hx K) hn hl;have O:D.cur (nm s)=r.f:=by simp[zAD.cur,h.get,hg]
 have ab:=ok_append h.ok hm hf;rw[O]at ab;have ai:=(zDZ hm).1;have Q:D.used+ls.flatten.length≤D.room:=by
  simp only[zAD.full,Bool.or_eq_false_iff,decide_eq_false_iff_not]at hf;omega
 have aH:r.f.data.length≤D.used:=by rw[h.used];exact le_sum (f:=fun r:zBn=>r.f.data.length) h.srt hg
 have H1:=zh h1;have Hc:=zh hc;have Hj:=zh hj;have ac:=zh K;have au:=zh ab;have aq:=zh ai;have hr:=h.ok.room;clear h hc h1 hm hj hx K ab O hf ai
 go_enter func98,ntmps98
 go_wp2_with fail;refine Hc.o.mono ?_;rintro e w' ⟨rfl,rfl⟩;go_wp2_with fail;refine Hj.o.mono ?_;rintro e w1 ⟨b,rfl,hb,E⟩;have Hb:=zh hb;obtain⟨pb,cb,rfl⟩:=zAf.slice hb;clear hb;have B:=H1.o.chg (Chg.of_below E) (fun k a=>a.elim);have ax:=B.c1;have ag:=B.c0;have aa:=zBl w1 zBo underlying9 underlying69 (zBc w1) zBn.fb B.map am hg;have ao:Still w1 d m left L own D w1:=⟨B,Below.refl _ _⟩;have HS:Still w1 d m left L own D w1.drew:=zBh ao ((Below.refl _ _).drew);have HU:=fun W (h:Still w1 d m left L own D W)=>zEr h.1;have J:=zh E;generalize hR:D.room=R at Q hr ag;generalize hU:D.used=U at Q HU aH;generalize ak:ls.flatten.length=n at *;have aN:decide ((R:Int)-(U:Int)<(n:Int))=false:=by simp;omega
 have aL:IntKind.i64.wrap ((R:Int)-(U:Int))=(R:Int)-(U:Int):=IntWalk.i64_in _ (by omega);have HR:=zh hR;have aM:=zh hU;have ad:=zh ak;have Hg:=zh hg;clear hR hU B E ak hg;go_wp2_with fail;obtain⟨ι,F,aO,af,Z,C⟩:=classOf _ HS;have av:∀n,(F n).cell? ⟨d,0,none⟩=some (.int .i64 (R:Int)):=fun n=>by rw[(Z n).1.c0,HR.o]
 have V:=zh Z;have X:=zh C;clear Z C;refine zCB F (by kernel_rfl) (by kernel_rfl) af ?_
 repeat(go_big_quiet_step ((go_at_call 153;refine(HU _ (V.o _)).mono ?_;rintro e w2 ⟨rfl,aw⟩;exact⟨rfl,X.o _ (zBh (V.o _) aw)⟩)))
 refine wpQuiet_nil ?_;rintro _ ⟨q,rfl⟩;have A:=V.o q;clear af av aa ax ag HS;generalize F q=w2 at A ⊢;have j:=A.1.fileAt Hg.o;have aA:w2.cell? ⟨r.fb,0,none⟩=some r.v:=zAB j.cells rfl;obtain⟨i0,hi,aI,aJ,aK⟩:=info_parts (show(prog.info? 5).map (fun i=>(i.zero,i.size,i.bytes))=some (some (.int .u8 0),1,1) by kernel_rfl);have H:=j.row;have I:zAf w2 (.slice pb n cb) ls.flatten:=zAf.below Hb.o A.2;unfold zAf at I;rw[ad.o]at I;obtain⟨p1,c1,hv⟩:=zA4.slice H;have N:∀k,r.v.ownBlock=some k→k≠r.fb:=fun k a=>A.1.ne_of (j.og k a) j.ob (by simp);have Y:=zh A;have y:=zh j;have Hv:=zh hv;have ap:=zh I;have ae:=zh H;have M:=zh N;clear j hv H I N A;go_wp2_with (first|(at_builtin;refine zAc w2 rfl (.tmp 61) (.tmp 62) 39 rfl 5 i0 (.int .u8 0) 1 1 underlying39 hi aI aJ aK rfl (by decide) r.v r.f.data.length (zAX r.f.data) rfl ae.o (.slice pb n cb) n (zAX ls.flatten) rfl ap.o (zAZ _) (by unfold maxLen;omega) (by omega) ?_;intro v' w3 p c t;obtain⟨p2,c2,rfl⟩:=OwnR.shape p;have z:=zCK c y.o.cells (fun e=>M.o _ e rfl);have ay:=zAB (i:=0) z rfl;have aC:=zAE z 0;have ar:=zh (And.intro p (And.intro c (And.intro t z)));clear p c t z))
 obtain⟨p,c,t,z⟩:=ar.o;have B:=Y.o.1;have aD:=zAA y.o.cells;have al:∀k,(Value.slice p2 (r.f.data.length+n) c2).ownBlock=some k→k≠r.fb:=fun k a=>by
  rcases t with e|⟨g,e,aj⟩
  ·exact M.o k (by rw[←e];exact a)
  ·rw[e]at a;cases a;omega
 obtain⟨an,h4,P⟩:=B.upd (w':=w3.setCell ⟨r.fb,0,none⟩ (.slice p2 (r.f.data.length+n) c2)) (f':=⟨r.f.data++ls.flatten,r.f.lasts⟩) (v':=.slice p2 (r.f.data.length+n) c2) Hg.o
  (by simpa[World.setCell]using c.size) (fun k a h1 B=>(zAK _ h1).trans (c.block k a B)) (by rw[zAH z];simp)
  (by
   have e1:(r.f.data++ls.flatten).length=r.f.data.length+n:=by rw[List.length_append,ad.o]
   unfold zA4;rw[e1,bytesV_app];exact OwnR.keep p fun k a=>zAK _ (al k a))
  (fun g G=>by
   rcases t with e|⟨g',e,aj⟩
   ·exact .inl (by rw[←e];exact G)
   ·rw[e]at G;cases G;exact .inr aj) au.o
 refine(zCp h4 aq.o).mono ?_;rintro e w5 ⟨rfl,aB,az⟩;have ah:Chg (Has own) w w5:=by
  have aF:Has own d:=by unfold Has;rw[B.od];simp
  have aE:Has own r.fb:=by unfold Has;rw[y.o.ob];simp
  have aG:∀g,r.v.ownBlock=some g→Has own g:=fun g G=>by unfold Has;rw[y.o.og g G];simp
  have k1:Chg (Has own) w w1:=below2 ac.o J.o;have k2:Chg (Has own) w w2:=k1.trans ((Chg.of_below Y.o.2).mono (T:=Has own) fun _ _ h=>h.elim) fun _ _ h=>h;have k3:Chg (Has own) w w3:=k2.trans (Chg.of_grown c) fun i _ e=>aG i e.symm;have c4:Chg (Has own) w (w3.setCell ⟨r.fb,0,none⟩ (.slice p2 (r.f.data.length+n) c2)):=k3.trans (Chg.setCell w3 ⟨r.fb,0,none⟩ (.slice p2 (r.f.data.length+n) c2)) fun i _ e=>by rw[e];exact aE
  exact c4.trans az fun i _ e=>by rw[e];exact aF
 clear p c t z B h4 aD al ay aC;have Hx:=zh P;clear P;go_wp2_with fail;go_ret;exact⟨an,rfl,aB,ah,fun k a=>Hx.o k (Nat.lt_of_lt_of_le a (Nat.le_trans (below2 (S:=fun _=>False) ac.o J.o).size Y.o.2.size))⟩
theorem new_has {b w3:World}{o:Obj}(h:zAR b d m left L own D){v:Value}{l:Bs}(q:zAf b v l)(j:(b.alloc o).grownBy w3 (some m)):zAf w3 v l:=by
 obtain⟨es,c,n,_⟩:=h.map;have f:Chg (fun k=>k=m) b w3:=((Chg.alloc b _).mono (T:=fun k=>k=m) fun _ _ h=>h.elim).trans (Chg.of_grown j) fun i _ e=>by simpa using e
 exact zBH.chg2 q f fun a u p _=>no_cell_map n p
theorem append_new (h:zAR w d m left L own D)(s:ByteArray)(x:Value)(ls:List Bs)(hx:zBM w x ls)(hn:ls.length≤140737488355328)(hl:ls.flatten.length≤140737488355328)(al:s.size≤9223372036854775807)(hm:D.may [nm s]=0)
  (hf:D.full (nm s) ls.flatten=false) (hg:Sat.get (nm s) L=none) :
  Calls prog 98 #[.pointer (some ⟨d,0,none⟩),.string s,x] w (zCt w d own (zAD.done {D with files:=put (nm s) ⟨ls.flatten,0⟩ D.files},0)):=by
 have ah:=(Below.refl w.heap.size w).alloc (Nat.le_refl _) (.cells #[.string s] 9);have h1:=h.chg (Chg.alloc w (.cells #[.string s] 9)) (fun k y=>y.elim);have hc:=zBP h1 _ [s] 1 (zCX w s) (by simp) (by simpa using al);simp only[List.map_cons,List.map_nil,hm]at hc;have hj:=zCL (zDO hx ah) hn hl;have Y:D.cur (nm s)=⟨[],0⟩:=by simp[zAD.cur,h.get,hg]
 have Q:=ok_append h.ok hm hf;rw[Y]at Q;simp only[List.nil_append]at Q;have au:=(zDZ hm).1;have aL:D.used+ls.flatten.length≤D.room∧L.length<4096:=by
  simp only[zAD.full,Bool.or_eq_false_iff,decide_eq_false_iff_not,h.get,hg,h.len,Option.map_none,Option.isNone_none,Bool.true_and]at hf;omega
 obtain⟨K,P⟩:=aL;have hr:=h.ok.room;have H1:=zh h1;have Hc:=zh hc;have Hj:=zh hj;have am:=zh ah;have aB:=zh Q;have ay:=zh au;clear h hc h1 hm hj hx ah Q Y hf au
 go_enter func98,ntmps98
 go_wp2_with fail;refine Hc.o.mono ?_;rintro e w' ⟨rfl,rfl⟩;go_wp2_with fail;refine Hj.o.mono ?_;rintro e w1 ⟨b,rfl,hb,E⟩;have Hb:=zh hb;obtain⟨pb,cb,rfl⟩:=zAf.slice hb;clear hb;have M:=H1.o.chg (Chg.of_below E) (fun k y=>y.elim);have ar:=M.c1;have aj:=zBU w1 zBo underlying9 underlying69 (zBc w1) zBn.fb M.map al hg;have HS:Still w1 d m left L own D w1.drew:=zBh ⟨M,Below.refl _ _⟩ ((Below.refl _ _).drew);have HU:=fun W (h:Still w1 d m left L own D W)=>zEr h.1;generalize hR:D.room=R at K hr;generalize hU:D.used=U at K HU;generalize aa:L.length=N at P;generalize av:ls.flatten.length=n at *;have aW:decide ((R:Int)-(U:Int)<(n:Int))=false:=by simp;omega
 have aT:IntKind.i64.wrap ((R:Int)-(U:Int))=(R:Int)-(U:Int):=IntWalk.i64_in _ (by omega);have aS:decide ((4096:Int)≤(N:Int))=false:=by simp;omega
 have HR:=zh hR;have X:=zh aa;have V:=zh E;have Hg:=zh hg;have ap:=zh av;clear hR hU M E hg aa av;go_wp2_with fail;obtain⟨ι,F,aX,aq,B,C⟩:=classOf _ HS;have aD:∀n,(F n).cell? ⟨d,0,none⟩=some (.int .i64 (R:Int)):=fun n=>by rw[(B n).1.c0,HR.o]
 have aE:∀n,(F n).cell? ⟨d,1,none⟩=some (.map (some m)):=fun n=>(B n).1.c1;have fl:∀n ty,(Builtin.len_ #[69] ty #[.map (some m)]).run prog (F n)=.ok (.int .i64 (N:Int)) (F n):=fun n ty=>by rw[len_run (B n).1 ty,X.o]
 have ad:=zh B;have ae:=zh C;clear B C HS;refine zCB F (by kernel_rfl) (by kernel_rfl) aq ?_
 repeat(go_big_quiet_step ((go_at_call 153;refine(HU _ (ad.o _)).mono ?_;rintro e t ⟨rfl,aF⟩;exact⟨rfl,ae.o _ (zBh (ad.o _) aF)⟩)))
 refine wpQuiet_nil ?_;rintro _ ⟨q,rfl⟩;have a:=ad.o q;clear aq aD aE fl aj ar HU;generalize F q=t at a ⊢;have ar:=a.1.c1;have aU:=a.1.dlt;have hN:L.length<maxLen:=by rw[X.o];unfold maxLen;omega
 have ab:=a.1.map.alloc (.cells #[.slice none 0 0,.int .i64 0] 110);have A:=zh a;have ao:=zh ab;clear a ab;obtain⟨i0,hi,aP,aQ,aR⟩:=info_parts (show(prog.info? 5).map (fun i=>(i.zero,i.size,i.bytes))=some (some (.int .u8 0),1,1) by kernel_rfl);go_wp2_with (first|(at_mapUpdate;refine wpList_mapUpdate_own _ rfl _ _ _ 69 rfl 9 108 zBo underlying69 ptrR m L.length (dm fbD L) rfl ao.o hN _ _ _ rfl rfl (WideMaps.keyOf_string_mk underlying9 al) (.held t.heap.size) [] rfl ?_;intro w3 j p;have I:=zCK p (zAF t _) (by intro e;have h9:=A.o.1.mlt;cases e;omega);have aG:=zAB (i:=0) I rfl;have ag:=zh (And.intro j (And.intro p I));clear j p I)|(at_builtin;have O:=new_has A.o.1 (zAf.below Hb.o A.o.2) ag.o.2.1;unfold zAf at O;rw[ap.o]at O;refine zAc w3 rfl (.tmp 61) (.tmp 62) 39 rfl 5 i0 (.int .u8 0) 1 1 underlying39 hi aP aQ aR rfl (by decide) (.slice none 0 0) 0 [] rfl (OwnR.nil _ _ _) (.slice pb n cb) n (zAX ls.flatten) rfl O (zAZ _) (by unfold maxLen;omega) (by omega) ?_;clear O;intro v' w4 f c v;obtain⟨p2,c2,rfl⟩:=OwnR.shape f;have z:=zCK c ag.o.2.2 (by intro e;cases e);have aH:=zAB (i:=0) z rfl;have aK:=zAE z 0;have az:=zh (And.intro f (And.intro c (And.intro v z)));clear f c v z))
 obtain⟨j,p,_⟩:=ag.o;obtain⟨f,c,v,z⟩:=az.o;have M:=A.o.1;have aN:t.heap.size+1≤w3.heap.size:=by
  have:=p.size;simpa using this
 have aO:=c.size;have ak:∀k,(Value.slice p2 (0+n) c2).ownBlock=some k→t.heap.size≤k∧k≠t.heap.size:=fun k y=>by
  rcases v with e|⟨g,e,aV⟩
  ·rw[e]at y;cases y
  ·rw[e]at y;cases y;omega
 have J:∀k,k<t.heap.size→k≠m→w4.heap[k]?=t.heap[k]?:=fun k y ai=>by
  rw[c.block k (by omega) (by intro e;cases e),p.block k (by simp;omega) (by intro e;cases e;exact ai rfl)];exact heap_alloc_old t _ y
 obtain⟨ax,h4,Z⟩:=M.add (w':=w4.setCell ⟨t.heap.size,0,none⟩ (.slice p2 (0+n) c2)) (r:=⟨t.heap.size,.slice p2 (0+n) c2,⟨ls.flatten,0⟩⟩) Hg.o
  (by simp[World.setCell];omega) (fun k y ai=>(zAK _ (by simp;omega)).trans (J k y ai))
  ⟨_,(j.kept c (by intro e;cases e)).setCell (by have:=M.mlt;simp;omega) _⟩ (by rw[zAH z];simp) (Nat.le_refl _)
  (by
   have e1:ls.flatten.length=0+n:=by rw[ap.o,Nat.zero_add]
   unfold zA4
   show OwnR _ _ _ _ ls.flatten.length _
   rw[e1];exact OwnR.keep f fun k y=>zAK _ (ak k y).2)
  ak aB.o
 have G:Chg (Has own) w (w4.setCell ⟨t.heap.size,0,none⟩ (.slice p2 (0+n) c2)):=by
  have aM:Has own m:=by unfold Has;rw[M.om];simp
  have k1:Chg (Has own) w w1:=below2 am.o V.o;have k2:Chg (Has own) w t:=k1.trans ((Chg.of_below A.o.2).mono (T:=Has own) fun _ _ h=>h.elim) fun _ _ h=>h;have k4:Chg (fun k=>k=m) t w4:=⟨by rw[c.os,p.os];rfl,by rw[c.tape,p.tape];rfl,by rw[c.output,p.output];rfl,by omega,J⟩;have k5:Chg (fun k=>k=m∨t.heap.size≤k) t (w4.setCell ⟨t.heap.size,0,none⟩ (.slice p2 (0+n) c2)):=(k4.mono (T:=fun k=>k=m∨t.heap.size≤k) fun _ _ h=>.inl h).trans (Chg.setCell w4 _ _) fun i _ e=>.inr (by rw[e];exact Nat.le_refl _);have aY:=k2.size;exact k2.trans k5 fun i hi e=>by
   rcases e with e|e
   ·rw[e];exact aM
   ·omega
 have aw:Has own d:=by unfold Has;rw[M.od];simp
 have ac:=Nat.le_trans (below2 (S:=fun _=>False) am.o V.o).size A.o.2.size;simp only[Nat.zero_add]at h4 G;have H:=zCp h4 ay.o;have af:=zh H;have an:=zh G;have Hx:=zh Z;have aA:=zh aw;have aC:=zh ac;clear j p f c v z M aN aO ak J h4 Z G aw ac H aG aH aK;refine af.o.mono ?_;rintro e w5 ⟨rfl,aJ,aI⟩;go_wp2_with fail;go_ret;exact⟨ax,rfl,aJ,an.o.trans aI fun i _ e=>by rw[e];exact aA.o,fun k y=>Hx.o k (Nat.lt_of_lt_of_le y aC.o)⟩
theorem append_calls (h:zB6 w d D own)(s:ByteArray)(x:Value)(ls:List Bs)(p:zBM w x ls)(hn:ls.length≤140737488355328)(o:ls.flatten.length≤140737488355328)(c:s.size≤9223372036854775807) :
  Calls prog 98 #[.pointer (some ⟨d,0,none⟩),.string s,x] w (zCt w d own (D.append (nm s) ls.flatten)):=by
 obtain⟨m,left,L,h⟩:=h;unfold zAD.append
 by_cases i:D.may [nm s]=0
 ·rw[if_neg (by simpa using i)]
  by_cases j:D.full (nm s) ls.flatten=true
  ·rw[if_pos j]
   by_cases q:D.room<D.used+ls.flatten.length
   ·exact append_full h s x ls p hn o c i q
   ·simp only[zAD.full,q,decide_false,Bool.false_or,Bool.and_eq_true,Option.isNone_iff_eq_none,decide_eq_true_eq,h.get,h.len,Option.map_eq_none_iff]at j;exact append_count h s x ls p hn o c i (by omega) j.1 j.2
  ·rw[if_neg j];have k:D.full (nm s) ls.flatten=false:=by simpa using j
   cases n:Sat.get (nm s) L with
   | none =>
    have b:D.cur (nm s)=⟨[],0⟩:=by simp[zAD.cur,h.get,n]
    rw[b];exact append_new h s x ls p hn o c i k n
   | some r =>
    have b:D.cur (nm s)=r.f:=by simp[zAD.cur,h.get,n]
    rw[b];exact append_old h s x ls p hn o c i k r n
 ·rw[if_pos (by simpa using i)];exact append_bad h s x c i
end
def Did (W:World)(d:Nat)(own:Own)(D:zAD)(e:Ending)(w':World):Prop :=
 ∃own',e=.returned (.tuple #[])∧zB6 w' d D own'∧Chg (Has own) W w'∧Ext W own own'
theorem ok_sync {D:zAD}(h:D.OK){n:Bs}{f:zAT}(c:Sat.get n D.files=some f):zAD.OK {D with files:=zAD.gSync n f D.files} where
 srt:=zBw h.srt
 room:=h.room
 used:=by
  show zA7 zAD.size (put n _ D.files)≤D.room
  rw[sum_put];have d:D.used=zAD.size f+zA7 zAD.size (del n D.files):=zC1 h.srt c;have:=h.used;simp only[zAD.size]at d ⊢;omega
 count:=by
  show(put n _ D.files).length≤4096
  rw[len_put];have:=len_del h.srt c;have:=h.count;omega
 names p b:=by
  rcases zBg.1 b with rfl|⟨b,_⟩
  ·exact(h.names (n,f) (zBp c):okN n=true)
  ·exact h.names p b
 lasts p b:=by
  rcases zBg.1 b with rfl|⟨b,_⟩
  ·exact Nat.le_refl _
  ·exact h.lasts p b
 fuse:=h.fuse
theorem ok_del {D:zAD}(h:D.OK)(n:Bs):zAD.OK {D with files:=del n D.files} where
 srt:=zDd h.srt
 room:=h.room
 used:=by
  show zA7 zAD.size (del n D.files)≤D.room
  cases b:Sat.get n D.files with
  | none=>rw[zCR b];exact h.used
  | some f =>
   have c:D.used=zAD.size f+zA7 zAD.size (del n D.files):=zC1 h.srt b;have:=h.used;omega
 count:=Nat.le_trans (len_del_le _ _) h.count
 names p hp:=h.names p (zBJ.1 hp).1
 lasts p hp:=h.lasts p (zBJ.1 hp).1
 fuse:=h.fuse
section
variable {w:World} {d m:Nat} {left:Int} {L:List (Bs×zBn)} {own:Own} {D:zAD}
theorem has_d (h:zAR w d m left L own D):Has own d:=by unfold Has;rw[h.od];simp
theorem has_m (h:zAR w d m left L own D):Has own m:=by unfold Has;rw[h.om];simp
theorem has_f (h:zAR w d m left L own D){n:Bs}{r:zBn}(b:Sat.get n L=some r):Has own r.fb:=by unfold Has;rw[(h.fileAt b).ob];simp
theorem sync1_calls (h:zAR w d m left L own D)(s:ByteArray){r:zBn}(q:Sat.get (nm s) L=some r) :
  Calls prog 156 #[.string s,.pointer (some ⟨r.fb,0,none⟩)] w (Did w d own {D with files:=zAD.gSync (nm s) r.f D.files}):=by
 have b:=h.fileAt q;have E:=zAB (i:=0) b.cells rfl;have F:=zAB (i:=1) b.cells rfl;have I:=zAE b.cells 1;obtain⟨p,c,B⟩:=zA4.slice b.row;have G:r.f.data.length≤1073741824:=by
  have:=h.ok.used;have:=h.ok.room;have:r.f.data.length≤D.used:=by rw[h.used];exact le_sum (f:=fun r:zBn=>r.f.data.length) h.srt q
  omega
 have j:Did w d own {D with files:=zAD.gSync (nm s) r.f D.files} (.returned (.tuple #[])) (w.setCell ⟨r.fb,1,none⟩ (.int .i64 (r.f.data.length:Int))):=by
  have A:∀k,r.v.ownBlock=some k→k≠r.fb:=fun k y=>h.ne_of (b.og k y) b.ob (by simp);obtain⟨z,C,H⟩:=h.upd (w':=w.setCell ⟨r.fb,1,none⟩ (.int .i64 (r.f.data.length:Int))) (v':=r.v) (f':=⟨r.f.data,r.f.data.length⟩) q (by simp[World.setCell]) (fun k _ y _=>zAK _ y)
   (by rw[zAH b.cells];simp) (b.row.keep fun k y=>zAK _ (A k y)) (fun g a=>.inl a) (ok_sync h.ok (by rw[h.get,q];rfl))
  exact⟨z,rfl,⟨m,left,_,C⟩,(Chg.setCell w _ _).mono fun k _ e=>by rw[e];exact has_f h q,H⟩
 rw[B]at E;have t:=zh j;clear j h q b B;generalize r.f.data.length=n at *
 go_enter func156,ntmps156
 go_wp2
 go_end0
 exact t.o
theorem remove1_calls (h:zAR w d m left L own D)(s:ByteArray)(N:s.size≤9223372036854775807){r:zBn}(_hg:Sat.get (nm s) L=some r)(A:Nat)(J:w.cell? ⟨A,0,none⟩=some (.pointer (some ⟨d,0,none⟩))) :
  Calls prog 190 #[.string s,.pointer (some ⟨r.fb,0,none⟩),.pointer (some ⟨A,0,none⟩)] w (Did w d own {D with files:=zAD.gRemove (nm s) r.f D.files}):=by
 have I:=h.c1;have v:=WideMaps.keyOf_string_mk underlying9 N;have j:∀w',w'.ownsMap prog 9 ptrR m L.length ((dm fbD L).del (.string s.data.toList))→w.mapTurned w' m→Did w d own {D with files:=zAD.gRemove (nm s) r.f D.files} (.returned (.tuple #[])) w':=by
  intro w' b O;rw[dm_del]at b;have n:=O.grown;obtain⟨y,H,P⟩:=h.remap (w':=w') (L':=del (nm s) L) (D':={D with files:=del (nm s) D.files}) n.size (fun k M a=>n.block k M (by intro e;cases e;exact a rfl)) ⟨_,b⟩ (zDd h.srt) rfl rfl
   (by rw[mp_del,←h.files]) (ok_del h.ok _) (fun p z=>⟨p,(zBJ.1 z).1,rfl⟩) (fun p z q C e=>by
    have F:=h.file p (zBJ.1 z).1;have G:=h.file q (zBJ.1 C).1;have B:=F.ob;rw[e,G.ob]at B;exact zEh h.srt (zBJ.1 z).1 (zBJ.1 C).1 (by simpa using B.symm))
  exact⟨y,rfl,⟨m,left,_,H⟩,(Chg.of_grown n).mono fun k _ e=>by cases e;exact has_m h,P⟩
 have b:=h.map;have t:=zh j;clear j h _hg
 go_enter func190,ntmps190
 go_wp2_with (first|(at_delete;refine wpList_delete_own _ rfl _ _ 69 9 rfl 108 zBo underlying69 ptrR m L.length (dm fbD L) rfl b _ _ rfl v ?_;intro w1 i c;have E:=zh (t.o _ i c);clear i c))
 go_end0
 exact E.o
theorem each_append (g:Bs→zAT→List (Bs×zAT)→List (Bs×zAT))(D:zAD)(l r:List Bs)(h:(D.each g l).2=0):D.each g (l++r)=(D.each g l).1.each g r:=by
 induction l generalizing D with
 | nil=>rfl
 | cons n l ih =>
  simp only[List.cons_append,zAD.each]at h ⊢
  by_cases b:(zAD.each1 g D n).2=0
  ·rw[if_pos b]at h ⊢;rw[if_pos b];exact ih _ h
  ·rw[if_neg b]at h;exact absurd h b
def zEH (w:World)(d:Nat)(own:Own)(D:zAD)(g:Bs→zAT→List (Bs×zAT)→List (Bs×zAT))(ns:List Bs)(k:Nat)(wr:World):Prop :=
 ∃own' m left L,zAR wr d m left L own' (D.each g (ns.take k)).1∧(D.each g (ns.take k)).2=0∧Chg (Has own) w wr∧Ext w own own'
def DoesAt (b:Value)(g:Bs→zAT→List (Bs×zAT)→List (Bs×zAT))(d:Nat)(w:World)(own:Own):Prop :=
 (b=.func (.func 156) #[] #[]∧g=zAD.gSync) ∨
 ∃cb,b=.func (.func 190) #[] #[.pointer (some ⟨cb,0,none⟩)]∧g=zAD.gRemove∧w.cell? ⟨cb,0,none⟩=some (.pointer (some ⟨d,0,none⟩))∧own cb=none
theorem each_round {w wr:World}{g:Bs→zAT→List (Bs×zAT)→List (Bs×zAT)}{ns:List Bs}{k:Nat}{n:Bs}(q:zEH w d own D g ns k wr)(hn:ns[k]?=some n) :
  ∃D',D.each g ns=(if(zAD.each1 g D' n).2=0 then(zAD.each1 g D' n).1.each g (ns.drop (k+1))else zAD.each1 g D' n)∧(D.each g (ns.take k)).1=D' ∧
   ((zAD.each1 g D' n).2=0→D.each g (ns.take (k+1))=zAD.each1 g D' n):=by
 obtain⟨j,m,left,L,_,f,_⟩:=q;refine⟨_,?_,rfl,fun i=>?_⟩
 ·have c:k<ns.length:=(List.getElem?_eq_some_iff.1 hn).1;have b:ns[k]=n:=(List.getElem?_eq_some_iff.1 hn).2;have o:ns=ns.take k++n::ns.drop (k+1):=by rw[←b,←List.drop_eq_getElem_cons c,List.take_append_drop]
  have p:D.each g ns=D.each g (ns.take k++n::ns.drop (k+1)):=by rw[←o]
  rw[p,each_append g D _ _ f];rfl
 ·have c:k<ns.length:=(List.getElem?_eq_some_iff.1 hn).1;have b:ns[k]=n:=(List.getElem?_eq_some_iff.1 hn).2;rw[List.take_succ_eq_append_getElem c,each_append g D _ _ f,b];simp only[zAD.each,if_pos i];exact Prod.ext rfl i.symm
theorem chg_ext {w wr c:World}{own b:Own}(h:Chg (Has own) w wr)(j:Ext w own b)(k:Chg (Has b) wr c):Chg (Has own) w c :=
 h.trans k fun i d t f=>t (j i d f)
theorem ext_trans {w wr:World}{own b own2:Own}(f:w.heap.size≤wr.heap.size)(h:Ext w own b)(k:Ext wr b own2):Ext w own own2:=fun i c d=>k i (Nat.lt_of_lt_of_le c f) (h i c d)
theorem each1_bad {g:Bs→zAT→List (Bs×zAT)→List (Bs×zAT)}{D:zAD}{n:Bs}(h:D.may [n]≠0):zAD.each1 g D n=(D,D.may [n]):=by
 unfold zAD.each1;rw[if_pos h]
theorem each1_none {g:Bs→zAT→List (Bs×zAT)→List (Bs×zAT)}{D:zAD}{n:Bs}(h:D.may [n]=0)(b:Sat.get n D.files=none):zAD.each1 g D n=(D,7):=by
 unfold zAD.each1;rw[if_neg (by simpa using h),b]
theorem each1_some {g:Bs→zAT→List (Bs×zAT)→List (Bs×zAT)}{D:zAD}{n:Bs}{f:zAT}(h:D.may [n]=0)(b:Sat.get n D.files=some f):zAD.each1 g D n=(zAD.done {D with files:=g n f D.files},0):=by
 unfold zAD.each1;rw[if_neg (by simpa using h),b]
theorem zEc {w wr:World}{g:Bs→zAT→List (Bs×zAT)→List (Bs×zAT)}{ns:List Bs}{k:Nat}{n:Bs}{D':zAD}{e:Nat}{o:Obj}(p:zEH w d own D g ns k wr)(hn:ns[k]?=some n)
  (i:(D.each g (ns.take k)).1=D') (q:zAD.each1 g D' n=(D',e)) (s:e≠0):zCt w d own (D.each g ns) (.returned (.int .i64 (e:Int))) (wr.alloc o):=by
 obtain⟨v,c,f,_⟩:=each_round p hn;rw[i]at f;subst f;rw[q,if_neg s]at c;obtain⟨b,m,left,L,j,y,r,t⟩:=p;rw[i]at j;rw[c];exact⟨b,rfl,⟨m,left,L,j.chg (Chg.alloc wr o) fun _ h=>h.elim⟩,r.trans ((Chg.alloc wr o).mono (T:=Has own) fun _ _ h=>h.elim) fun _ _ h=>h,t⟩
theorem each_next {w wr w3:World}{g:Bs→zAT→List (Bs×zAT)→List (Bs×zAT)}{ns:List Bs}{k:Nat}{n:Bs}{D' f:zAD}{own2:Own}(r:zEH w d own D g ns k wr)(hn:ns[k]?=some n)
  (p:(D.each g (ns.take k)).1=D') (b:zAD.each1 g D' n=(f,0)) (c:zB6 w3 d f own2) (q:Chg (Has own) w w3) (s:Ext w own own2):zEH w d own D g ns (k+1) w3:=by
 obtain⟨t,_,i,o⟩:=each_round r hn;rw[p]at i;subst i;have j:=o (by rw[b]);obtain⟨m,left,L,c⟩:=c;exact⟨own2,m,left,L,by rw[j,b];exact c,by rw[j,b],q,s⟩
theorem each_calls (h:zB6 w d D own)(p:Option Addr)(t:List ByteArray)(c:Nat)(hs:zEV w p t)(hm:t.length≤140737488355328)(ay:∀s∈t,s.size≤9223372036854775807)(ax:∀a,p=some a→own a.block=none)
  (fv:Value) (g:Bs→zAT→List (Bs×zAT)→List (Bs×zAT)) (aC:DoesAt fv g d w own) :
  Calls prog 155 #[.pointer (some ⟨d,0,none⟩),.slice p t.length c,fv] w (zCt w d own (D.each g (t.map nm))):=by
 obtain⟨m0,ap,L0,h⟩:=h;have v:zEH w d own D g (t.map nm) 0 w:=⟨own,m0,ap,L0,by simpa[zAD.each]using h,by simp[zAD.each],Chg.refl _ _,zCS _ _⟩;clear h;have ar:=zh ax;have au:=zh ay;have Hs:=zh hs;clear ax ay hs;rcases aC with⟨rfl,rfl⟩|⟨cb,rfl,rfl,av,aw⟩
 ·go_enter func155,ntmps155
  go_wp2
  go_loopw [15] (fun i wr=>∃k:Nat,k≤t.length∧i=.int .i64 k∧zEH w d own D zAD.gSync (t.map nm) k wr) (fun i _=>t.length-(intOf i).toNat)
  case atStart=>exact⟨0,Nat.zero_le _,rfl,v⟩
  case round =>
   clear v;obtain⟨k,hk,rfl,hrel⟩:=hrel
   by_cases C:k<t.length
   ·have ag:t[k]?=some t[k]:=List.getElem?_eq_getElem C;have M:t[k].size≤9223372036854775807:=au.o _ (List.getElem_mem C);have ae:(t.map nm)[k]?=some (nm t[k]):=by simp[C]
    have F:=hrel;obtain⟨H,m,left,L,I,X,V,hx⟩:=hrel;generalize hD:(D.each zAD.gSync ((t.map nm).take k)).1=D' at *;have A:∃b o,p=some ⟨b,o,none⟩∧wr.cell? ⟨b,o+k,none⟩=some (.string t[k]):=by
     rcases Hs.o with h|⟨b,o,rfl,an⟩
     ·rw[h]at C;simp at C
     ·refine⟨b,o,rfl,V.cell (an k _ ag) ?_⟩;intro hh;exact hh (ar.o ⟨b,o,none⟩ rfl)
    obtain⟨b,o,rfl,A⟩:=A;generalize t[k]=s at *;have J:=I.chg (Chg.alloc wr (.cells #[.string s] 9)) (fun k hk=>hk.elim);have f:=zBP J _ [s] 1 (zCX wr s) (by simp) (by simpa using M);simp only[List.map_cons,List.map_nil]at f;have z:=zh F;have P:=zh ae;have HD:=zh hD;have Hc:=zh V;have Hx:=zh hx;have H0:=zh X;clear F ae hD V hx ag X
    by_cases j:D'.may [nm s]=0
    ·rw[j]at f;have aB:=J.c1;cases S:Sat.get (nm s) L with
     | none =>
      have U:=zBU _ zBo underlying9 underlying69 (zBc _) zBn.fb J.map M S;have q:=zEc (o:=.cells #[.string s] 9) z.o P.o HD.o (each1_none (g:=zAD.gSync) j (by rw[I.get,S];rfl)) (by decide);have y:=zh q;have n:=zh f;clear q f J I S j;go_wp2_with fail;refine n.o.mono ?_;rintro e w' ⟨rfl,rfl⟩;go_wp2_with fail;go_ret;exact y.o
     | some r =>
      have U:=zBl _ zBo underlying9 underlying69 (zBc _) zBn.fb J.map M S;have ac:=sync1_calls J s S;have E:=fun w3 own2=>each_next (w3:=w3) (own2:=own2) z.o P.o HD.o (each1_some (g:=zAD.gSync) j (by rw[I.get,S];rfl));have ad:=(zDZ j).1;have n:=zh f;have ak:=zh ac;have O:=zh E;have al:=zh ad;clear f J I S j ac E ad;go_wp2_with fail;refine n.o.mono ?_;rintro e w' ⟨rfl,rfl⟩;go_wp2_with fail;refine ak.o.mono ?_;rintro e w2 ⟨own2,rfl,⟨m2,aq,L2,R⟩,Z,ah⟩;have B:=zCp R al.o;have af:Has own2 d:=has_d R;have aa:=chg_ext Hc.o Hx.o (((Chg.alloc wr _).mono (T:=Has H) fun _ _ h=>h.elim).trans Z fun _ _ h=>h);have ai:=ext_trans Hc.o.size Hx.o (fun i hi ho=>ah i (by simp;omega) ho);have N:=zh B;have am:=zh af;have aj:=zh aa;have Y:=zh ai;clear B af aa ai R Z ah;go_wp2_with fail;refine N.o.mono ?_;rintro e w3 ⟨rfl,ab,K⟩;have G:=O.o _ _ ab (chg_ext aj.o Y.o (K.mono fun i _ e=>by rw[e];exact am.o)) Y.o;have Q:=zh G;clear ab K G;go_wp2_with fail;go_roundw
      case rel=>exact⟨k+1,by omega,by go_num,Q.o⟩
      case measure=>simp[intOf];omega
    ·have q:=zEc (o:=.cells #[.string s] 9) z.o P.o HD.o (each1_bad (g:=zAD.gSync) j) j;generalize D'.may [nm s]=e at *;have aD:((e:Int) != 0)=true:=by simp;exact j
     have y:=zh q;have n:=zh f;clear q f J I j;go_wp2_with fail;refine n.o.mono ?_;rintro e w' ⟨rfl,rfl⟩;go_wp2_with fail;go_ret;exact y.o
   ·have ao:k=t.length:=by omega
    obtain⟨H,m,left,L,I,X,V,hx⟩:=hrel;rw[List.take_of_length_le (by simp;omega)]at I X;have Hd:=zh I;have H0:=zh X;have Hc:=zh V;have Hx:=zh hx;clear I X V hx ao;go_wp2_with fail;go_ret;exact⟨H,by rw[H0.o];rfl,⟨m,left,L,Hd.o⟩,Hc.o,Hx.o⟩
 ·have az:=zh av;have aA:=zh aw;clear av aw
  go_enter func155,ntmps155
  go_wp2
  go_loopw [15] (fun i wr=>∃k:Nat,k≤t.length∧i=.int .i64 k∧zEH w d own D zAD.gRemove (t.map nm) k wr) (fun i _=>t.length-(intOf i).toNat)
  case atStart=>exact⟨0,Nat.zero_le _,rfl,v⟩
  case round =>
   clear v;obtain⟨k,hk,rfl,hrel⟩:=hrel
   by_cases C:k<t.length
   ·have ag:t[k]?=some t[k]:=List.getElem?_eq_getElem C;have M:t[k].size≤9223372036854775807:=au.o _ (List.getElem_mem C);have ae:(t.map nm)[k]?=some (nm t[k]):=by simp[C]
    have F:=hrel;obtain⟨H,m,left,L,I,X,V,hx⟩:=hrel;generalize hD:(D.each zAD.gRemove ((t.map nm).take k)).1=D' at *;have A:∃b o,p=some ⟨b,o,none⟩∧wr.cell? ⟨b,o+k,none⟩=some (.string t[k]):=by
     rcases Hs.o with h|⟨b,o,rfl,an⟩
     ·rw[h]at C;simp at C
     ·refine⟨b,o,rfl,V.cell (an k _ ag) ?_⟩;intro hh;exact hh (ar.o ⟨b,o,none⟩ rfl)
    obtain⟨b,o,rfl,A⟩:=A;generalize t[k]=s at *;have J:=I.chg (Chg.alloc wr (.cells #[.string s] 9)) (fun k hk=>hk.elim);have f:=zBP J _ [s] 1 (zCX wr s) (by simp) (by simpa using M);simp only[List.map_cons,List.map_nil]at f;have W:(wr.alloc (.cells #[.string s] 9)).cell? ⟨cb,0,none⟩=some (.pointer (some ⟨d,0,none⟩)) :=
     (Chg.alloc wr _).cell (V.cell az.o fun hh=>hh aA.o) fun h=>h
    have z:=zh F;have P:=zh ae;have HD:=zh hD;have Hc:=zh V;have Hx:=zh hx;have H0:=zh X;clear F ae hD V hx ag X
    by_cases j:D'.may [nm s]=0
    ·rw[j]at f;have aB:=J.c1;cases S:Sat.get (nm s) L with
     | none =>
      have U:=zBU _ zBo underlying9 underlying69 (zBc _) zBn.fb J.map M S;have q:=zEc (o:=.cells #[.string s] 9) z.o P.o HD.o (each1_none (g:=zAD.gRemove) j (by rw[I.get,S];rfl)) (by decide);have y:=zh q;have n:=zh f;clear q f J I S j W;go_wp2_with fail;refine n.o.mono ?_;rintro e w' ⟨rfl,rfl⟩;go_wp2_with fail;go_ret;exact y.o
     | some r =>
      have U:=zBl _ zBo underlying9 underlying69 (zBc _) zBn.fb J.map M S;have ac:=remove1_calls J s M S cb W;have E:=fun w3 own2=>each_next (w3:=w3) (own2:=own2) z.o P.o HD.o (each1_some (g:=zAD.gRemove) j (by rw[I.get,S];rfl));have ad:=(zDZ j).1;have n:=zh f;have ak:=zh ac;have O:=zh E;have al:=zh ad;clear f J I S j ac E ad W;go_wp2_with fail;refine n.o.mono ?_;rintro e w' ⟨rfl,rfl⟩;go_wp2_with fail;refine ak.o.mono ?_;rintro e w2 ⟨own2,rfl,⟨m2,aq,L2,R⟩,Z,ah⟩;have B:=zCp R al.o;have af:Has own2 d:=has_d R;have aa:=chg_ext Hc.o Hx.o (((Chg.alloc wr _).mono (T:=Has H) fun _ _ h=>h.elim).trans Z fun _ _ h=>h);have ai:=ext_trans Hc.o.size Hx.o (fun i hi ho=>ah i (by simp;omega) ho);have N:=zh B;have am:=zh af;have aj:=zh aa;have Y:=zh ai;clear B af aa ai R Z ah;go_wp2_with fail;refine N.o.mono ?_;rintro e w3 ⟨rfl,ab,K⟩;have G:=O.o _ _ ab (chg_ext aj.o Y.o (K.mono fun i _ e=>by rw[e];exact am.o)) Y.o;have Q:=zh G;clear ab K G;go_wp2_with fail;go_roundw
      case rel=>exact⟨k+1,by omega,by go_num,Q.o⟩
      case measure=>simp[intOf];omega
    ·have q:=zEc (o:=.cells #[.string s] 9) z.o P.o HD.o (each1_bad (g:=zAD.gRemove) j) j;generalize D'.may [nm s]=e at *;have aD:((e:Int) != 0)=true:=by simp;exact j
     have y:=zh q;have n:=zh f;clear q f J I j W;go_wp2_with fail;refine n.o.mono ?_;rintro e w' ⟨rfl,rfl⟩;go_wp2_with fail;go_ret;exact y.o
   ·have ao:k=t.length:=by omega
    obtain⟨H,m,left,L,I,X,V,hx⟩:=hrel;rw[List.take_of_length_le (by simp;omega)]at I X;have Hd:=zh I;have H0:=zh X;have Hc:=zh V;have Hx:=zh hx;clear I X V hx ao;go_wp2_with fail;go_ret;exact⟨H,by rw[H0.o];rfl,⟨m,left,L,Hd.o⟩,Hc.o,Hx.o⟩
theorem sync_calls (h:zB6 w d D own)(p:Option Addr)(b:List ByteArray)(c:Nat)(r:zEV w p b)(q:b.length≤140737488355328)(i:∀s∈b,s.size≤9223372036854775807)(f:∀a,p=some a→own a.block=none) :
  Calls prog 99 #[.pointer (some ⟨d,0,none⟩),.slice p b.length c] w (zCt w d own (D.sync (b.map nm))):=by
 have n:=each_calls h p b c r q i f (.func (.func 156) #[] #[]) zAD.gSync (.inl ⟨rfl,rfl⟩);have v:=zh n;clear n h r q i f
 go_enter func99,ntmps99
 go_wp2_with fail;refine v.o.mono ?_;rintro e w' ⟨j,rfl,m,k,t⟩;have y:=zh (And.intro m (And.intro k t));clear m k t;go_wp2_with fail;go_ret;exact⟨j,rfl,y.o⟩
theorem remove_calls (h:zB6 w d D own)(p:Option Addr)(n:List ByteArray)(c:Nat)(H:zEV w p n)(G:n.length≤140737488355328)(y:∀s∈n,s.size≤9223372036854775807)(r:∀a,p=some a→own a.block=none) :
  Calls prog 140 #[.pointer (some ⟨d,0,none⟩),.slice p n.length c] w (zCt w d own (D.remove (n.map nm))):=by
 have f:own w.heap.size=none:=by
  obtain⟨m,left,L,h⟩:=h;cases B:own w.heap.size with
  | none=>rfl
  | some t=>have:=h.olt _ t B;omega
 have C:=h.chg (Chg.alloc w (.cells #[.pointer (some ⟨d,0,none⟩)] 30)) (fun _ h=>h.elim);have v:zEV (w.alloc (.cells #[.pointer (some ⟨d,0,none⟩)] 30)) p n:=by
  rcases H with h|⟨b,o,rfl,A⟩
  ·exact .inl h
  ·exact .inr ⟨b,o,rfl,fun i s N=>(Chg.alloc w _).cell (A i s N) fun h=>h⟩
 have F:=each_calls C p n c v G y r (.func (.func 190) #[] #[.pointer (some ⟨w.heap.size,0,none⟩)]) zAD.gRemove (.inr ⟨_,rfl,rfl,zAB (zAF w _) rfl,f⟩);have J:=zh F;clear F h H G y r C v f
 go_enter func140,ntmps140
 go_wp2_with fail;refine J.o.mono ?_;rintro e w' ⟨j,rfl,E,A,I⟩;have q:Chg (Has own) w w':=((Chg.alloc w _).mono (T:=Has own) fun _ _ h=>h.elim).trans A fun _ _ h=>h;have z:Ext w own j:=fun k O B=>I k (by simp;omega) B;have M:=zh (And.intro E (And.intro q z));clear E A I q z;go_wp2_with fail;go_ret;exact⟨j,rfl,M.o⟩
end
end Go.Proofs.YtmcanphlgkolcaaGreatDoor
namespace Go.Sat
open Go.RowKit
theorem run_cut {P:Program}(w:World){t e:TypeId}{i:TypeInfo}(n:P.underlying t=some (.slice e))(m:P.info? e=some i)(a:Option Addr)(c b k:Nat)(h:k≤b) :
  (Instr.slice t (.slice a c b) none (some (.int .i64 (k:Int))) (some (.int .i64 (k:Int)))).run P w=.ok (.slice a k k) w:=by
 have f:(Instr.sliceBound (.int .i64 (k:Int)) b .slice3Acap).run P w=.ok k w:=by
  rw[run_sliceBound _ _ _ _ _ (by omega) (by omega)];simp
 have j:(Instr.sliceBound (.int .i64 (k:Int)) k .slice3B).run P w=.ok k w:=by
  rw[run_sliceBound _ _ _ _ _ (by omega) (by omega)];simp
 have d:(if k=0 then a else a.map fun x=>x.add (0*i.size))=a:=by
  split
  ·rfl
  ·cases a<;>simp[Addr.add]
 simp only[Nat.zero_mul]at d;simp[Instr.slice,run_underlying n,Instr.sliceBounds,f,j,sizeOf,typeInfo,m,Result.andThen,d]
theorem OwnR.cut {w:World}{e:TypeId}{p:Option Addr}{n c:Nat}{xs:List Value}(h:OwnR w e 1 (.slice p n c) n xs){k:Nat}(m:k≤n):OwnR w e 1 (.slice p k k) k (xs.take k):=by
 obtain⟨s,h⟩:=h;refine⟨by rw[List.length_take];omega,?_⟩;rcases h with⟨b,r⟩|⟨g,d,cur,b,j,o,f,i,q⟩
 ·cases b;have:k=0:=by omega
  subst this;exact .inl ⟨rfl,rfl⟩
 ·cases b;refine .inr ⟨g,k,cur,rfl,j,Nat.le_refl _,by omega,by omega,?_⟩;rw[←q,List.take_take,Nat.mul_one,Nat.mul_one,Nat.min_eq_left m]
theorem OwnR.cap_le {w:World}{e:TypeId}{p:Option Addr}{n c:Nat}{xs:List Value}(h:OwnR w e 1 (.slice p n c) n xs):n≤c∧c≤maxLen:=by
 rcases h.2 with⟨b,k⟩|⟨g,i,cur,b,m,f,d,j,o⟩
 ·cases b;exact⟨Nat.le_refl _,Nat.zero_le _⟩
 ·cases b;exact⟨f,d⟩
theorem grown_set (w:World)(a:Addr)(u:Value):w.grownBy (w.setCell a u) (some a.block) :=
 ⟨rfl,rfl,rfl,by simp[World.setCell],fun k _ b=>Below.heap_setCell _ _ _ _ fun e=>b (by rw[e])⟩
end Go.Sat
namespace Go.Proofs.YtmcanphlgkolcaaGreatDoor
open Go.RowKit Go.Sat Go.Maps
section
variable {w:World} {d m:Nat} {left:Int} {L:List (Bs×zBn)} {own:Own} {D:zAD}
theorem data_le (h:zAR w d m left L own D){n:Bs}{r:zBn}(b:Sat.get n L=some r):r.f.data.length≤1073741824:=by
 have:=h.ok.used;have:=h.ok.room;have:r.f.data.length≤D.used:=by rw[h.used];exact le_sum (f:=fun r:zBn=>r.f.data.length) h.srt b
 omega
/-! ### Read -/
def zDo (o:Option zAT):Bs:=(o.map zAT.data).getD []
def readE (o:Option zAT):Int:=if o.isSome then 0 else 7
def ReadPost (w:World)(o:Option zAT)(e:Ending)(w':World):Prop :=
 ∃v,e=.returned (.tuple #[v,.int .i64 (readE o)])∧zA4 w' 5 v (zDo o)∧(∀k,v.ownBlock=some k→w.heap.size≤k)∧Below w.heap.size w w'
theorem read_calls (h:zB6 w d D own)(s:ByteArray)(q:s.size≤9223372036854775807) :
  Calls prog 136 #[.pointer (some ⟨d,0,none⟩),.string s] w (ReadPost w (Sat.get (nm s) D.files)):=by
 obtain⟨m,left,L,h⟩:=h;have z:=h.c1;rw[h.get];cases c:Sat.get (nm s) L with
 | none =>
  have b:=zBU w zBo underlying9 underlying69 (zBc w) zBn.fb h.map q c;clear h c
  go_enter func136,ntmps136
  go_wp2
  go_ret2
  exact⟨_,rfl,OwnR.nil _ _ _,fun k a=>(by cases a),Below.refl _ _⟩
 | some r =>
  have b:=zBl w zBo underlying9 underlying69 (zBc w) zBn.fb h.map q c;have n:=h.fileAt c;have A:=zAB (i:=0) n.cells rfl;have f:=zAx n.row.has (by have:=data_le h c;omega);have j:=zh f;clear h c n f
  go_enter func136,ntmps136
  go_wp2_with fail;refine j.o.mono ?_;rintro e w' ⟨v,rfl,t,hn,p⟩;have y:=zh (And.intro t (And.intro hn p));clear t hn p;go_wp2_with fail
  go_ret2
  exact⟨_,rfl,y.o⟩
/-! ### Fuse -/
theorem setTop (h:zAR w d m left L own D){w':World}{b:Int}{D':zAD}(B:w.heap.size≤w'.heap.size)(r:∀k,k≠d→w'.heap[k]?=w.heap[k]?)(_hroom:D'.room=D.room)(i:D'.files=D.files)
  (s:w'.heap[d]?=some (.cells #[.int .i64 (D'.room:Int),.map (some m),.bool D'.fuse.isSome,.int .i64 b] 71 (0,0))) (z:∀k,D'.fuse=some k→b=(k:Int)) (o:D'.OK):zAR w' d m b L own D':=by
 have f:∀k t,own k=some t→t≠(0,[])→w'.heap[k]?=w.heap[k]?:=fun k t q C=>r k fun e=>by
  rw[e,h.od]at q;exact C (Option.some.inj q).symm
 refine⟨s,z,?_,by rw[i];exact h.files,h.srt,fun p A=>?_,h.od,h.om,fun j t y=>Nat.lt_of_lt_of_le (h.olt j t y) B,o⟩
 ·obtain⟨es,n,a,rest⟩:=h.map;exact⟨es,n,(f m _ h.om (by simp)).trans a,rest⟩
 ·have c:=h.file p A;exact⟨(f _ _ c.ob (by simp)).trans c.cells,c.ob,c.row.keep fun g v=>f _ _ (c.og g v) (by simp),c.og⟩
/-! ### Crash -/
def part (rest:Lit→Bool)(k:Int)(b:List (Bs×zAT)):List (Bs×zAT):=b.map fun p=>(p.1,if rest (.string p.1)then p.2 else zAD.crashF k p.2)
theorem zEm {rest:Lit→Bool}{k:Int}{b:List (Bs×zAT)}(h:Srt b):Srt (part rest k b):=by
 unfold Srt part;rw[List.pairwise_map];exact h
theorem part_get (rest:Lit→Bool)(k:Int)(n:Bs)(b:List (Bs×zAT)):Sat.get n (part rest k b)=(Sat.get n b).map fun f=>if rest (.string n)then f else zAD.crashF k f:=by
 unfold part Sat.get;rw[List.find?_map];cases i:List.find? ((fun p:Bs×zAT=>p.1==n) ∘ fun p:Bs×zAT=>(p.1,if rest (.string p.1)then p.2 else zAD.crashF k p.2)) b with
 | none =>
  have:List.find? (fun p:Bs×zAT=>p.1==n) b=none:=i;rw[this];rfl
 | some p =>
  have c:List.find? (fun p:Bs×zAT=>p.1==n) b=some p:=i;have d:=List.find?_some c;simp only[beq_iff_eq]at d;rw[c];simp[d]
theorem part_step {rest:Lit→Bool}{k:Int}{b:List (Bs×zAT)}(h:Srt b){n:Bs}{f:zAT}(d:Sat.get n b=some f) :
  put n (zAD.crashF k f) (part rest k b)=part (fun z=>rest z&& !z.sameKey (.string n)) k b:=by
 refine srt_ext (zBw (zEm h)) (zEm h) fun j=>?_
 by_cases c:j=n
 ·subst c;rw[zBe (zEm h),part_get,d,sk];simp
 ·rw[zBD (zEm h) _ c,part_get,part_get];have:(Lit.string j).sameKey (.string n)=false:=by rw[sk];simpa using c
  rw[this];simp
theorem part_all {rest:Lit→Bool}{k:Int}{b:List (Bs×zAT)}(h:∀p∈b,rest (.string p.1)=true):part rest k b=b:=by
 unfold part
 conv=>rhs;rw[←List.map_id b]
 refine List.map_congr_left fun p c=>?_;rw[h p c];rfl
theorem part_none {rest:Lit→Bool}{k:Int}{b:List (Bs×zAT)}(h:∀z,rest z=false):part rest k b=mp (zAD.crashF k) b:=by
 unfold part mp;refine List.map_congr_left fun p _=>?_;rw[h];rfl
theorem stays_le (f:zAT)(k:Int)(h:f.lasts≤f.data.length):f.lasts≤zAD.stays f k∧zAD.stays f k≤f.data.length:=by
 unfold zAD.stays;have:=Nat.mod_lt (max 0 k).toNat (show 0<f.data.length-f.lasts+1 by omega);omega
theorem ok_part {D:zAD}(h:D.OK)(rest:Lit→Bool)(k:Int):zAD.OK {D with files:=part rest k D.files} where
 srt:=zEm h.srt
 room:=h.room
 used:=by
  refine Nat.le_trans ?_ h.used
  show zA7 zAD.size (part rest k D.files)≤zA7 zAD.size D.files
  have d:=h.lasts;generalize D.files=f at d
  induction f with
  | nil=>exact Nat.le_refl _
  | cons p r ih =>
   have c:=ih fun q b=>d q (by simp[b]);have i:=d p (by simp);simp only[part,List.map_cons,zA7,List.sum_cons]at c ⊢;have j:zAD.size (if rest (.string p.1)then p.2 else zAD.crashF k p.2)≤zAD.size p.2:=by
    split
    ·exact Nat.le_refl _
    ·simp only[zAD.size,zAD.crashF,List.length_take];omega
   omega
 count:=by
  show(part rest k D.files).length≤4096
  simp only[part,List.length_map];exact h.count
 names p hp:=by
  obtain⟨q,b,rfl⟩:=List.mem_map.1 hp;exact h.names q b
 lasts p hp:=by
  obtain⟨q,b,rfl⟩:=List.mem_map.1 hp;have c:=h.lasts q b
  show zAT.lasts (if rest (.string q.1)then q.2 else zAD.crashF k q.2)≤(if rest (.string q.1)then q.2 else zAD.crashF k q.2).data.length
  split
  ·exact c
  ·have:=stays_le q.2 k c;simp only[zAD.crashF,List.length_take];omega
 fuse:=h.fuse
theorem ok_crash {D:zAD}(h:D.OK)(k:Int):(D.crash k).OK:=by
 have:=ok_part h (fun _=>false) k;rw[part_none fun _=>rfl]at this;exact⟨this.srt,this.room,this.used,this.count,this.names,this.lasts,fun j b=>by simp[zAD.crash]at b⟩
theorem own_none (h:zAR w d m left L own D){k:Nat}(c:w.heap.size≤k):own k=none:=by
 cases b:own k with
 | none=>rfl
 | some t=>have:=h.olt _ t b;omega
structure CrashRel (w:World)(d m:Nat)(left:Int)(L:List (Bs×zBn))(own:Own)(D:zAD)(k:Int)(wr:World):Prop where
 ex:∃rest cnt L' own',wr.ranges prog 9 ptrR m w.heap.size L.length (dm fbD L) rest cnt∧zAR wr d m left L' own' {D with files:=part rest k D.files}∧mp zBn.fb L'=mp zBn.fb L∧Chg (Has own) w wr∧Ext w own own'∧own' w.heap.size=none
theorem crash_walk (h:zAR w d m left L own D)(k:Int)(hk:-9223372036854775808≤k)(aE:k≤9223372036854775807) :
  Calls prog 20 #[.pointer (some ⟨d,0,none⟩),.int .i64 k] w (Did w d own (D.crash k)):=by
 have h1:=h.c1;have y:=h.map;have P:=h.srt;have t:=h.ok;have hL:Hid (zAR w d m left L own D):=h;clear h
 go_enter func20,ntmps20
 go_wp2_with (first|(at_range;refine wpList_range_own _ rfl _ 69 rfl 9 108 zBo underlying69 ptrR m L.length (dm fbD L) rfl y ?_;intro w0 ad af ax))
 go_frame
 go_loopw [5] (fun _ wr=>CrashRel w d m left L own D k wr) (fun _ wr=>wr.rangeLeft m w.heap.size)
 case atStart =>
  refine⟨_,_,L,own,ad,?_,rfl,(Chg.of_grown af).mono (fun _ _ e=>by cases e),zCS _ _,own_none hL.o (Nat.le_refl _)⟩;have H:=hL.o.chg (Chg.of_grown af) (fun _ e=>by cases e);have R:part (Maps.has (dm fbD L)) k D.files=D.files:=part_all fun p hp=>by
   rw[hL.o.files]at hp;obtain⟨q,hq,rfl⟩:=List.mem_map.1 hp
   show Maps.has (dm fbD L) (.string q.1)=true
   rw[dm_has,zCJ P hq];rfl
  rw[R];exact H
 case round =>
  obtain⟨rest,cnt,L',E,X,H,U,hc,hx,G⟩:=hrel.ex;clear ad af ax y hrel;go_wp2_with (first|(at_next;refine zD1 _ rfl _ rfl 9 underlying9 zBo zBn.fb L m w.heap.size L.length _ _ rfl X ?_ ?_))
  ·intro hl;rw[part_none hl]at H;have aB:=H.c2;have aD:=zAE H.cells 2;have K:Did w d own (D.crash k) (.returned (.tuple #[])) (wr.setCell ⟨d,2,none⟩ (.bool false)):=by
    refine⟨E,rfl,⟨m,left,L',setTop H (D':=D.crash k) (by simp[World.setCell]) (fun _ hk=>zAK _ hk) rfl rfl ?_ (fun j hj=>by simp[zAD.crash]at hj) (ok_crash t k)⟩,?_,hx⟩
    ·rw[zAH H.cells];simp[zAD.crash]
    ·exact chg_ext hc hx ((Chg.setCell wr ⟨d,2,none⟩ _).mono fun _ _ e=>by rw[e];exact has_d H)
   have ak:=zh K;clear K H hc hx U hl X t P G
   go_wp2
   go_end0
   exact ak.o
  ·intro s x w1 al ag hl hs O ao V ay aC
   -- the file as it lies now
   have ac:∀j,some j=some w.heap.size→E j=none:=fun j e=>by
    cases e;exact G
   have T:=H.chg (Chg.of_grown V) ac;obtain⟨r,A,a⟩:∃r,Sat.get (nm s) L'=some r∧r.fb=x.fb:=by
    have R:(Sat.get (nm s) L').map zBn.fb=some x.fb:=by
     rw[←mp_get,U,mp_get,show Sat.get (nm s) L=some x from ag];rfl
    exact Option.map_eq_some_iff.1 R
   have M:Sat.get (nm s) D.files=some x.f:=by rw[hL.o.files,mp_get,show Sat.get (nm s) L=some x from ag];rfl
   have N:r.f=x.f:=by
    have R:(Sat.get (nm s) L').map zBn.f=some x.f:=by
     rw[←mp_get,←H.files,part_get,M];simp only[Option.map_some,show rest (.string (nm s))=true from hl,if_true]
    rw[A]at R;exact Option.some.inj R
   have J:=T.fileAt A;have b:=J.cells;rw[N,a]at b;obtain⟨p,c,hv⟩:=zA4.slice J.row;have am:=OwnR.cap_le (by have:=J.row;unfold zA4 at this;rw[hv]at this;exact this);rw[N]at hv am;have ah:x.f.lasts≤x.f.data.length:=t.lasts _ (zBp M);have an:=data_le T A;rw[N]at an;have aj:=stays_le x.f k ah;rw[hv]at b;have az:=zAB (i:=0) b rfl;have aA:=zAB (i:=1) b rfl;have aG:=zAE b 0;have aH:=zAE b 1;have C:zAD.stays x.f k=x.f.lasts+(max 0 k).toNat%(x.f.data.length-x.f.lasts+1):=rfl;have Z:∀nq,CrashRel w d m left L own D k (((w1.drewN nq).setCell ⟨x.fb,0,none⟩ (.slice p (zAD.stays x.f k) (zAD.stays x.f k))).setCell ⟨x.fb,1,none⟩ (.int .i64 ((zAD.stays x.f k:Nat):Int))) ∧
     (((w1.drewN nq).setCell ⟨x.fb,0,none⟩ (.slice p (zAD.stays x.f k) (zAD.stays x.f k))).setCell ⟨x.fb,1,none⟩ (.int .i64 ((zAD.stays x.f k:Nat):Int))).rangeLeft m w.heap.size<wr.rangeLeft m w.heap.size:=by
    intro nq;have B:zAR (w1.drewN nq) d m left L' E {D with files:=part rest k D.files}:=T.keep (Nat.le_refl _) fun _ _=>rfl;have I:(w1.drewN nq).heap[x.fb]?=some (.cells #[.slice p x.f.data.length c,.int .i64 (x.f.lasts:Int)] 110 (0,0)):=b;have ar:OwnR (w1.drewN nq) 5 1 (.slice p x.f.data.length c) x.f.data.length (zAX x.f.data):=by
     have:=(B.fileAt A).row;rw[N,hv]at this;exact this
    have y:E x.fb=some (2,nm s):=by
     have:=J.ob;rw[a]at this;exact this
    have ap:∀g,(Value.slice p (zAD.stays x.f k) (zAD.stays x.f k)).ownBlock=some g→g≠x.fb:=fun g F=>by
     have R:r.v.ownBlock=some g:=by rw[hv,zCW p _ _ (zAD.stays x.f k) (zAD.stays x.f k)];exact F
     exact B.ne_of ((B.fileAt A).og g R) y (by simp)
    have ai:(x.f.data.take (zAD.stays x.f k)).length=zAD.stays x.f k:=by rw[List.length_take];omega
    have ab:m≠x.fb:=B.ne_of B.om y (by simp);have aa:w.heap.size≠x.fb:=fun e=>by rw[e,y]at G;cases G
    obtain⟨Q,h4,au⟩:=B.upd (w':=((w1.drewN nq).setCell ⟨x.fb,0,none⟩ (.slice p (zAD.stays x.f k) (zAD.stays x.f k))).setCell ⟨x.fb,1,none⟩ (.int .i64 ((zAD.stays x.f k:Nat):Int)))
     (v':=.slice p (zAD.stays x.f k) (zAD.stays x.f k)) (f':=zAD.crashF k x.f) A (by simp[World.setCell]) (fun j _ hj _=>by rw[a]at hj;exact(zAK _ hj).trans (zAK _ hj))
     (by rw[a,zAH (zAH I 0 _) 1];simp[zAD.crashF])
     (by
      unfold zA4
      show OwnR _ _ _ _ (x.f.data.take (zAD.stays x.f k)).length _
      rw[ai]
      show OwnR _ _ _ _ _ (zAX (x.f.data.take (zAD.stays x.f k)))
      rw[zEJ];exact OwnR.keep (ar.cut aj.2) fun g F=>(zAK _ (ap g F)).trans (zAK _ (ap g F)))
     (fun g F=>.inl (by rw[hv,zCW p _ _ (zAD.stays x.f k) (zAD.stays x.f k)];exact F))
     (by
      show zAD.OK {D with files:=put (nm s) (zAD.crashF k x.f) (part rest k D.files) }
      rw[part_step t.srt M];exact ok_part t _ k)
    have h5:zAR (((w1.drewN nq).setCell ⟨x.fb,0,none⟩ (.slice p (zAD.stays x.f k) (zAD.stays x.f k))).setCell ⟨x.fb,1,none⟩ (.int .i64 ((zAD.stays x.f k:Nat):Int))) d m left (put (nm s) ⟨r.fb,.slice p (zAD.stays x.f k) (zAD.stays x.f k),zAD.crashF k x.f⟩ L') Q
      {D with files:=part (fun z=>rest z&& !z.sameKey (.string (nm s))) k D.files}:=by
     rw[←part_step t.srt M];exact h4
    have g1:=grown_set (w1.drewN nq) ⟨x.fb,0,none⟩ (.slice p (zAD.stays x.f k) (zAD.stays x.f k));have g2:=grown_set ((w1.drewN nq).setCell ⟨x.fb,0,none⟩ (.slice p (zAD.stays x.f k) (zAD.stays x.f k))) ⟨x.fb,1,none⟩ (.int .i64 ((zAD.stays x.f k:Nat):Int));have aq:(w1.drewN nq).ranges prog 9 ptrR m w.heap.size L.length (dm fbD L) (fun z=>rest z&& !z.sameKey (.string s.data.toList)) al:=O;have ae:=(aq.kept g1 (by simpa using ab) (by simpa using aa)).kept g2 (by simpa using ab) (by simpa using aa);refine⟨⟨_,_,_,Q,ae,h5,?_,?_,?_,?_⟩,?_⟩
    ·rw[mp_put,put_same (mp_srt B.srt) (by rw[mp_get,A];rfl),U]
    ·have c1:Chg (fun j=>j=x.fb∨j=w.heap.size) wr w1:=(Chg.of_grown V).mono fun j _ e=>.inr (by cases e;rfl);have c2:Chg (fun j=>j=x.fb∨j=w.heap.size) wr (w1.drewN nq):=⟨c1.os,c1.tape,c1.output,c1.size,c1.block⟩;have c3:=(c2.trans (Chg.of_grown g1) fun j _ e=>.inl (by cases e;rfl)).trans (Chg.of_grown g2) fun j _ e=>.inl (by cases e;rfl);refine hc.trans c3 fun i hi e=>?_;rcases e with e|e
     ·intro ho;have:=hx i hi ho;rw[e,y]at this;cases this
     ·omega
    ·exact ext_trans (Nat.le_trans hc.size V.size) hx au
    ·exact au _ (by have:=O.lt;exact this) G
    ·rw[ae.left_eq,X.left_eq];exact ao
   have Y:=zh Z;have aw:=zh aj;have S:=zh C;clear Z H T A a M N hv b hc hx G V O ao X U J ag hl hs ay aj C P t ac;generalize x.f.data.length=n at *;generalize x.f.lasts=l at *;have e6:wrap64 ((l:Int)+max 0 k%((n:Int)-(l:Int)+1))=((zAD.stays x.f k:Nat):Int):=by
    rw[S.o];have R:((n:Int)-(l:Int)+1)=((n-l+1:Nat):Int):=by omega
    have e2:max 0 k=(((max 0 k).toNat:Nat):Int):=by omega
    have e3:max 0 k%((n:Int)-(l:Int)+1)=(((max 0 k).toNat%(n-l+1):Nat):Int):=by rw[R,Int.natCast_emod,←e2]
    have h5:=Nat.mod_lt (max 0 k).toNat (show 0<n-l+1 by omega);rw[e3,IntWalk.wrap64_in _ ⟨by omega,by omega⟩];omega
   have aF:∀W,(Instr.slice 39 (.slice p n c) none (some (.int .i64 ((zAD.stays x.f k:Nat):Int))) (some (.int .i64 ((zAD.stays x.f k:Nat):Int)))).run prog W=.ok (.slice p (zAD.stays x.f k) (zAD.stays x.f k)) W:=fun W=>by
    obtain⟨i0,hi,_⟩:=info_parts (show(prog.info? 5).map (fun i=>(i.zero,i.size,i.bytes))=some (some (.int .u8 0),1,1) by kernel_rfl);exact run_cut W underlying39 hi p n c _ (by have:=aw.o;omega)
   have av:=zh e6;clear e6;generalize zAD.stays x.f k=st at *;go_wp2_with fail
   go_quiet (fail)
   rw[av.o];go_wp2_with fail;go_roundw
   case rel=>exact(Y.o nq).1
   case measure=>exact(Y.o nq).2
end
def St (w w1:World)(d:Nat)(D:zAD)(F:Nat→Prop):Prop :=
 ∃own,zB6 w1 d D own∧Below w.heap.size w w1∧(∀k,k<w.heap.size∨F k→own k=none)∧∀k,F k→k<w1.heap.size
def NoF:Nat→Prop:=fun _=>False
theorem St.below {w w1:World}{d:Nat}{D:zAD}{F:Nat→Prop}(h:St w w1 d D F):Below w.heap.size w w1:=let ⟨_,_,h,_⟩:=h;h
theorem St.ok {w w1:World}{d:Nat}{D:zAD}{F:Nat→Prop}(h:St w w1 d D F):D.OK:=let ⟨_,⟨_,_,_,h⟩,_⟩:=h;h.ok
theorem St.move {w w1 p:World}{d:Nat}{D:zAD}{F F' S:Nat→Prop}(h:St w w1 d D F)(q:Chg S w1 p)(hS:∀k,k<w1.heap.size→S k→F k∧w.heap.size≤k)(hF:∀k,F' k→(F k∨w1.heap.size≤k)∧k<p.heap.size):St w p d D F':=by
 obtain⟨own,n,f,hn,s⟩:=h;have o:∀k,w1.heap.size≤k→own k=none:=fun k b=>by
  obtain⟨m,left,L,n⟩:=n;exact own_none n b
 refine⟨own,n.chg (q.mono (T:=fun k=>S k∧k<w1.heap.size) fun k b c=>⟨c,b⟩) (fun k c=>hn k (.inr (hS k c.2 c.1).1)),?_,fun k b=>?_,fun k b=>(hF k b).2⟩
 ·exact((Chg.of_below f).trans q fun i r c=>by
   have j:=(hS i (Nat.lt_of_lt_of_le r f.size) c).2;omega).below (Nat.le_refl _) fun _ _=>id
 ·rcases b with b|b
  ·exact hn k (.inl b)
  ·rcases(hF k b).1 with j|j
   ·exact hn k (.inr j)
   ·exact o k j
theorem St.next {w w1 f:World}{d:Nat}{D:zAD}{F:Nat→Prop}(h:St w w1 d D F)(b:Below w1.heap.size w1 f):St w f d D F :=
 h.move (Chg.of_below b) (fun _ _ h=>h.elim) fun k c=>⟨.inl c,by obtain⟨_,_,_,_,i⟩:=h;exact Nat.lt_of_lt_of_le (i k c) b.size⟩
theorem St.alloc {w w1:World}{d:Nat}{D:zAD}{F:Nat→Prop}(h:St w w1 d D F)(o:Obj):St w (w1.alloc o) d D F:=h.next ((Below.refl _ _).alloc (Nat.le_refl _) o)
theorem St.drewN {w w1:World}{d:Nat}{D:zAD}{F:Nat→Prop}(h:St w w1 d D F)(n:Nat):St w (w1.drewN n) d D F:=h.next ⟨rfl,rfl,rfl,Nat.le_refl _,fun _ _=>rfl⟩
theorem St.noF {w w1:World}{d:Nat}{D:zAD}{F:Nat→Prop}(h:St w w1 d D F):St w w1 d D NoF:=h.move (S:=fun _=>False) (Chg.refl _ _) (fun _ _ h=>h.elim) fun _ h=>h.elim
def Same (F:Nat→Prop)(w1 b:World):Prop:=∀k,F k→b.heap[k]?=w1.heap[k]?
theorem St.step {w w1 j:World}{d:Nat}{own b:Own}{D':zAD}{F:Nat→Prop}(p:Below w.heap.size w w1)(hn:∀k,k<w.heap.size∨F k→own k=none)(o:∀k,F k→k<w1.heap.size)(r:zB6 j d D' b)(m:Chg (Has own) w1 j)(q:Ext w1 own b) :
  St w j d D' F∧Same F w1 j:=by
 refine⟨⟨b,r,((Chg.of_below p).trans m fun i s n=>(n (hn i (.inl s))).elim).below (Nat.le_refl _) fun _ _=>id,fun k c=>?_,fun k c=>Nat.lt_of_lt_of_le (o k c) m.size⟩,fun k c=>m.block k (o k c) fun n=>n (hn k (.inr c))⟩;rcases c with f|f
 ·exact q k (Nat.lt_of_lt_of_le f p.size) (hn k (.inl f))
 ·exact q k (o k f) (hn k (.inr f))
theorem zAf.old {w w1:World}{v:Value}{l:Bs}(h:zAf w v l)(b:Below w.heap.size w w1):zAf w1 v l:=h.below b
def Told (w:World)(d:Nat)(F:Nat→Prop)(w1:World)(r:zAD×Nat)(e:Ending)(w':World):Prop:=e=.returned (.int .i64 (r.2:Int))∧St w w' d r.1 F∧Same F w1 w'
def Told0 (w:World)(d:Nat)(F:Nat→Prop)(w1:World)(D:zAD)(e:Ending)(w':World):Prop:=e=.returned (.tuple #[])∧St w w' d D F∧Same F w1 w'
section
variable {w w1:World} {d:Nat} {D:zAD} {F:Nat→Prop}
theorem st_new (n:Int)(f:0≤n)(i:n≤1073741824)(c:Below w.heap.size w w1) :
  Calls prog 8 #[.int .i64 n] w1 fun e w'=>∃d,e=.returned (.tuple #[.pointer (some ⟨d,0,none⟩),.int .i64 0])∧St w w' d (zAD.fresh n.toNat) NoF:=by
 refine(new_calls n w1 f i).mono ?_;rintro e w' ⟨d,own,rfl,m,j,hn⟩;exact⟨d,rfl,own,m,((Chg.of_below c).trans j fun _ _ h=>h).below (Nat.le_refl _) fun _ _=>id,fun k b=>by
  rcases b with b|b
  ·exact hn k (Nat.lt_of_lt_of_le b c.size)
  ·exact b.elim,fun _ h=>h.elim⟩
theorem st_append (h:St w w1 d D F)(s:ByteArray)(x:Value)(ls:List Bs)(i:zBM w1 x ls)(hn:ls.length≤140737488355328)(o:ls.flatten.length≤140737488355328)(f:s.size≤9223372036854775807) :
  Calls prog 98 #[.pointer (some ⟨d,0,none⟩),.string s,x] w1 (Told w d F w1 (D.append (nm s) ls.flatten)):=by
 obtain⟨own,n,k,c,hF⟩:=h;refine(append_calls n s x ls i hn o f).mono ?_;rintro e w' ⟨j,rfl,b,m,i⟩;exact⟨rfl,St.step k c hF b m i⟩
theorem own_new {own:Own}(h:zB6 w1 d D own){k:Nat}(b:w1.heap.size≤k):own k=none:=by
 obtain⟨m,left,L,h⟩:=h;exact own_none h b
theorem strs_new (w:World)(b:List ByteArray)(g:Nat)(c:g=w.heap.size)(e:TypeId)(fr:Nat×Nat):zEV (w.alloc (.cells (b.map Value.string).toArray e fr)) (some ⟨g,0,none⟩) b:=by
 subst c;refine .inr ⟨_,_,rfl,fun i u d=>?_⟩;refine zAB (zAF w _) ?_;simp[d]
theorem st_sync (h:St w w1 d D F)(b:List ByteArray)(g c:Nat)(p:g=w1.heap.size)(fr:Nat×Nat)(y:b.length≤140737488355328)(m:∀s∈b,s.size≤9223372036854775807) :
  Calls prog 99 #[.pointer (some ⟨d,0,none⟩),.slice (some ⟨g,0,none⟩) b.length c] (w1.alloc (.cells (b.map Value.string).toArray 9 fr)) (Told w d F (w1.alloc (.cells (b.map Value.string).toArray 9 fr)) (D.sync (b.map nm))):=by
 obtain⟨own,o,n,j,hF⟩:=h;have i:=o.chg (Chg.alloc w1 (.cells (b.map Value.string).toArray 9 fr)) (fun _ h=>h.elim);refine(sync_calls i (some ⟨g,0,none⟩) b c (strs_new w1 b g p _ fr) y m (fun a r=>by cases r;exact own_new o (by rw[p];exact Nat.le_refl _))).mono ?_;rintro e w' ⟨q,rfl,f,t,z⟩;exact⟨rfl,St.step (n.alloc n.size _) j (fun k v=>by have:=hF k v;simp;omega) f t z⟩
theorem st_remove (h:St w w1 d D F)(b:List ByteArray)(g c:Nat)(p:g=w1.heap.size)(fr:Nat×Nat)(y:b.length≤140737488355328)(m:∀s∈b,s.size≤9223372036854775807) :
  Calls prog 140 #[.pointer (some ⟨d,0,none⟩),.slice (some ⟨g,0,none⟩) b.length c] (w1.alloc (.cells (b.map Value.string).toArray 9 fr)) (Told w d F (w1.alloc (.cells (b.map Value.string).toArray 9 fr)) (D.remove (b.map nm))):=by
 obtain⟨own,o,n,j,hF⟩:=h;have i:=o.chg (Chg.alloc w1 (.cells (b.map Value.string).toArray 9 fr)) (fun _ h=>h.elim);refine(remove_calls i (some ⟨g,0,none⟩) b c (strs_new w1 b g p _ fr) y m (fun a r=>by cases r;exact own_new o (by rw[p];exact Nat.le_refl _))).mono ?_;rintro e w' ⟨q,rfl,f,t,z⟩;exact⟨rfl,St.step (n.alloc n.size _) j (fun k v=>by have:=hF k v;simp;omega) f t z⟩
theorem st_crash (h:St w w1 d D F)(k:Int)(p:-9223372036854775808≤k)(c:k≤9223372036854775807) :
  Calls prog 20 #[.pointer (some ⟨d,0,none⟩),.int .i64 k] w1 (Told0 w d F w1 (D.crash k)):=by
 obtain⟨own,⟨m,left,L,o⟩,j,f,hF⟩:=h;refine(crash_walk o k p c).mono ?_;rintro e w' ⟨i,rfl,b,n,q⟩;exact⟨rfl,St.step j f hF b n q⟩
def GotB (w:World)(d:Nat)(D:zAD)(F:Nat→Prop)(w1:World)(o:Option zAT)(e:Ending)(w':World):Prop :=
 ∃v,e=.returned (.tuple #[v,.int .i64 (readE o)])∧zA4 w' 5 v (zDo o)∧(∀k,v.ownBlock=some k→w1.heap.size≤k)∧Below w1.heap.size w1 w'∧St w w' d D F
theorem st_read (h:St w w1 d D F)(s:ByteArray)(j:s.size≤9223372036854775807) :
  Calls prog 136 #[.pointer (some ⟨d,0,none⟩),.string s] w1 (GotB w d D F w1 (Sat.get (nm s) D.files)):=by
 have c:=h;obtain⟨own,f,m,i,hF⟩:=h;refine(read_calls f s j).mono ?_;rintro e w' ⟨v,rfl,k,hn,b⟩;exact⟨v,rfl,k,hn,b,c.next b⟩
end
/-! ### What a law lays itself -/
theorem has_lit {w:World}{e:TypeId}{fr:Nat×Nat}(b:Array Value)(l:Bs)(g n c:Nat)(j:g=w.heap.size)(hn:n=l.length)(h:b.toList=zAX l):zAf (w.alloc (.cells b e fr)) (.slice (some ⟨g,0,none⟩) n c) l:=by
 subst j;subst hn;refine⟨by simp[zAX],some ⟨w.heap.size,0,none⟩,c,rfl,fun e=>(by cases e),fun a f i u d=>?_⟩;cases f;rw[add_zero];refine zAB (zAF w _) ?_;rw[←h]at d;simpa using d
theorem zDq {w:World}{v:Value}{l:Bs}(h:zAf w v l)(o:Obj):zAf (w.alloc o) v l:=h.chg (Chg.alloc w o) fun _ _=>id
theorem zDC {w:World}{v:Value}{l:Bs}(h:zAf w v l)(e:TypeId)(fr:Nat×Nat)(g c:Nat)(j:g=w.heap.size)(f:1≤c):zBM (w.alloc (.cells #[v] e fr)) (.slice (some ⟨g,0,none⟩) 1 c) [l]:=by
 subst j;refine⟨_,c,rfl,by simpa using f,fun _=>⟨_,_,[v],rfl,rfl,fun i u b=>?_,fun i u m b d=>?_⟩⟩
 ·rw[add_zero];refine zAB (zAF w _) ?_;simpa using b
 ·have k:i=0:=by
   have:=(List.getElem?_eq_some_iff.1 b).1;simpa using this
  subst k;simp at b d;subst b;subst d;exact(zDq h _).kit
theorem ok_rename {D:zAD}(h:D.OK){o n:Bs}{f:zAT}(d:Sat.get o D.files=some f)(hn:okN n=true):zAD.OK {D with files:=put n f (del o D.files) } where
 srt:=zBw (zDd h.srt)
 room:=h.room
 used:=by
  show zA7 zAD.size (put n f (del o D.files))≤D.room
  have i:D.used=zAD.size f+zA7 zAD.size (del o D.files):=zC1 h.srt d;have j:=h.used;rw[sum_put];cases c:Sat.get n (del o D.files)with
  | none=>rw[zCR c];omega
  | some f2 =>
   have k:zA7 zAD.size (del o D.files)=zAD.size f2+zA7 zAD.size (del n (del o D.files)):=zC1 (zDd h.srt) c;omega
 count:=by
  show(put n f (del o D.files)).length≤4096
  have i:=len_del h.srt d;have j:=len_del_le n (del o D.files);have k:=h.count;rw[len_put];omega
 names p b:=by
  rcases zBg.1 b with rfl|⟨b,_⟩
  ·exact hn
  ·exact h.names p (zBJ.1 b).1
 lasts p b:=by
  rcases zBg.1 b with rfl|⟨b,_⟩
  ·exact h.lasts (o,f) (zBp d)
  ·exact h.lasts p (zBJ.1 b).1
 fuse:=h.fuse
section
variable {w:World} {d m:Nat} {left:Int} {L:List (Bs×zBn)} {own:Own} {D:zAD}
theorem ren_file (h:zAR w d m left L own D){o n:Bs}{r:zBn}(s:Sat.get o L=some r){w':World}(a:w.heap.size≤w'.heap.size)(v:∀k,k<w.heap.size→k≠m→w'.heap[k]?=w.heap[k]?)
  (y:∃q,w'.ownsMap prog 9 ptrR m q (dm fbD (put n r (del o L)))) (hn:okN n=true) :
  ∃own',zAR w' d m left (put n r (del o L)) own' {D with files:=put n r.f (del o D.files) }∧Ext w own own':=by
 refine h.remap (L':=put n r (del o L)) a v y (zBw (zDd h.srt)) rfl rfl (by rw[mp_put,mp_del,←h.files]) (ok_rename h.ok (by rw[h.get,s];rfl) hn) (fun p b=>?_) (fun p b q i e=>?_)
 ·rcases zBg.1 b with rfl|⟨b,_⟩
  ·exact⟨_,zBp s,rfl⟩
  ·exact⟨p,(zBJ.1 b).1,rfl⟩
 ·have z:=h.fileAt s;have c:∀p,p∈del o L→p.2.fb=r.fb→False:=fun p b e=>by
   have j:=(h.file p (zBJ.1 b).1).ob;rw[e,z.ob]at j;exact(zBJ.1 b).2 (by simpa using j.symm)
  rcases zBg.1 b with rfl|⟨b,_⟩
  ·rcases zBg.1 i with rfl|⟨i,_⟩
   ·rfl
   ·exact(c q i e.symm).elim
  ·rcases zBg.1 i with rfl|⟨i,_⟩
   ·exact(c p b e).elim
   ·have j:=(h.file p (zBJ.1 b).1).ob;have t:=(h.file q (zBJ.1 i).1).ob;rw[e,t]at j;exact zEh h.srt (zBJ.1 b).1 (zBJ.1 i).1 (by simpa using j.symm)
theorem strs_two (w:World)(o s:ByteArray):zEV (w.alloc (.cells #[.string o,.string s] 9)) (some ⟨w.heap.size,0,none⟩) [o,s]:=strs_new w [o,s] _ rfl _ (0,0)
theorem rename_bad (h:zAR w d m left L own D)(o s:ByteArray)(i:o.size≤9223372036854775807)(j:s.size≤9223372036854775807)(t:D.may [nm o,nm s]≠0) :
  Calls prog 144 #[.pointer (some ⟨d,0,none⟩),.string o,.string s] w (zCt w d own (D,D.may [nm o,nm s])):=by
 have c:=h.chg (Chg.alloc w (.cells #[.string o,.string s] 9)) (fun k q=>q.elim);have f:=zBP c _ [o,s] 2 (strs_two w o s) (by simp) (by simp;exact⟨i,j⟩);simp only[List.map_cons,List.map_nil]at f;have b:=zW (zCt w d own (D,D.may [nm o,nm s]) (.returned (.int .i64 (D.may [nm o,nm s]:Int))) (w.alloc (.cells #[.string o,.string s] 9))) (
  ⟨own,rfl,⟨m,left,L,c⟩,(Chg.alloc w _).mono fun _ _ h=>h.elim,zCS _ _⟩)
 generalize D.may [nm o,nm s]=p at *;have r:((p:Int) != 0)=true:=by simp;omega
 have n:=zh f;clear h f c
 go_enter func144,ntmps144
 go_wp2_with fail;refine n.o.mono ?_;rintro e w' ⟨rfl,rfl⟩;go_wp2_with fail;go_ret;exact b.o
theorem rename_none (h:zAR w d m left L own D)(o s:ByteArray)(n:o.size≤9223372036854775807)(r:s.size≤9223372036854775807)(a:D.may [nm o,nm s]=0)(y:Sat.get (nm o) L=none) :
  Calls prog 144 #[.pointer (some ⟨d,0,none⟩),.string o,.string s] w (zCt w d own (D,7)):=by
 have j:=h.chg (Chg.alloc w (.cells #[.string o,.string s] 9)) (fun k z=>z.elim);have q:=zBP j _ [o,s] 2 (strs_two w o s) (by simp) (by simp;exact⟨n,r⟩);simp only[List.map_cons,List.map_nil,a]at q;have b:=zBU _ zBo underlying9 underlying69 (zBc _) zBn.fb j.map n y;have f:=j.c1;have i:=zW (zCt w d own (D,7) (.returned (.int .i64 (7:Int))) (w.alloc (.cells #[.string o,.string s] 9))) (
  ⟨own,rfl,⟨m,left,L,j⟩,(Chg.alloc w _).mono fun _ _ h=>h.elim,zCS _ _⟩)
 have v:=zh q;have c:=zh b;have p:=zh f;clear h q j b f;generalize t:w.alloc (.cells #[.string o,.string s] 9)=A at *
 go_enter func144,ntmps144
 go_wp2_with fail;have b:=c.o;have f:=p.o;refine v.o.mono ?_;rintro e w' ⟨rfl,rfl⟩;clear t;go_wp2_with fail;go_ret;exact i.o
theorem rename_some (h:zAR w d m left L own D)(o s:ByteArray)(F:o.size≤9223372036854775807)(P:s.size≤9223372036854775807)(hm:D.may [nm o,nm s]=0){r:zBn}(hg:Sat.get (nm o) L=some r) :
  Calls prog 144 #[.pointer (some ⟨d,0,none⟩),.string o,.string s] w (zCt w d own (zAD.done {D with files:=put (nm s) r.f (del (nm o) D.files) },0)):=by
 have G:=h.chg (Chg.alloc w (.cells #[.string o,.string s] 9)) (fun k M=>M.elim);have Z:=zBP G _ [o,s] 2 (strs_two w o s) (by simp) (by simp;exact⟨F,P⟩);simp only[List.map_cons,List.map_nil,hm]at Z;have q:=zBl _ zBo underlying9 underlying69 (zBc _) zBn.fb G.map F hg;have C:=G.c1;have N:=WideMaps.keyOf_string_mk underlying9 F;have E:=WideMaps.keyOf_string_mk underlying9 P;have hz:=zDZ hm;have J:=hz.1;have a:okN (nm s)=true:=by
  have:=hz.2;simp at this;exact this.2
 have hN:L.length<maxLen:=by
  have h3:=h.ok.count;rw[h.len]at h3;unfold maxLen;omega
 have Hw:=zh (Chg.alloc w (.cells #[.string o,.string s] 9));have H1:=zh G;have Hc:=zh Z;have B:=zh q;have S:=zh C;have X:=zh a;have U:=zh J;have Hg:=zh hg;have z:=G.map;have I:=zh z;clear h Z G q C hz a hm hg z J;generalize ab:w.alloc (.cells #[.string o,.string s] 9)=w0 at *
 go_enter func144,ntmps144
 go_wp2_with fail;have q:=B.o;have C:=S.o;refine Hc.o.mono ?_;rintro e w' ⟨rfl,rfl⟩;clear ab;go_wp2_with (first|(at_delete;refine wpList_delete_own _ rfl _ _ 69 9 rfl 108 zBo underlying69 ptrR m L.length (dm fbD L) rfl I.o _ _ rfl N ?_;intro w1 j b;have ac:=zAB (i:=1) (zCK b.grown H1.o.cells (fun e=>H1.o.ne_of H1.o.od H1.o.om (by simp) (by cases e;rfl))) rfl;have Hf:=zh (And.intro j b);clear j b)|(at_mapUpdate;refine wpList_mapUpdate_own _ rfl _ _ _ 69 rfl 9 108 zBo underlying69 ptrR m L.length _ rfl Hf.o.1 hN _ _ _ rfl rfl E (.held r.fb) [] rfl ?_;intro w3 c p;have V:=zh (And.intro c p);clear c p))
 obtain⟨j,b⟩:=Hf.o;obtain⟨c,p⟩:=V.o;have v:=b.grown;have hb:∀k,k<w0.heap.size→k≠m→w3.heap[k]?=w0.heap[k]?:=fun k M O=>by
  have:=v.size;rw[p.block k (by omega) (by intro e;cases e;exact O rfl),v.block k M (by intro e;cases e;exact O rfl)]
 rw[show(.held r.fb:DataW Nat)=fbD r from rfl,dm_del,dm_put]at c;obtain⟨R,h4,hx⟩:=ren_file H1.o Hg.o (w':=w3) (n:=nm s) (Nat.le_trans v.size p.size) hb ⟨_,c⟩ X.o;have y:Chg (Has own) w w3:=(Hw.o.mono (T:=Has own) fun _ _ h=>h.elim).trans (((Chg.of_grown v).trans (Chg.of_grown p) fun _ _ h=>h).mono fun k _ e=>by cases e;exact has_m H1.o) fun _ _ h=>h;have t:=zCp h4 U.o;have A:=zh t;have H:=zh y;have Hx:=zh hx;have Q:=Hw.o.size;have Y:=zh Q;have W:=zh (has_d H1.o);clear j b c p v hb h4 hx y t Q;refine A.o.mono ?_;rintro e w5 ⟨rfl,aa,K⟩;go_wp2_with fail;go_ret;exact⟨R,rfl,aa,H.o.trans K fun i _ e=>by rw[e];exact W.o,fun k M=>Hx.o k (Nat.lt_of_lt_of_le M Y.o)⟩
theorem rename_calls (h:zB6 w d D own)(o s:ByteArray)(b:o.size≤9223372036854775807)(c:s.size≤9223372036854775807) :
  Calls prog 144 #[.pointer (some ⟨d,0,none⟩),.string o,.string s] w (zCt w d own (D.rename (nm o) (nm s))):=by
 obtain⟨m,left,L,h⟩:=h;unfold zAD.rename
 by_cases f:D.may [nm o,nm s]=0
 ·rw[if_neg (by simpa using f),h.get];cases i:Sat.get (nm o) L with
  | none=>exact rename_none h o s b c f i
  | some r=>exact rename_some h o s b c f i
 ·rw[if_pos (by simpa using f)];exact rename_bad h o s b c f
end
theorem st_rename {w w1:World}{d:Nat}{D:zAD}{F:Nat→Prop}(h:St w w1 d D F)(o s:ByteArray)(f:o.size≤9223372036854775807)(i:s.size≤9223372036854775807) :
  Calls prog 144 #[.pointer (some ⟨d,0,none⟩),.string o,.string s] w1 (Told w d F w1 (D.rename (nm o) (nm s))):=by
 obtain⟨own,n,k,c,hF⟩:=h;refine(rename_calls n o s f i).mono ?_;rintro e w' ⟨j,rfl,b,m,p⟩;exact⟨rfl,St.step k c hF b m p⟩
end Go.Proofs.YtmcanphlgkolcaaGreatDoor
