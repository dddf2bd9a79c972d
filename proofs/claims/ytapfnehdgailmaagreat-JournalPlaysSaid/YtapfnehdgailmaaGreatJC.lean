/- What the program's functions and the document's do, and plain laws, for PJournalPlays. -/
import Derived.Test.YtapfnehdgailmaaGreatJB
open Go.Proofs.Tryz
set_option maxRecDepth 100000
set_option maxHeartbeats 64000000
namespace Go.Proofs.YtapfnehdgailmaaGreat
open Go.RowKit Go.Sat Go.Maps
def zDL (w:World)(d:Nat)(own:Own)(r:zAA×Nat)(e:Ending)(w':World):Prop :=
 ∃own',e=.returned (.int .i64 (r.2:Int))∧zCP w' d r.1 own'∧Chg (Has own) w w'∧Ext w own own'
theorem zBV (w:World)(s:ByteArray):zEm (w.alloc (.cells #[.string s] 9)) (some ⟨w.heap.size,0,none⟩) [s]:=by
 refine .inr ⟨_,_,rfl,fun i u b=>?_⟩;have c:i=0:=by
  have:=(List.getElem?_eq_some_iff.1 b).1;simp at this;exact this
 subst c;simp at b;subst b;exact zAG (zAI w _) rfl
theorem zCY (w:World)(own:Own):Ext w own own:=fun _ _ h=>h
section
variable {w:World} {d m:Nat} {left:Int} {L:List (Bs×zB4)} {own:Own} {D:zAA}
theorem append_bad (h:zAc w d m left L own D)(s:ByteArray)(x:Value)(i:s.size≤9223372036854775807)(g:D.may [nm s]≠0) :
  Calls prog 15 #[.pointer (some ⟨d,0,none⟩),.string s,x] w (zDL w d own (D,D.may [nm s])):=by
 have c:=h.chg (Chg.alloc w (.cells #[.string s] 9)) (fun k f=>f.elim);have b:=zBd c _ [s] 1 (zBV w s) (by simp) (by simpa using i);simp only[List.map_cons,List.map_nil]at b;generalize f:D.may [nm s]=k at g b ⊢;have n:((k:Int) != 0)=true:=by simp;exact g
 have j:=zh c;have l:=zh b;clear h b c g f
 go_enter func15,ntmps15
 go_wp2_with fail;refine l.o.mono ?_;rintro e w' ⟨rfl,rfl⟩;go_wp2_with fail;go_ret;exact⟨own,rfl,⟨m,left,L,j.o⟩,(Chg.alloc w _).mono (fun _ _ h=>h.elim),zCY _ _⟩
def Still (b:World)(d m:Nat)(left:Int)(L:List (Bs×zB4))(own:Own)(D:zAA)(w:World):Prop:=zAc w d m left L own D∧Below b.heap.size b w
theorem zB0 {c w1 w2:World}(h:Still c d m left L own D w1)(b:Below w1.heap.size w1 w2):Still c d m left L own D w2 :=
 ⟨h.1.chg (Chg.of_below b) (fun _ f=>f.elim),h.2.trans (b.mono h.2.size)⟩
theorem zCt {w w1:World}{x:Value}{ls:List Bs}(h:zBE w x ls)(z:Below w.heap.size w w1):zBE w1 x ls:=by
 obtain⟨p,c,rfl,A,t⟩:=h;refine⟨p,c,rfl,A,fun m=>?_⟩;obtain⟨b,o,vs,rfl,q,r,s⟩:=t m;have d:∀a v,w.cell? a=some v→w1.cell? a=some v:=fun a v f=>(z.cell (World.block_lt_of_cell? w a f)).trans f;refine⟨b,o,vs,rfl,q,fun i v f=>d _ _ (r i v f),fun i v l f B=>?_⟩;obtain⟨p,g,rfl,n,k⟩:=s i v l f B;exact⟨p,g,rfl,n,fun a y j x C=>d _ _ (k a y j x C)⟩
theorem below2 {S:Nat→Prop}{w b w2:World}(h:Below w.heap.size w b)(k:Below b.heap.size b w2):Chg S w w2 :=
 ((Chg.of_below h).trans (Chg.of_below k) fun _ _ h=>h).mono fun _ _ h=>h.elim
theorem append_full (h:zAc w d m left L own D)(s:ByteArray)(x:Value)(ls:List Bs)(V:zBE w x ls)(hn:ls.length≤140737488355328)(hl:ls.flatten.length≤140737488355328)(v:s.size≤9223372036854775807)(Q:D.may [nm s]=0)
  (G:D.room<D.used+ls.flatten.length) :
  Calls prog 15 #[.pointer (some ⟨d,0,none⟩),.string s,x] w (zDL w d own (D,6)):=by
 have p:=(Below.refl w.heap.size w).alloc (Nat.le_refl _) (.cells #[.string s] 9);have A:=h.chg (Chg.alloc w (.cells #[.string s] 9)) (fun k H=>H.elim);have C:=zBd A _ [s] 1 (zBV w s) (by simp) (by simpa using v);simp only[List.map_cons,List.map_nil,Q]at C;have P:=zCm (zCt V p) hn hl;have X:=zh A;have Hc:=zh C;have Hj:=zh P;have z:=zh p;have hr:=h.ok.room;have T:=h.ok.used;clear h C A Q P V p
 go_enter func15,ntmps15
 go_wp2_with fail;refine Hc.o.mono ?_;rintro e w' ⟨rfl,rfl⟩;go_wp2_with fail;refine Hj.o.mono ?_;rintro e w1 ⟨b,rfl,O,f⟩;obtain⟨pb,cb,rfl⟩:=zAb.slice O;clear O;have r:=X.o.chg (Chg.of_below f) (fun k H=>H.elim);have ab:=r.c1;have E:=r.c0;obtain⟨fv,I⟩:=run_look_any w1 zB5 underlying9 underlying113 (zBr w1) zB4.fb r.map v;have Z:Still (w.alloc (.cells #[.string s] 9)) d m left L own D w1.drew:=zB0 ⟨r,f⟩ ((Below.refl _ _).drew);have J:=fun W (h:Still (w.alloc (.cells #[.string s] 9)) d m left L own D W)=>zGQ h.1;generalize M:D.room=R at G hr T E;generalize N:D.used=U at G T J;generalize ls.flatten.length=n at *;have ac:decide ((R:Int)-(U:Int)<(n:Int))=true:=by simp;omega
 have S:IntKind.i64.wrap ((R:Int)-(U:Int))=(R:Int)-(U:Int):=IntWalk.i64_in _ (by omega);have Y:=zh M;have K:=zh N;clear M N G r f;generalize y:w.alloc (.cells #[.string s] 9)=w0 at *;have aa:=zh y;clear y;go_wp2_with fail;obtain⟨ι,F,ad,t,l,c⟩:=classOf _ Z;have a:∀n,(F n).cell? ⟨d,0,none⟩=some (.int .i64 (R:Int)):=fun n=>by rw[(l n).1.c0,Y.o]
 have g:=zh l;have i:=zh c;clear l c;refine zCc F (by kernel_rfl) (by kernel_rfl) t ?_
 repeat(go_big_quiet_step ((go_at_call 67;refine(J _ (g.o _)).mono ?_;rintro e w2 ⟨rfl,B⟩;exact⟨rfl,i.o _ (zB0 (g.o _) B)⟩)))
 refine wpQuiet_nil ?_;rintro _ ⟨q,rfl⟩;have j:=g.o q;clear t a;generalize F q=w2 at j ⊢
 go_wp2
 go_ret;exact⟨own,rfl,⟨m,left,L,j.1⟩,below2 z.o j.2,zCY _ _⟩
theorem zDk {D:zAA}{ns:List Bs}(h:D.may ns=0):D.fuse≠some 0∧ns.all okN=true:=by
 unfold zAA.may at h
 split at h
 ·cases h
 ·rename_i h1
  refine⟨h1,?_⟩
  split at h
  ·assumption
  ·cases h
theorem ok_append {D:zAA}(h:D.OK){n b:Bs}(l:D.may [n]=0)(k:D.full n b=false):zAA.OK {D with files:=put n ⟨(D.cur n).data++b,(D.cur n).lasts⟩ D.files}:=by
 have hn:okN n=true:=by simpa using (zDk l).2
 simp only[zAA.full,Bool.or_eq_false_iff,decide_eq_false_iff_not,Bool.and_eq_false_iff]at k;obtain⟨o,j⟩:=k;have g:∀f,Sat.get n D.files=some f→D.cur n=f:=fun f c=>by simp[zAA.cur,c]
 have d:Sat.get n D.files=none→D.cur n=⟨[],0⟩:=fun c=>by simp[zAA.cur,c]
 refine⟨zCO h.srt,h.room,?_,?_,?_,?_,h.fuse⟩
 ·show zBZ zAA.size (put n _ D.files)≤D.room
  rw[sum_put];have m:D.used=zAA.size (D.cur n)+zBZ zAA.size (del n D.files):=by
   cases c:Sat.get n D.files with
   | none=>rw[d c,zDh c];simp[zAA.used,zAA.size]
   | some f=>rw[g f c];exact zDr h.srt c
  simp only[zAA.size,List.length_append]at m ⊢;omega
 ·show(put n _ D.files).length≤4096
  rw[len_put];cases c:Sat.get n D.files with
  | none =>
   rw[c]at j;simp at j;rw[zDh c];omega
  | some f =>
   have:=len_del h.srt c;have:=h.count;omega
 ·intro p i;rcases zBe.1 i with rfl|⟨i,_⟩
  ·exact hn
  ·exact h.names p i
 ·intro p i;rcases zBe.1 i with rfl|⟨i,_⟩
  ·cases c:Sat.get n D.files with
   | none=>rw[d c];simp
   | some f =>
    rw[g f c];have:f.lasts≤f.data.length:=h.lasts _ (zBn c);simp only[List.length_append];omega
  ·exact h.lasts p i
theorem len_run {W:World}(h:zAc W d m left L own D)(ty:TypeId):(Builtin.len_ #[113] ty #[.map (some m)]).run prog W=.ok (.int .i64 (L.length:Int)) W:=by
 have:=h.map.len underlying113 ty;rwa[dm_size]at this
theorem append_count (h:zAc w d m left L own D)(s:ByteArray)(x:Value)(ls:List Bs)(hx:zBE w x ls)(hn:ls.length≤140737488355328)(hl:ls.flatten.length≤140737488355328)(A:s.size≤9223372036854775807)(hm:D.may [nm s]=0)
  (P:D.used+ls.flatten.length≤D.room) (Q:Sat.get (nm s) L=none) (c:4096≤L.length) :
  Calls prog 15 #[.pointer (some ⟨d,0,none⟩),.string s,x] w (zDL w d own (D,6)):=by
 have t:=(Below.refl w.heap.size w).alloc (Nat.le_refl _) (.cells #[.string s] 9);have H:=h.chg (Chg.alloc w (.cells #[.string s] 9)) (fun k V=>V.elim);have M:=zBd H _ [s] 1 (zBV w s) (by simp) (by simpa using A);simp only[List.map_cons,List.map_nil,hm]at M;have hj:=zCm (zCt hx t) hn hl;have hr:=h.ok.room;have I:L.length≤4096:=by rw[←h.len];exact h.ok.count
 have H1:=zh H;have Hc:=zh M;have Hj:=zh hj;have C:=zh t;clear h M H hm hj hx t
 go_enter func15,ntmps15
 go_wp2_with fail;refine Hc.o.mono ?_;rintro e w' ⟨rfl,rfl⟩;go_wp2_with fail;refine Hj.o.mono ?_;rintro e w1 ⟨b,rfl,K,i⟩;obtain⟨pb,cb,rfl⟩:=zAb.slice K;clear K;have B:=H1.o.chg (Chg.of_below i) (fun k V=>V.elim);have O:=B.c1;have v:=zBj w1 zB5 underlying9 underlying113 (zBr w1) zB4.fb B.map A Q;have X:Still w1 d m left L own D w1.drew:=zB0 ⟨B,Below.refl _ _⟩ ((Below.refl _ _).drew);have Y:=fun W (h:Still w1 d m left L own D W)=>zGQ h.1;generalize Z:D.room=R at P hr;generalize hU:D.used=U at P Y;generalize j:L.length=N at c I;generalize ls.flatten.length=n at *;have ac:decide ((R:Int)-(U:Int)<(n:Int))=false:=by simp;omega
 have ab:IntKind.i64.wrap ((R:Int)-(U:Int))=(R:Int)-(U:Int):=IntWalk.i64_in _ (by omega);have aa:decide ((4096:Int)≤(N:Int))=true:=by simp;omega
 have HR:=zh Z;have z:=zh j;have y:=zh i;have Hg:=zh Q;clear Z hU P B i Q j c;go_wp2_with fail;obtain⟨ι,F,ad,a,f,g⟩:=classOf _ X;have E:∀n,(F n).cell? ⟨d,0,none⟩=some (.int .i64 (R:Int)):=fun n=>by rw[(f n).1.c0,HR.o]
 have G:∀n,(F n).cell? ⟨d,1,none⟩=some (.map (some m)):=fun n=>(f n).1.c1;have fl:∀n ty,(Builtin.len_ #[113] ty #[.map (some m)]).run prog (F n)=.ok (.int .i64 (N:Int)) (F n):=fun n ty=>by rw[len_run (f n).1 ty,z.o]
 have l:=zh f;have p:=zh g;clear f g X;refine zCc F (by kernel_rfl) (by kernel_rfl) a ?_
 repeat(go_big_quiet_step ((go_at_call 67;refine(Y _ (l.o _)).mono ?_;rintro e w2 ⟨rfl,J⟩;exact⟨rfl,p.o _ (zB0 (l.o _) J)⟩)))
 refine wpQuiet_nil ?_;rintro _ ⟨q,rfl⟩;have r:=l.o q;clear a E G fl v O;generalize F q=w2 at r ⊢
 go_wp2
 go_ret;exact⟨own,rfl,⟨m,left,L,r.1⟩,(below2 (S:=Has own) C.o y.o).trans ((Chg.of_below r.2).mono (T:=Has own) fun _ _ h=>h.elim) fun _ _ h=>h,zCY _ _⟩
theorem append_old (h:zAc w d m left L own D)(s:ByteArray)(x:Value)(ls:List Bs)(hx:zBE w x ls)(hn:ls.length≤140737488355328)(hl:ls.flatten.length≤140737488355328)(al:s.size≤9223372036854775807)(hm:D.may [nm s]=0)
  (hf:D.full (nm s) ls.flatten=false) (r:zB4) (hg:Sat.get (nm s) L=some r) :
  Calls prog 15 #[.pointer (some ⟨d,0,none⟩),.string s,x] w (zDL w d own (zAA.done {D with files:=put (nm s) ⟨r.f.data++ls.flatten,r.f.lasts⟩ D.files},0)):=by
 have Z:=(Below.refl w.heap.size w).alloc (Nat.le_refl _) (.cells #[.string s] 9);have h1:=h.chg (Chg.alloc w (.cells #[.string s] 9)) (fun k z=>z.elim);have hc:=zBd h1 _ [s] 1 (zBV w s) (by simp) (by simpa using al);simp only[List.map_cons,List.map_nil,hm]at hc;have hj:=zCm (zCt hx Z) hn hl;have N:D.cur (nm s)=r.f:=by simp[zAA.cur,h.get,hg]
 have aa:=ok_append h.ok hm hf;rw[N]at aa;have ah:=(zDk hm).1;have P:D.used+ls.flatten.length≤D.room:=by
  simp only[zAA.full,Bool.or_eq_false_iff,decide_eq_false_iff_not]at hf;omega
 have aF:r.f.data.length≤D.used:=by rw[h.used];exact le_sum (f:=fun r:zB4=>r.f.data.length) h.srt hg
 have H1:=zh h1;have Hc:=zh hc;have Hj:=zh hj;have ab:=zh Z;have aq:=zh aa;have ao:=zh ah;have hr:=h.ok.room;clear h hc h1 hm hj hx Z aa N hf ah
 go_enter func15,ntmps15
 go_wp2_with fail;refine Hc.o.mono ?_;rintro e w' ⟨rfl,rfl⟩;go_wp2_with fail;refine Hj.o.mono ?_;rintro e w1 ⟨b,rfl,hb,C⟩;have Hb:=zh hb;obtain⟨pb,cb,rfl⟩:=zAb.slice hb;clear hb;have A:=H1.o.chg (Chg.of_below C) (fun k z=>z.elim);have av:=A.c1;have af:=A.c0;have K:=zB2 w1 zB5 underlying9 underlying113 (zBr w1) zB4.fb A.map al hg;have am:Still w1 d m left L own D w1:=⟨A,Below.refl _ _⟩;have HS:Still w1 d m left L own D w1.drew:=zB0 am ((Below.refl _ _).drew);have HU:=fun W (h:Still w1 d m left L own D W)=>zGQ h.1;have I:=zh C;generalize hR:D.room=R at P hr af;generalize hU:D.used=U at P HU aF;generalize aj:ls.flatten.length=n at *;have aL:decide ((R:Int)-(U:Int)<(n:Int))=false:=by simp;omega
 have aJ:IntKind.i64.wrap ((R:Int)-(U:Int))=(R:Int)-(U:Int):=IntWalk.i64_in _ (by omega);have HR:=zh hR;have aK:=zh hU;have ac:=zh aj;have Hg:=zh hg;clear hR hU A C aj hg;go_wp2_with fail;obtain⟨ι,F,aM,ae,Y,B⟩:=classOf _ HS;have ar:∀n,(F n).cell? ⟨d,0,none⟩=some (.int .i64 (R:Int)):=fun n=>by rw[(Y n).1.c0,HR.o]
 have Q:=zh Y;have V:=zh B;clear Y B;refine zCc F (by kernel_rfl) (by kernel_rfl) ae ?_
 repeat(go_big_quiet_step ((go_at_call 67;refine(HU _ (Q.o _)).mono ?_;rintro e w2 ⟨rfl,au⟩;exact⟨rfl,V.o _ (zB0 (Q.o _) au)⟩)))
 refine wpQuiet_nil ?_;rintro _ ⟨q,rfl⟩;have a:=Q.o q;clear ae ar K av af HS;generalize F q=w2 at a ⊢;have j:=a.1.fileAt Hg.o;have ay:w2.cell? ⟨r.fb,0,none⟩=some r.v:=zAG j.cells rfl;obtain⟨i0,hi,aG,aH,aI⟩:=info_parts (show(prog.info? 5).map (fun i=>(i.zero,i.size,i.bytes))=some (some (.int .u8 0),1,1) by kernel_rfl);have G:=j.row;have H:zAb w2 (.slice pb n cb) ls.flatten:=zAb.below Hb.o a.2;unfold zAb at H;rw[ac.o]at H;obtain⟨p1,c1,hv⟩:=zAi.slice G;have M:∀k,r.v.ownBlock=some k→k≠r.fb:=fun k z=>a.1.ne_of (j.og k z) j.ob (by simp);have X:=zh a;have t:=zh j;have Hv:=zh hv;have an:=zh H;have ad:=zh G;have J:=zh M;clear j hv G H M a;go_wp2_with (first|(at_builtin;refine zAO w2 rfl (.tmp 61) (.tmp 62) 22 rfl 5 i0 (.int .u8 0) 1 1 underlying22 hi aG aH aI rfl (by decide) r.v r.f.data.length (zAR r.f.data) rfl ad.o (.slice pb n cb) n (zAR ls.flatten) rfl an.o (zAN _) (by unfold maxLen;omega) (by omega) ?_;intro v' w3 l c p;obtain⟨p2,c2,rfl⟩:=OwnR.shape l;have y:=zEO c t.o.cells (fun e=>J.o _ e rfl);have aw:=zAG (i:=0) y rfl;have aA:=zAE y 0;have ap:=zh (And.intro l (And.intro c (And.intro p y)));clear l c p y))
 obtain⟨l,c,p,y⟩:=ap.o;have A:=X.o.1;have aB:=zAB t.o.cells;have ak:∀k,(Value.slice p2 (r.f.data.length+n) c2).ownBlock=some k→k≠r.fb:=fun k z=>by
  rcases p with e|⟨g,e,ai⟩
  ·exact J.o k (by rw[←e];exact z)
  ·rw[e]at z;cases z;omega
 obtain⟨own',h4,O⟩:=A.upd (w':=w3.setCell ⟨r.fb,0,none⟩ (.slice p2 (r.f.data.length+n) c2)) (f':=⟨r.f.data++ls.flatten,r.f.lasts⟩) (v':=.slice p2 (r.f.data.length+n) c2) Hg.o
  (by simpa[World.setCell]using c.size) (fun k z h1 A=>(set_other _ h1).trans (c.block k z A)) (by rw[zAC y];simp)
  (by
   have e1:(r.f.data++ls.flatten).length=r.f.data.length+n:=by rw[List.length_append,ac.o]
   unfold zAi;rw[e1,zBl];exact OwnR.keep l fun k z=>set_other _ (ak k z))
  (fun g E=>by
   rcases p with e|⟨g',e,ai⟩
   ·exact .inl (by rw[←e];exact E)
   ·rw[e]at E;cases E;exact .inr ai) aq.o
 refine(zDJ h4 ao.o).mono ?_;rintro e w5 ⟨rfl,az,ax⟩;have ag:Chg (Has own) w w5:=by
  have aD:Has own d:=by unfold Has;rw[A.od];simp
  have aC:Has own r.fb:=by unfold Has;rw[t.o.ob];simp
  have aE:∀g,r.v.ownBlock=some g→Has own g:=fun g E=>by unfold Has;rw[t.o.og g E];simp
  have k1:Chg (Has own) w w1:=below2 ab.o I.o;have k2:Chg (Has own) w w2:=k1.trans ((Chg.of_below X.o.2).mono (T:=Has own) fun _ _ h=>h.elim) fun _ _ h=>h;have k3:Chg (Has own) w w3:=k2.trans (Chg.of_grown c) fun i _ e=>aE i e.symm;have c4:Chg (Has own) w (w3.setCell ⟨r.fb,0,none⟩ (.slice p2 (r.f.data.length+n) c2)):=k3.trans (Chg.setCell w3 ⟨r.fb,0,none⟩ (.slice p2 (r.f.data.length+n) c2)) fun i _ e=>by rw[e];exact aC
  exact c4.trans ax fun i _ e=>by rw[e];exact aD
 clear l c p y A h4 aB ak aw aA;have Hx:=zh O;clear O;go_wp2_with fail;go_ret;exact⟨own',rfl,az,ag,fun k z=>Hx.o k (Nat.lt_of_lt_of_le z (Nat.le_trans (below2 (S:=fun _=>False) ab.o I.o).size X.o.2.size))⟩
theorem new_has {w2 w3:World}{o:Obj}(h:zAc w2 d m left L own D){v:Value}{l:Bs}(n:zAb w2 v l)(f:(w2.alloc o).grownBy w3 (some m)):zAb w3 v l:=by
 obtain⟨es,b,g,_⟩:=h.map;have c:Chg (fun k=>k=m) w2 w3:=((Chg.alloc w2 _).mono (T:=fun k=>k=m) fun _ _ h=>h.elim).trans (Chg.of_grown f) fun i _ e=>by simpa using e
 exact zAK.chg2 n c fun a u j _=>no_cell_map g j
theorem append_new (h:zAc w d m left L own D)(s:ByteArray)(x:Value)(ls:List Bs)(hx:zBE w x ls)(hn:ls.length≤140737488355328)(hl:ls.flatten.length≤140737488355328)(aj:s.size≤9223372036854775807)(hm:D.may [nm s]=0)
  (hf:D.full (nm s) ls.flatten=false) (hg:Sat.get (nm s) L=none) :
  Calls prog 15 #[.pointer (some ⟨d,0,none⟩),.string s,x] w (zDL w d own (zAA.done {D with files:=put (nm s) ⟨ls.flatten,0⟩ D.files},0)):=by
 have af:=(Below.refl w.heap.size w).alloc (Nat.le_refl _) (.cells #[.string s] 9);have h1:=h.chg (Chg.alloc w (.cells #[.string s] 9)) (fun k t=>t.elim);have hc:=zBd h1 _ [s] 1 (zBV w s) (by simp) (by simpa using aj);simp only[List.map_cons,List.map_nil,hm]at hc;have hj:=zCm (zCt hx af) hn hl;have V:D.cur (nm s)=⟨[],0⟩:=by simp[zAA.cur,h.get,hg]
 have O:=ok_append h.ok hm hf;rw[V]at O;simp only[List.nil_append]at O;have aq:=(zDk hm).1;have aI:D.used+ls.flatten.length≤D.room∧L.length<4096:=by
  simp only[zAA.full,Bool.or_eq_false_iff,decide_eq_false_iff_not,h.get,hg,h.len,Option.map_none,Option.isNone_none,Bool.true_and]at hf;omega
 obtain⟨Y,M⟩:=aI;have hr:=h.ok.room;have H1:=zh h1;have Hc:=zh hc;have Hj:=zh hj;have ak:=zh af;have ay:=zh O;have av:=zh aq;clear h hc h1 hm hj hx af O V hf aq
 go_enter func15,ntmps15
 go_wp2_with fail;refine Hc.o.mono ?_;rintro e w' ⟨rfl,rfl⟩;go_wp2_with fail;refine Hj.o.mono ?_;rintro e w1 ⟨b,rfl,hb,B⟩;have Hb:=zh hb;obtain⟨pb,cb,rfl⟩:=zAb.slice hb;clear hb;have I:=H1.o.chg (Chg.of_below B) (fun k t=>t.elim);have ap:=I.c1;have ah:=zBj w1 zB5 underlying9 underlying113 (zBr w1) zB4.fb I.map aj hg;have HS:Still w1 d m left L own D w1.drew:=zB0 ⟨I,Below.refl _ _⟩ ((Below.refl _ _).drew);have HU:=fun W (h:Still w1 d m left L own D W)=>zGQ h.1;generalize hR:D.room=R at Y hr;generalize hU:D.used=U at Y HU;generalize Z:L.length=N at M;generalize ar:ls.flatten.length=n at *;have aT:decide ((R:Int)-(U:Int)<(n:Int))=false:=by simp;omega
 have aQ:IntKind.i64.wrap ((R:Int)-(U:Int))=(R:Int)-(U:Int):=IntWalk.i64_in _ (by omega);have aP:decide ((4096:Int)≤(N:Int))=false:=by simp;omega
 have HR:=zh hR;have Q:=zh Z;have P:=zh B;have Hg:=zh hg;have an:=zh ar;clear hR hU I B hg Z ar;go_wp2_with fail;obtain⟨ι,F,aU,ao,a,A⟩:=classOf _ HS;have aA:∀n,(F n).cell? ⟨d,0,none⟩=some (.int .i64 (R:Int)):=fun n=>by rw[(a n).1.c0,HR.o]
 have aB:∀n,(F n).cell? ⟨d,1,none⟩=some (.map (some m)):=fun n=>(a n).1.c1;have fl:∀n ty,(Builtin.len_ #[113] ty #[.map (some m)]).run prog (F n)=.ok (.int .i64 (N:Int)) (F n):=fun n ty=>by rw[len_run (a n).1 ty,Q.o]
 have ab:=zh a;have ac:=zh A;clear a A HS;refine zCc F (by kernel_rfl) (by kernel_rfl) ao ?_
 repeat(go_big_quiet_step ((go_at_call 67;refine(HU _ (ab.o _)).mono ?_;rintro e w2 ⟨rfl,aC⟩;exact⟨rfl,ac.o _ (zB0 (ab.o _) aC)⟩)))
 refine wpQuiet_nil ?_;rintro _ ⟨q,rfl⟩;have y:=ab.o q;clear ao aA aB fl ah ap HU;generalize F q=w2 at y ⊢;have ap:=y.1.c1;have aR:=y.1.dlt;have hN:L.length<maxLen:=by rw[Q.o];unfold maxLen;omega
 have K:=y.1.map.alloc (.cells #[.slice none 0 0,.int .i64 0] 123);have z:=zh y;have am:=zh K;clear y K;obtain⟨i0,hi,aM,aN,aO⟩:=info_parts (show(prog.info? 5).map (fun i=>(i.zero,i.size,i.bytes))=some (some (.int .u8 0),1,1) by kernel_rfl);go_wp2_with (first|(at_mapUpdate;refine wpList_mapUpdate_own _ rfl _ _ _ 113 rfl 9 121 zB5 underlying113 ptrR m L.length (dm fbD L) rfl am.o hN _ _ _ rfl rfl (WideMaps.keyOf_string_mk underlying9 aj) (.held w2.heap.size) [] rfl ?_;intro w3 j l;have G:=zEO l (zAI w2 _) (by intro e;have h9:=z.o.1.mlt;cases e;omega);have aD:=zAG (i:=0) G rfl;have ae:=zh (And.intro j (And.intro l G));clear j l G)|(at_builtin;have J:=new_has z.o.1 (zAb.below Hb.o z.o.2) ae.o.2.1;unfold zAb at J;rw[an.o]at J;refine zAO w3 rfl (.tmp 61) (.tmp 62) 22 rfl 5 i0 (.int .u8 0) 1 1 underlying22 hi aM aN aO rfl (by decide) (.slice none 0 0) 0 [] rfl (OwnR.nil _ _ _) (.slice pb n cb) n (zAR ls.flatten) rfl J (zAN _) (by unfold maxLen;omega) (by omega) ?_;clear J;intro v' w4 f c p;obtain⟨p2,c2,rfl⟩:=OwnR.shape f;have v:=zEO c ae.o.2.2 (by intro e;cases e);have aE:=zAG (i:=0) v rfl;have aH:=zAE v 0;have aw:=zh (And.intro f (And.intro c (And.intro p v)));clear f c p v))
 obtain⟨j,l,_⟩:=ae.o;obtain⟨f,c,p,v⟩:=aw.o;have I:=z.o.1;have aK:w2.heap.size+1≤w3.heap.size:=by
  have:=l.size;simpa using this
 have aL:=c.size;have ai:∀k,(Value.slice p2 (0+n) c2).ownBlock=some k→w2.heap.size≤k∧k≠w2.heap.size:=fun k t=>by
  rcases p with e|⟨g,e,aS⟩
  ·rw[e]at t;cases t
  ·rw[e]at t;cases t;omega
 have H:∀k,k<w2.heap.size→k≠m→w4.heap[k]?=w2.heap[k]?:=fun k t ag=>by
  rw[c.block k (by omega) (by intro e;cases e),l.block k (by simp;omega) (by intro e;cases e;exact ag rfl)];exact heap_alloc_old w2 _ t
 obtain⟨own',h4,X⟩:=I.add (w':=w4.setCell ⟨w2.heap.size,0,none⟩ (.slice p2 (0+n) c2)) (r:=⟨w2.heap.size,.slice p2 (0+n) c2,⟨ls.flatten,0⟩⟩) Hg.o
  (by simp[World.setCell];omega) (fun k t ag=>(set_other _ (by simp;omega)).trans (H k t ag))
  ⟨_,(j.kept c (by intro e;cases e)).setCell (by have:=I.mlt;simp;omega) _⟩ (by rw[zAC v];simp) (Nat.le_refl _)
  (by
   have e1:ls.flatten.length=0+n:=by rw[an.o,Nat.zero_add]
   unfold zAi
   show OwnR _ _ _ _ ls.flatten.length _
   rw[e1];exact OwnR.keep f fun k t=>set_other _ (ai k t).2)
  ai ay.o
 have C:Chg (Has own) w (w4.setCell ⟨w2.heap.size,0,none⟩ (.slice p2 (0+n) c2)):=by
  have aJ:Has own m:=by unfold Has;rw[I.om];simp
  have k1:Chg (Has own) w w1:=below2 ak.o P.o;have k2:Chg (Has own) w w2:=k1.trans ((Chg.of_below z.o.2).mono (T:=Has own) fun _ _ h=>h.elim) fun _ _ h=>h;have k4:Chg (fun k=>k=m) w2 w4:=⟨by rw[c.os,l.os];rfl,by rw[c.tape,l.tape];rfl,by rw[c.output,l.output];rfl,by omega,H⟩;have k5:Chg (fun k=>k=m∨w2.heap.size≤k) w2 (w4.setCell ⟨w2.heap.size,0,none⟩ (.slice p2 (0+n) c2)):=(k4.mono (T:=fun k=>k=m∨w2.heap.size≤k) fun _ _ h=>.inl h).trans (Chg.setCell w4 _ _) fun i _ e=>.inr (by rw[e];exact Nat.le_refl _);have aV:=k2.size;exact k2.trans k5 fun i hi e=>by
   rcases e with e|e
   ·rw[e];exact aJ
   ·omega
 have au:Has own d:=by unfold Has;rw[I.od];simp
 have aa:=Nat.le_trans (below2 (S:=fun _=>False) ak.o P.o).size z.o.2.size;simp only[Nat.zero_add]at h4 C;have E:=zDJ h4 av.o;have ad:=zh E;have al:=zh C;have Hx:=zh X;have ax:=zh au;have az:=zh aa;clear j l f c p v I aK aL ai H h4 X C au aa E aD aE aH;refine ad.o.mono ?_;rintro e w5 ⟨rfl,aG,aF⟩;go_wp2_with fail;go_ret;exact⟨own',rfl,aG,al.o.trans aF fun i _ e=>by rw[e];exact ax.o,fun k t=>Hx.o k (Nat.lt_of_lt_of_le t az.o)⟩
theorem append_calls (h:zCP w d D own)(s:ByteArray)(x:Value)(ls:List Bs)(n:zBE w x ls)(hn:ls.length≤140737488355328)(l:ls.flatten.length≤140737488355328)(c:s.size≤9223372036854775807) :
  Calls prog 15 #[.pointer (some ⟨d,0,none⟩),.string s,x] w (zDL w d own (D.append (nm s) ls.flatten)):=by
 obtain⟨m,left,L,h⟩:=h;unfold zAA.append
 by_cases g:D.may [nm s]=0
 ·rw[if_neg (by simpa using g)]
  by_cases i:D.full (nm s) ls.flatten=true
  ·rw[if_pos i]
   by_cases o:D.room<D.used+ls.flatten.length
   ·exact append_full h s x ls n hn l c g o
   ·simp only[zAA.full,o,decide_false,Bool.false_or,Bool.and_eq_true,Option.isNone_iff_eq_none,decide_eq_true_eq,h.get,h.len,Option.map_eq_none_iff]at i;exact append_count h s x ls n hn l c g (by omega) i.1 i.2
  ·rw[if_neg i];have j:D.full (nm s) ls.flatten=false:=by simpa using i
   cases k:Sat.get (nm s) L with
   | none =>
    have b:D.cur (nm s)=⟨[],0⟩:=by simp[zAA.cur,h.get,k]
    rw[b];exact append_new h s x ls n hn l c g j k
   | some r =>
    have b:D.cur (nm s)=r.f:=by simp[zAA.cur,h.get,k]
    rw[b];exact append_old h s x ls n hn l c g j r k
 ·rw[if_pos (by simpa using g)];exact append_bad h s x c g
end
def Did (W:World)(d:Nat)(own:Own)(D:zAA)(e:Ending)(w':World):Prop :=
 ∃own',e=.returned (.tuple #[])∧zCP w' d D own'∧Chg (Has own) W w'∧Ext W own own'
theorem ok_sync {D:zAA}(h:D.OK){n:Bs}{f:zAW}(c:Sat.get n D.files=some f):zAA.OK {D with files:=zAA.gSync n f D.files} where
 srt:=zCO h.srt
 room:=h.room
 used:=by
  show zBZ zAA.size (put n _ D.files)≤D.room
  rw[sum_put];have d:D.used=zAA.size f+zBZ zAA.size (del n D.files):=zDr h.srt c;have:=h.used;simp only[zAA.size]at d ⊢;omega
 count:=by
  show(put n _ D.files).length≤4096
  rw[len_put];have:=len_del h.srt c;have:=h.count;omega
 names p b:=by
  rcases zBe.1 b with rfl|⟨b,_⟩
  ·exact(h.names (n,f) (zBn c):okN n=true)
  ·exact h.names p b
 lasts p b:=by
  rcases zBe.1 b with rfl|⟨b,_⟩
  ·exact Nat.le_refl _
  ·exact h.lasts p b
 fuse:=h.fuse
theorem ok_del {D:zAA}(h:D.OK)(n:Bs):zAA.OK {D with files:=del n D.files} where
 srt:=zCv h.srt
 room:=h.room
 used:=by
  show zBZ zAA.size (del n D.files)≤D.room
  cases b:Sat.get n D.files with
  | none=>rw[zDh b];exact h.used
  | some f =>
   have c:D.used=zAA.size f+zBZ zAA.size (del n D.files):=zDr h.srt b;have:=h.used;omega
 count:=Nat.le_trans (len_del_le _ _) h.count
 names p hp:=h.names p (zBM.1 hp).1
 lasts p hp:=h.lasts p (zBM.1 hp).1
 fuse:=h.fuse
section
variable {w:World} {d m:Nat} {left:Int} {L:List (Bs×zB4)} {own:Own} {D:zAA}
theorem has_d (h:zAc w d m left L own D):Has own d:=by unfold Has;rw[h.od];simp
theorem has_m (h:zAc w d m left L own D):Has own m:=by unfold Has;rw[h.om];simp
theorem has_f (h:zAc w d m left L own D){n:Bs}{r:zB4}(b:Sat.get n L=some r):Has own r.fb:=by unfold Has;rw[(h.fileAt b).ob];simp
theorem sync1_calls (h:zAc w d m left L own D)(s:ByteArray){r:zB4}(l:Sat.get (nm s) L=some r) :
  Calls prog 182 #[.string s,.pointer (some ⟨r.fb,0,none⟩)] w (Did w d own {D with files:=zAA.gSync (nm s) r.f D.files}):=by
 have b:=h.fileAt l;have B:=zAG (i:=0) b.cells rfl;have C:=zAG (i:=1) b.cells rfl;have G:=zAE b.cells 1;obtain⟨p,c,a⟩:=zAi.slice b.row;have E:r.f.data.length≤1073741824:=by
  have:=h.ok.used;have:=h.ok.room;have:r.f.data.length≤D.used:=by rw[h.used];exact le_sum (f:=fun r:zB4=>r.f.data.length) h.srt l
  omega
 have j:Did w d own {D with files:=zAA.gSync (nm s) r.f D.files} (.returned (.tuple #[])) (w.setCell ⟨r.fb,1,none⟩ (.int .i64 (r.f.data.length:Int))):=by
  have z:∀k,r.v.ownBlock=some k→k≠r.fb:=fun k t=>h.ne_of (b.og k t) b.ob (by simp);obtain⟨own',A,F⟩:=h.upd (w':=w.setCell ⟨r.fb,1,none⟩ (.int .i64 (r.f.data.length:Int))) (v':=r.v) (f':=⟨r.f.data,r.f.data.length⟩) l (by simp[World.setCell]) (fun k _ t _=>set_other _ t)
   (by rw[zAC b.cells];simp) (b.row.keep fun k t=>set_other _ (z k t)) (fun g y=>.inl y) (ok_sync h.ok (by rw[h.get,l];rfl))
  exact⟨own',rfl,⟨m,left,_,A⟩,(Chg.setCell w _ _).mono fun k _ e=>by rw[e];exact has_f h l,F⟩
 rw[a]at B;have q:=zh j;clear j h l b a;generalize r.f.data.length=n at *
 go_enter func182,ntmps182
 go_wp2
 go_end0
 exact q.o
theorem remove1_calls (h:zAc w d m left L own D)(s:ByteArray)(I:s.size≤9223372036854775807){r:zB4}(v:Sat.get (nm s) L=some r)(cb:Nat)(G:w.cell? ⟨cb,0,none⟩=some (.pointer (some ⟨d,0,none⟩))) :
  Calls prog 147 #[.string s,.pointer (some ⟨r.fb,0,none⟩),.pointer (some ⟨cb,0,none⟩)] w (Did w d own {D with files:=zAA.gRemove (nm s) r.f D.files}):=by
 have F:=h.c1;have n:=WideMaps.keyOf_string_mk underlying9 I;have i:∀w',w'.ownsMap prog 9 ptrR m L.length ((dm fbD L).del (.string s.data.toList))→w.mapTurned w' m→Did w d own {D with files:=zAA.gRemove (nm s) r.f D.files} (.returned (.tuple #[])) w':=by
  intro w' b J;rw[dm_del]at b;have j:=J.grown;obtain⟨own',E,M⟩:=h.remap (w':=w') (L':=del (nm s) L) (D':={D with files:=del (nm s) D.files}) j.size (fun k H y=>j.block k H (by intro e;cases e;exact y rfl)) ⟨_,b⟩ (zCv h.srt) rfl rfl
   (by rw[mp_del,←h.files]) (ok_del h.ok _) (fun p t=>⟨p,(zBM.1 t).1,rfl⟩) (fun p t q a e=>by
    have B:=h.file p (zBM.1 t).1;have C:=h.file q (zBM.1 a).1;have z:=B.ob;rw[e,C.ob]at z;exact zF7 h.srt (zBM.1 t).1 (zBM.1 a).1 (by simpa using z.symm))
  exact⟨own',rfl,⟨m,left,_,E⟩,(Chg.of_grown j).mono fun k _ e=>by cases e;exact has_m h,M⟩
 have b:=h.map;have l:=zh i;clear i h v
 go_enter func147,ntmps147
 go_wp2_with (first|(at_delete;refine wpList_delete_own _ rfl _ _ 113 9 rfl 121 zB5 underlying113 ptrR m L.length (dm fbD L) rfl b _ _ rfl n ?_;intro w1 g c;have A:=zh (l.o _ g c);clear g c))
 go_end0
 exact A.o
theorem each_append (g:Bs→zAW→List (Bs×zAW)→List (Bs×zAW))(D:zAA)(l r:List Bs)(h:(D.each g l).2=0):D.each g (l++r)=(D.each g l).1.each g r:=by
 induction l generalizing D with
 | nil=>rfl
 | cons n l ih =>
  simp only[List.cons_append,zAA.each]at h ⊢
  by_cases b:(zAA.each1 g D n).2=0
  ·rw[if_pos b]at h ⊢;rw[if_pos b];exact ih _ h
  ·rw[if_neg b]at h;exact absurd h b
def zFb (w:World)(d:Nat)(own:Own)(D:zAA)(g:Bs→zAW→List (Bs×zAW)→List (Bs×zAW))(ns:List Bs)(k:Nat)(wr:World):Prop :=
 ∃own' m left L,zAc wr d m left L own' (D.each g (ns.take k)).1∧(D.each g (ns.take k)).2=0∧Chg (Has own) w wr∧Ext w own own'
def DoesAt (b:Value)(g:Bs→zAW→List (Bs×zAW)→List (Bs×zAW))(d:Nat)(w:World)(own:Own):Prop :=
 (b=.func (.func 182) #[] #[]∧g=zAA.gSync) ∨
 ∃cb,b=.func (.func 147) #[] #[.pointer (some ⟨cb,0,none⟩)]∧g=zAA.gRemove∧w.cell? ⟨cb,0,none⟩=some (.pointer (some ⟨d,0,none⟩))∧own cb=none
theorem each_round {w wr:World}{g:Bs→zAW→List (Bs×zAW)→List (Bs×zAW)}{ns:List Bs}{k:Nat}{n:Bs}(o:zFb w d own D g ns k wr)(hn:ns[k]?=some n) :
  ∃D',D.each g ns=(if(zAA.each1 g D' n).2=0 then(zAA.each1 g D' n).1.each g (ns.drop (k+1))else zAA.each1 g D' n)∧(D.each g (ns.take k)).1=D' ∧
   ((zAA.each1 g D' n).2=0→D.each g (ns.take (k+1))=zAA.each1 g D' n):=by
 obtain⟨own',m,left,L,_,f,_⟩:=o;refine⟨_,?_,rfl,fun i=>?_⟩
 ·have c:k<ns.length:=(List.getElem?_eq_some_iff.1 hn).1;have b:ns[k]=n:=(List.getElem?_eq_some_iff.1 hn).2;have j:ns=ns.take k++n::ns.drop (k+1):=by rw[←b,←List.drop_eq_getElem_cons c,List.take_append_drop]
  have l:D.each g ns=D.each g (ns.take k++n::ns.drop (k+1)):=by rw[←j]
  rw[l,each_append g D _ _ f];rfl
 ·have c:k<ns.length:=(List.getElem?_eq_some_iff.1 hn).1;have b:ns[k]=n:=(List.getElem?_eq_some_iff.1 hn).2;rw[List.take_succ_eq_append_getElem c,each_append g D _ _ f,b];simp only[zAA.each,if_pos i];exact Prod.ext rfl i.symm
theorem chg_ext {w wr w2:World}{own own':Own}(h:Chg (Has own) w wr)(d:Ext w own own')(k:Chg (Has own') wr w2):Chg (Has own) w w2 :=
 h.trans k fun i b t c=>t (d i b c)
theorem ext_trans {w wr:World}{own own' own2:Own}(d:w.heap.size≤wr.heap.size)(h:Ext w own own')(k:Ext wr own' own2):Ext w own own2:=fun i b c=>k i (Nat.lt_of_lt_of_le b d) (h i b c)
theorem each1_bad {g:Bs→zAW→List (Bs×zAW)→List (Bs×zAW)}{D:zAA}{n:Bs}(h:D.may [n]≠0):zAA.each1 g D n=(D,D.may [n]):=by
 unfold zAA.each1;rw[if_pos h]
theorem each1_none {g:Bs→zAW→List (Bs×zAW)→List (Bs×zAW)}{D:zAA}{n:Bs}(h:D.may [n]=0)(b:Sat.get n D.files=none):zAA.each1 g D n=(D,7):=by
 unfold zAA.each1;rw[if_neg (by simpa using h),b]
theorem each1_some {g:Bs→zAW→List (Bs×zAW)→List (Bs×zAW)}{D:zAA}{n:Bs}{f:zAW}(h:D.may [n]=0)(b:Sat.get n D.files=some f):zAA.each1 g D n=(zAA.done {D with files:=g n f D.files},0):=by
 unfold zAA.each1;rw[if_neg (by simpa using h),b]
theorem zFw {w wr:World}{g:Bs→zAW→List (Bs×zAW)→List (Bs×zAW)}{ns:List Bs}{k:Nat}{n:Bs}{D':zAA}{e:Nat}{o:Obj}(j:zFb w d own D g ns k wr)(hn:ns[k]?=some n)
  (f:(D.each g (ns.take k)).1=D') (l:zAA.each1 g D' n=(D',e)) (q:e≠0):zDL w d own (D.each g ns) (.returned (.int .i64 (e:Int))) (wr.alloc o):=by
 obtain⟨s,b,c,_⟩:=each_round j hn;rw[f]at c;subst c;rw[l,if_neg q]at b;obtain⟨own',m,left,L,i,t,p,r⟩:=j;rw[f]at i;rw[b];exact⟨own',rfl,⟨m,left,L,i.chg (Chg.alloc wr o) fun _ h=>h.elim⟩,p.trans ((Chg.alloc wr o).mono (T:=Has own) fun _ _ h=>h.elim) fun _ _ h=>h,r⟩
theorem each_next {w wr w3:World}{g:Bs→zAW→List (Bs×zAW)→List (Bs×zAW)}{ns:List Bs}{k:Nat}{n:Bs}{D' f:zAA}{own2:Own}(q:zFb w d own D g ns k wr)(hn:ns[k]?=some n)
  (o:(D.each g (ns.take k)).1=D') (b:zAA.each1 g D' n=(f,0)) (c:zCP w3 d f own2) (p:Chg (Has own) w w3) (r:Ext w own own2):zFb w d own D g ns (k+1) w3:=by
 obtain⟨s,_,i,l⟩:=each_round q hn;rw[o]at i;subst i;have j:=l (by rw[b]);obtain⟨m,left,L,c⟩:=c;exact⟨own2,m,left,L,by rw[j,b];exact c,by rw[j,b],p,r⟩
theorem each_calls (h:zCP w d D own)(p:Option Addr)(q:List ByteArray)(c:Nat)(hs:zEm w p q)(hm:q.length≤140737488355328)(aw:∀s∈q,s.size≤9223372036854775807)(av:∀a,p=some a→own a.block=none)
  (fv:Value) (g:Bs→zAW→List (Bs×zAW)→List (Bs×zAW)) (aA:DoesAt fv g d w own) :
  Calls prog 146 #[.pointer (some ⟨d,0,none⟩),.slice p q.length c,fv] w (zDL w d own (D.each g (q.map nm))):=by
 obtain⟨m0,an,L0,h⟩:=h;have t:zFb w d own D g (q.map nm) 0 w:=⟨own,m0,an,L0,by simpa[zAA.each]using h,by simp[zAA.each],Chg.refl _ _,zCY _ _⟩;clear h;have ap:=zh av;have aq:=zh aw;have Hs:=zh hs;clear av aw hs;rcases aA with⟨rfl,rfl⟩|⟨cb,rfl,rfl,ar,au⟩
 ·go_enter func146,ntmps146
  go_wp2
  go_loopw [15] (fun i wr=>∃k:Nat,k≤q.length∧i=.int .i64 k∧zFb w d own D zAA.gSync (q.map nm) k wr) (fun i _=>q.length-(intOf i).toNat)
  case atStart=>exact⟨0,Nat.zero_le _,rfl,t⟩
  case round =>
   clear t;obtain⟨k,hk,rfl,hrel⟩:=hrel
   by_cases B:k<q.length
   ·have ae:q[k]?=some q[k]:=List.getElem?_eq_getElem B;have I:q[k].size≤9223372036854775807:=aq.o _ (List.getElem_mem B);have ac:(q.map nm)[k]?=some (nm q[k]):=by simp[B]
    have E:=hrel;obtain⟨own',m,left,L,G,V,S,hx⟩:=hrel;generalize hD:(D.each zAA.gSync ((q.map nm).take k)).1=D' at *;have z:∃b o,p=some ⟨b,o,none⟩∧wr.cell? ⟨b,o+k,none⟩=some (.string q[k]):=by
     rcases Hs.o with h|⟨b,o,rfl,al⟩
     ·rw[h]at B;simp at B
     ·refine⟨b,o,rfl,S.cell (al k _ ae) ?_⟩;intro hh;exact hh (ap.o ⟨b,o,none⟩ rfl)
    obtain⟨b,o,rfl,z⟩:=z;generalize q[k]=s at *;have H:=G.chg (Chg.alloc wr (.cells #[.string s] 9)) (fun k hk=>hk.elim);have f:=zBd H _ [s] 1 (zBV wr s) (by simp) (by simpa using I);simp only[List.map_cons,List.map_nil]at f;have y:=zh E;have N:=zh ac;have HD:=zh hD;have Hc:=zh S;have Hx:=zh hx;have H0:=zh V;clear E ac hD S hx ae V
    by_cases j:D'.may [nm s]=0
    ·rw[j]at f;have az:=H.c1;cases Q:Sat.get (nm s) L with
     | none =>
      have R:=zBj _ zB5 underlying9 underlying113 (zBr _) zB4.fb H.map I Q;have n:=zFw (o:=.cells #[.string s] 9) y.o N.o HD.o (each1_none (g:=zAA.gSync) j (by rw[G.get,Q];rfl)) (by decide);have v:=zh n;have l:=zh f;clear n f H G Q j;go_wp2_with fail;refine l.o.mono ?_;rintro e w' ⟨rfl,rfl⟩;go_wp2_with fail;go_ret;exact v.o
     | some r =>
      have R:=zB2 _ zB5 underlying9 underlying113 (zBr _) zB4.fb H.map I Q;have aa:=sync1_calls H s Q;have C:=fun w3 own2=>each_next (w3:=w3) (own2:=own2) y.o N.o HD.o (each1_some (g:=zAA.gSync) j (by rw[G.get,Q];rfl));have ab:=(zDk j).1;have l:=zh f;have ai:=zh aa;have M:=zh C;have aj:=zh ab;clear f H G Q j aa C ab;go_wp2_with fail;refine l.o.mono ?_;rintro e w' ⟨rfl,rfl⟩;go_wp2_with fail;refine ai.o.mono ?_;rintro e w2 ⟨own2,rfl,⟨m2,ao,L2,P⟩,X,af⟩;have A:=zDJ P aj.o;have ad:Has own2 d:=has_d P;have Z:=chg_ext Hc.o Hx.o (((Chg.alloc wr _).mono (T:=Has own') fun _ _ h=>h.elim).trans X fun _ _ h=>h);have ag:=ext_trans Hc.o.size Hx.o (fun i hi ho=>af i (by simp;omega) ho);have J:=zh A;have ak:=zh ad;have ah:=zh Z;have W:=zh ag;clear A ad Z ag P X af;go_wp2_with fail;refine J.o.mono ?_;rintro e w3 ⟨rfl,K,Y⟩;have F:=M.o _ _ K (chg_ext ah.o W.o (Y.mono fun i _ e=>by rw[e];exact ak.o)) W.o;have O:=zh F;clear K Y F;go_wp2_with fail;go_roundw
      case rel=>exact⟨k+1,by omega,by go_num,O.o⟩
      case measure=>simp[intOf];omega
    ·have n:=zFw (o:=.cells #[.string s] 9) y.o N.o HD.o (each1_bad (g:=zAA.gSync) j) j;generalize D'.may [nm s]=e at *;have aB:((e:Int) != 0)=true:=by simp;exact j
     have v:=zh n;have l:=zh f;clear n f H G j;go_wp2_with fail;refine l.o.mono ?_;rintro e w' ⟨rfl,rfl⟩;go_wp2_with fail;go_ret;exact v.o
   ·have am:k=q.length:=by omega
    obtain⟨own',m,left,L,G,V,S,hx⟩:=hrel;rw[List.take_of_length_le (by simp;omega)]at G V;have Hd:=zh G;have H0:=zh V;have Hc:=zh S;have Hx:=zh hx;clear G V S hx am;go_wp2_with fail;go_ret;exact⟨own',by rw[H0.o];rfl,⟨m,left,L,Hd.o⟩,Hc.o,Hx.o⟩
 ·have ax:=zh ar;have ay:=zh au;clear ar au
  go_enter func146,ntmps146
  go_wp2
  go_loopw [15] (fun i wr=>∃k:Nat,k≤q.length∧i=.int .i64 k∧zFb w d own D zAA.gRemove (q.map nm) k wr) (fun i _=>q.length-(intOf i).toNat)
  case atStart=>exact⟨0,Nat.zero_le _,rfl,t⟩
  case round =>
   clear t;obtain⟨k,hk,rfl,hrel⟩:=hrel
   by_cases B:k<q.length
   ·have ae:q[k]?=some q[k]:=List.getElem?_eq_getElem B;have I:q[k].size≤9223372036854775807:=aq.o _ (List.getElem_mem B);have ac:(q.map nm)[k]?=some (nm q[k]):=by simp[B]
    have E:=hrel;obtain⟨own',m,left,L,G,V,S,hx⟩:=hrel;generalize hD:(D.each zAA.gRemove ((q.map nm).take k)).1=D' at *;have z:∃b o,p=some ⟨b,o,none⟩∧wr.cell? ⟨b,o+k,none⟩=some (.string q[k]):=by
     rcases Hs.o with h|⟨b,o,rfl,al⟩
     ·rw[h]at B;simp at B
     ·refine⟨b,o,rfl,S.cell (al k _ ae) ?_⟩;intro hh;exact hh (ap.o ⟨b,o,none⟩ rfl)
    obtain⟨b,o,rfl,z⟩:=z;generalize q[k]=s at *;have H:=G.chg (Chg.alloc wr (.cells #[.string s] 9)) (fun k hk=>hk.elim);have f:=zBd H _ [s] 1 (zBV wr s) (by simp) (by simpa using I);simp only[List.map_cons,List.map_nil]at f;have U:(wr.alloc (.cells #[.string s] 9)).cell? ⟨cb,0,none⟩=some (.pointer (some ⟨d,0,none⟩)) :=
     (Chg.alloc wr _).cell (S.cell ax.o fun hh=>hh ay.o) fun h=>h
    have y:=zh E;have N:=zh ac;have HD:=zh hD;have Hc:=zh S;have Hx:=zh hx;have H0:=zh V;clear E ac hD S hx ae V
    by_cases j:D'.may [nm s]=0
    ·rw[j]at f;have az:=H.c1;cases Q:Sat.get (nm s) L with
     | none =>
      have R:=zBj _ zB5 underlying9 underlying113 (zBr _) zB4.fb H.map I Q;have n:=zFw (o:=.cells #[.string s] 9) y.o N.o HD.o (each1_none (g:=zAA.gRemove) j (by rw[G.get,Q];rfl)) (by decide);have v:=zh n;have l:=zh f;clear n f H G Q j U;go_wp2_with fail;refine l.o.mono ?_;rintro e w' ⟨rfl,rfl⟩;go_wp2_with fail;go_ret;exact v.o
     | some r =>
      have R:=zB2 _ zB5 underlying9 underlying113 (zBr _) zB4.fb H.map I Q;have aa:=remove1_calls H s I Q cb U;have C:=fun w3 own2=>each_next (w3:=w3) (own2:=own2) y.o N.o HD.o (each1_some (g:=zAA.gRemove) j (by rw[G.get,Q];rfl));have ab:=(zDk j).1;have l:=zh f;have ai:=zh aa;have M:=zh C;have aj:=zh ab;clear f H G Q j aa C ab U;go_wp2_with fail;refine l.o.mono ?_;rintro e w' ⟨rfl,rfl⟩;go_wp2_with fail;refine ai.o.mono ?_;rintro e w2 ⟨own2,rfl,⟨m2,ao,L2,P⟩,X,af⟩;have A:=zDJ P aj.o;have ad:Has own2 d:=has_d P;have Z:=chg_ext Hc.o Hx.o (((Chg.alloc wr _).mono (T:=Has own') fun _ _ h=>h.elim).trans X fun _ _ h=>h);have ag:=ext_trans Hc.o.size Hx.o (fun i hi ho=>af i (by simp;omega) ho);have J:=zh A;have ak:=zh ad;have ah:=zh Z;have W:=zh ag;clear A ad Z ag P X af;go_wp2_with fail;refine J.o.mono ?_;rintro e w3 ⟨rfl,K,Y⟩;have F:=M.o _ _ K (chg_ext ah.o W.o (Y.mono fun i _ e=>by rw[e];exact ak.o)) W.o;have O:=zh F;clear K Y F;go_wp2_with fail;go_roundw
      case rel=>exact⟨k+1,by omega,by go_num,O.o⟩
      case measure=>simp[intOf];omega
    ·have n:=zFw (o:=.cells #[.string s] 9) y.o N.o HD.o (each1_bad (g:=zAA.gRemove) j) j;generalize D'.may [nm s]=e at *;have aB:((e:Int) != 0)=true:=by simp;exact j
     have v:=zh n;have l:=zh f;clear n f H G j U;go_wp2_with fail;refine l.o.mono ?_;rintro e w' ⟨rfl,rfl⟩;go_wp2_with fail;go_ret;exact v.o
   ·have am:k=q.length:=by omega
    obtain⟨own',m,left,L,G,V,S,hx⟩:=hrel;rw[List.take_of_length_le (by simp;omega)]at G V;have Hd:=zh G;have H0:=zh V;have Hc:=zh S;have Hx:=zh hx;clear G V S hx am;go_wp2_with fail;go_ret;exact⟨own',by rw[H0.o];rfl,⟨m,left,L,Hd.o⟩,Hc.o,Hx.o⟩
theorem sync_calls (h:zCP w d D own)(p:Option Addr)(b:List ByteArray)(c:Nat)(m:zEm w p b)(l:b.length≤140737488355328)(g:∀s∈b,s.size≤9223372036854775807)(f:∀a,p=some a→own a.block=none) :
  Calls prog 130 #[.pointer (some ⟨d,0,none⟩),.slice p b.length c] w (zDL w d own (D.sync (b.map nm))):=by
 have k:=each_calls h p b c m l g f (.func (.func 182) #[] #[]) zAA.gSync (.inl ⟨rfl,rfl⟩);have q:=zh k;clear k h m l g f
 go_enter func130,ntmps130
 go_wp2_with fail;refine q.o.mono ?_;rintro e w' ⟨own',rfl,j,i,n⟩;have r:=zh (And.intro j (And.intro i n));clear j i n;go_wp2_with fail;go_ret;exact⟨own',rfl,r.o⟩
theorem remove_calls (h:zCP w d D own)(p:Option Addr)(g:List ByteArray)(c:Nat)(E:zEm w p g)(C:g.length≤140737488355328)(q:∀s∈g,s.size≤9223372036854775807)(l:∀a,p=some a→own a.block=none) :
  Calls prog 76 #[.pointer (some ⟨d,0,none⟩),.slice p g.length c] w (zDL w d own (D.remove (g.map nm))):=by
 have f:own w.heap.size=none:=by
  obtain⟨m,left,L,h⟩:=h;cases y:own w.heap.size with
  | none=>rfl
  | some t=>have:=h.olt _ t y;omega
 have z:=h.chg (Chg.alloc w (.cells #[.pointer (some ⟨d,0,none⟩)] 23)) (fun _ h=>h.elim);have n:zEm (w.alloc (.cells #[.pointer (some ⟨d,0,none⟩)] 23)) p g:=by
  rcases E with h|⟨b,o,rfl,v⟩
  ·exact .inl h
  ·exact .inr ⟨b,o,rfl,fun i s I=>(Chg.alloc w _).cell (v i s I) fun h=>h⟩
 have B:=each_calls z p g c n C q l (.func (.func 147) #[] #[.pointer (some ⟨w.heap.size,0,none⟩)]) zAA.gRemove (.inr ⟨_,rfl,rfl,zAG (zAI w _) rfl,f⟩);have G:=zh B;clear B h E C q l z n f
 go_enter func76,ntmps76
 go_wp2_with fail;refine G.o.mono ?_;rintro e w' ⟨own',rfl,A,v,F⟩;have j:Chg (Has own) w w':=((Chg.alloc w _).mono (T:=Has own) fun _ _ h=>h.elim).trans v fun _ _ h=>h;have r:Ext w own own':=fun k J y=>F k (by simp;omega) y;have H:=zh (And.intro A (And.intro j r));clear A v F j r;go_wp2_with fail;go_ret;exact⟨own',rfl,H.o⟩
end
end Go.Proofs.YtapfnehdgailmaaGreat
