/- What the program's functions and the document's do, and plain laws, for PJournalPlays. -/
import Derived.StillTailTactics
import Derived.Test.YtapfnehdgailmaaGreatJA
import Derived.Test.YtapfnehdgailmaaGreatJB
import Derived.Test.YtapfnehdgailmaaGreatJF
import Derived.Test.YtapfnehdgailmaaGreatJO
open Go.Proofs.Tryz
set_option maxRecDepth 100000
set_option maxHeartbeats 64000000
namespace Go.Proofs.YtapfnehdgailmaaGreat
open Go.RowKit Go.Sat Go.Maps
theorem zBy {w:World}{p:Option Addr}{n c:Nat}{zs:List Int}(J:zBY w (.slice p n c) zs)(V:∀z∈zs,-9223372036854775808≤z∧z≤9223372036854775807)(hl:zs.length≤1099511627776) :
  Calls prog 172 #[.slice p n c] w (zBX w (zAp zs)):=by
 obtain⟨i0,K,M,N,O⟩:=info_parts (show(prog.info? 5).map (fun i=>(i.zero,i.size,i.bytes))=some (some (.int .u8 0),1,1) by kernel_rfl);have hn:zs.length=n:=by obtain⟨_,_,e⟩:=J.slice;simp only[Value.slice.injEq]at e;exact e.2.1.symm
 have A:=zh hn;have X:=zh J;have Y:=zh V;have U:n≤1099511627776:=by omega
 clear J V hl hn
 go_enter func172,ntmps172
 go_wp2_with fail
 go_loopw [3,4] (fun b i wr=>∃(k:Nat) (H:Value),k≤n∧i=.int .i64 k∧H=b∧zCe w wr H (zAp (zs.take k))) (fun _ i _=>n-(intOf i).toNat)
 case atStart=>exact⟨0,_,Nat.zero_le _,rfl,rfl,by rw[List.take_zero];exact zCe.nil w⟩
 case round =>
  obtain⟨k,H,hk,rfl,rfl,f⟩:=hrel
  by_cases I:k<n
  ·have j:k<zs.length:=by rw[A.o];exact I
   rcases(show zBY wr (.slice p n c) zs from zAK.chg X.o (Chg.of_below f.bel) fun _ _=>id).at with h0|⟨b,o,c2,e2,hcell⟩
   ·rw[h0]at j;simp at j
   rw[A.o]at e2;simp only[Value.slice.injEq]at e2;obtain⟨rfl,-,rfl⟩:=e2;have Z:=hcell k _ (List.getElem?_eq_getElem j);have a:=Y.o _ (List.getElem_mem j);have F:=zh (numsI_take j);generalize zs[k]=z at *;have s:=zh (zEV wr z a);have E:=zh f;obtain⟨pv,cv,rfl,-⟩:=zAL f.own;have S:=zBA (zs.take k);have aa:=zBJ z;have T:(zs.take k).length≤n:=by rw[List.length_take,A.o];omega
   clear hcell f j a;go_wp2_with fail;refine s.o.mono ?_;rintro e w2 ⟨x,rfl,q,L,y⟩;have r:=zh (E.o.next y);have D:=zh (zAi.has q);obtain⟨W,P,rfl,-⟩:=zAL q;clear q L y;generalize Q:(zAp (zs.take k)).length=m at *;generalize v:(zDf z).length=B at *;have h:=zh (And.intro Q v);have t:=zh (show OwnR w2 5 1 (.slice pv m cv) m (zAR (zAp (zs.take k))) by have:=r.o.own;unfold zAi at this;rwa[h.o.1]at this);have G:=zh (show zAK w2 1 (.slice W B P) B (zAR (zDf z)) by have:=D.o;unfold zAb at this;rwa[h.o.2]at this);clear Q v;go_wp2_with (at_builtin;refine zAO _ rfl (.tmp 11) (.tmp 16) 22 rfl 5 i0 (.int .u8 0) 1 1 underlying22 K M N O rfl (by decide) (.slice pv m cv) m _ rfl t.o (.slice W B P) B _ rfl G.o (zAN _) (by unfold maxLen;omega) (by omega) ?_;intro v3 w3 d g l;go_loud (have C:=zh (zCe.grown (x:=zDf z) r.o (by rw[h.o.1,h.o.2];exact d) g l);clear g l;obtain⟨p3,q3,rfl⟩:=OwnR.shape d;clear d))
   go_roundw
   case rel=>exact⟨k+1,_,by omega,by go_num,rfl,by rw[F.o];exact C.o⟩
   case measure=>simp[intOf];omega
  ·have R:zs.take k=zs:=List.take_of_length_le (by rw[A.o];omega);rw[R]at f;have C:=zh f.told;clear f R;go_wp2_with fail;go_ret;exact C.o
theorem zBi {w:World}{p:Option Addr}{m c:Nat}{l:Bs}(g:zAb w (.slice p m c) l)(d:l.length≤1048576) :
  Calls prog 117 #[.slice p m c] w (zBX w (zAM l)):=by
 have H:=zh (renc_calls g d);clear g d
 go_enter func117,ntmps117
 go_wp2_with fail;refine H.o.mono ?_;rintro e w1 ⟨v,rfl,f,hn,b⟩;have i:=zW (zBX w (zAM l) (.returned v) w1) (⟨v,rfl,f,hn,b⟩);clear f hn b;go_wp2_with fail;go_ret;exact i.o
theorem rowB_lit (w:World)(x:UInt8):zCe w (w.alloc (.cells #[.int .u8 (x.toNat:Int)] 5)) (.slice (some ⟨w.heap.size,0,none⟩) 1 1) [x] :=
 ⟨own_lit #[.int .u8 (x.toNat:Int)] [x] 5 rfl 1 rfl (by decide),fun k b=>by cases b;exact Nat.le_refl _,zAD w _⟩
theorem rterms_calls (w:World)(t v:Int)(ht:-9223372036854775808≤t∧t≤9223372036854775807)(hv:-9223372036854775808≤v∧v≤1099511627776) :
  Calls prog 116 #[.int .i64 t,.int .i64 v] w (zBX w (zAM (zCU t v))):=by
 obtain⟨K,W,N,O,P⟩:=info_parts (show(prog.info? 5).map (fun i=>(i.zero,i.size,i.bytes))=some (some (.int .u8 0),1,1) by kernel_rfl);have hw:IntKind.i64.wrap (v+1)=v+1:=IntWalk.i64_in _ (by omega);have r:=zh (rowB_lit w 2);have Q:=zW ([2]++zAp [t,v+1]=zCU t v) (by simp[zAp,zCU]);have g:=zBA [t,v+1];have V:=zh g;have Y:(zAp [t,v+1]).length≤18:=by simpa using g
 have s:=zh (zBy (w:=(w.alloc (.cells #[.int .u8 2] 5)).alloc (.cells #[.int .i64 t,.int .i64 (v+1)] 3)) (p:=some ⟨w.heap.size+1,0,none⟩) (n:=2) (c:=2) (zs:=[t,v+1]) ⟨by simp,some ⟨w.heap.size+1,0,none⟩,2,rfl,fun e=>(by cases e),fun a L i u Z=>by
  cases L;rw[add_zero];refine zAG (by have:=zAI (w.alloc (.cells #[.int .u8 2] 5)) (.cells #[.int .i64 t,.int .i64 (v+1)] 3);simpa using this) ?_;simpa using Z⟩ (by simp;omega) (by simp))
 clear g
 go_enter func116,ntmps116
 go_wp2_with fail;refine s.o.mono ?_;rintro e w2 ⟨x,rfl,j,M,B⟩;have q:=zh ((r.o.alloc (.cells #[.int .i64 t,.int .i64 (v+1)] 3)).next B);have H:=zh (zAi.has j);obtain⟨T,R,rfl,-⟩:=zAL j;clear j M B;generalize A:(zAp [t,v+1]).length=E at *;have G:=zh A;have h:=zW (OwnR w2 5 1 (.slice (some ⟨w.heap.size,0,none⟩) 1 1) 1 (zAR [2])) q.o.own;have I:=zh (show zAK w2 1 (.slice T E R) E (zAR (zAp [t,v+1])) by have:=H.o;unfold zAb at this;rwa[G.o]at this);clear A;go_wp2_with (at_builtin;refine zAO _ rfl (.tmp 5) (.tmp 10) 22 rfl 5 K (.int .u8 0) 1 1 underlying22 W N O P rfl (by decide) (.slice (some ⟨w.heap.size,0,none⟩) 1 1) 1 _ rfl h.o (.slice T E R) E _ rfl I.o (zAN _) (by unfold maxLen;omega) (by omega) ?_;intro v3 w3 b d f;go_loud (have J:=zCe.grown (x:=zAp [t,v+1]) q.o (by rw[G.o];exact b) d f;rw[Q.o]at J;have F:=zh J;have Hr:=zh (zBi (p:=none) (m:=0) (c:=0) (w:=w3) (l:=[]) ⟨rfl,none,0,rfl,fun _=>rfl,fun a L=>by cases L⟩ (by decide));clear d f J;obtain⟨p3,q3,rfl⟩:=OwnR.shape b;clear b))
 have z:=zh (zBi (p:=p3) (m:=1+E) (c:=q3) (l:=zCU t v) (w:=w3) F.o.own.has (by rw[←Q.o,List.length_append,G.o];simp;omega));refine z.o.mono ?_;rintro e w4 ⟨y,rfl,S,D,C⟩;have U:=zW (zBX w (zAM (zCU t v)) (.returned y) w4) (⟨y,rfl,S,fun k X=>Nat.le_trans F.o.bel.size (D k X),F.o.bel.trans (C.mono F.o.bel.size)⟩);clear S D C;go_wp2_with fail;go_ret;exact U.o
def b12':Bs:=[49,50]
def b3':Bs:=[51]
def b123:Bs:=[49,50,51]
def Q0:zAA:=zAA.fresh 1000
def Q1:zAA:=⟨1000,[([97],⟨zAM b123,(zAM b123).length⟩)],none⟩
theorem q1:Q0.save (nm sA) [b12',b3'].flatten=(Q1,0) :=
 save_all (D:=Q0) (n:=[97]) (l:=b123) (ok_fresh 1000 (by decide)) (fun j h=>by cases h) (by decide) (by decide) rfl (by decide) (by decide)
theorem q2 (k:Int):Sat.get (nm sA) (Q1.crash k).files=some ⟨zAM b123,(zAM b123).length⟩:=get_crash_whole (D:=Q1) (n:=[97]) rfl k
def fl (x:Bs):zAW:=⟨zAM x,(zAM x).length⟩
theorem each_one (g:Bs→zAW→List (Bs×zAW)→List (Bs×zAW))(D:zAA)(n:Bs):D.each g [n]=D.each1 g n:=by
 cases h:D.each1 g n with
 | mk D1 e1 =>
  unfold zAA.each;rw[h]
  by_cases b:e1=0
  ·subst b;rw[if_pos rfl];rfl
  ·rw[if_neg b]
section
variable {a b c:Bs}
end
end Go.Proofs.YtapfnehdgailmaaGreat
namespace Go.Sat
open Go.RowKit
theorem OwnR.set {w:World}{e:TypeId}{size:Nat}{v:Value}{n:Nat}{xs:List Value}(h:OwnR w e size v n xs){g:Nat}(k:v.ownBlock=some g)(j:Nat)(u:Value):OwnR (w.setCell ⟨g,j,none⟩ u) e size v n (xs.set j u):=by
 refine⟨by rw[List.length_set];exact h.1,?_⟩;rcases h.2 with⟨rfl,_⟩|⟨l,b,cur,rfl,f,i,c,d,m⟩
 ·cases k
 ·cases k;refine .inr ⟨l,b,cur.setIfInBounds j u,rfl,zAC f j u,i,c,by simpa using d,?_⟩;rw[←m,Array.toList_setIfInBounds,List.take_set]
end Go.Sat
namespace Go.Proofs.YtapfnehdgailmaaGreat
open Go.RowKit Go.Sat Go.Maps
theorem cells_set (L:List zAQ)(i:Nat)(x b:zAQ)(h:L[i]?=some x)(j:Nat)(d:j<3)(u:Value)(c:b.cells=x.cells.set j u):(L.flatMap zAQ.cells).set (i*3+j) u=(L.set i b).flatMap zAQ.cells:=by
 induction L generalizing i with
 | nil=>simp at h
 | cons y r ih =>
  have f:y.cells.length=3:=rfl;rw[List.flatMap_cons];cases i with
  | zero =>
   simp at h;subst h;rw[List.set_cons_zero,List.flatMap_cons,c,List.set_append_left _ _ (by omega),Nat.zero_mul,Nat.zero_add]
  | succ i =>
   rw[List.set_cons_succ,List.flatMap_cons,List.set_append_right _ _ (by omega),←ih i (by simpa using h)]
   congr 2
   omega
structure zAy (w:World)(r:Nat)(v:Value)(L:List zAQ)(own:Nat→Prop)(room:Nat)(fuse:Option Nat):Prop where
 cells:w.heap[r]?=some (.cells #[.int .i64 (room:Int),v,.int .i64 (zFY fuse)] 118 (0,0))
 row:OwnR w 127 3 v L.length (L.flatMap zAQ.cells)
 data:∀x∈L,zAi w 5 x.b x.f.data
 or:own r
 ov:∀k,v.ownBlock=some k→own k∧k≠r
 ob:∀x∈L,∀k,x.b.ownBlock=some k→own k∧k≠r∧v.ownBlock≠some k
 olt:∀k,own k→k<w.heap.size
section
variable {w:World} {r:Nat} {v:Value} {L:List zAQ} {own:Nat→Prop} {D:zAA} {room:Nat} {fuse:Option Nat}
theorem zAd.core (h:zAd w r v L own D):zAy w r v L own D.room D.fuse:=⟨h.cells,h.row,h.data,h.or,h.ov,h.ob,h.olt⟩
theorem zAy.full (h:zAy w r v L own room fuse)(d:D.room=room)(c:D.fuse=fuse)(b:D.files=L.map zAQ.key)(f:D.OK):zAd w r v L own D:=by
 subst d;subst c;exact⟨h.cells,h.row,b,h.data,h.or,h.ov,h.ob,h.olt,f⟩
theorem zAy.at (h:zAy w r v L own room fuse){g:Nat}(j:v.ownBlock=some g){i:Nat}{x:zAQ}(d:L[i]?=some x):w.cell? ⟨g,i*3,none⟩=some (encStr x.n)∧w.cell? ⟨g,i*3+1,none⟩=some x.b∧w.cell? ⟨g,i*3+2,none⟩=some (.int .i64 (x.f.lasts:Int)):=by
 have c:=h.row.cells j;refine⟨?_,?_,?_⟩
 ·have:=c (i*3+0) (encStr x.n) ((zFE L i x d 0 (by omega)).trans rfl);rwa[add_zero]at this
 ·have:=c (i*3+1) x.b ((zFE L i x d 1 (by omega)).trans rfl);rwa[add_zero]at this
 ·have:=c (i*3+2) _ ((zFE L i x d 2 (by omega)).trans rfl);rwa[add_zero]at this
theorem mem_set {α:Type}{L:List α}{i:Nat}{b y:α}(h:y∈L.set i b):y∈L∨y=b:=List.mem_or_eq_of_mem_set h
theorem zAy.store (h:zAy w r v L own room fuse){g:Nat}(p:v.ownBlock=some g){i:Nat}{x:zAQ}(z:L[i]?=some x)(j:Nat)(t:j<3)(u:Value)(m:zAQ)(q:m.cells=x.cells.set j u)
  {own':Nat→Prop} (d:∀k,own k→own' k) (s:zAi w 5 m.b m.f.data) (o:∀k,m.b.ownBlock=some k→own' k∧k≠r∧k≠g) (n:∀k,own' k→k<w.heap.size) :
  zAy (w.setCell ⟨g,i*3+j,none⟩ u) r v (L.set i m) own' room fuse where
 cells:=(set_other u (h.ov g p).2.symm).trans h.cells
 row:=by
  rw[List.length_set,←cells_set L i x m z j t u q];exact h.row.set p _ _
 data:=fun y l=>by
  rcases mem_set l with l|rfl
  ·exact OwnR.keep (h.data y l) fun k c=>set_other u (fun e=>(h.ob y l k c).2.2 (by rw[p];exact congrArg some e.symm))
  ·exact OwnR.keep s fun k c=>set_other u (o k c).2.2
 or:=d r h.or
 ov:=fun k c=>⟨d k (h.ov k c).1,(h.ov k c).2⟩
 ob:=fun y l k c=>by
  rcases mem_set l with l|rfl
  ·exact⟨d k (h.ob y l k c).1,(h.ob y l k c).2⟩
  ·exact⟨(o k c).1,(o k c).2.1,fun e=>(o k c).2.2 (Option.some.inj (e.symm.trans p))⟩
 olt:=fun k c=>by
  have:=n k c;simpa[World.setCell]using this
theorem zAy.free (h:zAy w r v L own room fuse){g:Nat}(c:v.ownBlock=some g)(j:Nat):w.frozen? ⟨g,j,none⟩=false:=by
 rcases h.row.2 with⟨rfl,_⟩|⟨f,d,cur,rfl,b,_⟩
 ·cases c
 ·cases c;exact zAE b j
def zCh (w:World)(r:Nat)(own:Nat→Prop)(R:zAA×Nat)(e:Ending)(w':World):Prop :=
 e=.returned (.int .i64 (R.2:Int))∧∃own',RefAt w' r R.1 own'∧Chg own w w'∧∀k,own' k→own k∨w.heap.size≤k
theorem zAd.below (h:zAd w r v L own D){w':World}(b:Below w.heap.size w w'):zAd w' r v L own D:=h.keep b.size fun k c=>b.block k (h.olt k c)
theorem zCW {w' b:World}(c:Below w.heap.size w w')(d:Chg own w' b):Chg own w b :=
 ((Chg.of_below c).mono fun _ _ h=>h.elim).trans d fun _ _ h=>h
theorem zBR (h:zAd w r v L own D){w':World}(b:Below w.heap.size w w')(k:Nat):zCh w r own (D,k) (.returned (.int .i64 (k:Int))) w' :=
 ⟨rfl,own,⟨v,L,h.below b⟩,(Chg.of_below b).mono fun _ _ h=>h.elim,fun _ h=>.inl h⟩
theorem zAt (w:World)(o:Obj)(q:Nat):Below w.heap.size w ((w.alloc o).drewN q):=((Below.refl _ _).alloc (Nat.le_refl _) o).trans ⟨rfl,rfl,rfl,Nat.le_refl _,fun _ _=>rfl⟩
theorem zFQ {ns:List Bs}(h:D.may ns=0):D.fuse≠some 0:=fun e=>by
 unfold zAA.may at h;rw[if_pos e]at h;cases h
theorem zDa {c:zAA}{v':Value}{L':List zAQ}{own':Nat→Prop}{w1 w2:World}{e:Ending}(j:Chg own w w1)(d:∀k,own' k→own k∨w.heap.size≤k)(f:w.heap.size≤w1.heap.size)
  (h:e=.returned (.int .i64 0)∧zAd w2 r v' L' own' c.done∧Chg own' w1 w2):zCh w r own (c.done,0) e w2:=by
 obtain⟨rfl,g,b⟩:=h;refine⟨rfl,own',⟨v',L',g⟩,j.trans b fun k l i=>?_,d⟩;rcases d k i with h|h
 ·exact h
 ·omega
theorem map_set_key (L:List zAQ)(i:Nat)(x:zAQ):(L.set i x).map zAQ.key=(L.map zAQ.key).set i x.key:=List.map_set ..
theorem zAd.put (h:zAd w r v L own D){n:Bs}{f:zAW}(d:Sat.get n D.files=some f)(b:zAQ)(hn:b.n=n):put n b.f D.files=(L.set (zA5 n (L.map zAQ.n)) b).map zAQ.key:=by
 have c:isAt n (D.files.map (·.1))=true:=by rw[(zGN n h.ok.srt).1,d];rfl
 rw[put_at n b.f h.ok.srt c,map_set_key,←h.files,h.names];unfold zAQ.key;rw[hn]
theorem zDb (h:zAd w r v L own D)(s:ByteArray)(hs:s.size≤9223372036854775807) :
  Calls prog 91 #[.pointer (some ⟨r,0,none⟩),.string s] w (zCh w r own (D.sync [nm s])):=by
 have R:zAd (w.alloc (.cells #[.string s] 9)) r v L own D:=h.below ((Below.refl _ _).alloc (Nat.le_refl _) _);have c:=zCS R (some ⟨w.heap.size,0,none⟩) [s] 1 (zBV w s) (by simp) (by simpa using hs);simp only[List.map_cons,List.map_nil]at c;unfold zAA.sync;rw[each_one]
 by_cases M:D.may [nm s]=0
 ·have p:=zBm R s;rw[h.is]at p;rw[M]at c;cases a:Sat.get (nm s) D.files with
  | none =>
   rw[a]at p;have G:zAA.each1 zAA.gSync D (nm s)=(D,7):=by unfold zAA.each1;rw[if_neg (by rw[M];simp),a]
   rw[G];have U:=zh (fun q=>zBR h (zAt w (.cells #[.string s] 9) q) 7);have j:=zh c;have J:=zh p;clear h R c p M G a
   go_enter func91,ntmps91
   go_wp2_with fail;refine j.o.mono ?_;rintro e w2 ⟨rfl,rfl⟩;go_wp2_with fail;refine J.o.mono ?_;rintro e w3 ⟨rfl,q,rfl⟩;go_wp2_with fail;go_ret;exact U.o q
  | some f =>
   rw[a]at p;obtain⟨x,N,aa,rfl⟩:=h.hit a;have ac:=h.len_le N;have I:=h.put a ⟨x.n,x.b,⟨x.f.data,x.f.data.length⟩⟩ aa;have t:=List.mem_of_getElem? N;have hN:zA5 (nm s) (L.map zAQ.n)<L.length:=(List.getElem?_eq_some_iff.1 N).1;have G:zAA.each1 zAA.gSync D (nm s)=(zAA.done {D with files:=zAA.gSync (nm s) x.f D.files},0):=by unfold zAA.each1;rw[if_neg (by rw[M];simp),a]
   rw[G];have T:=ok_sync h.ok a;generalize zA5 (nm s) (L.map zAQ.n)=i at *;have F:∀W g,Below w.heap.size w W→v.ownBlock=some g→zAd (W.setCell ⟨g,i*3+2,none⟩ (.int .i64 (x.f.data.length:Int))) r v (L.set i ⟨x.n,x.b,⟨x.f.data,x.f.data.length⟩⟩) own {D with files:=zAA.gSync (nm s) x.f D.files}:=fun W g d A=>by
    have H:=(h.below d).core;exact(H.store A N 2 (by omega) _ ⟨x.n,x.b,⟨x.f.data,x.f.data.length⟩⟩ rfl (fun _ h=>h) (H.data x t) (fun k K=>⟨(h.ob x t k K).1,(h.ob x t k K).2.1,fun e=>(h.ob x t k K).2.2 (by rw[A,e])⟩) H.olt).full rfl rfl I T
   have S:∀W g,Below w.heap.size w W→v.ownBlock=some g→Chg own w (W.setCell ⟨g,i*3+2,none⟩ (.int .i64 (x.f.data.length:Int))):=fun W g d A=>zCW d (zDo (h.ov g A).1);rcases h.at with h0|⟨g,c0,rfl,ab,-⟩
   ·rw[h0]at hN;simp at hN
   have E:=fun W d=>zCr (F W g d rfl) (zFQ M);have C:=fun W d=>S W g d rfl;have l:∀W,Below w.heap.size w W→(W.cell? ⟨r,1,none⟩=some (.slice (some ⟨g,0,none⟩) L.length c0)∧W.cell? ⟨g,i*3+1,none⟩=some x.b∧W.cell? ⟨g,i*3+2,none⟩=some (.int .i64 (x.f.lasts:Int))∧W.frozen? ⟨g,i*3+2,none⟩=false):=fun W d=>by
    have H:=h.below d;exact⟨H.c1,(H.core.at rfl N).2.1,(H.core.at rfl N).2.2,H.core.free rfl _⟩
   obtain⟨pb,cb,eb⟩:=zAb.slice (h.data x t).has;rw[eb]at l;generalize x.f.data.length=m at *;have B:=zh (And.intro E C);have y:=zh l;have j:=zh c;have J:=zh p;clear h R c p M G a I T F S E C l N t eb
   go_enter func91,ntmps91
   go_wp2_with fail;refine j.o.mono ?_;rintro e w2 ⟨rfl,rfl⟩;go_wp2_with fail;refine J.o.mono ?_;rintro e w3 ⟨rfl,q,rfl⟩;have O:=zh (zAt w (.cells #[.string s] 9) q);generalize (w.alloc (.cells #[.string s] 9)).drewN q=W at *;obtain⟨V,X,Y,Z⟩:=y.o W O.o;go_wp2_with fail
   go_still_tail 14,(by kernel_rfl)
   change wpList _ _ _ _ _ W.drew;have z:Below w.heap.size w W.drew:=O.o.trans ⟨rfl,rfl,rfl,Nat.le_refl _,fun _ _=>rfl⟩;obtain⟨V,X,Y,Z⟩:=y.o _ z;have Q:=zh (B.o.1 _ z);have P:=zh (B.o.2 _ z);clear z;generalize W.drew=Wd at *;go_wp2_with fail;refine Q.o.mono ?_;intro e w4 h4;have hE:=zDa P.o (fun _ h=>.inl h) P.o.size h4;obtain⟨rfl,-⟩:=h4;have HE:=zh hE;clear hE;go_wp2_with fail;go_ret;exact HE.o
 ·have G:zAA.each1 zAA.gSync D (nm s)=(D,D.may [nm s]):=by unfold zAA.each1;rw[if_pos M]
  rw[G];have U:=zh (zBR h ((Below.refl _ _).alloc (Nat.le_refl _) (.cells #[.string s] 9)) (D.may [nm s]));have j:=zh c;generalize D.may [nm s]=m at *;have ad:((m:Int) != 0)=true:=by simp;omega
  clear h R c G
  go_enter func91,ntmps91
  go_wp2_with fail;refine j.o.mono ?_;rintro e w2 ⟨rfl,rfl⟩;go_wp2_with fail;go_ret;exact U.o
end
end Go.Proofs.YtapfnehdgailmaaGreat
namespace Go.Sat
open Go Go.RowKit
theorem zCp {P:Program}{l:List Oper}{Q:Exit→Act→World→Prop}{d:Region.Mode}{S:World→Prop}{c:Nat}{b:Array Bool}{a:Act}{w:World}(i j:Nat){o p:Oper}{t v:List Oper}(g:l.drop i=o::t)(k:l.drop j=p::v)(s:Region.ready d l.toArray b=[i,j])
  (m:Region.wanted o (yielded l.toArray a.tmps)=true) (n:Region.wanted p (yielded l.toArray a.tmps)=true)
  (q:∀K:Act→World→Prop,Shut (∀a w,S w→(S w→wpAnyH P d l.toArray Q S c (b.setIfInBounds i true) a w)→K a w)→Oper.wp P o a w K Q)
  (r:∀K:Act→World→Prop,Shut (∀a w,S w→(S w→wpAnyH P d l.toArray Q S c (b.setIfInBounds j true) a w)→K a w)→Oper.wp P p a w K Q):wpAnyH P d l.toArray Q S (c+1) b a w :=
 wpAnyH_ready s (by simp) (AllReadyH.cons (zBo g) (fun K f=>by rw[if_pos m];exact q K f) (AllReadyH.cons (zBo k) (fun K f=>by rw[if_pos n];exact r K f) AllReadyH.nil))
end Go.Sat
namespace Go.Proofs.YtapfnehdgailmaaGreat
open Go.RowKit Go.Sat Go.Maps
theorem ok_cut {D:zAA}(h:D.OK){n:Bs}{f:zAW}(d:Sat.get n D.files=some f)(k:Nat):zAA.OK {D with files:=put n ⟨f.data.take k,min f.lasts k⟩ D.files} where
 srt:=zCO h.srt
 room:=h.room
 used:=by
  show zBZ zAA.size (put n _ D.files)≤D.room
  rw[sum_put];have c:D.used=zAA.size f+zBZ zAA.size (del n D.files):=zDr h.srt d;have:=h.used;simp only[zAA.size,List.length_take]at c ⊢;omega
 count:=by
  show(put n _ D.files).length≤4096
  rw[len_put];have:=len_del h.srt d;have:=h.count;omega
 names p b:=by
  rcases zBe.1 b with rfl|⟨b,_⟩
  ·exact(h.names (n,f) (zBn d):okN n=true)
  ·exact h.names p b
 lasts p b:=by
  rcases zBe.1 b with rfl|⟨b,_⟩
  ·have c:=h.lasts (n,f) (zBn d)
   show min f.lasts k≤(f.data.take k).length
   rw[List.length_take];have c:f.lasts≤f.data.length:=c;omega
  ·exact h.lasts p b
 fuse:=h.fuse
section
variable {w:World} {r:Nat} {v:Value} {L:List zAQ} {own:Nat→Prop} {D:zAA} {room:Nat} {fuse:Option Nat}
theorem zAy.keep {w':World}(h:zAy w r v L own room fuse)(f:w.heap.size≤w'.heap.size)(c:∀k,own k→w'.heap[k]?=w.heap[k]?):zAy w' r v L own room fuse where
 cells:=(c r h.or).trans h.cells
 row:=h.row.keep fun k b=>c k (h.ov k b).1
 data:=fun x d=>OwnR.keep (h.data x d) fun k b=>c k (h.ob x d k b).1
 or:=h.or
 ov:=h.ov
 ob:=h.ob
 olt:=fun k b=>Nat.lt_of_lt_of_le (h.olt k b) f
theorem zAy.c1 (h:zAy w r v L own room fuse):w.cell? ⟨r,1,none⟩=some v:=zAG h.cells rfl
theorem rtrunc_calls (h:zAd w r v L own D)(s:ByteArray)(hs:s.size≤9223372036854775807)(z:Int)(hz:-9223372036854775808≤z)(aQ:z≤9223372036854775807) :
  Calls prog 90 #[.pointer (some ⟨r,0,none⟩),.string s,.int .i64 z] w (zCh w r own (D.truncate (nm s) z)):=by
 have h1:zAd (w.alloc (.cells #[.string s] 9)) r v L own D:=h.below ((Below.refl _ _).alloc (Nat.le_refl _) _);have p:=zCS h1 (some ⟨w.heap.size,0,none⟩) [s] 1 (zBV w s) (by simp) (by simpa using hs);simp only[List.map_cons,List.map_nil]at p
 by_cases hm:D.may [nm s]=0
 ·have V:=zBm h1 s;rw[h.is]at V;rw[hm]at p;cases hg:Sat.get (nm s) D.files with
  | none =>
   rw[hg]at V;have hR:D.truncate (nm s) z=(D,7):=by unfold zAA.truncate;rw[if_neg (by rw[hm];simp),hg]
   rw[hR];have Hf:=zh (fun q=>zBR h (zAt w (.cells #[.string s] 9) q) 7);have E:=zh p;have ad:=zh V;clear h h1 p V hm hR hg
   go_enter func90,ntmps90
   go_wp2_with fail;refine E.o.mono ?_;rintro e w2 ⟨rfl,rfl⟩;go_wp2_with fail;refine ad.o.mono ?_;rintro e w3 ⟨rfl,q,rfl⟩;go_wp2_with fail;go_ret;exact Hf.o q
  | some f =>
   rw[hg]at V;obtain⟨x,hx,aK,rfl⟩:=h.hit hg;have aM:=h.len_le hx;have ap:=List.mem_of_getElem? hx;have hN:zA5 (nm s) (L.map zAQ.n)<L.length:=(List.getElem?_eq_some_iff.1 hx).1;rcases h.at with h0|⟨g,c0,al,aA,-⟩
   ·rw[h0]at hN;simp at hN
   have H:v.ownBlock=some g:=by rw[al];rfl
   by_cases aR:0≤z∧z≤(x.f.data.length:Int)
   ·obtain⟨y,rfl⟩:∃y:Nat,z=(y:Int):=⟨z.toNat,by omega⟩;have aD:y≤x.f.data.length:=by omega
    have hR:D.truncate (nm s) (y:Int)=(zAA.done {D with files:=put (nm s) ⟨x.f.data.take y,min x.f.lasts y⟩ D.files},0):=by
     unfold zAA.truncate;rw[if_neg (by rw[hm];simp),hg]
     show(if(y:Int)<0∨(x.f.data.length:Int)<y then _ else _)=_
     rw[if_neg (by omega),Int.toNat_natCast]
    rw[hR];have au:∀v',put (nm s) ⟨x.f.data.take y,min x.f.lasts y⟩ D.files=(L.set (zA5 (nm s) (L.map zAQ.n)) ⟨x.n,v',⟨x.f.data.take y,min x.f.lasts y⟩⟩).map zAQ.key:=fun v'=>h.put hg ⟨x.n,v',⟨x.f.data.take y,min x.f.lasts y⟩⟩ aK;have aC:=ok_cut h.ok hg y;have aH:=zFQ hm;generalize zA5 (nm s) (L.map zAQ.n)=i at *;have c:=zW (∀W,Below w.heap.size w W→W.cell? ⟨r,1,none⟩=some (.slice (some ⟨g,0,none⟩) L.length c0)∧W.cell? ⟨g,i*3+1,none⟩=some x.b∧W.frozen? ⟨g,i*3+1,none⟩=false) (fun W hb=>by
     have hW:=h.below hb;refine⟨hW.c1.trans (by rw[al]),(hW.core.at H hx).2.1,hW.core.free H _⟩)
    obtain⟨pb,cb,eb,ar⟩:=zDY (h.data x ap)
    -- behind both stores
    have aq:=zh (show ∀W v' ,Below w.heap.size w W→zAi W 5 v' (x.f.data.take y)→(∀k,v'.ownBlock=some k→w.heap.size≤k∧k<W.heap.size) →
      zAy (W.setCell ⟨g,i*3+1,none⟩ v') r v (L.set i ⟨x.n,v',⟨x.f.data.take y,x.f.lasts⟩⟩) (fun k=>own k∨v'.ownBlock=some k) D.room D.fuse from fun W v' hb hv hn =>
     (h.below hb).core.store H hx 1 (by omega) v' ⟨x.n,v',⟨x.f.data.take y,x.f.lasts⟩⟩ rfl (fun _ h=>.inl h) hv (fun k A=>⟨.inr A,fun e=>by have:=h.olt r h.or;have:=(hn k A).1;omega,fun e=>by have:=h.olt g (h.ov g H).1;have:=(hn k A).1;omega⟩)
      (fun k A=>by
       rcases A with A|A
       ·exact Nat.lt_of_lt_of_le (h.olt k A) hb.size
       ·exact(hn k A).2))
    have ag:=zh (show ∀W v',zAy W r v (L.set i ⟨x.n,v',⟨x.f.data.take y,x.f.lasts⟩⟩) (fun k=>own k∨v'.ownBlock=some k) D.room D.fuse→zAi W 5 v' (x.f.data.take y) →
      zAd (W.setCell ⟨g,i*3+2,none⟩ (.int .i64 ((min x.f.lasts y:Nat):Int))) r v (L.set i ⟨x.n,v',⟨x.f.data.take y,min x.f.lasts y⟩⟩) (fun k=>own k∨v'.ownBlock=some k) {D with files:=put (nm s) ⟨x.f.data.take y,min x.f.lasts y⟩ D.files}from fun W v' hc hv=>by
     have hi:(L.set i ⟨x.n,v',⟨x.f.data.take y,x.f.lasts⟩⟩)[i]?=some ⟨x.n,v',⟨x.f.data.take y,x.f.lasts⟩⟩:=by rw[List.getElem?_set_self (by omega)]
     have aB:=List.mem_of_getElem? hi;have h2:=hc.store H hi 2 (by omega) (.int .i64 ((min x.f.lasts y:Nat):Int)) ⟨x.n,v',⟨x.f.data.take y,min x.f.lasts y⟩⟩ rfl (fun _ h=>h) hv (fun k A=>⟨.inr A,(hc.ob _ aB k A).2.1,fun e=>(hc.ob _ aB k A).2.2 (by rw[H,e])⟩) hc.olt;rw[List.set_set]at h2;exact h2.full rfl rfl (au v') aC)
    have F:=zW (own r∧own g∧r≠g∧g<w.heap.size) (⟨h.or,(h.ov g H).1,(h.ov g H).2.symm,h.olt g (h.ov g H).1⟩);have Hd:=zW (∀W,Below w.heap.size w W→zAb W (.slice pb y cb) (x.f.data.take y)) (fun W hb=>zAb.cut (by rw[←eb];exact((h.below hb).data x ap).has) aD cb);have ac:=zW ((x.f.data.take y).length=y) (by rw[List.length_take];omega);have ay:=zh aH;rw[eb]at c;obtain⟨i0,hi,aw,aE,aF⟩:=info_parts (show(prog.info? 5).map (fun i=>(i.zero,i.size,i.bytes))=some (some (.int .u8 0),1,1) by kernel_rfl);have aG:y≤cb:=Nat.le_trans aD ar;have aP:∀W,(Instr.slice 22 (.slice pb x.f.data.length cb) none (some (.int .i64 (y:Int))) none).run prog W=.ok (.slice pb y cb) W:=fun W=>zB3 W underlying22 hi pb _ cb y aG;have aL:min (x.f.lasts:Int) (y:Int)=((min x.f.lasts y:Nat):Int):=by omega
    generalize aJ:x.f.data.length=m at *;generalize aI:x.f.lasts=la at *;have E:=zh p;have ad:=zh V;clear h h1 p V hm hR hg au aC hx ap eb H aJ aI aA ar;subst al
    go_enter func90,ntmps90
    go_wp2_with fail;refine E.o.mono ?_;rintro e w2 ⟨rfl,rfl⟩;go_wp2_with fail;refine ad.o.mono ?_;rintro e w3 ⟨rfl,q,rfl⟩;have ax:=zh (zAt w (.cells #[.string s] 9) q);generalize (w.alloc (.cells #[.string s] 9)).drewN q=W at *;obtain⟨G,S,aa⟩:=c.o W ax.o;go_wp2_with fail;have X0:=zW (Below w.heap.size w W.drew) (ax.o.trans ⟨rfl,rfl,rfl,Nat.le_refl _,fun _ _=>rfl⟩);clear G S aa;have hS:=(c.o _ X0.o).1;refine ost (fun W':World=>W'.cell? ⟨r,1,none⟩=some (.slice (some ⟨g,0,none⟩) L.length c0)) 20 hS fun d=>?_;clear hS;generalize W.drew=Wd at *;refine Pl [0,1,2,3,4,6,7,8,9,10,11,12,14] ?_
    iterate 13 (refine Pc rfl ?_;simp only[uZ])
    refine Pn ?_;refine zCp 5 13 rfl rfl (by kernel_rfl) (by rfl) (by rfl) (fun K J=>?_) (fun K J=>?_)
    focus
     go_wp2_with fail;have X1:=zh (X0.o.alloc X0.o.size (.cells #[] 5));refine J.o _ _ ((c.o _ X1.o).1) fun d=>?_;clear J;try simp only[uZ]
     refine oon 13 rfl fun K J=>?_;have S:=(c.o _ X1.o).2.1;go_wp2_with fail;clear S;refine J.o _ _ ((c.o _ X1.o).1) fun d=>?_;clear J;try simp only[uZ]
     refine otk 15 (v:=?v1x15) rfl ?_;simp only[uZ]
    rotate_left
    focus
     have S:=(c.o _ X0.o).2.1;go_wp2_with fail;clear S;refine J.o _ _ ((c.o _ X0.o).1) fun d=>?_;clear J;try simp only[uZ]
     refine otk 15 (v:=?v2x15) rfl ?_;simp only[uZ];refine oon 5 rfl fun K J=>?_;go_wp2_with fail;have X1:=zh (X0.o.alloc X0.o.size (.cells #[] 5));refine J.o _ _ ((c.o _ X1.o).1) fun d=>?_;clear J;try simp only[uZ]
    all_goals
     refine oon 16 rfl fun K J=>?_;have Q:=zAx Wd 5;have X:=Hd.o _ X1.o;unfold zAb at X;rw[ac.o]at X;refine zAm (.tmp 45) (.tmp 55) 22 (by rfl) 5 i0 (.int .u8 0) 1 1 underlying22 hi aw aE aF rfl (by decide) (.slice (some ⟨Wd.heap.size,0,none⟩) 0 0) 0 [] (by rfl) Q (.slice pb y cb) y _ (by rfl) X (zAN _) (by unfold maxLen;omega) (by omega) ?_;clear Q X;intro v6 w6 l C O;have X6:=zh (X1.o.grown C X1.o.size (fun j e=>by have:=X0.o.size;simp[Value.ownBlock]at e;omega));have P:=zA0 (B:=w.heap.size) O (fun k A=>by have:=X0.o.size;simp[Value.ownBlock]at A;omega) X1.o.size;rw[Nat.zero_add,List.nil_append]at l;obtain⟨R,I,rfl⟩:=OwnR.shape l;have ab:=zW (zAi w6 5 (.slice R y I) (x.f.data.take y)) (by unfold zAi;rw[ac.o];exact l);have t:=zh P;clear C O l P;refine J.o _ _ ((c.o _ X6.o).1) fun d=>?_;clear J;try simp only[uZ]
     refine Pl [17,18] ?_;iterate 2 (refine Pc rfl ?_;simp only[uZ])
     refine Pn ?_;refine oon 19 rfl fun K J=>?_;obtain⟨G,S,aa⟩:=c.o _ X6.o;go_wp2_with fail;have av:(w6.setCell ⟨g,i*3+1,none⟩ (.slice R y I)).cell? ⟨r,1,none⟩=some (.slice (some ⟨g,0,none⟩) L.length c0):=(World.cell?_of_block (set_other _ F.o.2.2.1)).trans G;clear G S aa;refine J.o _ _ (av) fun d=>?_;clear J;try simp only[uZ]
     refine odn ?_;clear d;have N:=aq.o w6 (.slice R y I) X6.o ab.o (fun k A=>⟨t.o k A,OwnR.lt ab.o A⟩);have an:zAi (w6.setCell ⟨g,i*3+1,none⟩ (.slice R y I)) 5 (.slice R y I) (x.f.data.take y):=OwnR.keep ab.o fun k A=>set_other _ (fun e=>by have h1:k=g:=e;have:=t.o k A;have:=F.o.2.2.2;omega);have aj:=zCW X6.o (zDo (own:=own) (w:=w6) (a:=⟨g,i*3+1,none⟩) (u:=.slice R y I) F.o.2.1);have ak:w.heap.size≤(w6.setCell ⟨g,i*3+1,none⟩ (.slice R y I)).heap.size:=by have:=X6.o.size;simpa[World.setCell]using this
     have H7:=zh (And.intro N (And.intro an (And.intro aj ak)));clear N an aj ak;generalize w6.setCell ⟨g,i*3+1,none⟩ (.slice R y I)=T at *;have am:(L.set i ⟨x.n,.slice R y I,⟨x.f.data.take y,la⟩⟩)[i]?=some ⟨x.n,.slice R y I,⟨x.f.data.take y,la⟩⟩:=by rw[List.getElem?_set_self (by omega)]
     have ah:=zh am;clear am;obtain⟨-,-,ai⟩:=H7.o.1.at rfl ah.o;have G:=H7.o.1.c1;go_wp2_with fail;go_still_tail 15,(by kernel_rfl);clear G ai;change wpList _ _ _ _ _ T.drew;have U:zAy T.drew r _ _ _ _ _:=H7.o.1.keep (Nat.le_refl _) (fun _ _=>rfl);have ao:zAi T.drew 5 (.slice R y I) (x.f.data.take y):=OwnR.keep H7.o.2.1 (fun _ _=>rfl);have Z:=ag.o _ _ U ao;obtain⟨-,-,ai⟩:=U.at rfl ah.o;have az:=U.free rfl (i*3+2);have Y:Chg own w T.drew:=H7.o.2.2.1.trans (Chg.drew T) (fun _ _ h=>h.elim);have M:Chg own w (T.drew.setCell ⟨g,i*3+2,none⟩ (.int .i64 ((min la y:Nat):Int))):=Y.trans (zDo (own:=own) (w:=T.drew) (a:=⟨g,i*3+2,none⟩) F.o.2.1) (fun _ _ h=>h);have af:=zh (zCr Z ay.o);have ae:=zh (And.intro M (show w.heap.size≤(T.drew.setCell ⟨g,i*3+2,none⟩ (.int .i64 ((min la y:Nat):Int))).heap.size from M.size));clear U ao Z Y M H7;generalize T.drew=Wt at *;go_wp2_with fail;refine af.o.mono ?_;intro e w8 h8;have hE:=zDa ae.o.1 (fun k A=>A.imp id (fun e=>t.o k e)) ae.o.2 h8;obtain⟨rfl,-⟩:=h8;have HE:=zh hE;clear hE;go_wp2_with fail;go_ret;exact HE.o
   ·have hR:D.truncate (nm s) z=(D,1):=by
     unfold zAA.truncate;rw[if_neg (by rw[hm];simp),hg]
     show(if z<0∨(x.f.data.length:Int)<z then _ else _)=_
     rw[if_pos (by omega)]
    rw[hR];generalize zA5 (nm s) (L.map zAQ.n)=i at *;have Hf:=zh (fun q=>zBR h (zAt w (.cells #[.string s] 9) q) 1);have c:=zW (∀W,Below w.heap.size w W→W.cell? ⟨r,1,none⟩=some (.slice (some ⟨g,0,none⟩) L.length c0)∧W.cell? ⟨g,i*3+1,none⟩=some x.b) (fun W hb=>by
     have hW:=h.below hb;exact⟨hW.c1.trans (by rw[al]),(hW.core.at H hx).2.1⟩)
    obtain⟨pb,cb,eb⟩:=zAb.slice (h.data x ap).has;rw[eb]at c;generalize x.f.data.length=m at *;have E:=zh p;have ad:=zh V;clear h h1 p V hm hR hg hx ap eb H aA;subst al
    by_cases aw:z<0
    ·go_enter func90,ntmps90
     go_wp2_with fail;refine E.o.mono ?_;rintro e w2 ⟨rfl,rfl⟩;go_wp2_with fail;refine ad.o.mono ?_;rintro e w3 ⟨rfl,q,rfl⟩;go_wp2_with fail;go_ret;exact Hf.o q
    ·obtain⟨y,rfl⟩:∃y:Nat,z=(y:Int):=⟨z.toNat,by omega⟩;have aN:m<y:=by omega
     go_enter func90,ntmps90
     go_wp2_with fail;refine E.o.mono ?_;rintro e w2 ⟨rfl,rfl⟩;go_wp2_with fail;refine ad.o.mono ?_;rintro e w3 ⟨rfl,q,rfl⟩;obtain⟨G,S⟩:=c.o _ (zAt w (.cells #[.string s] 9) q);go_wp2_with fail;go_ret;exact Hf.o q
 ·have hR:D.truncate (nm s) z=(D,D.may [nm s]):=by unfold zAA.truncate;rw[if_pos hm]
  rw[hR];have Hf:=zh (zBR h ((Below.refl _ _).alloc (Nat.le_refl _) (.cells #[.string s] 9)) (D.may [nm s]));have E:=zh p;generalize D.may [nm s]=m at *;have aO:((m:Int) != 0)=true:=by simp;omega
  clear h h1 p hR
  go_enter func90,ntmps90
  go_wp2_with fail;refine E.o.mono ?_;rintro e w2 ⟨rfl,rfl⟩;go_wp2_with fail;go_ret;exact Hf.o
end
theorem zC3 {w:World}{p:Option Addr}{n c:Nat}{l:List Int}(a:zBY w (.slice p n c) l)(G:∀z∈l,-9223372036854775808≤z∧z≤9223372036854775807)(O:l.length≤1073741824) :
  Calls prog 173 #[.slice p n c] w (zBX w (zDp l)):=by
 obtain⟨Q,M,A,B,C⟩:=info_parts (show(prog.info? 3).map (fun i=>(i.zero,i.size,i.bytes))=some (some (.int .i64 0),1,8) by kernel_rfl);have hn:l.length=n:=by obtain⟨_,_,e⟩:=a.slice;simp only[Value.slice.injEq]at e;exact e.2.1.symm
 have m:=zW (OwnR (w.alloc (.cells #[.int .i64 (n:Int)] 3)) 3 1 (.slice (some ⟨w.heap.size,0,none⟩) 1 1) 1 [.int .i64 (n:Int)]) (⟨rfl,.inr ⟨w.heap.size,1,#[.int .i64 (n:Int)],rfl,zAI w _,Nat.le_refl _,by decide,Nat.le_refl _,rfl⟩⟩);have v:=zW (zAK (w.alloc (.cells #[.int .i64 (n:Int)] 3)) 1 (.slice p n c) n (l.map (Value.int .i64))) (by
  have:=zAK.chg a (Chg.of_below (zAD w (.cells #[.int .i64 (n:Int)] 3))) fun _ _=>id;rwa[hn]at this)
 have t:=zh hn;have L:=zh G;have E:n≤1073741824:=by omega
 clear a hn G O
 go_enter func173,ntmps173
 go_wp2_with (at_builtin;refine zAO _ rfl (.tmp 5) (.tmp 6) 38 rfl 3 Q (.int .i64 0) 1 8 underlying38 M A B C rfl (by decide) (.slice (some ⟨w.heap.size,0,none⟩) 1 1) 1 _ rfl m.o (.slice p n c) n _ rfl v.o (fun u P=>by obtain⟨z,-,rfl⟩:=List.mem_map.1 P;rfl) (by unfold maxLen;omega) (by omega) ?_;intro v3 w3 b d g;go_loud (have s:=zW (Below w.heap.size w w3) ((zAD w (.cells #[.int .i64 (n:Int)] 3)).grown d (zAD w (.cells #[.int .i64 (n:Int)] 3)).size fun j e=>by cases e;exact Nat.le_refl _);clear d g;obtain⟨R,S,rfl⟩:=OwnR.shape b;have I:=zh b;clear b))
 have f:=zh (zBy (w:=w3) (p:=R) (n:=1+n) (c:=S) (zs:=(n:Int)::l) (by
  have:=OwnR.holds I.o;unfold zBY;rw[List.length_cons,t.o,Nat.add_comm n 1];exact this) (fun z D=>by
   rcases List.mem_cons.1 D with rfl|h
   ·omega
   ·exact L.o z h) (by rw[List.length_cons,t.o];omega))
 have J:=zW (zAp ((n:Int)::l)=zDp l) (by
  rw[show zAp ((n:Int)::l)=zDf (n:Int)++zAp l from rfl,zB1 (show n≤4611686018427387904 by omega),←t.o];rfl)
 rw[J.o]at f;refine f.o.mono ?_;rintro e T ⟨y,rfl,F,r,q⟩;have H:=zW (zBX w (zDp l) (.returned y) T) (⟨y,rfl,F,fun k N=>Nat.le_trans s.o.size (r k N),s.o.trans (q.mono s.o.size)⟩);clear F r q;go_wp2_with fail;go_ret;exact H.o
def fstB0 (n t:Int)(g:List Int):Bs:=1::(zDf n++zDf t++zDp g)
theorem fstB0_nat {n:Nat}(h:n≤4611686018427387904)(t:Int)(g:List Int):fstB0 (n:Int) t g=zFJ n t g:=by
 unfold fstB0 zFJ;rw[zB1 h]
abbrev RJC (r:Nat)(n t:Int)(g:Value)(pre:ByteArray)(d c:Int)(dv f:Value)(b:Bool):Obj:=.cells #[.int .i64 n,.int .i64 t,g,.pointer (some ⟨r,0,none⟩),.string pre,.int .i64 d,.int .i64 c,dv,f,.bool b] 84 (0,0)
theorem rowB_lit2 {w W:World}(b:Below w.heap.size w W)(x:UInt8)(g:Nat)(c:g=W.heap.size):zCe w (W.alloc (.cells #[.int .u8 (x.toNat:Int)] 5)) (.slice (some ⟨g,0,none⟩) 1 1) [x]:=by
 subst c;exact⟨own_lit #[.int .u8 (x.toNat:Int)] [x] 5 rfl 1 rfl (by decide),fun k d=>by cases d;exact b.size,b.trans ((zAD W _).mono b.size)⟩
theorem hasI_two (W:World)(n t:Int)(g:Nat)(c:g=W.heap.size):zBY (W.alloc (.cells #[.int .i64 n,.int .i64 t] 3)) (.slice (some ⟨g,0,none⟩) 2 2) [n,t]:=by
 subst c;exact⟨by simp,some ⟨W.heap.size,0,none⟩,2,rfl,fun e=>(by cases e),fun a b i u d=>by
  cases b;rw[add_zero];refine zAG (zAI W _) ?_;simpa using d⟩
theorem zF2 (g:List Int)(h:g.length≤1000):(zDp g).length≤9009:=by
 unfold zDp;have b:=zAh (n:=g.length) (by omega);have c:=zBA g;rw[List.length_append];omega
theorem rfirst_calls {w:World}{j r:Nat}{n t:Int}{pre:ByteArray}{aG an:Int}{dv ev:Value}{am:Bool}{p:Option Addr}{m c:Nat}{g:List Int}(hc:w.heap[j]?=some (RJC r n t (.slice p m c) pre aG an dv ev am))(hg:zBY w (.slice p m c) g)(hz:∀z∈g,-9223372036854775808≤z∧z≤9223372036854775807)(hl:g.length≤1000)(hn:-9223372036854775808≤n∧n≤9223372036854775807)(ht:-9223372036854775808≤t∧t≤9223372036854775807) :
  Calls prog 167 #[.pointer (some ⟨j,0,none⟩)] w (zBX w (zAM (fstB0 n t g))):=by
 obtain⟨i0,hi,ab,ac,ad⟩:=info_parts (show(prog.info? 5).map (fun i=>(i.zero,i.size,i.bytes))=some (some (.int .u8 0),1,1) by kernel_rfl);have c0:=zAU hc;have c1:=zAY hc;have c2:=zAX hc;have Hg:=zh hg;have Hz:=zh hz;have Hl:=zh hl;clear hg hz c0 c1 c2;have HT:=zW ([1]++zAp [n,t]++zDp g=fstB0 n t g) (by simp[zAp,fstB0]);have aF:=zBA [n,t];have aJ:(zAp [n,t]).length≤18:=by simpa using aF
 have au:=zh (zF2 g hl);clear aF
 go_enter func167,ntmps167
 go_wp2_with fail;refine ost (fun w':World=>w'.heap[j]?=some (RJC r n t (.slice p m c) pre aG an dv ev am)) 15 (hc) fun b=>?_;have ao:=zh (zAP w);have av:=zh hc;have ax:=zh (zAB hc);clear hc;generalize w.drew=R at *;refine Pl [1,2,3,4,5,6,7,8,9,10] ?_
 iterate 10 (refine Pd rfl (by intro w aD;have q0:=zAU aD;have q1:=zAY aD;go_simp;try with_reducible rfl) ?_;simp only[uZ])
 refine Pn ?_;refine zCp 0 11 rfl rfl (by kernel_rfl) (by rfl) (by rfl) (fun K A=>?_) (fun K A=>?_)
 ·have aw:=zh ((zC8 R (.cells #[.int .u8 1] 5) (zAB b)).trans b);have aA:=zh (rowB_lit2 ao.o 1 (R.heap.size) (by simp));have aa:=zh (aA.o.bel);go_wp2_with fail;refine A.o _ _ (aw.o) fun b=>?_;clear A
  try simp only[uZ]
  refine oon 11 rfl fun K A=>?_;have D:=zh ((zC8 (R.alloc (.cells #[.int .u8 1] 5)) (.cells #[.int .i64 n,.int .i64 t] 3) (zAB b)).trans b);have ap:=zh (hasI_two (R.alloc (.cells #[.int .u8 1] 5)) n t (R.heap.size+1) (by simp));have Y:=zh (aa.o.trans ((zAD (R.alloc (.cells #[.int .u8 1] 5)) (.cells #[.int .i64 n,.int .i64 t] 3)).mono aa.o.size));go_wp2_with fail;refine A.o _ _ (D.o) fun b=>?_;clear A
  try simp only[uZ]
  refine oon 12 rfl fun K A=>?_;have G:=zh (zBy ap.o (by simp;omega) (by simp));go_wp2_with fail;refine G.o.mono ?_;rintro e w2 ⟨x,rfl,L,ak,E⟩;have ag:=zh ((E.block _ (zAB b)).trans b);have ay:=zh (Y.o.trans (E.mono Y.o.size));have aq:=zh L;have ar:=zh E;obtain⟨px,cx,rfl,-⟩:=zAL L;clear L ak E G;generalize S:(zAp [n,t]).length=B at *;have Z:=zh S;clear S;go_wp2_with fail;refine A.o _ _ (ag.o) fun b=>?_;clear A
  try simp only[uZ]
  have O:=zh ((aA.o.next (zAD _ (.cells #[.int .i64 n,.int .i64 t] 3))).next ar.o);have ae:=zh (zAi.has aq.o);have Q:=zW (OwnR w2 5 1 (.slice (some ⟨R.heap.size,0,none⟩) 1 1) 1 (zAR [1])) O.o.own;have ai:=zh (show zAK w2 1 (.slice px B cx) B (zAR (zAp [n,t])) by have:=ae.o;unfold zAb at this;rwa[Z.o]at this);refine oon 13 rfl fun K A=>?_;refine zAm (.tmp 4) (.tmp 16) 22 rfl 5 i0 (.int .u8 0) 1 1 underlying22 hi ab ac ad rfl (by decide) (.slice (some ⟨R.heap.size,0,none⟩) 1 1) 1 _ rfl Q.o (.slice px B cx) B _ rfl ai.o (zAN _) (by unfold maxLen;omega) (by omega) ?_;intro v3 w3 d q a;have HE:=zh (zCe.grown (x:=zAp [n,t]) O.o (by rw[Z.o];exact d) q a);have D:=zh ((HE.o.bel.block j ax.o).trans av.o);obtain⟨p3,q3,rfl⟩:=OwnR.shape d;have ah:=zh d;clear d q a;refine A.o _ _ (D.o) fun b=>?_;clear A
  try simp only[uZ]
  refine otk 14 (v:=?v31x14) rfl ?_;simp only[uZ];refine odn ?_;have d2:=zAX D.o;have P:=zh (zC3 (w:=w3) (p:=p) (n:=m) (c:=c) (l:=g) (zAK.chg Hg.o (Chg.of_below HE.o.bel) fun _ _=>id) Hz.o (Nat.le_trans Hl.o (by decide)));go_wp2_with fail;refine P.o.mono ?_;rintro e w4 ⟨y,rfl,hy,al,U⟩;have N:=zh (HE.o.next U);have af:=zh (zAi.has hy);obtain⟨py,cy,rfl,-⟩:=zAL hy;clear hy al U P d2;generalize T:(zDp g).length=M at *;have I:=zh T;have aE:M≤10000:=by
   have h1:=au.o;omega
  have F:=zW ((([1]:Bs)++zAp [n,t]).length=1+B) (by rw[List.length_append,Z.o];rfl);have J:=zh (show OwnR w4 5 1 (.slice p3 (1+B) q3) (1+B) (zAR ([1]++zAp [n,t])) by have:=N.o.own;unfold zAi at this;rwa[F.o]at this);have aj:=zh (show zAK w4 1 (.slice py M cy) M (zAR (zDp g)) by have:=af.o;unfold zAb at this;rwa[I.o]at this);clear T;go_wp2_with (at_builtin;refine zAO _ rfl (.tmp 18) (.tmp 24) 22 rfl 5 i0 (.int .u8 0) 1 1 underlying22 hi ab ac ad rfl (by decide) (.slice p3 (1+B) q3) (1+B) _ rfl J.o (.slice py M cy) M _ rfl aj.o (zAN _) (by unfold maxLen;omega) (by omega) ?_;intro v5 w5 f s h;go_loud (have hE:=zCe.grown (x:=zDp g) N.o (by rw[F.o,I.o];exact f) s h;rw[HT.o]at hE;have C:=zh hE;clear s h hE;obtain⟨p5,q5,rfl⟩:=OwnR.shape f;clear f))
  have H:=zh (zBi (p:=p5) (m:=1+B+M) (c:=q5) (l:=fstB0 n t g) (w:=w5) C.o.own.has (by rw[←HT.o,List.length_append,List.length_append,Z.o,I.o];simp;omega));refine H.o.mono ?_;rintro e w6 ⟨z,rfl,W,X,V⟩;have HF:=zW (zBX w (zAM (fstB0 n t g)) (.returned z) w6) (⟨z,rfl,W,fun k hk=>Nat.le_trans C.o.bel.size (X k hk),C.o.bel.trans (V.mono C.o.bel.size)⟩);clear W X V H;go_wp2_with fail;go_ret;exact HF.o
 ·have aw:=zh ((zC8 R (.cells #[.int .i64 n,.int .i64 t] 3) (zAB b)).trans b);have az:=zh (hasI_two R n t (R.heap.size) (by simp));have aa:=zh (ao.o.trans ((zAD R (.cells #[.int .i64 n,.int .i64 t] 3)).mono ao.o.size));go_wp2_with fail;refine A.o _ _ (aw.o) fun b=>?_;clear A
  try simp only[uZ]
  refine zCp 0 12 rfl rfl (by kernel_rfl) (by rfl) (by rfl) (fun K A=>?_) (fun K A=>?_)
  focus
   have D:=zh ((zC8 (R.alloc (.cells #[.int .i64 n,.int .i64 t] 3)) (.cells #[.int .u8 1] 5) (zAB b)).trans b);have aB:=zh (rowB_lit2 aa.o 1 (R.heap.size+1) (by simp));have Y:=zh (aB.o.bel);go_wp2_with fail;refine A.o _ _ (D.o) fun b=>?_;clear A;try simp only[uZ]
   refine oon 12 rfl fun K A=>?_;have ap:=zW (zBY ((R.alloc (.cells #[.int .i64 n,.int .i64 t] 3)).alloc (.cells #[.int .u8 1] 5)) _ [n,t]) (zAK.chg az.o (Chg.of_below (zAD _ (.cells #[.int .u8 1] 5))) fun _ _=>id);have G:=zh (zBy ap.o (by simp;omega) (by simp));go_wp2_with fail;refine G.o.mono ?_;rintro e w2 ⟨x,rfl,L,ak,E⟩;have ag:=zh ((E.block _ (zAB b)).trans b);have ay:=zh (Y.o.trans (E.mono Y.o.size));have aq:=zh L;have ar:=zh E;obtain⟨px,cx,rfl,-⟩:=zAL L;clear L ak E G;generalize S:(zAp [n,t]).length=B at *;have Z:=zh S;clear S;go_wp2_with fail;refine A.o _ _ (ag.o) fun b=>?_;clear A;try simp only[uZ]
   have O:=zh (aB.o.next ar.o);have ae:=zh (zAi.has aq.o);have Q:=zW (OwnR w2 5 1 (.slice (some ⟨R.heap.size+1,0,none⟩) 1 1) 1 (zAR [1])) O.o.own;have ai:=zh (show zAK w2 1 (.slice px B cx) B (zAR (zAp [n,t])) by have:=ae.o;unfold zAb at this;rwa[Z.o]at this);refine oon 13 rfl fun K A=>?_;refine zAm (.tmp 4) (.tmp 16) 22 rfl 5 i0 (.int .u8 0) 1 1 underlying22 hi ab ac ad rfl (by decide) (.slice (some ⟨R.heap.size+1,0,none⟩) 1 1) 1 _ rfl Q.o (.slice px B cx) B _ rfl ai.o (zAN _) (by unfold maxLen;omega) (by omega) ?_;intro v3 w3 d q a;have HE:=zh (zCe.grown (x:=zAp [n,t]) O.o (by rw[Z.o];exact d) q a);have D:=zh ((HE.o.bel.block j ax.o).trans av.o);obtain⟨p3,q3,rfl⟩:=OwnR.shape d;have ah:=zh d;clear d q a;refine A.o _ _ (D.o) fun b=>?_;clear A;try simp only[uZ]
   refine otk 14 (v:=?v32x14) rfl ?_
  rotate_left
  focus
   have G:=zh (zBy az.o (by simp;omega) (by simp));go_wp2_with fail;refine G.o.mono ?_;rintro e w2 ⟨x,rfl,L,ak,E⟩;have D:=zh ((E.block _ (zAB b)).trans b);have Y:=zh (aa.o.trans (E.mono aa.o.size));have aH:=zh L;have aI:=zh E;obtain⟨px,cx,rfl,-⟩:=zAL L;clear L ak E G;generalize S:(zAp [n,t]).length=B at *;have Z:=zh S;clear S;go_wp2_with fail;refine A.o _ _ (D.o) fun b=>?_;clear A;try simp only[uZ]
   refine oon 0 rfl fun K A=>?_;have ag:=zh ((zC8 w2 (.cells #[.int .u8 1] 5) (zAB b)).trans b);have aC:=zh (rowB_lit2 Y.o 1 (w2.heap.size) (by simp));have ay:=zh (aC.o.bel);go_wp2_with fail;refine A.o _ _ (ag.o) fun b=>?_;clear A;try simp only[uZ]
   have O:=zh aC.o;have ae:=zh (zAi.has (zCD aH.o (zAD w2 (.cells #[.int .u8 1] 5))));have Q:=zW (OwnR (w2.alloc (.cells #[.int .u8 1] 5)) 5 1 (.slice (some ⟨w2.heap.size,0,none⟩) 1 1) 1 (zAR [1])) O.o.own;have ai:=zh (show zAK (w2.alloc (.cells #[.int .u8 1] 5)) 1 (.slice px B cx) B (zAR (zAp [n,t])) by have:=ae.o;unfold zAb at this;rwa[Z.o]at this);refine oon 13 rfl fun K A=>?_;refine zAm (.tmp 4) (.tmp 16) 22 rfl 5 i0 (.int .u8 0) 1 1 underlying22 hi ab ac ad rfl (by decide) (.slice (some ⟨w2.heap.size,0,none⟩) 1 1) 1 _ rfl Q.o (.slice px B cx) B _ rfl ai.o (zAN _) (by unfold maxLen;omega) (by omega) ?_;intro v3 w3 d q a;have HE:=zh (zCe.grown (x:=zAp [n,t]) O.o (by rw[Z.o];exact d) q a);have D:=zh ((HE.o.bel.block j ax.o).trans av.o);obtain⟨p3,q3,rfl⟩:=OwnR.shape d;have ah:=zh d;clear d q a;refine A.o _ _ (D.o) fun b=>?_;clear A;try simp only[uZ]
   refine otk 14 (v:=?v33x14) rfl ?_
  all_goals
   simp only[uZ];refine odn ?_;have d2:=zAX D.o;have P:=zh (zC3 (w:=w3) (p:=p) (n:=m) (c:=c) (l:=g) (zAK.chg Hg.o (Chg.of_below HE.o.bel) fun _ _=>id) Hz.o (Nat.le_trans Hl.o (by decide)));go_wp2_with fail;refine P.o.mono ?_;rintro e w4 ⟨y,rfl,hy,al,U⟩;have N:=zh (HE.o.next U);have af:=zh (zAi.has hy);obtain⟨py,cy,rfl,-⟩:=zAL hy;clear hy al U P d2;generalize T:(zDp g).length=M at *;have I:=zh T;have aE:M≤10000:=by
    have h1:=au.o;omega
   have F:=zW ((([1]:Bs)++zAp [n,t]).length=1+B) (by rw[List.length_append,Z.o];rfl);have J:=zh (show OwnR w4 5 1 (.slice p3 (1+B) q3) (1+B) (zAR ([1]++zAp [n,t])) by have:=N.o.own;unfold zAi at this;rwa[F.o]at this);have aj:=zh (show zAK w4 1 (.slice py M cy) M (zAR (zDp g)) by have:=af.o;unfold zAb at this;rwa[I.o]at this);clear T;go_wp2_with (at_builtin;refine zAO _ rfl (.tmp 18) (.tmp 24) 22 rfl 5 i0 (.int .u8 0) 1 1 underlying22 hi ab ac ad rfl (by decide) (.slice p3 (1+B) q3) (1+B) _ rfl J.o (.slice py M cy) M _ rfl aj.o (zAN _) (by unfold maxLen;omega) (by omega) ?_;intro v5 w5 f s h;go_loud (have hE:=zCe.grown (x:=zDp g) N.o (by rw[F.o,I.o];exact f) s h;rw[HT.o]at hE;have C:=zh hE;clear s h hE;obtain⟨p5,q5,rfl⟩:=OwnR.shape f;clear f));have H:=zh (zBi (p:=p5) (m:=1+B+M) (c:=q5) (l:=fstB0 n t g) (w:=w5) C.o.own.has (by rw[←HT.o,List.length_append,List.length_append,Z.o,I.o];simp;omega));refine H.o.mono ?_;rintro e w6 ⟨z,rfl,W,X,V⟩;have HF:=zW (zBX w (zAM (fstB0 n t g)) (.returned z) w6) (⟨z,rfl,W,fun k hk=>Nat.le_trans C.o.bel.size (X k hk),C.o.bel.trans (V.mono C.o.bel.size)⟩);clear W X V H;go_wp2_with fail;go_ret;exact HF.o
theorem four_inv (b c d f:UInt8):zA4 (ofFour b c d f)=[b,c,d,f]:=by
 have g:=b.toNat_lt;have i:=c.toNat_lt;have j:=d.toNat_lt;have k:=f.toNat_lt;have e:∀(n:Nat) (a:UInt8),n%256=a.toNat→UInt8.ofNat n=a:=fun n a h=>by
  apply UInt8.toNat_inj.1;rw[UInt8.toNat_ofNat'];exact h
 unfold zA4 ofFour;rw[e _ b (by omega),e _ c (by omega),e _ d (by omega),e _ f (by omega)]
theorem fourAt_inv {b:Bs}(h:4≤b.length):zA4 (fourAt b)=b.take 4:=by
 match b,h with
 | a0::a1::a2::a3::r,_=>exact four_inv a0 a1 a2 a3
theorem four_inj {m n:Nat}(c:m<4294967296)(hn:n<4294967296)(h:zA4 m=zA4 n):m=n:=by
 have b:=zDT m c [];have d:=zDT n hn [];rw[h]at b;omega
theorem head_iff {b:Bs}(h:8≤b.length):b.take 8=zCJ (fourAt b)↔fourAt (b.drop 4)=sumN (b.take 4):=by
 have f:=fourAt_inv (b:=b) (by omega);have g:=fourAt_inv (b:=b.drop 4) (by rw[List.length_drop];omega);have c:b.take 8=b.take 4++(b.drop 4).take 4:=by rw[←List.take_add]
 have d:zCJ (fourAt b)=b.take 4++zA4 (sumN (b.take 4)):=by
  show zA4 (fourAt b)++zA4 (sumN (zA4 (fourAt b)))=_
  rw[f]
 rw[c,d,List.append_cancel_left_eq,←g];exact⟨fun e=>four_inj (zDU _) (zFo _) e,fun e=>by rw[e]⟩
end Go.Proofs.YtapfnehdgailmaaGreat
