/- What the program's functions and the document's do, and plain laws, for PJournalPlays. -/
import Derived.Test.YtapfnehdgailmaaGreatJB
import Derived.Test.YtapfnehdgailmaaGreatJI
import Derived.Test.YtapfnehdgailmaaGreatJJ
import Derived.Test.YtapfnehdgailmaaGreatJK
import Derived.Test.YtapfnehdgailmaaGreatJQ
import Derived.Test.YtapfnehdgailmaaGreatJV
open Go.Proofs.Tryz
set_option maxRecDepth 100000
set_option maxHeartbeats 64000000
namespace Go.Proofs.YtapfnehdgailmaaGreat
open Go.RowKit Go.Sat Go.Maps
def zAJ.dat (M:zAJ)(d:Bs):zAJ:={M with data:=d}
theorem rec1_dat (f:Bool)(M:zAJ)(d:Bs)(p:Bs):zBs f (M.dat d) p=(zBs f M p).map (·.dat d):=by
 cases p with
 | nil=>rfl
 | cons k r =>
  unfold zBs;dsimp only;have g:∀t v,(M.dat d).mayVote t v=M.mayVote t v:=fun _ _=>rfl;have c:(M.dat d).last=M.last:=rfl;have hn:(M.dat d).number=M.number:=rfl;have b:(M.dat d).entries=M.entries:=rfl;rw[g,c,hn,b]
  repeat' split
  all_goals first
   | rfl
   | (exfalso;simp_all;done)
theorem recGo_dat:∀(l:List Bs) (M:zAJ) (d:Bs),zCT (M.dat d) l=(zCT M l).map (·.dat d)
 | [],_,_=>rfl
 | p::r,M,d=>by
  show(zBs false (M.dat d) p).bind (fun M'=>zCT M' r)=((zBs false M p).bind fun M'=>zCT M' r).map (·.dat d)
  rw[rec1_dat];cases zBs false M p with
  | none=>rfl
  | some M1=>exact recGo_dat r M1 d
structure Kept5 (room:Nat)(g:List Int)(M:zAJ)(D:zAA)(u:Nat):Prop where
 ex:∃ls s M0,D=dJ room (zAS ls) (zEB s)∧(∀l∈ls,l.length≤1048576)∧SnapOK s∧zCa (zAJ.none0 g) ls=some M0∧zAo s M0 false=some (false,M)
 used:D.used≤u
 grp:zAZ g=true
 alive:M.dead=false
theorem Kept5.open {room:Nat}{g:List Int}{M:zAJ}{D:zAA}{u:Nat}(h:Kept5 room g M D u):zAV D [97] g=(D,0,M):=by
 obtain⟨⟨ls,s,j,rfl,b,c,d,f⟩,-,i,-⟩:=h;exact open_dj i b c d f
theorem Kept5.crash {room:Nat}{g:List Int}{M:zAJ}{D:zAA}{u:Nat}(h:Kept5 room g M D u)(k:Int):D.crash k=D:=by
 obtain⟨⟨ls,s,b,rfl,-⟩,-⟩:=h;exact crash_dj k
theorem joins_is {s:Option zDP}{b M:zAJ}(h:zAo s b false=some (false,M)):M=b.dat M.data∧(∀M',M'.number=b.number→zAo s M' false=some (false,match s with|none=>M'|some x=>M'.dat x.data))∧(∀x,s=some x→M.data=x.data)∧(s=none→M=b):=by
 unfold zAo at h;cases s with
 | none =>
  dsimp only at h
  split at h
  ·cases h
  ·rename_i hn
   have e:b=M:=congrArg Prod.snd (Option.some.inj h);subst e;refine⟨rfl,fun M' c=>?_,fun x d=>(by cases d),fun _=>rfl⟩;unfold zAo;dsimp only;rw[c,if_neg hn]
 | some x =>
  dsimp only at h
  split at h
  ·have e:true=false:=congrArg Prod.fst (Option.some.inj h);cases e
  ·rename_i h1
   split at h
   ·cases h
   ·rename_i h2
    have e:({b with data:=x.data}:zAJ)=M:=congrArg Prod.snd (Option.some.inj h);subst e;refine⟨rfl,fun M' c=>?_,fun y f=>(by cases f;rfl),fun d=>(by cases d)⟩;unfold zAo;dsimp only;rw[if_neg (by rw[c];exact h1),if_neg (by rw[c];exact h2)];rfl
theorem keep_lay {room:Nat}{g:List Int}{M M':zAJ}{D:zAA}{u:Nat}{rs:List Bs}(h:Kept5 room g M D u)(r:∀l∈rs,l.length≤1048576)(d:zCT M rs=some M')(y:M'.number=M.number)(n:M'.data=M.data)(q:M'.dead=false)(L:u+(zAS rs).length≤room) :
  ∃D',zB7 [97] D M rs M'=⟨D',M',0⟩∧Kept5 room g M' D' (u+(zAS rs).length):=by
 obtain⟨⟨ls,s,k,rfl,A,B,C,E⟩,i,G,J⟩:=h;obtain⟨v,F,o,p⟩:=joins_is E;have j:=lay_dj (room:=room) (c:=zAS ls) (b:=zAS rs) (s:=zEB s) (by omega);refine⟨dJ room (zAS ls++zAS rs) (zEB s),?_,⟨?_,?_,G,q⟩⟩
 ·unfold zB7;rw[j];exact if_neg (by simp)
 ·have f:(zCT k rs).map (·.dat M.data)=some M':=by rw[←recGo_dat,←v,d]
  cases m:zCT k rs with
  | none=>rw[m]at f;cases f
  | some M1 =>
   rw[m]at f;have t:M1.dat M.data=M':=Option.some.inj f;have I:M1.number=k.number:=by
    have a:M'.number=M1.number:=by rw[←t];rfl
    have b:M.number=k.number:=by rw[v];rfl
    omega
   refine⟨ls++rs,s,M1,by rw[zD8],fun l H=>?_,B,?_,?_⟩
   ·exact(List.mem_append.1 H).elim (A l) (r l)
   ·rw[recAll_app C,m]
   ·rw[F M1 I];cases s with
    | none =>
     have z:=p rfl;rw[z,m]at d;rw[Option.some.inj d]
    | some x =>
     show some (false,M1.dat x.data)=_
     rw[←o x rfl,t]
 ·rw[dj_used]at i ⊢;rw[List.length_append];cases s with
  | none=>simp only[zEB,Option.map_none]at i ⊢;omega
  | some x=>simp only[zEB,Option.map_some]at i ⊢;omega
theorem keep_start {room:Nat}{g:List Int}(c:zAZ g=true):Kept5 room g (zAJ.none0 g) (zDS room [97] g) 150:=by
 refine⟨⟨(zAJ.none0 g).rows,none,zAJ.none0 g,by rw[rows_none0];rfl,fun l f=>?_,fun x i=>(by cases i),?_,rfl⟩,?_,c,rfl⟩
 ·have b:=firstB_len c;unfold zFy at b;rw[List.length_append,zAl,zAl]at b;rcases(show l=zFJ 0 0 g∨l=zCU 0 (-1) by simpa[zAJ.rows,zAJ.none0,zA7]using f)with rfl|rfl<;>omega
 ·have:=rec_rows (M:=zAJ.none0 g) (N:=zAJ.none0 g) (Nat.zero_le _) rfl c rfl ⟨Int.le_refl _,show(-1:Int)<7 by decide⟩ (fun e d=>by cases d) rfl rfl rfl;exact this
 ·have b:=firstB_len c
  show(dJ room (zFy g) none).used≤150
  rw[dj_used];exact b
section
variable {room:Nat} {g:List Int} {M:zAJ} {D:zAA} {u:Nat}
theorem app_go (h:Kept5 room g M D u){es:List Ent}(p:es≠[])(b:∀e∈es,zA1 e=true)(i:M.last+es.length≤1099511627776)(k:u+65812*es.length≤room∨u+(zAS (zA7 M.last es)).length≤room) :
  ∃D',zAn [97] D M es=⟨D',{M with entries:=M.entries++es},0⟩∧Kept5 room g {M with entries:=M.entries++es} D' (u+(zAS (zA7 M.last es)).length):=by
 have d:=zDK M.last es b (by omega);have j:=zDl (c:=65800) (zA7 M.last es) d;rw[zCX]at j;obtain⟨D',m,n⟩:=keep_lay (M':={M with entries:=M.entries++es}) (rs:=zA7 M.last es) h (fun l q=>Nat.le_trans (d l q) (by decide)) (recGo_ents es M b i) rfl rfl h.alive (by rcases k with k|k<;>omega);refine⟨D',?_,n⟩;unfold zAn;rw[if_neg (show ¬M.dead=true by rw[h.alive];simp),if_neg (fun o=>o.elim (fun f=>by omega) fun f=>by rw[List.all_eq_true.2 b]at f;cases f),if_neg p];exact m
end
section
variable {room:Nat} {g:List Int} {M:zAJ} {D:zAA} {u:Nat}
theorem goes_go (h:Kept5 room g M D u){s:zDP}(y:s.OK)(q:1≤s.number)(t:s.data.length≤524288)(i:s.bytes.length≤1048576)(d:(M.rebase s).OK)(p:room≤1073741824)(k:∀l∈(M.rebase s).rows,l.length≤1048576)
  (C:u+s.bytes.length+12+(zAS (M.rebase s).rows).length≤room) :
  ∃D',zA8 [97] D M s=⟨D',M.rebase s,0⟩∧Kept5 room g (M.rebase s) D' ((zAS (M.rebase s).rows).length+s.bytes.length+12):=by
 obtain⟨⟨ls,a,A,rfl,-⟩,n,v,o⟩:=h;have m:=snp_dj (room:=room) (c:=zAS ls) (b:=s.bytes) (s:=zEB a) p (by omega);have B:(zAS ls).length≤u:=by
  rw[dj_used]at n;omega
 have j:=log_dj (room:=room) (c:=zAS ls) (b:=zAS (M.rebase s).rows) (s:=some (zAM s.bytes)) p (by
  rw[dj_used];dsimp only;rw[zAl];omega)
 have f:(M.rebase s).dead=false:=o;refine⟨dJ room (zAS (M.rebase s).rows) (some (zAM s.bytes)),?_,⟨⟨(M.rebase s).rows,some s,{M.rebase s with data:=[],dead:=false},rfl,k,fun x z=>?_,?_,?_⟩,?_,v,f⟩⟩
 ·unfold zA8;rw[show zEd s.number s.term s.group s.data=s.bytes from rfl,m,if_neg (by simp)];dsimp only;unfold zAT;rw[j,if_neg (by simp)]
 ·cases z;exact⟨y,q,t,i⟩
 ·exact rec_rows (M:=M.rebase s) (N:=zAJ.none0 g) d.last d.term d.group d.now d.vote d.ents rfl rfl rfl
 ·have e:(M.rebase s)={({M.rebase s with data:=[],dead:=false}:zAJ)with data:=s.data}:=by
   have r:M.dead=false:=o;unfold zAJ.rebase;rw[r]
  unfold zAo;dsimp only;rw[if_neg (show ¬(M.rebase s).number<s.number from Nat.lt_irrefl _),if_neg (show ¬s.number<(M.rebase s).number from Nat.lt_irrefl _)];rw[←e]
 ·rw[dj_used];dsimp only;rw[zAl];omega
theorem compact_go (h:Kept5 room g M D u){i:Nat}{b:Bs}(c:M.number<i)(d:i≤M.last)(f:b.length≤524288) :
  zAe [97] D M (i:Int) b=zA8 [97] D M ⟨i,(M.termAt (i:Int)).getD 0,(M.grpIn (i-M.number)).1,b⟩:=by
 unfold zAe;rw[if_neg (show ¬M.dead=true by rw[h.alive];simp),if_neg (by omega),Int.toNat_natCast]
end
theorem zFx {n:Nat}{e:Ent}(hn:n≤4611686018427387904)(h:zA1 e=true):(zEp n e).length≤46+e.data.length+9*e.nodes.length:=by
 have j:=zBF h;unfold zEp zE3 zDp;simp only[List.length_cons,List.length_append];have b:=zAh hn;have c:=zBJ e.term;have d:=zBJ e.kind;have f:=zAh (n:=e.data.length) (by omega);have g:=zAh (n:=e.nodes.length) (by omega);have i:=zBA e.nodes;omega
theorem ents_len2 {c:Nat}:∀(n:Nat) (es:List Ent),(∀e∈es,zA1 e=true∧e.data.length+9*e.nodes.length≤c)→n+es.length≤4611686018427387904→∀l∈zA7 n es,l.length≤46+c
 | _,[],_,_,l,b=>by cases b
 | n,e::r,h,hn,l,b=>by
  simp only[List.length_cons]at hn;cases b with
  | head =>
   have:=zFx (n:=n+1) (e:=e) (by omega) (h e (by simp)).1;have:=(h e (by simp)).2;omega
  | tail _ b=>exact ents_len2 (n+1) r (fun x d=>h x (by simp[d])) (by omega) l b
def ke1:Ent:=⟨1,0,[],[]⟩
def ke2:Ent:=⟨2,1,[120],[]⟩
def kM1:zAJ:=⟨0,0,[0,1,2],0,-1,[],[ke1,ke2],false⟩
def kS:zDP:=⟨1,1,[0,1,2],[115]⟩
def kM2:zAJ:=⟨1,1,[0,1,2],0,-1,[115],[ke2],false⟩
theorem kM2_is:kM1.rebase kS=kM2:=by rfl
theorem kS_is:(⟨1,(kM1.termAt ((1:Nat):Int)).getD 0,(kM1.grpIn (1-kM1.number)).1,[115]⟩:zDP)=kS:=by rfl
theorem known5:∃q r,zAn [97] (zDS 65536 [97] [0,1,2]) (zAJ.none0 [0,1,2]) [ke1,ke2]=⟨q,kM1,0⟩∧zAe [97] q kM1 ((1:Nat):Int) [115]=⟨r,kM2,0⟩:=by
 have h:=keep_start (room:=65536) (g:=[0,1,2]) (by rfl);have i:∀e∈[ke1,ke2],zA1 e=true:=fun e j=>by
  rcases(show e=ke1∨e=ke2 by simpa using j)with rfl|rfl<;>rfl
 have z:(zAS (zA7 (zAJ.none0 [0,1,2]).last [ke1,ke2])).length≤200:=by
  have k:=zDl (c:=47) (zA7 (zAJ.none0 [0,1,2]).last [ke1,ke2]) (ents_len2 (c:=1) _ _ (fun e j=>⟨i e j,by rcases(show e=ke1∨e=ke2 by simpa using j)with rfl|rfl<;>decide⟩) (show 0+2≤_ by decide));rw[zCX]at k;exact Nat.le_trans k (by decide)
 obtain⟨q,k,t⟩:=app_go h (by simp) i (show 0+2≤_ by decide) (.inr (by omega));have y:kM2.OK:=⟨by decide,by rfl,by rfl,by rfl,⟨by decide,by decide⟩,by decide,fun e j=>by rw[show e=ke2 by simpa[kM2]using j];rfl⟩;have o:∀l∈kM2.rows,l.length≤200:=fun l m=>by
  rcases(show l=zFJ 1 1 [0,1,2]∨l=zCU 0 (-1)∨l∈zA7 1 [ke2] by simpa[zAJ.rows,kM2]using m)with rfl|rfl|m
  ·unfold zFJ zDp;have a:(zD5 1).length≤9:=zAh (by omega);have b:=zBJ 1;have c:=zAh (n:=([0,1,2]:List Int).length) (by decide);have d:=zBA [0,1,2];simp only[List.length_cons,List.length_append,List.length_nil]at c d ⊢;omega
  ·have:=zEf 0 (-1);omega
  ·have:=ents_len2 (c:=1) 1 [ke2] (fun e j=>by rw[show e=ke2 by simpa using j];exact⟨rfl,by decide⟩) (by decide) l m;omega
 have p:=zDl (c:=200) kM2.rows o;have B:kS.bytes.length≤200:=by
  unfold zDP.bytes kS zEd zDp zE3;have a:(zD5 1).length≤9:=zAh (by omega);have b:=zBJ 1;have c:=zAh (n:=([0,1,2]:List Int).length) (by decide);have d:=zBA [0,1,2];have f:=zAh (n:=([115]:Bs).length) (by decide);simp only[List.length_cons,List.length_append,List.length_nil]at c d f ⊢;omega
 have v:({zAJ.none0 [0,1,2]with entries:=(zAJ.none0 [0,1,2]).entries++[ke1,ke2] }:zAJ)=kM1:=rfl;rw[v]at k t;obtain⟨r,A,C⟩:=goes_go t (s:=kS) ⟨by decide,by rfl,by rfl,by decide⟩ (by decide) (by decide) (by omega) (by rw[kM2_is];exact y) (by decide) (by rw[kM2_is];exact fun l m=>Nat.le_trans (o l m) (by decide)) (by
  rw[kM2_is];have:kM2.rows.length=3:=rfl;rw[this]at p;omega)
 refine⟨q,r,k,?_⟩;rw[compact_go t (show 0<1 by decide) (show 1≤2 by decide) (by decide),kS_is,A,kM2_is]
theorem zGF {w:World}{p:Option Addr}{n c:Nat}{l:Bs}(a:zAb w (.slice p n c) l)(J:l.length≤1073741824) :
  Calls prog 133 #[.slice p n c] w (zBX w (zE3 l)):=by
 obtain⟨M,I,h,A,B⟩:=info_parts (show(prog.info? 5).map (fun i=>(i.zero,i.size,i.bytes))=some (some (.int .u8 0),1,1) by kernel_rfl);have hn:l.length=n:=by obtain⟨_,_,e⟩:=a.slice;simp only[Value.slice.injEq]at e;exact e.2.1.symm
 have q:=zh (zEV w (n:Int) (by omega));have G:=zh (show zDf (n:Int)++l=zE3 l by rw[zB1 (by omega),←hn];rfl);have L:(zDf (n:Int)).length≤9:=zBJ _;have H:=zh a;have E:=zh hn;have F:n≤1073741824:=by omega
 clear a hn J
 go_enter func133,ntmps133
 go_wp2_with fail;refine q.o.mono ?_;rintro e w2 ⟨x,rfl,k,t,j⟩;obtain⟨C,z,rfl,-⟩:=zAL k;have m:=zW (zCe w w2 (.slice C (zDf (n:Int)).length z) (zDf (n:Int))) (⟨k,t,j⟩);have r:=zh (show zAK w2 1 (.slice p n c) n (zAR l) by have:=H.o.below j;unfold zAb at this;rwa[E.o]at this);clear k t j;generalize s:(zDf (n:Int)).length=v at *;have D:=zh s;clear s;have g:=zW (OwnR w2 5 1 (.slice C v z) v (zAR (zDf (n:Int)))) (by have:=m.o.own;unfold zAi at this;rwa[D.o]at this);go_wp2_with (at_builtin;refine zAO _ rfl (.tmp 5) (.tmp 6) 22 rfl 5 M (.int .u8 0) 1 1 underlying22 I h A B rfl (by decide) (.slice C v z) v _ rfl g.o (.slice p n c) n _ rfl r.o (zAN _) (by unfold maxLen;omega) (by omega) ?_;intro v3 w3 d b f;go_loud (have y:=zh (zCe.grown (x:=l) m.o (by rw[D.o,E.o];exact d) b f);clear b f;obtain⟨N,O,rfl⟩:=OwnR.shape d;clear d))
 go_ret;rw[←G.o];exact y.o.told
def entC0 (e:Ent):Bs:=zAp [e.term,e.kind]++zE3 e.data++zDp e.nodes
theorem entB_is {n:Nat}(h:n≤4611686018427387904)(e:Ent):[3]++zDf (n:Int)++entC0 e=zEp n e:=by
 unfold entC0 zEp;rw[zB1 h];simp[zAp]
theorem rentC_calls {w:World}{e:Ent}{v:EV}(h:zBH w e v)(aC:zA1 e=true) :
  Calls prog 171 #[zCf e v] w (zBX w (entC0 e)):=by
 obtain⟨i0,hi,an,ao,ap⟩:=info_parts (show(prog.info? 5).map (fun i=>(i.zero,i.size,i.bytes))=some (some (.int .u8 0),1,1) by kernel_rfl);have hf:=zBF aC;obtain⟨t,k,g,l⟩:=e;obtain⟨v1,v2⟩:=v;obtain⟨A,s,e1⟩:=h.data.slice;obtain⟨m,j,e2⟩:=h.nodes.slice;have e1:v1=.slice A g.length s:=e1;have e2:v2=.slice m l.length j:=e2;subst e1;subst e2;dsimp only at hf;have hz:∀z∈l,-9223372036854775808≤z∧z≤9223372036854775807:=fun z hz=>by have:=hf.2.2.2.2 z hz;omega
 have E:=zAD w (zEk t k (.slice A g.length s) (.slice m l.length j));have D:(w.alloc (zEk t k (.slice A g.length s) (.slice m l.length j))).heap[w.heap.size]?=some (zEk t k (.slice A g.length s) (.slice m l.length j)):=zAI w _;have ai:=h.data.below E;have al:=zAK.chg h.nodes (Chg.of_below E) fun _ _=>id;clear h;unfold zCf;dsimp only;have Hf:=zh hf;have aE:g.length≤65536:=hf.2.2.1;have aF:l.length≤7:=hf.2.2.2.1;generalize aj:g.length=L at *;generalize ak:l.length=n2 at *;have C:=zh aj;have Q:=zh ak;have HZ:=zh hz;clear aj ak hz
 go_enter func171,ntmps171
 have aA:=zAU D;have aB:=zAY D;have Z:=zh (zBy (w:=(w.alloc (zEk t k (.slice A L s) (.slice m n2 j))).alloc (.cells #[.int .i64 t,.int .i64 k] 3)) (p:=some ⟨w.heap.size+1,0,none⟩) (n:=2) (c:=2) (zs:=[t,k]) ⟨by simp,some ⟨w.heap.size+1,0,none⟩,2,rfl,fun e=>(by cases e),fun a ha i u hu=>by
  cases ha;rw[add_zero];refine zAG (by have:=zAI (w.alloc (zEk t k (.slice A L s) (.slice m n2 j))) (.cells #[.int .i64 t,.int .i64 k] 3);simpa using this) ?_;simpa using hu⟩ (by simp;have:=Hf.o;omega) (by simp))
 have P:=zh E;have B:=zh D;have ax:=zh ai;have az:=zh al;have aG:(zAp [t,k]).length≤18:=by have:=zBA [t,k];simpa using this
 have aH:(zE3 g).length≤9+L:=by
  have:=zAh (n:=g.length) (by have:=C.o;omega);unfold zE3;rw[List.length_append,C.o];rw[C.o]at this;omega
 have aI:=zF2 l (by have:=Q.o;omega);clear aA aB D E ai al;go_wp2_with fail;refine Z.o.mono ?_;rintro r w2 ⟨x,rfl,S,am,af⟩;obtain⟨px,cx,rfl,-⟩:=zAL S;have F:Below (w.alloc (zEk t k (.slice A L s) (.slice m n2 j))).heap.size (w.alloc (zEk t k (.slice A L s) (.slice m n2 j))) w2:=(zAD _ (.cells #[.int .i64 t,.int .i64 k] 3)).trans (af.mono (zAD _ _).size);have J:∀y,(Value.slice px (zAp [t,k]).length cx).ownBlock=some y→(w.alloc (zEk t k (.slice A L s) (.slice m n2 j))).heap.size≤y:=fun y T=>Nat.le_trans (zAD _ _).size (am y T);clear am af;generalize w.alloc (zEk t k (.slice A L s) (.slice m n2 j))=W1 at *;have au:=zW (zCe W1 w2 (.slice px (zAp [t,k]).length cx) (zAp [t,k])) (⟨S,J,F⟩);have aa:=(F.block _ (zAB B.o)).trans B.o;have aw:=zh (zGF (p:=A) (n:=L) (c:=s) (zAb.below ax.o F) (by rw[C.o];omega));have d2:=zAX aa;clear S J F aa;generalize ac:(zAp [t,k]).length=G at *;have N:=zh ac;clear ac;go_wp2_with fail;refine aw.o.mono ?_;rintro r w3 ⟨y,rfl,T,aD,ag⟩;have HY:=zh (zAi.has T);obtain⟨py,cy,rfl,-⟩:=zAL T;have X:=zh (au.o.next ag);clear T aD ag d2;generalize ad:(zE3 g).length=H at *;have O:=zh ad;clear ad;have q:=zW (OwnR w3 5 1 (.slice px G cx) G (zAR (zAp [t,k]))) (by have:=X.o.own;unfold zAi at this;rwa[N.o]at this);have I:=zW (zAK w3 1 (.slice py H cy) H (zAR (zE3 g))) (by have:=HY.o;unfold zAb at this;rwa[O.o]at this);go_wp2_with (at_builtin;refine zAO _ rfl (.tmp 10) (.tmp 13) 22 rfl 5 i0 (.int .u8 0) 1 1 underlying22 hi an ao ap rfl (by decide) (.slice px G cx) G _ rfl q.o (.slice py H cy) H _ rfl I.o (zAN _) (by unfold maxLen;omega) (by omega) ?_;intro v4 w4 d b f;go_loud (have M:=zh (zCe.grown (x:=zE3 g) X.o (by rw[N.o,O.o];exact d) b f);clear b f;obtain⟨p4,q4,rfl⟩:=OwnR.shape d;clear d;have ab:=(M.o.bel.block _ (zAB B.o)).trans B.o;have d3:=zAf ab;have ay:=zh (zC3 (p:=m) (n:=n2) (c:=j) (show zBY w4 (.slice m n2 j) l by unfold zBY;rw[Q.o];exact zAK.chg az.o (Chg.of_below M.o.bel) fun _ _=>id) HZ.o (by have:=Q.o;omega));clear ab q I))
 refine ay.o.mono ?_;rintro r w5 ⟨z,rfl,U,aq,ah⟩;have av:=zh (zAi.has U);obtain⟨pz,cz,rfl,-⟩:=zAL U;have Y:=zh (M.o.next ah);have V:=zh (show(zAp [t,k]++zE3 g).length=G+H by rw[List.length_append,N.o,O.o]);clear U aq ah d3;generalize ae:(zDp l).length=m6 at *;have W:=zh ae;clear ae;have R:=zW (OwnR w5 5 1 (.slice p4 (G+H) q4) (G+H) (zAR (zAp [t,k]++zE3 g))) (by have:=Y.o.own;unfold zAi at this;rwa[V.o]at this);have K:=zW (zAK w5 1 (.slice pz m6 cz) m6 (zAR (zDp l))) (by have:=av.o;unfold zAb at this;rwa[W.o]at this);go_wp2_with (at_builtin;refine zAO _ rfl (.tmp 15) (.tmp 18) 22 rfl 5 i0 (.int .u8 0) 1 1 underlying22 hi an ao ap rfl (by decide) (.slice p4 (G+H) q4) (G+H) _ rfl R.o (.slice pz m6 cz) m6 _ rfl K.o (zAN _) (by unfold maxLen;omega) (by omega) ?_;intro v7 w7 d b f;go_loud (have ar:=zh (zCe.grown (x:=zDp l) Y.o (by rw[V.o,W.o];exact d) b f);clear b f;obtain⟨p7,q7,rfl⟩:=OwnR.shape d;clear d))
 go_ret;have hE:=ar.o;exact⟨_,rfl,hE.own,fun y T=>Nat.le_trans P.o.size (hE.new y T),P.o.trans (hE.bel.mono P.o.size)⟩
theorem rentry_calls {w:World}{e:Ent}{v:EV}(h:zBH w e v)(D:zA1 e=true){n:Nat}(hn:n≤4611686018427387904) :
  Calls prog 113 #[.int .i64 (n:Int),zCf e v] w (zBX w (zAM (zEp n e))):=by
 obtain⟨i0,hi,ai,aj,ak⟩:=info_parts (show(prog.info? 5).map (fun i=>(i.zero,i.size,i.bytes))=some (some (.int .u8 0),1,1) by kernel_rfl);have a:=zFx hn D;have hf:=zBF D;obtain⟨t,k,J,L⟩:=e;obtain⟨v1,v2⟩:=v;obtain⟨M,H,e1⟩:=h.data.slice;obtain⟨N,I,e2⟩:=h.nodes.slice;have e1:v1=.slice M J.length H:=e1;have e2:v2=.slice N L.length I:=e2;subst e1;subst e2;dsimp only at hf a;generalize av:J.length=X at *;generalize aw:L.length=n2 at *;have T:=zAD w (zEk t k (.slice M X H) (.slice N n2 I));have ac:(w.alloc (zEk t k (.slice M X H) (.slice N n2 I))).heap[w.heap.size]?=some (zEk t k (.slice M X H) (.slice N n2 I)):=zAI w _;have hh:=h.below T;have HT:=zh (entB_is hn ⟨t,k,J,L⟩);have E:=zh a;have Hf:=zh hf;have S:=zh T;have Y:=zh ac;have Hh:=zh hh;have aq:=zh D;have az:(zDf (n:Int)).length≤9:=zBJ _;have K:=zh (rowB_lit (w.alloc (zEk t k (.slice M X H) (.slice N n2 I))) 3);have aa:=zh (zEV ((w.alloc (zEk t k (.slice M X H) (.slice N n2 I))).alloc (.cells #[.int .u8 3] 5)) (n:Int) (by omega));clear av aw T ac hh a hf h D;unfold zCf;dsimp only
 go_enter func113,ntmps113
 go_wp2_with fail;refine aa.o.mono ?_;rintro r w2 ⟨x,rfl,U,ax,ae⟩;have ar:(w.alloc (zEk t k (.slice M X H) (.slice N n2 I))).heap.size=w.heap.size+1:=by simp
 generalize w.alloc (zEk t k (.slice M X H) (.slice N n2 I))=W1 at *;have R:=zh (K.o.next ae);have an:=zh (zAi.has U);obtain⟨px,cx,rfl,-⟩:=zAL U;clear U ax ae;generalize ad:(zDf (n:Int)).length=A at *;have P:=zh ad;have am:=zW (([3]:Bs).length=1) rfl;have g:=zW (OwnR w2 5 1 (.slice (some ⟨W1.heap.size,0,none⟩) 1 1) 1 (zAR [3])) R.o.own;have F:=zh (show zAK w2 1 (.slice px A cx) A (zAR (zDf (n:Int))) by have:=an.o;unfold zAb at this;rwa[P.o]at this);clear ad;rw[ar]at g R;go_wp2_with (at_builtin;refine zAO _ rfl (.tmp 6) (.tmp 8) 22 rfl 5 i0 (.int .u8 0) 1 1 underlying22 hi ai aj ak rfl (by decide) (.slice (some ⟨w.heap.size+1,0,none⟩) 1 1) 1 _ rfl g.o (.slice px A cx) A _ rfl F.o (zAN _) (by unfold maxLen;omega) (by omega) ?_;intro v4 w4 d b f;go_loud (have O:=zh (zCe.grown (x:=zDf (n:Int)) R.o (by rw[am.o,P.o];exact d) b f);clear b f;obtain⟨p4,q4,rfl⟩:=OwnR.shape d;clear d;have s:=(O.o.bel.block _ (zAB Y.o)).trans Y.o;have d0:=zAU s;have d1:=zAY s;have d2:=zAX s;have d3:=zAf s;have ap:=zh (rentC_calls (Hh.o.below O.o.bel) aq.o);clear s g F))
 refine ap.o.mono ?_;rintro r w5 ⟨z,rfl,V,al,af⟩;have ao:=zh (zAi.has V);obtain⟨pz,cz,rfl,-⟩:=zAL V;have Z:=zh (O.o.next af);have j:=zh (show([3]++zDf (n:Int):Bs).length=1+A by rw[List.length_append,P.o];rfl);clear V al af d0 d1 d2 d3;generalize C:(entC0 ⟨t,k,J,L⟩).length=W at *;have Q:=zh C;have ay:W≤1048000:=by
  have h1:=congrArg List.length HT.o;rw[List.length_append,j.o,C]at h1;have h2:=E.o;have h3:=Hf.o;omega
 have au:1+A+W≤1048576:=by
  have h1:=congrArg List.length HT.o;rw[List.length_append,j.o,C]at h1;have h2:=E.o;have h3:=Hf.o;omega
 clear C;have q:=zW (OwnR w5 5 1 (.slice p4 (1+A) q4) (1+A) (zAR ([3]++zDf (n:Int)))) (by have:=Z.o.own;unfold zAi at this;rwa[j.o]at this);have G:=zW (zAK w5 1 (.slice pz W cz) W (zAR (entC0 ⟨t,k,J,L⟩))) (by have:=ao.o;unfold zAb at this;rwa[Q.o]at this);go_wp2_with (at_builtin;refine zAO _ rfl (.tmp 10) (.tmp 12) 22 rfl 5 i0 (.int .u8 0) 1 1 underlying22 hi ai aj ak rfl (by decide) (.slice p4 (1+A) q4) (1+A) _ rfl q.o (.slice pz W cz) W _ rfl G.o (zAN _) (by unfold maxLen;omega) (by omega) ?_;intro v7 w7 d b f;go_loud (have B:=zh (zCe.grown (x:=entC0 ⟨t,k,J,L⟩) Z.o (by rw[j.o,Q.o];exact d) b f);clear b f;obtain⟨p7,q7,rfl⟩:=OwnR.shape d;clear d;have ab:=zh (zBi (p:=p7) (m:=1+A+W) (c:=q7) (l:=zEp n ⟨t,k,J,L⟩) (by have:=B.o.own.has;rw[HT.o]at this;exact this) (by rw[←HT.o,List.length_append,j.o,Q.o];exact au));clear q G))
 refine ab.o.mono ?_;rintro r w8 ⟨y,rfl,hy,ah,ag⟩;have HF:=zW (zBX w (zAM (zEp n ⟨t,k,J,L⟩)) (.returned y) w8) (⟨y,rfl,hy,fun x hx=>Nat.le_trans S.o.size (Nat.le_trans B.o.bel.size (ah x hx)),S.o.trans ((B.o.bel.trans (ag.mono B.o.bel.size)).mono S.o.size)⟩);clear hy ah ag;go_wp2_with fail;go_ret;exact HF.o
section
variable {w1:World} {j r:Nat} {pre:ByteArray} {D:zAA} {M:zAJ} {Hot Cold:Nat→Prop}
theorem rj_same (h:RJF w1 j r pre D M Hot Cold){k:Nat}{b:zDu}(d:b=⟨D,M,k⟩){w2:World}(c:Below w1.heap.size w1 w2):zBu w1 j r pre Hot Cold b (.returned (.int .i64 (k:Int))) w2:=by
 subst d;exact⟨rfl,h.stepB c⟩
theorem rj_new {w2:World}(h:RJF w1 j r pre D M Hot Cold){y:Value}{l:Bs}{e:TypeId}(d:zAi w2 e y l)(hn:∀k,y.ownBlock=some k→w1.heap.size≤k):∀k,y.ownBlock=some k→¬Hot k∧k<w2.heap.size :=
 fun k b=>⟨fun c=>by have:=h.hlt c;have:=hn k b;omega,OwnR.lt d b⟩
theorem rjterm_calls (h:RJF w1 j r pre D M Hot Cold)(t v:Int)(ht:-9223372036854775808≤t∧t≤9223372036854775807)(hv:-9223372036854775808≤v∧v≤9223372036854775807) :
  Calls prog 45 #[.pointer (some ⟨j,0,none⟩),.int .i64 t,.int .i64 v] w1 (zBu w1 j r pre Hot Cold (zBI (nm pre) D M t v)):=by
 obtain⟨gv,dv,ev,m⟩:=h.cellsD;have c5:w1.cell? ⟨j,5,none⟩=some (.int .i64 M.now):=zAG m rfl;have c6:w1.cell? ⟨j,6,none⟩=some (.int .i64 M.vote):=zAG m rfl;have K:w1.cell? ⟨j,9,none⟩=some (.bool M.dead):=zAG m rfl;have Y:=h.okM;have s:=zh (fun k (hr:zBI (nm pre) D M t v=⟨D,M,k⟩)=>rj_same h hr (Below.refl _ _));have HR:=zW (zBI (nm pre) D M t v=if M.dead then⟨D,M,9⟩else if M.mayVote t v=false then⟨D,M,1⟩else if t=M.now∧v=M.vote then⟨D,M,0⟩else zB7 (nm pre) D M [zCU t v] {M with now:=t,vote:=v}) rfl;have H:=zh h;have c:=zh Y;have n:=zW (M.mayVote t v=(decide (M.now≤t∧t≤1099511627776∧-1≤v∧v<7)&& !decide (t=M.now∧M.vote≠-1∧v≠M.vote))) rfl;clear h Y m;generalize zBI (nm pre) D M t v=q at *;cases hd:M.dead with
 | true =>
  rw[hd]at K;have g:=zh (s.o 9 (by rw[HR.o,hd];rfl));clear c5 c6
  go_enter func45,ntmps45
  go_wp2_with fail;go_ret;exact g.o
 | false =>
  rw[hd]at K;have S:=zW (q=if M.mayVote t v=false then⟨D,M,1⟩else if t=M.now∧v=M.vote then⟨D,M,0⟩else zB7 (nm pre) D M [zCU t v] {M with now:=t,vote:=v}) (by rw[HR.o,hd];rfl);have z:=zh (fun hm:M.mayVote t v=false=>s.o 1 (by rw[S.o,if_pos hm]));generalize a:M.now=now at *;generalize B:M.vote=vote at *
  by_cases I:t<now
  ·have d1:decide (t<now)=true:=decide_eq_true I;have g:=zh (z.o (by rw[n.o,decide_eq_false (by omega)];rfl))
   go_enter func45,ntmps45
   go_wp2_with fail;go_ret;exact g.o
  ·have d1:decide (t<now)=false:=decide_eq_false I
   by_cases Q:1099511627776<t
   ·have d2:decide (1099511627776<t)=true:=decide_eq_true Q;have g:=zh (z.o (by rw[n.o,decide_eq_false (by omega)];rfl))
    go_enter func45,ntmps45
    go_wp2_with fail;go_ret;exact g.o
   ·have d2:decide (1099511627776<t)=false:=decide_eq_false Q
    by_cases h3:v < -1
    ·have d3:decide (v < -1)=true:=decide_eq_true h3;have g:=zh (z.o (by rw[n.o,decide_eq_false (by omega)];rfl))
     go_enter func45,ntmps45
     go_wp2_with fail;go_ret;exact g.o
    ·have d3:decide (v < -1)=false:=decide_eq_false h3
     by_cases h4:7≤v
     ·have d4:decide (7≤v)=true:=decide_eq_true h4;have g:=zh (z.o (by rw[n.o,decide_eq_false (by omega)];rfl))
      go_enter func45,ntmps45
      go_wp2_with fail;go_ret;exact g.o
     ·have d4:decide (7≤v)=false:=decide_eq_false h4;have f:decide (now≤t∧t≤1099511627776∧-1≤v∧v<7)=true:=decide_eq_true (by omega);rw[f,Bool.true_and]at n
      by_cases R:t=now∧vote≠-1∧v≠vote
      ·have g:=zh (z.o (by rw[n.o,decide_eq_true R];rfl));obtain⟨rfl,V,W⟩:=R;have d5:(vote != -1)=true:=by simpa using V
       have d6:(v != vote)=true:=by simpa using W
       clear V W I f
       go_enter func45,ntmps45
       go_wp2_with fail;go_ret;exact g.o
      ·have T:=zW (q=if t=now∧v=vote then⟨D,M,0⟩else zB7 (nm pre) D M [zCU t v] {M with now:=t,vote:=v}) (by rw[S.o,if_neg (by rw[n.o,decide_eq_false R];simp)])
       by_cases X:t=now∧v=vote
       ·have g:=zh (s.o 0 (by rw[T.o,if_pos X]));obtain⟨rfl,rfl⟩:=X;have d6:(v != v)=false:=by simp
        clear R I f
        by_cases O:v=-1
        ·have d7:(v != -1)=false:=by simp[O]
         clear O
         go_enter func45,ntmps45
         go_wp2_with fail;go_ret;exact g.o
        ·have d7:(v != -1)=true:=by simpa using O
         clear O
         go_enter func45,ntmps45
         go_wp2_with fail;go_ret;exact g.o
       ·have E:=zW (q=zB7 (nm pre) D M [zCU t v] {M with now:=t,vote:=v}) (by rw[T.o,if_neg X]);have U:=zh (rterms_calls w1 t v ht (by omega));have G:=zh a
        by_cases O:t=now
        focus
         subst O;obtain rfl:vote=-1:=by omega
         have d5:((-1:Int) != -1)=false:=by decide
         have d7:(v== -1)=false:=by simp;omega
        rotate_left
        focus have d5:(t==now)=false:=by simpa using O
        all_goals
         clear R X f a B;go_enter func45,ntmps45;go_wp2_with fail;refine U.o.mono ?_;rintro e w2 ⟨y,rfl,F,C,p⟩;obtain⟨py,cy,rfl,-⟩:=zAL F;have l:=zh (zEU (H.o.below p) F.has (by rw[zAl];have:=zEf t v;omega) (rj_new H.o F C));have J:=zh p;clear F C p c5 c6 K;generalize (zAM (zCU t v)).length=ly at *;rw[←zCA]at l;have L:=zW (zB7 (nm pre) D M [zCU t v] {M with now:=t,vote:=v}=if(layOn D (zAu (nm pre)) (zAS [zCU t v])).2≠0 then⟨(layOn D (zAu (nm pre)) (zAS [zCU t v])).1,M.die,(layOn D (zAu (nm pre)) (zAS [zCU t v])).2⟩else⟨(layOn D (zAu (nm pre)) (zAS [zCU t v])).1,{M with now:=t,vote:=v},0⟩) rfl;generalize layOn D (zAu (nm pre)) (zAS [zCU t v])=Z at *;obtain⟨D2,N⟩:=Z;dsimp only at l L;go_wp2_with fail;refine l.o.mono ?_;rintro e w3 ⟨rfl,A⟩;have d:=zh (A.since J.o);clear A l;by_cases P:N=0
         ·subst P;rw[zBh]at d;obtain⟨ac,aa,ab,b⟩:∃gv dv ev,w3.heap[j]?=some (RJC r (M.number:Int) M.term gv pre M.now M.vote dv ev M.dead):=by
           obtain⟨_,_,hF,-⟩:=d.o;exact hF.cellsD
          have f3:=fun i=>zAE b i;have q5:w3.cell? ⟨j,5,none⟩=some (.int .i64 M.now):=zAG b rfl;have q6:w3.cell? ⟨j,6,none⟩=some (.int .i64 M.vote):=zAG b rfl;have g:=zW (zBu w1 j r pre Hot Cold q (.returned (.int .i64 0)) ((w3.setCell ⟨j,5,none⟩ (.int .i64 t)).setCell ⟨j,6,none⟩ (.int .i64 v))) (by
           rw[E.o,L.o,if_neg (by simp)];refine⟨rfl,zAq.trans d.o fun _ _ hF=>hF.set ((Chg.setCell w3 ⟨j,5,none⟩ _).trans (Chg.setCell _ ⟨j,6,none⟩ _) fun _ _ e=>e) (fun gv dv ev hc=>?_) rfl rfl rfl ⟨c.o.last,c.o.term,c.o.group,zAs.2 ⟨?_,?_⟩,⟨?_,?_⟩,c.o.data,c.o.ents⟩⟩
           ·have I:=zAC hc 5 (.int .i64 t);have Q:=zAC I 6 (.int .i64 v);simpa using Q
           ·have h8:=(zAs.1 c.o.now).1;have h9:M.now≤t:=by
             have:=G.o;omega
            show 0≤t
            omega
           ·show t≤1099511627776
            omega
           ·show -1≤v
            omega
           ·show v<7
            omega)
          clear b;go_wp2_with fail;go_ret;exact g.o
         ·have ad:((N:Int)==0)=false:=by simp;omega
          have g:=zW (zBu w1 j r pre Hot Cold q (.returned (.int .i64 (N:Int))) w3) (by
           rw[E.o,L.o,if_pos P];rw[zBw M P]at d;exact⟨rfl,d.o⟩)
          go_wp2_with fail;go_ret;exact g.o
end
theorem copy_newE {w w':World}{e:TypeId}{v:Value}{m:Nat}{xs:List Value}(b:OwnR w' e 4 v (0+m) ([]++xs))(f:(w.alloc (.cells #[] e)).grownBy w' (some w.heap.size))(i:v.ownBlock=some w.heap.size∨∃g,v.ownBlock=some g∧(w.alloc (.cells #[] e)).heap.size≤g) :
  OwnR w' e 4 v m xs∧(∀k,v.ownBlock=some k→w.heap.size≤k)∧Below w.heap.size w w':=by
 rw[Nat.zero_add,List.nil_append]at b;refine⟨b,fun k c=>?_,(zAD w _).trans ((Chg.of_grown f).below (by simp) fun k c e=>?_)⟩
 ·rcases i with h|⟨g,h,d⟩
  ·rw[h]at c;cases c;exact Nat.le_refl _
  ·rw[h]at c;cases c;simp at d;omega
 ·have:=Option.some.inj e;omega
section
variable {w w1 w2:World} {j r:Nat} {pre:ByteArray} {D:zAA} {M:zAJ} {Hot Cold O C C':Nat→Prop} {gv dv ev v':Value} {vs vs':List EV} {es':List Ent}
theorem zFq.one (h:zFq w j r pre O C M gv dv ev vs):∀v∈vs,v.1.oneCell'=true∧v.2.oneCell'=true:=fun v k=>by
 obtain⟨i,d,rfl⟩:=List.getElem_of_mem k;have b:i<M.entries.length:=by rw[←h.rlen];exact d
 have c:=h.rows i _ _ (List.getElem?_eq_getElem b) (List.getElem?_eq_getElem d);obtain⟨_,_,f⟩:=c.data.slice;obtain⟨_,_,g⟩:=c.nodes.slice;rw[f,g];exact⟨rfl,rfl⟩
theorem zFq.list (h:zFq w j r pre O C M gv dv ev vs)(z:Chg (fun k=>ev.ownBlock=some k) w w2)(g:OwnR w2 50 4 v' es'.length (zA3 es' vs'))(s:∀k,v'.ownBlock=some k→(ev.ownBlock=some k∨w.heap.size≤k))(A:vs'.length=es'.length)
  (m:∀(i:Nat) e v,es'[i]?=some e→vs'[i]?=some v→zBH w2 e v) (p:∀u∈vs',∀k,(u.1.ownBlock=some k∨u.2.ownBlock=some k)→C' k) (y:∀k,C k→C' k) (d:∀k,C' k→(C k∨w.heap.size≤k)∧k<w2.heap.size∧v'.ownBlock≠some k) (ok:({M with entries:=es'}:zAJ).OK) :
  zFq (w2.setCell ⟨j,8,none⟩ v') j r pre (fun k=>O k∨v'.ownBlock=some k) C' {M with entries:=es'} gv dv v' vs':=by
 have q:=h.olt j h.oj;have f:ev.ownBlock≠some j:=fun e=>(h.oe j e).2 rfl;have t:v'.ownBlock≠some j:=fun e=>(s j e).elim f (by omega);have a:w2.heap[j]?=w.heap[j]?:=z.block j q f;have o:∀k,C k→¬(ev.ownBlock=some k):=fun k b e=>h.dis k b (h.oe k e).1;have c:∀k,C' k→k≠j:=fun k b e=>by
  rcases(d k b).1 with l|l
  ·exact h.dis k l (e▸h.oj)
  ·omega
 have hS:∀k,k≠j→(w2.setCell ⟨j,8,none⟩ v').heap[k]?=w2.heap[k]?:=fun k b=>set_other _ b;have D:(w2.setCell ⟨j,8,none⟩ v').heap.size=w2.heap.size:=by simp[World.setCell]
 exact {
  cells:=by
   have l:=zAC (a.trans h.cells) 8 v';simpa using l
  group:=zAK.keep (zAK.chg h.group z fun k b=>o k (h.cg k b)) fun k b=>hS k (c k (y k (h.cg k b)))
  data:=zAK.keep (zAK.chg h.data z fun k b=>o k (h.cd k b)) fun k b=>hS k (c k (y k (h.cd k b)))
  row:=OwnR.keep g fun k b=>hS k fun e=>t (e▸b)
  rlen:=A
  rows:=fun i e v E B=>(m i e v E B).keep fun k b=>hS k (c k (p v (List.mem_of_getElem? B) k b))
  oj:=.inl h.oj
  oe:=fun k b=>⟨.inr b,fun e=>t (e▸b)⟩
  cg:=fun k b=>y k (h.cg k b)
  cd:=fun k b=>y k (h.cd k b)
  cv:=p
  dis:=fun k b n=>by
   rcases n with n|n
   ·rcases(d k b).1 with l|l
    ·exact h.dis k l n
    ·have:=h.olt k n;omega
   ·exact(d k b).2.2 n
  olt:=fun k b=>by
   rw[D];rcases b with b|b
   ·exact Nat.lt_of_lt_of_le (h.olt k b) z.size
   ·exact OwnR.lt g b
  clt:=fun k b=>by
   rw[D];exact(d k b).2.1
  psz:=h.psz
  ok:=ok}
theorem rj_list {own:Nat→Prop}{y:Value}{L:List zAQ}(h:zFq w j r pre O C M gv dv ev vs)(o:zAd w r y L own D)(n:∀k,O k→¬own k)(p:∀k,C k→¬own k)(m:∀k,Hot k↔O k∨own k)(t:Chg (fun k=>ev.ownBlock=some k) w w2)(l:OwnR w2 50 4 v' es'.length (zA3 es' vs'))(d:∀k,v'.ownBlock=some k→(ev.ownBlock=some k∨w.heap.size≤k))(s:vs'.length=es'.length)
  (g:∀(i:Nat) e v,es'[i]?=some e→vs'[i]?=some v→zBH w2 e v) (q:∀u∈vs',∀k,(u.1.ownBlock=some k∨u.2.ownBlock=some k)→C' k) (z:∀k,C k→C' k) (f:∀k,C' k→(C k∨w.heap.size≤k)∧k<w2.heap.size∧v'.ownBlock≠some k) (A:({M with entries:=es'}:zAJ).OK) :
  zAq w j r pre Hot C (w2.setCell ⟨j,8,none⟩ v') D {M with entries:=es'}:=by
 have a:=h.list t l d s g q z f A;have hS:Chg (fun k=>k=j∨ev.ownBlock=some k) w (w2.setCell ⟨j,8,none⟩ v'):=(t.mono fun _ _ e=>.inr e).trans (Chg.setCell w2 ⟨j,8,none⟩ v') fun _ _ e=>.inl e;refine⟨fun k=>(O k∨v'.ownBlock=some k)∨own k,C',⟨_,own,gv,dv,v',vs',y,L,a,o.keep hS.size (fun k b=>hS.block k (o.olt k b) fun e=>?_),fun k b c=>?_,fun k b c=>?_,fun k=>Iff.rfl⟩,hS.mono fun k _ b=>(m k).2 (.inl ?_),fun k b=>?_,fun k b=>(f k b).1⟩
 ·rcases e with e|e
  ·exact n j h.oj (e▸b)
  ·exact n k (h.oe k e).1 b
 ·rcases b with b|b
  ·exact n k b c
  ·rcases d k b with e|e
   ·exact n k (h.oe k e).1 c
   ·have:=o.olt k c;omega
 ·rcases(f k b).1 with e|e
  ·exact p k e c
  ·have:=o.olt k c;omega
 ·rcases b with e|e
  ·exact e▸h.oj
  ·exact(h.oe k e).1
 ·rcases b with(b|b)|b
  ·exact .inl ((m k).2 (.inl b))
  ·rcases d k b with e|e
   ·exact .inl ((m k).2 (.inl (h.oe k e).1))
   ·exact .inr e
  ·exact .inl ((m k).2 (.inr b))
theorem rjcut_calls (h:RJF w1 j r pre D M Hot Cold)(i:Int)(hi:-9223372036854775808≤i∧i≤9223372036854775807) :
  Calls prog 46 #[.pointer (some ⟨j,0,none⟩),.int .i64 i] w1 (zBu w1 j r pre Hot Cold (zBp (nm pre) D M i)):=by
 obtain⟨i0,bd,aP,bi,bj⟩:=info_parts (show(prog.info? 5).map (fun i=>(i.zero,i.size,i.bytes))=some (some (.int .u8 0),1,1) by kernel_rfl);obtain⟨i4,aI,aQ,aR,aS⟩:=info_parts (show(prog.info? 50).map (fun i=>(i.zero,i.size,i.bytes))=some (some (.agg #[.int .i64 0,.int .i64 0,.slice none 0 0,.slice none 0 0]),4,64) by kernel_rfl);obtain⟨gv,dv,ev,E⟩:=h.cellsD;have c0:w1.cell? ⟨j,0,none⟩=some (.int .i64 (M.number:Int)):=zAG E rfl;have c9:w1.cell? ⟨j,9,none⟩=some (.bool M.dead):=zAG E rfl;have J:=zh (fun k w2 (hb:Below w1.heap.size w1 w2) (hr:zBp (nm pre) D M i=⟨D,M,k⟩)=>rj_same h hr hb);have HR:=zW (zBp (nm pre) D M i=if M.dead then⟨D,M,9⟩else if i≤(M.number:Int)then⟨D,M,1⟩else if(M.last:Int)<i then⟨D,M,0⟩else zB7 (nm pre) D M [cutB i.toNat] {M with entries:=M.entries.take (i.toNat-M.number-1) }) rfl;have ay:=zh (zDm h);have H:=zh h;have A:=zh h.okM;clear h E;generalize zBp (nm pre) D M i=ac at *;cases hd:M.dead with
 | true =>
  rw[hd]at c9;have R:=zh (J.o 9 _ (Below.refl _ _) (by rw[HR.o,hd];rfl));clear c0
  go_enter func46,ntmps46
  go_wp2_with fail;go_ret;exact R.o
 | false =>
  rw[hd]at c9;have al:=zW (ac=if i≤(M.number:Int)then⟨D,M,1⟩else if(M.last:Int)<i then⟨D,M,0⟩else zB7 (nm pre) D M [cutB i.toNat] {M with entries:=M.entries.take (i.toNat-M.number-1) }) (by rw[HR.o,hd];rfl)
  by_cases V:i≤(M.number:Int)
  ·have d1:decide (i≤(M.number:Int))=true:=decide_eq_true V;have R:=zh (J.o 1 _ (Below.refl _ _) (by rw[al.o,if_pos V]))
   go_enter func46,ntmps46
   go_wp2_with fail;go_ret;exact R.o
  ·have d1:decide (i≤(M.number:Int))=false:=decide_eq_false V
   by_cases h2:(M.last:Int)<i
   ·have d2:decide ((M.last:Int)<i)=true:=decide_eq_true h2;have R:=zh (fun q=>J.o 0 (w1.drewN q) ⟨rfl,rfl,rfl,Nat.le_refl _,fun _ _=>rfl⟩ (by rw[al.o,if_neg V,if_pos h2]))
    go_enter func46,ntmps46
    go_wp2_with fail;refine ay.o.mono ?_;rintro e w2 ⟨rfl,q,rfl⟩;go_wp2_with fail;go_ret;exact R.o q
   ·have d2:decide ((M.last:Int)<i)=false:=decide_eq_false h2;have am:=zW (ac=zB7 (nm pre) D M [cutB i.toNat] {M with entries:=M.entries.take (i.toNat-M.number-1) }) (by rw[al.o,if_neg V,if_neg h2]);obtain⟨z,rfl⟩:∃z:Nat,i=(z:Int):=⟨i.toNat,by omega⟩;rw[Int.toNat_natCast]at am;have be:=A.o.last;have bk:z≤1099511627776:=by omega
    have HT:=zW ([4]++zDf (z:Int)=cutB z) (by rw[zB1 (by omega)];rfl);have ag:=cutB_len z (by omega);have ae:=zh ag;clear ag
    go_enter func46,ntmps46
    go_wp2_with fail;refine ay.o.mono ?_;rintro e w2 ⟨rfl,q,rfl⟩;have az:=zh (rowB_lit (w1.drewN q) 4);have aB:=zh (zEV ((w1.drewN q).alloc (.cells #[.int .u8 4] 5)) (z:Int) (by omega));have bv:(zDf (z:Int)).length≤9:=zBJ _;go_wp2_with fail;refine aB.o.mono ?_;rintro r w3 ⟨x,rfl,ar,bh,aF⟩;have aw:=zh (az.o.next aF);have aV:=zh (zAi.has ar);obtain⟨px,cx,rfl,-⟩:=zAL ar;clear ar bh aF;generalize aE:(zDf (z:Int)).length=m2 at *;have av:=zh aE;have aU:=zW (([4]:Bs).length=1) rfl;have L:=zW (OwnR w3 5 1 (.slice (some ⟨w1.heap.size,0,none⟩) 1 1) 1 (zAR [4])) aw.o.own;have af:=zh (show zAK w3 1 (.slice px m2 cx) m2 (zAR (zDf (z:Int))) by have:=aV.o;unfold zAb at this;rwa[av.o]at this);clear aE;go_wp2_with (at_builtin;refine zAO _ rfl (.tmp 28) (.tmp 30) 22 rfl 5 i0 (.int .u8 0) 1 1 underlying22 bd aP bi bj rfl (by decide) (.slice (some ⟨w1.heap.size,0,none⟩) 1 1) 1 _ rfl L.o (.slice px m2 cx) m2 _ rfl af.o (zAN _) (by unfold maxLen;omega) (by omega) ?_;intro v4 w4 t f C;go_loud (have S:=zh (zCe.grown (x:=zDf (z:Int)) aw.o (by rw[aU.o,av.o];exact t) f C);clear f C;obtain⟨p4,q4,rfl⟩:=OwnR.shape t;clear t;have aD:=zh (zBi (p:=p4) (m:=1+m2) (c:=q4) (l:=cutB z) (by have:=S.o.own.has;rw[HT.o]at this;exact this) (by have:=ae.o;omega));clear L af))
    refine aD.o.mono ?_;rintro r w5 ⟨y,rfl,G,aO,aG⟩;have au:=zW (Below w1.heap.size w1 w5) (((⟨rfl,rfl,rfl,Nat.le_refl _,fun _ _=>rfl⟩:Below w1.heap.size w1 (w1.drewN q)).trans S.o.bel).trans (aG.mono (show w1.heap.size≤w4.heap.size from S.o.bel.size)));obtain⟨py,cy,rfl,-⟩:=zAL G;have ah:∀k,(Value.slice py (zAM (cutB z)).length cy).ownBlock=some k→w1.heap.size≤k:=fun k hk=>Nat.le_trans (show w1.heap.size≤w4.heap.size from S.o.bel.size) (aO k hk);have ao:=zh (zEU (H.o.below au.o) G.has (by rw[zAl];have:=ae.o;omega) (rj_new H.o G ah));clear G aO ah aG;generalize (zAM (cutB z)).length=ly at *;rw[←zCA]at ao;have HL:=zW (zB7 (nm pre) D M [cutB z] {M with entries:=M.entries.take (z-M.number-1) }=if(layOn D (zAu (nm pre)) (zAS [cutB z])).2≠0 then⟨(layOn D (zAu (nm pre)) (zAS [cutB z])).1,M.die,(layOn D (zAu (nm pre)) (zAS [cutB z])).2⟩else⟨(layOn D (zAu (nm pre)) (zAS [cutB z])).1,{M with entries:=M.entries.take (z-M.number-1) },0⟩) rfl;generalize layOn D (zAu (nm pre)) (zAS [cutB z])=Z at *;obtain⟨D2,e2⟩:=Z;dsimp only at ao HL;clear c0 c9;go_wp2_with fail;refine ao.o.mono ?_;rintro e a ⟨rfl,aN⟩;have T:=zh (aN.since au.o);clear aN
    by_cases Q:e2=0
    ·subst Q;rw[zBh]at T;obtain⟨bl,ai,hF,aa,ab,F⟩:=T.o;obtain⟨O,own,bs,bq,br,ad,bD,L1,B,Y,hO,X,hH⟩:=hF;have s0:a.cell? ⟨j,0,none⟩=some (.int .i64 (M.number:Int)):=B.c 0 rfl;have s8:=B.c 8 rfl;have bc:=B.fr 8;obtain⟨p8,P,s⟩:=B.row.shape;have bn:M.entries.length≤P:=by
      rcases B.row.2 with⟨h8,h0⟩|⟨g,bp,cur,h8,-,bg,-⟩
      ·omega
      ·rw[s]at h8;cases h8;exact bg
     have t8:a.cell? ⟨j,8,none⟩=some (.slice p8 M.entries.length P):=by rw[←s];exact s8
     clear s8;have HX:=zh (And.intro B (And.intro Y (And.intro hO (And.intro X (And.intro hH (And.intro aa (And.intro ab (And.intro F s))))))));have bf:M.last=M.number+M.entries.length:=rfl;obtain⟨k,hk⟩:∃k,k=z-M.number-1:=⟨_,rfl⟩;have aJ:k≤M.entries.length:=by omega
     have aC:=zh (zEs (M.entries.take k) (ad.take k) fun v hv=>B.one v (List.mem_of_mem_take hv));have N:=B.row;rw[s]at N;have U:=zW (zAK a 4 (.slice p8 k P) k (zA3 (M.entries.take k) (ad.take k))) (by
      rw[zFH k _ _ B.rlen];exact zAK.upto (OwnR.holds N) aJ P)
     have aM:M.number+1≤z:=by omega
     have aT:z=M.number+1+k:=by omega
     have Hz:=zh aT;have ba:=zh hk;have bo:=zh aJ;clear B Y hO X hH aa ab F s N hk V h2 d1 d2 bf;generalize aL:M.entries.length=n8 at *;generalize aH:M.number=b at *;have aX:=zh aH;have aA:=zh aL;have bA:IntKind.i64.wrap ((z:Int)-(b:Int))=(k:Int)+1:=by rw[IntWalk.i64_in _ (by omega)];omega
     have bB:IntKind.i64.wrap (k:Int)=(k:Int):=IntWalk.i64_in _ (by omega);have bu:k≤P:=by omega
     have bm:k≤1099511627776:=by omega
     clear aT aM aH aL;go_wp2_with fail;have an:=zW (∀W,Below a.drew.heap.size a.drew W→zAK W 4 (.slice p8 k P) k (zA3 (M.entries.take k) (ad.take k))) fun W aq=>zAK.chg U.o (Chg.of_below ((⟨rfl,rfl,rfl,Nat.le_refl _,fun _ _=>rfl⟩:Below a.heap.size a a.drew).trans aq)) fun _ _=>id;have aY:=zW (∀W,Below a.drew.heap.size a.drew W→W.frozen? ⟨j,8,none⟩=false) fun W aq=>zAE ((aq.block j (zAB HX.o.1.cells)).trans HX.o.1.cells) 8;have ak:=zh (⟨rfl,rfl,rfl,Nat.le_refl _,fun _ _=>rfl⟩:Below a.heap.size a a.drew);clear bc;have Ht:=zh (show(M.entries.take k).length=k by rw[List.length_take,aA.o];omega);refine zDV [18] (fun w':World=>w'.cell? ⟨j,8,none⟩=some (.slice p8 n8 P)∧w'.cell? ⟨j,0,none⟩=some (.int .i64 (b:Int))) (n:=19) (by kernel_rfl) rfl (⟨t8,s0⟩) fun d=>?_;generalize a.drew=W1 at *;refine Gl [0,2,3,4,5,6,7,8,9,10,11,12,13] ?_
     iterate 13 (refine Gc rfl ?_;simp only[uZ])
     refine Gn ?_;refine zEw 14 (v:=.slice p8 k P) rfl (by kernel_rfl) (by kernel_rfl) (by kernel_rfl) (by kernel_rfl) (fun _ _ _ h=>h) (by rfl) (by assumption) (fun W bt=>by have bw:=zB3 W underlying78 aI p8 n8 P k (by omega);go_simp;try with_reducible rfl) ?_;simp only[uZ];refine zEM 1 rfl (by kernel_rfl) (by rfl) (fun K hK=>?_);have aj:=zh (zAD W1 (.cells #[] 50));have aZ:=zh (And.intro (zAH d.1 aj.o) (zAH d.2 aj.o));have I:=zh d;go_wp2_with fail;refine hK.o _ _ (aZ.o) fun d=>?_;clear hK
     try simp only[uZ]
     refine zEM 15 rfl (by kernel_rfl) (by rfl) (fun K hK=>?_);have aW:=zh (zBK W1 50 4);have bb:=zh (an.o _ aj.o);refine zAm (.tmp 37) (.tmp 50) 78 rfl 50 i4 (.agg #[.int .i64 0,.int .i64 0,.slice none 0 0,.slice none 0 0]) 4 64 underlying78 aI aQ aR aS rfl (by decide) (.slice (some ⟨W1.heap.size,0,none⟩) 0 0) 0 [] rfl aW.o (.slice p8 k P) k _ rfl bb.o aC.o (by unfold maxLen;omega) (by omega) ?_;intro v7 w7 t f C;have HN:=zh (copy_newE t f C);have ax:=zh (And.intro (zAH I.o.1 HN.o.2.2) (zAH I.o.2 HN.o.2.2));clear t f C;obtain⟨p6,c6,rfl⟩:=OwnR.shape HN.o.1;go_wp2_with fail;refine hK.o _ _ (ax.o) fun d=>?_;clear hK
     try simp only[uZ]
     refine Gl [16,17] ?_
     iterate 2 (refine Gp rfl ?_;simp only[uZ])
     refine Gn ?_;refine g_end 18 rfl (by kernel_rfl) (by rfl) (by kernel_rfl) (fun K hK=>?_);have bC:=ax.o.1;have f8:=aY.o _ HN.o.2.2;go_wp2_with fail;refine hK.o _ _ ?_;clear hK
     try simp only[uZ]
     refine zEv (by kernel_rfl) ?_ _;have R:=zW (zBu w1 j r pre Hot Cold ac (.returned (.int .i64 0)) (w7.setCell ⟨j,8,none⟩ (.slice p6 k c6))) (by
      rw[am.o,HL.o,if_neg (by simp)];obtain⟨B,Y,hO,X,hH,aa,ab,F,s⟩:=HX.o;rw[←ba.o,←aX.o];have ap:Below a.heap.size a w7:=ak.o.trans (HN.o.2.2.mono ak.o.size);have aK:∀y,(Value.slice p6 k c6).ownBlock=some y→a.heap.size≤y:=fun y G=>Nat.le_trans ak.o.size (HN.o.2.1 y G);refine⟨rfl,zAq.comp aa ab F (rj_list (C':=ai) (vs':=ad.take k) B Y hO X hH ((Chg.of_below ap).mono fun _ _ h=>h.elim) (by rw[Ht.o];exact HN.o.1) (fun y G=>.inr (aK y G)) (by rw[List.length_take,List.length_take,B.rlen]) (fun i e v Q hv=>?_) (fun u hu y G=>B.cv u (List.mem_of_mem_take hu) y G) (fun _ h=>h) (fun y G=>⟨.inl G,Nat.lt_of_lt_of_le (B.clt y G) ap.size,fun e=>by have V:=aK y e;have h2:=B.clt y G;omega⟩) ⟨?_,A.o.term,A.o.group,A.o.now,A.o.vote,A.o.data,fun e Q=>A.o.ents e (List.mem_of_mem_take Q)⟩)⟩
      ·rw[List.getElem?_take]at Q hv
       split at Q
       ·rw[if_pos (by assumption)]at hv;exact(B.rows i e v Q hv).below ap
       ·cases Q
      ·have V:=A.o.last;unfold zAJ.last at V ⊢
       show M.number+(M.entries.take k).length≤_
       rw[Ht.o];have h2:=aA.o;omega)
     go_wp2_with fail;go_ret;exact R.o
    ·have aP:((e2:Int)==0)=false:=by simp;omega
     have R:=zW (zBu w1 j r pre Hot Cold ac (.returned (.int .i64 (e2:Int))) a) (by
      rw[am.o,HL.o,if_pos Q];rw[zBw M Q]at T;exact⟨rfl,T.o⟩)
     go_wp2_with fail;go_ret;exact R.o
end
end Go.Proofs.YtapfnehdgailmaaGreat
