/- What the program's functions and the document's do, and plain laws, for PJournalPlays. -/
import Derived.Test.YtapfnehdgailmaaGreatJB
import Derived.Test.YtapfnehdgailmaaGreatJG
open Go.Proofs.Tryz
set_option maxRecDepth 100000
set_option maxHeartbeats 64000000
namespace Go.Proofs.YtapfnehdgailmaaGreat
open Go.RowKit Go.Sat Go.Maps
section
variable {w w1:World} {j d:Nat} {pre:ByteArray} {D:zAA} {M:zAJ} {F:Nat→Prop}
theorem zD2 (h:zAk w w1 j d pre D M F):Calls prog 98 #[.pointer (some ⟨j,0,none⟩)] w1 fun e w'=>e=.returned (.int .i64 (if M.dead then 9 else 0))∧w'=w1:=by
 obtain⟨own,l,dv,k,vs,f,hS,hn,i⟩:=h;have b:=f.c 9 rfl;clear f hS hn i;cases g:M.dead with
 | true =>
  rw[g]at b
  go_enter func98,ntmps98
  go_wp2_with fail;go_ret;exact⟨rfl,rfl⟩
 | false =>
  rw[g]at b
  go_enter func98,ntmps98
  go_wp2_with fail;go_ret;exact⟨rfl,rfl⟩
theorem jterm_calls (h:zAk w w1 j d pre D M F):Calls prog 29 #[.pointer (some ⟨j,0,none⟩)] w1 fun e w'=>e=.returned (.tuple #[.int .i64 M.now,.int .i64 M.vote])∧∃q,w'=w1.drewN q:=by
 obtain⟨own,l,dv,k,vs,b,hS,hn,f⟩:=h;have g:=b.c 5 rfl;have i:=b.c 6 rfl;clear b hS hn f
 go_enter func29,ntmps29
 go_wp2_with fail
 go_quiet (fail)
 go_wp2_with fail
 go_ret2
 exact⟨rfl,_,rfl⟩
theorem zFh (h:zAk w w1 j d pre D M F):Calls prog 31 #[.pointer (some ⟨j,0,none⟩)] w1 fun e w'=>e=.returned (.tuple #[.int .i64 (M.number:Int),.int .i64 M.term])∧∃q,w'=w1.drewN q:=by
 obtain⟨own,l,dv,k,vs,b,hS,hn,f⟩:=h;have g:=b.c 0 rfl;have i:=b.c 1 rfl;clear b hS hn f
 go_enter func31,ntmps31
 go_wp2_with fail
 go_quiet (fail)
 go_wp2_with fail
 go_ret2
 exact⟨rfl,_,rfl⟩
theorem zCl (h:zAk w w1 j d pre D M F):Calls prog 25 #[.pointer (some ⟨j,0,none⟩)] w1 fun e w'=>e=.returned (.tuple #[.int .i64 (M.last:Int),.int .i64 M.lastT])∧∃q,w'=w1.drewN q:=by
 have B:=zh (zFh h);have f:=h.okM.last;obtain⟨own,Q,dv,P,vs,m,hS,hn,A⟩:=h;have O:=m.c 0 rfl;have y:=m.c 8 rfl;obtain⟨p,c,l⟩:=m.row.shape;have t:=zW (M.last=M.number+M.entries.length) rfl
 by_cases r:M.entries.length=0
 ·have a:M.entries=[]:=List.eq_nil_of_length_eq_zero r;have s:=zW ((M.last:Int)=(M.number:Int)∧M.lastT=M.term) (⟨by rw[t.o,r];rfl,by unfold zAJ.lastT;rw[a];rfl⟩);rw[l,r]at y;clear m hS hn A l a r f
  go_enter func25,ntmps25
  go_wp2_with fail;refine B.o.mono ?_;rintro e w' ⟨rfl,q,rfl⟩;go_wp2_with fail
  go_ret2
  exact⟨by rw[s.o.1,s.o.2];rfl,q,rfl⟩
 ·have i:M.entries.length-1<M.entries.length:=by omega
  obtain⟨g,N,v,k,G,-,J,-,-,-⟩:=m.ent (List.getElem?_eq_getElem i);have z:M.lastT=M.entries[M.entries.length-1].term:=by
   unfold zAJ.lastT;rw[List.getLast?_eq_getElem?,List.getElem?_eq_getElem i]
  rw[←z]at J;rw[k]at y;unfold zAJ.last at f;clear m hS hn A l k G i z;generalize M.entries.length=n at *;generalize M.number=b at *;generalize M.last=L at *;generalize M.lastT=R at *;have E:(0:Int)<(n:Int):=by omega
  have H:IntKind.i64.wrap ((b:Int)+(n:Int))=(L:Int):=by rw[IntWalk.i64_in _ (by omega),t.o];omega
  have I:IntKind.i64.wrap ((n:Int)-1)=((n-1:Nat):Int):=by rw[IntWalk.i64_in _ (by omega)];omega
  have C:n-1<n:=by omega
  go_enter func25,ntmps25
  go_wp2_with fail
  go_quiet (fail)
  go_wp2_with fail
  go_ret2
  exact⟨rfl,_,rfl⟩
theorem zD1 (h:zAk w w1 j d pre D M F)(i:Int)(A:-9223372036854775808≤i∧i≤9223372036854775807) :
  Calls prog 103 #[.pointer (some ⟨j,0,none⟩),.int .i64 i] w1 fun e w'=>e=.returned (.bool (decide ((M.number:Int)<i∧i≤(M.last:Int))))∧∃q,w'=w1.drewN q:=by
 have f:=h.okM.last;obtain⟨own,a,dv,z,vs,g,hS,hn,t⟩:=h;have v:=g.c 0 rfl;have y:=g.c 8 rfl;obtain⟨p,c,rfl⟩:=g.row.shape;have l:M.last=M.number+M.entries.length:=rfl;clear g hS hn t;generalize M.entries.length=n at *;generalize M.number=b at *;generalize M.last=r at *
 by_cases m:(b:Int)<i
 focus have B:IntKind.i64.wrap (i-(b:Int))=i-(b:Int):=IntWalk.i64_in _ (by omega);have k:=zW (decide ((b:Int)<i∧i≤(r:Int))=decide (i-(b:Int)≤(n:Int))) (by rw[Bool.eq_iff_iff];simp only[decide_eq_true_eq];omega);have s:decide ((b:Int)<i)=true:=by simpa using m
 rotate_left
 focus
  have s:decide ((b:Int)<i)=false:=by simpa using m
  have k:=zW (decide ((b:Int)<i∧i≤(r:Int))=false) (by rw[decide_eq_false_iff_not];omega)
 all_goals
  clear l f;go_enter func103,ntmps103;go_wp2_with fail;go_quiet (fail);go_wp2_with fail;go_ret;exact⟨by rw[k.o];rfl,_,rfl⟩
theorem jmv_calls (h:zAk w w1 j d pre D M F)(t v:Int):Calls prog 108 #[.pointer (some ⟨j,0,none⟩),.int .i64 t,.int .i64 v] w1 fun e w'=>e=.returned (.bool (M.mayVote t v))∧w'=w1:=by
 obtain⟨own,N,dv,L,vs,m,hS,hn,B⟩:=h;have C:=m.c 5 rfl;have E:=m.c 6 rfl;have i:=zW (M.mayVote t v=(decide (M.now≤t∧t≤1099511627776∧-1≤v∧v<7)&& !decide (t=M.now∧M.vote≠-1∧v≠M.vote))) rfl;clear m hS hn B;generalize M.mayVote t v=r at *;generalize M.now=a at *;generalize M.vote=b at *
 by_cases s:t<a
 ·have f:=zW (r=false) (by rw[i.o];simp;omega)
  go_enter func108,ntmps108
  go_wp2_with fail;go_ret;exact⟨by rw[f.o];rfl,rfl⟩
 ·have G:decide (t<a)=false:=by simpa using s
  by_cases y:1099511627776<t
  ·have f:=zW (r=false) (by rw[i.o];simp;omega)
   go_enter func108,ntmps108
   go_wp2_with fail;go_ret;exact⟨by rw[f.o];rfl,rfl⟩
  ·have H:decide (1099511627776<t)=false:=by simpa using y
   by_cases z:v < -1
   ·have f:=zW (r=false) (by rw[i.o];simp;omega)
    go_enter func108,ntmps108
    go_wp2_with fail;go_ret;exact⟨by rw[f.o];rfl,rfl⟩
   ·have I:decide (v < -1)=false:=by simpa using z
    by_cases A:7≤v
    ·have f:=zW (r=false) (by rw[i.o];simp;omega)
     go_enter func108,ntmps108
     go_wp2_with fail;go_ret;exact⟨by rw[f.o];rfl,rfl⟩
    ·have J:decide (7≤v)=false:=by simpa using A
     by_cases g:t=a
     ·by_cases k:b=-1
      ·have f:=zW (r=true) (by rw[i.o];simp[k];omega);have n:(t==a)=true:=by simpa using g
       have p:(b != -1)=false:=by simpa using k
       clear g k
       go_enter func108,ntmps108
       go_wp2_with fail;go_ret;exact⟨by rw[f.o];rfl,rfl⟩
      ·have n:(t==a)=true:=by simpa using g
       have p:(b != -1)=true:=by simpa using k
       by_cases l:v=b
       focus have f:=zW (r=true) (by rw[i.o];simp[l];omega);have q:(v != b)=false:=by simpa using l
       rotate_left
       focus have f:=zW (r=false) (by rw[i.o];simp[g,k,l]);have q:(v != b)=true:=by simpa using l
       all_goals
        clear g k l;go_enter func108,ntmps108;go_wp2_with fail;go_ret;exact⟨by rw[f.o];rfl,rfl⟩
     ·have f:=zW (r=true) (by rw[i.o];simp[g];omega);have n:(t==a)=false:=by simpa using g
      clear g
      go_enter func108,ntmps108
      go_wp2_with fail;go_ret;exact⟨by rw[f.o];rfl,rfl⟩
theorem dead_set {own:Nat→Prop}{f dv c:Value}{vs:List EV}(b:zBg w1 j d pre own M f dv c vs)(x:Bool):zBg (w1.setCell ⟨j,9,none⟩ (.bool x)) j d pre own {M with dead:=x} f dv c vs :=
 b.set (M':={M with dead:=x}) (by have:=zAC b.cells 9 (.bool x);simpa using this) (fun k g=>set_other _ g) (by simp[World.setCell]) rfl rfl rfl ⟨b.ok.last,b.ok.term,b.ok.group,b.ok.now,b.ok.vote,b.ok.data,b.ok.ents⟩
theorem zDj (h:zAk w w1 j d pre D M F)(k:Nat) :
  Calls prog 170 #[.pointer (some ⟨j,0,none⟩),.int .i64 (k:Int)] w1 fun e w'=>e=.returned (.int .i64 (k:Int))∧zAk w w' j d pre D {M with dead:=M.dead||decide (k≠0) } F∧Same F w1 w':=by
 obtain⟨own,r,dv,q,vs,b,hS,hn,m⟩:=h;have i:=b.c 9 rfl;have s:=b.fr 9;have f:=zh (fun x=>zAk.turned (D:=D) (F:=F) hS hn m (dead_set b x) ((Chg.setCell w1 ⟨j,9,none⟩ (.bool x)).mono fun k _ e=>by rw[e];exact b.ol) fun _ h=>.inl h);clear b hS hn m;cases l:M.dead with
 | true =>
  rw[l]at i
  go_enter func170,ntmps170
  go_wp2_with fail;go_ret;exact⟨rfl,by simpa using f.o true⟩
 | false =>
  rw[l]at i
  by_cases g:k=0
  ·subst g
   go_enter func170,ntmps170
   go_wp2_with fail;go_ret;exact⟨rfl,by simpa using f.o false⟩
  ·have p:((k:Int) != 0)=true:=by simp;omega
   have n:=zh g;clear g
   go_enter func170,ntmps170
   go_wp2_with fail;go_ret;exact⟨rfl,by simpa[n.o]using f.o true⟩
end
theorem zC2 {P:Program}{fn:Func}{p u:Tmp}{ty:TypeId}(h:fn.results=#[.cell p ty,.tmp u])(b:Array Value)(w:World)(g:Nat)(t:TypeId)(cs:Array Value)(c:Nat×Nat)(d:TypeDesc)
  (k:b.getD p undef=.pointer (some ⟨g,0,none⟩)) (i:w.heap[g]?=some (.cells cs t c))
  (l:P.underlying ty=some d) (f:(match d with | .struct _ | .array _ _=>true|_=>false)=true) (j:(P.info? ty).map (·.size)=some cs.size) :
  (results fn b).run P w=.ok (.tuple #[.agg cs,b.getD u undef]) w:=by
 rw[results_cell_tmp h,k];simp[asAddr,run_loadVar_row w g t ty cs c d i l f j]
theorem zAH {w w':World}{a:Addr}{v:Value}(h:w.cell? a=some v)(b:Below w.heap.size w w'):w'.cell? a=some v:=(b.cell (World.block_lt_of_cell? w a h)).trans h
structure EntIn (w:World)(j g n c b k:Nat)(e:Ent)(v:EV):Prop where
 all:w.cell? ⟨j,8,none⟩=some (.slice (some ⟨g,0,none⟩) n c)∧w.cell? ⟨j,0,none⟩=some (.int .i64 (b:Int))∧w.cell? ⟨g,k*4,none⟩=some (.int .i64 e.term)∧w.cell? ⟨g,k*4+1,none⟩=some (.int .i64 e.kind)∧w.cell? ⟨g,k*4+2,none⟩=some v.1∧w.cell? ⟨g,k*4+3,none⟩=some v.2
theorem zC7 {w w':World}{j g n c b k:Nat}{e:Ent}{v:EV}(h:EntIn w j g n c b k e v)(d:Below w.heap.size w w'):EntIn w' j g n c b k e v :=
 ⟨zAH h.all.1 d,zAH h.all.2.1 d,zAH h.all.2.2.1 d,zAH h.all.2.2.2.1 d,zAH h.all.2.2.2.2.1 d,zAH h.all.2.2.2.2.2 d⟩
section
variable {w w1:World} {j d:Nat} {pre:ByteArray} {D:zAA} {M:zAJ} {F:Nat→Prop}
theorem jat_yes (h:zAk w w1 j d pre D M F)(i:Int)(hi:-9223372036854775808≤i∧i≤9223372036854775807)(R:(M.number:Int)<i){e:Ent}(V:M.entries[(i-(M.number:Int)-1).toNat]?=some e) :
  Calls prog 34 #[.pointer (some ⟨j,0,none⟩),.int .i64 i] w1 fun r w'=>∃v:EV,r=.returned (.tuple #[zCf e v,.int .i64 0])∧zDM w' e v∧(∀k,(v.1.ownBlock=some k∨v.2.ownBlock=some k)→w1.heap.size≤k)∧Below w1.heap.size w1 w':=by
 have ae:=(List.getElem?_eq_some_iff.1 V).1;have Q:i≤(M.last:Int):=by unfold zAJ.last;omega
 have E:=zAD w1 (.cells #[.int .i64 0,.int .i64 0,.slice none 0 0,.slice none 0 0] 50);have L:=zh (zD1 (h.next E) i hi);rw[decide_eq_true (And.intro R Q)]at L;have G:=h.okM.last;have z:=h.okM.ents e (List.mem_of_getElem? V);obtain⟨own,gv,dv,ev,vs,U,hS,hn,hl⟩:=h;obtain⟨g,c,v,rfl,hv,P,k0,k1,k2,k3⟩:=U.ent V;have c0:=U.c 0 rfl;have c8:=U.c 8 rfl;have hf:=zBF z;generalize hk:(i-(M.number:Int)-1).toNat=k at *;have HX:=zW (EntIn w1 j g M.entries.length c M.number k e v) (⟨c8,c0,k0,k1,k2,k3⟩);have HA:=zh (P.has (by omega) (by omega));unfold zAJ.last at G;have ad:i=(M.number:Int)+1+(k:Int):=by omega
 clear U hS hn hl hv P c0 c8 k0 k1 k2 k3 z hf V Q R hk;generalize M.entries.length=n at *;generalize M.number=b at *;have af:IntKind.i64.wrap (i-(b:Int))=(k:Int)+1:=by rw[IntWalk.i64_in _ (by omega)];omega
 have ag:IntKind.i64.wrap (k:Int)=(k:Int):=IntWalk.i64_in _ (by omega);clear ad
 go_enter func34,ntmps34
 go_wp2_with fail;refine L.o.mono ?_;rintro r w2 ⟨rfl,q,rfl⟩;have H:=zW (Below w1.heap.size w1 ((w1.alloc (.cells #[.int .i64 0,.int .i64 0,.slice none 0 0,.slice none 0 0] 50)).drewN q)) (E.trans ⟨rfl,rfl,rfl,by simp,fun _ _=>rfl⟩);have HR:=zW (((w1.alloc (.cells #[.int .i64 0,.int .i64 0,.slice none 0 0,.slice none 0 0] 50)).drewN q).heap[w1.heap.size]?=_) (zAI w1 _);generalize (w1.alloc (.cells #[.int .i64 0,.int .i64 0,.slice none 0 0,.slice none 0 0] 50)).drewN q=W at *;clear E;go_wp2_with fail;refine ost (fun w':World=>w'.cell? ⟨j,8,none⟩=some (.slice (some ⟨g,0,none⟩) n c)∧w'.cell? ⟨j,0,none⟩=some (.int .i64 (b:Int))∧w'.cell? ⟨g,k*4,none⟩=some (.int .i64 e.term)∧w'.cell? ⟨g,k*4+1,none⟩=some (.int .i64 e.kind)∧w'.cell? ⟨g,k*4+2,none⟩=some v.1∧w'.cell? ⟨g,k*4+3,none⟩=some v.2) 17 ((zC7 HX.o (H.o.trans ⟨rfl,rfl,rfl,Nat.le_refl _,fun _ _=>rfl⟩)).all) fun f=>?_;generalize C:W.drew=W1 at *;have A:=zW (Below w1.heap.size w1 W1) (by rw[←C];exact H.o.trans ⟨rfl,rfl,rfl,Nat.le_refl _,fun _ _=>rfl⟩);have B:=zh (Eq.trans (show W1.heap[w1.heap.size]?=W.heap[w1.heap.size]? by rw[←C];rfl) HR.o);clear C;refine Pl [0,1,2,3,4,5,6,7,8,9,10,11,12,13] ?_
 iterate 14 (refine Pc rfl ?_;simp only[uZ])
 refine Pn ?_;refine oon 14 rfl fun K O=>?_;have N:=zh (own_calls (HA.o.below A.o));go_wp2_with fail;refine N.o.mono ?_;rintro r a ⟨⟨u1,u2⟩,rfl,X,S,y⟩;obtain⟨t,p,eu,-⟩:=zAL X.data;obtain⟨s,m,en,-⟩:=zAw X.nodes;have ac:u1=.slice t e.data.length p:=eu;have ab:u2=.slice s e.nodes.length m:=en;subst ac;subst ab;clear eu en;have I:=zh (A.o.trans (y.mono A.o.size));have Z:=zh (zC7 (⟨f⟩:EntIn W1 j g n c b k e v) y);have l:=zh ((y.block _ (zAB B.o)).trans B.o);have T:=zh (And.intro X S);have J:=zh (zAB B.o);clear X S y;go_wp2_with fail;refine O.o _ _ (Z.o.all) fun f=>?_;clear O
 try simp only[uZ]
 refine oon 15 rfl fun K O=>?_;have r0:=zAU l.o;have r1:=zAY l.o;have r2:=zAX l.o;have r3:=zAf l.o;have fr:=zAE l.o;unfold zCf;go_wp2_with fail;have hz:((((a.setCell ⟨w1.heap.size,0,none⟩ (.int .i64 e.term)).setCell ⟨w1.heap.size,1,none⟩ (.int .i64 e.kind)).setCell ⟨w1.heap.size,2,none⟩ (.slice t e.data.length p)).setCell ⟨w1.heap.size,3,none⟩ (.slice s e.nodes.length m)).heap[w1.heap.size]?=some (.cells #[.int .i64 e.term,.int .i64 e.kind,(.slice t e.data.length p),(.slice s e.nodes.length m)] 50 (0,0)):=by
  have h1:=zAC l.o 0 (.int .i64 e.term);have h2:=zAC h1 1 (.int .i64 e.kind);have h3:=zAC h2 2 (.slice t e.data.length p);have h4:=zAC h3 3 (.slice s e.nodes.length m);simpa using h4
 have hC:Chg (fun x=>x=w1.heap.size) a ((((a.setCell ⟨w1.heap.size,0,none⟩ (.int .i64 e.term)).setCell ⟨w1.heap.size,1,none⟩ (.int .i64 e.kind)).setCell ⟨w1.heap.size,2,none⟩ (.slice t e.data.length p)).setCell ⟨w1.heap.size,3,none⟩ (.slice s e.nodes.length m)):=(((Chg.setCell a ⟨w1.heap.size,0,none⟩ _).trans (Chg.setCell _ ⟨w1.heap.size,1,none⟩ _) fun _ _ e=>e).trans (Chg.setCell _ ⟨w1.heap.size,2,none⟩ _) fun _ _ e=>e).trans (Chg.setCell _ ⟨w1.heap.size,3,none⟩ _) fun _ _ e=>e;have hB:Below w1.heap.size w1 ((((a.setCell ⟨w1.heap.size,0,none⟩ (.int .i64 e.term)).setCell ⟨w1.heap.size,1,none⟩ (.int .i64 e.kind)).setCell ⟨w1.heap.size,2,none⟩ (.slice t e.data.length p)).setCell ⟨w1.heap.size,3,none⟩ (.slice s e.nodes.length m)):=I.o.trans (hC.below I.o.size fun k hk e=>by omega);have aa:=zh (zC7 HX.o hB);have HE:=zW (∃v:EV,Ending.returned (.tuple #[.agg #[.int .i64 e.term,.int .i64 e.kind,(.slice t e.data.length p),(.slice s e.nodes.length m)],.int .i64 0])=.returned (.tuple #[zCf e v,.int .i64 0])∧zDM ((((a.setCell ⟨w1.heap.size,0,none⟩ (.int .i64 e.term)).setCell ⟨w1.heap.size,1,none⟩ (.int .i64 e.kind)).setCell ⟨w1.heap.size,2,none⟩ (.slice t e.data.length p)).setCell ⟨w1.heap.size,3,none⟩ (.slice s e.nodes.length m)) e v∧(∀k,(v.1.ownBlock=some k∨v.2.ownBlock=some k)→w1.heap.size≤k)∧Below w1.heap.size w1 ((((a.setCell ⟨w1.heap.size,0,none⟩ (.int .i64 e.term)).setCell ⟨w1.heap.size,1,none⟩ (.int .i64 e.kind)).setCell ⟨w1.heap.size,2,none⟩ (.slice t e.data.length p)).setCell ⟨w1.heap.size,3,none⟩ (.slice s e.nodes.length m))) (
  ⟨(.slice t e.data.length p,.slice s e.nodes.length m),rfl,T.o.1.keep fun x Y=>hC.block x (T.o.1.lt Y) fun e=>by have h1:=T.o.2 x Y;have h2:=J.o;omega,fun x Y=>by have h1:=T.o.2 x Y;have h2:=J.o;omega,hB⟩)
 have HZ:=zh hz;clear r0 r1 r2 r3 fr hC hB hz;generalize (((a.setCell ⟨w1.heap.size,0,none⟩ (.int .i64 e.term)).setCell ⟨w1.heap.size,1,none⟩ (.int .i64 e.kind)).setCell ⟨w1.heap.size,2,none⟩ (.slice t e.data.length p)).setCell ⟨w1.heap.size,3,none⟩ (.slice s e.nodes.length m)=W6 at *;refine O.o _ _ (aa.o.all) fun f=>?_;clear O
 try simp only[uZ]
 refine otk 16 (v:=?v1x16) rfl ?_;simp only[uZ];refine odn ?_;go_wp2_with fail
 (try simp only[Exit.inBlock,Exit.then])
 refine bodyPost_ret (zC2 rfl _ W6 w1.heap.size _ _ (0,0) _ rfl HZ.o underlying50 rfl (by kernel_rfl)) rfl ?_;exact HE.o
end
theorem zFv (w:World)(a b:Nat):(w.drewN a).drewN b=w.drewN (a+b):=by
 unfold World.drewN;simp[Nat.add_assoc]
section
variable {w w1:World} {j d:Nat} {pre:ByteArray} {D:zAA} {M:zAJ} {F:Nat→Prop}
theorem jat_no (h:zAk w w1 j d pre D M F)(i:Int)(z:-9223372036854775808≤i∧i≤9223372036854775807)(l:¬((M.number:Int)<i∧i≤(M.last:Int))) :
  Calls prog 34 #[.pointer (some ⟨j,0,none⟩),.int .i64 i] w1 fun r w'=>r=.returned (.tuple #[.agg #[.int .i64 0,.int .i64 0,.slice none 0 0,.slice none 0 0],.int .i64 7])∧Below w1.heap.size w1 w':=by
 have c:=zAD w1 (.cells #[.int .i64 0,.int .i64 0,.slice none 0 0,.slice none 0 0] 50);have g:=zh (zD1 (h.next c) i z);rw[decide_eq_false l]at g;clear h l
 go_enter func34,ntmps34
 go_wp2_with fail;refine g.o.mono ?_;rintro r w2 ⟨rfl,q,rfl⟩;have f:=zW (Below w1.heap.size w1 ((w1.alloc (.cells #[.int .i64 0,.int .i64 0,.slice none 0 0,.slice none 0 0] 50)).drewN q)) (c.trans ⟨rfl,rfl,rfl,by simp,fun _ _=>rfl⟩);have b:((w1.alloc (.cells #[.int .i64 0,.int .i64 0,.slice none 0 0,.slice none 0 0] 50)).drewN q).heap[w1.heap.size]?=some (.cells #[.int .i64 0,.int .i64 0,.slice none 0 0,.slice none 0 0] 50):=zAI w1 _;generalize (w1.alloc (.cells #[.int .i64 0,.int .i64 0,.slice none 0 0,.slice none 0 0] 50)).drewN q=W at *;have C:=zAU b;have E:=zAY b;have G:=zAX b;have H:=zAf b;have A:=zAE b;have n:=zh b;clear c b;go_wp2_with fail;have a:((((W.setCell ⟨w1.heap.size,0,none⟩ (.int .i64 0)).setCell ⟨w1.heap.size,1,none⟩ (.int .i64 0)).setCell ⟨w1.heap.size,2,none⟩ (.slice none 0 0)).setCell ⟨w1.heap.size,3,none⟩ (.slice none 0 0)).heap[w1.heap.size]?=some (.cells #[.int .i64 0,.int .i64 0,.slice none 0 0,.slice none 0 0] 50):=by
  have p:=zAC n.o 0 (.int .i64 0);have s:=zAC p 1 (.int .i64 0);have t:=zAC s 2 (.slice none 0 0);have v:=zAC t 3 (.slice none 0 0);simpa using v
 have y:Chg (fun x=>x=w1.heap.size) W ((((W.setCell ⟨w1.heap.size,0,none⟩ (.int .i64 0)).setCell ⟨w1.heap.size,1,none⟩ (.int .i64 0)).setCell ⟨w1.heap.size,2,none⟩ (.slice none 0 0)).setCell ⟨w1.heap.size,3,none⟩ (.slice none 0 0)):=(((Chg.setCell W ⟨w1.heap.size,0,none⟩ _).trans (Chg.setCell _ ⟨w1.heap.size,1,none⟩ _) fun _ _ e=>e).trans (Chg.setCell _ ⟨w1.heap.size,2,none⟩ _) fun _ _ e=>e).trans (Chg.setCell _ ⟨w1.heap.size,3,none⟩ _) fun _ _ e=>e;have m:=zW (Below w1.heap.size w1 _) (f.o.trans (y.below f.o.size fun k B e=>by omega))
 (try simp only[Exit.inBlock,Exit.then])
 refine bodyPost_ret (zC2 rfl _ _ w1.heap.size _ _ (0,0) _ rfl a underlying50 rfl (by kernel_rfl)) rfl ?_;exact⟨rfl,m.o⟩
theorem termAt_no {i:Int}(h:¬((M.number:Int)<i∧i≤(M.last:Int)))(c:i≠(M.number:Int)):M.termAt i=none:=by
 unfold zAJ.last at h;unfold zAJ.termAt;rw[if_neg c]
 by_cases b:i<(M.number:Int)
 ·rw[if_pos b]
 ·rw[if_neg b,List.getElem?_eq_none (by omega)];rfl
theorem zED {i:Int}(h:(M.number:Int)<i){e:Ent}(b:M.entries[(i-(M.number:Int)-1).toNat]?=some e):M.termAt i=some e.term:=by
 unfold zAJ.termAt;rw[if_neg (by omega),if_neg (by omega),b];rfl
theorem zEe:M.termAt (M.number:Int)=some M.term:=if_pos rfl
theorem zES (h:zAk w w1 j d pre D M F)(i:Int)(I:-9223372036854775808≤i∧i≤9223372036854775807) :
  Calls prog 35 #[.pointer (some ⟨j,0,none⟩),.int .i64 i] w1 fun r w'=>r=.returned (.tuple #[.int .i64 ((M.termAt i).getD 0),.bool (M.termAt i).isSome])∧∃q,w'=w1.drewN q:=by
 have l:=zh (zD1 h i I);have s:=h.okM.last;obtain⟨own,P,dv,O,vs,p,hS,hn,E⟩:=h;have t:=p.c 0 rfl;have A:=p.c 1 rfl;have B:=p.c 8 rfl
 by_cases f:(M.number:Int)<i∧i≤(M.last:Int)
 ·rw[decide_eq_true f]at l;have z:=f.2;unfold zAJ.last at z s;have a:(i-(M.number:Int)-1).toNat<M.entries.length:=by omega
  obtain⟨g,c,v,rfl,-,-,G,-⟩:=p.ent (List.getElem?_eq_getElem a);have y:=zh (zED f.1 (List.getElem?_eq_getElem a));have C:=f.1;clear p hS hn E f A;generalize J:(i-(M.number:Int)-1).toNat=k at *;generalize M.entries[k]=e at *;generalize M.entries.length=n at *;generalize M.termAt i=H at *;generalize M.number=b at *;have L:IntKind.i64.wrap (i-(b:Int))=(k:Int)+1:=by rw[IntWalk.i64_in _ (by omega)];omega
  have N:IntKind.i64.wrap (k:Int)=(k:Int):=IntWalk.i64_in _ (by omega);clear J z C
  go_enter func35,ntmps35
  go_wp2_with fail;refine l.o.mono ?_;rintro r w2 ⟨rfl,q,rfl⟩;have t:(w1.drewN q).cell? ⟨j,0,none⟩=some (.int .i64 (b:Int)):=t;have B:(w1.drewN q).cell? ⟨j,8,none⟩=some (.slice (some ⟨g,0,none⟩) n c):=B;have G:(w1.drewN q).cell? ⟨g,k*4,none⟩=some (.int .i64 e.term):=G;go_wp2_with fail
  go_quiet (fail)
  go_wp2_with fail
  go_ret2
  exact⟨by rw[y.o];rfl,_,zFv _ _ _⟩
 ·rw[decide_eq_false f]at l
  by_cases m:i=(M.number:Int)
  ·subst m;have y:=zh (zEe (M:=M));clear p hS hn E f B;generalize M.termAt (M.number:Int)=H at *;generalize M.number=b at *
   go_enter func35,ntmps35
   go_wp2_with fail;refine l.o.mono ?_;rintro r w2 ⟨rfl,q,rfl⟩;have t:(w1.drewN q).cell? ⟨j,0,none⟩=some (.int .i64 (b:Int)):=t;have A:(w1.drewN q).cell? ⟨j,1,none⟩=some (.int .i64 M.term):=A;go_wp2_with fail
   go_ret2
   exact⟨by rw[y.o];rfl,_,rfl⟩
  ·have y:=zh (termAt_no f m);have Q:(i==(M.number:Int))=false:=by simpa using m
   clear p hS hn E f m B A;generalize M.termAt i=H at *;generalize M.number=b at *
   go_enter func35,ntmps35
   go_wp2_with fail;refine l.o.mono ?_;rintro r w2 ⟨rfl,q,rfl⟩;have t:(w1.drewN q).cell? ⟨j,0,none⟩=some (.int .i64 (b:Int)):=t;go_wp2_with fail
   go_ret2
   exact⟨by rw[y.o];rfl,_,rfl⟩
def zBS (w1:World)(r:List Int×Nat)(e:Ending)(w':World):Prop:=∃v,e=.returned (.tuple #[v,.int .i64 (r.2:Int)])∧zCd w' v r.1∧(∀k,v.ownBlock=some k→w1.heap.size≤k)∧Below w1.heap.size w1 w'
theorem grpIn_yes {k:Nat}{e:Ent}(b:M.entries[k]?=some e)(c:e.kind=2):M.grpIn (k+1)=(e.nodes,M.number+k+1):=by
 show(match M.entries[k]? with|some e=>_|none=>_)=_
 rw[b];exact if_pos c
theorem grpIn_no {k:Nat}{e:Ent}(b:M.entries[k]?=some e)(c:e.kind≠2):M.grpIn (k+1)=M.grpIn k:=by
 show(match M.entries[k]? with|some e=>_|none=>_)=_
 rw[b];exact if_neg c
theorem jgrpAt_calls (h:zAk w w1 j d pre D M F)(N:Nat)(hN:N≤M.entries.length) :
  Calls prog 107 #[.pointer (some ⟨j,0,none⟩),.int .i64 ((M.number+N:Nat):Int)] w1 (zBS w1 (M.grpIn N)):=by
 have R:=h.okM.last;have ah:=h.okM.group;have O:=zh h.okM.ents;obtain⟨own,gv,dv,ev,vs,T,hS,hn,hl⟩:=h;have HJ:=zh T;have c0:=T.c 0 rfl;have c2:=T.c 2 rfl;obtain⟨pg,cg,Q,-⟩:=zAw T.group;rw[Q]at c2;have ak:=zh (Q▸T.group);have au:=(zEP ah).2;unfold zAJ.last at R;clear T hS hn hl ah Q;generalize I:M.number=b at *
 go_enter func107,ntmps107
 go_wp2_with fail
 go_loopw [6] (fun x wr=>∃k:Nat,k≤N∧x=.int .i64 ((b+k:Nat):Int)∧M.grpIn N=M.grpIn k∧Below w1.heap.size w1 wr) (fun x _=>(intOf x).toNat)
 case atStart=>exact⟨N,Nat.le_refl _,rfl,rfl,Below.refl _ _⟩
 case round =>
  obtain⟨k,hk,rfl,E,m⟩:=hrel;have ap:=zAH c0 m;have aa:=zAH c2 m;cases k with
  | zero =>
   have y:=zh E;have V:=zh m;have L:=zh (fun W (I:Below w1.heap.size w1 W)=>zDy (zCd.has (zGB ak.o I)) (by omega));clear E m;go_wp2_with fail;refine ost (fun w':World=>w'.cell? ⟨j,0,none⟩=some (.int .i64 (b:Int))∧w'.cell? ⟨j,2,none⟩=some (.slice pg M.group.length cg)) 13 (⟨ap,aa⟩) fun f=>?_;refine Pl [0,1,2,3,4,6,7,8,9,10] ?_
   iterate 10 (refine Pc rfl ?_;simp only[uZ])
   refine Pn ?_;refine oon 5 rfl fun K H=>?_;go_wp2_with fail;refine(L.o wr.drew (V.o.trans ⟨rfl,rfl,rfl,Nat.le_refl _,fun _ _=>rfl⟩)).mono ?_;rintro r w5 ⟨v,rfl,hv,s,i⟩;have A:Below w1.heap.size w1 wr.drew:=V.o.trans ⟨rfl,rfl,rfl,Nat.le_refl _,fun _ _=>rfl⟩;have Y:=zW (zBS w1 (M.grpIn N) (.returned (.tuple #[v,.int .i64 (b:Int)])) w5) (by
    rw[y.o];exact⟨v,by show _=Ending.returned (.tuple #[v,.int .i64 (M.number:Int)]);rw[I],hv,fun x U=>Nat.le_trans A.size (s x U),A.trans (i.mono A.size)⟩)
   have am:=zh (And.intro (zAH f.1 i) (zAH f.2 i));clear hv s i A;go_wp2_with fail;refine H.o _ _ (am.o) fun f=>?_;clear H
   try simp only[uZ]
   refine Pl [11,12] ?_
   iterate 2 (refine Pc rfl ?_;simp only[uZ])
   refine Pn ?_;refine odn ?_;go_wp2_with fail
   go_ret2
   exact Y.o
  | succ k =>
   have af:k<M.entries.length:=by omega
   have he:=List.getElem?_eq_getElem af;obtain⟨g,c,v,ac,-,C,k0,k1,k2,k3⟩:=HJ.o.ent he;have hf:=zBF (O.o _ (List.getElem_mem af));have ae:=grpIn_yes he;have ad:=grpIn_no he;generalize M.entries[k]=e at *;have c8:=HJ.o.c 8 rfl;rw[ac]at c8;obtain⟨G,a,eu,-⟩:=zAL C.data;obtain⟨t,q,en,-⟩:=zAw C.nodes;rw[eu]at k2;rw[en]at k3;have ag:zCd w1 (.slice t e.nodes.length q) e.nodes:=by rw[←en];exact C.nodes
   have L:=zh (fun W (I:Below w1.heap.size w1 W)=>zDy (zCd.has (zGB ag I)) (by omega));have HX:=zW (EntIn w1 j g M.entries.length c b k e (.slice G e.data.length a,.slice t e.nodes.length q)) (⟨c8,by rw[←I]at c0;rw[←I];exact c0,k0,k1,k2,k3⟩);have y:=zh E;have V:=zh m;have al:=zh ae;have aj:=zh ad;have aw:IntKind.i64.wrap (((b+(k+1):Nat):Int)-(b:Int))=(k:Int)+1:=by rw[IntWalk.i64_in _ (by omega)];omega
   have ar:IntKind.i64.wrap ((b:Int)+((k:Int)+1)-(b:Int))=(k:Int)+1:=by rw[IntWalk.i64_in _ (by omega)];omega
   have ax:IntKind.i64.wrap (k:Int)=(k:Int):=IntWalk.i64_in _ (by omega);have ay:IntKind.i64.wrap (((b+(k+1):Nat):Int)-1)=((b+k:Nat):Int):=by rw[IntWalk.i64_in _ (by omega)];omega
   have av:(b:Int)<((b+(k+1):Nat):Int):=by omega
   generalize U:((b+(k+1):Nat):Int)=x at *;have Z:=zW (x=((M.number+k+1:Nat):Int)) (by rw[←U,I];rfl);clear E m ae ad c8 k0 k1 k2 k3 ac C ag eu en he aa;generalize M.entries.length=n at *;clear U;go_wp2_with fail;refine ost (fun w':World=>w'.cell? ⟨j,8,none⟩=some (.slice (some ⟨g,0,none⟩) n c)∧w'.cell? ⟨j,0,none⟩=some (.int .i64 (b:Int))∧w'.cell? ⟨g,k*4,none⟩=some (.int .i64 e.term)∧w'.cell? ⟨g,k*4+1,none⟩=some (.int .i64 e.kind)∧w'.cell? ⟨g,k*4+2,none⟩=some (.slice G e.data.length a)∧w'.cell? ⟨g,k*4+3,none⟩=some (.slice t e.nodes.length q)) 16 ((zC7 HX.o (V.o.trans ⟨rfl,rfl,rfl,Nat.le_refl _,fun _ _=>rfl⟩)).all) fun f=>?_;generalize ab:wr.drew=z at *;have J:=zW (Below w1.heap.size w1 z) (by rw[←ab];exact V.o.trans ⟨rfl,rfl,rfl,Nat.le_refl _,fun _ _=>rfl⟩);clear ab;refine Pl [0,1,2,3,4,5,6,7,8,9,10,11,12,13] ?_
   iterate 14 (refine Pc rfl ?_;simp only[uZ])
   refine Pn ?_;refine oon 14 rfl fun K H=>?_;have an:=zh (zC7 (⟨f⟩:EntIn z j g n c b k e (.slice G e.data.length a,.slice t e.nodes.length q)) (zAD z (.cells #[.int .i64 0,.int .i64 0,.slice none 0 0,.slice none 0 0] 50)));go_wp2_with fail;refine H.o _ _ (an.o.all) fun f=>?_;clear H
   try simp only[uZ]
   refine oon 15 rfl fun K H=>?_;have P:(z.alloc (.cells #[.int .i64 0,.int .i64 0,.slice none 0 0,.slice none 0 0] 50)).heap[z.heap.size]?=some (.cells #[.int .i64 0,.int .i64 0,.slice none 0 0,.slice none 0 0] 50):=zAI z _;have r0:=zAU P;have r1:=zAY P;have r2:=zAX P;have r3:=zAf P;have fr:=zAE P;have HR:=zh P;clear P;have X:=zh (J.o.trans ((zAD z (.cells #[.int .i64 0,.int .i64 0,.slice none 0 0,.slice none 0 0] 50)).mono J.o.size));have ai:=zh J.o.size;generalize z.heap.size=B at *;generalize z.alloc (.cells #[.int .i64 0,.int .i64 0,.slice none 0 0,.slice none 0 0] 50)=S at *;go_wp2_with fail;have hz:((((S.setCell ⟨B,0,none⟩ (.int .i64 e.term)).setCell ⟨B,1,none⟩ (.int .i64 e.kind)).setCell ⟨B,2,none⟩ (.slice G e.data.length a)).setCell ⟨B,3,none⟩ (.slice t e.nodes.length q)).heap[B]?=some (.cells #[.int .i64 e.term,.int .i64 e.kind,.slice G e.data.length a,.slice t e.nodes.length q] 50 (0,0)):=by
    have h1:=zAC HR.o 0 (.int .i64 e.term);have h2:=zAC h1 1 (.int .i64 e.kind);have h3:=zAC h2 2 (.slice G e.data.length a);have h4:=zAC h3 3 (.slice t e.nodes.length q);simpa using h4
   have hC:Chg (fun x=>x=B) S ((((S.setCell ⟨B,0,none⟩ (.int .i64 e.term)).setCell ⟨B,1,none⟩ (.int .i64 e.kind)).setCell ⟨B,2,none⟩ (.slice G e.data.length a)).setCell ⟨B,3,none⟩ (.slice t e.nodes.length q)):=(((Chg.setCell S ⟨B,0,none⟩ _).trans (Chg.setCell _ ⟨B,1,none⟩ _) fun _ _ e=>e).trans (Chg.setCell _ ⟨B,2,none⟩ _) fun _ _ e=>e).trans (Chg.setCell _ ⟨B,3,none⟩ _) fun _ _ e=>e;have l:=zW (Below w1.heap.size w1 ((((S.setCell ⟨B,0,none⟩ (.int .i64 e.term)).setCell ⟨B,1,none⟩ (.int .i64 e.kind)).setCell ⟨B,2,none⟩ (.slice G e.data.length a)).setCell ⟨B,3,none⟩ (.slice t e.nodes.length q))) (X.o.trans (hC.below X.o.size fun k hk e=>by have:=ai.o;omega));have ao:=zh (zC7 HX.o l.o);have z1:=zAY hz;have z3:=zAf hz;clear r0 r1 r2 r3 fr hC hz;generalize (((S.setCell ⟨B,0,none⟩ (.int .i64 e.term)).setCell ⟨B,1,none⟩ (.int .i64 e.kind)).setCell ⟨B,2,none⟩ (.slice G e.data.length a)).setCell ⟨B,3,none⟩ (.slice t e.nodes.length q)=W3 at *;refine H.o _ _ (ao.o.all) fun f=>?_;clear H
   try simp only[uZ]
   refine odn ?_;have z1:W3.cell? ⟨B,1,none⟩=some (.int .i64 e.kind):=z1;have z3:W3.cell? ⟨B,3,none⟩=some (.slice t e.nodes.length q):=z3
   by_cases p:e.kind=2
   ·have aq:(e.kind==2)=true:=by simpa using p
    have Y:=zh (y.o.trans (al.o p));clear p;go_wp2_with fail;refine(L.o W3 l.o).mono ?_;rintro r w5 ⟨v,rfl,hv,s,i⟩;have HF:=zW (zBS w1 (M.grpIn N) (.returned (.tuple #[v,.int .i64 x])) w5) (by
     rw[Y.o,Z.o];exact⟨v,rfl,hv,fun x U=>Nat.le_trans l.o.size (s x U),l.o.trans (i.mono l.o.size)⟩)
    clear hv s i;go_wp2_with fail
    go_ret2
    exact HF.o
   ·have aq:(e.kind==2)=false:=by simpa using p
    have Y:=zh (y.o.trans (aj.o p));clear p;go_wp2_with fail;go_roundw
    case rel=>exact⟨k,by omega,rfl,Y.o,l.o⟩
    case measure=>simp[intOf];have:=Z.o;omega
theorem jnodes_calls (h:zAk w w1 j d pre D M F):Calls prog 24 #[.pointer (some ⟨j,0,none⟩)] w1 (zBS w1 (M.grpIn M.entries.length)):=by
 have f:=zh (zCl h);have g:=zh (fun q=>jgrpAt_calls (h.drewN q) M.entries.length (Nat.le_refl _));have l:=zW ((M.number+M.entries.length:Nat)=M.last) rfl;rw[l.o]at g;clear h
 go_enter func24,ntmps24
 go_wp2_with fail;refine f.o.mono ?_;rintro r w2 ⟨rfl,q,rfl⟩;go_wp2_with fail;refine(g.o q).mono ?_;rintro r m ⟨v,rfl,i,c,b⟩;have k:=zW (zBS w1 (M.grpIn M.entries.length) (.returned (.tuple #[v,.int .i64 ((M.grpIn M.entries.length).2:Int)])) m) (⟨v,rfl,i,c,(show Below w1.heap.size w1 (w1.drewN q)from⟨rfl,rfl,rfl,Nat.le_refl _,fun _ _=>rfl⟩).trans b⟩);clear i c b;go_wp2_with fail
 go_ret2
 exact k.o
def SnapTold (w1:World)(b:Bs)(g:List Int)(e:Ending)(w':World):Prop:=∃v u,e=.returned (.tuple #[v,u])∧zAi w' 5 v b∧zCd w' u g∧(∀k,v.ownBlock=some k∨u.ownBlock=some k→w1.heap.size≤k)∧Below w1.heap.size w1 w'
theorem jsnap_calls (h:zAk w w1 j d pre D M F):Calls prog 32 #[.pointer (some ⟨j,0,none⟩)] w1 (SnapTold w1 M.data M.group):=by
 have n:=h.okM;obtain⟨own,T,dv,S,vs,k,hS,hn,O⟩:=h;have G:=k.c 2 rfl;have H:=k.c 7 rfl;obtain⟨pg,cg,m,-⟩:=zAw k.group;obtain⟨pd,cd,l,-⟩:=zAL k.data;have N:=(zEP n.group).2;have a:=n.data;rw[m]at G;rw[l]at H;have L:=zh (fun W (hb:Below w1.heap.size w1 W)=>zDy (zCd.has (zGB (m▸k.group) hb)) (by omega));have J:=zh (fun W (hb:Below w1.heap.size w1 W)=>zBv (zAi.has (zCD (l▸k.data) hb)) (Nat.le_trans a (by decide)));clear k hS hn O m l n
 go_enter func32,ntmps32
 go_wp2_with fail;refine ost (fun w':World=>w'.cell? ⟨j,7,none⟩=some (.slice pd M.data.length cd)∧w'.cell? ⟨j,2,none⟩=some (.slice pg M.group.length cg)) 13 (⟨H,G⟩) fun b=>?_;refine Pl [0,1,2,3,5,6,7,8,9] ?_
 iterate 9 (refine Pc rfl ?_;simp only[uZ])
 refine Pn ?_;refine oon 4 rfl fun K q=>?_;have p:=zh (zAP w1);go_wp2_with fail;refine(J.o w1.drew p.o).mono ?_;rintro r P ⟨v,rfl,B,t,i⟩;have g:=zh (p.o.trans i);have y:=zh (And.intro (zAH b.1 i) (zAH b.2 i));have E:=zh (And.intro B t);obtain⟨pv,cv,rfl,-⟩:=zAL B;clear B t i;go_wp2_with fail;refine q.o _ _ (y.o) fun b=>?_;clear q
 try simp only[uZ]
 refine oon 10 rfl fun K q=>?_;go_wp2_with fail;refine(L.o P g.o).mono ?_;rintro r Q ⟨u,rfl,A,s,f⟩;have z:=zh (And.intro (zAH b.1 f) (zAH b.2 f));have I:=zW (SnapTold w1 M.data M.group (.returned (.tuple #[.slice pv M.data.length cv,u])) Q) (⟨_,u,rfl,zCD E.o.1 f,A,fun x C=>C.elim (E.o.2 x) fun C=>Nat.le_trans g.o.size (s x C),g.o.trans (f.mono g.o.size)⟩);obtain⟨U,R,rfl,-⟩:=zAw A;clear A s f;go_wp2_with fail;refine q.o _ _ (z.o) fun b=>?_;clear q
 try simp only[uZ]
 refine Pl [11,12] ?_
 iterate 2 (refine Pc rfl ?_;simp only[uZ])
 refine Pn ?_;refine odn ?_;go_wp2_with fail
 go_ret2
 exact I.o
end
def WrB (B:Nat)(w:World)(k:Nat)(l:Bs):Prop:=∃v,WrIn w k v l∧B≤k∧(∀j,v.ownBlock=some j→B≤j)∧B≤w.heap.size
def WrNext (B:Nat)(w:World)(k:Nat)(l:Bs)(e:Ending)(w':World):Prop:=e=.returned (.tuple #[])∧WrB B w' k l∧Below B w w'
section
variable {B:Nat} {w w1:World} {k:Nat} {l:Bs}
theorem WrB.keep (h:WrB B w k l)(b:Below w.heap.size w w1):WrB B w1 k l:=let ⟨v,h1,h2,h3,h4⟩:=h;⟨v,h1.keep b,h2,h3,Nat.le_trans h4 b.size⟩
theorem wrB_new (w:World):WrB w.heap.size (w.alloc (.cells #[.slice none 0 0] 163)) w.heap.size [] :=
 ⟨.slice none 0 0,⟨zAI w _,OwnR.nil _ _ _,fun h=>(by cases h)⟩,Nat.le_refl _,fun j b=>(by cases b),by simp⟩
theorem wrB_told {m:World}{v:Value}{e:Ending}{w':World}{l:Bs}(f:Below w.heap.size w m)(n:B≤k)(d:∀j,v.ownBlock=some j→B≤j)(o:B≤w.heap.size)(p:WrTold m k v l e w'):WrNext B w k l e w':=by
 obtain⟨rfl,v',c,g,hn⟩:=p;have b:=f.size;refine⟨rfl,⟨v',c,n,fun j q=>?_,by have:=g.size;omega⟩,?_⟩
 ·rcases hn j q with h|h
  ·exact d j h
  ·omega
 ·refine(((Chg.of_below f).mono fun _ _ h=>h.elim).trans g fun _ _ b=>b:Chg (WrS k v) w w').below o fun i r b=>?_;rcases b with rfl|b
  ·omega
  ·have:=d i b;omega
theorem zBY.lit {w:World}(zs:List Int)(cs:Array Value)(h:cs.toList=zs.map (Value.int .i64))(e:TypeId)(d:Nat×Nat)(g n c:Nat)(j:g=w.heap.size)(hn:n=zs.length):zBY (w.alloc (.cells cs e d)) (.slice (some ⟨g,0,none⟩) n c) zs:=by
 subst j;subst hn;refine⟨by simp,some ⟨w.heap.size,0,none⟩,c,rfl,fun e=>(by cases e),fun a f i u b=>?_⟩;cases f;rw[add_zero];refine zAG (zAI w _) ?_;rw[←h]at b;simpa using b
theorem zFV (h:WrB B w k l)(zs:List Int)(cs:Array Value)(d:cs.toList=zs.map (Value.int .i64))(A:∀z∈zs,-9223372036854775808≤z∧z≤9223372036854775807)(s:l.length+9*zs.length≤140737488355000)(g n c:Nat)(r:g=w.heap.size)(hn:n=zs.length)(f:Nat×Nat) :
  Calls prog 105 #[.pointer (some ⟨k,0,none⟩),.slice (some ⟨g,0,none⟩) n c] (w.alloc (.cells cs 3 f)) (WrNext B w k (l++zAp zs)):=by
 obtain⟨v,b,j,m,o⟩:=h;have i:=zAD w (.cells cs 3 f);have C:=b.klt;refine(zFp (b.keep i) (zs:=zs) (fun W q=>zAK.chg (zBY.lit zs cs d _ _ g n c r hn) q fun x y t=>?_) A s).mono fun e w' p=>wrB_told i j m o p;have a:x=g:=by cases y;rfl
 rcases t with e|e
 ·omega
 ·have:=OwnR.lt b.row e;omega
theorem wrB_numsx (h:WrB B w k l){p:Option Addr}{n c:Nat}{zs:List Int}(r:∀W,Below B w W→zBY W (.slice p n c) zs)(s:∀z∈zs,-9223372036854775808≤z∧z≤9223372036854775807)(q:l.length+9*zs.length≤140737488355000) :
  Calls prog 105 #[.pointer (some ⟨k,0,none⟩),.slice p n c] w (WrNext B w k (l++zAp zs)):=by
 obtain⟨v,g,j,d,f⟩:=h;refine(zFp g (zs:=zs) (fun W o=>r W (o.below f fun i t b=>?_)) s q).mono fun e w' m=>wrB_told (Below.refl _ _) j d f m;rcases b with rfl|b
 ·omega
 ·have:=d i b;omega
theorem wrB_raw (h:WrB B w k l)(m:Bs)(cs:Array Value)(b:cs.toList=zAR m)(s:l.length+m.length≤140737488355328)(g n c:Nat)(r:g=w.heap.size)(hn:n=m.length)(d:Nat×Nat) :
  Calls prog 104 #[.pointer (some ⟨k,0,none⟩),.slice (some ⟨g,0,none⟩) n c] (w.alloc (.cells cs 5 d)) (WrNext B w k (l++m)):=by
 obtain⟨v,i,j,o,p⟩:=h;have f:=zAD w (.cells cs 5 d);exact(wraw_calls (i.keep f) (has_lit cs m g n c r hn b) s).mono fun e w' q=>wrB_told f j o p q
theorem wrB_bytes (h:WrB B w k l){pv:Option Addr}{m cv:Nat}{x:Bs}(t:∀W,Below B w W→zAb W (.slice pv m cv) x)(s:l.length+x.length≤140737488354000)(g c:Nat)(r:g=w.heap.size)(d:Nat×Nat) :
  Calls prog 127 #[.pointer (some ⟨k,0,none⟩),.slice (some ⟨g,0,none⟩) 1 c] (w.alloc (.cells #[.slice pv m cv] 22 d)) (WrNext B w k (l++zE3 x)):=by
 obtain⟨v,n,o,f,j⟩:=h;refine(wbytes_one n (fun W q=>t W (q.below j fun i y b=>?_)) s g c r d).mono fun e w' p=>wrB_told (zAD w _) o f j p;rcases b with rfl|b
 ·omega
 ·have:=f i b;omega
theorem wrB_out (h:WrB B w k l)(f:l.length≤140737488355328) :
  Calls prog 106 #[.pointer (some ⟨k,0,none⟩)] w fun e w'=>∃v,e=.returned v∧zAi w' 5 v l∧(∀j,v.ownBlock=some j→B≤j)∧Below B w w':=by
 obtain⟨v,c,m,n,b⟩:=h;refine(wout_calls c f).mono ?_;rintro e w' ⟨u,rfl,g,hn,d⟩;exact⟨u,rfl,g,fun x i=>Nat.le_trans b (hn x i),d.mono b⟩
theorem zFL (zs:List Int)(h:zs.length≤4611686018427387904):(zDp zs).length≤9+9*zs.length:=by
 unfold zDp;rw[List.length_append];have b:=zAh h;have c:=zBA zs;omega
theorem zE9 (h:WrB B w k l){p:Option Addr}{n c:Nat}{zs:List Int}(q:∀W,Below B w W→zBY W (.slice p n c) zs)(r:∀z∈zs,-9223372036854775808≤z∧z≤9223372036854775807)(D:l.length+9+9*zs.length≤140737488354000) :
  Calls prog 169 #[.pointer (some ⟨k,0,none⟩),.slice p n c] w (WrNext B w k (l++zDp zs)):=by
 have hn:zs.length=n:=by obtain⟨_,_,e⟩:=(q w (Below.refl _ _)).slice;simp only[Value.slice.injEq]at e;exact e.2.1.symm
 have C:=zAh (n:=zs.length) (by omega);have a:=zW (zDp zs=zD5 zs.length++zAp zs) rfl;have j:=zFV h [(n:Int)] #[.int .i64 (n:Int)] rfl (by simp;omega) (by simp;omega) w.heap.size 1 1 rfl rfl (0,0);rw[show zAp [(n:Int)]=zD5 zs.length by rw[hn];simp[zAp,zB1 (show n≤4611686018427387904 by omega)]]at j;have s:=zh j;have t:=zh (fun(W:World) (h:WrB B W k (l++zD5 zs.length)) (hb:Below B w W)=>wrB_numsx h (fun A m=>q A (hb.trans m)) r (by rw[List.length_append];omega));clear j h q r hn C D
 go_enter func169,ntmps169
 go_wp2_with fail;refine s.o.mono ?_;rintro e w2 ⟨rfl,f,b⟩;have i:=zh b;have v:=zh (t.o w2 f b);clear f b;go_wp2_with fail;refine v.o.mono ?_;rintro e w3 ⟨rfl,g,d⟩;have y:=zW (WrNext B w k (l++zDp zs) (.returned (.tuple #[])) w3) (⟨rfl,by rw[a.o,←List.append_assoc];exact g,i.o.trans d⟩);clear g d;go_wp2_with fail
 go_end0
 exact y.o
end
def zBX (w:World)(b:Bs)(e:Ending)(w':World):Prop:=∃v,e=.returned v∧zAi w' 5 v b∧(∀k,v.ownBlock=some k→w.heap.size≤k)∧Below w.heap.size w w'
theorem zGO (w:World)(t v:Int)(C:-9223372036854775808≤t∧t≤9223372036854775807)(D:-9223372036854775808≤v∧v≤1099511627776):Calls prog 109 #[.int .i64 t,.int .i64 v] w (zBX w (zCU t v)):=by
 have B:=zh (wrB_new w);have l:Below w.heap.size w (w.alloc (.cells #[.slice none 0 0] 163)):=zAD w _;have m:=wrB_raw (wrB_new w) [2] #[.int .u8 2] rfl (by decide) (w.heap.size+1) 1 1 (by simp) rfl (0,0);have p:=zh m;have a:IntKind.i64.wrap (v+1)=v+1:=IntWalk.i64_in _ (by omega);have z:=zW (zCU t v=[2]++zAp [t,v+1]) (by simp[zCU,zAp]);have q:=zh (fun(W:World) (h:WrB w.heap.size W w.heap.size ([]++[2]))=>zFV h [t,v+1] #[.int .i64 t,.int .i64 (v+1)] rfl (by simp;omega) (by simp) W.heap.size 2 2 rfl rfl (0,0));clear m
 go_enter func109,ntmps109
 go_wp2_with fail;refine p.o.mono ?_;rintro e w2 ⟨rfl,g,b⟩;have j:=zh (l.trans (b.mono (Nat.le_refl _)));have r:=zh (q.o w2 g);clear g b;go_wp2_with fail;refine r.o.mono ?_;rintro e w3 ⟨rfl,i,c⟩;have k:=zh (j.o.trans c);have s:=zh (wrB_out i (by have:=zBA [t,v+1];simp at this ⊢;omega));clear i c;go_wp2_with fail;refine s.o.mono ?_;rintro e A ⟨u,rfl,n,f,d⟩;have y:=zW (zBX w (zCU t v) (.returned u) A) (⟨u,rfl,by rw[z.o];exact n,f,k.o.trans d⟩);clear n f d;go_wp2_with fail;go_ret;exact y.o
theorem entRec_calls {w:World}(n:Nat)(hn:n≤4611686018427387904){e:Ent}{v:EV}(h:zBH w e v)(he:zA1 e=true):Calls prog 100 #[.int .i64 (n:Int),zCf e v] w (zBX w (zEp n e)):=by
 obtain⟨t,k,b,d⟩:=e;obtain⟨v1,v2⟩:=v;have M:=zBF he;dsimp only at M;have y:=zAD w (.cells #[.int .i64 t,.int .i64 k,v1,v2] 50);have i:=zAI w (.cells #[.int .i64 t,.int .i64 k,v1,v2] 50);obtain⟨q,j,e1⟩:=h.data.slice;obtain⟨r,l,e2⟩:=h.nodes.slice;have X:v1=.slice q b.length j:=e1;have Y:v2=.slice r d.length l:=e2;subst X;subst Y;have H:=zh h;have HT:=zW (zEp n ⟨t,k,b,d⟩=([]++[3])++zAp [(n:Int),t,k]++zE3 b++zDp d) (by simp[zEp,zAp,zB1 hn]);have aa:=M.2.2.1;have ab:=M.2.2.2.1;have Hf:=zh M;clear e1 e2 h he M;unfold zCf;dsimp only
 go_enter func100,ntmps100
 go_wp2_with fail;have f:Below w.heap.size w ((w.alloc (.cells #[.int .i64 t,.int .i64 k,.slice q b.length j,.slice r d.length l] 50)).alloc (.cells #[.slice none 0 0] 163)):=y.alloc y.size _;have D:=wrB_new (w.alloc (.cells #[.int .i64 t,.int .i64 k,.slice q b.length j,.slice r d.length l] 50));have L:=(zC8 _ (.cells #[.slice none 0 0] 163) (zAB i)).trans i;have C:(w.alloc (.cells #[.int .i64 t,.int .i64 k,.slice q b.length j,.slice r d.length l] 50)).heap.size=w.heap.size+1:=by simp
 rw[C]at D;have H1:=zh (wrB_raw D [3] #[.int .u8 3] rfl (by decide) (w.heap.size+2) 1 1 (by simp) rfl (0,0));have hS:Below (w.heap.size+1) (w.alloc (.cells #[.int .i64 t,.int .i64 k,.slice q b.length j,.slice r d.length l] 50)) ((w.alloc (.cells #[.int .i64 t,.int .i64 k,.slice q b.length j,.slice r d.length l] 50)).alloc (.cells #[.slice none 0 0] 163)):=by rw[←C];exact zAD _ _
 have V:=zh L;have S:=zh f;generalize (w.alloc (.cells #[.int .i64 t,.int .i64 k,.slice q b.length j,.slice r d.length l] 50)).alloc (.cells #[.slice none 0 0] 163)=W0 at *;clear y i D L f C hS;generalize K:w.heap.size=B at *;refine H1.o.mono ?_;rintro e w2 ⟨rfl,O,f⟩;have g:=zh ((f.block B (by omega)).trans V.o);have T:=zW (Below B w w2) (S.o.trans (f.mono (Nat.le_succ _)));have H2:=zh (zFV O [(n:Int),t,k] #[.int .i64 (n:Int),.int .i64 t,.int .i64 k] rfl (by have:=Hf.o;simp;omega) (by simp) w2.heap.size 3 3 rfl rfl (0,0));have l0:=zAU g.o;have l1:=zAY g.o;have l0:w2.cell? ⟨B,0,none⟩=some (.int .i64 t):=l0;have l1:w2.cell? ⟨B,1,none⟩=some (.int .i64 k):=l1;clear O f;go_wp2_with fail;refine H2.o.mono ?_;rintro e w3 ⟨rfl,P,a⟩;have s:=zh ((a.block B (by omega)).trans g.o);have E:=zW (Below B w w3) (T.o.trans (a.mono (Nat.le_succ _)));have Z:=zBA [(n:Int),t,k];have H3:=zh (wrB_bytes P (pv:=q) (m:=b.length) (cv:=j) (x:=b) (fun W hb=>zAb.below H.o.data (by rw[K];exact E.o.trans (hb.mono (Nat.le_succ _)))) (by simp at Z ⊢;omega) w3.heap.size 1 rfl (0,0));have l2:w3.cell? ⟨B,2,none⟩=some (.slice q b.length j):=zAX s.o;clear P a l0 l1;go_wp2_with fail;refine H3.o.mono ?_;rintro e w4 ⟨rfl,Q,A⟩;have G:=zh ((A.block B (by omega)).trans s.o);have F:=zW (Below B w w4) (E.o.trans (A.mono (Nat.le_succ _)));have h8:(zE3 b).length≤65536+9:=by unfold zE3;have:=zAh (n:=b.length) (by omega);rw[List.length_append];omega
 have H4:=zh (zE9 Q (p:=r) (n:=d.length) (c:=l) (zs:=d) (fun W hb=>zAK.chg H.o.nodes (Chg.of_below (by rw[K];exact F.o.trans (hb.mono (Nat.le_succ _)))) fun _ _=>id) (fun z hz=>by have:=Hf.o.2.2.2.2 z hz;omega) (by simp at Z ⊢;omega));have l3:w4.cell? ⟨B,3,none⟩=some (.slice r d.length l):=zAf G.o;clear Q A l2;go_wp2_with fail;refine H4.o.mono ?_;rintro e w5 ⟨rfl,R,I⟩;have U:=zW (Below B w w5) (F.o.trans (I.mono (Nat.le_succ _)));have h7:=zFL d (by omega);have H5:=zh (wrB_out R (by simp at Z ⊢;omega));clear R I l3;go_wp2_with fail;refine H5.o.mono ?_;rintro e w6 ⟨u,rfl,hu,N,J⟩;have HE:=zW (zBX w (zEp n ⟨t,k,b,d⟩) (.returned u) w6) (⟨u,rfl,by rw[HT.o];exact hu,fun x hx=>by have:=N x hx;omega,by rw[K];exact U.o.trans (J.mono (Nat.le_succ _))⟩);clear hu N J;go_wp2_with fail;go_ret;exact HE.o
section
variable {w w1:World} {j d:Nat} {pre:ByteArray} {D:zAA} {M:zAJ} {F:Nat→Prop}
theorem jfirst_calls (h:zAk w w1 j d pre D M F):Calls prog 158 #[.pointer (some ⟨j,0,none⟩)] w1 (zBX w1 (zFJ M.number M.term M.group)):=by
 have k:=h.okM;have i:=k.last;have ht:=zAs.1 k.term;have V:=zCZ k.group;obtain⟨own,gv,dv,ev,vs,q,hS,hn,hl⟩:=h;have L:=q.c 0 rfl;have N:=q.c 1 rfl;have U:=q.c 2 rfl;obtain⟨pg,cg,m,-⟩:=zAw q.group;rw[m]at U;have HG:=zh (m▸q.group);unfold zAJ.last at i;have HT:=zW (zFJ M.number M.term M.group=[]++[1]++zAp [(M.number:Int),M.term]++zDp M.group) (by simp[zFJ,zAp,zB1 (show M.number≤4611686018427387904 by omega)]);have Hg:=zh V;have aa:=V.1;have a:=zAD w1 (.cells #[.slice none 0 0] 163);have Y:=zh (wrB_raw (wrB_new w1) [1] #[.int .u8 1] rfl (by decide) (w1.heap.size+1) 1 1 (by simp) rfl (0,0));have P:=zh a;have v:=zh (And.intro L N);have ab:M.number≤1099511627776:=by omega
 clear q hS hn hl m k V i a;generalize M.number=b at *;generalize M.term=t at *
 go_enter func158,ntmps158
 go_wp2_with fail;refine Y.o.mono ?_;rintro e w2 ⟨rfl,H,A⟩;have l:=zh (P.o.trans A);have L:=zAH L l.o;have N:=zAH N l.o;have R:=zh H;clear H A;go_wp2_with fail;refine ost (fun w':World=>w'.cell? ⟨j,0,none⟩=some (.int .i64 (b:Int))∧w'.cell? ⟨j,1,none⟩=some (.int .i64 t)) 12 (⟨L,N⟩) fun f=>?_;have s:=zh (R.o.keep (zAP w2));have r:=zh (l.o.trans ⟨rfl,rfl,rfl,Nat.le_refl _,fun _ _=>rfl⟩:Below w1.heap.size w1 w2.drew);generalize w2.drew=W2 at *;refine Pl [0,1,2,3,4,5,6,7,8,9] ?_
 iterate 10 (refine Pc rfl ?_;simp only[uZ])
 refine Pn ?_;refine oon 10 rfl fun K y=>?_;have T:=zh (And.intro (zBQ f.1 (.cells #[.int .i64 (b:Int),.int .i64 t] 3)) (zBQ f.2 (.cells #[.int .i64 (b:Int),.int .i64 t] 3)));have Z:=zh (zFV s.o [(b:Int),t] #[.int .i64 (b:Int),.int .i64 t] rfl (by simp;omega) (by simp) W2.heap.size 2 2 rfl rfl (0,0));go_wp2_with fail;refine y.o _ _ (T.o) fun f=>?_;clear y
 try simp only[uZ]
 refine oon 11 rfl fun K y=>?_;go_wp2_with fail;refine Z.o.mono ?_;rintro e w3 ⟨rfl,I,B⟩;have g:=zh (r.o.trans B);have U:=zAH U g.o;have S:=zh (And.intro (zAH v.out.1 g.o) (zAH v.out.2 g.o));have O:=zBA [(b:Int),t];have H5:=zh (zE9 I (p:=pg) (n:=M.group.length) (c:=cg) (zs:=M.group) (fun W hb=>zAK.chg (zCd.has HG.o) (Chg.of_below (g.o.trans hb)) fun _ _=>id) (fun z hz=>by have:=Hg.o.2 z hz;omega) (by simp at O ⊢;omega));clear I B O;go_wp2_with fail;refine y.o _ _ (S.o) fun f=>?_;clear y
 try simp only[uZ]
 refine odn ?_;go_wp2_with fail;refine H5.o.mono ?_;rintro e w4 ⟨rfl,J,C⟩;have Q:=zW (Below w1.heap.size w1 w4) (g.o.trans C);have h7:=zFL M.group (by omega);have H6:=zh (wrB_out J (by have O:=zBA [(b:Int),t];simp at O ⊢;omega));clear J C;go_wp2_with fail;refine H6.o.mono ?_;rintro e w6 ⟨u,rfl,X,G,E⟩;have HE:=zW (zBX w1 (zFJ b t M.group) (.returned u) w6) (⟨u,rfl,by rw[HT.o];exact X,G,Q.o.trans E⟩);clear X G E;go_wp2_with fail;go_ret;exact HE.o
end
theorem recsB_take {ls:List Bs}{k:Nat}(b:k<ls.length):zAS (ls.take (k+1))=zAS (ls.take k)++zAM ls[k]:=by
 rw[List.take_succ_eq_append_getElem b,zD8,zCA]
theorem recsB_take_le (ls:List Bs)(k:Nat):(zAS (ls.take k)).length≤(zAS ls).length:=by
 have h:zAS ls=zAS (ls.take k)++zAS (ls.drop k):=by rw[←zD8,List.take_append_drop]
 rw[h,List.length_append];omega
theorem zEu {w:World}{p:Option Addr}{n c:Nat}{ls:List Bs}(V:zBE w (.slice p n c) ls)(hn:n≤1099511627776)(h1:∀l∈ls,l.length≤1048576)(hl:(zAS ls).length≤1099511627776) :
  Calls prog 159 #[.slice p n c] w (zBX w (zAS ls)):=by
 obtain⟨i0,hi,X,Y,Z⟩:=info_parts (show(prog.info? 5).map (fun i=>(i.zero,i.size,i.bytes))=some (some (.int .u8 0),1,1) by kernel_rfl);have Hn:=zh (zBE.len V);have Hx:=zh V;have H1:=zh h1;have Hl:=zh hl;clear V h1 hl
 go_enter func159,ntmps159
 go_wp2_with fail
 go_loopw [3,10] (fun x i wr=>∃k:Nat,k≤n∧i=.int .i64 k∧zAi wr 5 x (zAS (ls.take k))∧(∀y,x.ownBlock=some y→w.heap.size≤y)∧Below w.heap.size w wr) (fun _ i _=>n-(intOf i).toNat)
 case atStart=>exact⟨0,Nat.zero_le _,rfl,OwnR.nil _ _ _,fun y hy=>(by cases hy),Below.refl _ _⟩
 case round =>
  obtain⟨k,hk,rfl,d,m,F⟩:=hrel
  by_cases S:k<n
  ·have h:k<ls.length:=by rw[←Hn.o];exact S
   have G:=zCt Hx.o F;obtain⟨-,b,o,v,rfl,P,U⟩:=zBE.row G h;have R:=H1.o _ (List.getElem_mem h);have B:=zh (recsB_take h);have I:=recsB_take_le ls (k+1);generalize ls[k]=y at *;obtain⟨pv,cv,rfl⟩:=U.slice;have K:=zh (enc_calls (zCE U 22 (0,0) _ 1 rfl (Nat.le_refl _)) (by decide) (by simpa using R));rw[show [y].flatten=y by simp]at K;have D:=zW ((zAS (ls.take k)).length+(zAM y).length≤1099511627776) (by
    have:=Hl.o;rw[B.o,List.length_append]at I;omega)
   have C:=zh (And.intro d (And.intro m F));clear U G d m F I;go_wp2_with fail;refine K.o.mono ?_;rintro e w2 ⟨u,rfl,T,-,H⟩;have a:Below wr.heap.size wr w2:=(zAD wr (.cells #[.slice pv y.length cv] 22)).trans (H.mono (by simp));have r:=zCD C.o.1 a;have t:=zh r;have s:=zh (C.o.2.2.trans (a.mono C.o.2.2.size));obtain⟨pu,cu,rfl⟩:=T.slice;have Hu:=zh T;have aa:=D.o;generalize M:(zAS (ls.take k)).length=A at *;generalize O:(zAM y).length=N at *;have E:=zW (OwnR w2 5 1 u3 A (zAR (zAS (ls.take k)))) (by have:=t.o;unfold zAi at this;rwa[M]at this);have L:=zW (zAK w2 1 (.slice pu N cu) N (zAR (zAM y))) (by have:=Hu.o;unfold zAb at this;rwa[O]at this);clear H a r T;have HA:=zh M;have HN:=zh O;clear M O;go_wp2_with (at_builtin;refine zAO _ rfl (.tmp 20) (.tmp 21) 22 rfl 5 i0 (.int .u8 0) 1 1 underlying22 hi X Y Z rfl (by decide) _ A _ rfl E.o (.slice pu N cu) N _ rfl L.o (zAN _) (by unfold maxLen;omega) (by omega) ?_;intro v3 w3 f j q;go_loud (have J:=zW (zAi w3 5 v3 (zAS (ls.take (k+1)))∧(∀y,v3.ownBlock=some y→w.heap.size≤y)∧Below w.heap.size w w3) (⟨by unfold zAi;rw[B.o,List.length_append,HA.o,HN.o,zBl];exact f,fun z W=>(by {rcases q with e|⟨g,e,Q⟩;exact C.o.2.1 z (e▸W);rw[W]at e;cases e;exact Nat.le_trans s.o.size Q}),s.o.trans ((Chg.of_grown j).below s.o.size fun z W e=>(by have:=C.o.2.1 z e.symm;omega))⟩);clear j q;obtain⟨p3,q3,rfl⟩:=OwnR.shape f;clear f))
   go_roundw
   case rel=>exact⟨k+1,by omega,by go_num,J.o⟩
   case measure=>simp[intOf];omega
  ·have he:ls.take k=ls:=List.take_of_length_le (by rw[←Hn.o];omega);rw[he]at d;have J:=zW (zBX w (zAS ls) (.returned u3) wr) (⟨u3,rfl,d,m,F⟩);clear d m F he;go_wp2_with fail;go_ret;exact J.o
end Go.Proofs.YtapfnehdgailmaaGreat
