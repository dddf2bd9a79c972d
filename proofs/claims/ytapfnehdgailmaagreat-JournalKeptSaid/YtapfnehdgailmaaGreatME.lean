/- What the program's functions and the document's do, and plain laws, for PJournalKept. -/
import Derived.Test.YtapfnehdgailmaaGreatMA
import Derived.Test.YtapfnehdgailmaaGreatMC
import Derived.Test.YtapfnehdgailmaaGreatMD
open Go.Proofs.Tryz
set_option maxRecDepth 100000
set_option maxHeartbeats 64000000
namespace Go.Proofs.YtapfnehdgailmaaGreat
open Go.RowKit Go.Sat Go.Maps
theorem zD0 {w:World}{x:Value}{l:List Int}(h:zBg w x l)(A:l.length≤1099511627776) :
  Calls prog 74 #[x] w fun e w'=>∃v,e=.returned v∧zCp w' v l∧(∀k,v.ownBlock=some k→w.heap.size≤k)∧Below w.heap.size w w':=by
 obtain⟨t,p,c,rfl,y,q⟩:=h;cases p with
 | none =>
  have i:l=[]:=List.eq_nil_of_length_eq_zero (y rfl);subst i;refine(Tryz.slices_Clone_int_nil _ c w).mono ?_;rintro e w' ⟨rfl,rfl⟩;exact⟨_,rfl,OwnR.nil _ _ _,fun k f=>(by cases f),Below.refl _ _⟩
 | some a =>
  by_cases hn:l=[]
  ·subst hn;refine(Tryz.slices_Clone_int_zero a c w).mono ?_;rintro e w' ⟨v,rfl,d,-,m⟩;exact⟨v,rfl,OwnR.of_kit d,fun k f=>OwnR.block_ge d f,m⟩
  ·obtain⟨b,o,z⟩:=a;have g:0<l.length:=by
    cases l with
    | nil=>exact absurd rfl hn
    | cons x r=>simp
   have i:=q _ rfl 0 (.int .i64 l[0]) (by rw[List.getElem?_map,List.getElem?_eq_getElem g];rfl);have n:z=none:=by
    have:=World.cell?_spot i;simpa[Addr.add]using this
   subst n;refine(Tryz.slices_Clone_int b o l.length c l w (Nat.le_refl _) (by omega) fun j s=>?_).mono ?_
   ·have:=q _ rfl j (.int .i64 l[j]) (by rw[List.getElem?_map,List.getElem?_eq_getElem s];rfl);have e:(⟨b,o,none⟩:Addr).add j=⟨b,o+j,none⟩:=by unfold Addr.add;split<;>simp_all
    rw[e]at this;rw[this];simp[List.getD,List.getElem?_eq_getElem s]
   ·rintro e w' ⟨v,rfl,d,-,m⟩;rw[List.take_length]at d;exact⟨v,rfl,OwnR.of_kit d,fun k f=>OwnR.block_ge d f,m⟩
theorem zD2 (w:World)(n:Int):Calls prog 112 #[.int .i64 n] w fun e w'=>e=.returned (.bool (zDG n))∧w'=w:=by
 by_cases c:0≤n
 ·by_cases d:n≤1099511627776
  focus have b:=zW (zDG n=true) (zAl.2 ⟨c,d⟩)
  rotate_left
  focus have b:=zW (zDG n=false) (by rw[Bool.eq_false_iff];intro e;exact d (zAl.1 e).2);have f:decide (n≤1099511627776)=false:=by simpa using d
  all_goals
   go_enter func112,ntmps112;go_wp2_with fail;go_ret;exact⟨by rw[b.o];rfl,rfl⟩
 ·have b:=zW (zDG n=false) (by rw[Bool.eq_false_iff];intro e;exact c (zAl.1 e).1);have f:decide (0≤n)=false:=by simpa using c
  go_enter func112,ntmps112
  go_wp2_with fail;go_ret;exact⟨by rw[b.o];rfl,rfl⟩
def zEB (l:List Int)(k:Nat):Int:=if k=0 then -1 else(l[k-1]?).getD 0
theorem zGQ {l:List Int}{k:Nat}(b:k<l.length):zEB l (k+1)=l[k]:=by
 unfold zEB;rw[if_neg (by omega),Nat.add_sub_cancel,List.getElem?_eq_getElem b];rfl
theorem zET {w:World}{p:Option Addr}{n c:Nat}{l:List Int}(h:zBg w (.slice p n c) l)(X:l.length≤1099511627776) :
  Calls prog 73 #[.slice p n c] w fun e w'=>e=.returned (.bool (zAX l))∧w'=w:=by
 have hn:l.length=n:=by obtain⟨_,_,e⟩:=h.slice;simp only[Value.slice.injEq]at e;exact e.2.1.symm
 rw[hn]at X;have H:=zh h;have t:=zh hn;clear h hn
 go_enter func73,ntmps73
 go_wp2_with fail
 go_loop [7] (fun i=>∃k:Nat,k≤n∧i=.int .i64 k∧zFi (-1) l=zFi (zEB l k) (l.drop k)∧-1≤zEB l k) (fun i=>n-(intOf i).toNat)
 case atStart=>exact⟨0,Nat.zero_le _,rfl,rfl,Int.le_refl _⟩
 case round =>
  obtain⟨k,hk,rfl,g,Y⟩:=hrel
  by_cases E:k<n
  ·have d:k<l.length:=by rw[t.o];exact E
   have v:=zW (¬(zEB l k<l[k]∧l[k]<7)→zAX l=false) (fun A=>by
    unfold zAX;rw[g,List.drop_eq_getElem_cons d];unfold zFi;rw[decide_eq_false A];rfl)
   have J:=zW (zEB l k<l[k]∧l[k]<7→zFi (-1) l=zFi (zEB l (k+1)) (l.drop (k+1))) (fun A=>by
    rw[g,List.drop_eq_getElem_cons d,zGQ d]
    show(decide _&&_)=_
    rw[decide_eq_true A,Bool.true_and])
   have L:=zh (zGQ d);rcases H.o.at with r|⟨b,o,K,a,B⟩
   ·rw[r]at d;simp at d
   rw[t.o]at a;simp only[Value.slice.injEq]at a;obtain⟨rfl,-,rfl⟩:=a;have Q:=B k _ (List.getElem?_eq_getElem d);have y:=zW (k≠0→w.cell? ⟨b,o+(k-1),none⟩=some (.int .i64 (zEB l k))) (fun r=>by
    have m:k-1<l.length:=by omega
    have:=B (k-1) _ (List.getElem?_eq_getElem m);rw[this];unfold zEB;rw[if_neg r,List.getElem?_eq_getElem m];rfl)
   have z:=zW (k=0→zEB l k=-1) (fun r=>by rw[r];rfl);clear B g;generalize l[k]=x at *;generalize zEB l k=q at *
   by_cases F:x<0
   ·have f:=zh (v.o (by omega));go_wp2_with fail;go_ret;exact⟨by rw[f.o];rfl,rfl⟩
   ·have T:decide (x<0)=false:=by simpa using F
    by_cases G:7≤x
    ·have f:=zh (v.o (by omega));go_wp2_with fail;go_ret;exact⟨by rw[f.o];rfl,rfl⟩
    ·have D:decide (7≤x)=false:=by simpa using G
     by_cases j:k=0
     ·have f:=zh (J.o (by rw[z.o j];omega));have U:decide ((0:Int)<(k:Int))=false:=by simp;omega
      have O:decide (0<k)=false:=by simp;omega
      clear j;go_wp2_with fail
      go_round
      case rel=>exact⟨k+1,by omega,by go_num,f.o,by rw[L.o];omega⟩
      case measure=>simp[intOf];omega
     ·have R:=y.o j;have m:(0:Int)<(k:Int):=by omega
      have P:0<k:=by omega
      have Z:IntKind.i64.wrap ((k:Int)-1)=((k-1:Nat):Int):=by rw[IntWalk.i64_in _ (by omega)];omega
      have W:k-1<n:=by omega
      by_cases I:x≤q
      ·have f:=zh (v.o (by omega));go_wp2_with fail;go_ret;exact⟨by rw[f.o];rfl,rfl⟩
      ·have f:=zh (J.o (by omega));have V:decide (x≤q)=false:=by simpa using I
       go_wp2_with fail
       go_round
       case rel=>exact⟨k+1,by omega,by go_num,f.o,by rw[L.o];omega⟩
       case measure=>simp[intOf];omega
  ·have s:l.drop k=[]:=List.drop_of_length_le (by rw[t.o];omega);have f:=zW (zAX l=decide (1≤n∧n≤7)) (by
    unfold zAX;rw[g,s,t.o];rfl)
   clear g s
   by_cases M:1≤n
   ·by_cases N:n≤7
    ·have C:decide ((1:Int)≤(n:Int))=true:=by simp;omega
     have D:decide ((n:Int)≤7)=true:=by simp;omega
     go_wp2_with fail;go_ret;exact⟨by rw[f.o,decide_eq_true (And.intro M N)];rfl,rfl⟩
    ·have C:decide ((1:Int)≤(n:Int))=true:=by simp;omega
     have S:decide ((n:Int)≤7)=false:=by simp;omega
     go_wp2_with fail;go_ret;exact⟨by rw[f.o,decide_eq_false (fun e=>N e.2)];rfl,rfl⟩
   ·have S:decide ((1:Int)≤(n:Int))=false:=by simp;omega
    go_wp2_with fail;go_ret;exact⟨by rw[f.o,decide_eq_false (fun e=>M e.1)];rfl,rfl⟩
structure zBa (w:World)(v:Value)(vs:List Value)(ls:List Bs):Prop where
 row:OwnR w 22 1 v ls.length vs
 has:∀(i:Nat) u b,vs[i]?=some u→ls[i]?=some b→zAk w 5 u b
 sep:∀u∈vs,∀k,u.ownBlock=some k→v.ownBlock≠some k
theorem zAv (w:World)(o:Obj):Below w.heap.size w (w.alloc o):=(Below.refl _ _).alloc (Nat.le_refl _) o
theorem zDn (w:World)(u:Value)(e:TypeId)(b:Nat×Nat):zAM (w.alloc (.cells #[u] e b)) 1 (.slice (some ⟨w.heap.size,0,none⟩) 1 1) 1 [u]:=by
 refine⟨rfl,some ⟨w.heap.size,0,none⟩,1,rfl,fun e=>(by cases e),fun a c i x d=>?_⟩;cases c;rw[add_zero];refine zAG (zAJ w _) ?_;simpa using d
section
variable {w w0 w1:World} {v v' u:Value} {vs:List Value} {ls:List Bs} {b:Bs}
theorem zBa.len (h:zBa w v vs ls):vs.length=ls.length:=by have:=h.row.1;omega
theorem zBa.below (h:zBa w v vs ls)(d:Below w.heap.size w w1):zBa w1 v vs ls :=
 ⟨h.row.keep fun k c=>d.block k (OwnR.lt h.row c),fun i u b g f=>OwnR.keep (h.has i u b g f) fun k c=>d.block k (OwnR.lt (h.has i u b g f) c),h.sep⟩
theorem zBa.nil (w:World):zBa w (.slice none 0 0) [] []:=⟨OwnR.nil _ _ _,fun i u b c=>(by simp at c),fun u c=>(by simp at c)⟩
theorem mem_rows (h:zBa w v vs ls){u:Value}(f:u∈vs):∃b,zAk w 5 u b:=by
 obtain⟨i,c,rfl⟩:=List.getElem_of_mem f;have d:i<ls.length:=by rw[←h.len];exact c
 exact⟨ls[i],h.has i _ _ (List.getElem?_eq_getElem c) (List.getElem?_eq_getElem d)⟩
theorem zBa.push (h:zBa w0 v vs ls)(y:zAk w0 5 u b)(n:∀k,u.ownBlock=some k→v.ownBlock≠some k)(o:OwnR w1 22 1 v' (ls.length+1) (vs++[u]))(z:w0.grownBy w1 v.ownBlock)(m:v'.ownBlock=v.ownBlock∨∃g,v'.ownBlock=some g∧w0.heap.size≤g) :
  zBa w1 v' (vs++[u]) (ls++[b]):=by
 have t:=h.len;have f:∀x c,zAk w0 5 x c→(∀k,x.ownBlock=some k→v.ownBlock≠some k)→zAk w1 5 x c:=fun x c d s=>OwnR.keep d fun k f=>z.block k (OwnR.lt d f) fun e=>s k f e.symm;have p:∀x c,zAk w0 5 x c→(∀k,x.ownBlock=some k→v.ownBlock≠some k)→∀k,x.ownBlock=some k→v'.ownBlock≠some k:=fun x c d s k f e=>by
  rcases m with q|⟨g,q,a⟩
  ·exact s k f (q▸e)
  ·rw[e]at q;cases q;have:=OwnR.lt d f;omega
 refine⟨by rw[List.length_append];exact o,fun i x c d j=>?_,fun x d k l=>?_⟩
 ·by_cases A:i<vs.length
  ·rw[List.getElem?_append_left A]at d;rw[List.getElem?_append_left (by omega)]at j;exact f x c (h.has i x c d j) (h.sep x (List.mem_of_getElem? d))
  ·rw[List.getElem?_append_right (by omega)]at d;rw[List.getElem?_append_right (by omega)]at j;have r:i-vs.length=0:=by
    have:=(List.getElem?_eq_some_iff.1 d).1;simp at this;omega
   rw[r]at d;rw[show i-ls.length=0 by omega]at j;cases d;cases j;exact f u b y n
 ·rcases List.mem_append.1 d with d|d
  ·obtain⟨c,j⟩:=mem_rows h d;exact p x c j (h.sep x d) k l
  ·have:x=u:=by simpa using d
   subst this;exact p x b y n k l
end
def zEI (B:Nat)(v:Value)(vs:List Value):Prop:=(∀k,v.ownBlock=some k→B≤k)∧∀u∈vs,∀k,u.ownBlock=some k→B≤k
theorem zEI.push {B:Nat}{w0:World}{v v' u:Value}{vs:List Value}(h:zEI B v vs)(i:∀j,u.ownBlock=some j→B≤j)(d:v'.ownBlock=v.ownBlock∨∃g,v'.ownBlock=some g∧w0.heap.size≤g)(k:B≤w0.heap.size):zEI B v' (vs++[u]):=by
 refine⟨fun j c=>?_,fun x b j c=>?_⟩
 ·rcases d with e|⟨g,e,f⟩
  ·exact h.1 j (e▸c)
  ·rw[c]at e;cases e;omega
 ·rcases List.mem_append.1 b with b|b
  ·exact h.2 x b j c
  ·rw[List.mem_singleton]at b;exact i j (b▸c)
def Scanned (w:World)(b:Bs)(e:Ending)(w':World):Prop:=∃v vs,e=.returned (.tuple #[v,.int .i64 ((zDv b).2:Int)])∧zBa w' v vs (zDv b).1∧zEI w.heap.size v vs∧Below w.heap.size w w'
def ScanRel (w:World)(b:Bs)(n:Nat)(x y:Value)(wr:World):Prop:=∃(k:Nat) (v:Value) (vs:List Value) (ls:List Bs),k≤n∧y=.int .i64 k∧v=x∧ls.length≤k∧zBa wr v vs ls∧zEI w.heap.size v vs∧Below w.heap.size w wr∧(zDv b).1=ls++(zDv (b.drop k)).1∧(zDv b).2=k+(zDv (b.drop k)).2
theorem scan_calls {w:World}{p:Option Addr}{n c:Nat}{b:Bs}(h:zAY w (.slice p n c) b)(Z:n≤c)(hl:b.length≤1073741824) :
  Calls prog 154 #[.slice p n c] w (Scanned w b):=by
 obtain⟨i1,ad,-,ag,-⟩:=info_parts (show(prog.info? 5).map (fun i=>(i.zero,i.size,i.bytes))=some (some (.int .u8 0),1,1) by kernel_rfl);obtain⟨i0,hi,ah,ai,aj⟩:=info_parts (show(prog.info? 22).map (fun i=>(i.zero,i.size,i.bytes))=some (some (.slice none 0 0),1,24) by kernel_rfl);have hn:b.length=n:=by obtain⟨_,_,e⟩:=h.slice;simp only[Value.slice.injEq]at e;exact e.2.1.symm
 have ak:n≤1073741824:=by omega
 have H:=zh h;have Hn:=zh hn;have ab:=zh Z;clear h hn Z hl
 go_enter func154,ntmps154
 go_wp2_with fail
 go_loopw [4,5] (ScanRel w b n) (fun _ y _=>n-(intOf y).toNat)
 case atStart=>exact⟨0,_,[],[],Nat.zero_le _,rfl,rfl,Nat.zero_le _,zBa.nil _,⟨fun k hk=>(by cases hk),fun u hu=>(by simp at hu)⟩,Below.refl _ _,by simp,by simp⟩
 case round =>
  obtain⟨k,v,vs,ls,hk,rfl,rfl,al,A,a,X,f,l⟩:=hrel
  by_cases ae:k<n
  ·obtain⟨r0,af⟩:∃r0,(Value.slice p n c).ownBlock≠some r0:=by
    cases(Value.slice p n c).ownBlock with
    | none=>exact⟨0,by simp⟩
    | some g=>exact⟨g+1,by simp⟩
   obtain⟨p',c',an,hh,Y,-⟩:=run_tail (P:=prog) underlying22 ad ag (zAY.below H.o X) ab.o r0 k af (Nat.le_of_lt ae);have R:=zh (dec_calls hh Y (by rw[List.length_drop,Hn.o];omega));have r:=zh (And.intro A (And.intro a (And.intro X (And.intro f l))));have ac:(b.drop k).length=n-k:=by rw[List.length_drop,Hn.o]
   clear hh Y A a X f l
   by_cases D:decE (b.drop k)=0
   ·have hL:=zEL D;rw[ac]at hL;have J:=zh (scan_go D);rw[List.drop_drop]at J;unfold zEG at R;rw[D]at R;generalize decL (b.drop k)=L at *;generalize decB (b.drop k)=x at *;clear D;go_wp2_with fail;refine R.o.mono ?_;rintro e w2 ⟨v2,rfl,N,M,s⟩;have C:=r.o.1.below s;have V:=zh N;have T:=zW (∀j,v2.ownBlock=some j→v.ownBlock≠some j) (fun j F e=>by have h1:=M j F;have h2:=OwnR.lt r.o.1.row e;omega);have aa:=zW (∀j,v2.ownBlock=some j→w.heap.size≤j) fun j F=>Nat.le_trans r.o.2.2.1.size (M j F);have I:=zh s;have S:=zh C;obtain⟨Q,O,rfl,-⟩:=zAN N;clear N M s C;generalize hq:x.length=q at *;have Hq:=zh hq;generalize hm:ls.length=m at *;have Hm:=zh hm;clear hq hm;have B:=zh (show OwnR w2 22 1 v m vs by have:=S.o.row;rwa[Hm.o]at this);go_wp2_with (at_builtin;have W:=B.o.keep (w':=w2.alloc (.cells #[.slice Q q O] 22)) (fun j F=>(zAv w2 _).block j (OwnR.lt B.o F));have K:=zDn w2 (.slice Q q O) 22 (0,0);refine zAP _ rfl (.tmp 23) (.tmp 25) 108 rfl 22 i0 (.slice none 0 0) 1 24 underlying108 hi ah ai aj rfl (by decide) v m _ rfl W (.slice (some ⟨w2.heap.size,0,none⟩) 1 1) 1 _ rfl K (by simp[Value.oneCell']) (by unfold maxLen;omega) (by omega) ?_;clear W K;intro v3 w3 z d t;go_loud (have hE:=zBa.push (b:=x) (S.o.below (zAv w2 (.cells #[.slice Q q O] 22))) (OwnR.keep V.o fun j F=>(zAv w2 _).block j (OwnR.lt V.o F)) T.o (by rw[Hm.o];exact z) d t;have hN:=zEI.push (u:=.slice Q q O) r.o.2.1 aa.o t (by have h1:=r.o.2.2.1.size;have h2:=I.o.size;have h3:=(zAv w2 (.cells #[.slice Q q O] 22)).size;omega);have hB:Below w.heap.size w w3:=by {have h1:=r.o.2.2.1.trans ((I.o.trans ((zAv w2 (.cells #[.slice Q q O] 22)).mono I.o.size)).mono r.o.2.2.1.size);exact((Chg.of_below h1).trans (Chg.of_grown d) fun j F e=>by have h5:=r.o.2.1.1 j e.symm;omega).below (Nat.le_refl _) fun _ _=>id};have G:=zh (And.intro hE (And.intro hN hB));clear hE hN hB d t;obtain⟨p3,q3,rfl⟩:=OwnR.shape z;clear z))
    go_roundw
    case rel=>exact⟨k+L,_,_,ls++[x],by omega,by go_num,rfl,by rw[List.length_append,Hm.o];simp;omega,G.o.1,G.o.2.1,G.o.2.2,by rw[r.o.2.2.2.1,J.o];simp,by rw[r.o.2.2.2.2,J.o];simp;omega⟩
    case measure=>simp[intOf];omega
   ·have U:=zh (zB6 (.inr D));have am:((decE (b.drop k):Int) != 0)=true:=by simp;omega
    unfold zEG at R;generalize decE (b.drop k)=E at *;generalize decL (b.drop k)=L at *;go_wp2_with fail;refine R.o.mono ?_;rintro e w2 ⟨v2,rfl,-,-,s⟩;have G:=zW (Scanned w b (.returned (.tuple #[v,.int .i64 (k:Int)])) w2) (⟨v,vs,by rw[r.o.2.2.2.2,U.o];rfl,by rw[r.o.2.2.2.1,U.o,List.append_nil];exact r.o.1.below s,r.o.2.1,r.o.2.2.1.trans (s.mono r.o.2.2.1.size)⟩);clear s;go_wp2_with fail
    go_ret2
    exact G.o
  ·have D:b.drop k=[]:=List.drop_of_length_le (by rw[Hn.o];omega);rw[D,zB6 (.inl rfl)]at f l;have G:=zW (Scanned w b (.returned (.tuple #[v,.int .i64 (k:Int)])) wr) (⟨v,vs,by rw[l];rfl,by rw[f,List.append_nil];exact A,a,X⟩);clear A a X f l D;go_wp2_with fail
   go_ret2
   exact G.o
def zDx (e:Ent)(v:EV):Value:=.agg #[.int .i64 e.term,.int .i64 e.kind,v.1,v.2]
structure zBS (w:World)(e:Ent)(v:EV):Prop where
 data:zAY w v.1 e.data
 nodes:zBg w v.2 e.nodes
 dl:e.data.length≤1099511627776
 nl:e.nodes.length≤1099511627776
theorem zBS.below {w w':World}{e:Ent}{v:EV}(h:zBS w e v)(b:Below w.heap.size w w'):zBS w' e v:=⟨zAY.below h.data b,zAM.chg h.nodes (Chg.of_below b) fun _ _=>id,h.dl,h.nl⟩
theorem zDg.has {w:World}{e:Ent}{v:EV}(h:zDg w e v)(b:e.data.length≤1099511627776)(hn:e.nodes.length≤1099511627776):zBS w e v:=⟨zAk.has h.data,zCp.has h.nodes,b,hn⟩
theorem ent_zero {e:Ent}(b:e.kind=0):zAt e=(zDG e.term&&decide (e.data.length=0∧e.nodes.length=0)):=by
 unfold zAt;rw[if_pos b];simp[List.length_eq_zero_iff]
theorem ent_one {e:Ent}(b:e.kind=1):zAt e=(zDG e.term&&decide (1≤e.data.length∧e.data.length≤65536∧e.nodes.length=0)):=by
 unfold zAt;rw[if_neg (by omega),if_pos b];simp[List.length_eq_zero_iff]
theorem ent_two {e:Ent}(b:e.kind=2):zAt e=(zDG e.term&&(decide (e.data.length=0)&&zAX e.nodes)):=by
 unfold zAt;rw[if_neg (by omega),if_neg (by omega),if_pos b];simp[List.length_eq_zero_iff]
theorem ent_none {e:Ent}(b:e.kind≠0)(c:e.kind≠1)(d:e.kind≠2):zAt e=false:=by
 unfold zAt;rw[if_neg b,if_neg c,if_neg d,Bool.and_false]
theorem isone_calls {w:World}{e:Ent}{v:EV}(h:zBS w e v) :
  Calls prog 99 #[zDx e v] w fun r w'=>r=.returned (.bool (zAt e))∧Below w.heap.size w w':=by
 obtain⟨t,k,i,f⟩:=e;obtain⟨A,v2⟩:=v;have H:=zAC w (.cells #[.int .i64 t,.int .i64 k,A,v2] 50);have T:=zW (Calls prog 73 #[v2] (w.alloc (.cells #[.int .i64 t,.int .i64 k,A,v2] 50)) fun e w'=>e=.returned (.bool (zAX f))∧w'=w.alloc (.cells #[.int .i64 t,.int .i64 k,A,v2] 50)) (by
  have hn:=(h.below H).nodes;obtain⟨p,c,X⟩:=hn.slice;have P:v2=.slice p f.length c:=X;subst P;exact zET hn h.nl)
 have g:=zh (zD2 (w.alloc (.cells #[.int .i64 t,.int .i64 k,A,v2] 50)) t);have j:=zh H;have N:=h.dl;have O:=h.nl;obtain⟨Y,U,R⟩:=h.data.slice;obtain⟨Z,V,S⟩:=h.nodes.slice;have F:A=.slice Y i.length U:=R;have G:v2=.slice Z f.length V:=S;subst F;subst G;clear R S h H;dsimp only at N O;have B:=zh (ent_zero (e:=⟨t,k,i,f⟩));have C:=zh (ent_one (e:=⟨t,k,i,f⟩));have D:=zh (ent_two (e:=⟨t,k,i,f⟩));have Q:=zh (ent_none (e:=⟨t,k,i,f⟩));have E:=zW (zDG t=false→zAt ⟨t,k,i,f⟩=false) (fun h=>by unfold zAt;rw[h,Bool.false_and]);unfold zDx;dsimp only at B C D Q ⊢;generalize zAt ⟨t,k,i,f⟩=K at *;cases z:zDG t with
 | false =>
  rw[z]at g;have d:=zh (E.o z)
  go_enter func99,ntmps99
  go_wp2_with fail;refine g.o.mono ?_;rintro e w' ⟨rfl,rfl⟩;go_wp2_with fail;go_ret;exact⟨by rw[d.o];rfl,j.o⟩
 | true =>
  rw[z]at g B C D
  by_cases l:k=0
  ·have d:=zh (B.o l);have I:(k==0)=true:=by simpa using l
   clear l z;generalize i.length=n at *;generalize f.length=m at *
   by_cases hn:n=0
   focus
    have s:((n:Int)==0)=true:=by simp;omega
    have b:decide (n=0∧m=0)=((m:Int)==0):=by rw[Bool.eq_iff_iff];simp;omega
   rotate_left
   focus
    have s:((n:Int)==0)=false:=by simp;omega
    have b:decide (n=0∧m=0)=false:=by simp;omega
   all_goals
    rw[b]at d;clear hn b;go_enter func99,ntmps99;go_wp2_with fail;refine g.o.mono ?_;rintro e w' ⟨rfl,rfl⟩;go_wp2_with fail;go_ret;exact⟨by rw[d.o];simp,j.o⟩
  ·have I:(k==0)=false:=by simpa using l
   by_cases q:k=1
   ·have d:=zh (C.o q);have J:(k==1)=true:=by simpa using q
    clear l z q;generalize i.length=n at *;generalize f.length=m at *
    by_cases hn:1≤n
    ·by_cases W:n≤65536
     focus
      have a:decide ((1:Int)≤(n:Int))=true:=by simp;omega
      have M:decide ((n:Int)≤65536)=true:=by simp;omega
      have b:decide (1≤n∧n≤65536∧m=0)=((m:Int)==0):=by rw[Bool.eq_iff_iff];simp;omega
     rotate_left
     focus
      have a:decide ((1:Int)≤(n:Int))=true:=by simp;omega
      have M:decide ((n:Int)≤65536)=false:=by simp;omega
      have b:decide (1≤n∧n≤65536∧m=0)=false:=by simp;omega
     all_goals
      rw[b]at d;clear b;go_enter func99,ntmps99;go_wp2_with fail;refine g.o.mono ?_;rintro e w' ⟨rfl,rfl⟩;go_wp2_with fail;go_ret;exact⟨by rw[d.o];simp,j.o⟩
    ·have a:decide ((1:Int)≤(n:Int))=false:=by simp;omega
     have b:decide (1≤n∧n≤65536∧m=0)=false:=by simp;omega
     rw[b]at d;clear b
     go_enter func99,ntmps99
     go_wp2_with fail;refine g.o.mono ?_;rintro e w' ⟨rfl,rfl⟩;go_wp2_with fail;go_ret;exact⟨by rw[d.o];simp,j.o⟩
   ·have J:(k==1)=false:=by simpa using q
    by_cases y:k=2
    ·have d:=zh (D.o y);have L:(k==2)=true:=by simpa using y
     clear l z q y;generalize i.length=n at *;generalize f.length=m at *
     by_cases hn:n=0
     ·have s:((n:Int)==0)=true:=by simp;omega
      have b:decide (n=0)=true:=by simpa using hn
      rw[b]at d;clear hn b
      go_enter func99,ntmps99
      go_wp2_with fail;refine g.o.mono ?_;rintro e w' ⟨rfl,rfl⟩;go_wp2_with fail;refine T.o.mono ?_;rintro e w' ⟨rfl,rfl⟩;go_wp2_with fail;go_ret;exact⟨by rw[d.o];simp,j.o⟩
     ·have s:((n:Int)==0)=false:=by simp;omega
      have b:decide (n=0)=false:=by simpa using hn
      rw[b]at d;clear hn b
      go_enter func99,ntmps99
      go_wp2_with fail;refine g.o.mono ?_;rintro e w' ⟨rfl,rfl⟩;go_wp2_with fail;go_ret;exact⟨by rw[d.o];simp,j.o⟩
    ·have L:(k==2)=false:=by simpa using y
     have d:=zh (Q.o l q y);clear l q y
     go_enter func99,ntmps99
     go_wp2_with fail;refine g.o.mono ?_;rintro e w' ⟨rfl,rfl⟩;go_wp2_with fail;go_ret;exact⟨by rw[d.o];rfl,j.o⟩
def EntNew (w:World)(e:Ent)(r:Ending)(w':World):Prop:=∃v:EV,r=.returned (zDx e v)∧zDg w' e v∧(∀k,(v.1.ownBlock=some k∨v.2.ownBlock=some k)→w.heap.size≤k)∧Below w.heap.size w w'
theorem own_calls {w:World}{e:Ent}{v:EV}(h:zBS w e v):Calls prog 102 #[zDx e v] w (EntNew w e):=by
 obtain⟨t,k,c,f⟩:=e;obtain⟨S,v2⟩:=v;have P:=zAC w (.cells #[.int .i64 t,.int .i64 k,S,v2] 50);have X:Below w.heap.size w ((w.alloc (.cells #[.int .i64 t,.int .i64 k,S,v2] 50)).alloc (.cells #[.int .i64 0,.int .i64 0,.slice none 0 0,.slice none 0 0] 50)):=P.alloc P.size _;have m:((w.alloc (.cells #[.int .i64 t,.int .i64 k,S,v2] 50)).alloc (.cells #[.int .i64 0,.int .i64 0,.slice none 0 0,.slice none 0 0] 50)).heap[w.heap.size]?=some (.cells #[.int .i64 t,.int .i64 k,S,v2] 50 (0,0)):=(zDU _ _ (by simp)).trans (zAJ w _);have G:((w.alloc (.cells #[.int .i64 t,.int .i64 k,S,v2] 50)).alloc (.cells #[.int .i64 0,.int .i64 0,.slice none 0 0,.slice none 0 0] 50)).heap[w.heap.size+1]?=some (.cells #[.int .i64 0,.int .i64 0,.slice none 0 0,.slice none 0 0] 50 (0,0)):=by
  have:=zAJ (w.alloc (.cells #[.int .i64 t,.int .i64 k,S,v2] 50)) (.cells #[.int .i64 0,.int .i64 0,.slice none 0 0,.slice none 0 0] 50);simpa using this
 have H:=zh h;have Y:=h.dl;have ab:=h.nl;obtain⟨p1,c1,e1⟩:=h.data.slice;obtain⟨p2,c2,e2⟩:=h.nodes.slice;have ak:S=.slice p1 c.length c1:=e1;have al:v2=.slice p2 f.length c2:=e2;dsimp only at Y ab;subst ak;subst al;clear e1 e2 h P;unfold zDx;dsimp only
 go_enter func102,ntmps102
 go_wp2_with fail;generalize (w.alloc (.cells #[.int .i64 t,.int .i64 k,.slice p1 c.length c1,.slice p2 f.length c2] 50)).alloc (.cells #[.int .i64 0,.int .i64 0,.slice none 0 0,.slice none 0 0] 50)=W0 at *;generalize A:w.heap.size=b at *;have l2:=zAo m;have l3:=zBI m;have L:=zh (And.intro m (And.intro G X));clear m G X;refine zDX [7,9] (fun w':World=>w'.heap[b]?=some (.cells #[.int .i64 t,.int .i64 k,.slice p1 c.length c1,.slice p2 f.length c2] 50 (0,0))) (n:=10) (by kernel_rfl) rfl (L.o.1) fun d=>?_;clear l2 l3;refine gtk 0 (v:=?v1x0) rfl ?_;simp only[uZ];refine zEz 1 (v:=.slice p1 c.length c1) rfl (by kernel_rfl) (by kernel_rfl) (by kernel_rfl) (by kernel_rfl) (fun _ _ _ h=>h) (by rfl) (by assumption) (fun W O=>by have l2:=zAo O;go_simp;try with_reducible rfl) ?_;simp only[uZ];refine gtk 3 (v:=?v1x3) rfl ?_;simp only[uZ];refine zEz 4 (v:=.slice p2 f.length c2) rfl (by kernel_rfl) (by kernel_rfl) (by kernel_rfl) (by kernel_rfl) (fun _ _ _ h=>h) (by rfl) (by assumption) (fun W O=>by have l3:=zBI O;go_simp;try with_reducible rfl) ?_;simp only[uZ];refine zEP 2 rfl (by kernel_rfl) (by rfl) (fun K y=>?_);have af:=zh (zB2 (zAY.below (H.o.below (A▸L.o.2.2)).data (zAU W0)) (Nat.le_trans Y (by decide)));go_wp2_with fail;refine af.o.mono ?_;rintro r w3 ⟨v5,rfl,Q,Z,D⟩;have I:=zW (Below b w w3) (L.o.2.2.trans ((zAU W0).trans D |>.mono (A▸L.o.2.2.size)));have M:=zh ((D.block b (Array.getElem?_eq_some_iff.1 d).1).trans d);have J:=zW (w3.heap[b+1]?=_) ((D.block (b+1) (Array.getElem?_eq_some_iff.1 L.o.2.1).1).trans L.o.2.1);have U:=zh (And.intro Q (show ∀k,v5.ownBlock=some k→b+2≤k from fun k hk=>Nat.le_trans (by have:=(Array.getElem?_eq_some_iff.1 L.o.2.1).1;show b+2≤W0.heap.size;omega) (Z k hk)));obtain⟨pv,cv,rfl,-⟩:=zAN Q;clear Q Z D;go_wp2_with fail;refine y.o _ _ (M.o) fun d=>?_;clear y
 try simp only[uZ]
 refine gpu 6 (v:=?v1x6) rfl ?_;simp only[uZ];refine zEP 5 rfl (by kernel_rfl) (by rfl) (fun K y=>?_);have ag:=zh (zD0 (H.o.below (A▸I.o)).nodes ab);go_wp2_with fail;refine ag.o.mono ?_;rintro r E ⟨v8,rfl,R,aa,g⟩;have ac:=zW (Below b w E) (I.o.trans (g.mono (A▸I.o.size)));have C:=zh ((g.block b (Array.getElem?_eq_some_iff.1 M.o).1).trans M.o);have ad:=zh ((g.block (b+1) (Array.getElem?_eq_some_iff.1 J.o).1).trans J.o);have p:=zh (And.intro (zCM U.o.1 g) (And.intro R (show ∀k,v8.ownBlock=some k→b+2≤k from fun k hk=>Nat.le_trans (by have:=(Array.getElem?_eq_some_iff.1 J.o).1;omega) (aa k hk))));have F:=zh U.o.2;obtain⟨s,q,rfl,-⟩:=zAw R;clear R aa g;go_wp2_with fail;refine y.o _ _ (C.o) fun d=>?_;clear y
 try simp only[uZ]
 refine g_end 7 rfl (by kernel_rfl) (by rfl) (by kernel_rfl) (fun K y=>?_);have ai:=zAo C.o;have am:=zAE C.o 2;have N:=zh (zAD C.o 2 (.slice pv c.length cv));go_wp2_with fail;refine y.o _ _ ?_;clear y
 try simp only[uZ]
 refine g_pure 8 (v:=?v1x8) rfl (by kernel_rfl) (by kernel_rfl) (by kernel_rfl) (by kernel_rfl) (fun _ _ _ h=>h) (by rfl) ?y1x8 ?_
 case y1x8=>(intro w;go_simp;try with_reducible rfl)
 simp only[uZ];refine g_end 9 rfl (by kernel_rfl) (by rfl) (by kernel_rfl) (fun K y=>?_);have aj:=zBI N.o;have an:=zAE N.o 3;have ah:=zh (zAD N.o 3 (.slice s f.length q));go_wp2_with fail;refine y.o _ _ ?_;clear y
 try simp only[uZ]
 refine zEy (by kernel_rfl) ?_ _;have a:((E.setCell ⟨b,2,none⟩ (.slice pv c.length cv)).setCell ⟨b,3,none⟩ (.slice s f.length q)).heap[b]?=some (.cells #[.int .i64 t,.int .i64 k,.slice pv c.length cv,.slice s f.length q] 50 (0,0)):=by simpa using ah.o
 have l:((E.setCell ⟨b,2,none⟩ (.slice pv c.length cv)).setCell ⟨b,3,none⟩ (.slice s f.length q)).heap[b+1]?=some (.cells #[.int .i64 0,.int .i64 0,.slice none 0 0,.slice none 0 0] 50 (0,0)):=(set_other _ (by show b+1≠b;omega)).trans ((set_other _ (by show b+1≠b;omega)).trans ad.o);have HF:=zW (Chg (fun j=>j=b) E ((E.setCell ⟨b,2,none⟩ (.slice pv c.length cv)).setCell ⟨b,3,none⟩ (.slice s f.length q))) ((Chg.setCell E ⟨b,2,none⟩ _).trans (Chg.setCell _ ⟨b,3,none⟩ _) fun _ _ e=>e);clear ai am aj an;generalize (E.setCell ⟨b,2,none⟩ (.slice pv c.length cv)).setCell ⟨b,3,none⟩ (.slice s f.length q)=V at *;have d0:=zAd a;have d1:=zAn a;have d2:=zAo a;have d3:=zBI a;have e0:=zAd l;have e1:=zAn l;have e2:=zAo l;have e3:=zBI l;have fr:=zAE l;have ae:=zh l;clear a l;go_wp2_with fail;have B:((((V.setCell ⟨b+1,0,none⟩ (.int .i64 t)).setCell ⟨b+1,1,none⟩ (.int .i64 k)).setCell ⟨b+1,2,none⟩ (.slice pv c.length cv)).setCell ⟨b+1,3,none⟩ (.slice s f.length q)).heap[b+1]?=some (.cells #[.int .i64 t,.int .i64 k,.slice pv c.length cv,.slice s f.length q] 50 (0,0)):=by
  have h1:=zAD ae.o 0 (.int .i64 t);have h2:=zAD h1 1 (.int .i64 k);have h3:=zAD h2 2 (.slice pv c.length cv);have h4:=zAD h3 3 (.slice s f.length q);simpa using h4
 have HG:=zW (Chg (fun j=>j=b+1) V ((((V.setCell ⟨b+1,0,none⟩ (.int .i64 t)).setCell ⟨b+1,1,none⟩ (.int .i64 k)).setCell ⟨b+1,2,none⟩ (.slice pv c.length cv)).setCell ⟨b+1,3,none⟩ (.slice s f.length q))) ((((Chg.setCell V ⟨b+1,0,none⟩ _).trans (Chg.setCell _ ⟨b+1,1,none⟩ _) fun _ _ e=>e).trans (Chg.setCell _ ⟨b+1,2,none⟩ _) fun _ _ e=>e).trans (Chg.setCell _ ⟨b+1,3,none⟩ _) fun _ _ e=>e);clear d0 d1 d2 d3 e0 e1 e2 e3 fr;generalize (((V.setCell ⟨b+1,0,none⟩ (.int .i64 t)).setCell ⟨b+1,1,none⟩ (.int .i64 k)).setCell ⟨b+1,2,none⟩ (.slice pv c.length cv)).setCell ⟨b+1,3,none⟩ (.slice s f.length q)=W6 at *;have z0:=zAd B;have z1:=zAn B;have z2:=zAo B;have z3:=zBI B;have HE:=zW (EntNew w ⟨t,k,c,f⟩ (.returned (zDx ⟨t,k,c,f⟩ (.slice pv c.length cv,.slice s f.length q))) W6) (by
  have hC:Chg (fun j=>j=b∨j=b+1) E W6:=(HF.o.mono fun _ _ e=>.inl e).trans (HG.o.mono (T:=fun j=>j=b∨j=b+1) fun _ _ e=>.inr e) fun _ _ e=>e;refine⟨(.slice pv c.length cv,.slice s f.length q),rfl,⟨OwnR.keep p.o.1 fun j z=>hC.block j (OwnR.lt p.o.1 z) fun e=>?_,OwnR.keep p.o.2.1 fun j z=>hC.block j (OwnR.lt p.o.2.1 z) fun e=>?_⟩,fun j z=>?_,?_⟩
  ·have:=F.o j z;omega
  ·have:=p.o.2.2 j z;omega
  ·rcases z with z|z
   ·have:=F.o j z;omega
   ·have:=p.o.2.2 j z;omega
  ·have g:Below w.heap.size w E:=by rw[A];exact ac.o
   exact((Chg.of_below g).trans hC fun i hi e=>by omega:Chg (fun _=>False) w W6).below (Nat.le_refl _) fun _ _ e=>e)
 (try simp only[Exit.inBlock,Exit.then])
 refine bodyPost_ret (results_cell_row rfl _ W6 (b+1) _ _ (0,0) _ rfl B underlying50 rfl (by kernel_rfl)) rfl ?_;exact HE.o
section
variable {w w1:World} {j d:Nat} {pre:ByteArray} {D:zAA} {M:zAH} {F:Nat→Prop}
theorem zD4 (h:zAj w w1 j d pre D M F):Calls prog 98 #[.pointer (some ⟨j,0,none⟩)] w1 fun e w'=>e=.returned (.int .i64 (if M.dead then 9 else 0))∧w'=w1:=by
 obtain⟨own,l,dv,k,vs,f,hS,hn,i⟩:=h;have b:=f.c 9 rfl;clear f hS hn i;cases g:M.dead with
 | true =>
  rw[g]at b
  go_enter func98,ntmps98
  go_wp2_with fail;go_ret;exact⟨rfl,rfl⟩
 | false =>
  rw[g]at b
  go_enter func98,ntmps98
  go_wp2_with fail;go_ret;exact⟨rfl,rfl⟩
theorem jterm_calls (h:zAj w w1 j d pre D M F):Calls prog 29 #[.pointer (some ⟨j,0,none⟩)] w1 fun e w'=>e=.returned (.tuple #[.int .i64 M.now,.int .i64 M.vote])∧∃q,w'=w1.drewN q:=by
 obtain⟨own,l,dv,k,vs,b,hS,hn,f⟩:=h;have g:=b.c 5 rfl;have i:=b.c 6 rfl;clear b hS hn f
 go_enter func29,ntmps29
 go_wp2_with fail
 go_quiet (fail)
 go_wp2_with fail
 go_ret2
 exact⟨rfl,_,rfl⟩
theorem zFk (h:zAj w w1 j d pre D M F):Calls prog 31 #[.pointer (some ⟨j,0,none⟩)] w1 fun e w'=>e=.returned (.tuple #[.int .i64 (M.number:Int),.int .i64 M.term])∧∃q,w'=w1.drewN q:=by
 obtain⟨own,l,dv,k,vs,b,hS,hn,f⟩:=h;have g:=b.c 0 rfl;have i:=b.c 1 rfl;clear b hS hn f
 go_enter func31,ntmps31
 go_wp2_with fail
 go_quiet (fail)
 go_wp2_with fail
 go_ret2
 exact⟨rfl,_,rfl⟩
theorem zCr (h:zAj w w1 j d pre D M F):Calls prog 25 #[.pointer (some ⟨j,0,none⟩)] w1 fun e w'=>e=.returned (.tuple #[.int .i64 (M.last:Int),.int .i64 M.lastT])∧∃q,w'=w1.drewN q:=by
 have B:=zh (zFk h);have f:=h.okM.last;obtain⟨own,Q,dv,P,vs,m,hS,hn,A⟩:=h;have O:=m.c 0 rfl;have y:=m.c 8 rfl;obtain⟨p,c,l⟩:=m.row.shape;have t:=zW (M.last=M.number+M.entries.length) rfl
 by_cases r:M.entries.length=0
 ·have a:M.entries=[]:=List.eq_nil_of_length_eq_zero r;have s:=zW ((M.last:Int)=(M.number:Int)∧M.lastT=M.term) (⟨by rw[t.o,r];rfl,by unfold zAH.lastT;rw[a];rfl⟩);rw[l,r]at y;clear m hS hn A l a r f
  go_enter func25,ntmps25
  go_wp2_with fail;refine B.o.mono ?_;rintro e w' ⟨rfl,q,rfl⟩;go_wp2_with fail
  go_ret2
  exact⟨by rw[s.o.1,s.o.2];rfl,q,rfl⟩
 ·have i:M.entries.length-1<M.entries.length:=by omega
  obtain⟨g,N,v,k,G,-,J,-,-,-⟩:=m.ent (List.getElem?_eq_getElem i);have z:M.lastT=M.entries[M.entries.length-1].term:=by
   unfold zAH.lastT;rw[List.getLast?_eq_getElem?,List.getElem?_eq_getElem i]
  rw[←z]at J;rw[k]at y;unfold zAH.last at f;clear m hS hn A l k G i z;generalize M.entries.length=n at *;generalize M.number=b at *;generalize M.last=L at *;generalize M.lastT=R at *;have E:(0:Int)<(n:Int):=by omega
  have H:IntKind.i64.wrap ((b:Int)+(n:Int))=(L:Int):=by rw[IntWalk.i64_in _ (by omega),t.o];omega
  have I:IntKind.i64.wrap ((n:Int)-1)=((n-1:Nat):Int):=by rw[IntWalk.i64_in _ (by omega)];omega
  have C:n-1<n:=by omega
  go_enter func25,ntmps25
  go_wp2_with fail
  go_quiet (fail)
  go_wp2_with fail
  go_ret2
  exact⟨rfl,_,rfl⟩
theorem zD3 (h:zAj w w1 j d pre D M F)(i:Int)(A:-9223372036854775808≤i∧i≤9223372036854775807) :
  Calls prog 103 #[.pointer (some ⟨j,0,none⟩),.int .i64 i] w1 fun e w'=>e=.returned (.bool (decide ((M.number:Int)<i∧i≤(M.last:Int))))∧∃q,w'=w1.drewN q:=by
 have f:=h.okM.last;obtain⟨own,a,dv,z,vs,g,hS,hn,t⟩:=h;have v:=g.c 0 rfl;have y:=g.c 8 rfl;obtain⟨p,c,rfl⟩:=g.row.shape;have l:M.last=M.number+M.entries.length:=rfl;clear g hS hn t;generalize M.entries.length=n at *;generalize M.number=b at *;generalize M.last=r at *
 by_cases m:(b:Int)<i
 focus have B:IntKind.i64.wrap (i-(b:Int))=i-(b:Int):=IntWalk.i64_in _ (by omega);have k:=zW (decide ((b:Int)<i∧i≤(r:Int))=decide (i-(b:Int)≤(n:Int))) (by rw[Bool.eq_iff_iff];simp only[decide_eq_true_eq];omega);have s:decide ((b:Int)<i)=true:=by simpa using m
 rotate_left
 focus
  have s:decide ((b:Int)<i)=false:=by simpa using m
  have k:=zW (decide ((b:Int)<i∧i≤(r:Int))=false) (by rw[decide_eq_false_iff_not];omega)
 all_goals
  clear l f;go_enter func103,ntmps103;go_wp2_with fail;go_quiet (fail);go_wp2_with fail;go_ret;exact⟨by rw[k.o];rfl,_,rfl⟩
theorem jmv_calls (h:zAj w w1 j d pre D M F)(t v:Int):Calls prog 108 #[.pointer (some ⟨j,0,none⟩),.int .i64 t,.int .i64 v] w1 fun e w'=>e=.returned (.bool (M.mayVote t v))∧w'=w1:=by
 obtain⟨own,N,dv,L,vs,m,hS,hn,B⟩:=h;have C:=m.c 5 rfl;have E:=m.c 6 rfl;have i:=zW (M.mayVote t v=(decide (M.now≤t∧t≤1099511627776∧-1≤v∧v<7)&& !decide (t=M.now∧M.vote≠-1∧v≠M.vote))) rfl;clear m hS hn B;generalize M.mayVote t v=r at *;generalize M.now=a at *;generalize M.vote=b at *
 by_cases s:t<a
 ·have f:=zW (r=false) (by rw[i.o];simp;omega)
  go_enter func108,ntmps108
  go_wp2_with fail;go_ret;exact⟨by rw[f.o];rfl,rfl⟩
 ·have G:decide (t<a)=false:=by simpa using s
  by_cases y:1099511627776<t
  ·have f:=zW (r=false) (by rw[i.o];simp;omega)
   go_enter func108,ntmps108
   go_wp2_with fail;go_ret;exact⟨by rw[f.o];rfl,rfl⟩
  ·have H:decide (1099511627776<t)=false:=by simpa using y
   by_cases z:v < -1
   ·have f:=zW (r=false) (by rw[i.o];simp;omega)
    go_enter func108,ntmps108
    go_wp2_with fail;go_ret;exact⟨by rw[f.o];rfl,rfl⟩
   ·have I:decide (v < -1)=false:=by simpa using z
    by_cases A:7≤v
    ·have f:=zW (r=false) (by rw[i.o];simp;omega)
     go_enter func108,ntmps108
     go_wp2_with fail;go_ret;exact⟨by rw[f.o];rfl,rfl⟩
    ·have J:decide (7≤v)=false:=by simpa using A
     by_cases g:t=a
     ·by_cases k:b=-1
      ·have f:=zW (r=true) (by rw[i.o];simp[k];omega);have n:(t==a)=true:=by simpa using g
       have p:(b != -1)=false:=by simpa using k
       clear g k
       go_enter func108,ntmps108
       go_wp2_with fail;go_ret;exact⟨by rw[f.o];rfl,rfl⟩
      ·have n:(t==a)=true:=by simpa using g
       have p:(b != -1)=true:=by simpa using k
       by_cases l:v=b
       focus have f:=zW (r=true) (by rw[i.o];simp[l];omega);have q:(v != b)=false:=by simpa using l
       rotate_left
       focus have f:=zW (r=false) (by rw[i.o];simp[g,k,l]);have q:(v != b)=true:=by simpa using l
       all_goals
        clear g k l;go_enter func108,ntmps108;go_wp2_with fail;go_ret;exact⟨by rw[f.o];rfl,rfl⟩
     ·have f:=zW (r=true) (by rw[i.o];simp[g];omega);have n:(t==a)=false:=by simpa using g
      clear g
      go_enter func108,ntmps108
      go_wp2_with fail;go_ret;exact⟨by rw[f.o];rfl,rfl⟩
theorem dead_set {own:Nat→Prop}{f dv c:Value}{vs:List EV}(b:zBn w1 j d pre own M f dv c vs)(x:Bool):zBn (w1.setCell ⟨j,9,none⟩ (.bool x)) j d pre own {M with dead:=x} f dv c vs :=
 b.set (M':={M with dead:=x}) (by have:=zAD b.cells 9 (.bool x);simpa using this) (fun k g=>set_other _ g) (by simp[World.setCell]) rfl rfl rfl ⟨b.ok.last,b.ok.term,b.ok.group,b.ok.now,b.ok.vote,b.ok.data,b.ok.ents⟩
theorem zDi (h:zAj w w1 j d pre D M F)(k:Nat) :
  Calls prog 170 #[.pointer (some ⟨j,0,none⟩),.int .i64 (k:Int)] w1 fun e w'=>e=.returned (.int .i64 (k:Int))∧zAj w w' j d pre D {M with dead:=M.dead||decide (k≠0) } F∧Same F w1 w':=by
 obtain⟨own,r,dv,q,vs,b,hS,hn,m⟩:=h;have i:=b.c 9 rfl;have s:=b.fr 9;have f:=zh (fun x=>zAj.turned (D:=D) (F:=F) hS hn m (dead_set b x) ((Chg.setCell w1 ⟨j,9,none⟩ (.bool x)).mono fun k _ e=>by rw[e];exact b.ol) fun _ h=>.inl h);clear b hS hn m;cases l:M.dead with
 | true =>
  rw[l]at i
  go_enter func170,ntmps170
  go_wp2_with fail;go_ret;exact⟨rfl,by simpa using f.o true⟩
 | false =>
  rw[l]at i
  by_cases g:k=0
  ·subst g
   go_enter func170,ntmps170
   go_wp2_with fail;go_ret;exact⟨rfl,by simpa using f.o false⟩
  ·have p:((k:Int) != 0)=true:=by simp;omega
   have n:=zh g;clear g
   go_enter func170,ntmps170
   go_wp2_with fail;go_ret;exact⟨rfl,by simpa[n.o]using f.o true⟩
end
theorem zC5 {P:Program}{fn:Func}{p u:Tmp}{ty:TypeId}(h:fn.results=#[.cell p ty,.tmp u])(b:Array Value)(w:World)(g:Nat)(t:TypeId)(cs:Array Value)(c:Nat×Nat)(d:TypeDesc)
  (k:b.getD p undef=.pointer (some ⟨g,0,none⟩)) (i:w.heap[g]?=some (.cells cs t c))
  (l:P.underlying ty=some d) (f:(match d with | .struct _ | .array _ _=>true|_=>false)=true) (j:(P.info? ty).map (·.size)=some cs.size) :
  (results fn b).run P w=.ok (.tuple #[.agg cs,b.getD u undef]) w:=by
 rw[results_cell_tmp h,k];simp[asAddr,run_loadVar_row w g t ty cs c d i l f j]
theorem zAI {w w':World}{a:Addr}{v:Value}(h:w.cell? a=some v)(b:Below w.heap.size w w'):w'.cell? a=some v:=(b.cell (World.block_lt_of_cell? w a h)).trans h
structure EntIn (w:World)(j g n c b k:Nat)(e:Ent)(v:EV):Prop where
 all:w.cell? ⟨j,8,none⟩=some (.slice (some ⟨g,0,none⟩) n c)∧w.cell? ⟨j,0,none⟩=some (.int .i64 (b:Int))∧w.cell? ⟨g,k*4,none⟩=some (.int .i64 e.term)∧w.cell? ⟨g,k*4+1,none⟩=some (.int .i64 e.kind)∧w.cell? ⟨g,k*4+2,none⟩=some v.1∧w.cell? ⟨g,k*4+3,none⟩=some v.2
theorem zDA {w w':World}{j g n c b k:Nat}{e:Ent}{v:EV}(h:EntIn w j g n c b k e v)(d:Below w.heap.size w w'):EntIn w' j g n c b k e v :=
 ⟨zAI h.all.1 d,zAI h.all.2.1 d,zAI h.all.2.2.1 d,zAI h.all.2.2.2.1 d,zAI h.all.2.2.2.2.1 d,zAI h.all.2.2.2.2.2 d⟩
section
variable {w w1:World} {j d:Nat} {pre:ByteArray} {D:zAA} {M:zAH} {F:Nat→Prop}
theorem jat_yes (h:zAj w w1 j d pre D M F)(i:Int)(hi:-9223372036854775808≤i∧i≤9223372036854775807)(R:(M.number:Int)<i){e:Ent}(V:M.entries[(i-(M.number:Int)-1).toNat]?=some e) :
  Calls prog 34 #[.pointer (some ⟨j,0,none⟩),.int .i64 i] w1 fun r w'=>∃v:EV,r=.returned (.tuple #[zDx e v,.int .i64 0])∧zDg w' e v∧(∀k,(v.1.ownBlock=some k∨v.2.ownBlock=some k)→w1.heap.size≤k)∧Below w1.heap.size w1 w':=by
 have ae:=(List.getElem?_eq_some_iff.1 V).1;have Q:i≤(M.last:Int):=by unfold zAH.last;omega
 have E:=zAC w1 (.cells #[.int .i64 0,.int .i64 0,.slice none 0 0,.slice none 0 0] 50);have L:=zh (zD3 (h.next E) i hi);rw[decide_eq_true (And.intro R Q)]at L;have G:=h.okM.last;have z:=h.okM.ents e (List.mem_of_getElem? V);obtain⟨own,gv,dv,ev,vs,U,hS,hn,hl⟩:=h;obtain⟨g,c,v,rfl,hv,P,k0,k1,k2,k3⟩:=U.ent V;have c0:=U.c 0 rfl;have c8:=U.c 8 rfl;have hf:=zBN z;generalize hk:(i-(M.number:Int)-1).toNat=k at *;have HX:=zW (EntIn w1 j g M.entries.length c M.number k e v) (⟨c8,c0,k0,k1,k2,k3⟩);have HA:=zh (P.has (by omega) (by omega));unfold zAH.last at G;have ad:i=(M.number:Int)+1+(k:Int):=by omega
 clear U hS hn hl hv P c0 c8 k0 k1 k2 k3 z hf V Q R hk;generalize M.entries.length=n at *;generalize M.number=b at *;have af:IntKind.i64.wrap (i-(b:Int))=(k:Int)+1:=by rw[IntWalk.i64_in _ (by omega)];omega
 have ag:IntKind.i64.wrap (k:Int)=(k:Int):=IntWalk.i64_in _ (by omega);clear ad
 go_enter func34,ntmps34
 go_wp2_with fail;refine L.o.mono ?_;rintro r w2 ⟨rfl,q,rfl⟩;have H:=zW (Below w1.heap.size w1 ((w1.alloc (.cells #[.int .i64 0,.int .i64 0,.slice none 0 0,.slice none 0 0] 50)).drewN q)) (E.trans ⟨rfl,rfl,rfl,by simp,fun _ _=>rfl⟩);have HR:=zW (((w1.alloc (.cells #[.int .i64 0,.int .i64 0,.slice none 0 0,.slice none 0 0] 50)).drewN q).heap[w1.heap.size]?=_) (zAJ w1 _);generalize (w1.alloc (.cells #[.int .i64 0,.int .i64 0,.slice none 0 0,.slice none 0 0] 50)).drewN q=W at *;clear E;go_wp2_with fail;refine ost (fun w':World=>w'.cell? ⟨j,8,none⟩=some (.slice (some ⟨g,0,none⟩) n c)∧w'.cell? ⟨j,0,none⟩=some (.int .i64 (b:Int))∧w'.cell? ⟨g,k*4,none⟩=some (.int .i64 e.term)∧w'.cell? ⟨g,k*4+1,none⟩=some (.int .i64 e.kind)∧w'.cell? ⟨g,k*4+2,none⟩=some v.1∧w'.cell? ⟨g,k*4+3,none⟩=some v.2) 17 ((zDA HX.o (H.o.trans ⟨rfl,rfl,rfl,Nat.le_refl _,fun _ _=>rfl⟩)).all) fun f=>?_;generalize C:W.drew=W1 at *;have A:=zW (Below w1.heap.size w1 W1) (by rw[←C];exact H.o.trans ⟨rfl,rfl,rfl,Nat.le_refl _,fun _ _=>rfl⟩);have B:=zh (Eq.trans (show W1.heap[w1.heap.size]?=W.heap[w1.heap.size]? by rw[←C];rfl) HR.o);clear C;refine Pl [0,1,2,3,4,5,6,7,8,9,10,11,12,13] ?_
 iterate 14 (refine Pc rfl ?_;simp only[uZ])
 refine Pn ?_;refine oon 14 rfl fun K O=>?_;have N:=zh (own_calls (HA.o.below A.o));go_wp2_with fail;refine N.o.mono ?_;rintro r a ⟨⟨u1,u2⟩,rfl,X,S,y⟩;obtain⟨t,p,eu,-⟩:=zAN X.data;obtain⟨s,m,en,-⟩:=zAw X.nodes;have ac:u1=.slice t e.data.length p:=eu;have ab:u2=.slice s e.nodes.length m:=en;subst ac;subst ab;clear eu en;have I:=zh (A.o.trans (y.mono A.o.size));have Z:=zh (zDA (⟨f⟩:EntIn W1 j g n c b k e v) y);have l:=zh ((y.block _ (zAB B.o)).trans B.o);have T:=zh (And.intro X S);have J:=zh (zAB B.o);clear X S y;go_wp2_with fail;refine O.o _ _ (Z.o.all) fun f=>?_;clear O
 try simp only[uZ]
 refine oon 15 rfl fun K O=>?_;have r0:=zAd l.o;have r1:=zAn l.o;have r2:=zAo l.o;have r3:=zBI l.o;have fr:=zAE l.o;unfold zDx;go_wp2_with fail;have hz:((((a.setCell ⟨w1.heap.size,0,none⟩ (.int .i64 e.term)).setCell ⟨w1.heap.size,1,none⟩ (.int .i64 e.kind)).setCell ⟨w1.heap.size,2,none⟩ (.slice t e.data.length p)).setCell ⟨w1.heap.size,3,none⟩ (.slice s e.nodes.length m)).heap[w1.heap.size]?=some (.cells #[.int .i64 e.term,.int .i64 e.kind,(.slice t e.data.length p),(.slice s e.nodes.length m)] 50 (0,0)):=by
  have h1:=zAD l.o 0 (.int .i64 e.term);have h2:=zAD h1 1 (.int .i64 e.kind);have h3:=zAD h2 2 (.slice t e.data.length p);have h4:=zAD h3 3 (.slice s e.nodes.length m);simpa using h4
 have hC:Chg (fun x=>x=w1.heap.size) a ((((a.setCell ⟨w1.heap.size,0,none⟩ (.int .i64 e.term)).setCell ⟨w1.heap.size,1,none⟩ (.int .i64 e.kind)).setCell ⟨w1.heap.size,2,none⟩ (.slice t e.data.length p)).setCell ⟨w1.heap.size,3,none⟩ (.slice s e.nodes.length m)):=(((Chg.setCell a ⟨w1.heap.size,0,none⟩ _).trans (Chg.setCell _ ⟨w1.heap.size,1,none⟩ _) fun _ _ e=>e).trans (Chg.setCell _ ⟨w1.heap.size,2,none⟩ _) fun _ _ e=>e).trans (Chg.setCell _ ⟨w1.heap.size,3,none⟩ _) fun _ _ e=>e;have hB:Below w1.heap.size w1 ((((a.setCell ⟨w1.heap.size,0,none⟩ (.int .i64 e.term)).setCell ⟨w1.heap.size,1,none⟩ (.int .i64 e.kind)).setCell ⟨w1.heap.size,2,none⟩ (.slice t e.data.length p)).setCell ⟨w1.heap.size,3,none⟩ (.slice s e.nodes.length m)):=I.o.trans (hC.below I.o.size fun k hk e=>by omega);have aa:=zh (zDA HX.o hB);have HE:=zW (∃v:EV,Ending.returned (.tuple #[.agg #[.int .i64 e.term,.int .i64 e.kind,(.slice t e.data.length p),(.slice s e.nodes.length m)],.int .i64 0])=.returned (.tuple #[zDx e v,.int .i64 0])∧zDg ((((a.setCell ⟨w1.heap.size,0,none⟩ (.int .i64 e.term)).setCell ⟨w1.heap.size,1,none⟩ (.int .i64 e.kind)).setCell ⟨w1.heap.size,2,none⟩ (.slice t e.data.length p)).setCell ⟨w1.heap.size,3,none⟩ (.slice s e.nodes.length m)) e v∧(∀k,(v.1.ownBlock=some k∨v.2.ownBlock=some k)→w1.heap.size≤k)∧Below w1.heap.size w1 ((((a.setCell ⟨w1.heap.size,0,none⟩ (.int .i64 e.term)).setCell ⟨w1.heap.size,1,none⟩ (.int .i64 e.kind)).setCell ⟨w1.heap.size,2,none⟩ (.slice t e.data.length p)).setCell ⟨w1.heap.size,3,none⟩ (.slice s e.nodes.length m))) (
  ⟨(.slice t e.data.length p,.slice s e.nodes.length m),rfl,T.o.1.keep fun x Y=>hC.block x (T.o.1.lt Y) fun e=>by have h1:=T.o.2 x Y;have h2:=J.o;omega,fun x Y=>by have h1:=T.o.2 x Y;have h2:=J.o;omega,hB⟩)
 have HZ:=zh hz;clear r0 r1 r2 r3 fr hC hB hz;generalize (((a.setCell ⟨w1.heap.size,0,none⟩ (.int .i64 e.term)).setCell ⟨w1.heap.size,1,none⟩ (.int .i64 e.kind)).setCell ⟨w1.heap.size,2,none⟩ (.slice t e.data.length p)).setCell ⟨w1.heap.size,3,none⟩ (.slice s e.nodes.length m)=W6 at *;refine O.o _ _ (aa.o.all) fun f=>?_;clear O
 try simp only[uZ]
 refine otk 16 (v:=?v1x16) rfl ?_;simp only[uZ];refine odn ?_;go_wp2_with fail
 (try simp only[Exit.inBlock,Exit.then])
 refine bodyPost_ret (zC5 rfl _ W6 w1.heap.size _ _ (0,0) _ rfl HZ.o underlying50 rfl (by kernel_rfl)) rfl ?_;exact HE.o
end
theorem drewN_two (w:World)(a b:Nat):(w.drewN a).drewN b=w.drewN (a+b):=by
 unfold World.drewN;simp[Nat.add_assoc]
section
variable {w w1:World} {j d:Nat} {pre:ByteArray} {D:zAA} {M:zAH} {F:Nat→Prop}
theorem jat_no (h:zAj w w1 j d pre D M F)(i:Int)(z:-9223372036854775808≤i∧i≤9223372036854775807)(l:¬((M.number:Int)<i∧i≤(M.last:Int))) :
  Calls prog 34 #[.pointer (some ⟨j,0,none⟩),.int .i64 i] w1 fun r w'=>r=.returned (.tuple #[.agg #[.int .i64 0,.int .i64 0,.slice none 0 0,.slice none 0 0],.int .i64 7])∧Below w1.heap.size w1 w':=by
 have c:=zAC w1 (.cells #[.int .i64 0,.int .i64 0,.slice none 0 0,.slice none 0 0] 50);have g:=zh (zD3 (h.next c) i z);rw[decide_eq_false l]at g;clear h l
 go_enter func34,ntmps34
 go_wp2_with fail;refine g.o.mono ?_;rintro r w2 ⟨rfl,q,rfl⟩;have f:=zW (Below w1.heap.size w1 ((w1.alloc (.cells #[.int .i64 0,.int .i64 0,.slice none 0 0,.slice none 0 0] 50)).drewN q)) (c.trans ⟨rfl,rfl,rfl,by simp,fun _ _=>rfl⟩);have b:((w1.alloc (.cells #[.int .i64 0,.int .i64 0,.slice none 0 0,.slice none 0 0] 50)).drewN q).heap[w1.heap.size]?=some (.cells #[.int .i64 0,.int .i64 0,.slice none 0 0,.slice none 0 0] 50):=zAJ w1 _;generalize (w1.alloc (.cells #[.int .i64 0,.int .i64 0,.slice none 0 0,.slice none 0 0] 50)).drewN q=W at *;have C:=zAd b;have E:=zAn b;have G:=zAo b;have H:=zBI b;have A:=zAE b;have n:=zh b;clear c b;go_wp2_with fail;have a:((((W.setCell ⟨w1.heap.size,0,none⟩ (.int .i64 0)).setCell ⟨w1.heap.size,1,none⟩ (.int .i64 0)).setCell ⟨w1.heap.size,2,none⟩ (.slice none 0 0)).setCell ⟨w1.heap.size,3,none⟩ (.slice none 0 0)).heap[w1.heap.size]?=some (.cells #[.int .i64 0,.int .i64 0,.slice none 0 0,.slice none 0 0] 50):=by
  have p:=zAD n.o 0 (.int .i64 0);have s:=zAD p 1 (.int .i64 0);have t:=zAD s 2 (.slice none 0 0);have v:=zAD t 3 (.slice none 0 0);simpa using v
 have y:Chg (fun x=>x=w1.heap.size) W ((((W.setCell ⟨w1.heap.size,0,none⟩ (.int .i64 0)).setCell ⟨w1.heap.size,1,none⟩ (.int .i64 0)).setCell ⟨w1.heap.size,2,none⟩ (.slice none 0 0)).setCell ⟨w1.heap.size,3,none⟩ (.slice none 0 0)):=(((Chg.setCell W ⟨w1.heap.size,0,none⟩ _).trans (Chg.setCell _ ⟨w1.heap.size,1,none⟩ _) fun _ _ e=>e).trans (Chg.setCell _ ⟨w1.heap.size,2,none⟩ _) fun _ _ e=>e).trans (Chg.setCell _ ⟨w1.heap.size,3,none⟩ _) fun _ _ e=>e;have m:=zW (Below w1.heap.size w1 _) (f.o.trans (y.below f.o.size fun k B e=>by omega))
 (try simp only[Exit.inBlock,Exit.then])
 refine bodyPost_ret (zC5 rfl _ _ w1.heap.size _ _ (0,0) _ rfl a underlying50 rfl (by kernel_rfl)) rfl ?_;exact⟨rfl,m.o⟩
theorem termAt_no {i:Int}(h:¬((M.number:Int)<i∧i≤(M.last:Int)))(c:i≠(M.number:Int)):M.termAt i=none:=by
 unfold zAH.last at h;unfold zAH.termAt;rw[if_neg c]
 by_cases b:i<(M.number:Int)
 ·rw[if_pos b]
 ·rw[if_neg b,List.getElem?_eq_none (by omega)];rfl
theorem zFa {i:Int}(h:(M.number:Int)<i){e:Ent}(b:M.entries[(i-(M.number:Int)-1).toNat]?=some e):M.termAt i=some e.term:=by
 unfold zAH.termAt;rw[if_neg (by omega),if_neg (by omega),b];rfl
theorem zFv:M.termAt (M.number:Int)=some M.term:=if_pos rfl
theorem zEW (h:zAj w w1 j d pre D M F)(i:Int)(I:-9223372036854775808≤i∧i≤9223372036854775807) :
  Calls prog 35 #[.pointer (some ⟨j,0,none⟩),.int .i64 i] w1 fun r w'=>r=.returned (.tuple #[.int .i64 ((M.termAt i).getD 0),.bool (M.termAt i).isSome])∧∃q,w'=w1.drewN q:=by
 have l:=zh (zD3 h i I);have s:=h.okM.last;obtain⟨own,P,dv,O,vs,p,hS,hn,E⟩:=h;have t:=p.c 0 rfl;have A:=p.c 1 rfl;have B:=p.c 8 rfl
 by_cases f:(M.number:Int)<i∧i≤(M.last:Int)
 ·rw[decide_eq_true f]at l;have z:=f.2;unfold zAH.last at z s;have a:(i-(M.number:Int)-1).toNat<M.entries.length:=by omega
  obtain⟨g,c,v,rfl,-,-,G,-⟩:=p.ent (List.getElem?_eq_getElem a);have y:=zh (zFa f.1 (List.getElem?_eq_getElem a));have C:=f.1;clear p hS hn E f A;generalize J:(i-(M.number:Int)-1).toNat=k at *;generalize M.entries[k]=e at *;generalize M.entries.length=n at *;generalize M.termAt i=H at *;generalize M.number=b at *;have L:IntKind.i64.wrap (i-(b:Int))=(k:Int)+1:=by rw[IntWalk.i64_in _ (by omega)];omega
  have N:IntKind.i64.wrap (k:Int)=(k:Int):=IntWalk.i64_in _ (by omega);clear J z C
  go_enter func35,ntmps35
  go_wp2_with fail;refine l.o.mono ?_;rintro r w2 ⟨rfl,q,rfl⟩;have t:(w1.drewN q).cell? ⟨j,0,none⟩=some (.int .i64 (b:Int)):=t;have B:(w1.drewN q).cell? ⟨j,8,none⟩=some (.slice (some ⟨g,0,none⟩) n c):=B;have G:(w1.drewN q).cell? ⟨g,k*4,none⟩=some (.int .i64 e.term):=G;go_wp2_with fail
  go_quiet (fail)
  go_wp2_with fail
  go_ret2
  exact⟨by rw[y.o];rfl,_,drewN_two _ _ _⟩
 ·rw[decide_eq_false f]at l
  by_cases m:i=(M.number:Int)
  ·subst m;have y:=zh (zFv (M:=M));clear p hS hn E f B;generalize M.termAt (M.number:Int)=H at *;generalize M.number=b at *
   go_enter func35,ntmps35
   go_wp2_with fail;refine l.o.mono ?_;rintro r w2 ⟨rfl,q,rfl⟩;have t:(w1.drewN q).cell? ⟨j,0,none⟩=some (.int .i64 (b:Int)):=t;have A:(w1.drewN q).cell? ⟨j,1,none⟩=some (.int .i64 M.term):=A;go_wp2_with fail
   go_ret2
   exact⟨by rw[y.o];rfl,_,rfl⟩
  ·have y:=zh (termAt_no f m);have Q:(i==(M.number:Int))=false:=by simpa using m
   clear p hS hn E f m B A;generalize M.termAt i=H at *;generalize M.number=b at *
   go_enter func35,ntmps35
   go_wp2_with fail;refine l.o.mono ?_;rintro r w2 ⟨rfl,q,rfl⟩;have t:(w1.drewN q).cell? ⟨j,0,none⟩=some (.int .i64 (b:Int)):=t;go_wp2_with fail
   go_ret2
   exact⟨by rw[y.o];rfl,_,rfl⟩
def zB0 (w1:World)(r:List Int×Nat)(e:Ending)(w':World):Prop:=∃v,e=.returned (.tuple #[v,.int .i64 (r.2:Int)])∧zCp w' v r.1∧(∀k,v.ownBlock=some k→w1.heap.size≤k)∧Below w1.heap.size w1 w'
theorem grpIn_yes {k:Nat}{e:Ent}(b:M.entries[k]?=some e)(c:e.kind=2):M.grpIn (k+1)=(e.nodes,M.number+k+1):=by
 show(match M.entries[k]? with|some e=>_|none=>_)=_
 rw[b];exact if_pos c
theorem grpIn_no {k:Nat}{e:Ent}(b:M.entries[k]?=some e)(c:e.kind≠2):M.grpIn (k+1)=M.grpIn k:=by
 show(match M.entries[k]? with|some e=>_|none=>_)=_
 rw[b];exact if_neg c
theorem jgrpAt_calls (h:zAj w w1 j d pre D M F)(N:Nat)(hN:N≤M.entries.length) :
  Calls prog 107 #[.pointer (some ⟨j,0,none⟩),.int .i64 ((M.number+N:Nat):Int)] w1 (zB0 w1 (M.grpIn N)):=by
 have R:=h.okM.last;have ah:=h.okM.group;have O:=zh h.okM.ents;obtain⟨own,gv,dv,ev,vs,T,hS,hn,hl⟩:=h;have HJ:=zh T;have c0:=T.c 0 rfl;have c2:=T.c 2 rfl;obtain⟨pg,cg,Q,-⟩:=zAw T.group;rw[Q]at c2;have ak:=zh (Q▸T.group);have au:=(zES ah).2;unfold zAH.last at R;clear T hS hn hl ah Q;generalize I:M.number=b at *
 go_enter func107,ntmps107
 go_wp2_with fail
 go_loopw [6] (fun x wr=>∃k:Nat,k≤N∧x=.int .i64 ((b+k:Nat):Int)∧M.grpIn N=M.grpIn k∧Below w1.heap.size w1 wr) (fun x _=>(intOf x).toNat)
 case atStart=>exact⟨N,Nat.le_refl _,rfl,rfl,Below.refl _ _⟩
 case round =>
  obtain⟨k,hk,rfl,E,m⟩:=hrel;have ap:=zAI c0 m;have aa:=zAI c2 m;cases k with
  | zero =>
   have y:=zh E;have V:=zh m;have L:=zh (fun W (I:Below w1.heap.size w1 W)=>zD0 (zCp.has (zGN ak.o I)) (by omega));clear E m;go_wp2_with fail;refine ost (fun w':World=>w'.cell? ⟨j,0,none⟩=some (.int .i64 (b:Int))∧w'.cell? ⟨j,2,none⟩=some (.slice pg M.group.length cg)) 13 (⟨ap,aa⟩) fun f=>?_;refine Pl [0,1,2,3,4,6,7,8,9,10] ?_
   iterate 10 (refine Pc rfl ?_;simp only[uZ])
   refine Pn ?_;refine oon 5 rfl fun K H=>?_;go_wp2_with fail;refine(L.o wr.drew (V.o.trans ⟨rfl,rfl,rfl,Nat.le_refl _,fun _ _=>rfl⟩)).mono ?_;rintro r w5 ⟨v,rfl,hv,s,i⟩;have A:Below w1.heap.size w1 wr.drew:=V.o.trans ⟨rfl,rfl,rfl,Nat.le_refl _,fun _ _=>rfl⟩;have Y:=zW (zB0 w1 (M.grpIn N) (.returned (.tuple #[v,.int .i64 (b:Int)])) w5) (by
    rw[y.o];exact⟨v,by show _=Ending.returned (.tuple #[v,.int .i64 (M.number:Int)]);rw[I],hv,fun x U=>Nat.le_trans A.size (s x U),A.trans (i.mono A.size)⟩)
   have am:=zh (And.intro (zAI f.1 i) (zAI f.2 i));clear hv s i A;go_wp2_with fail;refine H.o _ _ (am.o) fun f=>?_;clear H
   try simp only[uZ]
   refine Pl [11,12] ?_
   iterate 2 (refine Pc rfl ?_;simp only[uZ])
   refine Pn ?_;refine odn ?_;go_wp2_with fail
   go_ret2
   exact Y.o
  | succ k =>
   have af:k<M.entries.length:=by omega
   have he:=List.getElem?_eq_getElem af;obtain⟨g,c,v,ac,-,C,k0,k1,k2,k3⟩:=HJ.o.ent he;have hf:=zBN (O.o _ (List.getElem_mem af));have ae:=grpIn_yes he;have ad:=grpIn_no he;generalize M.entries[k]=e at *;have c8:=HJ.o.c 8 rfl;rw[ac]at c8;obtain⟨G,a,eu,-⟩:=zAN C.data;obtain⟨t,q,en,-⟩:=zAw C.nodes;rw[eu]at k2;rw[en]at k3;have ag:zCp w1 (.slice t e.nodes.length q) e.nodes:=by rw[←en];exact C.nodes
   have L:=zh (fun W (I:Below w1.heap.size w1 W)=>zD0 (zCp.has (zGN ag I)) (by omega));have HX:=zW (EntIn w1 j g M.entries.length c b k e (.slice G e.data.length a,.slice t e.nodes.length q)) (⟨c8,by rw[←I]at c0;rw[←I];exact c0,k0,k1,k2,k3⟩);have y:=zh E;have V:=zh m;have al:=zh ae;have aj:=zh ad;have aw:IntKind.i64.wrap (((b+(k+1):Nat):Int)-(b:Int))=(k:Int)+1:=by rw[IntWalk.i64_in _ (by omega)];omega
   have ar:IntKind.i64.wrap ((b:Int)+((k:Int)+1)-(b:Int))=(k:Int)+1:=by rw[IntWalk.i64_in _ (by omega)];omega
   have ax:IntKind.i64.wrap (k:Int)=(k:Int):=IntWalk.i64_in _ (by omega);have ay:IntKind.i64.wrap (((b+(k+1):Nat):Int)-1)=((b+k:Nat):Int):=by rw[IntWalk.i64_in _ (by omega)];omega
   have av:(b:Int)<((b+(k+1):Nat):Int):=by omega
   generalize U:((b+(k+1):Nat):Int)=x at *;have Z:=zW (x=((M.number+k+1:Nat):Int)) (by rw[←U,I];rfl);clear E m ae ad c8 k0 k1 k2 k3 ac C ag eu en he aa;generalize M.entries.length=n at *;clear U;go_wp2_with fail;refine ost (fun w':World=>w'.cell? ⟨j,8,none⟩=some (.slice (some ⟨g,0,none⟩) n c)∧w'.cell? ⟨j,0,none⟩=some (.int .i64 (b:Int))∧w'.cell? ⟨g,k*4,none⟩=some (.int .i64 e.term)∧w'.cell? ⟨g,k*4+1,none⟩=some (.int .i64 e.kind)∧w'.cell? ⟨g,k*4+2,none⟩=some (.slice G e.data.length a)∧w'.cell? ⟨g,k*4+3,none⟩=some (.slice t e.nodes.length q)) 16 ((zDA HX.o (V.o.trans ⟨rfl,rfl,rfl,Nat.le_refl _,fun _ _=>rfl⟩)).all) fun f=>?_;generalize ab:wr.drew=z at *;have J:=zW (Below w1.heap.size w1 z) (by rw[←ab];exact V.o.trans ⟨rfl,rfl,rfl,Nat.le_refl _,fun _ _=>rfl⟩);clear ab;refine Pl [0,1,2,3,4,5,6,7,8,9,10,11,12,13] ?_
   iterate 14 (refine Pc rfl ?_;simp only[uZ])
   refine Pn ?_;refine oon 14 rfl fun K H=>?_;have an:=zh (zDA (⟨f⟩:EntIn z j g n c b k e (.slice G e.data.length a,.slice t e.nodes.length q)) (zAC z (.cells #[.int .i64 0,.int .i64 0,.slice none 0 0,.slice none 0 0] 50)));go_wp2_with fail;refine H.o _ _ (an.o.all) fun f=>?_;clear H
   try simp only[uZ]
   refine oon 15 rfl fun K H=>?_;have P:(z.alloc (.cells #[.int .i64 0,.int .i64 0,.slice none 0 0,.slice none 0 0] 50)).heap[z.heap.size]?=some (.cells #[.int .i64 0,.int .i64 0,.slice none 0 0,.slice none 0 0] 50):=zAJ z _;have r0:=zAd P;have r1:=zAn P;have r2:=zAo P;have r3:=zBI P;have fr:=zAE P;have HR:=zh P;clear P;have X:=zh (J.o.trans ((zAC z (.cells #[.int .i64 0,.int .i64 0,.slice none 0 0,.slice none 0 0] 50)).mono J.o.size));have ai:=zh J.o.size;generalize z.heap.size=B at *;generalize z.alloc (.cells #[.int .i64 0,.int .i64 0,.slice none 0 0,.slice none 0 0] 50)=S at *;go_wp2_with fail;have hz:((((S.setCell ⟨B,0,none⟩ (.int .i64 e.term)).setCell ⟨B,1,none⟩ (.int .i64 e.kind)).setCell ⟨B,2,none⟩ (.slice G e.data.length a)).setCell ⟨B,3,none⟩ (.slice t e.nodes.length q)).heap[B]?=some (.cells #[.int .i64 e.term,.int .i64 e.kind,.slice G e.data.length a,.slice t e.nodes.length q] 50 (0,0)):=by
    have h1:=zAD HR.o 0 (.int .i64 e.term);have h2:=zAD h1 1 (.int .i64 e.kind);have h3:=zAD h2 2 (.slice G e.data.length a);have h4:=zAD h3 3 (.slice t e.nodes.length q);simpa using h4
   have hC:Chg (fun x=>x=B) S ((((S.setCell ⟨B,0,none⟩ (.int .i64 e.term)).setCell ⟨B,1,none⟩ (.int .i64 e.kind)).setCell ⟨B,2,none⟩ (.slice G e.data.length a)).setCell ⟨B,3,none⟩ (.slice t e.nodes.length q)):=(((Chg.setCell S ⟨B,0,none⟩ _).trans (Chg.setCell _ ⟨B,1,none⟩ _) fun _ _ e=>e).trans (Chg.setCell _ ⟨B,2,none⟩ _) fun _ _ e=>e).trans (Chg.setCell _ ⟨B,3,none⟩ _) fun _ _ e=>e;have l:=zW (Below w1.heap.size w1 ((((S.setCell ⟨B,0,none⟩ (.int .i64 e.term)).setCell ⟨B,1,none⟩ (.int .i64 e.kind)).setCell ⟨B,2,none⟩ (.slice G e.data.length a)).setCell ⟨B,3,none⟩ (.slice t e.nodes.length q))) (X.o.trans (hC.below X.o.size fun k hk e=>by have:=ai.o;omega));have ao:=zh (zDA HX.o l.o);have z1:=zAn hz;have z3:=zBI hz;clear r0 r1 r2 r3 fr hC hz;generalize (((S.setCell ⟨B,0,none⟩ (.int .i64 e.term)).setCell ⟨B,1,none⟩ (.int .i64 e.kind)).setCell ⟨B,2,none⟩ (.slice G e.data.length a)).setCell ⟨B,3,none⟩ (.slice t e.nodes.length q)=W3 at *;refine H.o _ _ (ao.o.all) fun f=>?_;clear H
   try simp only[uZ]
   refine odn ?_;have z1:W3.cell? ⟨B,1,none⟩=some (.int .i64 e.kind):=z1;have z3:W3.cell? ⟨B,3,none⟩=some (.slice t e.nodes.length q):=z3
   by_cases p:e.kind=2
   ·have aq:(e.kind==2)=true:=by simpa using p
    have Y:=zh (y.o.trans (al.o p));clear p;go_wp2_with fail;refine(L.o W3 l.o).mono ?_;rintro r w5 ⟨v,rfl,hv,s,i⟩;have HF:=zW (zB0 w1 (M.grpIn N) (.returned (.tuple #[v,.int .i64 x])) w5) (by
     rw[Y.o,Z.o];exact⟨v,rfl,hv,fun x U=>Nat.le_trans l.o.size (s x U),l.o.trans (i.mono l.o.size)⟩)
    clear hv s i;go_wp2_with fail
    go_ret2
    exact HF.o
   ·have aq:(e.kind==2)=false:=by simpa using p
    have Y:=zh (y.o.trans (aj.o p));clear p;go_wp2_with fail;go_roundw
    case rel=>exact⟨k,by omega,rfl,Y.o,l.o⟩
    case measure=>simp[intOf];have:=Z.o;omega
theorem jnodes_calls (h:zAj w w1 j d pre D M F):Calls prog 24 #[.pointer (some ⟨j,0,none⟩)] w1 (zB0 w1 (M.grpIn M.entries.length)):=by
 have f:=zh (zCr h);have g:=zh (fun q=>jgrpAt_calls (h.drewN q) M.entries.length (Nat.le_refl _));have l:=zW ((M.number+M.entries.length:Nat)=M.last) rfl;rw[l.o]at g;clear h
 go_enter func24,ntmps24
 go_wp2_with fail;refine f.o.mono ?_;rintro r w2 ⟨rfl,q,rfl⟩;go_wp2_with fail;refine(g.o q).mono ?_;rintro r m ⟨v,rfl,i,c,b⟩;have k:=zW (zB0 w1 (M.grpIn M.entries.length) (.returned (.tuple #[v,.int .i64 ((M.grpIn M.entries.length).2:Int)])) m) (⟨v,rfl,i,c,(show Below w1.heap.size w1 (w1.drewN q)from⟨rfl,rfl,rfl,Nat.le_refl _,fun _ _=>rfl⟩).trans b⟩);clear i c b;go_wp2_with fail
 go_ret2
 exact k.o
def SnapTold (w1:World)(b:Bs)(g:List Int)(e:Ending)(w':World):Prop:=∃v u,e=.returned (.tuple #[v,u])∧zAk w' 5 v b∧zCp w' u g∧(∀k,v.ownBlock=some k∨u.ownBlock=some k→w1.heap.size≤k)∧Below w1.heap.size w1 w'
theorem jsnap_calls (h:zAj w w1 j d pre D M F):Calls prog 32 #[.pointer (some ⟨j,0,none⟩)] w1 (SnapTold w1 M.data M.group):=by
 have n:=h.okM;obtain⟨own,T,dv,S,vs,k,hS,hn,O⟩:=h;have G:=k.c 2 rfl;have H:=k.c 7 rfl;obtain⟨pg,cg,m,-⟩:=zAw k.group;obtain⟨pd,cd,l,-⟩:=zAN k.data;have N:=(zES n.group).2;have a:=n.data;rw[m]at G;rw[l]at H;have L:=zh (fun W (hb:Below w1.heap.size w1 W)=>zD0 (zCp.has (zGN (m▸k.group) hb)) (by omega));have J:=zh (fun W (hb:Below w1.heap.size w1 W)=>zB2 (zAk.has (zCM (l▸k.data) hb)) (Nat.le_trans a (by decide)));clear k hS hn O m l n
 go_enter func32,ntmps32
 go_wp2_with fail;refine ost (fun w':World=>w'.cell? ⟨j,7,none⟩=some (.slice pd M.data.length cd)∧w'.cell? ⟨j,2,none⟩=some (.slice pg M.group.length cg)) 13 (⟨H,G⟩) fun b=>?_;refine Pl [0,1,2,3,5,6,7,8,9] ?_
 iterate 9 (refine Pc rfl ?_;simp only[uZ])
 refine Pn ?_;refine oon 4 rfl fun K q=>?_;have p:=zh (zAU w1);go_wp2_with fail;refine(J.o w1.drew p.o).mono ?_;rintro r P ⟨v,rfl,B,t,i⟩;have g:=zh (p.o.trans i);have y:=zh (And.intro (zAI b.1 i) (zAI b.2 i));have E:=zh (And.intro B t);obtain⟨pv,cv,rfl,-⟩:=zAN B;clear B t i;go_wp2_with fail;refine q.o _ _ (y.o) fun b=>?_;clear q
 try simp only[uZ]
 refine oon 10 rfl fun K q=>?_;go_wp2_with fail;refine(L.o P g.o).mono ?_;rintro r Q ⟨u,rfl,A,s,f⟩;have z:=zh (And.intro (zAI b.1 f) (zAI b.2 f));have I:=zW (SnapTold w1 M.data M.group (.returned (.tuple #[.slice pv M.data.length cv,u])) Q) (⟨_,u,rfl,zCM E.o.1 f,A,fun x C=>C.elim (E.o.2 x) fun C=>Nat.le_trans g.o.size (s x C),g.o.trans (f.mono g.o.size)⟩);obtain⟨U,R,rfl,-⟩:=zAw A;clear A s f;go_wp2_with fail;refine q.o _ _ (z.o) fun b=>?_;clear q
 try simp only[uZ]
 refine Pl [11,12] ?_
 iterate 2 (refine Pc rfl ?_;simp only[uZ])
 refine Pn ?_;refine odn ?_;go_wp2_with fail
 go_ret2
 exact I.o
end
def WrB (B:Nat)(w:World)(k:Nat)(l:Bs):Prop:=∃v,WrIn w k v l∧B≤k∧(∀j,v.ownBlock=some j→B≤j)∧B≤w.heap.size
def WrNext (B:Nat)(w:World)(k:Nat)(l:Bs)(e:Ending)(w':World):Prop:=e=.returned (.tuple #[])∧WrB B w' k l∧Below B w w'
section
variable {B:Nat} {w w1:World} {k:Nat} {l:Bs}
theorem WrB.keep (h:WrB B w k l)(b:Below w.heap.size w w1):WrB B w1 k l:=let ⟨v,h1,h2,h3,h4⟩:=h;⟨v,h1.keep b,h2,h3,Nat.le_trans h4 b.size⟩
theorem wrB_new (w:World):WrB w.heap.size (w.alloc (.cells #[.slice none 0 0] 163)) w.heap.size [] :=
 ⟨.slice none 0 0,⟨zAJ w _,OwnR.nil _ _ _,fun h=>(by cases h)⟩,Nat.le_refl _,fun j b=>(by cases b),by simp⟩
theorem wrB_told {w0:World}{v:Value}{e:Ending}{w':World}{l:Bs}(f:Below w.heap.size w w0)(m:B≤k)(d:∀j,v.ownBlock=some j→B≤j)(n:B≤w.heap.size)(o:WrTold w0 k v l e w'):WrNext B w k l e w':=by
 obtain⟨rfl,v',c,g,hn⟩:=o;have b:=f.size;refine⟨rfl,⟨v',c,m,fun j p=>?_,by have:=g.size;omega⟩,?_⟩
 ·rcases hn j p with h|h
  ·exact d j h
  ·omega
 ·refine(((Chg.of_below f).mono fun _ _ h=>h.elim).trans g fun _ _ b=>b:Chg (WrS k v) w w').below n fun i q b=>?_;rcases b with rfl|b
  ·omega
  ·have:=d i b;omega
theorem zBg.lit {w:World}(zs:List Int)(cs:Array Value)(h:cs.toList=zs.map (Value.int .i64))(e:TypeId)(d:Nat×Nat)(g n c:Nat)(j:g=w.heap.size)(hn:n=zs.length):zBg (w.alloc (.cells cs e d)) (.slice (some ⟨g,0,none⟩) n c) zs:=by
 subst j;subst hn;refine⟨by simp,some ⟨w.heap.size,0,none⟩,c,rfl,fun e=>(by cases e),fun a f i u b=>?_⟩;cases f;rw[add_zero];refine zAG (zAJ w _) ?_;rw[←h]at b;simpa using b
theorem zFb (h:WrB B w k l)(zs:List Int)(cs:Array Value)(d:cs.toList=zs.map (Value.int .i64))(A:∀z∈zs,-9223372036854775808≤z∧z≤9223372036854775807)(s:l.length+9*zs.length≤140737488355000)(g n c:Nat)(r:g=w.heap.size)(hn:n=zs.length)(f:Nat×Nat) :
  Calls prog 105 #[.pointer (some ⟨k,0,none⟩),.slice (some ⟨g,0,none⟩) n c] (w.alloc (.cells cs 3 f)) (WrNext B w k (l++zAp zs)):=by
 obtain⟨v,b,j,m,o⟩:=h;have i:=zAC w (.cells cs 3 f);have C:=b.klt;refine(zFw (b.keep i) (zs:=zs) (fun W q=>zAM.chg (zBg.lit zs cs d _ _ g n c r hn) q fun x y t=>?_) A s).mono fun e w' p=>wrB_told i j m o p;have a:x=g:=by cases y;rfl
 rcases t with e|e
 ·omega
 ·have:=OwnR.lt b.row e;omega
theorem wrB_numsx (h:WrB B w k l){p:Option Addr}{n c:Nat}{zs:List Int}(r:∀W,Below B w W→zBg W (.slice p n c) zs)(s:∀z∈zs,-9223372036854775808≤z∧z≤9223372036854775807)(q:l.length+9*zs.length≤140737488355000) :
  Calls prog 105 #[.pointer (some ⟨k,0,none⟩),.slice p n c] w (WrNext B w k (l++zAp zs)):=by
 obtain⟨v,g,j,d,f⟩:=h;refine(zFw g (zs:=zs) (fun W o=>r W (o.below f fun i t b=>?_)) s q).mono fun e w' m=>wrB_told (Below.refl _ _) j d f m;rcases b with rfl|b
 ·omega
 ·have:=d i b;omega
theorem wrB_raw (h:WrB B w k l)(m:Bs)(cs:Array Value)(b:cs.toList=zAQ m)(s:l.length+m.length≤140737488355328)(g n c:Nat)(r:g=w.heap.size)(hn:n=m.length)(d:Nat×Nat) :
  Calls prog 104 #[.pointer (some ⟨k,0,none⟩),.slice (some ⟨g,0,none⟩) n c] (w.alloc (.cells cs 5 d)) (WrNext B w k (l++m)):=by
 obtain⟨v,i,j,o,p⟩:=h;have f:=zAC w (.cells cs 5 d);exact(wraw_calls (i.keep f) (has_lit cs m g n c r hn b) s).mono fun e w' q=>wrB_told f j o p q
theorem wrB_bytes (h:WrB B w k l){pv:Option Addr}{m cv:Nat}{x:Bs}(t:∀W,Below B w W→zAY W (.slice pv m cv) x)(s:l.length+x.length≤140737488354000)(g c:Nat)(r:g=w.heap.size)(d:Nat×Nat) :
  Calls prog 127 #[.pointer (some ⟨k,0,none⟩),.slice (some ⟨g,0,none⟩) 1 c] (w.alloc (.cells #[.slice pv m cv] 22 d)) (WrNext B w k (l++zE5 x)):=by
 obtain⟨v,n,o,f,j⟩:=h;refine(wbytes_one n (fun W q=>t W (q.below j fun i y b=>?_)) s g c r d).mono fun e w' p=>wrB_told (zAC w _) o f j p;rcases b with rfl|b
 ·omega
 ·have:=f i b;omega
theorem wrB_out (h:WrB B w k l)(f:l.length≤140737488355328) :
  Calls prog 106 #[.pointer (some ⟨k,0,none⟩)] w fun e w'=>∃v,e=.returned v∧zAk w' 5 v l∧(∀j,v.ownBlock=some j→B≤j)∧Below B w w':=by
 obtain⟨v,c,m,n,b⟩:=h;refine(wout_calls c f).mono ?_;rintro e w' ⟨u,rfl,g,hn,d⟩;exact⟨u,rfl,g,fun x i=>Nat.le_trans b (hn x i),d.mono b⟩
theorem zER (zs:List Int)(h:zs.length≤4611686018427387904):(zDq zs).length≤9+9*zs.length:=by
 unfold zDq;rw[List.length_append];have b:=zAg h;have c:=zA9 zs;omega
theorem zFD (h:WrB B w k l){p:Option Addr}{n c:Nat}{zs:List Int}(q:∀W,Below B w W→zBg W (.slice p n c) zs)(r:∀z∈zs,-9223372036854775808≤z∧z≤9223372036854775807)(D:l.length+9+9*zs.length≤140737488354000) :
  Calls prog 169 #[.pointer (some ⟨k,0,none⟩),.slice p n c] w (WrNext B w k (l++zDq zs)):=by
 have hn:zs.length=n:=by obtain⟨_,_,e⟩:=(q w (Below.refl _ _)).slice;simp only[Value.slice.injEq]at e;exact e.2.1.symm
 have C:=zAg (n:=zs.length) (by omega);have a:=zW (zDq zs=zD8 zs.length++zAp zs) rfl;have j:=zFb h [(n:Int)] #[.int .i64 (n:Int)] rfl (by simp;omega) (by simp;omega) w.heap.size 1 1 rfl rfl (0,0);rw[show zAp [(n:Int)]=zD8 zs.length by rw[hn];simp[zAp,zB8 (show n≤4611686018427387904 by omega)]]at j;have s:=zh j;have t:=zh (fun(W:World) (h:WrB B W k (l++zD8 zs.length)) (hb:Below B w W)=>wrB_numsx h (fun A m=>q A (hb.trans m)) r (by rw[List.length_append];omega));clear j h q r hn C D
 go_enter func169,ntmps169
 go_wp2_with fail;refine s.o.mono ?_;rintro e w2 ⟨rfl,f,b⟩;have i:=zh b;have v:=zh (t.o w2 f b);clear f b;go_wp2_with fail;refine v.o.mono ?_;rintro e w3 ⟨rfl,g,d⟩;have y:=zW (WrNext B w k (l++zDq zs) (.returned (.tuple #[])) w3) (⟨rfl,by rw[a.o,←List.append_assoc];exact g,i.o.trans d⟩);clear g d;go_wp2_with fail
 go_end0
 exact y.o
end
def zBf (w:World)(b:Bs)(e:Ending)(w':World):Prop:=∃v,e=.returned v∧zAk w' 5 v b∧(∀k,v.ownBlock=some k→w.heap.size≤k)∧Below w.heap.size w w'
theorem zGf (w:World)(t v:Int)(C:-9223372036854775808≤t∧t≤9223372036854775807)(D:-9223372036854775808≤v∧v≤1099511627776):Calls prog 109 #[.int .i64 t,.int .i64 v] w (zBf w (zCV t v)):=by
 have B:=zh (wrB_new w);have l:Below w.heap.size w (w.alloc (.cells #[.slice none 0 0] 163)):=zAC w _;have m:=wrB_raw (wrB_new w) [2] #[.int .u8 2] rfl (by decide) (w.heap.size+1) 1 1 (by simp) rfl (0,0);have p:=zh m;have a:IntKind.i64.wrap (v+1)=v+1:=IntWalk.i64_in _ (by omega);have z:=zW (zCV t v=[2]++zAp [t,v+1]) (by simp[zCV,zAp]);have q:=zh (fun(W:World) (h:WrB w.heap.size W w.heap.size ([]++[2]))=>zFb h [t,v+1] #[.int .i64 t,.int .i64 (v+1)] rfl (by simp;omega) (by simp) W.heap.size 2 2 rfl rfl (0,0));clear m
 go_enter func109,ntmps109
 go_wp2_with fail;refine p.o.mono ?_;rintro e w2 ⟨rfl,g,b⟩;have j:=zh (l.trans (b.mono (Nat.le_refl _)));have r:=zh (q.o w2 g);clear g b;go_wp2_with fail;refine r.o.mono ?_;rintro e w3 ⟨rfl,i,c⟩;have k:=zh (j.o.trans c);have s:=zh (wrB_out i (by have:=zA9 [t,v+1];simp at this ⊢;omega));clear i c;go_wp2_with fail;refine s.o.mono ?_;rintro e A ⟨u,rfl,n,f,d⟩;have y:=zW (zBf w (zCV t v) (.returned u) A) (⟨u,rfl,by rw[z.o];exact n,f,k.o.trans d⟩);clear n f d;go_wp2_with fail;go_ret;exact y.o
theorem entRec_calls {w:World}(n:Nat)(hn:n≤4611686018427387904){e:Ent}{v:EV}(h:zBS w e v)(he:zAt e=true):Calls prog 100 #[.int .i64 (n:Int),zDx e v] w (zBf w (zEt n e)):=by
 obtain⟨t,k,b,d⟩:=e;obtain⟨v1,v2⟩:=v;have M:=zBN he;dsimp only at M;have y:=zAC w (.cells #[.int .i64 t,.int .i64 k,v1,v2] 50);have i:=zAJ w (.cells #[.int .i64 t,.int .i64 k,v1,v2] 50);obtain⟨q,j,e1⟩:=h.data.slice;obtain⟨r,l,e2⟩:=h.nodes.slice;have X:v1=.slice q b.length j:=e1;have Y:v2=.slice r d.length l:=e2;subst X;subst Y;have H:=zh h;have HT:=zW (zEt n ⟨t,k,b,d⟩=([]++[3])++zAp [(n:Int),t,k]++zE5 b++zDq d) (by simp[zEt,zAp,zB8 hn]);have aa:=M.2.2.1;have ab:=M.2.2.2.1;have Hf:=zh M;clear e1 e2 h he M;unfold zDx;dsimp only
 go_enter func100,ntmps100
 go_wp2_with fail;have f:Below w.heap.size w ((w.alloc (.cells #[.int .i64 t,.int .i64 k,.slice q b.length j,.slice r d.length l] 50)).alloc (.cells #[.slice none 0 0] 163)):=y.alloc y.size _;have D:=wrB_new (w.alloc (.cells #[.int .i64 t,.int .i64 k,.slice q b.length j,.slice r d.length l] 50));have L:=(zDU _ (.cells #[.slice none 0 0] 163) (zAB i)).trans i;have C:(w.alloc (.cells #[.int .i64 t,.int .i64 k,.slice q b.length j,.slice r d.length l] 50)).heap.size=w.heap.size+1:=by simp
 rw[C]at D;have H1:=zh (wrB_raw D [3] #[.int .u8 3] rfl (by decide) (w.heap.size+2) 1 1 (by simp) rfl (0,0));have hS:Below (w.heap.size+1) (w.alloc (.cells #[.int .i64 t,.int .i64 k,.slice q b.length j,.slice r d.length l] 50)) ((w.alloc (.cells #[.int .i64 t,.int .i64 k,.slice q b.length j,.slice r d.length l] 50)).alloc (.cells #[.slice none 0 0] 163)):=by rw[←C];exact zAC _ _
 have V:=zh L;have S:=zh f;generalize (w.alloc (.cells #[.int .i64 t,.int .i64 k,.slice q b.length j,.slice r d.length l] 50)).alloc (.cells #[.slice none 0 0] 163)=W0 at *;clear y i D L f C hS;generalize K:w.heap.size=B at *;refine H1.o.mono ?_;rintro e w2 ⟨rfl,O,f⟩;have g:=zh ((f.block B (by omega)).trans V.o);have T:=zW (Below B w w2) (S.o.trans (f.mono (Nat.le_succ _)));have H2:=zh (zFb O [(n:Int),t,k] #[.int .i64 (n:Int),.int .i64 t,.int .i64 k] rfl (by have:=Hf.o;simp;omega) (by simp) w2.heap.size 3 3 rfl rfl (0,0));have l0:=zAd g.o;have l1:=zAn g.o;have l0:w2.cell? ⟨B,0,none⟩=some (.int .i64 t):=l0;have l1:w2.cell? ⟨B,1,none⟩=some (.int .i64 k):=l1;clear O f;go_wp2_with fail;refine H2.o.mono ?_;rintro e w3 ⟨rfl,P,a⟩;have s:=zh ((a.block B (by omega)).trans g.o);have E:=zW (Below B w w3) (T.o.trans (a.mono (Nat.le_succ _)));have Z:=zA9 [(n:Int),t,k];have H3:=zh (wrB_bytes P (pv:=q) (m:=b.length) (cv:=j) (x:=b) (fun W hb=>zAY.below H.o.data (by rw[K];exact E.o.trans (hb.mono (Nat.le_succ _)))) (by simp at Z ⊢;omega) w3.heap.size 1 rfl (0,0));have l2:w3.cell? ⟨B,2,none⟩=some (.slice q b.length j):=zAo s.o;clear P a l0 l1;go_wp2_with fail;refine H3.o.mono ?_;rintro e w4 ⟨rfl,Q,A⟩;have G:=zh ((A.block B (by omega)).trans s.o);have F:=zW (Below B w w4) (E.o.trans (A.mono (Nat.le_succ _)));have h8:(zE5 b).length≤65536+9:=by unfold zE5;have:=zAg (n:=b.length) (by omega);rw[List.length_append];omega
 have H4:=zh (zFD Q (p:=r) (n:=d.length) (c:=l) (zs:=d) (fun W hb=>zAM.chg H.o.nodes (Chg.of_below (by rw[K];exact F.o.trans (hb.mono (Nat.le_succ _)))) fun _ _=>id) (fun z hz=>by have:=Hf.o.2.2.2.2 z hz;omega) (by simp at Z ⊢;omega));have l3:w4.cell? ⟨B,3,none⟩=some (.slice r d.length l):=zBI G.o;clear Q A l2;go_wp2_with fail;refine H4.o.mono ?_;rintro e w5 ⟨rfl,R,I⟩;have U:=zW (Below B w w5) (F.o.trans (I.mono (Nat.le_succ _)));have h7:=zER d (by omega);have H5:=zh (wrB_out R (by simp at Z ⊢;omega));clear R I l3;go_wp2_with fail;refine H5.o.mono ?_;rintro e w6 ⟨u,rfl,hu,N,J⟩;have HE:=zW (zBf w (zEt n ⟨t,k,b,d⟩) (.returned u) w6) (⟨u,rfl,by rw[HT.o];exact hu,fun x hx=>by have:=N x hx;omega,by rw[K];exact U.o.trans (J.mono (Nat.le_succ _))⟩);clear hu N J;go_wp2_with fail;go_ret;exact HE.o
section
variable {w w1:World} {j d:Nat} {pre:ByteArray} {D:zAA} {M:zAH} {F:Nat→Prop}
theorem jfirst_calls (h:zAj w w1 j d pre D M F):Calls prog 158 #[.pointer (some ⟨j,0,none⟩)] w1 (zBf w1 (zEo M.number M.term M.group)):=by
 have k:=h.okM;have i:=k.last;have ht:=zAl.1 k.term;have V:=zCi k.group;obtain⟨own,gv,dv,ev,vs,q,hS,hn,hl⟩:=h;have L:=q.c 0 rfl;have N:=q.c 1 rfl;have U:=q.c 2 rfl;obtain⟨pg,cg,m,-⟩:=zAw q.group;rw[m]at U;have HG:=zh (m▸q.group);unfold zAH.last at i;have HT:=zW (zEo M.number M.term M.group=[]++[1]++zAp [(M.number:Int),M.term]++zDq M.group) (by simp[zEo,zAp,zB8 (show M.number≤4611686018427387904 by omega)]);have Hg:=zh V;have aa:=V.1;have a:=zAC w1 (.cells #[.slice none 0 0] 163);have Y:=zh (wrB_raw (wrB_new w1) [1] #[.int .u8 1] rfl (by decide) (w1.heap.size+1) 1 1 (by simp) rfl (0,0));have P:=zh a;have v:=zh (And.intro L N);have ab:M.number≤1099511627776:=by omega
 clear q hS hn hl m k V i a;generalize M.number=b at *;generalize M.term=t at *
 go_enter func158,ntmps158
 go_wp2_with fail;refine Y.o.mono ?_;rintro e w2 ⟨rfl,H,A⟩;have l:=zh (P.o.trans A);have L:=zAI L l.o;have N:=zAI N l.o;have R:=zh H;clear H A;go_wp2_with fail;refine ost (fun w':World=>w'.cell? ⟨j,0,none⟩=some (.int .i64 (b:Int))∧w'.cell? ⟨j,1,none⟩=some (.int .i64 t)) 12 (⟨L,N⟩) fun f=>?_;have s:=zh (R.o.keep (zAU w2));have r:=zh (l.o.trans ⟨rfl,rfl,rfl,Nat.le_refl _,fun _ _=>rfl⟩:Below w1.heap.size w1 w2.drew);generalize w2.drew=W2 at *;refine Pl [0,1,2,3,4,5,6,7,8,9] ?_
 iterate 10 (refine Pc rfl ?_;simp only[uZ])
 refine Pn ?_;refine oon 10 rfl fun K y=>?_;have T:=zh (And.intro (zBX f.1 (.cells #[.int .i64 (b:Int),.int .i64 t] 3)) (zBX f.2 (.cells #[.int .i64 (b:Int),.int .i64 t] 3)));have Z:=zh (zFb s.o [(b:Int),t] #[.int .i64 (b:Int),.int .i64 t] rfl (by simp;omega) (by simp) W2.heap.size 2 2 rfl rfl (0,0));go_wp2_with fail;refine y.o _ _ (T.o) fun f=>?_;clear y
 try simp only[uZ]
 refine oon 11 rfl fun K y=>?_;go_wp2_with fail;refine Z.o.mono ?_;rintro e w3 ⟨rfl,I,B⟩;have g:=zh (r.o.trans B);have U:=zAI U g.o;have S:=zh (And.intro (zAI v.out.1 g.o) (zAI v.out.2 g.o));have O:=zA9 [(b:Int),t];have H5:=zh (zFD I (p:=pg) (n:=M.group.length) (c:=cg) (zs:=M.group) (fun W hb=>zAM.chg (zCp.has HG.o) (Chg.of_below (g.o.trans hb)) fun _ _=>id) (fun z hz=>by have:=Hg.o.2 z hz;omega) (by simp at O ⊢;omega));clear I B O;go_wp2_with fail;refine y.o _ _ (S.o) fun f=>?_;clear y
 try simp only[uZ]
 refine odn ?_;go_wp2_with fail;refine H5.o.mono ?_;rintro e w4 ⟨rfl,J,C⟩;have Q:=zW (Below w1.heap.size w1 w4) (g.o.trans C);have h7:=zER M.group (by omega);have H6:=zh (wrB_out J (by have O:=zA9 [(b:Int),t];simp at O ⊢;omega));clear J C;go_wp2_with fail;refine H6.o.mono ?_;rintro e w6 ⟨u,rfl,X,G,E⟩;have HE:=zW (zBf w1 (zEo b t M.group) (.returned u) w6) (⟨u,rfl,by rw[HT.o];exact X,G,Q.o.trans E⟩);clear X G E;go_wp2_with fail;go_ret;exact HE.o
end
theorem recsB_take {ls:List Bs}{k:Nat}(b:k<ls.length):zAL (ls.take (k+1))=zAL (ls.take k)++zAK ls[k]:=by
 rw[List.take_succ_eq_append_getElem b,zCj,zCJ]
theorem recsB_take_le (ls:List Bs)(k:Nat):(zAL (ls.take k)).length≤(zAL ls).length:=by
 have h:zAL ls=zAL (ls.take k)++zAL (ls.drop k):=by rw[←zCj,List.take_append_drop]
 rw[h,List.length_append];omega
theorem zEx {w:World}{p:Option Addr}{n c:Nat}{ls:List Bs}(V:zBF w (.slice p n c) ls)(hn:n≤1099511627776)(h1:∀l∈ls,l.length≤1048576)(hl:(zAL ls).length≤1099511627776) :
  Calls prog 159 #[.slice p n c] w (zBf w (zAL ls)):=by
 obtain⟨i0,hi,X,Y,Z⟩:=info_parts (show(prog.info? 5).map (fun i=>(i.zero,i.size,i.bytes))=some (some (.int .u8 0),1,1) by kernel_rfl);have Hn:=zh (zBF.len V);have Hx:=zh V;have H1:=zh h1;have Hl:=zh hl;clear V h1 hl
 go_enter func159,ntmps159
 go_wp2_with fail
 go_loopw [3,10] (fun x i wr=>∃k:Nat,k≤n∧i=.int .i64 k∧zAk wr 5 x (zAL (ls.take k))∧(∀y,x.ownBlock=some y→w.heap.size≤y)∧Below w.heap.size w wr) (fun _ i _=>n-(intOf i).toNat)
 case atStart=>exact⟨0,Nat.zero_le _,rfl,OwnR.nil _ _ _,fun y hy=>(by cases hy),Below.refl _ _⟩
 case round =>
  obtain⟨k,hk,rfl,d,m,F⟩:=hrel
  by_cases S:k<n
  ·have h:k<ls.length:=by rw[←Hn.o];exact S
   have G:=zCx Hx.o F;obtain⟨-,b,o,v,rfl,P,U⟩:=zBF.row G h;have R:=H1.o _ (List.getElem_mem h);have B:=zh (recsB_take h);have I:=recsB_take_le ls (k+1);generalize ls[k]=y at *;obtain⟨pv,cv,rfl⟩:=U.slice;have K:=zh (enc_calls (zCN U 22 (0,0) _ 1 rfl (Nat.le_refl _)) (by decide) (by simpa using R));rw[show [y].flatten=y by simp]at K;have D:=zW ((zAL (ls.take k)).length+(zAK y).length≤1099511627776) (by
    have:=Hl.o;rw[B.o,List.length_append]at I;omega)
   have C:=zh (And.intro d (And.intro m F));clear U G d m F I;go_wp2_with fail;refine K.o.mono ?_;rintro e w2 ⟨u,rfl,T,-,H⟩;have a:Below wr.heap.size wr w2:=(zAC wr (.cells #[.slice pv y.length cv] 22)).trans (H.mono (by simp));have r:=zCM C.o.1 a;have t:=zh r;have s:=zh (C.o.2.2.trans (a.mono C.o.2.2.size));obtain⟨pu,cu,rfl⟩:=T.slice;have Hu:=zh T;have aa:=D.o;generalize M:(zAL (ls.take k)).length=A at *;generalize O:(zAK y).length=N at *;have E:=zW (OwnR w2 5 1 u3 A (zAQ (zAL (ls.take k)))) (by have:=t.o;unfold zAk at this;rwa[M]at this);have L:=zW (zAM w2 1 (.slice pu N cu) N (zAQ (zAK y))) (by have:=Hu.o;unfold zAY at this;rwa[O]at this);clear H a r T;have HA:=zh M;have HN:=zh O;clear M O;go_wp2_with (at_builtin;refine zAP _ rfl (.tmp 20) (.tmp 21) 22 rfl 5 i0 (.int .u8 0) 1 1 underlying22 hi X Y Z rfl (by decide) _ A _ rfl E.o (.slice pu N cu) N _ rfl L.o (zAO _) (by unfold maxLen;omega) (by omega) ?_;intro v3 w3 f j q;go_loud (have J:=zW (zAk w3 5 v3 (zAL (ls.take (k+1)))∧(∀y,v3.ownBlock=some y→w.heap.size≤y)∧Below w.heap.size w w3) (⟨by unfold zAk;rw[B.o,List.length_append,HA.o,HN.o,zBt];exact f,fun z W=>(by {rcases q with e|⟨g,e,Q⟩;exact C.o.2.1 z (e▸W);rw[W]at e;cases e;exact Nat.le_trans s.o.size Q}),s.o.trans ((Chg.of_grown j).below s.o.size fun z W e=>(by have:=C.o.2.1 z e.symm;omega))⟩);clear j q;obtain⟨p3,q3,rfl⟩:=OwnR.shape f;clear f))
   go_roundw
   case rel=>exact⟨k+1,by omega,by go_num,J.o⟩
   case measure=>simp[intOf];omega
  ·have he:ls.take k=ls:=List.take_of_length_le (by rw[←Hn.o];omega);rw[he]at d;have J:=zW (zBf w (zAL ls) (.returned u3) wr) (⟨u3,rfl,d,m,F⟩);clear d m F he;go_wp2_with fail;go_ret;exact J.o
end Go.Proofs.YtapfnehdgailmaaGreat
