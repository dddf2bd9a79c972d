/- What the program's functions and the document's do, and plain laws, for PJournalKept. -/
import Derived.Lib.SliceRun
import Derived.Test.YtapfnehdgailmaaGreatMA
import Derived.Test.YtapfnehdgailmaaGreatMC
import Derived.Test.YtapfnehdgailmaaGreatMF
open Go.Proofs.Tryz
set_option maxRecDepth 100000
set_option maxHeartbeats 64000000
namespace Go.Proofs.YtapfnehdgailmaaGreat
open Go.RowKit Go.Sat Go.Maps
theorem ecl_calls {w:World}{p:Option Addr}{n c:Nat}{cs:List Value}(h:zAM w 4 (.slice p n c) n cs)(E:∀u∈cs,u.oneCell'=true)(hn:n≤1099511627776) :
  Calls prog 157 #[.slice p n c] w fun e w'=>∃v,e=.returned v∧OwnR w' 50 4 v n cs∧(∀k,v.ownBlock=some k→w.heap.size≤k)∧Below w.heap.size w w':=by
 obtain⟨M,B,q,r,s⟩:=info_parts (show(prog.info? 50).map (fun i=>(i.zero,i.size,i.bytes))=some (some (.agg #[.int .i64 0,.int .i64 0,.slice none 0 0,.slice none 0 0]),4,64) by kernel_rfl);have N:∀(w:World) (a:Option Addr) (n c D t:Nat),(binOp .eql 78 (.slice a n c) (.slice none D t)).run prog w=.ok (.bool a.isNone) w:=fun w a n c D t=>Lib.run_eql_slice_nil w _ _ a n c D t underlying78;cases p with
 | none =>
  obtain⟨L,P,t,e,J,-⟩:=h;have C:n=0:=by
   simp only[Value.slice.injEq]at e;exact J e.1.symm
  subst C;have z:cs=[]:=List.eq_nil_of_length_eq_zero (by simpa using L);subst z
  go_enter func157,ntmps157
  go_wp2_with fail;go_ret;exact⟨_,rfl,OwnR.nil _ _ _,fun k l=>(by cases l),Below.refl _ _⟩
 | some a =>
  have H:=zh h;have G:=zh E;clear h E
  go_enter func157,ntmps157
  go_wp2_with (at_builtin;have y:=zAv w (.cells #[] 50);have j:OwnR (w.alloc (.cells #[] 50)) 50 4 (.slice (some ⟨w.heap.size,0,none⟩) 0 0) 0 []:=⟨rfl,.inr ⟨w.heap.size,0,#[],rfl,zAJ w _,Nat.le_refl _,by decide,Nat.le_refl _,rfl⟩⟩;have m:=zAM.chg H.o (Chg.of_below y) fun _ _=>id;refine zAP _ rfl (.tmp 5) (.tmp 6) 78 rfl 50 M (.agg #[.int .i64 0,.int .i64 0,.slice none 0 0,.slice none 0 0]) 4 64 underlying78 B q r s rfl (by decide) _ 0 _ rfl j _ n _ rfl m G.o (by unfold maxLen;omega) (by omega) ?_;intro F w3 b d f;go_loud (have I:=zW (OwnR w3 50 4 F n cs∧(∀k,F.ownBlock=some k→w.heap.size≤k)∧Below w.heap.size w w3) (⟨by simpa using b,fun k l=>(by {rcases f with e|⟨g,e,A⟩;rw[l]at e;cases e;exact Nat.le_refl _;rw[l]at e;cases e;exact Nat.le_trans y.size A}),(((Chg.of_below y).trans (Chg.of_grown d) fun k l e=>(by have O:k=w.heap.size:=Option.some.inj e;omega):Chg (fun _=>False) w w3)).below (Nat.le_refl _) fun _ _ e=>e⟩);clear y j m d f;obtain⟨Q,R,rfl⟩:=OwnR.shape b;clear b))
  go_ret;exact⟨_,rfl,by have:=I.o;rwa[Nat.zero_add]at this⟩
theorem add_zero' (g o i:Nat):(⟨g,o,none⟩:Addr).add i=⟨g,o+i,none⟩:=by unfold Addr.add;split<;>simp_all
theorem run_tail4 {P:Program}(w:World){t e:TypeId}{i:TypeInfo}(g:P.underlying t=some (.slice e))(f:P.info? e=some i)(p:Option Addr)(b c k:Nat)(h:k≤b)(_h2:b≤c) :
  (Instr.slice t (.slice p b c) (some (.int .i64 (k:Int))) none none).run P w=.ok (.slice (if c=k then p else p.map fun x=>x.add (k*i.size)) (b-k) (c-k)) w:=by
 have d:(Instr.sliceBound (.int .i64 (k:Int)) b .sliceB).run P w=.ok k w:=by
  rw[run_sliceBound _ _ _ _ _ (by omega) (by omega)];simp
 simp[Instr.slice,run_underlying g,Instr.sliceBounds,d,sizeOf,typeInfo,f,Result.andThen]
theorem holds_drop {w:World}{e:TypeId}{p:Option Addr}{n c k:Nat}{xs:List Value}(h:OwnR w e 4 (.slice p n c) n xs)(r:k≤n) :
  zAM w 4 (.slice (if c=k then p else p.map fun x=>x.add (k*4)) (n-k) (c-k)) (n-k) (xs.drop (k*4)):=by
 refine⟨by rw[List.length_drop,h.1,Nat.sub_mul],_,_,rfl,fun m=>?_,fun a f i u l=>?_⟩
 ·rcases h.2 with⟨b,hn⟩|⟨g,d,cur,b,o,j,-⟩
  ·omega
  ·simp only[Value.slice.injEq]at b;obtain⟨rfl,-,rfl⟩:=b
   split at m<;>simp at m
 ·have q:=(List.getElem?_eq_some_iff.1 l).1;rw[List.length_drop,h.1]at q;rcases h.2 with⟨b,hn⟩|⟨g,d,cur,b,o,j,-⟩
  ·omega
  ·simp only[Value.slice.injEq]at b;obtain⟨rfl,-,rfl⟩:=b;rw[if_neg (by omega)]at f;simp only[Option.map_some,Option.some.injEq]at f;subst f;rw[add_zero,add_zero' g (k*4) i];rw[List.getElem?_drop]at l;have:=h.cells (g:=g) rfl (k*4+i) u l;rwa[add_zero]at this
theorem zDz:∀(es:List Ent) (vs:List EV),(∀v∈vs,v.1.oneCell'=true∧v.2.oneCell'=true)→∀u∈zAz es vs,u.oneCell'=true
 | [],vs,_,u,b=>by rw[show zAz [] vs=[] by cases vs<;>rfl]at b;cases b
 | _::_,[],_,u,b=>by cases b
 | e::es,v::vs,h,u,b=>by
  have c:=h v (by simp);rcases List.mem_append.1 (show u∈zEm e v++zAz es vs from b)with b|b
  ·simp only[zEm,List.mem_cons,List.not_mem_nil,or_false]at b;rcases b with rfl|rfl|rfl|rfl
   ·rfl
   ·rfl
   ·exact c.1
   ·exact c.2
  ·exact zDz es vs (fun v c=>h v (by simp[c])) u b
theorem zBn.shape {w:World}{j d:Nat}{pre:ByteArray}{own:Nat→Prop}{M:zAH}{m dv l:Value}{vs:List EV}(h:zBn w j d pre own M m dv l vs):∀v∈vs,v.1.oneCell'=true∧v.2.oneCell'=true:=fun v o=>by
 obtain⟨i,f⟩:=List.getElem?_of_mem o;have n:=(List.getElem?_eq_some_iff.1 f).1;have b:=h.rows.2 i _ v (List.getElem?_eq_getElem (by rw[←h.rows.1];exact n)) f;obtain⟨p,c,g,-⟩:=zAN b.data;obtain⟨q,r,k,-⟩:=zAw b.nodes;rw[g,k];exact⟨rfl,rfl⟩
theorem entsC_nil (vs:List EV):zAz [] vs=[]:=by cases vs<;>rfl
structure zC8.OK (s:zC8):Prop where
 number:s.number≤1099511627776
 term:zDG s.term=true
 group:zAX s.group=true
 data:s.data.length≤1073741824
theorem zGe {M:zAH}{i:Nat}{t:Int}(h:M.termAt (i:Int)=some t):i≤M.last:=by
 unfold zAH.termAt at h;unfold zAH.last
 split at h
 ·omega
 ·split at h
  ·cases h
  ·cases b:M.entries[((i:Int)-(M.number:Int)-1).toNat]? with
   | none=>rw[b]at h;cases h
   | some e =>
    have:=(List.getElem?_eq_some_iff.1 b).1;omega
theorem zGU {M:zAH}{s:zC8}(h:M.OK)(c:s.OK):(M.rebase s).OK:=by
 have d:=h.last;refine⟨?_,c.term,c.group,h.now,h.vote,c.data,fun e b=>?_⟩
 ·show s.number+(if M.number<s.number∧M.termAt s.number=some s.term then M.entries.drop (s.number-M.number)else []).length≤_
  split
  ·rename_i hc
   have:=zGe hc.2;unfold zAH.last at this d;rw[List.length_drop];omega
  ·have:=c.number;simpa using this
 ·have b:e∈(if M.number<s.number∧M.termAt s.number=some s.term then M.entries.drop (s.number-M.number)else []):=b
  split at b
  ·exact h.ents e (List.mem_of_mem_drop b)
  ·cases b
section
variable {w w1 w2:World} {j d:Nat} {pre:ByteArray} {D:zAA} {M:zAH} {F F2:Nat→Prop}
theorem zAj.turned2 {own own':Nat→Prop}{M':zAH}{gv' dv' ev':Value}{vs':List EV}(hS:St w w1 d D (fun k=>own k∨F k))(hn:∀k,own k→w.heap.size≤k∧¬F k)(i:∀k,F k→k<w1.heap.size)
  (f:zBn w2 j d pre own' M' gv' dv' ev' vs') (g:Chg own w1 w2) (l:∀k,own' k→own k∨w1.heap.size≤k∨(F k∧w.heap.size≤k)) (c:∀k,F2 k→F k∧¬own' k):zAj w w2 j d pre D M' F2∧Same F2 w1 w2:=by
 refine⟨⟨own',gv',dv',ev',vs',f,hS.move g (fun k _ b=>⟨.inl b,(hn k b).1⟩) (fun k b=>?_),fun k b=>⟨?_,fun m=>(c k m).2 b⟩,fun k b=>Nat.lt_of_lt_of_le (i k (c k b).1) g.size⟩,fun k b=>g.block k (i k (c k b).1) fun n=>(hn k n).2 (c k b).1⟩
 ·rcases b with b|b
  ·refine⟨?_,f.olt k b⟩;rcases l k b with h|h|h
   ·exact .inl (.inl h)
   ·exact .inr h
   ·exact .inl (.inr h.1)
  ·exact⟨.inl (.inr (c k b).1),Nat.lt_of_lt_of_le (i k (c k b).1) g.size⟩
 ·rcases l k b with h|h|h
  ·exact(hn k h).1
  ·exact Nat.le_trans hS.below.size h
  ·exact h.2
theorem jouIn_base {own:Nat→Prop}{P dv O:Value}{vs:List EV}{s:zC8}{g f l:Value}{k:Nat}{es:List Ent}(c:zBn w1 j d pre own M P dv O vs)(_hs:s.OK)(L:zCp w1 g s.group)(J:zAk w1 5 f s.data)(D:∀x,g.ownBlock=some x∨f.ownBlock=some x→¬own x)
  (z:es=M.entries.drop k) (h:Below w1.heap.size w1 w2) (C:OwnR w2 50 4 l es.length (zAz es (vs.drop k))) (m:∀x,l.ownBlock=some x→w1.heap.size≤x) (H:(zAH.mk s.number s.term s.group M.now M.vote s.data es M.dead).OK) :
  zBn (((((w2.setCell ⟨j,0,none⟩ (.int .i64 (s.number:Int))).setCell ⟨j,1,none⟩ (.int .i64 s.term)).setCell ⟨j,2,none⟩ g).setCell ⟨j,7,none⟩ f).setCell ⟨j,8,none⟩ l) j d pre (fun x=>own x∨(g.ownBlock=some x∨f.ownBlock=some x)∨l.ownBlock=some x) (zAH.mk s.number s.term s.group M.now M.vote s.data es M.dead) g f l (vs.drop k) ∧
  Chg own w1 (((((w2.setCell ⟨j,0,none⟩ (.int .i64 (s.number:Int))).setCell ⟨j,1,none⟩ (.int .i64 s.term)).setCell ⟨j,2,none⟩ g).setCell ⟨j,7,none⟩ f).setCell ⟨j,8,none⟩ l):=by
 have U:=h.size;have E:=c.olt j c.ol;have a:Chg (fun x=>x=j) w2 (((((w2.setCell ⟨j,0,none⟩ (.int .i64 (s.number:Int))).setCell ⟨j,1,none⟩ (.int .i64 s.term)).setCell ⟨j,2,none⟩ g).setCell ⟨j,7,none⟩ f).setCell ⟨j,8,none⟩ l) :=
  ((((Chg.setCell w2 ⟨j,0,none⟩ _).trans (Chg.setCell _ ⟨j,1,none⟩ _) fun _ _ e=>e).trans (Chg.setCell _ ⟨j,2,none⟩ _) fun _ _ e=>e).trans (Chg.setCell _ ⟨j,7,none⟩ _) fun _ _ e=>e).trans (Chg.setCell _ ⟨j,8,none⟩ _) fun _ _ e=>e
 have t:(((((w2.setCell ⟨j,0,none⟩ (.int .i64 (s.number:Int))).setCell ⟨j,1,none⟩ (.int .i64 s.term)).setCell ⟨j,2,none⟩ g).setCell ⟨j,7,none⟩ f).setCell ⟨j,8,none⟩ l).heap[j]?=some (.cells #[.int .i64 (s.number:Int),.int .i64 s.term,g,.pointer (some ⟨d,0,none⟩),.string pre,.int .i64 M.now,.int .i64 M.vote,f,l,.bool M.dead] 132 (0,0)):=by
  have o:=zAD ((h.block j E).trans c.cells) 0 (.int .i64 (s.number:Int));have q:=zAD o 1 (.int .i64 s.term);have y:=zAD q 2 g;have Q:=zAD y 7 f;have R:=zAD Q 8 l;simpa using R
 generalize ((((w2.setCell ⟨j,0,none⟩ (.int .i64 (s.number:Int))).setCell ⟨j,1,none⟩ (.int .i64 s.term)).setCell ⟨j,2,none⟩ g).setCell ⟨j,7,none⟩ f).setCell ⟨j,8,none⟩ l=W at *;have F:∀x,x<w1.heap.size→x≠j→W.heap[x]?=w1.heap[x]?:=fun x b G=>(a.block x (by omega) G).trans (h.block x b);have p:∀x,g.ownBlock=some x∨f.ownBlock=some x→x≠j:=fun x b e=>D x b (e▸c.ol);have n:∀x,g.ownBlock=some x∨f.ownBlock=some x→x<w1.heap.size:=fun x b=>b.elim (OwnR.lt L) (OwnR.lt J);have r:∀u∈vs.drop k,u∈vs:=fun u I=>List.mem_of_mem_drop I;refine⟨⟨t,OwnR.keep L fun x b=>F x (n x (.inl b)) (p x (.inl b)),OwnR.keep J fun x b=>F x (n x (.inr b)) (p x (.inr b)),C.keep fun x b=>a.block x (C.lt b) fun e=>by have:=m x b;omega,⟨by show _=es.length;rw[z,List.length_drop,List.length_drop,c.rows.1],fun i e v o q=>?_⟩,.inl c.ol,fun x b=>⟨.inr (.inl (.inl b)),p x (.inl b),fun e=>by have o:=m x e;have q:=n x (.inl b);omega⟩,fun x b=>⟨.inr (.inl (.inr b)),p x (.inr b),fun e=>by have o:=m x e;have q:=n x (.inr b);omega⟩,fun x b=>⟨.inr (.inr b),fun e=>by have:=m x b;omega⟩,fun u I x b=>?_,fun x b=>?_,c.psz,H⟩,?_⟩
 ·have A:M.entries[k+i]?=some e:=by
   have o:es[i]?=some e:=o;rw[z,List.getElem?_drop]at o;exact o
  have B:vs[k+i]?=some v:=by rw[List.getElem?_drop]at q;exact q
  have N:=r v (List.mem_of_getElem? q);exact(c.rows.2 _ e v A B).keep fun x b=>F x (c.olt x (c.ov v N x b).1) (c.ov v N x b).2.1
 ·have y:=c.ov u (r u I) x b;exact⟨.inl y.1,y.2.1,fun e=>by have o:=m x e;have q:=c.olt x y.1;omega⟩
 ·have S:=a.size;rcases b with b|b|b
  ·have:=c.olt x b;omega
  ·have:=n x b;omega
  ·have:=C.lt b;omega
 ·exact((Chg.of_below h).mono (T:=own) fun _ _ e=>e.elim).trans a fun x _ e=>by rw[e];exact c.ol
theorem zGI (h:zAj w w1 j d pre D M F){s:zC8}(hs:s.OK){pg pd:Option Addr}{cg cd:Nat}(hg:zCp w1 (.slice pg s.group.length cg) s.group)(hd:zAk w1 5 (.slice pd s.data.length cd) s.data)
  (hF:∀k,(Value.slice pg s.group.length cg).ownBlock=some k∨(Value.slice pd s.data.length cd).ownBlock=some k→F k∧w.heap.size≤k)
  (V:∀k,F2 k→F k∧(Value.slice pg s.group.length cg).ownBlock≠some k∧(Value.slice pd s.data.length cd).ownBlock≠some k) :
  Calls prog 79 #[.pointer (some ⟨j,0,none⟩),.agg #[.int .i64 (s.number:Int),.int .i64 s.term,.slice pg s.group.length cg],.slice pd s.data.length cd] w1 fun e w'=>e=.returned (.tuple #[])∧zAj w w' j d pre D (M.rebase s) F2∧Same F2 w1 w':=by
 obtain⟨i0,ax,-,aq,-⟩:=info_parts (show(prog.info? 50).map (fun i=>(i.zero,i.size,i.bytes))=some (some (.agg #[.int .i64 0,.int .i64 0,.slice none 0 0,.slice none 0 0]),4,64) by kernel_rfl);have aG:=hs.number;have aF:=hs.data;have aE:=(zES hs.group).2;have aj:=h.okM.last;have ai:=zAC w1 (.cells #[.int .i64 (s.number:Int),.int .i64 s.term,.slice pg s.group.length cg] 130);have af:=zh (zEW (h.next ai) (s.number:Int) (by omega));obtain⟨own,gv,dv,ev,vs,X,hS,hn,hl⟩:=id h;obtain⟨pe,ce,rfl⟩:=X.row.shape;have c0:=zBX (X.c 0 rfl) (.cells #[.int .i64 (s.number:Int),.int .i64 s.term,.slice pg s.group.length cg] 130);have c8:=zBX (X.c 8 rfl) (.cells #[.int .i64 (s.number:Int),.int .i64 s.term,.slice pg s.group.length cg] 130);have an:M.entries.length≤ce:=by
  rcases X.row.2 with⟨e1,e2⟩|⟨g,aB,cur,e1,-,e3,-⟩
  ·rw[e2];exact Nat.zero_le _
  ·simp only[Value.slice.injEq]at e1;omega
 have ag:=zh (X.olt j X.ol);have l:=zW (w1.heap.size≠(⟨j,0,none⟩:Addr).block) (fun e=>by have:=X.olt j X.ol;have e2:w1.heap.size=j:=e;omega);have am:=zh X.cells;have Z:=zh (fun(k:Nat) (es:List Ent) (hes:es=M.entries.drop k) (T:M.rebase s=zAH.mk s.number s.term s.group M.now M.vote s.data es M.dead) (C:World) (S:Value) (hb:Below w1.heap.size w1 C) (A:OwnR C 50 4 S es.length (zAz es (vs.drop k))) (f:∀x,S.ownBlock=some x→w1.heap.size≤x)=>show zAj w (((((C.setCell ⟨j,0,none⟩ (.int .i64 (s.number:Int))).setCell ⟨j,1,none⟩ (.int .i64 s.term)).setCell ⟨j,2,none⟩ (.slice pg s.group.length cg)).setCell ⟨j,7,none⟩ (.slice pd s.data.length cd)).setCell ⟨j,8,none⟩ S) j d pre D (M.rebase s) F2∧Same F2 w1 (((((C.setCell ⟨j,0,none⟩ (.int .i64 (s.number:Int))).setCell ⟨j,1,none⟩ (.int .i64 s.term)).setCell ⟨j,2,none⟩ (.slice pg s.group.length cg)).setCell ⟨j,7,none⟩ (.slice pd s.data.length cd)).setCell ⟨j,8,none⟩ S) by
  have aw:=zGU X.ok hs;rw[T]at aw ⊢;obtain⟨hA,hB⟩:=jouIn_base X hs hg hd (fun x Q ho=>(hn x ho).2 (hF x Q).1) hes hb A f aw;refine zAj.turned2 hS hn hl hA hB (fun x Q=>?_) fun x Q=>⟨(V x Q).1,fun ho=>?_⟩
  ·rcases Q with Q|Q|Q
   ·exact .inl Q
   ·exact .inr (.inr (hF x Q))
   ·exact .inr (.inl (f x Q))
  ·rcases ho with ho|ho|ho
   ·exact(hn x ho).2 (V x Q).1
   ·exact ho.elim (V x Q).2.1 (V x Q).2.2
   ·have h1:=f x ho;have h2:=hl x (V x Q).1;omega)
 have m:=zh (zAJ w1 (.cells #[.int .i64 (s.number:Int),.int .i64 s.term,.slice pg s.group.length cg] 130));have al:=zh ai;have ah:=X.row;cases U:M.termAt (s.number:Int)with
 | none =>
  have ak:¬(M.number<s.number∧M.termAt (s.number:Int)=some s.term):=fun e=>by rw[U]at e;cases e.2
  have T:M.rebase s=zAH.mk s.number s.term s.group M.now M.vote s.data [] M.dead:=by
   unfold zAH.rebase;rw[if_neg ak]
  have E:=zh (fun C S (hb:Below w1.heap.size w1 C) (A:OwnR C 50 4 S 0 []) f=>Z.o M.entries.length [] (by rw[List.drop_length]) T C S hb (by rw[entsC_nil];exact A) f);have R:=zh (fun W (_:Below w1.heap.size w1 W)=>ecl_calls (w:=W) (p:=none) (n:=0) (c:=0) (cs:=[]) ⟨rfl,none,0,rfl,fun _=>rfl,fun a ha=>by cases ha⟩ (fun u hu=>by cases hu) (by decide));rw[U]at af;clear h hs hg hd hF V X hS hn hl ah U ak T ai an
  go_enter func79,ntmps79
  go_wp2_with fail;refine af.o.mono ?_;rintro r w2 ⟨rfl,q,rfl⟩;have c0:((w1.alloc (.cells #[.int .i64 (s.number:Int),.int .i64 s.term,.slice pg s.group.length cg] 130)).drewN q).cell? ⟨j,0,none⟩=some (.int .i64 (M.number:Int)):=c0;have c8:((w1.alloc (.cells #[.int .i64 (s.number:Int),.int .i64 s.term,.slice pg s.group.length cg] 130)).drewN q).cell? ⟨j,8,none⟩=some (.slice pe M.entries.length ce):=c8;have z0:((w1.alloc (.cells #[.int .i64 (s.number:Int),.int .i64 s.term,.slice pg s.group.length cg] 130)).drewN q).cell? ⟨w1.heap.size,0,none⟩=some (.int .i64 (s.number:Int)):=zAd (m.o);have z1:((w1.alloc (.cells #[.int .i64 (s.number:Int),.int .i64 s.term,.slice pg s.group.length cg] 130)).drewN q).cell? ⟨w1.heap.size,1,none⟩=some (.int .i64 s.term):=zAn (m.o);go_wp2_with fail
  go_quiet (fail)
  go_wp2_with fail;generalize I:(World.drewN _ _)=WQ;have Y:=zW (Below w1.heap.size w1 WQ) (by rw[←I];exact al.o.trans ⟨rfl,rfl,rfl,by simp[World.drewN],fun _ _=>rfl⟩);have N:=zW (WQ.drew.heap[w1.heap.size]?=some (.cells #[.int .i64 (s.number:Int),.int .i64 s.term,.slice pg s.group.length cg] 130 (0,0))) (by rw[←I];exact m.o);clear I c0 c8 z0 z1;refine ost (fun w':World=>w'.heap[w1.heap.size]?=some (.cells #[.int .i64 (s.number:Int),.int .i64 s.term,.slice pg s.group.length cg] 130 (0,0))) 16 (N.o) fun b=>?_;have B:=zW (Below w1.heap.size w1 WQ.drew) (Y.o.trans ⟨rfl,rfl,rfl,Nat.le_refl _,fun _ _=>rfl⟩);generalize WQ.drew=W1 at *;refine Pl [0,1,2] ?_
  iterate 3 (refine Pc rfl ?_;simp only[uZ])
  refine Pn ?_;refine otc 3 (v:=.agg #[.int .i64 (s.number:Int),.int .i64 s.term,.slice pg s.group.length cg]) rfl (fun W H=>by have q0:=zAd H;have q1:=zAn H;have q2:=zAo H;go_simp;try with_reducible rfl) ?_;simp only[uZ];refine Pl [4,5] ?_
  iterate 2 (refine Pc rfl ?_;simp only[uZ])
  refine Pn ?_;refine oon 6 rfl fun K z=>?_;go_wp2_with fail;refine(R.o W1 B.o).mono ?_;rintro e C ⟨S,rfl,A,f,J⟩;have L:=zh (B.o.trans (J.mono B.o.size));have ab:=zh ((J.block _ (zAB b)).trans b);have aa:=zh (E.o C S L.o A (fun x Q=>Nat.le_trans B.o.size (f x Q)));have y:=zh ((L.o.block j ag.o).trans am.o);obtain⟨pn,qn,rfl⟩:=OwnR.shape A;clear A f J R E;go_wp2_with fail;refine z.o _ _ (ab.o) fun b=>?_;clear z
  try simp only[uZ]
  refine Pl [7,8] ?_
  iterate 2 (refine Pc rfl ?_;simp only[uZ])
  refine Pn ?_;refine oon 9 rfl fun K z=>?_;have b0:=zAd y.o;have b1:=zAn y.o;have b2:=zAo y.o;have fr:=zAE y.o;have ac:=zW ((((C.setCell ⟨j,0,none⟩ (.int .i64 (s.number:Int))).setCell ⟨j,1,none⟩ (.int .i64 s.term)).setCell ⟨j,2,none⟩ (.slice pg s.group.length cg)).heap[w1.heap.size]?=some (.cells #[.int .i64 (s.number:Int),.int .i64 s.term,.slice pg s.group.length cg] 130 (0,0))) ((set_other _ l.o).trans ((set_other _ l.o).trans ((set_other _ l.o).trans b)));have G:=zh (zAD (zAD (zAD y.o 0 (.int .i64 (s.number:Int))) 1 (.int .i64 s.term)) 2 (.slice pg s.group.length cg));go_wp2_with fail;clear b0 b1 b2 fr;refine z.o _ _ (ac.o) fun b=>?_;clear z
  try simp only[uZ]
  refine Pl [10,11] ?_
  iterate 2 (refine Pc rfl ?_;simp only[uZ])
  refine Pn ?_;refine oon 12 rfl fun K z=>?_;have b7:=zAG G.o (i:=7) rfl;have f7:=zAE G.o 7;have ad:=zW (((((C.setCell ⟨j,0,none⟩ (.int .i64 (s.number:Int))).setCell ⟨j,1,none⟩ (.int .i64 s.term)).setCell ⟨j,2,none⟩ (.slice pg s.group.length cg)).setCell ⟨j,7,none⟩ (.slice pd s.data.length cd)).heap[w1.heap.size]?=some (.cells #[.int .i64 (s.number:Int),.int .i64 s.term,.slice pg s.group.length cg] 130 (0,0))) ((set_other _ l.o).trans b);have O:=zh (zAD G.o 7 (.slice pd s.data.length cd));go_wp2_with fail;clear b7 f7;refine z.o _ _ (ad.o) fun b=>?_;clear z
  try simp only[uZ]
  refine Pl [13,14] ?_
  iterate 2 (refine Pc rfl ?_;simp only[uZ])
  refine Pn ?_;refine oon 15 rfl fun K z=>?_;have b8:=zAG O.o (i:=8) rfl;have f8:=zAE O.o 8;have ae:=zh (fun x=>(show(((((C.setCell ⟨j,0,none⟩ (.int .i64 (s.number:Int))).setCell ⟨j,1,none⟩ (.int .i64 s.term)).setCell ⟨j,2,none⟩ (.slice pg s.group.length cg)).setCell ⟨j,7,none⟩ (.slice pd s.data.length cd)).setCell ⟨j,8,none⟩ x).heap[w1.heap.size]?=some (.cells #[.int .i64 (s.number:Int),.int .i64 s.term,.slice pg s.group.length cg] 130 (0,0))from(set_other _ l.o).trans b));go_wp2_with fail;clear b8 f8;refine z.o _ _ (ae.o _) fun b=>?_;clear z
  try simp only[uZ]
  refine odn ?_;go_wp2_with fail
  go_end0
  exact⟨rfl,aa.o⟩
 | some t =>
  by_cases ao:M.number<s.number∧t=s.term
  ·obtain⟨av,rfl⟩:=ao;have au:=zGe U;unfold zAH.last at au aj;have T:M.rebase s=zAH.mk s.number s.term s.group M.now M.vote s.data (M.entries.drop (s.number-M.number)) M.dead:=by
    unfold zAH.rebase;rw[if_pos ⟨av,U⟩]
   generalize hk:s.number-M.number=k at *;have ar:k≤M.entries.length:=by omega
   have E:=zh (fun C S (hb:Below w1.heap.size w1 C) (A:OwnR C 50 4 S (M.entries.length-k) ((zAz M.entries vs).drop (k*4))) f=>Z.o k _ rfl T C S hb (by rw[List.length_drop,entsC_drop _ _ _ X.rows.1];exact A) f);have ap:=holds_drop ah ar;have R:=zh (fun W (hb:Below w1.heap.size w1 W)=>ecl_calls (zAM.chg ap (Chg.of_below hb) fun _ _=>id) (fun u hu=>zDz _ _ (fun v hv=>X.shape v hv) u (List.mem_of_mem_drop hu)) (by omega));have aA:∀W,(Instr.slice 78 (.slice pe M.entries.length ce) (some (.int .i64 (k:Int))) none none).run prog W=.ok (.slice (if ce=k then pe else pe.map fun x=>x.add (k*4)) (M.entries.length-k) (ce-k)) W:=fun W=>by
    have:=run_tail4 (P:=prog) W underlying78 ax pe M.entries.length ce k ar an;rwa[aq]at this
   have aH:IntKind.i64.wrap ((s.number:Int)-(M.number:Int))=(k:Int):=by rw[IntWalk.i64_in _ (by omega)];omega
   have aC:decide (M.number<s.number)=true:=by simpa using av
   have aD:decide ((M.number:Int)<(s.number:Int))=true:=by simp;omega
   rw[U]at af;clear h hs hg hd hF V X hS hn hl ah U T ai an au hk ap aj;generalize (if ce=k then pe else pe.map fun x=>x.add (k*4))=pk at *
   go_enter func79,ntmps79
   go_wp2_with fail;refine af.o.mono ?_;rintro r w2 ⟨rfl,q,rfl⟩;have c0:((w1.alloc (.cells #[.int .i64 (s.number:Int),.int .i64 s.term,.slice pg s.group.length cg] 130)).drewN q).cell? ⟨j,0,none⟩=some (.int .i64 (M.number:Int)):=c0;have c8:((w1.alloc (.cells #[.int .i64 (s.number:Int),.int .i64 s.term,.slice pg s.group.length cg] 130)).drewN q).cell? ⟨j,8,none⟩=some (.slice pe M.entries.length ce):=c8;have z0:((w1.alloc (.cells #[.int .i64 (s.number:Int),.int .i64 s.term,.slice pg s.group.length cg] 130)).drewN q).cell? ⟨w1.heap.size,0,none⟩=some (.int .i64 (s.number:Int)):=zAd (m.o);have z1:((w1.alloc (.cells #[.int .i64 (s.number:Int),.int .i64 s.term,.slice pg s.group.length cg] 130)).drewN q).cell? ⟨w1.heap.size,1,none⟩=some (.int .i64 s.term):=zAn (m.o);go_wp2_with fail
   go_quiet (fail)
   go_wp2_with fail
   go_quiet (fail)
   go_wp2_with fail;generalize I:(World.drewN _ _)=WQ;have Y:=zW (Below w1.heap.size w1 WQ) (by rw[←I];exact al.o.trans ⟨rfl,rfl,rfl,by simp[World.drewN],fun _ _=>rfl⟩);have N:=zW (WQ.drew.heap[w1.heap.size]?=some (.cells #[.int .i64 (s.number:Int),.int .i64 s.term,.slice pg s.group.length cg] 130 (0,0))) (by rw[←I];exact m.o);clear I c0 c8 z0 z1;refine ost (fun w':World=>w'.heap[w1.heap.size]?=some (.cells #[.int .i64 (s.number:Int),.int .i64 s.term,.slice pg s.group.length cg] 130 (0,0))) 16 (N.o) fun b=>?_;have B:=zW (Below w1.heap.size w1 WQ.drew) (Y.o.trans ⟨rfl,rfl,rfl,Nat.le_refl _,fun _ _=>rfl⟩);generalize WQ.drew=W1 at *;refine Pl [0,1,2] ?_
   iterate 3 (refine Pc rfl ?_;simp only[uZ])
   refine Pn ?_;refine otc 3 (v:=.agg #[.int .i64 (s.number:Int),.int .i64 s.term,.slice pg s.group.length cg]) rfl (fun W H=>by have q0:=zAd H;have q1:=zAn H;have q2:=zAo H;go_simp;try with_reducible rfl) ?_;simp only[uZ];refine Pl [4,5] ?_
   iterate 2 (refine Pc rfl ?_;simp only[uZ])
   refine Pn ?_;refine oon 6 rfl fun K z=>?_;go_wp2_with fail;refine(R.o W1 B.o).mono ?_;rintro e C ⟨S,rfl,A,f,J⟩;have L:=zh (B.o.trans (J.mono B.o.size));have ab:=zh ((J.block _ (zAB b)).trans b);have aa:=zh (E.o C S L.o A (fun x Q=>Nat.le_trans B.o.size (f x Q)));have y:=zh ((L.o.block j ag.o).trans am.o);obtain⟨pn,qn,rfl⟩:=OwnR.shape A;clear A f J R E;go_wp2_with fail;refine z.o _ _ (ab.o) fun b=>?_;clear z
   try simp only[uZ]
   refine Pl [7,8] ?_
   iterate 2 (refine Pc rfl ?_;simp only[uZ])
   refine Pn ?_;refine oon 9 rfl fun K z=>?_;have b0:=zAd y.o;have b1:=zAn y.o;have b2:=zAo y.o;have fr:=zAE y.o;have ac:=zW ((((C.setCell ⟨j,0,none⟩ (.int .i64 (s.number:Int))).setCell ⟨j,1,none⟩ (.int .i64 s.term)).setCell ⟨j,2,none⟩ (.slice pg s.group.length cg)).heap[w1.heap.size]?=some (.cells #[.int .i64 (s.number:Int),.int .i64 s.term,.slice pg s.group.length cg] 130 (0,0))) ((set_other _ l.o).trans ((set_other _ l.o).trans ((set_other _ l.o).trans b)));have G:=zh (zAD (zAD (zAD y.o 0 (.int .i64 (s.number:Int))) 1 (.int .i64 s.term)) 2 (.slice pg s.group.length cg));go_wp2_with fail;clear b0 b1 b2 fr;refine z.o _ _ (ac.o) fun b=>?_;clear z
   try simp only[uZ]
   refine Pl [10,11] ?_
   iterate 2 (refine Pc rfl ?_;simp only[uZ])
   refine Pn ?_;refine oon 12 rfl fun K z=>?_;have b7:=zAG G.o (i:=7) rfl;have f7:=zAE G.o 7;have ad:=zW (((((C.setCell ⟨j,0,none⟩ (.int .i64 (s.number:Int))).setCell ⟨j,1,none⟩ (.int .i64 s.term)).setCell ⟨j,2,none⟩ (.slice pg s.group.length cg)).setCell ⟨j,7,none⟩ (.slice pd s.data.length cd)).heap[w1.heap.size]?=some (.cells #[.int .i64 (s.number:Int),.int .i64 s.term,.slice pg s.group.length cg] 130 (0,0))) ((set_other _ l.o).trans b);have O:=zh (zAD G.o 7 (.slice pd s.data.length cd));go_wp2_with fail;clear b7 f7;refine z.o _ _ (ad.o) fun b=>?_;clear z
   try simp only[uZ]
   refine Pl [13,14] ?_
   iterate 2 (refine Pc rfl ?_;simp only[uZ])
   refine Pn ?_;refine oon 15 rfl fun K z=>?_;have b8:=zAG O.o (i:=8) rfl;have f8:=zAE O.o 8;have ae:=zh (fun x=>(show(((((C.setCell ⟨j,0,none⟩ (.int .i64 (s.number:Int))).setCell ⟨j,1,none⟩ (.int .i64 s.term)).setCell ⟨j,2,none⟩ (.slice pg s.group.length cg)).setCell ⟨j,7,none⟩ (.slice pd s.data.length cd)).setCell ⟨j,8,none⟩ x).heap[w1.heap.size]?=some (.cells #[.int .i64 (s.number:Int),.int .i64 s.term,.slice pg s.group.length cg] 130 (0,0))from(set_other _ l.o).trans b));go_wp2_with fail;clear b8 f8;refine z.o _ _ (ae.o _) fun b=>?_;clear z
   try simp only[uZ]
   refine odn ?_;go_wp2_with fail
   go_end0
   exact⟨rfl,aa.o⟩
  ·have ak:¬(M.number<s.number∧M.termAt (s.number:Int)=some s.term):=fun e=>ao ⟨e.1,by have:=e.2;rw[U]at this;exact Option.some.inj this⟩;have T:M.rebase s=zAH.mk s.number s.term s.group M.now M.vote s.data [] M.dead:=by
    unfold zAH.rebase;rw[if_neg ak]
   have E:=zh (fun C S (hb:Below w1.heap.size w1 C) (A:OwnR C 50 4 S 0 []) f=>Z.o M.entries.length [] (by rw[List.drop_length]) T C S hb (by rw[entsC_nil];exact A) f);have R:=zh (fun W (_:Below w1.heap.size w1 W)=>ecl_calls (w:=W) (p:=none) (n:=0) (c:=0) (cs:=[]) ⟨rfl,none,0,rfl,fun _=>rfl,fun a ha=>by cases ha⟩ (fun u hu=>by cases hu) (by decide));rw[U]at af;have az:(t==s.term)=false∨(t==s.term)=true∧decide (M.number<s.number)=false∧decide ((M.number:Int)<(s.number:Int))=false:=by
    by_cases ht:t=s.term
    ·have ay:¬M.number<s.number:=fun e=>ao ⟨e,ht⟩;exact .inr ⟨by simpa using ht,by simpa using ay,by simp;omega⟩
    ·exact .inl (by simpa using ht)
   clear h hs hg hd hF V X hS hn hl ah U ak T ai an ao;rcases az with e0|⟨e0,e1,e2⟩
   all_goals
    skip;go_enter func79,ntmps79;go_wp2_with fail;refine af.o.mono ?_;rintro r w2 ⟨rfl,q,rfl⟩;have c0:((w1.alloc (.cells #[.int .i64 (s.number:Int),.int .i64 s.term,.slice pg s.group.length cg] 130)).drewN q).cell? ⟨j,0,none⟩=some (.int .i64 (M.number:Int)):=c0;have c8:((w1.alloc (.cells #[.int .i64 (s.number:Int),.int .i64 s.term,.slice pg s.group.length cg] 130)).drewN q).cell? ⟨j,8,none⟩=some (.slice pe M.entries.length ce):=c8;have z0:((w1.alloc (.cells #[.int .i64 (s.number:Int),.int .i64 s.term,.slice pg s.group.length cg] 130)).drewN q).cell? ⟨w1.heap.size,0,none⟩=some (.int .i64 (s.number:Int)):=zAd (m.o);have z1:((w1.alloc (.cells #[.int .i64 (s.number:Int),.int .i64 s.term,.slice pg s.group.length cg] 130)).drewN q).cell? ⟨w1.heap.size,1,none⟩=some (.int .i64 s.term):=zAn (m.o);go_wp2_with fail;go_quiet (fail);go_wp2_with fail;generalize I:(World.drewN _ _)=WQ;have Y:=zW (Below w1.heap.size w1 WQ) (by rw[←I];exact al.o.trans ⟨rfl,rfl,rfl,by simp[World.drewN],fun _ _=>rfl⟩);have N:=zW (WQ.drew.heap[w1.heap.size]?=some (.cells #[.int .i64 (s.number:Int),.int .i64 s.term,.slice pg s.group.length cg] 130 (0,0))) (by rw[←I];exact m.o);clear I c0 c8 z0 z1;refine ost (fun w':World=>w'.heap[w1.heap.size]?=some (.cells #[.int .i64 (s.number:Int),.int .i64 s.term,.slice pg s.group.length cg] 130 (0,0))) 16 (N.o) fun b=>?_;have B:=zW (Below w1.heap.size w1 WQ.drew) (Y.o.trans ⟨rfl,rfl,rfl,Nat.le_refl _,fun _ _=>rfl⟩);generalize WQ.drew=W1 at *;refine Pl [0,1,2] ?_;iterate 3 (refine Pc rfl ?_;simp only[uZ])
    refine Pn ?_;refine otc 3 (v:=.agg #[.int .i64 (s.number:Int),.int .i64 s.term,.slice pg s.group.length cg]) rfl (fun W H=>by have q0:=zAd H;have q1:=zAn H;have q2:=zAo H;go_simp;try with_reducible rfl) ?_;simp only[uZ];refine Pl [4,5] ?_;iterate 2 (refine Pc rfl ?_;simp only[uZ])
    refine Pn ?_;refine oon 6 rfl fun K z=>?_;go_wp2_with fail;refine(R.o W1 B.o).mono ?_;rintro e C ⟨S,rfl,A,f,J⟩;have L:=zh (B.o.trans (J.mono B.o.size));have ab:=zh ((J.block _ (zAB b)).trans b);have aa:=zh (E.o C S L.o A (fun x Q=>Nat.le_trans B.o.size (f x Q)));have y:=zh ((L.o.block j ag.o).trans am.o);obtain⟨pn,qn,rfl⟩:=OwnR.shape A;clear A f J R E;go_wp2_with fail;refine z.o _ _ (ab.o) fun b=>?_;clear z;try simp only[uZ]
    refine Pl [7,8] ?_;iterate 2 (refine Pc rfl ?_;simp only[uZ])
    refine Pn ?_;refine oon 9 rfl fun K z=>?_;have b0:=zAd y.o;have b1:=zAn y.o;have b2:=zAo y.o;have fr:=zAE y.o;have ac:=zW ((((C.setCell ⟨j,0,none⟩ (.int .i64 (s.number:Int))).setCell ⟨j,1,none⟩ (.int .i64 s.term)).setCell ⟨j,2,none⟩ (.slice pg s.group.length cg)).heap[w1.heap.size]?=some (.cells #[.int .i64 (s.number:Int),.int .i64 s.term,.slice pg s.group.length cg] 130 (0,0))) ((set_other _ l.o).trans ((set_other _ l.o).trans ((set_other _ l.o).trans b)));have G:=zh (zAD (zAD (zAD y.o 0 (.int .i64 (s.number:Int))) 1 (.int .i64 s.term)) 2 (.slice pg s.group.length cg));go_wp2_with fail;clear b0 b1 b2 fr;refine z.o _ _ (ac.o) fun b=>?_;clear z;try simp only[uZ]
    refine Pl [10,11] ?_;iterate 2 (refine Pc rfl ?_;simp only[uZ])
    refine Pn ?_;refine oon 12 rfl fun K z=>?_;have b7:=zAG G.o (i:=7) rfl;have f7:=zAE G.o 7;have ad:=zW (((((C.setCell ⟨j,0,none⟩ (.int .i64 (s.number:Int))).setCell ⟨j,1,none⟩ (.int .i64 s.term)).setCell ⟨j,2,none⟩ (.slice pg s.group.length cg)).setCell ⟨j,7,none⟩ (.slice pd s.data.length cd)).heap[w1.heap.size]?=some (.cells #[.int .i64 (s.number:Int),.int .i64 s.term,.slice pg s.group.length cg] 130 (0,0))) ((set_other _ l.o).trans b);have O:=zh (zAD G.o 7 (.slice pd s.data.length cd));go_wp2_with fail;clear b7 f7;refine z.o _ _ (ad.o) fun b=>?_;clear z;try simp only[uZ]
    refine Pl [13,14] ?_;iterate 2 (refine Pc rfl ?_;simp only[uZ])
    refine Pn ?_;refine oon 15 rfl fun K z=>?_;have b8:=zAG O.o (i:=8) rfl;have f8:=zAE O.o 8;have ae:=zh (fun x=>(show(((((C.setCell ⟨j,0,none⟩ (.int .i64 (s.number:Int))).setCell ⟨j,1,none⟩ (.int .i64 s.term)).setCell ⟨j,2,none⟩ (.slice pg s.group.length cg)).setCell ⟨j,7,none⟩ (.slice pd s.data.length cd)).setCell ⟨j,8,none⟩ x).heap[w1.heap.size]?=some (.cells #[.int .i64 (s.number:Int),.int .i64 s.term,.slice pg s.group.length cg] 130 (0,0))from(set_other _ l.o).trans b));go_wp2_with fail;clear b8 f8;refine z.o _ _ (ae.o _) fun b=>?_;clear z;try simp only[uZ]
    refine odn ?_;go_wp2_with fail;go_end0;exact⟨rfl,aa.o⟩
end
def sSnp (s:ByteArray):ByteArray:=s++⟨#[45,115,110,97,112]⟩
theorem nm_snp (s:ByteArray):nm (sSnp s)=zBR (nm s):=by simp[nm,sSnp,zBR,snpX]
theorem zGb (s:ByteArray):(sSnp s).size=s.size+5:=by simp[sSnp,ByteArray.size_append];rfl
theorem wrB_outS {B:Nat}{w:World}{k:Nat}{l:Bs}(h:WrB B w k l)(d:l.length≤140737488355328) :
  Calls prog 106 #[.pointer (some ⟨k,0,none⟩)] w fun e w'=>∃v,e=.returned v∧zAk w' 5 v l∧Below w.heap.size w w':=by
 obtain⟨v,b,g,i,j⟩:=h;refine(wout_calls b d).mono ?_;rintro e w' ⟨u,rfl,f,hn,c⟩;exact⟨u,rfl,f,c⟩
theorem goes_err {pre:Bs}{D D':zAA}{M:zAH}{s:zC8}{e:Nat}(h:D.save (zBR pre) (zEj s.number s.term s.group s.data)=(D',e))(b:e≠0):zA0 pre D M s=⟨D',M.die,e⟩:=by
 unfold zA0;rw[h,if_pos b]
theorem goes_err2 {pre:Bs}{D b c:zAA}{M:zAH}{s:zC8}{e:Nat}(h:D.save (zBR pre) (zEj s.number s.term s.group s.data)=(b,0))(d:zAT b pre (M.rebase s)=(c,e))(f:e≠0):zA0 pre D M s=⟨c,(M.rebase s).die,e⟩:=by
 unfold zA0;rw[h,if_neg (by simp),d,if_pos f]
theorem goes_ok {pre:Bs}{D b c:zAA}{M:zAH}{s:zC8}(h:D.save (zBR pre) (zEj s.number s.term s.group s.data)=(b,0))(d:zAT b pre (M.rebase s)=(c,0)):zA0 pre D M s=⟨c,M.rebase s,0⟩:=by
 unfold zA0;rw[h,if_neg (by simp),d,if_neg (by simp)]
theorem zEC (M:zAH)(s:zC8):(M.rebase s).entries.length≤M.entries.length:=by
 show(if M.number<s.number∧M.termAt s.number=some s.term then M.entries.drop (s.number-M.number)else []).length≤_
 split
 ·rw[List.length_drop];omega
 ·exact Nat.zero_le _
section
variable {w w1 wc:World} {j d:Nat} {pre:ByteArray} {D:zAA} {M:zAH} {F F2:Nat→Prop}
theorem jou_save (h:zAj w w1 j d pre D M F)(b:Below w1.heap.size w1 wc)(s:ByteArray)(g:s.size≤9223372036854775807){p:Option Addr}{n c:Nat}{ls:List Bs}(i:zBF wc (.slice p n c) ls)(hn:n≤140737488355328)(f:ls.flatten.length≤1048576) :
  Calls prog 135 #[.pointer (some ⟨d,0,none⟩),.string s,.slice p n c] wc fun e w'=>e=.returned (.int .i64 ((D.save (nm s) ls.flatten).2:Int))∧zAj w w' j d pre (D.save (nm s) ls.flatten).1 M F∧Same F w1 w'∧w'.heap[j]?=w1.heap[j]? :=
 zFQ h b fun _ hS=>save_calls (hS.next b) s g i hn f
theorem jgoes_calls (h:zAj w w1 j d pre D M F)(hm:M.entries.length≤1000000){s:zC8}(hs:s.OK)(bk:s.data.length≤524288){pg pd:Option Addr}{cg cd:Nat}(hg:zCp w1 (.slice pg s.group.length cg) s.group)
  (hx:∀W,Below w.heap.size w W→Same F w1 W→zAY W (.slice pd s.data.length cd) s.data)
  (hF:∀k,(Value.slice pg s.group.length cg).ownBlock=some k→F k∧w.heap.size≤k) (ap:∀k,F2 k→F k∧(Value.slice pg s.group.length cg).ownBlock≠some k) :
  Calls prog 110 #[.pointer (some ⟨j,0,none⟩),.agg #[.int .i64 (s.number:Int),.int .i64 s.term,.slice pg s.group.length cg],.slice pd s.data.length cd] w1 (zEH w w1 j d pre F2 (zA0 (nm pre) D M s)):=by
 have bj:=h.psz;have aF:(sSnp pre).size=pre.size+5:=zGb pre;have bl:=hs.number;have bm:=zAl.1 hs.term;have ad:=zCi hs.group;have bh:=ad.1;have aY:=zh ad;obtain⟨c3,c4,-⟩:=h.jc;have HG:=zh hg;have Hx:=zh hx;have HF:=zh hF;have i:=zh ap;have Hs:=zh hs;have H:=zh (h.box (.cells #[.int .i64 (s.number:Int),.int .i64 s.term,.slice pg s.group.length cg] 130));have H0:=zh h;have HT:=zW (zEj s.number s.term s.group s.data=[]++zAp [(s.number:Int),s.term]++zDq s.group++zE5 s.data) (by simp[zEj,zAp,zB8 (show s.number≤4611686018427387904 by omega)]);have J:=zh (zAJ w1 (.cells #[.int .i64 (s.number:Int),.int .i64 s.term,.slice pg s.group.length cg] 130));have ao:=zh (zAC w1 (.cells #[.int .i64 (s.number:Int),.int .i64 s.term,.slice pg s.group.length cg] 130));clear h hg hx hF ap hs ad
 go_enter func110,ntmps110
 go_wp2_with fail;have ah:=wrB_new (w1.alloc (.cells #[.int .i64 (s.number:Int),.int .i64 s.term,.slice pg s.group.length cg] 130));have aG:(w1.alloc (.cells #[.int .i64 (s.number:Int),.int .i64 s.term,.slice pg s.group.length cg] 130)).heap.size=w1.heap.size+1:=by simp
 rw[aG]at ah;have au:Below w1.heap.size w1 ((w1.alloc (.cells #[.int .i64 (s.number:Int),.int .i64 s.term,.slice pg s.group.length cg] 130)).alloc (.cells #[.slice none 0 0] 163)):=ao.o.alloc ao.o.size _;have q:=(zDU _ (.cells #[.slice none 0 0] 163) (zAB J.o)).trans J.o;have aK:=zh au;have aU:=zh q;have aQ:=zh ah;have z0:=zAd q;have z1:=zAn q;have z0:((w1.alloc (.cells #[.int .i64 (s.number:Int),.int .i64 s.term,.slice pg s.group.length cg] 130)).alloc (.cells #[.slice none 0 0] 163)).cell? ⟨w1.heap.size,0,none⟩=some (.int .i64 (s.number:Int)):=z0;have z1:((w1.alloc (.cells #[.int .i64 (s.number:Int),.int .i64 s.term,.slice pg s.group.length cg] 130)).alloc (.cells #[.slice none 0 0] 163)).cell? ⟨w1.heap.size,1,none⟩=some (.int .i64 s.term):=z1;have aT:=zW (w1.heap.size+1+1=((w1.alloc (.cells #[.int .i64 (s.number:Int),.int .i64 s.term,.slice pg s.group.length cg] 130)).alloc (.cells #[.slice none 0 0] 163)).heap.size) (by simp);clear ah aG au q;generalize (w1.alloc (.cells #[.int .i64 (s.number:Int),.int .i64 s.term,.slice pg s.group.length cg] 130)).alloc (.cells #[.slice none 0 0] 163)=W0 at *;have H1:=zh (zFb aQ.o [(s.number:Int),s.term] #[.int .i64 (s.number:Int),.int .i64 s.term] rfl (by simp;omega) (by simp) (w1.heap.size+1+1) 2 2 aT.o rfl (0,0));clear z0 z1;refine H1.o.mono ?_;rintro e w3 ⟨rfl,aI,X⟩;have h9:=zA9 [(s.number:Int),s.term];have ai:=zW (Below w1.heap.size w1 w3) (aK.o.trans (X.mono (Nat.le_succ _)));have am:=zh ((X.block w1.heap.size (Nat.lt_succ_self _)).trans aU.o);have H2:=zh (zFD aI (p:=pg) (n:=s.group.length) (c:=cg) (zs:=s.group) (fun W C=>zAM.chg (zCp.has HG.o) (Chg.of_below (ai.o.trans (C.mono (Nat.le_succ _)))) fun _ _=>id) (fun z hz=>by have:=aY.o.2 z hz;omega) (by simp at h9 ⊢;omega));have z2:w3.cell? ⟨w1.heap.size,2,none⟩=some (.slice pg s.group.length cg):=zAo am.o;clear aI X;go_wp2_with fail;refine H2.o.mono ?_;rintro e w4 ⟨rfl,aJ,Y⟩;have h8:=zER s.group (by omega);have N:=zW (Below w1.heap.size w1 w4) (ai.o.trans (Y.mono (Nat.le_succ _)));have aV:=zh ((Y.block w1.heap.size (Nat.lt_succ_self _)).trans am.o);have H3:=zh (wrB_bytes aJ (pv:=pd) (m:=s.data.length) (cv:=cd) (x:=s.data) (fun W C=>Hx.o W (H0.o.bel.trans ((N.o.trans (C.mono (Nat.le_succ _))).mono H0.o.bel.size)) (H0.o.same (N.o.trans (C.mono (Nat.le_succ _))))) (by simp at h9 ⊢;omega) w4.heap.size 1 rfl (0,0));clear aJ Y z2;go_wp2_with fail;refine H3.o.mono ?_;rintro e L ⟨rfl,ag,Z⟩;have y:=zW (Below w1.heap.size w1 L) (N.o.trans (Z.mono (Nat.le_succ _)));have an:=zh ((Z.block w1.heap.size (Nat.lt_succ_self _)).trans aV.o);rw[←HT.o]at ag;have h7:(zEj s.number s.term s.group s.data).length≤600000:=by
  rw[HT.o];unfold zE5;have:=zAg (n:=s.data.length) (by omega);simp at h9 ⊢;omega
 have aR:=zh ag;have ak:=zh h7;have c3:=zAI c3 y.o;have c4:=zAI c4 y.o;clear ag Z h9 h8 h7;go_wp2_with fail;cases af:D.save (zBR (nm pre)) (zEj s.number s.term s.group s.data)with
 | mk D1 e1 =>
  have aM:=zW (zAj w L j d pre D M (fun k=>F k∨k=w1.heap.size)) (H0.o.more y.o fun k f=>f.imp id fun e=>⟨by omega,by rw[e];exact zAB an.o⟩);have bf:=zh (fun W (C:Below L.heap.size L W) p n c (hx:zBF W (.slice p n c) [zEj s.number s.term s.group s.data]) (hn:n=1)=>show Calls prog 135 #[.pointer (some ⟨d,0,none⟩),.string (sSnp pre),.slice p n c] W fun e w'=>e=.returned (.int .i64 (e1:Int))∧zAj w w' j d pre D1 M (fun k=>F k∨k=w1.heap.size)∧Same (fun k=>F k∨k=w1.heap.size) L w'∧w'.heap[j]?=L.heap[j]? by
   have:=jou_save aM.o C (sSnp pre) (by rw[aF];omega) hx (by omega) (by simp;have:=ak.o;omega);rw[show [zEj s.number s.term s.group s.data].flatten=zEj s.number s.term s.group s.data by simp,nm_snp,af]at this;exact this)
  have Q:=zh af;clear af;refine ost (fun w':World=>w'.cell? ⟨j,3,none⟩=some (.pointer (some ⟨d,0,none⟩))∧w'.cell? ⟨j,4,none⟩=some (.string pre)) 13 (⟨c3,c4⟩) fun b=>?_;refine Pl [0,1,2,3,4,5,6,7,8] ?_
  iterate 9 (refine Pc rfl ?_;simp only[uZ])
  refine Pn ?_;refine oon 9 rfl fun K l=>?_;have A:=zh (zAU L);have H6:=zh (wrB_outS (aR.o.keep (zAU L)) (by have:=ak.o;omega));go_wp2_with fail;refine H6.o.mono ?_;rintro e w6 ⟨v,rfl,hv,E⟩;have aj:=zh (A.o.trans E);have aZ:=zh (And.intro (zAI b.1 E) (zAI b.2 E));have R:=zh (zAk.has hv);obtain⟨pv,cv,rfl,-⟩:=zAN hv;clear hv E;go_wp2_with fail;refine l.o _ _ (aZ.o) fun b=>?_;clear l
  try simp only[uZ]
  refine oon 10 rfl fun K l=>?_;have ba:=zh (And.intro (zBX b.1 (.cells #[.slice pv (zEj s.number s.term s.group s.data).length cv] 22)) (zBX b.2 (.cells #[.slice pv (zEj s.number s.term s.group s.data).length cv] 22)));go_wp2_with fail;refine l.o _ _ (ba.o) fun b=>?_;clear l
  try simp only[uZ]
  refine oon 11 rfl fun K l=>?_;have r:=zh (bf.o _ (aj.o.trans ((zAC w6 (.cells #[.slice pv (zEj s.number s.term s.group s.data).length cv] 22)).mono aj.o.size)) _ _ _ (zCN R.o 22 (0,0) w6.heap.size 1 rfl (Nat.le_refl _)) rfl);go_wp2_with fail;refine r.o.mono ?_;rintro e w7 ⟨rfl,av,aA,ae⟩;have g:=zh av;have al:=zh aA;have bb:=zh (And.intro ((World.cell?_of_block (a:=⟨j,3,none⟩) ae).trans c3) ((World.cell?_of_block (a:=⟨j,4,none⟩) ae).trans c4));clear av aA ae r;go_wp2_with fail;refine l.o _ _ (bb.o) fun b=>?_;clear l
  try simp only[uZ]
  refine otk 12 (v:=?v5x12) rfl ?_;simp only[uZ];refine odn ?_;have B:=zW (Same F w1 w7) fun k f=>(al.o k (.inl f)).trans (H0.o.same y.o k f);have aW:=zh ((al.o w1.heap.size (.inr rfl)).trans an.o)
  by_cases G:e1=0
  ·subst G;have r:=zh (fun W (C:Below w7.heap.size w7 W)=>zB2 (Hx.o W (g.o.bel.trans (C.mono g.o.bel.size)) (fun k f=>(g.o.same C k (.inl f)).trans (B.o k f))) (by omega));have bg:=Nat.le_trans (zEC M s) hm;cases I:zAT D1 (nm pre) (M.rebase s)with
   | mk D2 e2 =>
    have aS:=zh I;have bd:=zh (fun(h:e2=0)=>goes_ok (pre:=nm pre) (M:=M) Q.o (by rw[I,h]));have aX:=zh (fun(h:e2≠0)=>goes_err2 (pre:=nm pre) (M:=M) Q.o I h);clear I;go_wp2_with fail;refine zDX [4] (fun w':World=>w'.heap[w1.heap.size]?=some (.cells #[.int .i64 (s.number:Int),.int .i64 s.term,.slice pg s.group.length cg] 130 (0,0))) (n:=5) (by kernel_rfl) rfl (aW.o) fun b=>?_;refine gpu 0 (v:=?v8x0) rfl ?_;simp only[uZ];refine zEz 1 (v:=.agg #[.int .i64 (s.number:Int),.int .i64 s.term,.slice pg s.group.length cg]) rfl (by kernel_rfl) (by kernel_rfl) (by kernel_rfl) (by kernel_rfl) (fun _ _ _ h=>h) (by rfl) (by assumption) (fun W V=>by have q0:=zAd V;have q1:=zAn V;have q2:=zAo V;go_simp;try with_reducible rfl) ?_;simp only[uZ];refine gpu 2 (v:=?v8x2) rfl ?_;simp only[uZ];refine zEP 3 rfl (by kernel_rfl) (by rfl) (fun K l=>?_);have A:=zh (zAU w7);go_wp2_with fail;refine(r.o w7.drew A.o).mono ?_;rintro e w8 ⟨v,rfl,hv,aH,aa⟩;have O:=zh (A.o.trans aa);have bc:=zh ((aa.block _ (zAB b)).trans b);have R:=zh (And.intro hv (show ∀k,v.ownBlock=some k→w7.heap.size≤k from aH));obtain⟨pv,cv,rfl,-⟩:=zAN hv;clear hv aH aa r;go_wp2_with fail;refine l.o _ _ (bc.o) fun b=>?_;clear l
    try simp only[uZ]
    refine g_end 4 rfl (by kernel_rfl) (by rfl) (by kernel_rfl) (fun K l=>?_);have ar:zAj w w8 j d pre D1 M (fun k=>(F k∨k=w1.heap.size)∨(Value.slice pv s.data.length cv).ownBlock=some k):=g.o.more O.o fun k f=>f.imp id fun e=>⟨R.o.2 k e,OwnR.lt R.o.1 e⟩;have aq:zCp w8 (.slice pg s.group.length cg) s.group:=OwnR.keep HG.o fun k f=>(g.o.same O.o k (.inl (HF.o k f).1)).trans (B.o k (HF.o k f).1);have be:=zh (zGI (F2:=F2) ar Hs.o aq R.o.1 (fun k f=>by
     rcases f with f|f
     ·exact⟨.inl (.inl (HF.o k f).1),(HF.o k f).2⟩
     ·exact⟨.inr f,Nat.le_trans g.o.bel.size (R.o.2 k f)⟩) (fun k f=>⟨.inl (.inl (i.o k f).1),(i.o k f).2,fun e=>by have U:=R.o.2 k e;have h2:=g.o.flt (.inl (i.o k f).1);omega⟩))
    have aN:=zW (Same F2 w1 w8) fun k f=>(g.o.same O.o k (.inl (i.o k f).1)).trans (B.o k (i.o k f).1);clear ar aq;go_wp2_with fail;refine be.o.mono ?_;rintro e w9 ⟨rfl,ax,aC⟩;have aL:=zh ax;have aO:=zh (aN.o.trans aC);clear ax aC;go_wp2_with fail;refine l.o _ _ ?_;clear l
    try simp only[uZ]
    refine zEy (by kernel_rfl) ?_ _;have T:=zh (zDH aL.o bg);unfold zCK at T;rw[aS.o]at T;go_wp2_with fail;refine T.o.mono ?_;rintro e wa ⟨rfl,ay,aD⟩;have S:=zh (zDi ay e2);have aP:=zh (aO.o.trans aD);clear ay aD;go_wp2_with fail;refine S.o.mono ?_;rintro e wb ⟨rfl,az,aE⟩;have P:=zh (And.intro az (aP.o.trans aE));clear az aE;go_wp2_with fail;go_ret
    by_cases t:e2=0
    ·rw[bd.o t,t];have U:=P.o.1;rw[t]at U;exact⟨rfl,by have:=zBo (M.rebase s);unfold zEs at this;rw[this]at U;exact U,P.o.2⟩
    ·rw[aX.o t];have U:=P.o.1;exact⟨rfl,by have:=zB3 (M.rebase s) t;unfold zEs at this;rw[this]at U;exact U,P.o.2⟩
  ·have bi:((e1:Int) != 0)=true:=by simp;omega
   have HZ:=zh (goes_err (pre:=nm pre) (M:=M) Q.o G);have ac:=zDi (g.o.less fun k f=>.inl (i.o k f).1:zAj w w7 j d pre D1 M F2) e1;have ab:=zB3 M G;unfold zEs at ab;rw[ab]at ac;have S:=zh ac;clear G ac ab;go_wp2_with fail;refine S.o.mono ?_;rintro e w8 ⟨rfl,aw,aB⟩;have P:=zh (And.intro aw (show Same F2 w1 w8 from fun k f=>(aB k f).trans (B.o k (i.o k f).1)));clear aw aB;go_wp2_with fail;go_ret;rw[HZ.o];exact⟨rfl,P.o.1,P.o.2⟩
end
theorem zFO {M:zAH}(h:M.OK):∀k,zAX (M.grpIn k).1=true
 | 0=>h.group
 | k+1=>by
  have d:=zFO h k;cases b:M.entries[k]? with
  | none =>
   have:M.grpIn (k+1)=M.grpIn k:=by
    show(match M.entries[k]? with|some e=>_|none=>_)=_
    rw[b]
   rw[this];exact d
  | some e =>
   by_cases c:e.kind=2
   ·rw[grpIn_yes b c];have:=h.ents e (List.mem_of_getElem? b);rw[ent_two c]at this;simp only[Bool.and_eq_true]at this;exact this.2.2
   ·rw[grpIn_no b c];exact d
theorem termAt_ok {M:zAH}(h:M.OK){i:Int}{t:Int}(b:M.termAt i=some t):zDG t=true:=by
 unfold zAH.termAt at b
 split at b
 ·cases b;exact h.term
 ·split at b
  ·cases b
  ·cases c:M.entries[(i-(M.number:Int)-1).toNat]? with
   | none=>rw[c]at b;cases b
   | some e =>
    rw[c]at b;cases b;exact zAl.2 (zBN (h.ents e (List.mem_of_getElem? c))).1
section
variable {w w1:World} {j d:Nat} {pre:ByteArray} {D:zAA} {M:zAH} {F:Nat→Prop}
theorem zFd (h:zAj w w1 j d pre D M F)(hm:M.entries.length≤1000000)(i:Int)(hi:-9223372036854775808≤i∧i≤9223372036854775807){pd:Option Addr}{n cd:Nat}{b:Bs}(hn:b.length=n)(ae:n≤140737488355328)
  (U:∀W,Below w.heap.size w W→Same F w1 W→zAY W (.slice pd n cd) b) :
  Calls prog 30 #[.pointer (some ⟨j,0,none⟩),.int .i64 i,.slice pd n cd] w1 (zEH w w1 j d pre F (zAW (nm pre) D M i b)):=by
 have c:=zh (zD4 h);have m:=zh (zD3 h i hi);have a:=zh (fun k w2 (y:Below w1.heap.size w1 w2) (hr:zAW (nm pre) D M i b=⟨D,M,k⟩)=>zD5 h y hr);have S:=zW (zAW (nm pre) D M i b=if M.dead then⟨D,M,9⟩else if i≤(M.number:Int)∨(M.last:Int)<i∨524288<b.length then⟨D,M,1⟩else zA0 (nm pre) D M ⟨i.toNat,(M.termAt i).getD 0,(M.grpIn (i.toNat-M.number)).1,b⟩) rfl;have p:=h.okM;have B:=p.last;cases A:M.dead with
 | true =>
  rw[A]at c;have z:=zh (a.o 9 w1 (Below.refl _ _) (by rw[S.o,A];rfl));clear h
  go_enter func30,ntmps30
  go_wp2_with fail;refine c.o.mono ?_;rintro e w2 ⟨rfl,rfl⟩;go_wp2_with fail;go_ret;exact z.o
 | false =>
  rw[A]at c
  by_cases f:(M.number:Int)<i∧i≤(M.last:Int)
  ·rw[decide_eq_true f]at m
   by_cases L:524288<n
   ·have z:=zh (fun q=>a.o 1 (w1.drewN q) ⟨rfl,rfl,rfl,Nat.le_refl _,fun _ _=>rfl⟩ (by rw[S.o,A,if_neg (by simp),if_pos (.inr (.inr (by rw[hn];exact L)))]));clear h U f
    go_enter func30,ntmps30
    go_wp2_with fail;refine c.o.mono ?_;rintro e w2 ⟨rfl,rfl⟩;go_wp2_with fail;refine m.o.mono ?_;rintro e w2 ⟨rfl,q,rfl⟩;go_wp2_with fail;go_ret;exact z.o q
   ·have af:decide (524288<(n:Int))=false:=by simp;omega
    have E:=zW (zAW (nm pre) D M i b=zA0 (nm pre) D M ⟨i.toNat,(M.termAt i).getD 0,(M.grpIn (i.toNat-M.number)).1,b⟩) (by rw[S.o,A,if_neg (by simp),if_neg (by rw[hn];omega)]);have ac:(M.last:Int)=(M.number:Int)+(M.entries.length:Int):=by unfold zAH.last;omega
    have aa:∃t,M.termAt i=some t:=by
     have ab:(i-(M.number:Int)-1).toNat<M.entries.length:=by omega
     exact⟨_,zFa f.1 (List.getElem?_eq_getElem ab)⟩
    obtain⟨t,T⟩:=aa;have R:=termAt_ok p T;generalize hN:i.toNat-M.number=N at *;have H:N≤M.entries.length:=by omega
    have Q:i=((M.number+N:Nat):Int):=by omega
    have O:=zFO p N;rw[T]at E;have G:=zh (fun q=>zEW (h.drewN q) i hi);rw[T]at G;have Z:=zh (fun q=>show Calls prog 107 #[.pointer (some ⟨j,0,none⟩),.int .i64 i] (w1.drewN q) (zB0 (w1.drewN q) (M.grpIn N)) by rw[Q];exact jgrpAt_calls (h.drewN q) N H);have V:=zh (fun q=>(show Below w1.heap.size w1 (w1.drewN q)from⟨rfl,rfl,rfl,Nat.le_refl _,fun _ _=>rfl⟩));have P:((i.toNat:Nat):Int)=i:=by omega
    have Y:=zh (fun W v pg cg (y:Below w1.heap.size w1 W) (C:zCp W v (M.grpIn N).1) (l:∀k,v.ownBlock=some k→w1.heap.size≤k) (r:v=.slice pg (M.grpIn N).1.length cg)=>show Calls prog 110 #[.pointer (some ⟨j,0,none⟩),.agg #[.int .i64 i,.int .i64 t,.slice pg (M.grpIn N).1.length cg],.slice pd n cd] W (zEH w w1 j d pre F (zAW (nm pre) D M i b)) by
     subst r;rw[E.o];have hJ:zAj w W j d pre D M (fun k=>F k∨(Value.slice pg (M.grpIn N).1.length cg).ownBlock=some k):=h.more y fun k g=>g.imp id fun e=>⟨l k e,OwnR.lt C e⟩;have:=jgoes_calls (F2:=F) hJ hm (s:=⟨i.toNat,t,(M.grpIn N).1,b⟩) ⟨by show i.toNat≤_;omega,R,O,by show b.length≤_;omega⟩ (by show b.length≤_;omega) (pg:=pg) (cg:=cg) (pd:=pd) (cd:=cd) C (fun W' K ad=>by show zAY W' (.slice pd b.length cd) b;rw[hn];exact U W' K fun k g=>(ad k (.inl g)).trans (h.same y k g)) (fun k g=>⟨.inr g,Nat.le_trans h.bel.size (l k g)⟩) (fun k g=>⟨.inl g,fun e=>by have h1:=l k e;have h2:=h.flt g;omega⟩);dsimp only at this;rw[P,hn]at this;exact this.mono fun e w' I=>⟨I.1,I.2.1,fun k g=>(I.2.2 k g).trans (h.same y k g)⟩)
    clear h U f p T R hN H Q O ac B P A hi
    go_enter func30,ntmps30
    go_wp2_with fail;refine c.o.mono ?_;rintro e w2 ⟨rfl,rfl⟩;go_wp2_with fail;refine m.o.mono ?_;rintro e w3 ⟨rfl,q,rfl⟩;go_wp2_with fail;refine(G.o q).mono ?_;rintro e w3 ⟨rfl,q2,rfl⟩;rw[drewN_two];go_wp2_with fail;refine(Z.o (q+q2)).mono ?_;rintro e w4 ⟨v,rfl,C,l,y⟩;obtain⟨pg,cg,r,-⟩:=zAw C;have X:=zh (Y.o w4 v pg cg ((V.o (q+q2)).trans y) C l r);subst r;clear C l y;go_wp2_with fail;refine X.o.mono ?_;intro e w5 I;obtain⟨e1,J⟩:=I;have z:=zh J;subst e1;clear J;go_wp2_with fail;go_ret;exact⟨rfl,z.o⟩
  ·rw[decide_eq_false f]at m;have z:=zh (fun q=>a.o 1 (w1.drewN q) ⟨rfl,rfl,rfl,Nat.le_refl _,fun _ _=>rfl⟩ (by rw[S.o,A,if_neg (by simp),if_pos (by omega)]));clear h U f
   go_enter func30,ntmps30
   go_wp2_with fail;refine c.o.mono ?_;rintro e w2 ⟨rfl,rfl⟩;go_wp2_with fail;refine m.o.mono ?_;rintro e w2 ⟨rfl,q,rfl⟩;go_wp2_with fail;go_ret;exact z.o q
end
section
variable {w w1:World} {j d:Nat} {pre:ByteArray} {D:zAA} {M:zAH} {F:Nat→Prop}
theorem jinstall_calls (h:zAj w w1 j d pre D M F)(hm:M.entries.length≤1000000)(i t:Int)(hi:-9223372036854775808≤i∧i≤9223372036854775807){pg pd:Option Addr}{m cg n cd:Nat}{g:List Int}{b:Bs}(hn:b.length=n)(Q:n≤140737488355328)(aa:g.length=m)(P:m≤1099511627776)
  (a:zBg w1 (.slice pg m cg) g) (C:∀W,Below w.heap.size w W→Same F w1 W→zAY W (.slice pd n cd) b) :
  Calls prog 38 #[.pointer (some ⟨j,0,none⟩),.int .i64 i,.int .i64 t,.slice pg m cg,.slice pd n cd] w1 (zEH w w1 j d pre F (zAa (nm pre) D M i t g b)):=by
 have f:=zh (zD4 h);have q:=zh (zD2 w1 t);have z:=zh (zET a (by omega));have J:=zh (fun k (hr:zAa (nm pre) D M i t g b=⟨D,M,k⟩)=>zD5 h (Below.refl _ _) hr);have U:=zW (zAa (nm pre) D M i t g b=if M.dead then⟨D,M,9⟩else if i≤(M.number:Int)∨1099511627776<i∨zDG t=false∨zAX g=false∨524288<b.length then⟨D,M,1⟩else zA0 (nm pre) D M ⟨i.toNat,t,g,b⟩) rfl;obtain⟨own,gv,dv,ev,vs,T,hS,ab,hl⟩:=id h;have c0:=T.c 0 rfl;clear T hS ab hl;cases G:M.dead with
 | true =>
  rw[G]at f;have p:=zh (J.o 9 (by rw[U.o,G];rfl));clear h a C
  go_enter func38,ntmps38
  go_wp2_with fail;refine f.o.mono ?_;rintro e w2 ⟨rfl,rfl⟩;go_wp2_with fail;go_ret;exact p.o
 | false =>
  rw[G]at f;have I:=zh (fun hc:i≤(M.number:Int)∨1099511627776<i∨zDG t=false∨zAX g=false∨524288<b.length=>J.o 1 (by rw[U.o,G,if_neg (by simp),if_pos hc]))
  by_cases R:i≤(M.number:Int)
  ·have p:=zh (I.o (.inl R));clear h a C
   go_enter func38,ntmps38
   go_wp2_with fail;refine f.o.mono ?_;rintro e w2 ⟨rfl,rfl⟩;go_wp2_with fail;go_ret;exact p.o
  ·have d1:decide (i≤(M.number:Int))=false:=by simpa using R
   by_cases S:1099511627776<i
   ·have p:=zh (I.o (.inr (.inl S)));clear h a C
    go_enter func38,ntmps38
    go_wp2_with fail;refine f.o.mono ?_;rintro e w2 ⟨rfl,rfl⟩;go_wp2_with fail;go_ret;exact p.o
   ·have d2:decide (1099511627776<i)=false:=by simpa using S
    cases B:zDG t with
    | false =>
     rw[B]at q;have p:=zh (I.o (.inr (.inr (.inl B))));clear h a C B
     go_enter func38,ntmps38
     go_wp2_with fail;refine f.o.mono ?_;rintro e w2 ⟨rfl,rfl⟩;go_wp2_with fail;refine q.o.mono ?_;rintro e w2 ⟨rfl,rfl⟩;go_wp2_with fail;go_ret;exact p.o
    | true =>
     rw[B]at q;cases l:zAX g with
     | false =>
      rw[l]at z;have p:=zh (I.o (.inr (.inr (.inr (.inl l)))));clear h a C B l
      go_enter func38,ntmps38
      go_wp2_with fail;refine f.o.mono ?_;rintro e w2 ⟨rfl,rfl⟩;go_wp2_with fail;refine q.o.mono ?_;rintro e w2 ⟨rfl,rfl⟩;go_wp2_with fail;refine z.o.mono ?_;rintro e w2 ⟨rfl,rfl⟩;go_wp2_with fail;go_ret;exact p.o
     | true =>
      rw[l]at z
      by_cases h3:524288<n
      ·have p:=zh (I.o (.inr (.inr (.inr (.inr (by rw[hn];exact h3))))));clear h a C B l
       go_enter func38,ntmps38
       go_wp2_with fail;refine f.o.mono ?_;rintro e w2 ⟨rfl,rfl⟩;go_wp2_with fail;refine q.o.mono ?_;rintro e w2 ⟨rfl,rfl⟩;go_wp2_with fail;refine z.o.mono ?_;rintro e w2 ⟨rfl,rfl⟩;go_wp2_with fail;go_ret;exact p.o
      ·have d3:decide (524288<(n:Int))=false:=by simp;omega
       have V:=zW (zAa (nm pre) D M i t g b=zA0 (nm pre) D M ⟨i.toNat,t,g,b⟩) (by rw[U.o,G,if_neg (by simp),if_neg (by rw[B,l,hn];simp;omega)]);have O:((i.toNat:Nat):Int)=i:=by omega
       have Y:=zh (zD0 a (by omega));have Z:=zh (fun W v pg cg (E:Below w1.heap.size w1 W) (H:zCp W v g) (y:∀k,v.ownBlock=some k→w1.heap.size≤k) (A:v=.slice pg g.length cg)=>show Calls prog 110 #[.pointer (some ⟨j,0,none⟩),.agg #[.int .i64 i,.int .i64 t,.slice pg g.length cg],.slice pd n cd] W (zEH w w1 j d pre F (zAa (nm pre) D M i t g b)) by
        subst A;rw[V.o];have T:zAj w W j d pre D M (fun k=>F k∨(Value.slice pg g.length cg).ownBlock=some k):=h.more E fun k r=>r.imp id fun e=>⟨y k e,OwnR.lt H e⟩;have:=jgoes_calls (F2:=F) T hm (s:=⟨i.toNat,t,g,b⟩) ⟨by show i.toNat≤_;omega,B,l,by show b.length≤_;omega⟩ (by show b.length≤_;omega) (pg:=pg) (cg:=cg) (pd:=pd) (cd:=cd) H (fun W' K ac=>by show zAY W' (.slice pd b.length cd) b;rw[hn];exact C W' K fun k r=>(ac k (.inl r)).trans (h.same E k r)) (fun k r=>⟨.inr r,Nat.le_trans h.bel.size (y k r)⟩) (fun k r=>⟨.inl r,fun e=>by have R:=y k e;have S:=h.flt r;omega⟩);dsimp only at this;rw[O,hn]at this;exact this.mono fun e w' L=>⟨L.1,L.2.1,fun k r=>(L.2.2 k r).trans (h.same E k r)⟩)
       clear h a C B l O G hn aa Q P hm hi R S h3
       go_enter func38,ntmps38
       go_wp2_with fail;refine f.o.mono ?_;rintro e w2 ⟨rfl,rfl⟩;go_wp2_with fail;refine q.o.mono ?_;rintro e w2 ⟨rfl,rfl⟩;go_wp2_with fail;refine z.o.mono ?_;rintro e w2 ⟨rfl,rfl⟩;go_wp2_with fail;refine Y.o.mono ?_;rintro e w4 ⟨v,rfl,H,y,E⟩;obtain⟨pv,cv,A,-⟩:=zAw H;have X:=zh (Z.o w4 v pv cv E H y A);subst A;clear H y E;go_wp2_with fail;refine X.o.mono ?_;intro e w5 L;obtain⟨e1,N⟩:=L;have p:=zh N;subst e1;clear N;go_wp2_with fail;go_ret;exact⟨rfl,p.o⟩
end
def RdX (A:Nat→Prop)(w:World)(r:Nat)(R:Rd):Prop:=∃p n c,RdIn w r R p n c∧∀k,(Value.slice p n c).ownBlock=some k→A k
theorem RdX.at {A:Nat→Prop}{w:World}{r:Nat}{R:Rd}(h:RdX A w r R):RdAt w r R:=let ⟨p,n,c,h,_⟩:=h;⟨p,n,c,h⟩
theorem RdX.lt {A:Nat→Prop}{w:World}{r:Nat}{R:Rd}(h:RdX A w r R):r<w.heap.size:=let ⟨_,_,_,h,_⟩:=h;h.rlt
theorem RdX.chg {A S:Nat→Prop}{w w':World}{r:Nat}{R:Rd}(h:RdX A w r R)(d:Chg S w w')(i:¬S r)(f:∀k,A k→¬S k):RdX A w' r R:=by
 obtain⟨p,n,c,h,b⟩:=h;exact⟨p,n,c,⟨(d.block r h.rlt i).trans h.cells,zAY.chg h.has d fun k g=>f k (b k g),h.cap,h.ne,h.len⟩,b⟩
def RStepX (A:Nat→Prop)(w:World)(r:Nat)(b:Rd)(v:Value)(e:Ending)(w':World):Prop:=e=.returned v∧RdX A w' r b∧Chg (fun k=>k=r) w w'
def NumX (A:Nat→Prop)(w:World)(r:Nat)(R:Rd)(e:Ending)(w':World):Prop:=e=.returned (.int .i64 (R.num.1:Int))∧RdX A w' r R.num.2∧Chg (fun k=>k=r) w w'
def RowX (A:Nat→Prop)(w:World)(r:Nat)(b:Bs)(c:Rd)(e:Ending)(w':World):Prop :=
 ∃v,e=.returned v∧zAk w' 5 v b∧(∀j,v.ownBlock=some j→w.heap.size≤j)∧RdX A w' r c∧Chg (fun j=>j=r) w w'
theorem run_tailX {P:Program}{w:World}{t e:TypeId}{i:TypeInfo}(A:P.underlying t=some (.slice e))(v:P.info? e=some i)(g:i.size=1){p:Option Addr}{n c:Nat}{l:Bs}(h:zAY w (.slice p n c) l)(f:n≤c)(r k:Nat)(o:(Value.slice p n c).ownBlock≠some r)(y:k≤n) :
  ∃d b,(∀W,(Instr.slice t (.slice p n c) (some (.int .i64 (k:Int))) none none).run P W=.ok (.slice d (n-k) b) W)∧zAY w (.slice d (n-k) b) (l.drop k)∧n-k≤b∧(Value.slice d (n-k) b).ownBlock≠some r∧∀x,(Value.slice d (n-k) b).ownBlock=some x→(Value.slice p n c).ownBlock=some x:=by
 obtain⟨d,b,s,D,E,F⟩:=run_tail (P:=P) A v g h f r k o y;refine⟨d,b,s,D,E,F,fun x j=>?_⟩;have q:=s w;rw[run_tail0 (P:=P) w A v g p n c k y f]at q;have B:(if c=k then p else p.map fun x=>x.add k)=d:=by
  have:=congrArg (fun z:Result Value=>match z with | .ok (.slice a _ _) _=>a|_=>none) q;exact this
 subst B
 split at j
 ·cases p with
  | none=>cases j
  | some a=>exact j
 ·cases p with
  | none=>cases j
  | some a =>
   have C:(Value.slice (some (a.add k)) (n-k) b).ownBlock=some (a.add k).block:=rfl;have m:(Value.slice (some (a.add k)) (n-k) b).ownBlock=some x:=j;rw[C,zDT]at m;exact m
section
variable {w:World} {r:Nat} {R:Rd} {p:Option Addr} {n c:Nat}
theorem rdX_bad {A:Nat→Prop}(h:RdIn w r R p n c):RdX A ((w.setCell ⟨r,0,none⟩ (.slice none 0 0)).setCell ⟨r,1,none⟩ (.bool true)) r Rd.fail :=
 ⟨none,0,0,⟨rd_set h _ _,zAk.has (e:=0) (OwnR.nil _ _ _),Nat.le_refl _,fun h=>(by cases h),Nat.zero_le _⟩,fun k b=>(by cases b)⟩
theorem zDK {A:Nat→Prop}(h:RdIn w r R p n c) :
  Calls prog 192 #[.pointer (some ⟨r,0,none⟩)] w (RStepX A w r Rd.fail (.tuple #[])):=by
 have d:=h.c0;have f:=h.c1;have g:=fun i=>zAE h.cells i;have b:=zW (RStepX A w r Rd.fail (.tuple #[]) (.returned (.tuple #[])) ((w.setCell ⟨r,0,none⟩ (.slice none 0 0)).setCell ⟨r,1,none⟩ (.bool true))) (⟨rfl,rdX_bad h,(Chg.setCell w ⟨r,0,none⟩ _).trans (Chg.setCell _ ⟨r,1,none⟩ _) fun _ _ e=>e⟩);clear h
 go_enter func192,ntmps192
 go_wp2_with fail
 go_end0
 exact b.o
theorem rawX_calls {A:Nat→Prop}(h:RdIn w r R p n c)(G:∀k,(Value.slice p n c).ownBlock=some k→A k)(k:Int)(B:0≤k)(Y:k≤9223372036854775807) :
  Calls prog 193 #[.pointer (some ⟨r,0,none⟩),.int .i64 k] w fun e w'=>∃v,e=.returned v∧zAk w' 5 v (R.raw k.toNat).1∧(∀j,v.ownBlock=some j→w.heap.size≤j)∧RdX A w' r (R.raw k.toNat).2∧Chg (fun j=>j=r) w w':=by
 obtain⟨i0,J,-,F,-⟩:=info_parts (show(prog.info? 5).map (fun i=>(i.zero,i.size,i.bytes))=some (some (.int .u8 0),1,1) by kernel_rfl);obtain⟨m,rfl⟩:∃m:Nat,k=(m:Int):=⟨k.toNat,by omega⟩;have hn:=h.n_eq;have L:=h.len;rw[Int.toNat_natCast];have c0:=h.c0;have U:=fun i=>zAE h.cells i
 by_cases Z:m≤n
 ·have l:R.raw m=(R.rest.take m,⟨R.rest.drop m,R.bad⟩):=by unfold Rd.raw;rw[if_pos (by omega)]
  rw[l];obtain⟨C,z,K,I,q,t,s⟩:=run_tailX (P:=prog) underlying22 J F h.has h.cap r m h.ne Z;have aa:∀W,(Instr.slice 22 (.slice p n c) none (some (.int .i64 (m:Int))) none).run prog W=.ok (.slice p m c) W:=fun W=>zCO W underlying22 J p n c m (by have:=h.cap;omega);have E:=zh (zB2 (zAY.cut h.has (k:=m) (by omega) c) (by rw[List.length_take];omega));have b:=zh h;have y:=zh (And.intro I (And.intro q t));have O:=zh (fun k B=>G k (s k B));clear I q t h l s G
  go_enter func193,ntmps193
  go_wp2_with fail;refine E.o.mono ?_;rintro e w1 ⟨v,rfl,N,g,a⟩;have f:=a.block r b.o.rlt;have d:RdIn w1 r R p n c:=⟨f.trans b.o.cells,zAY.below b.o.has a,b.o.cap,b.o.ne,b.o.len⟩;have T:=d.c0;have H:=fun i=>zAE d.cells i;have S:=zh (And.intro (show zAk (w1.setCell ⟨r,0,none⟩ (.slice C (n-m) z)) 5 v (R.rest.take m)from N.keep fun k B=>set_other _ fun e=>by
   have:=g k B;have h2:=b.o.rlt;have h3:k=r:=e;omega) (And.intro g (And.intro (show RdX A (w1.setCell ⟨r,0,none⟩ (.slice C (n-m) z)) r ⟨R.rest.drop m,R.bad⟩from⟨C,n-m,z,⟨rd_set0 d _,(zAY.set (zAY.below y.o.1 a) _ y.o.2.2),y.o.2.1,y.o.2.2,by rw[List.length_drop];omega⟩,O.o⟩)
    (((Chg.of_below a).mono fun _ _ h=>h.elim).trans (Chg.setCell _ ⟨r,0,none⟩ _) fun _ _ e=>e:Chg (fun j=>j=r) w (w1.setCell ⟨r,0,none⟩ (.slice C (n-m) z))))))
  clear N g d f;go_wp2_with fail;go_ret;exact⟨v,rfl,S.o⟩
 ·have l:R.raw m=([],Rd.fail):=by unfold Rd.raw;rw[if_neg (by omega)]
  rw[l];have D:=zh (zDK (A:=A) h);have V:((m:Int)>(n:Int)):=by omega
  clear h l
  go_enter func193,ntmps193
  go_wp2_with fail;refine D.o.mono ?_;rintro e w1 ⟨rfl,M,q⟩;have Q:=zh (And.intro M q);clear M q;go_wp2_with fail;go_ret;exact⟨_,rfl,OwnR.nil _ _ _,fun j X=>(by cases X),Q.o⟩
end
theorem zCu {B:Nat→Prop}{w:World}{r:Nat}{R:Rd}{p:Option Addr}{n c:Nat}(h:RdIn w r R p n c)(O:∀k,(Value.slice p n c).ownBlock=some k→B k) :
  Calls prog 191 #[.pointer (some ⟨r,0,none⟩)] w (NumX B w r R):=by
 obtain⟨i0,hi,-,aa,-⟩:=info_parts (show(prog.info? 5).map (fun i=>(i.zero,i.size,i.bytes))=some (some (.int .u8 0),1,1) by kernel_rfl);have hn:=h.n_eq;have T:=h.len;rw[hn]at T;have c0:=h.c0;have ad:=zAE h.cells 0;have b:=zh (zDK (A:=B) h);have E:=zW (zCo 0 0 R.rest=none→R.num=(0,Rd.fail)) (fun e=>by unfold Rd.num;rw[e]);have M:=zW (∀v t,zCo 0 0 R.rest=some (v,t)→R.num=(v,⟨t,R.bad⟩)) (fun v t e=>by unfold Rd.num;rw[e]);have y:=zh h;have HA:=zh O;have Y:=zh hn;clear h hn O
 go_enter func191,ntmps191
 go_wp2_with fail
 go_loop [3,13] (fun u i=>∃k a:Nat,k≤n∧k≤9∧i=.int .i64 k∧u=.int .u64 a∧a<128 ^ k∧zCo 0 0 R.rest=zCo k a (R.rest.drop k)) (fun _ i=>n-(intOf i).toNat)
 case atStart=>exact⟨0,0,Nat.zero_le _,by omega,rfl,rfl,by simp,rfl⟩
 case round =>
  obtain⟨k,a,hk,ae,rfl,rfl,ha,l⟩:=hrel
  by_cases U:k<n
  ·have F:k<R.rest.length:=by rw[Y.o];exact U
   rw[List.drop_eq_getElem_cons F]at l;rcases y.o.has.at with h0|⟨g,o,c1,e1,d⟩
   ·rw[h0]at F;simp at F
   simp only[Value.slice.injEq]at e1;obtain⟨rfl,-,rfl⟩:=e1;have ab:=d k _ (List.getElem?_eq_getElem F);have D:=zh l;clear d l;have hx:=R.rest[k].toNat_lt;have z:=zW (9≤k∨(0<k∧R.rest[k].toNat=0)→zCo k a (R.rest[k]::R.rest.drop (k+1))=none) (fun e=>by
    unfold zCo;rw[if_pos (e.imp id fun e=>⟨e.1,UInt8.toNat.inj (by rw[e.2];rfl)⟩)])
   have J:=zW (¬(9≤k∨(0<k∧R.rest[k].toNat=0))→R.rest[k].toNat<128→zCo k a (R.rest[k]::R.rest.drop (k+1))=if 4611686018427387904<a+R.rest[k].toNat*128 ^ k then none else some (a+R.rest[k].toNat*128 ^ k,R.rest.drop (k+1))) (fun e h=>by
    rw[zCo,if_neg (fun h=>e (h.imp id fun h=>⟨h.1,by rw[h.2];rfl⟩)),if_pos h])
   have L:=zW (¬(9≤k∨(0<k∧R.rest[k].toNat=0))→¬R.rest[k].toNat<128→zCo k a (R.rest[k]::R.rest.drop (k+1))=zCo (k+1) (a+R.rest[k].toNat%128*128 ^ k) (R.rest.drop (k+1))) (fun e h=>by
    rw[zCo,if_neg (fun h=>e (h.imp id fun h=>⟨h.1,by rw[h.2];rfl⟩)),if_neg h])
   generalize R.rest[k].toNat=x at *
   by_cases h9:9≤k
   ·have s:=zh (E.o (D.o.trans (z.o (.inl h9))));go_wp2_with fail;refine b.o.mono ?_;rintro e w1 ⟨rfl,j,d⟩;have q:=zW (NumX B w r R (.returned (.int .i64 0)) w1) (⟨by rw[s.o];rfl,by rw[s.o];exact j,d⟩);clear j d;go_wp2_with fail;go_ret;exact q.o
   ·by_cases hz:0<k∧x=0
    ·have s:=zh (E.o (D.o.trans (z.o (.inr hz))));obtain⟨m,rfl⟩:=hz;go_wp2_with fail;refine b.o.mono ?_;rintro e w1 ⟨rfl,j,d⟩;have q:=zW (NumX B w r R (.returned (.int .i64 0)) w1) (⟨by rw[s.o];rfl,by rw[s.o];exact j,d⟩);clear j d;go_wp2_with fail;go_ret;exact q.o
    ·have hs:¬(9≤k∨(0<k∧x=0)):=fun e=>e.elim h9 hz;have ac:decide ((9:Int)≤(k:Int))=false:=by simp;omega
     by_cases G:x<128
     ·have s:=zh (D.o.trans (J.o hs G));have X:=zGg ha (by omega) (show x<256 by omega);rw[show x%128=x by omega]at X;obtain⟨X,-,Z⟩:=X;generalize a+x*128 ^ k=A at *
      by_cases O:4611686018427387904<A
      ·have f:=zh (E.o (s.o.trans (if_pos O)));rcases Nat.lt_or_ge 0 k with m|m
       rotate_left
       rotate_left
       focus have W:0<x:=by omega
       all_goals
        go_wp2_with fail;refine b.o.mono ?_;rintro e w1 ⟨rfl,j,d⟩;have q:=zW (NumX B w r R (.returned (.int .i64 0)) w1) (⟨by rw[f.o];rfl,by rw[f.o];exact j,d⟩);clear j d;go_wp2_with fail;go_ret;exact q.o
      ·have f:=zh (M.o _ _ (s.o.trans (if_neg O)));obtain⟨p',c',K,hh,Q,I,V⟩:=run_tailX (P:=prog) underlying22 hi aa y.o.has y.o.cap r (k+1) y.o.ne U;have q:=zW (NumX B w r R (.returned (.int .i64 (A:Int))) (w.setCell ⟨r,0,none⟩ (.slice p' (n-(k+1)) c'))) (
        ⟨by rw[f.o],by rw[f.o];exact⟨p',n-(k+1),c',⟨rd_set0 y.o _,zAY.set hh _ I,Q,I,by rw[List.length_drop,Y.o];omega⟩,fun k hk=>HA.o k (V k hk)⟩,Chg.setCell w ⟨r,0,none⟩ _⟩)
       rw[Int.natCast_add,Int.natCast_one]at K;clear hh Q I V;rcases Nat.lt_or_ge 0 k with m|m
       rotate_left
       ·go_wp2_with fail;go_ret;exact q.o
       ·have W:0<x:=by omega
        go_wp2_with fail;go_ret;exact q.o
     ·have H:=D.o.trans (L.o hs G);obtain⟨X,N,Z⟩:=zGg ha (by omega) (show x<256 by omega);have C:=zh (And.intro H N);clear H N;generalize a+x%128*128 ^ k=A at *;rcases Nat.lt_or_ge 0 k with m|m
      rotate_left
      rotate_left
      focus have W:0<x:=by omega
      all_goals
       go_wp2_with fail;go_round;case rel=>exact⟨k+1,A,by omega,by omega,by go_num,rfl,C.o.2,C.o.1⟩
       case measure=>simp[intOf];omega
  ·have S:R.rest.drop k=[]:=List.drop_of_length_le (by rw[Y.o];omega);rw[S]at l;have s:=zh (E.o l);clear l S;go_wp2_with fail;refine b.o.mono ?_;rintro e w1 ⟨rfl,j,d⟩;have q:=zW (NumX B w r R (.returned (.int .i64 0)) w1) (⟨by rw[s.o];rfl,by rw[s.o];exact j,d⟩);clear j d;go_wp2_with fail;go_ret;exact q.o
theorem zGS {A:Nat→Prop}{w:World}{r:Nat}{R:Rd}(h:RdX A w r R) :
  Calls prog 152 #[.pointer (some ⟨r,0,none⟩)] w (RowX A w r R.bytes.1 R.bytes.2):=by
 obtain⟨p,n,c,h,q⟩:=h;have a:=zh (zCu h q);have C:=Rd.num_le R;have i:=zW (R.bytes=R.num.2.raw R.num.1) rfl;clear h q
 go_enter func152,ntmps152
 go_wp2_with fail;refine a.o.mono ?_;rintro e w1 ⟨rfl,⟨G,F,E,t,b⟩,s⟩;have l:=zh (rawX_calls t b (R.num.1:Int) (by omega) (by omega));have k:=zh s;rw[Int.toNat_natCast]at l;clear t s b;generalize R.num.1=m at *;generalize R.num.2=D at *;go_wp2_with fail;refine l.o.mono ?_;rintro e w2 ⟨v,rfl,y,g,f,d⟩;have z:=zW (RowX A w r R.bytes.1 R.bytes.2 (.returned v) w2) (⟨v,rfl,by rw[i.o];exact y,fun j B=>Nat.le_trans k.o.size (g j B),by rw[i.o];exact f,k.o.trans d fun _ _ e=>e⟩);clear y g f d;go_wp2_with fail;go_ret;exact z.o
theorem zB4 {w:World}{x:Value}{l:Bs}(h:zAY w x l)(j:l.length≤140737488355328) :
  Calls prog 149 #[x] w fun e w'=>∃r,e=.returned (.pointer (some ⟨r,0,none⟩))∧RdX (fun k=>w.heap.size≤k∧k<r) w' r ⟨l,false⟩∧w.heap.size≤r∧r<w'.heap.size∧Below w.heap.size w w':=by
 have s:=zh (zB2 h j);clear h
 go_enter func149,ntmps149
 go_wp2_with fail;refine s.o.mono ?_;rintro e w1 ⟨v,rfl,d,f,g⟩;obtain⟨p,c,rfl,b⟩:=zAN d;have q:=zW (RdX (fun k=>w.heap.size≤k∧k<w1.heap.size) (w1.alloc (.cells #[.slice p l.length c,.bool false] 232)) w1.heap.size ⟨l,false⟩) (
  ⟨p,l.length,c,⟨zAJ w1 _,zGE d.has _,b,fun e=>by have:=OwnR.lt d e;omega,j⟩,fun k i=>⟨f k i,OwnR.lt d i⟩⟩)
 have m:=zh (And.intro g.size (And.intro (show w1.heap.size<(w1.alloc (.cells #[.slice p l.length c,.bool false] 232)).heap.size by simp) (g.alloc g.size (.cells #[.slice p l.length c,.bool false] 232))));clear d f g;generalize l.length=n at *;go_wp2_with fail;go_ret;exact⟨_,rfl,q.o,m.o⟩
end Go.Proofs.YtapfnehdgailmaaGreat
