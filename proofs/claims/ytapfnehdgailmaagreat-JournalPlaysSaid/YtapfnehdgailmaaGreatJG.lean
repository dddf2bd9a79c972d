/- What the program's functions and the document's do, and plain laws, for PJournalPlays. -/
import Derived.Test.YtapfnehdgailmaaGreatJA
import Derived.Test.YtapfnehdgailmaaGreatJE
import Derived.Test.YtapfnehdgailmaaGreatJF
open Go.Proofs.Tryz
set_option maxRecDepth 100000
set_option maxHeartbeats 64000000
namespace Go.Proofs.YtapfnehdgailmaaGreat
open Go.RowKit Go.Sat Go.Maps
def zFB (w w1:World)(l d:Nat)(pre:ByteArray)(D:zAA)(M:LedM)(F:Nat→Prop):Prop :=
 ∃own dv ev vs,zDA w1 l d pre own M dv ev vs∧St w w1 d D (fun k=>own k∨F k)∧(∀k,own k→w.heap.size≤k∧¬F k)∧∀k,F k→k<w1.heap.size
theorem zBQ {w:World}{a:Addr}{v:Value}(h:w.cell? a=some v)(o:Obj):(w.alloc o).cell? a=some v:=(((Below.refl w.heap.size w).alloc (Nat.le_refl _) o).cell (World.block_lt_of_cell? w _ h)).trans h
theorem zCD {w w':World}{e:TypeId}{v:Value}{b:Bs}(h:zAi w e v b)(c:Below w.heap.size w w'):zAi w' e v b:=OwnR.keep h fun k d=>c.block k (OwnR.lt h d)
theorem zAP (w:World):Below w.heap.size w w.drew:=⟨rfl,rfl,rfl,Nat.le_refl _,fun _ _=>rfl⟩
theorem zAD (w:World)(o:Obj):Below w.heap.size w (w.alloc o):=(Below.refl _ _).alloc (Nat.le_refl _) o
section
variable {w w1 w2:World} {l d:Nat} {pre:ByteArray} {D:zAA} {M:LedM} {F F':Nat→Prop}
theorem zFB.bel (h:zFB w w1 l d pre D M F):Below w.heap.size w w1:=let ⟨_,_,_,_,_,hS,_,_⟩:=h;hS.below
theorem zFB.okD (h:zFB w w1 l d pre D M F):D.OK:=let ⟨_,_,_,_,_,hS,_,_⟩:=h;hS.ok
theorem zFB.flt (h:zFB w w1 l d pre D M F){k:Nat}(b:F k):k<w1.heap.size:=let ⟨_,_,_,_,_,_,_,hF⟩:=h;hF k b
theorem zFB.st (h:zFB w w1 l d pre D M F):St w w1 d D NoF:=let ⟨_,_,_,_,_,hS,_,_⟩:=h;hS.noF
theorem zFB.last (h:zFB w w1 l d pre D M F):M.last≤1099511627776:=let ⟨_,_,_,_,hL,_,_,_⟩:=h;hL.last
theorem zFB.psz (h:zFB w w1 l d pre D M F):1≤pre.size∧pre.size≤20:=let ⟨_,_,_,_,hL,_,_,_⟩:=h;hL.psz
theorem zFB.cells (h:zFB w w1 l d pre D M F):∃dv ev,w1.heap[l]?=some (.cells #[.pointer (some ⟨d,0,none⟩),.string pre,.int .i64 (M.base:Int),dv,ev,.bool M.dead] 183 (0,0))∧zAi w1 5 dv M.data∧∃vs,OwnR w1 22 1 ev M.entries.length vs∧∀(i:Nat) u b,vs[i]?=some u→M.entries[i]?=some b→zAi w1 5 u b :=
 let ⟨_,dv,ev,vs,hL,_,_,_⟩:=h;⟨dv,ev,hL.cells,hL.data,vs,hL.row,hL.rows⟩
theorem zFB.move {S:Nat→Prop}(h:zFB w w1 l d pre D M F)(f:Chg S w1 w2)(hS:∀k,k<w1.heap.size→S k→F k∧w.heap.size≤k)(hF:∀k,F' k→(F k∨w1.heap.size≤k)∧k<w2.heap.size):zFB w w2 l d pre D M F':=by
 obtain⟨own,dv,ev,vs,c,i,hn,m⟩:=h;refine⟨own,dv,ev,vs,c.keep (fun k b=>f.block k (c.olt k b) fun g=>(hn k b).2 (hS k (c.olt k b) g).1) fun k b=>Nat.lt_of_lt_of_le (c.olt k b) f.size,i.move f (fun k b g=>⟨.inr (hS k b g).1,(hS k b g).2⟩) (fun k b=>?_),fun k b=>⟨(hn k b).1,fun j=>?_⟩,fun k b=>(hF k b).2⟩
 ·rcases b with b|b
  ·exact⟨.inl (.inl b),Nat.lt_of_lt_of_le (c.olt k b) f.size⟩
  ·exact⟨(hF k b).1.imp .inr id,(hF k b).2⟩
 ·rcases(hF k j).1 with h|h
  ·exact(hn k b).2 h
  ·have:=c.olt k b;omega
theorem zFB.next (h:zFB w w1 l d pre D M F)(b:Below w1.heap.size w1 w2):zFB w w2 l d pre D M F :=
 h.move (Chg.of_below b) (fun _ _ h=>h.elim) fun _ c=>⟨.inl c,Nat.lt_of_lt_of_le (h.flt c) b.size⟩
theorem zFB.same (h:zFB w w1 l d pre D M F)(b:Below w1.heap.size w1 w2):Same F w1 w2:=fun _ c=>b.block _ (h.flt c)
theorem zFB.less (h:zFB w w1 l d pre D M F)(hF:∀k,F' k→F k):zFB w w1 l d pre D M F' :=
 h.move (Chg.refl _ _:Chg (fun _=>False) w1 w1) (fun _ _ h=>h.elim) fun _ b=>⟨.inl (hF _ b),h.flt (hF _ b)⟩
theorem zFB.more (h:zFB w w1 l d pre D M F)(c:Below w1.heap.size w1 w2)(hF:∀k,F' k→F k∨w1.heap.size≤k∧k<w2.heap.size):zFB w w2 l d pre D M F' :=
 h.move (Chg.of_below c) (fun _ _ h=>h.elim) fun k f=>by
  rcases hF k f with b|b
  ·exact⟨.inl b,Nat.lt_of_lt_of_le (h.flt b) c.size⟩
  ·exact⟨.inr b.1,b.2⟩
theorem zFB.box (h:zFB w w1 l d pre D M F)(o:Obj):zFB w (w1.alloc o) l d pre D M (fun k=>F k∨k=w1.heap.size) :=
 h.more (zAD w1 o) fun k b=>b.imp id fun e=>⟨by omega,by simp;omega⟩
theorem zFB.turned {own own':Nat→Prop}{M':LedM}{dv' ev':Value}{vs':List Value}(hS:St w w1 d D (fun k=>own k∨F k))(hn:∀k,own k→w.heap.size≤k∧¬F k)(g:∀k,F k→k<w1.heap.size)
  (c:zDA w2 l d pre own' M' dv' ev' vs') (f:Chg own w1 w2) (i:∀k,own' k→own k∨w1.heap.size≤k):zFB w w2 l d pre D M' F∧Same F w1 w2:=by
 refine⟨⟨own',dv',ev',vs',c,hS.move f (fun k _ b=>⟨.inl b,(hn k b).1⟩) (fun k b=>?_),fun k b=>?_,fun k b=>Nat.lt_of_lt_of_le (g k b) f.size⟩,fun k b=>f.block k (g k b) fun m=>(hn k m).2 b⟩
 ·rcases b with b|b
  ·exact⟨(i k b).imp .inl id,c.olt k b⟩
  ·exact⟨.inl (.inr b),Nat.lt_of_lt_of_le (g k b) f.size⟩
 ·rcases i k b with h|h
  ·exact hn k h
  ·exact⟨Nat.le_trans hS.below.size h,fun j=>by have:=g k j;omega⟩
end
theorem LedCells.same {l d:Nat}{pre:ByteArray}{w w':World}(h:LedCells l d pre w)(b:w'.heap[l]?=w.heap[l]?):LedCells l d pre w' :=
 ⟨(World.cell?_of_block (a:=⟨l,0,none⟩) b).trans h.1,(World.cell?_of_block (a:=⟨l,1,none⟩) b).trans h.2.1,h.2.2⟩
section
variable {w w1:World} {l d:Nat} {pre:ByteArray} {D:zAA} {M:LedM} {F:Nat→Prop}
theorem last_calls (h:zFB w w1 l d pre D M F) :
  Calls prog 126 #[.pointer (some ⟨l,0,none⟩)] w1 fun e w'=>e=.returned (.int .i64 (M.last:Int))∧∃q,w'=w1.drewN q:=by
 have g:=h.last;obtain⟨dv,ev,i,-,vs,f,-⟩:=h.cells;obtain⟨p,c,rfl⟩:=f.shape;have k:w1.cell? ⟨l,2,none⟩=some (.int .i64 (M.base:Int)):=zAG i rfl;have m:w1.cell? ⟨l,4,none⟩=some (.slice p M.entries.length c):=zAG i rfl;have j:=zW (((M.base:Int)+(M.entries.length:Int))=(M.last:Int)) (by unfold LedM.last;omega);have r:M.base≤1099511627776:=by unfold LedM.last at g;omega
 have s:M.entries.length≤1099511627776:=by unfold LedM.last at g;omega
 clear h i f g;generalize M.entries.length=n at *;generalize M.base=b at *
 go_enter func126,ntmps126
 have t:IntKind.i64.wrap ((b:Int)+(n:Int))=(b:Int)+(n:Int):=IntWalk.i64_in _ (by omega);go_wp2_with fail
 go_quiet (fail)
 go_wp2_with fail;go_ret;exact⟨by rw[j.o];rfl,_,rfl⟩
end
theorem numI_of {z:Int}(b:0≤z)(c:z≤4611686018427387904):zDf z=zD5 z.toNat:=by
 have:=zB1 (n:=z.toNat) (by omega);rwa[Int.toNat_of_nonneg b]at this
theorem rd_int {z:Int}(c:0≤z)(d:z≤4611686018427387904)(r:Bs)(b:Bool):Rd.num ⟨zDf z++r,b⟩=(z.toNat,⟨r,b⟩):=by
 rw[numI_of c d];exact Rd.num_of (by omega) r b
theorem ints_of:∀(l:List Int) (r:Bs) (b:Bool),(∀x∈l,0≤x∧x≤4611686018427387904)→Rd.ints l.length ⟨zAp l++r,b⟩=(l,⟨r,b⟩)
 | [],_,_,_=>rfl
 | z::l,r,b,h=>by
  have c:=h z (by simp);have d:zAp (z::l)++r=zDf z++(zAp l++r):=by simp[zAp]
  show(((Rd.num _).1:Int)::(Rd.ints l.length (Rd.num _).2).1,(Rd.ints l.length (Rd.num _).2).2)=_
  rw[d,rd_int c.1 c.2];dsimp only;rw[ints_of l r b fun x f=>h x (by simp[f]),Int.toNat_of_nonneg c.1]
theorem grp_of {may:List Int→Bool}{l:List Int}(f:l.length≤7)(h:∀x∈l,0≤x∧x<7)(c:may l=true)(r:Bs)(b:Bool):Rd.grp may ⟨zDp l++r,b⟩=(l,⟨r,b⟩):=by
 unfold Rd.grp zDp;rw[List.append_assoc,Rd.num_of (by omega)];dsimp only;rw[if_neg (by omega),ints_of l r b fun x d=>by have:=h x d;omega];dsimp only;rw[if_pos c]
theorem whole_of (b:Bool):Rd.whole ⟨[],b⟩=!b:=by
 unfold Rd.whole;simp
theorem zCZ {l:List Int}(h:zAZ l=true):l.length≤7∧∀x∈l,0≤x∧x<7:=by
 unfold zAZ at h;simp only[Bool.and_eq_true,decide_eq_true_eq]at h;refine⟨h.2.2,?_⟩;have d:∀(l:List Int) (p:Int),-1≤p→zFe p l=true→∀x∈l,p<x∧x<7:=by
  intro l
  induction l with
  | nil=>intro p _ _ x b;cases b
  | cons n r ih =>
   intro p f c x b;unfold zFe at c;simp only[Bool.and_eq_true,decide_eq_true_eq]at c;cases b with
   | head=>exact c.1
   | tail _ b =>
    have:=ih n (by omega) c.2 x b;omega
 intro x b;have:=d l (-1) (by omega) h.1 x b;omega
theorem rec_fst {M:zAJ}{n:Nat}{t:Int}{g:List Int}(hn:n≤1099511627776)(d:0≤t∧t≤1099511627776)(c:zAZ g=true) :
  zBs true M (zFJ n t g)=some {M with number:=n,term:=t,group:=g}:=by
 have b:=zCZ c;unfold zBs zFJ;dsimp only;rw[if_neg (by decide),if_pos rfl,List.append_assoc,Rd.num_of (by omega)];dsimp only;rw[rd_int d.1 (by omega)];dsimp only;have:=grp_of (may:=zAZ) b.1 b.2 c [] false;rw[List.append_nil]at this;rw[this];dsimp only;rw[whole_of,if_pos (show(!false)=true from rfl),if_pos (by omega),Int.toNat_of_nonneg d.1]
theorem rec_trm {M:zAJ}{t v:Int}(h:M.mayVote t v=true)(c:0≤M.now):zBs false M (zCU t v)=some {M with now:=t,vote:=v}:=by
 have b:=h;unfold zAJ.mayVote at b;simp only[Bool.and_eq_true,decide_eq_true_eq]at b;have d:=b.1;unfold zBs zCU;dsimp only;rw[if_neg (by decide),if_neg (by decide),if_pos rfl,rd_int (by omega) (by omega)];dsimp only;have e:=rd_int (z:=v+1) (by omega) (by omega) [] false;rw[List.append_nil]at e;rw[e];dsimp only;rw[whole_of,Int.toNat_of_nonneg (by omega),Int.toNat_of_nonneg (by omega),show v+1-1=v by omega,h,if_pos (show(!false&&true)=true from rfl)]
theorem zBF {e:Ent}(h:zA1 e=true):(0≤e.term∧e.term≤1099511627776)∧(0≤e.kind∧e.kind≤2)∧e.data.length≤65536∧e.nodes.length≤7∧∀x∈e.nodes,0≤x∧x<7:=by
 unfold zA1 at h;simp only[Bool.and_eq_true]at h;have c:=h.1;unfold zDe at c;simp only[decide_eq_true_eq]at c;refine⟨c,?_⟩;have b:=h.2
 split at b
 ·rename_i hk
  simp only[decide_eq_true_eq]at b;rw[b.1,b.2,hk];exact⟨by decide,by decide,by decide,fun x d=>by cases d⟩
 ·split at b
  ·rename_i hk
   simp only[decide_eq_true_eq]at b;rw[b.2.2,hk];exact⟨by decide,b.2.1,by decide,fun x d=>by cases d⟩
  ·split at b
   ·rename_i hk
    simp only[Bool.and_eq_true,decide_eq_true_eq]at b;rw[b.1,hk];exact⟨by decide,by decide,(zCZ b.2).1,(zCZ b.2).2⟩
   ·cases b
theorem rec_ent {M:zAJ}{e:Ent}(h:zA1 e=true)(f:M.last+1≤1099511627776):zBs false M (zEp (M.last+1) e)=some {M with entries:=M.entries++[e] }:=by
 obtain⟨d,c,i,hn,g⟩:=zBF h;unfold zBs zEp;dsimp only;rw[if_neg (by decide),if_neg (by decide),if_neg (by decide),if_pos rfl];simp only[List.append_assoc];rw[Rd.num_of (by omega)];dsimp only;rw[rd_int d.1 (by omega)];dsimp only;rw[rd_int c.1 (by omega)];dsimp only;rw[Rd.bytes_of (by omega)];dsimp only;have b:=grp_of (may:=anyG) hn g rfl [] false;rw[List.append_nil]at b;rw[b];dsimp only;rw[whole_of,Int.toNat_of_nonneg d.1,Int.toNat_of_nonneg c.1];rw[if_pos ⟨rfl,rfl,f,h⟩]
theorem recGo_app:∀(a b:List Bs) (M:zAJ),zCT M (a++b)=(zCT M a).bind fun M'=>zCT M' b
 | [],_,_=>rfl
 | p::a,b,M=>by
  show((zBs false M p).bind fun M'=>zCT M' (a++b))=((zBs false M p).bind fun M'=>zCT M' a).bind fun M'=>zCT M' b
  cases zBs false M p with
  | none=>rfl
  | some M'=>exact recGo_app a b M'
theorem recAll_app {M M':zAJ}{a b:List Bs}(h:zCa M a=some M'):zCa M (a++b)=zCT M' b:=by
 cases a with
 | nil=>cases h
 | cons p r =>
  have c:((zBs true M p).bind fun M'=>zCT M' r)=some M':=h
  show((zBs true M p).bind fun M'=>zCT M' (r++b))=_
  cases d:zBs true M p with
  | none=>rw[d]at c;cases c
  | some N =>
   rw[d]at c
   show zCT N (r++b)=_
   rw[recGo_app,show zCT N r=some M' from c];rfl
theorem recGo_ents:∀(l:List Ent) (M:zAJ),(∀e∈l,zA1 e=true)→M.last+l.length≤1099511627776→zCT M (zA7 M.last l)=some {M with entries:=M.entries++l}
 | [],M,_,_=>by
  show some M=_
  rw[List.append_nil]
 | e::l,M,h,hn=>by
  show((zBs false M (zEp (M.last+1) e)).bind fun M'=>zCT M' (zA7 (M.last+1) l))=_
  rw[rec_ent (h e (by simp)) (by simp at hn;omega)];have b:({M with entries:=M.entries++[e] }:zAJ).last=M.last+1:=by
   show M.number+(M.entries++[e]).length=M.number+M.entries.length+1
   rw[List.length_append];rfl
  have:=recGo_ents l {M with entries:=M.entries++[e] } (fun x c=>h x (by simp[c])) (by rw[b];simp at hn;omega);rw[b]at this
  show zCT {M with entries:=M.entries++[e] } (zA7 (M.last+1) l)=_
  rw[this,List.append_assoc];rfl
theorem rec_rows {M N:zAJ}(l:M.last≤1099511627776)(c:zDe M.term=true)(k:zAZ M.group=true)(hn:zDe M.now=true)(m:-1≤M.vote∧M.vote<7)(j:∀e∈M.entries,zA1 e=true)
  (g:N.now=0) (i:N.vote=-1) (f:N.entries=[]):zCa N M.rows=some {M with data:=N.data,dead:=N.dead}:=by
 unfold zDe at c hn;simp only[decide_eq_true_eq]at c hn;have b:M.number+M.entries.length≤1099511627776:=l
 show((zBs true N (zFJ M.number M.term M.group)).bind fun M'=>zCT M' (zCU M.now M.vote::zA7 M.number M.entries))=_
 rw[rec_fst (by omega) c k]
 show((zBs false {N with number:=M.number,term:=M.term,group:=M.group} (zCU M.now M.vote)).bind fun M'=>zCT M' (zA7 M.number M.entries))=_
 rw[rec_trm (by
  unfold zAJ.mayVote;simp only[g,i];simp;omega) (by show 0≤N.now;omega)]
 have d:({N with number:=M.number,term:=M.term,group:=M.group,now:=M.now,vote:=M.vote}:zAJ).last=M.number:=by
  show M.number+N.entries.length=_
  rw[f];rfl
 have:=recGo_ents M.entries {N with number:=M.number,term:=M.term,group:=M.group,now:=M.now,vote:=M.vote} j (by rw[d];exact b);rw[d]at this
 show zCT {N with number:=M.number,term:=M.term,group:=M.group,now:=M.now,vote:=M.vote} (zA7 M.number M.entries)=_
 rw[this];simp only[f,List.nil_append]
def zFg (l:List Int):List Value:=l.map (Value.int .i64)
def zCd (w:World)(v:Value)(l:List Int):Prop:=OwnR w 3 1 v l.length (zFg l)
theorem zCd.has {w:World}{v:Value}{l:List Int}(h:zCd w v l):zBY w v l:=OwnR.holds h
theorem zCd.keep {w w':World}{v:Value}{l:List Int}(h:zCd w v l)(b:∀k,v.ownBlock=some k→w'.heap[k]?=w.heap[k]?):zCd w' v l:=OwnR.keep h b
theorem zGB {w w':World}{v:Value}{l:List Int}(h:zCd w v l)(b:Below w.heap.size w w'):zCd w' v l:=OwnR.keep h fun k c=>b.block k (OwnR.lt h c)
theorem zAw {w:World}{v:Value}{l:List Int}(h:zCd w v l):∃p c,v=.slice p l.length c∧l.length≤c:=by
 rcases h.2 with⟨rfl,hn⟩|⟨g,b,cur,rfl,_,d,_⟩
 ·exact⟨none,0,by rw[hn],by omega⟩
 ·exact⟨_,b,rfl,d⟩
/-! ### Entries in memory -/
abbrev EV:=Value×Value
def zEq (e:Ent)(v:EV):List Value:=[.int .i64 e.term,.int .i64 e.kind,v.1,v.2]
def zA3:List Ent→List EV→List Value
 | e::es,v::vs=>zEq e v++zA3 es vs
 | _,_=>[]
theorem zDx:∀(es:List Ent) (vs:List EV),vs.length=es.length→(zA3 es vs).length=es.length*4
 | [],[],_=>rfl
 | e::es,v::vs,h=>by
  show(zEq e v++zA3 es vs).length=_
  rw[List.length_append,zDx es vs (by simpa using h),List.length_cons]
  show 4+_=_
  omega
 | [],_::_,h=>by simp at h
 | _::_,[],h=>by simp at h
theorem zEr:∀(es:List Ent) (vs:List EV) (b:List Ent) (c:List EV),vs.length=es.length→zA3 (es++b) (vs++c)=zA3 es vs++zA3 b c
 | [],[],_,_,_=>rfl
 | e::es,v::vs,b,c,h=>by
  show zEq e v++zA3 (es++b) (vs++c)=zEq e v++zA3 es vs++zA3 b c
  rw[zEr es vs b c (by simpa using h),List.append_assoc]
 | [],_::_,_,_,h=>by simp at h
 | _::_,[],_,_,h=>by simp at h
theorem zFH:∀(k:Nat) (es:List Ent) (vs:List EV),vs.length=es.length→zA3 (es.take k) (vs.take k)=(zA3 es vs).take (k*4)
 | 0,_,_,_=>by simp[zA3]
 | k+1,[],[],_=>by simp[zA3]
 | k+1,e::es,v::vs,h=>by
  show zEq e v++zA3 (es.take k) (vs.take k)=(zEq e v++zA3 es vs).take ((k+1)*4)
  have b:(zEq e v).length=4:=rfl;rw[zFH k es vs (by simpa using h),List.take_append,List.take_of_length_le (l:=zEq e v) (by omega),b,show(k+1)*4-4=k*4 by omega]
 | k+1,[],_::_,h=>by simp at h
 | k+1,_::_,[],h=>by simp at h
theorem entsC_drop:∀(k:Nat) (es:List Ent) (vs:List EV),vs.length=es.length→zA3 (es.drop k) (vs.drop k)=(zA3 es vs).drop (k*4)
 | 0,_,_,_=>by simp
 | k+1,[],[],_=>by simp[zA3]
 | k+1,e::es,v::vs,h=>by
  show zA3 (es.drop k) (vs.drop k)=(zEq e v++zA3 es vs).drop ((k+1)*4)
  have b:(zEq e v).length=4:=rfl;rw[entsC_drop k es vs (by simpa using h),List.drop_append,List.drop_of_length_le (l:=zEq e v) (by omega),List.nil_append,b,show(k+1)*4-4=k*4 by omega]
 | k+1,[],_::_,h=>by simp at h
 | k+1,_::_,[],h=>by simp at h
theorem zEJ:∀(es:List Ent) (vs:List EV) (i:Nat) (e:Ent) (v:EV),es[i]?=some e→vs[i]?=some v→∀(j:Nat) u,(zEq e v)[j]?=some u→(zA3 es vs)[i*4+j]?=some u
 | [],_,i,e,v,h,_=>by simp at h
 | _::_,[],i,e,v,_,h=>by simp at h
 | x::es,y::vs,0,e,v,h1,h2=>by
  simp only[List.getElem?_cons_zero,Option.some.injEq]at h1 h2;subst h1;subst h2;intro j u b;have c:j<4:=by
   have:=(List.getElem?_eq_some_iff.1 b).1;exact this
  show(zEq x y++zA3 es vs)[0*4+j]?=_
  rw[List.getElem?_append_left (by show _<4;omega),show 0*4+j=j by omega];exact b
 | x::es,y::vs,i+1,e,v,h1,h2=>by
  intro j u b;have:=zEJ es vs i e v (by simpa using h1) (by simpa using h2) j u b
  show(zEq x y++zA3 es vs)[(i+1)*4+j]?=_
  rw[List.getElem?_append_right (by show 4≤_;omega)]
  show(zA3 es vs)[(i+1)*4+j-4]?=_
  rw[show(i+1)*4+j-4=i*4+j by omega];exact this
structure zDM (w:World)(e:Ent)(v:EV):Prop where
 data:zAi w 5 v.1 e.data
 nodes:zCd w v.2 e.nodes
theorem zDM.keep {w w':World}{e:Ent}{v:EV}(h:zDM w e v)(c:∀k,(v.1.ownBlock=some k∨v.2.ownBlock=some k)→w'.heap[k]?=w.heap[k]?):zDM w' e v :=
 ⟨OwnR.keep h.data fun k b=>c k (.inl b),OwnR.keep h.nodes fun k b=>c k (.inr b)⟩
theorem zDM.lt {w:World}{e:Ent}{v:EV}(h:zDM w e v){k:Nat}(b:v.1.ownBlock=some k∨v.2.ownBlock=some k):k<w.heap.size:=b.elim (OwnR.lt h.data) (OwnR.lt h.nodes)
def EntsAt (w:World)(es:List Ent)(vs:List EV):Prop:=vs.length=es.length∧∀(i:Nat) e v,es[i]?=some e→vs[i]?=some v→zDM w e v
structure zAJ.OK (M:zAJ):Prop where
 last:M.last≤1099511627776
 term:zDe M.term=true
 group:zAZ M.group=true
 now:zDe M.now=true
 vote:-1≤M.vote∧M.vote<7
 data:M.data.length≤1073741824
 ents:∀e∈M.entries,zA1 e=true
theorem zAs {n:Int}:zDe n=true↔0≤n∧n≤1099511627776:=by simp[zDe]
theorem zEP {l:List Int}(h:zAZ l=true):1≤l.length∧l.length≤7:=by
 unfold zAZ at h;simp only[Bool.and_eq_true,decide_eq_true_eq]at h;exact h.2
/-! ### A journal in memory -/
structure zBg (w:World)(j d:Nat)(pre:ByteArray)(own:Nat→Prop)(M:zAJ)(gv dv ev:Value)(vs:List EV):Prop where
 cells:w.heap[j]?=some (.cells #[.int .i64 (M.number:Int),.int .i64 M.term,gv,.pointer (some ⟨d,0,none⟩),.string pre,.int .i64 M.now,.int .i64 M.vote,dv,ev,.bool M.dead] 132 (0,0))
 group:zCd w gv M.group
 data:zAi w 5 dv M.data
 row:OwnR w 50 4 ev M.entries.length (zA3 M.entries vs)
 rows:EntsAt w M.entries vs
 ol:own j
 og:∀k,gv.ownBlock=some k→own k∧k≠j∧ev.ownBlock≠some k
 od:∀k,dv.ownBlock=some k→own k∧k≠j∧ev.ownBlock≠some k
 oe:∀k,ev.ownBlock=some k→own k∧k≠j
 ov:∀u∈vs,∀k,(u.1.ownBlock=some k∨u.2.ownBlock=some k)→own k∧k≠j∧ev.ownBlock≠some k
 olt:∀k,own k→k<w.heap.size
 psz:1≤pre.size∧pre.size≤20
 ok:M.OK
section
variable {w w':World} {j d:Nat} {pre:ByteArray} {own:Nat→Prop} {M:zAJ} {gv dv ev:Value} {vs:List EV}
theorem zBg.keep (h:zBg w j d pre own M gv dv ev vs)(c:∀k,own k→w'.heap[k]?=w.heap[k]?)(l:∀k,own k→k<w'.heap.size):zBg w' j d pre own M gv dv ev vs where
 cells:=(c j h.ol).trans h.cells
 group:=OwnR.keep h.group fun k b=>c k (h.og k b).1
 data:=OwnR.keep h.data fun k b=>c k (h.od k b).1
 row:=h.row.keep fun k b=>c k (h.oe k b).1
 rows:=⟨h.rows.1,fun i e v g f=>(h.rows.2 i e v g f).keep fun k b=>c k (h.ov v (List.mem_of_getElem? f) k b).1⟩
 ol:=h.ol
 og:=h.og
 od:=h.od
 oe:=h.oe
 ov:=h.ov
 olt:=l
 psz:=h.psz
 ok:=h.ok
theorem zBg.below (h:zBg w j d pre own M gv dv ev vs)(c:Below w.heap.size w w'):zBg w' j d pre own M gv dv ev vs :=
 h.keep (fun k b=>c.block k (h.olt k b)) fun k b=>Nat.lt_of_lt_of_le (h.olt k b) c.size
theorem zBg.c (h:zBg w j d pre own M gv dv ev vs)(i:Nat){v:Value}(b:(#[.int .i64 (M.number:Int),.int .i64 M.term,gv,.pointer (some ⟨d,0,none⟩),.string pre,.int .i64 M.now,.int .i64 M.vote,dv,ev,.bool M.dead]:Array Value)[i]?=some v):w.cell? ⟨j,i,none⟩=some v:=zAG h.cells b
theorem zBg.fr (h:zBg w j d pre own M gv dv ev vs)(i:Nat):w.frozen? ⟨j,i,none⟩=false:=zAE h.cells i
theorem zBg.ent (h:zBg w j d pre own M gv dv ev vs){i:Nat}{e:Ent}(m:M.entries[i]?=some e):∃g c v,ev=.slice (some ⟨g,0,none⟩) M.entries.length c∧vs[i]?=some v∧zDM w e v ∧
  w.cell? ⟨g,i*4,none⟩=some (.int .i64 e.term)∧w.cell? ⟨g,i*4+1,none⟩=some (.int .i64 e.kind)∧w.cell? ⟨g,i*4+2,none⟩=some v.1∧w.cell? ⟨g,i*4+3,none⟩=some v.2:=by
 have n:=(List.getElem?_eq_some_iff.1 m).1;have f:vs[i]?=some (vs[i]'(by rw[h.rows.1];exact n)):=List.getElem?_eq_getElem _;generalize vs[i]'(by rw[h.rows.1];exact n)=v at f;rcases h.row.2 with⟨-,p⟩|⟨g,l,cur,rfl,-⟩
 ·omega
 ·have b:∀(k:Nat) u,(zEq e v)[k]?=some u→w.cell? ⟨g,i*4+k,none⟩=some u:=fun k u o=>by
   have:=h.row.cells (g:=g) rfl (i*4+k) u (zEJ _ _ i e v m f k u o);rwa[add_zero]at this
  exact⟨g,l,v,rfl,f,h.rows.2 i e v m f,b 0 _ rfl,b 1 _ rfl,b 2 _ rfl,b 3 _ rfl⟩
end
def zAk (w w1:World)(j d:Nat)(pre:ByteArray)(D:zAA)(M:zAJ)(F:Nat→Prop):Prop :=
 ∃own gv dv ev vs,zBg w1 j d pre own M gv dv ev vs∧St w w1 d D (fun k=>own k∨F k)∧(∀k,own k→w.heap.size≤k∧¬F k)∧∀k,F k→k<w1.heap.size
def zFr (j d:Nat)(pre:ByteArray)(w:World):Prop:=w.cell? ⟨j,3,none⟩=some (.pointer (some ⟨d,0,none⟩))∧w.cell? ⟨j,4,none⟩=some (.string pre)∧pre.size≤20
theorem zBg.jc {w:World}{j d:Nat}{pre:ByteArray}{own:Nat→Prop}{M:zAJ}{gv dv ev:Value}{vs:List EV}(h:zBg w j d pre own M gv dv ev vs):zFr j d pre w:=⟨h.c 3 rfl,h.c 4 rfl,h.psz.2⟩
theorem zFr.same {l d:Nat}{pre:ByteArray}{w w':World}(h:zFr l d pre w)(b:w'.heap[l]?=w.heap[l]?):zFr l d pre w' :=
 ⟨(World.cell?_of_block (a:=⟨l,3,none⟩) b).trans h.1,(World.cell?_of_block (a:=⟨l,4,none⟩) b).trans h.2.1,h.2.2⟩
section
variable {w w1 w2:World} {j d:Nat} {pre:ByteArray} {D:zAA} {M:zAJ} {F F':Nat→Prop}
theorem zAk.bel (h:zAk w w1 j d pre D M F):Below w.heap.size w w1:=let ⟨_,_,_,_,_,_,hS,_,_⟩:=h;hS.below
theorem zAk.okD (h:zAk w w1 j d pre D M F):D.OK:=let ⟨_,_,_,_,_,_,hS,_,_⟩:=h;hS.ok
theorem zAk.flt (h:zAk w w1 j d pre D M F){k:Nat}(b:F k):k<w1.heap.size:=let ⟨_,_,_,_,_,_,_,_,hF⟩:=h;hF k b
theorem zAk.jc (h:zAk w w1 j d pre D M F):zFr j d pre w1:=let ⟨_,_,_,_,_,hJ,_,_,_⟩:=h;hJ.jc
theorem zAk.stF (h:zAk w w1 j d pre D M F):St w w1 d D F:=let ⟨_,_,_,_,_,_,hS,_,_⟩:=h;hS.less fun _ b=>.inr b
theorem zAk.st (h:zAk w w1 j d pre D M F):St w w1 d D NoF:=let ⟨_,_,_,_,_,_,hS,_,_⟩:=h;hS.noF
theorem zAk.jlt (h:zAk w w1 j d pre D M F):j<w1.heap.size:=let ⟨_,_,_,_,_,hJ,_,_,_⟩:=h;hJ.olt j hJ.ol
theorem zAk.okM (h:zAk w w1 j d pre D M F):M.OK:=let ⟨_,_,_,_,_,hJ,_,_,_⟩:=h;hJ.ok
theorem zAk.psz (h:zAk w w1 j d pre D M F):1≤pre.size∧pre.size≤20:=let ⟨_,_,_,_,_,hJ,_,_,_⟩:=h;hJ.psz
theorem zAk.move {S:Nat→Prop}(h:zAk w w1 j d pre D M F)(f:Chg S w1 w2)(hS:∀k,k<w1.heap.size→S k→F k∧w.heap.size≤k)(hF:∀k,F' k→(F k∨w1.heap.size≤k)∧k<w2.heap.size):zAk w w2 j d pre D M F':=by
 obtain⟨own,gv,dv,ev,vs,c,i,hn,m⟩:=h;refine⟨own,gv,dv,ev,vs,c.keep (fun k b=>f.block k (c.olt k b) fun g=>(hn k b).2 (hS k (c.olt k b) g).1) fun k b=>Nat.lt_of_lt_of_le (c.olt k b) f.size,i.move f (fun k b g=>⟨.inr (hS k b g).1,(hS k b g).2⟩) (fun k b=>?_),fun k b=>⟨(hn k b).1,fun l=>?_⟩,fun k b=>(hF k b).2⟩
 ·rcases b with b|b
  ·exact⟨.inl (.inl b),Nat.lt_of_lt_of_le (c.olt k b) f.size⟩
  ·exact⟨(hF k b).1.imp .inr id,(hF k b).2⟩
 ·rcases(hF k l).1 with h|h
  ·exact(hn k b).2 h
  ·have:=c.olt k b;omega
theorem zAk.next (h:zAk w w1 j d pre D M F)(b:Below w1.heap.size w1 w2):zAk w w2 j d pre D M F :=
 h.move (Chg.of_below b) (fun _ _ h=>h.elim) fun _ c=>⟨.inl c,Nat.lt_of_lt_of_le (h.flt c) b.size⟩
theorem zAk.drewN (h:zAk w w1 j d pre D M F)(q:Nat):zAk w (w1.drewN q) j d pre D M F:=h.next ⟨rfl,rfl,rfl,Nat.le_refl _,fun _ _=>rfl⟩
theorem zAk.same (h:zAk w w1 j d pre D M F)(b:Below w1.heap.size w1 w2):Same F w1 w2:=fun _ c=>b.block _ (h.flt c)
theorem zAk.less (h:zAk w w1 j d pre D M F)(hF:∀k,F' k→F k):zAk w w1 j d pre D M F' :=
 h.move (Chg.refl _ _:Chg (fun _=>False) w1 w1) (fun _ _ h=>h.elim) fun _ b=>⟨.inl (hF _ b),h.flt (hF _ b)⟩
theorem zAk.more (h:zAk w w1 j d pre D M F)(c:Below w1.heap.size w1 w2)(hF:∀k,F' k→F k∨w1.heap.size≤k∧k<w2.heap.size):zAk w w2 j d pre D M F' :=
 h.move (Chg.of_below c) (fun _ _ h=>h.elim) fun k f=>by
  rcases hF k f with b|b
  ·exact⟨.inl b,Nat.lt_of_lt_of_le (h.flt b) c.size⟩
  ·exact⟨.inr b.1,b.2⟩
theorem zAk.box (h:zAk w w1 j d pre D M F)(o:Obj):zAk w (w1.alloc o) j d pre D M (fun k=>F k∨k=w1.heap.size) :=
 h.more (zAD w1 o) fun k b=>b.imp id fun e=>⟨by omega,by simp;omega⟩
theorem zFN {P:Program}{f:FuncId}{args:Array Value}{Re:zAA×Nat}{wc:World}(h:zAk w w1 j d pre D M F)(i:Below w1.heap.size w1 wc)(n:∀G,St w w1 d D G→Calls P f args wc (Told w d G wc Re)) :
  Calls P f args wc fun e w'=>e=.returned (.int .i64 (Re.2:Int))∧zAk w w' j d pre Re.1 M F∧Same F w1 w'∧w'.heap[j]?=w1.heap[j]?:=by
 obtain⟨own,gv,dv,ev,vs,g,hS,hn,m⟩:=h;refine(n _ hS).mono ?_;rintro e w' ⟨rfl,c,l⟩;refine⟨rfl,⟨own,gv,dv,ev,vs,?_,c,hn,fun k b=>c.flt (.inr b)⟩,fun k b=>(l k (.inr b)).trans (i.block k (m k b)),(l j (.inl g.ol)).trans (i.block j (g.olt j g.ol))⟩;exact(g.below i).keep (fun k b=>l k (.inl b)) fun k b=>c.flt (.inl b)
theorem zAk.turned {own own':Nat→Prop}{M':zAJ}{gv' dv' ev':Value}{vs':List EV}(hS:St w w1 d D (fun k=>own k∨F k))(hn:∀k,own k→w.heap.size≤k∧¬F k)(g:∀k,F k→k<w1.heap.size)
  (c:zBg w2 j d pre own' M' gv' dv' ev' vs') (f:Chg own w1 w2) (i:∀k,own' k→own k∨w1.heap.size≤k):zAk w w2 j d pre D M' F∧Same F w1 w2:=by
 refine⟨⟨own',gv',dv',ev',vs',c,hS.move f (fun k _ b=>⟨.inl b,(hn k b).1⟩) (fun k b=>?_),fun k b=>?_,fun k b=>Nat.lt_of_lt_of_le (g k b) f.size⟩,fun k b=>f.block k (g k b) fun m=>(hn k m).2 b⟩
 ·rcases b with b|b
  ·exact⟨(i k b).imp .inl id,c.olt k b⟩
  ·exact⟨.inl (.inr b),Nat.lt_of_lt_of_le (g k b) f.size⟩
 ·rcases i k b with h|h
  ·exact hn k h
  ·exact⟨Nat.le_trans hS.below.size h,fun l=>by have:=g k l;omega⟩
end
theorem zBg.set {w w':World}{j d:Nat}{pre:ByteArray}{own:Nat→Prop}{M M':zAJ}{gv dv ev:Value}{vs:List EV}(h:zBg w j d pre own M gv dv ev vs)
  (l:w'.heap[j]?=some (.cells #[.int .i64 (M'.number:Int),.int .i64 M'.term,gv,.pointer (some ⟨d,0,none⟩),.string pre,.int .i64 M'.now,.int .i64 M'.vote,dv,ev,.bool M'.dead] 132 (0,0)))
  (f:∀k,k≠j→w'.heap[k]?=w.heap[k]?) (o:w'.heap.size=w.heap.size) (n:M'.group=M.group) (m:M'.data=M.data) (c:M'.entries=M.entries) (ok:M'.OK):zBg w' j d pre own M' gv dv ev vs where
 cells:=l
 group:=by rw[n];exact OwnR.keep h.group fun k b=>f k (h.og k b).2.1
 data:=by rw[m];exact OwnR.keep h.data fun k b=>f k (h.od k b).2.1
 row:=by rw[c];exact h.row.keep fun k b=>f k (h.oe k b).2
 rows:=by rw[c];exact⟨h.rows.1,fun i e v c g=>(h.rows.2 i e v c g).keep fun k b=>f k (h.ov v (List.mem_of_getElem? g) k b).2.1⟩
 ol:=h.ol
 og:=h.og
 od:=h.od
 oe:=h.oe
 ov:=h.ov
 olt:=fun k b=>by rw[o];exact h.olt k b
 psz:=h.psz
 ok:=ok
theorem zDy {w:World}{x:Value}{l:List Int}(h:zBY w x l)(A:l.length≤1099511627776) :
  Calls prog 74 #[x] w fun e w'=>∃v,e=.returned v∧zCd w' v l∧(∀k,v.ownBlock=some k→w.heap.size≤k)∧Below w.heap.size w w':=by
 obtain⟨t,p,c,rfl,y,q⟩:=h;cases p with
 | none =>
  have i:l=[]:=List.eq_nil_of_length_eq_zero (y rfl);subst i;refine(Tryz.slices_Clone_int_nil _ c w).mono ?_;rintro e w' ⟨rfl,rfl⟩;exact⟨_,rfl,OwnR.nil _ _ _,fun k f=>(by cases f),Below.refl _ _⟩
 | some a =>
  by_cases hn:l=[]
  ·subst hn;refine(Tryz.slices_Clone_int_zero a c w).mono ?_;rintro e w' ⟨v,rfl,d,-,m⟩;exact⟨v,rfl,OwnR.of_kit d,fun k f=>OwnR.block_ge d f,m⟩
  ·obtain⟨b,o,z⟩:=a;have g:0<l.length:=by
    cases l with
    | nil=>exact absurd rfl hn
    | cons x r=>simp
   have i:=q _ rfl 0 (.int .i64 l[0]) (by rw[List.getElem?_map,List.getElem?_eq_getElem g];rfl);have n:z=none:=by
    have:=World.cell?_spot i;simpa[Addr.add]using this
   subst n;refine(Tryz.slices_Clone_int b o l.length c l w (Nat.le_refl _) (by omega) fun j s=>?_).mono ?_
   ·have:=q _ rfl j (.int .i64 l[j]) (by rw[List.getElem?_map,List.getElem?_eq_getElem s];rfl);have e:(⟨b,o,none⟩:Addr).add j=⟨b,o+j,none⟩:=by unfold Addr.add;split<;>simp_all
    rw[e]at this;rw[this];simp[List.getD,List.getElem?_eq_getElem s]
   ·rintro e w' ⟨v,rfl,d,-,m⟩;rw[List.take_length]at d;exact⟨v,rfl,OwnR.of_kit d,fun k f=>OwnR.block_ge d f,m⟩
theorem zD0 (w:World)(n:Int):Calls prog 112 #[.int .i64 n] w fun e w'=>e=.returned (.bool (zDe n))∧w'=w:=by
 by_cases c:0≤n
 ·by_cases d:n≤1099511627776
  focus have b:=zW (zDe n=true) (zAs.2 ⟨c,d⟩)
  rotate_left
  focus have b:=zW (zDe n=false) (by rw[Bool.eq_false_iff];intro e;exact d (zAs.1 e).2);have f:decide (n≤1099511627776)=false:=by simpa using d
  all_goals
   go_enter func112,ntmps112;go_wp2_with fail;go_ret;exact⟨by rw[b.o];rfl,rfl⟩
 ·have b:=zW (zDe n=false) (by rw[Bool.eq_false_iff];intro e;exact c (zAs.1 e).1);have f:decide (0≤n)=false:=by simpa using c
  go_enter func112,ntmps112
  go_wp2_with fail;go_ret;exact⟨by rw[b.o];rfl,rfl⟩
def zD7 (l:List Int)(k:Nat):Int:=if k=0 then -1 else(l[k-1]?).getD 0
theorem zGE {l:List Int}{k:Nat}(b:k<l.length):zD7 l (k+1)=l[k]:=by
 unfold zD7;rw[if_neg (by omega),Nat.add_sub_cancel,List.getElem?_eq_getElem b];rfl
theorem zEQ {w:World}{p:Option Addr}{n c:Nat}{l:List Int}(h:zBY w (.slice p n c) l)(X:l.length≤1099511627776) :
  Calls prog 73 #[.slice p n c] w fun e w'=>e=.returned (.bool (zAZ l))∧w'=w:=by
 have hn:l.length=n:=by obtain⟨_,_,e⟩:=h.slice;simp only[Value.slice.injEq]at e;exact e.2.1.symm
 rw[hn]at X;have H:=zh h;have t:=zh hn;clear h hn
 go_enter func73,ntmps73
 go_wp2_with fail
 go_loop [7] (fun i=>∃k:Nat,k≤n∧i=.int .i64 k∧zFe (-1) l=zFe (zD7 l k) (l.drop k)∧-1≤zD7 l k) (fun i=>n-(intOf i).toNat)
 case atStart=>exact⟨0,Nat.zero_le _,rfl,rfl,Int.le_refl _⟩
 case round =>
  obtain⟨k,hk,rfl,g,Y⟩:=hrel
  by_cases E:k<n
  ·have d:k<l.length:=by rw[t.o];exact E
   have v:=zW (¬(zD7 l k<l[k]∧l[k]<7)→zAZ l=false) (fun A=>by
    unfold zAZ;rw[g,List.drop_eq_getElem_cons d];unfold zFe;rw[decide_eq_false A];rfl)
   have J:=zW (zD7 l k<l[k]∧l[k]<7→zFe (-1) l=zFe (zD7 l (k+1)) (l.drop (k+1))) (fun A=>by
    rw[g,List.drop_eq_getElem_cons d,zGE d]
    show(decide _&&_)=_
    rw[decide_eq_true A,Bool.true_and])
   have L:=zh (zGE d);rcases H.o.at with r|⟨b,o,K,a,B⟩
   ·rw[r]at d;simp at d
   rw[t.o]at a;simp only[Value.slice.injEq]at a;obtain⟨rfl,-,rfl⟩:=a;have Q:=B k _ (List.getElem?_eq_getElem d);have y:=zW (k≠0→w.cell? ⟨b,o+(k-1),none⟩=some (.int .i64 (zD7 l k))) (fun r=>by
    have m:k-1<l.length:=by omega
    have:=B (k-1) _ (List.getElem?_eq_getElem m);rw[this];unfold zD7;rw[if_neg r,List.getElem?_eq_getElem m];rfl)
   have z:=zW (k=0→zD7 l k=-1) (fun r=>by rw[r];rfl);clear B g;generalize l[k]=x at *;generalize zD7 l k=q at *
   by_cases F:x<0
   ·have f:=zh (v.o (by omega));go_wp2_with fail;go_ret;exact⟨by rw[f.o];rfl,rfl⟩
   ·have T:decide (x<0)=false:=by simpa using F
    by_cases G:7≤x
    ·have f:=zh (v.o (by omega));go_wp2_with fail;go_ret;exact⟨by rw[f.o];rfl,rfl⟩
    ·have D:decide (7≤x)=false:=by simpa using G
     by_cases j:k=0
     ·have f:=zh (J.o (by rw[z.o j];omega));have U:decide ((0:Int)<(k:Int))=false:=by simp;omega
      have O:decide (0<k)=false:=by simp;omega
      clear j;go_wp2_with fail
      go_round
      case rel=>exact⟨k+1,by omega,by go_num,f.o,by rw[L.o];omega⟩
      case measure=>simp[intOf];omega
     ·have R:=y.o j;have m:(0:Int)<(k:Int):=by omega
      have P:0<k:=by omega
      have Z:IntKind.i64.wrap ((k:Int)-1)=((k-1:Nat):Int):=by rw[IntWalk.i64_in _ (by omega)];omega
      have W:k-1<n:=by omega
      by_cases I:x≤q
      ·have f:=zh (v.o (by omega));go_wp2_with fail;go_ret;exact⟨by rw[f.o];rfl,rfl⟩
      ·have f:=zh (J.o (by omega));have V:decide (x≤q)=false:=by simpa using I
       go_wp2_with fail
       go_round
       case rel=>exact⟨k+1,by omega,by go_num,f.o,by rw[L.o];omega⟩
       case measure=>simp[intOf];omega
  ·have s:l.drop k=[]:=List.drop_of_length_le (by rw[t.o];omega);have f:=zW (zAZ l=decide (1≤n∧n≤7)) (by
    unfold zAZ;rw[g,s,t.o];rfl)
   clear g s
   by_cases M:1≤n
   ·by_cases N:n≤7
    ·have C:decide ((1:Int)≤(n:Int))=true:=by simp;omega
     have D:decide ((n:Int)≤7)=true:=by simp;omega
     go_wp2_with fail;go_ret;exact⟨by rw[f.o,decide_eq_true (And.intro M N)];rfl,rfl⟩
    ·have C:decide ((1:Int)≤(n:Int))=true:=by simp;omega
     have S:decide ((n:Int)≤7)=false:=by simp;omega
     go_wp2_with fail;go_ret;exact⟨by rw[f.o,decide_eq_false (fun e=>N e.2)];rfl,rfl⟩
   ·have S:decide ((1:Int)≤(n:Int))=false:=by simp;omega
    go_wp2_with fail;go_ret;exact⟨by rw[f.o,decide_eq_false (fun e=>M e.1)];rfl,rfl⟩
structure zBT (w:World)(v:Value)(vs:List Value)(ls:List Bs):Prop where
 row:OwnR w 22 1 v ls.length vs
 has:∀(i:Nat) u b,vs[i]?=some u→ls[i]?=some b→zAi w 5 u b
 sep:∀u∈vs,∀k,u.ownBlock=some k→v.ownBlock≠some k
theorem zAv (w:World)(o:Obj):Below w.heap.size w (w.alloc o):=(Below.refl _ _).alloc (Nat.le_refl _) o
theorem zDG (w:World)(u:Value)(e:TypeId)(b:Nat×Nat):zAK (w.alloc (.cells #[u] e b)) 1 (.slice (some ⟨w.heap.size,0,none⟩) 1 1) 1 [u]:=by
 refine⟨rfl,some ⟨w.heap.size,0,none⟩,1,rfl,fun e=>(by cases e),fun a c i x d=>?_⟩;cases c;rw[add_zero];refine zAG (zAI w _) ?_;simpa using d
section
variable {w w0 w1:World} {v v' u:Value} {vs:List Value} {ls:List Bs} {b:Bs}
theorem zBT.len (h:zBT w v vs ls):vs.length=ls.length:=by have:=h.row.1;omega
theorem zBT.below (h:zBT w v vs ls)(d:Below w.heap.size w w1):zBT w1 v vs ls :=
 ⟨h.row.keep fun k c=>d.block k (OwnR.lt h.row c),fun i u b g f=>OwnR.keep (h.has i u b g f) fun k c=>d.block k (OwnR.lt (h.has i u b g f) c),h.sep⟩
theorem zBT.nil (w:World):zBT w (.slice none 0 0) [] []:=⟨OwnR.nil _ _ _,fun i u b c=>(by simp at c),fun u c=>(by simp at c)⟩
theorem mem_rows (h:zBT w v vs ls){u:Value}(f:u∈vs):∃b,zAi w 5 u b:=by
 obtain⟨i,c,rfl⟩:=List.getElem_of_mem f;have d:i<ls.length:=by rw[←h.len];exact c
 exact⟨ls[i],h.has i _ _ (List.getElem?_eq_getElem c) (List.getElem?_eq_getElem d)⟩
theorem zBT.push (h:zBT w0 v vs ls)(y:zAi w0 5 u b)(n:∀k,u.ownBlock=some k→v.ownBlock≠some k)(o:OwnR w1 22 1 v' (ls.length+1) (vs++[u]))(z:w0.grownBy w1 v.ownBlock)(m:v'.ownBlock=v.ownBlock∨∃g,v'.ownBlock=some g∧w0.heap.size≤g) :
  zBT w1 v' (vs++[u]) (ls++[b]):=by
 have t:=h.len;have f:∀x c,zAi w0 5 x c→(∀k,x.ownBlock=some k→v.ownBlock≠some k)→zAi w1 5 x c:=fun x c d s=>OwnR.keep d fun k f=>z.block k (OwnR.lt d f) fun e=>s k f e.symm;have p:∀x c,zAi w0 5 x c→(∀k,x.ownBlock=some k→v.ownBlock≠some k)→∀k,x.ownBlock=some k→v'.ownBlock≠some k:=fun x c d s k f e=>by
  rcases m with q|⟨g,q,a⟩
  ·exact s k f (q▸e)
  ·rw[e]at q;cases q;have:=OwnR.lt d f;omega
 refine⟨by rw[List.length_append];exact o,fun i x c d j=>?_,fun x d k l=>?_⟩
 ·by_cases A:i<vs.length
  ·rw[List.getElem?_append_left A]at d;rw[List.getElem?_append_left (by omega)]at j;exact f x c (h.has i x c d j) (h.sep x (List.mem_of_getElem? d))
  ·rw[List.getElem?_append_right (by omega)]at d;rw[List.getElem?_append_right (by omega)]at j;have r:i-vs.length=0:=by
    have:=(List.getElem?_eq_some_iff.1 d).1;simp at this;omega
   rw[r]at d;rw[show i-ls.length=0 by omega]at j;cases d;cases j;exact f u b y n
 ·rcases List.mem_append.1 d with d|d
  ·obtain⟨c,j⟩:=mem_rows h d;exact p x c j (h.sep x d) k l
  ·have:x=u:=by simpa using d
   subst this;exact p x b y n k l
end
def zEG (B:Nat)(v:Value)(vs:List Value):Prop:=(∀k,v.ownBlock=some k→B≤k)∧∀u∈vs,∀k,u.ownBlock=some k→B≤k
theorem zEG.push {B:Nat}{w0:World}{v v' u:Value}{vs:List Value}(h:zEG B v vs)(i:∀j,u.ownBlock=some j→B≤j)(d:v'.ownBlock=v.ownBlock∨∃g,v'.ownBlock=some g∧w0.heap.size≤g)(k:B≤w0.heap.size):zEG B v' (vs++[u]):=by
 refine⟨fun j c=>?_,fun x b j c=>?_⟩
 ·rcases d with e|⟨g,e,f⟩
  ·exact h.1 j (e▸c)
  ·rw[c]at e;cases e;omega
 ·rcases List.mem_append.1 b with b|b
  ·exact h.2 x b j c
  ·rw[List.mem_singleton]at b;exact i j (b▸c)
def Scanned (w:World)(b:Bs)(e:Ending)(w':World):Prop:=∃v vs,e=.returned (.tuple #[v,.int .i64 ((zD9 b).2:Int)])∧zBT w' v vs (zD9 b).1∧zEG w.heap.size v vs∧Below w.heap.size w w'
def ScanRel (w:World)(b:Bs)(n:Nat)(x y:Value)(wr:World):Prop:=∃(k:Nat) (v:Value) (vs:List Value) (ls:List Bs),k≤n∧y=.int .i64 k∧v=x∧ls.length≤k∧zBT wr v vs ls∧zEG w.heap.size v vs∧Below w.heap.size w wr∧(zD9 b).1=ls++(zD9 (b.drop k)).1∧(zD9 b).2=k+(zD9 (b.drop k)).2
theorem scan_calls {w:World}{p:Option Addr}{n c:Nat}{b:Bs}(h:zAb w (.slice p n c) b)(Z:n≤c)(hl:b.length≤1073741824) :
  Calls prog 154 #[.slice p n c] w (Scanned w b):=by
 obtain⟨i1,ad,-,ag,-⟩:=info_parts (show(prog.info? 5).map (fun i=>(i.zero,i.size,i.bytes))=some (some (.int .u8 0),1,1) by kernel_rfl);obtain⟨i0,hi,ah,ai,aj⟩:=info_parts (show(prog.info? 22).map (fun i=>(i.zero,i.size,i.bytes))=some (some (.slice none 0 0),1,24) by kernel_rfl);have hn:b.length=n:=by obtain⟨_,_,e⟩:=h.slice;simp only[Value.slice.injEq]at e;exact e.2.1.symm
 have ak:n≤1073741824:=by omega
 have H:=zh h;have Hn:=zh hn;have ab:=zh Z;clear h hn Z hl
 go_enter func154,ntmps154
 go_wp2_with fail
 go_loopw [4,5] (ScanRel w b n) (fun _ y _=>n-(intOf y).toNat)
 case atStart=>exact⟨0,_,[],[],Nat.zero_le _,rfl,rfl,Nat.zero_le _,zBT.nil _,⟨fun k hk=>(by cases hk),fun u hu=>(by simp at hu)⟩,Below.refl _ _,by simp,by simp⟩
 case round =>
  obtain⟨k,v,vs,ls,hk,rfl,rfl,al,A,a,X,f,l⟩:=hrel
  by_cases ae:k<n
  ·obtain⟨r0,af⟩:∃r0,(Value.slice p n c).ownBlock≠some r0:=by
    cases(Value.slice p n c).ownBlock with
    | none=>exact⟨0,by simp⟩
    | some g=>exact⟨g+1,by simp⟩
   obtain⟨p',c',an,hh,Y,-⟩:=run_tail (P:=prog) underlying22 ad ag (zAb.below H.o X) ab.o r0 k af (Nat.le_of_lt ae);have R:=zh (dec_calls hh Y (by rw[List.length_drop,Hn.o];omega));have r:=zh (And.intro A (And.intro a (And.intro X (And.intro f l))));have ac:(b.drop k).length=n-k:=by rw[List.length_drop,Hn.o]
   clear hh Y A a X f l
   by_cases D:decE (b.drop k)=0
   ·have hL:=zEI D;rw[ac]at hL;have J:=zh (scan_go D);rw[List.drop_drop]at J;unfold zEE at R;rw[D]at R;generalize decL (b.drop k)=L at *;generalize decB (b.drop k)=x at *;clear D;go_wp2_with fail;refine R.o.mono ?_;rintro e w2 ⟨v2,rfl,N,M,s⟩;have C:=r.o.1.below s;have V:=zh N;have T:=zW (∀j,v2.ownBlock=some j→v.ownBlock≠some j) (fun j F e=>by have h1:=M j F;have h2:=OwnR.lt r.o.1.row e;omega);have aa:=zW (∀j,v2.ownBlock=some j→w.heap.size≤j) fun j F=>Nat.le_trans r.o.2.2.1.size (M j F);have I:=zh s;have S:=zh C;obtain⟨Q,O,rfl,-⟩:=zAL N;clear N M s C;generalize hq:x.length=q at *;have Hq:=zh hq;generalize hm:ls.length=m at *;have Hm:=zh hm;clear hq hm;have B:=zh (show OwnR w2 22 1 v m vs by have:=S.o.row;rwa[Hm.o]at this);go_wp2_with (at_builtin;have W:=B.o.keep (w':=w2.alloc (.cells #[.slice Q q O] 22)) (fun j F=>(zAv w2 _).block j (OwnR.lt B.o F));have K:=zDG w2 (.slice Q q O) 22 (0,0);refine zAO _ rfl (.tmp 23) (.tmp 25) 108 rfl 22 i0 (.slice none 0 0) 1 24 underlying108 hi ah ai aj rfl (by decide) v m _ rfl W (.slice (some ⟨w2.heap.size,0,none⟩) 1 1) 1 _ rfl K (by simp[Value.oneCell']) (by unfold maxLen;omega) (by omega) ?_;clear W K;intro v3 w3 z d t;go_loud (have hE:=zBT.push (b:=x) (S.o.below (zAv w2 (.cells #[.slice Q q O] 22))) (OwnR.keep V.o fun j F=>(zAv w2 _).block j (OwnR.lt V.o F)) T.o (by rw[Hm.o];exact z) d t;have hN:=zEG.push (u:=.slice Q q O) r.o.2.1 aa.o t (by have h1:=r.o.2.2.1.size;have h2:=I.o.size;have h3:=(zAv w2 (.cells #[.slice Q q O] 22)).size;omega);have hB:Below w.heap.size w w3:=by {have h1:=r.o.2.2.1.trans ((I.o.trans ((zAv w2 (.cells #[.slice Q q O] 22)).mono I.o.size)).mono r.o.2.2.1.size);exact((Chg.of_below h1).trans (Chg.of_grown d) fun j F e=>by have h5:=r.o.2.1.1 j e.symm;omega).below (Nat.le_refl _) fun _ _=>id};have G:=zh (And.intro hE (And.intro hN hB));clear hE hN hB d t;obtain⟨p3,q3,rfl⟩:=OwnR.shape z;clear z))
    go_roundw
    case rel=>exact⟨k+L,_,_,ls++[x],by omega,by go_num,rfl,by rw[List.length_append,Hm.o];simp;omega,G.o.1,G.o.2.1,G.o.2.2,by rw[r.o.2.2.2.1,J.o];simp,by rw[r.o.2.2.2.2,J.o];simp;omega⟩
    case measure=>simp[intOf];omega
   ·have U:=zh (zBz (.inr D));have am:((decE (b.drop k):Int) != 0)=true:=by simp;omega
    unfold zEE at R;generalize decE (b.drop k)=E at *;generalize decL (b.drop k)=L at *;go_wp2_with fail;refine R.o.mono ?_;rintro e w2 ⟨v2,rfl,-,-,s⟩;have G:=zW (Scanned w b (.returned (.tuple #[v,.int .i64 (k:Int)])) w2) (⟨v,vs,by rw[r.o.2.2.2.2,U.o];rfl,by rw[r.o.2.2.2.1,U.o,List.append_nil];exact r.o.1.below s,r.o.2.1,r.o.2.2.1.trans (s.mono r.o.2.2.1.size)⟩);clear s;go_wp2_with fail
    go_ret2
    exact G.o
  ·have D:b.drop k=[]:=List.drop_of_length_le (by rw[Hn.o];omega);rw[D,zBz (.inl rfl)]at f l;have G:=zW (Scanned w b (.returned (.tuple #[v,.int .i64 (k:Int)])) wr) (⟨v,vs,by rw[l];rfl,by rw[f,List.append_nil];exact A,a,X⟩);clear A a X f l D;go_wp2_with fail
   go_ret2
   exact G.o
def zCf (e:Ent)(v:EV):Value:=.agg #[.int .i64 e.term,.int .i64 e.kind,v.1,v.2]
structure zBH (w:World)(e:Ent)(v:EV):Prop where
 data:zAb w v.1 e.data
 nodes:zBY w v.2 e.nodes
 dl:e.data.length≤1099511627776
 nl:e.nodes.length≤1099511627776
theorem zBH.below {w w':World}{e:Ent}{v:EV}(h:zBH w e v)(b:Below w.heap.size w w'):zBH w' e v:=⟨zAb.below h.data b,zAK.chg h.nodes (Chg.of_below b) fun _ _=>id,h.dl,h.nl⟩
theorem zDM.has {w:World}{e:Ent}{v:EV}(h:zDM w e v)(b:e.data.length≤1099511627776)(hn:e.nodes.length≤1099511627776):zBH w e v:=⟨zAi.has h.data,zCd.has h.nodes,b,hn⟩
theorem ent_zero {e:Ent}(b:e.kind=0):zA1 e=(zDe e.term&&decide (e.data.length=0∧e.nodes.length=0)):=by
 unfold zA1;rw[if_pos b];simp[List.length_eq_zero_iff]
theorem ent_one {e:Ent}(b:e.kind=1):zA1 e=(zDe e.term&&decide (1≤e.data.length∧e.data.length≤65536∧e.nodes.length=0)):=by
 unfold zA1;rw[if_neg (by omega),if_pos b];simp[List.length_eq_zero_iff]
theorem ent_two {e:Ent}(b:e.kind=2):zA1 e=(zDe e.term&&(decide (e.data.length=0)&&zAZ e.nodes)):=by
 unfold zA1;rw[if_neg (by omega),if_neg (by omega),if_pos b];simp[List.length_eq_zero_iff]
theorem ent_none {e:Ent}(b:e.kind≠0)(c:e.kind≠1)(d:e.kind≠2):zA1 e=false:=by
 unfold zA1;rw[if_neg b,if_neg c,if_neg d,Bool.and_false]
theorem isone_calls {w:World}{e:Ent}{v:EV}(h:zBH w e v) :
  Calls prog 99 #[zCf e v] w fun r w'=>r=.returned (.bool (zA1 e))∧Below w.heap.size w w':=by
 obtain⟨t,k,i,f⟩:=e;obtain⟨A,v2⟩:=v;have H:=zAD w (.cells #[.int .i64 t,.int .i64 k,A,v2] 50);have T:=zW (Calls prog 73 #[v2] (w.alloc (.cells #[.int .i64 t,.int .i64 k,A,v2] 50)) fun e w'=>e=.returned (.bool (zAZ f))∧w'=w.alloc (.cells #[.int .i64 t,.int .i64 k,A,v2] 50)) (by
  have hn:=(h.below H).nodes;obtain⟨p,c,X⟩:=hn.slice;have P:v2=.slice p f.length c:=X;subst P;exact zEQ hn h.nl)
 have g:=zh (zD0 (w.alloc (.cells #[.int .i64 t,.int .i64 k,A,v2] 50)) t);have j:=zh H;have N:=h.dl;have O:=h.nl;obtain⟨Y,U,R⟩:=h.data.slice;obtain⟨Z,V,S⟩:=h.nodes.slice;have F:A=.slice Y i.length U:=R;have G:v2=.slice Z f.length V:=S;subst F;subst G;clear R S h H;dsimp only at N O;have B:=zh (ent_zero (e:=⟨t,k,i,f⟩));have C:=zh (ent_one (e:=⟨t,k,i,f⟩));have D:=zh (ent_two (e:=⟨t,k,i,f⟩));have Q:=zh (ent_none (e:=⟨t,k,i,f⟩));have E:=zW (zDe t=false→zA1 ⟨t,k,i,f⟩=false) (fun h=>by unfold zA1;rw[h,Bool.false_and]);unfold zCf;dsimp only at B C D Q ⊢;generalize zA1 ⟨t,k,i,f⟩=K at *;cases z:zDe t with
 | false =>
  rw[z]at g;have d:=zh (E.o z)
  go_enter func99,ntmps99
  go_wp2_with fail;refine g.o.mono ?_;rintro e w' ⟨rfl,rfl⟩;go_wp2_with fail;go_ret;exact⟨by rw[d.o];rfl,j.o⟩
 | true =>
  rw[z]at g B C D
  by_cases l:k=0
  ·have d:=zh (B.o l);have I:(k==0)=true:=by simpa using l
   clear l z;generalize i.length=n at *;generalize f.length=m at *
   by_cases hn:n=0
   focus
    have s:((n:Int)==0)=true:=by simp;omega
    have b:decide (n=0∧m=0)=((m:Int)==0):=by rw[Bool.eq_iff_iff];simp;omega
   rotate_left
   focus
    have s:((n:Int)==0)=false:=by simp;omega
    have b:decide (n=0∧m=0)=false:=by simp;omega
   all_goals
    rw[b]at d;clear hn b;go_enter func99,ntmps99;go_wp2_with fail;refine g.o.mono ?_;rintro e w' ⟨rfl,rfl⟩;go_wp2_with fail;go_ret;exact⟨by rw[d.o];simp,j.o⟩
  ·have I:(k==0)=false:=by simpa using l
   by_cases q:k=1
   ·have d:=zh (C.o q);have J:(k==1)=true:=by simpa using q
    clear l z q;generalize i.length=n at *;generalize f.length=m at *
    by_cases hn:1≤n
    ·by_cases W:n≤65536
     focus
      have a:decide ((1:Int)≤(n:Int))=true:=by simp;omega
      have M:decide ((n:Int)≤65536)=true:=by simp;omega
      have b:decide (1≤n∧n≤65536∧m=0)=((m:Int)==0):=by rw[Bool.eq_iff_iff];simp;omega
     rotate_left
     focus
      have a:decide ((1:Int)≤(n:Int))=true:=by simp;omega
      have M:decide ((n:Int)≤65536)=false:=by simp;omega
      have b:decide (1≤n∧n≤65536∧m=0)=false:=by simp;omega
     all_goals
      rw[b]at d;clear b;go_enter func99,ntmps99;go_wp2_with fail;refine g.o.mono ?_;rintro e w' ⟨rfl,rfl⟩;go_wp2_with fail;go_ret;exact⟨by rw[d.o];simp,j.o⟩
    ·have a:decide ((1:Int)≤(n:Int))=false:=by simp;omega
     have b:decide (1≤n∧n≤65536∧m=0)=false:=by simp;omega
     rw[b]at d;clear b
     go_enter func99,ntmps99
     go_wp2_with fail;refine g.o.mono ?_;rintro e w' ⟨rfl,rfl⟩;go_wp2_with fail;go_ret;exact⟨by rw[d.o];simp,j.o⟩
   ·have J:(k==1)=false:=by simpa using q
    by_cases y:k=2
    ·have d:=zh (D.o y);have L:(k==2)=true:=by simpa using y
     clear l z q y;generalize i.length=n at *;generalize f.length=m at *
     by_cases hn:n=0
     ·have s:((n:Int)==0)=true:=by simp;omega
      have b:decide (n=0)=true:=by simpa using hn
      rw[b]at d;clear hn b
      go_enter func99,ntmps99
      go_wp2_with fail;refine g.o.mono ?_;rintro e w' ⟨rfl,rfl⟩;go_wp2_with fail;refine T.o.mono ?_;rintro e w' ⟨rfl,rfl⟩;go_wp2_with fail;go_ret;exact⟨by rw[d.o];simp,j.o⟩
     ·have s:((n:Int)==0)=false:=by simp;omega
      have b:decide (n=0)=false:=by simpa using hn
      rw[b]at d;clear hn b
      go_enter func99,ntmps99
      go_wp2_with fail;refine g.o.mono ?_;rintro e w' ⟨rfl,rfl⟩;go_wp2_with fail;go_ret;exact⟨by rw[d.o];simp,j.o⟩
    ·have L:(k==2)=false:=by simpa using y
     have d:=zh (Q.o l q y);clear l q y
     go_enter func99,ntmps99
     go_wp2_with fail;refine g.o.mono ?_;rintro e w' ⟨rfl,rfl⟩;go_wp2_with fail;go_ret;exact⟨by rw[d.o];rfl,j.o⟩
def EntNew (w:World)(e:Ent)(r:Ending)(w':World):Prop:=∃v:EV,r=.returned (zCf e v)∧zDM w' e v∧(∀k,(v.1.ownBlock=some k∨v.2.ownBlock=some k)→w.heap.size≤k)∧Below w.heap.size w w'
theorem own_calls {w:World}{e:Ent}{v:EV}(h:zBH w e v):Calls prog 102 #[zCf e v] w (EntNew w e):=by
 obtain⟨t,k,c,f⟩:=e;obtain⟨S,v2⟩:=v;have P:=zAD w (.cells #[.int .i64 t,.int .i64 k,S,v2] 50);have X:Below w.heap.size w ((w.alloc (.cells #[.int .i64 t,.int .i64 k,S,v2] 50)).alloc (.cells #[.int .i64 0,.int .i64 0,.slice none 0 0,.slice none 0 0] 50)):=P.alloc P.size _;have m:((w.alloc (.cells #[.int .i64 t,.int .i64 k,S,v2] 50)).alloc (.cells #[.int .i64 0,.int .i64 0,.slice none 0 0,.slice none 0 0] 50)).heap[w.heap.size]?=some (.cells #[.int .i64 t,.int .i64 k,S,v2] 50 (0,0)):=(zC8 _ _ (by simp)).trans (zAI w _);have G:((w.alloc (.cells #[.int .i64 t,.int .i64 k,S,v2] 50)).alloc (.cells #[.int .i64 0,.int .i64 0,.slice none 0 0,.slice none 0 0] 50)).heap[w.heap.size+1]?=some (.cells #[.int .i64 0,.int .i64 0,.slice none 0 0,.slice none 0 0] 50 (0,0)):=by
  have:=zAI (w.alloc (.cells #[.int .i64 t,.int .i64 k,S,v2] 50)) (.cells #[.int .i64 0,.int .i64 0,.slice none 0 0,.slice none 0 0] 50);simpa using this
 have H:=zh h;have Y:=h.dl;have ab:=h.nl;obtain⟨p1,c1,e1⟩:=h.data.slice;obtain⟨p2,c2,e2⟩:=h.nodes.slice;have ak:S=.slice p1 c.length c1:=e1;have al:v2=.slice p2 f.length c2:=e2;dsimp only at Y ab;subst ak;subst al;clear e1 e2 h P;unfold zCf;dsimp only
 go_enter func102,ntmps102
 go_wp2_with fail;generalize (w.alloc (.cells #[.int .i64 t,.int .i64 k,.slice p1 c.length c1,.slice p2 f.length c2] 50)).alloc (.cells #[.int .i64 0,.int .i64 0,.slice none 0 0,.slice none 0 0] 50)=W0 at *;generalize A:w.heap.size=b at *;have l2:=zAX m;have l3:=zAf m;have L:=zh (And.intro m (And.intro G X));clear m G X;refine zDV [7,9] (fun w':World=>w'.heap[b]?=some (.cells #[.int .i64 t,.int .i64 k,.slice p1 c.length c1,.slice p2 f.length c2] 50 (0,0))) (n:=10) (by kernel_rfl) rfl (L.o.1) fun d=>?_;clear l2 l3;refine gtk 0 (v:=?v1x0) rfl ?_;simp only[uZ];refine zEw 1 (v:=.slice p1 c.length c1) rfl (by kernel_rfl) (by kernel_rfl) (by kernel_rfl) (by kernel_rfl) (fun _ _ _ h=>h) (by rfl) (by assumption) (fun W O=>by have l2:=zAX O;go_simp;try with_reducible rfl) ?_;simp only[uZ];refine gtk 3 (v:=?v1x3) rfl ?_;simp only[uZ];refine zEw 4 (v:=.slice p2 f.length c2) rfl (by kernel_rfl) (by kernel_rfl) (by kernel_rfl) (by kernel_rfl) (fun _ _ _ h=>h) (by rfl) (by assumption) (fun W O=>by have l3:=zAf O;go_simp;try with_reducible rfl) ?_;simp only[uZ];refine zEM 2 rfl (by kernel_rfl) (by rfl) (fun K y=>?_);have af:=zh (zBv (zAb.below (H.o.below (A▸L.o.2.2)).data (zAP W0)) (Nat.le_trans Y (by decide)));go_wp2_with fail;refine af.o.mono ?_;rintro r w3 ⟨v5,rfl,Q,Z,D⟩;have I:=zW (Below b w w3) (L.o.2.2.trans ((zAP W0).trans D |>.mono (A▸L.o.2.2.size)));have M:=zh ((D.block b (Array.getElem?_eq_some_iff.1 d).1).trans d);have J:=zW (w3.heap[b+1]?=_) ((D.block (b+1) (Array.getElem?_eq_some_iff.1 L.o.2.1).1).trans L.o.2.1);have U:=zh (And.intro Q (show ∀k,v5.ownBlock=some k→b+2≤k from fun k hk=>Nat.le_trans (by have:=(Array.getElem?_eq_some_iff.1 L.o.2.1).1;show b+2≤W0.heap.size;omega) (Z k hk)));obtain⟨pv,cv,rfl,-⟩:=zAL Q;clear Q Z D;go_wp2_with fail;refine y.o _ _ (M.o) fun d=>?_;clear y
 try simp only[uZ]
 refine gpu 6 (v:=?v1x6) rfl ?_;simp only[uZ];refine zEM 5 rfl (by kernel_rfl) (by rfl) (fun K y=>?_);have ag:=zh (zDy (H.o.below (A▸I.o)).nodes ab);go_wp2_with fail;refine ag.o.mono ?_;rintro r E ⟨v8,rfl,R,aa,g⟩;have ac:=zW (Below b w E) (I.o.trans (g.mono (A▸I.o.size)));have C:=zh ((g.block b (Array.getElem?_eq_some_iff.1 M.o).1).trans M.o);have ad:=zh ((g.block (b+1) (Array.getElem?_eq_some_iff.1 J.o).1).trans J.o);have p:=zh (And.intro (zCD U.o.1 g) (And.intro R (show ∀k,v8.ownBlock=some k→b+2≤k from fun k hk=>Nat.le_trans (by have:=(Array.getElem?_eq_some_iff.1 J.o).1;omega) (aa k hk))));have F:=zh U.o.2;obtain⟨s,q,rfl,-⟩:=zAw R;clear R aa g;go_wp2_with fail;refine y.o _ _ (C.o) fun d=>?_;clear y
 try simp only[uZ]
 refine g_end 7 rfl (by kernel_rfl) (by rfl) (by kernel_rfl) (fun K y=>?_);have ai:=zAX C.o;have am:=zAE C.o 2;have N:=zh (zAC C.o 2 (.slice pv c.length cv));go_wp2_with fail;refine y.o _ _ ?_;clear y
 try simp only[uZ]
 refine g_pure 8 (v:=?v1x8) rfl (by kernel_rfl) (by kernel_rfl) (by kernel_rfl) (by kernel_rfl) (fun _ _ _ h=>h) (by rfl) ?y1x8 ?_
 case y1x8=>(intro w;go_simp;try with_reducible rfl)
 simp only[uZ];refine g_end 9 rfl (by kernel_rfl) (by rfl) (by kernel_rfl) (fun K y=>?_);have aj:=zAf N.o;have an:=zAE N.o 3;have ah:=zh (zAC N.o 3 (.slice s f.length q));go_wp2_with fail;refine y.o _ _ ?_;clear y
 try simp only[uZ]
 refine zEv (by kernel_rfl) ?_ _;have a:((E.setCell ⟨b,2,none⟩ (.slice pv c.length cv)).setCell ⟨b,3,none⟩ (.slice s f.length q)).heap[b]?=some (.cells #[.int .i64 t,.int .i64 k,.slice pv c.length cv,.slice s f.length q] 50 (0,0)):=by simpa using ah.o
 have l:((E.setCell ⟨b,2,none⟩ (.slice pv c.length cv)).setCell ⟨b,3,none⟩ (.slice s f.length q)).heap[b+1]?=some (.cells #[.int .i64 0,.int .i64 0,.slice none 0 0,.slice none 0 0] 50 (0,0)):=(set_other _ (by show b+1≠b;omega)).trans ((set_other _ (by show b+1≠b;omega)).trans ad.o);have HF:=zW (Chg (fun j=>j=b) E ((E.setCell ⟨b,2,none⟩ (.slice pv c.length cv)).setCell ⟨b,3,none⟩ (.slice s f.length q))) ((Chg.setCell E ⟨b,2,none⟩ _).trans (Chg.setCell _ ⟨b,3,none⟩ _) fun _ _ e=>e);clear ai am aj an;generalize (E.setCell ⟨b,2,none⟩ (.slice pv c.length cv)).setCell ⟨b,3,none⟩ (.slice s f.length q)=V at *;have d0:=zAU a;have d1:=zAY a;have d2:=zAX a;have d3:=zAf a;have e0:=zAU l;have e1:=zAY l;have e2:=zAX l;have e3:=zAf l;have fr:=zAE l;have ae:=zh l;clear a l;go_wp2_with fail;have B:((((V.setCell ⟨b+1,0,none⟩ (.int .i64 t)).setCell ⟨b+1,1,none⟩ (.int .i64 k)).setCell ⟨b+1,2,none⟩ (.slice pv c.length cv)).setCell ⟨b+1,3,none⟩ (.slice s f.length q)).heap[b+1]?=some (.cells #[.int .i64 t,.int .i64 k,.slice pv c.length cv,.slice s f.length q] 50 (0,0)):=by
  have h1:=zAC ae.o 0 (.int .i64 t);have h2:=zAC h1 1 (.int .i64 k);have h3:=zAC h2 2 (.slice pv c.length cv);have h4:=zAC h3 3 (.slice s f.length q);simpa using h4
 have HG:=zW (Chg (fun j=>j=b+1) V ((((V.setCell ⟨b+1,0,none⟩ (.int .i64 t)).setCell ⟨b+1,1,none⟩ (.int .i64 k)).setCell ⟨b+1,2,none⟩ (.slice pv c.length cv)).setCell ⟨b+1,3,none⟩ (.slice s f.length q))) ((((Chg.setCell V ⟨b+1,0,none⟩ _).trans (Chg.setCell _ ⟨b+1,1,none⟩ _) fun _ _ e=>e).trans (Chg.setCell _ ⟨b+1,2,none⟩ _) fun _ _ e=>e).trans (Chg.setCell _ ⟨b+1,3,none⟩ _) fun _ _ e=>e);clear d0 d1 d2 d3 e0 e1 e2 e3 fr;generalize (((V.setCell ⟨b+1,0,none⟩ (.int .i64 t)).setCell ⟨b+1,1,none⟩ (.int .i64 k)).setCell ⟨b+1,2,none⟩ (.slice pv c.length cv)).setCell ⟨b+1,3,none⟩ (.slice s f.length q)=W6 at *;have z0:=zAU B;have z1:=zAY B;have z2:=zAX B;have z3:=zAf B;have HE:=zW (EntNew w ⟨t,k,c,f⟩ (.returned (zCf ⟨t,k,c,f⟩ (.slice pv c.length cv,.slice s f.length q))) W6) (by
  have hC:Chg (fun j=>j=b∨j=b+1) E W6:=(HF.o.mono fun _ _ e=>.inl e).trans (HG.o.mono (T:=fun j=>j=b∨j=b+1) fun _ _ e=>.inr e) fun _ _ e=>e;refine⟨(.slice pv c.length cv,.slice s f.length q),rfl,⟨OwnR.keep p.o.1 fun j z=>hC.block j (OwnR.lt p.o.1 z) fun e=>?_,OwnR.keep p.o.2.1 fun j z=>hC.block j (OwnR.lt p.o.2.1 z) fun e=>?_⟩,fun j z=>?_,?_⟩
  ·have:=F.o j z;omega
  ·have:=p.o.2.2 j z;omega
  ·rcases z with z|z
   ·have:=F.o j z;omega
   ·have:=p.o.2.2 j z;omega
  ·have g:Below w.heap.size w E:=by rw[A];exact ac.o
   exact((Chg.of_below g).trans hC fun i hi e=>by omega:Chg (fun _=>False) w W6).below (Nat.le_refl _) fun _ _ e=>e)
 (try simp only[Exit.inBlock,Exit.then])
 refine bodyPost_ret (results_cell_row rfl _ W6 (b+1) _ _ (0,0) _ rfl B underlying50 rfl (by kernel_rfl)) rfl ?_;exact HE.o
end Go.Proofs.YtapfnehdgailmaaGreat
