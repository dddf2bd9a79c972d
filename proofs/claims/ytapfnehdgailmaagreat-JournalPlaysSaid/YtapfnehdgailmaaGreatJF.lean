/- What the program's functions and the document's do, and plain laws, for PJournalPlays. -/
import Derived.Test.YtapfnehdgailmaaGreatJA
import Derived.Test.YtapfnehdgailmaaGreatJD
import Derived.Test.YtapfnehdgailmaaGreatJE
import Derived.Test.YtapfnehdgailmaaGreatJShelf
open Go.Proofs.Tryz
set_option maxRecDepth 100000
set_option maxHeartbeats 64000000
namespace Go.Sat
namespace Rd
def ints:Nat→Rd→List Int×Rd
 | 0,R=>([],R)
 | k+1,R=>((R.num.1:Int)::(ints k R.num.2).1,(ints k R.num.2).2)
def grp (may:List Int→Bool)(R:Rd):List Int×Rd :=
 if 7<R.num.1 then([],fail)else((ints R.num.1 R.num.2).1,if may (ints R.num.1 R.num.2).1 then(ints R.num.1 R.num.2).2 else fail)
end Rd
def anyG (_:List Int):Bool:=true
end Go.Sat
namespace Go.Proofs.YtapfnehdgailmaaGreat
open Go.RowKit Go.Sat Go.Maps
structure Ent where
 term:Int
 kind:Int
 data:Bs
 nodes:List Int
structure zAJ where
 number:Nat
 term:Int
 group:List Int
 now:Int
 vote:Int
 data:Bs
 entries:List Ent
 dead:Bool
def zFe (b:Int):List Int→Bool
 | []=>true
 | n::r=>decide (b<n∧n<7)&&zFe n r
def zAZ (l:List Int):Bool:=zFe (-1) l&&decide (1≤l.length∧l.length≤7)
def zDe (n:Int):Bool:=decide (0≤n∧n≤1099511627776)
def zA1 (e:Ent):Bool :=
 zDe e.term&&(if e.kind=0 then decide (e.data=[]∧e.nodes=[])else if e.kind=1 then decide (1≤e.data.length∧e.data.length≤65536∧e.nodes=[])
  else if e.kind=2 then decide (e.data=[])&&zAZ e.nodes else false)
def snpX:Bs:=[45,115,110,97,112]
def zBt (p:Bs):Bs:=p++snpX
/-! ### Records -/
def zDp (l:List Int):Bs:=zD5 l.length++zAp l
def zFJ (n:Nat)(t:Int)(g:List Int):Bs:=1::(zD5 n++zDf t++zDp g)
def zCU (t v:Int):Bs:=2::(zDf t++zDf (v+1))
def zEp (n:Nat)(e:Ent):Bs:=3::(zD5 n++zDf e.term++zDf e.kind++zE3 e.data++zDp e.nodes)
def cutB (n:Nat):Bs:=4::zD5 n
def zEd (n:Nat)(t:Int)(g:List Int)(b:Bs):Bs:=zD5 n++zDf t++zDp g++zE3 b
def zA7:Nat→List Ent→List Bs
 | _,[]=>[]
 | n,e::r=>zEp (n+1) e::zA7 (n+1) r
namespace zAJ
def none0 (g:List Int):zAJ:=⟨0,0,g,0,-1,[],[],false⟩
def last (M:zAJ):Nat:=M.number+M.entries.length
def die (M:zAJ):zAJ:={M with dead:=true}
def termAt (M:zAJ)(i:Int):Option Int :=
 if i=(M.number:Int)then some M.term else if i<(M.number:Int)then none else(M.entries[(i-M.number-1).toNat]?).map Ent.term
def lastT (M:zAJ):Int:=match M.entries.getLast? with
 | some e=>e.term
 | none=>M.term
def mayVote (M:zAJ)(t v:Int):Bool:=decide (M.now≤t∧t≤1099511627776∧-1≤v∧v<7)&& !decide (t=M.now∧M.vote≠-1∧v≠M.vote)
def grpIn (M:zAJ):Nat→List Int×Nat
 | 0=>(M.group,M.number)
 | k+1=>match M.entries[k]? with
  | some e=>if e.kind=2 then(e.nodes,M.number+k+1)else grpIn M k
  | none=>grpIn M k
def rows (M:zAJ):List Bs:=zFJ M.number M.term M.group::zCU M.now M.vote::zA7 M.number M.entries
end zAJ
def zBs (first:Bool)(M:zAJ)(p:Bs):Option zAJ:=match p with
 | []=>none
 | k::r =>
  if first≠decide (k=1)then none
  else if k=1 then
   (if(Rd.num ⟨r,false⟩).2.num.2.grp zAZ |>.2.whole then
    if(Rd.num ⟨r,false⟩).1≤1099511627776∧(Rd.num ⟨r,false⟩).2.num.1≤1099511627776 then
     some {M with number:=(Rd.num ⟨r,false⟩).1,term:=((Rd.num ⟨r,false⟩).2.num.1:Int),group:=((Rd.num ⟨r,false⟩).2.num.2.grp zAZ).1}else none
   else none)
  else if k=2 then
   (if(Rd.num ⟨r,false⟩).2.num.2.whole&&M.mayVote ((Rd.num ⟨r,false⟩).1:Int) (((Rd.num ⟨r,false⟩).2.num.1:Int)-1)then
    some {M with now:=((Rd.num ⟨r,false⟩).1:Int),vote:=(((Rd.num ⟨r,false⟩).2.num.1:Int)-1) }else none)
  else if k=3 then
   (let R1:=Rd.num ⟨r,false⟩
    let R2:=R1.2.num
    let R3:=R2.2.num
    let R4:=R3.2.bytes
    let R5:=R4.2.grp anyG
    let e:Ent:=⟨R2.1,R3.1,R4.1,R5.1⟩
    if R5.2.whole∧R1.1=M.last+1∧R1.1≤1099511627776∧zA1 e then some {M with entries:=M.entries++[e] }else none)
  else if k=4 then
   (if(Rd.num ⟨r,false⟩).2.whole∧M.number<(Rd.num ⟨r,false⟩).1∧(Rd.num ⟨r,false⟩).1≤M.last+1 then some {M with entries:=M.entries.take ((Rd.num ⟨r,false⟩).1-M.number-1) }else none)
  else none
def zCT (M:zAJ):List Bs→Option zAJ
 | []=>some M
 | p::r=>(zBs false M p).bind fun M'=>zCT M' r
def zCa (M:zAJ):List Bs→Option zAJ
 | []=>none
 | p::r=>(zBs true M p).bind fun M'=>zCT M' r
structure zDP where
 number:Nat
 term:Int
 group:List Int
 data:Bs
def zC9 (b:Bs):Option zDP :=
 let R1:=Rd.num ⟨b,false⟩
 let R2:=R1.2.num
 let R3:=R2.2.grp zAZ
 let R4:=R3.2.bytes
 if R4.2.whole∧1≤R1.1∧R1.1≤1099511627776∧R2.1≤1099511627776∧R4.1.length≤524288 then some ⟨R1.1,R2.1,R3.1,R4.1⟩else none
def zC5 (o:Option zAW):Nat×Option zDP :=
 if loadE o=7 then(0,none)else if loadE o≠0 then(loadE o,none)else match zC9 (zDq o)with
  | none=>(3,none)
  | some s=>(0,some s)
def zAJ.rebase (M:zAJ)(s:zDP):zAJ :=
 {M with number:=s.number,term:=s.term,group:=s.group,data:=s.data,entries:=if M.number<s.number∧M.termAt s.number=some s.term then M.entries.drop (s.number-M.number)else [] }
def zAT (D:zAA)(pre:Bs)(M:zAJ):zAA×Nat:=D.save1 (zAu pre) (zAS M.rows)
def zBP (D:zAA)(pre:Bs)(M:zAJ):zAA×Nat×Bool×zAJ:=match get (zAu pre) D.files with
 | none=>(D,0,true,M)
 | some f=>match zCa M (zD9 f.data).1 with
  | none=>(D,3,false,M)
  | some M'=>((tornOff D (zAu pre) (zD9 f.data).2 f.data.length).1,(tornOff D (zAu pre) (zD9 f.data).2 f.data.length).2,false,M')
def zAo (s:Option zDP)(M:zAJ)(b:Bool):Option (Bool×zAJ):=match s with
 | none=>if 0<M.number then none else some (b,M)
 | some s=>if M.number<s.number then some (true,M.rebase s)else if s.number<M.number then none else some (b,{M with data:=s.data})
def zAV (D:zAA)(pre:Bs)(nodes:List Int):zAA×Nat×zAJ :=
 if pre.length<1∨20<pre.length∨zAZ nodes=false then(D,1,zAJ.none0 nodes)else
 let r0:=D.rid [zAF (zAu pre),zAF (zBt pre)]
 if r0.2≠0 then(r0.1,r0.2,zAJ.none0 nodes)else
 let s:=zC5 (get (zBt pre) r0.1.files)
 if s.1≠0 then(r0.1,s.1,zAJ.none0 nodes)else
 let l:=zBP r0.1 pre (zAJ.none0 nodes)
 if l.2.1≠0 then(l.1,l.2.1,zAJ.none0 nodes)else
 match zAo s.2 l.2.2.2 l.2.2.1 with
 | none=>(l.1,3,zAJ.none0 nodes)
 | some (anew,M)=>if anew then((zAT l.1 pre M).1,(zAT l.1 pre M).2,M)else(l.1,0,M)
structure zDu where
 disk:zAA
 jou:zAJ
 err:Nat
def zB7 (pre:Bs)(D:zAA)(M:zAJ)(rows:List Bs)(M':zAJ):zDu :=
 if(layOn D (zAu pre) (zAS rows)).2≠0 then⟨(layOn D (zAu pre) (zAS rows)).1,M.die,(layOn D (zAu pre) (zAS rows)).2⟩else⟨(layOn D (zAu pre) (zAS rows)).1,M',0⟩
def zBI (pre:Bs)(D:zAA)(M:zAJ)(t v:Int):zDu :=
 if M.dead then⟨D,M,9⟩else if M.mayVote t v=false then⟨D,M,1⟩else if t=M.now∧v=M.vote then⟨D,M,0⟩
 else zB7 pre D M [zCU t v] {M with now:=t,vote:=v}
def zAn (pre:Bs)(D:zAA)(M:zAJ)(l:List Ent):zDu :=
 if M.dead then⟨D,M,9⟩else if 1099511627776<M.last+l.length∨l.all zA1=false then⟨D,M,1⟩else if l=[]then⟨D,M,0⟩
 else zB7 pre D M (zA7 M.last l) {M with entries:=M.entries++l}
def zBp (pre:Bs)(D:zAA)(M:zAJ)(i:Int):zDu :=
 if M.dead then⟨D,M,9⟩else if i≤(M.number:Int)then⟨D,M,1⟩else if(M.last:Int)<i then⟨D,M,0⟩
 else zB7 pre D M [cutB i.toNat] {M with entries:=M.entries.take (i.toNat-M.number-1) }
def zA8 (pre:Bs)(D:zAA)(M:zAJ)(s:zDP):zDu :=
 if(D.save (zBt pre) (zEd s.number s.term s.group s.data)).2≠0 then⟨(D.save (zBt pre) (zEd s.number s.term s.group s.data)).1,M.die,(D.save (zBt pre) (zEd s.number s.term s.group s.data)).2⟩
 else if(zAT (D.save (zBt pre) (zEd s.number s.term s.group s.data)).1 pre (M.rebase s)).2≠0 then⟨(zAT (D.save (zBt pre) (zEd s.number s.term s.group s.data)).1 pre (M.rebase s)).1,(M.rebase s).die,(zAT (D.save (zBt pre) (zEd s.number s.term s.group s.data)).1 pre (M.rebase s)).2⟩
 else⟨(zAT (D.save (zBt pre) (zEd s.number s.term s.group s.data)).1 pre (M.rebase s)).1,M.rebase s,0⟩
def zAe (pre:Bs)(D:zAA)(M:zAJ)(i:Int)(b:Bs):zDu :=
 if M.dead then⟨D,M,9⟩else if i≤(M.number:Int)∨(M.last:Int)<i∨524288<b.length then⟨D,M,1⟩
 else zA8 pre D M ⟨i.toNat,(M.termAt i).getD 0,(M.grpIn (i.toNat-M.number)).1,b⟩
def zAg (pre:Bs)(D:zAA)(M:zAJ)(i t:Int)(g:List Int)(b:Bs):zDu :=
 if M.dead then⟨D,M,9⟩else if i≤(M.number:Int)∨1099511627776<i∨zDe t=false∨zAZ g=false∨524288<b.length then⟨D,M,1⟩
 else zA8 pre D M ⟨i.toNat,t,g,b⟩
end Go.Proofs.YtapfnehdgailmaaGreat
namespace Go.Proofs.YtapfnehdgailmaaGreat
open Go.RowKit Go.Sat Go.Maps
def zAz (N:Bs→Prop)(K R:Nat)(D:zAA):Prop:=D.room=R∧∀q∈D.files,N q.1→q.2.data.length≤K
section
variable {N:Bs→Prop} {K R:Nat} {D:zAA}
theorem zAz.get (h:zAz N K R D){n:Bs}{f:zAW}(b:Sat.get n D.files=some f)(hn:N n):f.data.length≤K:=h.2 _ (zBn b) hn
theorem zAz.put (h:zAz N K R D){n:Bs}{f:zAW}(b:N n→f.data.length≤K):∀q∈Sat.put n f D.files,N q.1→q.2.data.length≤K:=fun q c hn=>by
 rcases zBe.1 c with e|⟨e,-⟩
 ·subst e;exact b hn
 ·exact h.2 q e hn
theorem zAz.append (h:zAz N K R D){n b:Bs}(hn:N n→(D.cur n).data.length+b.length≤K):zAz N K R (D.append n b).1:=by
 unfold zAA.append
 split
 ·exact h
 ·split
  ·exact h
  ·exact⟨h.1,h.put fun e=>by
    have:=hn e;simp only[List.length_append];exact this⟩
theorem small_each {g:Bs→zAW→List (Bs×zAW)→List (Bs×zAW)}(c:∀(D:zAA) n f,zAz N K R D→Sat.get n D.files=some f→∀q∈g n f D.files,N q.1→q.2.data.length≤K):∀(l:List Bs) (D:zAA),zAz N K R D→zAz N K R (zAA.each g D l).1
 | [],_,h=>h
 | n::r,D,h=>by
  have b:zAz N K R (zAA.each1 g D n).1:=by
   unfold zAA.each1
   split
   ·exact h
   ·split
    ·exact h
    ·next f hf=>exact⟨h.1,c D n f h hf⟩
  unfold zAA.each
  split
  ·exact small_each c r _ b
  ·exact b
theorem zAz.sync (h:zAz N K R D)(l:List Bs):zAz N K R (D.sync l).1 :=
 small_each (fun D n f h b=>h.put (f:=⟨f.data,f.data.length⟩) fun e=>(h.get b e:f.data.length≤K)) l D h
theorem zAz.remove (h:zAz N K R D)(l:List Bs):zAz N K R (D.remove l).1 :=
 small_each (fun D n f h _ q b=>h.2 q (zBM.1 b).1) l D h
theorem zAz.truncate (h:zAz N K R D)(n:Bs)(k:Int):zAz N K R (D.truncate n k).1:=by
 unfold zAA.truncate
 split
 ·exact h
 ·split
  ·exact h
  ·next f hf =>
   split
   ·exact h
   ·exact⟨h.1,h.put fun e=>by
     have b:=h.get hf e;simp only[List.length_take];omega⟩
theorem zAz.rename (h:zAz N K R D){o n:Bs}(hn:N n→N o):zAz N K R (D.rename o n).1:=by
 unfold zAA.rename
 split
 ·exact h
 ·split
  ·exact h
  ·next f hf =>
   have b:zAz N K R {D with files:=del o D.files}:=⟨h.1,fun q c=>h.2 q (zBM.1 c).1⟩;exact⟨h.1,b.put fun e=>h.get hf (hn e)⟩
theorem zAz.crash (h:zAz N K R D)(k:Int):zAz N K R (D.crash k):=⟨h.1,fun q b hn=>by
 unfold zAA.crash mp at b;obtain⟨y,c,rfl⟩:=List.mem_map.1 b;have d:=h.2 y c hn;simp only[zAA.crashF,List.length_take];omega⟩
theorem zAz.setFuse (h:zAz N K R D)(k:Int):zAz N K R (D.setFuse k):=h
theorem zAz.rid1 (h:zAz N K R D)(n:Bs):zAz N K R (D.rid1 n).1:=by
 unfold zAA.rid1
 split
 ·exact h.remove _
 ·exact h
theorem zAz.rid (h:zAz N K R D):∀l:List Bs,zAz N K R (D.rid l).1:=fun l=>by
 induction l generalizing D with
 | nil=>exact h
 | cons n r ih =>
  unfold zAA.rid
  split
  ·exact ih (h.rid1 n)
  ·exact h.rid1 n
theorem zAz.tornOff (h:zAz N K R D)(n:Bs)(k b:Nat):zAz N K R (tornOff D n k b).1:=by
 unfold Go.Proofs.YtapfnehdgailmaaGreat.tornOff
 split
 ·split
  ·exact h.truncate _ _
  ·exact(h.truncate _ _).sync _
 ·exact h
theorem zAz.layOn (h:zAz N K R D){n:Bs}(hn:¬N n)(b:Bs):zAz N K R (layOn D n b).1:=by
 unfold Go.Proofs.YtapfnehdgailmaaGreat.layOn;have c:=h.append (n:=n) (b:=b) fun e=>absurd e hn
 split
 ·exact c
 ·exact c.sync _
theorem save0_none {n:Bs}(h:(D.save0 n).2=0):Sat.get (zAF n) (D.save0 n).1.files=none:=by
 unfold zAA.save0 at h ⊢
 split
 ·next c =>
  rw[if_pos c]at h;unfold zAA.remove zAA.each at h ⊢;have b:(zAA.each1 zAA.gRemove D (zAF n)).2=0:=by
   split at h
   ·next e=>exact e
   ·exact h
  rw[if_pos b];unfold zAA.each;unfold zAA.each1 at b ⊢
  split
  ·next e =>
   rw[if_pos e]at b;exact absurd b e
  ·next e =>
   rw[if_neg e]at b
   split
   ·next e2 =>
    rw[e2]at c;cases c
   ·next f hf=>exact zDi _ _
 ·next c=>simpa using c
theorem zAz.save1 (h:zAz N K R D){n b:Bs}(hn:N n→N (zAF n))(f:N (zAF n)→b.length≤K):zAz N K R (D.save1 n b).1:=by
 unfold zAA.save1;have d:zAz N K R (D.save0 n).1:=by
  unfold zAA.save0
  split
  ·exact h.remove _
  ·exact h
 dsimp only
 split
 ·exact d
 ·next e =>
  have g:(D.save0 n).2=0:=by simpa using e
  have c:zAz N K R ((D.save0 n).1.append (zAF n) b).1:=d.append fun e=>by
   have:=f e;unfold zAA.cur;rw[save0_none g];simpa using this
  split
  ·exact c
  ·split
   ·exact c.sync _
   ·exact(c.sync _).rename hn
theorem zAz.save (h:zAz N K R D){n l:Bs}(hn:N n→N (zAF n))(b:N (zAF n)→(zAM l).length≤K):zAz N K R (D.save n l).1:=by
 unfold zAA.save
 split
 ·exact h
 ·exact h.save1 hn b
end
structure RdIn (w:World)(r:Nat)(R:Rd)(p:Option Addr)(n c:Nat):Prop where
 cells:w.heap[r]?=some (.cells #[.slice p n c,.bool R.bad] 232 (0,0))
 has:zAb w (.slice p n c) R.rest
 cap:n≤c
 ne:(Value.slice p n c).ownBlock≠some r
 len:R.rest.length≤140737488355328
def RdAt (w:World)(r:Nat)(R:Rd):Prop:=∃p n c,RdIn w r R p n c
section
variable {w:World} {r:Nat} {R:Rd} {p:Option Addr} {n c:Nat}
theorem RdIn.c0 (h:RdIn w r R p n c):w.cell? ⟨r,0,none⟩=some (.slice p n c):=zAG h.cells rfl
theorem RdIn.c1 (h:RdIn w r R p n c):w.cell? ⟨r,1,none⟩=some (.bool R.bad):=zAG h.cells rfl
theorem RdIn.n_eq (h:RdIn w r R p n c):R.rest.length=n:=by obtain⟨_,_,e⟩:=h.has.slice;simp only[Value.slice.injEq]at e;exact e.2.1.symm
theorem RdIn.rlt (h:RdIn w r R p n c):r<w.heap.size:=(Array.getElem?_eq_some_iff.1 h.cells).1
theorem rd_set (h:RdIn w r R p n c)(b d:Value):((w.setCell ⟨r,0,none⟩ b).setCell ⟨r,1,none⟩ d).heap[r]?=some (.cells #[b,d] 232 (0,0)):=by
 have f:=zAC h.cells 0 b;have g:=zAC f 1 d;simpa using g
theorem rd_set0 (h:RdIn w r R p n c)(b:Value):(w.setCell ⟨r,0,none⟩ b).heap[r]?=some (.cells #[b,.bool R.bad] 232 (0,0)):=by
 have d:=zAC h.cells 0 b;simpa using d
theorem zAb.empty (w:World)(a:Option Addr)(c:Nat):zAb w (.slice a 0 c) []:=⟨rfl,a,c,rfl,fun _=>rfl,fun d _ i u b=>(by simp[zAR]at b)⟩
theorem run_tail0 {P:Program}(w:World){t e:TypeId}{i:TypeInfo}(l:P.underlying t=some (.slice e))(j:P.info? e=some i)(d:i.size=1)(p:Option Addr)(b c k:Nat)(h:k≤b)(f:b≤c) :
  (Instr.slice t (.slice p b c) (some (.int .i64 (k:Int))) none none).run P w=.ok (.slice (if c=k then p else p.map fun x=>x.add k) (b-k) (c-k)) w:=by
 have g:(Instr.sliceBound (.int .i64 (k:Int)) b .sliceB).run P w=.ok k w:=by
  rw[run_sliceBound _ _ _ _ _ (by omega) (by omega)];simp
 simp[Instr.slice,run_underlying l,Instr.sliceBounds,g,sizeOf,typeInfo,j,Result.andThen,d]
theorem run_tail {P:Program}{w:World}{t e:TypeId}{i:TypeInfo}(A:P.underlying t=some (.slice e))(y:P.info? e=some i)(j:i.size=1){p:Option Addr}{n c:Nat}{l:Bs}(h:zAb w (.slice p n c) l)(f:n≤c)(r k:Nat)(b:(Value.slice p n c).ownBlock≠some r)(z:k≤n) :
  ∃p' c',(∀W,(Instr.slice t (.slice p n c) (some (.int .i64 (k:Int))) none none).run P W=.ok (.slice p' (n-k) c') W)∧zAb w (.slice p' (n-k) c') (l.drop k)∧n-k≤c'∧(Value.slice p' (n-k) c').ownBlock≠some r:=by
 have q:l.length=n:=by obtain⟨_,_,e⟩:=h.slice;simp only[Value.slice.injEq]at e;exact e.2.1.symm
 refine⟨_,_,fun W=>run_tail0 (P:=P) W A y j p n c k z f,?_,by omega,?_⟩
 ·by_cases d:k=n
  ·subst d;rw[List.drop_of_length_le (by omega),Nat.sub_self];exact zAb.empty _ _ _
  ·rw[if_neg (show ¬c=k by omega)];rcases h.at with v|⟨g,o,B,m,C⟩
   ·rw[v]at q;simp at q;omega
   ·simp only[Value.slice.injEq]at m;obtain⟨rfl,-,-⟩:=m;have s:(some (⟨g,o,none⟩:Addr)).map (fun x=>x.add k)=some ⟨g,o+k,none⟩:=by simp[Addr.add]
    rw[s];exact zAb.from h (by omega) _
 ·split
  ·cases p<;>exact b
  ·cases p with
   | none=>intro e;cases e
   | some a =>
    intro e;refine b ?_;rw[←e];simp[Value.ownBlock,zDQ]
theorem zAb.set {w:World}{v:Value}{l:Bs}(h:zAb w v l){a:Addr}(u:Value)(b:v.ownBlock≠some a.block):zAb (w.setCell a u) v l :=
 zAK.keep h fun k c=>set_other u fun e=>b (by rw[c,e])
end
theorem zGD (k:Nat):2 ^ (7*k)=128 ^ k:=by rw[Nat.pow_mul]
theorem zGP {k a x:Nat}(d:a<128 ^ k)(f:k≤8)(g:x<256) :
  bits .or .u64 (a:Int) (IntKind.u64.wrap (IntKind.u64.wrap (bits .and .u8 (x:Int) 127)*2 ^ (7*k)))=((a+x%128*128 ^ k:Nat):Int)∧a+x%128*128 ^ k<128 ^ (k+1)∧a+x%128*128 ^ k<9223372036854775808:=by
 have b:bits .and .u8 (x:Int) 127=((x%128:Nat):Int):=by
  have:=u8_and_nat x 127 g (by decide);rw[Nat.and_two_pow_sub_one_eq_mod x 7]at this;exact this
 have j:x%128<128:=Nat.mod_lt _ (by decide);generalize x%128=y at *;have l:128 ^ k≤128 ^ 8:=Nat.pow_le_pow_right (by decide) f;have i:(128:Nat) ^ 8=72057594037927936:=by decide
 have n:y*128 ^ k≤127*128 ^ k:=Nat.mul_le_mul_right _ (by omega);have m:128 ^ (k+1)=128 ^ k*128:=Nat.pow_succ _ _;have c:((y:Nat):Int)*2 ^ (7*k)=((y*128 ^ k:Nat):Int):=by
  rw[←zGD,Int.natCast_mul,Int.natCast_pow];rfl
 rw[b,IntWalk.u64_in ((y:Nat):Int) (by omega),c,IntWalk.u64_in ((y*128 ^ k:Nat):Int) (by omega),u64_or_nat _ _ (by omega) (by omega),←zGD,or_add (7*k) a y (by rw[zGD];exact d),zGD];refine⟨rfl,by omega,by omega⟩
theorem zAL {w:World}{e:TypeId}{v:Value}{l:Bs}(h:zAi w e v l):∃p c,v=.slice p l.length c∧l.length≤c:=by
 rcases h.2 with⟨rfl,hn⟩|⟨g,b,cur,rfl,_,d,_⟩
 ·exact⟨none,0,by rw[hn],by omega⟩
 ·exact⟨_,b,rfl,d⟩
def RdHd (w:World)(r:Nat)(R:Rd):Prop:=∃p n c,w.heap[r]?=some (.cells #[.slice p n c,.bool R.bad] 232 (0,0))∧R.rest.length=n
theorem RdAt.hd {w:World}{r:Nat}{R:Rd}(h:RdAt w r R):RdHd w r R:=let ⟨p,n,c,h⟩:=h;⟨p,n,c,h.cells,h.n_eq⟩
theorem RdHd.same {w w':World}{r:Nat}{R:Rd}(h:RdHd w r R)(b:w'.heap[r]?=w.heap[r]?):RdHd w' r R:=let ⟨p,n,c,h,e⟩:=h;⟨p,n,c,b.trans h,e⟩
theorem good_calls {w:World}{r:Nat}{R:Rd}(h:RdHd w r R) :
  Calls prog 194 #[.pointer (some ⟨r,0,none⟩)] w fun e w'=>e=.returned (.bool (!R.bad))∧w'=w:=by
 obtain⟨p,n,c,h,-⟩:=h;have b:w.cell? ⟨r,1,none⟩=some (.bool R.bad):=zAG h rfl;clear h
 go_enter func194,ntmps194
 go_wp2_with fail;go_ret;exact⟨rfl,rfl⟩
theorem zDc {w:World}{r:Nat}{R:Rd}(h:RdHd w r R) :
  Calls prog 153 #[.pointer (some ⟨r,0,none⟩)] w fun e w'=>e=.returned (.bool R.whole)∧w'=w:=by
 have d:=zh (good_calls h);obtain⟨p,n,c,h,hn⟩:=h;have i:w.cell? ⟨r,0,none⟩=some (.slice p n c):=zAG h rfl;have b:=zW (R.whole=(!R.bad&&R.rest.isEmpty)) rfl;have g:=zW (R.rest.isEmpty=((n:Int)==0)) (by
  rw[Bool.eq_iff_iff,List.isEmpty_iff,←List.length_eq_zero_iff,hn];simp)
 clear h hn;cases f:R.bad with
 | true =>
  rw[f]at d b
  go_enter func153,ntmps153
  go_wp2_with fail;refine d.o.mono ?_;rintro e w1 ⟨rfl,rfl⟩;go_wp2_with fail;go_ret;exact⟨by rw[b.o];rfl,rfl⟩
 | false =>
  rw[f]at d b
  go_enter func153,ntmps153
  go_wp2_with fail;refine d.o.mono ?_;rintro e w1 ⟨rfl,rfl⟩;go_wp2_with fail;go_ret;exact⟨by rw[b.o,g.o];rfl,rfl⟩
structure WrIn (w:World)(k:Nat)(v:Value)(l:Bs):Prop where
 cells:w.heap[k]?=some (.cells #[v] 163 (0,0))
 row:zAi w 5 v l
 ne:v.ownBlock≠some k
def WrS (k:Nat)(v:Value)(j:Nat):Prop:=j=k∨v.ownBlock=some j
def zBf (w:World)(k:Nat)(v:Value)(b:Bs)(w':World):Prop :=
 ∃v',WrIn w' k v' b∧Chg (WrS k v) w w'∧∀j,v'.ownBlock=some j→v.ownBlock=some j∨w.heap.size≤j
def WrTold (w:World)(k:Nat)(v:Value)(b:Bs)(e:Ending)(w':World):Prop:=e=.returned (.tuple #[])∧zBf w k v b w'
section
variable {w w1 w2:World} {k:Nat} {v:Value} {l l1 l2:Bs}
theorem WrIn.c0 (h:WrIn w k v l):w.cell? ⟨k,0,none⟩=some v:=zAG h.cells rfl
theorem WrIn.klt (h:WrIn w k v l):k<w.heap.size:=(Array.getElem?_eq_some_iff.1 h.cells).1
theorem zBf.refl (h:WrIn w k v l):zBf w k v l w:=⟨v,h,Chg.refl _ _,fun _ h=>.inl h⟩
theorem zBf.trans (h:zBf w k v l1 w1)(n:k<w.heap.size)(f:∀d,WrIn w1 k d l1→zBf w1 k d l2 w2):zBf w k v l2 w2:=by
 obtain⟨d,o,b,c⟩:=h;obtain⟨v2,f,g,i⟩:=f d o;refine⟨v2,f,b.trans g fun j m l=>?_,fun j m=>?_⟩
 ·rcases l with rfl|l
  ·exact .inl rfl
  ·rcases c j l with h|h
   ·exact .inr h
   ·omega
 ·rcases i j m with h|h
  ·exact c j h
  ·exact .inr (Nat.le_trans b.size h)
theorem zBf.go {f:Value}(m:WrIn w1 k f l1)(g:Chg (WrS k v) w w1)(hn:∀j,f.ownBlock=some j→v.ownBlock=some j∨w.heap.size≤j)(n:k<w.heap.size)(h:zBf w1 k f l2 w2):zBf w k v l2 w2:=by
 obtain⟨v2,l,b,c⟩:=h;refine⟨v2,l,g.trans b fun j i d=>?_,fun j i=>?_⟩
 ·rcases d with rfl|d
  ·exact .inl rfl
  ·rcases hn j d with h|h
   ·exact .inr h
   ·omega
 ·rcases c j i with h|h
  ·exact hn j h
  ·exact .inr (Nat.le_trans g.size h)
theorem zBf.ahead (f:Below w.heap.size w w1)(m:WrIn w k v l)(b:zBf w1 k v l2 w2):zBf w k v l2 w2:=by
 obtain⟨v2,b,c,d⟩:=b;exact⟨v2,b,((Chg.of_below f).mono fun _ _ h=>h.elim).trans c fun _ _ i=>i,fun j g=>(d j g).imp id (Nat.le_trans f.size)⟩
theorem WrIn.keep (h:WrIn w k v l)(b:Below w.heap.size w w1):WrIn w1 k v l :=
 ⟨(b.block k h.klt).trans h.cells,OwnR.keep h.row fun _ c=>b.block _ (OwnR.lt h.row c),h.ne⟩
theorem WrIn.grown {q:World}{v':Value}{m:Bs}(h:WrIn w k v l)(n:Below w.heap.size w q)(f:OwnR w1 5 1 v' (l.length+m.length) (zAR l++zAR m))(s:q.grownBy w1 v.ownBlock)(c:v'.ownBlock=v.ownBlock∨∃g,v'.ownBlock=some g∧q.heap.size≤g) :
  zBf w k v (l++m) (w1.setCell ⟨k,0,none⟩ v'):=by
 have t:=h.klt;have y:=n.size;have p:w1.heap[k]?=some (.cells #[v] 163 (0,0)):=(s.block k (by omega) fun e=>h.ne e.symm).trans ((n.block k t).trans h.cells);have b:∀j,v'.ownBlock=some j→v.ownBlock=some j∨w.heap.size≤j:=fun j i=>by
  rcases c with e|⟨g,e,o⟩
  ·exact .inl (e▸i)
  ·rw[i]at e;cases e;exact .inr (Nat.le_trans y o)
 have d:v'.ownBlock≠some k:=fun e=>by
  rcases b k e with r|r
  ·exact h.ne r
  ·omega
 refine⟨v',⟨?_,?_,d⟩,?_,b⟩
 ·have:=zAC p 0 v';simpa using this
 ·have:zAi w1 5 v' (l++m):=by
   unfold zAi;rw[zBl,List.length_append];exact f
  exact OwnR.keep this fun j i=>set_other _ fun e=>d (by rw[i];exact congrArg some e)
 ·refine(((Chg.of_below n).mono fun _ _ h=>h.elim).trans (Chg.of_grown s) fun j _ e=>.inr e.symm).trans (Chg.setCell _ ⟨k,0,none⟩ _) fun j _ e=>.inl e
theorem wraw_calls (h:WrIn w k v l){p:Option Addr}{n c:Nat}{m:Bs}(y:zAb w (.slice p n c) m)(P:l.length+m.length≤140737488355328) :
  Calls prog 104 #[.pointer (some ⟨k,0,none⟩),.slice p n c] w (WrTold w k v (l++m)):=by
 obtain⟨L,J,z,A,B⟩:=info_parts (show(prog.info? 5).map (fun i=>(i.zero,i.size,i.bytes))=some (some (.int .u8 0),1,1) by kernel_rfl);have hn:m.length=n:=by obtain⟨_,_,e⟩:=y.slice;simp only[Value.slice.injEq]at e;exact e.2.1.symm
 subst hn;have M:=h.c0;have j:=h.row;have I:=zh y;have s:=zh h;clear h y;generalize F:l.length=a at *;have C:=zh F;generalize G:m.length=b at *;have D:=zh G;clear F G;have r:=zh (show OwnR w 5 1 v a (zAR l) by have:=j;unfold zAi at this;rwa[C.o]at this);have t:=zh (show zAK w 1 (.slice p b c) b (zAR m) by have:=I.o;unfold zAb at this;rwa[D.o]at this);clear j
 go_enter func104,ntmps104
 go_wp2_with (at_builtin;refine zAO _ rfl (.tmp 10) (.tmp 11) 22 rfl 5 L (.int .u8 0) 1 1 underlying22 J z A B rfl (by decide) v a _ rfl r.o (.slice p b c) b _ rfl t.o (zAN _) (by unfold maxLen;omega) (by omega) ?_;intro R w1 f d g;go_loud (have E:=WrIn.grown (m:=m) s.o (Below.refl _ _) (by rw[C.o,D.o];exact f) d g;have q:=(d.block k s.o.klt fun e=>s.o.ne e.symm).trans s.o.cells;have N:=zAU q;have O:=zAE q 0;have H:=zh E;clear q E d g;obtain⟨Q,q1,rfl⟩:=OwnR.shape f;clear f))
 go_end0
 exact⟨rfl,H.o⟩
end
def zBY (w:World)(v:Value)(zs:List Int):Prop:=zAK w 1 v zs.length (zs.map (Value.int .i64))
theorem zBY.at {w:World}{v:Value}{l:List Int}(h:zBY w v l):l=[]∨∃b o c,v=.slice (some ⟨b,o,none⟩) l.length c∧∀i x,l[i]?=some x→w.cell? ⟨b,o+i,none⟩=some (.int .i64 x):=by
 obtain⟨q,p,c,rfl,g,f⟩:=h;cases p with
 | none=>exact .inl (List.length_eq_zero_iff.1 (g rfl))
 | some a =>
  cases l with
  | nil=>exact .inl rfl
  | cons x r =>
   obtain⟨b,o,n⟩:=a;have j:=f _ rfl 0 (.int .i64 x) (by simp);have d:n=none:=by
    have:=World.cell?_spot j;simpa[Addr.add]using this
   subst d;refine .inr ⟨b,o,c,rfl,fun i y m=>?_⟩;have k:=f _ rfl i (.int .i64 y) (by rw[List.getElem?_map,m];rfl);have e:(⟨b,o,none⟩:Addr).add i=⟨b,o+i,none⟩:=by unfold Addr.add;split<;>simp_all
   rw[←e];exact k
theorem zBY.slice {w:World}{v:Value}{l:List Int}(h:zBY w v l):∃p c,v=.slice p l.length c:=by
 obtain⟨_,p,c,e,_⟩:=h;exact⟨p,c,e⟩
theorem numsI_take {zs:List Int}{j:Nat}(b:j<zs.length):zAp (zs.take (j+1))=zAp (zs.take j)++zDf zs[j]:=by
 rw[List.take_succ_eq_append_getElem b];simp only[zAp,List.map_append,List.map_cons,List.map_nil,List.flatten_append,List.flatten_cons,List.flatten_nil,List.append_nil]
theorem zBJ (z:Int):(zDf z).length≤9:=zAh (by omega)
theorem zBA (zs:List Int):(zAp zs).length≤9*zs.length:=by
 induction zs with
 | nil=>simp[zAp]
 | cons z r ih =>
  have:=zBJ z;simp only[zAp,List.map_cons,List.flatten_cons,List.length_append,List.length_cons]at ih ⊢;omega
theorem or_high (a:Nat):bits .or .u8 ((a:Int)%256) 128=(((UInt8.ofNat (a%128+128)).toNat:Nat):Int):=by
 have b:(a:Int)%256=((a%256:Nat):Int):=by omega
 have c:∀y:Fin 256,(y.val ||| 128)=y.val%128+128:=by decide +kernel
 have d:(a%256 ||| 128)=a%256%128+128:=c ⟨a%256,by omega⟩;rw[b];have f:=u8_or_nat (a%256) 128 (by omega) (by decide);refine Eq.trans f ?_;rw[d,UInt8.toNat_ofNat'];omega
theorem zC8 (w:World)(o:Obj){k:Nat}(h:k<w.heap.size):(w.alloc o).heap[k]?=w.heap[k]?:=((Below.refl w.heap.size w).alloc (Nat.le_refl _) o).block k h
theorem zC1 {w:World}{e:TypeId}{v:Value}{n:Nat}{xs:List Value}(h:OwnR w e 1 v n xs)(o:Obj):OwnR (w.alloc o) e 1 v n xs:=h.keep fun _ b=>zC8 w _ (OwnR.lt h b)
theorem zEy (w:World)(x:UInt8):zAK (w.alloc (.cells #[.int .u8 (x.toNat:Int)] 5)) 1 (.slice (some ⟨w.heap.size,0,none⟩) 1 1) 1 (zAR [x]):=has_lit #[.int .u8 (x.toNat:Int)] [x] _ 1 1 rfl rfl rfl
theorem zFp {w:World}{k:Nat}{v:Value}{l:Bs}(h:WrIn w k v l){p:Option Addr}{n c:Nat}{zs:List Int}(L:∀W,Chg (WrS k v) w W→zBY W (.slice p n c) zs)
  (hz:∀z∈zs,-9223372036854775808≤z∧z≤9223372036854775807) (hl:l.length+9*zs.length≤140737488355000) :
  Calls prog 105 #[.pointer (some ⟨k,0,none⟩),.slice p n c] w (WrTold w k v (l++zAp zs)):=by
 obtain⟨i0,hi,X,Y,Z⟩:=info_parts (show(prog.info? 5).map (fun i=>(i.zero,i.size,i.bytes))=some (some (.int .u8 0),1,1) by kernel_rfl);have hn:zs.length=n:=by obtain⟨_,_,e⟩:=(L w (Chg.refl _ _)).slice;simp only[Value.slice.injEq]at e;exact e.2.1.symm
 have Hn:=zh hn;have Hx:=zh L;have Hz:=zh hz;have ae:n≤140737488355000:=by omega
 have Hl:=zh hl;have H0:=zh (zBf.refl h);have Hk:=zh h.klt;clear L hz hl h hn
 go_enter func105,ntmps105
 go_wp2_with fail
 go_loopw [11] (fun i wr=>∃j:Nat,j≤n∧i=.int .i64 j∧zBf w k v (l++zAp (zs.take j)) wr) (fun i _=>n-(intOf i).toNat)
 case atStart=>exact⟨0,Nat.zero_le _,rfl,by simpa[zAp]using H0.o⟩
 case round =>
  obtain⟨j,hj,rfl,y⟩:=hrel
  by_cases ad:j<n
  ·have t:j<zs.length:=by rw[Hn.o];exact ad
   obtain⟨v1,V,J,T⟩:=y;rcases(Hx.o wr J).at with h0|⟨b,o,c2,e2,hcell⟩
   ·rw[h0]at t;simp at t
   rw[Hn.o]at e2;simp only[Value.slice.injEq]at e2;obtain⟨rfl,-,rfl⟩:=e2;have aj:=hcell j _ (List.getElem?_eq_getElem t);obtain⟨af,ag⟩:=Hz.o _ (List.getElem_mem t);have ac:=zh (numsI_take t);generalize zs[j]=z at *;have ab:=zW (zBf w k v (l++zAp (zs.take j)) wr) (⟨v1,V,J,T⟩);clear hcell V J T t;obtain⟨N,hN,Q⟩:∃N:Nat,max 0 (min z 4611686018427387904)=(N:Int)∧N≤4611686018427387904:=⟨(max 0 (min z 4611686018427387904)).toNat,by omega,by omega⟩;have HN:=zh (show zDf z=zD5 N by unfold zDf;rw[hN];rfl);have aa:=zW ((l++zAp (zs.take j)++zD5 N).length≤140737488355200) (by
    have h1:=zBA (zs.take j);have h2:=zAh Q;have h3:=Hl.o;have h4:(zs.take j).length≤zs.length:=by rw[List.length_take];omega
    rw[List.length_append,List.length_append];omega)
   go_wp2_with fail
   go_loopw [6] (fun u wi=>∃(a:Nat) (cur:Bs),u=.int .u64 a∧a≤4611686018427387904∧zBf w k v cur wi∧cur++zD5 a=l++zAp (zs.take j)++zD5 N) (fun u _=>(intOf u).toNat)
   case atStart=>exact⟨N,_,rfl,Q,ab.o,rfl⟩
   case round =>
    obtain⟨a,cur,rfl,ha,y,C⟩:=hrel;have S:=aa.o;rw[←C,List.length_append]at S;have ai:=numB_len a;obtain⟨v2,E,R,U⟩:=y;have H:=E.klt;have c2:=E.c0;have q:=zh E;have s:=zh (And.intro R U);have F:=zh C;clear R U E C;generalize hL:cur.length=m at *;have K:=zh hL;clear hL;have G:=zh (show OwnR wr 5 1 v2 m (zAR cur) by have:=q.o.row;unfold zAi at this;rwa[K.o]at this)
    by_cases O:128≤a
    ·have I:=zh (zD6 O);have ak:=or_high a;generalize UInt8.ofNat (a%128+128)=x at *;go_wp2_with (at_builtin;have B:=zC1 G.o (.cells #[.int .u8 (x.toNat:Int)] 5);have D:=zEy wr x;refine zAO _ rfl (.tmp 27) (.tmp 31) 22 rfl 5 i0 (.int .u8 0) 1 1 underlying22 hi X Y Z rfl (by decide) v2 m _ rfl B (.slice (some ⟨wr.heap.size,0,none⟩) 1 1) 1 _ rfl D (zAN _) (by unfold maxLen;omega) (by omega) ?_;clear B D;intro v3 w3 f d g;go_loud (have P:=WrIn.grown (m:=[x]) q.o ((Below.refl _ _).alloc (Nat.le_refl _) _) (by rw[K.o];exact f) d g;have r:=(d.block k (by simp;omega) fun e=>q.o.ne e.symm).trans ((zC8 wr (.cells #[.int .u8 (x.toNat:Int)] 5) H).trans q.o.cells);have c3:=zAU r;have f3:=zAE r 0;have M:=zh P;clear r P d g;obtain⟨p3,q3,rfl⟩:=OwnR.shape f;clear f))
     go_roundw
     case rel=>exact⟨a/128,cur++[x],by first|rfl|go_num,by omega,zBf.go q.o s.o.1 s.o.2 Hk.o M.o,by rw[←F.o,I.o];simp⟩
     case measure=>simp[intOf];omega
    ·have A:=zh (zCn (n:=a) (by omega));obtain⟨x,L⟩:∃x:UInt8,a=x.toNat:=⟨UInt8.ofNat a,by rw[UInt8.toNat_ofNat'];omega⟩;rw[show UInt8.ofNat a=x by rw[L];simp]at A;subst L;have al:(x.toNat:Int)%256=(x.toNat:Int):=by omega
     have ah:=x.toNat_lt;go_wp2_with (at_builtin;have B:=zC1 G.o (.cells #[.int .u8 (x.toNat:Int)] 5);have D:=zEy wr x;refine zAO _ rfl (.tmp 39) (.tmp 42) 22 rfl 5 i0 (.int .u8 0) 1 1 underlying22 hi X Y Z rfl (by decide) v2 m _ rfl B (.slice (some ⟨wr.heap.size,0,none⟩) 1 1) 1 _ rfl D (zAN _) (by unfold maxLen;omega) (by omega) ?_;clear B D;intro v3 w3 f d g;go_loud (have P:=WrIn.grown (m:=[x]) q.o ((Below.refl _ _).alloc (Nat.le_refl _) _) (by rw[K.o];exact f) d g;have r:=(d.block k (by simp;omega) fun e=>q.o.ne e.symm).trans ((zC8 wr (.cells #[.int .u8 (x.toNat:Int)] 5) H).trans q.o.cells);have c3:=zAU r;have f3:=zAE r 0;have M:=zh P;clear r P d g;obtain⟨p3,q3,rfl⟩:=OwnR.shape f;clear f))
     go_roundw
     case rel=>exact⟨j+1,by omega,by go_num,by
      rw[ac.o,HN.o,←List.append_assoc,←F.o,A.o];exact zBf.go q.o s.o.1 s.o.2 Hk.o M.o⟩
     case measure=>simp[intOf];omega
  ·have he:zs.take j=zs:=List.take_of_length_le (by rw[Hn.o];omega);rw[he]at y;have M:=zh y;clear y he;go_wp2_with fail
   go_end0
   exact⟨rfl,M.o⟩
theorem zBY.one {w:World}(z:Int)(e:TypeId)(b:Nat×Nat)(g c:Nat)(f:g=w.heap.size):zBY (w.alloc (.cells #[.int .i64 z] e b)) (.slice (some ⟨g,0,none⟩) 1 c) [z]:=by
 subst f;refine⟨by simp,some ⟨w.heap.size,0,none⟩,c,rfl,fun e=>(by cases e),fun a d i u j=>?_⟩;cases d;rw[add_zero];refine zAG (zAI w _) ?_;simpa using j
theorem zBf.told {w:World}{k:Nat}{v:Value}{l:Bs}{w':World}(h:zBf w k v l w'):WrTold w k v l (.returned (.tuple #[])) w':=⟨rfl,h⟩
theorem wnum_one {w:World}{k:Nat}{v:Value}{l:Bs}(h:WrIn w k v l)(z:Int)(r:-9223372036854775808≤z∧z≤9223372036854775807)(p:l.length+9≤140737488355000)(g c:Nat)(i:g=w.heap.size)(b:Nat×Nat) :
  Calls prog 105 #[.pointer (some ⟨k,0,none⟩),.slice (some ⟨g,0,none⟩) 1 c] (w.alloc (.cells #[.int .i64 z] 3 b)) (WrTold (w.alloc (.cells #[.int .i64 z] 3 b)) k v (l++zDf z)):=by
 have d:=h.keep ((Below.refl _ _).alloc (Nat.le_refl _) (.cells #[.int .i64 z] 3 b));have m:=zBY.one (w:=w) z 3 b g c i;have H:=zFp d (zs:=[z]) (fun W f=>zAK.chg m f fun j n q=>by
  have o:j=g:=by cases n;rfl
  rcases q with e|e
  ·have:=h.klt;omega
  ·have:=OwnR.lt h.row e;omega) (by simpa using r) (by simpa using p)
 rwa[show zAp [z]=zDf z by simp[zAp]]at H
def OneRel (b:World)(k:Nat)(v:Value)(l:Bs)(i:Value)(wr:World):Prop:=(i=.int .i64 0∧wr=b)∨(i=.int .i64 1∧zBf b k v l wr)
theorem wbytes_one {w:World}{k:Nat}{v:Value}{l:Bs}(h:WrIn w k v l){pv:Option Addr}{m cv:Nat}{x:Bs}(H:∀W,Chg (WrS k v) w W→zAb W (.slice pv m cv) x)(L:l.length+x.length≤140737488354000)(g c:Nat)(J:g=w.heap.size)(t:Nat×Nat) :
  Calls prog 127 #[.pointer (some ⟨k,0,none⟩),.slice (some ⟨g,0,none⟩) 1 c] (w.alloc (.cells #[.slice pv m cv] 22 t)) (WrTold (w.alloc (.cells #[.slice pv m cv] 22 t)) k v (l++zE3 x)):=by
 have M:x.length=m:=by obtain⟨_,_,e⟩:=(H w (Chg.refl _ _)).slice;simp only[Value.slice.injEq]at e;exact e.2.1.symm
 have p:Below w.heap.size w (w.alloc (.cells #[.slice pv m cv] 22 t)):=(Below.refl _ _).alloc (Nat.le_refl _) _;have F:=h.keep p;have A:∀W,Chg (WrS k v) (w.alloc (.cells #[.slice pv m cv] 22 t)) W→zAb W (.slice pv m cv) x:=fun W S=>H W (((Chg.of_below p).mono fun _ _ h=>h.elim).trans S fun _ _ h=>h);have G:(w.alloc (.cells #[.slice pv m cv] 22 t)).cell? ⟨g,0,none⟩=some (.slice pv m cv):=by rw[J];exact zAG (zAI w _) rfl
 have T:∀j,WrS k v j→j≠g:=fun j B e=>by
  have F:=h.klt;rcases B with B|B
  ·omega
  ·have:=OwnR.lt h.row B;omega
 clear J H p;generalize w.alloc (.cells #[.slice pv m cv] 22 t)=R at *;have N:m≤140737488354000:=by omega
 have O:=zh M;have Q:=zh A;have C:=zh F;have I:=zh L;clear M h F A L
 go_enter func127,ntmps127
 go_wp2_with fail
 go_loopw [8] (OneRel R k v (l++zE3 x)) (fun i _=>1-(intOf i).toNat)
 case atStart=>exact .inl ⟨rfl,rfl⟩
 case round =>
  rcases hrel with⟨rfl,rfl⟩|⟨rfl,z⟩
  ·have r:=wnum_one C.o (m:Int) (by omega) (by have:=I.o;omega) wr.heap.size 1 rfl (0,0);rw[zB1 (show m≤4611686018427387904 by omega)]at r;have E:=zh r;clear r;go_wp2_with fail;refine E.o.mono ?_;rintro e w2 ⟨rfl,b⟩;have a:=zBf.ahead ((Below.refl _ _).alloc (Nat.le_refl _) _) C.o b;obtain⟨v2,s,q,y⟩:=a;have P:=zh (wraw_calls s (Q.o w2 q) (by
    rw[List.length_append];have:=zAh (n:=m) (by omega);have:=I.o;omega))
   have f:=zh (And.intro s (And.intro q y));clear b s q y;go_wp2_with fail;refine P.o.mono ?_;rintro e w3 ⟨rfl,d⟩;have D:=zW (zBf wr k v (l++zE3 x) w3) (by
    have:=zBf.go f.o.1 f.o.2.1 f.o.2.2 C.o.klt d;rwa[List.append_assoc,←O.o]at this)
   clear d;go_wp2_with fail;go_roundw
   case rel=>exact .inr ⟨rfl,D.o⟩
   case measure=>simp[intOf]
  ·have D:=zh z;clear z;go_wp2_with fail
   go_end0
   exact⟨rfl,D.o⟩
theorem wout_calls {w:World}{k:Nat}{v:Value}{l:Bs}(h:WrIn w k v l)(i:l.length≤140737488355328) :
  Calls prog 106 #[.pointer (some ⟨k,0,none⟩)] w fun e w'=>∃v,e=.returned v∧zAi w' 5 v l∧(∀j,v.ownBlock=some j→w.heap.size≤j)∧Below w.heap.size w w':=by
 have n:=h.c0;have g:=zh (zBv h.row.has i);clear h
 go_enter func106,ntmps106
 go_wp2_with fail;refine g.o.mono ?_;rintro e w1 ⟨m,rfl,d,b,c⟩;have f:=zh (And.intro d (And.intro b c));clear d b c;go_wp2_with fail;go_ret;exact⟨m,rfl,f.o⟩
end Go.Proofs.YtapfnehdgailmaaGreat
namespace Go.Sat
open Go.RowKit
theorem own_cut {w:World}{e:TypeId}{p:Option Addr}{n c:Nat}{l:Bs}(h:zAi w e (.slice p n c) l){y:Nat}(r:y≤l.length):zAi w e (.slice p y y) (l.take y):=by
 have f:(l.take y).length=y:=by rw[List.length_take];omega
 unfold zAi;rw[f];refine⟨by rw[zFD,f];omega,?_⟩;rcases h.2 with⟨b,hn⟩|⟨g,i,cur,b,m,o,j,k,q⟩
 ·cases b;have d:y=0:=by omega
  subst d;exact .inl ⟨rfl,rfl⟩
 ·cases b;refine .inr ⟨g,y,cur,rfl,m,Nat.le_refl _,by omega,by omega,?_⟩;rw[zFd,←q,List.take_take]
  congr 1
  omega
end Go.Sat
namespace Go.Proofs.YtapfnehdgailmaaGreat
open Go.RowKit Go.Sat Go.Maps
theorem ok_trunc {D:zAA}(h:D.OK){n:Bs}{f:zAW}(c:Sat.get n D.files=some f)(k:Nat):zAA.OK {D with files:=put n ⟨f.data.take k,min f.lasts k⟩ D.files} where
 srt:=zCO h.srt
 room:=h.room
 used:=by
  show zBZ zAA.size (put n _ D.files)≤D.room
  rw[sum_put];have d:D.used=zAA.size f+zBZ zAA.size (del n D.files):=zDr h.srt c;have:=h.used;simp only[zAA.size,List.length_take]at d ⊢;omega
 count:=by
  show(put n _ D.files).length≤4096
  rw[len_put];have:=len_del h.srt c;have:=h.count;omega
 names p b:=by
  rcases zBe.1 b with rfl|⟨b,_⟩
  ·exact(h.names (n,f) (zBn c):okN n=true)
  ·exact h.names p b
 lasts p b:=by
  rcases zBe.1 b with rfl|⟨b,_⟩
  ·have d:f.lasts≤f.data.length:=h.lasts (n,f) (zBn c)
   show min f.lasts k≤(f.data.take k).length
   rw[List.length_take];omega
  ·exact h.lasts p b
 fuse:=h.fuse
section
variable {w:World} {d m:Nat} {left:Int} {L:List (Bs×zB4)} {own:Own} {D:zAA}
theorem trunc_bad (h:zAc w d m left L own D)(o:ByteArray)(g:o.size≤9223372036854775807)(z:Int)(p:D.may [nm o]≠0) :
  Calls prog 156 #[.pointer (some ⟨d,0,none⟩),.string o,.int .i64 z] w (zDL w d own (D,D.may [nm o])):=by
 have c:=h.chg (Chg.alloc w (.cells #[.string o] 9)) (fun k l=>l.elim);have f:=zBd c _ [o] 1 (zBV w o) (by simp) (by simpa using g);simp only[List.map_cons,List.map_nil]at f;have b:=zW (zDL w d own (D,D.may [nm o]) (.returned (.int .i64 (D.may [nm o]:Int))) (w.alloc (.cells #[.string o] 9))) (
  ⟨own,rfl,⟨m,left,L,c⟩,(Chg.alloc w _).mono fun _ _ h=>h.elim,zCY _ _⟩)
 generalize D.may [nm o]=j at *;have n:((j:Int) != 0)=true:=by simp;omega
 have i:=zh f;clear h f c
 go_enter func156,ntmps156
 go_wp2_with fail;refine i.o.mono ?_;rintro e w' ⟨rfl,rfl⟩;go_wp2_with fail;go_ret;exact b.o
theorem trunc_none (h:zAc w d m left L own D)(o:ByteArray)(j:o.size≤9223372036854775807)(z:Int)(t:D.may [nm o]=0)(r:Sat.get (nm o) L=none) :
  Calls prog 156 #[.pointer (some ⟨d,0,none⟩),.string o,.int .i64 z] w (zDL w d own (D,7)):=by
 have i:=h.chg (Chg.alloc w (.cells #[.string o] 9)) (fun k s=>s.elim);have n:=zBd i _ [o] 1 (zBV w o) (by simp) (by simpa using j);simp only[List.map_cons,List.map_nil,t]at n;have b:=zBj _ zB5 underlying9 underlying113 (zBr _) zB4.fb i.map j r;have f:=i.c1;have g:=zW (zDL w d own (D,7) (.returned (.int .i64 (7:Int))) (w.alloc (.cells #[.string o] 9))) (
  ⟨own,rfl,⟨m,left,L,i⟩,(Chg.alloc w _).mono fun _ _ h=>h.elim,zCY _ _⟩)
 have q:=zh n;have c:=zh b;have l:=zh f;clear h n i b f;generalize p:w.alloc (.cells #[.string o] 9)=v at *
 go_enter func156,ntmps156
 go_wp2_with fail;have b:=c.o;have f:=l.o;refine q.o.mono ?_;rintro e w' ⟨rfl,rfl⟩;clear p;go_wp2_with fail;go_ret;exact g.o
theorem trunc_some (h:zAc w d m left L own D)(o:ByteArray)(F:o.size≤9223372036854775807)(z:Int)(hz:-9223372036854775808≤z)(an:z≤9223372036854775807)(R:D.may [nm o]=0){r:zB4}(H:Sat.get (nm o) L=some r) :
  Calls prog 156 #[.pointer (some ⟨d,0,none⟩),.string o,.int .i64 z] w (zDL w d own (if z<0∨(r.f.data.length:Int)<z then(D,1)else(zAA.done {D with files:=put (nm o) ⟨r.f.data.take z.toNat,min r.f.lasts z.toNat⟩ D.files},0))):=by
 have b:=h.chg (Chg.alloc w (.cells #[.string o] 9)) (fun k N=>N.elim);have J:=zBd b _ [o] 1 (zBV w o) (by simp) (by simpa using F);simp only[List.map_cons,List.map_nil,R]at J;have ac:=zB2 _ zB5 underlying9 underlying113 (zBr _) zB4.fb b.map F H;have ai:=b.c1;have af:=WideMaps.keyOf_string_mk underlying9 F;have G:=zDk R;have q:Sat.get (nm o) D.files=some r.f:=by rw[h.get,H];rfl
 have n:=b.fileAt H;have ak:r.f.data.length≤1073741824:=by
  have h5:zAA.size r.f≤D.used:=le_sum h.ok.srt q;have h6:=h.ok.used;have h7:=h.ok.room;unfold zAA.size at h5;omega
 obtain⟨pv,cv,ev,al⟩:∃p c,r.v=.slice p r.f.data.length c∧r.f.data.length≤c:=by
  rcases n.row.2 with⟨e,hn⟩|⟨g,V,cur,e,_,ad,_⟩
  ·exact⟨none,0,by rw[e,hn],by omega⟩
  ·exact⟨_,V,e,ad⟩
 have Z:=zAG (i:=0) n.cells rfl;have aj:=zAG (i:=1) n.cells rfl;have aa:=zAE n.cells 0;have ab:=zAE n.cells 1;rw[ev]at Z
 by_cases hb:z<0∨(r.f.data.length:Int)<z
 ·rw[if_pos hb];have t:=zW (zDL w d own (D,1) (.returned (.int .i64 ((1:Nat):Int))) (w.alloc (.cells #[.string o] 9))) (
   ⟨own,rfl,⟨m,left,L,b⟩,(Chg.alloc w _).mono fun _ _ h=>h.elim,zCY _ _⟩)
  have Q:=zh J;generalize r.f.data.length=M at *;clear h b J R G H q n aa ab ev;generalize s:w.alloc (.cells #[.string o] 9)=w0 at *
  by_cases ao:z<0
  rotate_left
  focus obtain⟨y,rfl⟩:∃y:Nat,z=(y:Int):=⟨z.toNat,by omega⟩;have ah:M<y:=by omega
  all_goals
   go_enter func156,ntmps156;go_wp2_with fail;refine Q.o.mono ?_;rintro e w' ⟨rfl,rfl⟩;clear s;go_wp2_with fail;go_ret;exact t.o
 ·rw[if_neg hb];obtain⟨y,rfl⟩:∃y:Nat,z=(y:Int):=⟨z.toNat,by omega⟩;rw[Int.toNat_natCast];have ae:y≤r.f.data.length:=by omega
  have A:zAi (w.alloc (.cells #[.string o] 9)) 5 (.slice pv y y) (r.f.data.take y):=Go.Sat.own_cut (by rw[←ev];exact n.row) ae;have E:own r.fb=some (2,nm o):=n.ob;have O:∀g,(Value.slice pv y y).ownBlock=some g→own g=some (3,nm o):=fun g C=>n.og g (by rw[ev,zB9 pv _ _ y y];exact C);have P:zAi (((w.alloc (.cells #[.string o] 9)).setCell ⟨r.fb,0,none⟩ (.slice pv y y)).setCell ⟨r.fb,1,none⟩ (.int .i64 ((min r.f.lasts y:Nat):Int))) 5 (.slice pv y y) (r.f.data.take y):=zAi.keep A fun k N=>by
   have l:k≠r.fb:=fun e=>by
    have b:=O k N;rw[e,E]at b;simp at b
   exact(set_other _ l).trans (set_other _ l)
  obtain⟨own',h4,hx⟩:=b.upd H (f':=⟨r.f.data.take y,min r.f.lasts y⟩) (v':=.slice pv y y) (w':=((w.alloc (.cells #[.string o] 9)).setCell ⟨r.fb,0,none⟩ (.slice pv y y)).setCell ⟨r.fb,1,none⟩ (.int .i64 ((min r.f.lasts y:Nat):Int)))
   (by simp[World.setCell]) (fun k _ l _=>(set_other _ l).trans (set_other _ l)) (zAC (zAC n.cells 0 _) 1 _) P
   (fun g C=>.inl (by rw[ev,zB9 pv _ _ y y];exact C)) (ok_trunc h.ok q y)
  have a:Chg (Has own) w (((w.alloc (.cells #[.string o] 9)).setCell ⟨r.fb,0,none⟩ (.slice pv y y)).setCell ⟨r.fb,1,none⟩ (.int .i64 ((min r.f.lasts y:Nat):Int))):=by
   have ho:Has own r.fb:=by unfold Has;rw[E];simp
   refine(((Chg.alloc w _).mono (T:=Has own) fun _ _ h=>h.elim).trans (Chg.setCell _ ⟨r.fb,0,none⟩ _) fun k _ e=>?_).trans (Chg.setCell _ ⟨r.fb,1,none⟩ _) fun k _ e=>?_
   ·rw[show k=r.fb from e];exact ho
   ·rw[show k=r.fb from e];exact ho
  have j:=zDJ h4 G.1;have B:=zh j;have I:=zh a;have Hx:=zh hx;have U:=zh (Chg.alloc w (.cells #[.string o] 9)).size;have S:=zh (has_d b);have Q:=zh J;obtain⟨i0,hi,_⟩:=info_parts (show(prog.info? 5).map (fun i=>(i.zero,i.size,i.bytes))=some (some (.int .u8 0),1,1) by kernel_rfl);have am:∀W,(Instr.slice 22 (.slice pv r.f.data.length cv) none (some (.int .i64 (y:Int))) (some (.int .i64 (y:Int)))).run prog W=.ok (.slice pv y y) W:=fun W=>run_cut W underlying22 hi pv _ cv y (by omega);have ag:min (r.f.lasts:Int) (y:Int)=((min r.f.lasts y:Nat):Int):=by omega
  generalize X:r.f.data.length=M at *;generalize r.f.lasts=la at *;clear h b J R G H q n ev A E O P h4 hx a j X;generalize s:w.alloc (.cells #[.string o] 9)=w0 at *
  go_enter func156,ntmps156
  go_wp2_with fail;refine Q.o.mono ?_;rintro e w' ⟨rfl,rfl⟩;clear s;go_wp2_with fail;refine B.o.mono ?_;rintro e w5 ⟨rfl,K,Y⟩;go_wp2_with fail;go_ret;exact⟨own',rfl,K,I.o.trans Y fun i _ e=>by rw[e];exact S.o,fun k N=>Hx.o k (Nat.lt_of_lt_of_le N U.o)⟩
theorem trunc_calls (h:zCP w d D own)(o:ByteArray)(b:o.size≤9223372036854775807)(z:Int)(i:-9223372036854775808≤z)(f:z≤9223372036854775807) :
  Calls prog 156 #[.pointer (some ⟨d,0,none⟩),.string o,.int .i64 z] w (zDL w d own (D.truncate (nm o) z)):=by
 obtain⟨m,left,L,h⟩:=h;unfold zAA.truncate
 by_cases c:D.may [nm o]=0
 ·rw[if_neg (by simpa using c),h.get];cases g:Sat.get (nm o) L with
  | none=>exact trunc_none h o b z c g
  | some r=>exact trunc_some h o b z i f c g
 ·rw[if_pos (by simpa using c)];exact trunc_bad h o b z c
end
theorem st_trunc {w w1:World}{d:Nat}{D:zAA}{F:Nat→Prop}(h:St w w1 d D F)(s:ByteArray)(f:s.size≤9223372036854775807)(z:Int)(m:-9223372036854775808≤z)(g:z≤9223372036854775807) :
  Calls prog 156 #[.pointer (some ⟨d,0,none⟩),.string s,.int .i64 z] w1 (Told w d F w1 (D.truncate (nm s) z)):=by
 obtain⟨own,k,i,c,hF⟩:=h;refine(trunc_calls k s f z m g).mono ?_;rintro e w' ⟨own',rfl,b,j,l⟩;exact⟨rfl,St.step i c hF b j l⟩
end Go.Proofs.YtapfnehdgailmaaGreat
namespace Go.Sat
open Go.RowKit
def skipN (pre:Bs)(b:List Bs)(n:Bs):Bool:=!(pre.isPrefixOf n)||b.contains n
end Go.Sat
namespace Go.Proofs.YtapfnehdgailmaaGreat
open Go.RowKit Go.Sat Go.Maps
namespace zAA
def clearL (pre:Bs)(b:List Bs)(D:zAA):List Bs→zAA×Nat
 | []=>(D,0)
 | n::r=>if skipN pre b n then clearL pre b D r else if(D.remove [n]).2=0 then clearL pre b (D.remove [n]).1 r else D.remove [n]
def clear (D:zAA)(pre:Bs)(b:List Bs):zAA×Nat:=clearL pre b D (zCK D)
end zAA
theorem enc_str (x:Bs):encStr x=.string ⟨x.toArray⟩:=rfl
theorem nm_str (x:Bs):nm ⟨x.toArray⟩=x:=by simp[nm]
theorem HasN.same {w w':World}{v:Value}{l:List Bs}(h:HasN w v l)(m:∀k,v.ownBlock=some k→w'.heap[k]?=w.heap[k]?):HasN w' v l:=by
 obtain⟨j,p,b,rfl,d,g⟩:=h;refine⟨j,p,b,rfl,d,fun a c i u n=>?_⟩;have f:(a.add i).block=a.block:=zDQ _ _;exact(World.cell?_of_block (by rw[f];exact m _ (by rw[c];rfl))).trans (g a c i u n)
end Go.Proofs.YtapfnehdgailmaaGreat
namespace Go.Sat
theorem del_put {α:Type}{L:List (Bs×α)}(h:Srt L)(n:Bs)(a:α):del n (put n a L)=del n L:=by
 refine srt_ext (zCv (zCO h)) (zCv h) fun m=>?_
 by_cases e:m=n
 ·subst e;rw[zDi,zDi]
 ·rw[zEN (zCO h) e,zDE h a e,zEN h e]
theorem put_put {α:Type}{L:List (Bs×α)}(h:Srt L)(n:Bs)(a b:α):put n b (put n a L)=put n b L:=by
 show ins (n,b) (del n (put n a L))=ins (n,b) (del n L)
 rw[del_put h]
end Go.Sat
namespace Go.Proofs.YtapfnehdgailmaaGreat
open Go.RowKit Go.Sat Go.Maps
theorem zEA (n:Bs):(zAF n).length=n.length+1:=by simp[zAF]
def offF (f:Option Nat)(k:Nat):Option Nat:=f.map (·-k)
section
variable {D:zAA} {n l:Bs}
theorem save_app (k:D.OK)(g:D.fuse≠some 0)(j:1≤n.length)(hn:n.length≤60)(c:Sat.get (zAF n) D.files=none)(f:D.used+l.length+12≤D.room)(m:D.files.length<4096) :
  D.append (zAF n) (zAM l)=(⟨D.room,put (zAF n) ⟨zAM l,0⟩ D.files,offF D.fuse 1⟩,0):=by
 have i:D.may [zAF n]=0:=by
  unfold zAA.may;rw[if_neg g,if_pos];simp only[List.all_cons,List.all_nil,Bool.and_true,okN,zEA];simp;omega
 have d:D.full (zAF n) (zAM l)=false:=by
  unfold zAA.full;rw[zAl,c];simp;omega
 unfold zAA.append;rw[if_neg (by rw[i];simp),if_neg (by rw[d];simp)];have b:D.cur (zAF n)=⟨[],0⟩:=by unfold zAA.cur;rw[c];rfl
 rw[b];rfl
theorem save_syn {room:Nat}{L:List (Bs×zAW)}{f:Option Nat}(h:Srt L)(c:f≠some 0)(i:1≤n.length)(hn:n.length≤60) :
  zAA.sync ⟨room,put (zAF n) ⟨zAM l,0⟩ L,f⟩ [zAF n]=(⟨room,put (zAF n) ⟨zAM l,(zAM l).length⟩ L,offF f 1⟩,0):=by
 have g:zAA.may ⟨room,put (zAF n) ⟨zAM l,0⟩ L,f⟩ [zAF n]=0:=by
  unfold zAA.may;rw[if_neg c,if_pos];simp only[List.all_cons,List.all_nil,Bool.and_true,okN,zEA];simp;omega
 have b:zAA.each1 zAA.gSync ⟨room,put (zAF n) ⟨zAM l,0⟩ L,f⟩ (zAF n)=(⟨room,put (zAF n) ⟨zAM l,(zAM l).length⟩ L,offF f 1⟩,0):=by
  unfold zAA.each1;rw[if_neg (by rw[g];simp)];have d:Sat.get (zAF n) (zAA.files ⟨room,put (zAF n) ⟨zAM l,0⟩ L,f⟩)=some ⟨zAM l,0⟩:=zCQ h _ _;rw[d]
  show((⟨room,put _ _ (put _ _ L),_⟩:zAA),0)=_
  rw[put_put h];rfl
 show(if(zAA.each1 _ _ _).2=0 then _ else _)=_
 rw[b,if_pos rfl];rfl
theorem save_ren {room:Nat}{L:List (Bs×zAW)}{f:Option Nat}{g:zAW}(h:Srt L)(c:f≠some 0)(j:1≤n.length)(hn:n.length≤60)(b:Sat.get (zAF n) L=none) :
  zAA.rename ⟨room,put (zAF n) g L,f⟩ (zAF n) n=(⟨room,put n g L,offF f 1⟩,0):=by
 have i:zAA.may ⟨room,put (zAF n) g L,f⟩ [zAF n,n]=0:=by
  unfold zAA.may;rw[if_neg c,if_pos];simp only[List.all_cons,List.all_nil,Bool.and_true,okN,zEA];simp;omega
 unfold zAA.rename;rw[if_neg (by rw[i];simp)];have d:Sat.get (zAF n) (zAA.files ⟨room,put (zAF n) g L,f⟩)=some g:=zCQ h _ _;rw[d]
 show((⟨room,put n g (del (zAF n) (put (zAF n) g L)),_⟩:zAA),0)=_
 rw[del_put h,zDh b];rfl
theorem off_ne {f:Option Nat}{k:Nat}(b:∀j,f=some j→k<j):offF f k≠some 0:=by
 cases f with
 | none=>intro h;cases h
 | some j =>
  have:=b j rfl;intro h;have:=Option.some.inj (show some (j-k)=some 0 from h);omega
theorem off_off (f:Option Nat)(a b:Nat):offF (offF f a) b=offF f (a+b):=by
 cases f with
 | none=>rfl
 | some j=>exact congrArg some (Nat.sub_sub _ _ _)
theorem save_room (b:1≤n.length)(hn:n.length≤60):D.save n l=D.save1 n (zAM l):=by
 unfold zAA.save;rw[if_neg (by omega)]
theorem save_all (h:D.OK)(f:∀j,D.fuse=some j→3≤j)(b:1≤n.length)(hn:n.length≤60)(d:Sat.get (zAF n) D.files=none)(c:D.used+l.length+12≤D.room)(i:D.files.length<4096) :
  D.save n l=(⟨D.room,put n ⟨zAM l,(zAM l).length⟩ D.files,offF D.fuse 3⟩,0):=by
 have g:D.save0 n=(D,0):=by unfold zAA.save0;rw[d];rfl
 have k:D.fuse≠some 0:=fun e=>by have:=f 0 e;omega
 rw[save_room b hn,save1_ren g (save_app h k b hn d c i) (save_syn h.srt (off_ne fun j e=>by have:=f j e;omega) b hn),off_off,
  save_ren h.srt (off_ne fun j e=>by have:=f j e;omega) b hn d,off_off]
end
theorem zAx (w:World)(e:TypeId):OwnR (w.alloc (.cells #[] e)) e 1 (.slice (some ⟨w.heap.size,0,none⟩) 0 0) 0 [] :=
 ⟨rfl,.inr ⟨_,0,#[],rfl,zAI w _,Nat.le_refl _,Nat.zero_le _,Nat.le_refl _,rfl⟩⟩
theorem stays_whole (b:Bs)(k:Int):zAA.stays ⟨b,b.length⟩ k=b.length:=by
 show b.length+(max 0 k).toNat%(b.length-b.length+1)=b.length
 rw[Nat.sub_self,Nat.zero_add,Nat.mod_one,Nat.add_zero]
theorem crash_whole (b:Bs)(k:Int):zAA.crashF k ⟨b,b.length⟩=⟨b,b.length⟩:=by
 show(⟨b.take (zAA.stays ⟨b,b.length⟩ k),zAA.stays ⟨b,b.length⟩ k⟩:zAW)=_
 rw[stays_whole,List.take_length]
theorem get_crash (D:zAA)(n:Bs)(k:Int):Sat.get n (D.crash k).files=(Sat.get n D.files).map (zAA.crashF k):=mp_get _ _ _
theorem get_crash_whole {D:zAA}{n b:Bs}(h:Sat.get n D.files=some ⟨b,b.length⟩)(k:Int):Sat.get n (D.crash k).files=some ⟨b,b.length⟩:=by
 rw[get_crash,h,Option.map_some,crash_whole]
theorem load_frame (l:Bs)(h:l.length≤1048576)(k:Nat):loadE (some ⟨zAM l,k⟩)=0∧zDq (some ⟨zAM l,k⟩)=l:=by
 have e:zCj (some ⟨zAM l,k⟩)=zAM l:=rfl;rw[loadE_some,zD4,e,frame_oneE l h,frame_oneB l h];exact⟨if_pos rfl,rfl⟩
/-! ### A ledger in memory -/
structure zDA (w:World)(l d:Nat)(pre:ByteArray)(own:Nat→Prop)(M:LedM)(dv ev:Value)(vs:List Value):Prop where
 cells:w.heap[l]?=some (.cells #[.pointer (some ⟨d,0,none⟩),.string pre,.int .i64 (M.base:Int),dv,ev,.bool M.dead] 183 (0,0))
 data:zAi w 5 dv M.data
 row:OwnR w 22 1 ev M.entries.length vs
 rows:∀(i:Nat) u b,vs[i]?=some u→M.entries[i]?=some b→zAi w 5 u b
 ol:own l
 od:∀k,dv.ownBlock=some k→own k∧k≠l∧ev.ownBlock≠some k
 oe:∀k,ev.ownBlock=some k→own k∧k≠l
 ov:∀u∈vs,∀k,u.ownBlock=some k→own k∧k≠l∧ev.ownBlock≠some k
 olt:∀k,own k→k<w.heap.size
 last:M.last≤1099511627776
 psz:1≤pre.size∧pre.size≤20
 big:M.data.length≤1073741824∧∀b∈M.entries,b.length≤1073741824
section
variable {w w':World} {l d:Nat} {pre:ByteArray} {own:Nat→Prop} {M:LedM} {dv ev:Value} {vs:List Value}
theorem zDA.len (h:zDA w l d pre own M dv ev vs):vs.length=M.entries.length:=by have:=h.row.1;omega
theorem zDA.keep (h:zDA w l d pre own M dv ev vs)(f:∀k,own k→w'.heap[k]?=w.heap[k]?)(m:∀k,own k→k<w'.heap.size):zDA w' l d pre own M dv ev vs where
 cells:=(f l h.ol).trans h.cells
 data:=OwnR.keep h.data fun k c=>f k (h.od k c).1
 row:=h.row.keep fun k c=>f k (h.oe k c).1
 rows:=fun i u b g j=>OwnR.keep (h.rows i u b g j) fun k c=>f k (h.ov u (List.mem_of_getElem? g) k c).1
 ol:=h.ol
 od:=h.od
 oe:=h.oe
 ov:=h.ov
 olt:=m
 last:=h.last
 psz:=h.psz
 big:=h.big
theorem zDA.below (h:zDA w l d pre own M dv ev vs)(c:Below w.heap.size w w'):zDA w' l d pre own M dv ev vs :=
 h.keep (fun k b=>c.block k (h.olt k b)) fun k b=>Nat.lt_of_lt_of_le (h.olt k b) c.size
theorem zDA.c0 (h:zDA w l d pre own M dv ev vs):w.cell? ⟨l,0,none⟩=some (.pointer (some ⟨d,0,none⟩)):=zAG h.cells rfl
theorem zDA.c1 (h:zDA w l d pre own M dv ev vs):w.cell? ⟨l,1,none⟩=some (.string pre):=zAG h.cells rfl
theorem zDA.c2 (h:zDA w l d pre own M dv ev vs):w.cell? ⟨l,2,none⟩=some (.int .i64 (M.base:Int)):=zAG h.cells rfl
theorem zDA.c3 (h:zDA w l d pre own M dv ev vs):w.cell? ⟨l,3,none⟩=some dv:=zAG h.cells rfl
theorem zDA.c4 (h:zDA w l d pre own M dv ev vs):w.cell? ⟨l,4,none⟩=some ev:=zAG h.cells rfl
theorem zDA.c5 (h:zDA w l d pre own M dv ev vs):w.cell? ⟨l,5,none⟩=some (.bool M.dead):=zAG h.cells rfl
theorem zDA.fr (h:zDA w l d pre own M dv ev vs)(i:Nat):w.frozen? ⟨l,i,none⟩=false:=zAE h.cells i
def LedCells (l d:Nat)(pre:ByteArray)(w:World):Prop:=w.cell? ⟨l,0,none⟩=some (.pointer (some ⟨d,0,none⟩))∧w.cell? ⟨l,1,none⟩=some (.string pre)∧pre.size≤20
end
def zCN (s:ByteArray):ByteArray:=s++⟨#[45,108,111,103]⟩
def zBN (s:ByteArray):ByteArray:=s++⟨#[126]⟩
theorem zBq (s:ByteArray):nm (zCN s)=zAu (nm s):=by simp[nm,zCN,zAu,logX]
theorem zEh (s:ByteArray):nm (zBN s)=zAF (nm s):=zBG s
theorem zFT (s:ByteArray):(zCN s).size=s.size+4:=by simp[zCN,ByteArray.size_append];rfl
theorem zCF (s:ByteArray):(zBN s).size=s.size+1:=by simp[zBN,ByteArray.size_append];rfl
section
variable {w w1:World} {l d:Nat} {pre:ByteArray} {D:zAA} {F:Nat→Prop}
end
end Go.Proofs.YtapfnehdgailmaaGreat
