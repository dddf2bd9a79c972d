/- What the program's functions and the document's do, and plain laws, for PJournalTwice. -/
import Derived.Test.YtapfnehdgailmaaGreatKA
import Derived.Test.YtapfnehdgailmaaGreatKB
import Derived.Test.YtapfnehdgailmaaGreatKC
import Derived.Test.YtapfnehdgailmaaGreatKShelf
open Go.Proofs.Tryz
set_option maxRecDepth 100000
set_option maxHeartbeats 64000000
namespace Go.Proofs.YtapfnehdgailmaaGreat
open Go.RowKit Go.Sat Go.Maps
structure Ch (n:Bs)(x:Nat)(D D':zAA):Prop where
 srt:Srt D'.files
 oth:∀m,m≠n→Sat.get m D'.files=Sat.get m D.files
 room:D'.room=D.room
 used:D'.used≤D.used+x
 cnt:D'.files.length≤D.files.length+1
 fuse:D.fuse=none→D'.fuse=none
section
variable {D:zAA} {n b:Bs}
theorem Ch.refl (h:Srt D.files)(x:Nat):Ch n x D D:=⟨h,fun _ _=>rfl,rfl,Nat.le_add_right _ _,Nat.le_succ _,id⟩
theorem zEW (h:Srt D.files)(f:zAT):zBK zAA.size (put n f D.files)+zAA.size (D.cur n)=D.used+zAA.size f:=by
 rw[sum_put];unfold zAA.used zAA.cur;cases b:Sat.get n D.files with
 | none =>
  rw[zC3 b]
  show zAA.size f+_+zAA.size (⟨[],0⟩:zAT)=_
  have:zAA.size (⟨[],0⟩:zAT)=0:=rfl;omega
 | some o =>
  rw[zC2 (f:=zAA.size) h b]
  show zAA.size f+_+zAA.size o=_
  omega
theorem zFT (f:zAT):(put n f D.files).length≤D.files.length+1:=by
 rw[zFu];exact Nat.succ_le_succ (zD7 _ _)
theorem zC8 (L:List (Bs×zAT))(h:D.fuse=none):(zAA.done {D with files:=L}).fuse=none:=by
 show D.fuse.map _=none
 rw[h];rfl
theorem jc_may (hn:okN n=true):(D.fuse=some 0∧D.may [n]=9)∨(D.fuse≠some 0∧D.may [n]=0):=by
 unfold zAA.may
 by_cases h:D.fuse=some 0
 ·exact .inl ⟨h,if_pos h⟩
 ·refine .inr ⟨h,?_⟩;rw[if_neg h];simp[hn]
theorem jc_append (h:Srt D.files)(hn:okN n=true):∃D' e,D.append n b=(D',e)∧Ch n b.length D D' ∧
  ((D'=D∧e≠0∧(e=9∧D.fuse=some 0∨D.room<D.used+b.length∨4096≤D.files.length))∨(e=0∧Sat.get n D'.files=some ⟨(D.cur n).data++b,(D.cur n).lasts⟩)):=by
 unfold zAA.append;rcases jc_may (D:=D) hn with⟨f,d⟩|⟨f,d⟩
 ·rw[d,if_pos (by decide)];exact⟨_,_,rfl,.refl h _,.inl ⟨rfl,by decide,.inl ⟨rfl,f⟩⟩⟩
 ·rw[d,if_neg (by decide)]
  by_cases c:D.full n b=true
  ·rw[if_pos c];refine⟨_,_,rfl,.refl h _,.inl ⟨rfl,by decide,.inr ?_⟩⟩;unfold zAA.full at c;simp only[Bool.or_eq_true,Bool.and_eq_true,decide_eq_true_eq]at c;exact c.elim .inl fun e=>.inr e.2
  ·rw[if_neg c];have g:=zEW (n:=n) h ⟨(D.cur n).data++b,(D.cur n).lasts⟩;have i:zAA.size (⟨(D.cur n).data++b,(D.cur n).lasts⟩:zAT)=zAA.size (D.cur n)+b.length:=List.length_append;refine⟨_,_,rfl,⟨zBq h,fun m d=>zBM h _ d,rfl,?_,zFT _,zC8 _⟩,.inr ⟨rfl,zBN h _ _⟩⟩
   show zBK zAA.size (put n _ D.files)≤_
   omega
theorem jc_one (g:Bs→zAT→List (Bs×zAT)→List (Bs×zAT))(D:zAA)(n:Bs):zAA.each g D [n]=zAA.each1 g D n:=by
 unfold zAA.each
 split
 ·next e =>
  unfold zAA.each;exact Prod.ext rfl e.symm
 ·rfl
theorem jc_sync (h:Srt D.files)(hn:okN n=true):∃D' e,D.sync [n]=(D',e)∧Ch n 0 D D' ∧
  ((D'=D∧e≠0∧(e=9∧D.fuse=some 0∨Sat.get n D.files=none))∨(e=0∧∃f,Sat.get n D.files=some f∧Sat.get n D'.files=some ⟨f.data,f.data.length⟩)):=by
 unfold zAA.sync;rw[jc_one];unfold zAA.each1;rcases jc_may (D:=D) hn with⟨c,b⟩|⟨c,b⟩
 ·rw[b,if_pos (by decide)];exact⟨_,_,rfl,.refl h _,.inl ⟨rfl,by decide,.inl ⟨rfl,c⟩⟩⟩
 ·rw[b,if_neg (by decide)];cases d:Sat.get n D.files with
  | none=>exact⟨_,_,rfl,.refl h _,.inl ⟨rfl,by decide,.inr rfl⟩⟩
  | some f =>
   have i:=zEW (n:=n) h ⟨f.data,f.data.length⟩;have g:zAA.size (D.cur n)=f.data.length:=by unfold zAA.cur;rw[d];rfl
   have j:zAA.size (⟨f.data,f.data.length⟩:zAT)=f.data.length:=rfl;refine⟨_,_,rfl,⟨zBq h,fun m b=>zBM h _ b,rfl,?_,zFT _,zC8 _⟩,.inr ⟨rfl,f,rfl,zBN h _ _⟩⟩
   show zBK zAA.size (put n _ D.files)≤_
   omega
theorem jc_used_del (h:Srt D.files):zBK zAA.size (del n D.files)≤D.used:=by
 unfold zAA.used;cases b:Sat.get n D.files with
 | none=>rw[zC3 b];exact Nat.le_refl _
 | some o=>rw[zC2 (f:=zAA.size) h b];omega
theorem jc_remove (h:Srt D.files)(hn:okN n=true):∃D' e,D.remove [n]=(D',e)∧Ch n 0 D D' ∧
  ((D'=D∧e≠0∧(e=9∧D.fuse=some 0∨Sat.get n D.files=none))∨(e=0∧Sat.get n D'.files=none)):=by
 unfold zAA.remove;rw[jc_one];unfold zAA.each1;rcases jc_may (D:=D) hn with⟨c,b⟩|⟨c,b⟩
 ·rw[b,if_pos (by decide)];exact⟨_,_,rfl,.refl h _,.inl ⟨rfl,by decide,.inl ⟨rfl,c⟩⟩⟩
 ·rw[b,if_neg (by decide)];cases d:Sat.get n D.files with
  | none=>exact⟨_,_,rfl,.refl h _,.inl ⟨rfl,by decide,.inr rfl⟩⟩
  | some f =>
   exact⟨_,_,rfl,⟨zCV h,fun m b=>zCg h b,rfl,jc_used_del h,Nat.le_trans (zD7 _ _) (Nat.le_succ _),zC8 _⟩,.inr ⟨rfl,zCX _ _⟩⟩
theorem jc_rid1 (h:Srt D.files)(hn:okN n=true):∃D' e,D.rid1 n=(D',e)∧Ch n 0 D D'∧((D'=D∧e=9∧D.fuse=some 0)∨(e=0∧Sat.get n D'.files=none)):=by
 unfold zAA.rid1;cases g:Sat.get n D.files with
 | none=>exact⟨_,_,rfl,.refl h _,.inr ⟨rfl,g⟩⟩
 | some f =>
  obtain⟨D',e,i,j,d⟩:=jc_remove h hn;refine⟨D',e,i,j,?_⟩;rcases d with⟨a,b,c|c⟩|d
  ·exact .inl ⟨a,c⟩
  ·rw[g]at c;cases c
  ·exact .inr d
theorem jc_trunc (h:Srt D.files)(hn:okN n=true){f:zAT}(d:Sat.get n D.files=some f){k:Nat}(i:k≤f.data.length):∃D' e,D.truncate n (k:Int)=(D',e)∧Ch n 0 D D' ∧
  ((D'=D∧e=9∧D.fuse=some 0)∨(e=0∧Sat.get n D'.files=some ⟨f.data.take k,min f.lasts k⟩)):=by
 unfold zAA.truncate;rcases jc_may (D:=D) hn with⟨c,b⟩|⟨c,b⟩
 ·rw[b,if_pos (by decide)];exact⟨_,_,rfl,.refl h _,.inl ⟨rfl,rfl,c⟩⟩
 ·rw[b,if_neg (by decide),d];dsimp only;rw[if_neg (by omega),Int.toNat_natCast];have j:=zEW (n:=n) h ⟨f.data.take k,min f.lasts k⟩;have g:zAA.size (D.cur n)=f.data.length:=by unfold zAA.cur;rw[d];rfl
  have l:zAA.size (⟨f.data.take k,min f.lasts k⟩:zAT)=min k f.data.length:=List.length_take;refine⟨_,_,rfl,⟨zBq h,fun m b=>zBM h _ b,rfl,?_,zFT _,zC8 _⟩,.inr ⟨rfl,zBN h _ _⟩⟩
  show zBK zAA.size (put n _ D.files)≤_
  omega
theorem jc_rename (h:Srt D.files){o:Bs}(l:okN o=true)(hn:okN n=true)(i:o≠n){f:zAT}(k:Sat.get o D.files=some f):∃D' e,D.rename o n=(D',e)∧Srt D'.files∧(∀m,m≠n→m≠o→Sat.get m D'.files=Sat.get m D.files)∧D'.room=D.room∧D'.used≤D.used∧D'.files.length≤D.files.length+1∧(D.fuse=none→D'.fuse=none) ∧
  ((D'=D∧e=9∧D.fuse=some 0)∨(e=0∧Sat.get n D'.files=some f∧Sat.get o D'.files=none)):=by
 unfold zAA.rename;have c:(D.fuse=some 0∧D.may [o,n]=9)∨(D.fuse≠some 0∧D.may [o,n]=0):=by
  unfold zAA.may
  by_cases h:D.fuse=some 0
  ·exact .inl ⟨h,if_pos h⟩
  ·refine .inr ⟨h,?_⟩;rw[if_neg h];simp[hn,l]
 rcases c with⟨j,c⟩|⟨j,c⟩
 ·rw[c,if_pos (by decide)];exact⟨_,_,rfl,h,fun _ _ _=>rfl,rfl,Nat.le_refl _,Nat.le_succ _,id,.inl ⟨rfl,rfl,j⟩⟩
 ·rw[c,if_neg (by decide),k];have b:Srt (del o D.files):=zCV h;refine⟨_,_,rfl,zBq b,fun m d g=>(zBM b _ d).trans (zCg h g),rfl,?_,?_,zC8 _,.inr ⟨rfl,zBN b _ _,(zBM b _ i).trans (zCX _ _)⟩⟩
  ·show zBK zAA.size (put n f (del o D.files))≤D.used
   have d:=zEW (D:={D with files:=del o D.files}) (n:=n) b f;have g:D.used=zAA.size f+zBK zAA.size (del o D.files):=zC2 (f:=zAA.size) h k;have p:(⟨D.room,del o D.files,D.fuse⟩:zAA).used=zBK zAA.size (del o D.files):=rfl;dsimp only at d;omega
  ·show(put n f (del o D.files)).length≤_
   have:=zFT (D:={D with files:=del o D.files}) (n:=n) f;have g:=zD7 o D.files;dsimp only at this;omega
end
structure RdIn (w:World)(r:Nat)(R:Rd)(p:Option Addr)(n c:Nat):Prop where
 cells:w.heap[r]?=some (.cells #[.slice p n c,.bool R.bad] 232 (0,0))
 has:zAY w (.slice p n c) R.rest
 cap:n≤c
 ne:(Value.slice p n c).ownBlock≠some r
 len:R.rest.length≤140737488355328
def RdAt (w:World)(r:Nat)(R:Rd):Prop:=∃p n c,RdIn w r R p n c
section
variable {w:World} {r:Nat} {R:Rd} {p:Option Addr} {n c:Nat}
theorem RdIn.c0 (h:RdIn w r R p n c):w.cell? ⟨r,0,none⟩=some (.slice p n c):=zAG h.cells rfl
theorem RdIn.c1 (h:RdIn w r R p n c):w.cell? ⟨r,1,none⟩=some (.bool R.bad):=zAG h.cells rfl
theorem RdIn.n_eq (h:RdIn w r R p n c):R.rest.length=n:=by obtain⟨_,_,e⟩:=h.has.slice;simp only[Value.slice.injEq]at e;exact e.2.1.symm
theorem RdIn.rlt (h:RdIn w r R p n c):r<w.heap.size:=(Array.getElem?_eq_some_iff.1 h.cells).1
theorem rd_set (h:RdIn w r R p n c)(b d:Value):((w.setCell ⟨r,0,none⟩ b).setCell ⟨r,1,none⟩ d).heap[r]?=some (.cells #[b,d] 232 (0,0)):=by
 have f:=zAC h.cells 0 b;have g:=zAC f 1 d;simpa using g
theorem rd_set0 (h:RdIn w r R p n c)(b:Value):(w.setCell ⟨r,0,none⟩ b).heap[r]?=some (.cells #[b,.bool R.bad] 232 (0,0)):=by
 have d:=zAC h.cells 0 b;simpa using d
theorem zAY.empty (w:World)(a:Option Addr)(c:Nat):zAY w (.slice a 0 c) []:=⟨rfl,a,c,rfl,fun _=>rfl,fun d _ i u b=>(by simp[zAQ]at b)⟩
theorem run_tail0 {P:Program}(w:World){t e:TypeId}{i:TypeInfo}(j:P.underlying t=some (.slice e))(g:P.info? e=some i)(d:i.size=1)(p:Option Addr)(b c k:Nat)(h:k≤b)(_h2:b≤c) :
  (Instr.slice t (.slice p b c) (some (.int .i64 (k:Int))) none none).run P w=.ok (.slice (if c=k then p else p.map fun x=>x.add k) (b-k) (c-k)) w:=by
 have f:(Instr.sliceBound (.int .i64 (k:Int)) b .sliceB).run P w=.ok k w:=by
  rw[run_sliceBound _ _ _ _ _ (by omega) (by omega)];simp
 simp[Instr.slice,run_underlying j,Instr.sliceBounds,f,sizeOf,typeInfo,g,Result.andThen,d]
theorem run_tail {P:Program}{w:World}{t e:TypeId}{i:TypeInfo}(A:P.underlying t=some (.slice e))(y:P.info? e=some i)(j:i.size=1){p:Option Addr}{n c:Nat}{l:Bs}(h:zAY w (.slice p n c) l)(f:n≤c)(r k:Nat)(b:(Value.slice p n c).ownBlock≠some r)(z:k≤n) :
  ∃p' c',(∀W,(Instr.slice t (.slice p n c) (some (.int .i64 (k:Int))) none none).run P W=.ok (.slice p' (n-k) c') W)∧zAY w (.slice p' (n-k) c') (l.drop k)∧n-k≤c'∧(Value.slice p' (n-k) c').ownBlock≠some r:=by
 have q:l.length=n:=by obtain⟨_,_,e⟩:=h.slice;simp only[Value.slice.injEq]at e;exact e.2.1.symm
 refine⟨_,_,fun W=>run_tail0 (P:=P) W A y j p n c k z f,?_,by omega,?_⟩
 ·by_cases d:k=n
  ·subst d;rw[List.drop_of_length_le (by omega),Nat.sub_self];exact zAY.empty _ _ _
  ·rw[if_neg (show ¬c=k by omega)];rcases h.at with v|⟨g,o,B,m,C⟩
   ·rw[v]at q;simp at q;omega
   ·simp only[Value.slice.injEq]at m;obtain⟨rfl,-,-⟩:=m;have s:(some (⟨g,o,none⟩:Addr)).map (fun x=>x.add k)=some ⟨g,o+k,none⟩:=by simp[Addr.add]
    rw[s];exact zAY.from h (by omega) _
 ·split
  ·cases p<;>exact b
  ·cases p with
   | none=>intro e;cases e
   | some a =>
    intro e;refine b ?_;rw[←e];simp[Value.ownBlock,zDX]
theorem zAY.set {w:World}{v:Value}{l:Bs}(h:zAY w v l){a:Addr}(u:Value)(b:v.ownBlock≠some a.block):zAY (w.setCell a u) v l :=
 zAM.keep h fun k c=>set_other u fun e=>b (by rw[c,e])
end
theorem zGT (k:Nat):2 ^ (7*k)=128 ^ k:=by rw[Nat.pow_mul]
theorem zGi {k a x:Nat}(d:a<128 ^ k)(f:k≤8)(g:x<256) :
  bits .or .u64 (a:Int) (IntKind.u64.wrap (IntKind.u64.wrap (bits .and .u8 (x:Int) 127)*2 ^ (7*k)))=((a+x%128*128 ^ k:Nat):Int)∧a+x%128*128 ^ k<128 ^ (k+1)∧a+x%128*128 ^ k<9223372036854775808:=by
 have b:bits .and .u8 (x:Int) 127=((x%128:Nat):Int):=by
  have:=u8_and_nat x 127 g (by decide);rw[Nat.and_two_pow_sub_one_eq_mod x 7]at this;exact this
 have j:x%128<128:=Nat.mod_lt _ (by decide);generalize x%128=y at *;have l:128 ^ k≤128 ^ 8:=Nat.pow_le_pow_right (by decide) f;have i:(128:Nat) ^ 8=72057594037927936:=by decide
 have n:y*128 ^ k≤127*128 ^ k:=Nat.mul_le_mul_right _ (by omega);have m:128 ^ (k+1)=128 ^ k*128:=Nat.pow_succ _ _;have c:((y:Nat):Int)*2 ^ (7*k)=((y*128 ^ k:Nat):Int):=by
  rw[←zGT,Int.natCast_mul,Int.natCast_pow];rfl
 rw[b,IntWalk.u64_in ((y:Nat):Int) (by omega),c,IntWalk.u64_in ((y*128 ^ k:Nat):Int) (by omega),u64_or_nat _ _ (by omega) (by omega),←zGT,or_add (7*k) a y (by rw[zGT];exact d),zGT];refine⟨rfl,by omega,by omega⟩
theorem zAN {w:World}{e:TypeId}{v:Value}{l:Bs}(h:zAj w e v l):∃p c,v=.slice p l.length c∧l.length≤c:=by
 rcases h.2 with⟨rfl,hn⟩|⟨g,b,cur,rfl,_,d,_⟩
 ·exact⟨none,0,by rw[hn],by omega⟩
 ·exact⟨_,b,rfl,d⟩
def RdHd (w:World)(r:Nat)(R:Rd):Prop:=∃p n c,w.heap[r]?=some (.cells #[.slice p n c,.bool R.bad] 232 (0,0))∧R.rest.length=n
theorem RdAt.hd {w:World}{r:Nat}{R:Rd}(h:RdAt w r R):RdHd w r R:=let ⟨p,n,c,h⟩:=h;⟨p,n,c,h.cells,h.n_eq⟩
theorem RdHd.same {w w':World}{r:Nat}{R:Rd}(h:RdHd w r R)(b:w'.heap[r]?=w.heap[r]?):RdHd w' r R:=let ⟨p,n,c,h,e⟩:=h;⟨p,n,c,b.trans h,e⟩
theorem good_calls {w:World}{r:Nat}{R:Rd}(h:RdHd w r R) :
  Calls prog 194 #[.pointer (some ⟨r,0,none⟩)] w fun e w'=>e=.returned (.bool (!R.bad))∧w'=w:=by
 obtain⟨p,n,c,h,-⟩:=h;have b:w.cell? ⟨r,1,none⟩=some (.bool R.bad):=zAG h rfl;clear h
 go_enter func194,ntmps194
 go_wp2_with fail;go_ret;exact⟨rfl,rfl⟩
theorem zDh {w:World}{r:Nat}{R:Rd}(h:RdHd w r R) :
  Calls prog 153 #[.pointer (some ⟨r,0,none⟩)] w fun e w'=>e=.returned (.bool R.whole)∧w'=w:=by
 have d:=zh (good_calls h);obtain⟨p,n,c,h,hn⟩:=h;have i:w.cell? ⟨r,0,none⟩=some (.slice p n c):=zAG h rfl;have b:=zW (R.whole=(!R.bad&&R.rest.isEmpty)) rfl;have g:=zW (R.rest.isEmpty=((n:Int)==0)) (by
  rw[Bool.eq_iff_iff,List.isEmpty_iff,←List.length_eq_zero_iff,hn];simp)
 clear h hn;cases f:R.bad with
 | true =>
  rw[f]at d b
  go_enter func153,ntmps153
  go_wp2_with fail;refine d.o.mono ?_;rintro e w1 ⟨rfl,rfl⟩;go_wp2_with fail;go_ret;exact⟨by rw[b.o];rfl,rfl⟩
 | false =>
  rw[f]at d b
  go_enter func153,ntmps153
  go_wp2_with fail;refine d.o.mono ?_;rintro e w1 ⟨rfl,rfl⟩;go_wp2_with fail;go_ret;exact⟨by rw[b.o,g.o];rfl,rfl⟩
structure WrIn (w:World)(k:Nat)(v:Value)(l:Bs):Prop where
 cells:w.heap[k]?=some (.cells #[v] 163 (0,0))
 row:zAj w 5 v l
 ne:v.ownBlock≠some k
def WrS (k:Nat)(v:Value)(j:Nat):Prop:=j=k∨v.ownBlock=some j
def zBl (w:World)(k:Nat)(v:Value)(b:Bs)(w':World):Prop :=
 ∃v',WrIn w' k v' b∧Chg (WrS k v) w w'∧∀j,v'.ownBlock=some j→v.ownBlock=some j∨w.heap.size≤j
def WrTold (w:World)(k:Nat)(v:Value)(b:Bs)(e:Ending)(w':World):Prop:=e=.returned (.tuple #[])∧zBl w k v b w'
section
variable {w w1 w2:World} {k:Nat} {v:Value} {l l1 l2:Bs}
theorem WrIn.c0 (h:WrIn w k v l):w.cell? ⟨k,0,none⟩=some v:=zAG h.cells rfl
theorem WrIn.klt (h:WrIn w k v l):k<w.heap.size:=(Array.getElem?_eq_some_iff.1 h.cells).1
theorem zBl.refl (h:WrIn w k v l):zBl w k v l w:=⟨v,h,Chg.refl _ _,fun _ h=>.inl h⟩
theorem zBl.trans (h:zBl w k v l1 w1)(_hk:k<w.heap.size)(f:∀d,WrIn w1 k d l1→zBl w1 k d l2 w2):zBl w k v l2 w2:=by
 obtain⟨d,n,b,c⟩:=h;obtain⟨v2,f,g,i⟩:=f d n;refine⟨v2,f,b.trans g fun j m l=>?_,fun j m=>?_⟩
 ·rcases l with rfl|l
  ·exact .inl rfl
  ·rcases c j l with h|h
   ·exact .inr h
   ·omega
 ·rcases i j m with h|h
  ·exact c j h
  ·exact .inr (Nat.le_trans b.size h)
theorem zBl.go {f:Value}(m:WrIn w1 k f l1)(g:Chg (WrS k v) w w1)(hn:∀j,f.ownBlock=some j→v.ownBlock=some j∨w.heap.size≤j)(n:k<w.heap.size)(h:zBl w1 k f l2 w2):zBl w k v l2 w2:=by
 obtain⟨v2,l,b,c⟩:=h;refine⟨v2,l,g.trans b fun j i d=>?_,fun j i=>?_⟩
 ·rcases d with rfl|d
  ·exact .inl rfl
  ·rcases hn j d with h|h
   ·exact .inr h
   ·omega
 ·rcases c j i with h|h
  ·exact hn j h
  ·exact .inr (Nat.le_trans g.size h)
theorem zBl.ahead (f:Below w.heap.size w w1)(_h:WrIn w k v l)(b:zBl w1 k v l2 w2):zBl w k v l2 w2:=by
 obtain⟨v2,b,c,d⟩:=b;exact⟨v2,b,((Chg.of_below f).mono fun _ _ h=>h.elim).trans c fun _ _ i=>i,fun j g=>(d j g).imp id (Nat.le_trans f.size)⟩
theorem WrIn.keep (h:WrIn w k v l)(b:Below w.heap.size w w1):WrIn w1 k v l :=
 ⟨(b.block k h.klt).trans h.cells,OwnR.keep h.row fun _ c=>b.block _ (OwnR.lt h.row c),h.ne⟩
theorem WrIn.grown {q:World}{v':Value}{m:Bs}(h:WrIn w k v l)(n:Below w.heap.size w q)(f:OwnR w1 5 1 v' (l.length+m.length) (zAQ l++zAQ m))(s:q.grownBy w1 v.ownBlock)(c:v'.ownBlock=v.ownBlock∨∃g,v'.ownBlock=some g∧q.heap.size≤g) :
  zBl w k v (l++m) (w1.setCell ⟨k,0,none⟩ v'):=by
 have t:=h.klt;have y:=n.size;have p:w1.heap[k]?=some (.cells #[v] 163 (0,0)):=(s.block k (by omega) fun e=>h.ne e.symm).trans ((n.block k t).trans h.cells);have b:∀j,v'.ownBlock=some j→v.ownBlock=some j∨w.heap.size≤j:=fun j i=>by
  rcases c with e|⟨g,e,o⟩
  ·exact .inl (e▸i)
  ·rw[i]at e;cases e;exact .inr (Nat.le_trans y o)
 have d:v'.ownBlock≠some k:=fun e=>by
  rcases b k e with r|r
  ·exact h.ne r
  ·omega
 refine⟨v',⟨?_,?_,d⟩,?_,b⟩
 ·have:=zAC p 0 v';simpa using this
 ·have:zAj w1 5 v' (l++m):=by
   unfold zAj;rw[zBs,List.length_append];exact f
  exact OwnR.keep this fun j i=>set_other _ fun e=>d (by rw[i];exact congrArg some e)
 ·refine(((Chg.of_below n).mono fun _ _ h=>h.elim).trans (Chg.of_grown s) fun j _ e=>.inr e.symm).trans (Chg.setCell _ ⟨k,0,none⟩ _) fun j _ e=>.inl e
theorem wraw_calls (h:WrIn w k v l){p:Option Addr}{n c:Nat}{m:Bs}(y:zAY w (.slice p n c) m)(P:l.length+m.length≤140737488355328) :
  Calls prog 104 #[.pointer (some ⟨k,0,none⟩),.slice p n c] w (WrTold w k v (l++m)):=by
 obtain⟨L,J,z,A,B⟩:=info_parts (show(prog.info? 5).map (fun i=>(i.zero,i.size,i.bytes))=some (some (.int .u8 0),1,1) by kernel_rfl);have hn:m.length=n:=by obtain⟨_,_,e⟩:=y.slice;simp only[Value.slice.injEq]at e;exact e.2.1.symm
 subst hn;have M:=h.c0;have j:=h.row;have I:=zh y;have s:=zh h;clear h y;generalize F:l.length=a at *;have C:=zh F;generalize G:m.length=b at *;have D:=zh G;clear F G;have r:=zh (show OwnR w 5 1 v a (zAQ l) by have:=j;unfold zAj at this;rwa[C.o]at this);have t:=zh (show zAM w 1 (.slice p b c) b (zAQ m) by have:=I.o;unfold zAY at this;rwa[D.o]at this);clear j
 go_enter func104,ntmps104
 go_wp2_with (at_builtin;refine zAP _ rfl (.tmp 10) (.tmp 11) 22 rfl 5 L (.int .u8 0) 1 1 underlying22 J z A B rfl (by decide) v a _ rfl r.o (.slice p b c) b _ rfl t.o (zAO _) (by unfold maxLen;omega) (by omega) ?_;intro R w1 f d g;go_loud (have E:=WrIn.grown (m:=m) s.o (Below.refl _ _) (by rw[C.o,D.o];exact f) d g;have q:=(d.block k s.o.klt fun e=>s.o.ne e.symm).trans s.o.cells;have N:=zAW q;have O:=zAE q 0;have H:=zh E;clear q E d g;obtain⟨Q,q1,rfl⟩:=OwnR.shape f;clear f))
 go_end0
 exact⟨rfl,H.o⟩
end
def zBe (w:World)(v:Value)(zs:List Int):Prop:=zAM w 1 v zs.length (zs.map (Value.int .i64))
theorem zBe.at {w:World}{v:Value}{l:List Int}(h:zBe w v l):l=[]∨∃b o c,v=.slice (some ⟨b,o,none⟩) l.length c∧∀i x,l[i]?=some x→w.cell? ⟨b,o+i,none⟩=some (.int .i64 x):=by
 obtain⟨q,p,c,rfl,g,f⟩:=h;cases p with
 | none=>exact .inl (List.length_eq_zero_iff.1 (g rfl))
 | some a =>
  cases l with
  | nil=>exact .inl rfl
  | cons x r =>
   obtain⟨b,o,n⟩:=a;have j:=f _ rfl 0 (.int .i64 x) (by simp);have d:n=none:=by
    have:=World.cell?_spot j;simpa[Addr.add]using this
   subst d;refine .inr ⟨b,o,c,rfl,fun i y m=>?_⟩;have k:=f _ rfl i (.int .i64 y) (by rw[List.getElem?_map,m];rfl);have e:(⟨b,o,none⟩:Addr).add i=⟨b,o+i,none⟩:=by unfold Addr.add;split<;>simp_all
   rw[←e];exact k
theorem zBe.slice {w:World}{v:Value}{l:List Int}(h:zBe w v l):∃p c,v=.slice p l.length c:=by
 obtain⟨_,p,c,e,_⟩:=h;exact⟨p,c,e⟩
theorem numsI_take {zs:List Int}{j:Nat}(b:j<zs.length):zAp (zs.take (j+1))=zAp (zs.take j)++zDj zs[j]:=by
 rw[List.take_succ_eq_append_getElem b];simp only[zAp,List.map_append,List.map_cons,List.map_nil,List.flatten_append,List.flatten_cons,List.flatten_nil,List.append_nil]
theorem zBI (z:Int):(zDj z).length≤9:=zAg (by omega)
theorem zA9 (zs:List Int):(zAp zs).length≤9*zs.length:=by
 induction zs with
 | nil=>simp[zAp]
 | cons z r ih =>
  have:=zBI z;simp only[zAp,List.map_cons,List.flatten_cons,List.length_append,List.length_cons]at ih ⊢;omega
theorem or_high (a:Nat):bits .or .u8 ((a:Int)%256) 128=(((UInt8.ofNat (a%128+128)).toNat:Nat):Int):=by
 have b:(a:Int)%256=((a%256:Nat):Int):=by omega
 have c:∀y:Fin 256,(y.val ||| 128)=y.val%128+128:=by decide +kernel
 have d:(a%256 ||| 128)=a%256%128+128:=c ⟨a%256,by omega⟩;rw[b];have f:=u8_or_nat (a%256) 128 (by omega) (by decide);refine Eq.trans f ?_;rw[d,UInt8.toNat_ofNat'];omega
theorem zDG (w:World)(o:Obj){k:Nat}(h:k<w.heap.size):(w.alloc o).heap[k]?=w.heap[k]?:=((Below.refl w.heap.size w).alloc (Nat.le_refl _) o).block k h
theorem zC9 {w:World}{e:TypeId}{v:Value}{n:Nat}{xs:List Value}(h:OwnR w e 1 v n xs)(o:Obj):OwnR (w.alloc o) e 1 v n xs:=h.keep fun _ b=>zDG w _ (OwnR.lt h b)
theorem zE6 (w:World)(x:UInt8):zAM (w.alloc (.cells #[.int .u8 (x.toNat:Int)] 5)) 1 (.slice (some ⟨w.heap.size,0,none⟩) 1 1) 1 (zAQ [x]):=has_lit #[.int .u8 (x.toNat:Int)] [x] _ 1 1 rfl rfl rfl
theorem zF2 {w:World}{k:Nat}{v:Value}{l:Bs}(h:WrIn w k v l){p:Option Addr}{n c:Nat}{zs:List Int}(L:∀W,Chg (WrS k v) w W→zBe W (.slice p n c) zs)
  (hz:∀z∈zs,-9223372036854775808≤z∧z≤9223372036854775807) (hl:l.length+9*zs.length≤140737488355000) :
  Calls prog 105 #[.pointer (some ⟨k,0,none⟩),.slice p n c] w (WrTold w k v (l++zAp zs)):=by
 obtain⟨i0,hi,X,Y,Z⟩:=info_parts (show(prog.info? 5).map (fun i=>(i.zero,i.size,i.bytes))=some (some (.int .u8 0),1,1) by kernel_rfl);have hn:zs.length=n:=by obtain⟨_,_,e⟩:=(L w (Chg.refl _ _)).slice;simp only[Value.slice.injEq]at e;exact e.2.1.symm
 have Hn:=zh hn;have Hx:=zh L;have Hz:=zh hz;have ae:n≤140737488355000:=by omega
 have Hl:=zh hl;have H0:=zh (zBl.refl h);have Hk:=zh h.klt;clear L hz hl h hn
 go_enter func105,ntmps105
 go_wp2_with fail
 go_loopw [11] (fun i wr=>∃j:Nat,j≤n∧i=.int .i64 j∧zBl w k v (l++zAp (zs.take j)) wr) (fun i _=>n-(intOf i).toNat)
 case atStart=>exact⟨0,Nat.zero_le _,rfl,by simpa[zAp]using H0.o⟩
 case round =>
  obtain⟨j,hj,rfl,y⟩:=hrel
  by_cases ad:j<n
  ·have t:j<zs.length:=by rw[Hn.o];exact ad
   obtain⟨v1,V,J,T⟩:=y;rcases(Hx.o wr J).at with h0|⟨b,o,c2,e2,hcell⟩
   ·rw[h0]at t;simp at t
   rw[Hn.o]at e2;simp only[Value.slice.injEq]at e2;obtain⟨rfl,-,rfl⟩:=e2;have aj:=hcell j _ (List.getElem?_eq_getElem t);obtain⟨af,ag⟩:=Hz.o _ (List.getElem_mem t);have ac:=zh (numsI_take t);generalize zs[j]=z at *;have ab:=zW (zBl w k v (l++zAp (zs.take j)) wr) (⟨v1,V,J,T⟩);clear hcell V J T t;obtain⟨N,hN,Q⟩:∃N:Nat,max 0 (min z 4611686018427387904)=(N:Int)∧N≤4611686018427387904:=⟨(max 0 (min z 4611686018427387904)).toNat,by omega,by omega⟩;have HN:=zh (show zDj z=zEB N by unfold zDj;rw[hN];rfl);have aa:=zW ((l++zAp (zs.take j)++zEB N).length≤140737488355200) (by
    have h1:=zA9 (zs.take j);have h2:=zAg Q;have h3:=Hl.o;have h4:(zs.take j).length≤zs.length:=by rw[List.length_take];omega
    rw[List.length_append,List.length_append];omega)
   go_wp2_with fail
   go_loopw [6] (fun u wi=>∃(a:Nat) (cur:Bs),u=.int .u64 a∧a≤4611686018427387904∧zBl w k v cur wi∧cur++zEB a=l++zAp (zs.take j)++zEB N) (fun u _=>(intOf u).toNat)
   case atStart=>exact⟨N,_,rfl,Q,ab.o,rfl⟩
   case round =>
    obtain⟨a,cur,rfl,ha,y,C⟩:=hrel;have S:=aa.o;rw[←C,List.length_append]at S;have ai:=numB_len a;obtain⟨v2,E,R,U⟩:=y;have H:=E.klt;have c2:=E.c0;have q:=zh E;have s:=zh (And.intro R U);have F:=zh C;clear R U E C;generalize hL:cur.length=m at *;have K:=zh hL;clear hL;have G:=zh (show OwnR wr 5 1 v2 m (zAQ cur) by have:=q.o.row;unfold zAj at this;rwa[K.o]at this)
    by_cases O:128≤a
    ·have I:=zh (zEC O);have ak:=or_high a;generalize UInt8.ofNat (a%128+128)=x at *;go_wp2_with (at_builtin;have B:=zC9 G.o (.cells #[.int .u8 (x.toNat:Int)] 5);have D:=zE6 wr x;refine zAP _ rfl (.tmp 27) (.tmp 31) 22 rfl 5 i0 (.int .u8 0) 1 1 underlying22 hi X Y Z rfl (by decide) v2 m _ rfl B (.slice (some ⟨wr.heap.size,0,none⟩) 1 1) 1 _ rfl D (zAO _) (by unfold maxLen;omega) (by omega) ?_;clear B D;intro v3 w3 f d g;go_loud (have P:=WrIn.grown (m:=[x]) q.o ((Below.refl _ _).alloc (Nat.le_refl _) _) (by rw[K.o];exact f) d g;have r:=(d.block k (by simp;omega) fun e=>q.o.ne e.symm).trans ((zDG wr (.cells #[.int .u8 (x.toNat:Int)] 5) H).trans q.o.cells);have c3:=zAW r;have f3:=zAE r 0;have M:=zh P;clear r P d g;obtain⟨p3,q3,rfl⟩:=OwnR.shape f;clear f))
     go_roundw
     case rel=>exact⟨a/128,cur++[x],by first|rfl|go_num,by omega,zBl.go q.o s.o.1 s.o.2 Hk.o M.o,by rw[←F.o,I.o];simp⟩
     case measure=>simp[intOf];omega
    ·have A:=zh (zCu (n:=a) (by omega));obtain⟨x,L⟩:∃x:UInt8,a=x.toNat:=⟨UInt8.ofNat a,by rw[UInt8.toNat_ofNat'];omega⟩;rw[show UInt8.ofNat a=x by rw[L];simp]at A;subst L;have al:(x.toNat:Int)%256=(x.toNat:Int):=by omega
     have ah:=x.toNat_lt;go_wp2_with (at_builtin;have B:=zC9 G.o (.cells #[.int .u8 (x.toNat:Int)] 5);have D:=zE6 wr x;refine zAP _ rfl (.tmp 39) (.tmp 42) 22 rfl 5 i0 (.int .u8 0) 1 1 underlying22 hi X Y Z rfl (by decide) v2 m _ rfl B (.slice (some ⟨wr.heap.size,0,none⟩) 1 1) 1 _ rfl D (zAO _) (by unfold maxLen;omega) (by omega) ?_;clear B D;intro v3 w3 f d g;go_loud (have P:=WrIn.grown (m:=[x]) q.o ((Below.refl _ _).alloc (Nat.le_refl _) _) (by rw[K.o];exact f) d g;have r:=(d.block k (by simp;omega) fun e=>q.o.ne e.symm).trans ((zDG wr (.cells #[.int .u8 (x.toNat:Int)] 5) H).trans q.o.cells);have c3:=zAW r;have f3:=zAE r 0;have M:=zh P;clear r P d g;obtain⟨p3,q3,rfl⟩:=OwnR.shape f;clear f))
     go_roundw
     case rel=>exact⟨j+1,by omega,by go_num,by
      rw[ac.o,HN.o,←List.append_assoc,←F.o,A.o];exact zBl.go q.o s.o.1 s.o.2 Hk.o M.o⟩
     case measure=>simp[intOf];omega
  ·have he:zs.take j=zs:=List.take_of_length_le (by rw[Hn.o];omega);rw[he]at y;have M:=zh y;clear y he;go_wp2_with fail
   go_end0
   exact⟨rfl,M.o⟩
theorem zBe.one {w:World}(z:Int)(e:TypeId)(b:Nat×Nat)(g c:Nat)(f:g=w.heap.size):zBe (w.alloc (.cells #[.int .i64 z] e b)) (.slice (some ⟨g,0,none⟩) 1 c) [z]:=by
 subst f;refine⟨by simp,some ⟨w.heap.size,0,none⟩,c,rfl,fun e=>(by cases e),fun a d i u j=>?_⟩;cases d;rw[add_zero];refine zAG (zAI w _) ?_;simpa using j
theorem zBl.told {w:World}{k:Nat}{v:Value}{l:Bs}{w':World}(h:zBl w k v l w'):WrTold w k v l (.returned (.tuple #[])) w':=⟨rfl,h⟩
theorem wnum_one {w:World}{k:Nat}{v:Value}{l:Bs}(h:WrIn w k v l)(z:Int)(r:-9223372036854775808≤z∧z≤9223372036854775807)(p:l.length+9≤140737488355000)(g c:Nat)(i:g=w.heap.size)(b:Nat×Nat) :
  Calls prog 105 #[.pointer (some ⟨k,0,none⟩),.slice (some ⟨g,0,none⟩) 1 c] (w.alloc (.cells #[.int .i64 z] 3 b)) (WrTold (w.alloc (.cells #[.int .i64 z] 3 b)) k v (l++zDj z)):=by
 have d:=h.keep ((Below.refl _ _).alloc (Nat.le_refl _) (.cells #[.int .i64 z] 3 b));have m:=zBe.one (w:=w) z 3 b g c i;have H:=zF2 d (zs:=[z]) (fun W f=>zAM.chg m f fun j n q=>by
  have o:j=g:=by cases n;rfl
  rcases q with e|e
  ·have:=h.klt;omega
  ·have:=OwnR.lt h.row e;omega) (by simpa using r) (by simpa using p)
 rwa[show zAp [z]=zDj z by simp[zAp]]at H
def OneRel (b:World)(k:Nat)(v:Value)(l:Bs)(i:Value)(wr:World):Prop:=(i=.int .i64 0∧wr=b)∨(i=.int .i64 1∧zBl b k v l wr)
theorem wbytes_one {w:World}{k:Nat}{v:Value}{l:Bs}(h:WrIn w k v l){pv:Option Addr}{m cv:Nat}{x:Bs}(H:∀W,Chg (WrS k v) w W→zAY W (.slice pv m cv) x)(L:l.length+x.length≤140737488354000)(g c:Nat)(J:g=w.heap.size)(t:Nat×Nat) :
  Calls prog 127 #[.pointer (some ⟨k,0,none⟩),.slice (some ⟨g,0,none⟩) 1 c] (w.alloc (.cells #[.slice pv m cv] 22 t)) (WrTold (w.alloc (.cells #[.slice pv m cv] 22 t)) k v (l++zFB x)):=by
 have M:x.length=m:=by obtain⟨_,_,e⟩:=(H w (Chg.refl _ _)).slice;simp only[Value.slice.injEq]at e;exact e.2.1.symm
 have p:Below w.heap.size w (w.alloc (.cells #[.slice pv m cv] 22 t)):=(Below.refl _ _).alloc (Nat.le_refl _) _;have F:=h.keep p;have A:∀W,Chg (WrS k v) (w.alloc (.cells #[.slice pv m cv] 22 t)) W→zAY W (.slice pv m cv) x:=fun W S=>H W (((Chg.of_below p).mono fun _ _ h=>h.elim).trans S fun _ _ h=>h);have G:(w.alloc (.cells #[.slice pv m cv] 22 t)).cell? ⟨g,0,none⟩=some (.slice pv m cv):=by rw[J];exact zAG (zAI w _) rfl
 have T:∀j,WrS k v j→j≠g:=fun j B e=>by
  have F:=h.klt;rcases B with B|B
  ·omega
  ·have:=OwnR.lt h.row B;omega
 clear J H p;generalize w.alloc (.cells #[.slice pv m cv] 22 t)=R at *;have N:m≤140737488354000:=by omega
 have O:=zh M;have Q:=zh A;have C:=zh F;have I:=zh L;clear M h F A L
 go_enter func127,ntmps127
 go_wp2_with fail
 go_loopw [8] (OneRel R k v (l++zFB x)) (fun i _=>1-(intOf i).toNat)
 case atStart=>exact .inl ⟨rfl,rfl⟩
 case round =>
  rcases hrel with⟨rfl,rfl⟩|⟨rfl,z⟩
  ·have r:=wnum_one C.o (m:Int) (by omega) (by have:=I.o;omega) wr.heap.size 1 rfl (0,0);rw[zB7 (show m≤4611686018427387904 by omega)]at r;have E:=zh r;clear r;go_wp2_with fail;refine E.o.mono ?_;rintro e w2 ⟨rfl,b⟩;have a:=zBl.ahead ((Below.refl _ _).alloc (Nat.le_refl _) _) C.o b;obtain⟨v2,s,q,y⟩:=a;have P:=zh (wraw_calls s (Q.o w2 q) (by
    rw[List.length_append];have:=zAg (n:=m) (by omega);have:=I.o;omega))
   have f:=zh (And.intro s (And.intro q y));clear b s q y;go_wp2_with fail;refine P.o.mono ?_;rintro e w3 ⟨rfl,d⟩;have D:=zW (zBl wr k v (l++zFB x) w3) (by
    have:=zBl.go f.o.1 f.o.2.1 f.o.2.2 C.o.klt d;rwa[List.append_assoc,←O.o]at this)
   clear d;go_wp2_with fail;go_roundw
   case rel=>exact .inr ⟨rfl,D.o⟩
   case measure=>simp[intOf]
  ·have D:=zh z;clear z;go_wp2_with fail
   go_end0
   exact⟨rfl,D.o⟩
theorem wout_calls {w:World}{k:Nat}{v:Value}{l:Bs}(h:WrIn w k v l)(i:l.length≤140737488355328) :
  Calls prog 106 #[.pointer (some ⟨k,0,none⟩)] w fun e w'=>∃v,e=.returned v∧zAj w' 5 v l∧(∀j,v.ownBlock=some j→w.heap.size≤j)∧Below w.heap.size w w':=by
 have n:=h.c0;have g:=zh (zB0 h.row.has i);clear h
 go_enter func106,ntmps106
 go_wp2_with fail;refine g.o.mono ?_;rintro e w1 ⟨m,rfl,d,b,c⟩;have f:=zh (And.intro d (And.intro b c));clear d b c;go_wp2_with fail;go_ret;exact⟨m,rfl,f.o⟩
end Go.Proofs.YtapfnehdgailmaaGreat
namespace Go.Sat
open Go.RowKit
theorem own_cut {w:World}{e:TypeId}{p:Option Addr}{n c:Nat}{l:Bs}(h:zAj w e (.slice p n c) l){y:Nat}(r:y≤l.length):zAj w e (.slice p y y) (l.take y):=by
 have f:(l.take y).length=y:=by rw[List.length_take];omega
 unfold zAj;rw[f];refine⟨by rw[zFK,f];omega,?_⟩;rcases h.2 with⟨b,hn⟩|⟨g,i,cur,b,m,o,j,k,q⟩
 ·cases b;have d:y=0:=by omega
  subst d;exact .inl ⟨rfl,rfl⟩
 ·cases b;refine .inr ⟨g,y,cur,rfl,m,Nat.le_refl _,by omega,by omega,?_⟩;rw[zFm,←q,List.take_take]
  congr 1
  omega
end Go.Sat
namespace Go.Proofs.YtapfnehdgailmaaGreat
open Go.RowKit Go.Sat Go.Maps
theorem ok_trunc {D:zAA}(h:D.OK){n:Bs}{f:zAT}(c:Sat.get n D.files=some f)(k:Nat):zAA.OK {D with files:=put n ⟨f.data.take k,min f.lasts k⟩ D.files} where
 srt:=zBq h.srt
 room:=h.room
 used:=by
  show zBK zAA.size (put n _ D.files)≤D.room
  rw[sum_put];have d:D.used=zAA.size f+zBK zAA.size (del n D.files):=zC2 h.srt c;have:=h.used;simp only[zAA.size,List.length_take]at d ⊢;omega
 count:=by
  show(put n _ D.files).length≤4096
  rw[zFu];have:=len_del h.srt c;have:=h.count;omega
 names p b:=by
  rcases zBk.1 b with rfl|⟨b,_⟩
  ·exact(h.names (n,f) (zBu c):okN n=true)
  ·exact h.names p b
 lasts p b:=by
  rcases zBk.1 b with rfl|⟨b,_⟩
  ·have d:f.lasts≤f.data.length:=h.lasts (n,f) (zBu c)
   show min f.lasts k≤(f.data.take k).length
   rw[List.length_take];omega
  ·exact h.lasts p b
 fuse:=h.fuse
section
variable {w:World} {d m:Nat} {left:Int} {L:List (Bs×zCA)} {own:Own} {D:zAA}
theorem trunc_bad (h:zAa w d m left L own D)(o:ByteArray)(g:o.size≤9223372036854775807)(z:Int)(p:D.may [nm o]≠0) :
  Calls prog 156 #[.pointer (some ⟨d,0,none⟩),.string o,.int .i64 z] w (zDS w d own (D,D.may [nm o])):=by
 have c:=h.chg (Chg.alloc w (.cells #[.string o] 9)) (fun k l=>l.elim);have f:=zBj c _ [o] 1 (zBa w o) (by simp) (by simpa using g);simp only[List.map_cons,List.map_nil]at f;have b:=zW (zDS w d own (D,D.may [nm o]) (.returned (.int .i64 (D.may [nm o]:Int))) (w.alloc (.cells #[.string o] 9))) (
  ⟨own,rfl,⟨m,left,L,c⟩,(Chg.alloc w _).mono fun _ _ h=>h.elim,zCf _ _⟩)
 generalize D.may [nm o]=j at *;have n:((j:Int) != 0)=true:=by simp;omega
 have i:=zh f;clear h f c
 go_enter func156,ntmps156
 go_wp2_with fail;refine i.o.mono ?_;rintro e w' ⟨rfl,rfl⟩;go_wp2_with fail;go_ret;exact b.o
theorem trunc_none (h:zAa w d m left L own D)(o:ByteArray)(j:o.size≤9223372036854775807)(z:Int)(t:D.may [nm o]=0)(r:Sat.get (nm o) L=none) :
  Calls prog 156 #[.pointer (some ⟨d,0,none⟩),.string o,.int .i64 z] w (zDS w d own (D,7)):=by
 have i:=h.chg (Chg.alloc w (.cells #[.string o] 9)) (fun k s=>s.elim);have n:=zBj i _ [o] 1 (zBa w o) (by simp) (by simpa using j);simp only[List.map_cons,List.map_nil,t]at n;have b:=zBp _ zCB underlying9 underlying113 (zBx _) zCA.fb i.map j r;have f:=i.c1;have g:=zW (zDS w d own (D,7) (.returned (.int .i64 (7:Int))) (w.alloc (.cells #[.string o] 9))) (
  ⟨own,rfl,⟨m,left,L,i⟩,(Chg.alloc w _).mono fun _ _ h=>h.elim,zCf _ _⟩)
 have q:=zh n;have c:=zh b;have l:=zh f;clear h n i b f;generalize p:w.alloc (.cells #[.string o] 9)=v at *
 go_enter func156,ntmps156
 go_wp2_with fail;have b:=c.o;have f:=l.o;refine q.o.mono ?_;rintro e w' ⟨rfl,rfl⟩;clear p;go_wp2_with fail;go_ret;exact g.o
theorem trunc_some (h:zAa w d m left L own D)(o:ByteArray)(F:o.size≤9223372036854775807)(z:Int)(hz:-9223372036854775808≤z)(an:z≤9223372036854775807)(R:D.may [nm o]=0){r:zCA}(H:Sat.get (nm o) L=some r) :
  Calls prog 156 #[.pointer (some ⟨d,0,none⟩),.string o,.int .i64 z] w (zDS w d own (if z<0∨(r.f.data.length:Int)<z then(D,1)else(zAA.done {D with files:=put (nm o) ⟨r.f.data.take z.toNat,min r.f.lasts z.toNat⟩ D.files},0))):=by
 have b:=h.chg (Chg.alloc w (.cells #[.string o] 9)) (fun k N=>N.elim);have J:=zBj b _ [o] 1 (zBa w o) (by simp) (by simpa using F);simp only[List.map_cons,List.map_nil,R]at J;have ac:=zB8 _ zCB underlying9 underlying113 (zBx _) zCA.fb b.map F H;have ai:=b.c1;have af:=WideMaps.keyOf_string_mk underlying9 F;have G:=zDm R;have q:Sat.get (nm o) D.files=some r.f:=by rw[h.get,H];rfl
 have n:=b.fileAt H;have ak:r.f.data.length≤1073741824:=by
  have h5:zAA.size r.f≤D.used:=le_sum h.ok.srt q;have h6:=h.ok.used;have h7:=h.ok.room;unfold zAA.size at h5;omega
 obtain⟨pv,cv,ev,al⟩:∃p c,r.v=.slice p r.f.data.length c∧r.f.data.length≤c:=by
  rcases n.row.2 with⟨e,hn⟩|⟨g,V,cur,e,_,ad,_⟩
  ·exact⟨none,0,by rw[e,hn],by omega⟩
  ·exact⟨_,V,e,ad⟩
 have Z:=zAG (i:=0) n.cells rfl;have aj:=zAG (i:=1) n.cells rfl;have aa:=zAE n.cells 0;have ab:=zAE n.cells 1;rw[ev]at Z
 by_cases hb:z<0∨(r.f.data.length:Int)<z
 ·rw[if_pos hb];have t:=zW (zDS w d own (D,1) (.returned (.int .i64 ((1:Nat):Int))) (w.alloc (.cells #[.string o] 9))) (
   ⟨own,rfl,⟨m,left,L,b⟩,(Chg.alloc w _).mono fun _ _ h=>h.elim,zCf _ _⟩)
  have Q:=zh J;generalize r.f.data.length=M at *;clear h b J R G H q n aa ab ev;generalize s:w.alloc (.cells #[.string o] 9)=w0 at *
  by_cases ao:z<0
  rotate_left
  focus obtain⟨y,rfl⟩:∃y:Nat,z=(y:Int):=⟨z.toNat,by omega⟩;have ah:M<y:=by omega
  all_goals
   go_enter func156,ntmps156;go_wp2_with fail;refine Q.o.mono ?_;rintro e w' ⟨rfl,rfl⟩;clear s;go_wp2_with fail;go_ret;exact t.o
 ·rw[if_neg hb];obtain⟨y,rfl⟩:∃y:Nat,z=(y:Int):=⟨z.toNat,by omega⟩;rw[Int.toNat_natCast];have ae:y≤r.f.data.length:=by omega
  have A:zAj (w.alloc (.cells #[.string o] 9)) 5 (.slice pv y y) (r.f.data.take y):=Go.Sat.own_cut (by rw[←ev];exact n.row) ae;have E:own r.fb=some (2,nm o):=n.ob;have O:∀g,(Value.slice pv y y).ownBlock=some g→own g=some (3,nm o):=fun g C=>n.og g (by rw[ev,zCH pv _ _ y y];exact C);have P:zAj (((w.alloc (.cells #[.string o] 9)).setCell ⟨r.fb,0,none⟩ (.slice pv y y)).setCell ⟨r.fb,1,none⟩ (.int .i64 ((min r.f.lasts y:Nat):Int))) 5 (.slice pv y y) (r.f.data.take y):=zAj.keep A fun k N=>by
   have l:k≠r.fb:=fun e=>by
    have b:=O k N;rw[e,E]at b;simp at b
   exact(set_other _ l).trans (set_other _ l)
  obtain⟨own',h4,hx⟩:=b.upd H (f':=⟨r.f.data.take y,min r.f.lasts y⟩) (v':=.slice pv y y) (w':=((w.alloc (.cells #[.string o] 9)).setCell ⟨r.fb,0,none⟩ (.slice pv y y)).setCell ⟨r.fb,1,none⟩ (.int .i64 ((min r.f.lasts y:Nat):Int)))
   (by simp[World.setCell]) (fun k _ l _=>(set_other _ l).trans (set_other _ l)) (zAC (zAC n.cells 0 _) 1 _) P
   (fun g C=>.inl (by rw[ev,zCH pv _ _ y y];exact C)) (ok_trunc h.ok q y)
  have a:Chg (Has own) w (((w.alloc (.cells #[.string o] 9)).setCell ⟨r.fb,0,none⟩ (.slice pv y y)).setCell ⟨r.fb,1,none⟩ (.int .i64 ((min r.f.lasts y:Nat):Int))):=by
   have ho:Has own r.fb:=by unfold Has;rw[E];simp
   refine(((Chg.alloc w _).mono (T:=Has own) fun _ _ h=>h.elim).trans (Chg.setCell _ ⟨r.fb,0,none⟩ _) fun k _ e=>?_).trans (Chg.setCell _ ⟨r.fb,1,none⟩ _) fun k _ e=>?_
   ·rw[show k=r.fb from e];exact ho
   ·rw[show k=r.fb from e];exact ho
  have j:=zDP h4 G.1;have B:=zh j;have I:=zh a;have Hx:=zh hx;have U:=zh (Chg.alloc w (.cells #[.string o] 9)).size;have S:=zh (has_d b);have Q:=zh J;obtain⟨i0,hi,_⟩:=info_parts (show(prog.info? 5).map (fun i=>(i.zero,i.size,i.bytes))=some (some (.int .u8 0),1,1) by kernel_rfl);have am:∀W,(Instr.slice 22 (.slice pv r.f.data.length cv) none (some (.int .i64 (y:Int))) (some (.int .i64 (y:Int)))).run prog W=.ok (.slice pv y y) W:=fun W=>run_cut W underlying22 hi pv _ cv y (by omega);have ag:min (r.f.lasts:Int) (y:Int)=((min r.f.lasts y:Nat):Int):=by omega
  generalize X:r.f.data.length=M at *;generalize r.f.lasts=la at *;clear h b J R G H q n ev A E O P h4 hx a j X;generalize s:w.alloc (.cells #[.string o] 9)=w0 at *
  go_enter func156,ntmps156
  go_wp2_with fail;refine Q.o.mono ?_;rintro e w' ⟨rfl,rfl⟩;clear s;go_wp2_with fail;refine B.o.mono ?_;rintro e w5 ⟨rfl,K,Y⟩;go_wp2_with fail;go_ret;exact⟨own',rfl,K,I.o.trans Y fun i _ e=>by rw[e];exact S.o,fun k N=>Hx.o k (Nat.lt_of_lt_of_le N U.o)⟩
theorem trunc_calls (h:zCb w d D own)(o:ByteArray)(b:o.size≤9223372036854775807)(z:Int)(i:-9223372036854775808≤z)(f:z≤9223372036854775807) :
  Calls prog 156 #[.pointer (some ⟨d,0,none⟩),.string o,.int .i64 z] w (zDS w d own (D.truncate (nm o) z)):=by
 obtain⟨m,left,L,h⟩:=h;unfold zAA.truncate
 by_cases c:D.may [nm o]=0
 ·rw[if_neg (by simpa using c),h.get];cases g:Sat.get (nm o) L with
  | none=>exact trunc_none h o b z c g
  | some r=>exact trunc_some h o b z i f c g
 ·rw[if_pos (by simpa using c)];exact trunc_bad h o b z c
end
theorem st_trunc {w w1:World}{d:Nat}{D:zAA}{F:Nat→Prop}(h:St w w1 d D F)(s:ByteArray)(f:s.size≤9223372036854775807)(z:Int)(m:-9223372036854775808≤z)(g:z≤9223372036854775807) :
  Calls prog 156 #[.pointer (some ⟨d,0,none⟩),.string s,.int .i64 z] w1 (Told w d F w1 (D.truncate (nm s) z)):=by
 obtain⟨own,k,i,c,hF⟩:=h;refine(trunc_calls k s f z m g).mono ?_;rintro e w' ⟨own',rfl,b,j,l⟩;exact⟨rfl,St.step i c hF b j l⟩
end Go.Proofs.YtapfnehdgailmaaGreat
namespace Go.Sat
open Go.RowKit
def skipN (pre:Bs)(b:List Bs)(n:Bs):Bool:=!(pre.isPrefixOf n)||b.contains n
end Go.Sat
namespace Go.Proofs.YtapfnehdgailmaaGreat
open Go.RowKit Go.Sat Go.Maps
namespace zAA
def clearL (pre:Bs)(b:List Bs)(D:zAA):List Bs→zAA×Nat
 | []=>(D,0)
 | n::r=>if skipN pre b n then clearL pre b D r else if(D.remove [n]).2=0 then clearL pre b (D.remove [n]).1 r else D.remove [n]
def clear (D:zAA)(pre:Bs)(b:List Bs):zAA×Nat:=clearL pre b D (namesOf D)
end zAA
theorem enc_str (x:Bs):encStr x=.string ⟨x.toArray⟩:=rfl
theorem HasN.same {w w':World}{v:Value}{l:List Bs}(h:HasN w v l)(m:∀k,v.ownBlock=some k→w'.heap[k]?=w.heap[k]?):HasN w' v l:=by
 obtain⟨j,p,b,rfl,d,g⟩:=h;refine⟨j,p,b,rfl,d,fun a c i u n=>?_⟩;have f:(a.add i).block=a.block:=zDX _ _;exact(World.cell?_of_block (by rw[f];exact m _ (by rw[c];rfl))).trans (g a c i u n)
end Go.Proofs.YtapfnehdgailmaaGreat
namespace Go.Sat
theorem del_put {α:Type}{L:List (Bs×α)}(h:Srt L)(n:Bs)(a:α):del n (put n a L)=del n L:=by
 refine srt_ext (zCV (zBq h)) (zCV h) fun m=>?_
 by_cases e:m=n
 ·subst e;rw[zCX,zCX]
 ·rw[zCg (zBq h) e,zBM h a e,zCg h e]
theorem put_put {α:Type}{L:List (Bs×α)}(h:Srt L)(n:Bs)(a b:α):put n b (put n a L)=put n b L:=by
 show ins (n,b) (del n (put n a L))=ins (n,b) (del n L)
 rw[del_put h]
end Go.Sat
namespace Go.Proofs.YtapfnehdgailmaaGreat
open Go.RowKit Go.Sat Go.Maps
theorem zEG (n:Bs):(zAF n).length=n.length+1:=by simp[zAF]
def offF (f:Option Nat)(k:Nat):Option Nat:=f.map (·-k)
section
variable {D:zAA} {n l:Bs}
theorem save_app (_h:D.OK)(g:D.fuse≠some 0)(j:1≤n.length)(hn:n.length≤60)(c:Sat.get (zAF n) D.files=none)(f:D.used+l.length+12≤D.room)(k:D.files.length<4096) :
  D.append (zAF n) (zAK l)=(⟨D.room,put (zAF n) ⟨zAK l,0⟩ D.files,offF D.fuse 1⟩,0):=by
 have i:D.may [zAF n]=0:=by
  unfold zAA.may;rw[if_neg g,if_pos];simp only[List.all_cons,List.all_nil,Bool.and_true,okN,zEG];simp;omega
 have d:D.full (zAF n) (zAK l)=false:=by
  unfold zAA.full;rw[zAf,c];simp;omega
 unfold zAA.append;rw[if_neg (by rw[i];simp),if_neg (by rw[d];simp)];have b:D.cur (zAF n)=⟨[],0⟩:=by unfold zAA.cur;rw[c];rfl
 rw[b];rfl
theorem save_syn {room:Nat}{L:List (Bs×zAT)}{f:Option Nat}(h:Srt L)(c:f≠some 0)(i:1≤n.length)(hn:n.length≤60) :
  zAA.sync ⟨room,put (zAF n) ⟨zAK l,0⟩ L,f⟩ [zAF n]=(⟨room,put (zAF n) ⟨zAK l,(zAK l).length⟩ L,offF f 1⟩,0):=by
 have g:zAA.may ⟨room,put (zAF n) ⟨zAK l,0⟩ L,f⟩ [zAF n]=0:=by
  unfold zAA.may;rw[if_neg c,if_pos];simp only[List.all_cons,List.all_nil,Bool.and_true,okN,zEG];simp;omega
 have b:zAA.each1 zAA.gSync ⟨room,put (zAF n) ⟨zAK l,0⟩ L,f⟩ (zAF n)=(⟨room,put (zAF n) ⟨zAK l,(zAK l).length⟩ L,offF f 1⟩,0):=by
  unfold zAA.each1;rw[if_neg (by rw[g];simp)];have d:Sat.get (zAF n) (zAA.files ⟨room,put (zAF n) ⟨zAK l,0⟩ L,f⟩)=some ⟨zAK l,0⟩:=zBN h _ _;rw[d]
  show((⟨room,put _ _ (put _ _ L),_⟩:zAA),0)=_
  rw[put_put h];rfl
 show(if(zAA.each1 _ _ _).2=0 then _ else _)=_
 rw[b,if_pos rfl];rfl
theorem save_ren {room:Nat}{L:List (Bs×zAT)}{f:Option Nat}{g:zAT}(h:Srt L)(c:f≠some 0)(j:1≤n.length)(hn:n.length≤60)(b:Sat.get (zAF n) L=none) :
  zAA.rename ⟨room,put (zAF n) g L,f⟩ (zAF n) n=(⟨room,put n g L,offF f 1⟩,0):=by
 have i:zAA.may ⟨room,put (zAF n) g L,f⟩ [zAF n,n]=0:=by
  unfold zAA.may;rw[if_neg c,if_pos];simp only[List.all_cons,List.all_nil,Bool.and_true,okN,zEG];simp;omega
 unfold zAA.rename;rw[if_neg (by rw[i];simp)];have d:Sat.get (zAF n) (zAA.files ⟨room,put (zAF n) g L,f⟩)=some g:=zBN h _ _;rw[d]
 show((⟨room,put n g (del (zAF n) (put (zAF n) g L)),_⟩:zAA),0)=_
 rw[del_put h,zC3 b];rfl
theorem off_ne {f:Option Nat}{k:Nat}(b:∀j,f=some j→k<j):offF f k≠some 0:=by
 cases f with
 | none=>intro h;cases h
 | some j =>
  have:=b j rfl;intro h;have:=Option.some.inj (show some (j-k)=some 0 from h);omega
theorem off_off (f:Option Nat)(a b:Nat):offF (offF f a) b=offF f (a+b):=by
 cases f with
 | none=>rfl
 | some j=>exact congrArg some (Nat.sub_sub _ _ _)
theorem save_room (b:1≤n.length)(hn:n.length≤60):D.save n l=D.save1 n (zAK l):=by
 unfold zAA.save;rw[if_neg (by omega)]
theorem save_all (h:D.OK)(f:∀j,D.fuse=some j→3≤j)(b:1≤n.length)(hn:n.length≤60)(d:Sat.get (zAF n) D.files=none)(c:D.used+l.length+12≤D.room)(i:D.files.length<4096) :
  D.save n l=(⟨D.room,put n ⟨zAK l,(zAK l).length⟩ D.files,offF D.fuse 3⟩,0):=by
 have g:D.save0 n=(D,0):=by unfold zAA.save0;rw[d];rfl
 have k:D.fuse≠some 0:=fun e=>by have:=f 0 e;omega
 rw[save_room b hn,save1_ren g (save_app h k b hn d c i) (save_syn h.srt (off_ne fun j e=>by have:=f j e;omega) b hn),off_off,
  save_ren h.srt (off_ne fun j e=>by have:=f j e;omega) b hn d,off_off]
end
theorem zAx (w:World)(e:TypeId):OwnR (w.alloc (.cells #[] e)) e 1 (.slice (some ⟨w.heap.size,0,none⟩) 0 0) 0 [] :=
 ⟨rfl,.inr ⟨_,0,#[],rfl,zAI w _,Nat.le_refl _,Nat.zero_le _,Nat.le_refl _,rfl⟩⟩
theorem stays_whole (b:Bs)(k:Int):zAA.stays ⟨b,b.length⟩ k=b.length:=by
 show b.length+(max 0 k).toNat%(b.length-b.length+1)=b.length
 rw[Nat.sub_self,Nat.zero_add,Nat.mod_one,Nat.add_zero]
theorem zFn (b:Bs)(k:Int):zAA.crashF k ⟨b,b.length⟩=⟨b,b.length⟩:=by
 show(⟨b.take (zAA.stays ⟨b,b.length⟩ k),zAA.stays ⟨b,b.length⟩ k⟩:zAT)=_
 rw[stays_whole,List.take_length]
theorem get_crash (D:zAA)(n:Bs)(k:Int):Sat.get n (D.crash k).files=(Sat.get n D.files).map (zAA.crashF k):=zGP _ _ _
theorem get_crash_whole {D:zAA}{n b:Bs}(h:Sat.get n D.files=some ⟨b,b.length⟩)(k:Int):Sat.get n (D.crash k).files=some ⟨b,b.length⟩:=by
 rw[get_crash,h,Option.map_some,zFn]
theorem load_frame (l:Bs)(h:l.length≤1048576)(k:Nat):loadE (some ⟨zAK l,k⟩)=0∧zD8 (some ⟨zAK l,k⟩)=l:=by
 have e:zCq (some ⟨zAK l,k⟩)=zAK l:=rfl;rw[loadE_some,zD9,e,frame_oneE l h,frame_oneB l h];exact⟨if_pos rfl,rfl⟩
/-! ### A ledger in memory -/
structure zDI (w:World)(l d:Nat)(pre:ByteArray)(own:Nat→Prop)(M:LedM)(dv ev:Value)(vs:List Value):Prop where
 cells:w.heap[l]?=some (.cells #[.pointer (some ⟨d,0,none⟩),.string pre,.int .i64 (M.base:Int),dv,ev,.bool M.dead] 183 (0,0))
 data:zAj w 5 dv M.data
 row:OwnR w 22 1 ev M.entries.length vs
 rows:∀(i:Nat) u b,vs[i]?=some u→M.entries[i]?=some b→zAj w 5 u b
 ol:own l
 od:∀k,dv.ownBlock=some k→own k∧k≠l∧ev.ownBlock≠some k
 oe:∀k,ev.ownBlock=some k→own k∧k≠l
 ov:∀u∈vs,∀k,u.ownBlock=some k→own k∧k≠l∧ev.ownBlock≠some k
 olt:∀k,own k→k<w.heap.size
 last:M.last≤1099511627776
 psz:1≤pre.size∧pre.size≤20
 big:M.data.length≤1073741824∧∀b∈M.entries,b.length≤1073741824
section
variable {w w':World} {l d:Nat} {pre:ByteArray} {own:Nat→Prop} {M:LedM} {dv ev:Value} {vs:List Value}
theorem zDI.len (h:zDI w l d pre own M dv ev vs):vs.length=M.entries.length:=by have:=h.row.1;omega
theorem zDI.keep (h:zDI w l d pre own M dv ev vs)(f:∀k,own k→w'.heap[k]?=w.heap[k]?)(m:∀k,own k→k<w'.heap.size):zDI w' l d pre own M dv ev vs where
 cells:=(f l h.ol).trans h.cells
 data:=OwnR.keep h.data fun k c=>f k (h.od k c).1
 row:=h.row.keep fun k c=>f k (h.oe k c).1
 rows:=fun i u b g j=>OwnR.keep (h.rows i u b g j) fun k c=>f k (h.ov u (List.mem_of_getElem? g) k c).1
 ol:=h.ol
 od:=h.od
 oe:=h.oe
 ov:=h.ov
 olt:=m
 last:=h.last
 psz:=h.psz
 big:=h.big
theorem zDI.below (h:zDI w l d pre own M dv ev vs)(c:Below w.heap.size w w'):zDI w' l d pre own M dv ev vs :=
 h.keep (fun k b=>c.block k (h.olt k b)) fun k b=>Nat.lt_of_lt_of_le (h.olt k b) c.size
theorem zDI.c0 (h:zDI w l d pre own M dv ev vs):w.cell? ⟨l,0,none⟩=some (.pointer (some ⟨d,0,none⟩)):=zAG h.cells rfl
theorem zDI.c1 (h:zDI w l d pre own M dv ev vs):w.cell? ⟨l,1,none⟩=some (.string pre):=zAG h.cells rfl
theorem zDI.c2 (h:zDI w l d pre own M dv ev vs):w.cell? ⟨l,2,none⟩=some (.int .i64 (M.base:Int)):=zAG h.cells rfl
theorem zDI.c3 (h:zDI w l d pre own M dv ev vs):w.cell? ⟨l,3,none⟩=some dv:=zAG h.cells rfl
theorem zDI.c4 (h:zDI w l d pre own M dv ev vs):w.cell? ⟨l,4,none⟩=some ev:=zAG h.cells rfl
theorem zDI.c5 (h:zDI w l d pre own M dv ev vs):w.cell? ⟨l,5,none⟩=some (.bool M.dead):=zAG h.cells rfl
theorem zDI.fr (h:zDI w l d pre own M dv ev vs)(i:Nat):w.frozen? ⟨l,i,none⟩=false:=zAE h.cells i
def LedCells (l d:Nat)(pre:ByteArray)(w:World):Prop:=w.cell? ⟨l,0,none⟩=some (.pointer (some ⟨d,0,none⟩))∧w.cell? ⟨l,1,none⟩=some (.string pre)∧pre.size≤20
end
def zCT (s:ByteArray):ByteArray:=s++⟨#[45,108,111,103]⟩
def zBT (s:ByteArray):ByteArray:=s++⟨#[126]⟩
theorem zBw (s:ByteArray):nm (zCT s)=zAm (nm s):=by simp[nm,zCT,zAm,logX]
theorem zEj (s:ByteArray):nm (zBT s)=zAF (nm s):=zBF s
theorem zFa (s:ByteArray):(zCT s).size=s.size+4:=by simp[zCT,ByteArray.size_append];rfl
theorem zCN (s:ByteArray):(zBT s).size=s.size+1:=by simp[zBT,ByteArray.size_append];rfl
section
variable {w w1:World} {l d:Nat} {pre:ByteArray} {D:zAA} {F:Nat→Prop}
end
def zFJ (w w1:World)(l d:Nat)(pre:ByteArray)(D:zAA)(M:LedM)(F:Nat→Prop):Prop :=
 ∃own dv ev vs,zDI w1 l d pre own M dv ev vs∧St w w1 d D (fun k=>own k∨F k)∧(∀k,own k→w.heap.size≤k∧¬F k)∧∀k,F k→k<w1.heap.size
theorem zBU {w:World}{a:Addr}{v:Value}(h:w.cell? a=some v)(o:Obj):(w.alloc o).cell? a=some v:=(((Below.refl w.heap.size w).alloc (Nat.le_refl _) o).cell (World.block_lt_of_cell? w _ h)).trans h
theorem zCL {w w':World}{e:TypeId}{v:Value}{b:Bs}(h:zAj w e v b)(c:Below w.heap.size w w'):zAj w' e v b:=OwnR.keep h fun k d=>c.block k (OwnR.lt h d)
theorem zAV (w:World):Below w.heap.size w w.drew:=⟨rfl,rfl,rfl,Nat.le_refl _,fun _ _=>rfl⟩
theorem zAD (w:World)(o:Obj):Below w.heap.size w (w.alloc o):=(Below.refl _ _).alloc (Nat.le_refl _) o
section
variable {w w1 w2:World} {l d:Nat} {pre:ByteArray} {D:zAA} {M:LedM} {F F':Nat→Prop}
theorem zFJ.bel (h:zFJ w w1 l d pre D M F):Below w.heap.size w w1:=let ⟨_,_,_,_,_,hS,_,_⟩:=h;hS.below
theorem zFJ.okD (h:zFJ w w1 l d pre D M F):D.OK:=let ⟨_,_,_,_,_,hS,_,_⟩:=h;hS.ok
theorem zFJ.flt (h:zFJ w w1 l d pre D M F){k:Nat}(b:F k):k<w1.heap.size:=let ⟨_,_,_,_,_,_,_,hF⟩:=h;hF k b
theorem zFJ.st (h:zFJ w w1 l d pre D M F):St w w1 d D NoF:=let ⟨_,_,_,_,_,hS,_,_⟩:=h;hS.noF
theorem zFJ.last (h:zFJ w w1 l d pre D M F):M.last≤1099511627776:=let ⟨_,_,_,_,hL,_,_,_⟩:=h;hL.last
theorem zFJ.psz (h:zFJ w w1 l d pre D M F):1≤pre.size∧pre.size≤20:=let ⟨_,_,_,_,hL,_,_,_⟩:=h;hL.psz
theorem zFJ.cells (h:zFJ w w1 l d pre D M F):∃dv ev,w1.heap[l]?=some (.cells #[.pointer (some ⟨d,0,none⟩),.string pre,.int .i64 (M.base:Int),dv,ev,.bool M.dead] 183 (0,0))∧zAj w1 5 dv M.data∧∃vs,OwnR w1 22 1 ev M.entries.length vs∧∀(i:Nat) u b,vs[i]?=some u→M.entries[i]?=some b→zAj w1 5 u b :=
 let ⟨_,dv,ev,vs,hL,_,_,_⟩:=h;⟨dv,ev,hL.cells,hL.data,vs,hL.row,hL.rows⟩
theorem zFJ.move {S:Nat→Prop}(h:zFJ w w1 l d pre D M F)(f:Chg S w1 w2)(hS:∀k,k<w1.heap.size→S k→F k∧w.heap.size≤k)(hF:∀k,F' k→(F k∨w1.heap.size≤k)∧k<w2.heap.size):zFJ w w2 l d pre D M F':=by
 obtain⟨own,dv,ev,vs,c,i,hn,m⟩:=h;refine⟨own,dv,ev,vs,c.keep (fun k b=>f.block k (c.olt k b) fun g=>(hn k b).2 (hS k (c.olt k b) g).1) fun k b=>Nat.lt_of_lt_of_le (c.olt k b) f.size,i.move f (fun k b g=>⟨.inr (hS k b g).1,(hS k b g).2⟩) (fun k b=>?_),fun k b=>⟨(hn k b).1,fun j=>?_⟩,fun k b=>(hF k b).2⟩
 ·rcases b with b|b
  ·exact⟨.inl (.inl b),Nat.lt_of_lt_of_le (c.olt k b) f.size⟩
  ·exact⟨(hF k b).1.imp .inr id,(hF k b).2⟩
 ·rcases(hF k j).1 with h|h
  ·exact(hn k b).2 h
  ·have:=c.olt k b;omega
theorem zFJ.next (h:zFJ w w1 l d pre D M F)(b:Below w1.heap.size w1 w2):zFJ w w2 l d pre D M F :=
 h.move (Chg.of_below b) (fun _ _ h=>h.elim) fun _ c=>⟨.inl c,Nat.lt_of_lt_of_le (h.flt c) b.size⟩
theorem zFJ.same (h:zFJ w w1 l d pre D M F)(b:Below w1.heap.size w1 w2):Same F w1 w2:=fun _ c=>b.block _ (h.flt c)
theorem zFJ.less (h:zFJ w w1 l d pre D M F)(hF:∀k,F' k→F k):zFJ w w1 l d pre D M F' :=
 h.move (Chg.refl _ _:Chg (fun _=>False) w1 w1) (fun _ _ h=>h.elim) fun _ b=>⟨.inl (hF _ b),h.flt (hF _ b)⟩
theorem zFJ.more (h:zFJ w w1 l d pre D M F)(c:Below w1.heap.size w1 w2)(hF:∀k,F' k→F k∨w1.heap.size≤k∧k<w2.heap.size):zFJ w w2 l d pre D M F' :=
 h.move (Chg.of_below c) (fun _ _ h=>h.elim) fun k f=>by
  rcases hF k f with b|b
  ·exact⟨.inl b,Nat.lt_of_lt_of_le (h.flt b) c.size⟩
  ·exact⟨.inr b.1,b.2⟩
theorem zFJ.box (h:zFJ w w1 l d pre D M F)(o:Obj):zFJ w (w1.alloc o) l d pre D M (fun k=>F k∨k=w1.heap.size) :=
 h.more (zAD w1 o) fun k b=>b.imp id fun e=>⟨by omega,by simp;omega⟩
theorem zFJ.turned {own own':Nat→Prop}{M':LedM}{dv' ev':Value}{vs':List Value}(hS:St w w1 d D (fun k=>own k∨F k))(hn:∀k,own k→w.heap.size≤k∧¬F k)(g:∀k,F k→k<w1.heap.size)
  (c:zDI w2 l d pre own' M' dv' ev' vs') (f:Chg own w1 w2) (i:∀k,own' k→own k∨w1.heap.size≤k):zFJ w w2 l d pre D M' F∧Same F w1 w2:=by
 refine⟨⟨own',dv',ev',vs',c,hS.move f (fun k _ b=>⟨.inl b,(hn k b).1⟩) (fun k b=>?_),fun k b=>?_,fun k b=>Nat.lt_of_lt_of_le (g k b) f.size⟩,fun k b=>f.block k (g k b) fun m=>(hn k m).2 b⟩
 ·rcases b with b|b
  ·exact⟨(i k b).imp .inl id,c.olt k b⟩
  ·exact⟨.inl (.inr b),Nat.lt_of_lt_of_le (g k b) f.size⟩
 ·rcases i k b with h|h
  ·exact hn k h
  ·exact⟨Nat.le_trans hS.below.size h,fun j=>by have:=g k j;omega⟩
end
theorem LedCells.same {l d:Nat}{pre:ByteArray}{w w':World}(h:LedCells l d pre w)(b:w'.heap[l]?=w.heap[l]?):LedCells l d pre w' :=
 ⟨(World.cell?_of_block (a:=⟨l,0,none⟩) b).trans h.1,(World.cell?_of_block (a:=⟨l,1,none⟩) b).trans h.2.1,h.2.2⟩
section
variable {w w1:World} {l d:Nat} {pre:ByteArray} {D:zAA} {M:LedM} {F:Nat→Prop}
theorem last_calls (h:zFJ w w1 l d pre D M F) :
  Calls prog 126 #[.pointer (some ⟨l,0,none⟩)] w1 fun e w'=>e=.returned (.int .i64 (M.last:Int))∧∃q,w'=w1.drewN q:=by
 have g:=h.last;obtain⟨dv,ev,i,-,vs,f,-⟩:=h.cells;obtain⟨p,c,rfl⟩:=f.shape;have k:w1.cell? ⟨l,2,none⟩=some (.int .i64 (M.base:Int)):=zAG i rfl;have m:w1.cell? ⟨l,4,none⟩=some (.slice p M.entries.length c):=zAG i rfl;have j:=zW (((M.base:Int)+(M.entries.length:Int))=(M.last:Int)) (by unfold LedM.last;omega);have r:M.base≤1099511627776:=by unfold LedM.last at g;omega
 have s:M.entries.length≤1099511627776:=by unfold LedM.last at g;omega
 clear h i f g;generalize M.entries.length=n at *;generalize M.base=b at *
 go_enter func126,ntmps126
 have t:IntKind.i64.wrap ((b:Int)+(n:Int))=(b:Int)+(n:Int):=IntWalk.i64_in _ (by omega);go_wp2_with fail
 go_quiet (fail)
 go_wp2_with fail;go_ret;exact⟨by rw[j.o];rfl,_,rfl⟩
end
theorem numI_of {z:Int}(b:0≤z)(c:z≤4611686018427387904):zDj z=zEB z.toNat:=by
 have:=zB7 (n:=z.toNat) (by omega);rwa[Int.toNat_of_nonneg b]at this
theorem rd_int {z:Int}(c:0≤z)(d:z≤4611686018427387904)(r:Bs)(b:Bool):Rd.num ⟨zDj z++r,b⟩=(z.toNat,⟨r,b⟩):=by
 rw[numI_of c d];exact Rd.num_of (by omega) r b
theorem ints_of:∀(l:List Int) (r:Bs) (b:Bool),(∀x∈l,0≤x∧x≤4611686018427387904)→Rd.ints l.length ⟨zAp l++r,b⟩=(l,⟨r,b⟩)
 | [],_,_,_=>rfl
 | z::l,r,b,h=>by
  have c:=h z (by simp);have d:zAp (z::l)++r=zDj z++(zAp l++r):=by simp[zAp]
  show(((Rd.num _).1:Int)::(Rd.ints l.length (Rd.num _).2).1,(Rd.ints l.length (Rd.num _).2).2)=_
  rw[d,rd_int c.1 c.2];dsimp only;rw[ints_of l r b fun x f=>h x (by simp[f]),Int.toNat_of_nonneg c.1]
theorem grp_of {may:List Int→Bool}{l:List Int}(f:l.length≤7)(h:∀x∈l,0≤x∧x<7)(c:may l=true)(r:Bs)(b:Bool):Rd.grp may ⟨zDs l++r,b⟩=(l,⟨r,b⟩):=by
 unfold Rd.grp zDs;rw[List.append_assoc,Rd.num_of (by omega)];dsimp only;rw[if_neg (by omega),ints_of l r b fun x d=>by have:=h x d;omega];dsimp only;rw[if_pos c]
theorem zGk (b:Bool):Rd.whole ⟨[],b⟩=!b:=by
 unfold Rd.whole;simp
theorem zCi {l:List Int}(h:zAX l=true):l.length≤7∧∀x∈l,0≤x∧x<7:=by
 unfold zAX at h;simp only[Bool.and_eq_true,decide_eq_true_eq]at h;refine⟨h.2.2,?_⟩;have d:∀(l:List Int) (p:Int),-1≤p→zFo p l=true→∀x∈l,p<x∧x<7:=by
  intro l
  induction l with
  | nil=>intro p _ _ x b;cases b
  | cons n r ih =>
   intro p f c x b;unfold zFo at c;simp only[Bool.and_eq_true,decide_eq_true_eq]at c;cases b with
   | head=>exact c.1
   | tail _ b =>
    have:=ih n (by omega) c.2 x b;omega
 intro x b;have:=d l (-1) (by omega) h.1 x b;omega
theorem rec_fst {M:zAJ}{n:Nat}{t:Int}{g:List Int}(hn:n≤1099511627776)(d:0≤t∧t≤1099511627776)(c:zAX g=true) :
  zBc true M (zEp n t g)=some {M with number:=n,term:=t,group:=g}:=by
 have b:=zCi c;unfold zBc zEp;dsimp only;rw[if_neg (by decide),if_pos rfl,List.append_assoc,Rd.num_of (by omega)];dsimp only;rw[rd_int d.1 (by omega)];dsimp only;have:=grp_of (may:=zAX) b.1 b.2 c [] false;rw[List.append_nil]at this;rw[this];dsimp only;rw[zGk,if_pos (show(!false)=true from rfl),if_pos (by omega),Int.toNat_of_nonneg d.1]
theorem rec_trm {M:zAJ}{t v:Int}(h:M.mayVote t v=true)(c:0≤M.now):zBc false M (zCW t v)=some {M with now:=t,vote:=v}:=by
 have b:=h;unfold zAJ.mayVote at b;simp only[Bool.and_eq_true,decide_eq_true_eq]at b;have d:=b.1;unfold zBc zCW;dsimp only;rw[if_neg (by decide),if_neg (by decide),if_pos rfl,rd_int (by omega) (by omega)];dsimp only;have e:=rd_int (z:=v+1) (by omega) (by omega) [] false;rw[List.append_nil]at e;rw[e];dsimp only;rw[zGk,Int.toNat_of_nonneg (by omega),Int.toNat_of_nonneg (by omega),show v+1-1=v by omega,h,if_pos (show(!false&&true)=true from rfl)]
theorem zBE {e:Ent}(h:zA1 e=true):(0≤e.term∧e.term≤1099511627776)∧(0≤e.kind∧e.kind≤2)∧e.data.length≤65536∧e.nodes.length≤7∧∀x∈e.nodes,0≤x∧x<7:=by
 unfold zA1 at h;simp only[Bool.and_eq_true]at h;have c:=h.1;unfold zDR at c;simp only[decide_eq_true_eq]at c;refine⟨c,?_⟩;have b:=h.2
 split at b
 ·rename_i hk
  simp only[decide_eq_true_eq]at b;rw[b.1,b.2,hk];exact⟨by decide,by decide,by decide,fun x d=>by cases d⟩
 ·split at b
  ·rename_i hk
   simp only[decide_eq_true_eq]at b;rw[b.2.2,hk];exact⟨by decide,b.2.1,by decide,fun x d=>by cases d⟩
  ·split at b
   ·rename_i hk
    simp only[Bool.and_eq_true,decide_eq_true_eq]at b;rw[b.1,hk];exact⟨by decide,by decide,(zCi b.2).1,(zCi b.2).2⟩
   ·cases b
theorem rec_ent {M:zAJ}{e:Ent}(h:zA1 e=true)(f:M.last+1≤1099511627776):zBc false M (zEw (M.last+1) e)=some {M with entries:=M.entries++[e] }:=by
 obtain⟨d,c,i,hn,g⟩:=zBE h;unfold zBc zEw;dsimp only;rw[if_neg (by decide),if_neg (by decide),if_neg (by decide),if_pos rfl];simp only[List.append_assoc];rw[Rd.num_of (by omega)];dsimp only;rw[rd_int d.1 (by omega)];dsimp only;rw[rd_int c.1 (by omega)];dsimp only;rw[Rd.bytes_of (by omega)];dsimp only;have b:=grp_of (may:=anyG) hn g rfl [] false;rw[List.append_nil]at b;rw[b];dsimp only;rw[zGk,Int.toNat_of_nonneg d.1,Int.toNat_of_nonneg c.1];rw[if_pos ⟨rfl,rfl,f,h⟩]
theorem rec_cut {M:zAJ}{i:Nat}(c:M.number<i)(d:i≤M.last+1)(f:i≤1099511627777):zBc false M (cutB i)=some {M with entries:=M.entries.take (i-M.number-1) }:=by
 unfold zBc cutB;dsimp only;rw[if_neg (by decide),if_neg (by decide),if_neg (by decide),if_neg (by decide),if_pos rfl];have b:=Rd.num_of (n:=i) (by omega) [] false;rw[List.append_nil]at b;rw[b];dsimp only;rw[zGk,if_pos ⟨rfl,c,d⟩]
theorem recGo_app:∀(a b:List Bs) (M:zAJ),zBS M (a++b)=(zBS M a).bind fun M'=>zBS M' b
 | [],_,_=>rfl
 | p::a,b,M=>by
  show((zBc false M p).bind fun M'=>zBS M' (a++b))=((zBc false M p).bind fun M'=>zBS M' a).bind fun M'=>zBS M' b
  cases zBc false M p with
  | none=>rfl
  | some M'=>exact recGo_app a b M'
theorem recAll_app {M M':zAJ}{a b:List Bs}(h:zCC M a=some M'):zCC M (a++b)=zBS M' b:=by
 cases a with
 | nil=>cases h
 | cons p r =>
  have c:((zBc true M p).bind fun M'=>zBS M' r)=some M':=h
  show((zBc true M p).bind fun M'=>zBS M' (r++b))=_
  cases d:zBc true M p with
  | none=>rw[d]at c;cases c
  | some N =>
   rw[d]at c
   show zBS N (r++b)=_
   rw[recGo_app,show zBS N r=some M' from c];rfl
theorem zEF:∀(l:List Ent) (M:zAJ),(∀e∈l,zA1 e=true)→M.last+l.length≤1099511627776→zBS M (zA0 M.last l)=some {M with entries:=M.entries++l}
 | [],M,_,_=>by
  show some M=_
  rw[List.append_nil]
 | e::l,M,h,hn=>by
  show((zBc false M (zEw (M.last+1) e)).bind fun M'=>zBS M' (zA0 (M.last+1) l))=_
  rw[rec_ent (h e (by simp)) (by simp at hn;omega)];have b:({M with entries:=M.entries++[e] }:zAJ).last=M.last+1:=by
   show M.number+(M.entries++[e]).length=M.number+M.entries.length+1
   rw[List.length_append];rfl
  have:=zEF l {M with entries:=M.entries++[e] } (fun x c=>h x (by simp[c])) (by rw[b];simp at hn;omega);rw[b]at this
  show zBS {M with entries:=M.entries++[e] } (zA0 (M.last+1) l)=_
  rw[this,List.append_assoc];rfl
theorem zGZ {M N:zAJ}(l:M.last≤1099511627776)(c:zDR M.term=true)(k:zAX M.group=true)(hn:zDR M.now=true)(m:-1≤M.vote∧M.vote<7)(j:∀e∈M.entries,zA1 e=true)
  (g:N.now=0) (i:N.vote=-1) (f:N.entries=[]):zCC N M.rows=some {M with data:=N.data,dead:=N.dead}:=by
 unfold zDR at c hn;simp only[decide_eq_true_eq]at c hn;have b:M.number+M.entries.length≤1099511627776:=l
 show((zBc true N (zEp M.number M.term M.group)).bind fun M'=>zBS M' (zCW M.now M.vote::zA0 M.number M.entries))=_
 rw[rec_fst (by omega) c k]
 show((zBc false {N with number:=M.number,term:=M.term,group:=M.group} (zCW M.now M.vote)).bind fun M'=>zBS M' (zA0 M.number M.entries))=_
 rw[rec_trm (by
  unfold zAJ.mayVote;simp only[g,i];simp;omega) (by show 0≤N.now;omega)]
 have d:({N with number:=M.number,term:=M.term,group:=M.group,now:=M.now,vote:=M.vote}:zAJ).last=M.number:=by
  show M.number+N.entries.length=_
  rw[f];rfl
 have:=zEF M.entries {N with number:=M.number,term:=M.term,group:=M.group,now:=M.now,vote:=M.vote} j (by rw[d];exact b);rw[d]at this
 show zBS {N with number:=M.number,term:=M.term,group:=M.group,now:=M.now,vote:=M.vote} (zA0 M.number M.entries)=_
 rw[this];simp only[f,List.nil_append]
def zFq (l:List Int):List Value:=l.map (Value.int .i64)
def zCm (w:World)(v:Value)(l:List Int):Prop:=OwnR w 3 1 v l.length (zFq l)
theorem zCm.has {w:World}{v:Value}{l:List Int}(h:zCm w v l):zBe w v l:=OwnR.holds h
theorem zCm.keep {w w':World}{v:Value}{l:List Int}(h:zCm w v l)(b:∀k,v.ownBlock=some k→w'.heap[k]?=w.heap[k]?):zCm w' v l:=OwnR.keep h b
theorem zGR {w w':World}{v:Value}{l:List Int}(h:zCm w v l)(b:Below w.heap.size w w'):zCm w' v l:=OwnR.keep h fun k c=>b.block k (OwnR.lt h c)
theorem zAw {w:World}{v:Value}{l:List Int}(h:zCm w v l):∃p c,v=.slice p l.length c∧l.length≤c:=by
 rcases h.2 with⟨rfl,hn⟩|⟨g,b,cur,rfl,_,d,_⟩
 ·exact⟨none,0,by rw[hn],by omega⟩
 ·exact⟨_,b,rfl,d⟩
/-! ### Entries in memory -/
abbrev EV:=Value×Value
def zEy (e:Ent)(v:EV):List Value:=[.int .i64 e.term,.int .i64 e.kind,v.1,v.2]
def zA3:List Ent→List EV→List Value
 | e::es,v::vs=>zEy e v++zA3 es vs
 | _,_=>[]
theorem zD0:∀(es:List Ent) (vs:List EV),vs.length=es.length→(zA3 es vs).length=es.length*4
 | [],[],_=>rfl
 | e::es,v::vs,h=>by
  show(zEy e v++zA3 es vs).length=_
  rw[List.length_append,zD0 es vs (by simpa using h),List.length_cons]
  show 4+_=_
  omega
 | [],_::_,h=>by simp at h
 | _::_,[],h=>by simp at h
theorem zEz:∀(es:List Ent) (vs:List EV) (b:List Ent) (c:List EV),vs.length=es.length→zA3 (es++b) (vs++c)=zA3 es vs++zA3 b c
 | [],[],_,_,_=>rfl
 | e::es,v::vs,b,c,h=>by
  show zEy e v++zA3 (es++b) (vs++c)=zEy e v++zA3 es vs++zA3 b c
  rw[zEz es vs b c (by simpa using h),List.append_assoc]
 | [],_::_,_,_,h=>by simp at h
 | _::_,[],_,_,h=>by simp at h
theorem zFO:∀(k:Nat) (es:List Ent) (vs:List EV),vs.length=es.length→zA3 (es.take k) (vs.take k)=(zA3 es vs).take (k*4)
 | 0,_,_,_=>by simp[zA3]
 | k+1,[],[],_=>by simp[zA3]
 | k+1,e::es,v::vs,h=>by
  show zEy e v++zA3 (es.take k) (vs.take k)=(zEy e v++zA3 es vs).take ((k+1)*4)
  have b:(zEy e v).length=4:=rfl;rw[zFO k es vs (by simpa using h),List.take_append,List.take_of_length_le (l:=zEy e v) (by omega),b,show(k+1)*4-4=k*4 by omega]
 | k+1,[],_::_,h=>by simp at h
 | k+1,_::_,[],h=>by simp at h
theorem entsC_drop:∀(k:Nat) (es:List Ent) (vs:List EV),vs.length=es.length→zA3 (es.drop k) (vs.drop k)=(zA3 es vs).drop (k*4)
 | 0,_,_,_=>by simp
 | k+1,[],[],_=>by simp[zA3]
 | k+1,e::es,v::vs,h=>by
  show zA3 (es.drop k) (vs.drop k)=(zEy e v++zA3 es vs).drop ((k+1)*4)
  have b:(zEy e v).length=4:=rfl;rw[entsC_drop k es vs (by simpa using h),List.drop_append,List.drop_of_length_le (l:=zEy e v) (by omega),List.nil_append,b,show(k+1)*4-4=k*4 by omega]
 | k+1,[],_::_,h=>by simp at h
 | k+1,_::_,[],h=>by simp at h
theorem zEO:∀(es:List Ent) (vs:List EV) (i:Nat) (e:Ent) (v:EV),es[i]?=some e→vs[i]?=some v→∀(j:Nat) u,(zEy e v)[j]?=some u→(zA3 es vs)[i*4+j]?=some u
 | [],_,i,e,v,h,_=>by simp at h
 | _::_,[],i,e,v,_,h=>by simp at h
 | x::es,y::vs,0,e,v,h1,h2=>by
  simp only[List.getElem?_cons_zero,Option.some.injEq]at h1 h2;subst h1;subst h2;intro j u b;have c:j<4:=by
   have:=(List.getElem?_eq_some_iff.1 b).1;exact this
  show(zEy x y++zA3 es vs)[0*4+j]?=_
  rw[List.getElem?_append_left (by show _<4;omega),show 0*4+j=j by omega];exact b
 | x::es,y::vs,i+1,e,v,h1,h2=>by
  intro j u b;have:=zEO es vs i e v (by simpa using h1) (by simpa using h2) j u b
  show(zEy x y++zA3 es vs)[(i+1)*4+j]?=_
  rw[List.getElem?_append_right (by show 4≤_;omega)]
  show(zA3 es vs)[(i+1)*4+j-4]?=_
  rw[show(i+1)*4+j-4=i*4+j by omega];exact this
structure zDT (w:World)(e:Ent)(v:EV):Prop where
 data:zAj w 5 v.1 e.data
 nodes:zCm w v.2 e.nodes
theorem zDT.keep {w w':World}{e:Ent}{v:EV}(h:zDT w e v)(c:∀k,(v.1.ownBlock=some k∨v.2.ownBlock=some k)→w'.heap[k]?=w.heap[k]?):zDT w' e v :=
 ⟨OwnR.keep h.data fun k b=>c k (.inl b),OwnR.keep h.nodes fun k b=>c k (.inr b)⟩
theorem zDT.lt {w:World}{e:Ent}{v:EV}(h:zDT w e v){k:Nat}(b:v.1.ownBlock=some k∨v.2.ownBlock=some k):k<w.heap.size:=b.elim (OwnR.lt h.data) (OwnR.lt h.nodes)
def EntsAt (w:World)(es:List Ent)(vs:List EV):Prop:=vs.length=es.length∧∀(i:Nat) e v,es[i]?=some e→vs[i]?=some v→zDT w e v
structure zAJ.OK (M:zAJ):Prop where
 last:M.last≤1099511627776
 term:zDR M.term=true
 group:zAX M.group=true
 now:zDR M.now=true
 vote:-1≤M.vote∧M.vote<7
 data:M.data.length≤1073741824
 ents:∀e∈M.entries,zA1 e=true
theorem zAo {n:Int}:zDR n=true↔0≤n∧n≤1099511627776:=by simp[zDR]
theorem zDt {l:List Int}(h:zAX l=true):1≤l.length∧l.length≤7:=by
 unfold zAX at h;simp only[Bool.and_eq_true,decide_eq_true_eq]at h;exact h.2
/-! ### A journal in memory -/
structure zBm (w:World)(j d:Nat)(pre:ByteArray)(own:Nat→Prop)(M:zAJ)(gv dv ev:Value)(vs:List EV):Prop where
 cells:w.heap[j]?=some (.cells #[.int .i64 (M.number:Int),.int .i64 M.term,gv,.pointer (some ⟨d,0,none⟩),.string pre,.int .i64 M.now,.int .i64 M.vote,dv,ev,.bool M.dead] 132 (0,0))
 group:zCm w gv M.group
 data:zAj w 5 dv M.data
 row:OwnR w 50 4 ev M.entries.length (zA3 M.entries vs)
 rows:EntsAt w M.entries vs
 ol:own j
 og:∀k,gv.ownBlock=some k→own k∧k≠j∧ev.ownBlock≠some k
 od:∀k,dv.ownBlock=some k→own k∧k≠j∧ev.ownBlock≠some k
 oe:∀k,ev.ownBlock=some k→own k∧k≠j
 ov:∀u∈vs,∀k,(u.1.ownBlock=some k∨u.2.ownBlock=some k)→own k∧k≠j∧ev.ownBlock≠some k
 olt:∀k,own k→k<w.heap.size
 psz:1≤pre.size∧pre.size≤20
 ok:M.OK
section
variable {w w':World} {j d:Nat} {pre:ByteArray} {own:Nat→Prop} {M:zAJ} {gv dv ev:Value} {vs:List EV}
theorem zBm.keep (h:zBm w j d pre own M gv dv ev vs)(c:∀k,own k→w'.heap[k]?=w.heap[k]?)(l:∀k,own k→k<w'.heap.size):zBm w' j d pre own M gv dv ev vs where
 cells:=(c j h.ol).trans h.cells
 group:=OwnR.keep h.group fun k b=>c k (h.og k b).1
 data:=OwnR.keep h.data fun k b=>c k (h.od k b).1
 row:=h.row.keep fun k b=>c k (h.oe k b).1
 rows:=⟨h.rows.1,fun i e v g f=>(h.rows.2 i e v g f).keep fun k b=>c k (h.ov v (List.mem_of_getElem? f) k b).1⟩
 ol:=h.ol
 og:=h.og
 od:=h.od
 oe:=h.oe
 ov:=h.ov
 olt:=l
 psz:=h.psz
 ok:=h.ok
theorem zBm.below (h:zBm w j d pre own M gv dv ev vs)(c:Below w.heap.size w w'):zBm w' j d pre own M gv dv ev vs :=
 h.keep (fun k b=>c.block k (h.olt k b)) fun k b=>Nat.lt_of_lt_of_le (h.olt k b) c.size
theorem zBm.c (h:zBm w j d pre own M gv dv ev vs)(i:Nat){v:Value}(b:(#[.int .i64 (M.number:Int),.int .i64 M.term,gv,.pointer (some ⟨d,0,none⟩),.string pre,.int .i64 M.now,.int .i64 M.vote,dv,ev,.bool M.dead]:Array Value)[i]?=some v):w.cell? ⟨j,i,none⟩=some v:=zAG h.cells b
theorem zBm.fr (h:zBm w j d pre own M gv dv ev vs)(i:Nat):w.frozen? ⟨j,i,none⟩=false:=zAE h.cells i
theorem zBm.ent (h:zBm w j d pre own M gv dv ev vs){i:Nat}{e:Ent}(m:M.entries[i]?=some e):∃g c v,ev=.slice (some ⟨g,0,none⟩) M.entries.length c∧vs[i]?=some v∧zDT w e v ∧
  w.cell? ⟨g,i*4,none⟩=some (.int .i64 e.term)∧w.cell? ⟨g,i*4+1,none⟩=some (.int .i64 e.kind)∧w.cell? ⟨g,i*4+2,none⟩=some v.1∧w.cell? ⟨g,i*4+3,none⟩=some v.2:=by
 have n:=(List.getElem?_eq_some_iff.1 m).1;have f:vs[i]?=some (vs[i]'(by rw[h.rows.1];exact n)):=List.getElem?_eq_getElem _;generalize vs[i]'(by rw[h.rows.1];exact n)=v at f;rcases h.row.2 with⟨-,p⟩|⟨g,l,cur,rfl,-⟩
 ·omega
 ·have b:∀(k:Nat) u,(zEy e v)[k]?=some u→w.cell? ⟨g,i*4+k,none⟩=some u:=fun k u o=>by
   have:=h.row.cells (g:=g) rfl (i*4+k) u (zEO _ _ i e v m f k u o);rwa[add_zero]at this
  exact⟨g,l,v,rfl,f,h.rows.2 i e v m f,b 0 _ rfl,b 1 _ rfl,b 2 _ rfl,b 3 _ rfl⟩
end
def zAl (w w1:World)(j d:Nat)(pre:ByteArray)(D:zAA)(M:zAJ)(F:Nat→Prop):Prop :=
 ∃own gv dv ev vs,zBm w1 j d pre own M gv dv ev vs∧St w w1 d D (fun k=>own k∨F k)∧(∀k,own k→w.heap.size≤k∧¬F k)∧∀k,F k→k<w1.heap.size
def zF4 (j d:Nat)(pre:ByteArray)(w:World):Prop:=w.cell? ⟨j,3,none⟩=some (.pointer (some ⟨d,0,none⟩))∧w.cell? ⟨j,4,none⟩=some (.string pre)∧pre.size≤20
theorem zBm.jc {w:World}{j d:Nat}{pre:ByteArray}{own:Nat→Prop}{M:zAJ}{gv dv ev:Value}{vs:List EV}(h:zBm w j d pre own M gv dv ev vs):zF4 j d pre w:=⟨h.c 3 rfl,h.c 4 rfl,h.psz.2⟩
theorem zF4.same {l d:Nat}{pre:ByteArray}{w w':World}(h:zF4 l d pre w)(b:w'.heap[l]?=w.heap[l]?):zF4 l d pre w' :=
 ⟨(World.cell?_of_block (a:=⟨l,3,none⟩) b).trans h.1,(World.cell?_of_block (a:=⟨l,4,none⟩) b).trans h.2.1,h.2.2⟩
section
variable {w w1 w2:World} {j d:Nat} {pre:ByteArray} {D:zAA} {M:zAJ} {F F':Nat→Prop}
theorem zAl.bel (h:zAl w w1 j d pre D M F):Below w.heap.size w w1:=let ⟨_,_,_,_,_,_,hS,_,_⟩:=h;hS.below
theorem zAl.okD (h:zAl w w1 j d pre D M F):D.OK:=let ⟨_,_,_,_,_,_,hS,_,_⟩:=h;hS.ok
theorem zAl.flt (h:zAl w w1 j d pre D M F){k:Nat}(b:F k):k<w1.heap.size:=let ⟨_,_,_,_,_,_,_,_,hF⟩:=h;hF k b
theorem zAl.jc (h:zAl w w1 j d pre D M F):zF4 j d pre w1:=let ⟨_,_,_,_,_,hJ,_,_,_⟩:=h;hJ.jc
theorem zAl.stF (h:zAl w w1 j d pre D M F):St w w1 d D F:=let ⟨_,_,_,_,_,_,hS,_,_⟩:=h;hS.less fun _ b=>.inr b
theorem zAl.st (h:zAl w w1 j d pre D M F):St w w1 d D NoF:=let ⟨_,_,_,_,_,_,hS,_,_⟩:=h;hS.noF
theorem zAl.jlt (h:zAl w w1 j d pre D M F):j<w1.heap.size:=let ⟨_,_,_,_,_,hJ,_,_,_⟩:=h;hJ.olt j hJ.ol
theorem zAl.okM (h:zAl w w1 j d pre D M F):M.OK:=let ⟨_,_,_,_,_,hJ,_,_,_⟩:=h;hJ.ok
theorem zAl.psz (h:zAl w w1 j d pre D M F):1≤pre.size∧pre.size≤20:=let ⟨_,_,_,_,_,hJ,_,_,_⟩:=h;hJ.psz
theorem zAl.move {S:Nat→Prop}(h:zAl w w1 j d pre D M F)(f:Chg S w1 w2)(hS:∀k,k<w1.heap.size→S k→F k∧w.heap.size≤k)(hF:∀k,F' k→(F k∨w1.heap.size≤k)∧k<w2.heap.size):zAl w w2 j d pre D M F':=by
 obtain⟨own,gv,dv,ev,vs,c,i,hn,m⟩:=h;refine⟨own,gv,dv,ev,vs,c.keep (fun k b=>f.block k (c.olt k b) fun g=>(hn k b).2 (hS k (c.olt k b) g).1) fun k b=>Nat.lt_of_lt_of_le (c.olt k b) f.size,i.move f (fun k b g=>⟨.inr (hS k b g).1,(hS k b g).2⟩) (fun k b=>?_),fun k b=>⟨(hn k b).1,fun l=>?_⟩,fun k b=>(hF k b).2⟩
 ·rcases b with b|b
  ·exact⟨.inl (.inl b),Nat.lt_of_lt_of_le (c.olt k b) f.size⟩
  ·exact⟨(hF k b).1.imp .inr id,(hF k b).2⟩
 ·rcases(hF k l).1 with h|h
  ·exact(hn k b).2 h
  ·have:=c.olt k b;omega
theorem zAl.next (h:zAl w w1 j d pre D M F)(b:Below w1.heap.size w1 w2):zAl w w2 j d pre D M F :=
 h.move (Chg.of_below b) (fun _ _ h=>h.elim) fun _ c=>⟨.inl c,Nat.lt_of_lt_of_le (h.flt c) b.size⟩
theorem zAl.drewN (h:zAl w w1 j d pre D M F)(q:Nat):zAl w (w1.drewN q) j d pre D M F:=h.next ⟨rfl,rfl,rfl,Nat.le_refl _,fun _ _=>rfl⟩
theorem zAl.same (h:zAl w w1 j d pre D M F)(b:Below w1.heap.size w1 w2):Same F w1 w2:=fun _ c=>b.block _ (h.flt c)
theorem zAl.less (h:zAl w w1 j d pre D M F)(hF:∀k,F' k→F k):zAl w w1 j d pre D M F' :=
 h.move (Chg.refl _ _:Chg (fun _=>False) w1 w1) (fun _ _ h=>h.elim) fun _ b=>⟨.inl (hF _ b),h.flt (hF _ b)⟩
theorem zAl.more (h:zAl w w1 j d pre D M F)(c:Below w1.heap.size w1 w2)(hF:∀k,F' k→F k∨w1.heap.size≤k∧k<w2.heap.size):zAl w w2 j d pre D M F' :=
 h.move (Chg.of_below c) (fun _ _ h=>h.elim) fun k f=>by
  rcases hF k f with b|b
  ·exact⟨.inl b,Nat.lt_of_lt_of_le (h.flt b) c.size⟩
  ·exact⟨.inr b.1,b.2⟩
theorem zAl.box (h:zAl w w1 j d pre D M F)(o:Obj):zAl w (w1.alloc o) j d pre D M (fun k=>F k∨k=w1.heap.size) :=
 h.more (zAD w1 o) fun k b=>b.imp id fun e=>⟨by omega,by simp;omega⟩
theorem zFU {P:Program}{f:FuncId}{args:Array Value}{Re:zAA×Nat}{wc:World}(h:zAl w w1 j d pre D M F)(i:Below w1.heap.size w1 wc)(n:∀G,St w w1 d D G→Calls P f args wc (Told w d G wc Re)) :
  Calls P f args wc fun e w'=>e=.returned (.int .i64 (Re.2:Int))∧zAl w w' j d pre Re.1 M F∧Same F w1 w'∧w'.heap[j]?=w1.heap[j]?:=by
 obtain⟨own,gv,dv,ev,vs,g,hS,hn,m⟩:=h;refine(n _ hS).mono ?_;rintro e w' ⟨rfl,c,l⟩;refine⟨rfl,⟨own,gv,dv,ev,vs,?_,c,hn,fun k b=>c.flt (.inr b)⟩,fun k b=>(l k (.inr b)).trans (i.block k (m k b)),(l j (.inl g.ol)).trans (i.block j (g.olt j g.ol))⟩;exact(g.below i).keep (fun k b=>l k (.inl b)) fun k b=>c.flt (.inl b)
theorem zAl.turned {own own':Nat→Prop}{M':zAJ}{gv' dv' ev':Value}{vs':List EV}(hS:St w w1 d D (fun k=>own k∨F k))(hn:∀k,own k→w.heap.size≤k∧¬F k)(g:∀k,F k→k<w1.heap.size)
  (c:zBm w2 j d pre own' M' gv' dv' ev' vs') (f:Chg own w1 w2) (i:∀k,own' k→own k∨w1.heap.size≤k):zAl w w2 j d pre D M' F∧Same F w1 w2:=by
 refine⟨⟨own',gv',dv',ev',vs',c,hS.move f (fun k _ b=>⟨.inl b,(hn k b).1⟩) (fun k b=>?_),fun k b=>?_,fun k b=>Nat.lt_of_lt_of_le (g k b) f.size⟩,fun k b=>f.block k (g k b) fun m=>(hn k m).2 b⟩
 ·rcases b with b|b
  ·exact⟨(i k b).imp .inl id,c.olt k b⟩
  ·exact⟨.inl (.inr b),Nat.lt_of_lt_of_le (g k b) f.size⟩
 ·rcases i k b with h|h
  ·exact hn k h
  ·exact⟨Nat.le_trans hS.below.size h,fun l=>by have:=g k l;omega⟩
end
theorem zBm.set {w w':World}{j d:Nat}{pre:ByteArray}{own:Nat→Prop}{M M':zAJ}{gv dv ev:Value}{vs:List EV}(h:zBm w j d pre own M gv dv ev vs)
  (l:w'.heap[j]?=some (.cells #[.int .i64 (M'.number:Int),.int .i64 M'.term,gv,.pointer (some ⟨d,0,none⟩),.string pre,.int .i64 M'.now,.int .i64 M'.vote,dv,ev,.bool M'.dead] 132 (0,0)))
  (f:∀k,k≠j→w'.heap[k]?=w.heap[k]?) (o:w'.heap.size=w.heap.size) (n:M'.group=M.group) (m:M'.data=M.data) (c:M'.entries=M.entries) (ok:M'.OK):zBm w' j d pre own M' gv dv ev vs where
 cells:=l
 group:=by rw[n];exact OwnR.keep h.group fun k b=>f k (h.og k b).2.1
 data:=by rw[m];exact OwnR.keep h.data fun k b=>f k (h.od k b).2.1
 row:=by rw[c];exact h.row.keep fun k b=>f k (h.oe k b).2
 rows:=by rw[c];exact⟨h.rows.1,fun i e v c g=>(h.rows.2 i e v c g).keep fun k b=>f k (h.ov v (List.mem_of_getElem? g) k b).2.1⟩
 ol:=h.ol
 og:=h.og
 od:=h.od
 oe:=h.oe
 ov:=h.ov
 olt:=fun k b=>by rw[o];exact h.olt k b
 psz:=h.psz
 ok:=ok
theorem zD1 {w:World}{x:Value}{l:List Int}(h:zBe w x l)(A:l.length≤1099511627776) :
  Calls prog 74 #[x] w fun e w'=>∃v,e=.returned v∧zCm w' v l∧(∀k,v.ownBlock=some k→w.heap.size≤k)∧Below w.heap.size w w':=by
 obtain⟨t,p,c,rfl,y,q⟩:=h;cases p with
 | none =>
  have i:l=[]:=List.eq_nil_of_length_eq_zero (y rfl);subst i;refine(Tryz.slices_Clone_int_nil _ c w).mono ?_;rintro e w' ⟨rfl,rfl⟩;exact⟨_,rfl,OwnR.nil _ _ _,fun k f=>(by cases f),Below.refl _ _⟩
 | some a =>
  by_cases hn:l=[]
  ·subst hn;refine(Tryz.slices_Clone_int_zero a c w).mono ?_;rintro e w' ⟨v,rfl,d,-,m⟩;exact⟨v,rfl,OwnR.of_kit d,fun k f=>OwnR.block_ge d f,m⟩
  ·obtain⟨b,o,z⟩:=a;have g:0<l.length:=by
    cases l with
    | nil=>exact absurd rfl hn
    | cons x r=>simp
   have i:=q _ rfl 0 (.int .i64 l[0]) (by rw[List.getElem?_map,List.getElem?_eq_getElem g];rfl);have n:z=none:=by
    have:=World.cell?_spot i;simpa[Addr.add]using this
   subst n;refine(Tryz.slices_Clone_int b o l.length c l w (Nat.le_refl _) (by omega) fun j s=>?_).mono ?_
   ·have:=q _ rfl j (.int .i64 l[j]) (by rw[List.getElem?_map,List.getElem?_eq_getElem s];rfl);have e:(⟨b,o,none⟩:Addr).add j=⟨b,o+j,none⟩:=by unfold Addr.add;split<;>simp_all
    rw[e]at this;rw[this];simp[List.getD,List.getElem?_eq_getElem s]
   ·rintro e w' ⟨v,rfl,d,-,m⟩;rw[List.take_length]at d;exact⟨v,rfl,OwnR.of_kit d,fun k f=>OwnR.block_ge d f,m⟩
theorem zD3 (w:World)(n:Int):Calls prog 112 #[.int .i64 n] w fun e w'=>e=.returned (.bool (zDR n))∧w'=w:=by
 by_cases c:0≤n
 ·by_cases d:n≤1099511627776
  focus have b:=zW (zDR n=true) (zAo.2 ⟨c,d⟩)
  rotate_left
  focus have b:=zW (zDR n=false) (by rw[Bool.eq_false_iff];intro e;exact d (zAo.1 e).2);have f:decide (n≤1099511627776)=false:=by simpa using d
  all_goals
   go_enter func112,ntmps112;go_wp2_with fail;go_ret;exact⟨by rw[b.o];rfl,rfl⟩
 ·have b:=zW (zDR n=false) (by rw[Bool.eq_false_iff];intro e;exact c (zAo.1 e).1);have f:decide (0≤n)=false:=by simpa using c
  go_enter func112,ntmps112
  go_wp2_with fail;go_ret;exact⟨by rw[b.o];rfl,rfl⟩
def zED (l:List Int)(k:Nat):Int:=if k=0 then -1 else(l[k-1]?).getD 0
theorem zGU {l:List Int}{k:Nat}(b:k<l.length):zED l (k+1)=l[k]:=by
 unfold zED;rw[if_neg (by omega),Nat.add_sub_cancel,List.getElem?_eq_getElem b];rfl
theorem zEU {w:World}{p:Option Addr}{n c:Nat}{l:List Int}(h:zBe w (.slice p n c) l)(X:l.length≤1099511627776) :
  Calls prog 73 #[.slice p n c] w fun e w'=>e=.returned (.bool (zAX l))∧w'=w:=by
 have hn:l.length=n:=by obtain⟨_,_,e⟩:=h.slice;simp only[Value.slice.injEq]at e;exact e.2.1.symm
 rw[hn]at X;have H:=zh h;have t:=zh hn;clear h hn
 go_enter func73,ntmps73
 go_wp2_with fail
 go_loop [7] (fun i=>∃k:Nat,k≤n∧i=.int .i64 k∧zFo (-1) l=zFo (zED l k) (l.drop k)∧-1≤zED l k) (fun i=>n-(intOf i).toNat)
 case atStart=>exact⟨0,Nat.zero_le _,rfl,rfl,Int.le_refl _⟩
 case round =>
  obtain⟨k,hk,rfl,g,Y⟩:=hrel
  by_cases E:k<n
  ·have d:k<l.length:=by rw[t.o];exact E
   have v:=zW (¬(zED l k<l[k]∧l[k]<7)→zAX l=false) (fun A=>by
    unfold zAX;rw[g,List.drop_eq_getElem_cons d];unfold zFo;rw[decide_eq_false A];rfl)
   have J:=zW (zED l k<l[k]∧l[k]<7→zFo (-1) l=zFo (zED l (k+1)) (l.drop (k+1))) (fun A=>by
    rw[g,List.drop_eq_getElem_cons d,zGU d]
    show(decide _&&_)=_
    rw[decide_eq_true A,Bool.true_and])
   have L:=zh (zGU d);rcases H.o.at with r|⟨b,o,K,a,B⟩
   ·rw[r]at d;simp at d
   rw[t.o]at a;simp only[Value.slice.injEq]at a;obtain⟨rfl,-,rfl⟩:=a;have Q:=B k _ (List.getElem?_eq_getElem d);have y:=zW (k≠0→w.cell? ⟨b,o+(k-1),none⟩=some (.int .i64 (zED l k))) (fun r=>by
    have m:k-1<l.length:=by omega
    have:=B (k-1) _ (List.getElem?_eq_getElem m);rw[this];unfold zED;rw[if_neg r,List.getElem?_eq_getElem m];rfl)
   have z:=zW (k=0→zED l k=-1) (fun r=>by rw[r];rfl);clear B g;generalize l[k]=x at *;generalize zED l k=q at *
   by_cases F:x<0
   ·have f:=zh (v.o (by omega));go_wp2_with fail;go_ret;exact⟨by rw[f.o];rfl,rfl⟩
   ·have T:decide (x<0)=false:=by simpa using F
    by_cases G:7≤x
    ·have f:=zh (v.o (by omega));go_wp2_with fail;go_ret;exact⟨by rw[f.o];rfl,rfl⟩
    ·have D:decide (7≤x)=false:=by simpa using G
     by_cases j:k=0
     ·have f:=zh (J.o (by rw[z.o j];omega));have U:decide ((0:Int)<(k:Int))=false:=by simp;omega
      have O:decide (0<k)=false:=by simp;omega
      clear j;go_wp2_with fail
      go_round
      case rel=>exact⟨k+1,by omega,by go_num,f.o,by rw[L.o];omega⟩
      case measure=>simp[intOf];omega
     ·have R:=y.o j;have m:(0:Int)<(k:Int):=by omega
      have P:0<k:=by omega
      have Z:IntKind.i64.wrap ((k:Int)-1)=((k-1:Nat):Int):=by rw[IntWalk.i64_in _ (by omega)];omega
      have W:k-1<n:=by omega
      by_cases I:x≤q
      ·have f:=zh (v.o (by omega));go_wp2_with fail;go_ret;exact⟨by rw[f.o];rfl,rfl⟩
      ·have f:=zh (J.o (by omega));have V:decide (x≤q)=false:=by simpa using I
       go_wp2_with fail
       go_round
       case rel=>exact⟨k+1,by omega,by go_num,f.o,by rw[L.o];omega⟩
       case measure=>simp[intOf];omega
  ·have s:l.drop k=[]:=List.drop_of_length_le (by rw[t.o];omega);have f:=zW (zAX l=decide (1≤n∧n≤7)) (by
    unfold zAX;rw[g,s,t.o];rfl)
   clear g s
   by_cases M:1≤n
   ·by_cases N:n≤7
    ·have C:decide ((1:Int)≤(n:Int))=true:=by simp;omega
     have D:decide ((n:Int)≤7)=true:=by simp;omega
     go_wp2_with fail;go_ret;exact⟨by rw[f.o,decide_eq_true (And.intro M N)];rfl,rfl⟩
    ·have C:decide ((1:Int)≤(n:Int))=true:=by simp;omega
     have S:decide ((n:Int)≤7)=false:=by simp;omega
     go_wp2_with fail;go_ret;exact⟨by rw[f.o,decide_eq_false (fun e=>N e.2)];rfl,rfl⟩
   ·have S:decide ((1:Int)≤(n:Int))=false:=by simp;omega
    go_wp2_with fail;go_ret;exact⟨by rw[f.o,decide_eq_false (fun e=>M e.1)];rfl,rfl⟩
end Go.Proofs.YtapfnehdgailmaaGreat
