/- What the program's functions and the document's do, and plain laws, for PZoneStates. -/
import Derived.BigQuiet
import Derived.Deep.CutBlock
import Derived.Deep.DeepCutAuto
import Derived.Deep.LoopGhost
import Derived.Deep.QuietTactic
import Derived.DeepKeys4
import Derived.StillTailTactics
import Derived.Test.YtmcanphlgkolcaaGreatDoorCA
import Derived.Test.YtmcanphlgkolcaaGreatDoorChecked
open Go.Proofs.Tryz
set_option maxRecDepth 100000
set_option maxHeartbeats 64000000
namespace Go.Sat
def zET (n:Nat):Bs:=if n<128 then [UInt8.ofNat n]else UInt8.ofNat (n%128+128)::zET (n/128)
termination_by n
decreasing_by omega
def zEU (v:Int):Bs:=zET (max 0 (min v 4611686018427387904)).toNat
def zA5 (l:List Int):Bs:=(l.map zEU).flatten
def zAw (p:Bs):Bs:=zET p.length++p
theorem zBk {n:Nat}(h:n<128):zET n=[UInt8.ofNat n]:=by rw[zET,if_pos h]
theorem zDN {n:Nat}(h:128≤n):zET n=UInt8.ofNat (n%128+128)::zET (n/128):=by rw[zET,if_neg (by omega)]
theorem zDa {n:Nat}(h:n≤4611686018427387904):zEU (n:Int)=zET n:=by
 unfold zEU
 congr 1
 omega
theorem numB_len (n:Nat):1≤(zET n).length:=by
 rw[zET]
 split<;>simp
theorem numB_le (k:Nat):∀n,n<128 ^ (k+1)→(zET n).length≤k+1:=by
 induction k with
 | zero =>
  intro n h;rw[zBk (by simpa using h)];simp
 | succ k ih =>
  intro n h
  by_cases hn:n<128
  ·rw[zBk hn];simp
  ·rw[zDN (by omega),List.length_cons];have:=ih (n/128) (by rw[Nat.div_lt_iff_lt_mul (by decide),←Nat.pow_succ];exact h);omega
theorem zAk {n:Nat}(h:n≤4611686018427387904):(zET n).length≤9:=numB_le 8 n (Nat.lt_of_le_of_lt h (by decide))
def zCN:Nat→Nat→Bs→Option (Nat×Bs)
 | _,_,[]=>none
 | i,u,c::r=>if 9≤i∨(0<i∧c=0)then none
  else if c.toNat<128 then(if 4611686018427387904<u+c.toNat*128 ^ i then none else some (u+c.toNat*128 ^ i,r))
  else zCN (i+1) (u+c.toNat%128*128 ^ i) r
theorem numGo_num (n:Nat):∀(i u:Nat) (r:Bs),(0<i→0<n)→u+n*128 ^ i≤4611686018427387904→zCN i u (zET n++r)=some (u+n*128 ^ i,r):=by
 induction n using Nat.strongRecOn with
 | ind n ih =>
  intro i u r k q;have m:¬9≤i∨n=0:=by
   by_cases hn:n=0
   ·exact .inr hn
   ·refine .inl fun p=>?_;have b:128 ^ 9≤128 ^ i:=Nat.pow_le_pow_right (by decide) p;have d:1*128 ^ 9≤n*128 ^ i:=Nat.mul_le_mul (by omega) b;have c:(128:Nat) ^ 9=9223372036854775808:=by decide
    omega
  by_cases hn:n<128
  ·rw[zBk hn]
   show(if _ then _ else _)=_
   have e:(UInt8.ofNat n).toNat=n:=by rw[UInt8.toNat_ofNat'];omega
   have j:¬(9≤i∨(0<i∧UInt8.ofNat n=0)):=by
    rintro(h|⟨b,d⟩)
    ·rcases m with f|f
     ·exact f h
     ·have:=k (by omega);omega
    ·have c:=congrArg UInt8.toNat d;rw[e]at c;have:=k b;simp at c;omega
   rw[if_neg j,e,if_pos hn,if_neg (by omega)];rfl
  ·rw[zDN (by omega)]
   show(if _ then _ else _)=_
   have e:(UInt8.ofNat (n%128+128)).toNat=n%128+128:=by rw[UInt8.toNat_ofNat'];omega
   have j:¬(9≤i∨(0<i∧UInt8.ofNat (n%128+128)=0)):=by
    rintro(h|⟨b,d⟩)
    ·rcases m with f|f<;>omega
    ·have c:=congrArg UInt8.toNat d;rw[e]at c;simp at c
   rw[if_neg j,e,if_neg (by omega)];have o:u+(n%128+128)%128*128 ^ i+n/128*128 ^ (i+1)=u+n*128 ^ i:=by
    have b:n=n%128+128*(n/128):=by omega
    have d:n*128 ^ i=n%128*128 ^ i+n/128*128 ^ (i+1):=by
     conv=>lhs;rw[b]
     rw[Nat.add_mul,Nat.pow_succ,Nat.mul_comm 128 (n/128),Nat.mul_assoc,Nat.mul_comm 128 (128 ^ i)]
    rw[show(n%128+128)%128=n%128 by omega];omega
   have:=ih (n/128) (by omega) (i+1) (u+(n%128+128)%128*128 ^ i) r (fun _=>by omega) (by rw[o];exact q);rw[o]at this;exact this
theorem numGo_some:∀(l:Bs) (i u n:Nat) (r:Bs),zCN i u l=some (n,r)→n≤4611686018427387904∧∃k,0<k∧k≤l.length∧r=l.drop k:=by
 intro l
 induction l with
 | nil=>intro i u n r h;cases h
 | cons c l ih =>
  intro i u n r h;unfold zCN at h
  split at h
  ·cases h
  ·split at h
   ·split at h
    ·cases h
    ·cases h;exact⟨by omega,1,by decide,by simp,rfl⟩
   ·obtain⟨b,k,f,d,j⟩:=ih _ _ _ _ h;exact⟨b,k+1,by omega,by simpa using d,by rw[j];rfl⟩
structure Rd where
 rest:Bs
 bad:Bool
namespace Rd
def fail:Rd:=⟨[],true⟩
def num (R:Rd):Nat×Rd:=match zCN 0 0 R.rest with
 | some (n,r)=>(n,⟨r,R.bad⟩)
 | none=>(0,fail)
def raw (R:Rd)(n:Nat):Bs×Rd:=if n≤R.rest.length then(R.rest.take n,⟨R.rest.drop n,R.bad⟩)else([],fail)
def bytes (R:Rd):Bs×Rd:=R.num.2.raw R.num.1
def whole (R:Rd):Bool:=!R.bad&&R.rest.isEmpty
theorem num_le (R:Rd):R.num.1≤4611686018427387904:=by
 unfold num
 split
 ·exact(numGo_some _ _ _ _ _ ‹_›).1
 ·exact Nat.zero_le _
theorem num_rest (R:Rd):R.num.2.rest.length≤R.rest.length:=by
 unfold num
 split
 ·obtain⟨-,k,-,c,b⟩:=numGo_some _ _ _ _ _ ‹_›;simp only[b,List.length_drop];omega
 ·exact Nat.zero_le _
theorem raw_rest (R:Rd)(n:Nat):(R.raw n).2.rest.length≤R.rest.length:=by
 unfold raw
 split
 ·simp
 ·exact Nat.zero_le _
theorem raw_len (R:Rd)(n:Nat):(R.raw n).1.length≤R.rest.length:=by
 unfold raw
 split
 ·simp;omega
 ·exact Nat.zero_le _
theorem bytes_rest (R:Rd):R.bytes.2.rest.length≤R.rest.length:=Nat.le_trans (raw_rest _ _) (num_rest R)
theorem bytes_len (R:Rd):R.bytes.1.length≤R.rest.length:=Nat.le_trans (raw_len _ _) (num_rest R)
theorem num_of {n:Nat}(h:n≤4611686018427387904)(r:Bs)(b:Bool):num ⟨zET n++r,b⟩=(n,⟨r,b⟩):=by
 unfold num;have:=numGo_num n 0 0 r (fun h=>absurd h (by decide)) (by simpa using h);simp only[this];simp
theorem raw_of (p r:Bs)(b:Bool):raw ⟨p++r,b⟩ p.length=(p,⟨r,b⟩):=by
 unfold raw;rw[if_pos (by simp)];simp
theorem bytes_of {p:Bs}(h:p.length≤4611686018427387904)(r:Bs)(b:Bool):bytes ⟨zAw p++r,b⟩=(p,⟨r,b⟩):=by
 unfold bytes zAw;rw[List.append_assoc,num_of h,raw_of]
end Rd
end Go.Sat
namespace Go.Proofs.YtmcanphlgkolcaaGreatDoor
open Go.Sat
structure It where
 a:Int
 b:Int
 c:Int
 d:Int
theorem It.ext' {x y:It}(f:x.a=y.a)(i:x.b=y.b)(j:x.c=y.c)(k:x.d=y.d):x=y:=by
 cases x;cases y
 simp_all
instance:DecidableEq It:=fun x y=>decidable_of_iff (x.a=y.a∧x.b=y.b∧x.c=y.c∧x.d=y.d) ⟨fun h=>It.ext' h.1 h.2.1 h.2.2.1 h.2.2.2,fun h=>by subst h;exact⟨rfl,rfl,rfl,rfl⟩⟩
namespace It
def zero:It:=⟨0,0,0,0⟩
def most:Int:=1152921504606846976
def in1 (n:Int):Bool:=decide (0≤n)&&decide (n≤most)
def is (x:It):Bool:=in1 x.a&&in1 x.b&&in1 x.c&&in1 x.d
def one (k n:Int):It:=if 0≤k∧k<4∧0≤n∧n≤most then(if k=0 then⟨n,0,0,0⟩else if k=1 then⟨0,n,0,0⟩else if k=2 then⟨0,0,n,0⟩else⟨0,0,0,n⟩)else zero
def plus (x y:It):It:=⟨x.a+y.a,x.b+y.b,x.c+y.c,x.d+y.d⟩
def less (x y:It):Bool:=decide (x.a<y.a)||decide (x.b<y.b)||decide (x.c<y.c)||decide (x.d<y.d)
def l (x:It):List Int:=[x.a,x.b,x.c,x.d]
end It
theorem It.is_iff {x:It}:x.is=true↔(0≤x.a∧x.a≤1152921504606846976)∧(0≤x.b∧x.b≤1152921504606846976)∧(0≤x.c∧x.c≤1152921504606846976)∧(0≤x.d∧x.d≤1152921504606846976):=by
 unfold It.is It.in1 It.most;simp[and_assoc]
structure OpM where
 kind:Int
 client:Int
 seq:Int
 atK:ByteArray
 atW:ByteArray
 toK:ByteArray
 toW:ByteArray
 item:Int
 count:Int
 price:Int
 buy:Bool
 id:Int
def s0:ByteArray:=⟨#[]⟩
def zDs (k w:ByteArray):Bool:=decide (1≤k.size)&&decide (k.size≤16)&&decide (1≤w.size)&&decide (w.size≤16)
namespace OpM
def zero:OpM:=⟨0,0,0,s0,s0,s0,s0,0,0,0,false,0⟩
def noTo (o:OpM):Bool:=decide (o.toK=s0)&&decide (o.toW=s0)
def cnt (o:OpM):Bool:=decide (0≤o.item)&&decide (o.item<4)&&decide (1≤o.count)&&decide (o.count≤1048576)
def bare (o:OpM):Bool:=o.noTo&&decide (o.item=0)&&decide (o.count=0)&&decide (o.price=0)&& !o.buy&&decide (o.id=0)
def names (o:OpM):Bool :=
 if o.kind=1∨o.kind=6 then o.cnt&&o.noTo&&decide (o.price=0)&& !o.buy&&decide (o.id=0)
 else if o.kind=2 then zDs o.toK o.toW&&o.cnt&&decide (o.price=0)&& !o.buy&&decide (o.id=0)
 else if o.kind=3 then decide (1≤o.item)&&decide (1≤o.price)&&decide (o.price≤1024)&&o.cnt&&o.noTo&&decide (o.id=0)
 else if o.kind=4 then decide (1≤o.id)&&decide (o.id≤1099511627776)&&o.noTo&&decide (o.item=0)&&decide (o.count=0)&&decide (o.price=0)&& !o.buy
 else if o.kind=5∨o.kind=7 then o.bare else false
def may (o:OpM):Bool:=decide (1≤o.client)&&decide (o.client≤1048576)&&decide (1≤o.seq)&&decide (o.seq≤1099511627776)&&zDs o.atK o.atW&&o.names
def enc (o:OpM):Bs:=zA5 [o.kind,o.client,o.seq]++(zAw o.atK.data.toList++zAw o.atW.data.toList++zAw o.toK.data.toList++zAw o.toW.data.toList)++zA5 [o.item,o.count,o.price,if o.buy then 1 else 0,o.id]
end OpM
def bsA (b:Bs):ByteArray:=⟨b.toArray⟩
def opRd (b:Bs):OpM×Rd :=
 let n1:=Rd.num ⟨b,false⟩
 let n2:=n1.2.num
 let n3:=n2.2.num
 let b1:=n3.2.bytes
 let b2:=b1.2.bytes
 let b3:=b2.2.bytes
 let b4:=b3.2.bytes
 let m1:=b4.2.num
 let m2:=m1.2.num
 let m3:=m2.2.num
 let m4:=m3.2.num
 let m5:=m4.2.num
 (⟨n1.1,n2.1,n3.1,bsA b1.1,bsA b2.1,bsA b3.1,bsA b4.1,m1.1,m2.1,m3.1,decide (m4.1=1),m5.1⟩,m5.2)
def opDec (b:Bs):Option OpM:=if(opRd b).2.whole=true∧(opRd b).1.may=true∧(opRd b).1.enc=b then some (opRd b).1 else none
theorem zCf {z:Int}(h:0≤z∧z≤4611686018427387904)(r:Bs)(b:Bool):Rd.num ⟨zEU z++r,b⟩=(z.toNat,⟨r,b⟩):=by
 obtain⟨n,rfl⟩:∃n:Nat,z=(n:Int):=⟨z.toNat,by omega⟩;rw[zDa (by omega),Rd.num_of (by omega),Int.toNat_natCast]
theorem OpM.may_iff {o:OpM}(h:o.may=true):(1≤o.client∧o.client≤1048576)∧(1≤o.seq∧o.seq≤1099511627776)∧zDs o.atK o.atW=true∧o.names=true:=by
 unfold OpM.may at h;simp only[Bool.and_eq_true,decide_eq_true_eq]at h;exact⟨⟨h.1.1.1.1.1,h.1.1.1.1.2⟩,⟨h.1.1.1.2,h.1.1.2⟩,h.1.2,h.2⟩
theorem OpM.names_le {o:OpM}(h:o.names=true):(1≤o.kind∧o.kind≤7)∧(0≤o.item∧o.item<4)∧(0≤o.count∧o.count≤1048576)∧(0≤o.price∧o.price≤1024)∧(0≤o.id∧o.id≤1099511627776)∧o.toK.size≤16∧o.toW.size≤16:=by
 have c:s0.size=0:=rfl;unfold OpM.names OpM.bare OpM.cnt OpM.noTo zDs at h;have b:∀{x:ByteArray},x=s0→x.size≤16:=fun e=>by rw[e];decide
 split at h
 ·simp only[Bool.and_eq_true,decide_eq_true_eq,Bool.not_eq_true']at h;exact⟨by omega,by omega,by omega,by omega,by omega,b h.1.1.1.2.1,b h.1.1.1.2.2⟩
 split at h
 ·simp only[Bool.and_eq_true,decide_eq_true_eq,Bool.not_eq_true']at h;exact⟨by omega,by omega,by omega,by omega,by omega,by omega,by omega⟩
 split at h
 ·simp only[Bool.and_eq_true,decide_eq_true_eq]at h;exact⟨by omega,by omega,by omega,by omega,by omega,b h.1.2.1,b h.1.2.2⟩
 split at h
 ·simp only[Bool.and_eq_true,decide_eq_true_eq,Bool.not_eq_true']at h;exact⟨by omega,by omega,by omega,by omega,by omega,b h.1.1.1.1.2.1,b h.1.1.1.1.2.2⟩
 split at h
 ·simp only[Bool.and_eq_true,decide_eq_true_eq,Bool.not_eq_true']at h;exact⟨by omega,by omega,by omega,by omega,by omega,b h.1.1.1.1.1.1,b h.1.1.1.1.1.2⟩
 ·cases h
theorem isPl_iff {k w:ByteArray}(h:zDs k w=true):(1≤k.size∧k.size≤16)∧1≤w.size∧w.size≤16:=by
 unfold zDs at h;simp only[Bool.and_eq_true,decide_eq_true_eq]at h;omega
theorem bsA_of (s:ByteArray):bsA s.data.toList=s:=by
 unfold bsA;simp
theorem opRd_enc {o:OpM}(h:o.may=true):opRd o.enc=(o,⟨[],false⟩):=by
 obtain⟨⟨v,y⟩,⟨q1,q2⟩,p,hn⟩:=OpM.may_iff h;obtain⟨⟨k1,k2⟩,⟨j,A⟩,⟨k,B⟩,⟨m,C⟩,⟨i,z⟩,q,r⟩:=OpM.names_le hn;obtain⟨⟨-,n⟩,-,t⟩:=isPl_iff p;have f:∀s:ByteArray,s.size≤16→s.data.toList.length≤4611686018427387904:=fun s a=>by
  have:s.data.toList.length=s.size:=by rw[Array.length_toList];rfl
  omega
 have b:0≤(if o.buy then(1:Int)else 0)∧(if o.buy then(1:Int)else 0)≤4611686018427387904:=by cases o.buy<;>decide
 have c:decide ((if o.buy then(1:Int)else 0).toNat=1)=o.buy:=by cases o.buy<;>rfl
 unfold opRd OpM.enc;simp only[zA5,List.map_cons,List.map_nil,List.flatten_cons,List.flatten_nil,List.append_nil,List.append_assoc,zCf ⟨(by omega:0≤o.kind),(by omega:o.kind≤4611686018427387904)⟩,zCf ⟨(by omega:0≤o.client),(by omega:o.client≤4611686018427387904)⟩,zCf ⟨(by omega:0≤o.seq),(by omega:o.seq≤4611686018427387904)⟩,
  Rd.bytes_of (f _ n),Rd.bytes_of (f _ t),Rd.bytes_of (f _ q),Rd.bytes_of (f _ r),zCf ⟨j,(by omega:o.item≤4611686018427387904)⟩,zCf ⟨k,(by omega:o.count≤4611686018427387904)⟩,zCf ⟨m,(by omega:o.price≤4611686018427387904)⟩,zCf b]
 have d:=zCf ⟨i,(by omega:o.id≤4611686018427387904)⟩ [] false;rw[List.append_nil]at d;simp only[d,bsA_of,c,Int.toNat_of_nonneg (show 0≤o.kind by omega),Int.toNat_of_nonneg (show 0≤o.client by omega),Int.toNat_of_nonneg (show 0≤o.seq by omega),Int.toNat_of_nonneg j,Int.toNat_of_nonneg k,Int.toNat_of_nonneg m,Int.toNat_of_nonneg i]
theorem opDec_enc {o:OpM}(h:o.may=true):opDec o.enc=some o:=by
 unfold opDec;rw[opRd_enc h,if_pos ⟨rfl,h,rfl⟩]
end Go.Proofs.YtmcanphlgkolcaaGreatDoor
namespace Go.Proofs.YtmcanphlgkolcaaGreatDoor
open Go.RowKit Go.Sat Go.Maps
def strLt (a b:ByteArray):Bool:=Op.bytesLess a.toList b.toList
def strEq (a b:ByteArray):Bool:=a.toList==b.toList
def zC9 (a b:ByteArray):Bool:=decide (a.size≤16)&&decide (b.size≤16)&&(b.toList.isEmpty||(!strLt b a&& !strEq b a))
def zDr (a b k:ByteArray):Bool:=zC9 a b&&decide (1≤k.size)&&decide (k.size≤16)&& !strLt k a&&(b.toList.isEmpty||strLt k b)
theorem zAC (w:World)(o:Obj):Below w.heap.size w (w.alloc o):=(Below.refl _ _).alloc (Nat.le_refl _) o
theorem spanis_calls (w:World)(a b:ByteArray)(d:a.size≤9223372036854775807)(f:b.size≤9223372036854775807) :
  Calls prog 60 #[.agg #[.string a,.string b]] w fun e w'=>e=.returned (.bool (zC9 a b))∧w'=w.alloc (.cells #[.string a,.string b] 27):=by
 have c:=zh (zAC w (.cells #[.string a,.string b] 27))
 go_enter func60,ntmps60
 go_wp2_with fail
 all_goals
  go_ret;refine⟨?_,rfl⟩
  congr 2
  simp_all [zC9,strLt,strEq]
  try omega
theorem zCd (w:World)(a b k:ByteArray)(f:a.size≤9223372036854775807)(i:b.size≤9223372036854775807)(j:k.size≤9223372036854775807) :
  Calls prog 40 #[.agg #[.string a,.string b],.string k] w fun e w'=>e=.returned (.bool (zDr a b k))∧Below w.heap.size w w':=by
 have c:=zh (zAC w (.cells #[.string a,.string b] 27));have d:=zh (spanis_calls (w.alloc (.cells #[.string a,.string b] 27)) a b f i)
 go_enter func40,ntmps40
 go_wp2_with fail;refine d.o.mono ?_;rintro e m ⟨rfl,rfl⟩;go_wp2_with fail
 all_goals
  go_ret;refine⟨?_,c.o.trans ((zAC _ _).mono c.o.size)⟩
  congr 2
  simp_all [zDr,strLt]
  try omega
theorem zAS {P:Program}{f:Func}{p u:Tmp}{ty:TypeId}(h:f.results=#[.cell p ty,.tmp u])(b:Array Value)(w:World)(g:Nat)(t:TypeId)(c:Array Value)(fr:Nat×Nat)(d:TypeDesc)
  (m:b.getD p undef=.pointer (some ⟨g,0,none⟩)) (j:w.heap[g]?=some (.cells c t fr))
  (n:P.underlying ty=some d) (i:(match d with | .struct _ | .array _ _=>true|_=>false)=true) (k:(P.info? ty).map (·.size)=some c.size) :
  (results f b).run P w=.ok (.tuple #[.agg c,b.getD u undef]) w:=by
 rw[results_cell_tmp h,m];simp[asAddr,run_loadVar_row w g t ty c fr d j n i k]
def It.v (x:It):Value:=.agg #[.int .i64 x.a,.int .i64 x.b,.int .i64 x.c,.int .i64 x.d]
def It.o (x:It):Obj:=.cells #[.int .i64 x.a,.int .i64 x.b,.int .i64 x.c,.int .i64 x.d] 46
def RetIt (x:It)(b:Bool)(w:World)(e:Ending)(w':World):Prop:=e=.returned (.tuple #[x.v,.bool b])∧Below w.heap.size w w'
def RetB (b:Bool)(w:World)(e:Ending)(w':World):Prop:=e=.returned (.bool b)∧Below w.heap.size w w'
theorem It.in1_no {n:Int}(h:n<0∨1152921504606846976<n):It.in1 n=false:=by
 unfold It.in1 It.most;rcases h with h|h
 ·rw[decide_eq_false (by omega:¬0≤n)];rfl
 ·rw[decide_eq_false (by omega:¬n≤1152921504606846976),Bool.and_false]
theorem It.in1_yes {n:Int}(h:0≤n)(b:n≤1152921504606846976):It.in1 n=true:=by
 unfold It.in1 It.most;rw[decide_eq_true h,decide_eq_true b];rfl
def Is4 (x:It)(k:Nat):Prop:=(0<k→It.in1 x.a=true)∧(1<k→It.in1 x.b=true)∧(2<k→It.in1 x.c=true)∧(3<k→It.in1 x.d=true)
def zBf (x:It):Bool:=x.is
theorem isAll_no {x:It}(h:It.in1 x.a=false∨It.in1 x.b=false∨It.in1 x.c=false∨It.in1 x.d=false):zBf x=false:=by
 unfold zBf It.is;rcases h with h|h|h|h<;>simp[h]
theorem isAll_yes {x:It}(h:Is4 x 4):zBf x=true:=by
 unfold zBf It.is;rw[h.1 (by decide),h.2.1 (by decide),h.2.2.1 (by decide),h.2.2.2 (by decide)];rfl
theorem idx0 (a b c d:Int)(W:World):(Instr.index 46 (.agg #[.int .i64 a,.int .i64 b,.int .i64 c,.int .i64 d]) (.int .i64 0)).run prog W=.ok (.int .i64 a) W:=by kernel_rfl
theorem idx1 (a b c d:Int)(W:World):(Instr.index 46 (.agg #[.int .i64 a,.int .i64 b,.int .i64 c,.int .i64 d]) (.int .i64 1)).run prog W=.ok (.int .i64 b) W:=by kernel_rfl
theorem idx2 (a b c d:Int)(W:World):(Instr.index 46 (.agg #[.int .i64 a,.int .i64 b,.int .i64 c,.int .i64 d]) (.int .i64 2)).run prog W=.ok (.int .i64 c) W:=by kernel_rfl
theorem idx3 (a b c d:Int)(W:World):(Instr.index 46 (.agg #[.int .i64 a,.int .i64 b,.int .i64 c,.int .i64 d]) (.int .i64 3)).run prog W=.ok (.int .i64 d) W:=by kernel_rfl
theorem is4_1 {x:It}(h:It.in1 x.a=true):Is4 x 1:=⟨fun _=>h,fun h=>by omega,fun h=>by omega,fun h=>by omega⟩
theorem is4_2 {x:It}(g:Is4 x 1)(h:It.in1 x.b=true):Is4 x 2:=⟨fun _=>g.1 (by decide),fun _=>h,fun h=>by omega,fun h=>by omega⟩
theorem is4_3 {x:It}(g:Is4 x 2)(h:It.in1 x.c=true):Is4 x 3:=⟨fun _=>g.1 (by decide),fun _=>g.2.1 (by decide),fun _=>h,fun h=>by omega⟩
theorem is4_4 {x:It}(g:Is4 x 3)(h:It.in1 x.d=true):Is4 x 4:=⟨fun _=>g.1 (by decide),fun _=>g.2.1 (by decide),fun _=>g.2.2.1 (by decide),fun _=>h⟩
theorem zBG (w:World)(a b c d:Int) :
  Calls prog 180 #[.agg #[.int .i64 a,.int .i64 b,.int .i64 c,.int .i64 d]] w (RetB (zBf ⟨a,b,c,d⟩) w):=by
 have p:=zh (zAC w (.cells #[.int .i64 a,.int .i64 b,.int .i64 c,.int .i64 d] 46));have n:=zh (fun h=>isAll_no (x:=⟨a,b,c,d⟩) h);have j:=zh (fun h=>isAll_yes (x:=⟨a,b,c,d⟩) h);generalize zBf ⟨a,b,c,d⟩=R at *
 go_enter func180,ntmps180
 go_wp2_with fail
 go_loop [6] (fun i=>∃k:Nat,k≤4∧i=.int .i64 k∧Is4 ⟨a,b,c,d⟩ k) (fun i=>4-(intOf i).toNat)
 case atStart=>exact⟨0,by omega,rfl,fun h=>by omega,fun h=>by omega,fun h=>by omega,fun h=>by omega⟩
 case round =>
  obtain⟨k,v,rfl,f⟩:=hrel;have m:=zh f;clear f;have q:=idx0 a b c d;have r:=idx1 a b c d;have s:=idx2 a b c d;have t:=idx3 a b c d;rcases(by omega:k=0∨k=1∨k=2∨k=3∨k=4)with rfl|rfl|rfl|rfl|rfl
  all_goals
   go_wp2_with fail
  all_goals first
   | (have f:=n.o (by first|exact .inl (It.in1_no (by omega))|exact .inr (.inl (It.in1_no (by omega)))|exact .inr (.inr (.inl (It.in1_no (by omega))))|exact .inr (.inr (.inr (It.in1_no (by omega)))));subst f;go_ret;exact⟨rfl,p.o⟩)
   | (have f:=j.o m.o;subst f;go_ret;exact⟨rfl,p.o⟩)
   | exact⟨⟨1,by decide,rfl,is4_1 (show It.in1 a=true from It.in1_yes (by omega) (by omega))⟩,by simp[intOf]⟩
   | exact⟨⟨2,by decide,rfl,is4_2 m.o (show It.in1 b=true from It.in1_yes (by omega) (by omega))⟩,by simp[intOf]⟩
   | exact⟨⟨3,by decide,rfl,is4_3 m.o (show It.in1 c=true from It.in1_yes (by omega) (by omega))⟩,by simp[intOf]⟩
   | exact⟨⟨4,by decide,rfl,is4_4 m.o (show It.in1 d=true from It.in1_yes (by omega) (by omega))⟩,by simp[intOf]⟩
def oneK (k n:Int):It:=if k=0 then⟨n,0,0,0⟩else if k=1 then⟨0,n,0,0⟩else if k=2 then⟨0,0,n,0⟩else⟨0,0,0,n⟩
def oneP (k n:Int):Bool:=decide (0≤k∧k<4∧0≤n∧n≤It.most)
theorem one_yes {k n:Int}(h:0≤k∧k<4)(b:0≤n)(c:n≤1152921504606846976):It.one k n=oneK k n∧oneP k n=true:=⟨if_pos ⟨h.1,h.2,b,c⟩,decide_eq_true ⟨h.1,h.2,b,c⟩⟩
theorem one_no {k n:Int}(h:¬(0≤k∧k<4)∨n<0∨1152921504606846976<n):It.one k n=It.zero∧oneP k n=false:=by
 have:¬(0≤k∧k<4∧0≤n∧n≤It.most):=fun g=>by
  have b:=g.2.2.1;have c:n≤1152921504606846976:=g.2.2.2;have d:=g.1;have f:=g.2.1;omega
 exact⟨if_neg this,decide_eq_false this⟩
theorem purseone_calls (w:World)(k n:Int)(q:-9223372036854775808≤k∧k≤9223372036854775807)(hn:-9223372036854775808≤n∧n≤9223372036854775807) :
  Calls prog 195 #[.int .i64 k,.int .i64 n] w (RetIt (It.one k n) (oneP k n) w):=by
 have i:=zh (fun o o':Obj=>(zAC w o).trans ((zAC (w.alloc o) o').mono (zAC w o).size));have b:=zh (fun h=>one_no (k:=k) (n:=n) h);have c:=zh (fun h m p=>one_yes (k:=k) (n:=n) h m p);generalize It.one k n=X at *;generalize oneP k n=R at *
 by_cases j:0≤k∧k<4
 ·rcases(by omega:k=0∨k=1∨k=2∨k=3)with rfl|rfl|rfl|rfl
  all_goals
   go_enter func195,ntmps195
   go_wp2_with fail
  all_goals first
   | (obtain⟨d,f⟩:=b.o (.inr (by omega));subst d;subst f;refine bodyPost_ret (zAS rfl _ _ w.heap.size _ _ (0,0) _ rfl (zAW _ (zAF w _)) underlying46 rfl (by kernel_rfl)) rfl ?_;exact⟨rfl,i.o _ _⟩)
   | (obtain⟨d,f⟩:=c.o (by decide) (by omega) (by omega);subst d;subst f;refine bodyPost_ret (zAS rfl _ _ w.heap.size _ _ (0,0) _ rfl (zAW _ (zAF w _)) underlying46 rfl (by kernel_rfl)) rfl ?_;exact⟨rfl,i.o _ _⟩)
 ·obtain⟨d,f⟩:=b.o (.inl j);subst d;subst f
  go_enter func195,ntmps195
  go_wp2_with fail
  all_goals(refine bodyPost_ret (zAS rfl _ _ w.heap.size _ _ (0,0) _ rfl (zAW _ (zAF w _)) underlying46 rfl (by kernel_rfl)) rfl ?_;exact⟨rfl,i.o _ _⟩)
def It.add2 (x y:It):It:=if x.is=true∧y.is=true∧(x.plus y).is=true then x.plus y else It.zero
def It.add2ok (x y:It):Bool:=x.is&&y.is&&(x.plus y).is
theorem add2_no {x y:It}(h:x.is=false∨y.is=false∨(x.plus y).is=false):x.add2 y=It.zero∧x.add2ok y=false:=by
 unfold It.add2 It.add2ok;rcases h with h|h|h<;>simp[h]
theorem add2_yes {x y:It}(h:x.is=true)(b:y.is=true)(c:(x.plus y).is=true):x.add2 y=x.plus y∧x.add2ok y=true:=by
 unfold It.add2 It.add2ok;simp[h,b,c]
def It.upto (x y:It)(k:Nat):It:=⟨if 0<k then x.a+y.a else x.a,if 1<k then x.b+y.b else x.b,if 2<k then x.c+y.c else x.c,if 3<k then x.d+y.d else x.d⟩
theorem plus_zero (x:It):It.zero.plus x=x:=by
 cases x;simp[It.plus,It.zero]
theorem put4 {w:World}{b:Nat}{j k m n:Value}{t:TypeId}(h:w.heap[b]?=some (.cells #[j,k,m,n] t (0,0)))(c d f i:Value) :
  ((((w.setCell ⟨b,0,none⟩ c).setCell ⟨b,1,none⟩ d).setCell ⟨b,2,none⟩ f).setCell ⟨b,3,none⟩ i).heap[b]?=some (.cells #[c,d,f,i] t (0,0)):=by
 have o:=zAH h 0 c;have p:=zAH o 1 d;have q:=zAH p 2 f;have r:=zAH q 3 i;simpa using r
theorem chg4 (w:World)(b:Nat)(c d f i:Value):Chg (fun k=>k=b) w ((((w.setCell ⟨b,0,none⟩ c).setCell ⟨b,1,none⟩ d).setCell ⟨b,2,none⟩ f).setCell ⟨b,3,none⟩ i) :=
 (((Chg.setCell w ⟨b,0,none⟩ c).trans (Chg.setCell _ ⟨b,1,none⟩ d) fun _ _ e=>e).trans (Chg.setCell _ ⟨b,2,none⟩ f) fun _ _ e=>e).trans (Chg.setCell _ ⟨b,3,none⟩ i) fun _ _ e=>e
theorem zCz (W:World)(x y:It)(g:Nat)(fr:Nat×Nat)(hg:W.heap[g]?=some (.cells #[.int .i64 x.a,.int .i64 x.b,.int .i64 x.c,.int .i64 x.d,.int .i64 y.a,.int .i64 y.b,.int .i64 y.c,.int .i64 y.d] 46 fr))(c:Nat) :
  Calls prog 194 #[.slice (some ⟨g,0,none⟩) 2 c] W (RetIt (x.add2 y) (x.add2ok y) W):=by
 have aa:=zh (fun h=>add2_no (x:=x) (y:=y) h);have ah:=zh (fun h h2 h3=>add2_yes (x:=x) (y:=y) h h2 h3);generalize x.add2 y=X at *;generalize x.add2ok y=R at *;have Hg:=zh hg;have ao:=zAA hg;have ai:=zAF W (It.o It.zero);have Z:=zAF (W.alloc (It.o It.zero)) (It.o It.zero);have an:=zh ((zAC W (It.o It.zero)).trans ((zAC (W.alloc (It.o It.zero)) (It.o It.zero)).mono (zAC W (It.o It.zero)).size));clear hg
 go_enter func194,ntmps194
 go_wp2_with fail
 go_loopw [11] (fun i wr=>∃k:Nat,k≤2∧i=.int .i64 k∧Below W.heap.size W wr∧W.heap.size+1<wr.heap.size∧wr.heap[W.heap.size]?=some (It.o It.zero)∧wr.heap[W.heap.size+1]?=some (It.o (if k=0 then It.zero else if k=1 then x else x.plus y))∧(1≤k→zBf x=true)∧(2≤k→zBf y=true∧zBf (x.plus y)=true)) (fun i _=>2-(intOf i).toNat)
 case atStart=>exact⟨0,by omega,rfl,an.o,by simp,zAW _ ai,(by have:=Z;rwa[show(W.alloc (It.o It.zero)).heap.size=W.heap.size+1 by simp]at this),fun h=>by omega,fun h=>by omega⟩
 case round =>
  obtain⟨k,hk,rfl,hb,al,H,hs,h1,h2⟩:=hrel;obtain⟨z,aq⟩:∃z,z=wr:=⟨_,rfl⟩;subst aq;have r:=(hb.block g ao).trans Hg.o;clear ai Z;rcases(by omega:k=0∨k=1∨k=2)with rfl|rfl|rfl
  ·have e0:=cell0 r;have e1:=zCF r;have e2:=zCG r;have e3:=zCZ r;have K:=zh (fun W'=>zBG W' x.a x.b x.c x.d);have P:=zh (And.intro r (And.intro H hs));have M:=zh hb;have ag:=al;clear r H hs hb;go_wp2_with fail;refine(K.o _).mono ?_;rintro e w2 ⟨rfl,F⟩;have L:=zh (M.o.trans (((zAC z (It.o x)).trans (F.mono (zAC z (It.o x)).size)).mono M.o.size));have C:=zh ((zAC z (It.o x)).trans (F.mono (zAC z (It.o x)).size));have v:=(F.block z.heap.size (by simp)).trans (zAF z (It.o x));have m:=(C.o.block _ (by omega)).trans P.o.2.1;have B:=(C.o.block _ (by omega)).trans P.o.2.2;cases I:zBf x with
   | false =>
    have hv1:zBf ⟨x.a,x.b,x.c,x.d⟩=false:=I;obtain⟨D,E⟩:=aa.o (.inl I);subst D;subst E;have z0:=cell0 m;have z1:=zCF m;have z2:=zCG m;have z3:=zCZ m;have f0:=zAE m 0;have f1:=zAE m 1;have f2:=zAE m 2;have f3:=zAE m 3;go_wp2_with fail;refine bodyPost_ret (zAS rfl _ _ W.heap.size _ _ (0,0) _ rfl (put4 m _ _ _ _) underlying46 rfl (by kernel_rfl)) rfl ?_;exact⟨rfl,(((Chg.of_below L.o).mono fun _ _ e=>e.elim:Chg (fun k=>k=W.heap.size) W _).trans (chg4 _ _ _ _ _ _) fun k _ e=>e).below (Nat.le_refl _) fun k hk e=>by omega⟩
   | true =>
    have hv1:zBf ⟨x.a,x.b,x.c,x.d⟩=true:=I;have hA:=It.is_iff.1 ((by rfl:It.zero.is=true));have hV:=It.is_iff.1 I;have Hv:=zh I;have H1:=zh h1;have ab:=zh B;have ae:=zh m;have ak:W.heap.size+1<w2.heap.size:=Nat.lt_of_lt_of_le ag C.o.size;have Hx:=zh (And.intro (idx0 x.a x.b x.c x.d) (And.intro (idx1 x.a x.b x.c x.d) (And.intro (idx2 x.a x.b x.c x.d) (idx3 x.a x.b x.c x.d))));clear I e0 e1 e2 e3 h1 h2 B m;have t0:=cell0 v;have t1:=zCF v;have t2:=zCG v;have t3:=zCZ v;go_wp2_with fail;clear t0 t1 t2 t3
    go_loopw [20] (fun i wr=>∃j:Nat,j≤4∧i=.int .i64 j∧Chg (fun q=>q=W.heap.size+1) w2 wr∧wr.heap[W.heap.size+1]?=some (It.o (It.zero.upto x j))) (fun i _=>4-(intOf i).toNat)
    case atStart=>exact⟨0,by omega,rfl,Chg.refl _ _,ab.o⟩
    case round =>
     obtain⟨j,hj,rfl,Q,f⟩:=hrel;have n:=zh Q;have s:=zh f;clear Q;obtain⟨x0,x1,x2,x3⟩:=Hx.o;obtain⟨a0,a1,a2,a3⟩:=hA;obtain⟨v0,v1,v2,v3⟩:=hV;rcases(by omega:j=0∨j=1∨j=2∨j=3∨j=4)with rfl|rfl|rfl|rfl|rfl
     ·have cc:wr.cell? ⟨W.heap.size+1,0,none⟩=some (.int .i64 It.zero.a):=zAB f rfl;have fc:=zAE f 0;have hw:IntKind.i64.wrap (It.zero.a+x.a)=It.zero.a+x.a:=IntWalk.i64_in _ (by omega);go_wp2_with fail;go_roundw
      case rel=>exact⟨1,by decide,rfl,n.o.trans (Chg.setCell _ ⟨_,0,none⟩ _) fun _ _ e=>e,by have G:=zAH s.o 0 (.int .i64 (It.zero.a+x.a));exact G⟩
      case measure=>simp[intOf]
     ·have cc:wr.cell? ⟨W.heap.size+1,1,none⟩=some (.int .i64 It.zero.b):=zAB f rfl;have fc:=zAE f 1;have hw:IntKind.i64.wrap (It.zero.b+x.b)=It.zero.b+x.b:=IntWalk.i64_in _ (by omega);go_wp2_with fail;go_roundw
      case rel=>exact⟨2,by decide,rfl,n.o.trans (Chg.setCell _ ⟨_,1,none⟩ _) fun _ _ e=>e,by have G:=zAH s.o 1 (.int .i64 (It.zero.b+x.b));exact G⟩
      case measure=>simp[intOf]
     ·have cc:wr.cell? ⟨W.heap.size+1,2,none⟩=some (.int .i64 It.zero.c):=zAB f rfl;have fc:=zAE f 2;have hw:IntKind.i64.wrap (It.zero.c+x.c)=It.zero.c+x.c:=IntWalk.i64_in _ (by omega);go_wp2_with fail;go_roundw
      case rel=>exact⟨3,by decide,rfl,n.o.trans (Chg.setCell _ ⟨_,2,none⟩ _) fun _ _ e=>e,by have G:=zAH s.o 2 (.int .i64 (It.zero.c+x.c));exact G⟩
      case measure=>simp[intOf]
     ·have cc:wr.cell? ⟨W.heap.size+1,3,none⟩=some (.int .i64 It.zero.d):=zAB f rfl;have fc:=zAE f 3;have hw:IntKind.i64.wrap (It.zero.d+x.d)=It.zero.d+x.d:=IntWalk.i64_in _ (by omega);go_wp2_with fail;go_roundw
      case rel=>exact⟨4,by decide,rfl,n.o.trans (Chg.setCell _ ⟨_,3,none⟩ _) fun _ _ e=>e,by have G:=zAH s.o 3 (.int .i64 (It.zero.d+x.d));exact G⟩
      case measure=>simp[intOf]
     ·have T:wr.heap[W.heap.size+1]?=some (It.o (It.zero.plus x)):=f;have u0:wr.cell? ⟨W.heap.size+1,0,none⟩=some (.int .i64 (It.zero.a+x.a)):=zAB f rfl;have u1:wr.cell? ⟨W.heap.size+1,1,none⟩=some (.int .i64 (It.zero.b+x.b)):=zAB f rfl;have u2:wr.cell? ⟨W.heap.size+1,2,none⟩=some (.int .i64 (It.zero.c+x.c)):=zAB f rfl;have u3:wr.cell? ⟨W.heap.size+1,3,none⟩=some (.int .i64 (It.zero.d+x.d)):=zAB f rfl;have ac:=zh T;have O:=zh (zBG wr (It.zero.a+x.a) (It.zero.b+x.b) (It.zero.c+x.c) (It.zero.d+x.d));have HC:=zh (((Chg.of_below L.o).mono fun _ _ e=>e.elim:Chg (fun q=>q=W.heap.size+1) W w2).trans n.o fun k _ e=>e);have N:=zh (HC.o.below (Nat.le_refl _) fun k hk e=>by omega);have V:=(n.o.block _ (by omega) (by omega)).trans ae.o;have ap:=n.o.size;clear T f s;go_wp2_with fail;refine O.o.mono ?_;rintro e w5 ⟨rfl,t⟩;have p:=(t.block _ (by omega)).trans V;have U:=(t.block _ (by omega)).trans ac.o;have Y:=zh (N.o.trans (t.mono N.o.size));have aj:=t.size;cases J:zBf (It.zero.plus x)with
      | false =>
       have A:zBf ⟨It.zero.a+x.a,It.zero.b+x.b,It.zero.c+x.c,It.zero.d+x.d⟩=false:=J;rw[plus_zero,Hv.o]at J;cases J
      | true =>
       have A:zBf ⟨It.zero.a+x.a,It.zero.b+x.b,It.zero.c+x.c,It.zero.d+x.d⟩=true:=J;rw[A];have Hp:=zh J;have af:=zh p;have ad:=zh U;clear J A p U u0 u1 u2 u3 V;go_wp2_with fail;go_roundw
       case rel=>exact⟨1,by decide,rfl,Y.o,by omega,af.o,(by have h:=ad.o;rw[plus_zero]at h;exact h),fun _=>Hv.o,fun h=>by omega⟩
       case measure=>simp[intOf]
  ·have e0:=zDL r;have e1:=cell5 r;have e2:=zAB r (i:=6) rfl;have e3:=zAB r (i:=7) rfl;have K:=zh (fun W'=>zBG W' y.a y.b y.c y.d);have P:=zh (And.intro r (And.intro H hs));have M:=zh hb;have ag:=al;clear r H hs hb;go_wp2_with fail;refine(K.o _).mono ?_;rintro e w2 ⟨rfl,F⟩;have L:=zh (M.o.trans (((zAC z (It.o y)).trans (F.mono (zAC z (It.o y)).size)).mono M.o.size));have C:=zh ((zAC z (It.o y)).trans (F.mono (zAC z (It.o y)).size));have v:=(F.block z.heap.size (by simp)).trans (zAF z (It.o y));have m:=(C.o.block _ (by omega)).trans P.o.2.1;have B:=(C.o.block _ (by omega)).trans P.o.2.2;cases I:zBf y with
   | false =>
    have hv1:zBf ⟨y.a,y.b,y.c,y.d⟩=false:=I;obtain⟨D,E⟩:=aa.o (.inr (.inl I));subst D;subst E;have z0:=cell0 m;have z1:=zCF m;have z2:=zCG m;have z3:=zCZ m;have f0:=zAE m 0;have f1:=zAE m 1;have f2:=zAE m 2;have f3:=zAE m 3;go_wp2_with fail;refine bodyPost_ret (zAS rfl _ _ W.heap.size _ _ (0,0) _ rfl (put4 m _ _ _ _) underlying46 rfl (by kernel_rfl)) rfl ?_;exact⟨rfl,(((Chg.of_below L.o).mono fun _ _ e=>e.elim:Chg (fun k=>k=W.heap.size) W _).trans (chg4 _ _ _ _ _ _) fun k _ e=>e).below (Nat.le_refl _) fun k hk e=>by omega⟩
   | true =>
    have hv1:zBf ⟨y.a,y.b,y.c,y.d⟩=true:=I;have hA:=It.is_iff.1 (h1 (by decide));have hV:=It.is_iff.1 I;have Hv:=zh I;have H1:=zh h1;have ab:=zh B;have ae:=zh m;have ak:W.heap.size+1<w2.heap.size:=Nat.lt_of_lt_of_le ag C.o.size;have Hx:=zh (And.intro (idx0 y.a y.b y.c y.d) (And.intro (idx1 y.a y.b y.c y.d) (And.intro (idx2 y.a y.b y.c y.d) (idx3 y.a y.b y.c y.d))));clear I e0 e1 e2 e3 h1 h2 B m;have t0:=cell0 v;have t1:=zCF v;have t2:=zCG v;have t3:=zCZ v;go_wp2_with fail;clear t0 t1 t2 t3
    go_loopw [20] (fun i wr=>∃j:Nat,j≤4∧i=.int .i64 j∧Chg (fun q=>q=W.heap.size+1) w2 wr∧wr.heap[W.heap.size+1]?=some (It.o (x.upto y j))) (fun i _=>4-(intOf i).toNat)
    case atStart=>exact⟨0,by omega,rfl,Chg.refl _ _,ab.o⟩
    case round =>
     obtain⟨j,hj,rfl,Q,f⟩:=hrel;have n:=zh Q;have s:=zh f;clear Q;obtain⟨x0,x1,x2,x3⟩:=Hx.o;obtain⟨a0,a1,a2,a3⟩:=hA;obtain⟨v0,v1,v2,v3⟩:=hV;rcases(by omega:j=0∨j=1∨j=2∨j=3∨j=4)with rfl|rfl|rfl|rfl|rfl
     ·have cc:wr.cell? ⟨W.heap.size+1,0,none⟩=some (.int .i64 x.a):=zAB f rfl;have fc:=zAE f 0;have hw:IntKind.i64.wrap (x.a+y.a)=x.a+y.a:=IntWalk.i64_in _ (by omega);go_wp2_with fail;go_roundw
      case rel=>exact⟨1,by decide,rfl,n.o.trans (Chg.setCell _ ⟨_,0,none⟩ _) fun _ _ e=>e,by have G:=zAH s.o 0 (.int .i64 (x.a+y.a));exact G⟩
      case measure=>simp[intOf]
     ·have cc:wr.cell? ⟨W.heap.size+1,1,none⟩=some (.int .i64 x.b):=zAB f rfl;have fc:=zAE f 1;have hw:IntKind.i64.wrap (x.b+y.b)=x.b+y.b:=IntWalk.i64_in _ (by omega);go_wp2_with fail;go_roundw
      case rel=>exact⟨2,by decide,rfl,n.o.trans (Chg.setCell _ ⟨_,1,none⟩ _) fun _ _ e=>e,by have G:=zAH s.o 1 (.int .i64 (x.b+y.b));exact G⟩
      case measure=>simp[intOf]
     ·have cc:wr.cell? ⟨W.heap.size+1,2,none⟩=some (.int .i64 x.c):=zAB f rfl;have fc:=zAE f 2;have hw:IntKind.i64.wrap (x.c+y.c)=x.c+y.c:=IntWalk.i64_in _ (by omega);go_wp2_with fail;go_roundw
      case rel=>exact⟨3,by decide,rfl,n.o.trans (Chg.setCell _ ⟨_,2,none⟩ _) fun _ _ e=>e,by have G:=zAH s.o 2 (.int .i64 (x.c+y.c));exact G⟩
      case measure=>simp[intOf]
     ·have cc:wr.cell? ⟨W.heap.size+1,3,none⟩=some (.int .i64 x.d):=zAB f rfl;have fc:=zAE f 3;have hw:IntKind.i64.wrap (x.d+y.d)=x.d+y.d:=IntWalk.i64_in _ (by omega);go_wp2_with fail;go_roundw
      case rel=>exact⟨4,by decide,rfl,n.o.trans (Chg.setCell _ ⟨_,3,none⟩ _) fun _ _ e=>e,by have G:=zAH s.o 3 (.int .i64 (x.d+y.d));exact G⟩
      case measure=>simp[intOf]
     ·have T:wr.heap[W.heap.size+1]?=some (It.o (x.plus y)):=f;have u0:wr.cell? ⟨W.heap.size+1,0,none⟩=some (.int .i64 (x.a+y.a)):=zAB f rfl;have u1:wr.cell? ⟨W.heap.size+1,1,none⟩=some (.int .i64 (x.b+y.b)):=zAB f rfl;have u2:wr.cell? ⟨W.heap.size+1,2,none⟩=some (.int .i64 (x.c+y.c)):=zAB f rfl;have u3:wr.cell? ⟨W.heap.size+1,3,none⟩=some (.int .i64 (x.d+y.d)):=zAB f rfl;have ac:=zh T;have O:=zh (zBG wr (x.a+y.a) (x.b+y.b) (x.c+y.c) (x.d+y.d));have HC:=zh (((Chg.of_below L.o).mono fun _ _ e=>e.elim:Chg (fun q=>q=W.heap.size+1) W w2).trans n.o fun k _ e=>e);have N:=zh (HC.o.below (Nat.le_refl _) fun k hk e=>by omega);have V:=(n.o.block _ (by omega) (by omega)).trans ae.o;have ap:=n.o.size;clear T f s;go_wp2_with fail;refine O.o.mono ?_;rintro e w5 ⟨rfl,t⟩;have p:=(t.block _ (by omega)).trans V;have U:=(t.block _ (by omega)).trans ac.o;have Y:=zh (N.o.trans (t.mono N.o.size));have aj:=t.size;cases J:zBf (x.plus y)with
      | false =>
       have A:zBf ⟨x.a+y.a,x.b+y.b,x.c+y.c,x.d+y.d⟩=false:=J;rw[A];obtain⟨D,E⟩:=aa.o (.inr (.inr J));subst D;subst E;have z0:=cell0 p;have z1:=zCF p;have z2:=zCG p;have z3:=zCZ p;have f0:=zAE p 0;have f1:=zAE p 1;have f2:=zAE p 2;have f3:=zAE p 3;go_wp2_with fail;refine bodyPost_ret (zAS rfl _ _ W.heap.size _ _ (0,0) _ rfl (put4 p _ _ _ _) underlying46 rfl (by kernel_rfl)) rfl ?_;exact⟨rfl,(((Chg.of_below Y.o).mono fun _ _ e=>e.elim:Chg (fun k=>k=W.heap.size) W _).trans (chg4 _ _ _ _ _ _) fun k _ e=>e).below (Nat.le_refl _) fun k hk e=>by omega⟩
      | true =>
       have A:zBf ⟨x.a+y.a,x.b+y.b,x.c+y.c,x.d+y.d⟩=true:=J;rw[A];have Hp:=zh J;have af:=zh p;have ad:=zh U;clear J A p U u0 u1 u2 u3 V;go_wp2_with fail;go_roundw
       case rel=>exact⟨2,by decide,rfl,Y.o,by omega,af.o,ad.o,fun _=>H1.o (by decide),fun _=>⟨Hv.o,Hp.o⟩⟩
       case measure=>simp[intOf]
  ·obtain⟨hy,am⟩:=h2 (by decide);obtain⟨D,E⟩:=ah.o (h1 (by decide)) hy am;subst D;subst E;have S:z.heap[W.heap.size+1]?=some (It.o (x.plus y)):=hs;have u0:z.cell? ⟨W.heap.size+1,0,none⟩=some (.int .i64 (x.a+y.a)):=zAB S rfl;have u1:z.cell? ⟨W.heap.size+1,1,none⟩=some (.int .i64 (x.b+y.b)):=zAB S rfl;have u2:z.cell? ⟨W.heap.size+1,2,none⟩=some (.int .i64 (x.c+y.c)):=zAB S rfl;have u3:z.cell? ⟨W.heap.size+1,3,none⟩=some (.int .i64 (x.d+y.d)):=zAB S rfl;have z0:=cell0 H;have z1:=zCF H;have z2:=zCG H;have z3:=zCZ H;have f0:=zAE H 0;have f1:=zAE H 1;have f2:=zAE H 2;have f3:=zAE H 3;have Hz:=zh H;have HB:=zh hb;clear hs S H hb h1 h2 r hy am;go_wp2_with fail;refine bodyPost_ret (zAS rfl _ _ W.heap.size _ _ (0,0) _ rfl (put4 Hz.o _ _ _ _) underlying46 rfl (by kernel_rfl)) rfl ?_;exact⟨rfl,(((Chg.of_below HB.o).mono fun _ _ e=>e.elim:Chg (fun k=>k=W.heap.size) W _).trans (chg4 _ _ _ _ _ _) fun k _ e=>e).below (Nat.le_refl _) fun k hk e=>by omega⟩
theorem laidK:laidOutB prog=true:=by kernel_rfl
theorem zD6:Keyed prog 9:=string_keyed underlying9
theorem intKeyed:Keyed prog 3:=int_keyed underlying3
theorem whichLaw:WideMaps.KeyLaw prog 164:=deep_law_laid laidK (m:=2) (by omega) (of_decide_eq_true (by kernel_rfl)) (by kernel_rfl) (by rw[underlying164])
theorem zCO:Keyed prog 164:=Keyed.of_law whichLaw
def whichV (a:Int×Int):Value:=.agg #[.int .i64 a.1,.int .i64 a.2]
def whichOk (a:Int×Int):Prop:=(Lit.int .i64 a.1).wf=true∧(Lit.int .i64 a.2).wf=true
def whichL (a:Int×Int):Lit:=.string (keyBytes [.int .i64 a.1,.int .i64 a.2])
theorem zEs (a:Int×Int)(h:whichOk a):keyOf prog 164 (whichV a)=some (whichL a):=by
 have j:prog.keyType 164=true:=by kernel_rfl
 have d:prog.cellsOf 164=2:=by kernel_rfl
 have b:prog.cellsOf 3=1:=by kernel_rfl
 obtain⟨c,s⟩:=a;obtain⟨f,i⟩:=h;have k:(whichV (c,s)).formed prog 164=true:=by simp[whichV,Value.formed,underlying164,d]
 have hn:∃n,prog.types.size=n+1:=⟨prog.types.size-1,by kernel_rfl⟩;have o:∀m,(∃n,m=n+1)→prog.keyLits (m+1) 164 [.int .i64 c,.int .i64 s]=some [.int .i64 c,.int .i64 s]:=by
  rintro m ⟨n,rfl⟩;simp[Program.keyLits,underlying164,underlying3,d,b,f,i]
 unfold keyOf;rw[underlying164]
 show(if(prog.keyType 164&&(whichV (c,s)).formed prog 164)=true then Option.map _ (prog.keyLits (prog.types.size+1) 164 [.int .i64 c,.int .i64 s])else none)=_
 rw[j,k,o _ hn];rfl
def zBt:KeyR prog 164 (Int×Int) where
 v:=whichV
 lit:=whichL
 ok:=whichOk
 key a h:=zEs a h
 inj a b ha hb e:=by
  have f:=zEs a ha;have d:=zEs b hb;rw[←e]at d;have c:=whichLaw.inj f d;unfold whichV at c;simp only[Value.agg.injEq,Array.mk.injEq,List.cons.injEq,Value.int.injEq,true_and,and_true]at c;exact Prod.ext c.1 c.2
 back x l h a ha e:=by
  subst e;exact whichLaw.inj h (zEs a ha)
noncomputable def itE:ElemR It:=elemK It.v (fun x=>.agg [.lit (.int .i64 x.a),.lit (.int .i64 x.b),.lit (.int .i64 x.c),.lit (.int .i64 x.d)])
 (fun x y h=>by
  unfold It.v at h;simp only[Value.agg.injEq,Array.mk.injEq,List.cons.injEq,Value.int.injEq,true_and,and_true]at h;exact It.ext' h.1 h.2.1 h.2.2.1 h.2.2.2)
 (fun x y h=>by
  simp only[DataW.agg.injEq,List.cons.injEq,DataW.lit.injEq,Lit.int.injEq,true_and,and_true]at h;exact It.ext' h.1 h.2.1 h.2.2.1 h.2.2.2) It.zero
def ptrE:ElemR Nat where
 R:=ptrR
 val b:=.pointer (some ⟨b,0,none⟩)
 g b:=.held b
 z:=.pointer none
 zd:=.nil
 ok _:=True
 rd _ _:=rfl
 inv v y b h e:=ptrR_inv h e
 zmk:=rfl
 zinv v y h e:=by
  unfold ptrR at h
  split at h
  ·cases h;cases e
  ·rfl
  ·cases h
def zCs (a:Int):Prop:=(Lit.int .i64 a).wf=true
theorem zBx {a:Int}(h:-9223372036854775808≤a∧a≤9223372036854775807):zCs a:=by
 unfold zCs Lit.wf;simp[IntKind.min,IntKind.max,IntKind.signed,IntKind.bits];omega
def It.wf (x:It):Prop:=zCs x.a∧zCs x.b∧zCs x.c∧zCs x.d
theorem It.wf_of {x:It}(h:x.is=true):x.wf:=by
 obtain⟨b,c,d,f⟩:=It.is_iff.1 h;exact⟨zBx (by omega),zBx (by omega),zBx (by omega),zBx (by omega)⟩
theorem it_lits (x:It)(h:x.wf):∀m,(∃n,m=n+1)→prog.keyLits (m+1) 46 [.int .i64 x.a,.int .i64 x.b,.int .i64 x.c,.int .i64 x.d]=some [.int .i64 x.a,.int .i64 x.b,.int .i64 x.c,.int .i64 x.d]:=by
 have p:prog.cellsOf 46=4:=by kernel_rfl
 have f:prog.cellsOf 3=1:=by kernel_rfl
 obtain⟨i,j,k,o⟩:=h;unfold zCs at i j k o;rintro m ⟨n,rfl⟩;simp[Program.keyLits,underlying46,underlying3,p,f,i,j,k,o,List.range_succ]
theorem it_eq (w:World)(x y:It)(j:x.wf)(k:y.wf):(Op.equalIn 10000 46 x.v y.v).run prog w=.ok (decide (x=y)) w:=by
 have f:prog.cellsOf 46=4:=by kernel_rfl
 have hn:∃n,prog.types.size=n+1:=⟨prog.types.size-1,by kernel_rfl⟩;have d:∀z:It,z.v.formed prog 46=true:=fun z=>by simp[It.v,Value.formed,underlying46,f]
 obtain⟨r,i,b⟩:=run_equalIn_deep (10000-2) 2 46 (by kernel_rfl) w _ _ x.v y.v _ _ (d x) (d y) (it_lits x j _ hn) (it_lits y k _ hn);have c:(Op.equalIn 10000 46 x.v y.v).run prog w=.ok r w:=i;rw[c]
 congr 1
 rw[Bool.eq_iff_iff,b];simp only[List.cons.injEq,Lit.int.injEq,true_and,and_true,decide_eq_true_eq];exact⟨fun h=>It.ext' h.1 h.2.1 h.2.2.1 h.2.2.2,fun h=>by subst h;exact⟨rfl,rfl,rfl,rfl⟩⟩
/-! ### The model -/
structure zAT where
 data:Bs
 lasts:Nat
structure zAD where
 room:Nat
 files:List (Bs×zAT)
 fuse:Option Nat
def okN (n:Bs):Bool:=decide (1≤n.length)&&decide (n.length≤64)
namespace zAD
def size (f:zAT):Nat:=f.data.length
def used (D:zAD):Nat:=zA7 size D.files
def may (D:zAD)(ns:List Bs):Nat:=if D.fuse=some 0 then 9 else if ns.all okN then 0 else 1
def done (D:zAD):zAD:={D with fuse:=D.fuse.map (·-1) }
def cur (D:zAD)(n:Bs):zAT:=(get n D.files).getD ⟨[],0⟩
def full (D:zAD)(n b:Bs):Bool:=decide (D.room<D.used+b.length)||((get n D.files).isNone&&decide (4096≤D.files.length))
def append (D:zAD)(n b:Bs):zAD×Nat :=
 if D.may [n]≠0 then(D,D.may [n])
 else if D.full n b then(D,6)
 else(done {D with files:=put n ⟨(D.cur n).data++b,(D.cur n).lasts⟩ D.files},0)
def each1 (g:Bs→zAT→List (Bs×zAT)→List (Bs×zAT))(D:zAD)(n:Bs):zAD×Nat :=
 if D.may [n]≠0 then(D,D.may [n])
 else match get n D.files with
  | none=>(D,7)
  | some f=>(done {D with files:=g n f D.files},0)
def each (g:Bs→zAT→List (Bs×zAT)→List (Bs×zAT))(D:zAD):List Bs→zAD×Nat
 | []=>(D,0)
 | n::r=>if(each1 g D n).2=0 then each g (each1 g D n).1 r else each1 g D n
def gSync (n:Bs)(f:zAT)(L:List (Bs×zAT)):List (Bs×zAT):=put n ⟨f.data,f.data.length⟩ L
def gRemove (n:Bs)(_:zAT)(L:List (Bs×zAT)):List (Bs×zAT):=del n L
def sync (D:zAD)(ns:List Bs):zAD×Nat:=D.each gSync ns
def remove (D:zAD)(ns:List Bs):zAD×Nat:=D.each gRemove ns
def truncate (D:zAD)(n:Bs)(k:Int):zAD×Nat :=
 if D.may [n]≠0 then(D,D.may [n])
 else match get n D.files with
  | none=>(D,7)
  | some f=>if k<0∨(f.data.length:Int)<k then(D,1)
   else(done {D with files:=put n ⟨f.data.take k.toNat,min f.lasts k.toNat⟩ D.files},0)
def rename (D:zAD)(o n:Bs):zAD×Nat :=
 if D.may [o,n]≠0 then(D,D.may [o,n])
 else match get o D.files with
  | none=>(D,7)
  | some f=>(done {D with files:=put n f (del o D.files) },0)
def stays (f:zAT)(k:Int):Nat:=f.lasts+(max 0 k).toNat%(f.data.length-f.lasts+1)
def crashF (k:Int)(f:zAT):zAT:=⟨f.data.take (stays f k),stays f k⟩
def crash (D:zAD)(k:Int):zAD:={D with files:=mp (crashF k) D.files,fuse:=none}
def fresh (room:Nat):zAD:=⟨room,[],none⟩
structure OK (D:zAD):Prop where
 srt:Srt D.files
 room:D.room≤1073741824
 used:D.used≤D.room
 count:D.files.length≤4096
 names:∀p∈D.files,okN p.1=true
 lasts:∀p∈D.files,p.2.lasts≤p.2.data.length
 fuse:∀k,D.fuse=some k→k≤9223372036854775807
end zAD
/-! ### In memory -/
abbrev Own:=Nat→Option (Nat×Bs)
structure zBn where
 fb:Nat
 v:Value
 f:zAT
structure FileAt (w:World)(own:Own)(n:Bs)(r:zBn):Prop where
 cells:w.heap[r.fb]?=some (.cells #[r.v,.int .i64 (r.f.lasts:Int)] 110 (0,0))
 ob:own r.fb=some (2,n)
 row:zA4 w 5 r.v r.f.data
 og:∀g,r.v.ownBlock=some g→own g=some (3,n)
def fbD (r:zBn):DataW Nat:=.held r.fb
structure zAR (w:World)(d m:Nat)(left:Int)(L:List (Bs×zBn))(own:Own)(D:zAD):Prop where
 cells:w.heap[d]?=some (.cells #[.int .i64 (D.room:Int),.map (some m),.bool D.fuse.isSome,.int .i64 left] 71 (0,0))
 left:∀k,D.fuse=some k→left=(k:Int)
 map:w.ownsMap prog 9 ptrR m L.length (dm fbD L)
 files:D.files=mp zBn.f L
 srt:Srt L
 file:∀p∈L,FileAt w own p.1 p.2
 od:own d=some (0,[])
 om:own m=some (1,[])
 olt:∀k t,own k=some t→k<w.heap.size
 ok:D.OK
def zB6 (w:World)(d:Nat)(D:zAD)(own:Own):Prop:=∃m left L,zAR w d m left L own D
def Ext (w:World)(own b:Own):Prop:=∀k,k<w.heap.size→own k=none→b k=none
def Has (own:Own)(k:Nat):Prop:=own k≠none
theorem FileAt.keep {w w':World}{own:Own}{n:Bs}{r:zBn}(h:FileAt w own n r)(b:∀k,own k≠none→w'.heap[k]?=w.heap[k]?):FileAt w' own n r :=
 ⟨(b _ (by rw[h.ob];simp)).trans h.cells,h.ob,h.row.keep fun k c=>b k (by rw[h.og k c];simp),h.og⟩
theorem zAR.keep {w w':World}{d m:Nat}{left:Int}{L:List (Bs×zBn)}{own:Own}{D:zAD}(h:zAR w d m left L own D)(i:w.heap.size≤w'.heap.size)
  (c:∀k,own k≠none→w'.heap[k]?=w.heap[k]?):zAR w' d m left L own D where
 cells:=(c d (by rw[h.od];simp)).trans h.cells
 left:=h.left
 map:=by
  obtain⟨es,b,f,r⟩:=h.map;exact⟨es,b,(c m (by rw[h.om];simp)).trans f,r⟩
 files:=h.files
 srt:=h.srt
 file p hp:=(h.file p hp).keep c
 od:=h.od
 om:=h.om
 olt k t hk:=Nat.lt_of_lt_of_le (h.olt k t hk) i
 ok:=h.ok
theorem zAR.chg {w w':World}{S:Nat→Prop}{d m:Nat}{left:Int}{L:List (Bs×zBn)}{own:Own}{D:zAD}(h:zAR w d m left L own D)(b:Chg S w w')(hS:∀k,S k→own k=none) :
  zAR w' d m left L own D :=
 h.keep b.size fun k c=>b.block k (by
  cases f:own k with
  | none=>exact absurd f c
  | some t=>exact h.olt k t f) fun s=>c (hS k s)
theorem zB6.chg {w w':World}{S:Nat→Prop}{d:Nat}{own:Own}{D:zAD}(h:zB6 w d D own)(b:Chg S w w')(hS:∀k,S k→own k=none):zB6 w' d D own:=by
 obtain⟨m,left,L,h⟩:=h;exact⟨m,left,L,h.chg b hS⟩
section
variable {w:World} {d m:Nat} {left:Int} {L:List (Bs×zBn)} {own:Own} {D:zAD}
theorem zAR.c0 (h:zAR w d m left L own D):w.cell? ⟨d,0,none⟩=some (.int .i64 (D.room:Int)):=zAB h.cells rfl
theorem zAR.c1 (h:zAR w d m left L own D):w.cell? ⟨d,1,none⟩=some (.map (some m)):=zAB h.cells rfl
theorem zAR.c2 (h:zAR w d m left L own D):w.cell? ⟨d,2,none⟩=some (.bool D.fuse.isSome):=zAB h.cells rfl
theorem zAR.c3 (h:zAR w d m left L own D):w.cell? ⟨d,3,none⟩=some (.int .i64 left):=zAB h.cells rfl
theorem zAR.get (h:zAR w d m left L own D)(n:Bs):Sat.get n D.files=(Sat.get n L).map zBn.f:=by rw[h.files,mp_get]
theorem zAR.len (h:zAR w d m left L own D):D.files.length=L.length:=by rw[h.files,mp_len]
theorem zAR.used (h:zAR w d m left L own D):D.used=zA7 (fun r:zBn=>r.f.data.length) L:=by
 unfold zAD.used;rw[h.files,mp_sum];rfl
theorem zAR.dlt (h:zAR w d m left L own D):d<w.heap.size:=h.olt d _ h.od
theorem zAR.mlt (h:zAR w d m left L own D):m<w.heap.size:=h.olt m _ h.om
theorem zAR.dm_ne (h:zAR w d m left L own D):d≠m:=by
 intro e;have b:=h.od;rw[e,h.om]at b;simp at b
end
theorem le_sum {α:Type}{f:α→Nat}{L:List (Bs×α)}{n:Bs}{a:α}(h:Srt L)(b:get n L=some a):f a≤zA7 f L:=by
 rw[zC1 (f:=f) h b];omega
end Go.Proofs.YtmcanphlgkolcaaGreatDoor
namespace Go.Proofs.YtmcanphlgkolcaaGreatDoor
open Go.RowKit Go.Sat Go.Maps
theorem zBo:Keyed prog 9:=string_keyed underlying9
theorem zBc (w:World):(zeroValue 108).run prog w=.ok (.pointer none) w:=by kernel_rfl
/-! ### New -/
theorem new_walk (n:Int)(w:World)(c:0≤n)(d:n≤1073741824) :
  Calls prog 8 #[.int .i64 n] w fun e w'=>e=.returned (.tuple #[.pointer (some ⟨w.heap.size+1,0,none⟩),.int .i64 0])∧w'=(w.alloc (.map #[] 0)).alloc (.cells #[.int .i64 n,.map (some w.heap.size),.bool false,.int .i64 0] 71):=by
 have b:=@run_makeMap prog
 go_enter func8,ntmps8
 go_wp2
 go_ret2
 exact⟨rfl,rfl⟩
theorem ok_fresh (n:Nat)(h:n≤1073741824):(zAD.fresh n).OK where
 srt:=srt_nil
 room:=h
 used:=Nat.zero_le _
 count:=Nat.zero_le _
 names p hp:=by simp[zAD.fresh]at hp
 lasts p hp:=by simp[zAD.fresh]at hp
 fuse k hk:=by simp[zAD.fresh]at hk
theorem new_calls (n:Int)(w:World)(c:0≤n)(f:n≤1073741824) :
  Calls prog 8 #[.int .i64 n] w fun e w'=>∃d own,e=.returned (.tuple #[.pointer (some ⟨d,0,none⟩),.int .i64 0])∧zB6 w' d (zAD.fresh n.toNat) own∧Chg (fun _=>False) w w' ∧
   (∀k,k<w.heap.size→own k=none):=by
 refine(new_walk n w c f).mono ?_;rintro e w' ⟨rfl,rfl⟩;refine⟨w.heap.size+1,fun k=>if k=w.heap.size+1 then some (0,[])else if k=w.heap.size then some (1,[])else none,rfl,⟨w.heap.size,0,[],?_⟩,((Chg.alloc w _).trans (Chg.alloc _ _) fun _ _ h=>h),fun k b=>?_⟩
 ·have j:(w.alloc (.map #[] 0)).heap.size=w.heap.size+1:=by simp
  refine⟨?_,fun k b=>by simp[zAD.fresh]at b,?_,rfl,srt_nil,fun p i=>by simp at i,by simp,by simp,fun k t b=>?_,ok_fresh _ (by omega)⟩
  ·have:=zAF (w.alloc (.map #[] 0)) (.cells #[.int .i64 n,.map (some w.heap.size),.bool false,.int .i64 0] 71);rw[j]at this;rw[this];simp only[zAD.fresh,Option.isSome_none];rw[show((n.toNat:Int))=n by omega]
  ·exact(World.ownsMap_made w prog 9 ptrR).alloc _
  ·split at b
   ·simp;omega
   ·split at b
    ·simp;omega
    ·cases b
 ·simp only;rw[if_neg (by omega),if_neg (by omega)]
/-! ### may -/
def zEV (w:World)(p:Option Addr)(c:List ByteArray):Prop :=
 c=[]∨∃b o,p=some ⟨b,o,none⟩∧∀i s,c[i]?=some s→w.cell? ⟨b,o+i,none⟩=some (.string s)
def nm (s:ByteArray):Bs:=s.data.toList
theorem zDk (s:ByteArray):(nm s).length=s.size:=by simp[nm]
def namesE (b:List ByteArray):Int:=if(b.map nm).all okN then 0 else 1
theorem okN_nm (s:ByteArray):okN (nm s)=(decide (1≤s.size)&&decide (s.size≤64)):=by simp[okN,zDk]
theorem may_burnt (d:Nat)(p:Option Addr)(n c:Nat)(w:World)(b:w.cell? ⟨d,2,none⟩=some (.bool true))(f:w.cell? ⟨d,3,none⟩=some (.int .i64 0)) :
  Calls prog 152 #[.pointer (some ⟨d,0,none⟩),.slice p n c] w fun e w'=>e=.returned (.int .i64 9)∧w=w':=by
 go_enter func152,ntmps152
 go_wp2
 go_ret;exact⟨rfl,rfl⟩
theorem take_ok {b:List ByteArray}{k:Nat}(c:k<b.length)(h:((b.take k).map nm).all okN=true)(d:okN (nm b[k])=true):((b.take (k+1)).map nm).all okN=true:=by
 rw[List.take_succ_eq_append_getElem c,List.map_append,List.all_append,h];simp[d]
theorem bad_at {b:List ByteArray}{k:Nat}(c:k<b.length)(d:okN (nm b[k])=false):namesE b=1:=by
 have:(b.map nm).all okN=false:=by
  rw[List.all_eq_false];exact⟨nm b[k],List.mem_map.2 ⟨_,List.getElem_mem c,rfl⟩,by rw[d];simp⟩
 simp[namesE,this]
theorem may_names (d:Nat)(p:Option Addr)(m:List ByteArray)(c:Nat)(w:World)(f:Bool)(l:Int)(F:w.cell? ⟨d,2,none⟩=some (.bool f))(G:w.cell? ⟨d,3,none⟩=some (.int .i64 l))
  (D:f=false∨l≠0) (E:zEV w p m) (J:m.length≤140737488355328) (z:∀s∈m,s.size≤9223372036854775807) :
  Calls prog 152 #[.pointer (some ⟨d,0,none⟩),.slice p m.length c] w fun e w'=>e=.returned (.int .i64 (namesE m))∧w=w':=by
 have A:f=false∨(f=true∧(l==0)=false):=by
  cases f with
  | false=>exact .inl rfl
  | true =>
   rcases D with h|h
   ·cases h
   ·exact .inr ⟨rfl,by simpa using h⟩
 clear D;rcases A with rfl|⟨rfl,I⟩
 all_goals
  go_enter func152,ntmps152
  go_wp2
  go_loop [24] (fun i=>∃k:Nat,k≤m.length∧i=.int .i64 k∧((m.take k).map nm).all okN=true) (fun i=>m.length-(intOf i).toNat)
  case atStart=>exact⟨0,Nat.zero_le _,rfl,rfl⟩
  case round =>
   obtain⟨k,H,rfl,j⟩:=hrel
   by_cases n:k<m.length
   ·have y:m[k]?=some m[k]:=List.getElem?_eq_getElem n;rcases E with h|⟨b,o,rfl,C⟩
    ·subst h;simp at n
    have a:=C k _ y;have L:m[k].size≤9223372036854775807:=z _ (List.getElem_mem n);have q:=zh (take_ok n j);have r:=zh (bad_at n);clear C z j y;rw[okN_nm]at q r;generalize m[k]=s at *
    by_cases B:1≤s.size
    ·by_cases v:s.size≤64
     ·go_wp2
      go_round
      case rel=>exact⟨k+1,by omega,by go_num,q.o (by simp[B,v])⟩
      case measure=>simp[intOf];omega
     ·go_wp2
      go_ret;exact⟨by rw[r.o (by simp[v])];rfl,rfl⟩
    ·go_wp2
     go_ret;exact⟨by rw[r.o (by simp[B])];rfl,rfl⟩
   ·have t:=zh j;clear j
    go_wp2
    go_ret;have h:=t.o;rw[List.take_of_length_le (by omega)]at h;exact⟨by simp[namesE,h],rfl⟩
theorem zBP {w:World}{d m:Nat}{left:Int}{L:List (Bs×zBn)}{own:Own}{D:zAD}(h:zAR w d m left L own D)(p:Option Addr)(b:List ByteArray)(c:Nat)
  (v:zEV w p b) (t:b.length≤140737488355328) (n:∀s∈b,s.size≤9223372036854775807) :
  Calls prog 152 #[.pointer (some ⟨d,0,none⟩),.slice p b.length c] w fun e w'=>e=.returned (.int .i64 (D.may (b.map nm):Int))∧w=w':=by
 have j:=h.c2;have o:=h.c3
 by_cases f:D.fuse=some 0
 ·have r:=h.left 0 f;rw[f]at j;subst r;refine(may_burnt d p b.length c w j o).mono ?_;rintro e w' ⟨rfl,rfl⟩;exact⟨by simp[zAD.may,f],rfl⟩
 ·have q:D.fuse.isSome=false∨left≠0:=by
   cases i:D.fuse with
   | none=>exact .inl rfl
   | some k =>
    refine .inr ?_;rw[h.left k i];intro e;have:k=0:=by omega
    subst this;exact f i
  refine(may_names d p b c w _ left j o q v t n).mono ?_;rintro e w' ⟨rfl,rfl⟩;refine⟨?_,rfl⟩;unfold namesE zAD.may;rw[if_neg f]
  split<;>rfl
/-! ### done -/
theorem done_walk (d:Nat)(w:World)(f:Bool)(l:Int)(c:w.cell? ⟨d,2,none⟩=some (.bool f))(i:w.cell? ⟨d,3,none⟩=some (.int .i64 l))(m:w.frozen? ⟨d,3,none⟩=false)(b:f=true→1≤l∧l≤9223372036854775807) :
  Calls prog 154 #[.pointer (some ⟨d,0,none⟩)] w fun e w'=>e=.returned (.int .i64 0)∧(if f then w.setCell ⟨d,3,none⟩ (.int .i64 (l-1))else w)=w':=by
 cases f with
 | false =>
  go_enter func154,ntmps154
  go_wp2
  go_ret;exact⟨rfl,rfl⟩
 | true =>
  obtain⟨k,j⟩:=b rfl;clear b
  go_enter func154,ntmps154
  go_wp2
  go_ret;exact⟨rfl,rfl⟩
theorem ok_done {D:zAD}(h:D.OK):D.done.OK where
 srt:=h.srt
 room:=h.room
 used:=h.used
 count:=h.count
 names:=h.names
 lasts:=h.lasts
 fuse k hk:=by
  simp only[zAD.done,Option.map_eq_some_iff]at hk;obtain⟨j,b,rfl⟩:=hk;have:=h.fuse j b;omega
theorem zCp {w:World}{d m:Nat}{left:Int}{L:List (Bs×zBn)}{own:Own}{D:zAD}(h:zAR w d m left L own D)(n:D.fuse≠some 0) :
  Calls prog 154 #[.pointer (some ⟨d,0,none⟩)] w fun e w'=>e=.returned (.int .i64 0)∧zB6 w' d D.done own∧Chg (fun k=>k=d) w w':=by
 refine(done_walk d w _ left h.c2 h.c3 (zAE h.cells 3) ?_).mono ?_
 ·intro q;cases b:D.fuse with
  | none=>rw[b]at q;cases q
  | some k =>
   rw[h.left k b];have:k≠0:=fun e=>n (by rw[b,e]);have:=h.ok.fuse k b;omega
 ·rintro e w' ⟨rfl,rfl⟩;refine⟨rfl,?_,?_⟩
  ·cases b:D.fuse with
   | none =>
    refine⟨m,left,L,?_⟩;have r:D.done=D:=by
     cases D;simp only at b;subst b;rfl
    rw[r];exact h
   | some k =>
    refine⟨m,left-1,L,?_⟩;simp only[Option.isSome_some,if_true];have o:∀j,j≠d→(w.setCell ⟨d,3,none⟩ (.int .i64 (left-1))).heap[j]?=w.heap[j]?:=fun j f=>zAK _ f;have i:∀j t,own j=some t→t≠(0,[])→j≠d:=fun j t f y e=>by
     rw[e,h.od]at f;exact y (Option.some.inj f).symm
    refine⟨?_,?_,?_,h.files,h.srt,fun p v=>?_,h.od,h.om,fun j t f=>by simpa[World.setCell]using h.olt j t f,ok_done h.ok⟩
    ·rw[zAH h.cells];simp[zAD.done,b]
    ·intro j f;simp only[zAD.done,b,Option.map_some,Option.some.injEq]at f;have z:=h.left k b;have:k≠0:=fun e=>n (by rw[b,e]);omega
    ·exact h.map.setCell h.dm_ne.symm _
    ·have c:=h.file p v;refine⟨(o _ (i _ _ c.ob (by simp))).trans c.cells,c.ob,c.row.keep fun g s=>o _ (i _ _ (c.og g s) (by simp)),c.og⟩
  ·split
   ·exact Chg.setCell w ⟨d,3,none⟩ _
   ·exact Chg.refl _ _
/-! ### Used -/
theorem zEr {w:World}{d m:Nat}{left:Int}{L:List (Bs×zBn)}{own:Own}{D:zAD}(h:zAR w d m left L own D) :
  Calls prog 153 #[.pointer (some ⟨d,0,none⟩)] w fun e w'=>e=.returned (.int .i64 (D.used:Int))∧Below w.heap.size w w':=by
 have h1:=h.c1;obtain⟨S,hS⟩:∃S,S=D.used:=⟨_,rfl⟩;have B:zA7 (fun r:zBn=>r.f.data.length) L=S:=by rw[hS,h.used]
 have V:S≤1073741824:=by
  have:=h.ok.used;have:=h.ok.room;omega
 rw[←hS];have n:=h.map;have H:=h.srt;have Y:Hid (zAR w d m left L own D):=h;clear h hS
 go_enter func153,ntmps153
 go_wp2_with (first|(at_range;refine wpList_range_own _ rfl _ 69 rfl 9 108 zBo underlying69 ptrR m L.length (dm fbD L) rfl n ?_;intro w0 q C R))
 go_frame
 go_loopw [3] (fun Q wr=>∃rest cnt,wr.ranges prog 9 ptrR m w.heap.size L.length (dm fbD L) rest cnt∧(∃k:Nat,Q=.int .i64 (k:Int)∧k+zA7 (fun r:zBn=>r.f.data.length) (rem rest L)=S)∧Below w.heap.size w wr) (fun _ wr=>wr.rangeLeft m w.heap.size)
 case atStart =>
  refine⟨_,_,q,⟨0,rfl,?_⟩,(Below.refl _ _).grown C (Nat.le_refl _) (fun _ e=>by cases e)⟩;rw[show rem (Maps.has (dm fbD L)) L=L from rem_start _ L,B,Nat.zero_add]
 case round =>
  obtain⟨rest,cnt,A,⟨k,rfl,W⟩,b⟩:=hrel;have O:=zh W;clear W q C R B n;go_wp2_with (first|(at_next;refine zD1 _ rfl _ rfl 9 underlying9 zBo zBn.fb L m w.heap.size L.length _ _ rfl A ?_ ?_))
  ·intro J;have hS:k=S:=by
    have:=O.o;rw[rem_end J]at this;simpa[zA7]using this
   subst hS
   go_wp2
   go_ret;exact⟨rfl,b⟩
  ·intro s x w1 U a J hs t G E T Z;have N:=Y.o.file _ (zBp a);have i:Below w.heap.size w w1:=b.grown E b.size (fun j e=>by cases e;exact Nat.le_refl _);have y:w1.cell? ⟨x.fb,0,none⟩=some x.v:=(i.cell (p:=⟨x.fb,0,none⟩) (zAA N.cells)).trans (zAB N.cells rfl);obtain⟨p,c,M⟩:∃p c,x.v=.slice p x.f.data.length c:=by
    obtain⟨_,p,c,M,_⟩:=N.row.holds;exact⟨p,c,M⟩
   have I:=rem_sum (f:=fun r:zBn=>r.f.data.length) H a J;have K:k+x.f.data.length≤S:=by
    have:=O.o;omega
   have F:k+x.f.data.length+zA7 (fun r:zBn=>r.f.data.length) (rem (fun z=>rest z&& !z.sameKey (.string s.data.toList)) L)=S:=by
    have:=O.o;omega
   have P:=zh F;have X:=zh (show w1.rangeLeft m w.heap.size<wr.rangeLeft m w.heap.size by rw[t.left_eq,A.left_eq];exact G);rw[M]at y;clear F I a J E T G A b N M;generalize x.f.data.length=j at *
   go_wp2
   go_roundw
   case rel=>exact⟨_,_,t,⟨k+j,by go_num,P.o⟩,i⟩
   case measure=>exact X.o
def zD7:Obj:=.cells #[.slice none 0 0,.slice none 0 0,.slice none 0 0,.slice none 0 0,.slice none 0 0,.slice none 0 0,.slice none 0 0,.slice none 0 0,.int .i64 0] 306 (0,0)
def VaultO (b bb:Nat):Obj:=.cells #[.map (some b),.pointer (some ⟨bb,0,none⟩),.int .i64 1] 242 (0,0)
structure zAt (w:World)(vb pm bb:Nat)(V:List (Bs×It)):Prop where
 cells:w.heap[vb]?=some (VaultO pm bb)
 map:zAd w prog 9 (strK underlying9) itE pm V
 book:w.heap[bb]?=some zD7
 n1:vb≠pm
 n2:vb≠bb
 n3:pm≠bb
theorem zAt.keep {w w':World}{vb b bb:Nat}{V:List (Bs×It)}(h:zAt w vb b bb V)(c:∀k,k=vb∨k=b∨k=bb→w'.heap[k]?=w.heap[k]?):zAt w' vb b bb V :=
 ⟨(c vb (.inl rfl)).trans h.cells,h.map.keep (c b (.inr (.inl rfl))),(c bb (.inr (.inr rfl))).trans h.book,h.n1,h.n2,h.n3⟩
theorem zAt.lt {w:World}{vb b bb:Nat}{V:List (Bs×It)}(h:zAt w vb b bb V){k:Nat}(c:k=vb∨k=b∨k=bb):k<w.heap.size:=by
 rcases c with rfl|rfl|rfl
 ·exact zAA h.cells
 ·exact h.map.lt
 ·exact zAA h.book
theorem zEY (w:World):Calls prog 213 #[] w fun e w'=>e=.returned (.pointer (some ⟨w.heap.size,0,none⟩))∧w'=w.alloc zD7:=by
 go_enter func213,ntmps213
 go_wp2_with fail;go_ret;exact⟨rfl,rfl⟩
theorem vaultnew_calls (w:World):Calls prog 178 #[] w fun e w'=>∃vb pm bb,e=.returned (.pointer (some ⟨vb,0,none⟩))∧zAt w' vb pm bb []∧(∀k,k=vb∨k=pm∨k=bb→w.heap.size≤k)∧Below w.heap.size w w':=by
 have j:=zh (fun W=>zEY W);have q:=@run_makeMap prog
 go_enter func178,ntmps178
 go_wp2_with fail;refine(j.o _).mono ?_;rintro e r ⟨rfl,rfl⟩;go_wp2_with fail;go_ret;have f:=zAC w (.map #[] 0);have i:=f.trans ((zAC (w.alloc (.map #[] 0)) zD7).mono f.size);have b3:=i.trans ((zAC ((w.alloc (.map #[] 0)).alloc zD7) (VaultO w.heap.size (w.heap.size+1))).mono i.size);have m:(w.alloc (.map #[] 0)).heap.size=w.heap.size+1:=by simp
 have n:((w.alloc (.map #[] 0)).alloc zD7).heap.size=w.heap.size+2:=by simp
 have c:=zAF ((w.alloc (.map #[] 0)).alloc zD7) (VaultO w.heap.size (w.heap.size+1));rw[n]at c;have b:=zAW (VaultO w.heap.size (w.heap.size+1)) (zAF (w.alloc (.map #[] 0)) zD7);rw[m]at b;have p:zAd (w.alloc (.map #[] 0)) prog 9 (strK underlying9) itE w.heap.size []:=zDM w;have d:=(p.keep ((zAC (w.alloc (.map #[] 0)) zD7).block w.heap.size (by simp))).keep ((zAC ((w.alloc (.map #[] 0)).alloc zD7) (VaultO w.heap.size (w.heap.size+1))).block w.heap.size (by simp;omega));exact⟨w.heap.size+2,w.heap.size,w.heap.size+1,rfl,⟨c,d,b,by omega,by omega,by omega⟩,by rintro k (rfl|rfl|rfl)<;>omega,b3⟩
def zEf (s:ByteArray):Bool:=decide (1≤s.size)&&decide (s.size≤16)
theorem iswho_calls (w:World)(s:ByteArray)(d:s.size≤9223372036854775807):Calls prog 179 #[.string s] w fun e w'=>e=.returned (.bool (zEf s))∧w'=w:=by
 generalize b:zEf s=R;have c:=zh b;clear b
 go_enter func179,ntmps179
 go_wp2_with fail
 all_goals
  go_ret;refine⟨?_,rfl⟩;rw[←c.o]
  congr 2
  simp_all [zEf]
  first|done|omega|(rw[Bool.eq_iff_iff];simp;omega)
def zAb (V:List (Bs×It))(b:ByteArray):It:=(zBS (nm b) V).getD It.zero
def laysM (V:List (Bs×It))(b:ByteArray)(x:It):List (Bs×It):=if x=It.zero then kdel (nm b) V else zDv (nm b) x V
def VTold (w:World)(vb b bb:Nat)(c:List (Bs×It))(w':World):Prop:=zAt w' vb b bb c∧Chg (fun k=>k=b) w w'
theorem it_agg (x:It):x.v=.agg #[.int .i64 x.a,.int .i64 x.b,.int .i64 x.c,.int .i64 x.d]:=rfl
theorem zCr {w w':World}{b:Nat}(h:w.mapTurned w' b):Chg (fun k=>k=b) w w':=(Chg.of_grown h.grown).mono fun _ _ e=>Option.some.inj e
theorem lays_fin {w w':World}{vb b bb:Nat}{V d:List (Bs×It)}(h:zAt w vb b bb V)(c:Chg (fun k=>k=b) w w')(f:zAd w' prog 9 (strK underlying9) itE b d):VTold w vb b bb d w' :=
 ⟨⟨(c.block vb (h.lt (.inl rfl)) h.n1).trans h.cells,f,(c.block bb (h.lt (.inr (.inr rfl))) (Ne.symm h.n3)).trans h.book,h.n1,h.n2,h.n3⟩,c⟩
theorem lays_calls {w:World}{vb j bb:Nat}{V:List (Bs×It)}(h:zAt w vb j bb V)(f:ByteArray)(F:f.size≤maxLen)(x:It)(G:x.wf)(hn:V.length<maxLen) :
  Calls prog 181 #[.pointer (some ⟨vb,0,none⟩),.string f,.agg #[.int .i64 x.a,.int .i64 x.b,.int .i64 x.c,.int .i64 x.d]] w fun e w'=>e=.returned (.tuple #[])∧VTold w vb j bb (laysM V f x) w':=by
 have O:w.cell? ⟨vb,0,none⟩=some (.map (some j)):=zAB h.cells rfl;have C:=zh (fun W=>it_eq W x It.zero G (It.wf_of rfl));have I:=it_agg It.zero;have H:=zh h;clear h;have y:=zh (zAC w (It.o x));have Q:(w.alloc (.cells #[.int .i64 x.a,.int .i64 x.b,.int .i64 x.c,.int .i64 x.d] 46)).cell? ⟨vb,0,none⟩=some (.map (some j)):=zAB (zAW _ H.o.cells) rfl;have t:(strK (P:=prog) underlying9).ok (nm f):=by show(nm f).length≤maxLen;rw[zDk];exact F
 have q:(strK (P:=prog) underlying9).v (nm f)=.string f:=strK_v _ f;have z:=zh (And.intro t q);clear t q
 by_cases n:x=It.zero
 ·have E:∀W:World,(Op.equalIn 10000 46 (.agg #[.int .i64 x.a,.int .i64 x.b,.int .i64 x.c,.int .i64 x.d]) (.agg #[.int .i64 0,.int .i64 0,.int .i64 0,.int .i64 0])).run prog W=.ok true W:=fun W=>by
   have h:=C.o W;rw[decide_eq_true n]at h;exact h
  obtain⟨w1,i,r,s⟩:=(H.o.map.keep (y.o.block j H.o.map.lt)).drop zD6 underlying239 z.o.1 0;rw[z.o.2]at i;have i:(Builtin.delete_ #[239,9] 0 #[.map (some j),.string f]).run prog (w.alloc (.cells #[.int .i64 x.a,.int .i64 x.b,.int .i64 x.c,.int .i64 x.d] 46))=.ok (.tuple #[]) w1:=i;have m:=zAF w (.cells #[.int .i64 x.a,.int .i64 x.b,.int .i64 x.c,.int .i64 x.d] 46);have J:=cell0 m;have L:=zCF m;have M:=zCG m;have N:=zCZ m;have p:=zh (And.intro r s);have A:=zh n;clear r s n m
  go_enter func181,ntmps181
  go_wp2_with fail;refine bodyPost_ret (results_none rfl _ _ _) rfl ?_;refine⟨rfl,?_⟩;have B:Chg (fun k=>k=j) w w1:=((Chg.of_below y.o).mono fun _ _ e=>e.elim:Chg (fun k=>k=j) w _).trans (zCr p.o.2) fun _ _ e=>e;exact lays_fin H.o B (by rw[show laysM V f x=kdel (nm f) V from if_pos A.o];exact p.o.1)
 ·have E:∀W:World,(Op.equalIn 10000 46 (.agg #[.int .i64 x.a,.int .i64 x.b,.int .i64 x.c,.int .i64 x.d]) (.agg #[.int .i64 0,.int .i64 0,.int .i64 0,.int .i64 0])).run prog W=.ok false W:=fun W=>by
   have h:=C.o W;rw[decide_eq_false n]at h;exact h
  obtain⟨w1,i,r,s⟩:=((H.o.map.keep (y.o.block j H.o.map.lt)).keep (w':=(w.alloc (It.o x)).drew) rfl).store zD6 underlying239 hn z.o.1 (x:=x) trivial;rw[z.o.2]at i;have i:(Instr.mapUpdate 239 (.map (some j)) (.string f) (.agg #[.int .i64 x.a,.int .i64 x.b,.int .i64 x.c,.int .i64 x.d])).run prog (w.alloc (.cells #[.int .i64 x.a,.int .i64 x.b,.int .i64 x.c,.int .i64 x.d] 46)).drew=.ok () w1:=i;have m:=zAF w (.cells #[.int .i64 x.a,.int .i64 x.b,.int .i64 x.c,.int .i64 x.d] 46);have J:=cell0 m;have L:=zCF m;have M:=zCG m;have N:=zCZ m;have p:=zh (And.intro r s);have A:=zh n;clear r s n m
  go_enter func181,ntmps181
  go_wp2_with fail;generalize w.alloc (.cells #[.int .i64 x.a,.int .i64 x.b,.int .i64 x.c,.int .i64 x.d] 46)=D at *
  go_still_tail 6,(by kernel_rfl)
  change wpList _ _ _ _ _ D.drew;go_wp2_with fail
  go_end0
  refine⟨rfl,?_⟩;have B:Chg (fun k=>k=j) w w1:=(((Chg.of_below y.o).mono fun _ _ e=>e.elim:Chg (fun k=>k=j) w _).trans (Chg.drew _) fun _ _ e=>e.elim).trans (zCr p.o.2) fun _ _ e=>e;exact lays_fin H.o B (by rw[show laysM V f x=zDv (nm f) x V from if_neg A.o];exact p.o.1)
end Go.Proofs.YtmcanphlgkolcaaGreatDoor
namespace Go.Sat
open Go Go.RowKit
theorem zBb {P:Program}{l:List Oper}{Q:Exit→Act→World→Prop}{c:Region.Mode}{S:World→Prop}{fuel:Nat}{b:Array Bool}{a:Act}{w:World}(i j:Nat){o p:Oper}{t v:List Oper}(f:l.drop i=o::t)(k:l.drop j=p::v)(s:Region.ready c l.toArray b=[i,j])
  (m:Region.wanted o (yielded l.toArray a.tmps)=true) (n:Region.wanted p (yielded l.toArray a.tmps)=true)
  (q:∀K:Act→World→Prop,Shut (∀a w,S w→(S w→wpAnyH P c l.toArray Q S fuel (b.setIfInBounds i true) a w)→K a w)→Oper.wp P o a w K Q)
  (r:∀K:Act→World→Prop,Shut (∀a w,S w→(S w→wpAnyH P c l.toArray Q S fuel (b.setIfInBounds j true) a w)→K a w)→Oper.wp P p a w K Q):wpAnyH P c l.toArray Q S (fuel+1) b a w :=
 wpAnyH_ready s (by simp) (AllReadyH.cons (zBv f) (fun K d=>by rw[if_pos m];exact q K d) (AllReadyH.cons (zBv k) (fun K d=>by rw[if_pos n];exact r K d) AllReadyH.nil))
theorem zCg {P:Program}{o:Oper}{K:Act→World→Prop}{Q:Exit→Act→World→Prop}{a:Act}{w:World}(s x:Operand)(t:TypeId)
  (f:o.op=.call {callee:=.builtin .append,args:=#[s,x],argTypes:=#[t,t] })
  (e:TypeId) (i:TypeInfo) (z:Value) (size bytes:Nat) (ht:P.underlying t=some (.slice e)) (hi:P.info? e=some i) (hz:i.zero=some z)
  (hsize:i.size=size) (hby:i.bytes=bytes) (hzs:z.cells.size=size) (hsz:0<size)
  (v:Value) (n:Nat) (xs:List Value) (hs:a.eval s=v) (hown:OwnR w e size v n xs)
  (xv:Value) (m:Nat) (news:List Value) (hxv:a.eval x=xv) (hx:zBH w size xv m news) (h1:∀u∈news,u.oneCell'=true)
  (h63:n+m≤maxLen) (hbytes:(n+m)*bytes≤140737488355328)
  (h:∀v' w',OwnR w' e size v' (n+m) (xs++news)→w.grownBy w' v.ownBlock→(v'.ownBlock=v.ownBlock∨∃g,v'.ownBlock=some g∧w.heap.size≤g)→K (a.put o.dst v') w'):Oper.wp P o a w K Q:=by
 obtain⟨v',w',j,b,c,d⟩:=run_app (P:=P) w t o.type e i z size bytes ht hi hz hsize hby hzs hsz v n xs hown xv m news hx h1 h63 hbytes;unfold Oper.wp execOp;simp only[f,resolve,invoke,builtin,Sem.run_bind,Sem.run_pure,Result.andThen_ok,List.map_toArray,List.map_cons,List.map_nil,hs,hxv,j];exact h v' w' b c d
end Go.Sat
namespace Go.Proofs.YtmcanphlgkolcaaGreatDoor
open Go.RowKit Go.Sat Go.Maps
def putM (V:List (Bs×It))(b:ByteArray)(x:It):List (Bs×It)×Nat :=
 if zEf b=true∧zBf x=true then(if(zAb V b).add2ok x=true then(laysM V b ((zAb V b).add2 x),0)else(V,6))else(V,1)
structure PutS (w:World)(vb pm bb b:Nat)(V:List (Bs×It))(x:It)(w':World):Prop where
 v:zAt w' vb pm bb V
 x:w'.heap[b]?=some (It.o x)
 bel:Below w.heap.size w w'
def PutQ (_w1:World)(vb c bb b q:Nat)(w:World):Prop:=(∀k,(k=vb∨k=c∨k=bb)∨k=b→k≠q)∧w.heap.size≤q
theorem PutQ.mk' {w w1:World}{vb d bb b:Nat}{V:List (Bs×It)}{x:It}(h:PutS w vb d bb b V x w1):PutQ w1 vb d bb b w1.heap.size w:=by
 refine⟨fun k c e=>?_,h.bel.size⟩;subst e;rcases c with c|c
 ·exact Nat.lt_irrefl _ (h.v.lt c)
 ·exact Nat.lt_irrefl _ (c▸zAA h.x)
theorem PutS.next {w w1 f:World}{vb d bb b:Nat}{V:List (Bs×It)}{x:It}(h:PutS w vb d bb b V x w1)(c:Below w1.heap.size w1 f):PutS w vb d bb b V x f :=
 ⟨h.v.keep fun k i=>c.block k (h.v.lt i),(c.block b (zAA h.x)).trans h.x,h.bel.trans (c.mono h.bel.size)⟩
theorem PutS.drew {w w1:World}{vb c bb b:Nat}{V:List (Bs×It)}{x:It}(h:PutS w vb c bb b V x w1):PutS w vb c bb b V x w1.drew:=h.next ⟨rfl,rfl,rfl,Nat.le_refl _,fun _ _=>rfl⟩
theorem PutS.fin {w w1:World}{vb m bb b q:Nat}{V:List (Bs×It)}{x z:It}(h:PutS w vb m bb b V x w1)(n:w1.heap[q]?=some (It.o z))(f:PutQ w1 vb m bb b q w)(y:It) :
  PutS w vb m bb b V x ((((w1.setCell ⟨q,0,none⟩ (.int .i64 y.a)).setCell ⟨q,1,none⟩ (.int .i64 y.b)).setCell ⟨q,2,none⟩ (.int .i64 y.c)).setCell ⟨q,3,none⟩ (.int .i64 y.d))∧((((w1.setCell ⟨q,0,none⟩ (.int .i64 y.a)).setCell ⟨q,1,none⟩ (.int .i64 y.b)).setCell ⟨q,2,none⟩ (.int .i64 y.c)).setCell ⟨q,3,none⟩ (.int .i64 y.d)).heap[q]?=some (It.o y):=by
 have i:=chg4 w1 q (.int .i64 y.a) (.int .i64 y.b) (.int .i64 y.c) (.int .i64 y.d);refine⟨⟨h.v.keep fun k j=>i.block k (h.v.lt j) (f.1 k (.inl j)),(i.block b (zAA h.x) (f.1 b (.inr rfl))).trans h.x,?_⟩,put4 n _ _ _ _⟩;exact(((Chg.of_below h.bel).mono fun _ _ e=>e.elim:Chg (fun k=>k=q) w w1).trans i fun _ _ e=>e).below (Nat.le_refl _) fun k j e=>by have:=f.2;omega
theorem zD5 {w:World}{vb j bb:Nat}{V:List (Bs×It)}(h:zAt w vb j bb V)(f:ByteArray)(k:f.size≤maxLen) :
  (Instr.lookup 239 (.map (some j)) (.string f) false).run prog w=.ok (.agg #[.int .i64 (zAb V f).a,.int .i64 (zAb V f).b,.int .i64 (zAb V f).c,.int .i64 (zAb V f).d]) w:=by
 have i:=h.map.look zD6 underlying239 (by kernel_rfl) (a:=nm f) (by show(nm f).length≤maxLen;rw[zDk];exact k);rw[show(strK (P:=prog) underlying9).v (nm f)=.string f from strK_v _ f]at i;rw[i];unfold zAb;cases zBS (nm f) V<;>rfl
theorem put_calls {w:World}{vb P bb:Nat}{V:List (Bs×It)}(h:zAt w vb P bb V)(f:ByteArray)(hw:f.size≤maxLen)(x:It)(hn:V.length<maxLen)(ae:(zAb V f).is=true) :
  Calls prog 158 #[.pointer (some ⟨vb,0,none⟩),.string f,.agg #[.int .i64 x.a,.int .i64 x.b,.int .i64 x.c,.int .i64 x.d]] w fun e w'=>e=.returned (.int .i64 ((putM V f x).2:Int))∧VTold w vb P bb (putM V f x).1 w':=by
 have c0:w.cell? ⟨vb,0,none⟩=some (.map (some P)):=zAB h.cells rfl;have H:=zh h;have ag:f.size≤9223372036854775807:=Nat.le_trans hw (by decide);have T:=zh (fun W=>iswho_calls W f ag);have ab:=zh (fun W=>zBG W x.a x.b x.c x.d);have H1:=zW (PutS w vb P bb w.heap.size V x (w.alloc (It.o x))) (⟨h.keep fun k hk=>(zAC w (It.o x)).block k (h.lt hk),zAF w (It.o x),zAC w (It.o x)⟩);have L:=zh (fun(h1:¬(zEf f=true∧zBf x=true))=>(show putM V f x=(V,1)from if_neg h1));have Q:=zh (fun(h1:zEf f=true) (h2:zBf x=true) (h3:¬(zAb V f).add2ok x=true)=>(show putM V f x=(V,6)from(if_pos ⟨h1,h2⟩).trans (if_neg h3)));have R:=zh (fun(h1:zEf f=true) (h2:zBf x=true) (h3:(zAb V f).add2ok x=true)=>(show putM V f x=(laysM V f ((zAb V f).add2 x),0)from(if_pos ⟨h1,h2⟩).trans (if_pos h3)));generalize putM V f x=Z at *;clear h
 go_enter func158,ntmps158
 go_wp2_with fail;refine(T.o _).mono ?_;rintro e w2 ⟨rfl,rfl⟩;cases hi:zEf f with
 | false =>
  obtain rfl:=L.o (fun h=>by rw[hi]at h;cases h.1);go_wp2_with fail;go_ret;exact⟨rfl,⟨H1.o.v,(Chg.of_below H1.o.bel).mono fun _ _ e=>e.elim⟩⟩
 | true =>
  go_wp2_with fail;refine(ab.o _).mono ?_;rintro e w3 ⟨rfl,X⟩;have H3:=zh (H1.o.next X);clear X;cases hx:zBf x with
  | false =>
   obtain rfl:=L.o (fun h=>by rw[hx]at h;cases h.2);go_wp2_with fail;go_ret;exact⟨rfl,⟨H3.o.v,(Chg.of_below H3.o.bel).mono fun _ _ e=>e.elim⟩⟩
  | true =>
   go_wp2_with fail
   go_upto_region 3 with(fail)
   generalize w.heap.size=b at H1 H3
   go_cut [7,8] (fun s7 s8 wx=>∃q,s7=.pointer (some ⟨q,0,none⟩)∧s8=.bool ((zAb V f).add2ok x)∧wx.heap[q]?=some (It.o ((zAb V f).add2 x))∧PutS w vb P bb b V x wx)
   case first =>
    refine ost (PutS w vb P bb b V x) 15 H3.o.drew fun i=>?_;have H:=zh H3.o.drew;generalize w3.drew=M at *;refine Pl [0,1,2,3,4,5,6] ?_
    iterate 3 (refine Pc rfl ?_;simp only[uZ])
    refine Pd rfl (by intro w t;have e0:w.cell? ⟨vb,0,none⟩=some (.map (some P)):=zAB t.v.cells rfl;go_simp;try with_reducible rfl) ?_;simp only[uZ];refine Pc rfl ?_;simp only[uZ];refine Pd rfl (by intro w t;have e0:=zD5 t.v f hw;go_simp;try with_reducible rfl) ?_;simp only[uZ];refine Pd rfl (by intro w t;have e0:=cell0 t.x;have e1:=zCF t.x;have e2:=zCG t.x;have e3:=zCZ t.x;go_simp;try with_reducible rfl) ?_;simp only[uZ];refine Pn ?_;refine zBb 7 12 rfl rfl (by kernel_rfl) (by rfl) (by rfl) (fun K j=>?_) (fun K j=>?_)
    ·have n:=zAC M (.cells #[.int .i64 (zAb V f).a,.int .i64 (zAb V f).b,.int .i64 (zAb V f).c,.int .i64 (zAb V f).d,.int .i64 x.a,.int .i64 x.b,.int .i64 x.c,.int .i64 x.d] 46);have hS:=H.o.next n;have U:=zAF M (.cells #[.int .i64 (zAb V f).a,.int .i64 (zAb V f).b,.int .i64 (zAb V f).c,.int .i64 (zAb V f).d,.int .i64 x.a,.int .i64 x.b,.int .i64 x.c,.int .i64 x.d] 46);go_wp2_with fail;refine j.o _ _ hS fun i=>?_;clear j;have p:=zh hS;have y:=zh U;clear H hS U n;have H:=p;clear p;generalize M.alloc (.cells #[.int .i64 (zAb V f).a,.int .i64 (zAb V f).b,.int .i64 (zAb V f).c,.int .i64 (zAb V f).d,.int .i64 x.a,.int .i64 x.b,.int .i64 x.c,.int .i64 x.d] 46)=C at *;generalize M.heap.size=g at *
     try simp only[uZ]
     refine zBb 8 12 rfl rfl (by kernel_rfl) (by rfl) (by rfl) (fun K j=>?_) (fun K j=>?_)
     ·have s:=zh (zCz C (zAb V f) x g (0,0) y.o 2);go_wp2_with fail;refine s.o.mono ?_;rintro e E ⟨Y,r⟩;obtain rfl:e=.returned (.tuple #[.agg #[.int .i64 ((zAb V f).add2 x).a,.int .i64 ((zAb V f).add2 x).b,.int .i64 ((zAb V f).add2 x).c,.int .i64 ((zAb V f).add2 x).d],.bool ((zAb V f).add2ok x)]):=Y;have p:=zh (H.o.next r);clear H s r y;have H:=p;clear p;go_wp2_with fail;refine j.o _ _ H.o fun i=>?_;clear j
      try simp only[uZ]
      refine Pl [9,10,11] ?_
      iterate 3 (refine Pc rfl ?_;simp only[uZ])
      refine Pn ?_;refine oon 12 rfl fun K j=>?_;have n:=zAC E (.cells #[.int .i64 0,.int .i64 0,.int .i64 0,.int .i64 0] 46);have hS:=H.o.next n;have N:=zAF E (.cells #[.int .i64 0,.int .i64 0,.int .i64 0,.int .i64 0] 46);go_wp2_with fail;refine j.o _ _ hS fun i=>?_;clear j;have p:=zh hS;have m:=zh N;have B:=zh (PutQ.mk' H.o);clear H hS N n;have H:=p;clear p;generalize E.alloc (.cells #[.int .i64 0,.int .i64 0,.int .i64 0,.int .i64 0] 46)=F at *;generalize E.heap.size=q at *
      try simp only[uZ]
      have z0:F.cell? ⟨q,0,none⟩=some (.int .i64 0):=zAB m.o rfl;have z1:F.cell? ⟨q,1,none⟩=some (.int .i64 0):=zAB m.o rfl;have z2:F.cell? ⟨q,2,none⟩=some (.int .i64 0):=zAB m.o rfl;have z3:F.cell? ⟨q,3,none⟩=some (.int .i64 0):=zAB m.o rfl;have f0:=zAE m.o 0;have f1:=zAE m.o 1;have f2:=zAE m.o 2;have f3:=zAE m.o 3;have hF:=PutS.fin (z:=It.zero) H.o m.o B.o ((zAb V f).add2 x);clear H;refine oon 13 rfl fun K j=>?_;go_wp2_with fail;refine j.o _ _ hF.1 fun i=>?_;clear j
      try simp only[uZ]
      refine oon 14 rfl fun K j=>?_;go_wp2_with fail;refine j.o _ _ hF.1 fun i=>?_;clear j;refine odn ?_;have J:=zh hF;clear hF;go_wp2_with fail
      go_meet
      exact⟨q,rfl,rfl,J.o.2,J.o.1⟩
     ·have n:=zAC C (.cells #[.int .i64 0,.int .i64 0,.int .i64 0,.int .i64 0] 46);have hS:=H.o.next n;have N:=zAF C (.cells #[.int .i64 0,.int .i64 0,.int .i64 0,.int .i64 0] 46);have aa:=zh ((n.block g (zAA y.o)).trans y.o);go_wp2_with fail;refine j.o _ _ hS fun i=>?_;clear j;have p:=zh hS;have m:=zh N;have B:=zh (PutQ.mk' H.o);clear H hS N n y;have H:=p;have y:=aa;clear p;generalize C.alloc (.cells #[.int .i64 0,.int .i64 0,.int .i64 0,.int .i64 0] 46)=ac at *;generalize C.heap.size=q at *
      try simp only[uZ]
      refine oon 8 rfl fun K j=>?_;have s:=zh (zCz ac (zAb V f) x g (0,0) y.o 2);go_wp2_with fail;refine s.o.mono ?_;rintro e G ⟨Y,r⟩;obtain rfl:e=.returned (.tuple #[.agg #[.int .i64 ((zAb V f).add2 x).a,.int .i64 ((zAb V f).add2 x).b,.int .i64 ((zAb V f).add2 x).c,.int .i64 ((zAb V f).add2 x).d],.bool ((zAb V f).add2ok x)]):=Y;have p:=zh (H.o.next r);have A:=zh ((r.block q (zAA m.o)).trans m.o);clear H s r y m;have H:=p;have m:=A;clear p A;go_wp2_with fail;refine j.o _ _ H.o fun i=>?_;clear j
      try simp only[uZ]
      refine Pl [9,10,11] ?_
      iterate 3 (refine Pc rfl ?_;simp only[uZ])
      refine Pn ?_;have z0:G.cell? ⟨q,0,none⟩=some (.int .i64 0):=zAB m.o rfl;have z1:G.cell? ⟨q,1,none⟩=some (.int .i64 0):=zAB m.o rfl;have z2:G.cell? ⟨q,2,none⟩=some (.int .i64 0):=zAB m.o rfl;have z3:G.cell? ⟨q,3,none⟩=some (.int .i64 0):=zAB m.o rfl;have f0:=zAE m.o 0;have f1:=zAE m.o 1;have f2:=zAE m.o 2;have f3:=zAE m.o 3;have hF:=PutS.fin (z:=It.zero) H.o m.o B.o ((zAb V f).add2 x);clear H;refine oon 13 rfl fun K j=>?_;go_wp2_with fail;refine j.o _ _ hF.1 fun i=>?_;clear j
      try simp only[uZ]
      refine oon 14 rfl fun K j=>?_;go_wp2_with fail;refine j.o _ _ hF.1 fun i=>?_;clear j;refine odn ?_;have J:=zh hF;clear hF;go_wp2_with fail
      go_meet
      exact⟨q,rfl,rfl,J.o.2,J.o.1⟩
    ·have n:=zAC M (.cells #[.int .i64 0,.int .i64 0,.int .i64 0,.int .i64 0] 46);have hS:=H.o.next n;have N:=zAF M (.cells #[.int .i64 0,.int .i64 0,.int .i64 0,.int .i64 0] 46);go_wp2_with fail;refine j.o _ _ hS fun i=>?_;clear j;have p:=zh hS;have m:=zh N;have B:=zh (PutQ.mk' H.o);clear H hS N n;have H:=p;clear p;generalize M.alloc (.cells #[.int .i64 0,.int .i64 0,.int .i64 0,.int .i64 0] 46)=D at *;generalize M.heap.size=q at *
     try simp only[uZ]
     refine oon 7 rfl fun K j=>?_;have n:=zAC D (.cells #[.int .i64 (zAb V f).a,.int .i64 (zAb V f).b,.int .i64 (zAb V f).c,.int .i64 (zAb V f).d,.int .i64 x.a,.int .i64 x.b,.int .i64 x.c,.int .i64 x.d] 46);have hS:=H.o.next n;have U:=zAF D (.cells #[.int .i64 (zAb V f).a,.int .i64 (zAb V f).b,.int .i64 (zAb V f).c,.int .i64 (zAb V f).d,.int .i64 x.a,.int .i64 x.b,.int .i64 x.c,.int .i64 x.d] 46);have S:=m;go_wp2_with fail;refine j.o _ _ hS fun i=>?_;clear j;have p:=zh hS;have y:=zh U;clear m;have m:=zh ((n.block q (zAA S.o)).trans S.o);clear H hS U n S;have H:=p;clear p;generalize D.alloc (.cells #[.int .i64 (zAb V f).a,.int .i64 (zAb V f).b,.int .i64 (zAb V f).c,.int .i64 (zAb V f).d,.int .i64 x.a,.int .i64 x.b,.int .i64 x.c,.int .i64 x.d] 46)=ad at *;generalize D.heap.size=g at *
     try simp only[uZ]
     refine oon 8 rfl fun K j=>?_;have s:=zh (zCz ad (zAb V f) x g (0,0) y.o 2);go_wp2_with fail;refine s.o.mono ?_;rintro e I ⟨Y,r⟩;obtain rfl:e=.returned (.tuple #[.agg #[.int .i64 ((zAb V f).add2 x).a,.int .i64 ((zAb V f).add2 x).b,.int .i64 ((zAb V f).add2 x).c,.int .i64 ((zAb V f).add2 x).d],.bool ((zAb V f).add2ok x)]):=Y;have p:=zh (H.o.next r);have A:=zh ((r.block q (zAA m.o)).trans m.o);clear H s r y m;have H:=p;have m:=A;clear p A;go_wp2_with fail;refine j.o _ _ H.o fun i=>?_;clear j
     try simp only[uZ]
     refine Pl [9,10,11] ?_
     iterate 3 (refine Pc rfl ?_;simp only[uZ])
     refine Pn ?_;have z0:I.cell? ⟨q,0,none⟩=some (.int .i64 0):=zAB m.o rfl;have z1:I.cell? ⟨q,1,none⟩=some (.int .i64 0):=zAB m.o rfl;have z2:I.cell? ⟨q,2,none⟩=some (.int .i64 0):=zAB m.o rfl;have z3:I.cell? ⟨q,3,none⟩=some (.int .i64 0):=zAB m.o rfl;have f0:=zAE m.o 0;have f1:=zAE m.o 1;have f2:=zAE m.o 2;have f3:=zAE m.o 3;have hF:=PutS.fin (z:=It.zero) H.o m.o B.o ((zAb V f).add2 x);clear H;refine oon 13 rfl fun K j=>?_;go_wp2_with fail;refine j.o _ _ hF.1 fun i=>?_;clear j
     try simp only[uZ]
     refine oon 14 rfl fun K j=>?_;go_wp2_with fail;refine j.o _ _ hF.1 fun i=>?_;clear j;refine odn ?_;have J:=zh hF;clear hF;go_wp2_with fail
     go_meet
     exact⟨q,rfl,rfl,J.o.2,J.o.1⟩
   case rest =>
    obtain⟨q,rfl,rfl,hq,hS⟩:=hcut;cases O:(zAb V f).add2ok x with
    | false =>
     obtain rfl:=Q.o hi hx (by rw[O];decide);go_wp2_with fail;go_ret;exact⟨rfl,⟨hS.v,(Chg.of_below hS.bel).mono fun _ _ e=>e.elim⟩⟩
    | true =>
     obtain rfl:=R.o hi hx O;have u0:=cell0 hq;have u1:=zCF hq;have u2:=zCG hq;have u3:=zCZ hq;have af:((zAb V f).add2 x).wf:=by
      obtain⟨e1,-⟩:=add2_yes ae hx (by
       unfold It.add2ok at O;simp only[Bool.and_eq_true]at O;exact O.2)
      rw[e1];refine It.wf_of ?_;unfold It.add2ok at O;simp only[Bool.and_eq_true]at O;exact O.2
     have Hl:=zh (lays_calls hS.v f hw ((zAb V f).add2 x) af hn);have HS:=zh hS;clear hS hq;go_wp2_with fail;refine Hl.o.mono ?_;rintro e w5 ⟨rfl,hT⟩;have HT:=zh hT;clear hT;go_wp2_with fail;go_ret;exact⟨rfl,HT.o.1,(((Chg.of_below HS.o.bel).mono fun _ _ e=>e.elim:Chg (fun k=>k=P) w _).trans HT.o.2 fun _ _ e=>e)⟩
end Go.Proofs.YtmcanphlgkolcaaGreatDoor
