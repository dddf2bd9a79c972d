/- Numbers and rows as bytes: what is laid, and what is read (a plain model). No program. What a disk keeps (a plain model), and what it means that a disk lies in memory. Contracts of disk.New, may, done, Used. How a disk in memory stands behind a change of one file, a new file, a file that goes. No walk. The contract of Append. -/
import Derived.BigQuiet
import Derived.Deep.LoopGhost
import Derived.Deep.QuietTactic
import Derived.Test.YtapfnehdgailmaaGreatChecked
import Derived.Test.YtapfnehdgailmaaGreatDA
set_option maxRecDepth 100000
set_option maxHeartbeats 64000000
namespace Go.Sat
def numB (n:Nat):Bs:=if n < 128 then [UInt8.ofNat n] else UInt8.ofNat (n % 128+128) :: numB (n / 128)
termination_by n
decreasing_by omega
def numI (v:Int):Bs:=numB (max 0 (min v 4611686018427387904)).toNat
def zCS (l:List Int):Bs:=(l.map numI).flatten
def rowB (p:Bs):Bs:=numB p.length ++ p
theorem zCo {n:Nat} (h:n < 128):numB n=[UInt8.ofNat n]:=by rw [numB,if_pos h]
theorem numB_more {n:Nat} (h:128≤n):numB n=UInt8.ofNat (n % 128+128) :: numB (n / 128):=by rw [numB,if_neg (by omega)]
theorem numI_nat {n:Nat} (h:n≤4611686018427387904):numI (n:Int)=numB n:=by
 unfold numI
 congr 1
 omega
theorem numB_len (n:Nat):1≤(numB n).length:=by
 rw [numB]
 split <;> simp
theorem numB_le (k:Nat):∀ n,n < 128 ^ (k+1)→(numB n).length≤k+1:=by
 induction k with
 | zero =>
  intro n h
  rw [zCo (by simpa using h)]
  simp
 | succ k ih =>
  intro n h
  by_cases hn:n < 128
  ·rw [zCo hn]
   simp
  ·rw [numB_more (by omega),List.length_cons]
   have:=ih (n / 128) (by rw [Nat.div_lt_iff_lt_mul (by decide),← Nat.pow_succ];exact h)
   omega
theorem zBV {n:Nat} (h:n≤4611686018427387904):(numB n).length≤9:=numB_le 8 n (Nat.lt_of_le_of_lt h (by decide))
def zBY:Nat→Nat→Bs→Option (Nat × Bs)
 | _,_,[]=>none
 | i,u,c :: r=>if 9≤i∨(0 < i∧c=0) then none
  else if c.toNat < 128 then (if 4611686018427387904 < u+c.toNat * 128 ^ i then none else some (u+c.toNat * 128 ^ i,r))
  else zBY (i+1) (u+c.toNat % 128 * 128 ^ i) r
theorem numGo_num (n:Nat):∀ (i u:Nat) (r:Bs),(0 < i→0 < n)→u+n * 128 ^ i≤4611686018427387904→zBY i u (numB n ++ r)=some (u+n * 128 ^ i,r):=by
 induction n using Nat.strongRecOn with
 | ind n ih =>
  intro i u r h0 hm
  have hi:¬ 9≤i∨n=0:=by
   by_cases hn:n=0
   ·exact .inr hn
   ·refine .inl fun h9=>?_
    have h1:128 ^ 9≤128 ^ i:=Nat.pow_le_pow_right (by decide) h9
    have h2:1 * 128 ^ 9≤n * 128 ^ i:=Nat.mul_le_mul (by omega) h1
    have h3:(128:Nat) ^ 9=9223372036854775808:=by decide
    omega
  by_cases hn:n < 128
  ·rw [zCo hn]
   show (if _ then _ else _)=_
   have e:(UInt8.ofNat n).toNat=n:=by rw [UInt8.toNat_ofNat'];omega
   have hc:¬ (9≤i∨(0 < i∧UInt8.ofNat n=0)):=by
    rintro (h | ⟨h1,h2⟩)
    ·rcases hi with h' | h'
     ·exact h' h
     ·have:=h0 (by omega)
      omega
    ·have h3:=congrArg UInt8.toNat h2
     rw [e] at h3
     have:=h0 h1
     simp at h3
     omega
   rw [if_neg hc,e,if_pos hn,if_neg (by omega)]
   rfl
  ·rw [numB_more (by omega)]
   show (if _ then _ else _)=_
   have e:(UInt8.ofNat (n % 128+128)).toNat=n % 128+128:=by rw [UInt8.toNat_ofNat'];omega
   have hc:¬ (9≤i∨(0 < i∧UInt8.ofNat (n % 128+128)=0)):=by
    rintro (h | ⟨h1,h2⟩)
    ·rcases hi with h' | h' <;> omega
    ·have h3:=congrArg UInt8.toNat h2
     rw [e] at h3
     simp at h3
   rw [if_neg hc,e,if_neg (by omega)]
   have hs:u+(n % 128+128) % 128 * 128 ^ i+n / 128 * 128 ^ (i+1)=u+n * 128 ^ i:=by
    have h1:n=n % 128+128 * (n / 128):=by omega
    have h2:n * 128 ^ i=n % 128 * 128 ^ i+n / 128 * 128 ^ (i+1):=by
     conv=>lhs;rw [h1]
     rw [Nat.add_mul,Nat.pow_succ,Nat.mul_comm 128 (n / 128),Nat.mul_assoc,Nat.mul_comm 128 (128 ^ i)]
    rw [show (n % 128+128) % 128=n % 128 by omega]
    omega
   have:=ih (n / 128) (by omega) (i+1) (u+(n % 128+128) % 128 * 128 ^ i) r (fun _=>by omega) (by rw [hs];exact hm)
   rw [hs] at this
   exact this
theorem numGo_some:∀ (l:Bs) (i u n:Nat) (r:Bs),zBY i u l=some (n,r)→n≤4611686018427387904∧∃ k,0 < k∧k≤l.length∧r=l.drop k:=by
 intro l
 induction l with
 | nil=>intro i u n r h;cases h
 | cons c l ih =>
  intro i u n r h
  unfold zBY at h
  split at h
  ·cases h
  ·split at h
   ·split at h
    ·cases h
    ·cases h
     exact ⟨by omega,1,by decide,by simp,rfl⟩
   ·obtain ⟨h1,k,hk0,hk,hr⟩:=ih _ _ _ _ h
    exact ⟨h1,k+1,by omega,by simpa using hk,by rw [hr];rfl⟩
structure Rd where
 rest:Bs
 bad:Bool
namespace Rd
def fail:Rd:=⟨[],true⟩
def num (R:Rd):Nat × Rd:=match zBY 0 0 R.rest with
 | some (n,r)=>(n,⟨r,R.bad⟩)
 | none=>(0,fail)
def raw (R:Rd) (n:Nat):Bs × Rd:=if n≤R.rest.length then (R.rest.take n,⟨R.rest.drop n,R.bad⟩) else ([],fail)
def bytes (R:Rd):Bs × Rd:=R.num.2.raw R.num.1
def whole (R:Rd):Bool:=!R.bad && R.rest.isEmpty
theorem num_le (R:Rd):R.num.1≤4611686018427387904:=by
 unfold num
 split
 ·exact (numGo_some _ _ _ _ _ ‹_›).1
 ·exact Nat.zero_le _
theorem num_rest (R:Rd):R.num.2.rest.length≤R.rest.length:=by
 unfold num
 split
 ·obtain ⟨-,k,-,hk,hr⟩:=numGo_some _ _ _ _ _ ‹_›
  simp only [hr,List.length_drop]
  omega
 ·exact Nat.zero_le _
theorem raw_len (R:Rd) (n:Nat):(R.raw n).1.length≤R.rest.length:=by
 unfold raw
 split
 ·simp;omega
 ·exact Nat.zero_le _
theorem bytes_len (R:Rd):R.bytes.1.length≤R.rest.length:=Nat.le_trans (raw_len _ _) (num_rest R)
theorem num_of {n:Nat} (h:n≤4611686018427387904) (r:Bs) (b:Bool):num ⟨numB n ++ r,b⟩=(n,⟨r,b⟩):=by
 unfold num
 have:=numGo_num n 0 0 r (fun h=>absurd h (by decide)) (by simpa using h)
 simp only [this]
 simp
theorem raw_of (p r:Bs) (b:Bool):raw ⟨p ++ r,b⟩ p.length=(p,⟨r,b⟩):=by
 unfold raw
 rw [if_pos (by simp)]
 simp
theorem bytes_of {p:Bs} (h:p.length≤4611686018427387904) (r:Bs) (b:Bool):bytes ⟨rowB p ++ r,b⟩=(p,⟨r,b⟩):=by
 unfold bytes rowB
 rw [List.append_assoc,num_of h,raw_of]
end Rd
end Go.Sat
namespace Go.Proofs.YtapfnehdgailmaaGreat
open Go.RowKit Go.Sat Go.Maps
/-! ### The model -/
structure zAN where
 data:Bs
 lasts:Nat
structure zAA where
 room:Nat
 files:List (Bs × zAN)
 fuse:Option Nat
def okN (n:Bs):Bool:=decide (1≤n.length) && decide (n.length≤64)
namespace zAA
def size (f:zAN):Nat:=f.data.length
def used (D:zAA):Nat:=zA9 size D.files
def may (D:zAA) (ns:List Bs):Nat:=if D.fuse=some 0 then 9 else if ns.all okN then 0 else 1
def done (D:zAA):zAA:={ D with fuse:=D.fuse.map (· - 1) }
def cur (D:zAA) (n:Bs):zAN:=(get n D.files).getD ⟨[],0⟩
def full (D:zAA) (n b:Bs):Bool:=decide (D.room < D.used+b.length) || ((get n D.files).isNone && decide (4096≤D.files.length))
def append (D:zAA) (n b:Bs):zAA × Nat :=
 if D.may [n]≠0 then (D,D.may [n])
 else if D.full n b then (D,6)
 else (done { D with files:=put n ⟨(D.cur n).data ++ b,(D.cur n).lasts⟩ D.files },0)
def each1 (g:Bs→zAN→List (Bs × zAN)→List (Bs × zAN)) (D:zAA) (n:Bs):zAA × Nat :=
 if D.may [n]≠0 then (D,D.may [n])
 else match get n D.files with
  | none=>(D,7)
  | some f=>(done { D with files:=g n f D.files },0)
def each (g:Bs→zAN→List (Bs × zAN)→List (Bs × zAN)) (D:zAA):List Bs→zAA × Nat
 | []=>(D,0)
 | n :: r=>if (each1 g D n).2=0 then each g (each1 g D n).1 r else each1 g D n
def gSync (n:Bs) (f:zAN) (L:List (Bs × zAN)):List (Bs × zAN):=put n ⟨f.data,f.data.length⟩ L
def gRemove (n:Bs) (_:zAN) (L:List (Bs × zAN)):List (Bs × zAN):=del n L
def sync (D:zAA) (ns:List Bs):zAA × Nat:=D.each gSync ns
def remove (D:zAA) (ns:List Bs):zAA × Nat:=D.each gRemove ns
def truncate (D:zAA) (n:Bs) (k:Int):zAA × Nat :=
 if D.may [n]≠0 then (D,D.may [n])
 else match get n D.files with
  | none=>(D,7)
  | some f=>if k < 0∨(f.data.length:Int) < k then (D,1)
   else (done { D with files:=put n ⟨f.data.take k.toNat,min f.lasts k.toNat⟩ D.files },0)
def rename (D:zAA) (o n:Bs):zAA × Nat :=
 if D.may [o,n]≠0 then (D,D.may [o,n])
 else match get o D.files with
  | none=>(D,7)
  | some f=>(done { D with files:=put n f (del o D.files) },0)
def stays (f:zAN) (k:Int):Nat:=f.lasts+(max 0 k).toNat % (f.data.length - f.lasts+1)
def crashF (k:Int) (f:zAN):zAN:=⟨f.data.take (stays f k),stays f k⟩
def crash (D:zAA) (k:Int):zAA:={ D with files:=mp (crashF k) D.files,fuse:=none }
def fresh (room:Nat):zAA:=⟨room,[],none⟩
def copy (D:zAA):zAA:={ D with fuse:=none }
structure OK (D:zAA):Prop where
 srt:Srt D.files
 room:D.room≤1073741824
 used:D.used≤D.room
 count:D.files.length≤4096
 names:∀ p ∈ D.files,okN p.1=true
 lasts:∀ p ∈ D.files,p.2.lasts≤p.2.data.length
 fuse:∀ k,D.fuse=some k→k≤9223372036854775807
end zAA
/-! ### In memory -/
abbrev Own:=Nat→Option (Nat × Bs)
structure FRep where
 fb:Nat
 v:Value
 f:zAN
structure FileAt (w:World) (own:Own) (n:Bs) (r:FRep):Prop where
 cells:w.heap[r.fb]?=some (.cells #[r.v,.int .i64 (r.f.lasts:Int)] 123 (0,0))
 ob:own r.fb=some (2,n)
 row:OwnB w 5 r.v r.f.data
 og:∀ g,r.v.ownBlock=some g→own g=some (3,n)
def fbD (r:FRep):DataW Nat:=.held r.fb
structure zAO (w:World) (d m:Nat) (left:Int) (L:List (Bs × FRep)) (own:Own) (D:zAA):Prop where
 cells:w.heap[d]?=some (.cells #[.int .i64 (D.room:Int),.map (some m),.bool D.fuse.isSome,.int .i64 left] 115 (0,0))
 left:∀ k,D.fuse=some k→left=(k:Int)
 map:w.ownsMap Tryz.prog 9 ptrR m L.length (dm fbD L)
 files:D.files=mp FRep.f L
 srt:Srt L
 file:∀ p ∈ L,FileAt w own p.1 p.2
 od:own d=some (0,[])
 om:own m=some (1,[])
 olt:∀ k t,own k=some t→k < w.heap.size
 ok:D.OK
def zBT (w:World) (d:Nat) (D:zAA) (own:Own):Prop:=∃ m left L,zAO w d m left L own D
def Ext (w:World) (own own':Own):Prop:=∀ k,k < w.heap.size→own k=none→own' k=none
def Has (own:Own) (k:Nat):Prop:=own k≠none
theorem FileAt.keep {w w':World} {own:Own} {n:Bs} {r:FRep} (h:FileAt w own n r) (hb:∀ k,own k≠none→w'.heap[k]?=w.heap[k]?):FileAt w' own n r :=
 ⟨(hb _ (by rw [h.ob];simp)).trans h.cells,h.ob,h.row.keep fun k hk=>hb k (by rw [h.og k hk];simp),h.og⟩
theorem zAO.keep {w w':World} {d m:Nat} {left:Int} {L:List (Bs × FRep)} {own:Own} {D:zAA} (h:zAO w d m left L own D) (hs:w.heap.size≤w'.heap.size)
  (hb:∀ k,own k≠none→w'.heap[k]?=w.heap[k]?):zAO w' d m left L own D where
 cells:=(hb d (by rw [h.od];simp)).trans h.cells
 left:=h.left
 map:=by
  obtain ⟨es,clock,hm,r⟩:=h.map
  exact ⟨es,clock,(hb m (by rw [h.om];simp)).trans hm,r⟩
 files:=h.files
 srt:=h.srt
 file p hp:=(h.file p hp).keep hb
 od:=h.od
 om:=h.om
 olt k t hk:=Nat.lt_of_lt_of_le (h.olt k t hk) hs
 ok:=h.ok
theorem zAO.chg {w w':World} {S:Nat→Prop} {d m:Nat} {left:Int} {L:List (Bs × FRep)} {own:Own} {D:zAA} (h:zAO w d m left L own D) (hc:Chg S w w') (hS:∀ k,S k→own k=none) :
  zAO w' d m left L own D :=
 h.keep hc.size fun k hk=>hc.block k (by
  cases ho:own k with
  | none=>exact absurd ho hk
  | some t=>exact h.olt k t ho) fun s=>hk (hS k s)
theorem zBT.chg {w w':World} {S:Nat→Prop} {d:Nat} {own:Own} {D:zAA} (h:zBT w d D own) (hc:Chg S w w') (hS:∀ k,S k→own k=none):zBT w' d D own:=by
 obtain ⟨m,left,L,h⟩:=h
 exact ⟨m,left,L,h.chg hc hS⟩
section
variable {w:World} {d m:Nat} {left:Int} {L:List (Bs × FRep)} {own:Own} {D:zAA}
theorem zAO.c0 (h:zAO w d m left L own D):w.cell? ⟨d,0,none⟩=some (.int .i64 (D.room:Int)):=zAC h.cells rfl
theorem zAO.c1 (h:zAO w d m left L own D):w.cell? ⟨d,1,none⟩=some (.map (some m)):=zAC h.cells rfl
theorem zAO.c2 (h:zAO w d m left L own D):w.cell? ⟨d,2,none⟩=some (.bool D.fuse.isSome):=zAC h.cells rfl
theorem zAO.c3 (h:zAO w d m left L own D):w.cell? ⟨d,3,none⟩=some (.int .i64 left):=zAC h.cells rfl
theorem zAO.get (h:zAO w d m left L own D) (n:Bs):Sat.get n D.files=(Sat.get n L).map FRep.f:=by rw [h.files,mp_get]
theorem zAO.len (h:zAO w d m left L own D):D.files.length=L.length:=by rw [h.files,mp_len]
theorem zAO.used (h:zAO w d m left L own D):D.used=zA9 (fun r:FRep=>r.f.data.length) L:=by
 unfold zAA.used
 rw [h.files,mp_sum]
 rfl
theorem zAO.dlt (h:zAO w d m left L own D):d < w.heap.size:=h.olt d _ h.od
theorem zAO.mlt (h:zAO w d m left L own D):m < w.heap.size:=h.olt m _ h.om
theorem zAO.dm_ne (h:zAO w d m left L own D):d≠m:=by
 intro e
 have h1:=h.od
 rw [e,h.om] at h1
 simp at h1
end
theorem le_sum {α:Type} {f:α→Nat} {L:List (Bs × α)} {n:Bs} {a:α} (h:Srt L) (hg:get n L=some a):f a≤zA9 f L:=by
 rw [zCW (f:=f) h hg]
 omega
theorem okN_string {n:Bs} (h:okN n=true):1≤n.length∧n.length≤64:=by simpa [okN] using h
end Go.Proofs.YtapfnehdgailmaaGreat
namespace Go.Proofs.YtapfnehdgailmaaGreat
open Go.RowKit Go.Sat Go.Maps
theorem zBQ:Keyed Tryz.prog 9:=string_keyed Tryz.underlying9
theorem zBC (w:World):(zeroValue 121).run Tryz.prog w=.ok (.pointer none) w:=by kernel_rfl
/-! ### New -/
theorem new_walk (n:Int) (w:World) (h0:0≤n) (h1:n≤1073741824) :
  Calls Tryz.prog 13 #[.int .i64 n] w fun e w'=>e=.returned (.tuple #[.pointer (some ⟨w.heap.size+1,0,none⟩),.int .i64 0])∧w'=(w.alloc (.map #[] 0)).alloc (.cells #[.int .i64 n,.map (some w.heap.size),.bool false,.int .i64 0] 115):=by
 have hmm:=@run_makeMap Tryz.prog
 go_enter Tryz.func13,Tryz.ntmps13
 go_wp2
 go_ret2
 exact ⟨rfl,rfl⟩
theorem ok_fresh (n:Nat) (h:n≤1073741824):(zAA.fresh n).OK where
 srt:=srt_nil
 room:=h
 used:=Nat.zero_le _
 count:=Nat.zero_le _
 names p hp:=by simp [zAA.fresh] at hp
 lasts p hp:=by simp [zAA.fresh] at hp
 fuse k hk:=by simp [zAA.fresh] at hk
theorem new_calls (n:Int) (w:World) (h0:0≤n) (h1:n≤1073741824) :
  Calls Tryz.prog 13 #[.int .i64 n] w fun e w'=>∃ d own,e=.returned (.tuple #[.pointer (some ⟨d,0,none⟩),.int .i64 0])∧zBT w' d (zAA.fresh n.toNat) own∧Chg (fun _=>False) w w' ∧
   (∀ k,k < w.heap.size→own k=none):=by
 refine (new_walk n w h0 h1).mono ?_
 rintro e w' ⟨rfl,rfl⟩
 refine ⟨w.heap.size+1,fun k=>if k=w.heap.size+1 then some (0,[]) else if k=w.heap.size then some (1,[]) else none,rfl,⟨w.heap.size,0,[],?_⟩,((Chg.alloc w _).trans (Chg.alloc _ _) fun _ _ h=>h),fun k hk=>?_⟩
 ·have hs:(w.alloc (.map #[] 0)).heap.size=w.heap.size+1:=by simp
  refine ⟨?_,fun k hk=>by simp [zAA.fresh] at hk,?_,rfl,srt_nil,fun p hp=>by simp at hp,by simp,by simp,fun k t hk=>?_,ok_fresh _ (by omega)⟩
  ·have:=zAU (w.alloc (.map #[] 0)) (.cells #[.int .i64 n,.map (some w.heap.size),.bool false,.int .i64 0] 115)
   rw [hs] at this
   rw [this]
   simp only [zAA.fresh,Option.isSome_none]
   rw [show ((n.toNat:Int))=n by omega]
  ·exact (World.ownsMap_made w Tryz.prog 9 ptrR).alloc _
  ·split at hk
   ·simp;omega
   ·split at hk
    ·simp;omega
    ·cases hk
 ·simp only
  rw [if_neg (by omega),if_neg (by omega)]
/-! ### may -/
def zCZ (w:World) (p:Option Addr) (ss:List ByteArray):Prop :=
 ss=[]∨∃ b o,p=some ⟨b,o,none⟩∧∀ i s,ss[i]?=some s→w.cell? ⟨b,o+i,none⟩=some (.string s)
def nm (s:ByteArray):Bs:=s.data.toList
theorem nm_len (s:ByteArray):(nm s).length=s.size:=by simp [nm]
def namesE (ss:List ByteArray):Int:=if (ss.map nm).all okN then 0 else 1
theorem okN_nm (s:ByteArray):okN (nm s)=(decide (1≤s.size) && decide (s.size≤64)):=by simp [okN,nm_len]
theorem may_burnt (d:Nat) (p:Option Addr) (n c:Nat) (w:World) (h2:w.cell? ⟨d,2,none⟩=some (.bool true)) (h3:w.cell? ⟨d,3,none⟩=some (.int .i64 0)) :
  Calls Tryz.prog 65 #[.pointer (some ⟨d,0,none⟩),.slice p n c] w fun e w'=>e=.returned (.int .i64 9)∧w=w':=by
 go_enter Tryz.func65,Tryz.ntmps65
 go_wp2
 go_ret
 exact ⟨rfl,rfl⟩
theorem take_ok {ss:List ByteArray} {k:Nat} (hlt:k < ss.length) (h:((ss.take k).map nm).all okN=true) (hk:okN (nm ss[k])=true):((ss.take (k+1)).map nm).all okN=true:=by
 rw [List.take_succ_eq_append_getElem hlt,List.map_append,List.all_append,h]
 simp [hk]
theorem bad_at {ss:List ByteArray} {k:Nat} (hlt:k < ss.length) (hk:okN (nm ss[k])=false):namesE ss=1:=by
 have:(ss.map nm).all okN=false:=by
  rw [List.all_eq_false]
  exact ⟨nm ss[k],List.mem_map.2 ⟨_,List.getElem_mem hlt,rfl⟩,by rw [hk];simp⟩
 simp [namesE,this]
theorem may_names (d:Nat) (p:Option Addr) (ss:List ByteArray) (c:Nat) (w:World) (f:Bool) (l:Int) (h2:w.cell? ⟨d,2,none⟩=some (.bool f)) (h3:w.cell? ⟨d,3,none⟩=some (.int .i64 l))
  (hf:f=false∨l≠0) (hs:zCZ w p ss) (hm:ss.length≤140737488355328) (hsz:∀ s ∈ ss,s.size≤9223372036854775807) :
  Calls Tryz.prog 65 #[.pointer (some ⟨d,0,none⟩),.slice p ss.length c] w fun e w'=>e=.returned (.int .i64 (namesE ss))∧w=w':=by
 have hfl:f=false∨(f=true∧(l == 0)=false):=by
  cases f with
  | false=>exact .inl rfl
  | true =>
   rcases hf with h | h
   ·cases h
   ·exact .inr ⟨rfl,by simpa using h⟩
 clear hf
 rcases hfl with rfl | ⟨rfl,hl⟩
 all_goals
  go_enter Tryz.func65,Tryz.ntmps65
  go_wp2
  go_loop [24] (fun i=>∃ k:Nat,k≤ss.length∧i=.int .i64 k∧((ss.take k).map nm).all okN=true) (fun i=>ss.length - (intOf i).toNat)
  case atStart=>exact ⟨0,Nat.zero_le _,rfl,rfl⟩
  case round =>
   obtain ⟨k,hk,rfl,hall⟩:=hrel
   by_cases hlt:k < ss.length
   ·have hss:ss[k]?=some ss[k]:=List.getElem?_eq_getElem hlt
    rcases hs with h | ⟨b,o,rfl,hc⟩
    ·subst h
     simp at hlt
    have hcell:=hc k _ hss
    have hz:ss[k].size≤9223372036854775807:=hsz _ (List.getElem_mem hlt)
    have Hkey:=zh (take_ok hlt hall)
    have Hno:=zh (bad_at hlt)
    clear hc hsz hall hss
    rw [okN_nm] at Hkey Hno
    generalize ss[k]=s at *
    by_cases h1:1≤s.size
    ·by_cases h64:s.size≤64
     ·go_wp2
      go_round
      case rel=>exact ⟨k+1,by omega,by go_num,Hkey.out (by simp [h1,h64])⟩
      case measure=>simp [intOf];omega
     ·go_wp2
      go_ret
      exact ⟨by rw [Hno.out (by simp [h64])];rfl,rfl⟩
    ·go_wp2
     go_ret
     exact ⟨by rw [Hno.out (by simp [h1])];rfl,rfl⟩
   ·have Hall:=zh hall
    clear hall
    go_wp2
    go_ret
    have h:=Hall.out
    rw [List.take_of_length_le (by omega)] at h
    exact ⟨by simp [namesE,h],rfl⟩
theorem zA2 {w:World} {d m:Nat} {left:Int} {L:List (Bs × FRep)} {own:Own} {D:zAA} (h:zAO w d m left L own D) (p:Option Addr) (ss:List ByteArray) (c:Nat)
  (hs:zCZ w p ss) (hm:ss.length≤140737488355328) (hsz:∀ s ∈ ss,s.size≤9223372036854775807) :
  Calls Tryz.prog 65 #[.pointer (some ⟨d,0,none⟩),.slice p ss.length c] w fun e w'=>e=.returned (.int .i64 (D.may (ss.map nm):Int))∧w=w':=by
 have h2:=h.c2
 have h3:=h.c3
 by_cases hb:D.fuse=some 0
 ·have hl:=h.left 0 hb
  rw [hb] at h2
  subst hl
  refine (may_burnt d p ss.length c w h2 h3).mono ?_
  rintro e w' ⟨rfl,rfl⟩
  exact ⟨by simp [zAA.may,hb],rfl⟩
 ·have hf:D.fuse.isSome=false∨left≠0:=by
   cases hfu:D.fuse with
   | none=>exact .inl rfl
   | some k =>
    refine .inr ?_
    rw [h.left k hfu]
    intro e
    have:k=0:=by omega
    subst this
    exact hb hfu
  refine (may_names d p ss c w _ left h2 h3 hf hs hm hsz).mono ?_
  rintro e w' ⟨rfl,rfl⟩
  refine ⟨?_,rfl⟩
  unfold namesE zAA.may
  rw [if_neg hb]
  split <;> rfl
/-! ### done -/
theorem done_walk (d:Nat) (w:World) (f:Bool) (l:Int) (h2:w.cell? ⟨d,2,none⟩=some (.bool f)) (h3:w.cell? ⟨d,3,none⟩=some (.int .i64 l)) (hz:w.frozen? ⟨d,3,none⟩=false) (h1:f=true→1≤l∧l≤9223372036854775807) :
  Calls Tryz.prog 68 #[.pointer (some ⟨d,0,none⟩)] w fun e w'=>e=.returned (.int .i64 0)∧(if f then w.setCell ⟨d,3,none⟩ (.int .i64 (l - 1)) else w)=w':=by
 cases f with
 | false =>
  go_enter Tryz.func68,Tryz.ntmps68
  go_wp2
  go_ret
  exact ⟨rfl,rfl⟩
 | true =>
  obtain ⟨hl,h9⟩:=h1 rfl
  clear h1
  go_enter Tryz.func68,Tryz.ntmps68
  go_wp2
  go_ret
  exact ⟨rfl,rfl⟩
theorem ok_done {D:zAA} (h:D.OK):D.done.OK where
 srt:=h.srt
 room:=h.room
 used:=h.used
 count:=h.count
 names:=h.names
 lasts:=h.lasts
 fuse k hk:=by
  simp only [zAA.done,Option.map_eq_some_iff] at hk
  obtain ⟨j,hj,rfl⟩:=hk
  have:=h.fuse j hj
  omega
theorem zBs {w:World} {d m:Nat} {left:Int} {L:List (Bs × FRep)} {own:Own} {D:zAA} (h:zAO w d m left L own D) (hf:D.fuse≠some 0) :
  Calls Tryz.prog 68 #[.pointer (some ⟨d,0,none⟩)] w fun e w'=>e=.returned (.int .i64 0)∧zBT w' d D.done own∧Chg (fun k=>k=d) w w':=by
 refine (done_walk d w _ left h.c2 h.c3 (zAK h.cells 3) ?_).mono ?_
 ·intro hs
  cases hfu:D.fuse with
  | none=>rw [hfu] at hs;cases hs
  | some k =>
   rw [h.left k hfu]
   have:k≠0:=fun e=>hf (by rw [hfu,e])
   have:=h.ok.fuse k hfu
   omega
 ·rintro e w' ⟨rfl,rfl⟩
  refine ⟨rfl,?_,?_⟩
  ·cases hfu:D.fuse with
   | none =>
    refine ⟨m,left,L,?_⟩
    have hd:D.done=D:=by
     cases D
     simp only at hfu
     subst hfu
     rfl
    rw [hd]
    exact h
   | some k =>
    refine ⟨m,left - 1,L,?_⟩
    simp only [Option.isSome_some,if_true]
    have hk:∀ j,j≠d→(w.setCell ⟨d,3,none⟩ (.int .i64 (left - 1))).heap[j]?=w.heap[j]?:=fun j hj=>zAD _ hj
    have hne:∀ j t,own j=some t→t≠(0,[])→j≠d:=fun j t hj ht e=>by
     rw [e,h.od] at hj
     exact ht (Option.some.inj hj).symm
    refine ⟨?_,?_,?_,h.files,h.srt,fun p hp=>?_,h.od,h.om,fun j t hj=>by simpa [World.setCell] using h.olt j t hj,ok_done h.ok⟩
    ·rw [zAP h.cells]
     simp [zAA.done,hfu]
    ·intro j hj
     simp only [zAA.done,hfu,Option.map_some,Option.some.injEq] at hj
     have h1:=h.left k hfu
     have:k≠0:=fun e=>hf (by rw [hfu,e])
     omega
    ·exact h.map.setCell h.dm_ne.symm _
    ·have hp':=h.file p hp
     refine ⟨(hk _ (hne _ _ hp'.ob (by simp))).trans hp'.cells,hp'.ob,hp'.row.keep fun g hg=>hk _ (hne _ _ (hp'.og g hg) (by simp)),hp'.og⟩
  ·split
   ·exact Chg.setCell w ⟨d,3,none⟩ _
   ·exact Chg.refl _ _
/-! ### Used -/
theorem zDN {w:World} {d m:Nat} {left:Int} {L:List (Bs × FRep)} {own:Own} {D:zAA} (h:zAO w d m left L own D) :
  Calls Tryz.prog 67 #[.pointer (some ⟨d,0,none⟩)] w fun e w'=>e=.returned (.int .i64 (D.used:Int))∧Below w.heap.size w w':=by
 have h1:=h.c1
 obtain ⟨S,hS⟩:∃ S,S=D.used:=⟨_,rfl⟩
 have hSL:zA9 (fun r:FRep=>r.f.data.length) L=S:=by rw [hS,h.used]
 have hbig:S≤1073741824:=by
  have:=h.ok.used
  have:=h.ok.room
  omega
 rw [← hS]
 have hown:=h.map
 have hsrt:=h.srt
 have hL:Hid (zAO w d m left L own D):=h
 clear h hS
 go_enter Tryz.func67,Tryz.ntmps67
 go_wp2_with (first | (at_range;refine wpList_range_own _ rfl _ 113 rfl 9 121 zBQ Tryz.underlying113 ptrR m L.length (dm fbD L) rfl hown ?_;intro w0 hrg0 hg0 hs0))
 go_frame
 go_loopw [3] (fun acc wr=>∃ rest cnt,wr.ranges Tryz.prog 9 ptrR m w.heap.size L.length (dm fbD L) rest cnt∧(∃ k:Nat,acc=.int .i64 (k:Int)∧k+zA9 (fun r:FRep=>r.f.data.length) (rem rest L)=S)∧Below w.heap.size w wr) (fun _ wr=>wr.rangeLeft m w.heap.size)
 case atStart =>
  refine ⟨_,_,hrg0,⟨0,rfl,?_⟩,(Below.refl _ _).grown hg0 (Nat.le_refl _) (fun _ e=>by cases e)⟩
  rw [show rem (Maps.has (dm fbD L)) L=L from rem_start _ L,hSL,Nat.zero_add]
 case round =>
  obtain ⟨rest,cnt,hrg,⟨k,rfl,hk⟩,hbel⟩:=hrel
  have Hk:=zh hk
  clear hk hrg0 hg0 hs0 hSL hown
  go_wp2_with (first | (at_next;refine wpList_next_ptr _ rfl _ rfl 9 Tryz.underlying9 zBQ FRep.fb L m w.heap.size L.length _ _ rfl hrg ?_ ?_))
  ·intro hl
   have hS:k=S:=by
    have:=Hk.out
    rw [rem_end hl] at this
    simpa [zA9] using this
   subst hS
   go_wp2
   go_ret
   exact ⟨rfl,hbel⟩
  ·intro s x w1 cnt1 hgt hl hs hrg1 hlt hg1 hs1 hen
   have hx:=hL.out.file _ (zBE hgt)
   have hbel1:Below w.heap.size w w1:=hbel.grown hg1 hbel.size (fun j e=>by cases e;exact Nat.le_refl _)
   have hcell:w1.cell? ⟨x.fb,0,none⟩=some x.v:=(hbel1.cell (p:=⟨x.fb,0,none⟩) (zBF hx.cells)).trans (zAC hx.cells rfl)
   obtain ⟨p,c,hv⟩:∃ p c,x.v=.slice p x.f.data.length c:=by
    obtain ⟨_,p,c,hv,_⟩:=hx.row.holds
    exact ⟨p,c,hv⟩
   have hsum:=rem_sum (f:=fun r:FRep=>r.f.data.length) hsrt hgt hl
   have hle:k+x.f.data.length≤S:=by
    have:=Hk.out
    omega
   have hk1:k+x.f.data.length+zA9 (fun r:FRep=>r.f.data.length) (rem (fun z=>rest z && !z.sameKey (.string s.data.toList)) L)=S:=by
    have:=Hk.out
    omega
   have Hk1:=zh hk1
   have Hm:=zh (show w1.rangeLeft m w.heap.size < wr.rangeLeft m w.heap.size by rw [hrg1.left_eq,hrg.left_eq];exact hlt)
   rw [hv] at hcell
   clear hk1 hsum hgt hl hg1 hs1 hlt hrg hbel hx hv Hk
   generalize x.f.data.length=j at *
   go_wp2
   go_roundw
   case rel=>exact ⟨_,_,hrg1,⟨k+j,by go_num,Hk1.out⟩,hbel1⟩
   case measure=>exact Hm.out
end Go.Proofs.YtapfnehdgailmaaGreat
namespace Go.Sat
theorem put_same {α:Type} {L:List (Bs × α)} (h:Srt L) {n:Bs} {a:α} (hg:get n L=some a):put n a L=L :=
 srt_ext (zBd h) h fun m=>by
  by_cases hm:m=n
  ·subst hm
   rw [zCb h,hg]
  ·rw [zC8 h a hm]
theorem dm_mp {H α:Type} (g:α→DataW H) (f:α→Nat) (hgf:∀ a b,f a=f b→g a=g b) {L M:List (Bs × α)} (h:mp f L=mp f M):dm g L=dm g M:=by
 have:∀ L M:List (Bs × α),mp f L=mp f M→L.map (fun p=>(Lit.string p.1,g p.2))=M.map (fun p=>(Lit.string p.1,g p.2)):=by
  intro L
  induction L with
  | nil =>
   intro M hM
   cases M with
   | nil=>rfl
   | cons y s=>simp [mp] at hM
  | cons x r ih =>
   intro M hM
   cases M with
   | nil=>simp [mp] at hM
   | cons y s =>
    simp only [mp,List.map_cons,List.cons.injEq,Prod.mk.injEq] at hM
    obtain ⟨⟨e1,e2⟩,e3⟩:=hM
    simp only [List.map_cons]
    rw [ih s e3,e1,hgf _ _ e2]
 unfold dm
 rw [this L M h]
end Go.Sat
namespace Go.Proofs.YtapfnehdgailmaaGreat
open Go.RowKit Go.Sat Go.Maps
theorem fbD_of {a b:FRep} (h:a.fb=b.fb):fbD a=fbD b:=by simp [fbD,h]
section
variable {w:World} {d m:Nat} {left:Int} {L:List (Bs × FRep)} {own:Own} {D:zAA}
theorem zAO.fileAt (h:zAO w d m left L own D) {n:Bs} {r:FRep} (hg:Sat.get n L=some r):FileAt w own n r:=h.file _ (zBE hg)
theorem zAO.ne_of (_h:zAO w d m left L own D) {j k:Nat} {s t:Nat × Bs} (hj:own j=some s) (hk:own k=some t) (hst:s≠t):j≠k:=fun e=>by
 rw [e,hk] at hj
 exact hst (Option.some.inj hj).symm
theorem zAO.upd (h:zAO w d m left L own D) {n:Bs} {r:FRep} (hg:Sat.get n L=some r) {w':World} {v':Value} {f':zAN}
  (hs:w.heap.size≤w'.heap.size) (hb:∀ k,k < w.heap.size→k≠r.fb→some k≠r.v.ownBlock→w'.heap[k]?=w.heap[k]?)
  (hc:w'.heap[r.fb]?=some (.cells #[v',.int .i64 (f'.lasts:Int)] 123 (0,0))) (hrow:OwnB w' 5 v' f'.data)
  (hloc:∀ g,v'.ownBlock=some g→r.v.ownBlock=some g∨w.heap.size≤g) (hok:zAA.OK { D with files:=put n f' D.files }) :
  ∃ own',zAO w' d m left (put n ⟨r.fb,v',f'⟩ L) own' { D with files:=put n f' D.files }∧Ext w own own':=by
 have hr:=h.fileAt hg
 have old:∀ g,v'.ownBlock=some g→own g=some (3,n)∨own g=none:=fun g hgv=>by
  rcases hloc g hgv with h1 | h1
  ·exact .inl (hr.og g h1)
  ·cases ho:own g with
   | none=>exact .inr rfl
   | some t=>have:=h.olt g t ho;omega
 have glt:∀ g,v'.ownBlock=some g→g < w'.heap.size:=fun g hgv=>OwnR.lt hrow hgv
 refine ⟨fun k=>if v'.ownBlock=some k then some (3,n) else own k,?_,fun k hk ho=>?_⟩
 ·have keep:∀ k t,own k=some t→t≠(2,n)→t≠(3,n)→w'.heap[k]?=w.heap[k]?:=fun k t hk h2 h3 =>
   hb k (h.olt k t hk) (fun e=>h2 (by rw [e,hr.ob] at hk;exact (Option.some.inj hk).symm)) (fun e=>h3 (by rw [hr.og k e.symm] at hk;exact (Option.some.inj hk).symm))
  have ownk:∀ k t,own k=some t→t≠(3,n)→(if v'.ownBlock=some k then some (3,n) else own k)=some t:=fun k t hk h3=>by
   rw [if_neg fun e=>?_,hk]
   rcases old k e with h1 | h1
   ·rw [hk] at h1
    exact h3 (Option.some.inj h1)
   ·rw [hk] at h1
    cases h1
  refine ⟨(keep d _ h.od (by simp) (by simp)).trans h.cells,h.left,?_,?_,zBd h.srt,?_,ownk d _ h.od (by simp),ownk m _ h.om (by simp),?_,hok⟩
  ·have e1:mp FRep.fb (put n ⟨r.fb,v',f'⟩ L)=mp FRep.fb L:=by
    rw [mp_put]
    exact put_same (mp_srt h.srt) (by rw [mp_get,hg];rfl)
   have e2:(put n (⟨r.fb,v',f'⟩:FRep) L).length=L.length:=by rw [← mp_len FRep.fb,e1,mp_len]
   rw [dm_mp fbD FRep.fb (fun _ _=>fbD_of) e1,e2]
   obtain ⟨es,clock,hm,rest⟩:=h.map
   exact ⟨es,clock,(keep m _ h.om (by simp) (by simp)).trans hm,rest⟩
  ·rw [mp_put,← h.files]
  ·intro p hp
   rcases zA6.1 hp with rfl | ⟨hp,hne⟩
   ·refine ⟨hc,ownk _ _ hr.ob (by simp),hrow,fun g hgv=>?_⟩
    show (if v'.ownBlock=some g then some (3,n) else own g)=some (3,n)
    rw [if_pos hgv]
   ·have hp':=h.file p hp
    refine ⟨(keep _ _ hp'.ob (by simpa using hne) (by simp)).trans hp'.cells,ownk _ _ hp'.ob (by simp),hp'.row.keep fun g hgv=>keep g _ (hp'.og g hgv) (by simp) (by simpa using hne),fun g hgv=>ownk _ _ (hp'.og g hgv) (by simpa using hne)⟩
  ·intro k t hk
   split at hk
   ·rename_i e
    exact glt k e
   ·exact Nat.lt_of_lt_of_le (h.olt k t hk) hs
 ·show (if v'.ownBlock=some k then some (3,n) else own k)=none
  rw [if_neg fun e=>?_,ho]
  rcases hloc k e with h1 | h1
  ·rw [hr.og k h1] at ho
   cases ho
  ·omega
theorem zAO.add (h:zAO w d m left L own D) {n:Bs} (_hg:Sat.get n L=none) {w':World} {r:FRep} (hs:w.heap.size≤w'.heap.size) (hb:∀ k,k < w.heap.size→k≠m→w'.heap[k]?=w.heap[k]?)
  (hm:∃ q,w'.ownsMap Tryz.prog 9 ptrR m q ((dm fbD L).put (.string n) (fbD r)))
  (hc:w'.heap[r.fb]?=some (.cells #[r.v,.int .i64 (r.f.lasts:Int)] 123 (0,0))) (hn:w.heap.size≤r.fb) (hrow:OwnB w' 5 r.v r.f.data) (hv:∀ g,r.v.ownBlock=some g→w.heap.size≤g∧g≠r.fb)
  (hok:zAA.OK { D with files:=put n r.f D.files }) :
  ∃ own',zAO w' d m left (put n r L) own' { D with files:=put n r.f D.files }∧Ext w own own':=by
 have none_ge:∀ k,w.heap.size≤k→own k=none:=fun k hk=>by
  cases ho:own k with
  | none=>rfl
  | some t=>have:=h.olt k t ho;omega
 refine ⟨fun k=>if k=r.fb then some (2,n) else if r.v.ownBlock=some k then some (3,n) else own k,?_,fun k hk ho=>?_⟩
 ·have ownk:∀ k t,own k=some t→(if k=r.fb then some (2,n) else if r.v.ownBlock=some k then some (3,n) else own k)=some t:=fun k t hk=>by
   have:=h.olt k t hk
   rw [if_neg (by omega),if_neg (fun e=>by have:=(hv k e).1;omega),hk]
  have keep:∀ k t,own k=some t→t≠(1,[])→w'.heap[k]?=w.heap[k]?:=fun k t hk h1=>hb k (h.olt k t hk) fun e=>h1 (by rw [e,h.om] at hk;exact (Option.some.inj hk).symm)
  refine ⟨(keep d _ h.od (by simp)).trans h.cells,h.left,?_,?_,zBd h.srt,?_,ownk d _ h.od,ownk m _ h.om,?_,hok⟩
  ·obtain ⟨q,hq⟩:=hm
   rw [dm_put] at hq
   have:=exactly hq
   rwa [dm_size] at this
  ·rw [mp_put,← h.files]
  ·intro p hp
   rcases zA6.1 hp with rfl | ⟨hp,hne⟩
   ·refine ⟨hc,by simp,hrow,fun g hgv=>?_⟩
    show (if g=r.fb then some (2,n) else if r.v.ownBlock=some g then some (3,n) else own g)=some (3,n)
    rw [if_neg (hv g hgv).2,if_pos hgv]
   ·have hp':=h.file p hp
    exact ⟨(keep _ _ hp'.ob (by simp)).trans hp'.cells,ownk _ _ hp'.ob,hp'.row.keep fun g hgv=>keep g _ (hp'.og g hgv) (by simp),fun g hgv=>ownk _ _ (hp'.og g hgv)⟩
  ·intro k t hk
   split at hk
   ·rename_i e
    rw [e]
    exact zBF hc
   ·split at hk
    ·rename_i e
     exact OwnR.lt hrow e
    ·exact Nat.lt_of_lt_of_le (h.olt k t hk) hs
 ·show (if k=r.fb then some (2,n) else if r.v.ownBlock=some k then some (3,n) else own k)=none
  rw [if_neg (by omega),if_neg (fun e=>by have:=(hv k e).1;omega),ho]
theorem zAO.remap (h:zAO w d m left L own D) {w':World} {L':List (Bs × FRep)} {D':zAA} (hs:w.heap.size≤w'.heap.size) (hb:∀ k,k < w.heap.size→k≠m→w'.heap[k]?=w.heap[k]?)
  (hm:∃ q,w'.ownsMap Tryz.prog 9 ptrR m q (dm fbD L')) (hL:Srt L') (hroom:D'.room=D.room) (hfuse:D'.fuse=D.fuse) (hfiles:D'.files=mp FRep.f L') (hok:D'.OK)
  (hfrom:∀ p ∈ L',∃ q ∈ L,q.2=p.2) (hone:∀ p ∈ L',∀ q ∈ L',p.2.fb=q.2.fb→p=q) :
  ∃ own',zAO w' d m left L' own' D'∧Ext w own own':=by
 classical
 -- a name for each block that a file of L' has
 let nameOf:Bs→Option Bs:=fun n=>(L'.find? fun p=>L.any fun q=>decide (q.1=n∧q.2.fb=p.2.fb)).map (·.1)
 have uniq:∀ p ∈ L',∀ q ∈ L,q.2=p.2→nameOf q.1=some p.1:=by
  intro p hp q hq e
  have hex:∃ y,(L'.find? fun p=>L.any fun q'=>decide (q'.1=q.1∧q'.2.fb=p.2.fb))=some y:=by
   rw [← Option.isSome_iff_exists,List.find?_isSome]
   exact ⟨p,hp,List.any_eq_true.2 ⟨q,hq,by simp [e]⟩⟩
  obtain ⟨y,hy⟩:=hex
  have h1:=List.find?_some hy
  have h2:=List.mem_of_find?_eq_some hy
  obtain ⟨q',hq',e'⟩:=List.any_eq_true.1 h1
  simp only [decide_eq_true_eq] at e'
  have hqq:q'=q:=zDC h.srt hq' hq e'.1
  have:y=p:=hone y h2 p hp (by rw [← e'.2,hqq,e])
  show (L'.find? fun p=>L.any fun q'=>decide (q'.1=q.1∧q'.2.fb=p.2.fb)).map (·.1)=some p.1
  rw [hy,this]
  rfl
 refine ⟨fun k=>match own k with
  | some (0,s)=>some (0,s)
  | some (1,s)=>some (1,s)
  | some (t,s)=>(nameOf s).map fun s'=>(t,s')
  | none=>none,?_,fun k _ ho=>by simp only [ho]⟩
 have keep:∀ k t,own k=some t→t≠(1,[])→w'.heap[k]?=w.heap[k]?:=fun k t hk h1=>hb k (h.olt k t hk) fun e=>h1 (by rw [e,h.om] at hk;exact (Option.some.inj hk).symm)
 refine ⟨?_,fun k hk=>h.left k (by rw [← hfuse];exact hk),?_,hfiles,hL,?_,by simp only [h.od],by simp only [h.om],?_,hok⟩
 ·rw [keep d _ h.od (by simp),h.cells,hroom,hfuse]
 ·obtain ⟨q,hq⟩:=hm
  have:=exactly hq
  rwa [dm_size] at this
 ·intro p hp
  obtain ⟨q,hq,e⟩:=hfrom p hp
  have hq':=h.file q hq
  have hn:=uniq p hp q hq e
  rw [e] at hq'
  refine ⟨(keep _ _ hq'.ob (by simp)).trans hq'.cells,?_,hq'.row.keep fun g hgv=>keep g _ (hq'.og g hgv) (by simp),fun g hgv=>?_⟩
  ·simp only [hq'.ob,hn]
   rfl
  ·simp only [hq'.og g hgv,hn]
   rfl
 ·intro k t hk
  cases ho:own k with
  | none=>simp only [ho] at hk;cases hk
  | some s=>exact Nat.lt_of_lt_of_le (h.olt k s ho) hs
end
def zBu (w:World) (d:Nat) (own:Own) (r:zAA × Nat) (e:Ending) (w':World):Prop :=
 ∃ own',e=.returned (.int .i64 (r.2:Int))∧zBT w' d r.1 own'∧Chg (Has own) w w'∧Ext w own own'
theorem zAu (w:World) (s:ByteArray):zCZ (w.alloc (.cells #[.string s] 9)) (some ⟨w.heap.size,0,none⟩) [s]:=by
 refine .inr ⟨_,_,rfl,fun i u hu=>?_⟩
 have hi:i=0:=by
  have:=(List.getElem?_eq_some_iff.1 hu).1
  simp at this
  exact this
 subst hi
 simp at hu
 subst hu
 exact zAC (zAU w _) rfl
theorem zBm (w:World) (own:Own):Ext w own own:=fun _ _ h=>h
section
variable {w:World} {d m:Nat} {left:Int} {L:List (Bs × FRep)} {own:Own} {D:zAA}
theorem append_bad (h:zAO w d m left L own D) (s:ByteArray) (x:Value) (hsz:s.size≤9223372036854775807) (hm:D.may [nm s]≠0) :
  Calls Tryz.prog 15 #[.pointer (some ⟨d,0,none⟩),.string s,x] w (zBu w d own (D,D.may [nm s])):=by
 have h1:=h.chg (Chg.alloc w (.cells #[.string s] 9)) (fun k hk=>hk.elim)
 have hc:=zA2 h1 _ [s] 1 (zAu w s) (by simp) (by simpa using hsz)
 simp only [List.map_cons,List.map_nil] at hc
 generalize hk:D.may [nm s]=k at hm hc ⊢
 have hne:((k:Int) != 0)=true:=by simp;exact hm
 have H1:=zh h1
 have Hc:=zh hc
 clear h hc h1 hm hk
 go_enter Tryz.func15,Tryz.ntmps15
 go_wp2_with fail
 refine Hc.out.mono ?_
 rintro e w' ⟨rfl,rfl⟩
 go_wp2_with fail
 go_ret
 exact ⟨own,rfl,⟨m,left,L,H1.out⟩,(Chg.alloc w _).mono (fun _ _ h=>h.elim),zBm _ _⟩
def Still (w0:World) (d m:Nat) (left:Int) (L:List (Bs × FRep)) (own:Own) (D:zAA) (w:World):Prop:=zAO w d m left L own D∧Below w0.heap.size w0 w
theorem zBH {w0 w1 w2:World} (h:Still w0 d m left L own D w1) (hb:Below w1.heap.size w1 w2):Still w0 d m left L own D w2 :=
 ⟨h.1.chg (Chg.of_below hb) (fun _ hk=>hk.elim),h.2.trans (hb.mono h.2.size)⟩
theorem zCF {w w1:World} {x:Value} {ls:List Bs} (h:zAy w x ls) (hb:Below w.heap.size w w1):zAy w1 x ls:=by
 obtain ⟨p,c,rfl,hc,hP⟩:=h
 refine ⟨p,c,rfl,hc,fun hne=>?_⟩
 obtain ⟨b,o,vs,rfl,h1,h2,h3⟩:=hP hne
 have hold:∀ a v,w.cell? a=some v→w1.cell? a=some v:=fun a v hv=>(hb.cell (World.block_lt_of_cell? w a hv)).trans hv
 refine ⟨b,o,vs,rfl,h1,fun i v hv=>hold _ _ (h2 i v hv),fun i v l hv hl=>?_⟩
 obtain ⟨p,cap,rfl,h0,hcs⟩:=h3 i v l hv hl
 exact ⟨p,cap,rfl,h0,fun a ha j x hx=>hold _ _ (hcs a ha j x hx)⟩
theorem below2 {S:Nat→Prop} {w w0 w2:World} (h:Below w.heap.size w w0) (k:Below w0.heap.size w0 w2):Chg S w w2 :=
 ((Chg.of_below h).trans (Chg.of_below k) fun _ _ h=>h).mono fun _ _ h=>h.elim
theorem append_full (h:zAO w d m left L own D) (s:ByteArray) (x:Value) (ls:List Bs) (hx:zAy w x ls) (hn:ls.length≤140737488355328) (hl:ls.flatten.length≤140737488355328) (hsz:s.size≤9223372036854775807) (hm:D.may [nm s]=0)
  (hf:D.room < D.used+ls.flatten.length) :
  Calls Tryz.prog 15 #[.pointer (some ⟨d,0,none⟩),.string s,x] w (zBu w d own (D,6)):=by
 have hb0:=(Below.refl w.heap.size w).alloc (Nat.le_refl _) (.cells #[.string s] 9)
 have h1:=h.chg (Chg.alloc w (.cells #[.string s] 9)) (fun k hk=>hk.elim)
 have hc:=zA2 h1 _ [s] 1 (zAu w s) (by simp) (by simpa using hsz)
 simp only [List.map_cons,List.map_nil,hm] at hc
 have hj:=zBa (zCF hx hb0) hn hl
 have H1:=zh h1
 have Hc:=zh hc
 have Hj:=zh hj
 have Hb0:=zh hb0
 have hr:=h.ok.room
 have hu:=h.ok.used
 clear h hc h1 hm hj hx hb0
 go_enter Tryz.func15,Tryz.ntmps15
 go_wp2_with fail
 refine Hc.out.mono ?_
 rintro e w' ⟨rfl,rfl⟩
 go_wp2_with fail
 refine Hj.out.mono ?_
 rintro e w1 ⟨b,rfl,hb,hbel⟩
 obtain ⟨pb,cb,rfl⟩:=HasB.slice hb
 clear hb
 have h2:=H1.out.chg (Chg.of_below hbel) (fun k hk=>hk.elim)
 have hc1:=h2.c1
 have hc0:=h2.c0
 obtain ⟨fv,hlook⟩:=run_look_any w1 zBQ Tryz.underlying9 Tryz.underlying113 (zBC w1) FRep.fb h2.map hsz
 have HS:Still (w.alloc (.cells #[.string s] 9)) d m left L own D w1.drew:=zBH ⟨h2,hbel⟩ ((Below.refl _ _).drew)
 have HU:=fun W (h:Still (w.alloc (.cells #[.string s] 9)) d m left L own D W)=>zDN h.1
 generalize hR:D.room=R at hf hr hu hc0
 generalize hU:D.used=U at hf hu HU
 generalize ls.flatten.length=n at *
 have hgt:decide ((R:Int) - (U:Int) < (n:Int))=true:=by simp;omega
 have hsub:IntKind.i64.wrap ((R:Int) - (U:Int))=(R:Int) - (U:Int):=IntWalk.i64_in _ (by omega)
 have HR:=zh hR
 have HUU:=zh hU
 clear hR hU hf h2 hbel
 generalize hw0:w.alloc (.cells #[.string s] 9)=w0 at *
 have Hw0:=zh hw0
 clear hw0
 go_wp2_with fail
 obtain ⟨ι,F,hne,hF0,hFS,hFall⟩:=classOf _ HS
 have fc0:∀ n,(F n).cell? ⟨d,0,none⟩=some (.int .i64 (R:Int)):=fun n=>by rw [(hFS n).1.c0,HR.out]
 have HFS:=zh hFS
 have HFall:=zh hFall
 clear hFS hFall
 refine zAl F (by kernel_rfl) (by kernel_rfl) hF0 ?_
 repeat (go_big_quiet_step ((go_at_call 67;refine (HU _ (HFS.out _)).mono ?_;rintro e w2 ⟨rfl,hb2⟩;exact ⟨rfl,HFall.out _ (zBH (HFS.out _) hb2)⟩)))
 refine wpQuiet_nil ?_
 rintro _ ⟨q,rfl⟩
 have HS2:=HFS.out q
 clear HFS HFall hF0 fc0
 generalize F q=w2 at HS2 ⊢
 go_wp2
 go_ret
 exact ⟨own,rfl,⟨m,left,L,HS2.1⟩,below2 Hb0.out HS2.2,zBm _ _⟩
theorem zCR {D:zAA} {ns:List Bs} (h:D.may ns=0):D.fuse≠some 0∧ns.all okN=true:=by
 unfold zAA.may at h
 split at h
 ·cases h
 ·rename_i h1
  refine ⟨h1,?_⟩
  split at h
  ·assumption
  ·cases h
theorem ok_append {D:zAA} (h:D.OK) {n b:Bs} (hm:D.may [n]=0) (hf:D.full n b=false):zAA.OK { D with files:=put n ⟨(D.cur n).data ++ b,(D.cur n).lasts⟩ D.files }:=by
 have hn:okN n=true:=by simpa using (zCR hm).2
 simp only [zAA.full,Bool.or_eq_false_iff,decide_eq_false_iff_not,Bool.and_eq_false_iff] at hf
 obtain ⟨h1,h2⟩:=hf
 have hcur:∀ f,Sat.get n D.files=some f→D.cur n=f:=fun f hg=>by simp [zAA.cur,hg]
 have hcur0:Sat.get n D.files=none→D.cur n=⟨[],0⟩:=fun hg=>by simp [zAA.cur,hg]
 refine ⟨zBd h.srt,h.room,?_,?_,?_,?_,h.fuse⟩
 ·show zA9 zAA.size (put n _ D.files)≤D.room
  rw [sum_put]
  have hu:D.used=zAA.size (D.cur n)+zA9 zAA.size (del n D.files):=by
   cases hg:Sat.get n D.files with
   | none=>rw [hcur0 hg,zB6 hg];simp [zAA.used,zAA.size]
   | some f=>rw [hcur f hg];exact zCW h.srt hg
  simp only [zAA.size,List.length_append] at hu ⊢
  omega
 ·show (put n _ D.files).length≤4096
  rw [len_put]
  cases hg:Sat.get n D.files with
  | none =>
   rw [hg] at h2
   simp at h2
   rw [zB6 hg]
   omega
  | some f =>
   have:=len_del h.srt hg
   have:=h.count
   omega
 ·intro p hp
  rcases zA6.1 hp with rfl | ⟨hp,_⟩
  ·exact hn
  ·exact h.names p hp
 ·intro p hp
  rcases zA6.1 hp with rfl | ⟨hp,_⟩
  ·cases hg:Sat.get n D.files with
   | none=>rw [hcur0 hg];simp
   | some f =>
    rw [hcur f hg]
    have:f.lasts≤f.data.length:=h.lasts _ (zBE hg)
    simp only [List.length_append]
    omega
  ·exact h.lasts p hp
theorem len_run {W:World} (h:zAO W d m left L own D) (ty:TypeId):(Builtin.len_ #[113] ty #[.map (some m)]).run Tryz.prog W=.ok (.int .i64 (L.length:Int)) W:=by
 have:=h.map.len Tryz.underlying113 ty
 rwa [dm_size] at this
theorem append_count (h:zAO w d m left L own D) (s:ByteArray) (x:Value) (ls:List Bs) (hx:zAy w x ls) (hn:ls.length≤140737488355328) (hl:ls.flatten.length≤140737488355328) (hsz:s.size≤9223372036854775807) (hm:D.may [nm s]=0)
  (hf:D.used+ls.flatten.length≤D.room) (hg:Sat.get (nm s) L=none) (hcount:4096≤L.length) :
  Calls Tryz.prog 15 #[.pointer (some ⟨d,0,none⟩),.string s,x] w (zBu w d own (D,6)):=by
 have hb0:=(Below.refl w.heap.size w).alloc (Nat.le_refl _) (.cells #[.string s] 9)
 have h1:=h.chg (Chg.alloc w (.cells #[.string s] 9)) (fun k hk=>hk.elim)
 have hc:=zA2 h1 _ [s] 1 (zAu w s) (by simp) (by simpa using hsz)
 simp only [List.map_cons,List.map_nil,hm] at hc
 have hj:=zBa (zCF hx hb0) hn hl
 have hr:=h.ok.room
 have hLc:L.length≤4096:=by rw [← h.len];exact h.ok.count
 have H1:=zh h1
 have Hc:=zh hc
 have Hj:=zh hj
 have Hb0:=zh hb0
 clear h hc h1 hm hj hx hb0
 go_enter Tryz.func15,Tryz.ntmps15
 go_wp2_with fail
 refine Hc.out.mono ?_
 rintro e w' ⟨rfl,rfl⟩
 go_wp2_with fail
 refine Hj.out.mono ?_
 rintro e w1 ⟨b,rfl,hb,hbel⟩
 obtain ⟨pb,cb,rfl⟩:=HasB.slice hb
 clear hb
 have h2:=H1.out.chg (Chg.of_below hbel) (fun k hk=>hk.elim)
 have hc1:=h2.c1
 have hlook:=zA8 w1 zBQ Tryz.underlying9 Tryz.underlying113 (zBC w1) FRep.fb h2.map hsz hg
 have HS:Still w1 d m left L own D w1.drew:=zBH ⟨h2,Below.refl _ _⟩ ((Below.refl _ _).drew)
 have HU:=fun W (h:Still w1 d m left L own D W)=>zDN h.1
 generalize hR:D.room=R at hf hr
 generalize hU:D.used=U at hf HU
 generalize hlen:L.length=N at hcount hLc
 generalize ls.flatten.length=n at *
 have hgt:decide ((R:Int) - (U:Int) < (n:Int))=false:=by simp;omega
 have hsub:IntKind.i64.wrap ((R:Int) - (U:Int))=(R:Int) - (U:Int):=IntWalk.i64_in _ (by omega)
 have hcnt:decide ((4096:Int)≤(N:Int))=true:=by simp;omega
 have HR:=zh hR
 have Hlen:=zh hlen
 have Hbel:=zh hbel
 have Hg:=zh hg
 clear hR hU hf h2 hbel hg hlen hcount
 go_wp2_with fail
 obtain ⟨ι,F,hne,hF0,hFS,hFall⟩:=classOf _ HS
 have fc0:∀ n,(F n).cell? ⟨d,0,none⟩=some (.int .i64 (R:Int)):=fun n=>by rw [(hFS n).1.c0,HR.out]
 have fc1:∀ n,(F n).cell? ⟨d,1,none⟩=some (.map (some m)):=fun n=>(hFS n).1.c1
 have fl:∀ n ty,(Builtin.len_ #[113] ty #[.map (some m)]).run Tryz.prog (F n)=.ok (.int .i64 (N:Int)) (F n):=fun n ty=>by rw [len_run (hFS n).1 ty,Hlen.out]
 have HFS:=zh hFS
 have HFall:=zh hFall
 clear hFS hFall HS
 refine zAl F (by kernel_rfl) (by kernel_rfl) hF0 ?_
 repeat (go_big_quiet_step ((go_at_call 67;refine (HU _ (HFS.out _)).mono ?_;rintro e w2 ⟨rfl,hb2⟩;exact ⟨rfl,HFall.out _ (zBH (HFS.out _) hb2)⟩)))
 refine wpQuiet_nil ?_
 rintro _ ⟨q,rfl⟩
 have HS2:=HFS.out q
 clear HFS HFall hF0 fc0 fc1 fl hlook hc1
 generalize F q=w2 at HS2 ⊢
 go_wp2
 go_ret
 exact ⟨own,rfl,⟨m,left,L,HS2.1⟩,(below2 (S:=Has own) Hb0.out Hbel.out).trans ((Chg.of_below HS2.2).mono (T:=Has own) fun _ _ h=>h.elim) fun _ _ h=>h,zBm _ _⟩
theorem append_old (h:zAO w d m left L own D) (s:ByteArray) (x:Value) (ls:List Bs) (hx:zAy w x ls) (hn:ls.length≤140737488355328) (hl:ls.flatten.length≤140737488355328) (hsz:s.size≤9223372036854775807) (hm:D.may [nm s]=0)
  (hf:D.full (nm s) ls.flatten=false) (r:FRep) (hg:Sat.get (nm s) L=some r) :
  Calls Tryz.prog 15 #[.pointer (some ⟨d,0,none⟩),.string s,x] w (zBu w d own (zAA.done { D with files:=put (nm s) ⟨r.f.data ++ ls.flatten,r.f.lasts⟩ D.files },0)):=by
 have hb0:=(Below.refl w.heap.size w).alloc (Nat.le_refl _) (.cells #[.string s] 9)
 have h1:=h.chg (Chg.alloc w (.cells #[.string s] 9)) (fun k hk=>hk.elim)
 have hc:=zA2 h1 _ [s] 1 (zAu w s) (by simp) (by simpa using hsz)
 simp only [List.map_cons,List.map_nil,hm] at hc
 have hj:=zBa (zCF hx hb0) hn hl
 have hcur:D.cur (nm s)=r.f:=by simp [zAA.cur,h.get,hg]
 have hok:=ok_append h.ok hm hf
 rw [hcur] at hok
 have hfu:=(zCR hm).1
 have hfit:D.used+ls.flatten.length≤D.room:=by
  simp only [zAA.full,Bool.or_eq_false_iff,decide_eq_false_iff_not] at hf
  omega
 have hrl:r.f.data.length≤D.used:=by rw [h.used];exact le_sum (f:=fun r:FRep=>r.f.data.length) h.srt hg
 have H1:=zh h1
 have Hc:=zh hc
 have Hj:=zh hj
 have Hb0:=zh hb0
 have Hok:=zh hok
 have Hfu:=zh hfu
 have hr:=h.ok.room
 clear h hc h1 hm hj hx hb0 hok hcur hf hfu
 go_enter Tryz.func15,Tryz.ntmps15
 go_wp2_with fail
 refine Hc.out.mono ?_
 rintro e w' ⟨rfl,rfl⟩
 go_wp2_with fail
 refine Hj.out.mono ?_
 rintro e w1 ⟨b,rfl,hb,hbel⟩
 have Hb:=zh hb
 obtain ⟨pb,cb,rfl⟩:=HasB.slice hb
 clear hb
 have h2:=H1.out.chg (Chg.of_below hbel) (fun k hk=>hk.elim)
 have hc1:=h2.c1
 have hc0:=h2.c0
 have hlook:=zBM w1 zBQ Tryz.underlying9 Tryz.underlying113 (zBC w1) FRep.fb h2.map hsz hg
 have HS0:Still w1 d m left L own D w1:=⟨h2,Below.refl _ _⟩
 have HS:Still w1 d m left L own D w1.drew:=zBH HS0 ((Below.refl _ _).drew)
 have HU:=fun W (h:Still w1 d m left L own D W)=>zDN h.1
 have Hbel:=zh hbel
 generalize hR:D.room=R at hfit hr hc0
 generalize hU:D.used=U at hfit HU hrl
 generalize hnl:ls.flatten.length=n at *
 have hgt:decide ((R:Int) - (U:Int) < (n:Int))=false:=by simp;omega
 have hsub:IntKind.i64.wrap ((R:Int) - (U:Int))=(R:Int) - (U:Int):=IntWalk.i64_in _ (by omega)
 have HR:=zh hR
 have HUU:=zh hU
 have Hnl:=zh hnl
 have Hg:=zh hg
 clear hR hU h2 hbel hnl hg
 go_wp2_with fail
 obtain ⟨ι,F,hne,hF0,hFS,hFall⟩:=classOf _ HS
 have fc0:∀ n,(F n).cell? ⟨d,0,none⟩=some (.int .i64 (R:Int)):=fun n=>by rw [(hFS n).1.c0,HR.out]
 have HFS:=zh hFS
 have HFall:=zh hFall
 clear hFS hFall
 refine zAl F (by kernel_rfl) (by kernel_rfl) hF0 ?_
 repeat (go_big_quiet_step ((go_at_call 67;refine (HU _ (HFS.out _)).mono ?_;rintro e w2 ⟨rfl,hb2⟩;exact ⟨rfl,HFall.out _ (zBH (HFS.out _) hb2)⟩)))
 refine wpQuiet_nil ?_
 rintro _ ⟨q,rfl⟩
 have HS2:=HFS.out q
 clear HFS HFall hF0 fc0 hlook hc1 hc0 HS
 generalize F q=w2 at HS2 ⊢
 have hfile:=HS2.1.fileAt Hg.out
 have hcell:w2.cell? ⟨r.fb,0,none⟩=some r.v:=zAC hfile.cells rfl
 obtain ⟨i0,hi,hz0,hz1,hz2⟩:=info_parts (show (Tryz.prog.info? 5).map (fun i=>(i.zero,i.size,i.bytes))=some (some (.int .u8 0),1,1) by kernel_rfl)
 have hrow:=hfile.row
 have hbw:HasB w2 (.slice pb n cb) ls.flatten:=HasB.below Hb.out HS2.2
 unfold HasB at hbw
 rw [Hnl.out] at hbw
 obtain ⟨p1,c1,hv⟩:=OwnB.slice hrow
 have hblk:∀ k,r.v.ownBlock=some k→k≠r.fb:=fun k hk=>HS2.1.ne_of (hfile.og k hk) hfile.ob (by simp)
 have HS3:=zh HS2
 have Hfile:=zh hfile
 have Hv:=zh hv
 have Hbw:=zh hbw
 have Hrow:=zh hrow
 have Hblk:=zh hblk
 clear hfile hv hrow hbw hblk HS2
 go_wp2_with (first | (at_builtin;refine zAf w2 rfl (.tmp 61) (.tmp 62) 22 rfl 5 i0 (.int .u8 0) 1 1 Tryz.underlying22 hi hz0 hz1 hz2 rfl (by decide) r.v r.f.data.length (zAR r.f.data) rfl Hrow.out (.slice pb n cb) n (zAR ls.flatten) rfl Hbw.out (zAY _) (by unfold maxLen;omega) (by omega) ?_;intro v' w3 hown' hgrow hloc;obtain ⟨p2,c2,rfl⟩:=OwnR.shape hown';have hb3:=zCP hgrow Hfile.out.cells (fun e=>Hblk.out _ e rfl);have hc3:=zAC (i:=0) hb3 rfl;have hf3:=zAK hb3 0;have Hg3:=zh (And.intro hown' (And.intro hgrow (And.intro hloc hb3)));clear hown' hgrow hloc hb3))
 obtain ⟨hown',hgrow,hloc,hb3⟩:=Hg3.out
 have h2:=HS3.out.1
 have hfb:=zBF Hfile.out.cells
 have hnv:∀ k,(Value.slice p2 (r.f.data.length+n) c2).ownBlock=some k→k≠r.fb:=fun k hk=>by
  rcases hloc with e | ⟨g,e,hge⟩
  ·exact Hblk.out k (by rw [← e];exact hk)
  ·rw [e] at hk
   cases hk
   omega
 obtain ⟨own',h4,hext⟩:=h2.upd (w':=w3.setCell ⟨r.fb,0,none⟩ (.slice p2 (r.f.data.length+n) c2)) (f':=⟨r.f.data ++ ls.flatten,r.f.lasts⟩) (v':=.slice p2 (r.f.data.length+n) c2) Hg.out
  (by simpa [World.setCell] using hgrow.size) (fun k hk h1 h2=>(zAD _ h1).trans (hgrow.block k hk h2)) (by rw [zAP hb3];simp)
  (by
   have e1:(r.f.data ++ ls.flatten).length=r.f.data.length+n:=by rw [List.length_append,Hnl.out]
   unfold OwnB
   rw [e1,zBr]
   exact OwnR.keep hown' fun k hk=>zAD _ (hnv k hk))
  (fun g hgv=>by
   rcases hloc with e | ⟨g',e,hge⟩
   ·exact .inl (by rw [← e];exact hgv)
   ·rw [e] at hgv
    cases hgv
    exact .inr hge) Hok.out
 refine (zBs h4 Hfu.out).mono ?_
 rintro e w5 ⟨rfl,hd5,hc5⟩
 have hchg:Chg (Has own) w w5:=by
  have hod:Has own d:=by unfold Has;rw [h2.od];simp
  have hob:Has own r.fb:=by unfold Has;rw [Hfile.out.ob];simp
  have hog:∀ g,r.v.ownBlock=some g→Has own g:=fun g hgv=>by unfold Has;rw [Hfile.out.og g hgv];simp
  have k1:Chg (Has own) w w1:=below2 Hb0.out Hbel.out
  have k2:Chg (Has own) w w2:=k1.trans ((Chg.of_below HS3.out.2).mono (T:=Has own) fun _ _ h=>h.elim) fun _ _ h=>h
  have k3:Chg (Has own) w w3:=k2.trans (Chg.of_grown hgrow) fun i _ e=>hog i e.symm
  have c4:Chg (Has own) w (w3.setCell ⟨r.fb,0,none⟩ (.slice p2 (r.f.data.length+n) c2)):=k3.trans (Chg.setCell w3 ⟨r.fb,0,none⟩ (.slice p2 (r.f.data.length+n) c2)) fun i _ e=>by rw [e];exact hob
  exact c4.trans hc5 fun i _ e=>by rw [e];exact hod
 clear hown' hgrow hloc hb3 h2 h4 hfb hnv hc3 hf3
 have Hx:=zh hext
 clear hext
 go_wp2_with fail
 go_ret
 exact ⟨own',rfl,hd5,hchg,fun k hk=>Hx.out k (Nat.lt_of_lt_of_le hk (Nat.le_trans (below2 (S:=fun _=>False) Hb0.out Hbel.out).size HS3.out.2.size))⟩
theorem new_has {w2 w3:World} {o:Obj} (h:zAO w2 d m left L own D) {v:Value} {l:Bs} (hv:HasB w2 v l) (hg:(w2.alloc o).grownBy w3 (some m)):HasB w3 v l:=by
 obtain ⟨es,clock,hm,_⟩:=h.map
 have hc:Chg (fun k=>k=m) w2 w3:=((Chg.alloc w2 _).mono (T:=fun k=>k=m) fun _ _ h=>h.elim).trans (Chg.of_grown hg) fun i _ e=>by simpa using e
 exact zAX.chg2 hv hc fun a u hu _=>no_cell_map hm hu
theorem append_new (h:zAO w d m left L own D) (s:ByteArray) (x:Value) (ls:List Bs) (hx:zAy w x ls) (hn:ls.length≤140737488355328) (hl:ls.flatten.length≤140737488355328) (hsz:s.size≤9223372036854775807) (hm:D.may [nm s]=0)
  (hf:D.full (nm s) ls.flatten=false) (hg:Sat.get (nm s) L=none) :
  Calls Tryz.prog 15 #[.pointer (some ⟨d,0,none⟩),.string s,x] w (zBu w d own (zAA.done { D with files:=put (nm s) ⟨ls.flatten,0⟩ D.files },0)):=by
 have hb0:=(Below.refl w.heap.size w).alloc (Nat.le_refl _) (.cells #[.string s] 9)
 have h1:=h.chg (Chg.alloc w (.cells #[.string s] 9)) (fun k hk=>hk.elim)
 have hc:=zA2 h1 _ [s] 1 (zAu w s) (by simp) (by simpa using hsz)
 simp only [List.map_cons,List.map_nil,hm] at hc
 have hj:=zBa (zCF hx hb0) hn hl
 have hcur:D.cur (nm s)=⟨[],0⟩:=by simp [zAA.cur,h.get,hg]
 have hok:=ok_append h.ok hm hf
 rw [hcur] at hok
 simp only [List.nil_append] at hok
 have hfu:=(zCR hm).1
 have hfc:D.used+ls.flatten.length≤D.room∧L.length < 4096:=by
  simp only [zAA.full,Bool.or_eq_false_iff,decide_eq_false_iff_not,h.get,hg,h.len,Option.map_none,Option.isNone_none,Bool.true_and] at hf
  omega
 obtain ⟨hfit,hcount⟩:=hfc
 have hr:=h.ok.room
 have H1:=zh h1
 have Hc:=zh hc
 have Hj:=zh hj
 have Hb0:=zh hb0
 have Hok:=zh hok
 have Hfu:=zh hfu
 clear h hc h1 hm hj hx hb0 hok hcur hf hfu
 go_enter Tryz.func15,Tryz.ntmps15
 go_wp2_with fail
 refine Hc.out.mono ?_
 rintro e w' ⟨rfl,rfl⟩
 go_wp2_with fail
 refine Hj.out.mono ?_
 rintro e w1 ⟨b,rfl,hb,hbel⟩
 have Hb:=zh hb
 obtain ⟨pb,cb,rfl⟩:=HasB.slice hb
 clear hb
 have h2:=H1.out.chg (Chg.of_below hbel) (fun k hk=>hk.elim)
 have hc1:=h2.c1
 have hlook:=zA8 w1 zBQ Tryz.underlying9 Tryz.underlying113 (zBC w1) FRep.fb h2.map hsz hg
 have HS:Still w1 d m left L own D w1.drew:=zBH ⟨h2,Below.refl _ _⟩ ((Below.refl _ _).drew)
 have HU:=fun W (h:Still w1 d m left L own D W)=>zDN h.1
 generalize hR:D.room=R at hfit hr
 generalize hU:D.used=U at hfit HU
 generalize hlen:L.length=N at hcount
 generalize hnl:ls.flatten.length=n at *
 have hgt:decide ((R:Int) - (U:Int) < (n:Int))=false:=by simp;omega
 have hsub:IntKind.i64.wrap ((R:Int) - (U:Int))=(R:Int) - (U:Int):=IntWalk.i64_in _ (by omega)
 have hcnt:decide ((4096:Int)≤(N:Int))=false:=by simp;omega
 have HR:=zh hR
 have Hlen:=zh hlen
 have Hbel:=zh hbel
 have Hg:=zh hg
 have Hnl:=zh hnl
 clear hR hU h2 hbel hg hlen hnl
 go_wp2_with fail
 obtain ⟨ι,F,hne,hF0,hFS,hFall⟩:=classOf _ HS
 have fc0:∀ n,(F n).cell? ⟨d,0,none⟩=some (.int .i64 (R:Int)):=fun n=>by rw [(hFS n).1.c0,HR.out]
 have fc1:∀ n,(F n).cell? ⟨d,1,none⟩=some (.map (some m)):=fun n=>(hFS n).1.c1
 have fl:∀ n ty,(Builtin.len_ #[113] ty #[.map (some m)]).run Tryz.prog (F n)=.ok (.int .i64 (N:Int)) (F n):=fun n ty=>by rw [len_run (hFS n).1 ty,Hlen.out]
 have HFS:=zh hFS
 have HFall:=zh hFall
 clear hFS hFall HS
 refine zAl F (by kernel_rfl) (by kernel_rfl) hF0 ?_
 repeat (go_big_quiet_step ((go_at_call 67;refine (HU _ (HFS.out _)).mono ?_;rintro e w2 ⟨rfl,hb2⟩;exact ⟨rfl,HFall.out _ (zBH (HFS.out _) hb2)⟩)))
 refine wpQuiet_nil ?_
 rintro _ ⟨q,rfl⟩
 have HS2:=HFS.out q
 clear HFS HFall hF0 fc0 fc1 fl hlook hc1 HU
 generalize F q=w2 at HS2 ⊢
 have hc1:=HS2.1.c1
 have hdl:=HS2.1.dlt
 have hN:L.length < maxLen:=by rw [Hlen.out];unfold maxLen;omega
 have hmap:=HS2.1.map.alloc (.cells #[.slice none 0 0,.int .i64 0] 123)
 have HS3:=zh HS2
 have Hmap:=zh hmap
 clear HS2 hmap
 obtain ⟨i0,hi,hz0,hz1,hz2⟩:=info_parts (show (Tryz.prog.info? 5).map (fun i=>(i.zero,i.size,i.bytes))=some (some (.int .u8 0),1,1) by kernel_rfl)
 go_wp2_with (first | (at_mapUpdate;refine wpList_mapUpdate_own _ rfl _ _ _ 113 rfl 9 121 zBQ Tryz.underlying113 ptrR m L.length (dm fbD L) rfl Hmap.out hN _ _ _ rfl rfl (WideMaps.keyOf_string_mk Tryz.underlying9 hsz) (.held w2.heap.size) [] rfl ?_;intro w3 hown3 hg3;have hfb3:=zCP hg3 (zAU w2 _) (by intro e;have h9:=HS3.out.1.mlt;cases e;omega);have hc3:=zAC (i:=0) hfb3 rfl;have Hg3:=zh (And.intro hown3 (And.intro hg3 hfb3));clear hown3 hg3 hfb3) | (at_builtin;have hbw:=new_has HS3.out.1 (HasB.below Hb.out HS3.out.2) Hg3.out.2.1;unfold HasB at hbw;rw [Hnl.out] at hbw;refine zAf w3 rfl (.tmp 61) (.tmp 62) 22 rfl 5 i0 (.int .u8 0) 1 1 Tryz.underlying22 hi hz0 hz1 hz2 rfl (by decide) (.slice none 0 0) 0 [] rfl (OwnR.nil _ _ _) (.slice pb n cb) n (zAR ls.flatten) rfl hbw (zAY _) (by unfold maxLen;omega) (by omega) ?_;clear hbw;intro v' w4 hown' hgrow hloc;obtain ⟨p2,c2,rfl⟩:=OwnR.shape hown';have hb4:=zCP hgrow Hg3.out.2.2 (by intro e;cases e);have hc4:=zAC (i:=0) hb4 rfl;have hf4:=zAK hb4 0;have Hg4:=zh (And.intro hown' (And.intro hgrow (And.intro hloc hb4)));clear hown' hgrow hloc hb4))
 obtain ⟨hown3,hg3,_⟩:=Hg3.out
 obtain ⟨hown',hgrow,hloc,hb4⟩:=Hg4.out
 have h2:=HS3.out.1
 have hs3:w2.heap.size+1≤w3.heap.size:=by
  have:=hg3.size
  simpa using this
 have hs4:=hgrow.size
 have hnv:∀ k,(Value.slice p2 (0+n) c2).ownBlock=some k→w2.heap.size≤k∧k≠w2.heap.size:=fun k hk=>by
  rcases hloc with e | ⟨g,e,hge⟩
  ·rw [e] at hk
   cases hk
  ·rw [e] at hk
   cases hk
   omega
 have hold:∀ k,k < w2.heap.size→k≠m→w4.heap[k]?=w2.heap[k]?:=fun k hk hkm=>by
  rw [hgrow.block k (by omega) (by intro e;cases e),hg3.block k (by simp;omega) (by intro e;cases e;exact hkm rfl)]
  exact heap_alloc_old w2 _ hk
 obtain ⟨own',h4,hext⟩:=h2.add (w':=w4.setCell ⟨w2.heap.size,0,none⟩ (.slice p2 (0+n) c2)) (r:=⟨w2.heap.size,.slice p2 (0+n) c2,⟨ls.flatten,0⟩⟩) Hg.out
  (by simp [World.setCell];omega) (fun k hk hkm=>(zAD _ (by simp;omega)).trans (hold k hk hkm))
  ⟨_,(hown3.kept hgrow (by intro e;cases e)).setCell (by have:=h2.mlt;simp;omega) _⟩ (by rw [zAP hb4];simp) (Nat.le_refl _)
  (by
   have e1:ls.flatten.length=0+n:=by rw [Hnl.out,Nat.zero_add]
   unfold OwnB
   show OwnR _ _ _ _ ls.flatten.length _
   rw [e1]
   exact OwnR.keep hown' fun k hk=>zAD _ (hnv k hk).2)
  hnv Hok.out
 have hchg:Chg (Has own) w (w4.setCell ⟨w2.heap.size,0,none⟩ (.slice p2 (0+n) c2)):=by
  have hom:Has own m:=by unfold Has;rw [h2.om];simp
  have k1:Chg (Has own) w w1:=below2 Hb0.out Hbel.out
  have k2:Chg (Has own) w w2:=k1.trans ((Chg.of_below HS3.out.2).mono (T:=Has own) fun _ _ h=>h.elim) fun _ _ h=>h
  have k4:Chg (fun k=>k=m) w2 w4:=⟨by rw [hgrow.os,hg3.os];rfl,by rw [hgrow.tape,hg3.tape];rfl,by rw [hgrow.output,hg3.output];rfl,by omega,hold⟩
  have k5:Chg (fun k=>k=m∨w2.heap.size≤k) w2 (w4.setCell ⟨w2.heap.size,0,none⟩ (.slice p2 (0+n) c2)):=(k4.mono (T:=fun k=>k=m∨w2.heap.size≤k) fun _ _ h=>.inl h).trans (Chg.setCell w4 _ _) fun i _ e=>.inr (by rw [e];exact Nat.le_refl _)
  have hs2:=k2.size
  exact k2.trans k5 fun i hi e=>by
   rcases e with e | e
   ·rw [e];exact hom
   ·omega
 have hod:Has own d:=by unfold Has;rw [h2.od];simp
 have hsz2:=Nat.le_trans (below2 (S:=fun _=>False) Hb0.out Hbel.out).size HS3.out.2.size
 simp only [Nat.zero_add] at h4 hchg
 have hdone:=zBs h4 Hfu.out
 have Hdone:=zh hdone
 have Hchg:=zh hchg
 have Hx:=zh hext
 have Hod:=zh hod
 have Hsz:=zh hsz2
 clear hown3 hg3 hown' hgrow hloc hb4 h2 hs3 hs4 hnv hold h4 hext hchg hod hsz2 hdone hc3 hc4 hf4
 refine Hdone.out.mono ?_
 rintro e w5 ⟨rfl,hd5,hc5⟩
 go_wp2_with fail
 go_ret
 exact ⟨own',rfl,hd5,Hchg.out.trans hc5 fun i _ e=>by rw [e];exact Hod.out,fun k hk=>Hx.out k (Nat.lt_of_lt_of_le hk Hsz.out)⟩
theorem append_calls (h:zBT w d D own) (s:ByteArray) (x:Value) (ls:List Bs) (hx:zAy w x ls) (hn:ls.length≤140737488355328) (hl:ls.flatten.length≤140737488355328) (hsz:s.size≤9223372036854775807) :
  Calls Tryz.prog 15 #[.pointer (some ⟨d,0,none⟩),.string s,x] w (zBu w d own (D.append (nm s) ls.flatten)):=by
 obtain ⟨m,left,L,h⟩:=h
 unfold zAA.append
 by_cases hm:D.may [nm s]=0
 ·rw [if_neg (by simpa using hm)]
  by_cases hf:D.full (nm s) ls.flatten=true
  ·rw [if_pos hf]
   by_cases hr:D.room < D.used+ls.flatten.length
   ·exact append_full h s x ls hx hn hl hsz hm hr
   ·simp only [zAA.full,hr,decide_false,Bool.false_or,Bool.and_eq_true,Option.isNone_iff_eq_none,decide_eq_true_eq,h.get,h.len,Option.map_eq_none_iff] at hf
    exact append_count h s x ls hx hn hl hsz hm (by omega) hf.1 hf.2
  ·rw [if_neg hf]
   have hf':D.full (nm s) ls.flatten=false:=by simpa using hf
   cases hg:Sat.get (nm s) L with
   | none =>
    have hcur:D.cur (nm s)=⟨[],0⟩:=by simp [zAA.cur,h.get,hg]
    rw [hcur]
    exact append_new h s x ls hx hn hl hsz hm hf' hg
   | some r =>
    have hcur:D.cur (nm s)=r.f:=by simp [zAA.cur,h.get,hg]
    rw [hcur]
    exact append_old h s x ls hx hn hl hsz hm hf' r hg
 ·rw [if_pos (by simpa using hm)]
  exact append_bad h s x hsz hm
end
end Go.Proofs.YtapfnehdgailmaaGreat
