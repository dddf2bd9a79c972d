/- What a law's arguments are, as the form reads them. Numbers and rows as bytes: what is laid, and what is read (a plain model). No program. What a disk keeps (a plain model), and what it means that a disk lies in memory. Contracts of disk.New, may, done, Used. How a disk in memory stands behind a change of one file, a new file, a file that goes. No walk. -/
import Derived.BigQuiet
import Derived.ChangeOld
import Derived.Deep.LoopGhost
import Derived.Deep.Matrix
import Derived.Deep.QuietTactic
import Derived.OpenShut
import Derived.ProofKit
import Derived.ShutString
import Derived.SizedLaws
import Derived.Test.YtapfnehdgailmaaGreatChecked
import Derived.Test.YtapfnehdgailmaaGreatEA
import Derived.Test.YtapfnehdgailmaaGreatRows
set_option maxRecDepth 100000
set_option maxHeartbeats 64000000
namespace Go.Proofs.YtapfnehdgailmaaGreat
open Go.RowKit Go.Sat Go.ChangeShapes Go.WideShapes Go.ChangeAt Go.Deep
theorem bytes_at {W:World} {a:Addr} {zs:List Int} {cap len:Nat} (hl:len≤cap) (hz:zs.length=cap) (hcell:∀ i,i < cap→W.cell? (a.add i)=some (.int .u8 (zs.getD i 0))) (hwf:∀ n ∈ zs,(Lit.int .u8 n).wf=true) (c:Nat) :
  HasB W (.slice (some a) len c) (Lib.bytesOf (zs.take len))∧(Lib.bytesOf (zs.take len)).length=len:=by
 have hlen:(Lib.bytesOf (zs.take len)).length=len:=by simp only [Lib.bytesOf,List.length_map,List.length_take];omega
 refine ⟨?_,hlen⟩
 refine HasB.of_kit ⟨some a,c,by rw [hlen],fun e=>(by cases e),fun a' ha i x hx=>?_⟩
 cases ha
 have hi:i < len:=by rw [← hlen];exact (List.getElem?_eq_some_iff.1 hx).1
 have hiz:i < zs.length:=by omega
 rw [hcell i (by omega)]
 have h1:zs.getD i 0=zs[i]:=by simp [List.getD,List.getElem?_eq_getElem hiz]
 have h2:(Lib.bytesOf (zs.take len))[i]?=some (UInt8.ofNat zs[i].toNat):=by
  simp only [Lib.bytesOf,List.getElem?_map,List.getElem?_take,if_pos hi,List.getElem?_eq_getElem hiz,Option.map_some]
 rw [h2] at hx
 simp only [Option.some.injEq] at hx
 rw [h1,← hx]
 have h3:=hwf zs[i] (List.getElem_mem hiz)
 have h4:=bounds_u8 h3
 simp
 omega
theorem weights_head {P:Program} {H:Type} {t e:TypeId} {elems spare:List (DataW H)} (ht:P.underlying t=some (.slice e)) {B:Nat} (h:∀ n ∈ (DataW.slice elems spare).weights P t,n≤B):(elems.length+spare.length) * P.bytesOf e≤B :=
 h _ (by simp [DataW.weights,ht])
theorem weights_in {P:Program} {H:Type} {e:TypeId} {d:DataW H} {n:Nat} (hn:n ∈ d.weights P e):∀ {elems:List (DataW H)},d ∈ elems→n ∈ DataW.weightsAll P e elems
 | [],h=>by simp at h
 | x :: r,h=>by
  simp only [DataW.weightsAll,List.mem_append]
  rcases List.mem_cons.1 h with rfl | h
  ·exact .inl hn
  ·exact .inr (weights_in hn h)
theorem weights_elem {P:Program} {H:Type} {t e:TypeId} {elems spare:List (DataW H)} (ht:P.underlying t=some (.slice e)) {B:Nat} (h:∀ n ∈ (DataW.slice elems spare).weights P t,n≤B) {d:DataW H} (hd:d ∈ elems):∀ n ∈ d.weights P e,n≤B :=
 fun n hn=>h n (by simp [DataW.weights,ht,weights_in hn hd])
section
variable {H:Type} {enc:TypeId × Value→H} {W:World} {fuel:Nat} {d:DataW H} {ps:List MemPlace}
theorem bytes_arg {a:Option Addr} {len cap:Nat} (hf:DataW.trod enc Tryz.prog W 0 (fun _=>true) true fuel 22 [.slice a len cap]=some (d,ps)) (hw:∀ n ∈ d.weights Tryz.prog 22,n≤reachBytes) :
  ∃ l,HasB W (.slice a len cap) l∧l.length≤140737488355328:=by
 rcases open_ints Tryz.underlying22 Tryz.underlying5 (by kernel_rfl) hf with ⟨hcs,_⟩ | ⟨x,l,c,zs,hcs,_,hl,hm,hz,hd,hcell,hwz⟩
 ·simp at hcs
  obtain ⟨rfl,rfl,rfl⟩:=hcs
  exact ⟨[],⟨by simp [zAN],none,0,rfl,fun _=>rfl,fun a ha=>by cases ha⟩,by simp⟩
 ·simp at hcs
  obtain ⟨rfl,rfl,rfl⟩:=hcs
  simp only [if_true] at hz
  obtain ⟨h1,h2⟩:=bytes_at hl hz (fun i hi=>hcell i (by omega)) hwz cap
  refine ⟨_,h1,?_⟩
  simp only [Prod.mk.injEq] at hd
  obtain ⟨rfl,_⟩:=hd
  have hb:=weights_head Tryz.underlying22 hw
  rw [show Tryz.prog.bytesOf 5=1 by kernel_rfl] at hb
  simp only [lits,List.length_map,List.length_take,List.length_drop] at hb
  rw [h2]
  unfold reachBytes at hb
  omega
end
end Go.Proofs.YtapfnehdgailmaaGreat
namespace Go.Sat
def numB (n:Nat):Bs:=if n < 128 then [UInt8.ofNat n] else UInt8.ofNat (n % 128+128) :: numB (n / 128)
termination_by n
decreasing_by omega
def numI (v:Int):Bs:=numB (max 0 (min v 4611686018427387904)).toNat
def zCs (l:List Int):Bs:=(l.map numI).flatten
def rowB (p:Bs):Bs:=numB p.length ++ p
theorem zBq {n:Nat} (h:n < 128):numB n=[UInt8.ofNat n]:=by rw [numB,if_pos h]
theorem zCc {n:Nat} (h:128≤n):numB n=UInt8.ofNat (n % 128+128) :: numB (n / 128):=by rw [numB,if_neg (by omega)]
theorem zCr {n:Nat} (h:n≤4611686018427387904):numI (n:Int)=numB n:=by
 unfold numI
 congr 1
 omega
theorem numB_len (n:Nat):1≤(numB n).length:=by
 rw [numB]
 split <;> simp
theorem numB_le (k:Nat):∀ n,n < 128 ^ (k+1)→(numB n).length≤k+1:=by
 induction k with
 | zero =>
  intro n h
  rw [zBq (by simpa using h)]
  simp
 | succ k ih =>
  intro n h
  by_cases hn:n < 128
  ·rw [zBq hn]
   simp
  ·rw [zCc (by omega),List.length_cons]
   have:=ih (n / 128) (by rw [Nat.div_lt_iff_lt_mul (by decide),← Nat.pow_succ];exact h)
   omega
theorem zAu {n:Nat} (h:n≤4611686018427387904):(numB n).length≤9:=numB_le 8 n (Nat.lt_of_le_of_lt h (by decide))
def zBn:Nat→Nat→Bs→Option (Nat × Bs)
 | _,_,[]=>none
 | i,u,c :: r=>if 9≤i∨(0 < i∧c=0) then none
  else if c.toNat < 128 then (if 4611686018427387904 < u+c.toNat * 128 ^ i then none else some (u+c.toNat * 128 ^ i,r))
  else zBn (i+1) (u+c.toNat % 128 * 128 ^ i) r
theorem numGo_num (n:Nat):∀ (i u:Nat) (r:Bs),(0 < i→0 < n)→u+n * 128 ^ i≤4611686018427387904→zBn i u (numB n ++ r)=some (u+n * 128 ^ i,r):=by
 induction n using Nat.strongRecOn with
 | ind n ih =>
  intro i u r h0 hm
  have hi:¬ 9≤i∨n=0:=by
   by_cases hn:n=0
   ·exact .inr hn
   ·refine .inl fun h9=>?_
    have h1:128 ^ 9≤128 ^ i:=Nat.pow_le_pow_right (by decide) h9
    have h2:1 * 128 ^ 9≤n * 128 ^ i:=Nat.mul_le_mul (by omega) h1
    have h3:(128:Nat) ^ 9=9223372036854775808:=by decide
    omega
  by_cases hn:n < 128
  ·rw [zBq hn]
   show (if _ then _ else _)=_
   have e:(UInt8.ofNat n).toNat=n:=by rw [UInt8.toNat_ofNat'];omega
   have hc:¬ (9≤i∨(0 < i∧UInt8.ofNat n=0)):=by
    rintro (h | ⟨h1,h2⟩)
    ·rcases hi with h' | h'
     ·exact h' h
     ·have:=h0 (by omega)
      omega
    ·have h3:=congrArg UInt8.toNat h2
     rw [e] at h3
     have:=h0 h1
     simp at h3
     omega
   rw [if_neg hc,e,if_pos hn,if_neg (by omega)]
   rfl
  ·rw [zCc (by omega)]
   show (if _ then _ else _)=_
   have e:(UInt8.ofNat (n % 128+128)).toNat=n % 128+128:=by rw [UInt8.toNat_ofNat'];omega
   have hc:¬ (9≤i∨(0 < i∧UInt8.ofNat (n % 128+128)=0)):=by
    rintro (h | ⟨h1,h2⟩)
    ·rcases hi with h' | h' <;> omega
    ·have h3:=congrArg UInt8.toNat h2
     rw [e] at h3
     simp at h3
   rw [if_neg hc,e,if_neg (by omega)]
   have hs:u+(n % 128+128) % 128 * 128 ^ i+n / 128 * 128 ^ (i+1)=u+n * 128 ^ i:=by
    have h1:n=n % 128+128 * (n / 128):=by omega
    have h2:n * 128 ^ i=n % 128 * 128 ^ i+n / 128 * 128 ^ (i+1):=by
     conv=>lhs;rw [h1]
     rw [Nat.add_mul,Nat.pow_succ,Nat.mul_comm 128 (n / 128),Nat.mul_assoc,Nat.mul_comm 128 (128 ^ i)]
    rw [show (n % 128+128) % 128=n % 128 by omega]
    omega
   have:=ih (n / 128) (by omega) (i+1) (u+(n % 128+128) % 128 * 128 ^ i) r (fun _=>by omega) (by rw [hs];exact hm)
   rw [hs] at this
   exact this
theorem numGo_some:∀ (l:Bs) (i u n:Nat) (r:Bs),zBn i u l=some (n,r)→n≤4611686018427387904∧∃ k,0 < k∧k≤l.length∧r=l.drop k:=by
 intro l
 induction l with
 | nil=>intro i u n r h;cases h
 | cons c l ih =>
  intro i u n r h
  unfold zBn at h
  split at h
  ·cases h
  ·split at h
   ·split at h
    ·cases h
    ·cases h
     exact ⟨by omega,1,by decide,by simp,rfl⟩
   ·obtain ⟨h1,k,hk0,hk,hr⟩:=ih _ _ _ _ h
    exact ⟨h1,k+1,by omega,by simpa using hk,by rw [hr];rfl⟩
structure Rd where
 rest:Bs
 bad:Bool
namespace Rd
def fail:Rd:=⟨[],true⟩
def num (R:Rd):Nat × Rd:=match zBn 0 0 R.rest with
 | some (n,r)=>(n,⟨r,R.bad⟩)
 | none=>(0,fail)
def raw (R:Rd) (n:Nat):Bs × Rd:=if n≤R.rest.length then (R.rest.take n,⟨R.rest.drop n,R.bad⟩) else ([],fail)
def bytes (R:Rd):Bs × Rd:=R.num.2.raw R.num.1
def whole (R:Rd):Bool:=!R.bad && R.rest.isEmpty
theorem num_le (R:Rd):R.num.1≤4611686018427387904:=by
 unfold num
 split
 ·exact (numGo_some _ _ _ _ _ ‹_›).1
 ·exact Nat.zero_le _
theorem num_rest (R:Rd):R.num.2.rest.length≤R.rest.length:=by
 unfold num
 split
 ·obtain ⟨-,k,-,hk,hr⟩:=numGo_some _ _ _ _ _ ‹_›
  simp only [hr,List.length_drop]
  omega
 ·exact Nat.zero_le _
theorem raw_len (R:Rd) (n:Nat):(R.raw n).1.length≤R.rest.length:=by
 unfold raw
 split
 ·simp;omega
 ·exact Nat.zero_le _
theorem bytes_len (R:Rd):R.bytes.1.length≤R.rest.length:=Nat.le_trans (raw_len _ _) (num_rest R)
theorem num_of {n:Nat} (h:n≤4611686018427387904) (r:Bs) (b:Bool):num ⟨numB n ++ r,b⟩=(n,⟨r,b⟩):=by
 unfold num
 have:=numGo_num n 0 0 r (fun h=>absurd h (by decide)) (by simpa using h)
 simp only [this]
 simp
theorem raw_of (p r:Bs) (b:Bool):raw ⟨p ++ r,b⟩ p.length=(p,⟨r,b⟩):=by
 unfold raw
 rw [if_pos (by simp)]
 simp
theorem bytes_of {p:Bs} (h:p.length≤4611686018427387904) (r:Bs) (b:Bool):bytes ⟨rowB p ++ r,b⟩=(p,⟨r,b⟩):=by
 unfold bytes rowB
 rw [List.append_assoc,num_of h,raw_of]
end Rd
end Go.Sat
namespace Go.Proofs.YtapfnehdgailmaaGreat
open Go.RowKit Go.Sat Go.Maps
/-! ### The model -/
structure zAP where
 data:Bs
 lasts:Nat
structure zAA where
 room:Nat
 files:List (Bs × zAP)
 fuse:Option Nat
def okN (n:Bs):Bool:=decide (1≤n.length) && decide (n.length≤64)
namespace zAA
def size (f:zAP):Nat:=f.data.length
def used (D:zAA):Nat:=zBB size D.files
def may (D:zAA) (ns:List Bs):Nat:=if D.fuse=some 0 then 9 else if ns.all okN then 0 else 1
def done (D:zAA):zAA:={ D with fuse:=D.fuse.map (· - 1) }
def cur (D:zAA) (n:Bs):zAP:=(get n D.files).getD ⟨[],0⟩
def full (D:zAA) (n b:Bs):Bool:=decide (D.room < D.used+b.length) || ((get n D.files).isNone && decide (4096≤D.files.length))
def append (D:zAA) (n b:Bs):zAA × Nat :=
 if D.may [n]≠0 then (D,D.may [n])
 else if D.full n b then (D,6)
 else (done { D with files:=put n ⟨(D.cur n).data ++ b,(D.cur n).lasts⟩ D.files },0)
def each1 (g:Bs→zAP→List (Bs × zAP)→List (Bs × zAP)) (D:zAA) (n:Bs):zAA × Nat :=
 if D.may [n]≠0 then (D,D.may [n])
 else match get n D.files with
  | none=>(D,7)
  | some f=>(done { D with files:=g n f D.files },0)
def each (g:Bs→zAP→List (Bs × zAP)→List (Bs × zAP)) (D:zAA):List Bs→zAA × Nat
 | []=>(D,0)
 | n :: r=>if (each1 g D n).2=0 then each g (each1 g D n).1 r else each1 g D n
def gSync (n:Bs) (f:zAP) (L:List (Bs × zAP)):List (Bs × zAP):=put n ⟨f.data,f.data.length⟩ L
def gRemove (n:Bs) (_:zAP) (L:List (Bs × zAP)):List (Bs × zAP):=del n L
def sync (D:zAA) (ns:List Bs):zAA × Nat:=D.each gSync ns
def remove (D:zAA) (ns:List Bs):zAA × Nat:=D.each gRemove ns
def truncate (D:zAA) (n:Bs) (k:Int):zAA × Nat :=
 if D.may [n]≠0 then (D,D.may [n])
 else match get n D.files with
  | none=>(D,7)
  | some f=>if k < 0∨(f.data.length:Int) < k then (D,1)
   else (done { D with files:=put n ⟨f.data.take k.toNat,min f.lasts k.toNat⟩ D.files },0)
def rename (D:zAA) (o n:Bs):zAA × Nat :=
 if D.may [o,n]≠0 then (D,D.may [o,n])
 else match get o D.files with
  | none=>(D,7)
  | some f=>(done { D with files:=put n f (del o D.files) },0)
def setFuse (D:zAA) (n:Int):zAA:={ D with fuse:=if n < 0 then none else some n.toNat }
def stays (f:zAP) (k:Int):Nat:=f.lasts+(max 0 k).toNat % (f.data.length - f.lasts+1)
def crashF (k:Int) (f:zAP):zAP:=⟨f.data.take (stays f k),stays f k⟩
def crash (D:zAA) (k:Int):zAA:={ D with files:=mp (crashF k) D.files,fuse:=none }
def fresh (room:Nat):zAA:=⟨room,[],none⟩
def copy (D:zAA):zAA:={ D with fuse:=none }
structure OK (D:zAA):Prop where
 srt:Srt D.files
 room:D.room≤1073741824
 used:D.used≤D.room
 count:D.files.length≤4096
 names:∀ p ∈ D.files,okN p.1=true
 lasts:∀ p ∈ D.files,p.2.lasts≤p.2.data.length
 fuse:∀ k,D.fuse=some k→k≤9223372036854775807
end zAA
/-! ### In memory -/
abbrev Own:=Nat→Option (Nat × Bs)
structure FRep where
 fb:Nat
 v:Value
 f:zAP
structure FileAt (w:World) (own:Own) (n:Bs) (r:FRep):Prop where
 cells:w.heap[r.fb]?=some (.cells #[r.v,.int .i64 (r.f.lasts:Int)] 123 (0,0))
 ob:own r.fb=some (2,n)
 row:OwnB w 5 r.v r.f.data
 og:∀ g,r.v.ownBlock=some g→own g=some (3,n)
def fbD (r:FRep):DataW Nat:=.held r.fb
structure zAS (w:World) (d m:Nat) (left:Int) (L:List (Bs × FRep)) (own:Own) (D:zAA):Prop where
 cells:w.heap[d]?=some (.cells #[.int .i64 (D.room:Int),.map (some m),.bool D.fuse.isSome,.int .i64 left] 115 (0,0))
 left:∀ k,D.fuse=some k→left=(k:Int)
 map:w.ownsMap Tryz.prog 9 ptrR m L.length (dm fbD L)
 files:D.files=mp FRep.f L
 srt:Srt L
 file:∀ p ∈ L,FileAt w own p.1 p.2
 od:own d=some (0,[])
 om:own m=some (1,[])
 olt:∀ k t,own k=some t→k < w.heap.size
 ok:D.OK
def zBe (w:World) (d:Nat) (D:zAA) (own:Own):Prop:=∃ m left L,zAS w d m left L own D
def Ext (w:World) (own own':Own):Prop:=∀ k,k < w.heap.size→own k=none→own' k=none
def Has (own:Own) (k:Nat):Prop:=own k≠none
theorem FileAt.keep {w w':World} {own:Own} {n:Bs} {r:FRep} (h:FileAt w own n r) (hb:∀ k,own k≠none→w'.heap[k]?=w.heap[k]?):FileAt w' own n r :=
 ⟨(hb _ (by rw [h.ob];simp)).trans h.cells,h.ob,h.row.keep fun k hk=>hb k (by rw [h.og k hk];simp),h.og⟩
theorem zAS.keep {w w':World} {d m:Nat} {left:Int} {L:List (Bs × FRep)} {own:Own} {D:zAA} (h:zAS w d m left L own D) (hs:w.heap.size≤w'.heap.size)
  (hb:∀ k,own k≠none→w'.heap[k]?=w.heap[k]?):zAS w' d m left L own D where
 cells:=(hb d (by rw [h.od];simp)).trans h.cells
 left:=h.left
 map:=by
  obtain ⟨es,clock,hm,r⟩:=h.map
  exact ⟨es,clock,(hb m (by rw [h.om];simp)).trans hm,r⟩
 files:=h.files
 srt:=h.srt
 file p hp:=(h.file p hp).keep hb
 od:=h.od
 om:=h.om
 olt k t hk:=Nat.lt_of_lt_of_le (h.olt k t hk) hs
 ok:=h.ok
theorem zAS.chg {w w':World} {S:Nat→Prop} {d m:Nat} {left:Int} {L:List (Bs × FRep)} {own:Own} {D:zAA} (h:zAS w d m left L own D) (hc:Chg S w w') (hS:∀ k,S k→own k=none) :
  zAS w' d m left L own D :=
 h.keep hc.size fun k hk=>hc.block k (by
  cases ho:own k with
  | none=>exact absurd ho hk
  | some t=>exact h.olt k t ho) fun s=>hk (hS k s)
theorem zBe.chg {w w':World} {S:Nat→Prop} {d:Nat} {own:Own} {D:zAA} (h:zBe w d D own) (hc:Chg S w w') (hS:∀ k,S k→own k=none):zBe w' d D own:=by
 obtain ⟨m,left,L,h⟩:=h
 exact ⟨m,left,L,h.chg hc hS⟩
section
variable {w:World} {d m:Nat} {left:Int} {L:List (Bs × FRep)} {own:Own} {D:zAA}
theorem zAS.c0 (h:zAS w d m left L own D):w.cell? ⟨d,0,none⟩=some (.int .i64 (D.room:Int)):=zAC h.cells rfl
theorem zAS.c1 (h:zAS w d m left L own D):w.cell? ⟨d,1,none⟩=some (.map (some m)):=zAC h.cells rfl
theorem zAS.c2 (h:zAS w d m left L own D):w.cell? ⟨d,2,none⟩=some (.bool D.fuse.isSome):=zAC h.cells rfl
theorem zAS.c3 (h:zAS w d m left L own D):w.cell? ⟨d,3,none⟩=some (.int .i64 left):=zAC h.cells rfl
theorem zAS.get (h:zAS w d m left L own D) (n:Bs):Sat.get n D.files=(Sat.get n L).map FRep.f:=by rw [h.files,mp_get]
theorem zAS.len (h:zAS w d m left L own D):D.files.length=L.length:=by rw [h.files,mp_len]
theorem zAS.used (h:zAS w d m left L own D):D.used=zBB (fun r:FRep=>r.f.data.length) L:=by
 unfold zAA.used
 rw [h.files,mp_sum]
 rfl
theorem zAS.dlt (h:zAS w d m left L own D):d < w.heap.size:=h.olt d _ h.od
theorem zAS.mlt (h:zAS w d m left L own D):m < w.heap.size:=h.olt m _ h.om
theorem zAS.dm_ne (h:zAS w d m left L own D):d≠m:=by
 intro e
 have h1:=h.od
 rw [e,h.om] at h1
 simp at h1
end
theorem le_sum {α:Type} {f:α→Nat} {L:List (Bs × α)} {n:Bs} {a:α} (h:Srt L) (hg:get n L=some a):f a≤zBB f L:=by
 rw [zCy (f:=f) h hg]
 omega
theorem okN_string {n:Bs} (h:okN n=true):1≤n.length∧n.length≤64:=by simpa [okN] using h
end Go.Proofs.YtapfnehdgailmaaGreat
namespace Go.Proofs.YtapfnehdgailmaaGreat
open Go.RowKit Go.Sat Go.Maps
theorem zBW:Keyed Tryz.prog 9:=string_keyed Tryz.underlying9
theorem zBO (w:World):(zeroValue 121).run Tryz.prog w=.ok (.pointer none) w:=by kernel_rfl
/-! ### New -/
theorem new_walk (n:Int) (w:World) (h0:0≤n) (h1:n≤1073741824) :
  Calls Tryz.prog 13 #[.int .i64 n] w fun e w'=>e=.returned (.tuple #[.pointer (some ⟨w.heap.size+1,0,none⟩),.int .i64 0])∧w'=(w.alloc (.map #[] 0)).alloc (.cells #[.int .i64 n,.map (some w.heap.size),.bool false,.int .i64 0] 115):=by
 have hmm:=@run_makeMap Tryz.prog
 go_enter Tryz.func13,Tryz.ntmps13
 go_wp2
 go_ret2
 exact ⟨rfl,rfl⟩
theorem ok_fresh (n:Nat) (h:n≤1073741824):(zAA.fresh n).OK where
 srt:=srt_nil
 room:=h
 used:=Nat.zero_le _
 count:=Nat.zero_le _
 names p hp:=by simp [zAA.fresh] at hp
 lasts p hp:=by simp [zAA.fresh] at hp
 fuse k hk:=by simp [zAA.fresh] at hk
theorem new_calls (n:Int) (w:World) (h0:0≤n) (h1:n≤1073741824) :
  Calls Tryz.prog 13 #[.int .i64 n] w fun e w'=>∃ d own,e=.returned (.tuple #[.pointer (some ⟨d,0,none⟩),.int .i64 0])∧zBe w' d (zAA.fresh n.toNat) own∧Chg (fun _=>False) w w' ∧
   (∀ k,k < w.heap.size→own k=none):=by
 refine (new_walk n w h0 h1).mono ?_
 rintro e w' ⟨rfl,rfl⟩
 refine ⟨w.heap.size+1,fun k=>if k=w.heap.size+1 then some (0,[]) else if k=w.heap.size then some (1,[]) else none,rfl,⟨w.heap.size,0,[],?_⟩,((Chg.alloc w _).trans (Chg.alloc _ _) fun _ _ h=>h),fun k hk=>?_⟩
 ·have hs:(w.alloc (.map #[] 0)).heap.size=w.heap.size+1:=by simp
  refine ⟨?_,fun k hk=>by simp [zAA.fresh] at hk,?_,rfl,srt_nil,fun p hp=>by simp at hp,by simp,by simp,fun k t hk=>?_,ok_fresh _ (by omega)⟩
  ·have:=zAW (w.alloc (.map #[] 0)) (.cells #[.int .i64 n,.map (some w.heap.size),.bool false,.int .i64 0] 115)
   rw [hs] at this
   rw [this]
   simp only [zAA.fresh,Option.isSome_none]
   rw [show ((n.toNat:Int))=n by omega]
  ·exact (World.ownsMap_made w Tryz.prog 9 ptrR).alloc _
  ·split at hk
   ·simp;omega
   ·split at hk
    ·simp;omega
    ·cases hk
 ·simp only
  rw [if_neg (by omega),if_neg (by omega)]
/-! ### may -/
def zC2 (w:World) (p:Option Addr) (ss:List ByteArray):Prop :=
 ss=[]∨∃ b o,p=some ⟨b,o,none⟩∧∀ i s,ss[i]?=some s→w.cell? ⟨b,o+i,none⟩=some (.string s)
def nm (s:ByteArray):Bs:=s.data.toList
theorem zDU (s:ByteArray):(nm s).length=s.size:=by simp [nm]
def namesE (ss:List ByteArray):Int:=if (ss.map nm).all okN then 0 else 1
theorem okN_nm (s:ByteArray):okN (nm s)=(decide (1≤s.size) && decide (s.size≤64)):=by simp [okN,zDU]
theorem may_burnt (d:Nat) (p:Option Addr) (n c:Nat) (w:World) (h2:w.cell? ⟨d,2,none⟩=some (.bool true)) (h3:w.cell? ⟨d,3,none⟩=some (.int .i64 0)) :
  Calls Tryz.prog 65 #[.pointer (some ⟨d,0,none⟩),.slice p n c] w fun e w'=>e=.returned (.int .i64 9)∧w=w':=by
 go_enter Tryz.func65,Tryz.ntmps65
 go_wp2
 go_ret
 exact ⟨rfl,rfl⟩
theorem take_ok {ss:List ByteArray} {k:Nat} (hlt:k < ss.length) (h:((ss.take k).map nm).all okN=true) (hk:okN (nm ss[k])=true):((ss.take (k+1)).map nm).all okN=true:=by
 rw [List.take_succ_eq_append_getElem hlt,List.map_append,List.all_append,h]
 simp [hk]
theorem bad_at {ss:List ByteArray} {k:Nat} (hlt:k < ss.length) (hk:okN (nm ss[k])=false):namesE ss=1:=by
 have:(ss.map nm).all okN=false:=by
  rw [List.all_eq_false]
  exact ⟨nm ss[k],List.mem_map.2 ⟨_,List.getElem_mem hlt,rfl⟩,by rw [hk];simp⟩
 simp [namesE,this]
theorem may_names (d:Nat) (p:Option Addr) (ss:List ByteArray) (c:Nat) (w:World) (f:Bool) (l:Int) (h2:w.cell? ⟨d,2,none⟩=some (.bool f)) (h3:w.cell? ⟨d,3,none⟩=some (.int .i64 l))
  (hf:f=false∨l≠0) (hs:zC2 w p ss) (hm:ss.length≤140737488355328) (hsz:∀ s ∈ ss,s.size≤9223372036854775807) :
  Calls Tryz.prog 65 #[.pointer (some ⟨d,0,none⟩),.slice p ss.length c] w fun e w'=>e=.returned (.int .i64 (namesE ss))∧w=w':=by
 have hfl:f=false∨(f=true∧(l == 0)=false):=by
  cases f with
  | false=>exact .inl rfl
  | true =>
   rcases hf with h | h
   ·cases h
   ·exact .inr ⟨rfl,by simpa using h⟩
 clear hf
 rcases hfl with rfl | ⟨rfl,hl⟩
 all_goals
  go_enter Tryz.func65,Tryz.ntmps65
  go_wp2
  go_loop [24] (fun i=>∃ k:Nat,k≤ss.length∧i=.int .i64 k∧((ss.take k).map nm).all okN=true) (fun i=>ss.length - (intOf i).toNat)
  case atStart=>exact ⟨0,Nat.zero_le _,rfl,rfl⟩
  case round =>
   obtain ⟨k,hk,rfl,hall⟩:=hrel
   by_cases hlt:k < ss.length
   ·have hss:ss[k]?=some ss[k]:=List.getElem?_eq_getElem hlt
    rcases hs with h | ⟨b,o,rfl,hc⟩
    ·subst h
     simp at hlt
    have hcell:=hc k _ hss
    have hz:ss[k].size≤9223372036854775807:=hsz _ (List.getElem_mem hlt)
    have Hkey:=zh (take_ok hlt hall)
    have Hno:=zh (bad_at hlt)
    clear hc hsz hall hss
    rw [okN_nm] at Hkey Hno
    generalize ss[k]=s at *
    by_cases h1:1≤s.size
    ·by_cases h64:s.size≤64
     ·go_wp2
      go_round
      case rel=>exact ⟨k+1,by omega,by go_num,Hkey.out (by simp [h1,h64])⟩
      case measure=>simp [intOf];omega
     ·go_wp2
      go_ret
      exact ⟨by rw [Hno.out (by simp [h64])];rfl,rfl⟩
    ·go_wp2
     go_ret
     exact ⟨by rw [Hno.out (by simp [h1])];rfl,rfl⟩
   ·have Hall:=zh hall
    clear hall
    go_wp2
    go_ret
    have h:=Hall.out
    rw [List.take_of_length_le (by omega)] at h
    exact ⟨by simp [namesE,h],rfl⟩
theorem zBE {w:World} {d m:Nat} {left:Int} {L:List (Bs × FRep)} {own:Own} {D:zAA} (h:zAS w d m left L own D) (p:Option Addr) (ss:List ByteArray) (c:Nat)
  (hs:zC2 w p ss) (hm:ss.length≤140737488355328) (hsz:∀ s ∈ ss,s.size≤9223372036854775807) :
  Calls Tryz.prog 65 #[.pointer (some ⟨d,0,none⟩),.slice p ss.length c] w fun e w'=>e=.returned (.int .i64 (D.may (ss.map nm):Int))∧w=w':=by
 have h2:=h.c2
 have h3:=h.c3
 by_cases hb:D.fuse=some 0
 ·have hl:=h.left 0 hb
  rw [hb] at h2
  subst hl
  refine (may_burnt d p ss.length c w h2 h3).mono ?_
  rintro e w' ⟨rfl,rfl⟩
  exact ⟨by simp [zAA.may,hb],rfl⟩
 ·have hf:D.fuse.isSome=false∨left≠0:=by
   cases hfu:D.fuse with
   | none=>exact .inl rfl
   | some k =>
    refine .inr ?_
    rw [h.left k hfu]
    intro e
    have:k=0:=by omega
    subst this
    exact hb hfu
  refine (may_names d p ss c w _ left h2 h3 hf hs hm hsz).mono ?_
  rintro e w' ⟨rfl,rfl⟩
  refine ⟨?_,rfl⟩
  unfold namesE zAA.may
  rw [if_neg hb]
  split <;> rfl
/-! ### done -/
theorem done_walk (d:Nat) (w:World) (f:Bool) (l:Int) (h2:w.cell? ⟨d,2,none⟩=some (.bool f)) (h3:w.cell? ⟨d,3,none⟩=some (.int .i64 l)) (hz:w.frozen? ⟨d,3,none⟩=false) (h1:f=true→1≤l∧l≤9223372036854775807) :
  Calls Tryz.prog 68 #[.pointer (some ⟨d,0,none⟩)] w fun e w'=>e=.returned (.int .i64 0)∧(if f then w.setCell ⟨d,3,none⟩ (.int .i64 (l - 1)) else w)=w':=by
 cases f with
 | false =>
  go_enter Tryz.func68,Tryz.ntmps68
  go_wp2
  go_ret
  exact ⟨rfl,rfl⟩
 | true =>
  obtain ⟨hl,h9⟩:=h1 rfl
  clear h1
  go_enter Tryz.func68,Tryz.ntmps68
  go_wp2
  go_ret
  exact ⟨rfl,rfl⟩
theorem ok_done {D:zAA} (h:D.OK):D.done.OK where
 srt:=h.srt
 room:=h.room
 used:=h.used
 count:=h.count
 names:=h.names
 lasts:=h.lasts
 fuse k hk:=by
  simp only [zAA.done,Option.map_eq_some_iff] at hk
  obtain ⟨j,hj,rfl⟩:=hk
  have:=h.fuse j hj
  omega
theorem zCB {w:World} {d m:Nat} {left:Int} {L:List (Bs × FRep)} {own:Own} {D:zAA} (h:zAS w d m left L own D) (hf:D.fuse≠some 0) :
  Calls Tryz.prog 68 #[.pointer (some ⟨d,0,none⟩)] w fun e w'=>e=.returned (.int .i64 0)∧zBe w' d D.done own∧Chg (fun k=>k=d) w w':=by
 refine (done_walk d w _ left h.c2 h.c3 (zAI h.cells 3) ?_).mono ?_
 ·intro hs
  cases hfu:D.fuse with
  | none=>rw [hfu] at hs;cases hs
  | some k =>
   rw [h.left k hfu]
   have:k≠0:=fun e=>hf (by rw [hfu,e])
   have:=h.ok.fuse k hfu
   omega
 ·rintro e w' ⟨rfl,rfl⟩
  refine ⟨rfl,?_,?_⟩
  ·cases hfu:D.fuse with
   | none =>
    refine ⟨m,left,L,?_⟩
    have hd:D.done=D:=by
     cases D
     simp only at hfu
     subst hfu
     rfl
    rw [hd]
    exact h
   | some k =>
    refine ⟨m,left - 1,L,?_⟩
    simp only [Option.isSome_some,if_true]
    have hk:∀ j,j≠d→(w.setCell ⟨d,3,none⟩ (.int .i64 (left - 1))).heap[j]?=w.heap[j]?:=fun j hj=>zAE _ hj
    have hne:∀ j t,own j=some t→t≠(0,[])→j≠d:=fun j t hj ht e=>by
     rw [e,h.od] at hj
     exact ht (Option.some.inj hj).symm
    refine ⟨?_,?_,?_,h.files,h.srt,fun p hp=>?_,h.od,h.om,fun j t hj=>by simpa [World.setCell] using h.olt j t hj,ok_done h.ok⟩
    ·rw [zAO h.cells]
     simp [zAA.done,hfu]
    ·intro j hj
     simp only [zAA.done,hfu,Option.map_some,Option.some.injEq] at hj
     have h1:=h.left k hfu
     have:k≠0:=fun e=>hf (by rw [hfu,e])
     omega
    ·exact h.map.setCell h.dm_ne.symm _
    ·have hp':=h.file p hp
     refine ⟨(hk _ (hne _ _ hp'.ob (by simp))).trans hp'.cells,hp'.ob,hp'.row.keep fun g hg=>hk _ (hne _ _ (hp'.og g hg) (by simp)),hp'.og⟩
  ·split
   ·exact Chg.setCell w ⟨d,3,none⟩ _
   ·exact Chg.refl _ _
/-! ### Used -/
theorem zD4 {w:World} {d m:Nat} {left:Int} {L:List (Bs × FRep)} {own:Own} {D:zAA} (h:zAS w d m left L own D) :
  Calls Tryz.prog 67 #[.pointer (some ⟨d,0,none⟩)] w fun e w'=>e=.returned (.int .i64 (D.used:Int))∧Below w.heap.size w w':=by
 have h1:=h.c1
 obtain ⟨S,hS⟩:∃ S,S=D.used:=⟨_,rfl⟩
 have hSL:zBB (fun r:FRep=>r.f.data.length) L=S:=by rw [hS,h.used]
 have hbig:S≤1073741824:=by
  have:=h.ok.used
  have:=h.ok.room
  omega
 rw [← hS]
 have hown:=h.map
 have hsrt:=h.srt
 have hL:Hid (zAS w d m left L own D):=h
 clear h hS
 go_enter Tryz.func67,Tryz.ntmps67
 go_wp2_with (first | (at_range;refine wpList_range_own _ rfl _ 113 rfl 9 121 zBW Tryz.underlying113 ptrR m L.length (dm fbD L) rfl hown ?_;intro w0 hrg0 hg0 hs0))
 go_frame
 go_loopw [3] (fun acc wr=>∃ rest cnt,wr.ranges Tryz.prog 9 ptrR m w.heap.size L.length (dm fbD L) rest cnt∧(∃ k:Nat,acc=.int .i64 (k:Int)∧k+zBB (fun r:FRep=>r.f.data.length) (rem rest L)=S)∧Below w.heap.size w wr) (fun _ wr=>wr.rangeLeft m w.heap.size)
 case atStart =>
  refine ⟨_,_,hrg0,⟨0,rfl,?_⟩,(Below.refl _ _).grown hg0 (Nat.le_refl _) (fun _ e=>by cases e)⟩
  rw [show rem (Maps.has (dm fbD L)) L=L from rem_start _ L,hSL,Nat.zero_add]
 case round =>
  obtain ⟨rest,cnt,hrg,⟨k,rfl,hk⟩,hbel⟩:=hrel
  have Hk:=zh hk
  clear hk hrg0 hg0 hs0 hSL hown
  go_wp2_with (first | (at_next;refine zDC _ rfl _ rfl 9 Tryz.underlying9 zBW FRep.fb L m w.heap.size L.length _ _ rfl hrg ?_ ?_))
  ·intro hl
   have hS:k=S:=by
    have:=Hk.out
    rw [rem_end hl] at this
    simpa [zBB] using this
   subst hS
   go_wp2
   go_ret
   exact ⟨rfl,hbel⟩
  ·intro s x w1 cnt1 hgt hl hs hrg1 hlt hg1 hs1 hen
   have hx:=hL.out.file _ (zBM hgt)
   have hbel1:Below w.heap.size w w1:=hbel.grown hg1 hbel.size (fun j e=>by cases e;exact Nat.le_refl _)
   have hcell:w1.cell? ⟨x.fb,0,none⟩=some x.v:=(hbel1.cell (p:=⟨x.fb,0,none⟩) (zAt hx.cells)).trans (zAC hx.cells rfl)
   obtain ⟨p,c,hv⟩:∃ p c,x.v=.slice p x.f.data.length c:=by
    obtain ⟨_,p,c,hv,_⟩:=hx.row.holds
    exact ⟨p,c,hv⟩
   have hsum:=rem_sum (f:=fun r:FRep=>r.f.data.length) hsrt hgt hl
   have hle:k+x.f.data.length≤S:=by
    have:=Hk.out
    omega
   have hk1:k+x.f.data.length+zBB (fun r:FRep=>r.f.data.length) (rem (fun z=>rest z && !z.sameKey (.string s.data.toList)) L)=S:=by
    have:=Hk.out
    omega
   have Hk1:=zh hk1
   have Hm:=zh (show w1.rangeLeft m w.heap.size < wr.rangeLeft m w.heap.size by rw [hrg1.left_eq,hrg.left_eq];exact hlt)
   rw [hv] at hcell
   clear hk1 hsum hgt hl hg1 hs1 hlt hrg hbel hx hv Hk
   generalize x.f.data.length=j at *
   go_wp2
   go_roundw
   case rel=>exact ⟨_,_,hrg1,⟨k+j,by go_num,Hk1.out⟩,hbel1⟩
   case measure=>exact Hm.out
end Go.Proofs.YtapfnehdgailmaaGreat
namespace Go.Sat
theorem put_same {α:Type} {L:List (Bs × α)} (h:Srt L) {n:Bs} {a:α} (hg:get n L=some a):put n a L=L :=
 srt_ext (zBd h) h fun m=>by
  by_cases hm:m=n
  ·subst hm
   rw [zBy h,hg]
  ·rw [zB5 h a hm]
theorem dm_mp {H α:Type} (g:α→DataW H) (f:α→Nat) (hgf:∀ a b,f a=f b→g a=g b) {L M:List (Bs × α)} (h:mp f L=mp f M):dm g L=dm g M:=by
 have:∀ L M:List (Bs × α),mp f L=mp f M→L.map (fun p=>(Lit.string p.1,g p.2))=M.map (fun p=>(Lit.string p.1,g p.2)):=by
  intro L
  induction L with
  | nil =>
   intro M hM
   cases M with
   | nil=>rfl
   | cons y s=>simp [mp] at hM
  | cons x r ih =>
   intro M hM
   cases M with
   | nil=>simp [mp] at hM
   | cons y s =>
    simp only [mp,List.map_cons,List.cons.injEq,Prod.mk.injEq] at hM
    obtain ⟨⟨e1,e2⟩,e3⟩:=hM
    simp only [List.map_cons]
    rw [ih s e3,e1,hgf _ _ e2]
 unfold dm
 rw [this L M h]
end Go.Sat
namespace Go.Proofs.YtapfnehdgailmaaGreat
open Go.RowKit Go.Sat Go.Maps
theorem fbD_of {a b:FRep} (h:a.fb=b.fb):fbD a=fbD b:=by simp [fbD,h]
section
variable {w:World} {d m:Nat} {left:Int} {L:List (Bs × FRep)} {own:Own} {D:zAA}
theorem zAS.fileAt (h:zAS w d m left L own D) {n:Bs} {r:FRep} (hg:Sat.get n L=some r):FileAt w own n r:=h.file _ (zBM hg)
theorem zAS.ne_of (_h:zAS w d m left L own D) {j k:Nat} {s t:Nat × Bs} (hj:own j=some s) (hk:own k=some t) (hst:s≠t):j≠k:=fun e=>by
 rw [e,hk] at hj
 exact hst (Option.some.inj hj).symm
theorem zAS.upd (h:zAS w d m left L own D) {n:Bs} {r:FRep} (hg:Sat.get n L=some r) {w':World} {v':Value} {f':zAP}
  (hs:w.heap.size≤w'.heap.size) (hb:∀ k,k < w.heap.size→k≠r.fb→some k≠r.v.ownBlock→w'.heap[k]?=w.heap[k]?)
  (hc:w'.heap[r.fb]?=some (.cells #[v',.int .i64 (f'.lasts:Int)] 123 (0,0))) (hrow:OwnB w' 5 v' f'.data)
  (hloc:∀ g,v'.ownBlock=some g→r.v.ownBlock=some g∨w.heap.size≤g) (hok:zAA.OK { D with files:=put n f' D.files }) :
  ∃ own',zAS w' d m left (put n ⟨r.fb,v',f'⟩ L) own' { D with files:=put n f' D.files }∧Ext w own own':=by
 have hr:=h.fileAt hg
 have old:∀ g,v'.ownBlock=some g→own g=some (3,n)∨own g=none:=fun g hgv=>by
  rcases hloc g hgv with h1 | h1
  ·exact .inl (hr.og g h1)
  ·cases ho:own g with
   | none=>exact .inr rfl
   | some t=>have:=h.olt g t ho;omega
 have glt:∀ g,v'.ownBlock=some g→g < w'.heap.size:=fun g hgv=>OwnR.lt hrow hgv
 refine ⟨fun k=>if v'.ownBlock=some k then some (3,n) else own k,?_,fun k hk ho=>?_⟩
 ·have keep:∀ k t,own k=some t→t≠(2,n)→t≠(3,n)→w'.heap[k]?=w.heap[k]?:=fun k t hk h2 h3 =>
   hb k (h.olt k t hk) (fun e=>h2 (by rw [e,hr.ob] at hk;exact (Option.some.inj hk).symm)) (fun e=>h3 (by rw [hr.og k e.symm] at hk;exact (Option.some.inj hk).symm))
  have ownk:∀ k t,own k=some t→t≠(3,n)→(if v'.ownBlock=some k then some (3,n) else own k)=some t:=fun k t hk h3=>by
   rw [if_neg fun e=>?_,hk]
   rcases old k e with h1 | h1
   ·rw [hk] at h1
    exact h3 (Option.some.inj h1)
   ·rw [hk] at h1
    cases h1
  refine ⟨(keep d _ h.od (by simp) (by simp)).trans h.cells,h.left,?_,?_,zBd h.srt,?_,ownk d _ h.od (by simp),ownk m _ h.om (by simp),?_,hok⟩
  ·have e1:mp FRep.fb (put n ⟨r.fb,v',f'⟩ L)=mp FRep.fb L:=by
    rw [mp_put]
    exact put_same (mp_srt h.srt) (by rw [mp_get,hg];rfl)
   have e2:(put n (⟨r.fb,v',f'⟩:FRep) L).length=L.length:=by rw [← mp_len FRep.fb,e1,mp_len]
   rw [dm_mp fbD FRep.fb (fun _ _=>fbD_of) e1,e2]
   obtain ⟨es,clock,hm,rest⟩:=h.map
   exact ⟨es,clock,(keep m _ h.om (by simp) (by simp)).trans hm,rest⟩
  ·rw [mp_put,← h.files]
  ·intro p hp
   rcases zBH.1 hp with rfl | ⟨hp,hne⟩
   ·refine ⟨hc,ownk _ _ hr.ob (by simp),hrow,fun g hgv=>?_⟩
    show (if v'.ownBlock=some g then some (3,n) else own g)=some (3,n)
    rw [if_pos hgv]
   ·have hp':=h.file p hp
    refine ⟨(keep _ _ hp'.ob (by simpa using hne) (by simp)).trans hp'.cells,ownk _ _ hp'.ob (by simp),hp'.row.keep fun g hgv=>keep g _ (hp'.og g hgv) (by simp) (by simpa using hne),fun g hgv=>ownk _ _ (hp'.og g hgv) (by simpa using hne)⟩
  ·intro k t hk
   split at hk
   ·rename_i e
    exact glt k e
   ·exact Nat.lt_of_lt_of_le (h.olt k t hk) hs
 ·show (if v'.ownBlock=some k then some (3,n) else own k)=none
  rw [if_neg fun e=>?_,ho]
  rcases hloc k e with h1 | h1
  ·rw [hr.og k h1] at ho
   cases ho
  ·omega
theorem zAS.add (h:zAS w d m left L own D) {n:Bs} (_hg:Sat.get n L=none) {w':World} {r:FRep} (hs:w.heap.size≤w'.heap.size) (hb:∀ k,k < w.heap.size→k≠m→w'.heap[k]?=w.heap[k]?)
  (hm:∃ q,w'.ownsMap Tryz.prog 9 ptrR m q ((dm fbD L).put (.string n) (fbD r)))
  (hc:w'.heap[r.fb]?=some (.cells #[r.v,.int .i64 (r.f.lasts:Int)] 123 (0,0))) (hn:w.heap.size≤r.fb) (hrow:OwnB w' 5 r.v r.f.data) (hv:∀ g,r.v.ownBlock=some g→w.heap.size≤g∧g≠r.fb)
  (hok:zAA.OK { D with files:=put n r.f D.files }) :
  ∃ own',zAS w' d m left (put n r L) own' { D with files:=put n r.f D.files }∧Ext w own own':=by
 have none_ge:∀ k,w.heap.size≤k→own k=none:=fun k hk=>by
  cases ho:own k with
  | none=>rfl
  | some t=>have:=h.olt k t ho;omega
 refine ⟨fun k=>if k=r.fb then some (2,n) else if r.v.ownBlock=some k then some (3,n) else own k,?_,fun k hk ho=>?_⟩
 ·have ownk:∀ k t,own k=some t→(if k=r.fb then some (2,n) else if r.v.ownBlock=some k then some (3,n) else own k)=some t:=fun k t hk=>by
   have:=h.olt k t hk
   rw [if_neg (by omega),if_neg (fun e=>by have:=(hv k e).1;omega),hk]
  have keep:∀ k t,own k=some t→t≠(1,[])→w'.heap[k]?=w.heap[k]?:=fun k t hk h1=>hb k (h.olt k t hk) fun e=>h1 (by rw [e,h.om] at hk;exact (Option.some.inj hk).symm)
  refine ⟨(keep d _ h.od (by simp)).trans h.cells,h.left,?_,?_,zBd h.srt,?_,ownk d _ h.od,ownk m _ h.om,?_,hok⟩
  ·obtain ⟨q,hq⟩:=hm
   rw [dm_put] at hq
   have:=exactly hq
   rwa [dm_size] at this
  ·rw [mp_put,← h.files]
  ·intro p hp
   rcases zBH.1 hp with rfl | ⟨hp,hne⟩
   ·refine ⟨hc,by simp,hrow,fun g hgv=>?_⟩
    show (if g=r.fb then some (2,n) else if r.v.ownBlock=some g then some (3,n) else own g)=some (3,n)
    rw [if_neg (hv g hgv).2,if_pos hgv]
   ·have hp':=h.file p hp
    exact ⟨(keep _ _ hp'.ob (by simp)).trans hp'.cells,ownk _ _ hp'.ob,hp'.row.keep fun g hgv=>keep g _ (hp'.og g hgv) (by simp),fun g hgv=>ownk _ _ (hp'.og g hgv)⟩
  ·intro k t hk
   split at hk
   ·rename_i e
    rw [e]
    exact zAt hc
   ·split at hk
    ·rename_i e
     exact OwnR.lt hrow e
    ·exact Nat.lt_of_lt_of_le (h.olt k t hk) hs
 ·show (if k=r.fb then some (2,n) else if r.v.ownBlock=some k then some (3,n) else own k)=none
  rw [if_neg (by omega),if_neg (fun e=>by have:=(hv k e).1;omega),ho]
theorem zAS.remap (h:zAS w d m left L own D) {w':World} {L':List (Bs × FRep)} {D':zAA} (hs:w.heap.size≤w'.heap.size) (hb:∀ k,k < w.heap.size→k≠m→w'.heap[k]?=w.heap[k]?)
  (hm:∃ q,w'.ownsMap Tryz.prog 9 ptrR m q (dm fbD L')) (hL:Srt L') (hroom:D'.room=D.room) (hfuse:D'.fuse=D.fuse) (hfiles:D'.files=mp FRep.f L') (hok:D'.OK)
  (hfrom:∀ p ∈ L',∃ q ∈ L,q.2=p.2) (hone:∀ p ∈ L',∀ q ∈ L',p.2.fb=q.2.fb→p=q) :
  ∃ own',zAS w' d m left L' own' D'∧Ext w own own':=by
 classical
 -- a name for each block that a file of L' has
 let nameOf:Bs→Option Bs:=fun n=>(L'.find? fun p=>L.any fun q=>decide (q.1=n∧q.2.fb=p.2.fb)).map (·.1)
 have uniq:∀ p ∈ L',∀ q ∈ L,q.2=p.2→nameOf q.1=some p.1:=by
  intro p hp q hq e
  have hex:∃ y,(L'.find? fun p=>L.any fun q'=>decide (q'.1=q.1∧q'.2.fb=p.2.fb))=some y:=by
   rw [← Option.isSome_iff_exists,List.find?_isSome]
   exact ⟨p,hp,List.any_eq_true.2 ⟨q,hq,by simp [e]⟩⟩
  obtain ⟨y,hy⟩:=hex
  have h1:=List.find?_some hy
  have h2:=List.mem_of_find?_eq_some hy
  obtain ⟨q',hq',e'⟩:=List.any_eq_true.1 h1
  simp only [decide_eq_true_eq] at e'
  have hqq:q'=q:=zDn h.srt hq' hq e'.1
  have:y=p:=hone y h2 p hp (by rw [← e'.2,hqq,e])
  show (L'.find? fun p=>L.any fun q'=>decide (q'.1=q.1∧q'.2.fb=p.2.fb)).map (·.1)=some p.1
  rw [hy,this]
  rfl
 refine ⟨fun k=>match own k with
  | some (0,s)=>some (0,s)
  | some (1,s)=>some (1,s)
  | some (t,s)=>(nameOf s).map fun s'=>(t,s')
  | none=>none,?_,fun k _ ho=>by simp only [ho]⟩
 have keep:∀ k t,own k=some t→t≠(1,[])→w'.heap[k]?=w.heap[k]?:=fun k t hk h1=>hb k (h.olt k t hk) fun e=>h1 (by rw [e,h.om] at hk;exact (Option.some.inj hk).symm)
 refine ⟨?_,fun k hk=>h.left k (by rw [← hfuse];exact hk),?_,hfiles,hL,?_,by simp only [h.od],by simp only [h.om],?_,hok⟩
 ·rw [keep d _ h.od (by simp),h.cells,hroom,hfuse]
 ·obtain ⟨q,hq⟩:=hm
  have:=exactly hq
  rwa [dm_size] at this
 ·intro p hp
  obtain ⟨q,hq,e⟩:=hfrom p hp
  have hq':=h.file q hq
  have hn:=uniq p hp q hq e
  rw [e] at hq'
  refine ⟨(keep _ _ hq'.ob (by simp)).trans hq'.cells,?_,hq'.row.keep fun g hgv=>keep g _ (hq'.og g hgv) (by simp),fun g hgv=>?_⟩
  ·simp only [hq'.ob,hn]
   rfl
  ·simp only [hq'.og g hgv,hn]
   rfl
 ·intro k t hk
  cases ho:own k with
  | none=>simp only [ho] at hk;cases hk
  | some s=>exact Nat.lt_of_lt_of_le (h.olt k s ho) hs
end
end Go.Proofs.YtapfnehdgailmaaGreat
