/- The document's disk: may, did, Used, Fuse, New, Read; where names stand. DiskNames: what the disk keeps (a plain law). DiskNames: the walk. The document's disk: Used, Read, List. The contracts of the document's Reader (satrapyref1), with the set of blocks in which its bytes lie. The document's Reader: Num, Bytes. The document's ReadList (satrapyref5). The document's ReadEntry and reads: plain laws (what its list of nodes says is what the program's says). The contract of satrapylaw4.known: it is true. KeepApart: what the disk keeps (a plain law). -/
import Derived.Test.YtapfnehdgailmaaGreatGD
import Derived.Test.YtapfnehdgailmaaGreatGE
import Derived.Test.YtapfnehdgailmaaGreatGG
import Derived.Test.YtapfnehdgailmaaGreatGK
import Derived.Test.YtapfnehdgailmaaGreatGM
set_option maxRecDepth 100000
set_option maxHeartbeats 64000000
namespace Go.Proofs.YtapfnehdgailmaaGreat
open Go.RowKit Go.Sat Go.Maps
/-! ### Where names stand -/
section
variable {α:Type}
theorem key_ne {n m:Bs} (h:n≠m):(n == m)=false:=by simpa using h
theorem zEh (n m:Bs) (a:α) (r:List (Bs × α)):Sat.get n ((m,a) :: r)=if m=n then some a else Sat.get n r:=by
 unfold Sat.get
 rw [List.find?_cons]
 by_cases e:m=n
 ·rw [if_pos e]
  simp [e]
 ·rw [if_neg e]
  simp [key_ne e]
theorem del_cons (n m:Bs) (a:α) (r:List (Bs × α)):del n ((m,a) :: r)=if m=n then del n r else (m,a) :: del n r:=by
 unfold del
 rw [List.filter_cons]
 by_cases e:m=n
 ·rw [if_pos e]
  simp [e]
 ·rw [if_neg e]
  simp [key_ne e]
theorem srt_after {n m:Bs} {a:α} {r:List (Bs × α)} (h:Srt ((m,a) :: r)) (hb:bytesBefore m n=false):∀ p ∈ r,p.1≠n∧bytesBefore n p.1=true:=by
 intro p hp
 have h1:=(List.pairwise_cons.1 h).1 p hp
 have h1:bytesBefore m p.1=true:=h1
 by_cases e:m=n
 ·subst e
  exact ⟨(bb_ne h1).symm,h1⟩
 ·rcases bb_total m n e with h2 | h2
  ·rw [hb] at h2;cases h2
  ·have h3:=zEY h2 h1
   exact ⟨(bb_ne h3).symm,h3⟩
theorem zEx (n:Bs):∀ {L:List (Bs × α)},Srt L→isAt n (L.map (·.1))=(Sat.get n L).isSome∧∀ a,Sat.get n L=some a→L[zAo n (L.map (·.1))]?=some (n,a)
 | [],_=>⟨rfl,fun a h=>by cases h⟩
 | (m,a) :: r,h=>by
  have hr:Srt r:=(List.pairwise_cons.1 h).2
  obtain ⟨h1,h2⟩:=zEx n hr
  cases hb:bytesBefore m n with
  | true =>
   have e:m≠n:=bb_ne hb
   have es:zAo n (((m,a) :: r).map (·.1))=zAo n (r.map (·.1))+1:=zDF hb
   rw [zEh,if_neg e]
   refine ⟨?_,fun x hx=>?_⟩
   ·rw [← h1]
    unfold isAt
    rw [es]
    rfl
   ·rw [es]
    exact h2 x hx
  | false =>
   have es:zAo n (((m,a) :: r).map (·.1))=0:=zED hb
   by_cases e:m=n
   ·subst e
    rw [zEh,if_pos rfl]
    refine ⟨?_,fun x hx=>?_⟩
    ·unfold isAt
     rw [es]
     simp
    ·rw [es]
     cases hx
     rfl
   ·have hg:Sat.get n r=none:=zCH.2 fun p hp=>(srt_after h hb p hp).1
    rw [zEh,if_neg e,hg]
    refine ⟨?_,fun x hx=>by cases hx⟩
    unfold isAt
    rw [es]
    simp [e]
theorem del_after {n m:Bs} {a:α} {r:List (Bs × α)} (h:Srt ((m,a) :: r)) (hb:bytesBefore m n=false):del n r=r:=zCa (zCH.2 fun p hp=>(srt_after h hb p hp).1)
theorem del_at (n:Bs):∀ {L:List (Bs × α)},Srt L→isAt n (L.map (·.1))=true→del n L=L.take (zAo n (L.map (·.1))) ++ L.drop (zAo n (L.map (·.1))+1)
 | [],_,h=>by cases h
 | (m,a) :: r,h,ha=>by
  have hr:Srt r:=(List.pairwise_cons.1 h).2
  cases hb:bytesBefore m n with
  | true =>
   have es:zAo n (((m,a) :: r).map (·.1))=zAo n (r.map (·.1))+1:=zDF hb
   have ha':isAt n (r.map (·.1))=true:=by
    rw [← ha]
    unfold isAt
    rw [es]
    rfl
   rw [del_cons,if_neg (bb_ne hb),es,List.take_succ_cons,List.drop_succ_cons,del_at n hr ha']
   rfl
  | false =>
   have es:zAo n (((m,a) :: r).map (·.1))=0:=zED hb
   have e:m=n:=by
    unfold isAt at ha
    rw [es] at ha
    simpa using ha
   rw [del_cons,if_pos e,es,del_after h hb]
   rfl
theorem ins_at (n:Bs) (f:α):∀ {L:List (Bs × α)},Srt L→Sat.get n L=none→ins (n,f) L=L.take (zAo n (L.map (·.1))) ++ (n,f) :: L.drop (zAo n (L.map (·.1)))
 | [],_,_=>rfl
 | (m,a) :: r,h,hg=>by
  have hr:Srt r:=(List.pairwise_cons.1 h).2
  have hne:m≠n:=fun e=>by rw [zEh,if_pos e] at hg;cases hg
  cases hb:bytesBefore m n with
  | true =>
   have es:zAo n (((m,a) :: r).map (·.1))=zAo n (r.map (·.1))+1:=zDF hb
   have hb2:bytesBefore n m=false:=by
    cases h2:bytesBefore n m with
    | false=>rfl
    | true =>
     have:=zEY h2 hb
     rw [zEX] at this
     cases this
   rw [zEh,if_neg hne] at hg
   show (if bytesBefore n m then _ else _)=_
   rw [if_neg (by simp [hb2]),es,List.take_succ_cons,List.drop_succ_cons,ins_at n f hr hg]
   rfl
  | false =>
   have es:zAo n (((m,a) :: r).map (·.1))=0:=zED hb
   have hb2:bytesBefore n m=true:=by
    rcases bb_total m n hne with h2 | h2
    ·rw [hb] at h2;cases h2
    ·exact h2
   show (if bytesBefore n m then _ else _)=_
   rw [if_pos hb2,es]
   rfl
theorem put_at (n:Bs) (f:α):∀ {L:List (Bs × α)},Srt L→isAt n (L.map (·.1))=true→put n f L=L.set (zAo n (L.map (·.1))) (n,f)
 | [],_,h=>by cases h
 | (m,a) :: r,h,ha=>by
  have hr:Srt r:=(List.pairwise_cons.1 h).2
  cases hb:bytesBefore m n with
  | true =>
   have es:zAo n (((m,a) :: r).map (·.1))=zAo n (r.map (·.1))+1:=zDF hb
   have ha':isAt n (r.map (·.1))=true:=by
    rw [← ha]
    unfold isAt
    rw [es]
    rfl
   have hb2:bytesBefore n m=false:=by
    cases h2:bytesBefore n m with
    | false=>rfl
    | true =>
     have:=zEY h2 hb
     rw [zEX] at this
     cases this
   rw [es,List.set_cons_succ,← put_at n f hr ha']
   show ins (n,f) (del n ((m,a) :: r))=_
   rw [del_cons,if_neg (bb_ne hb)]
   show (if bytesBefore n m then _ else _)=_
   rw [if_neg (by simp [hb2])]
   rfl
  | false =>
   have es:zAo n (((m,a) :: r).map (·.1))=0:=zED hb
   have e:m=n:=by
    unfold isAt at ha
    rw [es] at ha
    simpa using ha
   rw [es,List.set_cons_zero]
   show ins (n,f) (del n ((m,a) :: r))=_
   rw [del_cons,if_pos e,del_after h hb]
   cases r with
   | nil=>rfl
   | cons p q =>
    have:=(srt_after h hb p (List.mem_cons_self ..)).2
    show (if bytesBefore n p.1 then _ else _)=_
    rw [if_pos this]
end
section
variable {w:World} {r:Nat} {v:Value} {L:List zAN} {own:Nat→Prop} {D:zAB}
theorem zAY.names (h:zAY w r v L own D):L.map zAN.n=D.files.map (·.1):=by
 rw [h.files,List.map_map]
 rfl
theorem zAY.is (h:zAY w r v L own D) (n:Bs):isAt n (L.map zAN.n)=(Sat.get n D.files).isSome:=by
 rw [h.names]
 exact (zEx n h.ok.srt).1
theorem zAY.hit (h:zAY w r v L own D) {n:Bs} {f:zAV} (hg:Sat.get n D.files=some f):∃ x,L[zAo n (L.map zAN.n)]?=some x∧x.n=n∧x.f=f:=by
 have h1:=(zEx n h.ok.srt).2 f hg
 rw [h.names]
 rw [h.files] at h1 ⊢
 rw [List.getElem?_map] at h1
 cases hx:L[zAo n (List.map (fun x=>x.fst) (List.map zAN.key L))]? with
 | none=>rw [hx] at h1;cases h1
 | some x =>
  rw [hx] at h1
  have:=Option.some.inj h1
  exact ⟨x,rfl,congrArg Prod.fst this,congrArg Prod.snd this⟩
end
/-! ### may,did -/
theorem rmay_burnt (d:Nat) (p:Option Addr) (n c:Nat) (w:World) (h2:w.cell? ⟨d,2,none⟩=some (.int .i64 0)) :
  Calls Tryz.prog 69 #[.pointer (some ⟨d,0,none⟩),.slice p n c] w fun e w'=>e=.returned (.int .i64 9)∧w=w':=by
 go_enter Tryz.func69,Tryz.ntmps69
 go_wp2
 go_ret
 exact ⟨rfl,rfl⟩
theorem rmay_names (d:Nat) (p:Option Addr) (ss:List ByteArray) (c:Nat) (w:World) (l:Int) (h2:w.cell? ⟨d,2,none⟩=some (.int .i64 l))
  (hl:(l == 0)=false) (hs:zDj w p ss) (hm:ss.length≤140737488355328) (hsz:∀ s ∈ ss,s.size≤9223372036854775807) :
  Calls Tryz.prog 69 #[.pointer (some ⟨d,0,none⟩),.slice p ss.length c] w fun e w'=>e=.returned (.int .i64 (namesE ss))∧w=w':=by
 go_enter Tryz.func69,Tryz.ntmps69
 go_wp2
 go_loop [5] (fun i=>∃ k:Nat,k≤ss.length∧i=.int .i64 k∧((ss.take k).map nm).all okN=true) (fun i=>ss.length - (intOf i).toNat)
 case atStart=>exact ⟨0,Nat.zero_le _,rfl,rfl⟩
 case round =>
  obtain ⟨k,hk,rfl,hall⟩:=hrel
  by_cases hlt:k < ss.length
  ·have hss:ss[k]?=some ss[k]:=List.getElem?_eq_getElem hlt
   rcases hs with h | ⟨b,o,rfl,hc⟩
   ·subst h
    simp at hlt
   have hcell:=hc k _ hss
   have hz:ss[k].size≤9223372036854775807:=hsz _ (List.getElem_mem hlt)
   have Hkey:=zh (take_ok hlt hall)
   have Hno:=zh (bad_at hlt)
   clear hc hsz hall hss
   rw [okN_nm] at Hkey Hno
   generalize ss[k]=s at *
   by_cases h1:1≤s.size
   ·by_cases h64:s.size≤64
    ·go_wp2
     go_round
     case rel=>exact ⟨k+1,by omega,by go_num,Hkey.out (by simp [h1,h64])⟩
     case measure=>simp [intOf];omega
    ·go_wp2
     go_ret
     exact ⟨by rw [Hno.out (by simp [h64])];rfl,rfl⟩
   ·go_wp2
    go_ret
    exact ⟨by rw [Hno.out (by simp [h1])];rfl,rfl⟩
  ·have Hall:=zh hall
   clear hall
   go_wp2
   go_ret
   have h:=Hall.out
   rw [List.take_of_length_le (by omega)] at h
   exact ⟨by simp [namesE,h],rfl⟩
section
variable {w:World} {r:Nat} {v:Value} {L:List zAN} {own:Nat→Prop} {D:zAB}
theorem left_zero {f:Option Nat} (h:f≠some 0):(leftOf f == 0)=false:=by
 cases f with
 | none=>rfl
 | some k =>
  have:k≠0:=fun e=>h (by rw [e])
  simp [leftOf]
  omega
theorem zBs (h:zAY w r v L own D) (p:Option Addr) (ss:List ByteArray) (c:Nat) (hs:zDj w p ss) (hm:ss.length≤140737488355328) (hsz:∀ s ∈ ss,s.size≤9223372036854775807) :
  Calls Tryz.prog 69 #[.pointer (some ⟨r,0,none⟩),.slice p ss.length c] w fun e w'=>e=.returned (.int .i64 (D.may (ss.map nm):Int))∧w=w':=by
 have h2:=h.c2
 by_cases hb:D.fuse=some 0
 ·rw [hb] at h2
  refine (rmay_burnt r p ss.length c w h2).mono ?_
  rintro e w' ⟨rfl,rfl⟩
  exact ⟨by simp [zAB.may,hb],rfl⟩
 ·refine (rmay_names r p ss c w _ h2 (left_zero hb) hs hm hsz).mono ?_
  rintro e w' ⟨rfl,rfl⟩
  refine ⟨?_,rfl⟩
  unfold namesE zAB.may
  rw [if_neg hb]
  split <;> rfl
theorem zAY.fuse_set (h:zAY w r v L own D) (f:Option Nat) (hf:∀ k,f=some k→k≤9223372036854775807):zAY (w.setCell ⟨r,2,none⟩ (.int .i64 (leftOf f))) r v L own { D with fuse:=f } where
 cells:=zAE h.cells 2 _
 row:=h.row.keep fun k hk=>set_other _ (h.ov k hk).2
 files:=h.files
 data:=fun x hx=>OwnR.keep (h.data x hx) fun k hk=>set_other _ (h.ob x hx k hk).2.1
 or:=h.or
 ov:=h.ov
 ob:=h.ob
 olt:=fun k hk=>by
  have:=h.olt k hk
  simpa [World.setCell] using this
 ok:={ h.ok with fuse:=hf }
theorem zDL {a:Addr} {u:Value} (h:own a.block):Chg own w (w.setCell a u):=(Chg.setCell w a u).mono fun k _ e=>by rw [e];exact h
theorem zCB (h:zAY w r v L own D) (hf:D.fuse≠some 0) :
  Calls Tryz.prog 72 #[.pointer (some ⟨r,0,none⟩)] w fun e w'=>e=.returned (.int .i64 0)∧zAY w' r v L own D.done∧Chg own w w':=by
 have c2:=h.c2
 have hz:=zAF h.cells 2
 cases hfu:D.fuse with
 | none =>
  rw [hfu] at c2
  have hD:D.done=D:=by unfold zAB.done;rw [hfu];cases D;simp at hfu;subst hfu;rfl
  have Hf:=zh (show zAY w r v L own D.done∧Chg own w w from ⟨by rw [hD];exact h,Chg.refl _ _⟩)
  have c2':w.cell? ⟨r,2,none⟩=some (.int .i64 (-1)):=c2
  clear h hf hfu hD c2
  go_enter Tryz.func72,Tryz.ntmps72
  go_wp2
  go_ret
  exact ⟨rfl,Hf.out⟩
 | some k =>
  rw [hfu] at c2
  have hk0:k≠0:=fun e=>hf (by rw [hfu,e])
  have hkm:k≤9223372036854775807:=h.ok.fuse k hfu
  have hD:D.done={ D with fuse:=some (k - 1) }:=by unfold zAB.done;rw [hfu];rfl
  have h2:=h.fuse_set (some (k - 1)) (fun j e=>by have:=Option.some.inj e;omega)
  have e1:leftOf (some (k - 1))=(k:Int) - 1:=by show ((k - 1:Nat):Int)=_;omega
  rw [e1,← hD] at h2
  have Hf:=zh (And.intro h2 (zDL (w:=w) (a:=⟨r,2,none⟩) (u:=.int .i64 ((k:Int) - 1)) h.or))
  have c2':w.cell? ⟨r,2,none⟩=some (.int .i64 (k:Int)):=c2
  clear h hf hfu hD c2 h2 e1
  go_enter Tryz.func72,Tryz.ntmps72
  go_wp2
  go_ret
  exact ⟨rfl,Hf.out⟩
end
theorem rnew_calls (w:World) (n:Int) (h0:0≤n) (h1:n≤1073741824) :
  Calls Tryz.prog 14 #[.int .i64 n] w fun e w'=>∃ r,e=.returned (.tuple #[.pointer (some ⟨r,0,none⟩),.int .i64 0])∧zAY w' r (.slice none 0 0) [] (fun k=>k=r) (zAB.fresh n.toNat)∧Below w.heap.size w w'∧w.heap.size≤r:=by
 obtain ⟨m,rfl⟩:∃ m:Nat,n=(m:Int):=⟨n.toNat,by omega⟩
 go_enter Tryz.func14,Tryz.ntmps14
 go_wp2
 go_ret2
 refine ⟨w.heap.size,rfl,?_,(Below.refl _ _).alloc (Nat.le_refl _) _,Nat.le_refl _⟩
 exact {
  cells:=zAI w _
  row:=OwnR.nil _ _ _
  files:=rfl
  data:=fun x hx=>by cases hx
  or:=rfl
  ov:=fun k hk=>by cases hk
  ob:=fun x hx=>by cases hx
  olt:=fun k hk=>by rw [hk];simp
  ok:=zDU _ (by rw [Int.toNat_natCast];omega) }
theorem OwnN.has {w:World} {v:Value} {ns:List Bs} (h:OwnN w v ns):HasN w v ns:=OwnR.holds h
theorem zAp {wa:World} {v v':Value} {B:Nat} (hloc:v'.ownBlock=v.ownBlock∨∃ g,v'.ownBlock=some g∧wa.heap.size≤g) (hv:∀ k,v.ownBlock=some k→B≤k) (hB:B≤wa.heap.size):∀ k,v'.ownBlock=some k→B≤k:=fun k hk=>by
 rcases hloc with e | ⟨g,e,hge⟩
 ·exact hv k (by rw [← e];exact hk)
 ·rw [e] at hk
  cases hk
  omega
theorem HasN.below {w w1:World} {v:Value} {l:List Bs} (h:HasN w v l) (hb:Below w.heap.size w w1):HasN w1 v l:=zAL.chg h (Chg.of_below hb) fun _ _=>id
theorem alloc_was (w:World) (o:Obj) {k:Nat} (h:k < w.heap.size):(w.alloc o).heap[k]?=w.heap[k]?:=((Below.refl w.heap.size w).alloc (Nat.le_refl _) o).block k h
def zEe (L:List zAN):Nat:=(L.map fun x=>x.f.data.length).sum
theorem flens_take (L:List zAN) {k:Nat} {x:zAN} (h:L[k]?=some x):zEe (L.take (k+1))=zEe (L.take k)+x.f.data.length:=by
 obtain ⟨hk,rfl⟩:=List.getElem?_eq_some_iff.1 h
 rw [List.take_succ_eq_append_getElem hk]
 simp only [zEe,List.map_append,List.map_cons,List.map_nil,List.sum_append,List.sum_cons,List.sum_nil,Nat.add_zero]
theorem flens_le (L:List zAN) (k:Nat):zEe (L.take k)≤zEe L:=by
 have e:zEe L=zEe (L.take k)+zEe (L.drop k):=by
  conv=>lhs;rw [← List.take_append_drop k L]
  simp only [zEe,List.map_append,List.sum_append]
 omega
section
variable {w:World} {r:Nat} {v:Value} {L:List zAN} {own:Nat→Prop} {D:zAB}
theorem zAY.used (h:zAY w r v L own D):D.used=zEe L:=by
 unfold zAB.used zBN zEe
 rw [h.files,List.map_map]
 rfl
theorem zAY.len_le (h:zAY w r v L own D) {k:Nat} {x:zAN} (hx:L[k]?=some x):x.f.data.length≤1073741824:=by
 have h1:=flens_take L hx
 have h2:=flens_le L (k+1)
 have h3:=h.used
 have h4:=h.ok.used
 have h5:=h.ok.room
 omega
theorem zEP (h:zAY w r v L own D) :
  Calls Tryz.prog 71 #[.pointer (some ⟨r,0,none⟩)] w fun e w'=>e=.returned (.int .i64 (D.used:Int))∧w'=w:=by
 obtain ⟨p,c,rfl⟩:=h.slice
 have c1:=h.c1
 have Hat:=zh h.at
 have Hda:=zh h.data
 have hcount:L.length≤4096:=by rw [h.len];exact h.ok.count
 have Hus:=zh h.used
 have hub:D.used≤1073741824:=Nat.le_trans h.ok.used h.ok.room
 rw [h.used] at hub ⊢
 have Hub:=zh hub
 clear h hub
 generalize hN:L.length=N at *
 have HN:=zh hN
 clear hN
 go_enter Tryz.func71,Tryz.ntmps71
 go_wp2_with fail
 go_loop [3,4] (fun a i=>∃ k:Nat,k≤N∧i=.int .i64 k∧a=.int .i64 (zEe (L.take k):Int)) (fun _ i=>N - (intOf i).toNat)
 case atStart=>exact ⟨0,Nat.zero_le _,rfl,rfl⟩
 case round =>
  obtain ⟨k,hk,rfl,rfl⟩:=hrel
  by_cases hlt:k < N
  ·have hkl:k < L.length:=by rw [HN.out];exact hlt
   obtain ⟨y,hy⟩:∃ y,L[k]?=some y:=⟨_,List.getElem?_eq_getElem hkl⟩
   have hym:y ∈ L:=List.mem_of_getElem? hy
   rcases Hat.out with h0 | ⟨g,c1,e1,-,hc⟩
   ·rw [h0] at hkl
    simp at hkl
   cases e1
   obtain ⟨-,hn1,-⟩:=hc k y hy
   obtain ⟨pb,cb,eb⟩:=HasB.slice (Hda.out y hym).has
   rw [eb] at hn1
   have hl:=flens_take L hy
   have hle:=flens_le L (k+1)
   have Hl:=zh hl
   have hb1:zEe (L.take k)+y.f.data.length≤1073741824:=by have:=Hub.out;omega
   clear hc hkl hy hym eb hl hle
   generalize y.f.data.length=m at *
   generalize hC:zEe (L.take k)=C at *
   go_wp2_with fail
   go_round
   case rel=>exact ⟨k+1,by omega,by go_num,by rw [Hl.out];go_num⟩
   case measure=>simp [intOf];omega
  ·have e:L.take k=L:=List.take_of_length_le (by rw [HN.out];omega)
   rw [e]
   go_wp2_with fail
   go_ret
   exact ⟨rfl,rfl⟩
theorem zCE (h:zAY w r v L own D) (s:ByteArray) :
  Calls Tryz.prog 81 #[.pointer (some ⟨r,0,none⟩),.string s] w (ReadPost w (Sat.get (nm s) D.files)):=by
 have hsp:=zBU h s
 rw [h.is] at hsp
 have c1:=h.c1
 cases hg:Sat.get (nm s) D.files with
 | none =>
  rw [hg] at hsp
  have Hsp:=zh hsp
  clear hsp c1 h
  go_enter Tryz.func81,Tryz.ntmps81
  go_wp2_with fail
  refine Hsp.out.mono ?_
  rintro e w2 ⟨rfl,q,rfl⟩
  go_wp2_with fail
  go_ret2
  exact ⟨.slice none 0 0,rfl,OwnR.nil _ _ _,fun k hk=>(by cases hk),⟨rfl,rfl,rfl,Nat.le_refl _,fun _ _=>rfl⟩⟩
 | some f =>
  rw [hg] at hsp
  obtain ⟨x,hx,hxn,rfl⟩:=h.hit hg
  have hlm:=h.len_le hx
  have hd:=(h.data x (List.mem_of_getElem? hx)).has
  have hN:zAo (nm s) (L.map zAN.n) < L.length:=(List.getElem?_eq_some_iff.1 hx).1
  generalize zAo (nm s) (L.map zAN.n)=i at *
  rcases h.at with h0 | ⟨g,c0,rfl,hlc,hc⟩
  ·rw [h0] at hN
   simp at hN
  obtain ⟨-,hn1,-⟩:=hc i x hx
  obtain ⟨pb,cb,eb⟩:=HasB.slice hd
  rw [eb] at hn1 hd
  have hrlt:r < w.heap.size:=h.olt r h.or
  have hglt:g < w.heap.size:=h.olt g (h.ov g rfl).1
  have Hsp:=zh hsp
  have Hd:=zh hd
  have hDa:zCW (some x.f)=x.f.data:=rfl
  generalize x.f.data=l at *
  generalize hlen:l.length=m at *
  have Hlen:=zh hlen
  obtain ⟨i0,hi,hz0,hz1,hz2⟩:=info_parts (show (Tryz.prog.info? 5).map (fun i=>(i.zero,i.size,i.bytes))=some (some (.int .u8 0),1,1) by kernel_rfl)
  clear hsp h hc hx hd hg hlen
  go_enter Tryz.func81,Tryz.ntmps81
  go_wp2_with fail
  refine Hsp.out.mono ?_
  rintro e w2 ⟨rfl,q,rfl⟩
  have hX8:Below w.heap.size w (w.drewN q):=⟨rfl,rfl,rfl,Nat.le_refl _,fun _ _=>rfl⟩
  have X11:=zh (hX8.alloc (Nat.le_refl _) (.cells #[] 5))
  have Hdw:=zh (show zAL ((w.drewN q).alloc (.cells #[] 5)) 1 (.slice pb m cb) m (zAQ l) from by
   have h:=Hd.out.below X11.out
   unfold HasB at h
   rw [Hlen.out] at h
   exact h)
  have c1w:=(X11.out.cell (p:=⟨r,1,none⟩) hrlt).trans c1
  have hn1w:=(X11.out.cell (p:=⟨g,i * 3+1,none⟩) hglt).trans hn1
  clear hX8
  go_wp2_with (at_builtin;refine zAP ((w.drewN q).alloc (.cells #[] 5)) rfl (.tmp 16) (.tmp 24) 22 rfl 5 i0 (.int .u8 0) 1 1 Tryz.underlying22 hi hz0 hz1 hz2 rfl (by decide) (.slice (some ⟨w.heap.size,0,none⟩) 0 0) 0 [] rfl (zAz (w.drewN q) _) (.slice pb m cb) m (zAQ l) rfl Hdw.out (zAM _) (by unfold maxLen;omega) (by omega) ?_;intro v12 w12 hown12 hgrow12 hloc12;rw [Nat.zero_add,List.nil_append] at hown12;have hX:=X11.out.grown hgrow12 X11.out.size (fun j e=>by simp [Value.ownBlock] at e;omega);have hnew:=zAp (B:=w.heap.size) hloc12 (fun k hk=>by simp [Value.ownBlock] at hk;omega) X11.out.size;have X12:=zh (And.intro hX (And.intro hown12 hnew));clear hown12 hgrow12 hloc12 hX hnew)
  go_ret2
  refine ⟨v12,rfl,?_,X12.out.2.2,X12.out.1⟩
  unfold OwnB
  rw [hDa,Hlen.out]
  exact X12.out.2.1
end
structure RRIn (w:World) (r:Nat) (R:Rd) (p:Option Addr) (n c:Nat):Prop where
 cells:w.heap[r]?=some (.cells #[.slice p n c,.bool R.bad] 148 (0,0))
 has:HasB w (.slice p n c) R.rest
 cap:n≤c
 ne:(Value.slice p n c).ownBlock≠some r
 len:R.rest.length≤140737488355328
 inv:R.bad=true→R.rest=[]
def RdY (A:Nat→Prop) (w:World) (r:Nat) (R:Rd):Prop:=∃ p n c,RRIn w r R p n c∧∀ k,(Value.slice p n c).ownBlock=some k→A k
theorem RRIn.n_eq {w:World} {r:Nat} {R:Rd} {p:Option Addr} {n c:Nat} (h:RRIn w r R p n c):R.rest.length=n:=by obtain ⟨_,_,e⟩:=h.has.slice;simp only [Value.slice.injEq] at e;exact e.2.1.symm
theorem RRIn.rlt {w:World} {r:Nat} {R:Rd} {p:Option Addr} {n c:Nat} (h:RRIn w r R p n c):r < w.heap.size:=zAC h.cells
theorem RdY.lt {A:Nat→Prop} {w:World} {r:Nat} {R:Rd} (h:RdY A w r R):r < w.heap.size:=let ⟨_,_,_,h,_⟩:=h;h.rlt
theorem RdY.len {A:Nat→Prop} {w:World} {r:Nat} {R:Rd} (h:RdY A w r R):R.rest.length≤140737488355328:=let ⟨_,_,_,h,_⟩:=h;h.len
theorem RdY.inv {A:Nat→Prop} {w:World} {r:Nat} {R:Rd} (h:RdY A w r R):R.bad=true→R.rest=[]:=let ⟨_,_,_,h,_⟩:=h;h.inv
theorem RdY.chg {A S:Nat→Prop} {w w':World} {r:Nat} {R:Rd} (h:RdY A w r R) (hc:Chg S w w') (hr:¬ S r) (hA:∀ k,A k→¬ S k):RdY A w' r R:=by
 obtain ⟨p,n,c,h,ha⟩:=h
 exact ⟨p,n,c,⟨(hc.block r h.rlt hr).trans h.cells,HasB.chg h.has hc fun k hk=>hA k (ha k hk),h.cap,h.ne,h.len,h.inv⟩,ha⟩
theorem RdY.below {A:Nat→Prop} {w w':World} {r:Nat} {R:Rd} (h:RdY A w r R) (hb:Below w.heap.size w w'):RdY A w' r R:=h.chg (Chg.of_below hb) id fun _ _=>id
theorem RdY.c1 {A:Nat→Prop} {w:World} {r:Nat} {R:Rd} (h:RdY A w r R):w.cell? ⟨r,1,none⟩=some (.bool R.bad):=let ⟨_,_,_,h,_⟩:=h;zAA h.cells rfl
def RStepY (A:Nat→Prop) (w:World) (r:Nat) (R':Rd) (v:Value) (e:Ending) (w':World):Prop:=e=.returned v∧RdY A w' r R'∧Chg (fun k=>k=r) w w'
def NumY (A:Nat→Prop) (w:World) (r:Nat) (R:Rd) (e:Ending) (w':World):Prop:=e=.returned (.int .i64 (R.num.1:Int))∧RdY A w' r R.num.2∧Chg (fun k=>k=r) w w'
def RowY (A:Nat→Prop) (w:World) (r:Nat) (b:Bs) (R':Rd) (e:Ending) (w':World):Prop :=
 ∃ v,e=.returned v∧OwnB w' 5 v b∧(∀ j,v.ownBlock=some j→w.heap.size≤j)∧RdY A w' r R'∧Chg (fun j=>j=r) w w'
theorem copy_new {w w':World} {e:TypeId} {v:Value} {l:Bs} {m:Nat} (hm:l.length=m) (hown:OwnR w' e 1 v (0+m) ([] ++ zAQ l)) (hg:(w.alloc (.cells #[] e)).grownBy w' (some w.heap.size)) (hl:v.ownBlock=some w.heap.size∨∃ g,v.ownBlock=some g∧(w.alloc (.cells #[] e)).heap.size≤g) :
  OwnB w' e v l∧(∀ k,v.ownBlock=some k→w.heap.size≤k)∧Below w.heap.size w w':=by
 subst hm
 rw [Nat.zero_add,List.nil_append] at hown
 refine ⟨hown,fun k hk=>?_,(zAD w _).trans ((Chg.of_grown hg).below (by simp) fun k hk e=>?_)⟩
 ·rcases hl with h | ⟨g,h,hge⟩
  ·rw [h] at hk
   cases hk
   exact Nat.le_refl _
  ·rw [h] at hk
   cases hk
   simp at hge
   omega
 ·have:=Option.some.inj e
  omega
section
variable {w:World} {r:Nat} {R:Rd} {p:Option Addr} {n c:Nat} {A:Nat→Prop}
theorem zDY (h:RdY A w r R) :
  Calls Tryz.prog 164 #[.pointer (some ⟨r,0,none⟩)] w (RStepY A w r Rd.fail (.tuple #[])):=by
 obtain ⟨p,n,c,h,hA⟩:=h
 have h0:w.cell? ⟨r,0,none⟩=some (.slice p n c):=zAA h.cells rfl
 have h1:w.cell? ⟨r,1,none⟩=some (.bool R.bad):=zAA h.cells rfl
 have hf:=fun i=>zAF h.cells i
 have HE:=zh (show RStepY A w r Rd.fail (.tuple #[]) (.returned (.tuple #[])) ((w.setCell ⟨r,1,none⟩ (.bool true)).setCell ⟨r,0,none⟩ (.slice none 0 0)) from ⟨rfl,⟨none,0,0,⟨by
  have h1:=zAE h.cells 1 (.bool true)
  have h2:=zAE h1 0 (.slice none 0 0)
  simpa [Rd.fail] using h2,OwnB.has (e:=0) (OwnR.nil _ _ _),Nat.le_refl _,fun h=>(by cases h),Nat.zero_le _,fun _=>rfl⟩,fun k hk=>(by cases hk)⟩,(Chg.setCell w ⟨r,1,none⟩ _).trans (Chg.setCell _ ⟨r,0,none⟩ _) fun _ _ e=>e⟩)
 clear h
 go_enter Tryz.func164,Tryz.ntmps164
 go_wp2_with fail
 go_end0
 exact HE.out
theorem zDa (h:RdY A w r R) (m:Nat) (hm63:m≤9223372036854775807) :
  Calls Tryz.prog 163 #[.pointer (some ⟨r,0,none⟩),.int .i64 (m:Int)] w (RowY A w r (R.raw m).1 (R.raw m).2):=by
 obtain ⟨i0,hi,hz0,hz1,hz2⟩:=info_parts (show (Tryz.prog.info? 5).map (fun i=>(i.zero,i.size,i.bytes))=some (some (.int .u8 0),1,1) by kernel_rfl)
 have Hbd:=zh (zDY h)
 obtain ⟨p,n,c,h,hA⟩:=h
 have hn:=h.n_eq
 have hlen:=h.len
 have c0:w.cell? ⟨r,0,none⟩=some (.slice p n c):=zAA h.cells rfl
 have c1:w.cell? ⟨r,1,none⟩=some (.bool R.bad):=zAA h.cells rfl
 have d0:decide ((m:Int) < 0)=false:=decide_eq_false (by omega)
 by_cases hm:m≤n
 ·have d1:decide ((n:Int) < (m:Int))=false:=decide_eq_false (by omega)
  have hR:R.raw m=(R.rest.take m,⟨R.rest.drop m,R.bad⟩):=by unfold Rd.raw;rw [if_pos (by omega)]
  rw [hR]
  cases hbd:R.bad with
  | true =>
   have hrest:=h.inv hbd
   have hm0:m=0:=by rw [hrest] at hn;simp at hn;omega
   subst hm0
   rw [hbd] at c1
   have HE:=zh (show RowY A w r (R.rest.take 0) ⟨R.rest.drop 0,true⟩ (.returned (.slice none 0 0)) w from ⟨_,rfl,OwnR.nil _ _ _,fun j hj=>(by cases hj),⟨p,n,c,⟨by rw [← hbd];exact h.cells,h.has,h.cap,h.ne,h.len,fun _=>hrest⟩,hA⟩,Chg.refl _ _⟩)
   clear h hR Hbd hA hrest
   go_enter Tryz.func163,Tryz.ntmps163
   go_wp2_with fail
   go_ret
   exact HE.out
  | false =>
   rw [hbd] at c1
   obtain ⟨p',c',hsl,hh,hc,hne,hnA⟩:=run_tailX (P:=Tryz.prog) Tryz.underlying22 hi hz1 h.has h.cap r m h.ne hm
   have hup:∀ W,(Instr.slice 22 (.slice p n c) none (some (.int .i64 (m:Int))) none).run Tryz.prog W=.ok (.slice p m c) W:=fun W=>zB0 W Tryz.underlying22 hi p n c m (by have:=h.cap;omega)
   have hb1:=zAD w (.cells #[] 5)
   have Hcut:=zh (show zAL (w.alloc (.cells #[] 5)) 1 (.slice p m c) m (zAQ (R.rest.take m)) from by
    have h1:=HasB.cut (h.has.below hb1) (k:=m) (by omega) c
    unfold HasB at h1
    rwa [List.length_take,Nat.min_eq_left (by omega)] at h1)
   have Hin:=zh h
   have Hh:=zh (And.intro hh (And.intro hc (And.intro hne hnA)))
   have hrl:=h.rlt
   have HA:=zh hA
   have c0a:=zAJ c0 hb1
   have Hbd2:=zh hbd
   have Hn:=zh hn
   clear hh hc hne h hR Hbd hA hnA hb1
   go_enter Tryz.func163,Tryz.ntmps163
   go_wp2_with (at_builtin;refine zAP (w.alloc (.cells #[] 5)) rfl (.tmp 23) (.tmp 29) 22 rfl 5 i0 (.int .u8 0) 1 1 Tryz.underlying22 hi hz0 hz1 hz2 rfl (by decide) (.slice (some ⟨w.heap.size,0,none⟩) 0 0) 0 [] rfl (zAz w _) (.slice p m c) m (zAQ (R.rest.take m)) rfl Hcut.out (zAM _) (by unfold maxLen;omega) (by omega) ?_;intro v3 w3 hown3 hgrow3 hloc3;go_loud (have HN:=zh (copy_new (by rw [List.length_take,Nat.min_eq_left (by have:=Hn.out;omega)]) hown3 hgrow3 hloc3);have hcell3:w3.heap[r]?=some (.cells #[.slice p n c,.bool R.bad] 148 (0,0)):=(HN.out.2.2.block r hrl).trans Hin.out.cells;have c03:=zAA hcell3 (i:=0) rfl;have hfr3:=fun i=>zAF hcell3 i;have HC:=zh hcell3;clear hown3 hgrow3 hloc3 hcell3))
   go_ret
   obtain ⟨hv,hvn,hb3⟩:=HN.out
   have hlt3:r < w3.heap.size:=zAC HC.out
   refine ⟨v3,rfl,?_,hvn,⟨p',n - m,c',⟨?_,?_,Hh.out.2.1,Hh.out.2.2.1,?_,fun e=>(by cases e)⟩,fun k hk=>HA.out k (Hh.out.2.2.2 k hk)⟩,?_⟩
   ·exact OwnR.keep hv fun k hk=>set_other _ fun e=>by
     have:=hvn k hk
     have e:k=r:=e
     omega
   ·have h1:=zAE HC.out 0 (.slice p' (n - m) c')
    rw [Hbd2.out] at h1
    simpa using h1
   ·exact HasB.set (HasB.below Hh.out.1 hb3) _ Hh.out.2.2.1
   ·show (R.rest.drop m).length≤_
    rw [List.length_drop]
    omega
   ·exact ((Chg.of_below hb3).mono fun _ _ h=>h.elim).trans (Chg.setCell _ ⟨r,0,none⟩ _) fun _ _ e=>e
 ·have d1:decide ((n:Int) < (m:Int))=true:=decide_eq_true (by omega)
  have hR:R.raw m=([],Rd.fail):=by unfold Rd.raw;rw [if_neg (by omega)]
  rw [hR]
  clear h hR
  go_enter Tryz.func163,Tryz.ntmps163
  go_wp2_with fail
  refine Hbd.out.mono ?_
  rintro e w1 ⟨rfl,hr,hc⟩
  have e1:=hr.c1
  have HE:=zh (And.intro hr hc)
  clear hr hc
  have e1:w1.cell? ⟨r,1,none⟩=some (.bool true):=e1
  go_wp2_with fail
  go_ret
  exact ⟨_,rfl,OwnR.nil _ _ _,fun j hj=>(by cases hj),HE.out⟩
theorem zBz (h:RdY A w r R) :
  Calls Tryz.prog 87 #[.pointer (some ⟨r,0,none⟩)] w fun e w'=>e=.returned (.bool R.whole)∧w'=w:=by
 obtain ⟨p,n,c,h,hA⟩:=h
 have hn:=h.n_eq
 have c0:w.cell? ⟨r,0,none⟩=some (.slice p n c):=zAA h.cells rfl
 have c1:w.cell? ⟨r,1,none⟩=some (.bool R.bad):=zAA h.cells rfl
 have HE:=zh (show R.rest.isEmpty=((n:Int) == 0) from by
  rw [Bool.eq_iff_iff,List.isEmpty_iff,← List.length_eq_zero_iff,hn]
  simp)
 have HW:=zh (show R.whole=(!R.bad && R.rest.isEmpty) from rfl)
 clear h hn
 cases hb:R.bad with
 | true =>
  rw [hb] at c1 HW
  go_enter Tryz.func87,Tryz.ntmps87
  go_wp2_with fail
  go_ret
  exact ⟨by rw [HW.out];rfl,rfl⟩
 | false =>
  rw [hb] at c1 HW
  go_enter Tryz.func87,Tryz.ntmps87
  go_wp2_with fail
  go_ret
  exact ⟨by rw [HW.out,HE.out];rfl,rfl⟩
end
theorem take_one {l:Bs} {x:UInt8} {t:Bs} (h:l=x :: t) (b:Bool):Rd.raw ⟨l,b⟩ 1=([x],⟨t,b⟩):=by
 subst h
 unfold Rd.raw
 rw [if_pos (by simp)]
 rfl
theorem raw_nil (b:Bool):Rd.raw ⟨[],b⟩ 1=([],Rd.fail):=rfl
theorem or_big (a:Nat) (ha:a < 9223372036854775808):∃ Z:Nat,bits .or .u64 (a:Int) (IntKind.u64.wrap (IntKind.u64.wrap (bits .and .u8 1 127) * 9223372036854775808))=(Z:Int)∧4611686018427387904 < Z:=by
 have e:(IntKind.u64.wrap (IntKind.u64.wrap (bits .and .u8 1 127) * 9223372036854775808))=((9223372036854775808:Nat):Int):=by rfl
 rw [e]
 refine ⟨a ||| 9223372036854775808,u64_or_nat a 9223372036854775808 (by omega) (by decide),?_⟩
 have:=@Nat.right_le_or a 9223372036854775808
 omega
theorem zAv {w:World} {r:Nat} {R:Rd} {A:Nat→Prop} (h:RdY A w r R) :
  Calls Tryz.prog 84 #[.pointer (some ⟨r,0,none⟩)] w (NumY A w r R):=by
 have Hno:=zh (show zB3 0 0 R.rest=none→R.num=(0,Rd.fail) from fun e=>by unfold Rd.num;rw [e])
 have Hyes:=zh (show ∀ v t,zB3 0 0 R.rest=some (v,t)→R.num=(v,⟨t,R.bad⟩) from fun v t e=>by unfold Rd.num;rw [e])
 have Hin:=zh h
 clear h
 go_enter Tryz.func84,Tryz.ntmps84
 go_wp2_with fail
 go_loopw [3,4] (fun u i wr=>∃ k a:Nat,k≤9∧i=.int .i64 k∧u=.int .u64 a∧a < 128 ^ k∧∃ S,zB3 0 0 R.rest=zB3 k a S∧RdY A wr r ⟨S,R.bad⟩∧Chg (fun k=>k=r) w wr) (fun _ i _=>10 - (intOf i).toNat)
 case atStart=>exact ⟨0,0,by omega,rfl,rfl,by simp,R.rest,rfl,Hin.out,Chg.refl _ _⟩
 case round =>
  obtain ⟨k,a,hk9,rfl,rfl,ha,S,hgo,hrd,hch⟩:=hrel
  have Hraw:=zh (zDa hrd 1 (by decide))
  have Hch:=zh hch
  have hlt10:decide ((k:Int) < 10)=true:=decide_eq_true (by omega)
  cases S with
  | nil =>
   rw [raw_nil] at Hraw
   have HE:=zh (Hno.out hgo)
   clear hgo hrd hch
   go_wp2_with fail
   refine Hraw.out.mono ?_
   rintro e w1 ⟨v,rfl,-,-,hr,hc⟩
   have e1:w1.cell? ⟨r,1,none⟩=some (.bool true):=hr.c1
   have HF:=zh (show NumY A w r R (.returned (.int .i64 0)) w1 from ⟨by rw [HE.out];rfl,by rw [HE.out];exact hr,Hch.out.trans hc fun _ _ e=>e⟩)
   clear hr hc Hraw
   go_wp2_with fail
   go_ret
   exact HF.out
  | cons x0 S =>
   rw [take_one rfl] at Hraw
   have hbd:R.bad=false:=by
    cases hb:R.bad with
    | false=>rfl
    | true=>have:=hrd.inv hb;cases this
   have hx:=x0.toNat_lt
   have Hgo:=zh hgo
   have Hstop:=zh (show 9≤k∨(0 < k∧x0.toNat=0)→zB3 k a (x0 :: S)=none from fun e=>by
    unfold zB3
    rw [if_pos (e.imp id fun e=>⟨e.1,UInt8.toNat.inj (by rw [e.2];rfl)⟩)])
   have Hgo1:=zh (show ¬ (9≤k∨(0 < k∧x0.toNat=0))→x0.toNat < 128→zB3 k a (x0 :: S)=if 4611686018427387904 < a+x0.toNat * 128 ^ k then none else some (a+x0.toNat * 128 ^ k,S) from fun e h=>by
    rw [zB3,if_neg (fun h=>e (h.imp id fun h=>⟨h.1,by rw [h.2];rfl⟩)),if_pos h])
   have Hgo2:=zh (show ¬ (9≤k∨(0 < k∧x0.toNat=0))→¬ x0.toNat < 128→zB3 k a (x0 :: S)=zB3 (k+1) (a+x0.toNat % 128 * 128 ^ k) S from fun e h=>by
    rw [zB3,if_neg (fun h=>e (h.imp id fun h=>⟨h.1,by rw [h.2];rfl⟩)),if_neg h])
   clear hgo hrd hch
   go_wp2_with fail
   refine Hraw.out.mono ?_
   rintro e w1 ⟨v,rfl,hv,hvn,hr,hc⟩
   have e1:w1.cell? ⟨r,1,none⟩=some (.bool false):=by rw [← hbd];exact hr.c1
   obtain ⟨g,cc,rfl,hcell⟩:∃ g cc,v=.slice (some ⟨g,0,none⟩) 1 cc∧w1.cell? ⟨g,0,none⟩=some (.int .u8 (x0.toNat:Int)):=by
    have hh:=hv.has
    obtain ⟨hlv,⟨rfl,h0⟩ | ⟨g,cap,cur,rfl,hg⟩⟩:=hv
    ·simp at h0
    ·refine ⟨g,cap,rfl,?_⟩
     obtain ⟨_,p,c,e,_,hcs⟩:=hh
     cases e
     have:=hcs _ rfl 0 (.int .u8 (x0.toNat:Int)) (by simp [zAQ])
     rwa [add_zero] at this
   have Hr1:=zh (And.intro hr (Hch.out.trans hc fun _ _ e=>e))
   have Hbad:=zh (zDY hr)
   clear hv hvn hr hc Hraw
   generalize x0.toNat=x at *
   by_cases h9:9≤k
   ·obtain rfl:k=9:=by omega
    have HE:=zh (Hno.out (Hgo.out.trans (Hstop.out (.inl (Nat.le_refl _)))))
    by_cases hx1:127 < x
    ·go_wp2_with fail
     refine Hbad.out.mono ?_
     rintro e w2 ⟨rfl,hr,hc⟩
     have HF:=zh (show NumY A w r R (.returned (.int .i64 0)) w2 from ⟨by rw [HE.out];rfl,by rw [HE.out];exact hr,Hr1.out.2.trans hc fun _ _ e=>e⟩)
     clear hr hc
     go_wp2_with fail
     go_ret
     exact HF.out
    ·by_cases hx2:1 < x
     ·go_wp2_with fail
      refine Hbad.out.mono ?_
      rintro e w2 ⟨rfl,hr,hc⟩
      have HF:=zh (show NumY A w r R (.returned (.int .i64 0)) w2 from ⟨by rw [HE.out];rfl,by rw [HE.out];exact hr,Hr1.out.2.trans hc fun _ _ e=>e⟩)
      clear hr hc
      go_wp2_with fail
      go_ret
      exact HF.out
     ·by_cases hx3:x=0
      ·subst hx3
       go_wp2_with fail
       refine Hbad.out.mono ?_
       rintro e w2 ⟨rfl,hr,hc⟩
       have HF:=zh (show NumY A w r R (.returned (.int .i64 0)) w2 from ⟨by rw [HE.out];rfl,by rw [HE.out];exact hr,Hr1.out.2.trans hc fun _ _ e=>e⟩)
       clear hr hc
       go_wp2_with fail
       go_ret
       exact HF.out
      ·obtain rfl:x=1:=by omega
       obtain ⟨Z,ho1,ho2⟩:=or_big a (by
        have h9:(128:Nat) ^ 9=9223372036854775808:=by decide
        omega)
       have ho3:decide ((4611686018427387904:Int) < (Z:Int))=true:=decide_eq_true (by omega)
       go_wp2_with fail
       refine Hbad.out.mono ?_
       rintro e w2 ⟨rfl,hr,hc⟩
       have HF:=zh (show NumY A w r R (.returned (.int .i64 0)) w2 from ⟨by rw [HE.out];rfl,by rw [HE.out];exact hr,Hr1.out.2.trans hc fun _ _ e=>e⟩)
       clear hr hc
       go_wp2_with fail
       go_ret
       exact HF.out
   ·by_cases hz:0 < k∧x=0
    ·have HE:=zh (Hno.out (Hgo.out.trans (Hstop.out (.inr hz))))
     obtain ⟨hk0,rfl⟩:=hz
     have hn9:((k:Int) == 9)=false:=by simp;omega
     go_wp2_with fail
     refine Hbad.out.mono ?_
     rintro e w2 ⟨rfl,hr,hc⟩
     have HF:=zh (show NumY A w r R (.returned (.int .i64 0)) w2 from ⟨by rw [HE.out];rfl,by rw [HE.out];exact hr,Hr1.out.2.trans hc fun _ _ e=>e⟩)
     clear hr hc
     go_wp2_with fail
     go_ret
     exact HF.out
    ·have hs:¬ (9≤k∨(0 < k∧x=0)):=fun e=>e.elim h9 hz
     have hn9:((k:Int) == 9)=false:=by simp;omega
     by_cases h128:x < 128
     ·have HE0:=zh (Hgo.out.trans (Hgo1.out hs h128))
      have h7:=zEz ha (by omega) (show x < 256 by omega)
      rw [show x % 128=x by omega] at h7
      obtain ⟨h7,-,h73⟩:=h7
      generalize a+x * 128 ^ k=Z at *
      by_cases hA:4611686018427387904 < Z
      ·have HE:=zh (Hno.out (HE0.out.trans (if_pos hA)))
       rcases Nat.lt_or_ge 0 k with hk0 | hk0
       rotate_left
       ·go_wp2_with fail
        refine Hbad.out.mono ?_
        rintro e w2 ⟨rfl,hr,hc⟩
        have HF:=zh (show NumY A w r R (.returned (.int .i64 0)) w2 from ⟨by rw [HE.out];rfl,by rw [HE.out];exact hr,Hr1.out.2.trans hc fun _ _ e=>e⟩)
        clear hr hc
        go_wp2_with fail
        go_ret
        exact HF.out
       ·have hx0:0 < x:=by omega
        go_wp2_with fail
        refine Hbad.out.mono ?_
        rintro e w2 ⟨rfl,hr,hc⟩
        have HF:=zh (show NumY A w r R (.returned (.int .i64 0)) w2 from ⟨by rw [HE.out];rfl,by rw [HE.out];exact hr,Hr1.out.2.trans hc fun _ _ e=>e⟩)
        clear hr hc
        go_wp2_with fail
        go_ret
        exact HF.out
      ·have HE2:=zh (Hyes.out _ _ (HE0.out.trans (if_neg hA)))
       have HF:=zh (show NumY A w r R (.returned (.int .i64 (Z:Int))) w1 from ⟨by rw [HE2.out],by rw [HE2.out];exact Hr1.out.1,Hr1.out.2⟩)
       rcases Nat.lt_or_ge 0 k with hk0 | hk0
       rotate_left
       ·go_wp2_with fail
        go_ret
        exact HF.out
       ·have hxn:((x:Int) == 0)=false:=by simp;omega
        go_wp2_with fail
        go_ret
        exact HF.out
     ·have hgo2:=Hgo.out.trans (Hgo2.out hs h128)
      obtain ⟨h7,h72,h73⟩:=zEz ha (by omega) (show x < 256 by omega)
      have Hgn:=zh (And.intro hgo2 h72)
      clear hgo2 h72
      generalize a+x % 128 * 128 ^ k=Z at *
      go_wp2_with fail
      go_roundw
      case rel=>exact ⟨k+1,Z,by omega,by go_num,rfl,Hgn.out.2,S,Hgn.out.1,Hr1.out.1,Hr1.out.2⟩
      case measure=>simp [intOf];omega
theorem num_bad {R:Rd} (hinv:R.bad=true→R.rest=[]) (hb:R.num.2.bad=true):R.num=(0,Rd.fail):=by
 cases h:zB3 0 0 R.rest with
 | none=>unfold Rd.num;rw [h]
 | some x =>
  obtain ⟨n,t⟩:=x
  have e:R.num=(n,⟨t,R.bad⟩):=by unfold Rd.num;rw [h]
  rw [e] at hb
  rw [hinv hb] at h
  cases h
theorem zEw {w:World} {r:Nat} {R:Rd} {A:Nat→Prop} (h:RdY A w r R) :
  Calls Tryz.prog 86 #[.pointer (some ⟨r,0,none⟩)] w (RowY A w r R.bytes.1 R.bytes.2):=by
 have Hn:=zh (zAv h)
 have hle:=Rd.num_le R
 have hnb:=num_bad h.inv
 have HB:=zh (show R.bytes=R.num.2.raw R.num.1 from rfl)
 clear h
 go_enter Tryz.func86,Tryz.ntmps86
 go_wp2_with fail
 refine Hn.out.mono ?_
 rintro e w1 ⟨rfl,hr,hc⟩
 have hc1:=hr.c1
 have Hc:=zh hc
 cases hb:R.num.2.bad with
 | true =>
  rw [hb] at hc1
  have hn:=hnb hb
  have HE:=zh (show RowY A w r R.bytes.1 R.bytes.2 (.returned (.slice none 0 0)) w1 from by
   rw [HB.out,hn]
   rw [hn] at hr
   exact ⟨_,rfl,OwnR.nil _ _ _,fun j hj=>(by cases hj),hr,hc⟩)
  clear hr hc Hn hn hnb
  go_wp2_with fail
  go_ret
  exact HE.out
 | false =>
  rw [hb] at hc1
  have Hr:=zh (zDa hr R.num.1 (by omega))
  clear hr hc Hn hnb hb
  generalize R.num.1=m at *
  generalize R.num.2=R1 at *
  go_wp2_with fail
  refine Hr.out.mono ?_
  rintro e w2 ⟨v,rfl,hv,hvn,hr2,hc2⟩
  have HE:=zh (show RowY A w r R.bytes.1 R.bytes.2 (.returned v) w2 from ⟨v,rfl,by rw [HB.out];exact hv,fun j hj=>Nat.le_trans Hc.out.size (hvn j hj),by rw [HB.out];exact hr2,Hc.out.trans hc2 fun _ _ e=>e⟩)
  clear hv hvn hr2 hc2 Hr
  go_wp2_with fail
  go_ret
  exact HE.out
def RLst (R:Rd) (l:List Int) (R':Rd):Prop :=
 (R.num.1≤17∧(Rd.ints R.num.1 R.num.2).2.bad=false∧l=(Rd.ints R.num.1 R.num.2).1∧R'=(Rd.ints R.num.1 R.num.2).2) ∨
 (¬ (R.num.1≤17∧(Rd.ints R.num.1 R.num.2).2.bad=false)∧R'.bad=true)
theorem num_stays {R:Rd} (h:R.bad=true):R.num.2.bad=true:=by
 unfold Rd.num
 split
 ·exact h
 ·rfl
theorem ints_stays:∀ (n k:Nat) (R:Rd),k≤n→(Rd.ints k R).2.bad=true→(Rd.ints n R).2.bad=true
 | 0,k,R,hk,h=>by
  obtain rfl:k=0:=by omega
  exact h
 | n+1,k,R,hk,h=>by
  by_cases e:k=n+1
  ·rw [← e]
   exact h
  ·rw [zC8]
   exact num_stays (ints_stays n k R (by omega) h)
def LstTold (A:Nat→Prop) (w:World) (r:Nat) (R:Rd) (e:Ending) (w':World):Prop :=
 ∃ v l R',e=.returned v∧RLst R l R'∧OwnI w' v l∧(∀ k,v.ownBlock=some k→w.heap.size≤k)∧l.length≤18∧(∀ z ∈ l,0≤z∧z≤4611686018427387904)∧RdY A w' r R'∧Chg (fun k=>k=r) w w'
theorem lst_round {A:Nat→Prop} {w wr w3 w4:World} {r k v:Nat} {xv v4:Value} {zs:List Int} {R2:Rd} {o:Obj} (hA:∀ k,A k→k < w.heap.size∧k≠r) (hrl:r < w.heap.size) (hnew:∀ y,xv.ownBlock=some y→w.heap.size≤y∧y≠r) (hch:Chg (fun k=>k=r) w wr)
  (hr3:RdY A w3 r R2) (hc3:Chg (fun k=>k=r) wr w3) (hik:zs.length=k) (hown:OwnR w4 3 1 v4 (k+1) (intsV zs ++ [.int .i64 (v:Int)])) (hg:(w3.alloc o).grownBy w4 xv.ownBlock) (hloc:v4.ownBlock=xv.ownBlock∨∃ g,v4.ownBlock=some g∧(w3.alloc o).heap.size≤g) :
  OwnI w4 v4 (zs ++ [(v:Int)])∧(∀ y,v4.ownBlock=some y→w.heap.size≤y∧y≠r)∧RdY A w4 r R2∧Chg (fun k=>k=r) w w4:=by
 have hs1:=hch.size
 have hs3:=hc3.size
 have hb:=zAi w3 o
 have hs4:=hb.size
 have hC:Chg (fun k=>some k=xv.ownBlock) w3 w4:=((Chg.of_below hb).mono fun _ _ e=>e.elim).trans (Chg.of_grown hg) fun _ _ e=>e
 refine ⟨?_,fun y hy=>?_,hr3.chg hC (fun e=>(hnew r e.symm).2 rfl) (fun x hx e=>by have h1:=(hnew x e.symm).1;have h2:=(hA x hx).1;omega),(hch.trans hc3 fun _ _ e=>e).trans hC fun x hx e=>by have:=(hnew x e.symm).1;omega⟩
 ·unfold OwnI intsV
  rw [List.length_append,List.map_append,hik]
  exact hown
 ·rcases hloc with e | ⟨g,e,hge⟩
  ·exact hnew y (e ▸ hy)
  ·rw [e] at hy
   cases hy
   exact ⟨by omega,by omega⟩
theorem rlst_calls {w:World} {r:Nat} {R:Rd} {A:Nat→Prop} (h:RdY A w r R) (hA:∀ k,A k→k < w.heap.size∧k≠r) :
  Calls Tryz.prog 85 #[.pointer (some ⟨r,0,none⟩)] w (LstTold A w r R):=by
 obtain ⟨i0,hi,hz0,hz1,hz2⟩:=info_parts (show (Tryz.prog.info? 3).map (fun i=>(i.zero,i.size,i.bytes))=some (some (.int .i64 0),1,8) by kernel_rfl)
 have Hn:=zh (zAv h)
 have hrl:=h.lt
 have HA:=zh hA
 have HR:=zh (show ∀ l R',((R.num.1≤17∧(Rd.ints R.num.1 R.num.2).2.bad=false∧l=(Rd.ints R.num.1 R.num.2).1∧R'=(Rd.ints R.num.1 R.num.2).2)∨(¬ (R.num.1≤17∧(Rd.ints R.num.1 R.num.2).2.bad=false)∧R'.bad=true))→RLst R l R' from fun _ _ h=>h)
 have hle:=Rd.num_le R
 clear h hA
 go_enter Tryz.func85,Tryz.ntmps85
 go_wp2_with fail
 refine Hn.out.mono ?_
 rintro e w1 ⟨rfl,hr1,hc1⟩
 have Hr1:=zh hr1
 have Hc1:=zh hc1
 clear hr1 hc1 Hn
 generalize R.num.1=n at *
 generalize R.num.2=R1 at *
 go_wp2_with fail
 go_loopw [4,5] (fun x i wr=>∃ (k:Nat) (xv:Value) (Rk:Rd),k≤n∧k≤18∧i=.int .i64 k∧xv=x∧(k≤17∧Rk=(Rd.ints k R1).2∨k=18∧Rk=Rd.fail)∧OwnI wr xv (Rd.ints k R1).1∧(∀ y,xv.ownBlock=some y→w.heap.size≤y∧y≠r)∧RdY A wr r Rk∧Chg (fun k=>k=r) w wr) (fun _ i _=>n - (intOf i).toNat)
 case atStart=>exact ⟨0,_,R1,Nat.zero_le _,by omega,rfl,rfl,.inl ⟨by omega,rfl⟩,OwnR.nil _ _ _,fun y hy=>(by cases hy),Hr1.out,Hc1.out⟩
 case round =>
  clear Hr1 Hc1
  obtain ⟨k,xv,Rk,hk,hk18,rfl,rfl,hRk,hown,hnew,hrd,hch⟩:=hrel
  have hcb:=hrd.c1
  have hlk:=zCJ k R1
  have hEx:=zh (show (∀ R',(k=n∧k≤17∧Rk.bad=false∧R'=Rk)∨(Rk.bad=true∧R'=Rk)→LstTold A w r R (.returned xv) wr) from fun R' hR'=>by
   refine ⟨xv,(Rd.ints k R1).1,Rk,rfl,HR.out _ _ ?_,hown,fun y hy=>(hnew y hy).1,by omega,ints_mem k R1,hrd,hch⟩
   rcases hR' with ⟨rfl,h17,hb,-⟩ | ⟨hb,-⟩
   ·rcases hRk with ⟨-,rfl⟩ | ⟨e,-⟩
    ·exact .inl ⟨h17,hb,rfl,rfl⟩
    ·omega
   ·refine .inr ⟨fun h2=>?_,hb⟩
    rcases hRk with ⟨-,rfl⟩ | ⟨e,-⟩
    ·have:=ints_stays n k R1 hk hb
     rw [h2.2] at this
     cases this
    ·omega)
  by_cases hlt:k < n
  ·cases hb:Rk.bad with
   | true =>
    rw [hb] at hcb
    have HE:=zh (hEx.out Rk (.inr ⟨hb,rfl⟩))
    clear hown hnew hrd hch hEx
    go_wp2_with fail
    go_ret
    exact HE.out
   | false =>
    rw [hb] at hcb
    have hk17:k≤17:=by
     rcases hRk with ⟨h,-⟩ | ⟨-,rfl⟩
     ·exact h
     ·cases hb
    obtain rfl:Rk=(Rd.ints k R1).2:=by
     rcases hRk with ⟨-,h⟩ | ⟨h,-⟩
     ·exact h
     ·omega
    have Hnm:=zh (zAv hrd)
    have Hsn:=zh (zC8 k R1)
    have HX:=zh (And.intro hown (And.intro hnew hch))
    have Hrow:=zh (show OwnR wr 3 1 xv k (intsV (Rd.ints k R1).1) from by have:=hown;unfold OwnI at this;rwa [hlk] at this)
    have Hik:=zh hlk
    have hle2:=Rd.num_le (Rd.ints k R1).2
    clear hown hnew hrd hch hlk hRk hEx
    generalize hv:(Rd.ints k R1).2.num.1=v at *
    have Hv:=zh hv
    clear hv
    go_wp2_with fail
    refine Hnm.out.mono ?_
    rintro e w3 ⟨rfl,hr3,hc3⟩
    have HR3:=zh hr3
    have HC3:=zh hc3
    rw [Hv.out]
    have Hrow3:=zh (Hrow.out.keep fun y hy=>hc3.block y (OwnR.lt Hrow.out hy) fun e=>(HX.out.2.1 y hy).2 e)
    clear hr3 hc3 Hnm
    by_cases hk16:16 < k
    ·have hd16:decide ((16:Int) < (k:Int))=true:=decide_eq_true (by omega)
     go_wp2_with (at_builtin;have hal:=Hrow3.out.keep (w':=w3.alloc (.cells #[.int .i64 (v:Int)] 3)) (fun z hz=>(zAi w3 _).block z (OwnR.lt Hrow3.out hz));have hxx:=zC3 w3 (.int .i64 (v:Int)) 3 (0,0);refine zAP _ rfl (.tmp 20) (.tmp 23) 38 rfl 3 i0 (.int .i64 0) 1 8 Tryz.underlying38 hi hz0 hz1 hz2 rfl (by decide) xv k _ rfl hal (.slice (some ⟨w3.heap.size,0,none⟩) 1 1) 1 _ rfl hxx (by simp [Value.oneCell']) (by unfold maxLen;omega) (by omega) ?_;clear hal hxx;intro v4 w4 hown4 hgrow4 hloc4;go_loud (have HE:=zh (lst_round (v:=v) HA.out hrl HX.out.2.1 HX.out.2.2 HR3.out HC3.out Hik.out hown4 hgrow4 hloc4);have Hbd:=zh (zDY HE.out.2.2.1);clear hgrow4 hloc4;obtain ⟨p4,q4,rfl⟩:=OwnR.shape hown4;clear hown4))
     refine Hbd.out.mono ?_
     rintro e w5 ⟨rfl,hr5,hc5⟩
     have HE5:=zh (And.intro hr5 (And.intro (HE.out.2.2.2.trans hc5 fun _ _ e=>e) (show OwnI w5 (.slice p4 (k+1) q4) _ from OwnR.keep HE.out.1 fun y hy=>hc5.block y (OwnR.lt HE.out.1 hy) fun e=>(HE.out.2.1 y hy).2 e)))
     clear hr5 hc5 Hbd
     go_wp2_with fail
     go_roundw
     case rel=>exact ⟨k+1,_,_,by omega,by omega,by go_num,rfl,.inr ⟨by omega,rfl⟩,by rw [Hsn.out];exact HE5.out.2.2,HE.out.2.1,HE5.out.1,HE5.out.2.1⟩
     case measure=>simp [intOf];omega
    ·have hd16:decide ((16:Int) < (k:Int))=false:=decide_eq_false (by omega)
     go_wp2_with (at_builtin;have hal:=Hrow3.out.keep (w':=w3.alloc (.cells #[.int .i64 (v:Int)] 3)) (fun z hz=>(zAi w3 _).block z (OwnR.lt Hrow3.out hz));have hxx:=zC3 w3 (.int .i64 (v:Int)) 3 (0,0);refine zAP _ rfl (.tmp 20) (.tmp 23) 38 rfl 3 i0 (.int .i64 0) 1 8 Tryz.underlying38 hi hz0 hz1 hz2 rfl (by decide) xv k _ rfl hal (.slice (some ⟨w3.heap.size,0,none⟩) 1 1) 1 _ rfl hxx (by simp [Value.oneCell']) (by unfold maxLen;omega) (by omega) ?_;clear hal hxx;intro v4 w4 hown4 hgrow4 hloc4;go_loud (have HE:=zh (lst_round (v:=v) HA.out hrl HX.out.2.1 HX.out.2.2 HR3.out HC3.out Hik.out hown4 hgrow4 hloc4);clear hgrow4 hloc4;obtain ⟨p4,q4,rfl⟩:=OwnR.shape hown4;clear hown4))
     go_roundw
     case rel=>exact ⟨k+1,_,_,by omega,by omega,by go_num,rfl,.inl ⟨by omega,by rw [Hsn.out]⟩,by rw [Hsn.out];exact HE.out.1,HE.out.2.1,HE.out.2.2.1,HE.out.2.2.2⟩
     case measure=>simp [intOf];omega
  ·obtain rfl:k=n:=by omega
   have HE:=zh (show LstTold A w r R (.returned xv) wr from by
    cases hb:Rk.bad with
    | true=>exact hEx.out Rk (.inr ⟨hb,rfl⟩)
    | false =>
     refine hEx.out Rk (.inl ⟨rfl,?_,hb,rfl⟩)
     rcases hRk with ⟨h,-⟩ | ⟨-,rfl⟩
     ·exact h
     ·cases hb)
   clear hown hnew hrd hch hEx hRk hcb
   go_wp2_with fail
   go_ret
   exact HE.out
theorem zCv {R:Rd}:R.whole=true ↔ R.bad=false∧R.rest=[]:=by
 unfold Rd.whole
 rw [Bool.and_eq_true,List.isEmpty_iff]
 simp
theorem grp7 {l:List Int} (h:zAW l=true):l.length≤7:=by
 unfold zAW at h
 rw [Bool.and_eq_true,decide_eq_true_eq] at h
 exact h.2.2
theorem ent_nodes7 {e:Ent} (h:zAs e=true):e.nodes.length≤7:=by
 by_cases h0:e.kind=0
 ·rw [ent_zero h0,Bool.and_eq_true,decide_eq_true_eq] at h
  omega
 ·by_cases h1:e.kind=1
  ·rw [ent_one h1,Bool.and_eq_true,decide_eq_true_eq] at h
   omega
  ·by_cases h2:e.kind=2
   ·rw [ent_two h2,Bool.and_eq_true,Bool.and_eq_true] at h
    exact grp7 h.2.2
   ·rw [ent_none h0 h1 h2] at h
    cases h
theorem lst_any {R R':Rd} {l:List Int} (h:RLst R l R') (hb:R'.bad=false) (h7:l.length≤7):R.grp anyG=(l,R'):=by
 rcases h with ⟨-,-,rfl,rfl⟩ | ⟨-,h⟩
 ·rw [zCJ] at h7
  rw [zCm (by omega)]
  rfl
 ·rw [h] at hb
  cases hb
theorem lst_grp {R R':Rd} {l:List Int} (h:RLst R l R') (hb:R'.bad=false) (hg:zAW l=true):R.grp zAW=(l,R'):=by
 have h7:=grp7 hg
 rcases h with ⟨-,-,rfl,rfl⟩ | ⟨-,h⟩
 ·rw [zCJ] at h7
  rw [zCm (by omega),if_pos hg]
 ·rw [h] at hb
  cases hb
theorem any_lst {R R':Rd} {l:List Int} (h:RLst R l R') (hb:(R.grp anyG).2.bad=false):R.grp anyG=(l,R'):=by
 by_cases h7:7 < R.num.1
 ·rw [grp_big h7] at hb
  cases hb
 ·rw [zCm h7] at hb ⊢
  rcases h with ⟨-,-,rfl,rfl⟩ | ⟨h,-⟩
  ·rfl
  ·exact absurd ⟨by omega,hb⟩ h
theorem grp_lst {R R':Rd} {l:List Int} (h:RLst R l R') (hb:(R.grp zAW).2.bad=false):R.grp zAW=(l,R'):=by
 have hg:=grp_bad hb
 by_cases h7:7 < R.num.1
 ·rw [grp_big h7] at hb
  cases hb
 ·rw [zCm h7] at hb hg ⊢
  have hg:zAW (Rd.ints R.num.1 R.num.2).1=true:=hg
  rw [hg] at hb ⊢
  have hb:(Rd.ints R.num.1 R.num.2).2.bad=false:=hb
  rcases h with ⟨-,-,rfl,rfl⟩ | ⟨h,-⟩
  ·rfl
  ·exact absurd ⟨by omega,hb⟩ h
theorem lst_first {R R':Rd} {l:List Int} (h:RLst R l R'):(R'.whole && zAW l)=(R.grp zAW).2.whole∧((R.grp zAW).2.whole=true→R.grp zAW=(l,R')):=by
 have h2:(R.grp zAW).2.whole=true→R.grp zAW=(l,R'):=fun e=>grp_lst h (zCv.1 e).1
 refine ⟨?_,h2⟩
 rw [Bool.eq_iff_iff,Bool.and_eq_true]
 refine ⟨fun e=>?_,fun e=>?_⟩
 ·rw [lst_grp h (zCv.1 e.1).1 e.2]
  exact e.1
 ·have h3:=h2 e
  have hg:=grp_bad (zCv.1 e).1
  rw [h3] at e hg
  exact ⟨e,hg⟩
def REntR (R:Rd) (e:Ent) (R':Rd):Prop :=
 ∃ l R5,RLst R.num.2.num.2.bytes.2 l R5∧e=⟨(R.num.1:Int),(R.num.2.num.1:Int),R.num.2.num.2.bytes.1,l⟩∧R'=if R5.bad=false∧zAs e=false then Rd.fail else R5
theorem rent_whole {R R':Rd} {e:Ent} (h:REntR R e R') :
  (R'.whole=true ↔ ((R.num.2.num.2.bytes.2.grp anyG).2.whole=true∧zAs ⟨(R.num.1:Int),(R.num.2.num.1:Int),R.num.2.num.2.bytes.1,(R.num.2.num.2.bytes.2.grp anyG).1⟩=true)) ∧
  (R'.whole=true→e=⟨(R.num.1:Int),(R.num.2.num.1:Int),R.num.2.num.2.bytes.1,(R.num.2.num.2.bytes.2.grp anyG).1⟩):=by
 obtain ⟨l,R5,hl,rfl,rfl⟩:=h
 generalize R.num.2.num.2.bytes.2=R4 at *
 generalize R.num.2.num.2.bytes.1=d at *
 have key:(if R5.bad=false∧zAs ⟨(R.num.1:Int),(R.num.2.num.1:Int),d,l⟩=false then Rd.fail else R5).whole=true→R4.grp anyG=(l,R5)∧R5.whole=true∧zAs ⟨(R.num.1:Int),(R.num.2.num.1:Int),d,l⟩=true:=by
  intro hw
  split at hw
  ·cases hw
  ·rename_i hn
   have hb:=(zCv.1 hw).1
   have he:zAs ⟨(R.num.1:Int),(R.num.2.num.1:Int),d,l⟩=true:=by
    cases hx:zAs ⟨(R.num.1:Int),(R.num.2.num.1:Int),d,l⟩ with
    | true=>rfl
    | false=>exact absurd ⟨hb,hx⟩ hn
   exact ⟨lst_any hl hb (ent_nodes7 he),hw,he⟩
 refine ⟨⟨fun hw=>?_,fun ⟨hw,he⟩=>?_⟩,fun hw=>?_⟩
 ·obtain ⟨h1,h2,h3⟩:=key hw
  rw [h1]
  exact ⟨h2,h3⟩
 ·have h1:=any_lst hl (zCv.1 hw).1
  rw [h1] at hw he
  rw [if_neg (fun hn=>by rw [he] at hn;exact absurd hn.2 (by simp))]
  exact hw
 ·obtain ⟨h1,-⟩:=key hw
  rw [h1]
theorem rsnap_is {b:Bs} {l:List Int} {R':Rd} (h:RLst (Rd.num ⟨b,false⟩).2.num.2 l R') (hd:R'.bad=false→R'.bytes.1.length≤524288) :
  zCX b=if R'.bytes.2.whole=true∧zAW l=true∧1≤(Rd.num ⟨b,false⟩).1∧(Rd.num ⟨b,false⟩).1≤1099511627776∧(Rd.num ⟨b,false⟩).2.num.1≤1099511627776 then some ⟨(Rd.num ⟨b,false⟩).1,(Rd.num ⟨b,false⟩).2.num.1,l,R'.bytes.1⟩ else none:=by
 unfold zCX
 dsimp only
 generalize (Rd.num ⟨b,false⟩).2.num.2=R2 at *
 generalize (Rd.num ⟨b,false⟩).1=n at *
 generalize (Rd.num ⟨b,false⟩).2.num.1=t at *
 by_cases hw:R'.bytes.2.whole=true∧zAW l=true
 ·have h1:=lst_grp h (zEZ hw.1) hw.2
  rw [h1]
  dsimp only
  by_cases hc:1≤n∧n≤1099511627776∧t≤1099511627776
  ·rw [if_pos ⟨hw.1,hc.1,hc.2.1,hc.2.2,hd (zEZ hw.1)⟩,if_pos ⟨hw.1,hw.2,hc⟩]
  ·rw [if_neg (fun e=>hc ⟨e.2.1,e.2.2.1,e.2.2.2.1⟩),if_neg (fun e=>hc e.2.2)]
 ·refine (if_neg fun e=>?_).trans (if_neg (fun e=>hw ⟨e.1,e.2.1⟩)).symm
  have hb:=zEZ e.1
  have h1:=grp_lst h hb
  have hg:=grp_bad hb
  rw [h1] at e hg
  exact hw ⟨e.1,hg⟩
def b12':Bs:=[49,50]
def b3':Bs:=[51]
def b123:Bs:=[49,50,51]
def Q0:zAB:=zAB.fresh 1000
def Q1:zAB:=⟨1000,[([97],⟨zAK b123,(zAK b123).length⟩)],none⟩
theorem q1:Q0.save (nm sA) [b12',b3'].flatten=(Q1,0) :=
 save_all (D:=Q0) (n:=[97]) (l:=b123) (zDU 1000 (by decide)) (fun j h=>by cases h) (by decide) (by decide) rfl (by decide) (by decide)
theorem q2 (k:Int):Sat.get (nm sA) (Q1.crash k).files=some ⟨zAK b123,(zAK b123).length⟩:=get_crash_whole (D:=Q1) (n:=[97]) rfl k
def fl (x:Bs):zAV:=⟨zAK x,(zAK x).length⟩
theorem each_one (g:Bs→zAV→List (Bs × zAV)→List (Bs × zAV)) (D:zAB) (n:Bs):D.each g [n]=D.each1 g n:=by
 cases h:D.each1 g n with
 | mk D1 e1 =>
  unfold zAB.each
  rw [h]
  by_cases he:e1=0
  ·subst he
   rw [if_pos rfl]
   rfl
  ·rw [if_neg he]
section
variable {a b c:Bs}
end
end Go.Proofs.YtapfnehdgailmaaGreat
