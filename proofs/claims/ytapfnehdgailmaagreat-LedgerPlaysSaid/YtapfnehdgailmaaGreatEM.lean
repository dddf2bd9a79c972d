/- The document's journal: reads (helpers, nothing, else, kind 2). (Printed by mkro2.py.) The document's journal: reads, kinds 2 and 1. (Printed by mkro3.py.) The document's journal: Append. (Printed by mkrk9.py.) The document's journal: reads, kinds 4 and 3; all of it. (Printed by mkro4.py.) The document's journal: reads. (Printed by mkro5.py.) The document's journal: anew, of no entries. (Printed by mkrj4.py.) The document's journal: anew. (Printed by mkrk10.py.) The document's journal: its base turned. (Printed by mkrk11.py.) The document's journal: stands. (Printed by mkrk12.py.) The document's Save (satrapyref4). The document's journal: its data turned; snaps. (Printed by mkrk13.py.) The document's journal: Compact. (Printed by mkrk14.py.) The document's journal: Install. (Printed by mkro6.py.) The document's journal within its opening: what each thing done leaves. The document's ledger: Last, has; within its opening what each thing done leaves. (Printed by mkrl2.py.) ledger: clears, Base, At, dies. (Printed by mkled.py.) ledger: image. (Printed by mkled2.py.) ledger: takes. (Printed by mkled3.py.) -/
import Derived.Test.YtapfnehdgailmaaGreatEG
import Derived.Test.YtapfnehdgailmaaGreatEJ
import Derived.Test.YtapfnehdgailmaaGreatEK
import Derived.Test.YtapfnehdgailmaaGreatEL
set_option maxRecDepth 100000
set_option maxHeartbeats 64000000
namespace Go.Proofs.YtapfnehdgailmaaGreat
open Go.RowKit Go.Sat Go.Maps
def zCY (S:Nat→Prop) (w:World) (j r:Nat) (pre:ByteArray) (M:JouM):Prop :=
 ∃ O C gv dv ev vs,RJIn w j r pre O C M gv dv ev vs∧∀ k,(O k∨C k)→S k
section
variable {S:Nat→Prop} {w w1 w2:World} {j r:Nat} {pre:ByteArray} {M:JouM}
theorem zCY.below (h:zCY S w1 j r pre M) (hb:Below w1.heap.size w1 w2):zCY S w2 j r pre M:=by
 obtain ⟨O,C,gv,dv,ev,vs,hJ,hn⟩:=h
 exact ⟨O,C,gv,dv,ev,vs,hJ.below hb,hn⟩
theorem zCY.ok (h:zCY S w j r pre M):M.OK:=let ⟨_,_,_,_,_,_,hJ,_⟩:=h;hJ.ok
theorem zCY.lt (h:zCY S w j r pre M):S j∧j < w.heap.size:=let ⟨_,_,_,_,_,_,hJ,hn⟩:=h;⟨hn j (.inl hJ.oj),hJ.olt j hJ.oj⟩
theorem zCY.cells (h:zCY S w j r pre M):∃ gv dv ev,w.heap[j]?=some (RJC r (M.number:Int) M.term gv pre M.now M.vote dv ev M.dead):=let ⟨_,_,gv,dv,ev,_,hJ,_⟩:=h;⟨gv,dv,ev,hJ.cells⟩
theorem zCY.last_calls (h:zCY S w1 j r pre M):Calls Tryz.prog 42 #[.pointer (some ⟨j,0,none⟩)] w1 fun e w'=>e=.returned (.tuple #[.int .i64 (M.last:Int),.int .i64 M.lastT])∧∃ q,w'=w1.drewN q:=by
 have hlast:=h.ok.last
 obtain ⟨O,C,gv,dv,ev,vs,hJ,hn⟩:=h
 have c0:=hJ.c 0 rfl
 have c1:=hJ.c 1 rfl
 have c8:=hJ.c 8 rfl
 obtain ⟨p,c,hev⟩:=hJ.row.shape
 have HL:=zh (show M.last=M.number+M.entries.length from rfl)
 by_cases h0:M.entries.length=0
 ·have he:M.entries=[]:=List.eq_nil_of_length_eq_zero h0
  have HE:=zh (show (M.last:Int)=(M.number:Int)∧M.lastT=M.term from ⟨by rw [HL.out,h0];rfl,by unfold JouM.lastT;rw [he];rfl⟩)
  rw [hev,h0] at c8
  clear hJ hn hev he h0 hlast
  go_enter Tryz.func42,Tryz.ntmps42
  go_wp2_with fail
  go_quiet (fail)
  go_wp2_with fail
  go_ret2
  exact ⟨by rw [HE.out.1,HE.out.2];rfl,_,rfl⟩
 ·have hpos:M.entries.length - 1 < M.entries.length:=by omega
  obtain ⟨g,c',v',hev',hv,-,k0,-,-,-⟩:=hJ.ent (List.getElem?_eq_getElem hpos)
  have hT:M.lastT=M.entries[M.entries.length - 1].term:=by
   unfold JouM.lastT
   rw [List.getLast?_eq_getElem?,List.getElem?_eq_getElem hpos]
  rw [← hT] at k0
  rw [hev'] at c8
  unfold JouM.last at hlast
  clear hJ hn hev hev' hv hpos hT
  generalize M.entries.length=n at *
  generalize M.number=b at *
  generalize M.last=la at *
  generalize M.lastT=lt at *
  have hnp:((n:Int) == 0)=false:=by simp;omega
  have hw1:IntKind.i64.wrap ((b:Int)+(n:Int))=(la:Int):=by rw [IntWalk.i64_in _ (by omega),HL.out];omega
  have hw2:IntKind.i64.wrap ((n:Int) - 1)=((n - 1:Nat):Int):=by rw [IntWalk.i64_in _ (by omega)];omega
  have hlt:n - 1 < n:=by omega
  go_enter Tryz.func42,Tryz.ntmps42
  go_wp2_with fail
  go_quiet (fail)
  go_wp2_with fail
  go_ret2
  exact ⟨rfl,_,rfl⟩
theorem zCY.wide {T:Nat→Prop} (h:zCY S w1 j r pre M) (hT:∀ k,S k→T k):zCY T w1 j r pre M:=by
 obtain ⟨O,C,gv,dv,ev,vs,hJ,hn⟩:=h
 exact ⟨O,C,gv,dv,ev,vs,hJ,fun k hk=>hT k (hn k hk)⟩
theorem zAw {B:Nat} (w:World) (q:Nat):Below B w (w.drewN q):=⟨rfl,rfl,rfl,Nat.le_refl _,fun _ _=>rfl⟩
theorem rdy_new {p:Option Addr} {n c:Nat} {l:Bs} (hx:HasB w (.slice p n c) l) (hcap:n≤c) (hlt:∀ k,(Value.slice p n c).ownBlock=some k→k < w.heap.size) (hl:n≤140737488355328) :
  RdY (fun k=>(Value.slice p n c).ownBlock=some k) (w.alloc (.cells #[.slice p n c,.bool false] 148)) w.heap.size ⟨l,false⟩:=by
 have hn:l.length=n:=by obtain ⟨_,_,e⟩:=hx.slice;simp only [Value.slice.injEq] at e;exact e.2.1.symm
 exact ⟨p,n,c,⟨zAW w _,hx.below (zAb w _),hcap,fun e=>by have:=hlt _ e;omega,by rw [hn];exact hl,fun e=>by cases e⟩,fun k hk=>hk⟩
end
section
variable {S:Nat→Prop} {w w1 w2:World} {j r:Nat} {pre:ByteArray} {M:JouM}
theorem zCY.vote (h:zCY S w1 j r pre M) {t v:Int} (ht:isTm t=true) (hv:-1≤v∧v < 7):zCY S ((w1.setCell ⟨j,5,none⟩ (.int .i64 t)).setCell ⟨j,6,none⟩ (.int .i64 v)) j r pre { M with now:=t,vote:=v }:=by
 obtain ⟨O,C,gv,dv,ev,vs,hJ,hn⟩:=h
 refine ⟨O,C,gv,dv,ev,vs,hJ.set ?_ ((Chg.setCell w1 ⟨j,5,none⟩ _).trans (Chg.setCell _ ⟨j,6,none⟩ _) fun _ _ e=>e) rfl rfl rfl ⟨hJ.ok.last,hJ.ok.term,hJ.ok.group,ht,hv,hJ.ok.data,hJ.ok.ents⟩,hn⟩
 have h1:=zAO hJ.cells 5 (.int .i64 t)
 have h2:=zAO h1 6 (.int .i64 v)
 simpa using h2
theorem zCY.base (h:zCY S w1 j r pre M) (he:M.entries=[]) (hk:∀ k,k < w1.heap.size→k≠j→w2.heap[k]?=w1.heap[k]?) (hsz:w1.heap.size≤w2.heap.size) {n:Nat} {t:Int} {g:List Int} {gv:Value} (hcell:∀ gv0 dv ev,w1.heap[j]?=some (RJC r (M.number:Int) M.term gv0 pre M.now M.vote dv ev M.dead)→w2.heap[j]?=some (RJC r (n:Int) t gv pre M.now M.vote dv ev M.dead))
  (hg:HasI w2 gv g) (hgn:∀ k,gv.ownBlock=some k→w1.heap.size≤k∧k < w2.heap.size) (hn40:n≤1099511627776) (ht:isTm t=true) (hgr:zDY g=true):zCY (fun k=>S k∨w1.heap.size≤k) w2 j r pre { M with number:=n,term:=t,group:=g }:=by
 obtain ⟨O,C,gv0,dv,ev,vs,hJ,hn⟩:=h
 have hjl:=hJ.olt j hJ.oj
 have hcj:∀ k,C k→k≠j:=fun k hk e=>hJ.dis k hk (e ▸ hJ.oj)
 refine ⟨O,fun k=>C k∨gv.ownBlock=some k,gv,dv,ev,vs,{
  cells:=hcell _ _ _ hJ.cells
  group:=hg
  data:=zAY.keep hJ.data fun k h=>hk k (hJ.clt k (hJ.cd k h)) (hcj k (hJ.cd k h))
  row:=hJ.row.keep fun k h=>hk k (hJ.olt k (hJ.oe k h).1) (hJ.oe k h).2
  rlen:=hJ.rlen
  rows:=fun i e v he hv=>(hJ.rows i e v he hv).keep fun k h=>hk k (hJ.clt k (hJ.cv v (List.mem_of_getElem? hv) k h)) (hcj k (hJ.cv v (List.mem_of_getElem? hv) k h))
  oj:=hJ.oj
  oe:=hJ.oe
  cg:=fun k hk=>.inr hk
  cd:=fun k hk=>.inl (hJ.cd k hk)
  cv:=fun u hu k hk=>.inl (hJ.cv u hu k hk)
  dis:=fun k hk ho=>by
   rcases hk with hk | hk
   ·exact hJ.dis k hk ho
   ·have h1:=(hgn k hk).1
    have h2:=hJ.olt k ho
    omega
  olt:=fun k h=>Nat.lt_of_lt_of_le (hJ.olt k h) hsz
  clt:=fun k h=>h.elim (fun h=>Nat.lt_of_lt_of_le (hJ.clt k h) hsz) fun h=>(hgn k h).2
  psz:=hJ.psz
  ok:=⟨by show n+M.entries.length≤_;rw [he];exact hn40,ht,hgr,hJ.ok.now,hJ.ok.vote,hJ.ok.data,hJ.ok.ents⟩ },fun k hk=>?_⟩
 rcases hk with hk | hk | hk
 ·exact .inl (hn k (.inl hk))
 ·exact .inl (hn k (.inr hk))
 ·exact .inr (hgn k hk).1
end
section
variable {w:World} {r:Nat} {v:Value} {L:List zAF} {own:Nat→Prop} {D:zAA}
theorem rsave_calls (h:zAU w r v L own D) (s:ByteArray) (hs:s.size≤9223372036854775000) {p:Option Addr} {m c:Nat} {l:Bs} (hx:HasB w (.slice p m c) l) (hl:l.length≤1048576) :
  Calls Tryz.prog 138 #[.pointer (some ⟨r,0,none⟩),.string s,.slice p m c] w (zBi w r own (D.save (nm s) l)):=by
 have hsz:(nm s).length=s.size:=zDU s
 by_cases hnm:(nm s).length < 1∨60 < (nm s).length
 ·have hM:D.save (nm s) l=(D,1):=by unfold zAA.save;rw [if_pos hnm]
  rw [hM]
  have Hfin:=zh (zA0 h (Below.refl _ _) 1)
  rw [hsz] at hnm
  generalize hzz:s.size=z at *
  clear hM h hx
  have hd1:(decide ((z:Int) < 1) || decide (60 < (z:Int)))=true:=by simp;omega
  by_cases hz:z < 1
  ·have hz0:z=0:=by omega
   subst hz0
   go_enter Tryz.func138,Tryz.ntmps138
   go_wp2_with fail
   go_ret
   exact Hfin.out
  ·have hz6:60 < z:=by omega
   go_enter Tryz.func138,Tryz.ntmps138
   go_wp2_with fail
   go_ret
   exact Hfin.out
 ·have hM:D.save (nm s) l=D.save1 (nm s) (zAG l):=by unfold zAA.save;rw [if_neg hnm]
  rw [hM]
  have He:=zh (renc_calls hx hl)
  have Hh:=zh h
  have Hs:=zh hs
  rw [hsz] at hnm
  generalize hz:s.size=z at *
  have Hz:=zh hz
  have hfl:(zAG l).length≤140737488355328:=by rw [zAo];omega
  have Hfl:=zh hfl
  clear hM h hx hl hs hfl
  go_enter Tryz.func138,Tryz.ntmps138
  go_wp2_with fail
  refine He.out.mono ?_
  rintro e w2 ⟨v2,rfl,hv,hnew,hb⟩
  obtain ⟨p2,c2,rfl⟩:=hv.slice
  have Hw:=zh ((rwhole_calls (Hh.out.below hb) s (by rw [Hz.out];exact Hs.out) hv.has Hfl.out (fun k hk=>⟨fun ho=>by have h1:=hnew k hk;have h2:=Hh.out.olt k ho;omega,OwnR.lt hv hk⟩)).mono fun e w' h=>rstep_below hb h)
  clear hv hnew hb He
  go_wp2_with fail
  refine Hw.out.mono ?_
  intro e w3 h3
  have HE:=zh h3
  obtain ⟨rfl,-⟩:=h3
  generalize (D.save1 (nm s) (zAG l)).2=e3 at *
  go_wp2_with fail
  go_ret
  exact HE.out
end
def ROS (w:World) (F:Nat→Prop) (j r:Nat) (pre:ByteArray) (own:Nat→Prop) (W:World) (D:zAA) (M:JouM):Prop :=
 ∃ Hot Cold,RJF W j r pre D M Hot Cold∧Chg own w W∧(∀ k,Hot k∨Cold k→own k∨w.heap.size≤k)∧∀ k,F k→k < W.heap.size∧¬ Hot k∧¬ Cold k
section
variable {w W W2:World} {F F' own:Nat→Prop} {j r:Nat} {pre:ByteArray} {D:zAA} {M:JouM}
theorem ROS.okD (h:ROS w F j r pre own W D M):D.OK:=let ⟨_,_,h,_⟩:=h;h.okD
theorem ROS.flt (h:ROS w F j r pre own W D M) {k:Nat} (hk:F k):k < W.heap.size:=let ⟨_,_,_,_,_,hf⟩:=h;(hf k hk).1
theorem ROS.cells (h:ROS w F j r pre own W D M):∃ gv dv ev,W.heap[j]?=some (RJC r (M.number:Int) M.term gv pre M.now M.vote dv ev M.dead):=let ⟨_,_,h,_⟩:=h;h.cellsD
theorem ROS.next (h:ROS w F j r pre own W D M) (hb:Below W.heap.size W W2):ROS w F j r pre own W2 D M:=by
 obtain ⟨Hot,Cold,hF,hc,hh,hf⟩:=h
 exact ⟨Hot,Cold,hF.below hb,hc.trans ((Chg.of_below hb).mono (T:=own) fun _ _ e=>e.elim) fun _ _ h=>h,hh,fun k hk=>⟨Nat.lt_of_lt_of_le (hf k hk).1 hb.size,(hf k hk).2⟩⟩
theorem ROS.same (h:ROS w F j r pre own W D M) (hb:Below W.heap.size W W2):Same F W W2:=fun k hk=>hb.block k (h.flt hk)
theorem ROS.less (h:ROS w F j r pre own W D M) (hF:∀ k,F' k→F k):ROS w F' j r pre own W D M:=by
 obtain ⟨Hot,Cold,hJ,hc,hh,hf⟩:=h
 exact ⟨Hot,Cold,hJ,hc,hh,fun k hk=>hf k (hF k hk)⟩
theorem ROS.more (h:ROS w F j r pre own W D M) (hb:Below W.heap.size W W2) (hF:∀ k,F' k→F k∨(W.heap.size≤k∧k < W2.heap.size)):ROS w F' j r pre own W2 D M:=by
 have h2:=h.next hb
 obtain ⟨Hot,Cold,hJ,hc,hh,hf⟩:=h
 refine ⟨Hot,Cold,hJ.below hb,hc.trans ((Chg.of_below hb).mono (T:=own) fun _ _ e=>e.elim) fun _ _ h=>h,hh,fun k hk=>?_⟩
 rcases hF k hk with h | h
 ·exact ⟨Nat.lt_of_lt_of_le (hf k h).1 hb.size,(hf k h).2⟩
 ·exact ⟨h.2,fun e=>by have:=hJ.hlt e;omega,fun e=>by have:=hJ.clt e;omega⟩
end
theorem zDq {w1:World} {l r:Nat} {pre:ByteArray} {O C:Nat→Prop} {M:LedM} {dv ev:Value} {vs:List Value} (h:LRIn w1 l r pre O C M dv ev vs) :
  Calls Tryz.prog 57 #[.pointer (some ⟨l,0,none⟩)] w1 fun e w'=>e=.returned (.int .i64 (M.last:Int))∧∃ q,w'=w1.drewN q:=by
 have hlast:=h.last
 have c2:=h.c 2 rfl
 have c4:=h.c 4 rfl
 obtain ⟨p,c,hev⟩:=h.row.shape
 rw [hev] at c4
 have HL:=zh (show (M.last:Int)=(M.base:Int)+(M.entries.length:Int) by unfold LedM.last;omega)
 have hw:IntKind.i64.wrap ((M.base:Int)+(M.entries.length:Int))=(M.base:Int)+(M.entries.length:Int):=IntWalk.i64_in _ (by unfold LedM.last at hlast;omega)
 clear h hev hlast
 generalize M.entries.length=n at *
 generalize M.base=b at *
 go_enter Tryz.func57,Tryz.ntmps57
 go_wp2_with fail
 go_quiet (fail)
 go_wp2_with fail
 go_ret
 exact ⟨by rw [HL.out];rfl,_,rfl⟩
theorem zB2.last_calls {S:Nat→Prop} {w1:World} {l r:Nat} {pre:ByteArray} {M:LedM} (h:zB2 S w1 l r pre M) :
  Calls Tryz.prog 57 #[.pointer (some ⟨l,0,none⟩)] w1 fun e w'=>e=.returned (.int .i64 (M.last:Int))∧∃ q,w'=w1.drewN q:=let ⟨_,_,_,_,_,hJ,_⟩:=h;zDq hJ
theorem zC6 {w1:World} {l r:Nat} {pre:ByteArray} {D:zAA} {M:LedM} {Hot Cold:Nat→Prop} (h:LRF w1 l r pre D M Hot Cold) :
  Calls Tryz.prog 57 #[.pointer (some ⟨l,0,none⟩)] w1 fun e w'=>e=.returned (.int .i64 (M.last:Int))∧∃ q,w'=w1.drewN q:=let ⟨_,_,_,_,_,_,_,hJ,_⟩:=h;zDq hJ
theorem lrhas_calls {w1:World} {l r:Nat} {pre:ByteArray} {D:zAA} {M:LedM} {Hot Cold:Nat→Prop} (h:LRF w1 l r pre D M Hot Cold) (s:ByteArray) :
  Calls Tryz.prog 139 #[.pointer (some ⟨l,0,none⟩),.string s] w1 fun e w'=>e=.returned (.bool (Sat.get (nm s) D.files).isSome)∧Below w1.heap.size w1 w':=by
 obtain ⟨_,_,_,_,_,_,_,hJ,hR,_⟩:=h
 have c0:=hJ.c 0 rfl
 have H:=zh (zBt hR s)
 clear hJ hR
 cases hg:Sat.get (nm s) D.files with
 | none =>
  rw [hg] at H
  go_enter Tryz.func139,Tryz.ntmps139
  go_wp2_with fail
  refine H.out.mono ?_
  rintro e w' ⟨v,rfl,-,-,hb⟩
  have Hf:=zh hb
  clear hb
  go_wp2_with fail
  go_ret
  exact ⟨rfl,Hf.out⟩
 | some f =>
  rw [hg] at H
  go_enter Tryz.func139,Tryz.ntmps139
  go_wp2_with fail
  refine H.out.mono ?_
  rintro e w' ⟨v,rfl,-,-,hb⟩
  have Hf:=zh hb
  clear hb
  go_wp2_with fail
  go_ret
  exact ⟨rfl,Hf.out⟩
def LOS (w:World) (F:Nat→Prop) (l r:Nat) (pre:ByteArray) (own:Nat→Prop) (W:World) (D:zAA) (M:LedM):Prop :=
 ∃ Hot Cold,LRF W l r pre D M Hot Cold∧Chg own w W∧(∀ k,Hot k∨Cold k→own k∨w.heap.size≤k)∧∀ k,F k→k < W.heap.size∧¬ Hot k∧¬ Cold k
section
variable {w W W2:World} {F F' own:Nat→Prop} {l r:Nat} {pre:ByteArray} {D:zAA} {M:LedM}
theorem LOS.okD (h:LOS w F l r pre own W D M):D.OK:=let ⟨_,_,h,_⟩:=h;h.okD
theorem LOS.flt (h:LOS w F l r pre own W D M) {k:Nat} (hk:F k):k < W.heap.size:=let ⟨_,_,_,_,_,hf⟩:=h;(hf k hk).1
theorem LOS.cells (h:LOS w F l r pre own W D M):∃ dv ev,W.heap[l]?=some (LRC r pre (M.base:Int) dv ev M.dead):=let ⟨_,_,⟨_,_,_,_,_,_,_,hJ,_⟩,_⟩:=h;⟨_,_,hJ.cells⟩
theorem LOS.next (h:LOS w F l r pre own W D M) (hb:Below W.heap.size W W2):LOS w F l r pre own W2 D M:=by
 obtain ⟨Hot,Cold,hF,hc,hh,hf⟩:=h
 exact ⟨Hot,Cold,hF.below hb,hc.trans ((Chg.of_below hb).mono (T:=own) fun _ _ e=>e.elim) fun _ _ h=>h,hh,fun k hk=>⟨Nat.lt_of_lt_of_le (hf k hk).1 hb.size,(hf k hk).2⟩⟩
theorem LOS.same (h:LOS w F l r pre own W D M) (hb:Below W.heap.size W W2):Same F W W2:=fun k hk=>hb.block k (h.flt hk)
theorem LOS.less (h:LOS w F l r pre own W D M) (hF:∀ k,F' k→F k):LOS w F' l r pre own W D M:=by
 obtain ⟨Hot,Cold,hJ,hc,hh,hf⟩:=h
 exact ⟨Hot,Cold,hJ,hc,hh,fun k hk=>hf k (hF k hk)⟩
theorem LOS.more (h:LOS w F l r pre own W D M) (hb:Below W.heap.size W W2) (hF:∀ k,F' k→F k∨(W.heap.size≤k∧k < W2.heap.size)):LOS w F' l r pre own W2 D M:=by
 have h2:=h.next hb
 obtain ⟨Hot,Cold,hJ,hc,hh,hf⟩:=h
 refine ⟨Hot,Cold,hJ.below hb,hc.trans ((Chg.of_below hb).mono (T:=own) fun _ _ e=>e.elim) fun _ _ h=>h,hh,fun k hk=>?_⟩
 rcases hF k hk with h | h
 ·exact ⟨Nat.lt_of_lt_of_le (hf k h).1 hb.size,(hf k h).2⟩
 ·exact ⟨h.2,fun e=>by have:=hJ.hlt e;omega,fun e=>by have:=hJ.clt e;omega⟩
theorem los_step {D':zAA} {M':LedM} {Hot Cold:Nat→Prop} (hc:Chg own w W) (hh:∀ k,Hot k∨Cold k→own k∨w.heap.size≤k) (hf:∀ k,F k→k < W.heap.size∧¬ Hot k∧¬ Cold k) (st:zAZ W l r pre Hot Cold W2 D' M'):LOS w F l r pre own W2 D' M'∧Same F W W2:=by
 obtain ⟨Hot2,Cold2,hF2,hc2,hh2,hco2⟩:=st
 have hs:=hc.size
 refine ⟨⟨Hot2,Cold2,hF2,hc.trans hc2 fun k hk he=>(hh k (.inl he)).resolve_right (by omega),fun k hk=>?_,fun k hk=>⟨Nat.lt_of_lt_of_le (hf k hk).1 hc2.size,fun e=>?_,fun e=>?_⟩⟩,fun k hk=>hc2.block k (hf k hk).1 (hf k hk).2.1⟩
 ·rcases hk with hk | hk
  ·rcases hh2 k hk with h | h
   ·exact hh k (.inl h)
   ·exact .inr (by omega)
  ·rcases hco2 k hk with h | h
   ·exact hh k (.inr h)
   ·exact .inr (by omega)
 ·rcases hh2 k e with h | h
  ·exact (hf k hk).2.1 h
  ·have:=(hf k hk).1
   omega
 ·rcases hco2 k e with h | h
  ·exact (hf k hk).2.2 h
  ·have:=(hf k hk).1
   omega
theorem los_ref (h:LOS w F l r pre own W D M):∃ v L own1,zAU W r v L own1 D:=by
 obtain ⟨_,_,⟨_,own1,_,_,_,v,L,_,hR,_⟩,_⟩:=h
 exact ⟨v,L,own1,hR⟩
theorem zB6 {P:Program} {f:FuncId} {args:Array Value} {Re:zAA × Nat} {wc:World} (h:LOS w F l r pre own W D M) (hb:Below W.heap.size W wc) (hx:∀ v L own1,zAU wc r v L own1 D→Calls P f args wc (zBi wc r own1 Re)) :
  Calls P f args wc fun e w'=>e=.returned (.int .i64 (Re.2:Int))∧LOS w F l r pre own w' Re.1 M∧Same F W w':=by
 obtain ⟨Hot,Cold,hF,hc,hh,hf⟩:=h
 refine (lr_disk hF hb fun v L own1 hR _=>hx v L own1 hR).mono ?_
 rintro e w' ⟨rfl,hst,-⟩
 exact ⟨rfl,los_step hc hh hf hst⟩
theorem los_has (h:LOS w F l r pre own W D M) {W2:World} (hb:Below W.heap.size W W2) (s:ByteArray) :
  Calls Tryz.prog 139 #[.pointer (some ⟨l,0,none⟩),.string s] W2 fun e w'=>e=.returned (.bool (Sat.get (nm s) D.files).isSome)∧Below W2.heap.size W2 w':=let ⟨_,_,h,_⟩:=h;lrhas_calls (h.below hb) s
theorem los_new (h:LOS w F l r pre own W D M):∃ S,zB2 S W l r pre M∧(∀ k,S k→k < W.heap.size∧¬ F k) ∧
  (∀ W' M',zB2 (fun k=>S k∨W.heap.size≤k) W' l r pre M'→Chg (fun k=>S k∨W.heap.size≤k) W W'→LOS w F l r pre own W' D M'∧Same F W W') ∧
  ∀ W',Chg (fun k=>S k∨W.heap.size≤k) W W'→∃ own',RefAt W' r D own'∧Chg own w W'∧∀ k,own' k→own k∨w.heap.size≤k:=by
 obtain ⟨Hot,Cold,hJF,hc,hh,hf⟩:=h
 obtain ⟨O,own1,dv,ev,vs,v,L,hJ,hR,hO,hCo,hH⟩:=hJF
 have hs:=hc.size
 have hfS:∀ k,F k→¬ (O k∨Cold k):=fun k hk e=>e.elim (fun o=>(hf k hk).2.1 ((hH k).2 (.inl o))) (hf k hk).2.2
 have hSo:∀ k,(O k∨Cold k)→own k∨w.heap.size≤k:=fun k hk=>hh k (hk.imp (fun o=>(hH k).2 (.inl o)) id)
 have hSw:∀ k,(O k∨Cold k)→¬ own1 k:=fun k hk=>hk.elim (hO k) (hCo k)
 refine ⟨fun k=>O k∨Cold k,⟨O,Cold,dv,ev,vs,hJ,fun _ h=>h⟩,fun k hk=>⟨hk.elim (hJ.olt k) (hJ.clt k),fun e=>hfS k e hk⟩,fun W' M' hN hC=>?_,fun W' hC=>⟨own1,⟨v,L,hR.keep hC.size fun k hk=>hC.block k (hR.olt k hk) fun e=>e.elim (fun e=>hSw k e hk) fun e=>by have:=hR.olt k hk;omega⟩,hc.trans hC fun k hk e=>e.elim (fun e=>(hSo k e).resolve_right (by omega)) fun e=>by omega,fun k hk=>hh k (.inl ((hH k).2 (.inr hk)))⟩⟩
 obtain ⟨O',C',dv',ev',vs',hJ',hn'⟩:=hN
 have hR':=hR.keep hC.size fun k hk=>hC.block k (hR.olt k hk) fun e=>e.elim (fun e=>hSw k e hk) fun e=>by have:=hR.olt k hk;omega
 have hdis:∀ k,(O' k∨C' k)→¬ own1 k:=fun k hk ho=>by
  rcases hn' k hk with e | e
  ·exact hSw k e ho
  ·have:=hR.olt k ho
   omega
 have hwide:∀ k,(O' k∨C' k)→own k∨w.heap.size≤k:=fun k hk=>by
  rcases hn' k hk with e | e
  ·exact hSo k e
  ·exact .inr (by omega)
 have hnf:∀ k,F k→¬ (O' k∨C' k):=fun k hk e=>by
  rcases hn' k e with e | e
  ·exact hfS k hk e
  ·have:=(hf k hk).1
   omega
 refine ⟨⟨fun k=>O' k∨own1 k,C',⟨O',own1,dv',ev',vs',v,L,hJ',hR',fun k hk=>hdis k (.inl hk),fun k hk=>hdis k (.inr hk),fun k=>Iff.rfl⟩,hc.trans hC fun k hk e=>?_,fun k hk=>?_,fun k hk=>⟨Nat.lt_of_lt_of_le (hf k hk).1 hC.size,fun e=>?_,fun e=>hnf k hk (.inr e)⟩⟩,fun k hk=>hC.block k (hf k hk).1 fun e=>?_⟩
 ·rcases e with e | e
  ·exact (hSo k e).resolve_right (by omega)
  ·omega
 ·rcases hk with (hk | hk) | hk
  ·exact hwide k (.inl hk)
  ·exact hh k (.inl ((hH k).2 (.inr hk)))
  ·exact hwide k (.inr hk)
 ·rcases e with e | e
  ·exact hnf k hk (.inl e)
  ·exact (hf k hk).2.1 ((hH k).2 (.inr e))
 ·rcases e with e | e
  ·exact hfS k hk e
  ·have:=(hf k hk).1
   omega
end
section
variable {w W W2:World} {F F' own:Nat→Prop} {l r:Nat} {pre:ByteArray} {D:zAA} {M:LedM}
def zDg (w:World) (r:Nat) (pre:ByteArray) (own:Nat→Prop) (R:zAA × Nat × LedM) (e:Ending) (w':World):Prop :=
 (R.2.1=0∧∃ l Hot Cold,e=.returned (.tuple #[.pointer (some ⟨l,0,none⟩),.int .i64 0])∧LRF w' l r pre R.1 R.2.2 Hot Cold∧Chg own w w'∧∀ k,Hot k∨Cold k→own k∨w.heap.size≤k) ∨
 (R.2.1≠0∧e=.returned (.tuple #[.pointer none,.int .i64 (R.2.1:Int)])∧∃ own',RefAt w' r R.1 own'∧Chg own w w'∧∀ k,own' k→own k∨w.heap.size≤k)
theorem zAn {R:zAA × Nat × LedM} (h:LOS w F l r pre own W D M) (hR:R=(D,0,M)):zDg w r pre own R (.returned (.tuple #[.pointer (some ⟨l,0,none⟩),.int .i64 0])) W:=by
 subst hR
 obtain ⟨Hot,Cold,hF,hc,hh,-⟩:=h
 exact .inl ⟨rfl,l,Hot,Cold,rfl,hF,hc,hh⟩
theorem zA3 {R:zAA × Nat × LedM} {M':LedM} {k:Nat} (h:LOS w F l r pre own W D M) (hR:R=(D,k,M')) (hk:k≠0):zDg w r pre own R (.returned (.tuple #[.pointer none,.int .i64 (k:Int)])) W:=by
 subst hR
 obtain ⟨Hot,Cold,hF,hc,hh,-⟩:=h
 obtain ⟨O,own1,dv,ev,vs,v,L,hJ,hR,hO,hCo,hH⟩:=hF
 exact .inr ⟨hk,rfl,own1,⟨v,L,hR⟩,hc,fun k hk=>hh k (.inl ((hH k).2 (.inr hk)))⟩
theorem zB7 {R:zAA × Nat × LedM} {M':LedM} {k:Nat} (h:∃ own',RefAt W r D own'∧Chg own w W∧∀ k,own' k→own k∨w.heap.size≤k) (hR:R=(D,k,M')) (hk:k≠0):zDg w r pre own R (.returned (.tuple #[.pointer none,.int .i64 (k:Int)])) W:=by
 subst hR
 exact .inr ⟨hk,rfl,h⟩
theorem lropened_arg {R:zAA × Nat × LedM} {M':LedM} {k:Nat} {v:Value} {L:List zAF} (h:zAU w r v L own D) (hb:Below w.heap.size w W) (hR:R=(D,k,M')) (hk:k≠0):zDg w r pre own R (.returned (.tuple #[.pointer none,.int .i64 (k:Int)])) W:=by
 subst hR
 exact .inr ⟨hk,rfl,own,⟨v,L,h.below hb⟩,(Chg.of_below hb).mono fun _ _ e=>e.elim,fun k hk=>.inl hk⟩
end
theorem hasN_one (w:World) (s:ByteArray) (e:TypeId) (fr:Nat × Nat):HasN (w.alloc (.cells #[.string s] e fr)) (.slice (some ⟨w.heap.size,0,none⟩) 1 1) [nm s]:=by
 refine ⟨by simp,some ⟨w.heap.size,0,none⟩,1,rfl,fun e=>(by cases e),fun a ha i u hu=>?_⟩
 cases ha
 rw [add_zero]
 refine zAC (zAW w _) ?_
 have:[encStr (nm s)]=[Value.string s]:=by rw [zCX,str_of]
 rw [List.map_cons,List.map_nil,this] at hu
 simpa using hu
theorem told_rid1 {w w1 w2:World} {d:Nat} {D:zAA} {F:Nat→Prop} (h:St w w1 d D F) (hb2:Below w1.heap.size w1 w2) (s:ByteArray) (hs:s.size≤9223372036854775807) :
  Calls Tryz.prog 137 #[.pointer (some ⟨d,0,none⟩),.slice (some ⟨w2.heap.size,0,none⟩) 1 1] (w2.alloc (.cells #[.string s] 9)) (Told w d F w1 (D.rid [nm s])):=by
 have hs2:=hb2.size
 have hb:Below w1.heap.size w1 (w2.alloc (.cells #[.string s] 9)):=hb2.alloc hb2.size _
 have h1:St w (w2.alloc (.cells #[.string s] 9)) d D (fun k=>F k∨k=w2.heap.size):=h.move (Chg.of_below hb) (fun _ _ h=>h.elim) fun k hk=>by
  rcases hk with hk | rfl
  ·exact ⟨.inl hk,Nat.lt_of_lt_of_le (h.flt hk) hb.size⟩
  ·exact ⟨.inr hs2,by simp⟩
 refine (zDv h1 (ns:=[nm s]) (fun W _ hs=>HasN.same (hasN_one w2 s _ _) fun k hk=>hs k (.inr (by cases hk;rfl))) (by simpa [zDU] using hs) (by simp)).mono ?_
 rintro e w' ⟨rfl,hst,hsa⟩
 exact ⟨rfl,hst.less fun _ hk=>.inl hk,fun k hk=>(hsa k (.inl hk)).trans (hb.block k (h.flt hk))⟩
section
variable {w w1:World} {l d:Nat} {pre:ByteArray} {D:zAA} {M:LedM} {F:Nat→Prop}
theorem clears_calls (h:St w w1 d D F) (hc:zCN l d pre w1) (hF:F l) :
  Calls Tryz.prog 174 #[.pointer (some ⟨l,0,none⟩)] w1 (Told w d F w1 (D.rid [zAD (imgN (nm pre))])):=by
 have Hlc:=zh hc
 obtain ⟨hc0,hc1,hps⟩:=hc
 have hrm:=told_rid1 h (Below.refl _ w1).drew (sShadow (sImg pre)) (by rw [size_sha,zD1];omega)
 rw [nm_sha,nm_img] at hrm
 have Hrm:=zh hrm
 have hsi:(sImg pre).size=pre.size+4:=zD1 pre
 clear hrm h
 go_enter Tryz.func174,Tryz.ntmps174
 go_wp2_with fail
 refine zAK (fun w':World=>w'.cell? ⟨l,0,none⟩=some (.pointer (some ⟨d,0,none⟩))∧w'.cell? ⟨l,1,none⟩=some (.string pre)) (n:=10) (by kernel_rfl) rfl (⟨hc0,hc1⟩) (fun hHeld=>?_)
 generalize w1.drew=W1 at *
 refine pl [0,1,2,3,4] ?_
 iterate 5 (refine pc rfl ?_;simp only [Act.put,uA,uB,uC])
 refine pn ?_
 refine zAB 5 rfl (by kernel_rfl) (by rfl) (fun K hK=>?_)
 go_wp2_with fail
 refine (zA2 ⟨hHeld.1,hHeld.2,hps⟩).mono ?_
 rintro e w9 ⟨rfl,rfl⟩
 go_wp2_with fail
 refine hK.out _ _ (hHeld) (fun hHeld=>?_)
 clear hK
 try simp only [Act.put,uA,uB,uC]
 refine otc 6 (v:=?v1x6) rfl ?y1x6 ?_
 case y1x6=>(intro w hSw;(try dsimp only at hSw);go_simp;rw [if_neg (by omega)];try with_reducible rfl)
 simp only [Act.put,uA,uB,uC]
 refine zAB 7 rfl (by kernel_rfl) (by rfl) (fun K hK=>?_)
 have Hh2:=zh (show (W1.alloc (.cells #[.string (sShadow (sImg pre))] 9)).cell? ⟨l,0,none⟩=some (.pointer (some ⟨d,0,none⟩))∧(W1.alloc (.cells #[.string (sShadow (sImg pre))] 9)).cell? ⟨l,1,none⟩=some (.string pre) from ⟨zAT hHeld.1 _,zAT hHeld.2 _⟩)
 go_wp2_with fail
 refine hK.out _ _ (Hh2.out) (fun hHeld=>?_)
 clear hK
 try simp only [Act.put,uA,uB,uC]
 refine zAB 8 rfl (by kernel_rfl) (by rfl) (fun K hK=>?_)
 go_wp2_with fail
 refine Hrm.out.mono ?_
 intro e w3 hT
 have HT:=zh hT
 have Hh3:=zh (Hlc.out.same (hT.2.2 l hF))
 obtain ⟨rfl,-⟩:=hT
 go_wp2_with fail
 refine hK.out _ _ (⟨Hh3.out.1,Hh3.out.2.1⟩) (fun hHeld=>?_)
 clear hK
 try simp only [Act.put,uA,uB,uC]
 refine otk 9 (v:=?v1x9) rfl ?_
 simp only [Act.put,uA,uB,uC]
 refine wpAnyH_done (by kernel_rfl) ?_ _
 go_wp2_with fail
 go_ret
 exact HT.out
def Given (w1:World) (b:Bs) (v:Value) (w':World):Prop:=OwnB w' 5 v b∧(∀ k,v.ownBlock=some k→w1.heap.size≤k)∧Below w1.heap.size w1 w'
theorem base_calls (h:LedF w w1 l d pre D M F) :
  Calls Tryz.prog 125 #[.pointer (some ⟨l,0,none⟩)] w1 fun e w'=>∃ v,e=.returned (.tuple #[.int .i64 (M.base:Int),v])∧Given w1 M.data v w':=by
 obtain ⟨own,dv,ev,vs,hL,-⟩:=h
 have h2:=hL.c2
 have h3:=hL.c3
 have Hcl:=zh (zA6 (OwnB.has (OwnR.keep hL.data fun _ _=>rfl:OwnB w1.drew 5 dv M.data)) (Nat.le_trans hL.big.1 (by decide)))
 have Hlt:=zh hL.olt
 have Hol:=zh hL.ol
 obtain ⟨p,c,rfl,-⟩:=zAX hL.data
 clear hL
 generalize M.data.length=n at *
 generalize M.base=b at *
 go_enter Tryz.func125,Tryz.ntmps125
 go_wp2_with fail
 refine zAK (fun w':World=>w'.cell? ⟨l,2,none⟩=some (.int .i64 (b:Int))∧w'.cell? ⟨l,3,none⟩=some (.slice p n c)) (n:=11) (by kernel_rfl) rfl (⟨h2,h3⟩) (fun hHeld=>?_)
 
 refine pl [0,1,2,3,4,5,6,7] ?_
 iterate 8 (refine pc rfl ?_;simp only [Act.put,uA,uB,uC])
 refine pn ?_
 refine zAB 8 rfl (by kernel_rfl) (by rfl) (fun K hK=>?_)
 go_wp2_with fail
 refine Hcl.out.mono ?_
 rintro e w3 ⟨v,rfl,hv,hvn,hb⟩
 have Hh3:=zh (show w3.cell? ⟨l,2,none⟩=some (.int .i64 (b:Int))∧w3.cell? ⟨l,3,none⟩=some (.slice p n c) from ⟨(hb.cell (World.block_lt_of_cell? _ _ hHeld.1)).trans hHeld.1,(hb.cell (World.block_lt_of_cell? _ _ hHeld.2)).trans hHeld.2⟩)
 have HE:=zh (show Given w1 M.data v w3 from ⟨hv,hvn,(zAH w1).trans hb⟩)
 obtain ⟨pv,cv,rfl,-⟩:=zAX hv
 clear hv hvn hb
 go_wp2_with fail
 refine hK.out _ _ (Hh3.out) (fun hHeld=>?_)
 clear hK
 try simp only [Act.put,uA,uB,uC]
 refine pl [9,10] ?_
 iterate 2 (refine pc rfl ?_;simp only [Act.put,uA,uB,uC])
 refine pn ?_
 refine wpAnyH_done (by kernel_rfl) ?_ _
 go_wp2_with fail
 go_ret2
 exact ⟨_,rfl,HE.out⟩
theorem at_yes (h:LedF w w1 l d pre D M F) (j:Nat) (hj:j < M.entries.length) :
  Calls Tryz.prog 142 #[.pointer (some ⟨l,0,none⟩),.int .i64 (((M.base+1+j:Nat)):Int)] w1 fun e w'=>∃ v,e=.returned (.tuple #[v,.int .i64 0])∧Given w1 M.entries[j] v w':=by
 have Hla:=zh (last_calls h)
 have hlast:=h.last
 obtain ⟨own,dv,ev,vs,hL,-⟩:=h
 have h2:=hL.c2
 have h4:=hL.c4
 have hvl:j < vs.length:=by rw [hL.len];exact hj
 have hrow:=hL.rows j _ _ (List.getElem?_eq_getElem hvl) (List.getElem?_eq_getElem hj)
 have hbig:=hL.big.2 _ (List.getElem_mem hj)
 rcases hL.row.2 with ⟨-,h0⟩ | ⟨g,cap,cur,rfl,-⟩
 ·omega
 have hcell:=hL.row.cells (g:=g) rfl j _ (List.getElem?_eq_getElem hvl)
 rw [add_zero] at hcell
 have Hcl:=zh (fun W (hb:Below w1.heap.size w1 W)=>zA6 (OwnB.has (zDr hrow hb)) (Nat.le_trans hbig (by decide)))
 obtain ⟨p,c,hp,-⟩:=zAX hrow
 rw [hp] at hcell Hcl
 unfold LedM.last at hlast
 have HL:=zh (show M.last=M.base+M.entries.length from rfl)
 clear hL hrow hbig hp
 generalize M.entries[j]=x at *
 generalize x.length=m at *
 generalize M.entries.length=n at *
 generalize M.last=la at *
 generalize M.base=b at *
 have hla:la=b+n:=HL.out
 have e1:((b+1+j:Nat):Int)=(b:Int)+1+(j:Int):=by omega
 rw [e1]
 have hn1:¬ ((b:Int)+1+(j:Int)≤(b:Int)):=by omega
 have hn2:¬ ((la:Int) < (b:Int)+1+(j:Int)):=by omega
 have hd1:decide ((b:Int)+1+(j:Int)≤(b:Int))=false:=by simp;omega
 have hd2:decide ((la:Int) < (b:Int)+1+(j:Int))=false:=by simp;omega
 have hw1:IntKind.i64.wrap ((b:Int)+1+(j:Int) - (b:Int))=(j:Int)+1:=by rw [IntWalk.i64_in _ (by omega)];omega
 have hw2:IntKind.i64.wrap (j:Int)=(j:Int):=IntWalk.i64_in _ (by omega)
 clear hla
 go_enter Tryz.func142,Tryz.ntmps142
 go_wp2_with fail
 refine Hla.out.mono ?_
 rintro e w2 ⟨rfl,q,rfl⟩
 have h2:(w1.drewN q).cell? ⟨l,2,none⟩=some (.int .i64 (b:Int)):=h2
 have h4:(w1.drewN q).cell? ⟨l,4,none⟩=some (.slice (some ⟨g,0,none⟩) n cap):=h4
 have hcell:(w1.drewN q).cell? ⟨g,j,none⟩=some (.slice p m c):=hcell
 go_wp2_with fail
 refine zAK (fun w':World=>w'.cell? ⟨l,2,none⟩=some (.int .i64 (b:Int))∧w'.cell? ⟨l,4,none⟩=some (.slice (some ⟨g,0,none⟩) n cap)∧w'.cell? ⟨g,j,none⟩=some (.slice p m c)) (n:=16) (by kernel_rfl) rfl (⟨h2,h4,hcell⟩) (fun hHeld=>?_)
 have HB1:=zh (show Below w1.heap.size w1 (w1.drewN q).drew from ⟨rfl,rfl,rfl,Nat.le_refl _,fun _ _=>rfl⟩)
 generalize (w1.drewN q).drew=W1 at *
 refine pl [0,1,2,3,4,5,6,7,8,9,10,11,12] ?_
 iterate 13 (refine pc rfl ?_;simp only [Act.put,uA,uB,uC])
 refine pn ?_
 refine zAB 13 rfl (by kernel_rfl) (by rfl) (fun K hK=>?_)
 go_wp2_with fail
 refine (Hcl.out W1 HB1.out).mono ?_
 rintro e w3 ⟨v,rfl,hv,hvn,hb⟩
 have Hh3:=zh (show w3.cell? ⟨l,2,none⟩=some (.int .i64 (b:Int))∧w3.cell? ⟨l,4,none⟩=some (.slice (some ⟨g,0,none⟩) n cap)∧w3.cell? ⟨g,j,none⟩=some (.slice p m c) from ⟨(hb.cell (World.block_lt_of_cell? _ _ hHeld.1)).trans hHeld.1,(hb.cell (World.block_lt_of_cell? _ _ hHeld.2.1)).trans hHeld.2.1,(hb.cell (World.block_lt_of_cell? _ _ hHeld.2.2)).trans hHeld.2.2⟩)
 have HE:=zh (show Given w1 x v w3 from ⟨hv,fun k hk=>Nat.le_trans HB1.out.size (hvn k hk),HB1.out.trans (hb.mono HB1.out.size)⟩)
 obtain ⟨pv,cv,rfl,-⟩:=zAX hv
 clear hv hvn hb
 go_wp2_with fail
 refine hK.out _ _ (Hh3.out) (fun hHeld=>?_)
 clear hK
 try simp only [Act.put,uA,uB,uC]
 refine pl [14,15] ?_
 iterate 2 (refine pc rfl ?_;simp only [Act.put,uA,uB,uC])
 refine pn ?_
 refine wpAnyH_done (by kernel_rfl) ?_ _
 go_wp2_with fail
 go_ret2
 exact ⟨_,rfl,HE.out⟩
theorem at_no (h:LedF w w1 l d pre D M F) (i:Int) (hi:i≤(M.base:Int)∨(M.last:Int) < i) (_hr:-9223372036854775808≤i∧i≤9223372036854775807) :
  Calls Tryz.prog 142 #[.pointer (some ⟨l,0,none⟩),.int .i64 i] w1 fun e w'=>e=.returned (.tuple #[.slice none 0 0,.int .i64 7])∧∃ q,w'=w1.drewN q:=by
 have Hla:=zh (last_calls h)
 obtain ⟨own,dv,ev,vs,hL,-⟩:=h
 have h2:=hL.c2
 clear hL
 generalize M.last=la at *
 generalize M.base=b at *
 by_cases hb:i≤(b:Int)
 ·go_enter Tryz.func142,Tryz.ntmps142
  go_wp2_with fail
  go_ret2
  exact ⟨rfl,0,rfl⟩
 ·have hla:(la:Int) < i:=by omega
  clear hi
  go_enter Tryz.func142,Tryz.ntmps142
  go_wp2_with fail
  refine Hla.out.mono ?_
  rintro e w2 ⟨rfl,q,rfl⟩
  go_wp2_with fail
  go_ret2
  exact ⟨rfl,q,rfl⟩
theorem dies_set {own:Nat→Prop} {dv ev:Value} {vs:List Value} (hL:zBP w1 l d pre own M dv ev vs) (x:Bool):zBP (w1.setCell ⟨l,5,none⟩ (.bool x)) l d pre own { M with dead:=x } dv ev vs where
 cells:=by have:=zAO hL.cells 5 (.bool x);simpa using this
 data:=OwnR.keep hL.data fun k hk=>zAE _ (hL.od k hk).2.1
 row:=hL.row.keep fun k hk=>zAE _ (hL.oe k hk).2
 rows:=fun i u b hu hb=>OwnR.keep (hL.rows i u b hu hb) fun k hk=>zAE _ (hL.ov u (List.mem_of_getElem? hu) k hk).2.1
 ol:=hL.ol
 od:=hL.od
 oe:=hL.oe
 ov:=hL.ov
 olt:=fun k hk=>by have:=hL.olt k hk;simpa [World.setCell] using this
 last:=hL.last
 psz:=hL.psz
 big:=hL.big
theorem zBS (h:LedF w w1 l d pre D M F) (k:Nat) :
  Calls Tryz.prog 131 #[.pointer (some ⟨l,0,none⟩),.int .i64 (k:Int)] w1 fun e w'=>e=.returned (.int .i64 (k:Int))∧LedF w w' l d pre D { M with dead:=M.dead || decide (k≠0) } F∧Same F w1 w':=by
 obtain ⟨own,dv,ev,vs,hL,hS,hn,hl⟩:=h
 have h5:=hL.c5
 have hf:=hL.fr 5
 have HE:=zh (fun x=>LedF.turned (D:=D) (F:=F) hS hn hl (dies_set hL x) ((Chg.setCell w1 ⟨l,5,none⟩ (.bool x)).mono fun j _ e=>by rw [e];exact hL.ol) fun _ h=>.inl h)
 clear hL hS hn hl
 cases hd:M.dead with
 | true =>
  rw [hd] at h5
  go_enter Tryz.func131,Tryz.ntmps131
  go_wp2_with fail
  go_ret
  exact ⟨rfl,by simpa using HE.out true⟩
 | false =>
  rw [hd] at h5
  by_cases hk:k=0
  ·subst hk
   go_enter Tryz.func131,Tryz.ntmps131
   go_wp2_with fail
   go_ret
   exact ⟨rfl,by simpa using HE.out false⟩
  ·have hne:((k:Int) != 0)=true:=by simp;omega
   have Hk:=zh hk
   clear hk
   go_enter Tryz.func131,Tryz.ntmps131
   go_wp2_with fail
   go_ret
   exact ⟨rfl,by simpa [Hk.out] using HE.out true⟩
end
def ImgTold (w w1:World) (l d:Nat) (pre:ByteArray) (D:zAA) (F:Nat→Prop) (i:Nat × Nat × Bs) (e:Ending) (w':World):Prop :=
 e=.returned (.int .i64 (i.1:Int))∧(i.1=0→LedF w w' l d pre D ⟨i.2.1,i.2.2,[],false⟩ F)∧St w w' d D F∧Same F w1 w'
section
variable {w w1 w2:World} {l d:Nat} {pre:ByteArray} {D:zAA} {M:LedM} {F:Nat→Prop}
theorem LedF.stF (h:LedF w w1 l d pre D M F):St w w1 d D F:=let ⟨_,_,_,_,_,hS,_,_⟩:=h;hS.less fun _ hk=>.inr hk
theorem img_end (h:LedF w w1 l d pre D LedM.none0 F) (hb:Below w1.heap.size w1 w2) (k:Nat) (i:Nat × Nat × Bs) (hi:i=(k,0,[])):ImgTold w w1 l d pre D F i (.returned (.int .i64 (k:Int))) w2:=by
 subst hi
 exact ⟨rfl,fun _=>h.next hb,(h.next hb).stF,h.same hb⟩
theorem imageOf_7 {o:Option zAP} (h:loadE o=7):zAg o=(0,0,[]):=by unfold zAg;rw [if_pos h]
theorem imageOf_e {o:Option zAP} (h:loadE o≠7) (h0:loadE o≠0):zAg o=(loadE o,0,[]):=by unfold zAg;rw [if_neg h,if_pos h0]
theorem imageOf_0 {o:Option zAP} (h0:loadE o=0):zAg o=if (Rd.num ⟨zBT o,false⟩).2.bytes.2.whole=false∨1099511627776 < (Rd.num ⟨zBT o,false⟩).1 then (3,0,[]) else (0,(Rd.num ⟨zBT o,false⟩).1,(Rd.num ⟨zBT o,false⟩).2.bytes.1):=by
 unfold zAg
 rw [if_neg (by omega),if_neg (by omega)]
theorem img_set {own:Nat→Prop} {dv ev:Value} {vs:List Value} (hL:zBP w1 l d pre own LedM.none0 dv ev vs) {n:Nat} {v:Value} {b:Bs} (hv:OwnB w1 5 v b) (hvo:∀ k,v.ownBlock=some k→¬ own k) (hn:n≤1099511627776) (hb:b.length≤1073741824) :
  zBP ((w1.setCell ⟨l,2,none⟩ (.int .i64 (n:Int))).setCell ⟨l,3,none⟩ v) l d pre (fun k=>own k∨v.ownBlock=some k) ⟨n,b,[],false⟩ v ev vs:=by
 have hne:∀ k,v.ownBlock=some k→k≠l:=fun k hk e=>hvo k hk (e ▸ hL.ol)
 have hvs:vs=[]:=List.eq_nil_of_length_eq_zero (by have:=hL.len;exact this)
 have hk:∀ k,k≠l→((w1.setCell ⟨l,2,none⟩ (.int .i64 (n:Int))).setCell ⟨l,3,none⟩ v).heap[k]?=w1.heap[k]?:=fun k e=>(zAE _ e).trans (zAE _ e)
 subst hvs
 refine ⟨?_,OwnR.keep hv fun k h=>hk k (hne k h),hL.row.keep fun k h=>hk k (hL.oe k h).2,fun i u b hu=>(by simp at hu),.inl hL.ol,fun k h=>⟨.inr h,hne k h,fun e=>hvo k h (hL.oe k e).1⟩,fun k h=>⟨.inl (hL.oe k h).1,(hL.oe k h).2⟩,fun u hu=>(by simp at hu),fun k h=>?_,?_,hL.psz,hb,fun b hb=>(by simp at hb)⟩
 ·have h1:=zAO hL.cells 2 (.int .i64 (n:Int))
  have h2:=zAO h1 3 v
  simpa [LedM.none0] using h2
 ·have:k < w1.heap.size:=h.elim (hL.olt k) fun h=>OwnR.lt hv h
  simpa [World.setCell] using this
 ·show n+0≤_
  omega
theorem image_calls (h:LedF w w1 l d pre D LedM.none0 F) :
  Calls Tryz.prog 175 #[.pointer (some ⟨l,0,none⟩)] w1 (ImgTold w w1 l d pre D F (zAg (Sat.get (imgN (nm pre)) D.files))):=by
 obtain ⟨hc0,hc1,hps⟩:=h.lc
 have hln:=zCk h.okD (imgN (nm pre))
 have HB1:=zh (zAH w1)
 have hld:=load_calls (h.st.next (zAH w1)) (sImg pre) (by rw [zD1];omega)
 rw [nm_img] at hld
 unfold GotL at hld
 generalize ho:Sat.get (imgN (nm pre)) D.files=o at *
 generalize hn:(zBT o).length=n at *
 have hnn:n≤1073741824:=by
  rw [← hn]
  cases o with
  | none=>rw [zDJ];exact Nat.zero_le _
  | some f =>
   rw [zCb]
   unfold oneB decB
   split
   ·split
    ·rw [List.length_take,List.length_drop]
     omega
    ·exact Nat.zero_le _
   ·exact Nat.zero_le _
 have Hld:=zh hld
 have H:=zh h
 clear hld h ho hln
 by_cases h7:loadE o=7
 ·have HI:=zh (imageOf_7 h7)
  rw [h7] at Hld
  clear h7
  go_enter Tryz.func175,Tryz.ntmps175
  go_wp2_with fail
  refine zAK (fun w':World=>w'.cell? ⟨l,0,none⟩=some (.pointer (some ⟨d,0,none⟩))∧w'.cell? ⟨l,1,none⟩=some (.string pre)) (n:=12) (by kernel_rfl) rfl (⟨hc0,hc1⟩) (fun hHeld=>?_)
  generalize w1.drew=W1 at *
  refine pl [0,1,2,3,4] ?_
  iterate 5 (refine pc rfl ?_;simp only [Act.put,uA,uB,uC])
  refine pn ?_
  refine zAB 5 rfl (by kernel_rfl) (by rfl) (fun K hK=>?_)
  go_wp2_with fail
  refine (zA2 ⟨hHeld.1,hHeld.2,hps⟩).mono ?_
  rintro e w9 ⟨rfl,rfl⟩
  go_wp2_with fail
  refine hK.out _ _ (hHeld) (fun hHeld=>?_)
  clear hK
  try simp only [Act.put,uA,uB,uC]
  refine zAB 6 rfl (by kernel_rfl) (by rfl) (fun K hK=>?_)
  go_wp2_with fail
  refine Hld.out.mono ?_
  rintro e w2 ⟨v,rfl,hv,hvn,hb,hst⟩
  have Hh3:=zh (show w2.cell? ⟨l,0,none⟩=some (.pointer (some ⟨d,0,none⟩))∧w2.cell? ⟨l,1,none⟩=some (.string pre) from ⟨(hb.cell (World.block_lt_of_cell? _ _ hHeld.1)).trans hHeld.1,(hb.cell (World.block_lt_of_cell? _ _ hHeld.2)).trans hHeld.2⟩)
  have Hb:=zh (show Below w1.heap.size w1 w2 from HB1.out.trans (hb.mono HB1.out.size))
  have Hv:=zh hv
  have hlen:(zBT o).length=n:=hn
  obtain ⟨pv,cv,rfl,-⟩:=zAX hv
  rw [hlen]
  clear hv hvn hb hst Hld
  go_wp2_with fail
  refine hK.out _ _ (Hh3.out) (fun hHeld=>?_)
  clear hK
  try simp only [Act.put,uA,uB,uC]
  refine pl [7,8,9,10,11] ?_
  iterate 5 (refine pc rfl ?_;simp only [Act.put,uA,uB,uC])
  refine pn ?_
  refine wpAnyH_done (by kernel_rfl) ?_ _
  have HE:=zh (img_end H.out Hb.out 0 _ HI.out)
  go_wp2_with fail
  go_ret
  exact HE.out
 ·by_cases h0:loadE o=0
  ·have HI:=zh (imageOf_0 h0)
   rw [h0] at Hld
   clear h7 h0
   go_enter Tryz.func175,Tryz.ntmps175
   go_wp2_with fail
   refine zAK (fun w':World=>w'.cell? ⟨l,0,none⟩=some (.pointer (some ⟨d,0,none⟩))∧w'.cell? ⟨l,1,none⟩=some (.string pre)) (n:=12) (by kernel_rfl) rfl (⟨hc0,hc1⟩) (fun hHeld=>?_)
   generalize w1.drew=W1 at *
   refine pl [0,1,2,3,4] ?_
   iterate 5 (refine pc rfl ?_;simp only [Act.put,uA,uB,uC])
   refine pn ?_
   refine zAB 5 rfl (by kernel_rfl) (by rfl) (fun K hK=>?_)
   go_wp2_with fail
   refine (zA2 ⟨hHeld.1,hHeld.2,hps⟩).mono ?_
   rintro e w9 ⟨rfl,rfl⟩
   go_wp2_with fail
   refine hK.out _ _ (hHeld) (fun hHeld=>?_)
   clear hK
   try simp only [Act.put,uA,uB,uC]
   refine zAB 6 rfl (by kernel_rfl) (by rfl) (fun K hK=>?_)
   go_wp2_with fail
   refine Hld.out.mono ?_
   rintro e w2 ⟨v,rfl,hv,hvn,hb,hst⟩
   have Hh3:=zh (show w2.cell? ⟨l,0,none⟩=some (.pointer (some ⟨d,0,none⟩))∧w2.cell? ⟨l,1,none⟩=some (.string pre) from ⟨(hb.cell (World.block_lt_of_cell? _ _ hHeld.1)).trans hHeld.1,(hb.cell (World.block_lt_of_cell? _ _ hHeld.2)).trans hHeld.2⟩)
   have Hb:=zh (show Below w1.heap.size w1 w2 from HB1.out.trans (hb.mono HB1.out.size))
   have Hv:=zh hv
   have hlen:(zBT o).length=n:=hn
   obtain ⟨pv,cv,rfl,-⟩:=zAX hv
   rw [hlen]
   clear hv hvn hb hst Hld
   go_wp2_with fail
   refine hK.out _ _ (Hh3.out) (fun hHeld=>?_)
   clear hK
   try simp only [Act.put,uA,uB,uC]
   refine pl [7,8,9,10,11] ?_
   iterate 5 (refine pc rfl ?_;simp only [Act.put,uA,uB,uC])
   refine pn ?_
   refine wpAnyH_done (by kernel_rfl) ?_ _
   have Hn0:=zh hn
   have HasV:=zh (show HasB w2 (.slice pv n cv) (zBT o) from by have:=Hv.out.has;rw [hlen] at this;exact this)
   clear hn hlen
   go_wp2_with fail
   refine (newrd_calls HasV.out (by rw [Hn0.out];omega)).mono ?_
   rintro e w3 ⟨r,rfl,hr,hrn,hb3⟩
   have Hnum:=zh (show Calls Tryz.prog 191 #[.pointer (some ⟨r,0,none⟩)] w3 (zCi w3 r ⟨zBT o,false⟩) from by obtain ⟨_,_,_,h⟩:=hr;exact num_calls h)
   have Hb3:=zh hb3
   have Hrn:=zh hrn
   clear hr hrn hb3
   go_wp2_with fail
   refine Hnum.out.mono ?_
   rintro e w4 ⟨rfl,hr4,hc4⟩
   have Hby:=zh (rbytes_calls hr4)
   have Hc4:=zh hc4
   have hm62:=Rd.num_le ⟨zBT o,false⟩
   have Hbl:=zh (show (Rd.num ⟨zBT o,false⟩).2.bytes.1.length≤1073741824 from Nat.le_trans (Rd.bytes_len _) (Nat.le_trans (Rd.num_rest _) (by show (zBT o).length≤_;rw [Hn0.out];exact hnn)))
   clear hr4 hc4 Hnum
   generalize (Rd.num ⟨zBT o,false⟩).1=m at *
   generalize (Rd.num ⟨zBT o,false⟩).2=R1 at *
   go_wp2_with fail
   refine Hby.out.mono ?_
   rintro e w5 ⟨v5,rfl,hv5,hn5,hr5,hc5⟩
   have HB5:=zh (show Below w2.heap.size w2 w5 from Hb3.out.trans ((Hc4.out.trans hc5 fun _ _ e=>e).below Hb3.out.size fun k hk e=>by have:=Hrn.out;omega))
   have HL5:=zh (H.out.next (Hb.out.trans (HB5.out.mono Hb.out.size)))
   have hrl:r≠l:=fun e=>by have h1:=H.out.llt;have h2:=Hb.out.size;have h3:=Hrn.out;omega
   have Hn5:=zh (show ∀ k,v5.ownBlock=some k→w1.heap.size≤k from fun k hk=>by have h1:=hn5 k hk;have h2:=Hb.out.size;have h3:=Hb3.out.size;have h4:=Hc4.out.size;omega)
   have Hrd:=zh (fun (W:World) (hs:W.heap[r]?=w5.heap[r]?)=>whole_calls (hr5.hd.same hs))
   have HV5:=zh hv5
   obtain ⟨dv,ev,hcl,-⟩:=HL5.out.cells
   have k2:w5.cell? ⟨l,2,none⟩=some (.int .i64 (LedM.none0.base:Int)):=zAC hcl rfl
   have k3:w5.cell? ⟨l,3,none⟩=some dv:=zAC hcl rfl
   have f2:=zAI hcl 2
   have f3:=zAI hcl 3
   clear hv5 hn5 hr5 hc5 Hby hcl
   generalize R1.bytes.2=R2 at *
   generalize R1.bytes.1=b5 at *
   obtain ⟨p5,c5,rfl,-⟩:=zAX HV5.out
   have HW:=zh (show ((w5.setCell ⟨l,2,none⟩ (.int .i64 (m:Int))).setCell ⟨l,3,none⟩ (.slice p5 b5.length c5)).heap[r]?=w5.heap[r]? from (zAE _ hrl).trans (zAE _ hrl))
   have Hch:=zh (show Chg (fun k=>k=l) w5 ((w5.setCell ⟨l,2,none⟩ (.int .i64 (m:Int))).setCell ⟨l,3,none⟩ (.slice p5 b5.length c5)) from (Chg.setCell w5 ⟨l,2,none⟩ _).trans (Chg.setCell _ ⟨l,3,none⟩ _) fun _ _ e=>e)
   have hk2:((w5.setCell ⟨l,2,none⟩ (.int .i64 (m:Int))).setCell ⟨l,3,none⟩ (.slice p5 b5.length c5)).cell? ⟨l,2,none⟩=some (.int .i64 (m:Int)):=by
    obtain ⟨dv',ev',hcl,-⟩:=HL5.out.cells
    have h1:=zAO hcl 2 (.int .i64 (m:Int))
    have h2:=zAO h1 3 (.slice p5 b5.length c5)
    exact zAC h2 (by simp)
   have Hk2:=zh hk2
   have HS:=zh (show St w ((w5.setCell ⟨l,2,none⟩ (.int .i64 (m:Int))).setCell ⟨l,3,none⟩ (.slice p5 b5.length c5)) d D F∧Same F w1 ((w5.setCell ⟨l,2,none⟩ (.int .i64 (m:Int))).setCell ⟨l,3,none⟩ (.slice p5 b5.length c5)) from by
    obtain ⟨own,dv',ev',vs',hL,hS,hn,hl⟩:=HL5.out
    refine ⟨(hS.move Hch.out (fun k _ e=>⟨.inl (e ▸ hL.ol),(hn k (e ▸ hL.ol)).1⟩) fun k hk=>⟨.inl hk,Nat.lt_of_lt_of_le (hS.flt hk) Hch.out.size⟩).less fun _ h=>.inr h,fun k hk=>?_⟩
    have h1:=H.out.same (Hb.out.trans (HB5.out.mono Hb.out.size)) k hk
    exact (Hch.out.block k (hl k hk) fun e=>(hn l hL.ol).2 (e ▸ hk)).trans h1)
   clear hk2
   by_cases hw:R2.whole=false
   ·have Hwh:=zh (Hrd.out _ HW.out)
    rw [hw] at Hwh
    have HE:=zh (show ImgTold w w1 l d pre D F (zAg o) (.returned (.int .i64 3)) _ from by rw [HI.out,if_pos (.inl hw)];exact ⟨rfl,(fun h=>by cases h),HS.out⟩)
    clear hw Hrd HI
    go_wp2_with fail
    refine Hwh.out.mono ?_
    rintro e w6 ⟨rfl,rfl⟩
    go_wp2_with fail
    go_ret
    exact HE.out
   ·have Hwh:=zh (Hrd.out _ HW.out)
    rw [show R2.whole=true by cases h:R2.whole <;> simp_all] at Hwh
    by_cases hm:1099511627776 < m
    ·have HE:=zh (show ImgTold w w1 l d pre D F (zAg o) (.returned (.int .i64 3)) _ from by rw [HI.out,if_pos (.inr hm)];exact ⟨rfl,(fun h=>by cases h),HS.out⟩)
     have Hk3:=Hk2.out
     clear hw Hrd HI
     go_wp2_with fail
     refine Hwh.out.mono ?_
     rintro e w6 ⟨rfl,rfl⟩
     go_wp2_with fail
     go_ret
     exact HE.out
    ·have HE:=zh (show ImgTold w w1 l d pre D F (zAg o) (.returned (.int .i64 0)) _ from by
      rw [HI.out,if_neg (fun h=>h.elim hw hm)]
      refine ⟨rfl,fun _=>?_,HS.out⟩
      obtain ⟨own,dv',ev',vs',hL,hS,hn,hl⟩:=H.out
      have hb15:=Hb.out.trans (HB5.out.mono Hb.out.size)
      exact (LedF.turned hS hn hl (img_set (hL.below hb15) HV5.out (fun k hk ho=>by have h1:=Hn5.out k hk;have h2:=hL.olt k ho;omega) (by omega) Hbl.out) (((Chg.of_below hb15).mono fun _ _ h=>h.elim).trans Hch.out fun k _ e=>e ▸ hL.ol) fun k hk=>hk.imp id (Hn5.out k)).1)
     have Hk3:=Hk2.out
     clear hw Hrd HI
     go_wp2_with fail
     refine Hwh.out.mono ?_
     rintro e w6 ⟨rfl,rfl⟩
     go_wp2_with fail
     go_ret
     exact HE.out
  ·have HI:=zh (imageOf_e h7 h0)
   have h7':((loadE o:Int) == 7)=false:=by simp;omega
   have h0':((loadE o:Int) != 0)=true:=by simp;omega
   clear h7 h0
   generalize loadE o=k at *
   go_enter Tryz.func175,Tryz.ntmps175
   go_wp2_with fail
   refine zAK (fun w':World=>w'.cell? ⟨l,0,none⟩=some (.pointer (some ⟨d,0,none⟩))∧w'.cell? ⟨l,1,none⟩=some (.string pre)) (n:=12) (by kernel_rfl) rfl (⟨hc0,hc1⟩) (fun hHeld=>?_)
   generalize w1.drew=W1 at *
   refine pl [0,1,2,3,4] ?_
   iterate 5 (refine pc rfl ?_;simp only [Act.put,uA,uB,uC])
   refine pn ?_
   refine zAB 5 rfl (by kernel_rfl) (by rfl) (fun K hK=>?_)
   go_wp2_with fail
   refine (zA2 ⟨hHeld.1,hHeld.2,hps⟩).mono ?_
   rintro e w9 ⟨rfl,rfl⟩
   go_wp2_with fail
   refine hK.out _ _ (hHeld) (fun hHeld=>?_)
   clear hK
   try simp only [Act.put,uA,uB,uC]
   refine zAB 6 rfl (by kernel_rfl) (by rfl) (fun K hK=>?_)
   go_wp2_with fail
   refine Hld.out.mono ?_
   rintro e w2 ⟨v,rfl,hv,hvn,hb,hst⟩
   have Hh3:=zh (show w2.cell? ⟨l,0,none⟩=some (.pointer (some ⟨d,0,none⟩))∧w2.cell? ⟨l,1,none⟩=some (.string pre) from ⟨(hb.cell (World.block_lt_of_cell? _ _ hHeld.1)).trans hHeld.1,(hb.cell (World.block_lt_of_cell? _ _ hHeld.2)).trans hHeld.2⟩)
   have Hb:=zh (show Below w1.heap.size w1 w2 from HB1.out.trans (hb.mono HB1.out.size))
   have Hv:=zh hv
   have hlen:(zBT o).length=n:=hn
   obtain ⟨pv,cv,rfl,-⟩:=zAX hv
   rw [hlen]
   clear hv hvn hb hst Hld
   go_wp2_with fail
   refine hK.out _ _ (Hh3.out) (fun hHeld=>?_)
   clear hK
   try simp only [Act.put,uA,uB,uC]
   refine pl [7,8,9,10,11] ?_
   iterate 5 (refine pc rfl ?_;simp only [Act.put,uA,uB,uC])
   refine pn ?_
   refine wpAnyH_done (by kernel_rfl) ?_ _
   have HE:=zh (img_end H.out Hb.out k _ HI.out)
   go_wp2_with fail
   go_ret
   exact HE.out
end
end Go.Proofs.YtapfnehdgailmaaGreat
namespace Go.Sat
open Go Go.RowKit
theorem zB8 {P:Program} {l:List Oper} {Q:Exit→Act→World→Prop} {md:Region.Mode} {S:World→Prop} {fuel:Nat} {listed:Array Bool} {a:Act} {w:World} (i j:Nat) {oi oj:Oper} {ri rj:List Oper} (hdi:l.drop i=oi :: ri) (hdj:l.drop j=oj :: rj) (hr:Region.ready md l.toArray listed=[i,j])
  (hwi:Region.wanted oi (yielded l.toArray a.tmps)=true) (hwj:Region.wanted oj (yielded l.toArray a.tmps)=true)
  (hi:∀ K:Act→World→Prop,Shut (∀ a w,S w→(S w→wpAnyH P md l.toArray Q S fuel (listed.setIfInBounds i true) a w)→K a w)→Oper.wp P oi a w K Q)
  (hj:∀ K:Act→World→Prop,Shut (∀ a w,S w→(S w→wpAnyH P md l.toArray Q S fuel (listed.setIfInBounds j true) a w)→K a w)→Oper.wp P oj a w K Q):wpAnyH P md l.toArray Q S (fuel+1) listed a w :=
 wpAnyH_ready hr (by simp) (AllReadyH.cons (zBX hdi) (fun K hK=>by rw [if_pos hwi];exact hi K hK) (AllReadyH.cons (zBX hdj) (fun K hK=>by rw [if_pos hwj];exact hj K hK) AllReadyH.nil))
end Go.Sat
namespace Go.Proofs.YtapfnehdgailmaaGreat
open Go.RowKit Go.Sat Go.Maps
section
variable {w w1 w2:World} {l d:Nat} {pre:ByteArray} {D:zAA} {M:LedM} {F F':Nat→Prop}
theorem LedF.taken {own own':Nat→Prop} {M':LedM} {dv' ev':Value} {vs':List Value} (hS:St w w1 d D (fun k=>own k∨F' k)) (hn:∀ k,own k→w.heap.size≤k∧¬ F' k) (hl:∀ k,F' k→k < w1.heap.size) (hF:∀ k,F k→F' k)
  (hL':zBP w2 l d pre own' M' dv' ev' vs') (hc:Chg own w1 w2) (hx:∀ k,own' k→own k∨w1.heap.size≤k∨(F' k∧¬ F k∧w.heap.size≤k)):LedF w w2 l d pre D M' F∧Same F w1 w2:=by
 refine ⟨⟨own',dv',ev',vs',hL',hS.move hc (fun k _ hk=>⟨.inl hk,(hn k hk).1⟩) (fun k hk=>?_),fun k hk=>?_,fun k hk=>Nat.lt_of_lt_of_le (hl k (hF k hk)) hc.size⟩,fun k hk=>hc.block k (hl k (hF k hk)) fun ho=>(hn k ho).2 (hF k hk)⟩
 ·rcases hk with hk | hk
  ·refine ⟨?_,hL'.olt k hk⟩
   rcases hx k hk with h | h | h
   ·exact .inl (.inl h)
   ·exact .inr h
   ·exact .inl (.inr h.1)
  ·exact ⟨.inl (.inr (hF k hk)),Nat.lt_of_lt_of_le (hl k (hF k hk)) hc.size⟩
 ·rcases hx k hk with h | h | h
  ·exact ⟨(hn k h).1,fun hf=>(hn k h).2 (hF k hf)⟩
  ·exact ⟨Nat.le_trans hS.below.size h,fun hf=>by have:=hl k (hF k hf);omega⟩
  ·exact ⟨h.2.2,h.2.1⟩
theorem zCQ {own:Nat→Prop} {dv ev v' u:Value} {vs:List Value} {w0:World} {b:Bs} (hL:zBP w1 l d pre own M dv ev vs) (hu:OwnB w1 5 u b) (hun:∀ k,u.ownBlock=some k→¬ own k) (hb:b.length≤1073741824) (hla:M.last+1≤1099511627776)
  (hb0:Below w1.heap.size w1 w0) (hown:OwnR w2 22 1 v' (M.entries.length+1) (vs ++ [u])) (hg:w0.grownBy w2 ev.ownBlock) (hloc:v'.ownBlock=ev.ownBlock∨∃ g,v'.ownBlock=some g∧w0.heap.size≤g) :
  zBP (w2.setCell ⟨l,4,none⟩ v') l d pre (fun k=>own k∨u.ownBlock=some k∨v'.ownBlock=some k) { M with entries:=M.entries ++ [b] } dv v' (vs ++ [u])∧Chg own w1 (w2.setCell ⟨l,4,none⟩ v')∧(∀ k,v'.ownBlock=some k→own k∨w1.heap.size≤k) ∧
  w2.heap[l]?=w1.heap[l]?:=by
 have hs:=hb0.size
 have hg2:=hg.size
 have hll:w2.heap[l]?=w1.heap[l]?:=(hg.block l (by have:=hL.olt l hL.ol;omega) fun e=>(hL.oe l e.symm).2 rfl).trans (hb0.block l (hL.olt l hL.ol))
 have hnew:∀ k,v'.ownBlock=some k→ev.ownBlock=some k∨w1.heap.size≤k:=fun k hk=>by
  rcases hloc with e | ⟨g,e,hge⟩
  ·exact .inl (e ▸ hk)
  ·rw [hk] at e
   cases e
   exact .inr (by omega)
 have hv'l:∀ k,v'.ownBlock=some k→k≠l:=fun k hk e=>by
  rcases hnew k hk with h | h
  ·exact (hL.oe k h).2 e
  ·have:=hL.olt l hL.ol
   omega
 have hul:∀ k,u.ownBlock=some k→k≠l:=fun k hk e=>hun k hk (e ▸ hL.ol)
 have hkeep:∀ k,k < w1.heap.size→ev.ownBlock≠some k→k≠l→(w2.setCell ⟨l,4,none⟩ v').heap[k]?=w1.heap[k]?:=fun k hk he hkl =>
  (zAE v' hkl).trans ((hg.block k (by omega) fun e=>he e.symm).trans (hb0.block k hk))
 have hv'n:∀ k,k < w1.heap.size→ev.ownBlock≠some k→v'.ownBlock≠some k:=fun k hk he e=>by
  rcases hnew k e with h | h
  ·exact he h
  ·omega
 have hune:∀ k,u.ownBlock=some k→ev.ownBlock≠some k:=fun k hk e=>hun k hk (hL.oe k e).1
 refine ⟨⟨?_,?_,?_,?_,.inl hL.ol,?_,fun k hk=>⟨.inr (.inr hk),hv'l k hk⟩,?_,?_,?_,hL.psz,⟨hL.big.1,?_⟩⟩,?_,fun k hk=>(hnew k hk).imp (fun h=>(hL.oe k h).1) id,hll⟩
 ·have h1:=zAO (hll.trans hL.cells) 4 v'
  simpa using h1
 ·exact OwnR.keep hL.data fun k hk=>hkeep k (OwnR.lt hL.data hk) (hL.od k hk).2.2 (hL.od k hk).2.1
 ·have:(M.entries ++ [b]).length=M.entries.length+1:=by simp
  show OwnR _ _ _ _ (M.entries ++ [b]).length _
  rw [this]
  exact hown.keep fun k hk=>zAE v' (hv'l k hk)
 ·intro i x c hx hc
  have hc':(M.entries ++ [b])[i]?=some c:=hc
  by_cases hi:i < vs.length
  ·rw [List.getElem?_append_left hi] at hx
   rw [List.getElem?_append_left (by have:=hL.len;omega)] at hc'
   have hxm:=List.mem_of_getElem? hx
   exact OwnR.keep (hL.rows i x c hx hc') fun k hk=>hkeep k (hL.olt k (hL.ov x hxm k hk).1) (hL.ov x hxm k hk).2.2 (hL.ov x hxm k hk).2.1
  ·rw [List.getElem?_append_right (by omega)] at hx
   rw [List.getElem?_append_right (by have:=hL.len;omega)] at hc'
   have hi0:i - vs.length=0:=by
    have:=(List.getElem?_eq_some_iff.1 hx).1
    simp at this
    omega
   rw [hi0] at hx
   rw [show i - M.entries.length=0 by have:=hL.len;omega] at hc'
   cases hx
   cases hc'
   exact OwnR.keep hu fun k hk=>hkeep k (OwnR.lt hu hk) (hune k hk) (hul k hk)
 ·exact fun k hk=>⟨.inl (hL.od k hk).1,(hL.od k hk).2.1,hv'n k (OwnR.lt hL.data hk) (hL.od k hk).2.2⟩
 ·intro x hx k hk
  rcases List.mem_append.1 hx with hx | hx
  ·exact ⟨.inl (hL.ov x hx k hk).1,(hL.ov x hx k hk).2.1,hv'n k (hL.olt k (hL.ov x hx k hk).1) (hL.ov x hx k hk).2.2⟩
  ·have:x=u:=by simpa using hx
   subst this
   exact ⟨.inr (.inl hk),hul k hk,hv'n k (OwnR.lt hu hk) (hune k hk)⟩
 ·intro k hk
  have h2:k < w2.heap.size:=by
   rcases hk with h | h | h
   ·have:=hL.olt k h
    omega
   ·have:=OwnR.lt hu h
    omega
   ·exact OwnR.lt hown h
  simpa [World.setCell] using h2
 ·show M.base+(M.entries ++ [b]).length≤_
  rw [List.length_append]
  unfold LedM.last at hla
  simp
  omega
 ·intro x hx
  have hx':x ∈ M.entries ++ [b]:=hx
  rcases List.mem_append.1 hx' with h | h
  ·exact hL.big.2 x h
  ·have:x=b:=by simpa using h
   rw [this]
   exact hb
 ·exact (((Chg.of_below hb0).mono fun _ _ h=>h.elim).trans (Chg.of_grown hg) fun k _ e=>(hL.oe k e.symm).1).trans (Chg.setCell w2 ⟨l,4,none⟩ v') fun k _ e=>by rw [e];exact hL.ol
end
end Go.Proofs.YtapfnehdgailmaaGreat
