/- The document's journal within its opening: what each thing done leaves. The document's journal: Open, over an empty disk. -/
import Derived.Test.YtapfnehdgailmaaGreatGJ
import Derived.Test.YtapfnehdgailmaaGreatGO
import Derived.Test.YtapfnehdgailmaaGreatGV
import Derived.Test.YtapfnehdgailmaaGreatGX
set_option maxRecDepth 100000
set_option maxHeartbeats 64000000
namespace Go.Proofs.YtapfnehdgailmaaGreat
open Go.RowKit Go.Sat Go.Maps
def ROS (w:World) (F:Nat→Prop) (j r:Nat) (pre:ByteArray) (own:Nat→Prop) (W:World) (D:zAB) (M:JouM):Prop :=
 ∃ Hot Cold,RJF W j r pre D M Hot Cold∧Chg own w W∧(∀ k,Hot k∨Cold k→own k∨w.heap.size≤k)∧∀ k,F k→k < W.heap.size∧¬ Hot k∧¬ Cold k
section
variable {w W W2:World} {F F' own:Nat→Prop} {j r:Nat} {pre:ByteArray} {D:zAB} {M:JouM}
theorem ROS.okM (h:ROS w F j r pre own W D M):M.OK:=let ⟨_,_,h,_⟩:=h;h.okM
theorem ROS.okD (h:ROS w F j r pre own W D M):D.OK:=let ⟨_,_,h,_⟩:=h;h.okD
theorem ROS.flt (h:ROS w F j r pre own W D M) {k:Nat} (hk:F k):k < W.heap.size:=let ⟨_,_,_,_,_,hf⟩:=h;(hf k hk).1
theorem ROS.jlt (h:ROS w F j r pre own W D M):j < W.heap.size:=let ⟨_,_,h,_⟩:=h;h.hlt h.jhot
theorem ROS.fj (h:ROS w F j r pre own W D M) {k:Nat} (hk:F k):k≠j:=by
 obtain ⟨_,_,h,_,_,hf⟩:=h
 exact fun e=>(hf k hk).2.1 (e ▸ h.jhot)
theorem ROS.cells (h:ROS w F j r pre own W D M):∃ gv dv ev,W.heap[j]?=some (RJC r (M.number:Int) M.term gv pre M.now M.vote dv ev M.dead):=let ⟨_,_,h,_⟩:=h;h.cellsD
theorem ROS.next (h:ROS w F j r pre own W D M) (hb:Below W.heap.size W W2):ROS w F j r pre own W2 D M:=by
 obtain ⟨Hot,Cold,hF,hc,hh,hf⟩:=h
 exact ⟨Hot,Cold,hF.below hb,hc.trans ((Chg.of_below hb).mono (T:=own) fun _ _ e=>e.elim) fun _ _ h=>h,hh,fun k hk=>⟨Nat.lt_of_lt_of_le (hf k hk).1 hb.size,(hf k hk).2⟩⟩
theorem ROS.same (h:ROS w F j r pre own W D M) (hb:Below W.heap.size W W2):Same F W W2:=fun k hk=>hb.block k (h.flt hk)
theorem ROS.less (h:ROS w F j r pre own W D M) (hF:∀ k,F' k→F k):ROS w F' j r pre own W D M:=by
 obtain ⟨Hot,Cold,hJ,hc,hh,hf⟩:=h
 exact ⟨Hot,Cold,hJ,hc,hh,fun k hk=>hf k (hF k hk)⟩
theorem ROS.more (h:ROS w F j r pre own W D M) (hb:Below W.heap.size W W2) (hF:∀ k,F' k→F k∨(W.heap.size≤k∧k < W2.heap.size)):ROS w F' j r pre own W2 D M:=by
 have h2:=h.next hb
 obtain ⟨Hot,Cold,hJ,hc,hh,hf⟩:=h
 refine ⟨Hot,Cold,hJ.below hb,hc.trans ((Chg.of_below hb).mono (T:=own) fun _ _ e=>e.elim) fun _ _ h=>h,hh,fun k hk=>?_⟩
 rcases hF k hk with h | h
 ·exact ⟨Nat.lt_of_lt_of_le (hf k h).1 hb.size,(hf k h).2⟩
 ·exact ⟨h.2,fun e=>by have:=hJ.hlt e;omega,fun e=>by have:=hJ.clt e;omega⟩
theorem ros_step {D':zAB} {M':JouM} {Hot Cold:Nat→Prop} (hc:Chg own w W) (hh:∀ k,Hot k∨Cold k→own k∨w.heap.size≤k) (hf:∀ k,F k→k < W.heap.size∧¬ Hot k∧¬ Cold k) (st:zBF W j r pre Hot Cold W2 D' M'):ROS w F j r pre own W2 D' M'∧Same F W W2:=by
 obtain ⟨Hot2,Cold2,hF2,hc2,hh2,hco2⟩:=st
 have hs:=hc.size
 refine ⟨⟨Hot2,Cold2,hF2,hc.trans hc2 fun k hk he=>(hh k (.inl he)).resolve_right (by omega),fun k hk=>?_,fun k hk=>⟨Nat.lt_of_lt_of_le (hf k hk).1 hc2.size,fun e=>?_,fun e=>?_⟩⟩,fun k hk=>hc2.block k (hf k hk).1 (hf k hk).2.1⟩
 ·rcases hk with hk | hk
  ·rcases hh2 k hk with h | h
   ·exact hh k (.inl h)
   ·exact .inr (by omega)
  ·rcases hco2 k hk with h | h
   ·exact hh k (.inr h)
   ·exact .inr (by omega)
 ·rcases hh2 k e with h | h
  ·exact (hf k hk).2.1 h
  ·have:=(hf k hk).1
   omega
 ·rcases hco2 k e with h | h
  ·exact (hf k hk).2.2 h
  ·have:=(hf k hk).1
   omega
theorem ros_ref (h:ROS w F j r pre own W D M):∃ v L own1,zAY W r v L own1 D:=by
 obtain ⟨_,_,⟨_,own1,_,_,_,_,v,L,_,hR,_⟩,_⟩:=h
 exact ⟨v,L,own1,hR⟩
theorem zEA {P:Program} {f:FuncId} {args:Array Value} {Re:zAB × Nat} {wc:World} (h:ROS w F j r pre own W D M) (hb:Below W.heap.size W wc) (hx:∀ v L own1,zAY wc r v L own1 D→Calls P f args wc (zCL wc r own1 Re)) :
  Calls P f args wc fun e w'=>e=.returned (.int .i64 (Re.2:Int))∧ROS w F j r pre own w' Re.1 M∧Same F W w':=by
 obtain ⟨Hot,Cold,hF,hc,hh,hf⟩:=h
 refine (rj_disk hF hb fun v L own1 hR _=>hx v L own1 hR).mono ?_
 rintro e w' ⟨rfl,hst,-⟩
 exact ⟨rfl,ros_step hc hh hf hst⟩
theorem zEv (h:ROS w F j r pre own W D M) (hmx:M.entries.length≤1000000) :
  Calls Tryz.prog 93 #[.pointer (some ⟨j,0,none⟩)] W fun e w'=>e=.returned (.int .i64 ((zAR D (nm pre) M).2:Int))∧ROS w F j r pre own w' (zAR D (nm pre) M).1 M∧Same F W w':=by
 obtain ⟨Hot,Cold,hF,hc,hh,hf⟩:=h
 refine (rjanew_calls hF hmx).mono ?_
 rintro e w' ⟨rfl,hst,-⟩
 exact ⟨rfl,ros_step hc hh hf hst⟩
theorem ros_stands (h:ROS w F j r pre own W D M) {n2:Nat} {t2:Int} {g2:List Int} (hgt:M.number < n2) (hs:(⟨n2,t2,g2,M.data⟩:Snap).OK) {pg:Option Addr} {cg:Nat} (hg:HasI W (.slice pg g2.length cg) g2) (hpg:∀ k,(Value.slice pg g2.length cg).ownBlock=some k→F k) :
  Calls Tryz.prog 92 #[.pointer (some ⟨j,0,none⟩),.agg #[.int .i64 (n2:Int),.int .i64 t2,.slice pg g2.length cg]] W fun e w'=>e=.returned (.tuple #[])∧ROS w F j r pre own w' D (M.rebase ⟨n2,t2,g2,M.data⟩)∧Same F W w':=by
 have hfj:=fun k hk=>h.fj (k:=k) (hpg k hk)
 obtain ⟨Hot,Cold,hF,hc,hh,hf⟩:=h
 refine (rjstands_calls hF hgt hs hg hfj).mono ?_
 rintro e w' ⟨rfl,hst⟩
 exact ⟨rfl,ros_step hc hh hf hst⟩
theorem ros_data (h:ROS w F j r pre own W D M) {b2:Bs} {v2:Value} (hg:HasB W v2 b2) (hF:∀ k,v2.ownBlock=some k→F k∧w.heap.size≤k) (hF2:∀ k,F' k→F k∧v2.ownBlock≠some k) (hb2:b2.length≤1073741824) :
  ROS w F' j r pre own (W.setCell ⟨j,7,none⟩ v2) D { M with data:=b2 }∧Same F W (W.setCell ⟨j,7,none⟩ v2):=by
 have hfj:=fun k hk=>h.fj (k:=k) hk
 have hjl:=h.jlt
 obtain ⟨Hot,Cold,hJF,hc,hh,hf⟩:=h
 have hhj:=hJF.jhot
 obtain ⟨O,own1,gv,dv,ev,vs,v,L,hJ,hR,hO,hCo,hH⟩:=hJF
 have hS:Chg (fun k=>k=j) W (W.setCell ⟨j,7,none⟩ v2):=Chg.setCell W ⟨j,7,none⟩ _
 have hcell:=zAE hJ.cells 7 v2
 have hne:∀ k,v2.ownBlock=some k→k≠j:=fun k hk=>hfj k (hF k hk).1
 have hcj:∀ k,Cold k→k≠j:=fun k hk e=>hJ.dis k hk (e ▸ hJ.oj)
 have hs:=hc.size
 have hJ':RJIn (W.setCell ⟨j,7,none⟩ v2) j r pre O (fun k=>Cold k∨v2.ownBlock=some k) { M with data:=b2 } gv v2 ev vs:={
  cells:=by simpa using hcell
  group:=zAL.chg hJ.group hS fun k hk=>hcj k (hJ.cg k hk)
  data:=HasB.chg hg hS fun k hk=>hne k hk
  row:=hJ.row.keep fun k hk=>hS.block k (hJ.olt k (hJ.oe k hk).1) (hJ.oe k hk).2
  rlen:=hJ.rlen
  rows:=fun i e v he hv=>(hJ.rows i e v he hv).keep fun k hk=>hS.block k (hJ.clt k (hJ.cv v (List.mem_of_getElem? hv) k hk)) (hcj k (hJ.cv v (List.mem_of_getElem? hv) k hk))
  oj:=hJ.oj
  oe:=hJ.oe
  cg:=fun k hk=>.inl (hJ.cg k hk)
  cd:=fun k hk=>.inr hk
  cv:=fun u hu k hk=>.inl (hJ.cv u hu k hk)
  dis:=fun k hk ho=>by
   rcases hk with hk | hk
   ·exact hJ.dis k hk ho
   ·exact (hf k (hF k hk).1).2.1 ((hH k).2 (.inl ho))
  olt:=fun k hk=>Nat.lt_of_lt_of_le (hJ.olt k hk) hS.size
  clt:=fun k hk=>Nat.lt_of_lt_of_le (hk.elim (hJ.clt k) fun e=>(hf k (hF k e).1).1) hS.size
  psz:=hJ.psz
  ok:=⟨hJ.ok.last,hJ.ok.term,hJ.ok.group,hJ.ok.now,hJ.ok.vote,hb2,hJ.ok.ents⟩ }
 refine ⟨⟨Hot,_,⟨O,own1,gv,v2,ev,vs,v,L,hJ',hR.keep hS.size (fun k hk=>hS.block k (hR.olt k hk) fun e=>hO j hJ.oj (e ▸ hk)),hO,fun k hk ho=>?_,hH⟩,hc.trans hS fun k hk e=>?_,fun k hk=>?_,fun k hk=>⟨?_,?_,?_⟩⟩,fun k hk=>hS.block k (hf k hk).1 (hfj k hk)⟩
 ·rcases hk with hk | hk
  ·exact hCo k hk ho
  ·exact (hf k (hF k hk).1).2.1 ((hH k).2 (.inr ho))
 ·exact (hh j (.inl hhj)).elim (fun h=>e ▸ h) fun h=>by have e2:k=j:=e;omega
 ·rcases hk with hk | hk | hk
  ·exact hh k (.inl hk)
  ·exact hh k (.inr hk)
  ·exact .inr (hF k hk).2
 ·exact Nat.lt_of_lt_of_le (hf k (hF2 k hk).1).1 hS.size
 ·exact (hf k (hF2 k hk).1).2.1
 ·exact fun e=>e.elim (hf k (hF2 k hk).1).2.2 (hF2 k hk).2
theorem ros_new (h:ROS w F j r pre own W D M):∃ S,zBI S W j r pre M∧(∀ k,S k→k < W.heap.size∧¬ F k) ∧
  (∀ W' M',zBI (fun k=>S k∨W.heap.size≤k) W' j r pre M'→Chg (fun k=>S k∨W.heap.size≤k) W W'→ROS w F j r pre own W' D M'∧Same F W W') ∧
  ∀ W',Chg (fun k=>S k∨W.heap.size≤k) W W'→∃ own',RefAt W' r D own'∧Chg own w W'∧∀ k,own' k→own k∨w.heap.size≤k:=by
 obtain ⟨Hot,Cold,hJF,hc,hh,hf⟩:=h
 obtain ⟨O,own1,gv,dv,ev,vs,v,L,hJ,hR,hO,hCo,hH⟩:=hJF
 have hs:=hc.size
 have hfS:∀ k,F k→¬ (O k∨Cold k):=fun k hk e=>e.elim (fun o=>(hf k hk).2.1 ((hH k).2 (.inl o))) (hf k hk).2.2
 have hSo:∀ k,(O k∨Cold k)→own k∨w.heap.size≤k:=fun k hk=>hh k (hk.imp (fun o=>(hH k).2 (.inl o)) id)
 have hSw:∀ k,(O k∨Cold k)→¬ own1 k:=fun k hk=>hk.elim (hO k) (hCo k)
 refine ⟨fun k=>O k∨Cold k,⟨O,Cold,gv,dv,ev,vs,hJ,fun _ h=>h⟩,fun k hk=>⟨hk.elim (hJ.olt k) (hJ.clt k),fun e=>hfS k e hk⟩,fun W' M' hN hC=>?_,fun W' hC=>⟨own1,⟨v,L,hR.keep hC.size fun k hk=>hC.block k (hR.olt k hk) fun e=>e.elim (fun e=>hSw k e hk) fun e=>by have:=hR.olt k hk;omega⟩,hc.trans hC fun k hk e=>e.elim (fun e=>(hSo k e).resolve_right (by omega)) fun e=>by omega,fun k hk=>hh k (.inl ((hH k).2 (.inr hk)))⟩⟩
 obtain ⟨O',C',gv',dv',ev',vs',hJ',hn'⟩:=hN
 have hR':=hR.keep hC.size fun k hk=>hC.block k (hR.olt k hk) fun e=>e.elim (fun e=>hSw k e hk) fun e=>by have:=hR.olt k hk;omega
 have hdis:∀ k,(O' k∨C' k)→¬ own1 k:=fun k hk ho=>by
  rcases hn' k hk with e | e
  ·exact hSw k e ho
  ·have:=hR.olt k ho
   omega
 have hwide:∀ k,(O' k∨C' k)→own k∨w.heap.size≤k:=fun k hk=>by
  rcases hn' k hk with e | e
  ·exact hSo k e
  ·exact .inr (by omega)
 have hnf:∀ k,F k→¬ (O' k∨C' k):=fun k hk e=>by
  rcases hn' k e with e | e
  ·exact hfS k hk e
  ·have:=(hf k hk).1
   omega
 refine ⟨⟨fun k=>O' k∨own1 k,C',⟨O',own1,gv',dv',ev',vs',v,L,hJ',hR',fun k hk=>hdis k (.inl hk),fun k hk=>hdis k (.inr hk),fun k=>Iff.rfl⟩,hc.trans hC fun k hk e=>?_,fun k hk=>?_,fun k hk=>⟨Nat.lt_of_lt_of_le (hf k hk).1 hC.size,fun e=>?_,fun e=>hnf k hk (.inr e)⟩⟩,fun k hk=>hC.block k (hf k hk).1 fun e=>?_⟩
 ·rcases e with e | e
  ·exact (hSo k e).resolve_right (by omega)
  ·omega
 ·rcases hk with (hk | hk) | hk
  ·exact hwide k (.inl hk)
  ·exact hh k (.inl ((hH k).2 (.inr hk)))
  ·exact hwide k (.inr hk)
 ·rcases e with e | e
  ·exact hnf k hk (.inl e)
  ·exact (hf k hk).2.1 ((hH k).2 (.inr e))
 ·rcases e with e | e
  ·exact hfS k hk e
  ·have:=(hf k hk).1
   omega
def ROpened (w:World) (r:Nat) (pre:ByteArray) (own:Nat→Prop) (R:zAB × Nat × JouM) (e:Ending) (w':World):Prop :=
 (R.2.1=0∧∃ j Hot Cold,e=.returned (.tuple #[.pointer (some ⟨j,0,none⟩),.int .i64 0])∧RJF w' j r pre R.1 R.2.2 Hot Cold∧Chg own w w'∧∀ k,Hot k∨Cold k→own k∨w.heap.size≤k) ∨
 (R.2.1≠0∧e=.returned (.tuple #[.pointer none,.int .i64 (R.2.1:Int)])∧∃ own',RefAt w' r R.1 own'∧Chg own w w'∧∀ k,own' k→own k∨w.heap.size≤k)
theorem zBA {R:zAB × Nat × JouM} (h:ROS w F j r pre own W D M) (hR:R=(D,0,M)):ROpened w r pre own R (.returned (.tuple #[.pointer (some ⟨j,0,none⟩),.int .i64 0])) W:=by
 subst hR
 obtain ⟨Hot,Cold,hF,hc,hh,-⟩:=h
 exact .inl ⟨rfl,j,Hot,Cold,rfl,hF,hc,hh⟩
theorem zAc {R:zAB × Nat × JouM} {M':JouM} {k:Nat} (h:ROS w F j r pre own W D M) (hR:R=(D,k,M')) (hk:k≠0):ROpened w r pre own R (.returned (.tuple #[.pointer none,.int .i64 (k:Int)])) W:=by
 subst hR
 obtain ⟨Hot,Cold,hF,hc,hh,-⟩:=h
 obtain ⟨O,own1,gv,dv,ev,vs,v,L,hJ,hR,hO,hCo,hH⟩:=hF
 exact .inr ⟨hk,rfl,own1,⟨v,L,hR⟩,hc,fun k hk=>hh k (.inl ((hH k).2 (.inr hk)))⟩
theorem ropened_bad2 {R:zAB × Nat × JouM} {M':JouM} {k:Nat} (h:∃ own',RefAt W r D own'∧Chg own w W∧∀ k,own' k→own k∨w.heap.size≤k) (hR:R=(D,k,M')) (hk:k≠0):ROpened w r pre own R (.returned (.tuple #[.pointer none,.int .i64 (k:Int)])) W:=by
 subst hR
 exact .inr ⟨hk,rfl,h⟩
theorem ropened_arg {R:zAB × Nat × JouM} {M':JouM} {k:Nat} {v:Value} {L:List zAN} (h:zAY w r v L own D) (hb:Below w.heap.size w W) (hR:R=(D,k,M')) (hk:k≠0):ROpened w r pre own R (.returned (.tuple #[.pointer none,.int .i64 (k:Int)])) W:=by
 subst hR
 exact .inr ⟨hk,rfl,own,⟨v,L,h.below hb⟩,(Chg.of_below hb).mono fun _ _ e=>e.elim,fun k hk=>.inl hk⟩
theorem ros_fresh {v:Value} {L:List zAN} {nodes:List Int} {gv:Value} (h:zAY w r v L own D) (hb:Below w.heap.size w W) (hp:1≤pre.size∧pre.size≤20) (hg:zAW nodes=true) (hcell:W.heap[j]?=some (RJC r 0 0 gv pre 0 (-1) (.slice none 0 0) (.slice none 0 0) false)) (hj:w.heap.size≤j) (hgv:HasI W gv nodes) (hgn:∀ k,gv.ownBlock=some k→w.heap.size≤k∧k < W.heap.size∧k≠j) (hF:∀ k,F k→k < W.heap.size∧w.heap.size≤k∧k≠j∧gv.ownBlock≠some k) :
  ROS w F j r pre own W D (JouM.none0 nodes):=by
 have hol:=h.olt
 refine ⟨fun k=>k=j∨own k,fun k=>gv.ownBlock=some k,⟨fun k=>k=j,own,gv,.slice none 0 0,.slice none 0 0,[],v,L,{
  cells:=hcell
  group:=hgv
  data:=OwnB.has (e:=0) (OwnR.nil _ _ _)
  row:=OwnR.nil _ _ _
  rlen:=rfl
  rows:=fun i e v he hv=>by simp at hv
  oj:=rfl
  oe:=fun k hk=>by cases hk
  cg:=fun k hk=>hk
  cd:=fun k hk=>by cases hk
  cv:=fun u hu=>by simp at hu
  dis:=fun k hk e=>(hgn k hk).2.2 e
  olt:=fun k hk=>by rw [hk];exact zAC hcell
  clt:=fun k hk=>(hgn k hk).2.1
  psz:=hp
  ok:=⟨Nat.zero_le _,rfl,hg,rfl,⟨show (-1:Int)≤-1 by decide,show (-1:Int) < 7 by decide⟩,Nat.zero_le _,fun e he=>(by cases he)⟩ },h.below hb,fun k hk ho=>?_,fun k hk ho=>?_,fun k=>Iff.rfl⟩,(Chg.of_below hb).mono fun _ _ e=>e.elim,fun k hk=>?_,fun k hk=>⟨(hF k hk).1,fun e=>?_,(hF k hk).2.2.2⟩⟩
 ·have:=hol k ho
  rw [hk] at this
  omega
 ·have:=hol k ho
  have:=(hgn k hk).1
  omega
 ·rcases hk with (hk | hk) | hk
  ·exact .inr (by omega)
  ·exact .inl hk
  ·exact .inr (hgn k hk).1
 ·rcases e with e | e
  ·exact (hF k hk).2.2.1 e
  ·have h1:=hol k e
   have h2:=(hF k hk).2.1
   omega
end
theorem rsnap_len {b:Bs} {l:List Int} {R':Rd} (h:RLst (Rd.num ⟨b,false⟩).2.num.2 l R') (hb:R'.bad=false):R'.bytes.1.length≤b.length:=by
 refine Nat.le_trans (rbytes_le R') ?_
 rcases h with ⟨-,-,-,rfl⟩ | ⟨-,h⟩
 ·refine Nat.le_trans (zCn _ _) ?_
  exact Nat.le_trans (Rd.num_rest _) (zCn 2 ⟨b,false⟩)
 ·rw [h] at hb
  cases hb
end Go.Proofs.YtapfnehdgailmaaGreat
