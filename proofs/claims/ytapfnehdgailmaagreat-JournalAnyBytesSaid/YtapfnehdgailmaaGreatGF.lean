/- A journal in memory, its disk, and blocks (F) that neither has. journal: isTermOf, isGroup, isOne, own. (Printed by mkj1.py.) The contract of frame.Scan. journal: isOne, own, may, Term, Base, mayVote, ended. (Printed by mkj2.py.) journal: own, may, Term, Base, Last, has, mayVote, ended. (Printed by mkj3.py.) journal: may, Term, Base, Last, has, mayVote, ended. (Printed by mkj4.py.) -/
import Derived.Test.YtapfnehdgailmaaGreatGA
import Derived.Test.YtapfnehdgailmaaGreatGD
import Derived.Test.YtapfnehdgailmaaGreatGE
set_option maxRecDepth 100000
set_option maxHeartbeats 64000000
namespace Go.Proofs.YtapfnehdgailmaaGreat
open Go.RowKit Go.Sat Go.Maps
def intsV (l:List Int):List Value:=l.map (Value.int .i64)
def OwnI (w:World) (v:Value) (l:List Int):Prop:=OwnR w 3 1 v l.length (intsV l)
theorem OwnI.has {w:World} {v:Value} {l:List Int} (h:OwnI w v l):HasI w v l:=OwnR.holds h
theorem OwnI.keep {w w':World} {v:Value} {l:List Int} (h:OwnI w v l) (hb:∀ k,v.ownBlock=some k→w'.heap[k]?=w.heap[k]?):OwnI w' v l:=OwnR.keep h hb
theorem zEp {w w':World} {v:Value} {l:List Int} (h:OwnI w v l) (hb:Below w.heap.size w w'):OwnI w' v l:=OwnR.keep h fun k hk=>hb.block k (OwnR.lt h hk)
theorem zAl {w:World} {v:Value} {l:List Int} (h:OwnI w v l):∃ p c,v=.slice p l.length c∧l.length≤c:=by
 rcases h.2 with ⟨rfl,hn⟩ | ⟨g,cap,cur,rfl,_,hnc,_⟩
 ·exact ⟨none,0,by rw [hn],by omega⟩
 ·exact ⟨_,cap,rfl,hnc⟩
/-! ### Entries in memory -/
abbrev EV:=Value × Value
def entC (e:Ent) (v:EV):List Value:=[.int .i64 e.term,.int .i64 e.kind,v.1,v.2]
def zA1:List Ent→List EV→List Value
 | e :: es,v :: vs=>entC e v ++ zA1 es vs
 | _,_=>[]
theorem entsC_len:∀ (es:List Ent) (vs:List EV),vs.length=es.length→(zA1 es vs).length=es.length * 4
 | [],[],_=>rfl
 | e :: es,v :: vs,h=>by
  show (entC e v ++ zA1 es vs).length=_
  rw [List.length_append,entsC_len es vs (by simpa using h),List.length_cons]
  show 4+_=_
  omega
 | [],_ :: _,h=>by simp at h
 | _ :: _,[],h=>by simp at h
theorem entsC_app:∀ (es:List Ent) (vs:List EV) (fs:List Ent) (us:List EV),vs.length=es.length→zA1 (es ++ fs) (vs ++ us)=zA1 es vs ++ zA1 fs us
 | [],[],_,_,_=>rfl
 | e :: es,v :: vs,fs,us,h=>by
  show entC e v ++ zA1 (es ++ fs) (vs ++ us)=entC e v ++ zA1 es vs ++ zA1 fs us
  rw [entsC_app es vs fs us (by simpa using h),List.append_assoc]
 | [],_ :: _,_,_,h=>by simp at h
 | _ :: _,[],_,_,h=>by simp at h
theorem entsC_take:∀ (k:Nat) (es:List Ent) (vs:List EV),vs.length=es.length→zA1 (es.take k) (vs.take k)=(zA1 es vs).take (k * 4)
 | 0,_,_,_=>by simp [zA1]
 | k+1,[],[],_=>by simp [zA1]
 | k+1,e :: es,v :: vs,h=>by
  show entC e v ++ zA1 (es.take k) (vs.take k)=(entC e v ++ zA1 es vs).take ((k+1) * 4)
  have h4:(entC e v).length=4:=rfl
  rw [entsC_take k es vs (by simpa using h),List.take_append,List.take_of_length_le (l:=entC e v) (by omega),h4,show (k+1) * 4 - 4=k * 4 by omega]
 | k+1,[],_ :: _,h=>by simp at h
 | k+1,_ :: _,[],h=>by simp at h
theorem entsC_drop:∀ (k:Nat) (es:List Ent) (vs:List EV),vs.length=es.length→zA1 (es.drop k) (vs.drop k)=(zA1 es vs).drop (k * 4)
 | 0,_,_,_=>by simp
 | k+1,[],[],_=>by simp [zA1]
 | k+1,e :: es,v :: vs,h=>by
  show zA1 (es.drop k) (vs.drop k)=(entC e v ++ zA1 es vs).drop ((k+1) * 4)
  have h4:(entC e v).length=4:=rfl
  rw [entsC_drop k es vs (by simpa using h),List.drop_append,List.drop_of_length_le (l:=entC e v) (by omega),List.nil_append,h4,show (k+1) * 4 - 4=k * 4 by omega]
 | k+1,[],_ :: _,h=>by simp at h
 | k+1,_ :: _,[],h=>by simp at h
theorem entsC_at:∀ (es:List Ent) (vs:List EV) (i:Nat) (e:Ent) (v:EV),es[i]?=some e→vs[i]?=some v→∀ (j:Nat) u,(entC e v)[j]?=some u→(zA1 es vs)[i * 4+j]?=some u
 | [],_,i,e,v,h,_=>by simp at h
 | _ :: _,[],i,e,v,_,h=>by simp at h
 | x :: es,y :: vs,0,e,v,h1,h2=>by
  simp only [List.getElem?_cons_zero,Option.some.injEq] at h1 h2
  subst h1
  subst h2
  intro j u hu
  have hj:j < 4:=by
   have:=(List.getElem?_eq_some_iff.1 hu).1
   exact this
  show (entC x y ++ zA1 es vs)[0 * 4+j]?=_
  rw [List.getElem?_append_left (by show _ < 4;omega),show 0 * 4+j=j by omega]
  exact hu
 | x :: es,y :: vs,i+1,e,v,h1,h2=>by
  intro j u hu
  have:=entsC_at es vs i e v (by simpa using h1) (by simpa using h2) j u hu
  show (entC x y ++ zA1 es vs)[(i+1) * 4+j]?=_
  rw [List.getElem?_append_right (by show 4≤_;omega)]
  show (zA1 es vs)[(i+1) * 4+j - 4]?=_
  rw [show (i+1) * 4+j - 4=i * 4+j by omega]
  exact this
structure zDg (w:World) (e:Ent) (v:EV):Prop where
 data:OwnB w 5 v.1 e.data
 nodes:OwnI w v.2 e.nodes
theorem zDg.keep {w w':World} {e:Ent} {v:EV} (h:zDg w e v) (hb:∀ k,(v.1.ownBlock=some k∨v.2.ownBlock=some k)→w'.heap[k]?=w.heap[k]?):zDg w' e v :=
 ⟨OwnR.keep h.data fun k hk=>hb k (.inl hk),OwnR.keep h.nodes fun k hk=>hb k (.inr hk)⟩
theorem zDg.lt {w:World} {e:Ent} {v:EV} (h:zDg w e v) {k:Nat} (hk:v.1.ownBlock=some k∨v.2.ownBlock=some k):k < w.heap.size:=hk.elim (OwnR.lt h.data) (OwnR.lt h.nodes)
def EntsAt (w:World) (es:List Ent) (vs:List EV):Prop:=vs.length=es.length∧∀ (i:Nat) e v,es[i]?=some e→vs[i]?=some v→zDg w e v
structure JouM.OK (M:JouM):Prop where
 last:M.last≤1099511627776
 term:isTm M.term=true
 group:zAW M.group=true
 now:isTm M.now=true
 vote:-1≤M.vote∧M.vote < 7
 data:M.data.length≤1073741824
 ents:∀ e ∈ M.entries,zAs e=true
theorem zAr {n:Int}:isTm n=true ↔ 0≤n∧n≤1099511627776:=by simp [isTm]
theorem grp_len {l:List Int} (h:zAW l=true):1≤l.length∧l.length≤7:=by
 unfold zAW at h
 simp only [Bool.and_eq_true,decide_eq_true_eq] at h
 exact h.2
/-! ### A journal in memory -/
structure zBQ (w:World) (j d:Nat) (pre:ByteArray) (own:Nat→Prop) (M:JouM) (gv dv ev:Value) (vs:List EV):Prop where
 cells:w.heap[j]?=some (.cells #[.int .i64 (M.number:Int),.int .i64 M.term,gv,.pointer (some ⟨d,0,none⟩),.string pre,.int .i64 M.now,.int .i64 M.vote,dv,ev,.bool M.dead] 132 (0,0))
 group:OwnI w gv M.group
 data:OwnB w 5 dv M.data
 row:OwnR w 50 4 ev M.entries.length (zA1 M.entries vs)
 rows:EntsAt w M.entries vs
 ol:own j
 og:∀ k,gv.ownBlock=some k→own k∧k≠j∧ev.ownBlock≠some k
 od:∀ k,dv.ownBlock=some k→own k∧k≠j∧ev.ownBlock≠some k
 oe:∀ k,ev.ownBlock=some k→own k∧k≠j
 ov:∀ u ∈ vs,∀ k,(u.1.ownBlock=some k∨u.2.ownBlock=some k)→own k∧k≠j∧ev.ownBlock≠some k
 olt:∀ k,own k→k < w.heap.size
 psz:1≤pre.size∧pre.size≤20
 ok:M.OK
section
variable {w w':World} {j d:Nat} {pre:ByteArray} {own:Nat→Prop} {M:JouM} {gv dv ev:Value} {vs:List EV}
theorem zBQ.keep (h:zBQ w j d pre own M gv dv ev vs) (hs:∀ k,own k→w'.heap[k]?=w.heap[k]?) (hl:∀ k,own k→k < w'.heap.size):zBQ w' j d pre own M gv dv ev vs where
 cells:=(hs j h.ol).trans h.cells
 group:=OwnR.keep h.group fun k hk=>hs k (h.og k hk).1
 data:=OwnR.keep h.data fun k hk=>hs k (h.od k hk).1
 row:=h.row.keep fun k hk=>hs k (h.oe k hk).1
 rows:=⟨h.rows.1,fun i e v he hv=>(h.rows.2 i e v he hv).keep fun k hk=>hs k (h.ov v (List.mem_of_getElem? hv) k hk).1⟩
 ol:=h.ol
 og:=h.og
 od:=h.od
 oe:=h.oe
 ov:=h.ov
 olt:=hl
 psz:=h.psz
 ok:=h.ok
theorem zBQ.below (h:zBQ w j d pre own M gv dv ev vs) (hb:Below w.heap.size w w'):zBQ w' j d pre own M gv dv ev vs :=
 h.keep (fun k hk=>hb.block k (h.olt k hk)) fun k hk=>Nat.lt_of_lt_of_le (h.olt k hk) hb.size
theorem zBQ.c (h:zBQ w j d pre own M gv dv ev vs) (i:Nat) {v:Value} (hi:(#[.int .i64 (M.number:Int),.int .i64 M.term,gv,.pointer (some ⟨d,0,none⟩),.string pre,.int .i64 M.now,.int .i64 M.vote,dv,ev,.bool M.dead]:Array Value)[i]?=some v):w.cell? ⟨j,i,none⟩=some v:=zAA h.cells hi
theorem zBQ.fr (h:zBQ w j d pre own M gv dv ev vs) (i:Nat):w.frozen? ⟨j,i,none⟩=false:=zAF h.cells i
theorem zBQ.ent (h:zBQ w j d pre own M gv dv ev vs) {i:Nat} {e:Ent} (he:M.entries[i]?=some e):∃ g c v,ev=.slice (some ⟨g,0,none⟩) M.entries.length c∧vs[i]?=some v∧zDg w e v ∧
  w.cell? ⟨g,i * 4,none⟩=some (.int .i64 e.term)∧w.cell? ⟨g,i * 4+1,none⟩=some (.int .i64 e.kind)∧w.cell? ⟨g,i * 4+2,none⟩=some v.1∧w.cell? ⟨g,i * 4+3,none⟩=some v.2:=by
 have hi:=(List.getElem?_eq_some_iff.1 he).1
 have hv:vs[i]?=some (vs[i]'(by rw [h.rows.1];exact hi)):=List.getElem?_eq_getElem _
 generalize vs[i]'(by rw [h.rows.1];exact hi)=v at hv
 rcases h.row.2 with ⟨-,h0⟩ | ⟨g,cap,cur,rfl,-⟩
 ·omega
 ·have hc:∀ (k:Nat) u,(entC e v)[k]?=some u→w.cell? ⟨g,i * 4+k,none⟩=some u:=fun k u hu=>by
   have:=h.row.cells (g:=g) rfl (i * 4+k) u (entsC_at _ _ i e v he hv k u hu)
   rwa [add_zero] at this
  exact ⟨g,cap,v,rfl,hv,h.rows.2 i e v he hv,hc 0 _ rfl,hc 1 _ rfl,hc 2 _ rfl,hc 3 _ rfl⟩
end
def JouF (w w1:World) (j d:Nat) (pre:ByteArray) (D:zAB) (M:JouM) (F:Nat→Prop):Prop :=
 ∃ own gv dv ev vs,zBQ w1 j d pre own M gv dv ev vs∧St w w1 d D (fun k=>own k∨F k)∧(∀ k,own k→w.heap.size≤k∧¬ F k)∧∀ k,F k→k < w1.heap.size
def zEV (j d:Nat) (pre:ByteArray) (w:World):Prop:=w.cell? ⟨j,3,none⟩=some (.pointer (some ⟨d,0,none⟩))∧w.cell? ⟨j,4,none⟩=some (.string pre)∧pre.size≤20
theorem zBQ.jc {w:World} {j d:Nat} {pre:ByteArray} {own:Nat→Prop} {M:JouM} {gv dv ev:Value} {vs:List EV} (h:zBQ w j d pre own M gv dv ev vs):zEV j d pre w:=⟨h.c 3 rfl,h.c 4 rfl,h.psz.2⟩
theorem zEV.same {l d:Nat} {pre:ByteArray} {w w':World} (h:zEV l d pre w) (hb:w'.heap[l]?=w.heap[l]?):zEV l d pre w' :=
 ⟨(World.cell?_of_block (a:=⟨l,3,none⟩) hb).trans h.1,(World.cell?_of_block (a:=⟨l,4,none⟩) hb).trans h.2.1,h.2.2⟩
section
variable {w w1 w2:World} {j d:Nat} {pre:ByteArray} {D:zAB} {M:JouM} {F F':Nat→Prop}
theorem JouF.bel (h:JouF w w1 j d pre D M F):Below w.heap.size w w1:=let ⟨_,_,_,_,_,_,hS,_,_⟩:=h;hS.below
theorem JouF.okD (h:JouF w w1 j d pre D M F):D.OK:=let ⟨_,_,_,_,_,_,hS,_,_⟩:=h;hS.ok
theorem JouF.flt (h:JouF w w1 j d pre D M F) {k:Nat} (hk:F k):k < w1.heap.size:=let ⟨_,_,_,_,_,_,_,_,hF⟩:=h;hF k hk
theorem JouF.jc (h:JouF w w1 j d pre D M F):zEV j d pre w1:=let ⟨_,_,_,_,_,hJ,_,_,_⟩:=h;hJ.jc
theorem JouF.stF (h:JouF w w1 j d pre D M F):St w w1 d D F:=let ⟨_,_,_,_,_,_,hS,_,_⟩:=h;hS.less fun _ hk=>.inr hk
theorem JouF.st (h:JouF w w1 j d pre D M F):St w w1 d D NoF:=let ⟨_,_,_,_,_,_,hS,_,_⟩:=h;hS.noF
theorem JouF.jlt (h:JouF w w1 j d pre D M F):j < w1.heap.size:=let ⟨_,_,_,_,_,hJ,_,_,_⟩:=h;hJ.olt j hJ.ol
theorem JouF.okM (h:JouF w w1 j d pre D M F):M.OK:=let ⟨_,_,_,_,_,hJ,_,_,_⟩:=h;hJ.ok
theorem JouF.psz (h:JouF w w1 j d pre D M F):1≤pre.size∧pre.size≤20:=let ⟨_,_,_,_,_,hJ,_,_,_⟩:=h;hJ.psz
theorem JouF.move {S:Nat→Prop} (h:JouF w w1 j d pre D M F) (hc:Chg S w1 w2) (hS:∀ k,k < w1.heap.size→S k→F k∧w.heap.size≤k) (hF:∀ k,F' k→(F k∨w1.heap.size≤k)∧k < w2.heap.size):JouF w w2 j d pre D M F':=by
 obtain ⟨own,gv,dv,ev,vs,hL,hSt,hn,hl⟩:=h
 refine ⟨own,gv,dv,ev,vs,hL.keep (fun k hk=>hc.block k (hL.olt k hk) fun hs=>(hn k hk).2 (hS k (hL.olt k hk) hs).1) fun k hk=>Nat.lt_of_lt_of_le (hL.olt k hk) hc.size,hSt.move hc (fun k hk hs=>⟨.inr (hS k hk hs).1,(hS k hk hs).2⟩) (fun k hk=>?_),fun k hk=>⟨(hn k hk).1,fun hf=>?_⟩,fun k hk=>(hF k hk).2⟩
 ·rcases hk with hk | hk
  ·exact ⟨.inl (.inl hk),Nat.lt_of_lt_of_le (hL.olt k hk) hc.size⟩
  ·exact ⟨(hF k hk).1.imp .inr id,(hF k hk).2⟩
 ·rcases (hF k hf).1 with h | h
  ·exact (hn k hk).2 h
  ·have:=hL.olt k hk
   omega
theorem JouF.next (h:JouF w w1 j d pre D M F) (hb:Below w1.heap.size w1 w2):JouF w w2 j d pre D M F :=
 h.move (Chg.of_below hb) (fun _ _ h=>h.elim) fun _ hk=>⟨.inl hk,Nat.lt_of_lt_of_le (h.flt hk) hb.size⟩
theorem JouF.drewN (h:JouF w w1 j d pre D M F) (q:Nat):JouF w (w1.drewN q) j d pre D M F:=h.next ⟨rfl,rfl,rfl,Nat.le_refl _,fun _ _=>rfl⟩
theorem JouF.same (h:JouF w w1 j d pre D M F) (hb:Below w1.heap.size w1 w2):Same F w1 w2:=fun _ hk=>hb.block _ (h.flt hk)
theorem JouF.less (h:JouF w w1 j d pre D M F) (hF:∀ k,F' k→F k):JouF w w1 j d pre D M F' :=
 h.move (Chg.refl _ _:Chg (fun _=>False) w1 w1) (fun _ _ h=>h.elim) fun _ hk=>⟨.inl (hF _ hk),h.flt (hF _ hk)⟩
theorem JouF.more (h:JouF w w1 j d pre D M F) (hb:Below w1.heap.size w1 w2) (hF:∀ k,F' k→F k∨w1.heap.size≤k∧k < w2.heap.size):JouF w w2 j d pre D M F' :=
 h.move (Chg.of_below hb) (fun _ _ h=>h.elim) fun k hk=>by
  rcases hF k hk with h1 | h1
  ·exact ⟨.inl h1,Nat.lt_of_lt_of_le (h.flt h1) hb.size⟩
  ·exact ⟨.inr h1.1,h1.2⟩
theorem JouF.box (h:JouF w w1 j d pre D M F) (o:Obj):JouF w (w1.alloc o) j d pre D M (fun k=>F k∨k=w1.heap.size) :=
 h.more (zAD w1 o) fun k hk=>hk.imp id fun e=>⟨by omega,by simp;omega⟩
theorem zD6 {P:Program} {f:FuncId} {args:Array Value} {Re:zAB × Nat} {wc:World} (h:JouF w w1 j d pre D M F) (hb:Below w1.heap.size w1 wc) (hx:∀ G,St w w1 d D G→Calls P f args wc (Told w d G wc Re)) :
  Calls P f args wc fun e w'=>e=.returned (.int .i64 (Re.2:Int))∧JouF w w' j d pre Re.1 M F∧Same F w1 w'∧w'.heap[j]?=w1.heap[j]?:=by
 obtain ⟨own,gv,dv,ev,vs,hL,hS,hn,hl⟩:=h
 refine (hx _ hS).mono ?_
 rintro e w' ⟨rfl,hS',hs⟩
 refine ⟨rfl,⟨own,gv,dv,ev,vs,?_,hS',hn,fun k hk=>hS'.flt (.inr hk)⟩,fun k hk=>(hs k (.inr hk)).trans (hb.block k (hl k hk)),(hs j (.inl hL.ol)).trans (hb.block j (hL.olt j hL.ol))⟩
 exact (hL.below hb).keep (fun k hk=>hs k (.inl hk)) fun k hk=>hS'.flt (.inl hk)
theorem JouF.turned {own own':Nat→Prop} {M':JouM} {gv' dv' ev':Value} {vs':List EV} (hS:St w w1 d D (fun k=>own k∨F k)) (hn:∀ k,own k→w.heap.size≤k∧¬ F k) (hl:∀ k,F k→k < w1.heap.size)
  (hL':zBQ w2 j d pre own' M' gv' dv' ev' vs') (hc:Chg own w1 w2) (hx:∀ k,own' k→own k∨w1.heap.size≤k):JouF w w2 j d pre D M' F∧Same F w1 w2:=by
 refine ⟨⟨own',gv',dv',ev',vs',hL',hS.move hc (fun k _ hk=>⟨.inl hk,(hn k hk).1⟩) (fun k hk=>?_),fun k hk=>?_,fun k hk=>Nat.lt_of_lt_of_le (hl k hk) hc.size⟩,fun k hk=>hc.block k (hl k hk) fun ho=>(hn k ho).2 hk⟩
 ·rcases hk with hk | hk
  ·exact ⟨(hx k hk).imp .inl id,hL'.olt k hk⟩
  ·exact ⟨.inl (.inr hk),Nat.lt_of_lt_of_le (hl k hk) hc.size⟩
 ·rcases hx k hk with h | h
  ·exact hn k h
  ·exact ⟨Nat.le_trans hS.below.size h,fun hf=>by have:=hl k hf;omega⟩
end
theorem zBQ.set {w w':World} {j d:Nat} {pre:ByteArray} {own:Nat→Prop} {M M':JouM} {gv dv ev:Value} {vs:List EV} (h:zBQ w j d pre own M gv dv ev vs)
  (hc:w'.heap[j]?=some (.cells #[.int .i64 (M'.number:Int),.int .i64 M'.term,gv,.pointer (some ⟨d,0,none⟩),.string pre,.int .i64 M'.now,.int .i64 M'.vote,dv,ev,.bool M'.dead] 132 (0,0)))
  (hs:∀ k,k≠j→w'.heap[k]?=w.heap[k]?) (hz:w'.heap.size=w.heap.size) (hg:M'.group=M.group) (hd:M'.data=M.data) (he:M'.entries=M.entries) (ok:M'.OK):zBQ w' j d pre own M' gv dv ev vs where
 cells:=hc
 group:=by rw [hg];exact OwnR.keep h.group fun k hk=>hs k (h.og k hk).2.1
 data:=by rw [hd];exact OwnR.keep h.data fun k hk=>hs k (h.od k hk).2.1
 row:=by rw [he];exact h.row.keep fun k hk=>hs k (h.oe k hk).2
 rows:=by rw [he];exact ⟨h.rows.1,fun i e v he hv=>(h.rows.2 i e v he hv).keep fun k hk=>hs k (h.ov v (List.mem_of_getElem? hv) k hk).2.1⟩
 ol:=h.ol
 og:=h.og
 od:=h.od
 oe:=h.oe
 ov:=h.ov
 olt:=fun k hk=>by rw [hz];exact h.olt k hk
 psz:=h.psz
 ok:=ok
theorem zDo {w:World} {x:Value} {l:List Int} (h:HasI w x l) (hl:l.length≤1099511627776) :
  Calls Tryz.prog 74 #[x] w fun e w'=>∃ v,e=.returned v∧OwnI w' v l∧(∀ k,v.ownBlock=some k→w.heap.size≤k)∧Below w.heap.size w w':=by
 obtain ⟨hlen,p,c,rfl,h0,hc⟩:=h
 cases p with
 | none =>
  have h1:l=[]:=List.eq_nil_of_length_eq_zero (h0 rfl)
  subst h1
  refine (Tryz.slices_Clone_int_nil _ c w).mono ?_
  rintro e w' ⟨rfl,rfl⟩
  exact ⟨_,rfl,OwnR.nil _ _ _,fun k hk=>(by cases hk),Below.refl _ _⟩
 | some a =>
  by_cases hn:l=[]
  ·subst hn
   refine (Tryz.slices_Clone_int_zero a c w).mono ?_
   rintro e w' ⟨v,rfl,hv,-,hb⟩
   exact ⟨v,rfl,OwnR.of_kit hv,fun k hk=>OwnR.block_ge hv hk,hb⟩
  ·obtain ⟨b,o,sp⟩:=a
   have hpos:0 < l.length:=by
    cases l with
    | nil=>exact absurd rfl hn
    | cons x r=>simp
   have h1:=hc _ rfl 0 (.int .i64 l[0]) (by rw [List.getElem?_map,List.getElem?_eq_getElem hpos];rfl)
   have hsp:sp=none:=by
    have:=World.cell?_spot h1
    simpa [Addr.add] using this
   subst hsp
   refine (Tryz.slices_Clone_int b o l.length c l w (Nat.le_refl _) (by omega) fun j hj=>?_).mono ?_
   ·have:=hc _ rfl j (.int .i64 l[j]) (by rw [List.getElem?_map,List.getElem?_eq_getElem hj];rfl)
    have e:(⟨b,o,none⟩:Addr).add j=⟨b,o+j,none⟩:=by unfold Addr.add;split <;> simp_all
    rw [e] at this
    rw [this]
    simp [List.getD,List.getElem?_eq_getElem hj]
   ·rintro e w' ⟨v,rfl,hv,-,hb⟩
    rw [List.take_length] at hv
    exact ⟨v,rfl,OwnR.of_kit hv,fun k hk=>OwnR.block_ge hv hk,hb⟩
theorem zD4 (w:World) (n:Int):Calls Tryz.prog 112 #[.int .i64 n] w fun e w'=>e=.returned (.bool (isTm n))∧w'=w:=by
 by_cases h0:0≤n
 ·by_cases h1:n≤1099511627776
  ·have HE:=zh (show isTm n=true from zAr.2 ⟨h0,h1⟩)
   go_enter Tryz.func112,Tryz.ntmps112
   go_wp2_with fail
   go_ret
   exact ⟨by rw [HE.out];rfl,rfl⟩
  ·have HE:=zh (show isTm n=false from by rw [Bool.eq_false_iff];intro e;exact h1 (zAr.1 e).2)
   have hd:decide (n≤1099511627776)=false:=by simpa using h1
   go_enter Tryz.func112,Tryz.ntmps112
   go_wp2_with fail
   go_ret
   exact ⟨by rw [HE.out];rfl,rfl⟩
 ·have HE:=zh (show isTm n=false from by rw [Bool.eq_false_iff];intro e;exact h0 (zAr.1 e).1)
  have hd:decide (0≤n)=false:=by simpa using h0
  go_enter Tryz.func112,Tryz.ntmps112
  go_wp2_with fail
  go_ret
  exact ⟨by rw [HE.out];rfl,rfl⟩
def zDB (l:List Int) (k:Nat):Int:=if k=0 then -1 else (l[k - 1]?).getD 0
theorem zEr {l:List Int} {k:Nat} (hk:k < l.length):zDB l (k+1)=l[k]:=by
 unfold zDB
 rw [if_neg (by omega),Nat.add_sub_cancel,List.getElem?_eq_getElem hk]
 rfl
theorem zEJ {w:World} {p:Option Addr} {n c:Nat} {l:List Int} (h:HasI w (.slice p n c) l) (hl:l.length≤1099511627776) :
  Calls Tryz.prog 73 #[.slice p n c] w fun e w'=>e=.returned (.bool (zAW l))∧w'=w:=by
 have hn:l.length=n:=by obtain ⟨_,_,e⟩:=h.slice;simp only [Value.slice.injEq] at e;exact e.2.1.symm
 rw [hn] at hl
 have H:=zh h
 have Hn:=zh hn
 clear h hn
 go_enter Tryz.func73,Tryz.ntmps73
 go_wp2_with fail
 go_loop [7] (fun i=>∃ k:Nat,k≤n∧i=.int .i64 k∧zEH (-1) l=zEH (zDB l k) (l.drop k)∧-1≤zDB l k) (fun i=>n - (intOf i).toNat)
 case atStart=>exact ⟨0,Nat.zero_le _,rfl,rfl,Int.le_refl _⟩
 case round =>
  obtain ⟨k,hk,rfl,hgo,hpv⟩:=hrel
  by_cases hlt:k < n
  ·have hkl:k < l.length:=by rw [Hn.out];exact hlt
   have HB:=zh (show ¬ (zDB l k < l[k]∧l[k] < 7)→zAW l=false from fun hb=>by
    unfold zAW
    rw [hgo,List.drop_eq_getElem_cons hkl]
    unfold zEH
    rw [decide_eq_false hb]
    rfl)
   have HG:=zh (show zDB l k < l[k]∧l[k] < 7→zEH (-1) l=zEH (zDB l (k+1)) (l.drop (k+1)) from fun hb=>by
    rw [hgo,List.drop_eq_getElem_cons hkl,zEr hkl]
    show (decide _ && _)=_
    rw [decide_eq_true hb,Bool.true_and])
   have HP:=zh (zEr hkl)
   rcases H.out.at with h0 | ⟨b,o,c1,e1,hc⟩
   ·rw [h0] at hkl
    simp at hkl
   rw [Hn.out] at e1
   simp only [Value.slice.injEq] at e1
   obtain ⟨rfl,-,rfl⟩:=e1
   have hck:=hc k _ (List.getElem?_eq_getElem hkl)
   have Hcp:=zh (show k≠0→w.cell? ⟨b,o+(k - 1),none⟩=some (.int .i64 (zDB l k)) from fun h0=>by
    have hk1:k - 1 < l.length:=by omega
    have:=hc (k - 1) _ (List.getElem?_eq_getElem hk1)
    rw [this]
    unfold zDB
    rw [if_neg h0,List.getElem?_eq_getElem hk1]
    rfl)
   have Hp0:=zh (show k=0→zDB l k=-1 from fun h0=>by rw [h0];rfl)
   clear hc hgo
   generalize l[k]=x at *
   generalize zDB l k=q at *
   by_cases hx0:x < 0
   ·have HE:=zh (HB.out (by omega))
    go_wp2_with fail
    go_ret
    exact ⟨by rw [HE.out];rfl,rfl⟩
   ·have hd0:decide (x < 0)=false:=by simpa using hx0
    by_cases hx7:7≤x
    ·have HE:=zh (HB.out (by omega))
     go_wp2_with fail
     go_ret
     exact ⟨by rw [HE.out];rfl,rfl⟩
    ·have hd7:decide (7≤x)=false:=by simpa using hx7
     by_cases hk0:k=0
     ·have HE:=zh (HG.out (by rw [Hp0.out hk0];omega))
      have hdk:decide ((0:Int) < (k:Int))=false:=by simp;omega
      have hdk2:decide (0 < k)=false:=by simp;omega
      clear hk0
      go_wp2_with fail
      go_round
      case rel=>exact ⟨k+1,by omega,by go_num,HE.out,by rw [HP.out];omega⟩
      case measure=>simp [intOf];omega
     ·have hcp:=Hcp.out hk0
      have hk1:(0:Int) < (k:Int):=by omega
      have hk1n:0 < k:=by omega
      have hw1:IntKind.i64.wrap ((k:Int) - 1)=((k - 1:Nat):Int):=by rw [IntWalk.i64_in _ (by omega)];omega
      have hkn:k - 1 < n:=by omega
      by_cases hxq:x≤q
      ·have HE:=zh (HB.out (by omega))
       go_wp2_with fail
       go_ret
       exact ⟨by rw [HE.out];rfl,rfl⟩
      ·have HE:=zh (HG.out (by omega))
       have hdq:decide (x≤q)=false:=by simpa using hxq
       go_wp2_with fail
       go_round
       case rel=>exact ⟨k+1,by omega,by go_num,HE.out,by rw [HP.out];omega⟩
       case measure=>simp [intOf];omega
  ·have hdr:l.drop k=[]:=List.drop_of_length_le (by rw [Hn.out];omega)
   have HE:=zh (show zAW l=decide (1≤n∧n≤7) from by
    unfold zAW
    rw [hgo,hdr,Hn.out]
    rfl)
   clear hgo hdr
   by_cases h1:1≤n
   ·by_cases h7:n≤7
    ·have hd1:decide ((1:Int)≤(n:Int))=true:=by simp;omega
     have hd7:decide ((n:Int)≤7)=true:=by simp;omega
     go_wp2_with fail
     go_ret
     exact ⟨by rw [HE.out,decide_eq_true (And.intro h1 h7)];rfl,rfl⟩
    ·have hd1:decide ((1:Int)≤(n:Int))=true:=by simp;omega
     have hd:decide ((n:Int)≤7)=false:=by simp;omega
     go_wp2_with fail
     go_ret
     exact ⟨by rw [HE.out,decide_eq_false (fun e=>h7 e.2)];rfl,rfl⟩
   ·have hd:decide ((1:Int)≤(n:Int))=false:=by simp;omega
    go_wp2_with fail
    go_ret
    exact ⟨by rw [HE.out,decide_eq_false (fun e=>h1 e.1)];rfl,rfl⟩
structure zA7 (w:World) (v:Value) (vs:List Value) (ls:List Bs):Prop where
 row:OwnR w 22 1 v ls.length vs
 has:∀ (i:Nat) u b,vs[i]?=some u→ls[i]?=some b→OwnB w 5 u b
 sep:∀ u ∈ vs,∀ k,u.ownBlock=some k→v.ownBlock≠some k
theorem zAi (w:World) (o:Obj):Below w.heap.size w (w.alloc o):=(Below.refl _ _).alloc (Nat.le_refl _) o
theorem zC3 (w:World) (u:Value) (e:TypeId) (fr:Nat × Nat):zAL (w.alloc (.cells #[u] e fr)) 1 (.slice (some ⟨w.heap.size,0,none⟩) 1 1) 1 [u]:=by
 refine ⟨rfl,some ⟨w.heap.size,0,none⟩,1,rfl,fun e=>(by cases e),fun a ha i x hx=>?_⟩
 cases ha
 rw [add_zero]
 refine zAA (zAI w _) ?_
 simpa using hx
section
variable {w w0 w1:World} {v v' u:Value} {vs:List Value} {ls:List Bs} {b:Bs}
theorem zA7.len (h:zA7 w v vs ls):vs.length=ls.length:=by have:=h.row.1;omega
theorem zA7.below (h:zA7 w v vs ls) (hb:Below w.heap.size w w1):zA7 w1 v vs ls :=
 ⟨h.row.keep fun k hk=>hb.block k (OwnR.lt h.row hk),fun i u b hu hl=>OwnR.keep (h.has i u b hu hl) fun k hk=>hb.block k (OwnR.lt (h.has i u b hu hl) hk),h.sep⟩
theorem zA7.nil (w:World):zA7 w (.slice none 0 0) [] []:=⟨OwnR.nil _ _ _,fun i u b hu=>(by simp at hu),fun u hu=>(by simp at hu)⟩
theorem mem_rows (h:zA7 w v vs ls) {u:Value} (hu:u ∈ vs):∃ b,OwnB w 5 u b:=by
 obtain ⟨i,hi,rfl⟩:=List.getElem_of_mem hu
 have hl:i < ls.length:=by rw [← h.len];exact hi
 exact ⟨ls[i],h.has i _ _ (List.getElem?_eq_getElem hi) (List.getElem?_eq_getElem hl)⟩
theorem zA7.push (h:zA7 w0 v vs ls) (hu:OwnB w0 5 u b) (hne:∀ k,u.ownBlock=some k→v.ownBlock≠some k) (hown:OwnR w1 22 1 v' (ls.length+1) (vs ++ [u])) (hg:w0.grownBy w1 v.ownBlock) (hloc:v'.ownBlock=v.ownBlock∨∃ g,v'.ownBlock=some g∧w0.heap.size≤g) :
  zA7 w1 v' (vs ++ [u]) (ls ++ [b]):=by
 have hlen:=h.len
 have hk:∀ x c,OwnB w0 5 x c→(∀ k,x.ownBlock=some k→v.ownBlock≠some k)→OwnB w1 5 x c:=fun x c hx hs=>OwnR.keep hx fun k hk=>hg.block k (OwnR.lt hx hk) fun e=>hs k hk e.symm
 have hs':∀ x c,OwnB w0 5 x c→(∀ k,x.ownBlock=some k→v.ownBlock≠some k)→∀ k,x.ownBlock=some k→v'.ownBlock≠some k:=fun x c hx hs k hk e=>by
  rcases hloc with e1 | ⟨g,e1,hge⟩
  ·exact hs k hk (e1 ▸ e)
  ·rw [e] at e1
   cases e1
   have:=OwnR.lt hx hk
   omega
 refine ⟨by rw [List.length_append];exact hown,fun i x c hx hc=>?_,fun x hx k hk'=>?_⟩
 ·by_cases hi:i < vs.length
  ·rw [List.getElem?_append_left hi] at hx
   rw [List.getElem?_append_left (by omega)] at hc
   exact hk x c (h.has i x c hx hc) (h.sep x (List.mem_of_getElem? hx))
  ·rw [List.getElem?_append_right (by omega)] at hx
   rw [List.getElem?_append_right (by omega)] at hc
   have hi0:i - vs.length=0:=by
    have:=(List.getElem?_eq_some_iff.1 hx).1
    simp at this
    omega
   rw [hi0] at hx
   rw [show i - ls.length=0 by omega] at hc
   cases hx
   cases hc
   exact hk u b hu hne
 ·rcases List.mem_append.1 hx with hx | hx
  ·obtain ⟨c,hc⟩:=mem_rows h hx
   exact hs' x c hc (h.sep x hx) k hk'
  ·have:x=u:=by simpa using hx
   subst this
   exact hs' x b hu hne k hk'
end
def zDH (B:Nat) (v:Value) (vs:List Value):Prop:=(∀ k,v.ownBlock=some k→B≤k)∧∀ u ∈ vs,∀ k,u.ownBlock=some k→B≤k
theorem zDH.push {B:Nat} {w0:World} {v v' u:Value} {vs:List Value} (h:zDH B v vs) (hu:∀ j,u.ownBlock=some j→B≤j) (hloc:v'.ownBlock=v.ownBlock∨∃ g,v'.ownBlock=some g∧w0.heap.size≤g) (hB:B≤w0.heap.size):zDH B v' (vs ++ [u]):=by
 refine ⟨fun j hj=>?_,fun x hx j hj=>?_⟩
 ·rcases hloc with e | ⟨g,e,hge⟩
  ·exact h.1 j (e ▸ hj)
  ·rw [hj] at e
   cases e
   omega
 ·rcases List.mem_append.1 hx with hx | hx
  ·exact h.2 x hx j hj
  ·rw [List.mem_singleton] at hx
   exact hu j (hx ▸ hj)
def Scanned (w:World) (b:Bs) (e:Ending) (w':World):Prop:=∃ v vs,e=.returned (.tuple #[v,.int .i64 ((scan b).2:Int)])∧zA7 w' v vs (scan b).1∧zDH w.heap.size v vs∧Below w.heap.size w w'
def ScanRel (w:World) (b:Bs) (n:Nat) (x y:Value) (wr:World):Prop:=∃ (k:Nat) (v:Value) (vs:List Value) (ls:List Bs),k≤n∧y=.int .i64 k∧v=x∧ls.length≤k∧zA7 wr v vs ls∧zDH w.heap.size v vs∧Below w.heap.size w wr∧(scan b).1=ls ++ (scan (b.drop k)).1∧(scan b).2=k+(scan (b.drop k)).2
theorem scan_calls {w:World} {p:Option Addr} {n c:Nat} {b:Bs} (h:HasB w (.slice p n c) b) (hnc:n≤c) (hl:b.length≤1073741824) :
  Calls Tryz.prog 154 #[.slice p n c] w (Scanned w b):=by
 obtain ⟨i1,hi1,-,hs1,-⟩:=info_parts (show (Tryz.prog.info? 5).map (fun i=>(i.zero,i.size,i.bytes))=some (some (.int .u8 0),1,1) by kernel_rfl)
 obtain ⟨i0,hi,hz0,hz1,hz2⟩:=info_parts (show (Tryz.prog.info? 22).map (fun i=>(i.zero,i.size,i.bytes))=some (some (.slice none 0 0),1,24) by kernel_rfl)
 have hn:b.length=n:=by obtain ⟨_,_,e⟩:=h.slice;simp only [Value.slice.injEq] at e;exact e.2.1.symm
 have hn30:n≤1073741824:=by omega
 have H:=zh h
 have Hn:=zh hn
 have Hnc:=zh hnc
 clear h hn hnc hl
 go_enter Tryz.func154,Tryz.ntmps154
 go_wp2_with fail
 go_loopw [4,5] (ScanRel w b n) (fun _ y _=>n - (intOf y).toNat)
 case atStart=>exact ⟨0,_,[],[],Nat.zero_le _,rfl,rfl,Nat.zero_le _,zA7.nil _,⟨fun k hk=>(by cases hk),fun u hu=>(by simp at hu)⟩,Below.refl _ _,by simp,by simp⟩
 case round =>
  obtain ⟨k,v,vs,ls,hk,rfl,rfl,hlk,hrow,hnew,hb,hsc1,hsc2⟩:=hrel
  by_cases hlt:k < n
  ·obtain ⟨r0,hr0⟩:∃ r0,(Value.slice p n c).ownBlock≠some r0:=by
    cases (Value.slice p n c).ownBlock with
    | none=>exact ⟨0,by simp⟩
    | some g=>exact ⟨g+1,by simp⟩
   obtain ⟨p',c',hsl,hh,hc',-⟩:=run_tail (P:=Tryz.prog) Tryz.underlying22 hi1 hs1 (HasB.below H.out hb) Hnc.out r0 k hr0 (Nat.le_of_lt hlt)
   have Hd:=zh (dec_calls hh hc' (by rw [List.length_drop,Hn.out];omega))
   have Hx:=zh (And.intro hrow (And.intro hnew (And.intro hb (And.intro hsc1 hsc2))))
   have hbl:(b.drop k).length=n - k:=by rw [List.length_drop,Hn.out]
   clear hh hc' hrow hnew hb hsc1 hsc2
   by_cases he:decE (b.drop k)=0
   ·have hL:=zDM he
    rw [hbl] at hL
    have Hgo:=zh (scan_go he)
    rw [List.drop_drop] at Hgo
    unfold zDG at Hd
    rw [he] at Hd
    generalize decL (b.drop k)=L at *
    generalize decB (b.drop k)=x at *
    clear he
    go_wp2_with fail
    refine Hd.out.mono ?_
    rintro e w2 ⟨v2,rfl,hv2,hn2,hb2⟩
    have hrow2:=Hx.out.1.below hb2
    have Hv2:=zh hv2
    have Hsep:=zh (show ∀ j,v2.ownBlock=some j→v.ownBlock≠some j from fun j hj e=>by have h1:=hn2 j hj;have h2:=OwnR.lt Hx.out.1.row e;omega)
    have Hn2:=zh (show ∀ j,v2.ownBlock=some j→w.heap.size≤j from fun j hj=>Nat.le_trans Hx.out.2.2.1.size (hn2 j hj))
    have Hb2:=zh hb2
    have Hr2:=zh hrow2
    obtain ⟨p2,c2,rfl,-⟩:=zAO hv2
    clear hv2 hn2 hb2 hrow2 Hd
    generalize hq:x.length=q at *
    have Hq:=zh hq
    generalize hm:ls.length=m at *
    have Hm:=zh hm
    clear hq hm
    have Hrow2:=zh (show OwnR w2 22 1 v m vs by have:=Hr2.out.row;rwa [Hm.out] at this)
    go_wp2_with (at_builtin;have hal:=Hrow2.out.keep (w':=w2.alloc (.cells #[.slice p2 q c2] 22)) (fun j hj=>(zAi w2 _).block j (OwnR.lt Hrow2.out hj));have hxx:=zC3 w2 (.slice p2 q c2) 22 (0,0);refine zAP _ rfl (.tmp 23) (.tmp 25) 108 rfl 22 i0 (.slice none 0 0) 1 24 Tryz.underlying108 hi hz0 hz1 hz2 rfl (by decide) v m _ rfl hal (.slice (some ⟨w2.heap.size,0,none⟩) 1 1) 1 _ rfl hxx (by simp [Value.oneCell']) (by unfold maxLen;omega) (by omega) ?_;clear hal hxx;intro v3 w3 hown3 hgrow3 hloc3;go_loud (have hE:=zA7.push (b:=x) (Hr2.out.below (zAi w2 (.cells #[.slice p2 q c2] 22))) (OwnR.keep Hv2.out fun j hj=>(zAi w2 _).block j (OwnR.lt Hv2.out hj)) Hsep.out (by rw [Hm.out];exact hown3) hgrow3 hloc3;have hN:=zDH.push (u:=.slice p2 q c2) Hx.out.2.1 Hn2.out hloc3 (by have h1:=Hx.out.2.2.1.size;have h2:=Hb2.out.size;have h3:=(zAi w2 (.cells #[.slice p2 q c2] 22)).size;omega);have hB:Below w.heap.size w w3:=by { have h1:=Hx.out.2.2.1.trans ((Hb2.out.trans ((zAi w2 (.cells #[.slice p2 q c2] 22)).mono Hb2.out.size)).mono Hx.out.2.2.1.size);exact ((Chg.of_below h1).trans (Chg.of_grown hgrow3) fun j hj e=>by have h5:=Hx.out.2.1.1 j e.symm;omega).below (Nat.le_refl _) fun _ _=>id };have HE:=zh (And.intro hE (And.intro hN hB));clear hE hN hB hgrow3 hloc3;obtain ⟨p3,q3,rfl⟩:=OwnR.shape hown3;clear hown3))
    go_roundw
    case rel=>exact ⟨k+L,_,_,ls ++ [x],by omega,by go_num,rfl,by rw [List.length_append,Hm.out];simp;omega,HE.out.1,HE.out.2.1,HE.out.2.2,by rw [Hx.out.2.2.2.1,Hgo.out];simp,by rw [Hx.out.2.2.2.2,Hgo.out];simp;omega⟩
    case measure=>simp [intOf];omega
   ·have Hst:=zh (zBa (.inr he))
    have hne:((decE (b.drop k):Int) != 0)=true:=by simp;omega
    unfold zDG at Hd
    generalize decE (b.drop k)=E at *
    generalize decL (b.drop k)=L at *
    go_wp2_with fail
    refine Hd.out.mono ?_
    rintro e w2 ⟨v2,rfl,-,-,hb2⟩
    have HE:=zh (show Scanned w b (.returned (.tuple #[v,.int .i64 (k:Int)])) w2 from ⟨v,vs,by rw [Hx.out.2.2.2.2,Hst.out];rfl,by rw [Hx.out.2.2.2.1,Hst.out,List.append_nil];exact Hx.out.1.below hb2,Hx.out.2.1,Hx.out.2.2.1.trans (hb2.mono Hx.out.2.2.1.size)⟩)
    clear hb2 Hd
    go_wp2_with fail
    go_ret2
    exact HE.out
  ·have he:b.drop k=[]:=List.drop_of_length_le (by rw [Hn.out];omega)
   rw [he,zBa (.inl rfl)] at hsc1 hsc2
   have HE:=zh (show Scanned w b (.returned (.tuple #[v,.int .i64 (k:Int)])) wr from ⟨v,vs,by rw [hsc2];rfl,by rw [hsc1,List.append_nil];exact hrow,hnew,hb⟩)
   clear hrow hnew hb hsc1 hsc2 he
   go_wp2_with fail
   go_ret2
   exact HE.out
def entV (e:Ent) (v:EV):Value:=.agg #[.int .i64 e.term,.int .i64 e.kind,v.1,v.2]
structure zBE (w:World) (e:Ent) (v:EV):Prop where
 data:HasB w v.1 e.data
 nodes:HasI w v.2 e.nodes
 dl:e.data.length≤1099511627776
 nl:e.nodes.length≤1099511627776
theorem zBE.below {w w':World} {e:Ent} {v:EV} (h:zBE w e v) (hb:Below w.heap.size w w'):zBE w' e v:=⟨HasB.below h.data hb,zAL.chg h.nodes (Chg.of_below hb) fun _ _=>id,h.dl,h.nl⟩
theorem zDg.has {w:World} {e:Ent} {v:EV} (h:zDg w e v) (hd:e.data.length≤1099511627776) (hn:e.nodes.length≤1099511627776):zBE w e v:=⟨OwnB.has h.data,OwnI.has h.nodes,hd,hn⟩
theorem ent_zero {e:Ent} (hk:e.kind=0):zAs e=(isTm e.term && decide (e.data.length=0∧e.nodes.length=0)):=by
 unfold zAs
 rw [if_pos hk]
 simp [List.length_eq_zero_iff]
theorem ent_one {e:Ent} (hk:e.kind=1):zAs e=(isTm e.term && decide (1≤e.data.length∧e.data.length≤65536∧e.nodes.length=0)):=by
 unfold zAs
 rw [if_neg (by omega),if_pos hk]
 simp [List.length_eq_zero_iff]
theorem ent_two {e:Ent} (hk:e.kind=2):zAs e=(isTm e.term && (decide (e.data.length=0) && zAW e.nodes)):=by
 unfold zAs
 rw [if_neg (by omega),if_neg (by omega),if_pos hk]
 simp [List.length_eq_zero_iff]
theorem ent_none {e:Ent} (h0:e.kind≠0) (h1:e.kind≠1) (h2:e.kind≠2):zAs e=false:=by
 unfold zAs
 rw [if_neg h0,if_neg h1,if_neg h2,Bool.and_false]
theorem isone_calls {w:World} {e:Ent} {v:EV} (h:zBE w e v) :
  Calls Tryz.prog 99 #[entV e v] w fun r w'=>r=.returned (.bool (zAs e))∧Below w.heap.size w w':=by
 obtain ⟨t,k,da,no⟩:=e
 obtain ⟨v1,v2⟩:=v
 have hb:=zAD w (.cells #[.int .i64 t,.int .i64 k,v1,v2] 50)
 have Hg:=zh (show Calls Tryz.prog 73 #[v2] (w.alloc (.cells #[.int .i64 t,.int .i64 k,v1,v2] 50)) fun e w'=>e=.returned (.bool (zAW no))∧w'=w.alloc (.cells #[.int .i64 t,.int .i64 k,v1,v2] 50) from by
  have hn:=(h.below hb).nodes
  obtain ⟨p,c,hv⟩:=hn.slice
  have hv':v2=.slice p no.length c:=hv
  subst hv'
  exact zEJ hn h.nl)
 have Ht:=zh (zD4 (w.alloc (.cells #[.int .i64 t,.int .i64 k,v1,v2] 50)) t)
 have HB:=zh hb
 have hdl:=h.dl
 have hnl:=h.nl
 obtain ⟨p1,c1,e1⟩:=h.data.slice
 obtain ⟨p2,c2,e2⟩:=h.nodes.slice
 have e1':v1=.slice p1 da.length c1:=e1
 have e2':v2=.slice p2 no.length c2:=e2
 subst e1'
 subst e2'
 clear e1 e2 h hb
 dsimp only at hdl hnl
 have H0:=zh (ent_zero (e:=⟨t,k,da,no⟩))
 have H1:=zh (ent_one (e:=⟨t,k,da,no⟩))
 have H2:=zh (ent_two (e:=⟨t,k,da,no⟩))
 have H3:=zh (ent_none (e:=⟨t,k,da,no⟩))
 have Hno:=zh (show isTm t=false→zAs ⟨t,k,da,no⟩=false from fun h=>by unfold zAs;rw [h,Bool.false_and])
 unfold entV
 dsimp only at H0 H1 H2 H3 ⊢
 generalize zAs ⟨t,k,da,no⟩=res at *
 cases ht:isTm t with
 | false =>
  rw [ht] at Ht
  have HE:=zh (Hno.out ht)
  go_enter Tryz.func99,Tryz.ntmps99
  go_wp2_with fail
  refine Ht.out.mono ?_
  rintro e w' ⟨rfl,rfl⟩
  go_wp2_with fail
  go_ret
  exact ⟨by rw [HE.out];rfl,HB.out⟩
 | true =>
  rw [ht] at Ht H0 H1 H2
  by_cases h0:k=0
  ·have HE:=zh (H0.out h0)
   have hb0:(k == 0)=true:=by simpa using h0
   clear h0 ht
   generalize da.length=n at *
   generalize no.length=m at *
   by_cases hn:n=0
   ·have hbn:((n:Int) == 0)=true:=by simp;omega
    have hdn:decide (n=0∧m=0)=((m:Int) == 0):=by rw [Bool.eq_iff_iff];simp;omega
    rw [hdn] at HE
    clear hn hdn
    go_enter Tryz.func99,Tryz.ntmps99
    go_wp2_with fail
    refine Ht.out.mono ?_
    rintro e w' ⟨rfl,rfl⟩
    go_wp2_with fail
    go_ret
    exact ⟨by rw [HE.out];simp,HB.out⟩
   ·have hbn:((n:Int) == 0)=false:=by simp;omega
    have hdn:decide (n=0∧m=0)=false:=by simp;omega
    rw [hdn] at HE
    clear hn hdn
    go_enter Tryz.func99,Tryz.ntmps99
    go_wp2_with fail
    refine Ht.out.mono ?_
    rintro e w' ⟨rfl,rfl⟩
    go_wp2_with fail
    go_ret
    exact ⟨by rw [HE.out];simp,HB.out⟩
  ·have hb0:(k == 0)=false:=by simpa using h0
   by_cases h1:k=1
   ·have HE:=zh (H1.out h1)
    have hb1:(k == 1)=true:=by simpa using h1
    clear h0 ht h1
    generalize da.length=n at *
    generalize no.length=m at *
    by_cases hn:1≤n
    ·by_cases hn6:n≤65536
     ·have hd1:decide ((1:Int)≤(n:Int))=true:=by simp;omega
      have hd2:decide ((n:Int)≤65536)=true:=by simp;omega
      have hdn:decide (1≤n∧n≤65536∧m=0)=((m:Int) == 0):=by rw [Bool.eq_iff_iff];simp;omega
      rw [hdn] at HE
      clear hdn
      go_enter Tryz.func99,Tryz.ntmps99
      go_wp2_with fail
      refine Ht.out.mono ?_
      rintro e w' ⟨rfl,rfl⟩
      go_wp2_with fail
      go_ret
      exact ⟨by rw [HE.out];simp,HB.out⟩
     ·have hd1:decide ((1:Int)≤(n:Int))=true:=by simp;omega
      have hd2:decide ((n:Int)≤65536)=false:=by simp;omega
      have hdn:decide (1≤n∧n≤65536∧m=0)=false:=by simp;omega
      rw [hdn] at HE
      clear hdn
      go_enter Tryz.func99,Tryz.ntmps99
      go_wp2_with fail
      refine Ht.out.mono ?_
      rintro e w' ⟨rfl,rfl⟩
      go_wp2_with fail
      go_ret
      exact ⟨by rw [HE.out];simp,HB.out⟩
    ·have hd1:decide ((1:Int)≤(n:Int))=false:=by simp;omega
     have hdn:decide (1≤n∧n≤65536∧m=0)=false:=by simp;omega
     rw [hdn] at HE
     clear hdn
     go_enter Tryz.func99,Tryz.ntmps99
     go_wp2_with fail
     refine Ht.out.mono ?_
     rintro e w' ⟨rfl,rfl⟩
     go_wp2_with fail
     go_ret
     exact ⟨by rw [HE.out];simp,HB.out⟩
   ·have hb1:(k == 1)=false:=by simpa using h1
    by_cases h2:k=2
    ·have HE:=zh (H2.out h2)
     have hb2:(k == 2)=true:=by simpa using h2
     clear h0 ht h1 h2
     generalize da.length=n at *
     generalize no.length=m at *
     by_cases hn:n=0
     ·have hbn:((n:Int) == 0)=true:=by simp;omega
      have hdn:decide (n=0)=true:=by simpa using hn
      rw [hdn] at HE
      clear hn hdn
      go_enter Tryz.func99,Tryz.ntmps99
      go_wp2_with fail
      refine Ht.out.mono ?_
      rintro e w' ⟨rfl,rfl⟩
      go_wp2_with fail
      refine Hg.out.mono ?_
      rintro e w' ⟨rfl,rfl⟩
      go_wp2_with fail
      go_ret
      exact ⟨by rw [HE.out];simp,HB.out⟩
     ·have hbn:((n:Int) == 0)=false:=by simp;omega
      have hdn:decide (n=0)=false:=by simpa using hn
      rw [hdn] at HE
      clear hn hdn
      go_enter Tryz.func99,Tryz.ntmps99
      go_wp2_with fail
      refine Ht.out.mono ?_
      rintro e w' ⟨rfl,rfl⟩
      go_wp2_with fail
      go_ret
      exact ⟨by rw [HE.out];simp,HB.out⟩
    ·have hb2:(k == 2)=false:=by simpa using h2
     have HE:=zh (H3.out h0 h1 h2)
     clear h0 h1 h2
     go_enter Tryz.func99,Tryz.ntmps99
     go_wp2_with fail
     refine Ht.out.mono ?_
     rintro e w' ⟨rfl,rfl⟩
     go_wp2_with fail
     go_ret
     exact ⟨by rw [HE.out];rfl,HB.out⟩
def EntNew (w:World) (e:Ent) (r:Ending) (w':World):Prop:=∃ v:EV,r=.returned (entV e v)∧zDg w' e v∧(∀ k,(v.1.ownBlock=some k∨v.2.ownBlock=some k)→w.heap.size≤k)∧Below w.heap.size w w'
theorem own_calls {w:World} {e:Ent} {v:EV} (h:zBE w e v):Calls Tryz.prog 102 #[entV e v] w (EntNew w e):=by
 obtain ⟨t,k,da,no⟩:=e
 obtain ⟨v1,v2⟩:=v
 have hb1:=zAD w (.cells #[.int .i64 t,.int .i64 k,v1,v2] 50)
 have hb2:Below w.heap.size w ((w.alloc (.cells #[.int .i64 t,.int .i64 k,v1,v2] 50)).alloc (.cells #[.int .i64 0,.int .i64 0,.slice none 0 0,.slice none 0 0] 50)):=hb1.alloc hb1.size _
 have hbox:((w.alloc (.cells #[.int .i64 t,.int .i64 k,v1,v2] 50)).alloc (.cells #[.int .i64 0,.int .i64 0,.slice none 0 0,.slice none 0 0] 50)).heap[w.heap.size]?=some (.cells #[.int .i64 t,.int .i64 k,v1,v2] 50 (0,0)):=(zCw _ _ (by simp)).trans (zAI w _)
 have hres:((w.alloc (.cells #[.int .i64 t,.int .i64 k,v1,v2] 50)).alloc (.cells #[.int .i64 0,.int .i64 0,.slice none 0 0,.slice none 0 0] 50)).heap[w.heap.size+1]?=some (.cells #[.int .i64 0,.int .i64 0,.slice none 0 0,.slice none 0 0] 50 (0,0)):=by
  have:=zAI (w.alloc (.cells #[.int .i64 t,.int .i64 k,v1,v2] 50)) (.cells #[.int .i64 0,.int .i64 0,.slice none 0 0,.slice none 0 0] 50)
  simpa using this
 have H:=zh h
 have hdl:=h.dl
 have hnl:=h.nl
 obtain ⟨p1,c1,e1⟩:=h.data.slice
 obtain ⟨p2,c2,e2⟩:=h.nodes.slice
 have e1':v1=.slice p1 da.length c1:=e1
 have e2':v2=.slice p2 no.length c2:=e2
 dsimp only at hdl hnl
 subst e1'
 subst e2'
 clear e1 e2 h hb1
 unfold entV
 dsimp only
 go_enter Tryz.func102,Tryz.ntmps102
 go_wp2_with fail
 generalize (w.alloc (.cells #[.int .i64 t,.int .i64 k,.slice p1 da.length c1,.slice p2 no.length c2] 50)).alloc (.cells #[.int .i64 0,.int .i64 0,.slice none 0 0,.slice none 0 0] 50)=W0 at *
 generalize hsz:w.heap.size=b at *
 have l2:=zAA hbox (i:=2) rfl
 have l3:=zAA hbox (i:=3) rfl
 have HX:=zh (And.intro hbox (And.intro hres hb2))
 clear hbox hres hb2
 refine zDm [7,9] (fun w':World=>w'.heap[b]?=some (.cells #[.int .i64 t,.int .i64 k,.slice p1 da.length c1,.slice p2 no.length c2] 50 (0,0))) (n:=10) (by kernel_rfl) rfl (HX.out.1) (fun hHeld=>?_)
 clear l2 l3
 refine gtk 0 (v:=?v1x0) rfl ?_
 simp only [Act.put,uA,uB,uC]
 refine zBG 1 (v:=.slice p1 da.length c1) rfl (by kernel_rfl) (by kernel_rfl) (by kernel_rfl) (by kernel_rfl) (fun _ _ _ h=>h) (by rfl) (by assumption) (fun W hSw=>by have l2:=zAA hSw (i:=2) rfl;go_simp;try with_reducible rfl) ?_
 simp only [Act.put,uA,uB,uC]
 refine gtk 3 (v:=?v1x3) rfl ?_
 simp only [Act.put,uA,uB,uC]
 refine zBG 4 (v:=.slice p2 no.length c2) rfl (by kernel_rfl) (by kernel_rfl) (by kernel_rfl) (by kernel_rfl) (fun _ _ _ h=>h) (by rfl) (by assumption) (fun W hSw=>by have l3:=zAA hSw (i:=3) rfl;go_simp;try with_reducible rfl) ?_
 simp only [Act.put,uA,uB,uC]
 refine zEg 2 rfl (by kernel_rfl) (by rfl) (fun K hK=>?_)
 have Hc1:=zh (zBY (HasB.below (H.out.below (hsz ▸ HX.out.2.2)).data (zAb W0)) (Nat.le_trans hdl (by decide)))
 go_wp2_with fail
 refine Hc1.out.mono ?_
 rintro r w3 ⟨v5,rfl,hv5,hn5,hb5⟩
 have HB5:=zh (show Below b w w3 from HX.out.2.2.trans ((zAb W0).trans hb5 |>.mono (hsz ▸ HX.out.2.2.size)))
 have Hh3:=zh ((hb5.block b (Array.getElem?_eq_some_iff.1 hHeld).1).trans hHeld)
 have HR3:=zh (show w3.heap[b+1]?=_ from (hb5.block (b+1) (Array.getElem?_eq_some_iff.1 HX.out.2.1).1).trans HX.out.2.1)
 have HV5:=zh (And.intro hv5 (show ∀ k,v5.ownBlock=some k→b+2≤k from fun k hk=>Nat.le_trans (by have:=(Array.getElem?_eq_some_iff.1 HX.out.2.1).1;show b+2≤W0.heap.size;omega) (hn5 k hk)))
 obtain ⟨pv,cv,rfl,-⟩:=zAO hv5
 clear hv5 hn5 hb5 Hc1
 go_wp2_with fail
 refine hK.out _ _ (Hh3.out) (fun hHeld=>?_)
 clear hK
 try simp only [Act.put,uA,uB,uC]
 refine gpu 6 (v:=?v1x6) rfl ?_
 simp only [Act.put,uA,uB,uC]
 refine zEg 5 rfl (by kernel_rfl) (by rfl) (fun K hK=>?_)
 have Hc2:=zh (zDo (H.out.below (hsz ▸ HB5.out)).nodes hnl)
 go_wp2_with fail
 refine Hc2.out.mono ?_
 rintro r w4 ⟨v8,rfl,hv8,hn8,hb8⟩
 have HB8:=zh (show Below b w w4 from HB5.out.trans (hb8.mono (hsz ▸ HB5.out.size)))
 have Hh4:=zh ((hb8.block b (Array.getElem?_eq_some_iff.1 Hh3.out).1).trans Hh3.out)
 have HR4:=zh ((hb8.block (b+1) (Array.getElem?_eq_some_iff.1 HR3.out).1).trans HR3.out)
 have HV4:=zh (And.intro (zBm HV5.out.1 hb8) (And.intro hv8 (show ∀ k,v8.ownBlock=some k→b+2≤k from fun k hk=>Nat.le_trans (by have:=(Array.getElem?_eq_some_iff.1 HR3.out).1;omega) (hn8 k hk))))
 have HV5n:=zh HV5.out.2
 obtain ⟨pw,cw,rfl,-⟩:=zAl hv8
 clear hv8 hn8 hb8 Hc2
 go_wp2_with fail
 refine hK.out _ _ (Hh4.out) (fun hHeld=>?_)
 clear hK
 try simp only [Act.put,uA,uB,uC]
 refine g_end 7 rfl (by kernel_rfl) (by rfl) (by kernel_rfl) (fun K hK=>?_)
 have c2w:=zAA Hh4.out (i:=2) rfl
 have f2w:=zAF Hh4.out 2
 have Hs1:=zh (zAE Hh4.out 2 (.slice pv da.length cv))
 go_wp2_with fail
 refine hK.out _ _ ?_
 clear hK
 try simp only [Act.put,uA,uB,uC]
 refine g_pure 8 (v:=?v1x8) rfl (by kernel_rfl) (by kernel_rfl) (by kernel_rfl) (by kernel_rfl) (fun _ _ _ h=>h) (by rfl) ?y1x8 ?_
 case y1x8=>(intro w;go_simp;try with_reducible rfl)
 simp only [Act.put,uA,uB,uC]
 refine g_end 9 rfl (by kernel_rfl) (by rfl) (by kernel_rfl) (fun K hK=>?_)
 have c3w:=zAA Hs1.out (i:=3) rfl
 have f3w:=zAF Hs1.out 3
 have Hs2:=zh (zAE Hs1.out 3 (.slice pw no.length cw))
 go_wp2_with fail
 refine hK.out _ _ ?_
 clear hK
 try simp only [Act.put,uA,uB,uC]
 refine g_done (by kernel_rfl) ?_ _
 have hs2:((w4.setCell ⟨b,2,none⟩ (.slice pv da.length cv)).setCell ⟨b,3,none⟩ (.slice pw no.length cw)).heap[b]?=some (.cells #[.int .i64 t,.int .i64 k,.slice pv da.length cv,.slice pw no.length cw] 50 (0,0)):=by simpa using Hs2.out
 have hr2:((w4.setCell ⟨b,2,none⟩ (.slice pv da.length cv)).setCell ⟨b,3,none⟩ (.slice pw no.length cw)).heap[b+1]?=some (.cells #[.int .i64 0,.int .i64 0,.slice none 0 0,.slice none 0 0] 50 (0,0)):=(set_other _ (by show b+1≠b;omega)).trans ((set_other _ (by show b+1≠b;omega)).trans HR4.out)
 have HF:=zh (show Chg (fun j=>j=b) w4 ((w4.setCell ⟨b,2,none⟩ (.slice pv da.length cv)).setCell ⟨b,3,none⟩ (.slice pw no.length cw)) from (Chg.setCell w4 ⟨b,2,none⟩ _).trans (Chg.setCell _ ⟨b,3,none⟩ _) fun _ _ e=>e)
 clear c2w f2w c3w f3w Hs1 Hs2
 generalize (w4.setCell ⟨b,2,none⟩ (.slice pv da.length cv)).setCell ⟨b,3,none⟩ (.slice pw no.length cw)=W5 at *
 have d0:=zAA hs2 (i:=0) rfl
 have d1:=zAA hs2 (i:=1) rfl
 have d2:=zAA hs2 (i:=2) rfl
 have d3:=zAA hs2 (i:=3) rfl
 have e0:=zAA hr2 (i:=0) rfl
 have e1:=zAA hr2 (i:=1) rfl
 have e2:=zAA hr2 (i:=2) rfl
 have e3:=zAA hr2 (i:=3) rfl
 have fr:=zAF hr2
 have HR5:=zh hr2
 clear hs2 hr2
 go_wp2_with fail
 have hz2:((((W5.setCell ⟨b+1,0,none⟩ (.int .i64 t)).setCell ⟨b+1,1,none⟩ (.int .i64 k)).setCell ⟨b+1,2,none⟩ (.slice pv da.length cv)).setCell ⟨b+1,3,none⟩ (.slice pw no.length cw)).heap[b+1]?=some (.cells #[.int .i64 t,.int .i64 k,.slice pv da.length cv,.slice pw no.length cw] 50 (0,0)):=by
  have h1:=zAE HR5.out 0 (.int .i64 t)
  have h2:=zAE h1 1 (.int .i64 k)
  have h3:=zAE h2 2 (.slice pv da.length cv)
  have h4:=zAE h3 3 (.slice pw no.length cw)
  simpa using h4
 have HG:=zh (show Chg (fun j=>j=b+1) W5 ((((W5.setCell ⟨b+1,0,none⟩ (.int .i64 t)).setCell ⟨b+1,1,none⟩ (.int .i64 k)).setCell ⟨b+1,2,none⟩ (.slice pv da.length cv)).setCell ⟨b+1,3,none⟩ (.slice pw no.length cw)) from (((Chg.setCell W5 ⟨b+1,0,none⟩ _).trans (Chg.setCell _ ⟨b+1,1,none⟩ _) fun _ _ e=>e).trans (Chg.setCell _ ⟨b+1,2,none⟩ _) fun _ _ e=>e).trans (Chg.setCell _ ⟨b+1,3,none⟩ _) fun _ _ e=>e)
 clear d0 d1 d2 d3 e0 e1 e2 e3 fr
 generalize (((W5.setCell ⟨b+1,0,none⟩ (.int .i64 t)).setCell ⟨b+1,1,none⟩ (.int .i64 k)).setCell ⟨b+1,2,none⟩ (.slice pv da.length cv)).setCell ⟨b+1,3,none⟩ (.slice pw no.length cw)=W6 at *
 have z0:=zAA hz2 (i:=0) rfl
 have z1:=zAA hz2 (i:=1) rfl
 have z2:=zAA hz2 (i:=2) rfl
 have z3:=zAA hz2 (i:=3) rfl
 have HE:=zh (show EntNew w ⟨t,k,da,no⟩ (.returned (entV ⟨t,k,da,no⟩ (.slice pv da.length cv,.slice pw no.length cw))) W6 from by
  have hC:Chg (fun j=>j=b∨j=b+1) w4 W6:=(HF.out.mono fun _ _ e=>.inl e).trans (HG.out.mono (T:=fun j=>j=b∨j=b+1) fun _ _ e=>.inr e) fun _ _ e=>e
  refine ⟨(.slice pv da.length cv,.slice pw no.length cw),rfl,⟨OwnR.keep HV4.out.1 fun j hj=>hC.block j (OwnR.lt HV4.out.1 hj) fun e=>?_,OwnR.keep HV4.out.2.1 fun j hj=>hC.block j (OwnR.lt HV4.out.2.1 hj) fun e=>?_⟩,fun j hj=>?_,?_⟩
  ·have:=HV5n.out j hj
   omega
  ·have:=HV4.out.2.2 j hj
   omega
  ·rcases hj with hj | hj
   ·have:=HV5n.out j hj
    omega
   ·have:=HV4.out.2.2 j hj
    omega
  ·have hb8:Below w.heap.size w w4:=by rw [hsz];exact HB8.out
   exact ((Chg.of_below hb8).trans hC fun i hi e=>by omega:Chg (fun _=>False) w W6).below (Nat.le_refl _) fun _ _ e=>e)
 (try simp only [Exit.inBlock,Exit.then])
 refine bodyPost_ret (results_cell_row rfl _ W6 (b+1) _ _ (0,0) _ rfl hz2 Tryz.underlying50 rfl (by kernel_rfl)) rfl ?_
 exact HE.out
section
variable {w w1:World} {j d:Nat} {pre:ByteArray} {D:zAB} {M:JouM} {F:Nat→Prop}
theorem jmay_calls (h:JouF w w1 j d pre D M F):Calls Tryz.prog 98 #[.pointer (some ⟨j,0,none⟩)] w1 fun e w'=>e=.returned (.int .i64 (if M.dead then 9 else 0))∧w'=w1:=by
 obtain ⟨own,gv,dv,ev,vs,hJ,hS,hn,hl⟩:=h
 have c9:=hJ.c 9 rfl
 clear hJ hS hn hl
 cases hd:M.dead with
 | true =>
  rw [hd] at c9
  go_enter Tryz.func98,Tryz.ntmps98
  go_wp2_with fail
  go_ret
  exact ⟨rfl,rfl⟩
 | false =>
  rw [hd] at c9
  go_enter Tryz.func98,Tryz.ntmps98
  go_wp2_with fail
  go_ret
  exact ⟨rfl,rfl⟩
theorem jterm_calls (h:JouF w w1 j d pre D M F):Calls Tryz.prog 29 #[.pointer (some ⟨j,0,none⟩)] w1 fun e w'=>e=.returned (.tuple #[.int .i64 M.now,.int .i64 M.vote])∧∃ q,w'=w1.drewN q:=by
 obtain ⟨own,gv,dv,ev,vs,hJ,hS,hn,hl⟩:=h
 have c5:=hJ.c 5 rfl
 have c6:=hJ.c 6 rfl
 clear hJ hS hn hl
 go_enter Tryz.func29,Tryz.ntmps29
 go_wp2_with fail
 go_quiet (fail)
 go_wp2_with fail
 go_ret2
 exact ⟨rfl,_,rfl⟩
theorem zEK (h:JouF w w1 j d pre D M F):Calls Tryz.prog 31 #[.pointer (some ⟨j,0,none⟩)] w1 fun e w'=>e=.returned (.tuple #[.int .i64 (M.number:Int),.int .i64 M.term])∧∃ q,w'=w1.drewN q:=by
 obtain ⟨own,gv,dv,ev,vs,hJ,hS,hn,hl⟩:=h
 have c0:=hJ.c 0 rfl
 have c1:=hJ.c 1 rfl
 clear hJ hS hn hl
 go_enter Tryz.func31,Tryz.ntmps31
 go_wp2_with fail
 go_quiet (fail)
 go_wp2_with fail
 go_ret2
 exact ⟨rfl,_,rfl⟩
theorem zB5 (h:JouF w w1 j d pre D M F):Calls Tryz.prog 25 #[.pointer (some ⟨j,0,none⟩)] w1 fun e w'=>e=.returned (.tuple #[.int .i64 (M.last:Int),.int .i64 M.lastT])∧∃ q,w'=w1.drewN q:=by
 have Hb:=zh (zEK h)
 have hlast:=h.okM.last
 obtain ⟨own,gv,dv,ev,vs,hJ,hS,hn,hl⟩:=h
 have c0:=hJ.c 0 rfl
 have c8:=hJ.c 8 rfl
 obtain ⟨p,c,hev⟩:=hJ.row.shape
 have HL:=zh (show M.last=M.number+M.entries.length from rfl)
 by_cases h0:M.entries.length=0
 ·have he:M.entries=[]:=List.eq_nil_of_length_eq_zero h0
  have HE:=zh (show (M.last:Int)=(M.number:Int)∧M.lastT=M.term from ⟨by rw [HL.out,h0];rfl,by unfold JouM.lastT;rw [he];rfl⟩)
  rw [hev,h0] at c8
  clear hJ hS hn hl hev he h0 hlast
  go_enter Tryz.func25,Tryz.ntmps25
  go_wp2_with fail
  refine Hb.out.mono ?_
  rintro e w' ⟨rfl,q,rfl⟩
  go_wp2_with fail
  go_ret2
  exact ⟨by rw [HE.out.1,HE.out.2];rfl,q,rfl⟩
 ·have hpos:M.entries.length - 1 < M.entries.length:=by omega
  obtain ⟨g,c',v,hev',hv,-,k0,-,-,-⟩:=hJ.ent (List.getElem?_eq_getElem hpos)
  have hT:M.lastT=M.entries[M.entries.length - 1].term:=by
   unfold JouM.lastT
   rw [List.getLast?_eq_getElem?,List.getElem?_eq_getElem hpos]
  rw [← hT] at k0
  rw [hev'] at c8
  unfold JouM.last at hlast
  clear hJ hS hn hl hev hev' hv hpos hT Hb
  generalize M.entries.length=n at *
  generalize M.number=b at *
  generalize M.last=la at *
  generalize M.lastT=lt at *
  have hnp:(0:Int) < (n:Int):=by omega
  have hw1:IntKind.i64.wrap ((b:Int)+(n:Int))=(la:Int):=by rw [IntWalk.i64_in _ (by omega),HL.out];omega
  have hw2:IntKind.i64.wrap ((n:Int) - 1)=((n - 1:Nat):Int):=by rw [IntWalk.i64_in _ (by omega)];omega
  have hlt:n - 1 < n:=by omega
  go_enter Tryz.func25,Tryz.ntmps25
  go_wp2_with fail
  go_quiet (fail)
  go_wp2_with fail
  go_ret2
  exact ⟨rfl,_,rfl⟩
theorem zD5 (h:JouF w w1 j d pre D M F) (i:Int) (hi:-9223372036854775808≤i∧i≤9223372036854775807) :
  Calls Tryz.prog 103 #[.pointer (some ⟨j,0,none⟩),.int .i64 i] w1 fun e w'=>e=.returned (.bool (decide ((M.number:Int) < i∧i≤(M.last:Int))))∧∃ q,w'=w1.drewN q:=by
 have hlast:=h.okM.last
 obtain ⟨own,gv,dv,ev,vs,hJ,hS,hn,hl⟩:=h
 have c0:=hJ.c 0 rfl
 have c8:=hJ.c 8 rfl
 obtain ⟨p,c,rfl⟩:=hJ.row.shape
 have HL:M.last=M.number+M.entries.length:=rfl
 clear hJ hS hn hl
 generalize M.entries.length=n at *
 generalize M.number=b at *
 generalize M.last=la at *
 by_cases h1:(b:Int) < i
 ·have hw:IntKind.i64.wrap (i - (b:Int))=i - (b:Int):=IntWalk.i64_in _ (by omega)
  have HE:=zh (show decide ((b:Int) < i∧i≤(la:Int))=decide (i - (b:Int)≤(n:Int)) from by rw [Bool.eq_iff_iff];simp only [decide_eq_true_eq];omega)
  have hd:decide ((b:Int) < i)=true:=by simpa using h1
  clear HL hlast
  go_enter Tryz.func103,Tryz.ntmps103
  go_wp2_with fail
  go_quiet (fail)
  go_wp2_with fail
  go_ret
  exact ⟨by rw [HE.out];rfl,_,rfl⟩
 ·have hd:decide ((b:Int) < i)=false:=by simpa using h1
  have HE:=zh (show decide ((b:Int) < i∧i≤(la:Int))=false from by rw [decide_eq_false_iff_not];omega)
  clear HL hlast
  go_enter Tryz.func103,Tryz.ntmps103
  go_wp2_with fail
  go_quiet (fail)
  go_wp2_with fail
  go_ret
  exact ⟨by rw [HE.out];rfl,_,rfl⟩
theorem jmv_calls (h:JouF w w1 j d pre D M F) (t v:Int):Calls Tryz.prog 108 #[.pointer (some ⟨j,0,none⟩),.int .i64 t,.int .i64 v] w1 fun e w'=>e=.returned (.bool (M.mayVote t v))∧w'=w1:=by
 obtain ⟨own,gv,dv,ev,vs,hJ,hS,hn,hl⟩:=h
 have c5:=hJ.c 5 rfl
 have c6:=hJ.c 6 rfl
 have HM:=zh (show M.mayVote t v=(decide (M.now≤t∧t≤1099511627776∧-1≤v∧v < 7) && !decide (t=M.now∧M.vote≠-1∧v≠M.vote)) from rfl)
 clear hJ hS hn hl
 generalize M.mayVote t v=r at *
 generalize M.now=a at *
 generalize M.vote=b at *
 by_cases h1:t < a
 ·have HE:=zh (show r=false from by rw [HM.out];simp;omega)
  go_enter Tryz.func108,Tryz.ntmps108
  go_wp2_with fail
  go_ret
  exact ⟨by rw [HE.out];rfl,rfl⟩
 ·have d1:decide (t < a)=false:=by simpa using h1
  by_cases h2:1099511627776 < t
  ·have HE:=zh (show r=false from by rw [HM.out];simp;omega)
   go_enter Tryz.func108,Tryz.ntmps108
   go_wp2_with fail
   go_ret
   exact ⟨by rw [HE.out];rfl,rfl⟩
  ·have d2:decide (1099511627776 < t)=false:=by simpa using h2
   by_cases h3:v < -1
   ·have HE:=zh (show r=false from by rw [HM.out];simp;omega)
    go_enter Tryz.func108,Tryz.ntmps108
    go_wp2_with fail
    go_ret
    exact ⟨by rw [HE.out];rfl,rfl⟩
   ·have d3:decide (v < -1)=false:=by simpa using h3
    by_cases h4:7≤v
    ·have HE:=zh (show r=false from by rw [HM.out];simp;omega)
     go_enter Tryz.func108,Tryz.ntmps108
     go_wp2_with fail
     go_ret
     exact ⟨by rw [HE.out];rfl,rfl⟩
    ·have d4:decide (7≤v)=false:=by simpa using h4
     by_cases h5:t=a
     ·by_cases h6:b=-1
      ·have HE:=zh (show r=true from by rw [HM.out];simp [h6];omega)
       have e5:(t == a)=true:=by simpa using h5
       have e6:(b != -1)=false:=by simpa using h6
       clear h5 h6
       go_enter Tryz.func108,Tryz.ntmps108
       go_wp2_with fail
       go_ret
       exact ⟨by rw [HE.out];rfl,rfl⟩
      ·have e5:(t == a)=true:=by simpa using h5
       have e6:(b != -1)=true:=by simpa using h6
       by_cases h7:v=b
       ·have HE:=zh (show r=true from by rw [HM.out];simp [h7];omega)
        have e7:(v != b)=false:=by simpa using h7
        clear h5 h6 h7
        go_enter Tryz.func108,Tryz.ntmps108
        go_wp2_with fail
        go_ret
        exact ⟨by rw [HE.out];rfl,rfl⟩
       ·have HE:=zh (show r=false from by rw [HM.out];simp [h5,h6,h7])
        have e7:(v != b)=true:=by simpa using h7
        clear h5 h6 h7
        go_enter Tryz.func108,Tryz.ntmps108
        go_wp2_with fail
        go_ret
        exact ⟨by rw [HE.out];rfl,rfl⟩
     ·have HE:=zh (show r=true from by rw [HM.out];simp [h5];omega)
      have e5:(t == a)=false:=by simpa using h5
      clear h5
      go_enter Tryz.func108,Tryz.ntmps108
      go_wp2_with fail
      go_ret
      exact ⟨by rw [HE.out];rfl,rfl⟩
theorem dead_set {own:Nat→Prop} {gv dv ev:Value} {vs:List EV} (hJ:zBQ w1 j d pre own M gv dv ev vs) (x:Bool):zBQ (w1.setCell ⟨j,9,none⟩ (.bool x)) j d pre own { M with dead:=x } gv dv ev vs :=
 hJ.set (M':={ M with dead:=x }) (by have:=zAE hJ.cells 9 (.bool x);simpa using this) (fun k hk=>set_other _ hk) (by simp [World.setCell]) rfl rfl rfl ⟨hJ.ok.last,hJ.ok.term,hJ.ok.group,hJ.ok.now,hJ.ok.vote,hJ.ok.data,hJ.ok.ents⟩
theorem zCz (h:JouF w w1 j d pre D M F) (k:Nat) :
  Calls Tryz.prog 170 #[.pointer (some ⟨j,0,none⟩),.int .i64 (k:Int)] w1 fun e w'=>e=.returned (.int .i64 (k:Int))∧JouF w w' j d pre D { M with dead:=M.dead || decide (k≠0) } F∧Same F w1 w':=by
 obtain ⟨own,gv,dv,ev,vs,hJ,hS,hn,hl⟩:=h
 have c9:=hJ.c 9 rfl
 have hf:=hJ.fr 9
 have HE:=zh (fun x=>JouF.turned (D:=D) (F:=F) hS hn hl (dead_set hJ x) ((Chg.setCell w1 ⟨j,9,none⟩ (.bool x)).mono fun k _ e=>by rw [e];exact hJ.ol) fun _ h=>.inl h)
 clear hJ hS hn hl
 cases hd:M.dead with
 | true =>
  rw [hd] at c9
  go_enter Tryz.func170,Tryz.ntmps170
  go_wp2_with fail
  go_ret
  exact ⟨rfl,by simpa using HE.out true⟩
 | false =>
  rw [hd] at c9
  by_cases hk:k=0
  ·subst hk
   go_enter Tryz.func170,Tryz.ntmps170
   go_wp2_with fail
   go_ret
   exact ⟨rfl,by simpa using HE.out false⟩
  ·have hne:((k:Int) != 0)=true:=by simp;omega
   have Hk:=zh hk
   clear hk
   go_enter Tryz.func170,Tryz.ntmps170
   go_wp2_with fail
   go_ret
   exact ⟨rfl,by simpa [Hk.out] using HE.out true⟩
end
end Go.Proofs.YtapfnehdgailmaaGreat
