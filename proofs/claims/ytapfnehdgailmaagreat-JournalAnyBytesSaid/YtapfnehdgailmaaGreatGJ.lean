/- journal: slices.Clone of entries, rebase. (Printed by mkj14.py.) journal: goes. (Printed by mkj15.py.) -/
import Derived.Lib.SliceRun
import Derived.Test.YtapfnehdgailmaaGreatGI
set_option maxRecDepth 100000
set_option maxHeartbeats 64000000
namespace Go.Proofs.YtapfnehdgailmaaGreat
open Go.RowKit Go.Sat Go.Maps
theorem ecl_calls {w:World} {p:Option Addr} {n c:Nat} {cs:List Value} (h:zAL w 4 (.slice p n c) n cs) (h1:∀ u ∈ cs,u.oneCell'=true) (hn:n≤1099511627776) :
  Calls Tryz.prog 157 #[.slice p n c] w fun e w'=>∃ v,e=.returned v∧OwnR w' 50 4 v n cs∧(∀ k,v.ownBlock=some k→w.heap.size≤k)∧Below w.heap.size w w':=by
 obtain ⟨i4,hi4,hz40,hz41,hz42⟩:=info_parts (show (Tryz.prog.info? 50).map (fun i=>(i.zero,i.size,i.bytes))=some (some (.agg #[.int .i64 0,.int .i64 0,.slice none 0 0,.slice none 0 0]),4,64) by kernel_rfl)
 have q78:∀ (w:World) (a:Option Addr) (n c n' c':Nat),(binOp .eql 78 (.slice a n c) (.slice none n' c')).run Tryz.prog w=.ok (.bool a.isNone) w:=fun w a n c n' c'=>Lib.run_eql_slice_nil w _ _ a n c n' c' Tryz.underlying78
 cases p with
 | none =>
  obtain ⟨hl,p',c',e,h0,-⟩:=h
  have hn0:n=0:=by
   simp only [Value.slice.injEq] at e
   exact h0 e.1.symm
  subst hn0
  have hcs:cs=[]:=List.eq_nil_of_length_eq_zero (by simpa using hl)
  subst hcs
  go_enter Tryz.func157,Tryz.ntmps157
  go_wp2_with fail
  go_ret
  exact ⟨_,rfl,OwnR.nil _ _ _,fun k hk=>(by cases hk),Below.refl _ _⟩
 | some a =>
  have H:=zh h
  have H1:=zh h1
  clear h h1
  go_enter Tryz.func157,Tryz.ntmps157
  go_wp2_with (at_builtin;have hb:=zAi w (.cells #[] 50);have hal:OwnR (w.alloc (.cells #[] 50)) 50 4 (.slice (some ⟨w.heap.size,0,none⟩) 0 0) 0 []:=⟨rfl,.inr ⟨w.heap.size,0,#[],rfl,zAI w _,Nat.le_refl _,by decide,Nat.le_refl _,rfl⟩⟩;have hxx:=zAL.chg H.out (Chg.of_below hb) fun _ _=>id;refine zAP _ rfl (.tmp 5) (.tmp 6) 78 rfl 50 i4 (.agg #[.int .i64 0,.int .i64 0,.slice none 0 0,.slice none 0 0]) 4 64 Tryz.underlying78 hi4 hz40 hz41 hz42 rfl (by decide) _ 0 _ rfl hal _ n _ rfl hxx H1.out (by unfold maxLen;omega) (by omega) ?_;intro v3 w3 hown3 hgrow3 hloc3;go_loud (have HE:=zh (show OwnR w3 50 4 v3 n cs∧(∀ k,v3.ownBlock=some k→w.heap.size≤k)∧Below w.heap.size w w3 from ⟨by simpa using hown3,fun k hk=>(by { rcases hloc3 with e | ⟨g,e,hge⟩;rw [hk] at e;cases e;exact Nat.le_refl _;rw [hk] at e;cases e;exact Nat.le_trans hb.size hge }),(((Chg.of_below hb).trans (Chg.of_grown hgrow3) fun k hk e=>(by have e2:k=w.heap.size:=Option.some.inj e;omega):Chg (fun _=>False) w w3)).below (Nat.le_refl _) fun _ _ e=>e⟩);clear hb hal hxx hgrow3 hloc3;obtain ⟨p3,q3,rfl⟩:=OwnR.shape hown3;clear hown3))
  go_ret
  exact ⟨_,rfl,by have:=HE.out;rwa [Nat.zero_add] at this⟩
theorem add_zero' (g o i:Nat):(⟨g,o,none⟩:Addr).add i=⟨g,o+i,none⟩:=by unfold Addr.add;split <;> simp_all
theorem run_tail4 {P:Program} (w:World) {t e:TypeId} {i:TypeInfo} (ht:P.underlying t=some (.slice e)) (hi:P.info? e=some i) (p:Option Addr) (len cap k:Nat) (h:k≤len) (_h2:len≤cap) :
  (Instr.slice t (.slice p len cap) (some (.int .i64 (k:Int))) none none).run P w=.ok (.slice (if cap=k then p else p.map fun x=>x.add (k * i.size)) (len - k) (cap - k)) w:=by
 have h1:(Instr.sliceBound (.int .i64 (k:Int)) len .sliceB).run P w=.ok k w:=by
  rw [run_sliceBound _ _ _ _ _ (by omega) (by omega)]
  simp
 simp [Instr.slice,run_underlying ht,Instr.sliceBounds,h1,sizeOf,typeInfo,hi,Result.andThen]
theorem holds_drop {w:World} {e:TypeId} {p:Option Addr} {n c k:Nat} {xs:List Value} (h:OwnR w e 4 (.slice p n c) n xs) (hk:k≤n) :
  zAL w 4 (.slice (if c=k then p else p.map fun x=>x.add (k * 4)) (n - k) (c - k)) (n - k) (xs.drop (k * 4)):=by
 refine ⟨by rw [List.length_drop,h.1,Nat.sub_mul],_,_,rfl,fun e1=>?_,fun a ha i u hu=>?_⟩
 ·rcases h.2 with ⟨e2,hn⟩ | ⟨g,cap,cur,e2,hg,hnc,-⟩
  ·omega
  ·simp only [Value.slice.injEq] at e2
   obtain ⟨rfl,-,rfl⟩:=e2
   split at e1 <;> simp at e1
 ·have hi:=(List.getElem?_eq_some_iff.1 hu).1
  rw [List.length_drop,h.1] at hi
  rcases h.2 with ⟨e2,hn⟩ | ⟨g,cap,cur,e2,hg,hnc,-⟩
  ·omega
  ·simp only [Value.slice.injEq] at e2
   obtain ⟨rfl,-,rfl⟩:=e2
   rw [if_neg (by omega)] at ha
   simp only [Option.map_some,Option.some.injEq] at ha
   subst ha
   rw [add_zero,add_zero' g (k * 4) i]
   rw [List.getElem?_drop] at hu
   have:=h.cells (g:=g) rfl (k * 4+i) u hu
   rwa [add_zero] at this
theorem zEc:∀ (es:List Ent) (vs:List EV),(∀ v ∈ vs,v.1.oneCell'=true∧v.2.oneCell'=true)→∀ u ∈ zA1 es vs,u.oneCell'=true
 | [],vs,_,u,hu=>by rw [show zA1 [] vs=[] by cases vs <;> rfl] at hu;cases hu
 | _ :: _,[],_,u,hu=>by cases hu
 | e :: es,v :: vs,h,u,hu=>by
  have hv:=h v (by simp)
  rcases List.mem_append.1 (show u ∈ entC e v ++ zA1 es vs from hu) with hu | hu
  ·simp only [entC,List.mem_cons,List.not_mem_nil,or_false] at hu
   rcases hu with rfl | rfl | rfl | rfl
   ·rfl
   ·rfl
   ·exact hv.1
   ·exact hv.2
  ·exact zEc es vs (fun v hv=>h v (by simp [hv])) u hu
theorem zBQ.shape {w:World} {j d:Nat} {pre:ByteArray} {own:Nat→Prop} {M:JouM} {gv dv ev:Value} {vs:List EV} (h:zBQ w j d pre own M gv dv ev vs):∀ v ∈ vs,v.1.oneCell'=true∧v.2.oneCell'=true:=fun v hv=>by
 obtain ⟨i,hi⟩:=List.getElem?_of_mem hv
 have hl:=(List.getElem?_eq_some_iff.1 hi).1
 have he:=h.rows.2 i _ v (List.getElem?_eq_getElem (by rw [← h.rows.1];exact hl)) hi
 obtain ⟨p,c,e1,-⟩:=zAO he.data
 obtain ⟨q,c2,e2,-⟩:=zAl he.nodes
 rw [e1,e2]
 exact ⟨rfl,rfl⟩
theorem entsC_nil (vs:List EV):zA1 [] vs=[]:=by cases vs <;> rfl
structure Snap.OK (s:Snap):Prop where
 number:s.number≤1099511627776
 term:isTm s.term=true
 group:zAW s.group=true
 data:s.data.length≤1073741824
theorem termAt_le {M:JouM} {i:Nat} {t:Int} (h:M.termAt (i:Int)=some t):i≤M.last:=by
 unfold JouM.termAt at h
 unfold JouM.last
 split at h
 ·omega
 ·split at h
  ·cases h
  ·cases he:M.entries[((i:Int) - (M.number:Int) - 1).toNat]? with
   | none=>rw [he] at h;cases h
   | some e =>
    have:=(List.getElem?_eq_some_iff.1 he).1
    omega
theorem rebase_ok {M:JouM} {s:Snap} (h:M.OK) (hs:s.OK):(M.rebase s).OK:=by
 have hl:=h.last
 refine ⟨?_,hs.term,hs.group,h.now,h.vote,hs.data,fun e he=>?_⟩
 ·show s.number+(if M.number < s.number∧M.termAt s.number=some s.term then M.entries.drop (s.number - M.number) else []).length≤_
  split
  ·rename_i hc
   have:=termAt_le hc.2
   unfold JouM.last at this hl
   rw [List.length_drop]
   omega
  ·have:=hs.number
   simpa using this
 ·have he:e ∈ (if M.number < s.number∧M.termAt s.number=some s.term then M.entries.drop (s.number - M.number) else []):=he
  split at he
  ·exact h.ents e (List.mem_of_mem_drop he)
  ·cases he
section
variable {w w1 w2:World} {j d:Nat} {pre:ByteArray} {D:zAB} {M:JouM} {F F2:Nat→Prop}
theorem JouF.turned2 {own own':Nat→Prop} {M':JouM} {gv' dv' ev':Value} {vs':List EV} (hS:St w w1 d D (fun k=>own k∨F k)) (hn:∀ k,own k→w.heap.size≤k∧¬ F k) (hl:∀ k,F k→k < w1.heap.size)
  (hL':zBQ w2 j d pre own' M' gv' dv' ev' vs') (hc:Chg own w1 w2) (hx:∀ k,own' k→own k∨w1.heap.size≤k∨(F k∧w.heap.size≤k)) (hF2:∀ k,F2 k→F k∧¬ own' k):JouF w w2 j d pre D M' F2∧Same F2 w1 w2:=by
 refine ⟨⟨own',gv',dv',ev',vs',hL',hS.move hc (fun k _ hk=>⟨.inl hk,(hn k hk).1⟩) (fun k hk=>?_),fun k hk=>⟨?_,fun hf=>(hF2 k hf).2 hk⟩,fun k hk=>Nat.lt_of_lt_of_le (hl k (hF2 k hk).1) hc.size⟩,fun k hk=>hc.block k (hl k (hF2 k hk).1) fun ho=>(hn k ho).2 (hF2 k hk).1⟩
 ·rcases hk with hk | hk
  ·refine ⟨?_,hL'.olt k hk⟩
   rcases hx k hk with h | h | h
   ·exact .inl (.inl h)
   ·exact .inr h
   ·exact .inl (.inr h.1)
  ·exact ⟨.inl (.inr (hF2 k hk).1),Nat.lt_of_lt_of_le (hl k (hF2 k hk).1) hc.size⟩
 ·rcases hx k hk with h | h | h
  ·exact (hn k h).1
  ·exact Nat.le_trans hS.below.size h
  ·exact h.2
theorem jouIn_base {own:Nat→Prop} {gv dv ev:Value} {vs:List EV} {s:Snap} {gn dn en:Value} {k:Nat} {es:List Ent} (hJ:zBQ w1 j d pre own M gv dv ev vs) (_hs:s.OK) (hg:OwnI w1 gn s.group) (hd:OwnB w1 5 dn s.data) (hge:∀ x,gn.ownBlock=some x∨dn.ownBlock=some x→¬ own x)
  (hes:es=M.entries.drop k) (hb:Below w1.heap.size w1 w2) (he:OwnR w2 50 4 en es.length (zA1 es (vs.drop k))) (hen:∀ x,en.ownBlock=some x→w1.heap.size≤x) (hok:(JouM.mk s.number s.term s.group M.now M.vote s.data es M.dead).OK) :
  zBQ (((((w2.setCell ⟨j,0,none⟩ (.int .i64 (s.number:Int))).setCell ⟨j,1,none⟩ (.int .i64 s.term)).setCell ⟨j,2,none⟩ gn).setCell ⟨j,7,none⟩ dn).setCell ⟨j,8,none⟩ en) j d pre (fun x=>own x∨(gn.ownBlock=some x∨dn.ownBlock=some x)∨en.ownBlock=some x) (JouM.mk s.number s.term s.group M.now M.vote s.data es M.dead) gn dn en (vs.drop k) ∧
  Chg own w1 (((((w2.setCell ⟨j,0,none⟩ (.int .i64 (s.number:Int))).setCell ⟨j,1,none⟩ (.int .i64 s.term)).setCell ⟨j,2,none⟩ gn).setCell ⟨j,7,none⟩ dn).setCell ⟨j,8,none⟩ en):=by
 have hsz:=hb.size
 have hjl:=hJ.olt j hJ.ol
 have hC:Chg (fun x=>x=j) w2 (((((w2.setCell ⟨j,0,none⟩ (.int .i64 (s.number:Int))).setCell ⟨j,1,none⟩ (.int .i64 s.term)).setCell ⟨j,2,none⟩ gn).setCell ⟨j,7,none⟩ dn).setCell ⟨j,8,none⟩ en) :=
  ((((Chg.setCell w2 ⟨j,0,none⟩ _).trans (Chg.setCell _ ⟨j,1,none⟩ _) fun _ _ e=>e).trans (Chg.setCell _ ⟨j,2,none⟩ _) fun _ _ e=>e).trans (Chg.setCell _ ⟨j,7,none⟩ _) fun _ _ e=>e).trans (Chg.setCell _ ⟨j,8,none⟩ _) fun _ _ e=>e
 have hcell:(((((w2.setCell ⟨j,0,none⟩ (.int .i64 (s.number:Int))).setCell ⟨j,1,none⟩ (.int .i64 s.term)).setCell ⟨j,2,none⟩ gn).setCell ⟨j,7,none⟩ dn).setCell ⟨j,8,none⟩ en).heap[j]?=some (.cells #[.int .i64 (s.number:Int),.int .i64 s.term,gn,.pointer (some ⟨d,0,none⟩),.string pre,.int .i64 M.now,.int .i64 M.vote,dn,en,.bool M.dead] 132 (0,0)):=by
  have h1:=zAE ((hb.block j hjl).trans hJ.cells) 0 (.int .i64 (s.number:Int))
  have h2:=zAE h1 1 (.int .i64 s.term)
  have h3:=zAE h2 2 gn
  have h4:=zAE h3 7 dn
  have h5:=zAE h4 8 en
  simpa using h5
 generalize ((((w2.setCell ⟨j,0,none⟩ (.int .i64 (s.number:Int))).setCell ⟨j,1,none⟩ (.int .i64 s.term)).setCell ⟨j,2,none⟩ gn).setCell ⟨j,7,none⟩ dn).setCell ⟨j,8,none⟩ en=W at *
 have hk:∀ x,x < w1.heap.size→x≠j→W.heap[x]?=w1.heap[x]?:=fun x hx hne=>(hC.block x (by omega) hne).trans (hb.block x hx)
 have hgj:∀ x,gn.ownBlock=some x∨dn.ownBlock=some x→x≠j:=fun x hx e=>hge x hx (e ▸ hJ.ol)
 have hgl:∀ x,gn.ownBlock=some x∨dn.ownBlock=some x→x < w1.heap.size:=fun x hx=>hx.elim (OwnR.lt hg) (OwnR.lt hd)
 have hmem:∀ u ∈ vs.drop k,u ∈ vs:=fun u hu=>List.mem_of_mem_drop hu
 refine ⟨⟨hcell,OwnR.keep hg fun x hx=>hk x (hgl x (.inl hx)) (hgj x (.inl hx)),OwnR.keep hd fun x hx=>hk x (hgl x (.inr hx)) (hgj x (.inr hx)),he.keep fun x hx=>hC.block x (he.lt hx) fun e=>by have:=hen x hx;omega,⟨by show _=es.length;rw [hes,List.length_drop,List.length_drop,hJ.rows.1],fun i e v h1 h2=>?_⟩,.inl hJ.ol,fun x hx=>⟨.inr (.inl (.inl hx)),hgj x (.inl hx),fun e=>by have h1:=hen x e;have h2:=hgl x (.inl hx);omega⟩,fun x hx=>⟨.inr (.inl (.inr hx)),hgj x (.inr hx),fun e=>by have h1:=hen x e;have h2:=hgl x (.inr hx);omega⟩,fun x hx=>⟨.inr (.inr hx),fun e=>by have:=hen x hx;omega⟩,fun u hu x hx=>?_,fun x hx=>?_,hJ.psz,hok⟩,?_⟩
 ·have h1':M.entries[k+i]?=some e:=by
   have h1:es[i]?=some e:=h1
   rw [hes,List.getElem?_drop] at h1
   exact h1
  have h2':vs[k+i]?=some v:=by rw [List.getElem?_drop] at h2;exact h2
  have hv:=hmem v (List.mem_of_getElem? h2)
  exact (hJ.rows.2 _ e v h1' h2').keep fun x hx=>hk x (hJ.olt x (hJ.ov v hv x hx).1) (hJ.ov v hv x hx).2.1
 ·have h3:=hJ.ov u (hmem u hu) x hx
  exact ⟨.inl h3.1,h3.2.1,fun e=>by have h1:=hen x e;have h2:=hJ.olt x h3.1;omega⟩
 ·have hCs:=hC.size
  rcases hx with hx | hx | hx
  ·have:=hJ.olt x hx
   omega
  ·have:=hgl x hx
   omega
  ·have:=he.lt hx
   omega
 ·exact ((Chg.of_below hb).mono (T:=own) fun _ _ e=>e.elim).trans hC fun x _ e=>by rw [e];exact hJ.ol
theorem zEl (h:JouF w w1 j d pre D M F) {s:Snap} (hs:s.OK) {pg pd:Option Addr} {cg cd:Nat} (hg:OwnI w1 (.slice pg s.group.length cg) s.group) (hd:OwnB w1 5 (.slice pd s.data.length cd) s.data)
  (hF:∀ k,(Value.slice pg s.group.length cg).ownBlock=some k∨(Value.slice pd s.data.length cd).ownBlock=some k→F k∧w.heap.size≤k)
  (hF2:∀ k,F2 k→F k∧(Value.slice pg s.group.length cg).ownBlock≠some k∧(Value.slice pd s.data.length cd).ownBlock≠some k) :
  Calls Tryz.prog 79 #[.pointer (some ⟨j,0,none⟩),.agg #[.int .i64 (s.number:Int),.int .i64 s.term,.slice pg s.group.length cg],.slice pd s.data.length cd] w1 fun e w'=>e=.returned (.tuple #[])∧JouF w w' j d pre D (M.rebase s) F2∧Same F2 w1 w':=by
 obtain ⟨i0,hii,-,hi4s,-⟩:=info_parts (show (Tryz.prog.info? 50).map (fun i=>(i.zero,i.size,i.bytes))=some (some (.agg #[.int .i64 0,.int .i64 0,.slice none 0 0,.slice none 0 0]),4,64) by kernel_rfl)
 have hsn:=hs.number
 have hsl:=hs.data
 have hsg:=(grp_len hs.group).2
 have hlast:=h.okM.last
 have hbx:=zAD w1 (.cells #[.int .i64 (s.number:Int),.int .i64 s.term,.slice pg s.group.length cg] 130)
 have Hta:=zh (zDS (h.next hbx) (s.number:Int) (by omega))
 obtain ⟨own,gv,dv,ev,vs,hJ,hS,hn,hl⟩:=id h
 obtain ⟨pe,ce,rfl⟩:=hJ.row.shape
 have c0:=zA4 (hJ.c 0 rfl) (.cells #[.int .i64 (s.number:Int),.int .i64 s.term,.slice pg s.group.length cg] 130)
 have c8:=zA4 (hJ.c 8 rfl) (.cells #[.int .i64 (s.number:Int),.int .i64 s.term,.slice pg s.group.length cg] 130)
 have hce:M.entries.length≤ce:=by
  rcases hJ.row.2 with ⟨e1,e2⟩ | ⟨g,cap,cur,e1,-,e3,-⟩
  ·rw [e2];exact Nat.zero_le _
  ·simp only [Value.slice.injEq] at e1;omega
 have HJlt:=zh (hJ.olt j hJ.ol)
 have HJne:=zh (show w1.heap.size≠(⟨j,0,none⟩:Addr).block from fun e=>by have:=hJ.olt j hJ.ol;have e2:w1.heap.size=j:=e;omega)
 have HJc:=zh hJ.cells
 have HFin0:=zh (fun (k:Nat) (es:List Ent) (hes:es=M.entries.drop k) (hst:M.rebase s=JouM.mk s.number s.term s.group M.now M.vote s.data es M.dead) (wq:World) (en:Value) (hb:Below w1.heap.size w1 wq) (hen:OwnR wq 50 4 en es.length (zA1 es (vs.drop k))) (henn:∀ x,en.ownBlock=some x→w1.heap.size≤x)=>show JouF w (((((wq.setCell ⟨j,0,none⟩ (.int .i64 (s.number:Int))).setCell ⟨j,1,none⟩ (.int .i64 s.term)).setCell ⟨j,2,none⟩ (.slice pg s.group.length cg)).setCell ⟨j,7,none⟩ (.slice pd s.data.length cd)).setCell ⟨j,8,none⟩ en) j d pre D (M.rebase s) F2∧Same F2 w1 (((((wq.setCell ⟨j,0,none⟩ (.int .i64 (s.number:Int))).setCell ⟨j,1,none⟩ (.int .i64 s.term)).setCell ⟨j,2,none⟩ (.slice pg s.group.length cg)).setCell ⟨j,7,none⟩ (.slice pd s.data.length cd)).setCell ⟨j,8,none⟩ en) from by
  have hro:=rebase_ok hJ.ok hs
  rw [hst] at hro ⊢
  obtain ⟨hA,hB⟩:=jouIn_base hJ hs hg hd (fun x hx ho=>(hn x ho).2 (hF x hx).1) hes hb hen henn hro
  refine JouF.turned2 hS hn hl hA hB (fun x hx=>?_) fun x hx=>⟨(hF2 x hx).1,fun ho=>?_⟩
  ·rcases hx with hx | hx | hx
   ·exact .inl hx
   ·exact .inr (.inr (hF x hx))
   ·exact .inr (.inl (henn x hx))
  ·rcases ho with ho | ho | ho
   ·exact (hn x ho).2 (hF2 x hx).1
   ·exact ho.elim (hF2 x hx).2.1 (hF2 x hx).2.2
   ·have h1:=henn x ho
    have h2:=hl x (hF2 x hx).1
    omega)
 have Hbase:=zh (zAI w1 (.cells #[.int .i64 (s.number:Int),.int .i64 s.term,.slice pg s.group.length cg] 130))
 have HBB:=zh hbx
 have hrow:=hJ.row
 cases hta:M.termAt (s.number:Int) with
 | none =>
  have hnc:¬ (M.number < s.number∧M.termAt (s.number:Int)=some s.term):=fun e=>by rw [hta] at e;cases e.2
  have hst:M.rebase s=JouM.mk s.number s.term s.group M.now M.vote s.data [] M.dead:=by
   unfold JouM.rebase
   rw [if_neg hnc]
  have HFin:=zh (fun wq en (hb:Below w1.heap.size w1 wq) (hen:OwnR wq 50 4 en 0 []) henn=>HFin0.out M.entries.length [] (by rw [List.drop_length]) hst wq en hb (by rw [entsC_nil];exact hen) henn)
  have Hcl:=zh (fun W (_:Below w1.heap.size w1 W)=>ecl_calls (w:=W) (p:=none) (n:=0) (c:=0) (cs:=[]) ⟨rfl,none,0,rfl,fun _=>rfl,fun a ha=>by cases ha⟩ (fun u hu=>by cases hu) (by decide))
  rw [hta] at Hta
  clear h hs hg hd hF hF2 hJ hS hn hl hrow hta hnc hst HFin0 hbx hce
  go_enter Tryz.func79,Tryz.ntmps79
  go_wp2_with fail
  refine Hta.out.mono ?_
  rintro r w2 ⟨rfl,q,rfl⟩
  have c0:((w1.alloc (.cells #[.int .i64 (s.number:Int),.int .i64 s.term,.slice pg s.group.length cg] 130)).drewN q).cell? ⟨j,0,none⟩=some (.int .i64 (M.number:Int)):=c0
  have c8:((w1.alloc (.cells #[.int .i64 (s.number:Int),.int .i64 s.term,.slice pg s.group.length cg] 130)).drewN q).cell? ⟨j,8,none⟩=some (.slice pe M.entries.length ce):=c8
  have z0:((w1.alloc (.cells #[.int .i64 (s.number:Int),.int .i64 s.term,.slice pg s.group.length cg] 130)).drewN q).cell? ⟨w1.heap.size,0,none⟩=some (.int .i64 (s.number:Int)):=zAA (Hbase.out) (i:=0) rfl
  have z1:((w1.alloc (.cells #[.int .i64 (s.number:Int),.int .i64 s.term,.slice pg s.group.length cg] 130)).drewN q).cell? ⟨w1.heap.size,1,none⟩=some (.int .i64 s.term):=zAA (Hbase.out) (i:=1) rfl
  go_wp2_with fail
  go_quiet (fail)
  go_wp2_with fail
  generalize hWQ:(World.drewN _ _)=WQ
  have HBq:=zh (show Below w1.heap.size w1 WQ from by rw [← hWQ];exact HBB.out.trans ⟨rfl,rfl,rfl,by simp [World.drewN],fun _ _=>rfl⟩)
  have Hbox:=zh (show WQ.drew.heap[w1.heap.size]?=some (.cells #[.int .i64 (s.number:Int),.int .i64 s.term,.slice pg s.group.length cg] 130 (0,0)) from by rw [← hWQ];exact Hbase.out)
  clear hWQ c0 c8 z0 z1
  refine zAT (fun w':World=>w'.heap[w1.heap.size]?=some (.cells #[.int .i64 (s.number:Int),.int .i64 s.term,.slice pg s.group.length cg] 130 (0,0))) (n:=16) (by kernel_rfl) rfl (Hbox.out) (fun hHeld=>?_)
  have HBd:=zh (show Below w1.heap.size w1 WQ.drew from HBq.out.trans ⟨rfl,rfl,rfl,Nat.le_refl _,fun _ _=>rfl⟩)
  generalize WQ.drew=W1 at *
  refine otk 0 (v:=?v21x0) rfl ?_
  simp only [Act.put,uA,uB,uC]
  refine otk 1 (v:=?v21x1) rfl ?_
  simp only [Act.put,uA,uB,uC]
  refine otk 2 (v:=?v21x2) rfl ?_
  simp only [Act.put,uA,uB,uC]
  refine otc 3 (v:=.agg #[.int .i64 (s.number:Int),.int .i64 s.term,.slice pg s.group.length cg]) rfl (fun W hSw=>by have q0:=zAA hSw (i:=0) rfl;have q1:=zAA hSw (i:=1) rfl;have q2:=zAA hSw (i:=2) rfl;go_simp;try with_reducible rfl) ?_
  simp only [Act.put,uA,uB,uC]
  refine otk 4 (v:=?v21x4) rfl ?_
  simp only [Act.put,uA,uB,uC]
  refine otk 5 (v:=?v21x5) rfl ?_
  simp only [Act.put,uA,uB,uC]
  refine zAG 6 rfl (by kernel_rfl) (by rfl) (fun K hK=>?_)
  go_wp2_with fail
  refine (Hcl.out W1 HBd.out).mono ?_
  rintro e wq ⟨en,rfl,hen,henn,hbq⟩
  have HB5:=zh (HBd.out.trans (hbq.mono HBd.out.size))
  have Hh5:=zh ((hbq.block _ (zAC hHeld)).trans hHeld)
  have HFn:=zh (HFin.out wq en HB5.out hen (fun x hx=>Nat.le_trans HBd.out.size (henn x hx)))
  have Hjc:=zh ((HB5.out.block j HJlt.out).trans HJc.out)
  obtain ⟨pn,qn,rfl⟩:=OwnR.shape hen
  clear hen henn hbq Hcl HFin
  go_wp2_with fail
  refine hK.out _ _ (Hh5.out) (fun hHeld=>?_)
  clear hK
  try simp only [Act.put,uA,uB,uC]
  refine otk 7 (v:=?v21x7) rfl ?_
  simp only [Act.put,uA,uB,uC]
  refine otk 8 (v:=?v21x8) rfl ?_
  simp only [Act.put,uA,uB,uC]
  refine zAG 9 rfl (by kernel_rfl) (by rfl) (fun K hK=>?_)
  have b0:=zAA Hjc.out (i:=0) rfl
  have b1:=zAA Hjc.out (i:=1) rfl
  have b2:=zAA Hjc.out (i:=2) rfl
  have fr:=zAF Hjc.out
  have Hh6:=zh (show (((wq.setCell ⟨j,0,none⟩ (.int .i64 (s.number:Int))).setCell ⟨j,1,none⟩ (.int .i64 s.term)).setCell ⟨j,2,none⟩ (.slice pg s.group.length cg)).heap[w1.heap.size]?=some (.cells #[.int .i64 (s.number:Int),.int .i64 s.term,.slice pg s.group.length cg] 130 (0,0)) from (set_other _ HJne.out).trans ((set_other _ HJne.out).trans ((set_other _ HJne.out).trans hHeld)))
  have Hj6:=zh (zAE (zAE (zAE Hjc.out 0 (.int .i64 (s.number:Int))) 1 (.int .i64 s.term)) 2 (.slice pg s.group.length cg))
  go_wp2_with fail
  clear b0 b1 b2 fr
  refine hK.out _ _ (Hh6.out) (fun hHeld=>?_)
  clear hK
  try simp only [Act.put,uA,uB,uC]
  refine otk 10 (v:=?v21x10) rfl ?_
  simp only [Act.put,uA,uB,uC]
  refine otk 11 (v:=?v21x11) rfl ?_
  simp only [Act.put,uA,uB,uC]
  refine zAG 12 rfl (by kernel_rfl) (by rfl) (fun K hK=>?_)
  have b7:=zAA Hj6.out (i:=7) rfl
  have f7:=zAF Hj6.out 7
  have Hh7:=zh (show ((((wq.setCell ⟨j,0,none⟩ (.int .i64 (s.number:Int))).setCell ⟨j,1,none⟩ (.int .i64 s.term)).setCell ⟨j,2,none⟩ (.slice pg s.group.length cg)).setCell ⟨j,7,none⟩ (.slice pd s.data.length cd)).heap[w1.heap.size]?=some (.cells #[.int .i64 (s.number:Int),.int .i64 s.term,.slice pg s.group.length cg] 130 (0,0)) from (set_other _ HJne.out).trans hHeld)
  have Hj7:=zh (zAE Hj6.out 7 (.slice pd s.data.length cd))
  go_wp2_with fail
  clear b7 f7
  refine hK.out _ _ (Hh7.out) (fun hHeld=>?_)
  clear hK
  try simp only [Act.put,uA,uB,uC]
  refine otk 13 (v:=?v21x13) rfl ?_
  simp only [Act.put,uA,uB,uC]
  refine otk 14 (v:=?v21x14) rfl ?_
  simp only [Act.put,uA,uB,uC]
  refine zAG 15 rfl (by kernel_rfl) (by rfl) (fun K hK=>?_)
  have b8:=zAA Hj7.out (i:=8) rfl
  have f8:=zAF Hj7.out 8
  have Hh8:=zh (fun x=>(show (((((wq.setCell ⟨j,0,none⟩ (.int .i64 (s.number:Int))).setCell ⟨j,1,none⟩ (.int .i64 s.term)).setCell ⟨j,2,none⟩ (.slice pg s.group.length cg)).setCell ⟨j,7,none⟩ (.slice pd s.data.length cd)).setCell ⟨j,8,none⟩ x).heap[w1.heap.size]?=some (.cells #[.int .i64 (s.number:Int),.int .i64 s.term,.slice pg s.group.length cg] 130 (0,0)) from (set_other _ HJne.out).trans hHeld))
  go_wp2_with fail
  clear b8 f8
  refine hK.out _ _ (Hh8.out _) (fun hHeld=>?_)
  clear hK
  try simp only [Act.put,uA,uB,uC]
  refine wpAnyH_done (by kernel_rfl) ?_ _
  go_wp2_with fail
  go_end0
  exact ⟨rfl,HFn.out⟩
 | some t =>
  by_cases hcs:M.number < s.number∧t=s.term
  ·obtain ⟨hlt,rfl⟩:=hcs
   have hle:=termAt_le hta
   unfold JouM.last at hle hlast
   have hst:M.rebase s=JouM.mk s.number s.term s.group M.now M.vote s.data (M.entries.drop (s.number - M.number)) M.dead:=by
    unfold JouM.rebase
    rw [if_pos ⟨hlt,hta⟩]
   generalize hk:s.number - M.number=k at *
   have hkl:k≤M.entries.length:=by omega
   have HFin:=zh (fun wq en (hb:Below w1.heap.size w1 wq) (hen:OwnR wq 50 4 en (M.entries.length - k) ((zA1 M.entries vs).drop (k * 4))) henn=>HFin0.out k _ rfl hst wq en hb (by rw [List.length_drop,entsC_drop _ _ _ hJ.rows.1];exact hen) henn)
   have hhd:=holds_drop hrow hkl
   have Hcl:=zh (fun W (hb:Below w1.heap.size w1 W)=>ecl_calls (zAL.chg hhd (Chg.of_below hb) fun _ _=>id) (fun u hu=>zEc _ _ (fun v hv=>hJ.shape v hv) u (List.mem_of_mem_drop hu)) (by omega))
   have hsl4:∀ W,(Instr.slice 78 (.slice pe M.entries.length ce) (some (.int .i64 (k:Int))) none none).run Tryz.prog W=.ok (.slice (if ce=k then pe else pe.map fun x=>x.add (k * 4)) (M.entries.length - k) (ce - k)) W:=fun W=>by
    have:=run_tail4 (P:=Tryz.prog) W Tryz.underlying78 hii pe M.entries.length ce k hkl hce
    rwa [hi4s] at this
   have hw4:IntKind.i64.wrap ((s.number:Int) - (M.number:Int))=(k:Int):=by rw [IntWalk.i64_in _ (by omega)];omega
   have hd1:decide (M.number < s.number)=true:=by simpa using hlt
   have hd2:decide ((M.number:Int) < (s.number:Int))=true:=by simp;omega
   rw [hta] at Hta
   clear h hs hg hd hF hF2 hJ hS hn hl hrow hta hst HFin0 hbx hce hle hk hhd hlast
   generalize (if ce=k then pe else pe.map fun x=>x.add (k * 4))=pk at *
   go_enter Tryz.func79,Tryz.ntmps79
   go_wp2_with fail
   refine Hta.out.mono ?_
   rintro r w2 ⟨rfl,q,rfl⟩
   have c0:((w1.alloc (.cells #[.int .i64 (s.number:Int),.int .i64 s.term,.slice pg s.group.length cg] 130)).drewN q).cell? ⟨j,0,none⟩=some (.int .i64 (M.number:Int)):=c0
   have c8:((w1.alloc (.cells #[.int .i64 (s.number:Int),.int .i64 s.term,.slice pg s.group.length cg] 130)).drewN q).cell? ⟨j,8,none⟩=some (.slice pe M.entries.length ce):=c8
   have z0:((w1.alloc (.cells #[.int .i64 (s.number:Int),.int .i64 s.term,.slice pg s.group.length cg] 130)).drewN q).cell? ⟨w1.heap.size,0,none⟩=some (.int .i64 (s.number:Int)):=zAA (Hbase.out) (i:=0) rfl
   have z1:((w1.alloc (.cells #[.int .i64 (s.number:Int),.int .i64 s.term,.slice pg s.group.length cg] 130)).drewN q).cell? ⟨w1.heap.size,1,none⟩=some (.int .i64 s.term):=zAA (Hbase.out) (i:=1) rfl
   go_wp2_with fail
   go_quiet (fail)
   go_wp2_with fail
   go_quiet (fail)
   go_wp2_with fail
   generalize hWQ:(World.drewN _ _)=WQ
   have HBq:=zh (show Below w1.heap.size w1 WQ from by rw [← hWQ];exact HBB.out.trans ⟨rfl,rfl,rfl,by simp [World.drewN],fun _ _=>rfl⟩)
   have Hbox:=zh (show WQ.drew.heap[w1.heap.size]?=some (.cells #[.int .i64 (s.number:Int),.int .i64 s.term,.slice pg s.group.length cg] 130 (0,0)) from by rw [← hWQ];exact Hbase.out)
   clear hWQ c0 c8 z0 z1
   refine zAT (fun w':World=>w'.heap[w1.heap.size]?=some (.cells #[.int .i64 (s.number:Int),.int .i64 s.term,.slice pg s.group.length cg] 130 (0,0))) (n:=16) (by kernel_rfl) rfl (Hbox.out) (fun hHeld=>?_)
   have HBd:=zh (show Below w1.heap.size w1 WQ.drew from HBq.out.trans ⟨rfl,rfl,rfl,Nat.le_refl _,fun _ _=>rfl⟩)
   generalize WQ.drew=W1 at *
   refine otk 0 (v:=?v22x0) rfl ?_
   simp only [Act.put,uA,uB,uC]
   refine otk 1 (v:=?v22x1) rfl ?_
   simp only [Act.put,uA,uB,uC]
   refine otk 2 (v:=?v22x2) rfl ?_
   simp only [Act.put,uA,uB,uC]
   refine otc 3 (v:=.agg #[.int .i64 (s.number:Int),.int .i64 s.term,.slice pg s.group.length cg]) rfl (fun W hSw=>by have q0:=zAA hSw (i:=0) rfl;have q1:=zAA hSw (i:=1) rfl;have q2:=zAA hSw (i:=2) rfl;go_simp;try with_reducible rfl) ?_
   simp only [Act.put,uA,uB,uC]
   refine otk 4 (v:=?v22x4) rfl ?_
   simp only [Act.put,uA,uB,uC]
   refine otk 5 (v:=?v22x5) rfl ?_
   simp only [Act.put,uA,uB,uC]
   refine zAG 6 rfl (by kernel_rfl) (by rfl) (fun K hK=>?_)
   go_wp2_with fail
   refine (Hcl.out W1 HBd.out).mono ?_
   rintro e wq ⟨en,rfl,hen,henn,hbq⟩
   have HB5:=zh (HBd.out.trans (hbq.mono HBd.out.size))
   have Hh5:=zh ((hbq.block _ (zAC hHeld)).trans hHeld)
   have HFn:=zh (HFin.out wq en HB5.out hen (fun x hx=>Nat.le_trans HBd.out.size (henn x hx)))
   have Hjc:=zh ((HB5.out.block j HJlt.out).trans HJc.out)
   obtain ⟨pn,qn,rfl⟩:=OwnR.shape hen
   clear hen henn hbq Hcl HFin
   go_wp2_with fail
   refine hK.out _ _ (Hh5.out) (fun hHeld=>?_)
   clear hK
   try simp only [Act.put,uA,uB,uC]
   refine otk 7 (v:=?v22x7) rfl ?_
   simp only [Act.put,uA,uB,uC]
   refine otk 8 (v:=?v22x8) rfl ?_
   simp only [Act.put,uA,uB,uC]
   refine zAG 9 rfl (by kernel_rfl) (by rfl) (fun K hK=>?_)
   have b0:=zAA Hjc.out (i:=0) rfl
   have b1:=zAA Hjc.out (i:=1) rfl
   have b2:=zAA Hjc.out (i:=2) rfl
   have fr:=zAF Hjc.out
   have Hh6:=zh (show (((wq.setCell ⟨j,0,none⟩ (.int .i64 (s.number:Int))).setCell ⟨j,1,none⟩ (.int .i64 s.term)).setCell ⟨j,2,none⟩ (.slice pg s.group.length cg)).heap[w1.heap.size]?=some (.cells #[.int .i64 (s.number:Int),.int .i64 s.term,.slice pg s.group.length cg] 130 (0,0)) from (set_other _ HJne.out).trans ((set_other _ HJne.out).trans ((set_other _ HJne.out).trans hHeld)))
   have Hj6:=zh (zAE (zAE (zAE Hjc.out 0 (.int .i64 (s.number:Int))) 1 (.int .i64 s.term)) 2 (.slice pg s.group.length cg))
   go_wp2_with fail
   clear b0 b1 b2 fr
   refine hK.out _ _ (Hh6.out) (fun hHeld=>?_)
   clear hK
   try simp only [Act.put,uA,uB,uC]
   refine otk 10 (v:=?v22x10) rfl ?_
   simp only [Act.put,uA,uB,uC]
   refine otk 11 (v:=?v22x11) rfl ?_
   simp only [Act.put,uA,uB,uC]
   refine zAG 12 rfl (by kernel_rfl) (by rfl) (fun K hK=>?_)
   have b7:=zAA Hj6.out (i:=7) rfl
   have f7:=zAF Hj6.out 7
   have Hh7:=zh (show ((((wq.setCell ⟨j,0,none⟩ (.int .i64 (s.number:Int))).setCell ⟨j,1,none⟩ (.int .i64 s.term)).setCell ⟨j,2,none⟩ (.slice pg s.group.length cg)).setCell ⟨j,7,none⟩ (.slice pd s.data.length cd)).heap[w1.heap.size]?=some (.cells #[.int .i64 (s.number:Int),.int .i64 s.term,.slice pg s.group.length cg] 130 (0,0)) from (set_other _ HJne.out).trans hHeld)
   have Hj7:=zh (zAE Hj6.out 7 (.slice pd s.data.length cd))
   go_wp2_with fail
   clear b7 f7
   refine hK.out _ _ (Hh7.out) (fun hHeld=>?_)
   clear hK
   try simp only [Act.put,uA,uB,uC]
   refine otk 13 (v:=?v22x13) rfl ?_
   simp only [Act.put,uA,uB,uC]
   refine otk 14 (v:=?v22x14) rfl ?_
   simp only [Act.put,uA,uB,uC]
   refine zAG 15 rfl (by kernel_rfl) (by rfl) (fun K hK=>?_)
   have b8:=zAA Hj7.out (i:=8) rfl
   have f8:=zAF Hj7.out 8
   have Hh8:=zh (fun x=>(show (((((wq.setCell ⟨j,0,none⟩ (.int .i64 (s.number:Int))).setCell ⟨j,1,none⟩ (.int .i64 s.term)).setCell ⟨j,2,none⟩ (.slice pg s.group.length cg)).setCell ⟨j,7,none⟩ (.slice pd s.data.length cd)).setCell ⟨j,8,none⟩ x).heap[w1.heap.size]?=some (.cells #[.int .i64 (s.number:Int),.int .i64 s.term,.slice pg s.group.length cg] 130 (0,0)) from (set_other _ HJne.out).trans hHeld))
   go_wp2_with fail
   clear b8 f8
   refine hK.out _ _ (Hh8.out _) (fun hHeld=>?_)
   clear hK
   try simp only [Act.put,uA,uB,uC]
   refine wpAnyH_done (by kernel_rfl) ?_ _
   go_wp2_with fail
   go_end0
   exact ⟨rfl,HFn.out⟩
  ·have hnc:¬ (M.number < s.number∧M.termAt (s.number:Int)=some s.term):=fun e=>hcs ⟨e.1,by have:=e.2;rw [hta] at this;exact Option.some.inj this⟩
   have hst:M.rebase s=JouM.mk s.number s.term s.group M.now M.vote s.data [] M.dead:=by
    unfold JouM.rebase
    rw [if_neg hnc]
   have HFin:=zh (fun wq en (hb:Below w1.heap.size w1 wq) (hen:OwnR wq 50 4 en 0 []) henn=>HFin0.out M.entries.length [] (by rw [List.drop_length]) hst wq en hb (by rw [entsC_nil];exact hen) henn)
   have Hcl:=zh (fun W (_:Below w1.heap.size w1 W)=>ecl_calls (w:=W) (p:=none) (n:=0) (c:=0) (cs:=[]) ⟨rfl,none,0,rfl,fun _=>rfl,fun a ha=>by cases ha⟩ (fun u hu=>by cases hu) (by decide))
   rw [hta] at Hta
   have hor:(t == s.term)=false∨(t == s.term)=true∧decide (M.number < s.number)=false∧decide ((M.number:Int) < (s.number:Int))=false:=by
    by_cases ht:t=s.term
    ·have hn2:¬ M.number < s.number:=fun e=>hcs ⟨e,ht⟩
     exact .inr ⟨by simpa using ht,by simpa using hn2,by simp;omega⟩
    ·exact .inl (by simpa using ht)
   clear h hs hg hd hF hF2 hJ hS hn hl hrow hta hnc hst HFin0 hbx hce hcs
   rcases hor with e0 | ⟨e0,e1,e2⟩
   ·skip
    go_enter Tryz.func79,Tryz.ntmps79
    go_wp2_with fail
    refine Hta.out.mono ?_
    rintro r w2 ⟨rfl,q,rfl⟩
    have c0:((w1.alloc (.cells #[.int .i64 (s.number:Int),.int .i64 s.term,.slice pg s.group.length cg] 130)).drewN q).cell? ⟨j,0,none⟩=some (.int .i64 (M.number:Int)):=c0
    have c8:((w1.alloc (.cells #[.int .i64 (s.number:Int),.int .i64 s.term,.slice pg s.group.length cg] 130)).drewN q).cell? ⟨j,8,none⟩=some (.slice pe M.entries.length ce):=c8
    have z0:((w1.alloc (.cells #[.int .i64 (s.number:Int),.int .i64 s.term,.slice pg s.group.length cg] 130)).drewN q).cell? ⟨w1.heap.size,0,none⟩=some (.int .i64 (s.number:Int)):=zAA (Hbase.out) (i:=0) rfl
    have z1:((w1.alloc (.cells #[.int .i64 (s.number:Int),.int .i64 s.term,.slice pg s.group.length cg] 130)).drewN q).cell? ⟨w1.heap.size,1,none⟩=some (.int .i64 s.term):=zAA (Hbase.out) (i:=1) rfl
    go_wp2_with fail
    go_quiet (fail)
    go_wp2_with fail
    generalize hWQ:(World.drewN _ _)=WQ
    have HBq:=zh (show Below w1.heap.size w1 WQ from by rw [← hWQ];exact HBB.out.trans ⟨rfl,rfl,rfl,by simp [World.drewN],fun _ _=>rfl⟩)
    have Hbox:=zh (show WQ.drew.heap[w1.heap.size]?=some (.cells #[.int .i64 (s.number:Int),.int .i64 s.term,.slice pg s.group.length cg] 130 (0,0)) from by rw [← hWQ];exact Hbase.out)
    clear hWQ c0 c8 z0 z1
    refine zAT (fun w':World=>w'.heap[w1.heap.size]?=some (.cells #[.int .i64 (s.number:Int),.int .i64 s.term,.slice pg s.group.length cg] 130 (0,0))) (n:=16) (by kernel_rfl) rfl (Hbox.out) (fun hHeld=>?_)
    have HBd:=zh (show Below w1.heap.size w1 WQ.drew from HBq.out.trans ⟨rfl,rfl,rfl,Nat.le_refl _,fun _ _=>rfl⟩)
    generalize WQ.drew=W1 at *
    refine otk 0 (v:=?v23x0) rfl ?_
    simp only [Act.put,uA,uB,uC]
    refine otk 1 (v:=?v23x1) rfl ?_
    simp only [Act.put,uA,uB,uC]
    refine otk 2 (v:=?v23x2) rfl ?_
    simp only [Act.put,uA,uB,uC]
    refine otc 3 (v:=.agg #[.int .i64 (s.number:Int),.int .i64 s.term,.slice pg s.group.length cg]) rfl (fun W hSw=>by have q0:=zAA hSw (i:=0) rfl;have q1:=zAA hSw (i:=1) rfl;have q2:=zAA hSw (i:=2) rfl;go_simp;try with_reducible rfl) ?_
    simp only [Act.put,uA,uB,uC]
    refine otk 4 (v:=?v23x4) rfl ?_
    simp only [Act.put,uA,uB,uC]
    refine otk 5 (v:=?v23x5) rfl ?_
    simp only [Act.put,uA,uB,uC]
    refine zAG 6 rfl (by kernel_rfl) (by rfl) (fun K hK=>?_)
    go_wp2_with fail
    refine (Hcl.out W1 HBd.out).mono ?_
    rintro e wq ⟨en,rfl,hen,henn,hbq⟩
    have HB5:=zh (HBd.out.trans (hbq.mono HBd.out.size))
    have Hh5:=zh ((hbq.block _ (zAC hHeld)).trans hHeld)
    have HFn:=zh (HFin.out wq en HB5.out hen (fun x hx=>Nat.le_trans HBd.out.size (henn x hx)))
    have Hjc:=zh ((HB5.out.block j HJlt.out).trans HJc.out)
    obtain ⟨pn,qn,rfl⟩:=OwnR.shape hen
    clear hen henn hbq Hcl HFin
    go_wp2_with fail
    refine hK.out _ _ (Hh5.out) (fun hHeld=>?_)
    clear hK
    try simp only [Act.put,uA,uB,uC]
    refine otk 7 (v:=?v23x7) rfl ?_
    simp only [Act.put,uA,uB,uC]
    refine otk 8 (v:=?v23x8) rfl ?_
    simp only [Act.put,uA,uB,uC]
    refine zAG 9 rfl (by kernel_rfl) (by rfl) (fun K hK=>?_)
    have b0:=zAA Hjc.out (i:=0) rfl
    have b1:=zAA Hjc.out (i:=1) rfl
    have b2:=zAA Hjc.out (i:=2) rfl
    have fr:=zAF Hjc.out
    have Hh6:=zh (show (((wq.setCell ⟨j,0,none⟩ (.int .i64 (s.number:Int))).setCell ⟨j,1,none⟩ (.int .i64 s.term)).setCell ⟨j,2,none⟩ (.slice pg s.group.length cg)).heap[w1.heap.size]?=some (.cells #[.int .i64 (s.number:Int),.int .i64 s.term,.slice pg s.group.length cg] 130 (0,0)) from (set_other _ HJne.out).trans ((set_other _ HJne.out).trans ((set_other _ HJne.out).trans hHeld)))
    have Hj6:=zh (zAE (zAE (zAE Hjc.out 0 (.int .i64 (s.number:Int))) 1 (.int .i64 s.term)) 2 (.slice pg s.group.length cg))
    go_wp2_with fail
    clear b0 b1 b2 fr
    refine hK.out _ _ (Hh6.out) (fun hHeld=>?_)
    clear hK
    try simp only [Act.put,uA,uB,uC]
    refine otk 10 (v:=?v23x10) rfl ?_
    simp only [Act.put,uA,uB,uC]
    refine otk 11 (v:=?v23x11) rfl ?_
    simp only [Act.put,uA,uB,uC]
    refine zAG 12 rfl (by kernel_rfl) (by rfl) (fun K hK=>?_)
    have b7:=zAA Hj6.out (i:=7) rfl
    have f7:=zAF Hj6.out 7
    have Hh7:=zh (show ((((wq.setCell ⟨j,0,none⟩ (.int .i64 (s.number:Int))).setCell ⟨j,1,none⟩ (.int .i64 s.term)).setCell ⟨j,2,none⟩ (.slice pg s.group.length cg)).setCell ⟨j,7,none⟩ (.slice pd s.data.length cd)).heap[w1.heap.size]?=some (.cells #[.int .i64 (s.number:Int),.int .i64 s.term,.slice pg s.group.length cg] 130 (0,0)) from (set_other _ HJne.out).trans hHeld)
    have Hj7:=zh (zAE Hj6.out 7 (.slice pd s.data.length cd))
    go_wp2_with fail
    clear b7 f7
    refine hK.out _ _ (Hh7.out) (fun hHeld=>?_)
    clear hK
    try simp only [Act.put,uA,uB,uC]
    refine otk 13 (v:=?v23x13) rfl ?_
    simp only [Act.put,uA,uB,uC]
    refine otk 14 (v:=?v23x14) rfl ?_
    simp only [Act.put,uA,uB,uC]
    refine zAG 15 rfl (by kernel_rfl) (by rfl) (fun K hK=>?_)
    have b8:=zAA Hj7.out (i:=8) rfl
    have f8:=zAF Hj7.out 8
    have Hh8:=zh (fun x=>(show (((((wq.setCell ⟨j,0,none⟩ (.int .i64 (s.number:Int))).setCell ⟨j,1,none⟩ (.int .i64 s.term)).setCell ⟨j,2,none⟩ (.slice pg s.group.length cg)).setCell ⟨j,7,none⟩ (.slice pd s.data.length cd)).setCell ⟨j,8,none⟩ x).heap[w1.heap.size]?=some (.cells #[.int .i64 (s.number:Int),.int .i64 s.term,.slice pg s.group.length cg] 130 (0,0)) from (set_other _ HJne.out).trans hHeld))
    go_wp2_with fail
    clear b8 f8
    refine hK.out _ _ (Hh8.out _) (fun hHeld=>?_)
    clear hK
    try simp only [Act.put,uA,uB,uC]
    refine wpAnyH_done (by kernel_rfl) ?_ _
    go_wp2_with fail
    go_end0
    exact ⟨rfl,HFn.out⟩
   ·skip
    go_enter Tryz.func79,Tryz.ntmps79
    go_wp2_with fail
    refine Hta.out.mono ?_
    rintro r w2 ⟨rfl,q,rfl⟩
    have c0:((w1.alloc (.cells #[.int .i64 (s.number:Int),.int .i64 s.term,.slice pg s.group.length cg] 130)).drewN q).cell? ⟨j,0,none⟩=some (.int .i64 (M.number:Int)):=c0
    have c8:((w1.alloc (.cells #[.int .i64 (s.number:Int),.int .i64 s.term,.slice pg s.group.length cg] 130)).drewN q).cell? ⟨j,8,none⟩=some (.slice pe M.entries.length ce):=c8
    have z0:((w1.alloc (.cells #[.int .i64 (s.number:Int),.int .i64 s.term,.slice pg s.group.length cg] 130)).drewN q).cell? ⟨w1.heap.size,0,none⟩=some (.int .i64 (s.number:Int)):=zAA (Hbase.out) (i:=0) rfl
    have z1:((w1.alloc (.cells #[.int .i64 (s.number:Int),.int .i64 s.term,.slice pg s.group.length cg] 130)).drewN q).cell? ⟨w1.heap.size,1,none⟩=some (.int .i64 s.term):=zAA (Hbase.out) (i:=1) rfl
    go_wp2_with fail
    go_quiet (fail)
    go_wp2_with fail
    generalize hWQ:(World.drewN _ _)=WQ
    have HBq:=zh (show Below w1.heap.size w1 WQ from by rw [← hWQ];exact HBB.out.trans ⟨rfl,rfl,rfl,by simp [World.drewN],fun _ _=>rfl⟩)
    have Hbox:=zh (show WQ.drew.heap[w1.heap.size]?=some (.cells #[.int .i64 (s.number:Int),.int .i64 s.term,.slice pg s.group.length cg] 130 (0,0)) from by rw [← hWQ];exact Hbase.out)
    clear hWQ c0 c8 z0 z1
    refine zAT (fun w':World=>w'.heap[w1.heap.size]?=some (.cells #[.int .i64 (s.number:Int),.int .i64 s.term,.slice pg s.group.length cg] 130 (0,0))) (n:=16) (by kernel_rfl) rfl (Hbox.out) (fun hHeld=>?_)
    have HBd:=zh (show Below w1.heap.size w1 WQ.drew from HBq.out.trans ⟨rfl,rfl,rfl,Nat.le_refl _,fun _ _=>rfl⟩)
    generalize WQ.drew=W1 at *
    refine otk 0 (v:=?v24x0) rfl ?_
    simp only [Act.put,uA,uB,uC]
    refine otk 1 (v:=?v24x1) rfl ?_
    simp only [Act.put,uA,uB,uC]
    refine otk 2 (v:=?v24x2) rfl ?_
    simp only [Act.put,uA,uB,uC]
    refine otc 3 (v:=.agg #[.int .i64 (s.number:Int),.int .i64 s.term,.slice pg s.group.length cg]) rfl (fun W hSw=>by have q0:=zAA hSw (i:=0) rfl;have q1:=zAA hSw (i:=1) rfl;have q2:=zAA hSw (i:=2) rfl;go_simp;try with_reducible rfl) ?_
    simp only [Act.put,uA,uB,uC]
    refine otk 4 (v:=?v24x4) rfl ?_
    simp only [Act.put,uA,uB,uC]
    refine otk 5 (v:=?v24x5) rfl ?_
    simp only [Act.put,uA,uB,uC]
    refine zAG 6 rfl (by kernel_rfl) (by rfl) (fun K hK=>?_)
    go_wp2_with fail
    refine (Hcl.out W1 HBd.out).mono ?_
    rintro e wq ⟨en,rfl,hen,henn,hbq⟩
    have HB5:=zh (HBd.out.trans (hbq.mono HBd.out.size))
    have Hh5:=zh ((hbq.block _ (zAC hHeld)).trans hHeld)
    have HFn:=zh (HFin.out wq en HB5.out hen (fun x hx=>Nat.le_trans HBd.out.size (henn x hx)))
    have Hjc:=zh ((HB5.out.block j HJlt.out).trans HJc.out)
    obtain ⟨pn,qn,rfl⟩:=OwnR.shape hen
    clear hen henn hbq Hcl HFin
    go_wp2_with fail
    refine hK.out _ _ (Hh5.out) (fun hHeld=>?_)
    clear hK
    try simp only [Act.put,uA,uB,uC]
    refine otk 7 (v:=?v24x7) rfl ?_
    simp only [Act.put,uA,uB,uC]
    refine otk 8 (v:=?v24x8) rfl ?_
    simp only [Act.put,uA,uB,uC]
    refine zAG 9 rfl (by kernel_rfl) (by rfl) (fun K hK=>?_)
    have b0:=zAA Hjc.out (i:=0) rfl
    have b1:=zAA Hjc.out (i:=1) rfl
    have b2:=zAA Hjc.out (i:=2) rfl
    have fr:=zAF Hjc.out
    have Hh6:=zh (show (((wq.setCell ⟨j,0,none⟩ (.int .i64 (s.number:Int))).setCell ⟨j,1,none⟩ (.int .i64 s.term)).setCell ⟨j,2,none⟩ (.slice pg s.group.length cg)).heap[w1.heap.size]?=some (.cells #[.int .i64 (s.number:Int),.int .i64 s.term,.slice pg s.group.length cg] 130 (0,0)) from (set_other _ HJne.out).trans ((set_other _ HJne.out).trans ((set_other _ HJne.out).trans hHeld)))
    have Hj6:=zh (zAE (zAE (zAE Hjc.out 0 (.int .i64 (s.number:Int))) 1 (.int .i64 s.term)) 2 (.slice pg s.group.length cg))
    go_wp2_with fail
    clear b0 b1 b2 fr
    refine hK.out _ _ (Hh6.out) (fun hHeld=>?_)
    clear hK
    try simp only [Act.put,uA,uB,uC]
    refine otk 10 (v:=?v24x10) rfl ?_
    simp only [Act.put,uA,uB,uC]
    refine otk 11 (v:=?v24x11) rfl ?_
    simp only [Act.put,uA,uB,uC]
    refine zAG 12 rfl (by kernel_rfl) (by rfl) (fun K hK=>?_)
    have b7:=zAA Hj6.out (i:=7) rfl
    have f7:=zAF Hj6.out 7
    have Hh7:=zh (show ((((wq.setCell ⟨j,0,none⟩ (.int .i64 (s.number:Int))).setCell ⟨j,1,none⟩ (.int .i64 s.term)).setCell ⟨j,2,none⟩ (.slice pg s.group.length cg)).setCell ⟨j,7,none⟩ (.slice pd s.data.length cd)).heap[w1.heap.size]?=some (.cells #[.int .i64 (s.number:Int),.int .i64 s.term,.slice pg s.group.length cg] 130 (0,0)) from (set_other _ HJne.out).trans hHeld)
    have Hj7:=zh (zAE Hj6.out 7 (.slice pd s.data.length cd))
    go_wp2_with fail
    clear b7 f7
    refine hK.out _ _ (Hh7.out) (fun hHeld=>?_)
    clear hK
    try simp only [Act.put,uA,uB,uC]
    refine otk 13 (v:=?v24x13) rfl ?_
    simp only [Act.put,uA,uB,uC]
    refine otk 14 (v:=?v24x14) rfl ?_
    simp only [Act.put,uA,uB,uC]
    refine zAG 15 rfl (by kernel_rfl) (by rfl) (fun K hK=>?_)
    have b8:=zAA Hj7.out (i:=8) rfl
    have f8:=zAF Hj7.out 8
    have Hh8:=zh (fun x=>(show (((((wq.setCell ⟨j,0,none⟩ (.int .i64 (s.number:Int))).setCell ⟨j,1,none⟩ (.int .i64 s.term)).setCell ⟨j,2,none⟩ (.slice pg s.group.length cg)).setCell ⟨j,7,none⟩ (.slice pd s.data.length cd)).setCell ⟨j,8,none⟩ x).heap[w1.heap.size]?=some (.cells #[.int .i64 (s.number:Int),.int .i64 s.term,.slice pg s.group.length cg] 130 (0,0)) from (set_other _ HJne.out).trans hHeld))
    go_wp2_with fail
    clear b8 f8
    refine hK.out _ _ (Hh8.out _) (fun hHeld=>?_)
    clear hK
    try simp only [Act.put,uA,uB,uC]
    refine wpAnyH_done (by kernel_rfl) ?_ _
    go_wp2_with fail
    go_end0
    exact ⟨rfl,HFn.out⟩
end
def sSnp (s:ByteArray):ByteArray:=s ++ ⟨#[45,115,110,97,112]⟩
theorem nm_snp (s:ByteArray):nm (sSnp s)=snpN (nm s):=by simp [nm,sSnp,snpN,snpX]
theorem size_snp (s:ByteArray):(sSnp s).size=s.size+5:=by simp [sSnp,ByteArray.size_append];rfl
theorem wrB_outS {B:Nat} {w:World} {k:Nat} {l:Bs} (h:WrB B w k l) (hl:l.length≤140737488355328) :
  Calls Tryz.prog 106 #[.pointer (some ⟨k,0,none⟩)] w fun e w'=>∃ v,e=.returned v∧OwnB w' 5 v l∧Below w.heap.size w w':=by
 obtain ⟨v,h1,h2,h3,h4⟩:=h
 refine (wout_calls h1 hl).mono ?_
 rintro e w' ⟨u,rfl,hu,hn,hb⟩
 exact ⟨u,rfl,hu,hb⟩
theorem goes_err {pre:Bs} {D D':zAB} {M:JouM} {s:Snap} {e:Nat} (h:D.save (snpN pre) (snpB s.number s.term s.group s.data)=(D',e)) (he:e≠0):zB7 pre D M s=⟨D',M.die,e⟩:=by
 unfold zB7
 rw [h,if_pos he]
theorem goes_err2 {pre:Bs} {D D1 D2:zAB} {M:JouM} {s:Snap} {e:Nat} (h:D.save (snpN pre) (snpB s.number s.term s.group s.data)=(D1,0)) (h2:zAR D1 pre (M.rebase s)=(D2,e)) (he:e≠0):zB7 pre D M s=⟨D2,(M.rebase s).die,e⟩:=by
 unfold zB7
 rw [h,if_neg (by simp),h2,if_pos he]
theorem goes_ok {pre:Bs} {D D1 D2:zAB} {M:JouM} {s:Snap} (h:D.save (snpN pre) (snpB s.number s.term s.group s.data)=(D1,0)) (h2:zAR D1 pre (M.rebase s)=(D2,0)):zB7 pre D M s=⟨D2,M.rebase s,0⟩:=by
 unfold zB7
 rw [h,if_neg (by simp),h2,if_neg (by simp)]
theorem zDC (M:JouM) (s:Snap):(M.rebase s).entries.length≤M.entries.length:=by
 show (if M.number < s.number∧M.termAt s.number=some s.term then M.entries.drop (s.number - M.number) else []).length≤_
 split
 ·rw [List.length_drop];omega
 ·exact Nat.zero_le _
section
variable {w w1 wc:World} {j d:Nat} {pre:ByteArray} {D:zAB} {M:JouM} {F F2:Nat→Prop}
theorem jou_save (h:JouF w w1 j d pre D M F) (hb:Below w1.heap.size w1 wc) (s:ByteArray) (hs:s.size≤9223372036854775807) {p:Option Addr} {n c:Nat} {ls:List Bs} (hx:zAw wc (.slice p n c) ls) (hn:n≤140737488355328) (hl:ls.flatten.length≤1048576) :
  Calls Tryz.prog 135 #[.pointer (some ⟨d,0,none⟩),.string s,.slice p n c] wc fun e w'=>e=.returned (.int .i64 ((D.save (nm s) ls.flatten).2:Int))∧JouF w w' j d pre (D.save (nm s) ls.flatten).1 M F∧Same F w1 w'∧w'.heap[j]?=w1.heap[j]? :=
 zD6 h hb fun _ hS=>save_calls (hS.next hb) s hs hx hn hl
theorem jgoes_calls (h:JouF w w1 j d pre D M F) (hm:M.entries.length≤1000000) {s:Snap} (hs:s.OK) (hsd:s.data.length≤524288) {pg pd:Option Addr} {cg cd:Nat} (hg:OwnI w1 (.slice pg s.group.length cg) s.group)
  (hx:∀ W,Below w.heap.size w W→Same F w1 W→HasB W (.slice pd s.data.length cd) s.data)
  (hF:∀ k,(Value.slice pg s.group.length cg).ownBlock=some k→F k∧w.heap.size≤k) (hF2:∀ k,F2 k→F k∧(Value.slice pg s.group.length cg).ownBlock≠some k) :
  Calls Tryz.prog 110 #[.pointer (some ⟨j,0,none⟩),.agg #[.int .i64 (s.number:Int),.int .i64 s.term,.slice pg s.group.length cg],.slice pd s.data.length cd] w1 (JouTold w w1 j d pre F2 (zB7 (nm pre) D M s)):=by
 have hps:=h.psz
 have hssn:(sSnp pre).size=pre.size+5:=size_snp pre
 have hsn:=hs.number
 have hst:=zAr.1 hs.term
 have hgb:=zCP hs.group
 have hgl:=hgb.1
 have Hgb:=zh hgb
 obtain ⟨c3,c4,-⟩:=h.jc
 have HG:=zh hg
 have Hx:=zh hx
 have HF:=zh hF
 have HF2:=zh hF2
 have Hs:=zh hs
 have H:=zh (h.box (.cells #[.int .i64 (s.number:Int),.int .i64 s.term,.slice pg s.group.length cg] 130))
 have H0:=zh h
 have HT:=zh (show snpB s.number s.term s.group s.data=[] ++ zAh [(s.number:Int),s.term] ++ grpB s.group ++ rowB s.data from by simp [snpB,zAh,zCK (show s.number≤4611686018427387904 by omega)])
 have Hbox:=zh (zAI w1 (.cells #[.int .i64 (s.number:Int),.int .i64 s.term,.slice pg s.group.length cg] 130))
 have Hb1:=zh (zAD w1 (.cells #[.int .i64 (s.number:Int),.int .i64 s.term,.slice pg s.group.length cg] 130))
 clear h hg hx hF hF2 hs hgb
 go_enter Tryz.func110,Tryz.ntmps110
 go_wp2_with fail
 have hwr:=wrB_new (w1.alloc (.cells #[.int .i64 (s.number:Int),.int .i64 s.term,.slice pg s.group.length cg] 130))
 have hsz:(w1.alloc (.cells #[.int .i64 (s.number:Int),.int .i64 s.term,.slice pg s.group.length cg] 130)).heap.size=w1.heap.size+1:=by simp
 rw [hsz] at hwr
 have hb2:Below w1.heap.size w1 ((w1.alloc (.cells #[.int .i64 (s.number:Int),.int .i64 s.term,.slice pg s.group.length cg] 130)).alloc (.cells #[.slice none 0 0] 163)):=Hb1.out.alloc Hb1.out.size _
 have hbx2:=(zCw _ (.cells #[.slice none 0 0] 163) (zAC Hbox.out)).trans Hbox.out
 have HB2:=zh hb2
 have HX2:=zh hbx2
 have HW2:=zh hwr
 have z0:=zAA hbx2 (i:=0) rfl
 have z1:=zAA hbx2 (i:=1) rfl
 have z0:((w1.alloc (.cells #[.int .i64 (s.number:Int),.int .i64 s.term,.slice pg s.group.length cg] 130)).alloc (.cells #[.slice none 0 0] 163)).cell? ⟨w1.heap.size,0,none⟩=some (.int .i64 (s.number:Int)):=z0
 have z1:((w1.alloc (.cells #[.int .i64 (s.number:Int),.int .i64 s.term,.slice pg s.group.length cg] 130)).alloc (.cells #[.slice none 0 0] 163)).cell? ⟨w1.heap.size,1,none⟩=some (.int .i64 s.term):=z1
 have HWs:=zh (show w1.heap.size+1+1=((w1.alloc (.cells #[.int .i64 (s.number:Int),.int .i64 s.term,.slice pg s.group.length cg] 130)).alloc (.cells #[.slice none 0 0] 163)).heap.size from by simp)
 clear hwr hsz hb2 hbx2
 generalize (w1.alloc (.cells #[.int .i64 (s.number:Int),.int .i64 s.term,.slice pg s.group.length cg] 130)).alloc (.cells #[.slice none 0 0] 163)=W0 at *
 have H1:=zh (zE1 HW2.out [(s.number:Int),s.term] #[.int .i64 (s.number:Int),.int .i64 s.term] rfl (by simp;omega) (by simp) (w1.heap.size+1+1) 2 2 HWs.out rfl (0,0))
 clear z0 z1
 refine H1.out.mono ?_
 rintro e w3 ⟨rfl,hw3,hb3⟩
 have h9:=zAy [(s.number:Int),s.term]
 have HB3:=zh (show Below w1.heap.size w1 w3 from HB2.out.trans (hb3.mono (Nat.le_succ _)))
 have HX3:=zh ((hb3.block w1.heap.size (Nat.lt_succ_self _)).trans HX2.out)
 have H2:=zh (zDz hw3 (p:=pg) (n:=s.group.length) (c:=cg) (zs:=s.group) (fun W hb=>zAL.chg (OwnI.has HG.out) (Chg.of_below (HB3.out.trans (hb.mono (Nat.le_succ _)))) fun _ _=>id) (fun z hz=>by have:=Hgb.out.2 z hz;omega) (by simp at h9 ⊢;omega))
 have z2:w3.cell? ⟨w1.heap.size,2,none⟩=some (.slice pg s.group.length cg):=zAA HX3.out (i:=2) rfl
 clear hw3 hb3 H1
 go_wp2_with fail
 refine H2.out.mono ?_
 rintro e w4 ⟨rfl,hw4,hb4⟩
 have h8:=zEi s.group (by omega)
 have HB4:=zh (show Below w1.heap.size w1 w4 from HB3.out.trans (hb4.mono (Nat.le_succ _)))
 have HX4:=zh ((hb4.block w1.heap.size (Nat.lt_succ_self _)).trans HX3.out)
 have H3:=zh (wrB_bytes hw4 (pv:=pd) (m:=s.data.length) (cv:=cd) (x:=s.data) (fun W hb=>Hx.out W (H0.out.bel.trans ((HB4.out.trans (hb.mono (Nat.le_succ _))).mono H0.out.bel.size)) (H0.out.same (HB4.out.trans (hb.mono (Nat.le_succ _))))) (by simp at h9 ⊢;omega) w4.heap.size 1 rfl (0,0))
 clear hw4 hb4 H2 z2
 go_wp2_with fail
 refine H3.out.mono ?_
 rintro e w5 ⟨rfl,hw5,hb5⟩
 have HB5:=zh (show Below w1.heap.size w1 w5 from HB4.out.trans (hb5.mono (Nat.le_succ _)))
 have HX5:=zh ((hb5.block w1.heap.size (Nat.lt_succ_self _)).trans HX4.out)
 rw [← HT.out] at hw5
 have h7:(snpB s.number s.term s.group s.data).length≤600000:=by
  rw [HT.out]
  unfold rowB
  have:=zAe (n:=s.data.length) (by omega)
  simp at h9 ⊢
  omega
 have HW5:=zh hw5
 have HL7:=zh h7
 have c3:=zAJ c3 HB5.out
 have c4:=zAJ c4 HB5.out
 clear hw5 hb5 H3 h9 h8 h7
 go_wp2_with fail
 cases hsv:D.save (snpN (nm pre)) (snpB s.number s.term s.group s.data) with
 | mk D1 e1 =>
  have HJB:=zh (show JouF w w5 j d pre D M (fun k=>F k∨k=w1.heap.size) from H0.out.more HB5.out fun k hk=>hk.imp id fun e=>⟨by omega,by rw [e];exact zAC HX5.out⟩)
  have Hsv:=zh (fun W (hb:Below w5.heap.size w5 W) p n c (hx:zAw W (.slice p n c) [snpB s.number s.term s.group s.data]) (hn:n=1)=>show Calls Tryz.prog 135 #[.pointer (some ⟨d,0,none⟩),.string (sSnp pre),.slice p n c] W fun e w'=>e=.returned (.int .i64 (e1:Int))∧JouF w w' j d pre D1 M (fun k=>F k∨k=w1.heap.size)∧Same (fun k=>F k∨k=w1.heap.size) w5 w'∧w'.heap[j]?=w5.heap[j]? from by
   have:=jou_save HJB.out hb (sSnp pre) (by rw [hssn];omega) hx (by omega) (by simp;have:=HL7.out;omega)
   rw [show [snpB s.number s.term s.group s.data].flatten=snpB s.number s.term s.group s.data by simp,nm_snp,hsv] at this
   exact this)
  have HSV:=zh hsv
  clear hsv
  refine zAT (fun w':World=>w'.cell? ⟨j,3,none⟩=some (.pointer (some ⟨d,0,none⟩))∧w'.cell? ⟨j,4,none⟩=some (.string pre)) (n:=13) (by kernel_rfl) rfl (⟨c3,c4⟩) (fun hHeld=>?_)
  refine otk 0 (v:=?v5x0) rfl ?_
  simp only [Act.put,uA,uB,uC]
  refine otk 1 (v:=?v5x1) rfl ?_
  simp only [Act.put,uA,uB,uC]
  refine otk 2 (v:=?v5x2) rfl ?_
  simp only [Act.put,uA,uB,uC]
  refine otk 3 (v:=?v5x3) rfl ?_
  simp only [Act.put,uA,uB,uC]
  refine otk 4 (v:=?v5x4) rfl ?_
  simp only [Act.put,uA,uB,uC]
  refine otk 5 (v:=?v5x5) rfl ?_
  simp only [Act.put,uA,uB,uC]
  refine otk 6 (v:=?v5x6) rfl ?_
  simp only [Act.put,uA,uB,uC]
  refine otk 7 (v:=?v5x7) rfl ?_
  simp only [Act.put,uA,uB,uC]
  refine otc 8 (v:=?v5x8) rfl ?y5x8 ?_
  case y5x8=>(intro w hSw;(try dsimp only at hSw);go_simp;rw [if_neg (by omega)];try with_reducible rfl)
  simp only [Act.put,uA,uB,uC]
  refine zAG 9 rfl (by kernel_rfl) (by rfl) (fun K hK=>?_)
  have HBd:=zh (zAb w5)
  have H6:=zh (wrB_outS (HW5.out.keep (zAb w5)) (by have:=HL7.out;omega))
  go_wp2_with fail
  refine H6.out.mono ?_
  rintro e w6 ⟨v,rfl,hv,hb6⟩
  have HB6:=zh (HBd.out.trans hb6)
  have Hh6:=zh (And.intro (zAJ hHeld.1 hb6) (zAJ hHeld.2 hb6))
  have HV:=zh (OwnB.has hv)
  obtain ⟨pv,cv,rfl,-⟩:=zAO hv
  clear hv hb6 H6
  go_wp2_with fail
  refine hK.out _ _ (Hh6.out) (fun hHeld=>?_)
  clear hK
  try simp only [Act.put,uA,uB,uC]
  refine zAG 10 rfl (by kernel_rfl) (by rfl) (fun K hK=>?_)
  have Hh7:=zh (And.intro (zA4 hHeld.1 (.cells #[.slice pv (snpB s.number s.term s.group s.data).length cv] 22)) (zA4 hHeld.2 (.cells #[.slice pv (snpB s.number s.term s.group s.data).length cv] 22)))
  go_wp2_with fail
  refine hK.out _ _ (Hh7.out) (fun hHeld=>?_)
  clear hK
  try simp only [Act.put,uA,uB,uC]
  refine zAG 11 rfl (by kernel_rfl) (by rfl) (fun K hK=>?_)
  have Hcl:=zh (Hsv.out _ (HB6.out.trans ((zAD w6 (.cells #[.slice pv (snpB s.number s.term s.group s.data).length cv] 22)).mono HB6.out.size)) _ _ _ (zBy HV.out 22 (0,0) w6.heap.size 1 rfl (Nat.le_refl _)) rfl)
  go_wp2_with fail
  refine Hcl.out.mono ?_
  rintro e w7 ⟨rfl,hj7,hs7,hh7⟩
  have HJ7:=zh hj7
  have HS7:=zh hs7
  have Hh8:=zh (And.intro ((World.cell?_of_block (a:=⟨j,3,none⟩) hh7).trans c3) ((World.cell?_of_block (a:=⟨j,4,none⟩) hh7).trans c4))
  clear hj7 hs7 hh7 Hcl
  go_wp2_with fail
  refine hK.out _ _ (Hh8.out) (fun hHeld=>?_)
  clear hK
  try simp only [Act.put,uA,uB,uC]
  refine otk 12 (v:=?v5x12) rfl ?_
  simp only [Act.put,uA,uB,uC]
  refine wpAnyH_done (by kernel_rfl) ?_ _
  have HSF:=zh (show Same F w1 w7 from fun k hk=>(HS7.out k (.inl hk)).trans (H0.out.same HB5.out k hk))
  have HX7:=zh ((HS7.out w1.heap.size (.inr rfl)).trans HX5.out)
  by_cases he1:e1=0
  ·subst he1
   have Hcl:=zh (fun W (hb:Below w7.heap.size w7 W)=>zBY (Hx.out W (HJ7.out.bel.trans (hb.mono HJ7.out.bel.size)) (fun k hk=>(HJ7.out.same hb k (.inl hk)).trans (HSF.out k hk))) (by omega))
   have hm2:=Nat.le_trans (zDC M s) hm
   cases hwj:zAR D1 (nm pre) (M.rebase s) with
   | mk D2 e2 =>
    have HWJ:=zh hwj
    have Hok:=zh (fun (h:e2=0)=>goes_ok (pre:=nm pre) (M:=M) HSV.out (by rw [hwj,h]))
    have Her:=zh (fun (h:e2≠0)=>goes_err2 (pre:=nm pre) (M:=M) HSV.out hwj h)
    clear hwj
    go_wp2_with fail
    refine zDm [4] (fun w':World=>w'.heap[w1.heap.size]?=some (.cells #[.int .i64 (s.number:Int),.int .i64 s.term,.slice pg s.group.length cg] 130 (0,0))) (n:=5) (by kernel_rfl) rfl (HX7.out) (fun hHeld=>?_)
    refine gpu 0 (v:=?v8x0) rfl ?_
    simp only [Act.put,uA,uB,uC]
    refine zBG 1 (v:=.agg #[.int .i64 (s.number:Int),.int .i64 s.term,.slice pg s.group.length cg]) rfl (by kernel_rfl) (by kernel_rfl) (by kernel_rfl) (by kernel_rfl) (fun _ _ _ h=>h) (by rfl) (by assumption) (fun W hSw=>by have q0:=zAA hSw (i:=0) rfl;have q1:=zAA hSw (i:=1) rfl;have q2:=zAA hSw (i:=2) rfl;go_simp;try with_reducible rfl) ?_
    simp only [Act.put,uA,uB,uC]
    refine gpu 2 (v:=?v8x2) rfl ?_
    simp only [Act.put,uA,uB,uC]
    refine zEg 3 rfl (by kernel_rfl) (by rfl) (fun K hK=>?_)
    have HBd:=zh (zAb w7)
    go_wp2_with fail
    refine (Hcl.out w7.drew HBd.out).mono ?_
    rintro e w8 ⟨v,rfl,hv,hvn,hb8⟩
    have HB8:=zh (HBd.out.trans hb8)
    have Hh9:=zh ((hb8.block _ (zAC hHeld)).trans hHeld)
    have HV:=zh (And.intro hv (show ∀ k,v.ownBlock=some k→w7.heap.size≤k from hvn))
    obtain ⟨pv,cv,rfl,-⟩:=zAO hv
    clear hv hvn hb8 Hcl
    go_wp2_with fail
    refine hK.out _ _ (Hh9.out) (fun hHeld=>?_)
    clear hK
    try simp only [Act.put,uA,uB,uC]
    refine g_end 4 rfl (by kernel_rfl) (by rfl) (by kernel_rfl) (fun K hK=>?_)
    have hJ8:JouF w w8 j d pre D1 M (fun k=>(F k∨k=w1.heap.size)∨(Value.slice pv s.data.length cv).ownBlock=some k):=HJ7.out.more HB8.out fun k hk=>hk.imp id fun e=>⟨HV.out.2 k e,OwnR.lt HV.out.1 e⟩
    have hG8:OwnI w8 (.slice pg s.group.length cg) s.group:=OwnR.keep HG.out fun k hk=>(HJ7.out.same HB8.out k (.inl (HF.out k hk).1)).trans (HSF.out k (HF.out k hk).1)
    have Hrb:=zh (zEl (F2:=F2) hJ8 Hs.out hG8 HV.out.1 (fun k hk=>by
     rcases hk with hk | hk
     ·exact ⟨.inl (.inl (HF.out k hk).1),(HF.out k hk).2⟩
     ·exact ⟨.inr hk,Nat.le_trans HJ7.out.bel.size (HV.out.2 k hk)⟩) (fun k hk=>⟨.inl (.inl (HF2.out k hk).1),(HF2.out k hk).2,fun e=>by have h1:=HV.out.2 k e;have h2:=HJ7.out.flt (.inl (HF2.out k hk).1);omega⟩))
    have HS8:=zh (show Same F2 w1 w8 from fun k hk=>(HJ7.out.same HB8.out k (.inl (HF2.out k hk).1)).trans (HSF.out k (HF2.out k hk).1))
    clear hJ8 hG8
    go_wp2_with fail
    refine Hrb.out.mono ?_
    rintro e w9 ⟨rfl,hj9,hs9⟩
    have HJ9:=zh hj9
    have HS9:=zh (HS8.out.trans hs9)
    clear hj9 hs9 Hrb
    go_wp2_with fail
    refine hK.out _ _ ?_
    clear hK
    try simp only [Act.put,uA,uB,uC]
    refine g_done (by kernel_rfl) ?_ _
    have Hwr:=zh (zCc HJ9.out hm2)
    unfold zBk at Hwr
    rw [HWJ.out] at Hwr
    go_wp2_with fail
    refine Hwr.out.mono ?_
    rintro e wa ⟨rfl,hja,hsa⟩
    have Hen:=zh (zCz hja e2)
    have HSa:=zh (HS9.out.trans hsa)
    clear hja hsa Hwr
    go_wp2_with fail
    refine Hen.out.mono ?_
    rintro e wb ⟨rfl,hjb,hsb⟩
    have HE:=zh (And.intro hjb (HSa.out.trans hsb))
    clear hjb hsb
    go_wp2_with fail
    go_ret
    by_cases he2:e2=0
    ·rw [Hok.out he2,he2]
     have h1:=HE.out.1
     rw [he2] at h1
     exact ⟨rfl,by have:=deadIf_zero (M.rebase s);unfold zEF at this;rw [this] at h1;exact h1,HE.out.2⟩
    ·rw [Her.out he2]
     have h1:=HE.out.1
     exact ⟨rfl,by have:=deadIf_ne (M.rebase s) he2;unfold zEF at this;rw [this] at h1;exact h1,HE.out.2⟩
  ·have hne:((e1:Int) != 0)=true:=by simp;omega
   have HZ:=zh (goes_err (pre:=nm pre) (M:=M) HSV.out he1)
   have hen:=zCz (HJ7.out.less fun k hk=>.inl (HF2.out k hk).1:JouF w w7 j d pre D1 M F2) e1
   have hdi:=deadIf_ne M he1
   unfold zEF at hdi
   rw [hdi] at hen
   have Hen:=zh hen
   clear he1 hen hdi
   go_wp2_with fail
   refine Hen.out.mono ?_
   rintro e w8 ⟨rfl,hj8,hs8⟩
   have HE:=zh (And.intro hj8 (show Same F2 w1 w8 from fun k hk=>(hs8 k hk).trans (HSF.out k (HF2.out k hk).1)))
   clear hj8 hs8
   go_wp2_with fail
   go_ret
   rw [HZ.out]
   exact ⟨rfl,HE.out.1,HE.out.2⟩
end
end Go.Proofs.YtapfnehdgailmaaGreat
