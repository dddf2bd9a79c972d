/- The document's keep (satrapyref4): has, Load. The document's disk through several steps: what is set apart (F) stays as it was. The document's journal (satrapyref5) in memory; Last, TermAt. The document's journal: GroupAt, Config. (Printed by mkrk2.py.) satrapyref5.Own. (Printed by mkrk3.py.) satrapyref5.ReadEntry. (Printed by mkro1.py.) The document's journal: At. (Printed by mkrk4.py.) The document's Whole (satrapyref4): a file is made to hold just these bytes. -/
import Derived.Test.YtapfnehdgailmaaGreatGE
import Derived.Test.YtapfnehdgailmaaGreatGG
import Derived.Test.YtapfnehdgailmaaGreatGN
import Derived.Test.YtapfnehdgailmaaGreatGO
import Derived.Test.YtapfnehdgailmaaGreatGQ
import Derived.Test.YtapfnehdgailmaaGreatGR
import Derived.Test.YtapfnehdgailmaaGreatGS
set_option maxRecDepth 100000
set_option maxHeartbeats 64000000
namespace Go.Proofs.YtapfnehdgailmaaGreat
open Go.RowKit Go.Sat Go.Maps
section
variable {w:World} {r:Nat} {v:Value} {L:List zAN} {own:Nat→Prop} {D:zAB}
theorem rhas_calls (h:zAY w r v L own D) (s:ByteArray) :
  Calls Tryz.prog 198 #[.pointer (some ⟨r,0,none⟩),.string s] w fun e w'=>e=.returned (.bool (Sat.get (nm s) D.files).isSome)∧Below w.heap.size w w':=by
 have H:=zh (zCE h s)
 clear h
 cases hg:Sat.get (nm s) D.files with
 | none =>
  rw [hg] at H
  go_enter Tryz.func198,Tryz.ntmps198
  go_wp2_with fail
  refine H.out.mono ?_
  rintro e w' ⟨v,rfl,-,-,hb⟩
  have Hf:=zh hb
  clear hb
  go_wp2_with fail
  go_ret
  exact ⟨rfl,Hf.out⟩
 | some f =>
  rw [hg] at H
  go_enter Tryz.func198,Tryz.ntmps198
  go_wp2_with fail
  refine H.out.mono ?_
  rintro e w' ⟨v,rfl,-,-,hb⟩
  have Hf:=zh hb
  clear hb
  go_wp2_with fail
  go_ret
  exact ⟨rfl,Hf.out⟩
def RGotL (w:World) (o:Option zAV) (e:Ending) (w':World):Prop :=
 ∃ v,e=.returned (.tuple #[v,.int .i64 (loadE o:Int)])∧OwnB w' 5 v (zDT o)∧(∀ k,v.ownBlock=some k→w.heap.size≤k)∧Below w.heap.size w w'
theorem rload_calls (h:zAY w r v L own D) (s:ByteArray) :
  Calls Tryz.prog 83 #[.pointer (some ⟨r,0,none⟩),.string s] w (RGotL w (Sat.get (nm s) D.files)):=by
 have hln:=zD2 h.ok (nm s)
 have H:=zh (zCE h s)
 clear h
 cases hg:Sat.get (nm s) D.files with
 | none =>
  rw [hg] at H
  clear hln
  go_enter Tryz.func83,Tryz.ntmps83
  go_wp2_with fail
  refine H.out.mono ?_
  rintro e w2 ⟨v,rfl,-,-,hb⟩
  have Hf:=zh (show RGotL w none (.returned (.tuple #[.slice none 0 0,.int .i64 7])) w2 from ⟨.slice none 0 0,by rw [zD8];rfl,by rw [loadB_none];exact OwnR.nil _ _ _,fun k hk=>(by cases hk),hb⟩)
  clear hb
  go_wp2_with fail
  go_ret2
  exact Hf.out
 | some f =>
  rw [hg] at H hln
  go_enter Tryz.func83,Tryz.ntmps83
  go_wp2_with fail
  refine H.out.mono ?_
  rintro e w2 ⟨v,rfl,hv,-,hb⟩
  obtain ⟨p,c,rfl,hnc⟩:=zDA hv
  have H1:=zh (rone_calls hv.has hnc (by omega))
  have Hb:=zh hb
  have hE:=loadE_some f
  have hB:=zD7 f
  generalize zCW (some f)=b at *
  generalize hN:b.length=N at *
  clear hv hb hnc hln
  go_wp2_with fail
  refine H1.out.mono ?_
  rintro e w3 ⟨v,rfl,hv,hn,hb3⟩
  have hb4:=Hb.out.trans (hb3.mono Hb.out.size)
  by_cases he:oneE b=0
  ·have Hf:=zh (show RGotL w (some f) (.returned (.tuple #[v,.int .i64 0])) w3 from ⟨v,by rw [hE,if_pos he];rfl,by rw [hB];exact hv,fun k hk=>Nat.le_trans Hb.out.size (hn k hk),hb4⟩)
   rw [he]
   clear hv hn hb3 hb4
   go_wp2_with fail
   go_ret2
   exact Hf.out
  ·have Hf:=zh (show RGotL w (some f) (.returned (.tuple #[.slice none 0 0,.int .i64 3])) w3 from ⟨.slice none 0 0,by rw [hE,if_neg he];rfl,by rw [hB];unfold oneB;rw [if_neg he];exact OwnR.nil _ _ _,fun k hk=>(by cases hk),hb4⟩)
   have hne:((oneE b:Int) != 0)=true:=by simp;omega
   generalize oneE b=E at *
   clear hv hn hb3 hb4
   go_wp2_with fail
   go_ret2
   exact Hf.out
end
def RSt (w0 w1:World) (r:Nat) (own0:Nat→Prop) (D:zAB) (F:Nat→Prop):Prop :=
 ∃ own v L,zAY w1 r v L own D∧Chg own0 w0 w1∧(∀ k,own k→(own0 k∨w0.heap.size≤k)∧¬ F k)∧∀ k,F k→k < w1.heap.size
section
variable {w w0 w1 w2:World} {r:Nat} {v:Value} {L:List zAN} {own own0:Nat→Prop} {D:zAB} {F:Nat→Prop}
theorem RSt.start (h:zAY w r v L own D) (hb:Below w.heap.size w w1) (hF:∀ k,F k→¬ own k∧k < w1.heap.size):RSt w w1 r own D F :=
 ⟨own,v,L,h.below hb,(Chg.of_below hb).mono fun _ _ h=>h.elim,fun k hk=>⟨.inl hk,fun hf=>(hF k hf).1 hk⟩,fun k hk=>(hF k hk).2⟩
theorem RSt.ok (h:RSt w0 w1 r own0 D F):D.OK:=let ⟨_,_,_,hR,_⟩:=h;hR.ok
theorem RSt.flt (h:RSt w0 w1 r own0 D F) {k:Nat} (hk:F k):k < w1.heap.size:=let ⟨_,_,_,_,_,_,hF⟩:=h;hF k hk
theorem RSt.next (h:RSt w0 w1 r own0 D F) (hb:Below w1.heap.size w1 w2):RSt w0 w2 r own0 D F:=by
 obtain ⟨own,v,L,hR,hc,hx,hF⟩:=h
 exact ⟨own,v,L,hR.below hb,hc.trans (Chg.of_below hb) fun _ _ h=>h.elim,hx,fun k hk=>Nat.lt_of_lt_of_le (hF k hk) hb.size⟩
theorem RSt.same (h:RSt w0 w1 r own0 D F) (hb:Below w1.heap.size w1 w2):Same F w1 w2:=fun _ hk=>hb.block _ (h.flt hk)
theorem RSt.apart {F':Nat→Prop} (h:RSt w0 w1 r own0 D F) (hb:Below w1.heap.size w1 w2) (hF':∀ k,F' k→F k∨(w1.heap.size≤k∧k < w2.heap.size)):RSt w0 w2 r own0 D F':=by
 obtain ⟨own,v,L,hR,hc,hx,hF⟩:=h
 refine ⟨own,v,L,hR.below hb,hc.trans (Chg.of_below hb) fun _ _ h=>h.elim,fun k hk=>⟨(hx k hk).1,fun hf=>?_⟩,fun k hk=>?_⟩
 ·rcases hF' k hf with h | h
  ·exact (hx k hk).2 h
  ·have:=hR.olt k hk
   omega
 ·rcases hF' k hk with h | h
  ·exact Nat.lt_of_lt_of_le (hF k h) hb.size
  ·exact h.2
theorem zDb {P:Program} {f:FuncId} {args:Array Value} {Re:zAB × Nat} (h:RSt w0 w1 r own0 D F) (hx:∀ own v L,zAY w1 r v L own D→(∀ k,own k→¬ F k)→Calls P f args w1 (zCL w1 r own Re)) :
  Calls P f args w1 fun e w'=>e=.returned (.int .i64 (Re.2:Int))∧RSt w0 w' r own0 Re.1 F∧Same F w1 w':=by
 obtain ⟨own,v,L,hR,hc,hown,hF⟩:=h
 refine (hx own v L hR fun k hk=>(hown k hk).2).mono ?_
 rintro e w' ⟨rfl,own',⟨v',L',hR'⟩,hc',he⟩
 refine ⟨rfl,⟨own',v',L',hR',hc.trans hc' fun i hi ho=>?_,fun k hk=>?_,fun k hk=>Nat.lt_of_lt_of_le (hF k hk) hc'.size⟩,fun k hk=>hc'.block k (hF k hk) fun ho=>(hown k ho).2 hk⟩
 ·rcases (hown i ho).1 with h | h
  ·exact h
  ·omega
 ·rcases he k hk with h | h
  ·exact hown k h
  ·exact ⟨.inr (Nat.le_trans hc.size h),fun hf=>by have:=hF k hf;omega⟩
theorem RSt.stop (h:RSt w0 w1 r own0 D F) (k:Nat):zCL w0 r own0 (D,k) (.returned (.int .i64 (k:Int))) w1:=by
 obtain ⟨own,v,L,hR,hc,hx,-⟩:=h
 exact ⟨rfl,own,⟨v,L,hR⟩,hc,fun k hk=>(hx k hk).1⟩
theorem rst_has (h:RSt w0 w1 r own0 D F) (s:ByteArray) :
  Calls Tryz.prog 198 #[.pointer (some ⟨r,0,none⟩),.string s] w1 fun e w'=>e=.returned (.bool (Sat.get (nm s) D.files).isSome)∧RSt w0 w' r own0 D F∧Same F w1 w':=by
 have h0:=h
 obtain ⟨own,v,L,hR,-⟩:=h
 exact (rhas_calls hR s).mono fun e w' ⟨he,hb⟩=>⟨he,h0.next hb,h0.same hb⟩
end
structure RJIn (w:World) (j r:Nat) (pre:ByteArray) (O C:Nat→Prop) (M:JouM) (gv dv ev:Value) (vs:List EV):Prop where
 cells:w.heap[j]?=some (RJC r (M.number:Int) M.term gv pre M.now M.vote dv ev M.dead)
 group:HasI w gv M.group
 data:HasB w dv M.data
 row:OwnR w 50 4 ev M.entries.length (zA1 M.entries vs)
 rlen:vs.length=M.entries.length
 rows:∀ (i:Nat) e v,M.entries[i]?=some e→vs[i]?=some v→zBE w e v
 oj:O j
 oe:∀ k,ev.ownBlock=some k→O k∧k≠j
 cg:∀ k,gv.ownBlock=some k→C k
 cd:∀ k,dv.ownBlock=some k→C k
 cv:∀ u ∈ vs,∀ k,(u.1.ownBlock=some k∨u.2.ownBlock=some k)→C k
 dis:∀ k,C k→¬ O k
 olt:∀ k,O k→k < w.heap.size
 clt:∀ k,C k→k < w.heap.size
 psz:1≤pre.size∧pre.size≤20
 ok:M.OK
section
variable {w w':World} {j r:Nat} {pre:ByteArray} {O C:Nat→Prop} {M:JouM} {gv dv ev:Value} {vs:List EV}
theorem zBE.keep {e:Ent} {v:EV} (h:zBE w e v) (hb:∀ k,(v.1.ownBlock=some k∨v.2.ownBlock=some k)→w'.heap[k]?=w.heap[k]?):zBE w' e v :=
 ⟨zAL.keep h.data fun k hk=>hb k (.inl hk),zAL.keep h.nodes fun k hk=>hb k (.inr hk),h.dl,h.nl⟩
theorem RJIn.keep (h:RJIn w j r pre O C M gv dv ev vs) (hs:∀ k,O k∨C k→w'.heap[k]?=w.heap[k]?) (hl:∀ k,O k∨C k→k < w'.heap.size):RJIn w' j r pre O C M gv dv ev vs where
 cells:=(hs j (.inl h.oj)).trans h.cells
 group:=zAL.keep h.group fun k hk=>hs k (.inr (h.cg k hk))
 data:=zAL.keep h.data fun k hk=>hs k (.inr (h.cd k hk))
 row:=h.row.keep fun k hk=>hs k (.inl (h.oe k hk).1)
 rlen:=h.rlen
 rows:=fun i e v he hv=>(h.rows i e v he hv).keep fun k hk=>hs k (.inr (h.cv v (List.mem_of_getElem? hv) k hk))
 oj:=h.oj
 oe:=h.oe
 cg:=h.cg
 cd:=h.cd
 cv:=h.cv
 dis:=h.dis
 olt:=fun k hk=>hl k (.inl hk)
 clt:=fun k hk=>hl k (.inr hk)
 psz:=h.psz
 ok:=h.ok
theorem RJIn.below (h:RJIn w j r pre O C M gv dv ev vs) (hb:Below w.heap.size w w'):RJIn w' j r pre O C M gv dv ev vs :=
 h.keep (fun k hk=>hb.block k (hk.elim (h.olt k) (h.clt k))) fun k hk=>Nat.lt_of_lt_of_le (hk.elim (h.olt k) (h.clt k)) hb.size
theorem RJIn.chg {S:Nat→Prop} (h:RJIn w j r pre O C M gv dv ev vs) (hc:Chg S w w') (hS:∀ k,S k→¬ O k∧¬ C k):RJIn w' j r pre O C M gv dv ev vs :=
 h.keep (fun k hk=>hc.block k (hk.elim (h.olt k) (h.clt k)) fun s=>hk.elim (hS k s).1 (hS k s).2) fun k hk=>Nat.lt_of_lt_of_le (hk.elim (h.olt k) (h.clt k)) hc.size
theorem RJIn.c (h:RJIn w j r pre O C M gv dv ev vs) (i:Nat) {v:Value} (hi:(#[.int .i64 (M.number:Int),.int .i64 M.term,gv,.pointer (some ⟨r,0,none⟩),.string pre,.int .i64 M.now,.int .i64 M.vote,dv,ev,.bool M.dead]:Array Value)[i]?=some v):w.cell? ⟨j,i,none⟩=some v:=zAA h.cells hi
theorem RJIn.fr (h:RJIn w j r pre O C M gv dv ev vs) (i:Nat):w.frozen? ⟨j,i,none⟩=false:=zAF h.cells i
theorem RJIn.ent (h:RJIn w j r pre O C M gv dv ev vs) {i:Nat} {e:Ent} (he:M.entries[i]?=some e):∃ g c v,ev=.slice (some ⟨g,0,none⟩) M.entries.length c∧vs[i]?=some v∧zBE w e v ∧
  w.cell? ⟨g,i * 4,none⟩=some (.int .i64 e.term)∧w.cell? ⟨g,i * 4+1,none⟩=some (.int .i64 e.kind)∧w.cell? ⟨g,i * 4+2,none⟩=some v.1∧w.cell? ⟨g,i * 4+3,none⟩=some v.2:=by
 have hi:=(List.getElem?_eq_some_iff.1 he).1
 have hv:vs[i]?=some (vs[i]'(by rw [h.rlen];exact hi)):=List.getElem?_eq_getElem _
 generalize vs[i]'(by rw [h.rlen];exact hi)=v at hv
 rcases h.row.2 with ⟨-,h0⟩ | ⟨g,cap,cur,rfl,-⟩
 ·omega
 ·have hc:∀ (k:Nat) u,(entC e v)[k]?=some u→w.cell? ⟨g,i * 4+k,none⟩=some u:=fun k u hu=>by
   have:=h.row.cells (g:=g) rfl (i * 4+k) u (entsC_at _ _ i e v he hv k u hu)
   rwa [add_zero] at this
  exact ⟨g,cap,v,rfl,hv,h.rows i e v he hv,hc 0 _ rfl,hc 1 _ rfl,hc 2 _ rfl,hc 3 _ rfl⟩
end
def RJF (w1:World) (j r:Nat) (pre:ByteArray) (D:zAB) (M:JouM) (Hot Cold:Nat→Prop):Prop :=
 ∃ O own gv dv ev vs v L,RJIn w1 j r pre O Cold M gv dv ev vs∧zAY w1 r v L own D∧(∀ k,O k→¬ own k)∧(∀ k,Cold k→¬ own k)∧∀ k,Hot k ↔ O k∨own k
section
variable {w1 w2:World} {j r:Nat} {pre:ByteArray} {D:zAB} {M:JouM} {Hot Cold:Nat→Prop}
theorem RJF.okM (h:RJF w1 j r pre D M Hot Cold):M.OK:=let ⟨_,_,_,_,_,_,_,_,hJ,_⟩:=h;hJ.ok
theorem RJF.okD (h:RJF w1 j r pre D M Hot Cold):D.OK:=let ⟨_,_,_,_,_,_,_,_,_,hR,_⟩:=h;hR.ok
theorem RJF.hlt (h:RJF w1 j r pre D M Hot Cold) {k:Nat} (hk:Hot k):k < w1.heap.size:=by
 obtain ⟨_,_,_,_,_,_,_,_,hJ,hR,_,_,hH⟩:=h
 exact ((hH k).1 hk).elim (hJ.olt k) (hR.olt k)
theorem RJF.clt (h:RJF w1 j r pre D M Hot Cold) {k:Nat} (hk:Cold k):k < w1.heap.size:=let ⟨_,_,_,_,_,_,_,_,hJ,_⟩:=h;hJ.clt k hk
theorem RJF.dis (h:RJF w1 j r pre D M Hot Cold) {k:Nat} (hk:Cold k):¬ Hot k:=by
 obtain ⟨_,_,_,_,_,_,_,_,hJ,hR,_,hC,hH⟩:=h
 exact fun hh=>((hH k).1 hh).elim (hJ.dis k hk) (hC k hk)
theorem RJF.jhot (h:RJF w1 j r pre D M Hot Cold):Hot j:=let ⟨_,_,_,_,_,_,_,_,hJ,_,_,_,hH⟩:=h;(hH j).2 (.inl hJ.oj)
theorem RJF.psz (h:RJF w1 j r pre D M Hot Cold):1≤pre.size∧pre.size≤20:=let ⟨_,_,_,_,_,_,_,_,hJ,_⟩:=h;hJ.psz
theorem RJF.chg {S:Nat→Prop} (h:RJF w1 j r pre D M Hot Cold) (hc:Chg S w1 w2) (hS:∀ k,S k→¬ Hot k∧¬ Cold k):RJF w2 j r pre D M Hot Cold:=by
 obtain ⟨O,own,gv,dv,ev,vs,v,L,hJ,hR,hO,hC,hH⟩:=h
 exact ⟨O,own,gv,dv,ev,vs,v,L,hJ.chg hc fun k s=>⟨fun o=>(hS k s).1 ((hH k).2 (.inl o)),(hS k s).2⟩,hR.keep hc.size (fun k hk=>hc.block k (hR.olt k hk) fun s=>(hS k s).1 ((hH k).2 (.inr hk))),hO,hC,hH⟩
theorem RJF.below (h:RJF w1 j r pre D M Hot Cold) (hb:Below w1.heap.size w1 w2):RJF w2 j r pre D M Hot Cold:=h.chg (Chg.of_below hb) fun _ s=>s.elim
theorem RJF.drewN (h:RJF w1 j r pre D M Hot Cold) (q:Nat):RJF (w1.drewN q) j r pre D M Hot Cold:=h.below ⟨rfl,rfl,rfl,Nat.le_refl _,fun _ _=>rfl⟩
def RJTold (w1:World) (j r:Nat) (pre:ByteArray) (Hot Cold:Nat→Prop) (res:zEW) (e:Ending) (w':World):Prop :=
 e=.returned (.int .i64 (res.err:Int))∧∃ Hot' Cold',RJF w' j r pre res.disk res.jou Hot' Cold'∧Chg Hot w1 w'∧(∀ k,Hot' k→Hot k∨w1.heap.size≤k)∧∀ k,Cold' k→Cold k∨w1.heap.size≤k
theorem rjlast_calls (h:RJF w1 j r pre D M Hot Cold):Calls Tryz.prog 42 #[.pointer (some ⟨j,0,none⟩)] w1 fun e w'=>e=.returned (.tuple #[.int .i64 (M.last:Int),.int .i64 M.lastT])∧∃ q,w'=w1.drewN q:=by
 have hlast:=h.okM.last
 obtain ⟨O,own,gv,dv,ev,vs,v,L,hJ,hR,hO,hC,hH⟩:=h
 have c0:=hJ.c 0 rfl
 have c1:=hJ.c 1 rfl
 have c8:=hJ.c 8 rfl
 obtain ⟨p,c,hev⟩:=hJ.row.shape
 have HL:=zh (show M.last=M.number+M.entries.length from rfl)
 by_cases h0:M.entries.length=0
 ·have he:M.entries=[]:=List.eq_nil_of_length_eq_zero h0
  have HE:=zh (show (M.last:Int)=(M.number:Int)∧M.lastT=M.term from ⟨by rw [HL.out,h0];rfl,by unfold JouM.lastT;rw [he];rfl⟩)
  rw [hev,h0] at c8
  clear hJ hR hO hC hH hev he h0 hlast
  go_enter Tryz.func42,Tryz.ntmps42
  go_wp2_with fail
  go_quiet (fail)
  go_wp2_with fail
  go_ret2
  exact ⟨by rw [HE.out.1,HE.out.2];rfl,_,rfl⟩
 ·have hpos:M.entries.length - 1 < M.entries.length:=by omega
  obtain ⟨g,c',v',hev',hv,-,k0,-,-,-⟩:=hJ.ent (List.getElem?_eq_getElem hpos)
  have hT:M.lastT=M.entries[M.entries.length - 1].term:=by
   unfold JouM.lastT
   rw [List.getLast?_eq_getElem?,List.getElem?_eq_getElem hpos]
  rw [← hT] at k0
  rw [hev'] at c8
  unfold JouM.last at hlast
  clear hJ hR hO hC hH hev hev' hv hpos hT
  generalize M.entries.length=n at *
  generalize M.number=b at *
  generalize M.last=la at *
  generalize M.lastT=lt at *
  have hnp:((n:Int) == 0)=false:=by simp;omega
  have hw1:IntKind.i64.wrap ((b:Int)+(n:Int))=(la:Int):=by rw [IntWalk.i64_in _ (by omega),HL.out];omega
  have hw2:IntKind.i64.wrap ((n:Int) - 1)=((n - 1:Nat):Int):=by rw [IntWalk.i64_in _ (by omega)];omega
  have hlt:n - 1 < n:=by omega
  go_enter Tryz.func42,Tryz.ntmps42
  go_wp2_with fail
  go_quiet (fail)
  go_wp2_with fail
  go_ret2
  exact ⟨rfl,_,rfl⟩
theorem rjtermAt_calls (h:RJF w1 j r pre D M Hot Cold) (i:Int) (hi:-9223372036854775808≤i∧i≤9223372036854775807) :
  Calls Tryz.prog 95 #[.pointer (some ⟨j,0,none⟩),.int .i64 i] w1 fun e w'=>e=.returned (.tuple #[.int .i64 ((M.termAt i).getD 0),.bool (M.termAt i).isSome])∧∃ q,w'=w1.drewN q:=by
 have hlast:=h.okM.last
 obtain ⟨O,own,gv,dv,ev,vs,v,L,hJ,hR,hO,hC,hH⟩:=h
 have c0:=hJ.c 0 rfl
 have c1:=hJ.c 1 rfl
 have c8:=hJ.c 8 rfl
 obtain ⟨p,c,hev⟩:=hJ.row.shape
 by_cases hib:i=(M.number:Int)
 ·have he:(i == (M.number:Int))=true:=by simpa using hib
  have HT:=zh (show M.termAt i=some M.term by rw [hib];exact zET)
  clear hJ hR hO hC hH hib hev hlast c8
  generalize M.termAt i=ta at *
  generalize M.number=b at *
  go_enter Tryz.func95,Tryz.ntmps95
  go_wp2_with fail
  go_ret2
  exact ⟨by rw [HT.out];rfl,0,rfl⟩
 ·have he:(i == (M.number:Int))=false:=by simpa using hib
  unfold JouM.last at hlast
  by_cases hlo:i < (M.number:Int)
  ·have HT:=zh (show M.termAt i=none by unfold JouM.termAt;rw [if_neg hib,if_pos hlo])
   have hd:decide (i < (M.number:Int))=true:=decide_eq_true hlo
   clear hJ hR hO hC hH hib hev hlast c8 hlo
   generalize M.termAt i=ta at *
   generalize M.number=b at *
   go_enter Tryz.func95,Tryz.ntmps95
   go_wp2_with fail
   go_quiet (fail)
   go_wp2_with fail
   go_ret2
   exact ⟨by rw [HT.out];rfl,_,rfl⟩
  ·have hd:decide (i < (M.number:Int))=false:=decide_eq_false hlo
   rw [hev] at c8
   have hw1:IntKind.i64.wrap ((M.number:Int)+(M.entries.length:Int))=((M.number+M.entries.length:Nat):Int):=by rw [IntWalk.i64_in _ (by omega)];omega
   by_cases hhi:((M.number+M.entries.length:Nat):Int) < i
   ·have HT:=zh (show M.termAt i=none by
     unfold JouM.termAt
     rw [if_neg hib,if_neg hlo,List.getElem?_eq_none (by omega)]
     rfl)
    have hd2:decide (((M.number+M.entries.length:Nat):Int) < i)=true:=decide_eq_true hhi
    clear hJ hR hO hC hH hib hev hlast hlo hhi
    generalize M.termAt i=ta at *
    generalize M.number+M.entries.length=la at *
    generalize M.number=b at *
    generalize M.entries.length=n at *
    go_enter Tryz.func95,Tryz.ntmps95
    go_wp2_with fail
    go_quiet (fail)
    go_wp2_with fail
    go_ret2
    exact ⟨by rw [HT.out];rfl,_,rfl⟩
   ·have hd2:decide (((M.number+M.entries.length:Nat):Int) < i)=false:=decide_eq_false hhi
    have hkl:(i - (M.number:Int) - 1).toNat < M.entries.length:=by omega
    obtain ⟨g,c',v',hev',hv,-,k0,-,-,-⟩:=hJ.ent (List.getElem?_eq_getElem hkl)
    have HT:=zh (zEE (M:=M) (show (M.number:Int) < i by omega) (List.getElem?_eq_getElem hkl))
    rw [hev] at hev'
    cases hev'
    clear hJ hR hO hC hH hev hv
    generalize hk:(i - (M.number:Int) - 1).toNat=k at *
    generalize M.entries[k]=e at *
    generalize hla:M.number+M.entries.length=la at *
    generalize M.termAt i=ta at *
    generalize M.entries.length=n at *
    generalize M.number=b at *
    have hw2:IntKind.i64.wrap (i - (b:Int))=(k:Int)+1:=by rw [IntWalk.i64_in _ (by omega)];omega
    have hw3:IntKind.i64.wrap (k:Int)=(k:Int):=IntWalk.i64_in _ (by omega)
    clear hk hlast hlo hhi hib hla
    go_enter Tryz.func95,Tryz.ntmps95
    go_wp2_with fail
    go_quiet (fail)
    go_wp2_with fail
    go_quiet (fail)
    go_wp2_with fail
    go_ret2
    exact ⟨by rw [HT.out];rfl,_,zEa _ _ _⟩
end
theorem zDk {w w':World} {e:TypeId} {v:Value} {m:Nat} {xs:List Value} (hown:OwnR w' e 1 v (0+m) ([] ++ xs)) (hg:(w.alloc (.cells #[] e)).grownBy w' (some w.heap.size)) (hl:v.ownBlock=some w.heap.size∨∃ g,v.ownBlock=some g∧(w.alloc (.cells #[] e)).heap.size≤g) :
  OwnR w' e 1 v m xs∧(∀ k,v.ownBlock=some k→w.heap.size≤k)∧Below w.heap.size w w':=by
 rw [Nat.zero_add,List.nil_append] at hown
 refine ⟨hown,fun k hk=>?_,(zAD w _).trans ((Chg.of_grown hg).below (by simp) fun k hk e=>?_)⟩
 ·rcases hl with h | ⟨g,h,hge⟩
  ·rw [h] at hk
   cases hk
   exact Nat.le_refl _
  ·rw [h] at hk
   cases hk
   simp at hge
   omega
 ·have:=Option.some.inj e
  omega
def JouM.upto (M:JouM) (z:Int):Nat:=min (z - (M.number:Int)).toNat M.entries.length
section
variable {w1 w2:World} {j r:Nat} {pre:ByteArray} {D:zAB} {M:JouM} {Hot Cold:Nat→Prop}
theorem grp_min_yes {m k:Nat} {e:Ent} (he:M.entries[k]?=some e) (hk:e.kind=2) (hm:k+1≤m):M.grpIn (min (k+1) m)=(e.nodes,M.number+k+1):=by
 rw [Nat.min_eq_left hm]
 exact grpIn_yes he hk
theorem grp_min_no {m k:Nat} {e:Ent} (he:M.entries[k]?=some e) (h:e.kind≠2∨¬ k+1≤m):M.grpIn (min (k+1) m)=M.grpIn (min k m):=by
 by_cases hm:k+1≤m
 ·rw [Nat.min_eq_left hm,Nat.min_eq_left (by omega)]
  exact grpIn_no he (h.resolve_right fun h=>h hm)
 ·rw [Nat.min_eq_right (by omega),Nat.min_eq_right (by omega)]
theorem upto_all (M:JouM) {z:Int} (h:(M.last:Int)≤z):M.upto z=M.entries.length:=by
 unfold JouM.upto
 unfold JouM.last at h
 omega
end
abbrev RowT:=TypeId × Value × Nat × List Value
structure RowS (W1 W:World) (x:RowT):Prop where
 own:OwnR W x.1 1 x.2.1 x.2.2.1 x.2.2.2
 new:∀ k,x.2.1.ownBlock=some k→W1.heap.size≤k
def zBo (W1 W:World) (a b:Option RowT):Prop:=Below W1.heap.size W1 W∧(∀ x,a=some x→RowS W1 W x)∧(∀ y,b=some y→RowS W1 W y)∧∀ x y,a=some x→b=some y→∀ k,x.2.1.ownBlock=some k→y.2.1.ownBlock≠some k
section
variable {W1 W W':World} {a b:Option RowT} {e:TypeId} {v v':Value} {n m:Nat} {xs news:List Value}
theorem zBo.swap (h:zBo W1 W a b):zBo W1 W b a:=⟨h.1,h.2.2.1,h.2.1,fun x y hx hy k hk e=>h.2.2.2 y x hy hx k e hk⟩
theorem zBo.own (h:zBo W1 W (some (e,v,n,xs)) b):OwnR W e 1 v n xs:=(h.2.1 _ rfl).own
theorem zBo.new (h:zBo W1 W (some (e,v,n,xs)) b):∀ k,v.ownBlock=some k→W1.heap.size≤k:=(h.2.1 _ rfl).new
theorem zBo.alloc (h:zBo W1 W none b):zBo W1 (W.alloc (.cells #[] e)) (some (e,.slice (some ⟨W.heap.size,0,none⟩) 0 0,0,[])) b:=by
 have hb:=zAD W (.cells #[] e)
 refine ⟨h.1.trans (hb.mono h.1.size),fun x hx=>?_,fun y hy=>⟨OwnR.keep (h.2.2.1 y hy).own fun k hk=>hb.block k (OwnR.lt (h.2.2.1 y hy).own hk),(h.2.2.1 y hy).new⟩,fun x y hx hy k hk e2=>?_⟩
 ·cases hx
  refine ⟨zAz W e,fun k hk=>?_⟩
  have:=Option.some.inj hk
  have:=h.1.size
  dsimp only at *
  omega
 ·cases hx
  have h1:=OwnR.lt (h.2.2.1 y hy).own e2
  have h2:=Option.some.inj hk
  dsimp only at h2
  omega
theorem zBo.app (h:zBo W1 W (some (e,v,n,xs)) b) (hown:OwnR W' e 1 v' (n+m) (xs ++ news)) (hg:W.grownBy W' v.ownBlock) (hl:v'.ownBlock=v.ownBlock∨∃ g,v'.ownBlock=some g∧W.heap.size≤g) :
  zBo W1 W' (some (e,v',n+m,xs ++ news)) b:=by
 have hc:=Chg.of_grown hg
 refine ⟨h.1.trans (hc.below h.1.size fun k hk e2=>by have:=h.new k e2.symm;omega),fun x hx=>?_,fun y hy=>⟨OwnR.keep (h.2.2.1 y hy).own fun k hk=>hc.block k (OwnR.lt (h.2.2.1 y hy).own hk) fun e2=>h.2.2.2 _ y rfl hy k e2.symm hk,(h.2.2.1 y hy).new⟩,fun x y hx hy k hk e2=>?_⟩
 ·cases hx
  refine ⟨hown,fun k hk=>?_⟩
  rcases hl with h1 | ⟨g,h1,hge⟩
  ·exact h.new k (h1 ▸ hk)
  ·rw [h1] at hk
   cases hk
   exact Nat.le_trans h.1.size hge
 ·cases hx
  rcases hl with h1 | ⟨g,h1,hge⟩
  ·exact h.2.2.2 _ y rfl hy k (h1 ▸ hk) e2
  ·have h3:v'.ownBlock=some k:=hk
   rw [h1] at h3
   cases h3
   have:=OwnR.lt (h.2.2.1 y hy).own e2
   omega
end
def OwnTold (w:World) (e:Ent) (r:Ending) (w':World):Prop:=∃ v:EV,r=.returned (entV e v)∧zDg w' e v∧(∀ k,(v.1.ownBlock=some k∨v.2.ownBlock=some k)→w.heap.size≤k)∧Below w.heap.size w w'
abbrev entO (t k:Int) (v u:Value):Obj:=.cells #[.int .i64 t,.int .i64 k,v,u] 50 (0,0)
theorem zAu {W:World} {b:Nat} {t k:Int} {u v:Value} (h:W.heap[b]?=some (entO t k u v)):W.cell? ⟨b,0,none⟩=some (.int .i64 t)∧W.cell? ⟨b,1,none⟩=some (.int .i64 k)∧W.cell? ⟨b,2,none⟩=some u∧W.cell? ⟨b,3,none⟩=some v :=
 ⟨zAA h rfl,zAA h rfl,zAA h rfl,zAA h rfl⟩
theorem own_fin {w W1 W:World} {vA vB:Value} {da:Bs} {no:List Int} {t k:Int} {n1 n2:Nat} {O:Obj} (hR:W.heap[w.heap.size+1]?=some (entO 0 0 (.slice none 0 0) (.slice none 0 0))) (h:zBo W1 W (some (5,vA,n1,zAQ da)) (some (3,vB,n2,intsV no))) (hw:w.heap.size+2≤W1.heap.size∧n1=da.length∧n2=no.length) (hb:Below w.heap.size w W1) (hA:W.heap[w.heap.size]?=some O) :
  ((((W.setCell ⟨w.heap.size+1,0,none⟩ (.int .i64 t)).setCell ⟨w.heap.size+1,1,none⟩ (.int .i64 k)).setCell ⟨w.heap.size+1,2,none⟩ vA).setCell ⟨w.heap.size+1,3,none⟩ vB).heap[w.heap.size]?=some O ∧
  ((((W.setCell ⟨w.heap.size+1,0,none⟩ (.int .i64 t)).setCell ⟨w.heap.size+1,1,none⟩ (.int .i64 k)).setCell ⟨w.heap.size+1,2,none⟩ vA).setCell ⟨w.heap.size+1,3,none⟩ vB).heap[w.heap.size+1]?=some (entO t k vA vB) ∧
  OwnTold w ⟨t,k,da,no⟩ (.returned (.agg #[.int .i64 t,.int .i64 k,vA,vB])) ((((W.setCell ⟨w.heap.size+1,0,none⟩ (.int .i64 t)).setCell ⟨w.heap.size+1,1,none⟩ (.int .i64 k)).setCell ⟨w.heap.size+1,2,none⟩ vA).setCell ⟨w.heap.size+1,3,none⟩ vB):=by
 have hc:Chg (fun x=>x=w.heap.size+1) W ((((W.setCell ⟨w.heap.size+1,0,none⟩ (.int .i64 t)).setCell ⟨w.heap.size+1,1,none⟩ (.int .i64 k)).setCell ⟨w.heap.size+1,2,none⟩ vA).setCell ⟨w.heap.size+1,3,none⟩ vB):=(((Chg.setCell W ⟨w.heap.size+1,0,none⟩ _).trans (Chg.setCell _ ⟨w.heap.size+1,1,none⟩ _) fun _ _ e=>e).trans (Chg.setCell _ ⟨w.heap.size+1,2,none⟩ _) fun _ _ e=>e).trans (Chg.setCell _ ⟨w.heap.size+1,3,none⟩ _) fun _ _ e=>e
 obtain ⟨h1,rfl,rfl⟩:=hw
 have hs:=h.1.size
 have hbs:=hb.size
 refine ⟨(hc.block _ (zAC hA) (by omega)).trans hA,?_,(vA,vB),rfl,⟨OwnR.keep h.own fun x hx=>hc.block x (OwnR.lt h.own hx) fun e=>?_,OwnR.keep h.swap.own fun x hx=>hc.block x (OwnR.lt h.swap.own hx) fun e=>?_⟩,fun x hx=>?_,?_⟩
 ·have q1:=zAE hR 0 (.int .i64 t)
  have q2:=zAE q1 1 (.int .i64 k)
  have q3:=zAE q2 2 vA
  have q4:=zAE q3 3 vB
  simpa using q4
 ·have:=h.new x hx
  omega
 ·have:=h.swap.new x hx
  omega
 ·rcases hx with hx | hx
  ·have:=h.new x hx
   omega
  ·have:=h.swap.new x hx
   omega
 ·exact (hb.trans (h.1.mono hbs)).trans (hc.below (Nat.le_trans hbs hs) fun x hx e=>by omega)
theorem rown_calls {w:World} {e:Ent} {v:EV} (h:zBE w e v) (hd:e.data.length≤1000000000) (hn:e.nodes.length≤1000000000) :
  Calls Tryz.prog 115 #[entV e v] w (OwnTold w e):=by
 obtain ⟨i0,hi,hz0,hz1,hz2⟩:=info_parts (show (Tryz.prog.info? 5).map (fun i=>(i.zero,i.size,i.bytes))=some (some (.int .u8 0),1,1) by kernel_rfl)
 obtain ⟨i1,hi1,hz10,hz11,hz12⟩:=info_parts (show (Tryz.prog.info? 3).map (fun i=>(i.zero,i.size,i.bytes))=some (some (.int .i64 0),1,8) by kernel_rfl)
 obtain ⟨t,k,da,no⟩:=e
 obtain ⟨v1,v2⟩:=v
 obtain ⟨p1,c1,e1⟩:=h.data.slice
 obtain ⟨p2,c2,e2⟩:=h.nodes.slice
 have e1:v1=.slice p1 da.length c1:=e1
 have e2:v2=.slice p2 no.length c2:=e2
 subst e1
 subst e2
 dsimp only at hd hn
 have Hh:=zh h
 clear h
 unfold entV
 dsimp only
 have hA0:((w.alloc (entO t k (.slice p1 da.length c1) (.slice p2 no.length c2))).alloc (entO 0 0 (.slice none 0 0) (.slice none 0 0))).heap[w.heap.size]?=some (entO t k (.slice p1 da.length c1) (.slice p2 no.length c2)):=zAt _ (zAI w _)
 have hR0:((w.alloc (entO t k (.slice p1 da.length c1) (.slice p2 no.length c2))).alloc (entO 0 0 (.slice none 0 0) (.slice none 0 0))).heap[w.heap.size+1]?=some (entO 0 0 (.slice none 0 0) (.slice none 0 0)):=by
  have:=zAI (w.alloc (entO t k (.slice p1 da.length c1) (.slice p2 no.length c2))) (entO 0 0 (.slice none 0 0) (.slice none 0 0))
  simpa using this
 have hsz:((w.alloc (entO t k (.slice p1 da.length c1) (.slice p2 no.length c2))).alloc (entO 0 0 (.slice none 0 0) (.slice none 0 0))).heap.size=w.heap.size+2:=by simp
 have hb:Below w.heap.size w ((w.alloc (entO t k (.slice p1 da.length c1) (.slice p2 no.length c2))).alloc (entO 0 0 (.slice none 0 0) (.slice none 0 0))):=(zAD w _).alloc (by simp) _
 generalize hn1:da.length=n1 at *
 generalize hn2:no.length=n2 at *
 have Hn1:=zh hn1
 have Hn2:=zh hn2
 clear hn1 hn2
 go_enter Tryz.func115,Tryz.ntmps115
 go_wp2_with fail
 have hb2:Below w.heap.size w (((w.alloc (entO t k (.slice p1 n1 c1) (.slice p2 n2 c2))).alloc (entO 0 0 (.slice none 0 0) (.slice none 0 0))).drew):=hb.trans ⟨rfl,rfl,rfl,Nat.le_refl _,fun _ _=>rfl⟩
 generalize (w.alloc (entO t k (.slice p1 n1 c1) (.slice p2 n2 c2))).alloc (entO 0 0 (.slice none 0 0) (.slice none 0 0))=W at *
 have hRes:=zh (show ∀ W',Below W.drew.heap.size W.drew W'→W'.heap[w.heap.size+1]?=some (entO 0 0 (.slice none 0 0) (.slice none 0 0)) from fun W' hb3=>(hb3.block _ (zAC hR0)).trans hR0)
 have Hb:=zh hb2
 have Hd:=zh (show ∀ W',Below W.drew.heap.size W.drew W'→zAL W' 1 (.slice p1 n1 c1) n1 (zAQ da) from fun W' hb3=>by
  have h1:=HasB.below Hh.out.data (hb2.trans (hb3.mono hb2.size))
  have h1:zAL W' 1 (.slice p1 n1 c1) da.length (zAQ da):=h1
  rwa [Hn1.out] at h1)
 have Hn:=zh (show ∀ W',Below W.drew.heap.size W.drew W'→zAL W' 1 (.slice p2 n2 c2) n2 (intsV no) from fun W' hb3=>by
  have h1:HasI W' (.slice p2 n2 c2) no:=zAL.chg Hh.out.nodes (Chg.of_below (hb2.trans (hb3.mono hb2.size))) fun _ _=>id
  have h1:zAL W' 1 (.slice p2 n2 c2) no.length (intsV no):=h1
  rwa [Hn2.out] at h1)
 have Hsz:=zh (show w.heap.size+2≤W.drew.heap.size∧n1=da.length∧n2=no.length from ⟨Nat.le_of_eq hsz.symm,Hn1.out.symm,Hn2.out.symm⟩)
 have T1:=zh (show zBo W.drew W.drew none none from ⟨Below.refl _ _,fun x hx=>(by cases hx),fun x hx=>(by cases hx),fun x y hx=>(by cases hx)⟩)
 have H1:=zh (show W.drew.heap[w.heap.size]?=some (entO t k (.slice p1 n1 c1) (.slice p2 n2 c2)) from hA0)
 have hA:=hA0
 clear hb hb2 hR0 hA0 hsz Hh
 refine zAT (fun w':World=>w'.cell? ⟨w.heap.size,0,none⟩=some (.int .i64 t)∧w'.cell? ⟨w.heap.size,1,none⟩=some (.int .i64 k)∧w'.cell? ⟨w.heap.size,2,none⟩=some (.slice p1 n1 c1)∧w'.cell? ⟨w.heap.size,3,none⟩=some (.slice p2 n2 c2)) (n:=14) (by kernel_rfl) rfl (zAu hA) (fun hHeld=>?_)
 generalize W.drew=W1 at *
 refine otk 0 (v:=?v1x0) rfl ?_
 simp only [Act.put,uA,uB,uC]
 refine otk 1 (v:=?v1x1) rfl ?_
 simp only [Act.put,uA,uB,uC]
 refine otk 2 (v:=?v1x2) rfl ?_
 simp only [Act.put,uA,uB,uC]
 refine otk 3 (v:=?v1x3) rfl ?_
 simp only [Act.put,uA,uB,uC]
 refine otk 5 (v:=?v1x5) rfl ?_
 simp only [Act.put,uA,uB,uC]
 refine otk 6 (v:=?v1x6) rfl ?_
 simp only [Act.put,uA,uB,uC]
 refine otk 9 (v:=?v1x9) rfl ?_
 simp only [Act.put,uA,uB,uC]
 refine otk 10 (v:=?v1x10) rfl ?_
 simp only [Act.put,uA,uB,uC]
 refine zCV 4 8 rfl rfl (by kernel_rfl) (by rfl) (by rfl) (fun K hK=>?_) (fun K hK=>?_)
 ·have T2:=zh (T1.out.alloc (e:=5))
  have H2:=zh (((zAD W1 (.cells #[] 5)).block w.heap.size (zAC H1.out)).trans H1.out)
  obtain ⟨gA,hgA⟩:∃ gA,gA=W1.heap.size:=⟨_,rfl⟩
  rw [← hgA] at T2
  go_wp2_with fail
  try rw [← hgA]
  refine hK.out _ _ (zAu H2.out) (fun hHeld=>?_)
  clear hK
  try simp only [Act.put,uA,uB,uC]
  generalize W1.alloc (.cells #[] 5)=W2 at *
  clear hgA H1 T1
  refine zCV 7 8 rfl rfl (by kernel_rfl) (by rfl) (by rfl) (fun K hK=>?_) (fun K hK=>?_)
  ·have HO2:=zh (T2.out.own)
   have HX2:=zh (Hd.out _ T2.out.1)
   refine zAj (.tmp 7) (.tmp 9) 22 rfl 5 i0 (.int .u8 0) 1 1 Tryz.underlying22 hi hz0 hz1 hz2 rfl (by decide) (.slice (some ⟨gA,0,none⟩) 0 0) 0 [] rfl HO2.out (.slice p1 n1 c1) n1 _ rfl HX2.out (zAM _) (by unfold maxLen;omega) (by omega) ?_
   intro vA W3 hown hgrow hloc
   have T3:=zh (T2.out.app hown hgrow hloc)
   have H3:=zh (((Chg.of_grown hgrow).block w.heap.size (zAC H2.out) (fun e=>by have h1:=T2.out.new _ e.symm;have:=Hsz.out.1;omega)).trans H2.out)
   clear hown hgrow hloc
   go_wp2_with fail
   refine hK.out _ _ (zAu H3.out) (fun hHeld=>?_)
   clear hK
   try simp only [Act.put,uA,uB,uC]
   clear HO2 HX2 T2 H2
   refine zAG 8 rfl (by kernel_rfl) (by rfl) (fun K hK=>?_)
   have T4:=zh ((T3.out.swap.alloc (e:=3)).swap)
   have H4:=zh (((zAD W3 (.cells #[] 3)).block w.heap.size (zAC H3.out)).trans H3.out)
   obtain ⟨gB,hgB⟩:∃ gB,gB=W3.heap.size:=⟨_,rfl⟩
   rw [← hgB] at T4
   go_wp2_with fail
   try rw [← hgB]
   refine hK.out _ _ (zAu H4.out) (fun hHeld=>?_)
   clear hK
   try simp only [Act.put,uA,uB,uC]
   generalize W3.alloc (.cells #[] 3)=W4 at *
   clear hgB H3 T3
   refine zAG 11 rfl (by kernel_rfl) (by rfl) (fun K hK=>?_)
   have HO4:=zh (T4.out.swap.own)
   have HX4:=zh (Hn.out _ T4.out.1)
   refine zAj (.tmp 11) (.tmp 13) 38 rfl 3 i1 (.int .i64 0) 1 8 Tryz.underlying38 hi1 hz10 hz11 hz12 rfl (by decide) (.slice (some ⟨gB,0,none⟩) 0 0) 0 [] rfl HO4.out (.slice p2 n2 c2) n2 _ rfl HX4.out (fun u hu=>by obtain ⟨z,-,rfl⟩:=List.mem_map.1 hu;rfl) (by unfold maxLen;omega) (by omega) ?_
   intro vB W5 hown hgrow hloc
   have T5:=zh ((T4.out.swap.app hown hgrow hloc).swap)
   have H5:=zh (((Chg.of_grown hgrow).block w.heap.size (zAC H4.out) (fun e=>by have h1:=T4.out.swap.new _ e.symm;have:=Hsz.out.1;omega)).trans H4.out)
   clear hown hgrow hloc
   go_wp2_with fail
   refine hK.out _ _ (zAu H5.out) (fun hHeld=>?_)
   clear hK
   try simp only [Act.put,uA,uB,uC]
   clear HO4 HX4 T4 H4
   obtain ⟨pA,cA,eA⟩:=OwnR.shape T5.out.own
   obtain ⟨pB,cB,eB⟩:=OwnR.shape T5.out.swap.own
   rw [Nat.zero_add] at eA eB
   subst eA
   subst eB
   refine otk 12 (v:=?v150x12) rfl ?_
   simp only [Act.put,uA,uB,uC]
   refine zAG 13 rfl (by kernel_rfl) (by rfl) (fun K hK=>?_)
   have hR:=hRes.out _ T5.out.1
   have r0:=zAA hR (i:=0) rfl
   have r1:=zAA hR (i:=1) rfl
   have r2:=zAA hR (i:=2) rfl
   have r3:=zAA hR (i:=3) rfl
   have rf:=fun i=>zAF hR i
   have TF:=T5.out
   simp only [Nat.zero_add,List.nil_append] at TF
   have HF:=zh (own_fin hR TF Hsz.out Hb.out H5.out (t:=t) (k:=k))
   clear hR TF
   go_wp2_with fail
   refine hK.out _ _ (zAu HF.out.1) (fun hHeld=>?_)
   clear hK
   try simp only [Act.put,uA,uB,uC]
   refine wpAnyH_done (by kernel_rfl) ?_ _
   go_wp2_with fail
   (try simp only [Exit.inBlock,Exit.then])
   refine bodyPost_ret (results_cell_row rfl _ _ (w.heap.size+1) _ _ (0,0) _ rfl HF.out.2.1 Tryz.underlying50 rfl (by kernel_rfl)) rfl ?_
   exact HF.out.2.2
  ·have T3:=zh ((T2.out.swap.alloc (e:=3)).swap)
   have H3:=zh (((zAD W2 (.cells #[] 3)).block w.heap.size (zAC H2.out)).trans H2.out)
   obtain ⟨gB,hgB⟩:∃ gB,gB=W2.heap.size:=⟨_,rfl⟩
   rw [← hgB] at T3
   go_wp2_with fail
   try rw [← hgB]
   refine hK.out _ _ (zAu H3.out) (fun hHeld=>?_)
   clear hK
   try simp only [Act.put,uA,uB,uC]
   generalize W2.alloc (.cells #[] 3)=W3 at *
   clear hgB H2 T2
   refine zAG 7 rfl (by kernel_rfl) (by rfl) (fun K hK=>?_)
   have HO3:=zh (T3.out.own)
   have HX3:=zh (Hd.out _ T3.out.1)
   refine zAj (.tmp 7) (.tmp 9) 22 rfl 5 i0 (.int .u8 0) 1 1 Tryz.underlying22 hi hz0 hz1 hz2 rfl (by decide) (.slice (some ⟨gA,0,none⟩) 0 0) 0 [] rfl HO3.out (.slice p1 n1 c1) n1 _ rfl HX3.out (zAM _) (by unfold maxLen;omega) (by omega) ?_
   intro vA W4 hown hgrow hloc
   have T4:=zh (T3.out.app hown hgrow hloc)
   have H4:=zh (((Chg.of_grown hgrow).block w.heap.size (zAC H3.out) (fun e=>by have h1:=T3.out.new _ e.symm;have:=Hsz.out.1;omega)).trans H3.out)
   clear hown hgrow hloc
   go_wp2_with fail
   refine hK.out _ _ (zAu H4.out) (fun hHeld=>?_)
   clear hK
   try simp only [Act.put,uA,uB,uC]
   clear HO3 HX3 T3 H3
   refine zAG 11 rfl (by kernel_rfl) (by rfl) (fun K hK=>?_)
   have HO4:=zh (T4.out.swap.own)
   have HX4:=zh (Hn.out _ T4.out.1)
   refine zAj (.tmp 11) (.tmp 13) 38 rfl 3 i1 (.int .i64 0) 1 8 Tryz.underlying38 hi1 hz10 hz11 hz12 rfl (by decide) (.slice (some ⟨gB,0,none⟩) 0 0) 0 [] rfl HO4.out (.slice p2 n2 c2) n2 _ rfl HX4.out (fun u hu=>by obtain ⟨z,-,rfl⟩:=List.mem_map.1 hu;rfl) (by unfold maxLen;omega) (by omega) ?_
   intro vB W5 hown hgrow hloc
   have T5:=zh ((T4.out.swap.app hown hgrow hloc).swap)
   have H5:=zh (((Chg.of_grown hgrow).block w.heap.size (zAC H4.out) (fun e=>by have h1:=T4.out.swap.new _ e.symm;have:=Hsz.out.1;omega)).trans H4.out)
   clear hown hgrow hloc
   go_wp2_with fail
   refine hK.out _ _ (zAu H5.out) (fun hHeld=>?_)
   clear hK
   try simp only [Act.put,uA,uB,uC]
   clear HO4 HX4 T4 H4
   obtain ⟨pA,cA,eA⟩:=OwnR.shape T5.out.own
   obtain ⟨pB,cB,eB⟩:=OwnR.shape T5.out.swap.own
   rw [Nat.zero_add] at eA eB
   subst eA
   subst eB
   refine otk 12 (v:=?v151x12) rfl ?_
   simp only [Act.put,uA,uB,uC]
   refine zAG 13 rfl (by kernel_rfl) (by rfl) (fun K hK=>?_)
   have hR:=hRes.out _ T5.out.1
   have r0:=zAA hR (i:=0) rfl
   have r1:=zAA hR (i:=1) rfl
   have r2:=zAA hR (i:=2) rfl
   have r3:=zAA hR (i:=3) rfl
   have rf:=fun i=>zAF hR i
   have TF:=T5.out
   simp only [Nat.zero_add,List.nil_append] at TF
   have HF:=zh (own_fin hR TF Hsz.out Hb.out H5.out (t:=t) (k:=k))
   clear hR TF
   go_wp2_with fail
   refine hK.out _ _ (zAu HF.out.1) (fun hHeld=>?_)
   clear hK
   try simp only [Act.put,uA,uB,uC]
   refine wpAnyH_done (by kernel_rfl) ?_ _
   go_wp2_with fail
   (try simp only [Exit.inBlock,Exit.then])
   refine bodyPost_ret (results_cell_row rfl _ _ (w.heap.size+1) _ _ (0,0) _ rfl HF.out.2.1 Tryz.underlying50 rfl (by kernel_rfl)) rfl ?_
   exact HF.out.2.2
 ·have T2:=zh ((T1.out.swap.alloc (e:=3)).swap)
  have H2:=zh (((zAD W1 (.cells #[] 3)).block w.heap.size (zAC H1.out)).trans H1.out)
  obtain ⟨gB,hgB⟩:∃ gB,gB=W1.heap.size:=⟨_,rfl⟩
  rw [← hgB] at T2
  go_wp2_with fail
  try rw [← hgB]
  refine hK.out _ _ (zAu H2.out) (fun hHeld=>?_)
  clear hK
  try simp only [Act.put,uA,uB,uC]
  generalize W1.alloc (.cells #[] 3)=W2 at *
  clear hgB H1 T1
  refine zAG 4 rfl (by kernel_rfl) (by rfl) (fun K hK=>?_)
  have T3:=zh (T2.out.alloc (e:=5))
  have H3:=zh (((zAD W2 (.cells #[] 5)).block w.heap.size (zAC H2.out)).trans H2.out)
  obtain ⟨gA,hgA⟩:∃ gA,gA=W2.heap.size:=⟨_,rfl⟩
  rw [← hgA] at T3
  go_wp2_with fail
  try rw [← hgA]
  refine hK.out _ _ (zAu H3.out) (fun hHeld=>?_)
  clear hK
  try simp only [Act.put,uA,uB,uC]
  generalize W2.alloc (.cells #[] 5)=W3 at *
  clear hgA H2 T2
  refine zAG 7 rfl (by kernel_rfl) (by rfl) (fun K hK=>?_)
  have HO3:=zh (T3.out.own)
  have HX3:=zh (Hd.out _ T3.out.1)
  refine zAj (.tmp 7) (.tmp 9) 22 rfl 5 i0 (.int .u8 0) 1 1 Tryz.underlying22 hi hz0 hz1 hz2 rfl (by decide) (.slice (some ⟨gA,0,none⟩) 0 0) 0 [] rfl HO3.out (.slice p1 n1 c1) n1 _ rfl HX3.out (zAM _) (by unfold maxLen;omega) (by omega) ?_
  intro vA W4 hown hgrow hloc
  have T4:=zh (T3.out.app hown hgrow hloc)
  have H4:=zh (((Chg.of_grown hgrow).block w.heap.size (zAC H3.out) (fun e=>by have h1:=T3.out.new _ e.symm;have:=Hsz.out.1;omega)).trans H3.out)
  clear hown hgrow hloc
  go_wp2_with fail
  refine hK.out _ _ (zAu H4.out) (fun hHeld=>?_)
  clear hK
  try simp only [Act.put,uA,uB,uC]
  clear HO3 HX3 T3 H3
  refine zAG 11 rfl (by kernel_rfl) (by rfl) (fun K hK=>?_)
  have HO4:=zh (T4.out.swap.own)
  have HX4:=zh (Hn.out _ T4.out.1)
  refine zAj (.tmp 11) (.tmp 13) 38 rfl 3 i1 (.int .i64 0) 1 8 Tryz.underlying38 hi1 hz10 hz11 hz12 rfl (by decide) (.slice (some ⟨gB,0,none⟩) 0 0) 0 [] rfl HO4.out (.slice p2 n2 c2) n2 _ rfl HX4.out (fun u hu=>by obtain ⟨z,-,rfl⟩:=List.mem_map.1 hu;rfl) (by unfold maxLen;omega) (by omega) ?_
  intro vB W5 hown hgrow hloc
  have T5:=zh ((T4.out.swap.app hown hgrow hloc).swap)
  have H5:=zh (((Chg.of_grown hgrow).block w.heap.size (zAC H4.out) (fun e=>by have h1:=T4.out.swap.new _ e.symm;have:=Hsz.out.1;omega)).trans H4.out)
  clear hown hgrow hloc
  go_wp2_with fail
  refine hK.out _ _ (zAu H5.out) (fun hHeld=>?_)
  clear hK
  try simp only [Act.put,uA,uB,uC]
  clear HO4 HX4 T4 H4
  obtain ⟨pA,cA,eA⟩:=OwnR.shape T5.out.own
  obtain ⟨pB,cB,eB⟩:=OwnR.shape T5.out.swap.own
  rw [Nat.zero_add] at eA eB
  subst eA
  subst eB
  refine otk 12 (v:=?v152x12) rfl ?_
  simp only [Act.put,uA,uB,uC]
  refine zAG 13 rfl (by kernel_rfl) (by rfl) (fun K hK=>?_)
  have hR:=hRes.out _ T5.out.1
  have r0:=zAA hR (i:=0) rfl
  have r1:=zAA hR (i:=1) rfl
  have r2:=zAA hR (i:=2) rfl
  have r3:=zAA hR (i:=3) rfl
  have rf:=fun i=>zAF hR i
  have TF:=T5.out
  simp only [Nat.zero_add,List.nil_append] at TF
  have HF:=zh (own_fin hR TF Hsz.out Hb.out H5.out (t:=t) (k:=k))
  clear hR TF
  go_wp2_with fail
  refine hK.out _ _ (zAu HF.out.1) (fun hHeld=>?_)
  clear hK
  try simp only [Act.put,uA,uB,uC]
  refine wpAnyH_done (by kernel_rfl) ?_ _
  go_wp2_with fail
  (try simp only [Exit.inBlock,Exit.then])
  refine bodyPost_ret (results_cell_row rfl _ _ (w.heap.size+1) _ _ (0,0) _ rfl HF.out.2.1 Tryz.underlying50 rfl (by kernel_rfl)) rfl ?_
  exact HF.out.2.2
theorem rbytes_le (R:Rd):R.bytes.1.length≤R.rest.length:=by
 have h:=zCn 1 R
 rw [show (Rd.ints 1 R).2=R.num.2 from rfl] at h
 rw [show R.bytes=R.num.2.raw R.num.1 from rfl]
 unfold Rd.raw
 split
 ·simp only [List.length_take]
  omega
 ·exact Nat.zero_le _
theorem set4_block {W:World} {b:Nat} {a0 a1 a2 a3:Value} {e:TypeId} {fr:Nat × Nat} (h:W.heap[b]?=some (.cells #[a0,a1,a2,a3] e fr)) (x0 x1 x2 x3:Value) :
  ((((W.setCell ⟨b,0,none⟩ x0).setCell ⟨b,1,none⟩ x1).setCell ⟨b,2,none⟩ x2).setCell ⟨b,3,none⟩ x3).heap[b]?=some (.cells #[x0,x1,x2,x3] e fr):=by
 have q1:=zAE h 0 x0
 have q2:=zAE q1 1 x1
 have q3:=zAE q2 2 x2
 have q4:=zAE q3 3 x3
 simpa using q4
theorem set4_chg (W:World) (b:Nat) (x0 x1 x2 x3:Value):Chg (fun k=>k=b) W ((((W.setCell ⟨b,0,none⟩ x0).setCell ⟨b,1,none⟩ x1).setCell ⟨b,2,none⟩ x2).setCell ⟨b,3,none⟩ x3) :=
 (((Chg.setCell W ⟨b,0,none⟩ x0).trans (Chg.setCell _ ⟨b,1,none⟩ x1) fun _ _ e=>e).trans (Chg.setCell _ ⟨b,2,none⟩ x2) fun _ _ e=>e).trans (Chg.setCell _ ⟨b,3,none⟩ x3) fun _ _ e=>e
def REntTold (A:Nat→Prop) (w:World) (r:Nat) (R:Rd) (x:Ending) (w':World):Prop :=
 ∃ (e:Ent) (v:EV) (R':Rd),x=.returned (entV e v)∧REntR R e R'∧zBE w' e v∧(∀ k,(v.1.ownBlock=some k∨v.2.ownBlock=some k)→w.heap.size≤k∧k < w'.heap.size)∧RdY A w' r R'∧Chg (fun k=>k=r) w w'
theorem rent_fin {A:Nat→Prop} {w W:World} {r:Nat} {R R':Rd} {e:Ent} {v:EV} (hc:Chg (fun k=>k=r) w W) (hr:r < w.heap.size) (hA:∀ k,A k→k < w.heap.size∧k≠r) (hrd:RdY A W r R') (hE:zBE W e v) (hn:∀ k,(v.1.ownBlock=some k∨v.2.ownBlock=some k)→w.heap.size < k∧k < W.heap.size) (hR:REntR R e R') (x0 x1 x2 x3:Value) :
  REntTold A w r R (.returned (entV e v)) ((((W.setCell ⟨w.heap.size,0,none⟩ x0).setCell ⟨w.heap.size,1,none⟩ x1).setCell ⟨w.heap.size,2,none⟩ x2).setCell ⟨w.heap.size,3,none⟩ x3):=by
 have hs:=set4_chg W w.heap.size x0 x1 x2 x3
 have hsz:=hs.size
 refine ⟨e,v,R',rfl,hR,⟨HasB.chg hE.data hs fun k hk e=>?_,zAL.chg hE.nodes hs fun k hk e=>?_,hE.dl,hE.nl⟩,fun k hk=>⟨Nat.le_of_lt (hn k hk).1,Nat.lt_of_lt_of_le (hn k hk).2 hsz⟩,hrd.chg hs (fun e=>by omega) (fun k hk e=>by have:=(hA k hk).1;omega),?_⟩
 ·have:=(hn k (.inl hk)).1
  omega
 ·have:=(hn k (.inr hk)).1
  omega
 ·exact ⟨hs.os.trans hc.os,hs.tape.trans hc.tape,hs.output.trans hc.output,Nat.le_trans hc.size hs.size,fun k hk hne=>(hs.block k (Nat.lt_of_lt_of_le hk hc.size) (by omega)).trans (hc.block k hk hne)⟩
theorem rrdent_calls {w:World} {r:Nat} {R:Rd} {A:Nat→Prop} (h:RdY A w r R) (hA:∀ k,A k→k < w.heap.size∧k≠r) (hl:R.rest.length≤1073741824) :
  Calls Tryz.prog 166 #[.pointer (some ⟨r,0,none⟩)] w (REntTold A w r R):=by
 have hrl:=h.lt
 have hb0:=zAD w (.cells #[.int .i64 0,.int .i64 0,.slice none 0 0,.slice none 0 0] 50)
 have Hz0:=zh (zAI w (.cells #[.int .i64 0,.int .i64 0,.slice none 0 0,.slice none 0 0] 50))
 have hsz0:(w.alloc (.cells #[.int .i64 0,.int .i64 0,.slice none 0 0,.slice none 0 0] 50)).heap.size=w.heap.size+1:=by simp
 have Hn1:=zh (zAv (h.below hb0))
 have HA:=zh hA
 have HB0:=zh hb0
 have Hl:=zh (show R.num.2.num.2.bytes.1.length≤1073741824 from Nat.le_trans (rbytes_le _) (Nat.le_trans (zCn 2 R) hl))
 have hm1:=Rd.num_le R
 have hm2:=Rd.num_le R.num.2
 have HRR:=zh (show ∀ l R5 e R',RLst R.num.2.num.2.bytes.2 l R5→e=⟨(R.num.1:Int),(R.num.2.num.1:Int),R.num.2.num.2.bytes.1,l⟩→R'=(if R5.bad=false∧zAs e=false then Rd.fail else R5)→REntR R e R' from fun l R5 e R' a b c=>⟨l,R5,a,b,c⟩)
 clear h hA hl hb0
 go_enter Tryz.func166,Tryz.ntmps166
 go_wp2_with fail
 generalize hW0:w.alloc (.cells #[.int .i64 0,.int .i64 0,.slice none 0 0,.slice none 0 0] 50)=W0 at *
 clear hW0
 refine Hn1.out.mono ?_
 rintro e w1 ⟨rfl,hr1,hc1⟩
 have Hn2:=zh (zAv hr1)
 have Hc1:=zh hc1
 clear hr1 hc1 Hn1
 go_wp2_with fail
 refine Hn2.out.mono ?_
 rintro e w2 ⟨rfl,hr2,hc2⟩
 have Hby:=zh (zEw hr2)
 have Hc2:=zh (Hc1.out.trans hc2 fun _ _ e=>e)
 clear hr2 hc2 Hn2 Hc1
 go_wp2_with fail
 refine Hby.out.mono ?_
 rintro e w3 ⟨vd,rfl,hvd,hnd,hr3,hc3⟩
 have hs2:=Hc2.out.size
 have Hc3:=zh (Hc2.out.trans hc3 fun _ _ e=>e)
 have hs3:=Hc3.out.size
 have Hls:=zh (rlst_calls hr3 fun k hk=>⟨by have:=(HA.out k hk).1;omega,(HA.out k hk).2⟩)
 have HVD:=zh (And.intro hvd (show ∀ k,vd.ownBlock=some k→w.heap.size < k from fun k hk=>by have:=hnd k hk;omega))
 clear hvd hnd hr3 hc3 Hby Hc2
 go_wp2_with fail
 refine Hls.out.mono ?_
 rintro e w4 ⟨vl,l,R5,rfl,hR5,hvl,hnl,hl18,hlz,hr4,hc4⟩
 have Hc4:=zh (Hc3.out.trans hc4 fun _ _ e=>e)
 have hvd4:=OwnR.keep HVD.out.1 fun k hk=>hc4.block k (OwnR.lt HVD.out.1 hk) fun e=>by have:=HVD.out.2 k hk;omega
 have HVL:=zh (And.intro hvl (show ∀ k,vl.ownBlock=some k→w.heap.size < k from fun k hk=>by have:=hnl k hk;omega))
 have HEH:=zh (show zBE w4 ⟨(R.num.1:Int),(R.num.2.num.1:Int),R.num.2.num.2.bytes.1,l⟩ (vd,vl) from ⟨OwnB.has hvd4,OwnI.has hvl,Nat.le_trans Hl.out (by decide),Nat.le_trans hl18 (by decide)⟩)
 have HEN:=zh (show ∀ k,(vd.ownBlock=some k∨vl.ownBlock=some k)→w.heap.size < k∧k < w4.heap.size from fun k hk=>hk.elim (fun h=>⟨HVD.out.2 k h,OwnR.lt hvd4 h⟩) fun h=>⟨HVL.out.2 k h,OwnR.lt hvl h⟩)
 have HRE:=zh (fun R' (hR':R'=if R5.bad=false∧zAs ⟨(R.num.1:Int),(R.num.2.num.1:Int),R.num.2.num.2.bytes.1,l⟩=false then Rd.fail else R5)=>HRR.out l R5 ⟨(R.num.1:Int),(R.num.2.num.1:Int),R.num.2.num.2.bytes.1,l⟩ R' hR5 rfl hR')
 obtain ⟨pd,cd,rfl,-⟩:=zAO HVD.out.1
 obtain ⟨pl,cl,rfl,-⟩:=zAl hvl
 have HR4:=zh hr4
 have Hz4:=zh ((Hc4.out.block w.heap.size (by omega) (by omega)).trans Hz0.out)
 have hs4:=Hc4.out.size
 clear hvd4 hvl hnl hl18 hlz hr4 hc4 Hls HVD HVL HRR Hl hR5 hs2 hs3
 generalize R.num.2.num.2.bytes.1=bd at *
 generalize hnd:bd.length=nd at *
 generalize hnl:l.length=nl at *
 clear hnd hnl
 generalize R.num.1=t at *
 generalize R.num.2.num.1=kd at *
 have HbE:=zh (zAD w4 (.cells #[.int .i64 (t:Int),.int .i64 (kd:Int),.slice pd nd cd,.slice pl nl cl] 50))
 have HqE:=zh (zAI w4 (.cells #[.int .i64 (t:Int),.int .i64 (kd:Int),.slice pd nd cd,.slice pl nl cl] 50))
 have HR5:=zh (HR4.out.below HbE.out)
 have HZ5:=zh ((HbE.out.block w.heap.size (zAC Hz4.out)).trans Hz4.out)
 have HEH5:=zh (HEH.out.below HbE.out)
 have HC5:=zh (Hc4.out.trans ((Chg.of_below HbE.out).mono (T:=fun k=>k=r) fun _ _ e=>e.elim) fun _ _ e=>e)
 have HC5w:=zh (show Chg (fun k=>k=r) w (w4.alloc (.cells #[.int .i64 (t:Int),.int .i64 (kd:Int),.slice pd nd cd,.slice pl nl cl] 50)) from ((Chg.of_below HB0.out).mono (T:=fun k=>k=r) fun _ _ e=>e.elim).trans HC5.out fun _ _ e=>e)
 have HEN5:=zh (show ∀ k,((Value.slice pd nd cd).ownBlock=some k∨(Value.slice pl nl cl).ownBlock=some k)→w.heap.size < k∧k < (w4.alloc (.cells #[.int .i64 (t:Int),.int .i64 (kd:Int),.slice pd nd cd,.slice pl nl cl] 50)).heap.size from fun k hk=>⟨(HEN.out k hk).1,Nat.lt_of_lt_of_le (HEN.out k hk).2 HbE.out.size⟩)
 have c1:=HR5.out.c1
 have qE0:=zAA HqE.out (i:=0) rfl
 have qE1:=zAA HqE.out (i:=1) rfl
 have qE2:=zAA HqE.out (i:=2) rfl
 have qE3:=zAA HqE.out (i:=3) rfl
 clear HB0 HC5 Hc4 HEH HEN HR4 Hz4 Hz0
 cases hb:R5.bad with
 | true =>
  rw [hb] at c1
  have HF:=zh (rent_fin HC5w.out hrl HA.out HR5.out HEH5.out HEN5.out (HRE.out R5 (by rw [hb];rfl)) (.int .i64 (t:Int)) (.int .i64 (kd:Int)) (.slice pd nd cd) (.slice pl nl cl))
  have HZ:=zh (set4_block HZ5.out (.int .i64 (t:Int)) (.int .i64 (kd:Int)) (.slice pd nd cd) (.slice pl nl cl))
  have r0:=zAA HZ5.out (i:=0) rfl
  have r1:=zAA HZ5.out (i:=1) rfl
  have r2:=zAA HZ5.out (i:=2) rfl
  have r3:=zAA HZ5.out (i:=3) rfl
  have fr:=zAF HZ5.out
  clear hb
  go_wp2_with fail
  (try simp only [Exit.inBlock,Exit.then])
  refine bodyPost_ret (results_cell_row rfl _ _ w.heap.size _ _ (0,0) _ rfl HZ.out Tryz.underlying50 rfl (by kernel_rfl)) rfl ?_
  exact HF.out
 | false =>
  rw [hb] at c1
  have Hb:=zh hb
  have HIs:=zh (ris_calls HEH5.out)
  unfold entV at HIs
  dsimp only at HIs
  have HRE:=zh (fun R' (hR':R'=if zAs ⟨(t:Int),(kd:Int),bd,l⟩=false then Rd.fail else R5)=>HRE.out R' (by rw [hR',hb];simp))
  clear hb
  cases hie:zAs ⟨(t:Int),(kd:Int),bd,l⟩ with
  | true =>
   rw [hie] at HIs
   have HRe:=zh (HRE.out R5 (by rw [hie];rfl))
   clear hie
   go_wp2_with fail
   generalize w4.heap.size=bE at *
   generalize w4.alloc (.cells #[.int .i64 (t:Int),.int .i64 (kd:Int),.slice pd nd cd,.slice pl nl cl] 50)=W5 at *
   refine HIs.out.mono ?_
   rintro e w6 ⟨rfl,hb6⟩
   have HR6:=HR5.out.below hb6
   have HZ6:=zh ((hb6.block w.heap.size (zAC HZ5.out)).trans HZ5.out)
   have hq6:=(hb6.block bE (zAC HqE.out)).trans HqE.out
   have HF:=zh (rent_fin (HC5w.out.trans ((Chg.of_below hb6).mono (T:=fun k=>k=r) fun _ _ e=>e.elim) fun _ _ e=>e) hrl HA.out HR6 (HEH5.out.below hb6) (fun k hk=>⟨(HEN5.out k hk).1,Nat.lt_of_lt_of_le (HEN5.out k hk).2 hb6.size⟩) HRe.out (.int .i64 (t:Int)) (.int .i64 (kd:Int)) (.slice pd nd cd) (.slice pl nl cl))
   have HZ:=zh (set4_block HZ6.out (.int .i64 (t:Int)) (.int .i64 (kd:Int)) (.slice pd nd cd) (.slice pl nl cl))
   have r0:=zAA HZ6.out (i:=0) rfl
   have r1:=zAA HZ6.out (i:=1) rfl
   have r2:=zAA HZ6.out (i:=2) rfl
   have r3:=zAA HZ6.out (i:=3) rfl
   have fr:=zAF HZ6.out
   have u0:=zAA hq6 (i:=0) rfl
   have u1:=zAA hq6 (i:=1) rfl
   have u2:=zAA hq6 (i:=2) rfl
   have u3:=zAA hq6 (i:=3) rfl
   clear hb6 HR6 hq6 qE0 qE1 qE2 qE3 c1
   go_wp2_with fail
   (try simp only [Exit.inBlock,Exit.then])
   refine bodyPost_ret (results_cell_row rfl _ _ w.heap.size _ _ (0,0) _ rfl HZ.out Tryz.underlying50 rfl (by kernel_rfl)) rfl ?_
   exact HF.out
  | false =>
   rw [hie] at HIs
   have HRe:=zh (HRE.out Rd.fail (by rw [hie];rfl))
   clear hie
   go_wp2_with fail
   generalize w4.heap.size=bE at *
   generalize w4.alloc (.cells #[.int .i64 (t:Int),.int .i64 (kd:Int),.slice pd nd cd,.slice pl nl cl] 50)=W5 at *
   refine HIs.out.mono ?_
   rintro e w6 ⟨rfl,hb6⟩
   have HB6:=zh hb6
   have Hbd:=zh (zDY (HR5.out.below hb6))
   have HC6:=zh (HC5w.out.trans ((Chg.of_below hb6).mono (T:=fun k=>k=r) fun _ _ e=>e.elim) fun _ _ e=>e)
   clear hb6 qE0 qE1 qE2 qE3 c1
   go_wp2_with fail
   refine Hbd.out.mono ?_
   rintro e w7 ⟨rfl,hr7,hc7⟩
   have hC7:Chg (fun k=>k=r) W5 w7:=((Chg.of_below HB6.out).mono (T:=fun k=>k=r) fun _ _ e=>e.elim).trans hc7 fun _ _ e=>e
   have HZ6:=zh ((hC7.block w.heap.size (zAC HZ5.out) (by omega)).trans HZ5.out)
   have hbr:bE≠r:=fun e=>by have:=HbE.out.size;omega
   have hq6:=(hC7.block bE (zAC HqE.out) hbr).trans HqE.out
   have HF:=zh (rent_fin (HC5w.out.trans hC7 fun _ _ e=>e) hrl HA.out hr7 ⟨HasB.chg HEH5.out.data hC7 fun k hk e=>by have:=(HEN5.out k (.inl hk)).1;omega,zAL.chg HEH5.out.nodes hC7 fun k hk e=>(by have:=(HEN5.out k (.inr hk)).1;omega),HEH5.out.dl,HEH5.out.nl⟩ (fun k hk=>⟨(HEN5.out k hk).1,Nat.lt_of_lt_of_le (HEN5.out k hk).2 hC7.size⟩) HRe.out (.int .i64 (t:Int)) (.int .i64 (kd:Int)) (.slice pd nd cd) (.slice pl nl cl))
   have HZ:=zh (set4_block HZ6.out (.int .i64 (t:Int)) (.int .i64 (kd:Int)) (.slice pd nd cd) (.slice pl nl cl))
   have r0:=zAA HZ6.out (i:=0) rfl
   have r1:=zAA HZ6.out (i:=1) rfl
   have r2:=zAA HZ6.out (i:=2) rfl
   have r3:=zAA HZ6.out (i:=3) rfl
   have fr:=zAF HZ6.out
   have u0:=zAA hq6 (i:=0) rfl
   have u1:=zAA hq6 (i:=1) rfl
   have u2:=zAA hq6 (i:=2) rfl
   have u3:=zAA hq6 (i:=3) rfl
   clear hr7 hc7 hC7 hq6 Hbd
   go_wp2_with fail
   (try simp only [Exit.inBlock,Exit.then])
   refine bodyPost_ret (results_cell_row rfl _ _ w.heap.size _ _ (0,0) _ rfl HZ.out Tryz.underlying50 rfl (by kernel_rfl)) rfl ?_
   exact HF.out
section
variable {w:World} {r:Nat} {v:Value} {L:List zAN} {own:Nat→Prop} {D:zAB}
theorem rwhole_calls (h:zAY w r v L own D) (s:ByteArray) (hs:s.size≤9223372036854775000) {pb:Option Addr} {m cb:Nat} {l:Bs} (hl:HasB w (.slice pb m cb) l) (hlm:l.length≤140737488355328) (hF:∀ k,(Value.slice pb m cb).ownBlock=some k→¬ own k∧k < w.heap.size) :
  Calls Tryz.prog 168 #[.pointer (some ⟨r,0,none⟩),.string s,.slice pb m cb] w (zCL w r own (D.save1 (nm s) l)):=by
 have hsh:(s ++ (⟨#[126]⟩:ByteArray)).size=s.size+1:=by simp [ByteArray.size_append];rfl
 have hst:RSt w w r own D (fun k=>(Value.slice pb m cb).ownBlock=some k):=RSt.start h (Below.refl _ _) hF
 have Hth:=zh (rst_has hst (s ++ (⟨#[126]⟩:ByteArray)))
 rw [zAx] at Hth
 have Hl:=zh hl
 have Hlm:=zh hlm
 clear hst h hl hlm hF
 cases hg:Sat.get (zAH (nm s)) D.files with
 | none =>
  rw [hg] at Hth
  obtain ⟨D0,h0,hD⟩:∃ D0,D.save0 (nm s)=(D0,0)∧D0=D:=⟨D,by unfold zAB.save0;rw [hg];rfl,rfl⟩
  go_enter Tryz.func168,Tryz.ntmps168
  go_wp2_with fail
  refine Hth.out.mono ?_
  rintro e w3 ⟨rfl,hst3,hs3⟩
  rw [← hD] at hst3
  have Hst:=zh hst3
  have Hv:=zh (Hl.out.same hs3)
  clear hst3 hs3 Hth hD hg
  have Hap:=zh (zDb Hst.out (Re:=D0.append (zAH (nm s)) l) fun own v L hR hn=>by
   have:=zDV hR (s ++ (⟨#[126]⟩:ByteArray)) (by rw [hsh];omega) (Hv.out) Hlm.out (fun _ k hk ho=>hn k ho hk)
   rwa [zAx] at this)
  cases h1:zAB.append D0 (zAH (nm s)) l with
  | mk D1 e1 =>
   rw [h1] at Hap
   by_cases he1:e1=0
   ·subst he1
    go_wp2_with fail
    refine Hap.out.mono ?_
    rintro e w5 ⟨rfl,hst5,-⟩
    have Hst5:=zh (show RSt w w5 r own D1 (fun k=>(Value.slice pb m cb).ownBlock=some k) from hst5)
    have Hsy:=zh (zDb Hst5.out (Re:=D1.sync [zAH (nm s)]) fun own v L hR hn=>by
     have:=zDc hR (s ++ (⟨#[126]⟩:ByteArray)) (by rw [hsh];omega)
     rwa [zAx] at this)
    clear hst5 Hap
    cases h2:zAB.sync D1 [zAH (nm s)] with
    | mk D2 e2 =>
     rw [h2] at Hsy
     by_cases he2:e2=0
     ·subst he2
      have Hend:=zh (save1_ren h0 h1 h2)
      clear h0 h1 h2
      go_wp2_with fail
      refine Hsy.out.mono ?_
      rintro e w6 ⟨rfl,hst6,-⟩
      have Hst6:=zh (show RSt w w6 r own D2 (fun k=>(Value.slice pb m cb).ownBlock=some k) from hst6)
      have Hrn:=zh (zDb Hst6.out (Re:=D2.rename (zAH (nm s)) (nm s)) fun own v L hR hn=>by
       have:=rren_calls hR (s ++ (⟨#[126]⟩:ByteArray)) s (by rw [hsh];omega) (by omega)
       rwa [zAx] at this)
      clear hst6 Hsy
      go_wp2_with fail
      refine Hrn.out.mono ?_
      rintro e w7 ⟨rfl,hst7,-⟩
      have HE:=zh (show zCL w r own (D.save1 (nm s) l) (.returned (.int .i64 ((D2.rename (zAH (nm s)) (nm s)).2:Int))) w7 from by rw [Hend.out];exact hst7.stop _)
      clear hst7 Hrn
      generalize (D2.rename (zAH (nm s)) (nm s)).2=e3 at *
      go_wp2_with fail
      go_ret
      exact HE.out
     ·have hne:((e2:Int) == 0)=false:=by simp;omega
      have Hend:=zh (save1_syn h0 h1 h2 he2)
      clear h0 h1 h2 he2
      go_wp2_with fail
      refine Hsy.out.mono ?_
      rintro e w6 ⟨rfl,hst6,-⟩
      have HE:=zh (show zCL w r own (D.save1 (nm s) l) (.returned (.int .i64 (e2:Int))) w6 from by rw [Hend.out];exact hst6.stop _)
      clear hst6 Hsy
      go_wp2_with fail
      go_ret
      exact HE.out
   ·have hne:((e1:Int) == 0)=false:=by simp;omega
    have Hend:=zh (save1_app h0 h1 he1)
    clear h0 h1 he1
    go_wp2_with fail
    refine Hap.out.mono ?_
    rintro e w5 ⟨rfl,hst5,-⟩
    have HE:=zh (show zCL w r own (D.save1 (nm s) l) (.returned (.int .i64 (e1:Int))) w5 from by rw [Hend.out];exact hst5.stop _)
    clear hst5 Hap
    go_wp2_with fail
    go_ret
    exact HE.out
 | some f =>
  rw [hg] at Hth
  cases h0:D.save0 (nm s) with
  | mk D0 e0 =>
   have hz0:zAB.remove D [zAH (nm s)]=(D0,e0):=by rw [← h0];unfold zAB.save0;rw [hg];rfl
   have Hz0:=zh hz0
   clear hz0 hg
   go_enter Tryz.func168,Tryz.ntmps168
   go_wp2_with fail
   refine Hth.out.mono ?_
   rintro e w3 ⟨rfl,hst3,hs3⟩
   have Hrm:=zh (zDb hst3 (Re:=D.remove [zAH (nm s)]) fun own v L hR hn=>by
    have:=rrem_calls hR (s ++ (⟨#[126]⟩:ByteArray)) (by rw [hsh];omega)
    rwa [zAx] at this)
   rw [Hz0.out] at Hrm
   have Hv3:=zh (Hl.out.same hs3)
   clear hst3 hs3 Hth
   by_cases he0:e0=0
   ·subst he0
    go_wp2_with fail
    refine Hrm.out.mono ?_
    rintro e w4 ⟨rfl,hst4,hs4⟩
    have Hst:=zh (show RSt w w4 r own D0 (fun k=>(Value.slice pb m cb).ownBlock=some k) from hst4)
    have Hv:=zh (Hv3.out.same hs4)
    clear hst4 hs4 Hv3 Hrm Hz0
    have Hap:=zh (zDb Hst.out (Re:=D0.append (zAH (nm s)) l) fun own v L hR hn=>by
     have:=zDV hR (s ++ (⟨#[126]⟩:ByteArray)) (by rw [hsh];omega) (Hv.out) Hlm.out (fun _ k hk ho=>hn k ho hk)
     rwa [zAx] at this)
    cases h1:zAB.append D0 (zAH (nm s)) l with
    | mk D1 e1 =>
     rw [h1] at Hap
     by_cases he1:e1=0
     ·subst he1
      go_wp2_with fail
      refine Hap.out.mono ?_
      rintro e w5 ⟨rfl,hst5,-⟩
      have Hst5:=zh (show RSt w w5 r own D1 (fun k=>(Value.slice pb m cb).ownBlock=some k) from hst5)
      have Hsy:=zh (zDb Hst5.out (Re:=D1.sync [zAH (nm s)]) fun own v L hR hn=>by
       have:=zDc hR (s ++ (⟨#[126]⟩:ByteArray)) (by rw [hsh];omega)
       rwa [zAx] at this)
      clear hst5 Hap
      cases h2:zAB.sync D1 [zAH (nm s)] with
      | mk D2 e2 =>
       rw [h2] at Hsy
       by_cases he2:e2=0
       ·subst he2
        have Hend:=zh (save1_ren h0 h1 h2)
        clear h0 h1 h2
        go_wp2_with fail
        refine Hsy.out.mono ?_
        rintro e w6 ⟨rfl,hst6,-⟩
        have Hst6:=zh (show RSt w w6 r own D2 (fun k=>(Value.slice pb m cb).ownBlock=some k) from hst6)
        have Hrn:=zh (zDb Hst6.out (Re:=D2.rename (zAH (nm s)) (nm s)) fun own v L hR hn=>by
         have:=rren_calls hR (s ++ (⟨#[126]⟩:ByteArray)) s (by rw [hsh];omega) (by omega)
         rwa [zAx] at this)
        clear hst6 Hsy
        go_wp2_with fail
        refine Hrn.out.mono ?_
        rintro e w7 ⟨rfl,hst7,-⟩
        have HE:=zh (show zCL w r own (D.save1 (nm s) l) (.returned (.int .i64 ((D2.rename (zAH (nm s)) (nm s)).2:Int))) w7 from by rw [Hend.out];exact hst7.stop _)
        clear hst7 Hrn
        generalize (D2.rename (zAH (nm s)) (nm s)).2=e3 at *
        go_wp2_with fail
        go_ret
        exact HE.out
       ·have hne:((e2:Int) == 0)=false:=by simp;omega
        have Hend:=zh (save1_syn h0 h1 h2 he2)
        clear h0 h1 h2 he2
        go_wp2_with fail
        refine Hsy.out.mono ?_
        rintro e w6 ⟨rfl,hst6,-⟩
        have HE:=zh (show zCL w r own (D.save1 (nm s) l) (.returned (.int .i64 (e2:Int))) w6 from by rw [Hend.out];exact hst6.stop _)
        clear hst6 Hsy
        go_wp2_with fail
        go_ret
        exact HE.out
     ·have hne:((e1:Int) == 0)=false:=by simp;omega
      have Hend:=zh (save1_app h0 h1 he1)
      clear h0 h1 he1
      go_wp2_with fail
      refine Hap.out.mono ?_
      rintro e w5 ⟨rfl,hst5,-⟩
      have HE:=zh (show zCL w r own (D.save1 (nm s) l) (.returned (.int .i64 (e1:Int))) w5 from by rw [Hend.out];exact hst5.stop _)
      clear hst5 Hap
      go_wp2_with fail
      go_ret
      exact HE.out
   ·have hne:((e0:Int) != 0)=true:=by simp;omega
    have Hend:=zh (save1_rem (b:=l) h0 he0)
    clear h0 he0
    go_wp2_with fail
    refine Hrm.out.mono ?_
    rintro e w4 ⟨rfl,hst4,-⟩
    have HE:=zh (show zCL w r own (D.save1 (nm s) l) (.returned (.int .i64 (e0:Int))) w4 from by rw [Hend.out];exact hst4.stop _)
    clear hst4 Hrm
    go_wp2_with fail
    go_ret
    exact HE.out
end
end Go.Proofs.YtapfnehdgailmaaGreat
