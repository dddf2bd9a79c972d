/- journal: At, TermAt, groupAt, Nodes, Snapshot. (Printed by mkj5.py.) journal: At (no), TermAt, groupAt, Nodes, Snapshot. (Printed by mkj6.py.) journal: a Writer of a function's own; group, first, termRecord, entryRecord, framed. (Printed by mkj7.py.) journal: lays, SetTerm. (Printed by mkj8.py.) journal: SetTerm. (Printed by mkj9.py.) -/
import Derived.Test.YtapfnehdgailmaaGreatGF
set_option maxRecDepth 100000
set_option maxHeartbeats 64000000
namespace Go.Proofs.YtapfnehdgailmaaGreat
open Go.RowKit Go.Sat Go.Maps
theorem zCS {P:Program} {fn:Func} {p u:Tmp} {ty:TypeId} (h:fn.results=#[.cell p ty,.tmp u]) (tmps:Array Value) (w:World) (g:Nat) (t:TypeId) (cs:Array Value) (fr:Nat × Nat) (d:TypeDesc)
  (hp:tmps.getD p undef=.pointer (some ⟨g,0,none⟩)) (hg:w.heap[g]?=some (.cells cs t fr))
  (hu:P.underlying ty=some d) (hd:(match d with | .struct _ | .array _ _=>true | _=>false)=true) (hi:(P.info? ty).map (·.size)=some cs.size) :
  (results fn tmps).run P w=.ok (.tuple #[.agg cs,tmps.getD u undef]) w:=by
 rw [results_cell_tmp h,hp]
 simp [asAddr,run_loadVar_row w g t ty cs fr d hg hu hd hi]
theorem zAJ {w w':World} {a:Addr} {v:Value} (h:w.cell? a=some v) (hb:Below w.heap.size w w'):w'.cell? a=some v:=(hb.cell (World.block_lt_of_cell? w a h)).trans h
structure EntIn (w:World) (j g n c b k:Nat) (e:Ent) (v:EV):Prop where
 all:w.cell? ⟨j,8,none⟩=some (.slice (some ⟨g,0,none⟩) n c)∧w.cell? ⟨j,0,none⟩=some (.int .i64 (b:Int))∧w.cell? ⟨g,k * 4,none⟩=some (.int .i64 e.term)∧w.cell? ⟨g,k * 4+1,none⟩=some (.int .i64 e.kind)∧w.cell? ⟨g,k * 4+2,none⟩=some v.1∧w.cell? ⟨g,k * 4+3,none⟩=some v.2
theorem zCU {w w':World} {j g n c b k:Nat} {e:Ent} {v:EV} (h:EntIn w j g n c b k e v) (hb:Below w.heap.size w w'):EntIn w' j g n c b k e v :=
 ⟨zAJ h.all.1 hb,zAJ h.all.2.1 hb,zAJ h.all.2.2.1 hb,zAJ h.all.2.2.2.1 hb,zAJ h.all.2.2.2.2.1 hb,zAJ h.all.2.2.2.2.2 hb⟩
section
variable {w w1:World} {j d:Nat} {pre:ByteArray} {D:zAB} {M:JouM} {F:Nat→Prop}
theorem jat_yes (h:JouF w w1 j d pre D M F) (i:Int) (hi:-9223372036854775808≤i∧i≤9223372036854775807) (hin:(M.number:Int) < i) {e:Ent} (he:M.entries[(i - (M.number:Int) - 1).toNat]?=some e) :
  Calls Tryz.prog 34 #[.pointer (some ⟨j,0,none⟩),.int .i64 i] w1 fun r w'=>∃ v:EV,r=.returned (.tuple #[entV e v,.int .i64 0])∧zDg w' e v∧(∀ k,(v.1.ownBlock=some k∨v.2.ownBlock=some k)→w1.heap.size≤k)∧Below w1.heap.size w1 w':=by
 have hkl:=(List.getElem?_eq_some_iff.1 he).1
 have hil:i≤(M.last:Int):=by unfold JouM.last;omega
 have hb0:=zAD w1 (.cells #[.int .i64 0,.int .i64 0,.slice none 0 0,.slice none 0 0] 50)
 have Hha:=zh (zD5 (h.next hb0) i hi)
 rw [decide_eq_true (And.intro hin hil)] at Hha
 have hlast:=h.okM.last
 have hent:=h.okM.ents e (List.mem_of_getElem? he)
 obtain ⟨own,gv,dv,ev,vs,hJ,hS,hn,hl⟩:=h
 obtain ⟨g,c,v,rfl,hv,hat,k0,k1,k2,k3⟩:=hJ.ent he
 have c0:=hJ.c 0 rfl
 have c8:=hJ.c 8 rfl
 have hf:=zA8 hent
 generalize hk:(i - (M.number:Int) - 1).toNat=k at *
 have HX:=zh (show EntIn w1 j g M.entries.length c M.number k e v from ⟨c8,c0,k0,k1,k2,k3⟩)
 have HA:=zh (hat.has (by omega) (by omega))
 unfold JouM.last at hlast
 have hiu:i=(M.number:Int)+1+(k:Int):=by omega
 clear hJ hS hn hl hv hat c0 c8 k0 k1 k2 k3 hent hf he hil hin hk
 generalize M.entries.length=n at *
 generalize M.number=b at *
 have hw1:IntKind.i64.wrap (i - (b:Int))=(k:Int)+1:=by rw [IntWalk.i64_in _ (by omega)];omega
 have hw2:IntKind.i64.wrap (k:Int)=(k:Int):=IntWalk.i64_in _ (by omega)
 clear hiu
 go_enter Tryz.func34,Tryz.ntmps34
 go_wp2_with fail
 refine Hha.out.mono ?_
 rintro r w2 ⟨rfl,q,rfl⟩
 have HB2:=zh (show Below w1.heap.size w1 ((w1.alloc (.cells #[.int .i64 0,.int .i64 0,.slice none 0 0,.slice none 0 0] 50)).drewN q) from hb0.trans ⟨rfl,rfl,rfl,by simp,fun _ _=>rfl⟩)
 have HR:=zh (show ((w1.alloc (.cells #[.int .i64 0,.int .i64 0,.slice none 0 0,.slice none 0 0] 50)).drewN q).heap[w1.heap.size]?=_ from zAI w1 _)
 generalize (w1.alloc (.cells #[.int .i64 0,.int .i64 0,.slice none 0 0,.slice none 0 0] 50)).drewN q=W at *
 clear hb0 Hha
 go_wp2_with fail
 refine zAT (fun w':World=>w'.cell? ⟨j,8,none⟩=some (.slice (some ⟨g,0,none⟩) n c)∧w'.cell? ⟨j,0,none⟩=some (.int .i64 (b:Int))∧w'.cell? ⟨g,k * 4,none⟩=some (.int .i64 e.term)∧w'.cell? ⟨g,k * 4+1,none⟩=some (.int .i64 e.kind)∧w'.cell? ⟨g,k * 4+2,none⟩=some v.1∧w'.cell? ⟨g,k * 4+3,none⟩=some v.2) (n:=17) (by kernel_rfl) rfl ((zCU HX.out (HB2.out.trans ⟨rfl,rfl,rfl,Nat.le_refl _,fun _ _=>rfl⟩)).all) (fun hHeld=>?_)
 generalize hWd:W.drew=W1 at *
 have HB1:=zh (show Below w1.heap.size w1 W1 from by rw [← hWd];exact HB2.out.trans ⟨rfl,rfl,rfl,Nat.le_refl _,fun _ _=>rfl⟩)
 have HR1:=zh (Eq.trans (show W1.heap[w1.heap.size]?=W.heap[w1.heap.size]? from by rw [← hWd];rfl) HR.out)
 clear hWd
 refine otk 0 (v:=?v1x0) rfl ?_
 simp only [Act.put,uA,uB,uC]
 refine otk 1 (v:=?v1x1) rfl ?_
 simp only [Act.put,uA,uB,uC]
 refine otk 2 (v:=?v1x2) rfl ?_
 simp only [Act.put,uA,uB,uC]
 refine otk 3 (v:=?v1x3) rfl ?_
 simp only [Act.put,uA,uB,uC]
 refine otk 4 (v:=?v1x4) rfl ?_
 simp only [Act.put,uA,uB,uC]
 refine otk 5 (v:=?v1x5) rfl ?_
 simp only [Act.put,uA,uB,uC]
 refine otk 6 (v:=?v1x6) rfl ?_
 simp only [Act.put,uA,uB,uC]
 refine otk 7 (v:=?v1x7) rfl ?_
 simp only [Act.put,uA,uB,uC]
 refine otk 8 (v:=?v1x8) rfl ?_
 simp only [Act.put,uA,uB,uC]
 refine otk 9 (v:=?v1x9) rfl ?_
 simp only [Act.put,uA,uB,uC]
 refine otk 10 (v:=?v1x10) rfl ?_
 simp only [Act.put,uA,uB,uC]
 refine otk 11 (v:=?v1x11) rfl ?_
 simp only [Act.put,uA,uB,uC]
 refine otk 12 (v:=?v1x12) rfl ?_
 simp only [Act.put,uA,uB,uC]
 refine otk 13 (v:=?v1x13) rfl ?_
 simp only [Act.put,uA,uB,uC]
 refine zAG 14 rfl (by kernel_rfl) (by rfl) (fun K hK=>?_)
 have Hown:=zh (own_calls (HA.out.below HB1.out))
 go_wp2_with fail
 refine Hown.out.mono ?_
 rintro r w5 ⟨⟨u1,u2⟩,rfl,hu,hun,hb5⟩
 obtain ⟨pu,cu,eu,-⟩:=zAO hu.data
 obtain ⟨pn,cn,en,-⟩:=zAl hu.nodes
 have eu':u1=.slice pu e.data.length cu:=eu
 have en':u2=.slice pn e.nodes.length cn:=en
 subst eu'
 subst en'
 clear eu en
 have HB5:=zh (HB1.out.trans (hb5.mono HB1.out.size))
 have Hh5:=zh (zCU (⟨hHeld⟩:EntIn W1 j g n c b k e v) hb5)
 have HR5:=zh ((hb5.block _ (zAC HR1.out)).trans HR1.out)
 have HU:=zh (And.intro hu hun)
 have HW1:=zh (zAC HR1.out)
 clear hu hun hb5 Hown
 go_wp2_with fail
 refine hK.out _ _ (Hh5.out.all) (fun hHeld=>?_)
 clear hK
 try simp only [Act.put,uA,uB,uC]
 refine zAG 15 rfl (by kernel_rfl) (by rfl) (fun K hK=>?_)
 have r0:=zAA HR5.out (i:=0) rfl
 have r1:=zAA HR5.out (i:=1) rfl
 have r2:=zAA HR5.out (i:=2) rfl
 have r3:=zAA HR5.out (i:=3) rfl
 have fr:=zAF HR5.out
 unfold entV
 go_wp2_with fail
 have hz:((((w5.setCell ⟨w1.heap.size,0,none⟩ (.int .i64 e.term)).setCell ⟨w1.heap.size,1,none⟩ (.int .i64 e.kind)).setCell ⟨w1.heap.size,2,none⟩ (.slice pu e.data.length cu)).setCell ⟨w1.heap.size,3,none⟩ (.slice pn e.nodes.length cn)).heap[w1.heap.size]?=some (.cells #[.int .i64 e.term,.int .i64 e.kind,(.slice pu e.data.length cu),(.slice pn e.nodes.length cn)] 50 (0,0)):=by
  have h1:=zAE HR5.out 0 (.int .i64 e.term)
  have h2:=zAE h1 1 (.int .i64 e.kind)
  have h3:=zAE h2 2 (.slice pu e.data.length cu)
  have h4:=zAE h3 3 (.slice pn e.nodes.length cn)
  simpa using h4
 have hC:Chg (fun x=>x=w1.heap.size) w5 ((((w5.setCell ⟨w1.heap.size,0,none⟩ (.int .i64 e.term)).setCell ⟨w1.heap.size,1,none⟩ (.int .i64 e.kind)).setCell ⟨w1.heap.size,2,none⟩ (.slice pu e.data.length cu)).setCell ⟨w1.heap.size,3,none⟩ (.slice pn e.nodes.length cn)):=(((Chg.setCell w5 ⟨w1.heap.size,0,none⟩ _).trans (Chg.setCell _ ⟨w1.heap.size,1,none⟩ _) fun _ _ e=>e).trans (Chg.setCell _ ⟨w1.heap.size,2,none⟩ _) fun _ _ e=>e).trans (Chg.setCell _ ⟨w1.heap.size,3,none⟩ _) fun _ _ e=>e
 have hB:Below w1.heap.size w1 ((((w5.setCell ⟨w1.heap.size,0,none⟩ (.int .i64 e.term)).setCell ⟨w1.heap.size,1,none⟩ (.int .i64 e.kind)).setCell ⟨w1.heap.size,2,none⟩ (.slice pu e.data.length cu)).setCell ⟨w1.heap.size,3,none⟩ (.slice pn e.nodes.length cn)):=HB5.out.trans (hC.below HB5.out.size fun k hk e=>by omega)
 have Hh6:=zh (zCU HX.out hB)
 have HE:=zh (show ∃ v:EV,Ending.returned (.tuple #[.agg #[.int .i64 e.term,.int .i64 e.kind,(.slice pu e.data.length cu),(.slice pn e.nodes.length cn)],.int .i64 0])=.returned (.tuple #[entV e v,.int .i64 0])∧zDg ((((w5.setCell ⟨w1.heap.size,0,none⟩ (.int .i64 e.term)).setCell ⟨w1.heap.size,1,none⟩ (.int .i64 e.kind)).setCell ⟨w1.heap.size,2,none⟩ (.slice pu e.data.length cu)).setCell ⟨w1.heap.size,3,none⟩ (.slice pn e.nodes.length cn)) e v∧(∀ k,(v.1.ownBlock=some k∨v.2.ownBlock=some k)→w1.heap.size≤k)∧Below w1.heap.size w1 ((((w5.setCell ⟨w1.heap.size,0,none⟩ (.int .i64 e.term)).setCell ⟨w1.heap.size,1,none⟩ (.int .i64 e.kind)).setCell ⟨w1.heap.size,2,none⟩ (.slice pu e.data.length cu)).setCell ⟨w1.heap.size,3,none⟩ (.slice pn e.nodes.length cn)) from
  ⟨(.slice pu e.data.length cu,.slice pn e.nodes.length cn),rfl,HU.out.1.keep fun x hx=>hC.block x (HU.out.1.lt hx) fun e=>by have h1:=HU.out.2 x hx;have h2:=HW1.out;omega,fun x hx=>by have h1:=HU.out.2 x hx;have h2:=HW1.out;omega,hB⟩)
 have HZ:=zh hz
 clear r0 r1 r2 r3 fr hC hB hz
 generalize (((w5.setCell ⟨w1.heap.size,0,none⟩ (.int .i64 e.term)).setCell ⟨w1.heap.size,1,none⟩ (.int .i64 e.kind)).setCell ⟨w1.heap.size,2,none⟩ (.slice pu e.data.length cu)).setCell ⟨w1.heap.size,3,none⟩ (.slice pn e.nodes.length cn)=W6 at *
 refine hK.out _ _ (Hh6.out.all) (fun hHeld=>?_)
 clear hK
 try simp only [Act.put,uA,uB,uC]
 refine otk 16 (v:=?v1x16) rfl ?_
 simp only [Act.put,uA,uB,uC]
 refine wpAnyH_done (by kernel_rfl) ?_ _
 go_wp2_with fail
 (try simp only [Exit.inBlock,Exit.then])
 refine bodyPost_ret (zCS rfl _ W6 w1.heap.size _ _ (0,0) _ rfl HZ.out Tryz.underlying50 rfl (by kernel_rfl)) rfl ?_
 exact HE.out
end
theorem zEa (w:World) (a b:Nat):(w.drewN a).drewN b=w.drewN (a+b):=by
 unfold World.drewN
 simp [Nat.add_assoc]
section
variable {w w1:World} {j d:Nat} {pre:ByteArray} {D:zAB} {M:JouM} {F:Nat→Prop}
theorem jat_no (h:JouF w w1 j d pre D M F) (i:Int) (hi:-9223372036854775808≤i∧i≤9223372036854775807) (hno:¬ ((M.number:Int) < i∧i≤(M.last:Int))) :
  Calls Tryz.prog 34 #[.pointer (some ⟨j,0,none⟩),.int .i64 i] w1 fun r w'=>r=.returned (.tuple #[.agg #[.int .i64 0,.int .i64 0,.slice none 0 0,.slice none 0 0],.int .i64 7])∧Below w1.heap.size w1 w':=by
 have hb0:=zAD w1 (.cells #[.int .i64 0,.int .i64 0,.slice none 0 0,.slice none 0 0] 50)
 have Hha:=zh (zD5 (h.next hb0) i hi)
 rw [decide_eq_false hno] at Hha
 clear h hno
 go_enter Tryz.func34,Tryz.ntmps34
 go_wp2_with fail
 refine Hha.out.mono ?_
 rintro r w2 ⟨rfl,q,rfl⟩
 have HB2:=zh (show Below w1.heap.size w1 ((w1.alloc (.cells #[.int .i64 0,.int .i64 0,.slice none 0 0,.slice none 0 0] 50)).drewN q) from hb0.trans ⟨rfl,rfl,rfl,by simp,fun _ _=>rfl⟩)
 have hR:((w1.alloc (.cells #[.int .i64 0,.int .i64 0,.slice none 0 0,.slice none 0 0] 50)).drewN q).heap[w1.heap.size]?=some (.cells #[.int .i64 0,.int .i64 0,.slice none 0 0,.slice none 0 0] 50):=zAI w1 _
 generalize (w1.alloc (.cells #[.int .i64 0,.int .i64 0,.slice none 0 0,.slice none 0 0] 50)).drewN q=W at *
 have r0:=zAA hR (i:=0) rfl
 have r1:=zAA hR (i:=1) rfl
 have r2:=zAA hR (i:=2) rfl
 have r3:=zAA hR (i:=3) rfl
 have fr:=zAF hR
 have HR:=zh hR
 clear hb0 Hha hR
 go_wp2_with fail
 have hz:((((W.setCell ⟨w1.heap.size,0,none⟩ (.int .i64 0)).setCell ⟨w1.heap.size,1,none⟩ (.int .i64 0)).setCell ⟨w1.heap.size,2,none⟩ (.slice none 0 0)).setCell ⟨w1.heap.size,3,none⟩ (.slice none 0 0)).heap[w1.heap.size]?=some (.cells #[.int .i64 0,.int .i64 0,.slice none 0 0,.slice none 0 0] 50):=by
  have h1:=zAE HR.out 0 (.int .i64 0)
  have h2:=zAE h1 1 (.int .i64 0)
  have h3:=zAE h2 2 (.slice none 0 0)
  have h4:=zAE h3 3 (.slice none 0 0)
  simpa using h4
 have hC:Chg (fun x=>x=w1.heap.size) W ((((W.setCell ⟨w1.heap.size,0,none⟩ (.int .i64 0)).setCell ⟨w1.heap.size,1,none⟩ (.int .i64 0)).setCell ⟨w1.heap.size,2,none⟩ (.slice none 0 0)).setCell ⟨w1.heap.size,3,none⟩ (.slice none 0 0)):=(((Chg.setCell W ⟨w1.heap.size,0,none⟩ _).trans (Chg.setCell _ ⟨w1.heap.size,1,none⟩ _) fun _ _ e=>e).trans (Chg.setCell _ ⟨w1.heap.size,2,none⟩ _) fun _ _ e=>e).trans (Chg.setCell _ ⟨w1.heap.size,3,none⟩ _) fun _ _ e=>e
 have HE:=zh (show Below w1.heap.size w1 _ from HB2.out.trans (hC.below HB2.out.size fun k hk e=>by omega))
 (try simp only [Exit.inBlock,Exit.then])
 refine bodyPost_ret (zCS rfl _ _ w1.heap.size _ _ (0,0) _ rfl hz Tryz.underlying50 rfl (by kernel_rfl)) rfl ?_
 exact ⟨rfl,HE.out⟩
theorem termAt_no {i:Int} (h:¬ ((M.number:Int) < i∧i≤(M.last:Int))) (h2:i≠(M.number:Int)):M.termAt i=none:=by
 unfold JouM.last at h
 unfold JouM.termAt
 rw [if_neg h2]
 by_cases h3:i < (M.number:Int)
 ·rw [if_pos h3]
 ·rw [if_neg h3,List.getElem?_eq_none (by omega)]
  rfl
theorem zEE {i:Int} (h:(M.number:Int) < i) {e:Ent} (he:M.entries[(i - (M.number:Int) - 1).toNat]?=some e):M.termAt i=some e.term:=by
 unfold JouM.termAt
 rw [if_neg (by omega),if_neg (by omega),he]
 rfl
theorem zET:M.termAt (M.number:Int)=some M.term:=if_pos rfl
theorem zDS (h:JouF w w1 j d pre D M F) (i:Int) (hi:-9223372036854775808≤i∧i≤9223372036854775807) :
  Calls Tryz.prog 35 #[.pointer (some ⟨j,0,none⟩),.int .i64 i] w1 fun r w'=>r=.returned (.tuple #[.int .i64 ((M.termAt i).getD 0),.bool (M.termAt i).isSome])∧∃ q,w'=w1.drewN q:=by
 have Hha:=zh (zD5 h i hi)
 have hlast:=h.okM.last
 obtain ⟨own,gv,dv,ev,vs,hJ,hS,hn,hl⟩:=h
 have c0:=hJ.c 0 rfl
 have c1:=hJ.c 1 rfl
 have c8:=hJ.c 8 rfl
 by_cases hin:(M.number:Int) < i∧i≤(M.last:Int)
 ·rw [decide_eq_true hin] at Hha
  have hil:=hin.2
  unfold JouM.last at hil hlast
  have hkl:(i - (M.number:Int) - 1).toNat < M.entries.length:=by omega
  obtain ⟨g,c,v,rfl,-,-,k0,-⟩:=hJ.ent (List.getElem?_eq_getElem hkl)
  have HT:=zh (zEE hin.1 (List.getElem?_eq_getElem hkl))
  have hi1:=hin.1
  clear hJ hS hn hl hin c1
  generalize hk:(i - (M.number:Int) - 1).toNat=k at *
  generalize M.entries[k]=e at *
  generalize M.entries.length=n at *
  generalize M.termAt i=ta at *
  generalize M.number=b at *
  have hw1:IntKind.i64.wrap (i - (b:Int))=(k:Int)+1:=by rw [IntWalk.i64_in _ (by omega)];omega
  have hw2:IntKind.i64.wrap (k:Int)=(k:Int):=IntWalk.i64_in _ (by omega)
  clear hk hil hi1
  go_enter Tryz.func35,Tryz.ntmps35
  go_wp2_with fail
  refine Hha.out.mono ?_
  rintro r w2 ⟨rfl,q,rfl⟩
  have c0:(w1.drewN q).cell? ⟨j,0,none⟩=some (.int .i64 (b:Int)):=c0
  have c8:(w1.drewN q).cell? ⟨j,8,none⟩=some (.slice (some ⟨g,0,none⟩) n c):=c8
  have k0:(w1.drewN q).cell? ⟨g,k * 4,none⟩=some (.int .i64 e.term):=k0
  go_wp2_with fail
  go_quiet (fail)
  go_wp2_with fail
  go_ret2
  exact ⟨by rw [HT.out];rfl,_,zEa _ _ _⟩
 ·rw [decide_eq_false hin] at Hha
  by_cases hib:i=(M.number:Int)
  ·subst hib
   have HT:=zh (zET (M:=M))
   clear hJ hS hn hl hin c8
   generalize M.termAt (M.number:Int)=ta at *
   generalize M.number=b at *
   go_enter Tryz.func35,Tryz.ntmps35
   go_wp2_with fail
   refine Hha.out.mono ?_
   rintro r w2 ⟨rfl,q,rfl⟩
   have c0:(w1.drewN q).cell? ⟨j,0,none⟩=some (.int .i64 (b:Int)):=c0
   have c1:(w1.drewN q).cell? ⟨j,1,none⟩=some (.int .i64 M.term):=c1
   go_wp2_with fail
   go_ret2
   exact ⟨by rw [HT.out];rfl,_,rfl⟩
  ·have HT:=zh (termAt_no hin hib)
   have he:(i == (M.number:Int))=false:=by simpa using hib
   clear hJ hS hn hl hin hib c8 c1
   generalize M.termAt i=ta at *
   generalize M.number=b at *
   go_enter Tryz.func35,Tryz.ntmps35
   go_wp2_with fail
   refine Hha.out.mono ?_
   rintro r w2 ⟨rfl,q,rfl⟩
   have c0:(w1.drewN q).cell? ⟨j,0,none⟩=some (.int .i64 (b:Int)):=c0
   go_wp2_with fail
   go_ret2
   exact ⟨by rw [HT.out];rfl,_,rfl⟩
def zBX (w1:World) (r:List Int × Nat) (e:Ending) (w':World):Prop:=∃ v,e=.returned (.tuple #[v,.int .i64 (r.2:Int)])∧OwnI w' v r.1∧(∀ k,v.ownBlock=some k→w1.heap.size≤k)∧Below w1.heap.size w1 w'
theorem grpIn_yes {k:Nat} {e:Ent} (he:M.entries[k]?=some e) (hk:e.kind=2):M.grpIn (k+1)=(e.nodes,M.number+k+1):=by
 show (match M.entries[k]? with | some e=>_ | none=>_)=_
 rw [he]
 exact if_pos hk
theorem grpIn_no {k:Nat} {e:Ent} (he:M.entries[k]?=some e) (hk:e.kind≠2):M.grpIn (k+1)=M.grpIn k:=by
 show (match M.entries[k]? with | some e=>_ | none=>_)=_
 rw [he]
 exact if_neg hk
theorem jgrpAt_calls (h:JouF w w1 j d pre D M F) (N:Nat) (hN:N≤M.entries.length) :
  Calls Tryz.prog 107 #[.pointer (some ⟨j,0,none⟩),.int .i64 ((M.number+N:Nat):Int)] w1 (zBX w1 (M.grpIn N)):=by
 have hlast:=h.okM.last
 have hog:=h.okM.group
 have Hents:=zh h.okM.ents
 obtain ⟨own,gv,dv,ev,vs,hJ,hS,hn,hl⟩:=h
 have HJ:=zh hJ
 have c0:=hJ.c 0 rfl
 have c2:=hJ.c 2 rfl
 obtain ⟨pg,cg,hgv,-⟩:=zAl hJ.group
 rw [hgv] at c2
 have Hgv:=zh (hgv ▸ hJ.group)
 have hgl:=(grp_len hog).2
 unfold JouM.last at hlast
 clear hJ hS hn hl hog hgv
 generalize hb:M.number=b at *
 go_enter Tryz.func107,Tryz.ntmps107
 go_wp2_with fail
 go_loopw [6] (fun x wr=>∃ k:Nat,k≤N∧x=.int .i64 ((b+k:Nat):Int)∧M.grpIn N=M.grpIn k∧Below w1.heap.size w1 wr) (fun x _=>(intOf x).toNat)
 case atStart=>exact ⟨N,Nat.le_refl _,rfl,rfl,Below.refl _ _⟩
 case round =>
  obtain ⟨k,hk,rfl,hgr,hbl⟩:=hrel
  have c0r:=zAJ c0 hbl
  have c2r:=zAJ c2 hbl
  cases k with
  | zero =>
   have Hgr:=zh hgr
   have HB:=zh hbl
   have Hcl:=zh (fun W (hb:Below w1.heap.size w1 W)=>zDo (OwnI.has (zEp Hgv.out hb)) (by omega))
   clear hgr hbl
   go_wp2_with fail
   refine zAT (fun w':World=>w'.cell? ⟨j,0,none⟩=some (.int .i64 (b:Int))∧w'.cell? ⟨j,2,none⟩=some (.slice pg M.group.length cg)) (n:=13) (by kernel_rfl) rfl (⟨c0r,c2r⟩) (fun hHeld=>?_)
   refine otk 0 (v:=?v7x0) rfl ?_
   simp only [Act.put,uA,uB,uC]
   refine otk 1 (v:=?v7x1) rfl ?_
   simp only [Act.put,uA,uB,uC]
   refine otk 2 (v:=?v7x2) rfl ?_
   simp only [Act.put,uA,uB,uC]
   refine otk 3 (v:=?v7x3) rfl ?_
   simp only [Act.put,uA,uB,uC]
   refine otk 4 (v:=?v7x4) rfl ?_
   simp only [Act.put,uA,uB,uC]
   refine otk 6 (v:=?v7x6) rfl ?_
   simp only [Act.put,uA,uB,uC]
   refine otk 7 (v:=?v7x7) rfl ?_
   simp only [Act.put,uA,uB,uC]
   refine otk 8 (v:=?v7x8) rfl ?_
   simp only [Act.put,uA,uB,uC]
   refine otk 9 (v:=?v7x9) rfl ?_
   simp only [Act.put,uA,uB,uC]
   refine otk 10 (v:=?v7x10) rfl ?_
   simp only [Act.put,uA,uB,uC]
   refine zAG 5 rfl (by kernel_rfl) (by rfl) (fun K hK=>?_)
   go_wp2_with fail
   refine (Hcl.out wr.drew (HB.out.trans ⟨rfl,rfl,rfl,Nat.le_refl _,fun _ _=>rfl⟩)).mono ?_
   rintro r w5 ⟨v,rfl,hv,hvn,hb5⟩
   have hBd:Below w1.heap.size w1 wr.drew:=HB.out.trans ⟨rfl,rfl,rfl,Nat.le_refl _,fun _ _=>rfl⟩
   have HE:=zh (show zBX w1 (M.grpIn N) (.returned (.tuple #[v,.int .i64 (b:Int)])) w5 from by
    rw [Hgr.out]
    exact ⟨v,by show _=Ending.returned (.tuple #[v,.int .i64 (M.number:Int)]);rw [hb],hv,fun x hx=>Nat.le_trans hBd.size (hvn x hx),hBd.trans (hb5.mono hBd.size)⟩)
   have Hh5:=zh (And.intro (zAJ hHeld.1 hb5) (zAJ hHeld.2 hb5))
   clear hv hvn hb5 hBd
   go_wp2_with fail
   refine hK.out _ _ (Hh5.out) (fun hHeld=>?_)
   clear hK
   try simp only [Act.put,uA,uB,uC]
   refine otk 11 (v:=?v7x11) rfl ?_
   simp only [Act.put,uA,uB,uC]
   refine otk 12 (v:=?v7x12) rfl ?_
   simp only [Act.put,uA,uB,uC]
   refine wpAnyH_done (by kernel_rfl) ?_ _
   go_wp2_with fail
   go_ret2
   exact HE.out
  | succ k =>
   have hkl:k < M.entries.length:=by omega
   have he:=List.getElem?_eq_getElem hkl
   obtain ⟨g,c,v,hev,-,hat,k0,k1,k2,k3⟩:=HJ.out.ent he
   have hf:=zA8 (Hents.out _ (List.getElem_mem hkl))
   have hgy:=grpIn_yes he
   have hgn:=grpIn_no he
   generalize M.entries[k]=e at *
   have c8:=HJ.out.c 8 rfl
   rw [hev] at c8
   obtain ⟨pu,cu,eu,-⟩:=zAO hat.data
   obtain ⟨pn,cn,en,-⟩:=zAl hat.nodes
   rw [eu] at k2
   rw [en] at k3
   have hno:OwnI w1 (.slice pn e.nodes.length cn) e.nodes:=by rw [← en];exact hat.nodes
   have Hcl:=zh (fun W (hb:Below w1.heap.size w1 W)=>zDo (OwnI.has (zEp hno hb)) (by omega))
   have HX:=zh (show EntIn w1 j g M.entries.length c b k e (.slice pu e.data.length cu,.slice pn e.nodes.length cn) from ⟨c8,by rw [← hb] at c0;rw [← hb];exact c0,k0,k1,k2,k3⟩)
   have Hgr:=zh hgr
   have HB:=zh hbl
   have Hgy:=zh hgy
   have Hgn:=zh hgn
   have hw1:IntKind.i64.wrap (((b+(k+1):Nat):Int) - (b:Int))=(k:Int)+1:=by rw [IntWalk.i64_in _ (by omega)];omega
   have hw1':IntKind.i64.wrap ((b:Int)+((k:Int)+1) - (b:Int))=(k:Int)+1:=by rw [IntWalk.i64_in _ (by omega)];omega
   have hw2:IntKind.i64.wrap (k:Int)=(k:Int):=IntWalk.i64_in _ (by omega)
   have hw3:IntKind.i64.wrap (((b+(k+1):Nat):Int) - 1)=((b+k:Nat):Int):=by rw [IntWalk.i64_in _ (by omega)];omega
   have hlt:(b:Int) < ((b+(k+1):Nat):Int):=by omega
   generalize hx:((b+(k+1):Nat):Int)=x at *
   have HEx:=zh (show x=((M.number+k+1:Nat):Int) from by rw [← hx,hb];rfl)
   clear hgr hbl hgy hgn c8 k0 k1 k2 k3 hev hat hno eu en he c2r
   generalize M.entries.length=n at *
   clear hx
   go_wp2_with fail
   refine zAT (fun w':World=>w'.cell? ⟨j,8,none⟩=some (.slice (some ⟨g,0,none⟩) n c)∧w'.cell? ⟨j,0,none⟩=some (.int .i64 (b:Int))∧w'.cell? ⟨g,k * 4,none⟩=some (.int .i64 e.term)∧w'.cell? ⟨g,k * 4+1,none⟩=some (.int .i64 e.kind)∧w'.cell? ⟨g,k * 4+2,none⟩=some (.slice pu e.data.length cu)∧w'.cell? ⟨g,k * 4+3,none⟩=some (.slice pn e.nodes.length cn)) (n:=16) (by kernel_rfl) rfl ((zCU HX.out (HB.out.trans ⟨rfl,rfl,rfl,Nat.le_refl _,fun _ _=>rfl⟩)).all) (fun hHeld=>?_)
   generalize hWd:wr.drew=W1 at *
   have HB1:=zh (show Below w1.heap.size w1 W1 from by rw [← hWd];exact HB.out.trans ⟨rfl,rfl,rfl,Nat.le_refl _,fun _ _=>rfl⟩)
   clear hWd
   refine otk 0 (v:=?v4x0) rfl ?_
   simp only [Act.put,uA,uB,uC]
   refine otk 1 (v:=?v4x1) rfl ?_
   simp only [Act.put,uA,uB,uC]
   refine otk 2 (v:=?v4x2) rfl ?_
   simp only [Act.put,uA,uB,uC]
   refine otk 3 (v:=?v4x3) rfl ?_
   simp only [Act.put,uA,uB,uC]
   refine otk 4 (v:=?v4x4) rfl ?_
   simp only [Act.put,uA,uB,uC]
   refine otk 5 (v:=?v4x5) rfl ?_
   simp only [Act.put,uA,uB,uC]
   refine otk 6 (v:=?v4x6) rfl ?_
   simp only [Act.put,uA,uB,uC]
   refine otk 7 (v:=?v4x7) rfl ?_
   simp only [Act.put,uA,uB,uC]
   refine otk 8 (v:=?v4x8) rfl ?_
   simp only [Act.put,uA,uB,uC]
   refine otk 9 (v:=?v4x9) rfl ?_
   simp only [Act.put,uA,uB,uC]
   refine otk 10 (v:=?v4x10) rfl ?_
   simp only [Act.put,uA,uB,uC]
   refine otk 11 (v:=?v4x11) rfl ?_
   simp only [Act.put,uA,uB,uC]
   refine otk 12 (v:=?v4x12) rfl ?_
   simp only [Act.put,uA,uB,uC]
   refine otk 13 (v:=?v4x13) rfl ?_
   simp only [Act.put,uA,uB,uC]
   refine zAG 14 rfl (by kernel_rfl) (by rfl) (fun K hK=>?_)
   have Hh6:=zh (zCU (⟨hHeld⟩:EntIn W1 j g n c b k e (.slice pu e.data.length cu,.slice pn e.nodes.length cn)) (zAD W1 (.cells #[.int .i64 0,.int .i64 0,.slice none 0 0,.slice none 0 0] 50)))
   go_wp2_with fail
   refine hK.out _ _ (Hh6.out.all) (fun hHeld=>?_)
   clear hK
   try simp only [Act.put,uA,uB,uC]
   refine zAG 15 rfl (by kernel_rfl) (by rfl) (fun K hK=>?_)
   have hR:(W1.alloc (.cells #[.int .i64 0,.int .i64 0,.slice none 0 0,.slice none 0 0] 50)).heap[W1.heap.size]?=some (.cells #[.int .i64 0,.int .i64 0,.slice none 0 0,.slice none 0 0] 50):=zAI W1 _
   have r0:=zAA hR (i:=0) rfl
   have r1:=zAA hR (i:=1) rfl
   have r2:=zAA hR (i:=2) rfl
   have r3:=zAA hR (i:=3) rfl
   have fr:=zAF hR
   have HR:=zh hR
   clear hR
   have HBa:=zh (HB1.out.trans ((zAD W1 (.cells #[.int .i64 0,.int .i64 0,.slice none 0 0,.slice none 0 0] 50)).mono HB1.out.size))
   have HW1:=zh HB1.out.size
   generalize W1.heap.size=B at *
   generalize W1.alloc (.cells #[.int .i64 0,.int .i64 0,.slice none 0 0,.slice none 0 0] 50)=W2 at *
   go_wp2_with fail
   have hz:((((W2.setCell ⟨B,0,none⟩ (.int .i64 e.term)).setCell ⟨B,1,none⟩ (.int .i64 e.kind)).setCell ⟨B,2,none⟩ (.slice pu e.data.length cu)).setCell ⟨B,3,none⟩ (.slice pn e.nodes.length cn)).heap[B]?=some (.cells #[.int .i64 e.term,.int .i64 e.kind,.slice pu e.data.length cu,.slice pn e.nodes.length cn] 50 (0,0)):=by
    have h1:=zAE HR.out 0 (.int .i64 e.term)
    have h2:=zAE h1 1 (.int .i64 e.kind)
    have h3:=zAE h2 2 (.slice pu e.data.length cu)
    have h4:=zAE h3 3 (.slice pn e.nodes.length cn)
    simpa using h4
   have hC:Chg (fun x=>x=B) W2 ((((W2.setCell ⟨B,0,none⟩ (.int .i64 e.term)).setCell ⟨B,1,none⟩ (.int .i64 e.kind)).setCell ⟨B,2,none⟩ (.slice pu e.data.length cu)).setCell ⟨B,3,none⟩ (.slice pn e.nodes.length cn)):=(((Chg.setCell W2 ⟨B,0,none⟩ _).trans (Chg.setCell _ ⟨B,1,none⟩ _) fun _ _ e=>e).trans (Chg.setCell _ ⟨B,2,none⟩ _) fun _ _ e=>e).trans (Chg.setCell _ ⟨B,3,none⟩ _) fun _ _ e=>e
   have HBz:=zh (show Below w1.heap.size w1 ((((W2.setCell ⟨B,0,none⟩ (.int .i64 e.term)).setCell ⟨B,1,none⟩ (.int .i64 e.kind)).setCell ⟨B,2,none⟩ (.slice pu e.data.length cu)).setCell ⟨B,3,none⟩ (.slice pn e.nodes.length cn)) from HBa.out.trans (hC.below HBa.out.size fun k hk e=>by have:=HW1.out;omega))
   have Hh7:=zh (zCU HX.out HBz.out)
   have z1:=zAA hz (i:=1) rfl
   have z3:=zAA hz (i:=3) rfl
   clear r0 r1 r2 r3 fr hC hz
   generalize (((W2.setCell ⟨B,0,none⟩ (.int .i64 e.term)).setCell ⟨B,1,none⟩ (.int .i64 e.kind)).setCell ⟨B,2,none⟩ (.slice pu e.data.length cu)).setCell ⟨B,3,none⟩ (.slice pn e.nodes.length cn)=W3 at *
   refine hK.out _ _ (Hh7.out.all) (fun hHeld=>?_)
   clear hK
   try simp only [Act.put,uA,uB,uC]
   refine wpAnyH_done (by kernel_rfl) ?_ _
   have z1:W3.cell? ⟨B,1,none⟩=some (.int .i64 e.kind):=z1
   have z3:W3.cell? ⟨B,3,none⟩=some (.slice pn e.nodes.length cn):=z3
   by_cases hk2:e.kind=2
   ·have hke:(e.kind == 2)=true:=by simpa using hk2
    have HE:=zh (Hgr.out.trans (Hgy.out hk2))
    clear hk2
    go_wp2_with fail
    refine (Hcl.out W3 HBz.out).mono ?_
    rintro r w5 ⟨v,rfl,hv,hvn,hb5⟩
    have HF:=zh (show zBX w1 (M.grpIn N) (.returned (.tuple #[v,.int .i64 x])) w5 from by
     rw [HE.out,HEx.out]
     exact ⟨v,rfl,hv,fun x hx=>Nat.le_trans HBz.out.size (hvn x hx),HBz.out.trans (hb5.mono HBz.out.size)⟩)
    clear hv hvn hb5
    go_wp2_with fail
    go_ret2
    exact HF.out
   ·have hke:(e.kind == 2)=false:=by simpa using hk2
    have HE:=zh (Hgr.out.trans (Hgn.out hk2))
    clear hk2
    go_wp2_with fail
    go_roundw
    case rel=>exact ⟨k,by omega,rfl,HE.out,HBz.out⟩
    case measure=>simp [intOf];have:=HEx.out;omega
theorem jnodes_calls (h:JouF w w1 j d pre D M F):Calls Tryz.prog 24 #[.pointer (some ⟨j,0,none⟩)] w1 (zBX w1 (M.grpIn M.entries.length)):=by
 have Hla:=zh (zB5 h)
 have Hg:=zh (fun q=>jgrpAt_calls (h.drewN q) M.entries.length (Nat.le_refl _))
 have HL:=zh (show (M.number+M.entries.length:Nat)=M.last from rfl)
 rw [HL.out] at Hg
 clear h
 go_enter Tryz.func24,Tryz.ntmps24
 go_wp2_with fail
 refine Hla.out.mono ?_
 rintro r w2 ⟨rfl,q,rfl⟩
 go_wp2_with fail
 refine (Hg.out q).mono ?_
 rintro r w5 ⟨v,rfl,hv,hvn,hb5⟩
 have HF:=zh (show zBX w1 (M.grpIn M.entries.length) (.returned (.tuple #[v,.int .i64 ((M.grpIn M.entries.length).2:Int)])) w5 from ⟨v,rfl,hv,hvn,(show Below w1.heap.size w1 (w1.drewN q) from ⟨rfl,rfl,rfl,Nat.le_refl _,fun _ _=>rfl⟩).trans hb5⟩)
 clear hv hvn hb5
 go_wp2_with fail
 go_ret2
 exact HF.out
def SnapTold (w1:World) (b:Bs) (g:List Int) (e:Ending) (w':World):Prop:=∃ v u,e=.returned (.tuple #[v,u])∧OwnB w' 5 v b∧OwnI w' u g∧(∀ k,v.ownBlock=some k∨u.ownBlock=some k→w1.heap.size≤k)∧Below w1.heap.size w1 w'
theorem jsnap_calls (h:JouF w w1 j d pre D M F):Calls Tryz.prog 32 #[.pointer (some ⟨j,0,none⟩)] w1 (SnapTold w1 M.data M.group):=by
 have hok:=h.okM
 obtain ⟨own,gv,dv,ev,vs,hJ,hS,hn,hl⟩:=h
 have c2:=hJ.c 2 rfl
 have c7:=hJ.c 7 rfl
 obtain ⟨pg,cg,hgv,-⟩:=zAl hJ.group
 obtain ⟨pd,cd,hdv,-⟩:=zAO hJ.data
 have hgl:=(grp_len hok.group).2
 have hdl:=hok.data
 rw [hgv] at c2
 rw [hdv] at c7
 have Hg:=zh (fun W (hb:Below w1.heap.size w1 W)=>zDo (OwnI.has (zEp (hgv ▸ hJ.group) hb)) (by omega))
 have Hd:=zh (fun W (hb:Below w1.heap.size w1 W)=>zBY (OwnB.has (zBm (hdv ▸ hJ.data) hb)) (Nat.le_trans hdl (by decide)))
 clear hJ hS hn hl hgv hdv hok
 go_enter Tryz.func32,Tryz.ntmps32
 go_wp2_with fail
 refine zAT (fun w':World=>w'.cell? ⟨j,7,none⟩=some (.slice pd M.data.length cd)∧w'.cell? ⟨j,2,none⟩=some (.slice pg M.group.length cg)) (n:=13) (by kernel_rfl) rfl (⟨c7,c2⟩) (fun hHeld=>?_)
 refine otk 0 (v:=?v9x0) rfl ?_
 simp only [Act.put,uA,uB,uC]
 refine otk 1 (v:=?v9x1) rfl ?_
 simp only [Act.put,uA,uB,uC]
 refine otk 2 (v:=?v9x2) rfl ?_
 simp only [Act.put,uA,uB,uC]
 refine otk 3 (v:=?v9x3) rfl ?_
 simp only [Act.put,uA,uB,uC]
 refine otk 5 (v:=?v9x5) rfl ?_
 simp only [Act.put,uA,uB,uC]
 refine otk 6 (v:=?v9x6) rfl ?_
 simp only [Act.put,uA,uB,uC]
 refine otk 7 (v:=?v9x7) rfl ?_
 simp only [Act.put,uA,uB,uC]
 refine otk 8 (v:=?v9x8) rfl ?_
 simp only [Act.put,uA,uB,uC]
 refine otk 9 (v:=?v9x9) rfl ?_
 simp only [Act.put,uA,uB,uC]
 refine zAG 4 rfl (by kernel_rfl) (by rfl) (fun K hK=>?_)
 have HB0:=zh (zAb w1)
 go_wp2_with fail
 refine (Hd.out w1.drew HB0.out).mono ?_
 rintro r w5 ⟨v,rfl,hv,hvn,hb5⟩
 have HB5:=zh (HB0.out.trans hb5)
 have Hh5:=zh (And.intro (zAJ hHeld.1 hb5) (zAJ hHeld.2 hb5))
 have HV:=zh (And.intro hv hvn)
 obtain ⟨pv,cv,rfl,-⟩:=zAO hv
 clear hv hvn hb5
 go_wp2_with fail
 refine hK.out _ _ (Hh5.out) (fun hHeld=>?_)
 clear hK
 try simp only [Act.put,uA,uB,uC]
 refine zAG 10 rfl (by kernel_rfl) (by rfl) (fun K hK=>?_)
 go_wp2_with fail
 refine (Hg.out w5 HB5.out).mono ?_
 rintro r w6 ⟨u,rfl,hu,hun,hb6⟩
 have Hh6:=zh (And.intro (zAJ hHeld.1 hb6) (zAJ hHeld.2 hb6))
 have HE:=zh (show SnapTold w1 M.data M.group (.returned (.tuple #[.slice pv M.data.length cv,u])) w6 from ⟨_,u,rfl,zBm HV.out.1 hb6,hu,fun x hx=>hx.elim (HV.out.2 x) fun hx=>Nat.le_trans HB5.out.size (hun x hx),HB5.out.trans (hb6.mono HB5.out.size)⟩)
 obtain ⟨pw,cw,rfl,-⟩:=zAl hu
 clear hu hun hb6
 go_wp2_with fail
 refine hK.out _ _ (Hh6.out) (fun hHeld=>?_)
 clear hK
 try simp only [Act.put,uA,uB,uC]
 refine otk 11 (v:=?v9x11) rfl ?_
 simp only [Act.put,uA,uB,uC]
 refine otk 12 (v:=?v9x12) rfl ?_
 simp only [Act.put,uA,uB,uC]
 refine wpAnyH_done (by kernel_rfl) ?_ _
 go_wp2_with fail
 go_ret2
 exact HE.out
end
def WrB (B:Nat) (w:World) (k:Nat) (l:Bs):Prop:=∃ v,WrIn w k v l∧B≤k∧(∀ j,v.ownBlock=some j→B≤j)∧B≤w.heap.size
def WrNext (B:Nat) (w:World) (k:Nat) (l:Bs) (e:Ending) (w':World):Prop:=e=.returned (.tuple #[])∧WrB B w' k l∧Below B w w'
section
variable {B:Nat} {w w1:World} {k:Nat} {l:Bs}
theorem WrB.keep (h:WrB B w k l) (hb:Below w.heap.size w w1):WrB B w1 k l:=let ⟨v,h1,h2,h3,h4⟩:=h;⟨v,h1.keep hb,h2,h3,Nat.le_trans h4 hb.size⟩
theorem wrB_new (w:World):WrB w.heap.size (w.alloc (.cells #[.slice none 0 0] 163)) w.heap.size [] :=
 ⟨.slice none 0 0,⟨zAI w _,OwnR.nil _ _ _,fun h=>(by cases h)⟩,Nat.le_refl _,fun j hj=>(by cases hj),by simp⟩
theorem wrB_told {w0:World} {v:Value} {e:Ending} {w':World} {l':Bs} (hb:Below w.heap.size w w0) (h2:B≤k) (h3:∀ j,v.ownBlock=some j→B≤j) (h4:B≤w.heap.size) (hT:WrTold w0 k v l' e w'):WrNext B w k l' e w':=by
 obtain ⟨rfl,v',hv',hc,hn⟩:=hT
 have hs:=hb.size
 refine ⟨rfl,⟨v',hv',h2,fun j hj=>?_,by have:=hc.size;omega⟩,?_⟩
 ·rcases hn j hj with h | h
  ·exact h3 j h
  ·omega
 ·refine (((Chg.of_below hb).mono fun _ _ h=>h.elim).trans hc fun _ _ hs=>hs:Chg (WrS k v) w w').below h4 fun i hi hs=>?_
  rcases hs with rfl | hs
  ·omega
  ·have:=h3 i hs
   omega
theorem HasI.lit {w:World} (zs:List Int) (cs:Array Value) (h:cs.toList=zs.map (Value.int .i64)) (e:TypeId) (fr:Nat × Nat) (g n c:Nat) (hg:g=w.heap.size) (hn:n=zs.length):HasI (w.alloc (.cells cs e fr)) (.slice (some ⟨g,0,none⟩) n c) zs:=by
 subst hg
 subst hn
 refine ⟨by simp,some ⟨w.heap.size,0,none⟩,c,rfl,fun e=>(by cases e),fun a ha i u hu=>?_⟩
 cases ha
 rw [add_zero]
 refine zAA (zAI w _) ?_
 rw [← h] at hu
 simpa using hu
theorem zE1 (h:WrB B w k l) (zs:List Int) (cs:Array Value) (hcs:cs.toList=zs.map (Value.int .i64)) (hz:∀ z ∈ zs,-9223372036854775808≤z∧z≤9223372036854775807) (hl:l.length+9 * zs.length≤140737488355000) (g n c:Nat) (hg:g=w.heap.size) (hn:n=zs.length) (fr:Nat × Nat) :
  Calls Tryz.prog 105 #[.pointer (some ⟨k,0,none⟩),.slice (some ⟨g,0,none⟩) n c] (w.alloc (.cells cs 3 fr)) (WrNext B w k (l ++ zAh zs)):=by
 obtain ⟨v,h1,h2,h3,h4⟩:=h
 have hb:=zAD w (.cells cs 3 fr)
 have hk:=h1.klt
 refine (zEU (h1.keep hb) (zs:=zs) (fun W hc=>zAL.chg (HasI.lit zs cs hcs _ _ g n c hg hn) hc fun x hx hs=>?_) hz hl).mono fun e w' hT=>wrB_told hb h2 h3 h4 hT
 have hx':x=g:=by cases hx;rfl
 rcases hs with e | e
 ·omega
 ·have:=OwnR.lt h1.row e
  omega
theorem wrB_numsx (h:WrB B w k l) {p:Option Addr} {n c:Nat} {zs:List Int} (hx:∀ W,Below B w W→HasI W (.slice p n c) zs) (hz:∀ z ∈ zs,-9223372036854775808≤z∧z≤9223372036854775807) (hl:l.length+9 * zs.length≤140737488355000) :
  Calls Tryz.prog 105 #[.pointer (some ⟨k,0,none⟩),.slice p n c] w (WrNext B w k (l ++ zAh zs)):=by
 obtain ⟨v,h1,h2,h3,h4⟩:=h
 refine (zEU h1 (zs:=zs) (fun W hc=>hx W (hc.below h4 fun i hi hs=>?_)) hz hl).mono fun e w' hT=>wrB_told (Below.refl _ _) h2 h3 h4 hT
 rcases hs with rfl | hs
 ·omega
 ·have:=h3 i hs
  omega
theorem wrB_raw (h:WrB B w k l) (m:Bs) (cs:Array Value) (hcs:cs.toList=zAQ m) (hl:l.length+m.length≤140737488355328) (g n c:Nat) (hg:g=w.heap.size) (hn:n=m.length) (fr:Nat × Nat) :
  Calls Tryz.prog 104 #[.pointer (some ⟨k,0,none⟩),.slice (some ⟨g,0,none⟩) n c] (w.alloc (.cells cs 5 fr)) (WrNext B w k (l ++ m)):=by
 obtain ⟨v,h1,h2,h3,h4⟩:=h
 have hb:=zAD w (.cells cs 5 fr)
 exact (wraw_calls (h1.keep hb) (has_lit cs m g n c hg hn hcs) hl).mono fun e w' hT=>wrB_told hb h2 h3 h4 hT
theorem wrB_bytes (h:WrB B w k l) {pv:Option Addr} {m cv:Nat} {x:Bs} (hx:∀ W,Below B w W→HasB W (.slice pv m cv) x) (hl:l.length+x.length≤140737488354000) (g c:Nat) (hg:g=w.heap.size) (fr:Nat × Nat) :
  Calls Tryz.prog 127 #[.pointer (some ⟨k,0,none⟩),.slice (some ⟨g,0,none⟩) 1 c] (w.alloc (.cells #[.slice pv m cv] 22 fr)) (WrNext B w k (l ++ rowB x)):=by
 obtain ⟨v,h1,h2,h3,h4⟩:=h
 refine (wbytes_one h1 (fun W hc=>hx W (hc.below h4 fun i hi hs=>?_)) hl g c hg fr).mono fun e w' hT=>wrB_told (zAD w _) h2 h3 h4 hT
 rcases hs with rfl | hs
 ·omega
 ·have:=h3 i hs
  omega
theorem wrB_out (h:WrB B w k l) (hl:l.length≤140737488355328) :
  Calls Tryz.prog 106 #[.pointer (some ⟨k,0,none⟩)] w fun e w'=>∃ v,e=.returned v∧OwnB w' 5 v l∧(∀ j,v.ownBlock=some j→B≤j)∧Below B w w':=by
 obtain ⟨v,h1,h2,h3,h4⟩:=h
 refine (wout_calls h1 hl).mono ?_
 rintro e w' ⟨u,rfl,hu,hn,hb⟩
 exact ⟨u,rfl,hu,fun x hx=>Nat.le_trans h4 (hn x hx),hb.mono h4⟩
theorem zEi (zs:List Int) (h:zs.length≤4611686018427387904):(grpB zs).length≤9+9 * zs.length:=by
 unfold grpB
 rw [List.length_append]
 have h1:=zAe h
 have h2:=zAy zs
 omega
theorem zDz (h:WrB B w k l) {p:Option Addr} {n c:Nat} {zs:List Int} (hx:∀ W,Below B w W→HasI W (.slice p n c) zs) (hz:∀ z ∈ zs,-9223372036854775808≤z∧z≤9223372036854775807) (hl:l.length+9+9 * zs.length≤140737488354000) :
  Calls Tryz.prog 169 #[.pointer (some ⟨k,0,none⟩),.slice p n c] w (WrNext B w k (l ++ grpB zs)):=by
 have hn:zs.length=n:=by obtain ⟨_,_,e⟩:=(hx w (Below.refl _ _)).slice;simp only [Value.slice.injEq] at e;exact e.2.1.symm
 have h9:=zAe (n:=zs.length) (by omega)
 have Hg:=zh (show grpB zs=numB zs.length ++ zAh zs from rfl)
 have h1:=zE1 h [(n:Int)] #[.int .i64 (n:Int)] rfl (by simp;omega) (by simp;omega) w.heap.size 1 1 rfl rfl (0,0)
 rw [show zAh [(n:Int)]=numB zs.length by rw [hn];simp [zAh,zCK (show n≤4611686018427387904 by omega)]] at h1
 have H1:=zh h1
 have H2:=zh (fun (W:World) (h:WrB B W k (l ++ numB zs.length)) (hb:Below B w W)=>wrB_numsx h (fun W' hb'=>hx W' (hb.trans hb')) hz (by rw [List.length_append];omega))
 clear h1 h hx hz hn h9 hl
 go_enter Tryz.func169,Tryz.ntmps169
 go_wp2_with fail
 refine H1.out.mono ?_
 rintro e w2 ⟨rfl,hw2,hb2⟩
 have HB2:=zh hb2
 have H3:=zh (H2.out w2 hw2 hb2)
 clear hw2 hb2 H1
 go_wp2_with fail
 refine H3.out.mono ?_
 rintro e w3 ⟨rfl,hw3,hb3⟩
 have HE:=zh (show WrNext B w k (l ++ grpB zs) (.returned (.tuple #[])) w3 from ⟨rfl,by rw [Hg.out,← List.append_assoc];exact hw3,HB2.out.trans hb3⟩)
 clear hw3 hb3
 go_wp2_with fail
 go_end0
 exact HE.out
end
def zBJ (w:World) (b:Bs) (e:Ending) (w':World):Prop:=∃ v,e=.returned v∧OwnB w' 5 v b∧(∀ k,v.ownBlock=some k→w.heap.size≤k)∧Below w.heap.size w w'
theorem termRec_calls (w:World) (t v:Int) (ht:-9223372036854775808≤t∧t≤9223372036854775807) (hv:-9223372036854775808≤v∧v≤1099511627776):Calls Tryz.prog 109 #[.int .i64 t,.int .i64 v] w (zBJ w (trmB t v)):=by
 have H0:=zh (wrB_new w)
 have hbw:Below w.heap.size w (w.alloc (.cells #[.slice none 0 0] 163)):=zAD w _
 have h1:=wrB_raw (wrB_new w) [2] #[.int .u8 2] rfl (by decide) (w.heap.size+1) 1 1 (by simp) rfl (0,0)
 have H1:=zh h1
 have hw1:IntKind.i64.wrap (v+1)=v+1:=IntWalk.i64_in _ (by omega)
 have HT:=zh (show trmB t v=[2] ++ zAh [t,v+1] from by simp [trmB,zAh])
 have H2:=zh (fun (W:World) (h:WrB w.heap.size W w.heap.size ([] ++ [2]))=>zE1 h [t,v+1] #[.int .i64 t,.int .i64 (v+1)] rfl (by simp;omega) (by simp) W.heap.size 2 2 rfl rfl (0,0))
 clear h1 H0
 go_enter Tryz.func109,Tryz.ntmps109
 go_wp2_with fail
 refine H1.out.mono ?_
 rintro e w2 ⟨rfl,hw2,hb2⟩
 have HB2:=zh (hbw.trans (hb2.mono (Nat.le_refl _)))
 have H3:=zh (H2.out w2 hw2)
 clear hw2 hb2 H1
 go_wp2_with fail
 refine H3.out.mono ?_
 rintro e w3 ⟨rfl,hw3,hb3⟩
 have HB3:=zh (HB2.out.trans hb3)
 have H4:=zh (wrB_out hw3 (by have:=zAy [t,v+1];simp at this ⊢;omega))
 clear hw3 hb3 H3
 go_wp2_with fail
 refine H4.out.mono ?_
 rintro e w4 ⟨u,rfl,hu,hun,hb4⟩
 have HE:=zh (show zBJ w (trmB t v) (.returned u) w4 from ⟨u,rfl,by rw [HT.out];exact hu,hun,HB3.out.trans hb4⟩)
 clear hu hun hb4
 go_wp2_with fail
 go_ret
 exact HE.out
theorem entRec_calls {w:World} (n:Nat) (hn:n≤4611686018427387904) {e:Ent} {v:EV} (h:zBE w e v) (he:zAs e=true):Calls Tryz.prog 100 #[.int .i64 (n:Int),entV e v] w (zBJ w (entB n e)):=by
 obtain ⟨t,k,da,no⟩:=e
 obtain ⟨v1,v2⟩:=v
 have hf:=zA8 he
 dsimp only at hf
 have hb1:=zAD w (.cells #[.int .i64 t,.int .i64 k,v1,v2] 50)
 have hbox:=zAI w (.cells #[.int .i64 t,.int .i64 k,v1,v2] 50)
 obtain ⟨p1,c1,e1⟩:=h.data.slice
 obtain ⟨p2,c2,e2⟩:=h.nodes.slice
 have e1':v1=.slice p1 da.length c1:=e1
 have e2':v2=.slice p2 no.length c2:=e2
 subst e1'
 subst e2'
 have H:=zh h
 have HT:=zh (show entB n ⟨t,k,da,no⟩=([] ++ [3]) ++ zAh [(n:Int),t,k] ++ rowB da ++ grpB no from by simp [entB,zAh,zCK hn])
 have hd6:=hf.2.2.1
 have hn7:=hf.2.2.2.1
 have Hf:=zh hf
 clear e1 e2 h he hf
 unfold entV
 dsimp only
 go_enter Tryz.func100,Tryz.ntmps100
 go_wp2_with fail
 have hb2:Below w.heap.size w ((w.alloc (.cells #[.int .i64 t,.int .i64 k,.slice p1 da.length c1,.slice p2 no.length c2] 50)).alloc (.cells #[.slice none 0 0] 163)):=hb1.alloc hb1.size _
 have hwr:=wrB_new (w.alloc (.cells #[.int .i64 t,.int .i64 k,.slice p1 da.length c1,.slice p2 no.length c2] 50))
 have hbx:=(zCw _ (.cells #[.slice none 0 0] 163) (zAC hbox)).trans hbox
 have hsz:(w.alloc (.cells #[.int .i64 t,.int .i64 k,.slice p1 da.length c1,.slice p2 no.length c2] 50)).heap.size=w.heap.size+1:=by simp
 rw [hsz] at hwr
 have H1:=zh (wrB_raw hwr [3] #[.int .u8 3] rfl (by decide) (w.heap.size+2) 1 1 (by simp) rfl (0,0))
 have hS:Below (w.heap.size+1) (w.alloc (.cells #[.int .i64 t,.int .i64 k,.slice p1 da.length c1,.slice p2 no.length c2] 50)) ((w.alloc (.cells #[.int .i64 t,.int .i64 k,.slice p1 da.length c1,.slice p2 no.length c2] 50)).alloc (.cells #[.slice none 0 0] 163)):=by rw [← hsz];exact zAD _ _
 have HBX:=zh hbx
 have HB2:=zh hb2
 generalize (w.alloc (.cells #[.int .i64 t,.int .i64 k,.slice p1 da.length c1,.slice p2 no.length c2] 50)).alloc (.cells #[.slice none 0 0] 163)=W0 at *
 clear hb1 hbox hwr hbx hb2 hsz hS
 generalize hB:w.heap.size=B at *
 refine H1.out.mono ?_
 rintro e w2 ⟨rfl,hw2,hb2⟩
 have HBx2:=zh ((hb2.block B (by omega)).trans HBX.out)
 have HB3:=zh (show Below B w w2 from HB2.out.trans (hb2.mono (Nat.le_succ _)))
 have H2:=zh (zE1 hw2 [(n:Int),t,k] #[.int .i64 (n:Int),.int .i64 t,.int .i64 k] rfl (by have:=Hf.out;simp;omega) (by simp) w2.heap.size 3 3 rfl rfl (0,0))
 have l0:=zAA HBx2.out (i:=0) rfl
 have l1:=zAA HBx2.out (i:=1) rfl
 have l0:w2.cell? ⟨B,0,none⟩=some (.int .i64 t):=l0
 have l1:w2.cell? ⟨B,1,none⟩=some (.int .i64 k):=l1
 clear hw2 hb2 H1
 go_wp2_with fail
 refine H2.out.mono ?_
 rintro e w3 ⟨rfl,hw3,hb3⟩
 have HBx3:=zh ((hb3.block B (by omega)).trans HBx2.out)
 have HB4:=zh (show Below B w w3 from HB3.out.trans (hb3.mono (Nat.le_succ _)))
 have h9:=zAy [(n:Int),t,k]
 have H3:=zh (wrB_bytes hw3 (pv:=p1) (m:=da.length) (cv:=c1) (x:=da) (fun W hb=>HasB.below H.out.data (by rw [hB];exact HB4.out.trans (hb.mono (Nat.le_succ _)))) (by simp at h9 ⊢;omega) w3.heap.size 1 rfl (0,0))
 have l2:w3.cell? ⟨B,2,none⟩=some (.slice p1 da.length c1):=zAA HBx3.out (i:=2) rfl
 clear hw3 hb3 H2 l0 l1
 go_wp2_with fail
 refine H3.out.mono ?_
 rintro e w4 ⟨rfl,hw4,hb4⟩
 have HBx4:=zh ((hb4.block B (by omega)).trans HBx3.out)
 have HB5:=zh (show Below B w w4 from HB4.out.trans (hb4.mono (Nat.le_succ _)))
 have h8:(rowB da).length≤65536+9:=by unfold rowB;have:=zAe (n:=da.length) (by omega);rw [List.length_append];omega
 have H4:=zh (zDz hw4 (p:=p2) (n:=no.length) (c:=c2) (zs:=no) (fun W hb=>zAL.chg H.out.nodes (Chg.of_below (by rw [hB];exact HB5.out.trans (hb.mono (Nat.le_succ _)))) fun _ _=>id) (fun z hz=>by have:=Hf.out.2.2.2.2 z hz;omega) (by simp at h9 ⊢;omega))
 have l3:w4.cell? ⟨B,3,none⟩=some (.slice p2 no.length c2):=zAA HBx4.out (i:=3) rfl
 clear hw4 hb4 H3 l2
 go_wp2_with fail
 refine H4.out.mono ?_
 rintro e w5 ⟨rfl,hw5,hb5⟩
 have HB6:=zh (show Below B w w5 from HB5.out.trans (hb5.mono (Nat.le_succ _)))
 have h7:=zEi no (by omega)
 have H5:=zh (wrB_out hw5 (by simp at h9 ⊢;omega))
 clear hw5 hb5 H4 l3
 go_wp2_with fail
 refine H5.out.mono ?_
 rintro e w6 ⟨u,rfl,hu,hun,hb6⟩
 have HE:=zh (show zBJ w (entB n ⟨t,k,da,no⟩) (.returned u) w6 from ⟨u,rfl,by rw [HT.out];exact hu,fun x hx=>by have:=hun x hx;omega,by rw [hB];exact HB6.out.trans (hb6.mono (Nat.le_succ _))⟩)
 clear hu hun hb6
 go_wp2_with fail
 go_ret
 exact HE.out
section
variable {w w1:World} {j d:Nat} {pre:ByteArray} {D:zAB} {M:JouM} {F:Nat→Prop}
theorem jfirst_calls (h:JouF w w1 j d pre D M F):Calls Tryz.prog 158 #[.pointer (some ⟨j,0,none⟩)] w1 (zBJ w1 (fstB M.number M.term M.group)):=by
 have hok:=h.okM
 have hlast:=hok.last
 have ht:=zAr.1 hok.term
 have hg:=zCP hok.group
 obtain ⟨own,gv,dv,ev,vs,hJ,hS,hn,hl⟩:=h
 have c0:=hJ.c 0 rfl
 have c1:=hJ.c 1 rfl
 have c2:=hJ.c 2 rfl
 obtain ⟨pg,cg,hgv,-⟩:=zAl hJ.group
 rw [hgv] at c2
 have HG:=zh (hgv ▸ hJ.group)
 unfold JouM.last at hlast
 have HT:=zh (show fstB M.number M.term M.group=[] ++ [1] ++ zAh [(M.number:Int),M.term] ++ grpB M.group from by simp [fstB,zAh,zCK (show M.number≤4611686018427387904 by omega)])
 have Hg:=zh hg
 have hg7:=hg.1
 have hb1:=zAD w1 (.cells #[.slice none 0 0] 163)
 have H1:=zh (wrB_raw (wrB_new w1) [1] #[.int .u8 1] rfl (by decide) (w1.heap.size+1) 1 1 (by simp) rfl (0,0))
 have HB1:=zh hb1
 have c0b:=zh (And.intro c0 c1)
 have hnb:M.number≤1099511627776:=by omega
 clear hJ hS hn hl hgv hok hg hlast hb1
 generalize M.number=b at *
 generalize M.term=t at *
 go_enter Tryz.func158,Tryz.ntmps158
 go_wp2_with fail
 refine H1.out.mono ?_
 rintro e w2 ⟨rfl,hw2,hb2⟩
 have HB2:=zh (HB1.out.trans hb2)
 have c0:=zAJ c0 HB2.out
 have c1:=zAJ c1 HB2.out
 have HW2:=zh hw2
 clear hw2 hb2 H1
 go_wp2_with fail
 refine zAT (fun w':World=>w'.cell? ⟨j,0,none⟩=some (.int .i64 (b:Int))∧w'.cell? ⟨j,1,none⟩=some (.int .i64 t)) (n:=12) (by kernel_rfl) rfl (⟨c0,c1⟩) (fun hHeld=>?_)
 have HW2d:=zh (HW2.out.keep (zAb w2))
 have HB2d:=zh (HB2.out.trans ⟨rfl,rfl,rfl,Nat.le_refl _,fun _ _=>rfl⟩:Below w1.heap.size w1 w2.drew)
 generalize w2.drew=W2 at *
 refine otk 0 (v:=?v3x0) rfl ?_
 simp only [Act.put,uA,uB,uC]
 refine otk 1 (v:=?v3x1) rfl ?_
 simp only [Act.put,uA,uB,uC]
 refine otk 2 (v:=?v3x2) rfl ?_
 simp only [Act.put,uA,uB,uC]
 refine otk 3 (v:=?v3x3) rfl ?_
 simp only [Act.put,uA,uB,uC]
 refine otk 4 (v:=?v3x4) rfl ?_
 simp only [Act.put,uA,uB,uC]
 refine otk 5 (v:=?v3x5) rfl ?_
 simp only [Act.put,uA,uB,uC]
 refine otk 6 (v:=?v3x6) rfl ?_
 simp only [Act.put,uA,uB,uC]
 refine otk 7 (v:=?v3x7) rfl ?_
 simp only [Act.put,uA,uB,uC]
 refine otk 8 (v:=?v3x8) rfl ?_
 simp only [Act.put,uA,uB,uC]
 refine otk 9 (v:=?v3x9) rfl ?_
 simp only [Act.put,uA,uB,uC]
 refine zAG 10 rfl (by kernel_rfl) (by rfl) (fun K hK=>?_)
 have Hh6:=zh (And.intro (zA4 hHeld.1 (.cells #[.int .i64 (b:Int),.int .i64 t] 3)) (zA4 hHeld.2 (.cells #[.int .i64 (b:Int),.int .i64 t] 3)))
 have H2:=zh (zE1 HW2d.out [(b:Int),t] #[.int .i64 (b:Int),.int .i64 t] rfl (by simp;omega) (by simp) W2.heap.size 2 2 rfl rfl (0,0))
 go_wp2_with fail
 refine hK.out _ _ (Hh6.out) (fun hHeld=>?_)
 clear hK
 try simp only [Act.put,uA,uB,uC]
 refine zAG 11 rfl (by kernel_rfl) (by rfl) (fun K hK=>?_)
 go_wp2_with fail
 refine H2.out.mono ?_
 rintro e w3 ⟨rfl,hw3,hb3⟩
 have HB3:=zh (HB2d.out.trans hb3)
 have c2:=zAJ c2 HB3.out
 have Hh3:=zh (And.intro (zAJ c0b.out.1 HB3.out) (zAJ c0b.out.2 HB3.out))
 have h9:=zAy [(b:Int),t]
 have H5:=zh (zDz hw3 (p:=pg) (n:=M.group.length) (c:=cg) (zs:=M.group) (fun W hb=>zAL.chg (OwnI.has HG.out) (Chg.of_below (HB3.out.trans hb)) fun _ _=>id) (fun z hz=>by have:=Hg.out.2 z hz;omega) (by simp at h9 ⊢;omega))
 clear hw3 hb3 H2 h9
 go_wp2_with fail
 refine hK.out _ _ (Hh3.out) (fun hHeld=>?_)
 clear hK
 try simp only [Act.put,uA,uB,uC]
 refine wpAnyH_done (by kernel_rfl) ?_ _
 go_wp2_with fail
 refine H5.out.mono ?_
 rintro e w4 ⟨rfl,hw4,hb4⟩
 have HB6:=zh (show Below w1.heap.size w1 w4 from HB3.out.trans hb4)
 have h7:=zEi M.group (by omega)
 have H6:=zh (wrB_out hw4 (by have h9:=zAy [(b:Int),t];simp at h9 ⊢;omega))
 clear hw4 hb4 H5
 go_wp2_with fail
 refine H6.out.mono ?_
 rintro e w6 ⟨u,rfl,hu,hun,hb6⟩
 have HE:=zh (show zBJ w1 (fstB b t M.group) (.returned u) w6 from ⟨u,rfl,by rw [HT.out];exact hu,hun,HB6.out.trans hb6⟩)
 clear hu hun hb6
 go_wp2_with fail
 go_ret
 exact HE.out
end
theorem recsB_take {ls:List Bs} {k:Nat} (hk:k < ls.length):zAU (ls.take (k+1))=zAU (ls.take k) ++ zAK ls[k]:=by
 rw [List.take_succ_eq_append_getElem hk,zDt,zDu]
theorem recsB_take_le (ls:List Bs) (k:Nat):(zAU (ls.take k)).length≤(zAU ls).length:=by
 have h:zAU ls=zAU (ls.take k) ++ zAU (ls.drop k):=by rw [← zDt,List.take_append_drop]
 rw [h,List.length_append]
 omega
theorem zDl {w:World} {p:Option Addr} {n c:Nat} {ls:List Bs} (hx:zAw w (.slice p n c) ls) (hn:n≤1099511627776) (h1:∀ l ∈ ls,l.length≤1048576) (hl:(zAU ls).length≤1099511627776) :
  Calls Tryz.prog 159 #[.slice p n c] w (zBJ w (zAU ls)):=by
 obtain ⟨i0,hi,hz0,hz1,hz2⟩:=info_parts (show (Tryz.prog.info? 5).map (fun i=>(i.zero,i.size,i.bytes))=some (some (.int .u8 0),1,1) by kernel_rfl)
 have Hn:=zh (zAw.len hx)
 have Hx:=zh hx
 have H1:=zh h1
 have Hl:=zh hl
 clear hx h1 hl
 go_enter Tryz.func159,Tryz.ntmps159
 go_wp2_with fail
 go_loopw [3,10] (fun x i wr=>∃ k:Nat,k≤n∧i=.int .i64 k∧OwnB wr 5 x (zAU (ls.take k))∧(∀ y,x.ownBlock=some y→w.heap.size≤y)∧Below w.heap.size w wr) (fun _ i _=>n - (intOf i).toNat)
 case atStart=>exact ⟨0,Nat.zero_le _,rfl,OwnR.nil _ _ _,fun y hy=>(by cases hy),Below.refl _ _⟩
 case round =>
  obtain ⟨k,hk,rfl,hown,hnew,hb⟩:=hrel
  by_cases hlt:k < n
  ·have hkl:k < ls.length:=by rw [← Hn.out];exact hlt
   have hb':=zCD Hx.out hb
   obtain ⟨-,b,o,v,rfl,hcell,hv⟩:=zAw.row hb' hkl
   have hlk:=H1.out _ (List.getElem_mem hkl)
   have HTk:=zh (recsB_take hkl)
   have hle:=recsB_take_le ls (k+1)
   generalize ls[k]=y at *
   obtain ⟨pv,cv,rfl⟩:=hv.slice
   have He:=zh (enc_calls (zBy hv 22 (0,0) _ 1 rfl (Nat.le_refl _)) (by decide) (by simpa using hlk))
   rw [show [y].flatten=y by simp] at He
   have Hlen:=zh (show (zAU (ls.take k)).length+(zAK y).length≤1099511627776 from by
    have:=Hl.out
    rw [HTk.out,List.length_append] at hle
    omega)
   have HX:=zh (And.intro hown (And.intro hnew hb))
   clear hv hb' hown hnew hb hle
   go_wp2_with fail
   refine He.out.mono ?_
   rintro e w2 ⟨u,rfl,hu,-,hb2⟩
   have hba:Below wr.heap.size wr w2:=(zAD wr (.cells #[.slice pv y.length cv] 22)).trans (hb2.mono (by simp))
   have hown2:=zBm HX.out.1 hba
   have Hown2:=zh hown2
   have HB2:=zh (HX.out.2.2.trans (hba.mono HX.out.2.2.size))
   obtain ⟨pu,cu,rfl⟩:=hu.slice
   have Hu:=zh hu
   have hL47:=Hlen.out
   generalize hA:(zAU (ls.take k)).length=A at *
   generalize hN:(zAK y).length=N at *
   have Hrow:=zh (show OwnR w2 5 1 u3 A (zAQ (zAU (ls.take k))) from by have:=Hown2.out;unfold OwnB at this;rwa [hA] at this)
   have Hxx:=zh (show zAL w2 1 (.slice pu N cu) N (zAQ (zAK y)) from by have:=Hu.out;unfold HasB at this;rwa [hN] at this)
   clear hb2 hba hown2 hu He
   have HA:=zh hA
   have HN:=zh hN
   clear hA hN
   go_wp2_with (at_builtin;refine zAP _ rfl (.tmp 20) (.tmp 21) 22 rfl 5 i0 (.int .u8 0) 1 1 Tryz.underlying22 hi hz0 hz1 hz2 rfl (by decide) _ A _ rfl Hrow.out (.slice pu N cu) N _ rfl Hxx.out (zAM _) (by unfold maxLen;omega) (by omega) ?_;intro v3 w3 hown3 hgrow3 hloc3;go_loud (have HE:=zh (show OwnB w3 5 v3 (zAU (ls.take (k+1)))∧(∀ y,v3.ownBlock=some y→w.heap.size≤y)∧Below w.heap.size w w3 from ⟨by unfold OwnB;rw [HTk.out,List.length_append,HA.out,HN.out,zBT];exact hown3,fun z hz=>(by { rcases hloc3 with e | ⟨g,e,hge⟩;exact HX.out.2.1 z (e ▸ hz);rw [hz] at e;cases e;exact Nat.le_trans HB2.out.size hge }),HB2.out.trans ((Chg.of_grown hgrow3).below HB2.out.size fun z hz e=>(by have:=HX.out.2.1 z e.symm;omega))⟩);clear hgrow3 hloc3;obtain ⟨p3,q3,rfl⟩:=OwnR.shape hown3;clear hown3))
   go_roundw
   case rel=>exact ⟨k+1,by omega,by go_num,HE.out⟩
   case measure=>simp [intOf];omega
  ·have he:ls.take k=ls:=List.take_of_length_le (by rw [← Hn.out];omega)
   rw [he] at hown
   have HE:=zh (show zBJ w (zAU ls) (.returned u3) wr from ⟨u3,rfl,hown,hnew,hb⟩)
   clear hown hnew hb he
   go_wp2_with fail
   go_ret
   exact HE.out
section
variable {w w1 wc:World} {j d:Nat} {pre:ByteArray} {D:zAB} {M:JouM} {F:Nat→Prop}
theorem jou_append (h:JouF w w1 j d pre D M F) (hb:Below w1.heap.size w1 wc) (s:ByteArray) (x:Value) (ls:List Bs) (hx:zAw wc x ls) (hn:ls.length≤140737488355328) (hl:ls.flatten.length≤140737488355328) (hsz:s.size≤9223372036854775807) :
  Calls Tryz.prog 15 #[.pointer (some ⟨d,0,none⟩),.string s,x] wc fun e w'=>e=.returned (.int .i64 ((D.append (nm s) ls.flatten).2:Int))∧JouF w w' j d pre (D.append (nm s) ls.flatten).1 M F∧Same F w1 w'∧w'.heap[j]?=w1.heap[j]? :=
 zD6 h hb fun _ hS=>zEy (hS.next hb) s x ls hx hn hl hsz
theorem jou_sync (h:JouF w w1 j d pre D M F) (s:ByteArray) (hs:s.size≤9223372036854775807) :
  Calls Tryz.prog 130 #[.pointer (some ⟨d,0,none⟩),.slice (some ⟨w1.heap.size,0,none⟩) 1 1] (w1.alloc (.cells #[.string s] 9)) fun e w'=>e=.returned (.int .i64 ((D.sync [nm s]).2:Int))∧JouF w w' j d pre (D.sync [nm s]).1 M F∧Same F w1 w'∧w'.heap[j]?=w1.heap[j]? :=
 zD6 h (zAD _ _) fun _ hS=>st_sync hS [s] w1.heap.size 1 rfl (0,0) (by simp) (by simpa using hs)
theorem jou_remove (h:JouF w w1 j d pre D M F) (s:ByteArray) (hs:s.size≤9223372036854775807) :
  Calls Tryz.prog 76 #[.pointer (some ⟨d,0,none⟩),.slice (some ⟨w1.heap.size,0,none⟩) 1 1] (w1.alloc (.cells #[.string s] 9)) fun e w'=>e=.returned (.int .i64 ((D.remove [nm s]).2:Int))∧JouF w w' j d pre (D.remove [nm s]).1 M F∧Same F w1 w'∧w'.heap[j]?=w1.heap[j]? :=
 zD6 h (zAD _ _) fun _ hS=>st_remove hS [s] w1.heap.size 1 rfl (0,0) (by simp) (by simpa using hs)
theorem jou_trunc (h:JouF w w1 j d pre D M F) (s:ByteArray) (hs:s.size≤9223372036854775807) (z:Int) (hz:-9223372036854775808≤z) (hz':z≤9223372036854775807) :
  Calls Tryz.prog 156 #[.pointer (some ⟨d,0,none⟩),.string s,.int .i64 z] w1 fun e w'=>e=.returned (.int .i64 ((D.truncate (nm s) z).2:Int))∧JouF w w' j d pre (D.truncate (nm s) z).1 M F∧Same F w1 w'∧w'.heap[j]?=w1.heap[j]? :=
 zD6 h (Below.refl _ _) fun _ hS=>st_trunc hS s hs z hz hz'
def JouTold (w w1:World) (j d:Nat) (pre:ByteArray) (F:Nat→Prop) (r:zEW) (e:Ending) (w':World):Prop :=
 e=.returned (.int .i64 (r.err:Int))∧JouF w w' j d pre r.disk r.jou F∧Same F w1 w'
def zEF (M:JouM) (k:Nat):JouM:={ M with dead:=M.dead || decide (k≠0) }
theorem deadIf_zero (M:JouM):zEF M 0=M:=by unfold zEF;simp
theorem deadIf_ne (M:JouM) {k:Nat} (h:k≠0):zEF M k=M.die:=by unfold zEF JouM.die;simp [h]
theorem jlays_calls (h:JouF w w1 j d pre D M F) {p:Option Addr} {n c:Nat} {ls:List Bs} (hx:zAw w1 (.slice p n c) ls) (hn:n≤1099511627776) (h1:∀ l ∈ ls,l.length≤1048576) (hl:(zAU ls).length≤1099511627776) :
  Calls Tryz.prog 101 #[.pointer (some ⟨j,0,none⟩),.slice p n c] w1 fun e w'=>e=.returned (.int .i64 ((zEn D (logN (nm pre)) (zAU ls)).2:Int))∧JouF w w' j d pre (zEn D (logN (nm pre)) (zAU ls)).1 (zEF M (zEn D (logN (nm pre)) (zAU ls)).2) F∧Same F w1 w':=by
 have hps:=h.psz
 obtain ⟨c3,c4,-⟩:=h.jc
 have hsl:(sLog pre).size=pre.size+4:=zEC pre
 have Hfr:=zh (fun W (hb:Below w1.heap.size w1 W)=>zDl (zCD hx hb) hn h1 hl)
 have HL:=zh (show zEn D (logN (nm pre)) (zAU ls)=if (D.append (logN (nm pre)) (zAU ls)).2≠0 then D.append (logN (nm pre)) (zAU ls) else (D.append (logN (nm pre)) (zAU ls)).1.sync [logN (nm pre)] from rfl)
 have H:=zh h
 have hll:=hl
 clear hx h1 hl h
 cases hap:D.append (logN (nm pre)) (zAU ls) with
 | mk D1 e1 =>
  have Hap:=zh (fun W (hb:Below w1.heap.size w1 W) x (hx:zAw W x [zAU ls])=>show Calls Tryz.prog 15 #[.pointer (some ⟨d,0,none⟩),.string (sLog pre),x] W fun e w'=>e=.returned (.int .i64 (e1:Int))∧JouF w w' j d pre D1 M F∧Same F w1 w'∧w'.heap[j]?=w1.heap[j]? from by
   have:=jou_append H.out hb (sLog pre) x [zAU ls] hx (by simp) (by simp;omega) (by rw [hsl];omega)
   rw [show [zAU ls].flatten=zAU ls by simp,zBf,hap] at this
   exact this)
  rw [hap] at HL
  dsimp only at HL
  clear hap
  generalize zEn D (logN (nm pre)) (zAU ls)=Z at *
  generalize (zAU ls).length=L at *
  go_enter Tryz.func101,Tryz.ntmps101
  go_wp2_with fail
  refine zAT (fun w':World=>w'.cell? ⟨j,3,none⟩=some (.pointer (some ⟨d,0,none⟩))) (n:=10) (by kernel_rfl) rfl (c3) (fun hHeld=>?_)
  refine otk 0 (v:=?v1x0) rfl ?_
  simp only [Act.put,uA,uB,uC]
  refine otk 1 (v:=?v1x1) rfl ?_
  simp only [Act.put,uA,uB,uC]
  refine otk 2 (v:=?v1x2) rfl ?_
  simp only [Act.put,uA,uB,uC]
  refine otk 3 (v:=?v1x3) rfl ?_
  simp only [Act.put,uA,uB,uC]
  refine otk 4 (v:=?v1x4) rfl ?_
  simp only [Act.put,uA,uB,uC]
  refine otk 5 (v:=?v1x5) rfl ?_
  simp only [Act.put,uA,uB,uC]
  refine zAG 6 rfl (by kernel_rfl) (by rfl) (fun K hK=>?_)
  have HB0:=zh (zAb w1)
  go_wp2_with fail
  refine (Hfr.out w1.drew HB0.out).mono ?_
  rintro e w3 ⟨v,rfl,hv,-,hb3⟩
  have HB3:=zh (HB0.out.trans hb3)
  have Hh3:=zh (zAJ hHeld hb3)
  have HV:=zh (OwnB.has hv)
  obtain ⟨pv,cv,rfl,-⟩:=zAO hv
  clear hv hb3 Hfr
  go_wp2_with fail
  refine hK.out _ _ (Hh3.out) (fun hHeld=>?_)
  clear hK
  try simp only [Act.put,uA,uB,uC]
  refine zAG 7 rfl (by kernel_rfl) (by rfl) (fun K hK=>?_)
  have Hh4:=zh (zA4 hHeld (.cells #[.slice pv (zAU ls).length cv] 22))
  go_wp2_with fail
  refine hK.out _ _ (Hh4.out) (fun hHeld=>?_)
  clear hK
  try simp only [Act.put,uA,uB,uC]
  refine zAG 8 rfl (by kernel_rfl) (by rfl) (fun K hK=>?_)
  have Hcl:=zh (Hap.out _ (HB3.out.trans ((zAD w3 (.cells #[.slice pv (zAU ls).length cv] 22)).mono HB3.out.size)) _ (zBy HV.out 22 (0,0) w3.heap.size 1 rfl (Nat.le_refl _)))
  go_wp2_with fail
  refine Hcl.out.mono ?_
  rintro e w5 ⟨rfl,hj5,hs5,hh5⟩
  have HJ5:=zh hj5
  have HS5:=zh hs5
  have Hh5:=zh ((World.cell?_of_block (a:=⟨j,3,none⟩) hh5).trans c3)
  clear hj5 hs5 hh5 Hcl
  go_wp2_with fail
  refine hK.out _ _ (Hh5.out) (fun hHeld=>?_)
  clear hK
  try simp only [Act.put,uA,uB,uC]
  refine otk 9 (v:=?v1x9) rfl ?_
  simp only [Act.put,uA,uB,uC]
  refine wpAnyH_done (by kernel_rfl) ?_ _
  clear HV HB3
  by_cases he1:e1=0
  ·subst he1
   cases hsy:D1.sync [logN (nm pre)] with
   | mk D2 e2 =>
    have HZ:=zh (show Z=(D2,e2) from by rw [HL.out,if_neg (by simp),hsy])
    have hsyc:=jou_sync HJ5.out (sLog pre) (by rw [hsl];omega)
    rw [zBf,hsy] at hsyc
    have Hsy:=zh hsyc
    have c3:w5.cell? ⟨j,3,none⟩=some (.pointer (some ⟨d,0,none⟩)):=Hh5.out
    clear hsyc hsy
    go_wp2_with fail
    refine Hsy.out.mono ?_
    rintro e w6 ⟨rfl,hj6,hs6,-⟩
    have Hen:=zh (zCz hj6 e2)
    have HS6:=zh (HS5.out.trans hs6)
    clear hj6 hs6 Hsy
    go_wp2_with fail
    refine Hen.out.mono ?_
    rintro e w7 ⟨rfl,hj7,hs7⟩
    have HE:=zh (show JouF w w7 j d pre Z.1 (zEF M Z.2) F∧Same F w1 w7 from ⟨by rw [HZ.out];exact hj7,HS6.out.trans hs7⟩)
    clear hj7 hs7
    go_wp2_with fail
    go_ret
    exact ⟨by rw [HZ.out];rfl,HE.out⟩
  ·have HZ:=zh (show Z=(D1,e1) from by rw [HL.out,if_pos he1])
   have hne:((e1:Int) == 0)=false:=by simp;omega
   have Hen:=zh (zCz HJ5.out e1)
   clear he1
   go_wp2_with fail
   refine Hen.out.mono ?_
   rintro e w7 ⟨rfl,hj7,hs7⟩
   have HE:=zh (show JouF w w7 j d pre Z.1 (zEF M Z.2) F∧Same F w1 w7 from ⟨by rw [HZ.out];exact hj7,HS5.out.trans hs7⟩)
   clear hj7 hs7
   go_wp2_with fail
   go_ret
   exact ⟨by rw [HZ.out];rfl,HE.out⟩
end
section
variable {pre:Bs} {D:zAB} {M M':JouM} {rows:List Bs}
theorem laysJ_ok {D':zAB} (h:zEn D (logN pre) (zAU rows)=(D',0)):laysJ pre D M rows M'=⟨D',M',0⟩:=by
 unfold laysJ
 rw [h,if_neg (by simp)]
theorem laysJ_err {D':zAB} {e:Nat} (h:zEn D (logN pre) (zAU rows)=(D',e)) (he:e≠0):laysJ pre D M rows M'=⟨D',M.die,e⟩:=by
 unfold laysJ
 rw [h,if_pos he]
end
theorem trmB_len (t v:Int):(trmB t v).length≤19:=by
 unfold trmB
 rw [List.length_cons,List.length_append]
 have h1:=zA9 t
 have h2:=zA9 (v+1)
 omega
section
variable {w w1:World} {j d:Nat} {pre:ByteArray} {D:zAB} {M:JouM} {F:Nat→Prop}
theorem jouTold_id (h:JouF w w1 j d pre D M F) {w2:World} (hb:Below w1.heap.size w1 w2) {r:zEW} {k:Nat} (hr:r=⟨D,M,k⟩):JouTold w w1 j d pre F r (.returned (.int .i64 (k:Int))) w2:=by
 subst hr
 exact ⟨rfl,h.next hb,h.same hb⟩
theorem jou_set56 (h:JouF w w1 j d pre D M F) (t v:Int) (ht:isTm t=true) (hv:-1≤v∧v < 7):JouF w ((w1.setCell ⟨j,5,none⟩ (.int .i64 t)).setCell ⟨j,6,none⟩ (.int .i64 v)) j d pre D { M with now:=t,vote:=v } F∧Same F w1 ((w1.setCell ⟨j,5,none⟩ (.int .i64 t)).setCell ⟨j,6,none⟩ (.int .i64 v)):=by
 obtain ⟨own,gv,dv,ev,vs,hJ,hS,hn,hl⟩:=h
 refine JouF.turned (M':={ M with now:=t,vote:=v }) hS hn hl (hJ.set ?_ (fun k hk=>(set_other _ hk).trans (set_other _ hk)) (by simp [World.setCell]) rfl rfl rfl ⟨hJ.ok.last,hJ.ok.term,hJ.ok.group,ht,hv,hJ.ok.data,hJ.ok.ents⟩) (((Chg.setCell w1 ⟨j,5,none⟩ _).trans (Chg.setCell _ ⟨j,6,none⟩ _) fun _ _ e=>e).mono fun k _ e=>by rw [e];exact hJ.ol) fun _ h=>.inl h
 have h1:=zAE hJ.cells 5 (.int .i64 t)
 have h2:=zAE h1 6 (.int .i64 v)
 simpa using h2
theorem mayVote_facts {t v:Int} (h:M.mayVote t v=true):M.now≤t∧t≤1099511627776∧-1≤v∧v < 7:=by
 unfold JouM.mayVote at h
 simp only [Bool.and_eq_true,decide_eq_true_eq] at h
 exact h.1
end
end Go.Proofs.YtapfnehdgailmaaGreat
