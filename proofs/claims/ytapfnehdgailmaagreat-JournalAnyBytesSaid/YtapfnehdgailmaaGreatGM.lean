/- journal: readSnap. (Printed by mkj24.py.) journal: readLog. (Printed by mkj25.py.) journal: Open (plain laws). JournalAnyBytes: how much lies on a disk (plain laws). The document's disk (satrapyref3) in memory. -/
import Derived.Sort.Walk0
import Derived.Test.YtapfnehdgailmaaGreatGE
import Derived.Test.YtapfnehdgailmaaGreatGL
set_option maxRecDepth 100000
set_option maxHeartbeats 64000000
namespace Go.Proofs.YtapfnehdgailmaaGreat
open Go.RowKit Go.Sat Go.Maps
theorem zDv {P:Program} {fn:Func} {p u v z:Tmp} {ty:TypeId} (h:fn.results=#[.cell p ty,.tmp u,.tmp v,.tmp z]) (tmps:Array Value) (w:World) (g:Nat) (t:TypeId) (cs:Array Value) (fr:Nat × Nat) (d:TypeDesc)
  (hp:tmps.getD p undef=.pointer (some ⟨g,0,none⟩)) (hg:w.heap[g]?=some (.cells cs t fr))
  (hu:P.underlying ty=some d) (hd:(match d with | .struct _ | .array _ _=>true | _=>false)=true) (hi:(P.info? ty).map (·.size)=some cs.size) :
  (results fn tmps).run P w=.ok (.tuple #[.agg cs,tmps.getD u undef,tmps.getD v undef,tmps.getD z undef]) w:=by
 have h1:(results fn tmps).run P w=((asAddr (tmps.getD p undef)).run P w).andThen fun a w₁=>((loadVar ty a).run P w₁).andThen fun x w₂=>.ok (.tuple #[x,tmps.getD u undef,tmps.getD v undef,tmps.getD z undef]) w₂:=by
  simp only [results,h]
  simp [Sem.run_bind,Result.andThen]
 rw [h1,hp]
 simp [asAddr,run_loadVar_row w g t ty cs fr d hg hu hd hi]
def zBj (W:World) (b:Nat) (x y z:Value):World:=((W.setCell ⟨b,0,none⟩ x).setCell ⟨b,1,none⟩ y).setCell ⟨b,2,none⟩ z
theorem base_keep {W:World} {b:Nat} {x y z:Value} (h:W.heap[b]?=some (.cells #[x,y,z] 130 (0,0))):(zBj W b x y z).heap[b]?=some (.cells #[x,y,z] 130 (0,0))∧Chg (fun _=>False) W (zBj W b x y z):=by
 have h1:=zAE h 0 x
 have h2:=zAE h1 1 y
 have h3:=zAE h2 2 z
 have h3:(zBj W b x y z).heap[b]?=some (.cells #[x,y,z] 130 (0,0)):=by simpa [zBj] using h3
 have hC:Chg (fun k=>k=b) W (zBj W b x y z):=((Chg.setCell W ⟨b,0,none⟩ x).trans (Chg.setCell _ ⟨b,1,none⟩ y) fun _ _ e=>e).trans (Chg.setCell _ ⟨b,2,none⟩ z) fun _ _ e=>e
 refine ⟨h3,hC.os,hC.tape,hC.output,hC.size,fun k hk _=>?_⟩
 by_cases e:k=b
 ·rw [e,h3,h]
 ·exact hC.block k hk e
def RsnTold (w1:World) (r:Nat × Option Snap) (e:Ending) (w':World):Prop :=
 Below w1.heap.size w1 w'∧∃ (n t:Int) (gp:Option Addr) (gn gc:Nat) (dv:Value),e=.returned (.tuple #[.agg #[.int .i64 n,.int .i64 t,.slice gp gn gc],dv,.bool r.2.isSome,.int .i64 (r.1:Int)]) ∧
  ∀ s,r.2=some s→n=s.number∧t=s.term∧OwnI w' (.slice gp gn gc) s.group∧OwnB w' 5 dv s.data∧∀ k,((Value.slice gp gn gc).ownBlock=some k∨dv.ownBlock=some k)→w1.heap.size≤k
theorem loadE_cases (o:Option zAV):loadE o=0∨loadE o=3∨loadE o=7:=by
 unfold loadE
 split
 ·split
  ·exact .inl rfl
  ·exact .inr (.inl rfl)
 ·exact .inr (.inr rfl)
theorem loadB_le {D:zAB} (h:D.OK) (n:Bs):(zDT (Sat.get n D.files)).length≤1073741824:=by
 have hln:=zD2 h n
 cases ho:Sat.get n D.files with
 | none=>rw [loadB_none];exact Nat.zero_le _
 | some f =>
  rw [ho] at hln
  rw [zD7]
  unfold oneB decB
  split
  ·split
   ·rw [List.length_take,List.length_drop]
    omega
   ·exact Nat.zero_le _
  ·exact Nat.zero_le _
theorem snapOf_7 {o:Option zAV} (h:loadE o=7):zCT o=(0,none):=by unfold zCT;rw [if_pos h]
theorem snapOf_3 {o:Option zAV} (h:loadE o=3):zCT o=(3,none):=by unfold zCT;rw [if_neg (by omega),if_pos (by omega),h]
theorem snapOf_0 {o:Option zAV} (h:loadE o=0):zCT o=match zCX (zDT o) with | none=>(3,none) | some s=>(0,some s):=by unfold zCT;rw [if_neg (by omega),if_neg (by omega)];rfl
theorem snap_no {w1 w2:World} {r:Nat × Option Snap} {k:Nat} (hr:r=(k,none)) (hb:Below w1.heap.size w1 w2) (n t:Int) (gp:Option Addr) (gn gc:Nat) (dv:Value):RsnTold w1 r (.returned (.tuple #[.agg #[.int .i64 n,.int .i64 t,.slice gp gn gc],dv,.bool false,.int .i64 (k:Int)])) w2:=by
 subst hr
 exact ⟨hb,n,t,gp,gn,gc,dv,rfl,fun s h=>by cases h⟩
section
variable {w w1 w2:World} {j d:Nat} {pre:ByteArray} {D:zAB} {M:JouM} {F:Nat→Prop}
theorem rsnap_calls (h:JouF w w1 j d pre D M F) :
  Calls Tryz.prog 77 #[.pointer (some ⟨j,0,none⟩)] w1 (RsnTold w1 (zCT (Sat.get (snpN (nm pre)) D.files))):=by
 have hps:=h.psz
 have hssn:(sSnp pre).size=pre.size+5:=size_snp pre
 obtain ⟨c3,c4,-⟩:=h.jc
 have hnn:=loadB_le h.okD (snpN (nm pre))
 have H:=zh h
 have HB1:=zh (zAD w1 (.cells #[.int .i64 0,.int .i64 0,.slice none 0 0] 130))
 have HX1:=zh (zAI w1 (.cells #[.int .i64 0,.int .i64 0,.slice none 0 0] 130))
 have Ho:=zh (show Sat.get (snpN (nm pre)) D.files=Sat.get (snpN (nm pre)) D.files from rfl)
 generalize hog:Sat.get (snpN (nm pre)) D.files=o at *
 clear Ho
 have Ho:=zh hog
 clear h hog
 rcases loadE_cases o with h0 | h3 | h7
 ·have HI:=zh (snapOf_0 h0)
  have He:=zh h0
  clear h0
  generalize zCT o=SO at *
  generalize hbl:zDT o=bl at *
  have Hbl:=zh hbl
  clear hbl
  go_enter Tryz.func77,Tryz.ntmps77
  go_wp2_with fail
  refine zAT (fun w':World=>w'.cell? ⟨j,3,none⟩=some (.pointer (some ⟨d,0,none⟩))∧w'.cell? ⟨j,4,none⟩=some (.string pre)) (n:=15) (by kernel_rfl) rfl (⟨zA4 c3 _,zA4 c4 _⟩) (fun hHeld=>?_)
  have HBd:=zh (HB1.out.trans ((zAb (w1.alloc (.cells #[.int .i64 0,.int .i64 0,.slice none 0 0] 130))).mono HB1.out.size))
  have HXd:=zh (show (w1.alloc (.cells #[.int .i64 0,.int .i64 0,.slice none 0 0] 130)).drew.heap[w1.heap.size]?=_ from HX1.out)
  generalize (w1.alloc (.cells #[.int .i64 0,.int .i64 0,.slice none 0 0] 130)).drew=W1 at *
  refine otk 0 (v:=?v1x0) rfl ?_
  simp only [Act.put,uA,uB,uC]
  refine otk 1 (v:=?v1x1) rfl ?_
  simp only [Act.put,uA,uB,uC]
  refine otk 2 (v:=?v1x2) rfl ?_
  simp only [Act.put,uA,uB,uC]
  refine otk 3 (v:=?v1x3) rfl ?_
  simp only [Act.put,uA,uB,uC]
  refine otk 4 (v:=?v1x4) rfl ?_
  simp only [Act.put,uA,uB,uC]
  refine otk 5 (v:=?v1x5) rfl ?_
  simp only [Act.put,uA,uB,uC]
  refine otk 6 (v:=?v1x6) rfl ?_
  simp only [Act.put,uA,uB,uC]
  refine otk 7 (v:=?v1x7) rfl ?_
  simp only [Act.put,uA,uB,uC]
  refine otc 8 (v:=?v1x8) rfl ?y1x8 ?_
  case y1x8=>(intro w hSw;(try dsimp only at hSw);go_simp;rw [if_neg (by omega)];try with_reducible rfl)
  simp only [Act.put,uA,uB,uC]
  refine zAG 9 rfl (by kernel_rfl) (by rfl) (fun K hK=>?_)
  have Hld:=zh (load_calls (H.out.next HBd.out).st (sSnp pre) (by rw [hssn];omega))
  rw [nm_snp] at Hld
  go_wp2_with fail
  refine Hld.out.mono ?_
  rintro e w2 ⟨v,rfl,hv,hvn,hb,-⟩
  rw [Ho.out] at hv ⊢
  have Hh3:=zh (And.intro (zAJ hHeld.1 hb) (zAJ hHeld.2 hb))
  have HB2:=zh (HBd.out.trans (hb.mono HBd.out.size))
  have HX2:=zh ((hb.block _ (zAC HXd.out)).trans HXd.out)
  have HV2:=zh hv
  obtain ⟨pv,cv,rfl,-⟩:=zAO hv
  clear hv hvn hb Hld
  rw [He.out]
  rw [Hbl.out] at HV2 ⊢
  go_wp2_with fail
  refine hK.out _ _ (Hh3.out) (fun hHeld=>?_)
  clear hK
  try simp only [Act.put,uA,uB,uC]
  refine otk 10 (v:=?v1x10) rfl ?_
  simp only [Act.put,uA,uB,uC]
  refine otk 11 (v:=?v1x11) rfl ?_
  simp only [Act.put,uA,uB,uC]
  refine otk 12 (v:=?v1x12) rfl ?_
  simp only [Act.put,uA,uB,uC]
  refine otk 13 (v:=?v1x13) rfl ?_
  simp only [Act.put,uA,uB,uC]
  refine otk 14 (v:=?v1x14) rfl ?_
  simp only [Act.put,uA,uB,uC]
  refine wpAnyH_done (by kernel_rfl) ?_ _
  clear Hh3 HX1 HB1 HBd HXd
  have Hrd0:=zh (zBZ (show HasB w2 (.slice pv bl.length cv) bl from HV2.out.has) (by omega))
  go_wp2_with fail
  refine Hrd0.out.mono ?_
  rintro e w3 ⟨r,rfl,hr,hrn,hrl,hb3⟩
  have HB3:=zh (show Below w1.heap.size w1 w3 from HB2.out.trans (hb3.mono HB2.out.size))
  have hx3:=(hb3.block _ (zAC HX2.out)).trans HX2.out
  have hbr:w1.heap.size < r:=Nat.lt_of_lt_of_le (zAC HX2.out) hrn
  have HP:=zh (show zCh (w3.alloc (.cells #[.pointer (some ⟨w1.heap.size,0,none⟩),.pointer (some ⟨w1.heap.size,1,none⟩)] 204)) r [⟨w1.heap.size,0,none⟩,⟨w1.heap.size,1,none⟩] from by
   have hk:=zAt (.cells #[.pointer (some ⟨w1.heap.size,0,none⟩),.pointer (some ⟨w1.heap.size,1,none⟩)] 204) hx3
   refine ⟨fun a ha=>?_,fun a ha=>?_,fun a ha=>?_,fun a ha=>?_⟩
   all_goals
    simp only [List.mem_cons,List.not_mem_nil,or_false] at ha
    rcases ha with rfl | rfl
   ·exact ⟨_,zAA hk rfl⟩
   ·exact ⟨_,zAA hk rfl⟩
   ·exact zAF hk 0
   ·exact zAF hk 1
   ·intro e;have e2:w1.heap.size=r:=e;omega
   ·intro e;have e2:w1.heap.size=r:=e;omega
   ·rfl
   ·rfl)
  have hxl:=zAC hx3
  have HN:=zh (zDX (hr.chg (Chg.alloc w3 (.cells #[.pointer (some ⟨w1.heap.size,0,none⟩),.pointer (some ⟨w1.heap.size,1,none⟩)] 204)) (fun e=>e) fun _ _ e=>e) (g:=w3.heap.size) (c:=2) HP.out (by simp) (fun i a hi=>by
   refine zAA (zAI w3 _) ?_
   match i,hi with
   | 0,hi=>cases hi;rfl
   | 1,hi=>cases hi;rfl) (fun e=>by omega) (fun a ha e=>by
    simp only [List.mem_cons,List.not_mem_nil,or_false] at ha
    rcases ha with rfl | rfl
    ·have e3:w1.heap.size=w3.heap.size:=e
     omega
    ·have e3:w1.heap.size=w3.heap.size:=e
     omega) (fun k hk=>⟨by omega,fun a ha e=>by
    have:=zAC HX2.out
    simp only [List.mem_cons,List.not_mem_nil,or_false] at ha
    rcases ha with rfl | rfl
    ·have e3:k=w1.heap.size:=e
     omega
    ·have e3:k=w1.heap.size:=e
     omega⟩))
  have HS:=zh (And.intro hbr (And.intro hrl (And.intro hrn (zAC HX2.out))))
  have HX3:=zh (zAt (.cells #[.pointer (some ⟨w1.heap.size,0,none⟩),.pointer (some ⟨w1.heap.size,1,none⟩)] 204) hx3)
  have HBW:=zh (HB3.out.trans ((zAD w3 (.cells #[.pointer (some ⟨w1.heap.size,0,none⟩),.pointer (some ⟨w1.heap.size,1,none⟩)] 204)).mono HB3.out.size))
  clear hr hrn hrl hb3 Hrd0 hx3 hbr hxl HP
  have hm1:=Rd.num_le ⟨bl,false⟩
  have hm2:=Rd.num_le (Rd.num ⟨bl,false⟩).2
  have HI2:=zh (show Rd.ints 2 ⟨bl,false⟩=([((Rd.num ⟨bl,false⟩).1:Int),((Rd.num ⟨bl,false⟩).2.num.1:Int)],(Rd.num ⟨bl,false⟩).2.num.2) from rfl)
  have HSN:=zh (show zCX bl=(if ((Rd.num ⟨bl,false⟩).2.num.2.grp zAW).2.bytes.2.whole∧1≤(Rd.num ⟨bl,false⟩).1∧(Rd.num ⟨bl,false⟩).1≤1099511627776∧(Rd.num ⟨bl,false⟩).2.num.1≤1099511627776∧((Rd.num ⟨bl,false⟩).2.num.2.grp zAW).2.bytes.1.length≤524288 then some ⟨(Rd.num ⟨bl,false⟩).1,((Rd.num ⟨bl,false⟩).2.num.1:Int),((Rd.num ⟨bl,false⟩).2.num.2.grp zAW).1,((Rd.num ⟨bl,false⟩).2.num.2.grp zAW).2.bytes.1⟩ else none) from rfl)
  generalize (Rd.num ⟨bl,false⟩).1=m1 at *
  generalize (Rd.num ⟨bl,false⟩).2.num.1=m2 at *
  generalize (Rd.num ⟨bl,false⟩).2.num.2=R3 at *
  go_wp2_with fail
  refine HN.out.mono ?_
  rintro e w4 ⟨rfl,hr4,hc4,hp4⟩
  rw [show ([⟨w1.heap.size,0,none⟩,⟨w1.heap.size,1,none⟩]:List Addr).length=2 from rfl,HI2.out] at hr4 hp4
  have hq:=hp4 w1.heap.size (zAC HX3.out) (by have:=HS.out.1;omega)
  have hs1:=zAE HX3.out 0 (.int .i64 (m1:Int))
  have hs2:=zAE hs1 1 (.int .i64 (m2:Int))
  rw [show ((#[Value.int IntKind.i64 0,.int .i64 0,.slice none 0 0]:Array Value).setIfInBounds 0 (.int .i64 (m1:Int))).setIfInBounds 1 (.int .i64 (m2:Int))=#[.int .i64 (m1:Int),.int .i64 (m2:Int),.slice none 0 0] from rfl] at hs2
  have HX4:=zh (show w4.heap[w1.heap.size]?=some (.cells #[.int .i64 (m1:Int),.int .i64 (m2:Int),.slice none 0 0] 130 (0,0)) from hq.trans hs2)
  have HB4:=zh (show Below w1.heap.size w1 w4 from by
   refine (((Chg.of_below HBW.out).mono fun _ _ e=>e.elim:Chg (fun k=>w1.heap.size≤k) w1 _).trans hc4 fun k _ e=>?_).below (Nat.le_refl _) fun k hk e=>by omega
   rcases e with rfl | ⟨a,ha,rfl⟩
   ·have:=HS.out.1
    omega
   ·simp only [List.mem_cons,List.not_mem_nil,or_false] at ha
    rcases ha with rfl | rfl <;> exact Nat.le_refl _)
  have HR4:=zh hr4.lt
  have HG:=zh (readGrp_grp hr4 (fun k hk=>⟨by have:=hr4.lt;omega,by omega⟩))
  clear hr4 hc4 hp4 hq hs1 hs2 HN HX3 HBW HI2 HX2
  go_wp2_with fail
  refine HG.out.mono ?_
  rintro e w5 ⟨v5,rfl,hv5,hn5,hr5,hc5⟩
  have HB5:=zh (show Below w1.heap.size w1 w5 from HB4.out.trans (hc5.below HB4.out.size fun k hk e=>by have:=HS.out.1;omega))
  have hx5:=(hc5.block _ (zAC HX4.out) (by have:=HS.out.1;omega)).trans HX4.out
  obtain ⟨p5,c5,e5,-⟩:=zAl hv5
  subst e5
  have HV5:=zh (show ∀ k,(Value.slice p5 (R3.grp zAW).1.length c5).ownBlock=some k→w1.heap.size≤k∧k≠w1.heap.size∧k≠r from fun k hk=>by
   have h1:=hn5 k hk
   have h2:=zAC HX4.out
   have h3:=HB4.out.size
   have h6:=HR4.out
   exact ⟨by omega,by omega,by omega⟩)
  have q2:=zAA hx5 (i:=2) rfl
  have fr:=zAF hx5 2
  have h6:=zAE hx5 2 (.slice p5 (R3.grp zAW).1.length c5)
  rw [show (#[Value.int IntKind.i64 (m1:Int),.int .i64 (m2:Int),.slice none 0 0]:Array Value).setIfInBounds 2 (.slice p5 (R3.grp zAW).1.length c5)=#[.int .i64 (m1:Int),.int .i64 (m2:Int),.slice p5 (R3.grp zAW).1.length c5] from rfl] at h6
  have HX6:=zh h6
  have HO6:=zh (show OwnI (w5.setCell ⟨w1.heap.size,2,none⟩ (.slice p5 (R3.grp zAW).1.length c5)) (.slice p5 (R3.grp zAW).1.length c5) (R3.grp zAW).1 from OwnR.keep hv5 fun k hk=>set_other _ fun e=>(HV5.out k hk).2.1 e)
  have HBy:=zh (zEs (hr5.chg (Chg.setCell w5 ⟨w1.heap.size,2,none⟩ (.slice p5 (R3.grp zAW).1.length c5)) (fun e=>by have:=HS.out.1;have e2:r=w1.heap.size:=e;omega) (fun k hk e=>by have h7:=HS.out.2.2.2;have e2:k=w1.heap.size:=e;omega)))
  have HB6:=zh (show Below w1.heap.size w1 (w5.setCell ⟨w1.heap.size,2,none⟩ (.slice p5 (R3.grp zAW).1.length c5)) from (((Chg.of_below HB5.out).mono fun _ _ e=>e.elim:Chg (fun k=>k=w1.heap.size) w1 w5).trans (Chg.setCell w5 ⟨w1.heap.size,2,none⟩ _) fun k _ e=>e).below (Nat.le_refl _) fun k hk e=>by omega)
  clear hv5 hn5 hr5 hc5 hx5 h6 HG HX4 HB4 HB5
  generalize (R3.grp zAW).2=R4 at *
  generalize (R3.grp zAW).1=gg at *
  go_wp2_with fail
  clear q2 fr
  generalize w5.setCell ⟨w1.heap.size,2,none⟩ (.slice p5 gg.length c5)=w6 at *
  refine HBy.out.mono ?_
  rintro e w7 ⟨v7,rfl,hv7,hn7,hr7,hc7⟩
  have HB7:=zh (show Below w1.heap.size w1 w7 from HB6.out.trans (hc7.below HB6.out.size fun k hk e=>by have:=HS.out.1;omega))
  have HX7:=zh ((hc7.block _ (zAC HX6.out) (by have:=HS.out.1;omega)).trans HX6.out)
  have HO7:=zh (show OwnI w7 (.slice p5 gg.length c5) gg from OwnR.keep HO6.out fun k hk=>hc7.block k (OwnR.lt HO6.out hk) fun e=>(HV5.out k hk).2.2 e)
  have HW:=zh (zCu hr7.at.hd)
  have HV7:=zh (show ∀ k,v7.ownBlock=some k→w1.heap.size≤k∧k≠w1.heap.size from fun k hk=>by
   have h1:=hn7 k hk
   have h2:=zAC HX6.out
   exact ⟨by omega,by omega⟩)
  have HD7:=zh hv7
  generalize R4.bytes.2=R5 at *
  generalize R4.bytes.1=bb at *
  obtain ⟨p7,c7,e7,-⟩:=zAO hv7
  subst e7
  clear hv7 hn7 hr7 hc7 HBy HX6 HO6 HB6
  have HK:=zh (base_keep HX7.out)
  have HZ:=zh HK.out.1
  have HBz:=zh (show Below w1.heap.size w1 (zBj w7 w1.heap.size (.int .i64 (m1:Int)) (.int .i64 (m2:Int)) (.slice p5 gg.length c5)) from HB7.out.trans (HK.out.2.below HB7.out.size fun _ _ e=>e))
  have Hno:=zh (fun (hn:zCX bl=none)=>snap_no (r:=SO) (k:=3) (by rw [HI.out,hn]) HBz.out (m1:Int) (m2:Int) p5 gg.length c5 (.slice none 0 0))
  have Hyes:=zh (fun (hn:zCX bl=some ⟨m1,(m2:Int),gg,bb⟩)=>show RsnTold w1 SO (.returned (.tuple #[.agg #[.int .i64 (m1:Int),.int .i64 (m2:Int),.slice p5 gg.length c5],.slice p7 bb.length c7,.bool true,.int .i64 0])) (zBj w7 w1.heap.size (.int .i64 (m1:Int)) (.int .i64 (m2:Int)) (.slice p5 gg.length c5)) from by
   rw [HI.out,hn]
   refine ⟨HBz.out,_,_,_,_,_,_,rfl,fun s hs=>?_⟩
   cases hs
   exact ⟨rfl,rfl,OwnR.keep HO7.out fun k hk=>HK.out.2.block k (OwnR.lt HO7.out hk) fun e=>e,OwnR.keep HD7.out fun k hk=>HK.out.2.block k (OwnR.lt HD7.out hk) fun e=>e,fun k hk=>hk.elim (fun h=>(HV5.out k h).1) fun h=>(HV7.out k h).1⟩)
  have Ht:=zh (zD4 w7 (m2:Int))
  have q0:=zAA HX7.out (i:=0) rfl
  have q1:=zAA HX7.out (i:=1) rfl
  have q2:=zAA HX7.out (i:=2) rfl
  have fr0:=zAF HX7.out 0
  have fr1:=zAF HX7.out 1
  have fr2:=zAF HX7.out 2
  clear HK HI HO7 HD7 HV5 HV7 HB7 HX7 HBz hnn
  unfold zBj at *
  have Hfin:=zh (fun tm hp=>zDv (P:=Tryz.prog) (fn:=Tryz.f77) (p:=2) (u:=3) (v:=4) (z:=5) (ty:=130) rfl tm (((w7.setCell ⟨w1.heap.size,0,none⟩ (.int .i64 (m1:Int))).setCell ⟨w1.heap.size,1,none⟩ (.int .i64 (m2:Int))).setCell ⟨w1.heap.size,2,none⟩ (.slice p5 gg.length c5)) w1.heap.size _ _ (0,0) _ hp HZ.out Tryz.underlying130 rfl (by kernel_rfl))
  cases hw:R5.whole with
  | false =>
   rw [hw] at HW
   have HE:=zh (Hno.out (by rw [HSN.out,hw,if_neg (by simp)]))
   clear hw Hno Hyes HSN
   go_wp2_with fail
   refine HW.out.mono ?_
   rintro e w8 ⟨rfl,rfl⟩
   go_wp2_with fail
   (try simp only [Exit.inBlock,Exit.then])
   refine bodyPost_ret (Hfin.out _ rfl) rfl ?_
   exact HE.out
  | true =>
   rw [hw] at HW
   by_cases h1:1≤m1
   ·have d1:decide ((m1:Int) < 1)=false:=by simp;omega
    have d1n:decide (m1 < 1)=false:=by simp;omega
    by_cases h2:m1≤1099511627776
    ·have d2:decide ((1099511627776:Int) < (m1:Int))=false:=by simp;omega
     have d2n:decide (1099511627776 < m1)=false:=by simp;omega
     by_cases h3:m2≤1099511627776
     ·rw [show isTm (m2:Int)=true from zAr.2 ⟨by omega,by omega⟩] at Ht
      by_cases h4:bb.length≤524288
      ·have d4:decide ((524288:Int) < (bb.length:Int))=false:=by simp;omega
       have d4n:decide (524288 < bb.length)=false:=by simp;omega
       have HE:=zh (Hyes.out (by rw [HSN.out,hw,if_pos ⟨rfl,h1,h2,h3,h4⟩]))
       clear hw Hno Hyes HSN h1 h2 h3 h4
       go_wp2_with fail
       refine HW.out.mono ?_
       rintro e w8 ⟨rfl,rfl⟩
       go_wp2_with fail
       refine Ht.out.mono ?_
       rintro e w8 ⟨rfl,rfl⟩
       go_wp2_with fail
       (try simp only [Exit.inBlock,Exit.then])
       refine bodyPost_ret (Hfin.out _ rfl) rfl ?_
       exact HE.out
      ·have d4:decide ((524288:Int) < (bb.length:Int))=true:=by simp;omega
       have d4n:decide (524288 < bb.length)=true:=by simp;omega
       have HE:=zh (Hno.out (by rw [HSN.out,if_neg (fun e=>h4 e.2.2.2.2)]))
       clear hw Hno Hyes HSN h1 h2 h3 h4
       go_wp2_with fail
       refine HW.out.mono ?_
       rintro e w8 ⟨rfl,rfl⟩
       go_wp2_with fail
       refine Ht.out.mono ?_
       rintro e w8 ⟨rfl,rfl⟩
       go_wp2_with fail
       (try simp only [Exit.inBlock,Exit.then])
       refine bodyPost_ret (Hfin.out _ rfl) rfl ?_
       exact HE.out
     ·rw [show isTm (m2:Int)=false from by rw [Bool.eq_false_iff];intro e;have:=zAr.1 e;omega] at Ht
      have HE:=zh (Hno.out (by rw [HSN.out,if_neg (fun e=>h3 e.2.2.2.1)]))
      clear hw Hno Hyes HSN h1 h2 h3
      go_wp2_with fail
      refine HW.out.mono ?_
      rintro e w8 ⟨rfl,rfl⟩
      go_wp2_with fail
      refine Ht.out.mono ?_
      rintro e w8 ⟨rfl,rfl⟩
      go_wp2_with fail
      (try simp only [Exit.inBlock,Exit.then])
      refine bodyPost_ret (Hfin.out _ rfl) rfl ?_
      exact HE.out
    ·have d2:decide ((1099511627776:Int) < (m1:Int))=true:=by simp;omega
     have d2n:decide (1099511627776 < m1)=true:=by simp;omega
     have HE:=zh (Hno.out (by rw [HSN.out,if_neg (fun e=>h2 e.2.2.1)]))
     clear hw Hno Hyes HSN h1 h2
     go_wp2_with fail
     refine HW.out.mono ?_
     rintro e w8 ⟨rfl,rfl⟩
     go_wp2_with fail
     (try simp only [Exit.inBlock,Exit.then])
     refine bodyPost_ret (Hfin.out _ rfl) rfl ?_
     exact HE.out
   ·have d1:decide ((m1:Int) < 1)=true:=by simp;omega
    have d1n:decide (m1 < 1)=true:=by simp;omega
    have HE:=zh (Hno.out (by rw [HSN.out,if_neg (fun e=>h1 e.2.1)]))
    clear hw Hno Hyes HSN h1
    go_wp2_with fail
    refine HW.out.mono ?_
    rintro e w8 ⟨rfl,rfl⟩
    go_wp2_with fail
    (try simp only [Exit.inBlock,Exit.then])
    refine bodyPost_ret (Hfin.out _ rfl) rfl ?_
    exact HE.out
 ·have HI:=zh (snapOf_3 h3)
  have He:=zh h3
  clear h3
  generalize zCT o=SO at *
  go_enter Tryz.func77,Tryz.ntmps77
  go_wp2_with fail
  refine zAT (fun w':World=>w'.cell? ⟨j,3,none⟩=some (.pointer (some ⟨d,0,none⟩))∧w'.cell? ⟨j,4,none⟩=some (.string pre)) (n:=15) (by kernel_rfl) rfl (⟨zA4 c3 _,zA4 c4 _⟩) (fun hHeld=>?_)
  have HBd:=zh (HB1.out.trans ((zAb (w1.alloc (.cells #[.int .i64 0,.int .i64 0,.slice none 0 0] 130))).mono HB1.out.size))
  have HXd:=zh (show (w1.alloc (.cells #[.int .i64 0,.int .i64 0,.slice none 0 0] 130)).drew.heap[w1.heap.size]?=_ from HX1.out)
  generalize (w1.alloc (.cells #[.int .i64 0,.int .i64 0,.slice none 0 0] 130)).drew=W1 at *
  refine otk 0 (v:=?v2x0) rfl ?_
  simp only [Act.put,uA,uB,uC]
  refine otk 1 (v:=?v2x1) rfl ?_
  simp only [Act.put,uA,uB,uC]
  refine otk 2 (v:=?v2x2) rfl ?_
  simp only [Act.put,uA,uB,uC]
  refine otk 3 (v:=?v2x3) rfl ?_
  simp only [Act.put,uA,uB,uC]
  refine otk 4 (v:=?v2x4) rfl ?_
  simp only [Act.put,uA,uB,uC]
  refine otk 5 (v:=?v2x5) rfl ?_
  simp only [Act.put,uA,uB,uC]
  refine otk 6 (v:=?v2x6) rfl ?_
  simp only [Act.put,uA,uB,uC]
  refine otk 7 (v:=?v2x7) rfl ?_
  simp only [Act.put,uA,uB,uC]
  refine otc 8 (v:=?v2x8) rfl ?y2x8 ?_
  case y2x8=>(intro w hSw;(try dsimp only at hSw);go_simp;rw [if_neg (by omega)];try with_reducible rfl)
  simp only [Act.put,uA,uB,uC]
  refine zAG 9 rfl (by kernel_rfl) (by rfl) (fun K hK=>?_)
  have Hld:=zh (load_calls (H.out.next HBd.out).st (sSnp pre) (by rw [hssn];omega))
  rw [nm_snp] at Hld
  go_wp2_with fail
  refine Hld.out.mono ?_
  rintro e w2 ⟨v,rfl,hv,hvn,hb,-⟩
  rw [Ho.out] at hv ⊢
  have Hh3:=zh (And.intro (zAJ hHeld.1 hb) (zAJ hHeld.2 hb))
  have HB2:=zh (HBd.out.trans (hb.mono HBd.out.size))
  have HX2:=zh ((hb.block _ (zAC HXd.out)).trans HXd.out)
  have HV2:=zh hv
  obtain ⟨pv,cv,rfl,-⟩:=zAO hv
  clear hv hvn hb Hld
  rw [He.out]
  go_wp2_with fail
  refine hK.out _ _ (Hh3.out) (fun hHeld=>?_)
  clear hK
  try simp only [Act.put,uA,uB,uC]
  refine otk 10 (v:=?v2x10) rfl ?_
  simp only [Act.put,uA,uB,uC]
  refine otk 11 (v:=?v2x11) rfl ?_
  simp only [Act.put,uA,uB,uC]
  refine otk 12 (v:=?v2x12) rfl ?_
  simp only [Act.put,uA,uB,uC]
  refine otk 13 (v:=?v2x13) rfl ?_
  simp only [Act.put,uA,uB,uC]
  refine otk 14 (v:=?v2x14) rfl ?_
  simp only [Act.put,uA,uB,uC]
  refine wpAnyH_done (by kernel_rfl) ?_ _
  clear Hh3 HX1 HB1 HBd HXd
  have HK:=zh (base_keep HX2.out)
  have HZ:=zh HK.out.1
  have HE:=zh (snap_no (r:=SO) (k:=3) HI.out (HB2.out.trans (HK.out.2.below HB2.out.size fun _ _ e=>e)) 0 0 none 0 0 (.slice none 0 0))
  have q0:=zAA HX2.out (i:=0) rfl
  have q1:=zAA HX2.out (i:=1) rfl
  have q2:=zAA HX2.out (i:=2) rfl
  have fr0:=zAF HX2.out 0
  have fr1:=zAF HX2.out 1
  have fr2:=zAF HX2.out 2
  clear HK HX2 HB2 HV2
  unfold zBj at *
  have Hfin:=zh (fun tm hp=>zDv (P:=Tryz.prog) (fn:=Tryz.f77) (p:=2) (u:=3) (v:=4) (z:=5) (ty:=130) rfl tm (((w2.setCell ⟨w1.heap.size,0,none⟩ (.int .i64 0)).setCell ⟨w1.heap.size,1,none⟩ (.int .i64 0)).setCell ⟨w1.heap.size,2,none⟩ (.slice none 0 0)) w1.heap.size _ _ (0,0) _ hp HZ.out Tryz.underlying130 rfl (by kernel_rfl))
  go_wp2_with fail
  (try simp only [Exit.inBlock,Exit.then])
  refine bodyPost_ret (Hfin.out _ rfl) rfl ?_
  exact HE.out
 ·have HI:=zh (snapOf_7 h7)
  have He:=zh h7
  clear h7
  generalize zCT o=SO at *
  go_enter Tryz.func77,Tryz.ntmps77
  go_wp2_with fail
  refine zAT (fun w':World=>w'.cell? ⟨j,3,none⟩=some (.pointer (some ⟨d,0,none⟩))∧w'.cell? ⟨j,4,none⟩=some (.string pre)) (n:=15) (by kernel_rfl) rfl (⟨zA4 c3 _,zA4 c4 _⟩) (fun hHeld=>?_)
  have HBd:=zh (HB1.out.trans ((zAb (w1.alloc (.cells #[.int .i64 0,.int .i64 0,.slice none 0 0] 130))).mono HB1.out.size))
  have HXd:=zh (show (w1.alloc (.cells #[.int .i64 0,.int .i64 0,.slice none 0 0] 130)).drew.heap[w1.heap.size]?=_ from HX1.out)
  generalize (w1.alloc (.cells #[.int .i64 0,.int .i64 0,.slice none 0 0] 130)).drew=W1 at *
  refine otk 0 (v:=?v3x0) rfl ?_
  simp only [Act.put,uA,uB,uC]
  refine otk 1 (v:=?v3x1) rfl ?_
  simp only [Act.put,uA,uB,uC]
  refine otk 2 (v:=?v3x2) rfl ?_
  simp only [Act.put,uA,uB,uC]
  refine otk 3 (v:=?v3x3) rfl ?_
  simp only [Act.put,uA,uB,uC]
  refine otk 4 (v:=?v3x4) rfl ?_
  simp only [Act.put,uA,uB,uC]
  refine otk 5 (v:=?v3x5) rfl ?_
  simp only [Act.put,uA,uB,uC]
  refine otk 6 (v:=?v3x6) rfl ?_
  simp only [Act.put,uA,uB,uC]
  refine otk 7 (v:=?v3x7) rfl ?_
  simp only [Act.put,uA,uB,uC]
  refine otc 8 (v:=?v3x8) rfl ?y3x8 ?_
  case y3x8=>(intro w hSw;(try dsimp only at hSw);go_simp;rw [if_neg (by omega)];try with_reducible rfl)
  simp only [Act.put,uA,uB,uC]
  refine zAG 9 rfl (by kernel_rfl) (by rfl) (fun K hK=>?_)
  have Hld:=zh (load_calls (H.out.next HBd.out).st (sSnp pre) (by rw [hssn];omega))
  rw [nm_snp] at Hld
  go_wp2_with fail
  refine Hld.out.mono ?_
  rintro e w2 ⟨v,rfl,hv,hvn,hb,-⟩
  rw [Ho.out] at hv ⊢
  have Hh3:=zh (And.intro (zAJ hHeld.1 hb) (zAJ hHeld.2 hb))
  have HB2:=zh (HBd.out.trans (hb.mono HBd.out.size))
  have HX2:=zh ((hb.block _ (zAC HXd.out)).trans HXd.out)
  have HV2:=zh hv
  obtain ⟨pv,cv,rfl,-⟩:=zAO hv
  clear hv hvn hb Hld
  rw [He.out]
  go_wp2_with fail
  refine hK.out _ _ (Hh3.out) (fun hHeld=>?_)
  clear hK
  try simp only [Act.put,uA,uB,uC]
  refine otk 10 (v:=?v3x10) rfl ?_
  simp only [Act.put,uA,uB,uC]
  refine otk 11 (v:=?v3x11) rfl ?_
  simp only [Act.put,uA,uB,uC]
  refine otk 12 (v:=?v3x12) rfl ?_
  simp only [Act.put,uA,uB,uC]
  refine otk 13 (v:=?v3x13) rfl ?_
  simp only [Act.put,uA,uB,uC]
  refine otk 14 (v:=?v3x14) rfl ?_
  simp only [Act.put,uA,uB,uC]
  refine wpAnyH_done (by kernel_rfl) ?_ _
  clear Hh3 HX1 HB1 HBd HXd
  have HK:=zh (base_keep HX2.out)
  have HZ:=zh HK.out.1
  have HE:=zh (snap_no (r:=SO) (k:=0) HI.out (HB2.out.trans (HK.out.2.below HB2.out.size fun _ _ e=>e)) 0 0 none 0 0 (.slice none 0 0))
  have q0:=zAA HX2.out (i:=0) rfl
  have q1:=zAA HX2.out (i:=1) rfl
  have q2:=zAA HX2.out (i:=2) rfl
  have fr0:=zAF HX2.out 0
  have fr1:=zAF HX2.out 1
  have fr2:=zAF HX2.out 2
  clear HK HX2 HB2 HV2
  unfold zBj at *
  have Hfin:=zh (fun tm hp=>zDv (P:=Tryz.prog) (fn:=Tryz.f77) (p:=2) (u:=3) (v:=4) (z:=5) (ty:=130) rfl tm (((w2.setCell ⟨w1.heap.size,0,none⟩ (.int .i64 0)).setCell ⟨w1.heap.size,1,none⟩ (.int .i64 0)).setCell ⟨w1.heap.size,2,none⟩ (.slice none 0 0)) w1.heap.size _ _ (0,0) _ hp HZ.out Tryz.underlying130 rfl (by kernel_rfl))
  go_wp2_with fail
  (try simp only [Exit.inBlock,Exit.then])
  refine bodyPost_ret (Hfin.out _ rfl) rfl ?_
  exact HE.out
end
theorem scanJ_rows (k:Nat):∀ b:Bs,b.length≤k→(∀ x ∈ (scan b).1,x.length≤b.length)∧(scan b).1.length≤b.length:=by
 induction k with
 | zero =>
  intro b h
  rw [zBa (.inl (List.eq_nil_of_length_eq_zero (by omega)))]
  exact ⟨fun x hx=>by simp at hx,Nat.zero_le _⟩
 | succ k ih =>
  intro b h
  by_cases he:decE b=0
  ·have hd:=zDM he
   have hi:=ih (b.drop (decL b)) (by rw [List.length_drop];omega)
   rw [scan_go he]
   rw [List.length_drop] at hi
   refine ⟨fun x hx=>?_,?_⟩
   ·rcases List.mem_cons.1 hx with rfl | hx
    ·unfold decB
     rw [if_pos he,List.length_take,List.length_drop]
     omega
    ·exact Nat.le_trans (hi.1 x hx) (by omega)
   ·show _+1≤_
    omega
  ·rw [zBa (.inr he)]
   exact ⟨fun x hx=>by simp at hx,Nat.zero_le _⟩
theorem scanJ_row {b x:Bs} {n:Nat} (h:n≤1073741824) (hn:b.length=n) (hx:x ∈ (scan b).1):x.length≤1073741824:=Nat.le_trans ((scanJ_rows _ b (Nat.le_refl _)).1 x hx) (by omega)
theorem zER {b:Bs} {n:Nat} {rows:List Bs} (h:n≤1073741824) (hn:b.length=n) (hr:(scan b).1=rows):rows.length≤1073741824:=by
 rw [← hr]
 exact Nat.le_trans (scanJ_rows _ b (Nat.le_refl _)).2 (by omega)
theorem zA7.keepJ {w w':World} {v:Value} {vs:List Value} {ls:List Bs} (h:zA7 w v vs ls) (hs:∀ j,(v.ownBlock=some j∨∃ u ∈ vs,u.ownBlock=some j)→w'.heap[j]?=w.heap[j]?):zA7 w' v vs ls :=
 ⟨h.row.keep fun k hk=>hs k (.inl hk),fun i u b hu hl=>OwnR.keep (h.has i u b hu hl) fun k hk=>hs k (.inr ⟨u,List.mem_of_getElem? hu,hk⟩),h.sep⟩
def restJ:Nat→JouM→List Bs→Option JouM
 | 0,M,l=>zBx M l
 | _+1,M,l=>zBv M l
theorem restJ_cons (k:Nat) (M:JouM) (x:Bs) (r:List Bs):restJ k M (x :: r)=(rec1 (decide (k=0)) M x).bind fun M'=>restJ (k+1) M' r:=by
 cases k <;> rfl
def RlTold (w w1:World) (j d:Nat) (pre:ByteArray) (F:Nat→Prop) (r:zAB × Nat × Bool × JouM) (e:Ending) (w':World):Prop :=
 e=.returned (.tuple #[.bool r.2.2.1,.int .i64 (r.2.1:Int)])∧St w w' d r.1 F∧Same F w1 w'∧(r.2.1=0→JouF w w' j d pre r.1 r.2.2.2 F)
section
variable {w w1 w2:World} {j d:Nat} {pre:ByteArray} {D:zAB} {M:JouM} {F:Nat→Prop}
theorem rl_end {r:zAB × Nat × Bool × JouM} {k:Nat} {b:Bool} {M':JouM} (h:JouF w w2 j d pre D M' F) (hs:Same F w1 w2) (hr:r=(D,k,b,M')):RlTold w w1 j d pre F r (.returned (.tuple #[.bool b,.int .i64 (k:Int)])) w2:=by
 subst hr
 exact ⟨rfl,h.stF,hs,fun _=>h⟩
theorem rl_bad {r:zAB × Nat × Bool × JouM} {k:Nat} {b:Bool} {M':JouM} (h:St w w2 d D F) (hs:Same F w1 w2) (hr:r=(D,k,b,M')) (hk:k≠0):RlTold w w1 j d pre F r (.returned (.tuple #[.bool b,.int .i64 (k:Int)])) w2:=by
 subst hr
 exact ⟨rfl,h,hs,fun e=>(hk e).elim⟩
theorem rec_told_no {o:Option JouM} {e:Ending} (h:zBg w w1 j d pre D F o e w2) (ho:o=none):St w w2 d D F∧Same F w1 w2∧e=.returned (.bool false):=by
 subst ho
 exact h
theorem rec_told_yes {o:Option JouM} {M':JouM} {e:Ending} (h:zBg w w1 j d pre D F o e w2) (ho:o=some M'):Same F w1 w2∧e=.returned (.bool true)∧JouF w w2 j d pre D M' F:=by
 subst ho
 exact h.2
theorem zDs (h:Sat.get (logN (nm pre)) D.files=none):zBV D (nm pre) M=(D,0,true,M):=by unfold zBV;rw [h]
theorem zEM {f:zAV} (h:Sat.get (logN (nm pre)) D.files=some f) (hr:zBx M (scan f.data).1=none):zBV D (nm pre) M=(D,3,false,M):=by unfold zBV;rw [h];dsimp only;rw [hr]
theorem readLog_ok {f:zAV} {M':JouM} (h:Sat.get (logN (nm pre)) D.files=some f) (hr:zBx M (scan f.data).1=some M'):zBV D (nm pre) M=((zA0 D (logN (nm pre)) (scan f.data).2 f.data.length).1,(zA0 D (logN (nm pre)) (scan f.data).2 f.data.length).2,false,M'):=by unfold zBV;rw [h];dsimp only;rw [hr]
theorem rlog_calls (h:JouF w w1 j d pre D M F) (hM:M.entries=[]) :
  Calls Tryz.prog 78 #[.pointer (some ⟨j,0,none⟩)] w1 (RlTold w w1 j d pre F (zBV D (nm pre) M)):=by
 have hps:=h.psz
 have hsl:(sLog pre).size=pre.size+4:=zEC pre
 obtain ⟨c3,c4,-⟩:=h.jc
 have H:=zh h
 have HM:=zh hM
 have Hrd:=zh (jou_read h (sLog pre) (by rw [hsl];omega))
 rw [zBf] at Hrd
 have hdl0:=zD2 h.okD (logN (nm pre))
 cases hg:Sat.get (logN (nm pre)) D.files with
 | none =>
  have HR:=zh (zDs (M:=M) hg)
  have hr7:zCq (none:Option zAV)=7:=rfl
  rw [hg,hr7] at Hrd
  clear h hM hg hr7 hdl0
  go_enter Tryz.func78,Tryz.ntmps78
  go_wp2_with fail
  refine Hrd.out.mono ?_
  rintro e w2 ⟨v2,rfl,-,-,hb2⟩
  have HE:=zh (rl_end (w1:=w1) (k:=0) (H.out.next hb2) (H.out.same hb2) HR.out)
  clear hb2 Hrd
  go_wp2_with fail
  go_ret2
  exact HE.out
 | some f =>
  have hr0:zCq (some f)=0:=rfl
  have hdl:f.data.length≤1073741824:=by rw [hg] at hdl0;exact hdl0
  have HRb:=zh (zEM (M:=M) hg)
  have HRo:=zh (fun M'=>readLog_ok (M:=M) (M':=M') hg)
  rw [hg,hr0] at Hrd
  clear h hM hg hr0 hdl0
  go_enter Tryz.func78,Tryz.ntmps78
  go_wp2_with fail
  refine Hrd.out.mono ?_
  rintro e w3 ⟨v3,rfl,hv3,hn3,hb3⟩
  have HJ3:=zh (H.out.next hb3)
  have HS3:=zh (H.out.same hb3)
  have hv3:OwnB w3 5 v3 f.data:=hv3
  obtain ⟨pb,cb,rfl,hcap⟩:=zAO hv3
  have Hsc:=zh (scan_calls hv3.has hcap hdl)
  clear hb3 hv3 hn3 hcap Hrd c3 c4
  have hq30:=scan_le f.data
  generalize hlen:f.data.length=len at *
  go_wp2_with fail
  refine Hsc.out.mono ?_
  rintro e w4 ⟨v4,vs,rfl,hr4,hn4,hb4⟩
  have HJ4:=zh (FR_more HJ3.out (⟨hr4,hn4,hb4⟩:zDh w3 w4 v4 vs _))
  have HS4:=zh (HS3.out.trans (HJ3.out.same hb4))
  have HR4:=zh hr4
  have Hrl:=zh (show ∀ x ∈ (scan f.data).1,x.length≤1073741824 from fun x hx=>scanJ_row hdl hlen hx)
  clear hr4 hn4 hb4 Hsc HJ3 HS3
  obtain ⟨pr,cr,rfl⟩:=OwnR.shape HR4.out.row
  generalize hq:(scan f.data).2=q at *
  generalize hrows:(scan f.data).1=rows at *
  have hnr:rows.length≤1073741824:=zER hdl hlen hrows
  generalize hnn:rows.length=n at *
  have Hnn:=zh hnn
  clear hq hrows hnn hlen
  by_cases hn0:n=0
  ·have hrn:rows=[]:=List.eq_nil_of_length_eq_zero (by rw [Hnn.out,hn0])
   have HE:=zh (rl_bad (w1:=w1) (j:=j) (pre:=pre) (k:=3) (HJ4.out.stF.less fun _ h=>.inl h) HS4.out (HRb.out (by rw [hrn];rfl)) (by decide))
   have e0:((n:Int) == 0)=true:=by simp;omega
   clear hrn hn0
   go_wp2_with fail
   go_ret2
   exact HE.out
  ·have e0:((n:Int) == 0)=false:=by simp;omega
   have Hn0:=zh hn0
   clear hn0
   go_wp2_with fail
   go_loopw [38] (fun i wr=>∃ (k:Nat) (Mk:JouM),k≤n∧i=.int .i64 k∧(k=0→Mk=M)∧JouF w wr j d pre D Mk (FR F (.slice pr n cr) vs)∧Same (FR F (.slice pr n cr) vs) w4 wr∧zBx M rows=restJ k Mk (rows.drop k)) (fun i _=>n - (intOf i).toNat)
   case atStart=>exact ⟨0,M,Nat.zero_le _,rfl,fun _=>rfl,HJ4.out,fun _ _=>rfl,rfl⟩
   case round =>
    clear HJ4 e0
    obtain ⟨k,Mk,hk,rfl,hk1,hJ,hs,hre⟩:=hrel
    by_cases hlt:k < n
    ·have hkl:k < rows.length:=by rw [Hnn.out];exact hlt
     rw [List.drop_eq_getElem_cons hkl,restJ_cons] at hre
     have hRW:=HR4.out.keepJ (w':=wr) fun x hx=>hs x (.inr hx)
     have hkv:k < vs.length:=by rw [hRW.len];exact hkl
     have hxr:=hRW.has k _ _ (List.getElem?_eq_getElem hkv) (List.getElem?_eq_getElem hkl)
     have hcell:∃ g,pr=some ⟨g,0,none⟩∧wr.cell? ⟨g,k,none⟩=some vs[k]:=by
      rcases hRW.row.2 with ⟨-,h0⟩ | ⟨g,cap,cur,e,-⟩
      ·omega
      ·refine ⟨g,?_,?_⟩
       ·simp only [Value.slice.injEq] at e
        exact e.1
       ·have hc:=hRW.row.cells (g:=g) (by rw [e];rfl) k _ (List.getElem?_eq_getElem hkv)
        rwa [add_zero] at hc
     obtain ⟨g,rfl,hcell⟩:=hcell
     have hx30:=Hrl.out _ (List.getElem_mem hkl)
     obtain ⟨px,cx,hpx,-⟩:=zAO hxr
     rw [hpx] at hxr hcell
     have Hrec:=zh (record_calls hJ (decide (k=0)) (fun hf=>by rw [hk1 (by simpa using hf)];exact HM.out) hxr.has hx30)
     have Hs:=zh hs
     have hkb:((k:Int) == 0)=decide (k=0):=by
      by_cases h0:k=0
      ·subst h0;rfl
      ·rw [decide_eq_false h0];simp;omega
     cases hc:rec1 (decide (k=0)) Mk rows[k] with
     | none =>
      rw [hc] at hre
      have Hc:=zh hc
      have HRn:=zh (HRb.out hre)
      clear hJ hs hre hRW hxr hx30 hc hpx hkv hk1
      generalize rows[k]=x at *
      generalize x.length=m at *
      generalize decide (k=0)=fk at *
      clear hkl
      go_wp2_with fail
      refine Hrec.out.mono ?_
      intro e w6 hT
      obtain ⟨hS6,hF6,rfl⟩:=rec_told_no hT Hc.out
      have HE:=zh (rl_bad (w1:=w1) (j:=j) (pre:=pre) (k:=3) (hS6.less fun _ h=>.inl h) (HS4.out.trans fun x hx=>(hF6 x (.inl hx)).trans (Hs.out x (.inl hx))) HRn.out (by decide))
      clear hS6 hF6 hT
      go_wp2_with fail
      go_ret2
      exact HE.out
     | some Mn =>
      rw [hc] at hre
      have Hc:=zh hc
      have Hre:=zh (show zBx M rows=restJ (k+1) Mn (rows.drop (k+1)) from hre)
      clear hJ hs hre hRW hxr hx30 hc hpx hkv hk1
      generalize rows[k]=x at *
      generalize x.length=m at *
      generalize decide (k=0)=fk at *
      clear hkl
      go_wp2_with fail
      refine Hrec.out.mono ?_
      intro e w6 hT
      obtain ⟨hF6,rfl,hJ6⟩:=rec_told_yes hT Hc.out
      have HE:=zh (And.intro hJ6 (Hs.out.trans hF6))
      clear hF6 hJ6 hT
      go_wp2_with fail
      go_roundw
      case rel=>exact ⟨k+1,Mn,by omega,by go_num,fun h=>by omega,HE.out.1,HE.out.2,Hre.out⟩
      case measure=>simp [intOf];omega
    ·have hkn:k=n:=by omega
     subst hkn
     have hre2:zBx M rows=some Mk:=by
      rw [hre,List.drop_of_length_le (by rw [Hnn.out];exact Nat.le_refl _)]
      cases k with
      | zero=>exact absurd rfl Hn0.out
      | succ k=>rfl
     have HRm:=zh (HRo.out Mk hre2)
     have HJw:=zh (show JouF w wr j d pre D Mk F from hJ.less fun _ h=>.inl h)
     have HSw:=zh (show Same F w1 wr from HS4.out.trans fun x hx=>hs x (.inl hx))
     obtain ⟨c3,c4,-⟩:=HJw.out.jc
     clear hJ hs hre hre2 HR4 HS4 Hrl HRb HRo Hn0 Hnn hk1
     generalize hMz:Mk=Mz at *
     clear hMz
     by_cases hqq:q < len
     ·have dq:decide ((q:Int) < (len:Int))=true:=by simp;omega
      have dqn:decide (q < len)=true:=by simp;omega
      cases htr:D.truncate (logN (nm pre)) (q:Int) with
      | mk D1 e1 =>
       have Htr:=zh (show Calls Tryz.prog 156 #[.pointer (some ⟨d,0,none⟩),.string (sLog pre),.int .i64 (q:Int)] wr fun e w'=>e=.returned (.int .i64 (e1:Int))∧JouF w w' j d pre D1 Mz F∧Same F wr w'∧w'.heap[j]?=wr.heap[j]? from by
        have:=jou_trunc HJw.out (sLog pre) (by rw [hsl];omega) (q:Int) (by omega) (by omega)
        rwa [zBf,htr] at this)
       by_cases he1:e1=0
       ·subst he1
        cases hsy:D1.sync [logN (nm pre)] with
        | mk D2 e2 =>
         have hT:zA0 D (logN (nm pre)) q len=(D2,e2):=by unfold zA0;rw [if_pos hqq,htr,if_neg (by simp)];exact hsy
         have hR:=HRm.out
         rw [hT] at hR
         have HR:=zh hR
         have Hsy:=zh (fun W (h:JouF w W j d pre D1 Mz F)=>show Calls Tryz.prog 130 #[.pointer (some ⟨d,0,none⟩),.slice (some ⟨W.heap.size,0,none⟩) 1 1] (W.alloc (.cells #[.string (sLog pre)] 9)) fun e w'=>e=.returned (.int .i64 (e2:Int))∧JouF w w' j d pre D2 Mz F∧Same F W w'∧w'.heap[j]?=W.heap[j]? from by
          have:=jou_sync h (sLog pre) (by rw [hsl];omega)
          rwa [zBf,hsy] at this)
         clear htr hsy hT hR HRm
         go_wp2_with fail
         refine Htr.out.mono ?_
         rintro e w6 ⟨rfl,hj6,hs6,-⟩
         have HJ6:=zh hj6
         have HS6:=zh (HSw.out.trans hs6)
         obtain ⟨c3,c4,-⟩:=hj6.jc
         clear hj6 hs6
         go_wp2_with fail
         refine (Hsy.out w6 HJ6.out).mono ?_
         rintro e w7 ⟨rfl,hj7,hs7,-⟩
         have HE:=zh (rl_end (w1:=w1) hj7 (HS6.out.trans hs7) HR.out)
         clear hj7 hs7
         go_wp2_with fail
         go_ret2
         exact HE.out
       ·have hT:zA0 D (logN (nm pre)) q len=(D1,e1):=by unfold zA0;rw [if_pos hqq,htr,if_pos he1]
        have hR:=HRm.out
        rw [hT] at hR
        have HR:=zh hR
        have hne:((e1:Int) != 0)=true:=by simp;omega
        clear htr hT hR HRm he1
        go_wp2_with fail
        refine Htr.out.mono ?_
        rintro e w6 ⟨rfl,hj6,hs6,-⟩
        have HE:=zh (rl_end (w1:=w1) hj6 (HSw.out.trans hs6) HR.out)
        clear hj6 hs6
        go_wp2_with fail
        go_ret2
        exact HE.out
     ·have dq:decide ((q:Int) < (len:Int))=false:=by simp;omega
      have dqn:decide (q < len)=false:=by simp;omega
      have hT:zA0 D (logN (nm pre)) q len=(D,0):=by unfold zA0;rw [if_neg hqq]
      have hR:=HRm.out
      rw [hT] at hR
      have HE:=zh (rl_end (w1:=w1) HJw.out HSw.out hR)
      clear hT hR HRm
      go_wp2_with fail
      go_ret2
      exact HE.out
end
theorem zEZ {R:Rd} (h:R.bytes.2.whole=true):R.bad=false:=by
 cases hb:R.bad with
 | false=>rfl
 | true =>
  exfalso
  have h1:R.num.2.bad=true:=by
   unfold Rd.num
   split
   ·exact hb
   ·rfl
  rw [show R.bytes=R.num.2.raw R.num.1 from rfl] at h
  unfold Rd.raw at h
  split at h
  ·unfold Rd.whole at h
   dsimp only at h
   rw [h1] at h
   simp at h
  ·cases h
theorem grp_bad {R:Rd} (h:(R.grp zAW).2.bad=false):zAW (R.grp zAW).1=true:=by
 unfold Rd.grp at h ⊢
 split at h
 ·cases h
 ·rename_i h7
  rw [if_neg h7]
  dsimp only at h ⊢
  split at h
  ·assumption
  ·cases h
theorem snapIs_ok {b:Bs} {s:Snap} (h:zCX b=some s):s.OK∧s.data.length≤524288∧1≤s.number:=by
 unfold zCX at h
 dsimp only at h
 split at h
 ·rename_i hc
  cases h
  obtain ⟨hw,h1,h2,h3,h4⟩:=hc
  exact ⟨⟨h2,zAr.2 ⟨Int.natCast_nonneg _,Int.ofNat_le.2 h3⟩,grp_bad (zEZ hw),Nat.le_trans h4 (by decide)⟩,h4,h1⟩
 ·cases h
theorem snapOf_ok {o:Option zAV} {s:Snap} (h:(zCT o).2=some s):s.OK∧s.data.length≤524288∧1≤s.number:=by
 unfold zCT at h
 split at h
 ·cases h
 ·split at h
  ·cases h
  ·split at h
   ·cases h
   ·rename_i hs
    cases h
    exact snapIs_ok hs
theorem each1_room (g:Bs→zAV→List (Bs × zAV)→List (Bs × zAV)) (D:zAB) (n:Bs):(zAB.each1 g D n).1.room=D.room:=by
 unfold zAB.each1
 split
 ·rfl
 ·split <;> rfl
theorem zEu (D:zAB) (n:Bs):(D.rid1 n).1.room=D.room:=by
 unfold zAB.rid1
 split
 ·show (zAB.each _ D [n]).1.room=_
  simp only [zAB.each]
  split
  ·exact each1_room _ _ _
  ·exact each1_room _ _ _
 ·rfl
theorem data_room {D:zAB} (h:D.OK) {n:Bs} {f:zAV} (hg:Sat.get n D.files=some f):f.data.length≤D.room:=by
 have h1:zAB.size f≤D.used:=le_sum h.srt hg
 have h2:=h.used
 unfold zAB.size at h1
 omega
theorem scanJ_twelve (k:Nat):∀ b:Bs,b.length≤k→12 * (scan b).1.length≤b.length:=by
 induction k with
 | zero =>
  intro b h
  rw [zBa (.inl (List.eq_nil_of_length_eq_zero (by omega)))]
  exact Nat.zero_le _
 | succ k ih =>
  intro b h
  by_cases he:decE b=0
  ·have hd:=zDM he
   have hi:=ih (b.drop (decL b)) (by rw [List.length_drop];omega)
   rw [scan_go he]
   rw [List.length_drop] at hi
   show 12 * (_+1)≤_
   omega
  ·rw [zBa (.inr he)]
   exact Nat.zero_le _
theorem rec1_len {f:Bool} {M M':JouM} {p:Bs} (h:rec1 f M p=some M'):M'.entries.length≤M.entries.length+1:=by
 unfold rec1 at h
 split at h
 ·cases h
 ·dsimp only at h
  repeat' split at h
  all_goals first
   | (cases h;done)
   | (cases h;simp;done)
   | (cases h;simp;omega)
theorem recGo_len:∀ (l:List Bs) {M M':JouM},zBv M l=some M'→M'.entries.length≤M.entries.length+l.length
 | [],M,M',h=>by cases h;exact Nat.le_refl _
 | p :: r,M,M',h=>by
  have h:(rec1 false M p).bind (fun M'=>zBv M' r)=some M':=h
  cases h1:rec1 false M p with
  | none=>rw [h1] at h;cases h
  | some M1 =>
   rw [h1] at h
   have h2:=recGo_len r (M:=M1) (M':=M') h
   have h3:=rec1_len h1
   rw [List.length_cons]
   omega
theorem recAll_len {l:List Bs} {M M':JouM} (h:zBx M l=some M'):M'.entries.length≤M.entries.length+l.length:=by
 cases l with
 | nil=>cases h
 | cons p r =>
  have h:(rec1 true M p).bind (fun M'=>zBv M' r)=some M':=h
  cases h1:rec1 true M p with
  | none=>rw [h1] at h;cases h
  | some M1 =>
   rw [h1] at h
   have h2:=recGo_len r (M:=M1) (M':=M') h
   have h3:=rec1_len h1
   rw [List.length_cons]
   omega
theorem zBq {D D':zAB} {pre:Bs} {M M':JouM} {e:Nat} {a:Bool} (hok:D.OK) (hr:D.room≤1048576) (hM:M.entries=[]) (h:zBV D pre M=(D',e,a,M')):M'.entries.length≤1000000:=by
 unfold zBV at h
 split at h
 ·have e2:M=M':=congrArg (fun x=>x.2.2.2) h
  rw [← e2,hM]
  exact Nat.zero_le _
 ·rename_i f hf
  have h1:=data_room hok hf
  have h2:=scanJ_twelve _ f.data (Nat.le_refl _)
  split at h
  ·have e2:M=M':=congrArg (fun x=>x.2.2.2) h
   rw [← e2,hM]
   exact Nat.zero_le _
  ·rename_i M1 hM1
   have h3:=recAll_len hM1
   have e2:M1=M':=congrArg (fun x=>x.2.2.2) h
   rw [← e2]
   rw [hM] at h3
   simp only [List.length_nil] at h3
   omega
structure OpensJ (D:zAB) (pre:Bs) (nodes:List Int) where
 D1:zAB
 e1:Nat
 h1:D.rid1 (zAH (logN pre))=(D1,e1)
 D2:zAB
 e2:Nat
 h2:D1.rid1 (zAH (snpN pre))=(D2,e2)
 s:Nat × Option Snap
 hs:zCT (Sat.get (snpN pre) D2.files)=s
 l:zAB × Nat × Bool × JouM
 hl:zBV D2 pre (JouM.none0 nodes)=l
theorem zEo (D:zAB) (pre:Bs) (nodes:List Int):Nonempty (OpensJ D pre nodes):=⟨⟨_,_,rfl,_,_,rfl,_,rfl,_,rfl⟩⟩
section
variable {D:zAB} {pre:Bs} {nodes:List Int} (O:OpensJ D pre nodes)
theorem oj_arg (h:pre.length < 1∨20 < pre.length∨zAW nodes=false):zAS D pre nodes=(D,1,JouM.none0 nodes):=by
 unfold zAS
 rw [if_pos h]
theorem oj_rid1 (h1:O.e1≠0):D.rid [zAH (logN pre),zAH (snpN pre)]=(O.D1,O.e1):=by
 unfold zAB.rid
 rw [O.h1]
 exact if_neg h1
theorem oj_rid2 (h1:O.e1=0):D.rid [zAH (logN pre),zAH (snpN pre)]=(O.D2,O.e2):=by
 unfold zAB.rid
 rw [O.h1]
 refine (if_pos h1).trans ?_
 show zAB.rid O.D1 [zAH (snpN pre)]=_
 unfold zAB.rid
 rw [O.h2]
 dsimp only
 by_cases h2:O.e2=0
 ·rw [if_pos h2]
  show (O.D2,0)=_
  rw [h2]
 ·exact if_neg h2
theorem oj_e1 (h:¬ (pre.length < 1∨20 < pre.length∨zAW nodes=false)) (h1:O.e1≠0):zAS D pre nodes=(O.D1,O.e1,JouM.none0 nodes):=by
 unfold zAS
 rw [if_neg h,oj_rid1 O h1]
 exact if_pos h1
theorem oj_e2 (h:¬ (pre.length < 1∨20 < pre.length∨zAW nodes=false)) (h1:O.e1=0) (h2:O.e2≠0):zAS D pre nodes=(O.D2,O.e2,JouM.none0 nodes):=by
 unfold zAS
 rw [if_neg h,oj_rid2 O h1]
 exact if_pos h2
theorem oj_e3 (h:¬ (pre.length < 1∨20 < pre.length∨zAW nodes=false)) (h1:O.e1=0) (h2:O.e2=0) (h3:O.s.1≠0):zAS D pre nodes=(O.D2,O.s.1,JouM.none0 nodes):=by
 unfold zAS
 rw [if_neg h,oj_rid2 O h1]
 dsimp only
 rw [if_neg (by simpa using h2),O.hs]
 exact if_pos h3
theorem oj_go (h:¬ (pre.length < 1∨20 < pre.length∨zAW nodes=false)) (h1:O.e1=0) (h2:O.e2=0) (h3:O.s.1=0):zAS D pre nodes=(if O.l.2.1≠0 then (O.l.1,O.l.2.1,JouM.none0 nodes) else
 match zAd O.s.2 O.l.2.2.2 O.l.2.2.1 with
 | none=>(O.l.1,3,JouM.none0 nodes)
 | some (anew,M)=>if anew then ((zAR O.l.1 pre M).1,(zAR O.l.1 pre M).2,M) else (O.l.1,0,M)):=by
 unfold zAS
 rw [if_neg h,oj_rid2 O h1]
 dsimp only
 rw [if_neg (by simpa using h2),O.hs,if_neg (by simpa using h3),O.hl]
 rfl
theorem oj_e4 (h:¬ (pre.length < 1∨20 < pre.length∨zAW nodes=false)) (h1:O.e1=0) (h2:O.e2=0) (h3:O.s.1=0) (h4:O.l.2.1≠0):zAS D pre nodes=(O.l.1,O.l.2.1,JouM.none0 nodes):=(oj_go O h h1 h2 h3).trans (if_pos h4)
theorem oj_no (h:¬ (pre.length < 1∨20 < pre.length∨zAW nodes=false)) (h1:O.e1=0) (h2:O.e2=0) (h3:O.s.1=0) (h4:O.l.2.1=0) (h5:zAd O.s.2 O.l.2.2.2 O.l.2.2.1=none):zAS D pre nodes=(O.l.1,3,JouM.none0 nodes):=by
 rw [oj_go O h h1 h2 h3,if_neg (by simpa using h4),h5]
theorem oj_keep (h:¬ (pre.length < 1∨20 < pre.length∨zAW nodes=false)) (h1:O.e1=0) (h2:O.e2=0) (h3:O.s.1=0) (h4:O.l.2.1=0) {M:JouM} (h5:zAd O.s.2 O.l.2.2.2 O.l.2.2.1=some (false,M)):zAS D pre nodes=(O.l.1,0,M):=by
 rw [oj_go O h h1 h2 h3,if_neg (by simpa using h4),h5]
 rfl
theorem oj_anew (h:¬ (pre.length < 1∨20 < pre.length∨zAW nodes=false)) (h1:O.e1=0) (h2:O.e2=0) (h3:O.s.1=0) (h4:O.l.2.1=0) {M:JouM} (h5:zAd O.s.2 O.l.2.2.2 O.l.2.2.1=some (true,M)):zAS D pre nodes=((zAR O.l.1 pre M).1,(zAR O.l.1 pre M).2,M):=by
 rw [oj_go O h h1 h2 h3,if_neg (by simpa using h4),h5]
 rfl
end
def OpenJTold (w w1:World) (d:Nat) (pre:ByteArray) (F:Nat→Prop) (r:zAB × Nat × JouM) (e:Ending) (w':World):Prop :=
 St w w' d r.1 F∧Same F w1 w'∧((r.2.1=0∧∃ j,e=.returned (.tuple #[.pointer (some ⟨j,0,none⟩),.int .i64 0])∧JouF w w' j d pre r.1 r.2.2 F)∨(r.2.1≠0∧e=.returned (.tuple #[.pointer none,.int .i64 (r.2.1:Int)])))
theorem jou_fresh {w w1:World} {d:Nat} {D:zAB} {F:Nat→Prop} {nodes:List Int} {gv:Value} (h:St w w1 d D (fun k=>F k∨gv.ownBlock=some k)) (pre:ByteArray) (hp:1≤pre.size∧pre.size≤20) (hg:zAW nodes=true) (hgv:OwnI w1 gv nodes) (hgn:∀ k,gv.ownBlock=some k→w.heap.size≤k∧¬ F k) :
  JouF w (w1.alloc (.cells #[.int .i64 0,.int .i64 0,gv,.pointer (some ⟨d,0,none⟩),.string pre,.int .i64 0,.int .i64 (-1),.slice none 0 0,.slice none 0 0,.bool false] 132)) w1.heap.size d pre D (JouM.none0 nodes) F:=by
 have hb:=zAD w1 (.cells #[.int .i64 0,.int .i64 0,gv,.pointer (some ⟨d,0,none⟩),.string pre,.int .i64 0,.int .i64 (-1),.slice none 0 0,.slice none 0 0,.bool false] 132)
 refine ⟨fun k=>k=w1.heap.size∨gv.ownBlock=some k,gv,.slice none 0 0,.slice none 0 0,[],⟨zAI w1 _,zEp hgv hb,OwnR.nil _ _ _,OwnR.nil _ _ _,⟨rfl,fun i e v he hv=>(by simp at hv)⟩,.inl rfl,fun k hk=>⟨.inr hk,fun e=>by have:=OwnR.lt hgv hk;omega,fun e=>(by cases e)⟩,fun k hk=>(by cases hk),fun k hk=>(by cases hk),fun u hu=>(by simp at hu),fun k hk=>?_,hp,⟨Nat.zero_le _,rfl,hg,rfl,⟨show (-1:Int)≤-1 by decide,show (-1:Int) < 7 by decide⟩,Nat.zero_le _,fun e he=>(by cases he)⟩⟩,h.move (Chg.of_below hb) (fun _ _ h=>h.elim) (fun k hk=>?_),fun k hk=>?_,fun k hk=>Nat.lt_of_lt_of_le (h.flt (.inl hk)) hb.size⟩
 ·rcases hk with hk | hk
  ·rw [hk];simp
  ·exact Nat.lt_of_lt_of_le (OwnR.lt hgv hk) hb.size
 ·rcases hk with (hk | hk) | hk
  ·exact ⟨.inr (by omega),by rw [hk];simp⟩
  ·exact ⟨.inl (.inr hk),Nat.lt_of_lt_of_le (OwnR.lt hgv hk) hb.size⟩
  ·exact ⟨.inl (.inl hk),Nat.lt_of_lt_of_le (h.flt (.inl hk)) hb.size⟩
 ·rcases hk with hk | hk
  ·exact ⟨by rw [hk];exact h.below.size,fun hf=>by have:=h.flt (.inl hf);omega⟩
  ·exact hgn k hk
theorem oneB_short (b:Bs):(oneB b).length≤b.length:=by
 unfold oneB
 split
 ·unfold decB
  split
  ·rw [List.length_take,List.length_drop]
   omega
  ·exact Nat.zero_le _
 ·exact Nat.zero_le _
theorem loadB_short (o:Option zAV):(zDT o).length≤(zCW o).length:=by
 unfold zDT
 split
 ·exact oneB_short _
 ·exact Nat.zero_le _
theorem data_used {D:zAB} (h:Srt D.files) (n:Bs):(zCW (Sat.get n D.files)).length≤D.used:=by
 cases hg:Sat.get n D.files with
 | none=>exact Nat.zero_le _
 | some f=>exact le_sum (f:=zAB.size) h hg
theorem each1_less {D:zAB} (h:Srt D.files) (n:Bs):(zAB.each1 zAB.gRemove D n).1.used≤D.used∧Srt (zAB.each1 zAB.gRemove D n).1.files:=by
 unfold zAB.each1
 split
 ·exact ⟨Nat.le_refl _,h⟩
 ·cases hg:Sat.get n D.files with
  | none=>exact ⟨Nat.le_refl _,h⟩
  | some f =>
   refine ⟨?_,zCG h⟩
   show zBN zAB.size (del n D.files)≤zBN zAB.size D.files
   rw [zCt h hg]
   omega
theorem rid1_less {D:zAB} (h:Srt D.files) (n:Bs):(D.rid1 n).1.used≤D.used∧Srt (D.rid1 n).1.files:=by
 unfold zAB.rid1
 split
 ·show (zAB.each zAB.gRemove D [n]).1.used≤_∧Srt (zAB.each zAB.gRemove D [n]).1.files
  simp only [zAB.each]
  split
  ·exact each1_less h n
  ·exact each1_less h n
 ·exact ⟨Nat.le_refl _,h⟩
theorem zCp {D:zAB} {g:List Int} {pre:Bs} (h:Srt D.files) {u:Nat} (hu:D.used≤u) (O:OpensJ D pre g):(zDT (Sat.get (snpN pre) O.D2.files)).length≤u:=by
 have h1:=rid1_less h (zAH (logN pre))
 rw [O.h1] at h1
 have h2:=rid1_less h1.2 (zAH (snpN pre))
 rw [O.h2] at h2
 have h3:=loadB_short (Sat.get (snpN pre) O.D2.files)
 have h4:(zCW (Sat.get (snpN pre) O.D2.files)).length≤O.D2.used:=data_used h2.2 (snpN pre)
 have h5:O.D1.used≤D.used:=h1.1
 have h6:O.D2.used≤O.D1.used:=h2.1
 omega
theorem zDK {D:zAB} (h:D.OK) (n b:Bs):(D.append n b).1.used≤D.used+b.length:=by
 unfold zAB.append
 split
 ·exact Nat.le_add_right _ _
 ·split
  ·exact Nat.le_add_right _ _
  ·show zBN zAB.size (put n ⟨(D.cur n).data ++ b,(D.cur n).lasts⟩ D.files)≤_
   rw [sum_put]
   have hu:D.used=zAB.size (D.cur n)+zBN zAB.size (del n D.files):=by
    unfold zAB.cur
    cases hg:Sat.get n D.files with
    | none=>rw [zCa hg];simp [zAB.used,zAB.size]
    | some f=>exact zCt h.srt hg
   simp only [zAB.size,List.length_append] at hu ⊢
   omega
theorem zDJ (D:zAB) (n b:Bs):(D.append n b).1.room=D.room:=by
 unfold zAB.append
 split
 ·rfl
 ·split <;> rfl
structure zAN where
 n:Bs
 b:Value
 f:zAV
def zAN.cells (x:zAN):List Value:=[encStr x.n,x.b,.int .i64 (x.f.lasts:Int)]
def zAN.key (x:zAN):Bs × zAV:=(x.n,x.f)
def leftOf:Option Nat→Int
 | none=>-1
 | some k=>k
theorem zD1 (L:List zAN) (i:Nat) (x:zAN) (h:L[i]?=some x) (j:Nat) (hj:j < 3):(L.flatMap zAN.cells)[i * 3+j]?=x.cells[j]?:=by
 induction L generalizing i with
 | nil=>simp at h
 | cons y r ih =>
  rw [List.flatMap_cons]
  cases i with
  | zero =>
   simp at h
   subst h
   rw [List.getElem?_append_left (by simp [zAN.cells];omega)]
   simp
  | succ i =>
   rw [List.getElem?_append_right (by simp [zAN.cells];omega)]
   have e:(i+1) * 3+j - y.cells.length=i * 3+j:=by simp [zAN.cells];omega
   rw [e]
   exact ih i (by simpa using h)
structure zAY (w:World) (r:Nat) (v:Value) (L:List zAN) (own:Nat→Prop) (D:zAB):Prop where
 cells:w.heap[r]?=some (.cells #[.int .i64 (D.room:Int),v,.int .i64 (leftOf D.fuse)] 118 (0,0))
 row:OwnR w 127 3 v L.length (L.flatMap zAN.cells)
 files:D.files=L.map zAN.key
 data:∀ x ∈ L,OwnB w 5 x.b x.f.data
 or:own r
 ov:∀ k,v.ownBlock=some k→own k∧k≠r
 ob:∀ x ∈ L,∀ k,x.b.ownBlock=some k→own k∧k≠r∧v.ownBlock≠some k
 olt:∀ k,own k→k < w.heap.size
 ok:D.OK
def RefAt (w:World) (r:Nat) (D:zAB) (own:Nat→Prop):Prop:=∃ v L,zAY w r v L own D
theorem zAY.keep {w w':World} {r:Nat} {v:Value} {L:List zAN} {own:Nat→Prop} {D:zAB} (h:zAY w r v L own D) (hs:w.heap.size≤w'.heap.size) (hb:∀ k,own k→w'.heap[k]?=w.heap[k]?):zAY w' r v L own D where
 cells:=(hb r h.or).trans h.cells
 row:=h.row.keep fun k hk=>hb k (h.ov k hk).1
 files:=h.files
 data:=fun x hx=>OwnR.keep (h.data x hx) fun k hk=>hb k (h.ob x hx k hk).1
 or:=h.or
 ov:=h.ov
 ob:=h.ob
 olt:=fun k hk=>Nat.lt_of_lt_of_le (h.olt k hk) hs
 ok:=h.ok
theorem RefAt.keep {w w':World} {r:Nat} {own:Nat→Prop} {D:zAB} (h:RefAt w r D own) (hs:w.heap.size≤w'.heap.size) (hb:∀ k,own k→w'.heap[k]?=w.heap[k]?):RefAt w' r D own:=by
 obtain ⟨v,L,h⟩:=h
 exact ⟨v,L,h.keep hs hb⟩
section
variable {w:World} {r:Nat} {v:Value} {L:List zAN} {own:Nat→Prop} {D:zAB}
theorem zAY.c0 (h:zAY w r v L own D):w.cell? ⟨r,0,none⟩=some (.int .i64 (D.room:Int)):=zAA h.cells rfl
theorem zAY.c1 (h:zAY w r v L own D):w.cell? ⟨r,1,none⟩=some v:=zAA h.cells rfl
theorem zAY.c2 (h:zAY w r v L own D):w.cell? ⟨r,2,none⟩=some (.int .i64 (leftOf D.fuse)):=zAA h.cells rfl
theorem zAY.len (h:zAY w r v L own D):L.length=D.files.length:=by rw [h.files,List.length_map]
theorem zAY.at (h:zAY w r v L own D):L=[]∨∃ g c,v=.slice (some ⟨g,0,none⟩) L.length c∧L.length≤c∧∀ i x,L[i]?=some x→w.cell? ⟨g,i * 3,none⟩=some (encStr x.n)∧w.cell? ⟨g,i * 3+1,none⟩=some x.b∧w.cell? ⟨g,i * 3+2,none⟩=some (.int .i64 (x.f.lasts:Int)):=by
 rcases h.row.2 with ⟨rfl,hn⟩ | ⟨g,cap,cur,e,hg,hnc,_⟩
 ·exact .inl (List.eq_nil_of_length_eq_zero hn)
 ·refine .inr ⟨g,cap,e,hnc,fun i x hx=>?_⟩
  have hc:=h.row.cells (g:=g) (by rw [e];rfl)
  refine ⟨?_,?_,?_⟩
  ·have:=hc (i * 3+0) (encStr x.n) ((zD1 L i x hx 0 (by omega)).trans rfl)
   rwa [add_zero] at this
  ·have:=hc (i * 3+1) x.b ((zD1 L i x hx 1 (by omega)).trans rfl)
   rwa [add_zero] at this
  ·have:=hc (i * 3+2) _ ((zD1 L i x hx 2 (by omega)).trans rfl)
   rwa [add_zero] at this
theorem zAY.slice (h:zAY w r v L own D):∃ p c,v=.slice p L.length c:=OwnR.shape h.row
end
def zAo (n:Bs):List Bs→Nat
 | []=>0
 | x :: r=>if bytesBefore x n then zAo n r+1 else 0
def isAt (n:Bs) (l:List Bs):Bool:=l[zAo n l]? == some n
theorem less_before (x:Bs) (s:ByteArray):Op.bytesLess x s.toList=bytesBefore x (nm s):=by
 have e:s.toList=nm s:=ByteArray.toList_eq s
 rw [e,Bool.eq_iff_iff,bb_lt,bytesLess_eq,decide_eq_true_eq]
theorem drop_cons {α:Type} {l:List α} {k:Nat} {x:α} (h:l[k]?=some x):l.drop k=x :: l.drop (k+1):=by
 obtain ⟨hk,rfl⟩:=List.getElem?_eq_some_iff.1 h
 exact List.drop_eq_getElem_cons hk
theorem zDF {n x:Bs} {r:List Bs} (h:bytesBefore x n=true):zAo n (x :: r)=zAo n r+1:=by
 show (if bytesBefore x n then _ else _)=_
 rw [if_pos h]
theorem zED {n x:Bs} {r:List Bs} (h:bytesBefore x n=false):zAo n (x :: r)=0:=by
 show (if bytesBefore x n then _ else _)=_
 rw [if_neg (by simp [h])]
theorem spotN_le (n:Bs):∀ l,zAo n l≤l.length
 | []=>Nat.le_refl _
 | x :: r=>by
  have:=spotN_le n r
  cases h:bytesBefore x n with
  | true=>rw [zDF h];simp;omega
  | false=>rw [zED h];exact Nat.zero_le _
theorem zBU {w:World} {r:Nat} {v:Value} {L:List zAN} {own:Nat→Prop} {D:zAB} (h:zAY w r v L own D) (s:ByteArray) :
  Calls Tryz.prog 70 #[.pointer (some ⟨r,0,none⟩),.string s] w fun e w'=>e=.returned (.tuple #[.int .i64 (zAo (nm s) (L.map zAN.n):Int),.bool (isAt (nm s) (L.map zAN.n))])∧∃ q,w'=w.drewN q:=by
 obtain ⟨p,c,rfl⟩:=h.slice
 have c1:=h.c1
 have Hat:=zh h.at
 have hcount:L.length≤4096:=by rw [h.len];exact h.ok.count
 clear h
 have hNn:(L.map zAN.n).length=L.length:=List.length_map ..
 generalize hN:L.length=N at *
 have HN:=zh hN
 have HNn:=zh hNn
 clear hN hNn
 go_enter Tryz.func70,Tryz.ntmps70
 go_wp2_with fail
 go_loop [6] (fun i=>∃ k:Nat,k≤N∧i=.int .i64 k∧zAo (nm s) (L.map zAN.n)=k+zAo (nm s) ((L.map zAN.n).drop k)) (fun i=>N - (intOf i).toNat)
 case atStart=>exact ⟨0,Nat.zero_le _,rfl,by simp⟩
 case round =>
  obtain ⟨k,hk,rfl,hsp⟩:=hrel
  by_cases hlt:k < N
  ·have hkl:k < L.length:=by rw [HN.out];exact hlt
   obtain ⟨y,hy⟩:∃ y,L[k]?=some y:=⟨_,List.getElem?_eq_getElem hkl⟩
   have hmk:(L.map zAN.n)[k]?=some y.n:=by rw [List.getElem?_map,hy];rfl
   rw [drop_cons hmk] at hsp
   rcases Hat.out with h0 | ⟨g,c1,e1,-,hc⟩
   ·rw [h0] at hkl
    simp at hkl
   cases e1
   obtain ⟨hn0,-,-⟩:=hc k y hy
   rw [enc_str] at hn0
   have Hsp:=zh hsp
   have Hmk:=zh hmk
   clear hc hkl hy hsp hmk
   generalize y.n=x at *
   cases hb:bytesBefore x (nm s) with
   | true =>
    have hb1:Op.bytesLess x s.toList=true:=by rw [less_before];exact hb
    go_wp2_with fail
    go_round
    case rel=>exact ⟨k+1,by omega,by go_num,by rw [Hsp.out,zDF hb];omega⟩
    case measure=>simp [intOf];omega
   | false =>
    have hb1:Op.bytesLess x s.toList=false:=by rw [less_before];exact hb
    have Hfin:zAo (nm s) (L.map zAN.n)=k:=by rw [Hsp.out,zED hb];rfl
    have Hfa:isAt (nm s) (L.map zAN.n)=(x == nm s):=by unfold isAt;rw [Hfin,Hmk.out];rfl
    have Hres:=zh (show Value.tuple #[.int .i64 (k:Int),.bool (x == s.toList)]=.tuple #[.int .i64 (zAo (nm s) (L.map zAN.n):Int),.bool (isAt (nm s) (L.map zAN.n))] by rw [Hfin,Hfa,ByteArray.toList_eq];rfl)
    clear Hsp Hfin Hfa hb
    go_wp2_with fail
    go_quiet (fail)
    go_wp2
    go_ret2
    exact ⟨congrArg Ending.returned Hres.out,_,rfl⟩
  ·have hkN:k=N:=by omega
   subst hkN
   have hd:(L.map zAN.n).drop k=[]:=List.drop_of_length_le (by rw [HNn.out];exact Nat.le_refl _)
   rw [hd] at hsp
   have hsp':zAo (nm s) (L.map zAN.n)=k:=hsp
   have hfa:isAt (nm s) (L.map zAN.n)=false:=by unfold isAt;rw [hsp',List.getElem?_eq_none (by rw [HNn.out];exact Nat.le_refl _)];rfl
   have Hres:=zh (show Value.tuple #[.int .i64 (k:Int),.bool false]=.tuple #[.int .i64 (zAo (nm s) (L.map zAN.n):Int),.bool (isAt (nm s) (L.map zAN.n))] by rw [hsp',hfa])
   clear hsp hsp' hfa hd
   go_wp2_with fail
   go_quiet (fail)
   go_wp2
   go_ret2
   exact ⟨congrArg Ending.returned Hres.out,_,rfl⟩
end Go.Proofs.YtapfnehdgailmaaGreat
