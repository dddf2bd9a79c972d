/- journal: writes. (Printed by mkj13.py.) -/
import Derived.Test.YtapfnehdgailmaaGreatGH
set_option maxRecDepth 100000
set_option maxHeartbeats 64000000
namespace Go.Proofs.YtapfnehdgailmaaGreat
open Go.RowKit Go.Sat Go.Maps
theorem rowsIn_keep {w w':World} {v:Value} {vs:List Value} {ls:List Bs} (h:zA7 w v vs ls) (hs:∀ k,(v.ownBlock=some k∨∃ u ∈ vs,u.ownBlock=some k)→w'.heap[k]?=w.heap[k]?):zA7 w' v vs ls :=
 ⟨h.row.keep fun k hk=>hs k (.inl hk),fun i u b hu hl=>OwnR.keep (h.has i u b hu hl) fun k hk=>hs k (.inr ⟨u,List.mem_of_getElem? hu,hk⟩),h.sep⟩
def FR (F:Nat→Prop) (v:Value) (vs:List Value) (k:Nat):Prop:=F k∨v.ownBlock=some k∨∃ u ∈ vs,u.ownBlock=some k
theorem zDh.two {w W:World} {u1 u2:Value} {x1 x2:Bs} (hb:Below w.heap.size w W) (h1:OwnB W 5 u1 x1) (n1:∀ k,u1.ownBlock=some k→w.heap.size≤k) (h2:OwnB W 5 u2 x2) (n2:∀ k,u2.ownBlock=some k→w.heap.size≤k) :
  zDh w (W.alloc (.cells #[u1,u2] 22)) (.slice (some ⟨W.heap.size,0,none⟩) 2 2) [u1,u2] [x1,x2]:=by
 have ha:=zAD W (.cells #[u1,u2] 22)
 have hs:=hb.size
 refine ⟨⟨⟨rfl,.inr ⟨W.heap.size,2,#[u1,u2],rfl,zAI W _,Nat.le_refl _,by decide,Nat.le_refl _,rfl⟩⟩,fun i u b hu hl=>?_,fun u hu k hk e=>?_⟩,⟨fun k hk=>?_,fun u hu k hk=>?_⟩,hb.trans (ha.mono hs)⟩
 ·match i,hu,hl with
  | 0,hu,hl=>cases hu;cases hl;exact zBm h1 ha
  | 1,hu,hl=>cases hu;cases hl;exact zBm h2 ha
 ·obtain rfl:W.heap.size=k:=Option.some.inj e
  rcases List.mem_cons.1 hu with rfl | hu
  ·have:=OwnR.lt h1 hk
   omega
  ·obtain rfl:u=u2:=by simpa using hu
   have:=OwnR.lt h2 hk
   omega
 ·cases hk
  exact hs
 ·rcases List.mem_cons.1 hu with rfl | hu
  ·exact n1 k hk
  ·obtain rfl:u=u2:=by simpa using hu
   exact n2 k hk
section
variable {w w1 w2:World} {j d:Nat} {pre:ByteArray} {D:zAB} {M:JouM} {F:Nat→Prop}
theorem jou_read (h:JouF w w1 j d pre D M F) (s:ByteArray) (hs:s.size≤9223372036854775807) :
  Calls Tryz.prog 75 #[.pointer (some ⟨d,0,none⟩),.string s] w1 fun e w'=>∃ v,e=.returned (.tuple #[v,.int .i64 (zCq (Sat.get (nm s) D.files))])∧OwnB w' 5 v (zCW (Sat.get (nm s) D.files))∧(∀ k,v.ownBlock=some k→w1.heap.size≤k)∧Below w1.heap.size w1 w':=by
 refine (st_read h.st s hs).mono ?_
 rintro e w' ⟨v,rfl,hv,hn,hb,-⟩
 exact ⟨v,rfl,hv,hn,hb⟩
theorem jou_rename (h:JouF w w1 j d pre D M F) (o s:ByteArray) (hso:o.size≤9223372036854775807) (hss:s.size≤9223372036854775807) :
  Calls Tryz.prog 160 #[.pointer (some ⟨d,0,none⟩),.string o,.string s] w1 fun e w'=>e=.returned (.int .i64 ((D.rename (nm o) (nm s)).2:Int))∧JouF w w' j d pre (D.rename (nm o) (nm s)).1 M F∧Same F w1 w'∧w'.heap[j]?=w1.heap[j]? :=
 zD6 h (Below.refl _ _) fun _ hS=>st_rename hS o s hso hss
theorem FR_more (h:JouF w w1 j d pre D M F) {v:Value} {vs:List Value} {ls:List Bs} (hr:zDh w1 w2 v vs ls):JouF w w2 j d pre D M (FR F v vs) :=
 h.more hr.bel fun k hk=>by
  rcases hk with hk | hk | ⟨u,hu,hk⟩
  ·exact .inl hk
  ·exact .inr ⟨hr.new.1 k hk,OwnR.lt hr.rows.row hk⟩
  ·obtain ⟨c,hc⟩:=mem_rows hr.rows hu
   exact .inr ⟨hr.new.2 u hu k hk,OwnR.lt hc hk⟩
def zBk (w w1:World) (j d:Nat) (pre:ByteArray) (M:JouM) (F:Nat→Prop) (r:zAB × Nat) (e:Ending) (w':World):Prop :=
 e=.returned (.int .i64 (r.2:Int))∧JouF w w' j d pre r.1 M F∧Same F w1 w'
theorem rows_rows {M:JouM} (h:M.OK):(∀ l ∈ M.rows,l.length≤65800)∧M.rows.length=M.entries.length+2:=by
 have hl:=h.last
 unfold JouM.last at hl
 have hg:=(grp_len h.group).2
 refine ⟨fun l hl'=>?_,?_⟩
 ·unfold JouM.rows at hl'
  rcases List.mem_cons.1 hl' with rfl | hl'
  ·unfold fstB
   simp only [List.length_cons,List.length_append]
   have h1:=zAe (n:=M.number) (by omega)
   have h2:=zA9 M.term
   have h3:=zEi M.group (by omega)
   omega
  ·rcases List.mem_cons.1 hl' with rfl | hl'
   ·exact Nat.le_trans (trmB_len _ _) (by decide)
   ·exact zC6 _ _ h.ents (by omega) l hl'
 ·unfold JouM.rows
  simp [zCN]
theorem zCc (h:JouF w w1 j d pre D M F) (hm:M.entries.length≤1000000) :
  Calls Tryz.prog 80 #[.pointer (some ⟨j,0,none⟩)] w1 (zBk w w1 j d pre M F (zAR D (nm pre) M)):=by
 obtain ⟨i0,hi,hz0,hz1,hz2⟩:=info_parts (show (Tryz.prog.info? 22).map (fun i=>(i.zero,i.size,i.bytes))=some (some (.slice none 0 0),1,24) by kernel_rfl)
 have hps:=h.psz
 have hsl:(sLog pre).size=pre.size+4:=zEC pre
 have hok:=h.okM
 have hlast:=hok.last
 have hnow:=zAr.1 hok.now
 have hvote:=hok.vote
 have HrR:=zh (rows_rows hok)
 have HrecL:=zh (zDW (c:=65800) M.rows (rows_rows hok).1)
 have Hents:=zh hok.ents
 have Hfi:=zh (jfirst_calls (h.next (zAb w1)))
 have Htr:=zh (fun W=>termRec_calls W M.now M.vote (by omega) (by omega))
 obtain ⟨own,gv,dv,ev,vs,hJ,hS,hn,hl⟩:=id h
 have HJ:=zh hJ
 have c0:=hJ.c 0 rfl
 have c3:=hJ.c 3 rfl
 have c4:=hJ.c 4 rfl
 have c5:=hJ.c 5 rfl
 have c6:=hJ.c 6 rfl
 have c8:=hJ.c 8 rfl
 obtain ⟨pv8,cv8,hev⟩:=hJ.row.shape
 rw [hev] at c8
 have Hev:=zh hev
 have H:=zh h
 unfold JouM.last at hlast
 clear h hJ hS hn hl hok hev
 generalize hen:M.entries.length=n at *
 have Hen:=zh hen
 generalize hnum:M.number=b at *
 have Hnum:=zh hnum
 clear hen hnum
 go_enter Tryz.func80,Tryz.ntmps80
 go_wp2_with fail
 refine zAT (fun w':World=>w'.cell? ⟨j,5,none⟩=some (.int .i64 M.now)∧w'.cell? ⟨j,6,none⟩=some (.int .i64 M.vote)) (n:=13) (by kernel_rfl) rfl (⟨c5,c6⟩) (fun hHeld=>?_)
 refine otk 0 (v:=?v1x0) rfl ?_
 simp only [Act.put,uA,uB,uC]
 refine otk 2 (v:=?v1x2) rfl ?_
 simp only [Act.put,uA,uB,uC]
 refine otk 3 (v:=?v1x3) rfl ?_
 simp only [Act.put,uA,uB,uC]
 refine otk 4 (v:=?v1x4) rfl ?_
 simp only [Act.put,uA,uB,uC]
 refine otk 5 (v:=?v1x5) rfl ?_
 simp only [Act.put,uA,uB,uC]
 refine otk 6 (v:=?v1x6) rfl ?_
 simp only [Act.put,uA,uB,uC]
 refine otk 7 (v:=?v1x7) rfl ?_
 simp only [Act.put,uA,uB,uC]
 refine otk 8 (v:=?v1x8) rfl ?_
 simp only [Act.put,uA,uB,uC]
 refine otk 9 (v:=?v1x9) rfl ?_
 simp only [Act.put,uA,uB,uC]
 refine zAG 1 rfl (by kernel_rfl) (by rfl) (fun K hK=>?_)
 go_wp2_with fail
 refine Hfi.out.mono ?_
 rintro e w3 ⟨u1,rfl,hu1,hn1,hb3⟩
 have HB3:=zh ((zAb w1).trans hb3)
 have Hh3:=zh (And.intro (zAJ hHeld.1 hb3) (zAJ hHeld.2 hb3))
 have HU1:=zh (And.intro hu1 (show ∀ x,u1.ownBlock=some x→w1.heap.size≤x from hn1))
 obtain ⟨p1,q1,rfl,-⟩:=zAO hu1
 clear hu1 hn1 hb3 Hfi
 go_wp2_with fail
 refine hK.out _ _ (Hh3.out) (fun hHeld=>?_)
 clear hK
 try simp only [Act.put,uA,uB,uC]
 refine zAG 10 rfl (by kernel_rfl) (by rfl) (fun K hK=>?_)
 go_wp2_with fail
 refine (Htr.out w3).mono ?_
 rintro e w4 ⟨u2,rfl,hu2,hn2,hb4⟩
 have HB4:=zh (HB3.out.trans (hb4.mono HB3.out.size))
 have Hh4:=zh (And.intro (zAJ hHeld.1 hb4) (zAJ hHeld.2 hb4))
 have HU2:=zh (And.intro (zBm HU1.out.1 hb4) (And.intro hu2 (show ∀ x,u2.ownBlock=some x→w1.heap.size≤x from fun x hx=>Nat.le_trans HB3.out.size (hn2 x hx))))
 obtain ⟨p2,q2,rfl,-⟩:=zAO hu2
 clear hu2 hn2 hb4 Htr
 go_wp2_with fail
 refine hK.out _ _ (Hh4.out) (fun hHeld=>?_)
 clear hK
 try simp only [Act.put,uA,uB,uC]
 refine zAG 11 rfl (by kernel_rfl) (by rfl) (fun K hK=>?_)
 have Hh5:=zh (And.intro (zA4 hHeld.1 (.cells #[.slice p1 (fstB b M.term M.group).length q1,.slice p2 (trmB M.now M.vote).length q2] 22)) (zA4 hHeld.2 (.cells #[.slice p1 (fstB b M.term M.group).length q1,.slice p2 (trmB M.now M.vote).length q2] 22)))
 go_wp2_with fail
 refine hK.out _ _ (Hh5.out) (fun hHeld=>?_)
 clear hK
 try simp only [Act.put,uA,uB,uC]
 refine otk 12 (v:=?v1x12) rfl ?_
 simp only [Act.put,uA,uB,uC]
 refine wpAnyH_done (by kernel_rfl) ?_ _
 have hrn0:=zDh.two HB4.out HU2.out.1 HU1.out.2 HU2.out.2.1 HU2.out.2.2
 have HrM:=zh (show [fstB b M.term M.group,trmB M.now M.vote] ++ zBK b M.entries=M.rows from by rw [← Hnum.out];rfl)
 clear HU1 HU2 HB3 HB4
 generalize hWa:w4.alloc (.cells #[.slice p1 (fstB b M.term M.group).length q1,.slice p2 (trmB M.now M.vote).length q2] 22)=W0 at *
 have HR0:=zh hrn0
 have c8:=zAJ c8 hrn0.bel
 clear hrn0 hWa
 go_wp2_with fail
 go_loopw [3,29] (fun x i wr=>∃ (k:Nat) (us:List Value) (xv:Value),k≤n∧i=.int .i64 k∧xv=x∧zDh w1 wr xv us ([fstB b M.term M.group,trmB M.now M.vote] ++ zBK b (M.entries.take k))) (fun _ i _=>n - (intOf i).toNat)
 case atStart=>exact ⟨0,_,_,Nat.zero_le _,rfl,rfl,HR0.out⟩
 case round =>
  clear HR0
  obtain ⟨k,us,xv,hk,rfl,rfl,hrn⟩:=hrel
  by_cases hlt:k < n
  ·have hkl:k < M.entries.length:=by rw [Hen.out];exact hlt
   obtain ⟨g,c,v,hev',-,hat,k0,k1,k2,k3⟩:=HJ.out.ent (List.getElem?_eq_getElem hkl)
   rw [Hev.out] at hev'
   simp only [Value.slice.injEq] at hev'
   obtain ⟨rfl,-,rfl⟩:=hev'
   have HTk:=zh (entsB_take (n:=b) hkl)
   have hie:=Hents.out _ (List.getElem_mem hkl)
   have hf:=zA8 hie
   generalize M.entries[k]=e at *
   have hhas:=hat.has (by omega) (by omega)
   obtain ⟨pe,ce,e1,-⟩:=zAO hat.data
   obtain ⟨pn,cn,e2,-⟩:=zAl hat.nodes
   obtain ⟨v1,v2⟩:=v
   have e1':v1=.slice pe e.data.length ce:=e1
   have e2':v2=.slice pn e.nodes.length cn:=e2
   subst e1'
   subst e2'
   have k0:=zAJ k0 hrn.bel
   have k1:=zAJ k1 hrn.bel
   have k2:wr.cell? ⟨g,k * 4+2,none⟩=some (.slice pe e.data.length ce):=zAJ k2 hrn.bel
   have k3:wr.cell? ⟨g,k * 4+3,none⟩=some (.slice pn e.nodes.length cn):=zAJ k3 hrn.bel
   have c0r:=zAJ c0 hrn.bel
   have Hhas:=zh hhas
   have Hie:=zh hie
   have Hrn:=zh hrn
   have hdl:=hhas.dl
   have hnl:=hhas.nl
   have hw2:IntKind.i64.wrap ((b:Int)+1)=(b:Int)+1:=IntWalk.i64_in _ (by omega)
   have hw3:IntKind.i64.wrap ((b:Int)+1+(k:Int))=(b:Int)+1+(k:Int):=IntWalk.i64_in _ (by omega)
   have Her:=zh (fun W (hb:Below w1.heap.size w1 W)=>show Calls Tryz.prog 100 #[.int .i64 ((b:Int)+1+(k:Int)),.agg #[.int .i64 e.term,.int .i64 e.kind,.slice pe e.data.length ce,.slice pn e.nodes.length cn]] W (zBJ W (entB (b+k+1) e)) from by
    have:=entRec_calls (b+k+1) (by omega) (hhas.below hb) hie
    rwa [show ((b+k+1:Nat):Int)=(b:Int)+1+(k:Int) by omega] at this)
   have Hek:=zh (show ([fstB b M.term M.group,trmB M.now M.vote] ++ zBK b (M.entries.take k)).length=k+2 from by rw [List.length_append,zCN,List.length_take,Hen.out,Nat.min_eq_left (by omega)];simp;omega)
   clear hkl hat e1 e2 hhas hie hf hrn
   go_wp2_with fail
   refine zAT (fun w':World=>w'.cell? ⟨j,0,none⟩=some (.int .i64 (b:Int))∧w'.heap[wr.heap.size]?=some (.cells #[.int .i64 e.term,.int .i64 e.kind,.slice pe e.data.length ce,.slice pn e.nodes.length cn] 50 (0,0))) (n:=14) (by kernel_rfl) rfl (⟨zA4 c0r _,zAI wr _⟩) (fun hHeld=>?_)
   have HB1:=zh (show Below wr.heap.size wr (wr.alloc (.cells #[.int .i64 e.term,.int .i64 e.kind,.slice pe e.data.length ce,.slice pn e.nodes.length cn] 50)).drew from (zAD wr _).trans ⟨rfl,rfl,rfl,by simp,fun _ _=>rfl⟩)
   generalize (wr.alloc (.cells #[.int .i64 e.term,.int .i64 e.kind,.slice pe e.data.length ce,.slice pn e.nodes.length cn] 50)).drew=W1 at *
   refine otk 0 (v:=?v5x0) rfl ?_
   simp only [Act.put,uA,uB,uC]
   refine otk 1 (v:=?v5x1) rfl ?_
   simp only [Act.put,uA,uB,uC]
   refine otk 2 (v:=?v5x2) rfl ?_
   simp only [Act.put,uA,uB,uC]
   refine otk 3 (v:=?v5x3) rfl ?_
   simp only [Act.put,uA,uB,uC]
   refine otk 4 (v:=?v5x4) rfl ?_
   simp only [Act.put,uA,uB,uC]
   refine otk 5 (v:=?v5x5) rfl ?_
   simp only [Act.put,uA,uB,uC]
   refine otk 6 (v:=?v5x6) rfl ?_
   simp only [Act.put,uA,uB,uC]
   refine otk 7 (v:=?v5x7) rfl ?_
   simp only [Act.put,uA,uB,uC]
   refine otk 8 (v:=?v5x8) rfl ?_
   simp only [Act.put,uA,uB,uC]
   refine otc 9 (v:=.agg #[.int .i64 e.term,.int .i64 e.kind,.slice pe e.data.length ce,.slice pn e.nodes.length cn]) rfl (fun W hSw=>by have q0:=zAA hSw.2 (i:=0) rfl;have q1:=zAA hSw.2 (i:=1) rfl;have q2:=zAA hSw.2 (i:=2) rfl;have q3:=zAA hSw.2 (i:=3) rfl;go_simp;try with_reducible rfl) ?_
   simp only [Act.put,uA,uB,uC]
   refine zAG 10 rfl (by kernel_rfl) (by rfl) (fun K hK=>?_)
   go_wp2_with fail
   refine (Her.out W1 (Hrn.out.bel.trans (HB1.out.mono Hrn.out.bel.size))).mono ?_
   rintro r w9 ⟨y,rfl,hy,hyn,hb9⟩
   have HB9:=zh (HB1.out.trans (hb9.mono HB1.out.size))
   have Hh9:=zh (And.intro (zAJ hHeld.1 hb9) ((hb9.block _ (zAC hHeld.2)).trans hHeld.2))
   have HY:=zh (And.intro hy (show ∀ z,y.ownBlock=some z→wr.heap.size≤z from fun z hz=>Nat.le_trans HB1.out.size (hyn z hz)))
   obtain ⟨py,cy,rfl,-⟩:=zAO hy
   clear hy hyn hb9 Her
   generalize hyl:(entB (b+k+1) e).length=yl at *
   have HYL:=zh hyl
   clear hyl
   go_wp2_with fail
   refine hK.out _ _ (Hh9.out) (fun hHeld=>?_)
   clear hK
   try simp only [Act.put,uA,uB,uC]
   refine zAG 11 rfl (by kernel_rfl) (by rfl) (fun K hK=>?_)
   have Hh10:=zh (And.intro (zA4 hHeld.1 (.cells #[.slice py yl cy] 22)) ((zCw _ (.cells #[.slice py yl cy] 22) (zAC hHeld.2)).trans hHeld.2))
   go_wp2_with fail
   refine hK.out _ _ (Hh10.out) (fun hHeld=>?_)
   clear hK
   try simp only [Act.put,uA,uB,uC]
   refine zAG 12 rfl (by kernel_rfl) (by rfl) (fun K hK=>?_)
   have hrow:=(Hrn.out.next HB9.out).rows.row
   rw [Hek.out] at hrow
   have hal:=hrow.keep (w':=w9.alloc (.cells #[.slice py yl cy] 22)) (fun z hz=>(zAi w9 _).block z (OwnR.lt hrow hz))
   have hxx:=zC3 w9 (.slice py yl cy) 22 (0,0)
   refine zAj (.tmp 34) (.tmp 45) 108 rfl 22 i0 (.slice none 0 0) 1 24 Tryz.underlying108 hi hz0 hz1 hz2 rfl (by decide) xv (k+2) _ rfl hal (.slice (some ⟨w9.heap.size,0,none⟩) 1 1) 1 _ rfl hxx (by simp [Value.oneCell']) (by unfold maxLen;omega) (by omega) ?_
   intro v3 w3 hown3 hgrow3 hloc3
   have HE:=zh (zDh.push Hrn.out HB9.out HY.out.1 HY.out.2 (by rw [Hek.out];exact hown3) hgrow3 hloc3)
   have hbne:∀ x,xv.ownBlock=some x→w1.heap.size≤x∧x < wr.heap.size:=fun x hx=>⟨Hrn.out.new.1 x hx,OwnR.lt Hrn.out.rows.row hx⟩
   have hc0:w3.cell? ⟨j,0,none⟩=some (.int .i64 (b:Int)):=(World.cell?_of_block (a:=⟨j,0,none⟩) (hgrow3.block j (World.block_lt_of_cell? _ ⟨j,0,none⟩ hHeld.1) fun e=>by have h1:=(hbne j e.symm).1;have h2:=World.block_lt_of_cell? w1 ⟨j,0,none⟩ c0;have h3:j < w1.heap.size:=h2;omega)).trans hHeld.1
   have hbx:w3.heap[wr.heap.size]?=some (.cells #[.int .i64 e.term,.int .i64 e.kind,.slice pe e.data.length ce,.slice pn e.nodes.length cn] 50 (0,0)):=(hgrow3.block _ (zAC hHeld.2) fun e=>by have:=(hbne _ e.symm).2;omega).trans hHeld.2
   obtain ⟨p3,q3,rfl⟩:=OwnR.shape hown3
   clear hrow hal hxx hown3 hgrow3 hloc3 hbne
   refine hK.out _ _ ⟨hc0,hbx⟩ (fun hHeld=>?_)
   clear hK
   try simp only [Act.put,uA,uB,uC]
   refine otk 13 (v:=?v5x13) rfl ?_
   simp only [Act.put,uA,uB,uC]
   refine wpAnyH_done (by kernel_rfl) ?_ _
   go_wp2_with fail
   go_roundw
   case rel=>exact ⟨k+1,us ++ [.slice py yl cy],_,by omega,by go_num,rfl,by rw [HTk.out,← List.append_assoc];exact HE.out⟩
   case measure=>simp [intOf];omega
  ·have hkn:k=n:=by omega
   have het:M.entries.take k=M.entries:=List.take_of_length_le (by rw [Hen.out];omega)
   rw [het,HrM.out] at hrn
   have hrow:=hrn.rows.row
   rw [HrR.out.2] at hrow
   obtain ⟨px,cx,rfl⟩:=hrow.shape
   have HJG:=zh (FR_more H.out hrn)
   have HRW:=zh hrn.rows
   have HsF:=zh (H.out.same hrn.bel)
   have Hrd:=zh (jou_read HJG.out (zA2 (sLog pre)) (by rw [zBn,hsl];omega))
   rw [zDf,zBf] at Hrd
   have c3:=HJG.out.jc.1
   have c4:=HJG.out.jc.2.1
   have hss:(zA2 (sLog pre)).size≤9223372036854775807:=by rw [zBn,hsl];omega
   have HSr:=zh (show Same (FR F (.slice px (n+2) cx) us) wr wr from fun _ _=>rfl)
   clear hrn hrow het hkn c0 c5 c6 c8
   cases hg:Sat.get (zAH (logN (nm pre))) D.files with
   | none =>
    have h0:D.save0 (logN (nm pre))=(D,0):=by unfold zAB.save0;rw [hg];rfl
    have HZa:=zh (fun D1 e1 (h1:D.append (zAH (logN (nm pre))) (zAU M.rows)=(D1,e1)) (he:e1≠0)=>(save1_app h0 h1 he:zAR D (nm pre) M=_))
    have HZs:=zh (fun D1 D2 e2 (h1:D.append (zAH (logN (nm pre))) (zAU M.rows)=(D1,0)) (h2:D1.sync [zAH (logN (nm pre))]=(D2,e2)) (he:e2≠0)=>(save1_syn h0 h1 h2 he:zAR D (nm pre) M=_))
    have HZr:=zh (fun D1 D2 (h1:D.append (zAH (logN (nm pre))) (zAU M.rows)=(D1,0)) (h2:D1.sync [zAH (logN (nm pre))]=(D2,0))=>(save1_ren h0 h1 h2:zAR D (nm pre) M=_))
    have hr7:zCq (none:Option zAV)=7:=rfl
    rw [hg,hr7] at Hrd
    clear hg h0 hr7
    go_wp2_with fail
    refine Hrd.out.mono ?_
    rintro e w3 ⟨v3,rfl,-,-,hb3⟩
    have HJ3:=zh (HJG.out.next hb3)
    have HS3:=zh (show Same (FR F (.slice px (n+2) cx) us) wr w3 from HJG.out.same hb3)
    clear hb3 Hrd c3 c4
    have c3:=HJ3.out.jc.1
    cases hap:zAB.append D (zAH (logN (nm pre))) (zAU M.rows) with
    | mk D1 e1 =>
     have Hap:=zh (fun W (hb:Below (w3).heap.size (w3) W) x (hx:zAw W x [zAU M.rows])=>show Calls Tryz.prog 15 #[.pointer (some ⟨d,0,none⟩),.string (zA2 (sLog pre)),x] W fun e w'=>e=.returned (.int .i64 (e1:Int))∧JouF w w' j d pre D1 M (FR F (.slice px (n+2) cx) us)∧Same (FR F (.slice px (n+2) cx) us) (w3) w'∧w'.heap[j]?=(w3).heap[j]? from by
      have:=jou_append HJ3.out hb (zA2 (sLog pre)) x [zAU M.rows] hx (by simp) (by simp;have:=HrecL.out;have:=HrR.out.2;omega) (by rw [zBn,hsl];omega)
      rw [show [zAU M.rows].flatten=zAU M.rows by simp,zDf,zBf,hap] at this
      exact this)
     have Hfr:=zh (fun W (hb:Below (w3).heap.size (w3) W)=>zDl (zA7.at ((rowsIn_keep HRW.out fun x hx=>HS3.out x (.inr hx)).below hb)) (by omega) (fun l hl=>Nat.le_trans (HrR.out.1 l hl) (by decide)) (by have:=HrecL.out;have:=HrR.out.2;omega))
     have HAP:=zh hap
     clear hap
     go_wp2_with fail
     refine zAT (fun w':World=>w'.cell? ⟨j,3,none⟩=some (.pointer (some ⟨d,0,none⟩))) (n:=11) (by kernel_rfl) rfl (c3) (fun hHeld=>?_)
     refine otk 0 (v:=?v13x0) rfl ?_
     simp only [Act.put,uA,uB,uC]
     refine otk 1 (v:=?v13x1) rfl ?_
     simp only [Act.put,uA,uB,uC]
     refine otk 2 (v:=?v13x2) rfl ?_
     simp only [Act.put,uA,uB,uC]
     refine otk 3 (v:=?v13x3) rfl ?_
     simp only [Act.put,uA,uB,uC]
     refine otk 4 (v:=?v13x4) rfl ?_
     simp only [Act.put,uA,uB,uC]
     refine otc 5 (v:=?v13x5) rfl ?y13x5 ?_
     case y13x5=>(intro w hSw;(try dsimp only at hSw);go_simp;rw [if_neg (by omega)];try with_reducible rfl)
     simp only [Act.put,uA,uB,uC]
     refine otk 6 (v:=?v13x6) rfl ?_
     simp only [Act.put,uA,uB,uC]
     refine zAG 7 rfl (by kernel_rfl) (by rfl) (fun K hK=>?_)
     have HBd:=zh (zAb (w3))
     go_wp2_with fail
     refine (Hfr.out _ HBd.out).mono ?_
     rintro e wf ⟨v,rfl,hv,-,hbf⟩
     have HBf:=zh (HBd.out.trans hbf)
     have Hhf:=zh (zAJ hHeld hbf)
     have HV:=zh (OwnB.has hv)
     obtain ⟨pv,cv,rfl,-⟩:=zAO hv
     clear hv hbf Hfr
     go_wp2_with fail
     refine hK.out _ _ (Hhf.out) (fun hHeld=>?_)
     clear hK
     try simp only [Act.put,uA,uB,uC]
     refine zAG 8 rfl (by kernel_rfl) (by rfl) (fun K hK=>?_)
     have Hha:=zh (zA4 hHeld (.cells #[.slice pv (zAU M.rows).length cv] 22))
     go_wp2_with fail
     refine hK.out _ _ (Hha.out) (fun hHeld=>?_)
     clear hK
     try simp only [Act.put,uA,uB,uC]
     refine zAG 9 rfl (by kernel_rfl) (by rfl) (fun K hK=>?_)
     have Hcl:=zh (Hap.out _ (HBf.out.trans ((zAD wf (.cells #[.slice pv (zAU M.rows).length cv] 22)).mono HBf.out.size)) _ (zBy HV.out 22 (0,0) wf.heap.size 1 rfl (Nat.le_refl _)))
     go_wp2_with fail
     refine Hcl.out.mono ?_
     rintro e wa ⟨rfl,hja,hsa,hha⟩
     have HJa:=zh hja
     have HSa:=zh (HS3.out.trans hsa)
     have Hhb:=zh ((World.cell?_of_block (a:=⟨j,3,none⟩) hha).trans c3)
     clear hja hsa hha Hcl
     go_wp2_with fail
     refine hK.out _ _ (Hhb.out) (fun hHeld=>?_)
     clear hK
     try simp only [Act.put,uA,uB,uC]
     refine otk 10 (v:=?v13x10) rfl ?_
     simp only [Act.put,uA,uB,uC]
     refine wpAnyH_done (by kernel_rfl) ?_ _
     clear HV HBf HBd
     have c3:wa.cell? ⟨j,3,none⟩=some (.pointer (some ⟨d,0,none⟩)):=Hhb.out
     by_cases he1:e1=0
     ·subst he1
      cases hsy:D1.sync [zAH (logN (nm pre))] with
      | mk D2 e2 =>
       have hsyc:=jou_sync HJa.out (zA2 (sLog pre)) (by rw [zBn,hsl];omega)
       rw [zDf,zBf,hsy] at hsyc
       have Hsy:=zh hsyc
       clear hsyc
       by_cases he2:e2=0
       ·subst he2
        cases hre:D2.rename (zAH (logN (nm pre))) (logN (nm pre)) with
        | mk D3 e3 =>
         have HZ:=zh (show zAR D (nm pre) M=(D3,e3) from (HZr.out D1 D2 HAP.out hsy).trans hre)
         have Hre:=zh (fun W (h:JouF w W j d pre D2 M (FR F (.slice px (n+2) cx) us))=>show Calls Tryz.prog 160 #[.pointer (some ⟨d,0,none⟩),.string (zA2 (sLog pre)),.string (sLog pre)] W fun e w'=>e=.returned (.int .i64 (e3:Int))∧JouF w w' j d pre D3 M (FR F (.slice px (n+2) cx) us)∧Same (FR F (.slice px (n+2) cx) us) W w'∧w'.heap[j]?=W.heap[j]? from by
          have:=jou_rename h (zA2 (sLog pre)) (sLog pre) (by rw [zBn,hsl];omega) (by rw [hsl];omega)
          rw [zDf,zBf,hre] at this
          exact this)
         clear hsy hre
         go_wp2_with fail
         refine Hsy.out.mono ?_
         rintro e wb ⟨rfl,hjb,hsb,hhb⟩
         have HSb:=zh (HSa.out.trans hsb)
         have c3b:wb.cell? ⟨j,3,none⟩=some (.pointer (some ⟨d,0,none⟩)):=(World.cell?_of_block (a:=⟨j,3,none⟩) hhb).trans c3
         have Hrc:=zh (Hre.out wb hjb)
         clear hjb hsb hhb Hsy Hre
         go_wp2_with fail
         refine Hrc.out.mono ?_
         rintro e wc ⟨rfl,hjc,hsc,-⟩
         have HJc:=zh hjc
         have HSc:=zh (HSb.out.trans hsc)
         clear hjc hsc Hrc
         have HE:=zh (show zBk w w1 j d pre M F (zAR D (nm pre) M) (.returned (.int .i64 (e3:Int))) _ from ⟨by rw [HZ.out],by rw [HZ.out];exact HJc.out.less fun _ h=>.inl h,fun x hx=>(HSc.out x (.inl hx)).trans (HsF.out x hx)⟩)
         go_wp2_with fail
         go_ret
         exact HE.out
       ·have HZ:=zh (show zAR D (nm pre) M=(D2,e2) from HZs.out D1 D2 e2 HAP.out hsy he2)
        have hne:((e2:Int) != 0)=true:=by simp;omega
        clear hsy he2
        go_wp2_with fail
        refine Hsy.out.mono ?_
        rintro e wb ⟨rfl,hjb,hsb,-⟩
        have HJb:=zh hjb
        have HSb:=zh (HSa.out.trans hsb)
        clear hjb hsb Hsy
        have HE:=zh (show zBk w w1 j d pre M F (zAR D (nm pre) M) (.returned (.int .i64 (e2:Int))) _ from ⟨by rw [HZ.out],by rw [HZ.out];exact HJb.out.less fun _ h=>.inl h,fun x hx=>(HSb.out x (.inl hx)).trans (HsF.out x hx)⟩)
        go_wp2_with fail
        go_ret
        exact HE.out
     ·have HZ:=zh (show zAR D (nm pre) M=(D1,e1) from HZa.out D1 e1 HAP.out he1)
      have hne:((e1:Int) != 0)=true:=by simp;omega
      clear he1
      have HE:=zh (show zBk w w1 j d pre M F (zAR D (nm pre) M) (.returned (.int .i64 (e1:Int))) _ from ⟨by rw [HZ.out],by rw [HZ.out];exact HJa.out.less fun _ h=>.inl h,fun x hx=>(HSa.out x (.inl hx)).trans (HsF.out x hx)⟩)
      go_wp2_with fail
      go_ret
      exact HE.out
   | some f =>
    cases hrm:D.remove [zAH (logN (nm pre))] with
    | mk D0 e0 =>
     have hs0:D.save0 (logN (nm pre))=(D0,e0):=by unfold zAB.save0;rw [hg];exact hrm
     have Hrm:=zh (fun W (h:JouF w W j d pre D M (FR F (.slice px (n+2) cx) us))=>show Calls Tryz.prog 76 #[.pointer (some ⟨d,0,none⟩),.slice (some ⟨W.heap.size,0,none⟩) 1 1] (W.alloc (.cells #[.string (zA2 (sLog pre))] 9)) fun e w'=>e=.returned (.int .i64 (e0:Int))∧JouF w w' j d pre D0 M (FR F (.slice px (n+2) cx) us)∧Same (FR F (.slice px (n+2) cx) us) W w'∧w'.heap[j]?=W.heap[j]? from by
      have:=jou_remove h (zA2 (sLog pre)) hss
      rw [zDf,zBf,hrm] at this
      exact this)
     have hr0:zCq (some f)=0:=rfl
     rw [hg,hr0] at Hrd
     by_cases he0:e0=0
     ·subst he0
      have HZa:=zh (fun D1 e1 (h1:D0.append (zAH (logN (nm pre))) (zAU M.rows)=(D1,e1)) (he:e1≠0)=>(save1_app hs0 h1 he:zAR D (nm pre) M=_))
      have HZs:=zh (fun D1 D2 e2 (h1:D0.append (zAH (logN (nm pre))) (zAU M.rows)=(D1,0)) (h2:D1.sync [zAH (logN (nm pre))]=(D2,e2)) (he:e2≠0)=>(save1_syn hs0 h1 h2 he:zAR D (nm pre) M=_))
      have HZr:=zh (fun D1 D2 (h1:D0.append (zAH (logN (nm pre))) (zAU M.rows)=(D1,0)) (h2:D1.sync [zAH (logN (nm pre))]=(D2,0))=>(save1_ren hs0 h1 h2:zAR D (nm pre) M=_))
      clear hg hrm hs0 hr0
      go_wp2_with fail
      refine Hrd.out.mono ?_
      rintro e w3 ⟨v3,rfl,-,-,hb3⟩
      have HJ3:=zh (HJG.out.next hb3)
      have HS3:=zh (show Same (FR F (.slice px (n+2) cx) us) wr w3 from HJG.out.same hb3)
      have c3b:=zAJ c3 hb3
      have Hrc:=zh (Hrm.out w3 HJ3.out)
      clear hb3 Hrd Hrm
      go_wp2_with fail
      refine Hrc.out.mono ?_
      rintro e w4 ⟨rfl,hj4,hs4,-⟩
      have HJ4:=zh hj4
      have HS4:=zh (HS3.out.trans hs4)
      clear hj4 hs4 Hrc c3 c4 c3b
      have c3:=HJ4.out.jc.1
      cases hap:zAB.append D0 (zAH (logN (nm pre))) (zAU M.rows) with
      | mk D1 e1 =>
       have Hap:=zh (fun W (hb:Below (w4).heap.size (w4) W) x (hx:zAw W x [zAU M.rows])=>show Calls Tryz.prog 15 #[.pointer (some ⟨d,0,none⟩),.string (zA2 (sLog pre)),x] W fun e w'=>e=.returned (.int .i64 (e1:Int))∧JouF w w' j d pre D1 M (FR F (.slice px (n+2) cx) us)∧Same (FR F (.slice px (n+2) cx) us) (w4) w'∧w'.heap[j]?=(w4).heap[j]? from by
        have:=jou_append HJ4.out hb (zA2 (sLog pre)) x [zAU M.rows] hx (by simp) (by simp;have:=HrecL.out;have:=HrR.out.2;omega) (by rw [zBn,hsl];omega)
        rw [show [zAU M.rows].flatten=zAU M.rows by simp,zDf,zBf,hap] at this
        exact this)
       have Hfr:=zh (fun W (hb:Below (w4).heap.size (w4) W)=>zDl (zA7.at ((rowsIn_keep HRW.out fun x hx=>HS4.out x (.inr hx)).below hb)) (by omega) (fun l hl=>Nat.le_trans (HrR.out.1 l hl) (by decide)) (by have:=HrecL.out;have:=HrR.out.2;omega))
       have HAP:=zh hap
       clear hap
       go_wp2_with fail
       refine zAT (fun w':World=>w'.cell? ⟨j,3,none⟩=some (.pointer (some ⟨d,0,none⟩))) (n:=11) (by kernel_rfl) rfl (c3) (fun hHeld=>?_)
       refine otk 0 (v:=?v14x0) rfl ?_
       simp only [Act.put,uA,uB,uC]
       refine otk 1 (v:=?v14x1) rfl ?_
       simp only [Act.put,uA,uB,uC]
       refine otk 2 (v:=?v14x2) rfl ?_
       simp only [Act.put,uA,uB,uC]
       refine otk 3 (v:=?v14x3) rfl ?_
       simp only [Act.put,uA,uB,uC]
       refine otk 4 (v:=?v14x4) rfl ?_
       simp only [Act.put,uA,uB,uC]
       refine otc 5 (v:=?v14x5) rfl ?y14x5 ?_
       case y14x5=>(intro w hSw;(try dsimp only at hSw);go_simp;rw [if_neg (by omega)];try with_reducible rfl)
       simp only [Act.put,uA,uB,uC]
       refine otk 6 (v:=?v14x6) rfl ?_
       simp only [Act.put,uA,uB,uC]
       refine zAG 7 rfl (by kernel_rfl) (by rfl) (fun K hK=>?_)
       have HBd:=zh (zAb (w4))
       go_wp2_with fail
       refine (Hfr.out _ HBd.out).mono ?_
       rintro e wf ⟨v,rfl,hv,-,hbf⟩
       have HBf:=zh (HBd.out.trans hbf)
       have Hhf:=zh (zAJ hHeld hbf)
       have HV:=zh (OwnB.has hv)
       obtain ⟨pv,cv,rfl,-⟩:=zAO hv
       clear hv hbf Hfr
       go_wp2_with fail
       refine hK.out _ _ (Hhf.out) (fun hHeld=>?_)
       clear hK
       try simp only [Act.put,uA,uB,uC]
       refine zAG 8 rfl (by kernel_rfl) (by rfl) (fun K hK=>?_)
       have Hha:=zh (zA4 hHeld (.cells #[.slice pv (zAU M.rows).length cv] 22))
       go_wp2_with fail
       refine hK.out _ _ (Hha.out) (fun hHeld=>?_)
       clear hK
       try simp only [Act.put,uA,uB,uC]
       refine zAG 9 rfl (by kernel_rfl) (by rfl) (fun K hK=>?_)
       have Hcl:=zh (Hap.out _ (HBf.out.trans ((zAD wf (.cells #[.slice pv (zAU M.rows).length cv] 22)).mono HBf.out.size)) _ (zBy HV.out 22 (0,0) wf.heap.size 1 rfl (Nat.le_refl _)))
       go_wp2_with fail
       refine Hcl.out.mono ?_
       rintro e wa ⟨rfl,hja,hsa,hha⟩
       have HJa:=zh hja
       have HSa:=zh (HS4.out.trans hsa)
       have Hhb:=zh ((World.cell?_of_block (a:=⟨j,3,none⟩) hha).trans c3)
       clear hja hsa hha Hcl
       go_wp2_with fail
       refine hK.out _ _ (Hhb.out) (fun hHeld=>?_)
       clear hK
       try simp only [Act.put,uA,uB,uC]
       refine otk 10 (v:=?v14x10) rfl ?_
       simp only [Act.put,uA,uB,uC]
       refine wpAnyH_done (by kernel_rfl) ?_ _
       clear HV HBf HBd
       have c3:wa.cell? ⟨j,3,none⟩=some (.pointer (some ⟨d,0,none⟩)):=Hhb.out
       by_cases he1:e1=0
       ·subst he1
        cases hsy:D1.sync [zAH (logN (nm pre))] with
        | mk D2 e2 =>
         have hsyc:=jou_sync HJa.out (zA2 (sLog pre)) (by rw [zBn,hsl];omega)
         rw [zDf,zBf,hsy] at hsyc
         have Hsy:=zh hsyc
         clear hsyc
         by_cases he2:e2=0
         ·subst he2
          cases hre:D2.rename (zAH (logN (nm pre))) (logN (nm pre)) with
          | mk D3 e3 =>
           have HZ:=zh (show zAR D (nm pre) M=(D3,e3) from (HZr.out D1 D2 HAP.out hsy).trans hre)
           have Hre:=zh (fun W (h:JouF w W j d pre D2 M (FR F (.slice px (n+2) cx) us))=>show Calls Tryz.prog 160 #[.pointer (some ⟨d,0,none⟩),.string (zA2 (sLog pre)),.string (sLog pre)] W fun e w'=>e=.returned (.int .i64 (e3:Int))∧JouF w w' j d pre D3 M (FR F (.slice px (n+2) cx) us)∧Same (FR F (.slice px (n+2) cx) us) W w'∧w'.heap[j]?=W.heap[j]? from by
            have:=jou_rename h (zA2 (sLog pre)) (sLog pre) (by rw [zBn,hsl];omega) (by rw [hsl];omega)
            rw [zDf,zBf,hre] at this
            exact this)
           clear hsy hre
           go_wp2_with fail
           refine Hsy.out.mono ?_
           rintro e wb ⟨rfl,hjb,hsb,hhb⟩
           have HSb:=zh (HSa.out.trans hsb)
           have c3b:wb.cell? ⟨j,3,none⟩=some (.pointer (some ⟨d,0,none⟩)):=(World.cell?_of_block (a:=⟨j,3,none⟩) hhb).trans c3
           have Hrc:=zh (Hre.out wb hjb)
           clear hjb hsb hhb Hsy Hre
           go_wp2_with fail
           refine Hrc.out.mono ?_
           rintro e wc ⟨rfl,hjc,hsc,-⟩
           have HJc:=zh hjc
           have HSc:=zh (HSb.out.trans hsc)
           clear hjc hsc Hrc
           have HE:=zh (show zBk w w1 j d pre M F (zAR D (nm pre) M) (.returned (.int .i64 (e3:Int))) _ from ⟨by rw [HZ.out],by rw [HZ.out];exact HJc.out.less fun _ h=>.inl h,fun x hx=>(HSc.out x (.inl hx)).trans (HsF.out x hx)⟩)
           go_wp2_with fail
           go_ret
           exact HE.out
         ·have HZ:=zh (show zAR D (nm pre) M=(D2,e2) from HZs.out D1 D2 e2 HAP.out hsy he2)
          have hne:((e2:Int) != 0)=true:=by simp;omega
          clear hsy he2
          go_wp2_with fail
          refine Hsy.out.mono ?_
          rintro e wb ⟨rfl,hjb,hsb,-⟩
          have HJb:=zh hjb
          have HSb:=zh (HSa.out.trans hsb)
          clear hjb hsb Hsy
          have HE:=zh (show zBk w w1 j d pre M F (zAR D (nm pre) M) (.returned (.int .i64 (e2:Int))) _ from ⟨by rw [HZ.out],by rw [HZ.out];exact HJb.out.less fun _ h=>.inl h,fun x hx=>(HSb.out x (.inl hx)).trans (HsF.out x hx)⟩)
          go_wp2_with fail
          go_ret
          exact HE.out
       ·have HZ:=zh (show zAR D (nm pre) M=(D1,e1) from HZa.out D1 e1 HAP.out he1)
        have hne:((e1:Int) != 0)=true:=by simp;omega
        clear he1
        have HE:=zh (show zBk w w1 j d pre M F (zAR D (nm pre) M) (.returned (.int .i64 (e1:Int))) _ from ⟨by rw [HZ.out],by rw [HZ.out];exact HJa.out.less fun _ h=>.inl h,fun x hx=>(HSa.out x (.inl hx)).trans (HsF.out x hx)⟩)
        go_wp2_with fail
        go_ret
        exact HE.out
     ·have HZ:=zh (show zAR D (nm pre) M=(D0,e0) from save1_rem hs0 he0)
      have hne:((e0:Int) != 0)=true:=by simp;omega
      clear hg hrm hs0 hr0 he0
      go_wp2_with fail
      refine Hrd.out.mono ?_
      rintro e w3 ⟨v3,rfl,-,-,hb3⟩
      have HJ3:=zh (HJG.out.next hb3)
      have HS3:=zh (show Same (FR F (.slice px (n+2) cx) us) wr w3 from HJG.out.same hb3)
      have c3b:=zAJ c3 hb3
      have Hrc:=zh (Hrm.out w3 HJ3.out)
      clear hb3 Hrd Hrm
      go_wp2_with fail
      refine Hrc.out.mono ?_
      rintro e w4 ⟨rfl,hj4,hs4,-⟩
      have HJ4:=zh hj4
      have HS4:=zh (HS3.out.trans hs4)
      clear hj4 hs4 Hrc
      have HE:=zh (show zBk w w1 j d pre M F (zAR D (nm pre) M) (.returned (.int .i64 (e0:Int))) _ from ⟨by rw [HZ.out],by rw [HZ.out];exact HJ4.out.less fun _ h=>.inl h,fun x hx=>(HS4.out x (.inl hx)).trans (HsF.out x hx)⟩)
      go_wp2_with fail
      go_ret
      exact HE.out
end
end Go.Proofs.YtapfnehdgailmaaGreat
