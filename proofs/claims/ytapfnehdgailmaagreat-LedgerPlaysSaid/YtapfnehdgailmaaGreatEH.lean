/- The document's disk: Truncate. (Its walk is printed by mkr.py.) The document's disk: its list of files is laid anew; parts of a list. The document's disk: Append. (Its walk is printed by mkr2.py.) The document's disk: Append onto a file that is not there. (Its walk is printed by mkr2.py.) -/
import Derived.Test.YtapfnehdgailmaaGreatEA
import Derived.Test.YtapfnehdgailmaaGreatEG
set_option maxRecDepth 100000
set_option maxHeartbeats 64000000
namespace Go.Sat
open Go Go.RowKit
theorem zCt {P:Program} {l:List Oper} {Q:Exit→Act→World→Prop} {md:Region.Mode} {S:World→Prop} {fuel:Nat} {listed:Array Bool} {a:Act} {w:World} (i j:Nat) {oi oj:Oper} {ri rj:List Oper} (hdi:l.drop i=oi :: ri) (hdj:l.drop j=oj :: rj) (hr:Region.ready md l.toArray listed=[i,j])
  (hwi:Region.wanted oi (yielded l.toArray a.tmps)=true) (hwj:Region.wanted oj (yielded l.toArray a.tmps)=true)
  (hi:∀ K:Act→World→Prop,Shut (∀ a w,S w→(S w→wpAnyH P md l.toArray Q S fuel (listed.setIfInBounds i true) a w)→K a w)→Oper.wp P oi a w K Q)
  (hj:∀ K:Act→World→Prop,Shut (∀ a w,S w→(S w→wpAnyH P md l.toArray Q S fuel (listed.setIfInBounds j true) a w)→K a w)→Oper.wp P oj a w K Q):wpAnyH P md l.toArray Q S (fuel+1) listed a w :=
 wpAnyH_ready hr (by simp) (AllReadyH.cons (zBX hdi) (fun K hK=>by rw [if_pos hwi];exact hi K hK) (AllReadyH.cons (zBX hdj) (fun K hK=>by rw [if_pos hwj];exact hj K hK) AllReadyH.nil))
end Go.Sat
namespace Go.Proofs.YtapfnehdgailmaaGreat
open Go.RowKit Go.Sat Go.Maps
theorem ok_cut {D:zAA} (h:D.OK) {n:Bs} {f:zAP} (hg:Sat.get n D.files=some f) (k:Nat):zAA.OK { D with files:=put n ⟨f.data.take k,min f.lasts k⟩ D.files } where
 srt:=zBd h.srt
 room:=h.room
 used:=by
  show zBB zAA.size (put n _ D.files)≤D.room
  rw [sum_put]
  have h1:D.used=zAA.size f+zBB zAA.size (del n D.files):=zCy h.srt hg
  have:=h.used
  simp only [zAA.size,List.length_take] at h1 ⊢
  omega
 count:=by
  show (put n _ D.files).length≤4096
  rw [len_put]
  have:=len_del h.srt hg
  have:=h.count
  omega
 names p hp:=by
  rcases zBH.1 hp with rfl | ⟨hp,_⟩
  ·exact (h.names (n,f) (zBM hg):okN n=true)
  ·exact h.names p hp
 lasts p hp:=by
  rcases zBH.1 hp with rfl | ⟨hp,_⟩
  ·have h1:=h.lasts (n,f) (zBM hg)
   show min f.lasts k≤(f.data.take k).length
   rw [List.length_take]
   have h1:f.lasts≤f.data.length:=h1
   omega
  ·exact h.lasts p hp
 fuse:=h.fuse
section
variable {w:World} {r:Nat} {v:Value} {L:List zAF} {own:Nat→Prop} {D:zAA} {room:Nat} {fuse:Option Nat}
theorem zAf.keep {w':World} (h:zAf w r v L own room fuse) (hs:w.heap.size≤w'.heap.size) (hb:∀ k,own k→w'.heap[k]?=w.heap[k]?):zAf w' r v L own room fuse where
 cells:=(hb r h.or).trans h.cells
 row:=h.row.keep fun k hk=>hb k (h.ov k hk).1
 data:=fun x hx=>OwnR.keep (h.data x hx) fun k hk=>hb k (h.ob x hx k hk).1
 or:=h.or
 ov:=h.ov
 ob:=h.ob
 olt:=fun k hk=>Nat.lt_of_lt_of_le (h.olt k hk) hs
theorem zAf.c1 (h:zAf w r v L own room fuse):w.cell? ⟨r,1,none⟩=some v:=zAC h.cells rfl
theorem rtrunc_calls (h:zAU w r v L own D) (s:ByteArray) (hs:s.size≤9223372036854775807) (z:Int) (hz:-9223372036854775808≤z) (hz':z≤9223372036854775807) :
  Calls Tryz.prog 90 #[.pointer (some ⟨r,0,none⟩),.string s,.int .i64 z] w (zBi w r own (D.truncate (nm s) z)):=by
 have h1:zAU (w.alloc (.cells #[.string s] 9)) r v L own D:=h.below ((Below.refl _ _).alloc (Nat.le_refl _) _)
 have hmay:=zBg h1 (some ⟨w.heap.size,0,none⟩) [s] 1 (zA4 w s) (by simp) (by simpa using hs)
 simp only [List.map_cons,List.map_nil] at hmay
 by_cases hm:D.may [nm s]=0
 ·have hsp:=zBL h1 s
  rw [h.is] at hsp
  rw [hm] at hmay
  cases hg:Sat.get (nm s) D.files with
  | none =>
   rw [hg] at hsp
   have hR:D.truncate (nm s) z=(D,7):=by unfold zAA.truncate;rw [if_neg (by rw [hm];simp),hg]
   rw [hR]
   have Hf:=zh (fun q=>zA0 h (zAe w (.cells #[.string s] 9) q) 7)
   have Hmay:=zh hmay
   have Hsp:=zh hsp
   clear h h1 hmay hsp hm hR hg
   go_enter Tryz.func90,Tryz.ntmps90
   go_wp2_with fail
   refine Hmay.out.mono ?_
   rintro e w2 ⟨rfl,rfl⟩
   go_wp2_with fail
   refine Hsp.out.mono ?_
   rintro e w3 ⟨rfl,q,rfl⟩
   go_wp2_with fail
   go_ret
   exact Hf.out q
  | some f =>
   rw [hg] at hsp
   obtain ⟨x,hx,hxn,rfl⟩:=h.hit hg
   have hlm:=h.len_le hx
   have hxm:=List.mem_of_getElem? hx
   have hN:zAl (nm s) (L.map zAF.n) < L.length:=(List.getElem?_eq_some_iff.1 hx).1
   rcases h.at with h0 | ⟨g,c0,hgv,hlc,-⟩
   ·rw [h0] at hN
    simp at hN
   have hgo:v.ownBlock=some g:=by rw [hgv];rfl
   by_cases hzz:0≤z∧z≤(x.f.data.length:Int)
   ·obtain ⟨y,rfl⟩:∃ y:Nat,z=(y:Int):=⟨z.toNat,by omega⟩
    have hyl:y≤x.f.data.length:=by omega
    have hR:D.truncate (nm s) (y:Int)=(zAA.done { D with files:=put (nm s) ⟨x.f.data.take y,min x.f.lasts y⟩ D.files },0):=by
     unfold zAA.truncate
     rw [if_neg (by rw [hm];simp),hg]
     show (if (y:Int) < 0∨(x.f.data.length:Int) < y then _ else _)=_
     rw [if_neg (by omega),Int.toNat_natCast]
    rw [hR]
    have hput:∀ v',put (nm s) ⟨x.f.data.take y,min x.f.lasts y⟩ D.files=(L.set (zAl (nm s) (L.map zAF.n)) ⟨x.n,v',⟨x.f.data.take y,min x.f.lasts y⟩⟩).map zAF.key:=fun v'=>h.put hg ⟨x.n,v',⟨x.f.data.take y,min x.f.lasts y⟩⟩ hxn
    have hok:=ok_cut h.ok hg y
    have hfz:=zDM hm
    generalize zAl (nm s) (L.map zAF.n)=i at *
    have Hcells:=zh (show ∀ W,Below w.heap.size w W→W.cell? ⟨r,1,none⟩=some (.slice (some ⟨g,0,none⟩) L.length c0)∧W.cell? ⟨g,i * 3+1,none⟩=some x.b∧W.frozen? ⟨g,i * 3+1,none⟩=false from fun W hb=>by
     have hW:=h.below hb
     refine ⟨hW.c1.trans (by rw [hgv]),(hW.core.at hgo hx).2.1,hW.core.free hgo _⟩)
    obtain ⟨pb,cb,eb,hmcb⟩:=zAv (h.data x hxm)
    -- behind both stores
    have Hfin:=zh (show ∀ W v' ,Below w.heap.size w W→OwnB W 5 v' (x.f.data.take y)→(∀ k,v'.ownBlock=some k→w.heap.size≤k∧k < W.heap.size) →
      zAf (W.setCell ⟨g,i * 3+1,none⟩ v') r v (L.set i ⟨x.n,v',⟨x.f.data.take y,x.f.lasts⟩⟩) (fun k=>own k∨v'.ownBlock=some k) D.room D.fuse from fun W v' hb hv hn =>
     (h.below hb).core.store hgo hx 1 (by omega) v' ⟨x.n,v',⟨x.f.data.take y,x.f.lasts⟩⟩ rfl (fun _ h=>.inl h) hv (fun k hk=>⟨.inr hk,fun e=>by have:=h.olt r h.or;have:=(hn k hk).1;omega,fun e=>by have:=h.olt g (h.ov g hgo).1;have:=(hn k hk).1;omega⟩)
      (fun k hk=>by
       rcases hk with hk | hk
       ·exact Nat.lt_of_lt_of_le (h.olt k hk) hb.size
       ·exact (hn k hk).2))
    have Hfin2:=zh (show ∀ W v',zAf W r v (L.set i ⟨x.n,v',⟨x.f.data.take y,x.f.lasts⟩⟩) (fun k=>own k∨v'.ownBlock=some k) D.room D.fuse→OwnB W 5 v' (x.f.data.take y) →
      zAU (W.setCell ⟨g,i * 3+2,none⟩ (.int .i64 ((min x.f.lasts y:Nat):Int))) r v (L.set i ⟨x.n,v',⟨x.f.data.take y,min x.f.lasts y⟩⟩) (fun k=>own k∨v'.ownBlock=some k) { D with files:=put (nm s) ⟨x.f.data.take y,min x.f.lasts y⟩ D.files } from fun W v' hc hv=>by
     have hi:(L.set i ⟨x.n,v',⟨x.f.data.take y,x.f.lasts⟩⟩)[i]?=some ⟨x.n,v',⟨x.f.data.take y,x.f.lasts⟩⟩:=by rw [List.getElem?_set_self (by omega)]
     have hm2:=List.mem_of_getElem? hi
     have h2:=hc.store hgo hi 2 (by omega) (.int .i64 ((min x.f.lasts y:Nat):Int)) ⟨x.n,v',⟨x.f.data.take y,min x.f.lasts y⟩⟩ rfl (fun _ h=>h) hv (fun k hk=>⟨.inr hk,(hc.ob _ hm2 k hk).2.1,fun e=>(hc.ob _ hm2 k hk).2.2 (by rw [hgo,e])⟩) hc.olt
     rw [List.set_set] at h2
     exact h2.full rfl rfl (hput v') hok)
    have Hown:=zh (show own r∧own g∧r≠g∧g < w.heap.size from ⟨h.or,(h.ov g hgo).1,(h.ov g hgo).2.symm,h.olt g (h.ov g hgo).1⟩)
    have Hd:=zh (show ∀ W,Below w.heap.size w W→HasB W (.slice pb y cb) (x.f.data.take y) from fun W hb=>HasB.cut (by rw [← eb];exact ((h.below hb).data x hxm).has) hyl cb)
    have Hlen:=zh (show (x.f.data.take y).length=y from by rw [List.length_take];omega)
    have Hfz:=zh hfz
    rw [eb] at Hcells
    obtain ⟨i0,hi,hz0,hz1,hz2⟩:=info_parts (show (Tryz.prog.info? 5).map (fun i=>(i.zero,i.size,i.bytes))=some (some (.int .u8 0),1,1) by kernel_rfl)
    have hcb:y≤cb:=Nat.le_trans hyl hmcb
    have hsl:∀ W,(Instr.slice 22 (.slice pb x.f.data.length cb) none (some (.int .i64 (y:Int))) none).run Tryz.prog W=.ok (.slice pb y cb) W:=fun W=>zBx W Tryz.underlying22 hi pb _ cb y hcb
    have hmin:min (x.f.lasts:Int) (y:Int)=((min x.f.lasts y:Nat):Int):=by omega
    generalize hml:x.f.data.length=m at *
    generalize hla:x.f.lasts=la at *
    have Hmay:=zh hmay
    have Hsp:=zh hsp
    clear h h1 hmay hsp hm hR hg hput hok hx hxm eb hgo hml hla hlc hmcb
    subst hgv
    go_enter Tryz.func90,Tryz.ntmps90
    go_wp2_with fail
    refine Hmay.out.mono ?_
    rintro e w2 ⟨rfl,rfl⟩
    go_wp2_with fail
    refine Hsp.out.mono ?_
    rintro e w3 ⟨rfl,q,rfl⟩
    have HbW:=zh (zAe w (.cells #[.string s] 9) q)
    generalize (w.alloc (.cells #[.string s] 9)).drewN q=W at *
    obtain ⟨hc1,hc2,hfz1⟩:=Hcells.out W HbW.out
    go_wp2_with fail
    have X0:=zh (show Below w.heap.size w W.drew from HbW.out.trans ⟨rfl,rfl,rfl,Nat.le_refl _,fun _ _=>rfl⟩)
    clear hc1 hc2 hfz1
    have hS:=(Hcells.out _ X0.out).1
    refine zAK (fun W':World=>W'.cell? ⟨r,1,none⟩=some (.slice (some ⟨g,0,none⟩) L.length c0)) (n:=20) (by kernel_rfl) rfl hS (fun hHeld=>?_)
    clear hS
    generalize W.drew=Wd at *
    refine pl [0,1,2,3,4,6,7,8,9,10,11,12,14] ?_
    iterate 13 (refine pc rfl ?_;simp only [Act.put,uA,uB,uC])
    refine pn ?_
    refine zCt 5 13 rfl rfl (by kernel_rfl) (by rfl) (by rfl) (fun K hK=>?_) (fun K hK=>?_)
    ·go_wp2_with fail
     have X1:=zh (X0.out.alloc X0.out.size (.cells #[] 5))
     refine hK.out _ _ ((Hcells.out _ X1.out).1) (fun hHeld=>?_)
     clear hK
     try simp only [Act.put,uA,uB,uC]
     refine zAB 13 rfl (by kernel_rfl) (by rfl) (fun K hK=>?_)
     have hc2:=(Hcells.out _ X1.out).2.1
     go_wp2_with fail
     clear hc2
     refine hK.out _ _ ((Hcells.out _ X1.out).1) (fun hHeld=>?_)
     clear hK
     try simp only [Act.put,uA,uB,uC]
     refine otk 15 (v:=?v1x15) rfl ?_
     simp only [Act.put,uA,uB,uC]
     refine zAB 16 rfl (by kernel_rfl) (by rfl) (fun K hK=>?_)
     have hown0:=zAq Wd 5
     have hxd:=Hd.out _ X1.out
     unfold HasB at hxd
     rw [Hlen.out] at hxd
     refine zAi (.tmp 45) (.tmp 55) 22 (by rfl) 5 i0 (.int .u8 0) 1 1 Tryz.underlying22 hi hz0 hz1 hz2 rfl (by decide) (.slice (some ⟨Wd.heap.size,0,none⟩) 0 0) 0 [] (by rfl) hown0 (.slice pb y cb) y _ (by rfl) hxd (zAM _) (by unfold maxLen;omega) (by omega) ?_
     clear hown0 hxd
     intro v6 w6 hown6 hgrow6 hloc6
     have X6:=zh (X1.out.grown hgrow6 X1.out.size (fun j e=>by have:=X0.out.size;simp [Value.ownBlock] at e;omega))
     have hnew6:=zAj (B:=w.heap.size) hloc6 (fun k hk=>by have:=X0.out.size;simp [Value.ownBlock] at hk;omega) X1.out.size
     rw [Nat.zero_add,List.nil_append] at hown6
     obtain ⟨p6,c6,rfl⟩:=OwnR.shape hown6
     have Hv6:=zh (show OwnB w6 5 (.slice p6 y c6) (x.f.data.take y) from by unfold OwnB;rw [Hlen.out];exact hown6)
     have Hnew6:=zh hnew6
     clear hgrow6 hloc6 hown6 hnew6
     refine hK.out _ _ ((Hcells.out _ X6.out).1) (fun hHeld=>?_)
     clear hK
     try simp only [Act.put,uA,uB,uC]
     refine pl [17,18] ?_
     iterate 2 (refine pc rfl ?_;simp only [Act.put,uA,uB,uC])
     refine pn ?_
     refine zAB 19 rfl (by kernel_rfl) (by rfl) (fun K hK=>?_)
     obtain ⟨hc1,hc2,hfz1⟩:=Hcells.out _ X6.out
     go_wp2_with fail
     have hcs:(w6.setCell ⟨g,i * 3+1,none⟩ (.slice p6 y c6)).cell? ⟨r,1,none⟩=some (.slice (some ⟨g,0,none⟩) L.length c0):=(World.cell?_of_block (zAE _ Hown.out.2.2.1)).trans hc1
     clear hc1 hc2 hfz1
     refine hK.out _ _ (hcs) (fun hHeld=>?_)
     clear hK
     try simp only [Act.put,uA,uB,uC]
     refine wpAnyH_done (by kernel_rfl) ?_ _
     clear hHeld
     have hcore:=Hfin.out w6 (.slice p6 y c6) X6.out Hv6.out (fun k hk=>⟨Hnew6.out k hk,OwnR.lt Hv6.out hk⟩)
     have hv7:OwnB (w6.setCell ⟨g,i * 3+1,none⟩ (.slice p6 y c6)) 5 (.slice p6 y c6) (x.f.data.take y):=OwnR.keep Hv6.out fun k hk=>zAE _ (fun e=>by have h1:k=g:=e;have:=Hnew6.out k hk;have:=Hown.out.2.2.2;omega)
     have hch:=zBk X6.out (zCW (own:=own) (w:=w6) (a:=⟨g,i * 3+1,none⟩) (u:=.slice p6 y c6) Hown.out.2.1)
     have hge:w.heap.size≤(w6.setCell ⟨g,i * 3+1,none⟩ (.slice p6 y c6)).heap.size:=by have:=X6.out.size;simpa [World.setCell] using this
     have H7:=zh (And.intro hcore (And.intro hv7 (And.intro hch hge)))
     clear hcore hv7 hch hge
     generalize w6.setCell ⟨g,i * 3+1,none⟩ (.slice p6 y c6)=Ws at *
     have hi1:(L.set i ⟨x.n,.slice p6 y c6,⟨x.f.data.take y,la⟩⟩)[i]?=some ⟨x.n,.slice p6 y c6,⟨x.f.data.take y,la⟩⟩:=by rw [List.getElem?_set_self (by omega)]
     have Hi1:=zh hi1
     clear hi1
     obtain ⟨-,-,hc3⟩:=H7.out.1.at rfl Hi1.out
     have hc1:=H7.out.1.c1
     go_wp2_with fail
     go_still_tail 15,(by kernel_rfl)
     clear hc1 hc3
     change wpList _ _ _ _ _ Ws.drew
     have hkd:zAf Ws.drew r _ _ _ _ _:=H7.out.1.keep (Nat.le_refl _) (fun _ _=>rfl)
     have hvd:OwnB Ws.drew 5 (.slice p6 y c6) (x.f.data.take y):=OwnR.keep H7.out.2.1 (fun _ _=>rfl)
     have hfin:=Hfin2.out _ _ hkd hvd
     obtain ⟨-,-,hc3⟩:=hkd.at rfl Hi1.out
     have hfz2:=hkd.free rfl (i * 3+2)
     have hchd:Chg own w Ws.drew:=H7.out.2.2.1.trans (Chg.drew Ws) (fun _ _ h=>h.elim)
     have hch2:Chg own w (Ws.drew.setCell ⟨g,i * 3+2,none⟩ (.int .i64 ((min la y:Nat):Int))):=hchd.trans (zCW (own:=own) (w:=Ws.drew) (a:=⟨g,i * 3+2,none⟩) Hown.out.2.1) (fun _ _ h=>h)
     have Hdid:=zh (zBs hfin Hfz.out)
     have Hch:=zh (And.intro hch2 (show w.heap.size≤(Ws.drew.setCell ⟨g,i * 3+2,none⟩ (.int .i64 ((min la y:Nat):Int))).heap.size from hch2.size))
     clear hkd hvd hfin hchd hch2 H7
     generalize Ws.drew=Wt at *
     go_wp2_with fail
     refine Hdid.out.mono ?_
     intro e w8 h8
     have hE:=zCK Hch.out.1 (fun k hk=>hk.imp id (fun e=>Hnew6.out k e)) Hch.out.2 h8
     obtain ⟨rfl,-⟩:=h8
     have HE:=zh hE
     clear hE
     go_wp2_with fail
     go_ret
     exact HE.out
    ·have hc2:=(Hcells.out _ X0.out).2.1
     go_wp2_with fail
     clear hc2
     refine hK.out _ _ ((Hcells.out _ X0.out).1) (fun hHeld=>?_)
     clear hK
     try simp only [Act.put,uA,uB,uC]
     refine otk 15 (v:=?v2x15) rfl ?_
     simp only [Act.put,uA,uB,uC]
     refine zAB 5 rfl (by kernel_rfl) (by rfl) (fun K hK=>?_)
     go_wp2_with fail
     have X1:=zh (X0.out.alloc X0.out.size (.cells #[] 5))
     refine hK.out _ _ ((Hcells.out _ X1.out).1) (fun hHeld=>?_)
     clear hK
     try simp only [Act.put,uA,uB,uC]
     refine zAB 16 rfl (by kernel_rfl) (by rfl) (fun K hK=>?_)
     have hown0:=zAq Wd 5
     have hxd:=Hd.out _ X1.out
     unfold HasB at hxd
     rw [Hlen.out] at hxd
     refine zAi (.tmp 45) (.tmp 55) 22 (by rfl) 5 i0 (.int .u8 0) 1 1 Tryz.underlying22 hi hz0 hz1 hz2 rfl (by decide) (.slice (some ⟨Wd.heap.size,0,none⟩) 0 0) 0 [] (by rfl) hown0 (.slice pb y cb) y _ (by rfl) hxd (zAM _) (by unfold maxLen;omega) (by omega) ?_
     clear hown0 hxd
     intro v6 w6 hown6 hgrow6 hloc6
     have X6:=zh (X1.out.grown hgrow6 X1.out.size (fun j e=>by have:=X0.out.size;simp [Value.ownBlock] at e;omega))
     have hnew6:=zAj (B:=w.heap.size) hloc6 (fun k hk=>by have:=X0.out.size;simp [Value.ownBlock] at hk;omega) X1.out.size
     rw [Nat.zero_add,List.nil_append] at hown6
     obtain ⟨p6,c6,rfl⟩:=OwnR.shape hown6
     have Hv6:=zh (show OwnB w6 5 (.slice p6 y c6) (x.f.data.take y) from by unfold OwnB;rw [Hlen.out];exact hown6)
     have Hnew6:=zh hnew6
     clear hgrow6 hloc6 hown6 hnew6
     refine hK.out _ _ ((Hcells.out _ X6.out).1) (fun hHeld=>?_)
     clear hK
     try simp only [Act.put,uA,uB,uC]
     refine pl [17,18] ?_
     iterate 2 (refine pc rfl ?_;simp only [Act.put,uA,uB,uC])
     refine pn ?_
     refine zAB 19 rfl (by kernel_rfl) (by rfl) (fun K hK=>?_)
     obtain ⟨hc1,hc2,hfz1⟩:=Hcells.out _ X6.out
     go_wp2_with fail
     have hcs:(w6.setCell ⟨g,i * 3+1,none⟩ (.slice p6 y c6)).cell? ⟨r,1,none⟩=some (.slice (some ⟨g,0,none⟩) L.length c0):=(World.cell?_of_block (zAE _ Hown.out.2.2.1)).trans hc1
     clear hc1 hc2 hfz1
     refine hK.out _ _ (hcs) (fun hHeld=>?_)
     clear hK
     try simp only [Act.put,uA,uB,uC]
     refine wpAnyH_done (by kernel_rfl) ?_ _
     clear hHeld
     have hcore:=Hfin.out w6 (.slice p6 y c6) X6.out Hv6.out (fun k hk=>⟨Hnew6.out k hk,OwnR.lt Hv6.out hk⟩)
     have hv7:OwnB (w6.setCell ⟨g,i * 3+1,none⟩ (.slice p6 y c6)) 5 (.slice p6 y c6) (x.f.data.take y):=OwnR.keep Hv6.out fun k hk=>zAE _ (fun e=>by have h1:k=g:=e;have:=Hnew6.out k hk;have:=Hown.out.2.2.2;omega)
     have hch:=zBk X6.out (zCW (own:=own) (w:=w6) (a:=⟨g,i * 3+1,none⟩) (u:=.slice p6 y c6) Hown.out.2.1)
     have hge:w.heap.size≤(w6.setCell ⟨g,i * 3+1,none⟩ (.slice p6 y c6)).heap.size:=by have:=X6.out.size;simpa [World.setCell] using this
     have H7:=zh (And.intro hcore (And.intro hv7 (And.intro hch hge)))
     clear hcore hv7 hch hge
     generalize w6.setCell ⟨g,i * 3+1,none⟩ (.slice p6 y c6)=Ws at *
     have hi1:(L.set i ⟨x.n,.slice p6 y c6,⟨x.f.data.take y,la⟩⟩)[i]?=some ⟨x.n,.slice p6 y c6,⟨x.f.data.take y,la⟩⟩:=by rw [List.getElem?_set_self (by omega)]
     have Hi1:=zh hi1
     clear hi1
     obtain ⟨-,-,hc3⟩:=H7.out.1.at rfl Hi1.out
     have hc1:=H7.out.1.c1
     go_wp2_with fail
     go_still_tail 15,(by kernel_rfl)
     clear hc1 hc3
     change wpList _ _ _ _ _ Ws.drew
     have hkd:zAf Ws.drew r _ _ _ _ _:=H7.out.1.keep (Nat.le_refl _) (fun _ _=>rfl)
     have hvd:OwnB Ws.drew 5 (.slice p6 y c6) (x.f.data.take y):=OwnR.keep H7.out.2.1 (fun _ _=>rfl)
     have hfin:=Hfin2.out _ _ hkd hvd
     obtain ⟨-,-,hc3⟩:=hkd.at rfl Hi1.out
     have hfz2:=hkd.free rfl (i * 3+2)
     have hchd:Chg own w Ws.drew:=H7.out.2.2.1.trans (Chg.drew Ws) (fun _ _ h=>h.elim)
     have hch2:Chg own w (Ws.drew.setCell ⟨g,i * 3+2,none⟩ (.int .i64 ((min la y:Nat):Int))):=hchd.trans (zCW (own:=own) (w:=Ws.drew) (a:=⟨g,i * 3+2,none⟩) Hown.out.2.1) (fun _ _ h=>h)
     have Hdid:=zh (zBs hfin Hfz.out)
     have Hch:=zh (And.intro hch2 (show w.heap.size≤(Ws.drew.setCell ⟨g,i * 3+2,none⟩ (.int .i64 ((min la y:Nat):Int))).heap.size from hch2.size))
     clear hkd hvd hfin hchd hch2 H7
     generalize Ws.drew=Wt at *
     go_wp2_with fail
     refine Hdid.out.mono ?_
     intro e w8 h8
     have hE:=zCK Hch.out.1 (fun k hk=>hk.imp id (fun e=>Hnew6.out k e)) Hch.out.2 h8
     obtain ⟨rfl,-⟩:=h8
     have HE:=zh hE
     clear hE
     go_wp2_with fail
     go_ret
     exact HE.out
   ·have hR:D.truncate (nm s) z=(D,1):=by
     unfold zAA.truncate
     rw [if_neg (by rw [hm];simp),hg]
     show (if z < 0∨(x.f.data.length:Int) < z then _ else _)=_
     rw [if_pos (by omega)]
    rw [hR]
    generalize zAl (nm s) (L.map zAF.n)=i at *
    have Hf:=zh (fun q=>zA0 h (zAe w (.cells #[.string s] 9) q) 1)
    have Hcells:=zh (show ∀ W,Below w.heap.size w W→W.cell? ⟨r,1,none⟩=some (.slice (some ⟨g,0,none⟩) L.length c0)∧W.cell? ⟨g,i * 3+1,none⟩=some x.b from fun W hb=>by
     have hW:=h.below hb
     exact ⟨hW.c1.trans (by rw [hgv]),(hW.core.at hgo hx).2.1⟩)
    obtain ⟨pb,cb,eb⟩:=HasB.slice (h.data x hxm).has
    rw [eb] at Hcells
    generalize x.f.data.length=m at *
    have Hmay:=zh hmay
    have Hsp:=zh hsp
    clear h h1 hmay hsp hm hR hg hx hxm eb hgo hlc
    subst hgv
    by_cases hz0:z < 0
    ·go_enter Tryz.func90,Tryz.ntmps90
     go_wp2_with fail
     refine Hmay.out.mono ?_
     rintro e w2 ⟨rfl,rfl⟩
     go_wp2_with fail
     refine Hsp.out.mono ?_
     rintro e w3 ⟨rfl,q,rfl⟩
     go_wp2_with fail
     go_ret
     exact Hf.out q
    ·obtain ⟨y,rfl⟩:∃ y:Nat,z=(y:Int):=⟨z.toNat,by omega⟩
     have hmy:m < y:=by omega
     go_enter Tryz.func90,Tryz.ntmps90
     go_wp2_with fail
     refine Hmay.out.mono ?_
     rintro e w2 ⟨rfl,rfl⟩
     go_wp2_with fail
     refine Hsp.out.mono ?_
     rintro e w3 ⟨rfl,q,rfl⟩
     obtain ⟨hc1,hc2⟩:=Hcells.out _ (zAe w (.cells #[.string s] 9) q)
     go_wp2_with fail
     go_ret
     exact Hf.out q
 ·have hR:D.truncate (nm s) z=(D,D.may [nm s]):=by unfold zAA.truncate;rw [if_pos hm]
  rw [hR]
  have Hf:=zh (zA0 h ((Below.refl _ _).alloc (Nat.le_refl _) (.cells #[.string s] 9)) (D.may [nm s]))
  have Hmay:=zh hmay
  generalize D.may [nm s]=m at *
  have hne:((m:Int) != 0)=true:=by simp;omega
  clear h h1 hmay hR
  go_enter Tryz.func90,Tryz.ntmps90
  go_wp2_with fail
  refine Hmay.out.mono ?_
  rintro e w2 ⟨rfl,rfl⟩
  go_wp2_with fail
  go_ret
  exact Hf.out
end
end Go.Proofs.YtapfnehdgailmaaGreat
namespace Go.Sat
open Go Go.RowKit
theorem zC8 {P:Program} (w:World) {t e:TypeId} {i:TypeInfo} (ht:P.underlying t=some (.slice e)) (hi:P.info? e=some i) (p:Option Addr) (len cap k:Nat) (h:k≤len) (h2:len≤cap) :
  (Instr.slice t (.slice p len cap) (some (.int .i64 (k:Int))) none none).run P w=.ok (.slice (if cap - k=0 then p else p.map fun x=>x.add (k * i.size)) (len - k) (cap - k)) w:=by
 have h1:(Instr.sliceBound (.int .i64 (k:Int)) len .sliceB).run P w=.ok k w:=by
  rw [run_sliceBound _ _ _ _ _ (by omega) (by omega)]
  simp
 simp [Instr.slice,run_underlying ht,Instr.sliceBounds,h1,sizeOf,typeInfo,hi,Result.andThen]
 by_cases hc:cap=k
 ·rw [if_pos hc,if_pos (by omega)]
 ·rw [if_neg hc,if_neg (by omega)]
theorem zAY.upto {w:World} {size:Nat} {p:Option Addr} {n c:Nat} {xs:List Value} (h:zAY w size (.slice p n c) n xs) {k:Nat} (hk:k≤n) (c':Nat):zAY w size (.slice p k c') k (xs.take (k * size)):=by
 obtain ⟨hl,p',cap,e,h0,hc⟩:=h
 cases e
 refine ⟨by rw [List.length_take,hl];exact Nat.min_eq_left (Nat.mul_le_mul_right _ hk),p,c',rfl,fun e=>?_,fun a ha i u hu=>hc a ha i u ?_⟩
 ·have:=h0 e
  omega
 ·rw [List.getElem?_take] at hu
  split at hu
  ·exact hu
  ·cases hu
theorem OwnR.cut_from {w:World} {e:TypeId} {size:Nat} {p:Option Addr} {n c:Nat} {xs:List Value} (h:OwnR w e size (.slice p n c) n xs) {k:Nat} (hk:k≤n):zAY w size (.slice (if c - k=0 then p else p.map fun x=>x.add (k * size)) (n - k) (c - k)) (n - k) (xs.drop (k * size)):=by
 have hl:(xs.drop (k * size)).length=(n - k) * size:=by rw [List.length_drop,h.1,Nat.sub_mul]
 rcases h.2 with ⟨e,hn⟩ | ⟨g,cap,cur,e,hg,hnc,_⟩
 ·cases e
  have hk0:k=0:=by omega
  subst hk0
  exact ⟨hl,none,0,by simp,fun _=>rfl,fun a ha=>by cases ha⟩
 ·cases e
  by_cases h0:c - k=0
  ·rw [if_pos h0]
   have hnk:n - k=0:=by omega
   rw [hnk] at hl ⊢
   have hx:xs.drop (k * size)=[]:=List.eq_nil_of_length_eq_zero (by rw [hl];simp)
   rw [hx]
   exact ⟨by simp,_,_,rfl,fun e=>(by cases e),fun a ha i u hu=>by simp at hu⟩
  ·rw [if_neg h0]
   refine ⟨hl,_,_,rfl,fun e=>(by cases e),fun a ha i u hu=>?_⟩
   cases ha
   have e1:(⟨g,0,none⟩:Addr).add (k * size)=⟨g,k * size,none⟩:=add_zero _ _
   have e2:(⟨g,k * size,none⟩:Addr).add i=⟨g,k * size+i,none⟩:=by unfold Addr.add;split <;> simp_all
   show w.cell? (((⟨g,0,none⟩:Addr).add (k * size)).add i)=some u
   rw [e1,e2]
   rw [List.getElem?_drop] at hu
   have:=h.cells (g:=g) rfl (k * size+i) u hu
   rwa [add_zero] at this
end Go.Sat
namespace Go.Proofs.YtapfnehdgailmaaGreat
open Go.RowKit Go.Sat Go.Maps
theorem cells_take (L:List zAF) (i:Nat):(L.take i).flatMap zAF.cells=(L.flatMap zAF.cells).take (i * 3):=by
 induction L generalizing i with
 | nil=>simp
 | cons y r ih =>
  cases i with
  | zero=>simp
  | succ i =>
   have hy:y.cells.length=3:=rfl
   rw [List.take_succ_cons,List.flatMap_cons,List.flatMap_cons,ih i,List.take_append,List.take_of_length_le (l:=y.cells) (by omega)]
   congr 2
   omega
theorem cells_drop (L:List zAF) (i:Nat):(L.drop i).flatMap zAF.cells=(L.flatMap zAF.cells).drop (i * 3):=by
 induction L generalizing i with
 | nil=>simp
 | cons y r ih =>
  cases i with
  | zero=>simp
  | succ i =>
   have hy:y.cells.length=3:=rfl
   rw [List.drop_succ_cons,List.flatMap_cons,ih i,List.drop_append,List.drop_of_length_le (l:=y.cells) (by omega),List.nil_append]
   congr 1
   omega
section
variable {w:World} {r:Nat} {v:Value} {L:List zAF} {own:Nat→Prop} {D:zAA} {room:Nat} {fuse:Option Nat}
theorem cells_one {L:List zAF} (h:∀ x ∈ L,x.b.oneCell'=true):∀ u ∈ L.flatMap zAF.cells,u.oneCell'=true:=by
 intro u hu
 obtain ⟨x,hx,hux⟩:=List.mem_flatMap.1 hu
 simp only [zAF.cells,List.mem_cons,List.not_mem_nil,or_false] at hux
 rcases hux with rfl | rfl | rfl
 ·rfl
 ·exact h x hx
 ·rfl
theorem zAf.one (h:zAf w r v L own room fuse):∀ x ∈ L,x.b.oneCell'=true:=fun x hx=>by
 obtain ⟨p,c,e,_⟩:=zAv (h.data x hx)
 rw [e]
 rfl
theorem zAf.relist (h:zAf w r v L own room fuse) {v':Value} {L':List zAF} (hrow:OwnR w 127 3 v' L'.length (L'.flatMap zAF.cells)) (hL:∀ x ∈ L',x ∈ L∨(OwnB w 5 x.b x.f.data∧∀ k,x.b.ownBlock=some k→own k∧k≠r)) (hn:∀ k,v'.ownBlock=some k→¬ own k) :
  zAf (w.setCell ⟨r,1,none⟩ v') r v' L' (fun k=>own k∨v'.ownBlock=some k) room fuse where
 cells:=zAO h.cells 1 v'
 row:=hrow.keep fun k hk=>zAE _ (fun e=>hn k hk (by have e:k=r:=e;rw [e];exact h.or))
 data:=fun x hx=>by
  rcases hL x hx with hx | ⟨e,e2⟩
  ·exact OwnR.keep (h.data x hx) fun k hk=>zAE _ (h.ob x hx k hk).2.1
  ·exact OwnR.keep e fun k hk=>zAE _ (e2 k hk).2
 or:=.inl h.or
 ov:=fun k hk=>⟨.inr hk,fun e=>hn k hk (by rw [e];exact h.or)⟩
 ob:=fun x hx k hk=>by
  rcases hL x hx with hx | ⟨_,e⟩
  ·exact ⟨.inl (h.ob x hx k hk).1,(h.ob x hx k hk).2.1,fun e=>hn k e (h.ob x hx k hk).1⟩
  ·exact ⟨.inl (e k hk).1,(e k hk).2,fun e2=>hn k e2 (e k hk).1⟩
 olt:=fun k hk=>by
  have:k < w.heap.size:=by
   rcases hk with hk | hk
   ·exact h.olt k hk
   ·exact hrow.lt hk
  simpa [World.setCell] using this
end
section
variable {w:World} {r:Nat} {v:Value} {L:List zAF} {own:Nat→Prop} {D:zAA}
theorem zAU.fit (h:zAU w r v L own D):L.length≤4096:=by rw [h.len];exact h.ok.count
theorem rappend_full (h:zAU w r v L own D) (s:ByteArray) (hs:s.size≤9223372036854775807) {pb:Option Addr} {m cb:Nat} (hm2:m≤140737488355328) (hm:D.may [nm s]=0)
  (hf:D.room < D.used+m∨(Sat.get (nm s) D.files=none∧4096≤D.files.length)) :
  Calls Tryz.prog 16 #[.pointer (some ⟨r,0,none⟩),.string s,.slice pb m cb] w (zBi w r own (D,6)):=by
 have h1:zAU (w.alloc (.cells #[.string s] 9)) r v L own D:=h.below ((Below.refl _ _).alloc (Nat.le_refl _) _)
 have hmay:=zBg h1 (some ⟨w.heap.size,0,none⟩) [s] 1 (zA4 w s) (by simp) (by simpa using hs)
 simp only [List.map_cons,List.map_nil] at hmay
 have hsp:=zBL h1 s
 rw [h.is] at hsp
 rw [hm] at hmay
 have Hf:=zh (fun W hb=>zA0 h (w':=W) hb 6)
 have HU:=zh (fun W hb=>zDd (h.below (w':=W) hb))
 obtain ⟨pv,cv,rfl⟩:=h.slice
 have Hcells:=zh (show ∀ W,Below w.heap.size w W→W.cell? ⟨r,0,none⟩=some (.int .i64 (D.room:Int))∧W.cell? ⟨r,1,none⟩=some (.slice pv L.length cv) from fun W hb=>⟨(h.below hb).c0,(h.below hb).c1⟩)
 have hub:D.used≤1073741824:=Nat.le_trans h.ok.used h.ok.room
 have hrb:=h.ok.room
 have hfit:=h.fit
 rw [← h.len] at hf
 generalize zAl (nm s) (L.map zAF.n)=i at *
 clear h h1
 generalize D.used=U at *
 generalize D.room=R at *
 generalize L.length=N at *
 by_cases hA:R < U+m
 ·have hd1:decide ((R:Int) < (U:Int)+(m:Int))=true:=by simp;omega
  have hd2:decide (R < U+m)=true:=by simpa using hA
  clear hf hm
  have Hmay:=zh hmay
  have Hsp:=zh hsp
  clear hmay hsp
  go_enter Tryz.func16,Tryz.ntmps16
  go_wp2_with fail
  refine Hmay.out.mono ?_
  rintro e w2 ⟨rfl,rfl⟩
  go_wp2_with fail
  refine Hsp.out.mono ?_
  rintro e w3 ⟨rfl,q,rfl⟩
  have HbW:=zh (zAe w (.cells #[.string s] 9) q)
  have Hused:=zh (fun n=>HU.out _ (HbW.out.trans (show Below _ _ (((w.alloc (.cells #[.string s] 9)).drewN q).drewN n) from ⟨rfl,rfl,rfl,Nat.le_refl _,fun _ _=>rfl⟩)))
  obtain ⟨hc0,hc1⟩:=Hcells.out _ HbW.out
  generalize (w.alloc (.cells #[.string s] 9)).drewN q=W at *
  go_wp2_with fail
  go_quiet ((go_at_call 71;refine Calls.quiet_of_same (Hused.out _)))
  clear hc0 hc1
  go_wp2_with fail
  go_ret
  exact Hf.out _ (HbW.out.trans ⟨rfl,rfl,rfl,Nat.le_refl _,fun _ _=>rfl⟩)
 ·obtain ⟨hg,h4⟩:Sat.get (nm s) D.files=none∧4096≤N:=by
   rcases hf with hf | hf
   ·exact absurd hf hA
   ·exact hf
  rw [hg] at hsp
  have hN:N=4096:=by omega
  subst hN
  have hd1:decide ((R:Int) < (U:Int)+(m:Int))=false:=by simp;omega
  have hd2:decide (R < U+m)=false:=by simpa using hA
  clear hf hm hg
  have Hmay:=zh hmay
  have Hsp:=zh hsp
  clear hmay hsp
  go_enter Tryz.func16,Tryz.ntmps16
  go_wp2_with fail
  refine Hmay.out.mono ?_
  rintro e w2 ⟨rfl,rfl⟩
  go_wp2_with fail
  refine Hsp.out.mono ?_
  rintro e w3 ⟨rfl,q,rfl⟩
  have HbW:=zh (zAe w (.cells #[.string s] 9) q)
  have Hused:=zh (fun n=>HU.out _ (HbW.out.trans (show Below _ _ (((w.alloc (.cells #[.string s] 9)).drewN q).drewN n) from ⟨rfl,rfl,rfl,Nat.le_refl _,fun _ _=>rfl⟩)))
  obtain ⟨hc0,hc1⟩:=Hcells.out _ HbW.out
  generalize (w.alloc (.cells #[.string s] 9)).drewN q=W at *
  go_wp2_with fail
  go_quiet ((go_at_call 71;refine Calls.quiet_of_same (Hused.out _)))
  clear hc0 hc1
  go_wp2_with fail
  go_ret
  exact Hf.out _ (HbW.out.trans ⟨rfl,rfl,rfl,Nat.le_refl _,fun _ _=>rfl⟩)
theorem rapp_end {W w7:World} {own1:Nat→Prop} {g i:Nat} {x:zAF} {v7:Value} {d7:Bs} {F:List (Bs × zAP)} (hc:zAf W r v L own1 D.room D.fuse) (hg:v.ownBlock=some g) (hx:L[i]?=some x) (hb:Below W.heap.size W w7) (h7:OwnB w7 5 v7 d7) (hn7:∀ k,v7.ownBlock=some k→W.heap.size≤k)
  (hF:F=(L.set i ⟨x.n,v7,⟨d7,x.f.lasts⟩⟩).map zAF.key) (hok:zAA.OK { D with files:=F }) (hch:Chg own w W) (hx1:∀ k,own1 k→own k∨w.heap.size≤k) (hfz:D.fuse≠some 0) :
  Calls Tryz.prog 72 #[.pointer (some ⟨r,0,none⟩)] (w7.setCell ⟨g,i * 3+1,none⟩ v7) (zBi w r own (zAA.done { D with files:=F },0)):=by
 have hk:zAf w7 r v L own1 D.room D.fuse:=hc.keep hb.size fun k hk=>hb.block k (hc.olt k hk)
 have hgo:=(hc.ov g hg).1
 have hs:=hk.store hg hx 1 (by omega) v7 ⟨x.n,v7,⟨d7,x.f.lasts⟩⟩ rfl (own':=fun k=>own1 k∨v7.ownBlock=some k) (fun _ h=>.inl h) h7
  (fun k hk=>⟨.inr hk,fun e=>by have:=hc.olt r hc.or;have:=hn7 k hk;omega,fun e=>by have:=hc.olt g hgo;have:=hn7 k hk;omega⟩)
  (fun k h=>by
   rcases h with h | h
   ·exact hk.olt k h
   ·exact OwnR.lt h7 h)
 have hin:zAU (w7.setCell ⟨g,i * 3+1,none⟩ v7) r v (L.set i ⟨x.n,v7,⟨d7,x.f.lasts⟩⟩) (fun k=>own1 k∨v7.ownBlock=some k) { D with files:=F }:=hs.full rfl rfl hF hok
 have hsz:=hch.size
 have hch2:Chg own w (w7.setCell ⟨g,i * 3+1,none⟩ v7):=by
  refine (hch.trans ((Chg.of_below hb).mono (T:=fun _=>False) fun _ _ h=>h) fun _ _ h=>h.elim).trans (Chg.setCell w7 ⟨g,i * 3+1,none⟩ v7) fun k hk e=>?_
  have e:k=g:=e
  rcases hx1 g hgo with h | h
  ·rw [e];exact h
  ·omega
 refine (zBs hin hfz).mono ?_
 intro e w8 h8
 refine zCK hch2 (fun k hk=>?_) hch2.size h8
 rcases hk with hk | hk
 ·exact hx1 k hk
 ·exact .inr (Nat.le_trans hsz (hn7 k hk))
theorem rappend_is (h:zAU w r v L own D) (s:ByteArray) (hs:s.size≤9223372036854775807) {pb:Option Addr} {m cb:Nat} {l:Bs} (hl:HasB w (.slice pb m cb) l) (hm:D.may [nm s]=0) {f:zAP} (hg:Sat.get (nm s) D.files=some f) (hroom:D.used+m≤D.room)
  (hok:zAA.OK { D with files:=put (nm s) ⟨f.data ++ l,f.lasts⟩ D.files }) :
  Calls Tryz.prog 16 #[.pointer (some ⟨r,0,none⟩),.string s,.slice pb m cb] w (zBi w r own (zAA.done { D with files:=put (nm s) ⟨f.data ++ l,f.lasts⟩ D.files },0)):=by
 have hml:m=l.length:=(zBj hl).1
 have h1:zAU (w.alloc (.cells #[.string s] 9)) r v L own D:=h.below ((Below.refl _ _).alloc (Nat.le_refl _) _)
 have hmay:=zBg h1 (some ⟨w.heap.size,0,none⟩) [s] 1 (zA4 w s) (by simp) (by simpa using hs)
 simp only [List.map_cons,List.map_nil] at hmay
 have hsp:=zBL h1 s
 rw [h.is,hg] at hsp
 rw [hm] at hmay
 have HU:=zh (fun W hb=>zDd (h.below (w':=W) hb))
 obtain ⟨x,hx,hxn,rfl⟩:=h.hit hg
 have hlm:=h.len_le hx
 have hxm:=List.mem_of_getElem? hx
 have hN:zAl (nm s) (L.map zAF.n) < L.length:=(List.getElem?_eq_some_iff.1 hx).1
 rcases h.at with h0 | ⟨g,c0,hgv,hlc,-⟩
 ·rw [h0] at hN
  simp at hN
 have hgo:v.ownBlock=some g:=by rw [hgv];rfl
 have hub:D.used≤1073741824:=Nat.le_trans h.ok.used h.ok.room
 have hrb:=h.ok.room
 have hput:=fun v'=>h.put hg ⟨x.n,v',⟨x.f.data ++ l,x.f.lasts⟩⟩ hxn
 have hfz:=zDM hm
 obtain ⟨px,cx,ex,hxc⟩:=zAv (h.data x hxm)
 generalize zAl (nm s) (L.map zAF.n)=i at *
 have Hcells:=zh (show ∀ W,Below w.heap.size w W→W.cell? ⟨r,0,none⟩=some (.int .i64 (D.room:Int))∧W.cell? ⟨r,1,none⟩=some (.slice (some ⟨g,0,none⟩) L.length c0) from fun W hb=>⟨(h.below hb).c0,(h.below hb).c1.trans (by rw [hgv])⟩)
 have Hcells2:=zh (show ∀ W,Below w.heap.size w W→W.cell? ⟨r,1,none⟩=some (.slice (some ⟨g,0,none⟩) L.length c0)∧W.cell? ⟨g,i * 3+1,none⟩=some (.slice px x.f.data.length cx)∧W.frozen? ⟨g,i * 3+1,none⟩=false from fun W hb=>by
  have hW:=h.below hb
  exact ⟨hW.c1.trans (by rw [hgv]),(hW.core.at hgo hx).2.1.trans (by rw [ex]),hW.core.free hgo _⟩)
 have Hxd:=zh (show ∀ W,Below w.heap.size w W→zAY W 1 (.slice px x.f.data.length cx) x.f.data.length (zAN x.f.data) from fun W hb=>by
  have hW:=((h.below hb).data x hxm).has
  rw [ex] at hW
  exact hW)
 have Hld:=zh (show ∀ W,Below w.heap.size w W→zAY W 1 (.slice pb m cb) m (zAN l) from fun W hb=>by
  have hW:=hl.below hb
  unfold HasB at hW
  rw [← hml] at hW
  exact hW)
 have Hend:=zh (show ∀ w7 v7,Below w.heap.size w w7→OwnB w7 5 v7 (x.f.data ++ l)→(∀ k,v7.ownBlock=some k→w.heap.size≤k)→Calls Tryz.prog 72 #[.pointer (some ⟨r,0,none⟩)] (w7.setCell ⟨g,i * 3+1,none⟩ v7) (zBi w r own (zAA.done { D with files:=put (nm s) ⟨x.f.data ++ l,x.f.lasts⟩ D.files },0)) from
  fun w7 v7 hb h7 hn7=>rapp_end h.core hgo hx hb h7 hn7 (hput v7) hok (Chg.refl _ _) (fun _ h=>.inl h) hfz)
 have Hgr:=zh (show r≠g from (h.ov g hgo).2.symm)
 have Hlen:=zh (show (x.f.data ++ l).length=x.f.data.length+m from by rw [List.length_append,hml])
 obtain ⟨i0,hi,hz0,hz1,hz2⟩:=info_parts (show (Tryz.prog.info? 5).map (fun i=>(i.zero,i.size,i.bytes))=some (some (.int .u8 0),1,1) by kernel_rfl)
 clear h h1 hm hg hok hx hxm hput hgo ex hml hxc hl hlc hfz
 subst hgv
 generalize hxl:x.f.data.length=mx at *
 have hd1:decide ((D.room:Int) < (D.used:Int)+(m:Int))=false:=by simp;omega
 have hd2:decide (D.room < D.used+m)=false:=by simp;omega
 generalize D.used=U at *
 generalize hRoom:D.room=R at *
 have Hmay:=zh hmay
 have Hsp:=zh hsp
 clear hmay hsp
 go_enter Tryz.func16,Tryz.ntmps16
 go_wp2_with fail
 refine Hmay.out.mono ?_
 rintro e w2 ⟨rfl,rfl⟩
 go_wp2_with fail
 refine Hsp.out.mono ?_
 rintro e w3 ⟨rfl,q,rfl⟩
 have HbW:=zh (zAe w (.cells #[.string s] 9) q)
 have Hused:=zh (fun n=>HU.out _ (HbW.out.trans (show Below _ _ (((w.alloc (.cells #[.string s] 9)).drewN q).drewN n) from ⟨rfl,rfl,rfl,Nat.le_refl _,fun _ _=>rfl⟩)))
 obtain ⟨hc0,hc1⟩:=Hcells.out _ HbW.out
 generalize (w.alloc (.cells #[.string s] 9)).drewN q=W at *
 go_wp2_with fail
 go_quiet ((go_at_call 71;refine Calls.quiet_of_same (Hused.out _)))
 clear hc0 hc1
 go_wp2_with fail
 have X0:=zh (show Below w.heap.size w (W.drewN nq).drew from HbW.out.trans ⟨rfl,rfl,rfl,Nat.le_refl _,fun _ _=>rfl⟩)
 have hS:=(Hcells2.out _ X0.out).1
 refine zAK (fun W':World=>W'.cell? ⟨r,1,none⟩=some (.slice (some ⟨g,0,none⟩) L.length c0)) (n:=20) (by kernel_rfl) rfl hS (fun hHeld=>?_)
 clear hS
 generalize (W.drewN nq).drew=Wd at *
 refine pl [0,1,2,3,4,6,7,8,9,10,11,12,15] ?_
 iterate 13 (refine pc rfl ?_;simp only [Act.put,uA,uB,uC])
 refine pn ?_
 refine zCt 5 13 rfl rfl (by kernel_rfl) (by rfl) (by rfl) (fun K hK=>?_) (fun K hK=>?_)
 ·go_wp2_with fail
  have X1:=zh (X0.out.alloc X0.out.size (.cells #[] 5))
  refine hK.out _ _ ((Hcells2.out _ X1.out).1) (fun hHeld=>?_)
  clear hK
  try simp only [Act.put,uA,uB,uC]
  refine zAB 13 rfl (by kernel_rfl) (by rfl) (fun K hK=>?_)
  have hc2:=(Hcells2.out _ X1.out).2.1
  go_wp2_with fail
  clear hc2
  refine hK.out _ _ ((Hcells2.out _ X1.out).1) (fun hHeld=>?_)
  clear hK
  try simp only [Act.put,uA,uB,uC]
  refine zAB 14 rfl (by kernel_rfl) (by rfl) (fun K hK=>?_)
  have hown0:=zAq Wd 5
  have hxd:=Hxd.out _ X1.out
  refine zAi (.tmp 77) (.tmp 85) 22 (by rfl) 5 i0 (.int .u8 0) 1 1 Tryz.underlying22 hi hz0 hz1 hz2 rfl (by decide) (.slice (some ⟨Wd.heap.size,0,none⟩) 0 0) 0 [] (by rfl) hown0 (.slice px mx cx) mx _ (by rfl) hxd (zAM _) (by unfold maxLen;omega) (by omega) ?_
  clear hown0 hxd
  intro v6 w6 hown6 hgrow6 hloc6
  have X6:=zh (X1.out.grown hgrow6 X1.out.size (fun j e=>by have:=X0.out.size;simp [Value.ownBlock] at e;omega))
  have hnew6:=zAj (B:=w.heap.size) hloc6 (fun k hk=>by have:=X0.out.size;simp [Value.ownBlock] at hk;omega) X1.out.size
  rw [Nat.zero_add,List.nil_append] at hown6
  obtain ⟨p6,c6,rfl⟩:=OwnR.shape hown6
  have Hown6:=zh hown6
  have Hnew6:=zh hnew6
  clear hgrow6 hloc6 hown6 hnew6
  refine hK.out _ _ ((Hcells2.out _ X6.out).1) (fun hHeld=>?_)
  clear hK
  try simp only [Act.put,uA,uB,uC]
  refine zAB 16 rfl (by kernel_rfl) (by rfl) (fun K hK=>?_)
  have hld:=Hld.out _ X6.out
  refine zAi (.tmp 86) (.tmp 87) 22 (by rfl) 5 i0 (.int .u8 0) 1 1 Tryz.underlying22 hi hz0 hz1 hz2 rfl (by decide) (.slice p6 mx c6) mx _ (by rfl) Hown6.out (.slice pb m cb) m _ (by rfl) hld (zAM _) (by unfold maxLen;omega) (by omega) ?_
  clear hld
  intro v7 w7 hown7 hgrow7 hloc7
  have X7:=zh (X6.out.grown hgrow7 X6.out.size Hnew6.out)
  have hnew7:=zAj (B:=w.heap.size) hloc7 Hnew6.out X6.out.size
  obtain ⟨p7,c7,rfl⟩:=OwnR.shape hown7
  rw [← zBR] at hown7
  have Hend7:=zh (Hend.out w7 (.slice p7 (mx+m) c7) X7.out (by unfold OwnB;rw [Hlen.out];exact hown7) hnew7)
  clear hgrow7 hloc7 hown7 hnew7
  refine hK.out _ _ ((Hcells2.out _ X7.out).1) (fun hHeld=>?_)
  clear hK
  try simp only [Act.put,uA,uB,uC]
  refine pl [17,18] ?_
  iterate 2 (refine pc rfl ?_;simp only [Act.put,uA,uB,uC])
  refine pn ?_
  refine zAB 19 rfl (by kernel_rfl) (by rfl) (fun K hK=>?_)
  obtain ⟨hc1,hc2,hfz1⟩:=Hcells2.out _ X7.out
  go_wp2_with fail
  have hcs:(w7.setCell ⟨g,i * 3+1,none⟩ (.slice p7 (mx+m) c7)).cell? ⟨r,1,none⟩=some (.slice (some ⟨g,0,none⟩) L.length c0):=(World.cell?_of_block (zAE _ Hgr.out)).trans hc1
  clear hc1 hc2 hfz1
  refine hK.out _ _ (hcs) (fun hHeld=>?_)
  clear hK
  try simp only [Act.put,uA,uB,uC]
  refine wpAnyH_done (by kernel_rfl) ?_ _
  clear hHeld
  go_wp2_with fail
  refine Hend7.out.mono ?_
  intro e w8 hE
  have HE:=zh hE
  obtain ⟨rfl,-⟩:=hE
  go_wp2_with fail
  go_ret
  exact HE.out
 ·have hc2:=(Hcells2.out _ X0.out).2.1
  go_wp2_with fail
  clear hc2
  refine hK.out _ _ ((Hcells2.out _ X0.out).1) (fun hHeld=>?_)
  clear hK
  try simp only [Act.put,uA,uB,uC]
  refine zAB 5 rfl (by kernel_rfl) (by rfl) (fun K hK=>?_)
  go_wp2_with fail
  have X1:=zh (X0.out.alloc X0.out.size (.cells #[] 5))
  refine hK.out _ _ ((Hcells2.out _ X1.out).1) (fun hHeld=>?_)
  clear hK
  try simp only [Act.put,uA,uB,uC]
  refine zAB 14 rfl (by kernel_rfl) (by rfl) (fun K hK=>?_)
  have hown0:=zAq Wd 5
  have hxd:=Hxd.out _ X1.out
  refine zAi (.tmp 77) (.tmp 85) 22 (by rfl) 5 i0 (.int .u8 0) 1 1 Tryz.underlying22 hi hz0 hz1 hz2 rfl (by decide) (.slice (some ⟨Wd.heap.size,0,none⟩) 0 0) 0 [] (by rfl) hown0 (.slice px mx cx) mx _ (by rfl) hxd (zAM _) (by unfold maxLen;omega) (by omega) ?_
  clear hown0 hxd
  intro v6 w6 hown6 hgrow6 hloc6
  have X6:=zh (X1.out.grown hgrow6 X1.out.size (fun j e=>by have:=X0.out.size;simp [Value.ownBlock] at e;omega))
  have hnew6:=zAj (B:=w.heap.size) hloc6 (fun k hk=>by have:=X0.out.size;simp [Value.ownBlock] at hk;omega) X1.out.size
  rw [Nat.zero_add,List.nil_append] at hown6
  obtain ⟨p6,c6,rfl⟩:=OwnR.shape hown6
  have Hown6:=zh hown6
  have Hnew6:=zh hnew6
  clear hgrow6 hloc6 hown6 hnew6
  refine hK.out _ _ ((Hcells2.out _ X6.out).1) (fun hHeld=>?_)
  clear hK
  try simp only [Act.put,uA,uB,uC]
  refine zAB 16 rfl (by kernel_rfl) (by rfl) (fun K hK=>?_)
  have hld:=Hld.out _ X6.out
  refine zAi (.tmp 86) (.tmp 87) 22 (by rfl) 5 i0 (.int .u8 0) 1 1 Tryz.underlying22 hi hz0 hz1 hz2 rfl (by decide) (.slice p6 mx c6) mx _ (by rfl) Hown6.out (.slice pb m cb) m _ (by rfl) hld (zAM _) (by unfold maxLen;omega) (by omega) ?_
  clear hld
  intro v7 w7 hown7 hgrow7 hloc7
  have X7:=zh (X6.out.grown hgrow7 X6.out.size Hnew6.out)
  have hnew7:=zAj (B:=w.heap.size) hloc7 Hnew6.out X6.out.size
  obtain ⟨p7,c7,rfl⟩:=OwnR.shape hown7
  rw [← zBR] at hown7
  have Hend7:=zh (Hend.out w7 (.slice p7 (mx+m) c7) X7.out (by unfold OwnB;rw [Hlen.out];exact hown7) hnew7)
  clear hgrow7 hloc7 hown7 hnew7
  refine hK.out _ _ ((Hcells2.out _ X7.out).1) (fun hHeld=>?_)
  clear hK
  try simp only [Act.put,uA,uB,uC]
  refine pl [17,18] ?_
  iterate 2 (refine pc rfl ?_;simp only [Act.put,uA,uB,uC])
  refine pn ?_
  refine zAB 19 rfl (by kernel_rfl) (by rfl) (fun K hK=>?_)
  obtain ⟨hc1,hc2,hfz1⟩:=Hcells2.out _ X7.out
  go_wp2_with fail
  have hcs:(w7.setCell ⟨g,i * 3+1,none⟩ (.slice p7 (mx+m) c7)).cell? ⟨r,1,none⟩=some (.slice (some ⟨g,0,none⟩) L.length c0):=(World.cell?_of_block (zAE _ Hgr.out)).trans hc1
  clear hc1 hc2 hfz1
  refine hK.out _ _ (hcs) (fun hHeld=>?_)
  clear hK
  try simp only [Act.put,uA,uB,uC]
  refine wpAnyH_done (by kernel_rfl) ?_ _
  clear hHeld
  go_wp2_with fail
  refine Hend7.out.mono ?_
  intro e w8 hE
  have HE:=zh hE
  obtain ⟨rfl,-⟩:=hE
  go_wp2_with fail
  go_ret
  exact HE.out
end
end Go.Proofs.YtapfnehdgailmaaGreat
namespace Go.Sat
open Go Go.RowKit
theorem zBK (w:World) (e:TypeId) (size:Nat):OwnR (w.alloc (.cells #[] e)) e size (.slice (some ⟨w.heap.size,0,none⟩) 0 0) 0 [] :=
 ⟨by simp,.inr ⟨_,0,#[],rfl,zAW w _,Nat.le_refl _,Nat.zero_le _,by simp,by simp⟩⟩
theorem holds_lit (w:World) (cs:Array Value) (xs:List Value) (size n c:Nat) (hl:cs.toList=xs) (hx:xs.length=n * size) (e:TypeId) (fr:Nat × Nat):zAY (w.alloc (.cells cs e fr)) size (.slice (some ⟨w.heap.size,0,none⟩) n c) n xs:=by
 refine ⟨hx,some ⟨w.heap.size,0,none⟩,c,rfl,fun e=>(by cases e),fun a ha i u hu=>?_⟩
 cases ha
 rw [add_zero]
 refine zAC (zAW w _) ?_
 rw [← hl] at hu
 simpa using hu
end Go.Sat
namespace Go.Proofs.YtapfnehdgailmaaGreat
open Go.RowKit Go.Sat Go.Maps
theorem has_void {w w':World} {v:Value} {l:Bs} (h:HasB w v l) (hl:l=[]):HasB w' v l:=by
 subst hl
 obtain ⟨hl,p,c,e,h0,-⟩:=h
 exact ⟨hl,p,c,e,h0,fun a ha i u hu=>by simp [zAN] at hu⟩
section
variable {w:World} {r:Nat} {v:Value} {L:List zAF} {own:Nat→Prop} {D:zAA}
def nilF (n:Bs):zAF:=⟨n,.slice none 0 0,⟨[],0⟩⟩
theorem new_cells (L:List zAF) (i:Nat) (n:Bs):(L.take i ++ nilF n :: L.drop i).flatMap zAF.cells=((L.flatMap zAF.cells).take (i * 3) ++ (nilF n).cells) ++ (L.flatMap zAF.cells).drop (i * 3):=by
 rw [List.flatMap_append,List.flatMap_cons,cells_take,cells_drop,List.append_assoc]
theorem zAU.putn (h:zAU w r v L own D) {n:Bs} (hg:Sat.get n D.files=none) (v':Value) (f:zAP):Sat.put n f D.files=((L.take (zAl n (L.map zAF.n)) ++ nilF n :: L.drop (zAl n (L.map zAF.n))).set (zAl n (L.map zAF.n)) ⟨n,v',f⟩).map zAF.key:=by
 have hle:zAl n (L.map zAF.n)≤L.length:=by have:=spotN_le n (L.map zAF.n);rwa [List.length_map] at this
 have h1:Sat.put n f D.files=ins (n,f) D.files:=by unfold Sat.put;rw [zCP hg]
 rw [h1,ins_at n f h.ok.srt hg,← h.names,h.files]
 generalize zAl n (L.map zAF.n)=i at *
 rw [List.set_append_right _ _ (by rw [List.length_take];omega),List.length_take,Nat.min_eq_left hle,Nat.sub_self,List.set_cons_zero,List.map_append,List.map_cons,List.map_take,List.map_drop]
 rfl
theorem rappend_new (h:zAU w r v L own D) (s:ByteArray) (hs:s.size≤9223372036854775807) {pb:Option Addr} {m cb:Nat} {l:Bs} (hl:HasB w (.slice pb m cb) l) (hno:l≠[]→∀ k,(Value.slice pb m cb).ownBlock=some k→¬ own k) (hm:D.may [nm s]=0) (hg:Sat.get (nm s) D.files=none) (hroom:D.used+m≤D.room) (hcnt:D.files.length < 4096)
  (hok:zAA.OK { D with files:=put (nm s) ⟨[] ++ l,0⟩ D.files }) :
  Calls Tryz.prog 16 #[.pointer (some ⟨r,0,none⟩),.string s,.slice pb m cb] w (zBi w r own (zAA.done { D with files:=put (nm s) ⟨[] ++ l,0⟩ D.files },0)):=by
 have hml:m=l.length:=(zBj hl).1
 have h1:zAU (w.alloc (.cells #[.string s] 9)) r v L own D:=h.below ((Below.refl _ _).alloc (Nat.le_refl _) _)
 have hmay:=zBg h1 (some ⟨w.heap.size,0,none⟩) [s] 1 (zA4 w s) (by simp) (by simpa using hs)
 simp only [List.map_cons,List.map_nil] at hmay
 have hsp:=zBL h1 s
 rw [h.is,hg] at hsp
 rw [hm] at hmay
 have HU:=zh (fun W hb=>zDd (h.below (w':=W) hb))
 have hub:D.used≤1073741824:=Nat.le_trans h.ok.used h.ok.room
 have hrb:=h.ok.room
 have hput:=fun v'=>h.putn hg v' ⟨[] ++ l,0⟩
 have hfz:=zDM hm
 rw [← h.len] at hcnt
 have hle:zAl (nm s) (L.map zAF.n)≤L.length:=by have:=spotN_le (nm s) (L.map zAF.n);rwa [List.length_map] at this
 obtain ⟨pv,cv,hgv⟩:=h.slice
 have hNc:L.length≤cv:=by
  rcases h.at with h0 | ⟨g,c0,e,hc,-⟩
  ·rw [h0];exact Nat.zero_le _
  ·rw [hgv] at e;cases e;exact hc
 generalize zAl (nm s) (L.map zAF.n)=i at *
 have Hcells:=zh (show ∀ W,Below w.heap.size w W→W.cell? ⟨r,0,none⟩=some (.int .i64 (D.room:Int))∧W.cell? ⟨r,1,none⟩=some (.slice pv L.length cv) from fun W hb=>⟨(h.below hb).c0,(h.below hb).c1.trans (by rw [hgv])⟩)
 have Hfr:=zh (show ∀ W,Below w.heap.size w W→W.frozen? ⟨r,1,none⟩=false from fun W hb=>zAI (h.below hb).cells 1)
 have Hrow:=zh (show ∀ W,Below w.heap.size w W→OwnR W 127 3 (.slice pv L.length cv) L.length (L.flatMap zAF.cells) from fun W hb=>by rw [← hgv];exact (h.below hb).row)
 have Hone:=zh (cells_one h.core.one)
 have Hl:=zh hl
 have Hml:=zh hml
 have Hno:=zh hno
 have Hput:=zh hput
 have Hok:=zh hok
 have Hfz:=zh hfz
 have H:=zh h
 obtain ⟨i0,hi,hz0,hz1,hz2⟩:=info_parts (show (Tryz.prog.info? 5).map (fun i=>(i.zero,i.size,i.bytes))=some (some (.int .u8 0),1,1) by kernel_rfl)
 obtain ⟨iF,hFi,hF0,hF1,hF2⟩:=info_parts (show (Tryz.prog.info? 127).map (fun i=>(i.zero,i.size,i.bytes))=some (some (.agg #[.string ⟨#[]⟩,.slice none 0 0,.int .i64 0]),3,48) by kernel_rfl)
 have hs1:∀ W,(Instr.slice 116 (.slice pv L.length cv) none (some (.int .i64 (i:Int))) none).run Tryz.prog W=.ok (.slice pv i cv) W:=fun W=>zBx W Tryz.underlying116 hFi pv _ cv i (by omega)
 have hs2:∀ W,(Instr.slice 116 (.slice pv L.length cv) (some (.int .i64 (i:Int))) none none).run Tryz.prog W=.ok (.slice (if cv - i=0 then pv else pv.map fun x=>x.add (i * 3)) (L.length - i) (cv - i)) W:=fun W=>by
  have:=zC8 (P:=Tryz.prog) W Tryz.underlying116 hFi pv L.length cv i hle hNc
  rw [hF1] at this
  exact this
 have Hfrom:=zh (show ∀ W,Below w.heap.size w W→zAY W 3 (.slice (if cv - i=0 then pv else pv.map fun x=>x.add (i * 3)) (L.length - i) (cv - i)) (L.length - i) ((L.flatMap zAF.cells).drop (i * 3)) from fun W hb=>OwnR.cut_from (Hrow.out W hb) hle)
 generalize hpF:(if cv - i=0 then pv else pv.map fun x=>x.add (i * 3))=pF at *
 clear h h1 hm hg hok hput hml hl hfz hno hpF
 subst hgv
 have hd1:decide ((D.room:Int) < (D.used:Int)+(m:Int))=false:=by simp;omega
 have hd2:decide (D.room < D.used+m)=false:=by simp;omega
 generalize hU:D.used=U at *
 generalize hN:L.length=N at *
 have HN:=zh hN
 clear hN hU
 have Hmay:=zh hmay
 have Hsp:=zh hsp
 clear hmay hsp
 go_enter Tryz.func16,Tryz.ntmps16
 go_wp2_with fail
 refine Hmay.out.mono ?_
 rintro e w2 ⟨rfl,rfl⟩
 go_wp2_with fail
 refine Hsp.out.mono ?_
 rintro e w3 ⟨rfl,q,rfl⟩
 have HbW:=zh (zAe w (.cells #[.string s] 9) q)
 have Hused:=zh (fun n=>HU.out _ (HbW.out.trans (show Below _ _ (((w.alloc (.cells #[.string s] 9)).drewN q).drewN n) from ⟨rfl,rfl,rfl,Nat.le_refl _,fun _ _=>rfl⟩)))
 obtain ⟨hc0,hc1⟩:=Hcells.out _ HbW.out
 generalize (w.alloc (.cells #[.string s] 9)).drewN q=W at *
 go_wp2_with fail
 go_quiet ((go_at_call 71;refine Calls.quiet_of_same (Hused.out _)))
 clear hc0 hc1
 have X0:=zh (show Below w.heap.size w (W.drewN nq) from HbW.out.trans ⟨rfl,rfl,rfl,Nat.le_refl _,fun _ _=>rfl⟩)
 generalize W.drewN nq=Wq at *
 have X1:=zh (X0.out.alloc X0.out.size (.cells #[] 127))
 have hc1a:=(Hcells.out _ X1.out).2
 have Hup:=zh (show zAY (Wq.alloc (.cells #[] 127)) 3 (.slice pv i cv) i ((L.flatMap zAF.cells).take (i * 3)) from zAY.upto (OwnR.holds (Hrow.out _ X1.out)) hle cv)
 go_wp2_with (first | (at_builtin;refine zAR (Wq.alloc (.cells #[] 127)) rfl (.tmp 48) (.tmp 54) 116 rfl 127 iF _ 3 48 Tryz.underlying116 hFi hF0 hF1 hF2 rfl (by decide) (.slice (some ⟨Wq.heap.size,0,none⟩) 0 0) 0 [] rfl (zBK Wq _ 3) (.slice pv i cv) i _ rfl Hup.out (fun u hu=>Hone.out u (List.mem_of_mem_take hu)) (by unfold maxLen;omega) (by omega) ?_;intro v12 w12 hown12 hgrow12 hloc12;rw [Nat.zero_add,List.nil_append] at hown12;have hX:=X1.out.grown hgrow12 X1.out.size (fun j e=>by have:=X0.out.size;simp [Value.ownBlock] at e;omega);have hnew:=zAj (B:=w.heap.size) hloc12 (fun k hk=>by have:=X0.out.size;simp [Value.ownBlock] at hk;omega) X1.out.size;obtain ⟨p12,c12,rfl⟩:=OwnR.shape hown12;have X12:=zh (And.intro hX (And.intro hown12 hnew));clear hown12 hgrow12 hloc12 hX hnew hc1a) | (at_builtin;refine zAR (w12.alloc (.cells #[.string s,.slice none 0 0,.int .i64 0] 127)) rfl (.tmp 56) (.tmp 59) 116 rfl 127 iF _ 3 48 Tryz.underlying116 hFi hF0 hF1 hF2 rfl (by decide) (.slice p12 i c12) i _ rfl (OwnR.keep X12.out.2.1 fun j hj=>alloc_was w12 _ (OwnR.lt X12.out.2.1 hj)) (.slice (some ⟨w12.heap.size,0,none⟩) 1 1) 1 [.string s,.slice none 0 0,.int .i64 0] rfl (holds_lit w12 #[.string s,.slice none 0 0,.int .i64 0] _ 3 1 1 rfl rfl _ _) (fun u hu=>by simp at hu;rcases hu with rfl | rfl | rfl <;> rfl) (by unfold maxLen;omega) (by omega) ?_;intro v13 w13 hown13 hgrow13 hloc13;have hXa:=X12.out.1.alloc X12.out.1.size (.cells #[.string s,.slice none 0 0,.int .i64 0] 127);have hX:=hXa.grown hgrow13 hXa.size (fun j hj=>X12.out.2.2 j hj);have hnew:=zAj (B:=w.heap.size) hloc13 X12.out.2.2 hXa.size;obtain ⟨p13,c13,rfl⟩:=OwnR.shape hown13;have X13:=zh (And.intro hX (And.intro hown13 hnew));have hc1b:=(Hcells.out _ X13.out.1).2;clear hown13 hgrow13 hloc13 hX hnew hXa) | (at_builtin;refine zAR w13 rfl (.tmp 62) (.tmp 68) 116 rfl 127 iF _ 3 48 Tryz.underlying116 hFi hF0 hF1 hF2 rfl (by decide) (.slice p13 (i+1) c13) (i+1) _ rfl X13.out.2.1 (.slice pF (N - i) (cv - i)) (N - i) _ rfl (Hfrom.out w13 X13.out.1) (fun u hu=>Hone.out u (List.mem_of_mem_drop hu)) (by unfold maxLen;omega) (by omega) ?_;intro v14 w14 hown14 hgrow14 hloc14;have hX:=X13.out.1.grown hgrow14 X13.out.1.size (fun j hj=>X13.out.2.2 j hj);have hnew:=zAj (B:=w.heap.size) hloc14 X13.out.2.2 X13.out.1.size;obtain ⟨p14,c14,rfl⟩:=OwnR.shape hown14;have X14:=zh (And.intro hX (And.intro hown14 hnew));have hc1c:=(Hcells.out _ X14.out.1).2;have hfrc:=Hfr.out _ X14.out.1;clear hown14 hgrow14 hloc14 hX hnew hc1b))
 clear hc1c hfrc
 have hrow:=X14.out.2.1
 have hcore0:=(H.out.below X14.out.1).core
 have es:Value.string s=encStr (nm s):=by rw [zCX];simp [nm]
 have hlen':(L.take i ++ nilF (nm s) :: L.drop i).length=i+1+(N - i):=by
  rw [List.length_append,List.length_take,List.length_cons,List.length_drop,HN.out]
  omega
 have hrow':OwnR w14 127 3 (.slice p14 (i+1+(N - i)) c14) (L.take i ++ nilF (nm s) :: L.drop i).length ((L.take i ++ nilF (nm s) :: L.drop i).flatMap zAF.cells):=by
  rw [new_cells,hlen']
  show OwnR w14 _ 3 _ _ (((L.flatMap zAF.cells).take (i * 3) ++ [encStr (nm s),.slice none 0 0,.int .i64 0]) ++ _)
  rw [← es]
  exact hrow
 have hfresh:∀ k,(Value.slice p14 (i+1+(N - i)) c14).ownBlock=some k→¬ own k:=fun k hk ho=>by
  have h1:=X14.out.2.2 k hk
  have h2:=H.out.olt k ho
  omega
 have hcore:=hcore0.relist hrow' (fun x hx=>by
  rcases List.mem_append.1 hx with hx | hx
  ·exact .inl (List.mem_of_mem_take hx)
  ·rcases List.mem_cons.1 hx with rfl | hx
   ·exact .inr ⟨OwnR.nil _ _ _,fun k hk=>by cases hk⟩
   ·exact .inl (List.mem_of_mem_drop hx)) hfresh
 have hld:HasB (w14.setCell ⟨r,1,none⟩ (.slice p14 (i+1+(N - i)) c14)) (.slice pb m cb) l:=by
  by_cases hl0:l=[]
  ·exact has_void Hl.out hl0
  ·exact Hl.out.same fun k hk=>by
    have h1:=Hl.out.lt hl0 hk
    have h2:k≠r:=fun e=>Hno.out hl0 k hk (by rw [e];exact H.out.or)
    exact (zAE _ h2).trans (X14.out.1.block k h1)
 have hch:Chg own w (w14.setCell ⟨r,1,none⟩ (.slice p14 (i+1+(N - i)) c14)):=zBk X14.out.1 (zCW H.out.or)
 have hx1:∀ k,(own k∨(Value.slice p14 (i+1+(N - i)) c14).ownBlock=some k)→own k∨w.heap.size≤k:=fun k hk=>hk.imp id (X14.out.2.2 k)
 have hxi:(L.take i ++ nilF (nm s) :: L.drop i)[i]?=some (nilF (nm s)):=by
  rw [List.getElem?_append_right (by rw [List.length_take];omega),List.length_take,HN.out,Nat.min_eq_left hle,Nat.sub_self]
  rfl
 obtain ⟨g,rfl⟩:∃ g,p14=some ⟨g,0,none⟩:=by
  rcases hrow.2 with ⟨e,hn⟩ | ⟨g',cap,cur,e,_⟩
  ·omega
  ·cases e
   exact ⟨g',rfl⟩
 have Hgr:=zh (show r≠g from (hcore.ov g rfl).2.symm)
 have Hcore:=zh hcore
 have Hcells2:=zh (show ∀ W,Below (w14.setCell ⟨r,1,none⟩ (.slice (some ⟨g,0,none⟩) (i+1+(N - i)) c14)).heap.size (w14.setCell ⟨r,1,none⟩ (.slice (some ⟨g,0,none⟩) (i+1+(N - i)) c14)) W→W.cell? ⟨r,1,none⟩=some (.slice (some ⟨g,0,none⟩) (i+1+(N - i)) c14)∧W.cell? ⟨g,i * 3+1,none⟩=some (.slice none 0 0)∧W.frozen? ⟨g,i * 3+1,none⟩=false from fun W hb=>by
  have hW:=hcore.keep (w':=W) hb.size fun k hk=>hb.block k (hcore.olt k hk)
  exact ⟨hW.c1,(hW.at rfl hxi).2.1,hW.free rfl _⟩)
 have Hxd:=zh (fun (W:World) (_:Below (w14.setCell ⟨r,1,none⟩ (.slice (some ⟨g,0,none⟩) (i+1+(N - i)) c14)).heap.size (w14.setCell ⟨r,1,none⟩ (.slice (some ⟨g,0,none⟩) (i+1+(N - i)) c14)) W)=>(show zAY W 1 (.slice none 0 0) 0 (zAN []) from ⟨rfl,none,0,rfl,fun _=>rfl,fun a ha=>by cases ha⟩))
 have Hld:=zh (fun (W:World) (hb:Below (w14.setCell ⟨r,1,none⟩ (.slice (some ⟨g,0,none⟩) (i+1+(N - i)) c14)).heap.size (w14.setCell ⟨r,1,none⟩ (.slice (some ⟨g,0,none⟩) (i+1+(N - i)) c14)) W)=>(show zAY W 1 (.slice pb m cb) m (zAN l) from by
  have hW:=hld.below hb
  unfold HasB at hW
  rw [← Hml.out] at hW
  exact hW))
 have Hend:=zh (fun (w7:World) (v7:Value) (hb:Below (w14.setCell ⟨r,1,none⟩ (.slice (some ⟨g,0,none⟩) (i+1+(N - i)) c14)).heap.size (w14.setCell ⟨r,1,none⟩ (.slice (some ⟨g,0,none⟩) (i+1+(N - i)) c14)) w7) (h7:OwnB w7 5 v7 ([] ++ l)) (hn7:∀ k,v7.ownBlock=some k→(w14.setCell ⟨r,1,none⟩ (.slice (some ⟨g,0,none⟩) (i+1+(N - i)) c14)).heap.size≤k)=>rapp_end (D:=D) hcore rfl hxi hb h7 hn7 (Hput.out v7) Hok.out hch hx1 Hfz.out)
 have Hlen:=zh (show ([] ++ l:Bs).length=m from by rw [List.nil_append,Hml.out])
 clear hrow hcore0 es hlen' hrow' hfresh hcore hld hch hx1 hxi Hcore X0 X1 X12 X13 X14 Hup
 generalize w14.setCell ⟨r,1,none⟩ (.slice (some ⟨g,0,none⟩) (i+1+(N - i)) c14)=Ws at *
 generalize hM:i+1+(N - i)=M at *
 have hiM:i < M:=by omega
 clear hM
 obtain ⟨hc1d,-,-⟩:=Hcells2.out _ (Below.refl _ _)
 go_wp2_with fail
 clear hc1d
 have X0:=zh (show Below Ws.heap.size Ws Ws.drew from ⟨rfl,rfl,rfl,Nat.le_refl _,fun _ _=>rfl⟩)
 have hS:=(Hcells2.out _ X0.out).1
 refine zAK (fun W':World=>W'.cell? ⟨r,1,none⟩=some (.slice (some ⟨g,0,none⟩) M c14)) (n:=20) (by kernel_rfl) rfl hS (fun hHeld=>?_)
 clear hS
 generalize Ws.drew=Wd at *
 refine pl [0,1,2,3,4,6,7,8,9,10,11,12,15] ?_
 iterate 13 (refine pc rfl ?_;simp only [Act.put,uA,uB,uC])
 refine pn ?_
 refine zCt 5 13 rfl rfl (by kernel_rfl) (by rfl) (by rfl) (fun K hK=>?_) (fun K hK=>?_)
 ·go_wp2_with fail
  have X1:=zh (X0.out.alloc X0.out.size (.cells #[] 5))
  refine hK.out _ _ ((Hcells2.out _ X1.out).1) (fun hHeld=>?_)
  clear hK
  try simp only [Act.put,uA,uB,uC]
  refine zAB 13 rfl (by kernel_rfl) (by rfl) (fun K hK=>?_)
  have hc2:=(Hcells2.out _ X1.out).2.1
  go_wp2_with fail
  clear hc2
  refine hK.out _ _ ((Hcells2.out _ X1.out).1) (fun hHeld=>?_)
  clear hK
  try simp only [Act.put,uA,uB,uC]
  refine zAB 14 rfl (by kernel_rfl) (by rfl) (fun K hK=>?_)
  have hown0:=zAq Wd 5
  have hxd:=Hxd.out _ X1.out
  refine zAi (.tmp 77) (.tmp 85) 22 (by rfl) 5 i0 (.int .u8 0) 1 1 Tryz.underlying22 hi hz0 hz1 hz2 rfl (by decide) (.slice (some ⟨Wd.heap.size,0,none⟩) 0 0) 0 [] (by rfl) hown0 (.slice none 0 0) 0 _ (by rfl) hxd (zAM _) (by unfold maxLen;omega) (by omega) ?_
  clear hown0 hxd
  intro v6 w6 hown6 hgrow6 hloc6
  have X6:=zh (X1.out.grown hgrow6 X1.out.size (fun j e=>by have:=X0.out.size;simp [Value.ownBlock] at e;omega))
  have hnew6:=zAj (B:=Ws.heap.size) hloc6 (fun k hk=>by have:=X0.out.size;simp [Value.ownBlock] at hk;omega) X1.out.size
  rw [Nat.zero_add,List.nil_append] at hown6
  obtain ⟨p6,c6,rfl⟩:=OwnR.shape hown6
  have Hown6:=zh hown6
  have Hnew6:=zh hnew6
  clear hgrow6 hloc6 hown6 hnew6
  refine hK.out _ _ ((Hcells2.out _ X6.out).1) (fun hHeld=>?_)
  clear hK
  try simp only [Act.put,uA,uB,uC]
  refine zAB 16 rfl (by kernel_rfl) (by rfl) (fun K hK=>?_)
  have hld:=Hld.out _ X6.out
  refine zAi (.tmp 86) (.tmp 87) 22 (by rfl) 5 i0 (.int .u8 0) 1 1 Tryz.underlying22 hi hz0 hz1 hz2 rfl (by decide) (.slice p6 0 c6) 0 _ (by rfl) Hown6.out (.slice pb m cb) m _ (by rfl) hld (zAM _) (by unfold maxLen;omega) (by omega) ?_
  clear hld
  intro v7 w7 hown7 hgrow7 hloc7
  have X7:=zh (X6.out.grown hgrow7 X6.out.size Hnew6.out)
  have hnew7:=zAj (B:=Ws.heap.size) hloc7 Hnew6.out X6.out.size
  rw [Nat.zero_add] at hown7
  obtain ⟨p7,c7,rfl⟩:=OwnR.shape hown7
  rw [← zBR] at hown7
  have Hend7:=zh (Hend.out w7 (.slice p7 m c7) X7.out (by unfold OwnB;rw [Hlen.out];exact hown7) hnew7)
  clear hgrow7 hloc7 hown7 hnew7
  refine hK.out _ _ ((Hcells2.out _ X7.out).1) (fun hHeld=>?_)
  clear hK
  try simp only [Act.put,uA,uB,uC]
  refine pl [17,18] ?_
  iterate 2 (refine pc rfl ?_;simp only [Act.put,uA,uB,uC])
  refine pn ?_
  refine zAB 19 rfl (by kernel_rfl) (by rfl) (fun K hK=>?_)
  obtain ⟨hc1,hc2,hfz1⟩:=Hcells2.out _ X7.out
  go_wp2_with fail
  have hcs:(w7.setCell ⟨g,i * 3+1,none⟩ (.slice p7 m c7)).cell? ⟨r,1,none⟩=some (.slice (some ⟨g,0,none⟩) M c14):=(World.cell?_of_block (zAE _ Hgr.out)).trans hc1
  clear hc1 hc2 hfz1
  refine hK.out _ _ (hcs) (fun hHeld=>?_)
  clear hK
  try simp only [Act.put,uA,uB,uC]
  refine wpAnyH_done (by kernel_rfl) ?_ _
  clear hHeld
  go_wp2_with fail
  refine Hend7.out.mono ?_
  intro e w8 hE
  have HE:=zh hE
  obtain ⟨rfl,-⟩:=hE
  go_wp2_with fail
  go_ret
  exact HE.out
 ·have hc2:=(Hcells2.out _ X0.out).2.1
  go_wp2_with fail
  clear hc2
  refine hK.out _ _ ((Hcells2.out _ X0.out).1) (fun hHeld=>?_)
  clear hK
  try simp only [Act.put,uA,uB,uC]
  refine zAB 5 rfl (by kernel_rfl) (by rfl) (fun K hK=>?_)
  go_wp2_with fail
  have X1:=zh (X0.out.alloc X0.out.size (.cells #[] 5))
  refine hK.out _ _ ((Hcells2.out _ X1.out).1) (fun hHeld=>?_)
  clear hK
  try simp only [Act.put,uA,uB,uC]
  refine zAB 14 rfl (by kernel_rfl) (by rfl) (fun K hK=>?_)
  have hown0:=zAq Wd 5
  have hxd:=Hxd.out _ X1.out
  refine zAi (.tmp 77) (.tmp 85) 22 (by rfl) 5 i0 (.int .u8 0) 1 1 Tryz.underlying22 hi hz0 hz1 hz2 rfl (by decide) (.slice (some ⟨Wd.heap.size,0,none⟩) 0 0) 0 [] (by rfl) hown0 (.slice none 0 0) 0 _ (by rfl) hxd (zAM _) (by unfold maxLen;omega) (by omega) ?_
  clear hown0 hxd
  intro v6 w6 hown6 hgrow6 hloc6
  have X6:=zh (X1.out.grown hgrow6 X1.out.size (fun j e=>by have:=X0.out.size;simp [Value.ownBlock] at e;omega))
  have hnew6:=zAj (B:=Ws.heap.size) hloc6 (fun k hk=>by have:=X0.out.size;simp [Value.ownBlock] at hk;omega) X1.out.size
  rw [Nat.zero_add,List.nil_append] at hown6
  obtain ⟨p6,c6,rfl⟩:=OwnR.shape hown6
  have Hown6:=zh hown6
  have Hnew6:=zh hnew6
  clear hgrow6 hloc6 hown6 hnew6
  refine hK.out _ _ ((Hcells2.out _ X6.out).1) (fun hHeld=>?_)
  clear hK
  try simp only [Act.put,uA,uB,uC]
  refine zAB 16 rfl (by kernel_rfl) (by rfl) (fun K hK=>?_)
  have hld:=Hld.out _ X6.out
  refine zAi (.tmp 86) (.tmp 87) 22 (by rfl) 5 i0 (.int .u8 0) 1 1 Tryz.underlying22 hi hz0 hz1 hz2 rfl (by decide) (.slice p6 0 c6) 0 _ (by rfl) Hown6.out (.slice pb m cb) m _ (by rfl) hld (zAM _) (by unfold maxLen;omega) (by omega) ?_
  clear hld
  intro v7 w7 hown7 hgrow7 hloc7
  have X7:=zh (X6.out.grown hgrow7 X6.out.size Hnew6.out)
  have hnew7:=zAj (B:=Ws.heap.size) hloc7 Hnew6.out X6.out.size
  rw [Nat.zero_add] at hown7
  obtain ⟨p7,c7,rfl⟩:=OwnR.shape hown7
  rw [← zBR] at hown7
  have Hend7:=zh (Hend.out w7 (.slice p7 m c7) X7.out (by unfold OwnB;rw [Hlen.out];exact hown7) hnew7)
  clear hgrow7 hloc7 hown7 hnew7
  refine hK.out _ _ ((Hcells2.out _ X7.out).1) (fun hHeld=>?_)
  clear hK
  try simp only [Act.put,uA,uB,uC]
  refine pl [17,18] ?_
  iterate 2 (refine pc rfl ?_;simp only [Act.put,uA,uB,uC])
  refine pn ?_
  refine zAB 19 rfl (by kernel_rfl) (by rfl) (fun K hK=>?_)
  obtain ⟨hc1,hc2,hfz1⟩:=Hcells2.out _ X7.out
  go_wp2_with fail
  have hcs:(w7.setCell ⟨g,i * 3+1,none⟩ (.slice p7 m c7)).cell? ⟨r,1,none⟩=some (.slice (some ⟨g,0,none⟩) M c14):=(World.cell?_of_block (zAE _ Hgr.out)).trans hc1
  clear hc1 hc2 hfz1
  refine hK.out _ _ (hcs) (fun hHeld=>?_)
  clear hK
  try simp only [Act.put,uA,uB,uC]
  refine wpAnyH_done (by kernel_rfl) ?_ _
  clear hHeld
  go_wp2_with fail
  refine Hend7.out.mono ?_
  intro e w8 hE
  have HE:=zh hE
  obtain ⟨rfl,-⟩:=hE
  go_wp2_with fail
  go_ret
  exact HE.out
end
end Go.Proofs.YtapfnehdgailmaaGreat
