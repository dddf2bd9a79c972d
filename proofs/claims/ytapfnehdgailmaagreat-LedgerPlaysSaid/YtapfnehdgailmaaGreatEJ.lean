/- The document's disk: Crash. The document's disk: Copy. (Its walk is printed by mkr5.py.) The contract of frame.Scan. The document's check sum (satrapyref1.Sum) is the program's. The document's Four and FromFour. The document's Encode (satrapyref2). The document's order of a record's checks comes to the same (plain laws). The document's Decode (satrapyref2): the walk. The document's Scan (satrapyref2). The document's One (satrapyref2). -/
import Derived.Test.YtapfnehdgailmaaGreatEE
import Derived.Test.YtapfnehdgailmaaGreatEG
import Derived.Test.YtapfnehdgailmaaGreatEI
set_option maxRecDepth 100000
set_option maxHeartbeats 64000000
namespace Go.Proofs.YtapfnehdgailmaaGreat
open Go.RowKit Go.Sat Go.Maps
section
variable {w:World} {r:Nat} {v:Value} {L:List zAF} {own:Nat→Prop} {D:zAA}
theorem zAf.left {room:Nat} {fuse:Option Nat} (h:zAf w r v L own room fuse) (f:Option Nat):zAf (w.setCell ⟨r,2,none⟩ (.int .i64 (zDT f))) r v L own room f where
 cells:=zAO h.cells 2 _
 row:=h.row.keep fun k hk=>zAE _ (h.ov k hk).2
 data:=fun x hx=>OwnR.keep (h.data x hx) fun k hk=>zAE _ (h.ob x hx k hk).2.1
 or:=h.or
 ov:=h.ov
 ob:=h.ob
 olt:=fun k hk=>by
  have:=h.olt k hk
  simpa [World.setCell] using this
def crashK (k:Int) (x:zAF):Bs × zAP:=(x.n,zAA.crashF k x.f)
structure RCrash (w W:World) (r:Nat) (v:Value) (L:List zAF) (own:Nat→Prop) (D:zAA) (dr:Int) (k:Nat) (M:List zAF) (own':Nat→Prop):Prop where
 core:zAf W r v M own' D.room D.fuse
 len:M.length=L.length
 rest:M.drop k=L.drop k
 done:(M.take k).map zAF.key=(L.take k).map (crashK dr)
 chg:Chg own w W
 ext:∀ j,own' j→own j∨w.heap.size≤j
theorem rcrash_calls (h:zAU w r v L own D) (dr:Int) (h0:-9223372036854775808≤dr) (h1:dr≤9223372036854775807) :
  Calls Tryz.prog 51 #[.pointer (some ⟨r,0,none⟩),.int .i64 dr] w fun e w'=>e=.returned (.tuple #[])∧∃ own' v' L',zAU w' r v' L' own' (D.crash dr)∧Chg own w w'∧∀ k,own' k→own k∨w.heap.size≤k:=by
 have hfit:=h.fit
 have H:=zh h
 obtain ⟨pv,cv,hgv⟩:=h.slice
 have Hat:=zh h.at
 have hlen:∀ (k:Nat) (x:zAF),L[k]?=some x→x.f.data.length≤1073741824∧x.f.lasts≤x.f.data.length:=fun k x hx=>⟨h.len_le hx,by
  have hm:x.key ∈ D.files:=by rw [h.files];exact List.mem_map_of_mem (List.mem_of_getElem? hx)
  exact h.ok.lasts x.key hm⟩
 have Hlen:=zh hlen
 obtain ⟨dn,hdn⟩:∃ dn:Nat,max 0 dr=(dn:Int):=⟨(max 0 dr).toNat,by omega⟩
 have hdn':(max 0 dr).toNat=dn:=by omega
 have hdm:dn≤9223372036854775807:=by omega
 have Hdn:=zh hdn'
 have c1:=h.c1.trans (by rw [hgv])
 clear h hlen hdn'
 subst hgv
 generalize hN:L.length=N at *
 have HN:=zh hN
 clear hN
 go_enter Tryz.func51,Tryz.ntmps51
 go_wp2_with fail
 go_loopw [4] (fun i W=>∃ (k:Nat) (M:List zAF) (own':Nat→Prop),k≤N∧i=.int .i64 k∧RCrash w W r (.slice pv N cv) L own D dr k M own') (fun i _=>N - (intOf i).toNat)
 case atStart=>exact ⟨0,L,own,Nat.zero_le _,rfl,⟨H.out.core,rfl,rfl,rfl,Chg.refl _ _,fun _ h=>.inl h⟩⟩
 case round =>
  obtain ⟨k,M,own',hk,rfl,hr⟩:=hrel
  by_cases hlt:k < N
  ·have hkl:k < L.length:=by rw [HN.out];exact hlt
   obtain ⟨x,hx⟩:∃ x,L[k]?=some x:=⟨_,List.getElem?_eq_getElem hkl⟩
   have hMk:M[k]?=some x:=by
    have h2:=congrArg (fun l=>l[0]?) hr.rest
    simp only [List.getElem?_drop,Nat.add_zero] at h2
    rw [h2,hx]
   rcases Hat.out with h0 | ⟨g,c1',e1,-,-⟩
   ·rw [h0] at hkl
    simp at hkl
   cases e1
   have hcells:=hr.core.at rfl hMk
   obtain ⟨-,hc2,hc3⟩:=hcells
   have hc1:=hr.core.c1
   obtain ⟨pb,cb,eb,hbc⟩:=zAv (hr.core.data x (List.mem_of_getElem? hMk))
   rw [eb] at hc2
   obtain ⟨hl1,hl2⟩:=Hlen.out k x hx
   have Hr:=zh hr
   have Hx:=zh (And.intro hx hMk)
   have Heb:=zh eb
   clear hr hx hMk eb
   generalize hmx:x.f.data.length=mx at *
   generalize hla:x.f.lasts=la at *
   have Hmx:=zh hmx
   have Hla:=zh hla
   clear hmx hla
   obtain ⟨u,hu⟩:∃ u:Nat,mx - la=u:=⟨_,rfl⟩
   have huI:((mx:Int) - (la:Int))=(u:Int):=by omega
   go_wp2_with fail
   go_quiet (fail)
   -- region 6
   have hbs:Below wr.heap.size wr (wr.drewN nq):=⟨rfl,rfl,rfl,Nat.le_refl _,fun _ _=>rfl⟩
   have hr:=Hr.out
   have hcore:zAf (wr.drewN nq) r (.slice (some ⟨g,0,none⟩) N cv) M own' D.room D.fuse:=hr.core.keep (Nat.le_refl _) fun _ _=>rfl
   have hchs:Chg own w (wr.drewN nq):=hr.chg.trans ((Chg.of_below hbs).mono (T:=fun _=>False) fun _ _ h=>h) fun _ _ h=>h.elim
   have hst0:zAA.stays x.f dr=la+dn % (u+1):=by
    unfold zAA.stays
    rw [Hdn.out,Hmx.out,Hla.out,hu]
   obtain ⟨st,hst⟩:∃ st,la+dn % (u+1)=st:=⟨_,rfl⟩
   have hmod:=Nat.mod_lt dn (show 0 < u+1 by omega)
   have hstm:st≤mx:=by omega
   rw [hst] at hst0
   have Hst:=zh (And.intro hst0 hst)
   have Hcore:=zh hcore
   have Hchs:=zh hchs
   have Hext:=zh hr.ext
   clear hr hcore hchs hbs hc1 hc2 hc3
   have hsz:wr.heap.size=(wr.drewN nq).heap.size:=rfl
   generalize wr.drewN nq=Ws at *
   clear hsz
   have Hcl:=zh (show ∀ W',Below Ws.heap.size Ws W'→W'.cell? ⟨g,k * 3+1,none⟩=some (.slice pb mx cb)∧W'.cell? ⟨g,k * 3+2,none⟩=some (.int .i64 (la:Int))∧W'.frozen? ⟨g,k * 3+1,none⟩=false∧W'.frozen? ⟨g,k * 3+2,none⟩=false from fun W' hb=>by
    have hW:=Hcore.out.keep (w':=W') hb.size fun j hj=>hb.block j (Hcore.out.olt j hj)
    have h3:=hW.at rfl Hx.out.2
    exact ⟨h3.2.1.trans (by rw [Heb.out]),h3.2.2.trans (by rw [Hla.out]),hW.free rfl _,hW.free rfl _⟩)
   have Hxd:=zh (show ∀ W',Below Ws.heap.size Ws W'→zAY W' 1 (.slice pb st cb) st (zAN (x.f.data.take st)) from fun W' hb=>by
    have hW:=Hcore.out.keep (w':=W') hb.size fun j hj=>hb.block j (Hcore.out.olt j hj)
    have hd:=(hW.data x (List.mem_of_getElem? Hx.out.2)).has
    rw [Heb.out] at hd
    have hc:=HasB.cut hd (k:=st) (by rw [Hmx.out];exact hstm) cb
    unfold HasB at hc
    rw [List.length_take,Hmx.out,Nat.min_eq_left hstm] at hc
    exact hc)
   have Hend:=zh (show ∀ w7 v7,Below Ws.heap.size Ws w7→OwnR w7 5 1 v7 st (zAN (x.f.data.take st))→(∀ j,v7.ownBlock=some j→Ws.heap.size≤j) →
     (w7.setCell ⟨g,k * 3+1,none⟩ v7).cell? ⟨g,k * 3+1,none⟩=some v7∧(w7.setCell ⟨g,k * 3+1,none⟩ v7).cell? ⟨g,k * 3+2,none⟩=some (.int .i64 (la:Int))∧(w7.setCell ⟨g,k * 3+1,none⟩ v7).frozen? ⟨g,k * 3+2,none⟩=false∧(w7.setCell ⟨g,k * 3+1,none⟩ v7).cell? ⟨r,1,none⟩=some (.slice (some ⟨g,0,none⟩) N cv) ∧
     RCrash w ((w7.setCell ⟨g,k * 3+1,none⟩ v7).setCell ⟨g,k * 3+2,none⟩ (.int .i64 (st:Int))) r (.slice (some ⟨g,0,none⟩) N cv) L own D dr (k+1) (M.set k ⟨x.n,v7,⟨x.f.data.take st,st⟩⟩) (fun j=>own' j∨v7.ownBlock=some j) from fun w7 v7 hb h7 hn7=>by
    have hlt7:(x.f.data.take st).length=st:=by rw [List.length_take,Hmx.out,Nat.min_eq_left hstm]
    have hd7:OwnB w7 5 v7 (x.f.data.take st):=by unfold OwnB;rw [hlt7];exact h7
    have hW:=Hcore.out.keep (w':=w7) hb.size fun j hj=>hb.block j (Hcore.out.olt j hj)
    have hgo:=(Hcore.out.ov g rfl).1
    have hkM:k < M.length:=(List.getElem?_eq_some_iff.1 Hx.out.2).1
    have h1:=hW.store (g:=g) rfl Hx.out.2 1 (by omega) v7 ⟨x.n,v7,⟨x.f.data.take st,x.f.lasts⟩⟩ rfl (own':=fun j=>own' j∨v7.ownBlock=some j) (fun _ h=>.inl h) hd7
     (fun j hj=>⟨.inr hj,fun e=>by have:=Hcore.out.olt r Hcore.out.or;have:=hn7 j hj;omega,fun e=>by have:=Hcore.out.olt g hgo;have:=hn7 j hj;omega⟩)
     (fun j hj=>by
      rcases hj with hj | hj
      ·exact hW.olt j hj
      ·exact OwnR.lt h7 hj)
    have hi1:(M.set k ⟨x.n,v7,⟨x.f.data.take st,x.f.lasts⟩⟩)[k]?=some ⟨x.n,v7,⟨x.f.data.take st,x.f.lasts⟩⟩:=List.getElem?_set_self hkM
    have hm1:=List.mem_of_getElem? hi1
    have hd1:=h1.data _ hm1
    have ho1:=h1.ob _ hm1
    have h2:=h1.store (g:=g) rfl hi1 2 (by omega) (.int .i64 (st:Int)) ⟨x.n,v7,⟨x.f.data.take st,st⟩⟩ rfl (fun _ h=>h) hd1 (fun j hj=>⟨.inr hj,(ho1 j hj).2.1,fun e=>(ho1 j hj).2.2 (by rw [e];rfl)⟩) h1.olt
    rw [List.set_set] at h2
    have hat:=h1.at rfl hi1
    refine ⟨hat.2.1,hat.2.2.trans (by rw [← Hla.out]),h1.free rfl _,h1.c1,?_⟩
    have hr:=Hr.out
    have hxg:∀ j,own' j→own j∨w.heap.size≤j:=Hext.out
    have hgw:own g∨w.heap.size≤g:=hxg g hgo
    have hch1:Chg own w (w7.setCell ⟨g,k * 3+1,none⟩ v7):=(Hchs.out.trans ((Chg.of_below hb).mono (T:=fun _=>False) fun _ _ h=>h) fun _ _ h=>h.elim).trans (Chg.setCell w7 ⟨g,k * 3+1,none⟩ v7) fun j hj e=>by
     have e:j=g:=e
     rcases hgw with h | h
     ·rw [e];exact h
     ·omega
    have hch2:=hch1.trans (Chg.setCell (w7.setCell ⟨g,k * 3+1,none⟩ v7) ⟨g,k * 3+2,none⟩ (.int .i64 (st:Int))) (fun j hj e=>by
     have e:j=g:=e
     rcases hgw with h | h
     ·rw [e];exact h
     ·omega)
    refine ⟨h2,by rw [List.length_set];exact hr.len,?_,?_,hch2,fun j hj=>?_⟩
    ·rw [List.drop_set_of_lt (by omega)]
     have h3:=congrArg (List.drop 1) hr.rest
     rw [List.drop_drop,List.drop_drop] at h3
     exact h3
    ·have h4:(L.take (k+1)).map (crashK dr)=(L.take k).map (crashK dr) ++ [crashK dr x]:=by rw [List.take_add_one,Hx.out.1,List.map_append];rfl
     have h5:(M.set k ⟨x.n,v7,⟨x.f.data.take st,st⟩⟩).take (k+1)=M.take k ++ [⟨x.n,v7,⟨x.f.data.take st,st⟩⟩]:=by
      rw [List.take_add_one,List.getElem?_set_self hkM,List.take_set_of_le (Nat.le_refl _)]
      rfl
     rw [h4,h5,List.map_append,hr.done]
     congr 1
     show [(x.n,(⟨x.f.data.take st,st⟩:zAP))]=[(x.n,zAA.crashF dr x.f)]
     unfold zAA.crashF
     rw [Hst.out.1]
    ·rcases hj with hj | hj
     ·exact hxg j hj
     ·exact .inr (Nat.le_trans Hchs.out.size (hn7 j hj)))
   obtain ⟨i0,hi,hz0,hz1,hz2⟩:=info_parts (show (Tryz.prog.info? 5).map (fun i=>(i.zero,i.size,i.bytes))=some (some (.int .u8 0),1,1) by kernel_rfl)
   have hsl:∀ W,(Instr.slice 22 (.slice pb mx cb) none (some (.int .i64 (st:Int))) none).run Tryz.prog W=.ok (.slice pb st cb) W:=fun W=>zBx W Tryz.underlying22 hi pb _ cb st (by omega)
   have hwr1:IntKind.i64.wrap ((u:Int)+1)=(u:Int)+1:=zDQ (by omega) (by omega)
   obtain ⟨dm,hdm2⟩:∃ dm,dn % (u+1)=dm:=⟨_,rfl⟩
   have htm:(dn:Int).tmod ((u:Int)+1)=(dm:Int):=by rw [← hdm2];rfl
   have hne0:((u:Int)+1=0)=False:=by simp;omega
   have hadd:(la:Int)+(dm:Int)=(st:Int):=by omega
   have hwr2:IntKind.i64.wrap ((la:Int)+(dm:Int))=(st:Int):=by rw [hadd];exact zDQ (by omega) (by omega)
   have hwr3:IntKind.i64.wrap (st:Int)=(st:Int):=zDQ (by omega) (by omega)
   clear Hr hst hmod hdm2
   go_wp2_with fail
   have X0:=zh (show Below Ws.heap.size Ws Ws.drew from ⟨rfl,rfl,rfl,Nat.le_refl _,fun _ _=>rfl⟩)
   have hS:=(Hcl.out _ X0.out).2.1
   refine zAK (fun W':World=>W'.cell? ⟨g,k * 3+2,none⟩=some (.int .i64 (la:Int))) (n:=20) (by kernel_rfl) rfl hS (fun hHeld=>?_)
   clear hS
   generalize Ws.drew=Wd at *
   refine pl [0,2,3,4,6,7,8,9,10,11,12,13,14] ?_
   iterate 13 (refine pc rfl ?_;simp only [Act.put,uA,uB,uC])
   refine pn ?_
   refine zCt 1 5 rfl rfl (by kernel_rfl) (by rfl) (by rfl) (fun K hK=>?_) (fun K hK=>?_)
   ·go_wp2_with fail
    have X1:=zh (X0.out.alloc X0.out.size (.cells #[] 5))
    refine hK.out _ _ ((Hcl.out _ X1.out).2.1) (fun hHeld=>?_)
    clear hK
    try simp only [Act.put,uA,uB,uC]
    refine zAB 5 rfl (by kernel_rfl) (by rfl) (fun K hK=>?_)
    have hc2:=(Hcl.out _ X1.out).1
    go_wp2_with fail
    clear hc2
    refine hK.out _ _ ((Hcl.out _ X1.out).2.1) (fun hHeld=>?_)
    clear hK
    try simp only [Act.put,uA,uB,uC]
    refine otk 15 (v:=?v1x15) rfl ?_
    simp only [Act.put,uA,uB,uC]
    refine zAB 16 rfl (by kernel_rfl) (by rfl) (fun K hK=>?_)
    have hown0:=zAq Wd 5
    have hxd:=Hxd.out _ X1.out
    refine zAi (.tmp 35) (.tmp 49) 22 (by rfl) 5 i0 (.int .u8 0) 1 1 Tryz.underlying22 hi hz0 hz1 hz2 rfl (by decide) (.slice (some ⟨Wd.heap.size,0,none⟩) 0 0) 0 [] (by rfl) hown0 (.slice pb st cb) st _ (by rfl) hxd (zAM _) (by unfold maxLen;omega) (by omega) ?_
    clear hown0 hxd
    intro v6 w6 hown6 hgrow6 hloc6
    have X6:=zh (X1.out.grown hgrow6 X1.out.size (fun j e=>by have:=X0.out.size;simp [Value.ownBlock] at e;omega))
    have hnew6:=zAj (B:=Ws.heap.size) hloc6 (fun k hk=>by have:=X0.out.size;simp [Value.ownBlock] at hk;omega) X1.out.size
    rw [Nat.zero_add,List.nil_append] at hown6
    obtain ⟨p6,c6,rfl⟩:=OwnR.shape hown6
    have Hend6:=zh (Hend.out w6 (.slice p6 st c6) X6.out hown6 hnew6)
    clear hgrow6 hloc6 hown6 hnew6
    refine hK.out _ _ ((Hcl.out _ X6.out).2.1) (fun hHeld=>?_)
    clear hK
    try simp only [Act.put,uA,uB,uC]
    refine pl [17,18] ?_
    iterate 2 (refine pc rfl ?_;simp only [Act.put,uA,uB,uC])
    refine pn ?_
    refine zAB 19 rfl (by kernel_rfl) (by rfl) (fun K hK=>?_)
    obtain ⟨hc1,hc2,hfz1,hfz2⟩:=Hcl.out _ X6.out
    go_wp2_with fail
    have hcs:(w6.setCell ⟨g,k * 3+1,none⟩ (.slice p6 st c6)).cell? ⟨g,k * 3+2,none⟩=some (.int .i64 (la:Int)):=(World.cell?_setCell_other _ _ _ _ (by simp)).trans hc2
    clear hc1 hc2 hfz1 hfz2
    refine hK.out _ _ (hcs) (fun hHeld=>?_)
    clear hK
    try simp only [Act.put,uA,uB,uC]
    refine wpAnyH_done (by kernel_rfl) ?_ _
    clear hHeld
    obtain ⟨hq1,hq2,hq3,hq4,hq5⟩:=Hend6.out
    clear Hend6
    go_wp2_with fail
    go_roundw
    case rel=>exact ⟨k+1,_,_,by omega,by go_num,hq5⟩
    case measure=>simp [intOf];omega
   ·have hc2:=(Hcl.out _ X0.out).1
    go_wp2_with fail
    clear hc2
    refine hK.out _ _ ((Hcl.out _ X0.out).2.1) (fun hHeld=>?_)
    clear hK
    try simp only [Act.put,uA,uB,uC]
    refine otk 15 (v:=?v2x15) rfl ?_
    simp only [Act.put,uA,uB,uC]
    refine zAB 1 rfl (by kernel_rfl) (by rfl) (fun K hK=>?_)
    go_wp2_with fail
    have X1:=zh (X0.out.alloc X0.out.size (.cells #[] 5))
    refine hK.out _ _ ((Hcl.out _ X1.out).2.1) (fun hHeld=>?_)
    clear hK
    try simp only [Act.put,uA,uB,uC]
    refine zAB 16 rfl (by kernel_rfl) (by rfl) (fun K hK=>?_)
    have hown0:=zAq Wd 5
    have hxd:=Hxd.out _ X1.out
    refine zAi (.tmp 35) (.tmp 49) 22 (by rfl) 5 i0 (.int .u8 0) 1 1 Tryz.underlying22 hi hz0 hz1 hz2 rfl (by decide) (.slice (some ⟨Wd.heap.size,0,none⟩) 0 0) 0 [] (by rfl) hown0 (.slice pb st cb) st _ (by rfl) hxd (zAM _) (by unfold maxLen;omega) (by omega) ?_
    clear hown0 hxd
    intro v6 w6 hown6 hgrow6 hloc6
    have X6:=zh (X1.out.grown hgrow6 X1.out.size (fun j e=>by have:=X0.out.size;simp [Value.ownBlock] at e;omega))
    have hnew6:=zAj (B:=Ws.heap.size) hloc6 (fun k hk=>by have:=X0.out.size;simp [Value.ownBlock] at hk;omega) X1.out.size
    rw [Nat.zero_add,List.nil_append] at hown6
    obtain ⟨p6,c6,rfl⟩:=OwnR.shape hown6
    have Hend6:=zh (Hend.out w6 (.slice p6 st c6) X6.out hown6 hnew6)
    clear hgrow6 hloc6 hown6 hnew6
    refine hK.out _ _ ((Hcl.out _ X6.out).2.1) (fun hHeld=>?_)
    clear hK
    try simp only [Act.put,uA,uB,uC]
    refine pl [17,18] ?_
    iterate 2 (refine pc rfl ?_;simp only [Act.put,uA,uB,uC])
    refine pn ?_
    refine zAB 19 rfl (by kernel_rfl) (by rfl) (fun K hK=>?_)
    obtain ⟨hc1,hc2,hfz1,hfz2⟩:=Hcl.out _ X6.out
    go_wp2_with fail
    have hcs:(w6.setCell ⟨g,k * 3+1,none⟩ (.slice p6 st c6)).cell? ⟨g,k * 3+2,none⟩=some (.int .i64 (la:Int)):=(World.cell?_setCell_other _ _ _ _ (by simp)).trans hc2
    clear hc1 hc2 hfz1 hfz2
    refine hK.out _ _ (hcs) (fun hHeld=>?_)
    clear hK
    try simp only [Act.put,uA,uB,uC]
    refine wpAnyH_done (by kernel_rfl) ?_ _
    clear hHeld
    obtain ⟨hq1,hq2,hq3,hq4,hq5⟩:=Hend6.out
    clear Hend6
    go_wp2_with fail
    go_roundw
    case rel=>exact ⟨k+1,_,_,by omega,by go_num,hq5⟩
    case measure=>simp [intOf];omega
  ·have hkN:k=N:=by omega
   subst hkN
   have hMt:M.take k=M:=List.take_of_length_le (by rw [hr.len,HN.out];exact Nat.le_refl _)
   have hLt:L.take k=L:=List.take_of_length_le (by rw [HN.out];exact Nat.le_refl _)
   have hfiles:(D.crash dr).files=M.map zAF.key:=by
    have h3:=hr.done
    rw [hMt,hLt] at h3
    rw [h3]
    show mp (zAA.crashF dr) D.files=_
    rw [H.out.files]
    unfold mp
    rw [List.map_map]
    rfl
   have hfin:zAU (wr.setCell ⟨r,2,none⟩ (.int .i64 (-1))) r (.slice pv k cv) M own' (D.crash dr):=(hr.core.left none).full rfl rfl hfiles (ok_crash H.out.ok dr)
   have hrw:own r∨w.heap.size≤r:=.inl H.out.or
   have hch:Chg own w (wr.setCell ⟨r,2,none⟩ (.int .i64 (-1))):=hr.chg.trans (Chg.setCell wr ⟨r,2,none⟩ (.int .i64 (-1))) fun j _ e=>by
    have e:j=r:=e
    rw [e]
    exact H.out.or
   have Hf:=zh (show ∃ own'' v' L',zAU (wr.setCell ⟨r,2,none⟩ (.int .i64 (-1))) r v' L' own'' (D.crash dr)∧Chg own w (wr.setCell ⟨r,2,none⟩ (.int .i64 (-1)))∧∀ j,own'' j→own j∨w.heap.size≤j from ⟨_,_,_,hfin,hch,hr.ext⟩)
   have hc1:=hr.core.c1
   have hc2:wr.cell? ⟨r,2,none⟩=some (.int .i64 (zDT D.fuse)):=zAC hr.core.cells rfl
   have hfz:=zAI hr.core.cells 2
   clear hr hfin hch hfiles hMt hLt
   go_wp2_with fail
   go_end0
   exact ⟨rfl,Hf.out⟩
end
section
variable {w:World} {r:Nat} {v:Value} {L:List zAF} {own:Nat→Prop} {D:zAA}
structure RCopy (w W:World) (r2:Nat) (v2:Value) (L:List zAF) (D:zAA) (k:Nat) (M:List zAF) (own2:Nat→Prop):Prop where
 core:zAf W r2 v2 M own2 D.room none
 keys:M.map zAF.key=(L.take k).map zAF.key
 new:∀ j,own2 j→w.heap.size≤j
 bel:Below w.heap.size w W
theorem RCopy.len {W:World} {r2:Nat} {v2:Value} {k:Nat} {M:List zAF} {own2:Nat→Prop} (h:RCopy w W r2 v2 L D k M own2) (hk:k≤L.length):M.length=k:=by
 have:=congrArg List.length h.keys
 rw [List.length_map,List.length_map,List.length_take,Nat.min_eq_left hk] at this
 exact this
end
structure zBC (w:World) (v:Value) (vs:List Value) (ls:List Bs):Prop where
 row:OwnR w 22 1 v ls.length vs
 has:∀ (i:Nat) u b,vs[i]?=some u→ls[i]?=some b→OwnB w 5 u b
 sep:∀ u ∈ vs,∀ k,u.ownBlock=some k→v.ownBlock≠some k
theorem zAJ (w:World) (o:Obj):Below w.heap.size w (w.alloc o):=(Below.refl _ _).alloc (Nat.le_refl _) o
theorem zBV (w:World) (u:Value) (e:TypeId) (fr:Nat × Nat):zAY (w.alloc (.cells #[u] e fr)) 1 (.slice (some ⟨w.heap.size,0,none⟩) 1 1) 1 [u]:=by
 refine ⟨rfl,some ⟨w.heap.size,0,none⟩,1,rfl,fun e=>(by cases e),fun a ha i x hx=>?_⟩
 cases ha
 rw [add_zero]
 refine zAC (zAW w _) ?_
 simpa using hx
section
variable {w w0 w1:World} {v v' u:Value} {vs:List Value} {ls:List Bs} {b:Bs}
theorem zBC.len (h:zBC w v vs ls):vs.length=ls.length:=by have:=h.row.1;omega
theorem zBC.below (h:zBC w v vs ls) (hb:Below w.heap.size w w1):zBC w1 v vs ls :=
 ⟨h.row.keep fun k hk=>hb.block k (OwnR.lt h.row hk),fun i u b hu hl=>OwnR.keep (h.has i u b hu hl) fun k hk=>hb.block k (OwnR.lt (h.has i u b hu hl) hk),h.sep⟩
theorem zBC.nil (w:World):zBC w (.slice none 0 0) [] []:=⟨OwnR.nil _ _ _,fun i u b hu=>(by simp at hu),fun u hu=>(by simp at hu)⟩
theorem mem_rows (h:zBC w v vs ls) {u:Value} (hu:u ∈ vs):∃ b,OwnB w 5 u b:=by
 obtain ⟨i,hi,rfl⟩:=List.getElem_of_mem hu
 have hl:i < ls.length:=by rw [← h.len];exact hi
 exact ⟨ls[i],h.has i _ _ (List.getElem?_eq_getElem hi) (List.getElem?_eq_getElem hl)⟩
theorem zBC.push (h:zBC w0 v vs ls) (hu:OwnB w0 5 u b) (hne:∀ k,u.ownBlock=some k→v.ownBlock≠some k) (hown:OwnR w1 22 1 v' (ls.length+1) (vs ++ [u])) (hg:w0.grownBy w1 v.ownBlock) (hloc:v'.ownBlock=v.ownBlock∨∃ g,v'.ownBlock=some g∧w0.heap.size≤g) :
  zBC w1 v' (vs ++ [u]) (ls ++ [b]):=by
 have hlen:=h.len
 have hk:∀ x c,OwnB w0 5 x c→(∀ k,x.ownBlock=some k→v.ownBlock≠some k)→OwnB w1 5 x c:=fun x c hx hs=>OwnR.keep hx fun k hk=>hg.block k (OwnR.lt hx hk) fun e=>hs k hk e.symm
 have hs':∀ x c,OwnB w0 5 x c→(∀ k,x.ownBlock=some k→v.ownBlock≠some k)→∀ k,x.ownBlock=some k→v'.ownBlock≠some k:=fun x c hx hs k hk e=>by
  rcases hloc with e1 | ⟨g,e1,hge⟩
  ·exact hs k hk (e1 ▸ e)
  ·rw [e] at e1
   cases e1
   have:=OwnR.lt hx hk
   omega
 refine ⟨by rw [List.length_append];exact hown,fun i x c hx hc=>?_,fun x hx k hk'=>?_⟩
 ·by_cases hi:i < vs.length
  ·rw [List.getElem?_append_left hi] at hx
   rw [List.getElem?_append_left (by omega)] at hc
   exact hk x c (h.has i x c hx hc) (h.sep x (List.mem_of_getElem? hx))
  ·rw [List.getElem?_append_right (by omega)] at hx
   rw [List.getElem?_append_right (by omega)] at hc
   have hi0:i - vs.length=0:=by
    have:=(List.getElem?_eq_some_iff.1 hx).1
    simp at this
    omega
   rw [hi0] at hx
   rw [show i - ls.length=0 by omega] at hc
   cases hx
   cases hc
   exact hk u b hu hne
 ·rcases List.mem_append.1 hx with hx | hx
  ·obtain ⟨c,hc⟩:=mem_rows h hx
   exact hs' x c hc (h.sep x hx) k hk'
  ·have:x=u:=by simpa using hx
   subst this
   exact hs' x b hu hne k hk'
end
def zCh (B:Nat) (v:Value) (vs:List Value):Prop:=(∀ k,v.ownBlock=some k→B≤k)∧∀ u ∈ vs,∀ k,u.ownBlock=some k→B≤k
theorem zCh.push {B:Nat} {w0:World} {v v' u:Value} {vs:List Value} (h:zCh B v vs) (hu:∀ j,u.ownBlock=some j→B≤j) (hloc:v'.ownBlock=v.ownBlock∨∃ g,v'.ownBlock=some g∧w0.heap.size≤g) (hB:B≤w0.heap.size):zCh B v' (vs ++ [u]):=by
 refine ⟨fun j hj=>?_,fun x hx j hj=>?_⟩
 ·rcases hloc with e | ⟨g,e,hge⟩
  ·exact h.1 j (e ▸ hj)
  ·rw [hj] at e
   cases e
   omega
 ·rcases List.mem_append.1 hx with hx | hx
  ·exact h.2 x hx j hj
  ·rw [List.mem_singleton] at hx
   exact hu j (hx ▸ hj)
def Scanned (w:World) (b:Bs) (e:Ending) (w':World):Prop:=∃ v vs,e=.returned (.tuple #[v,.int .i64 ((scan b).2:Int)])∧zBC w' v vs (scan b).1∧zCh w.heap.size v vs∧Below w.heap.size w w'
def ScanRel (w:World) (b:Bs) (n:Nat) (x y:Value) (wr:World):Prop:=∃ (k:Nat) (v:Value) (vs:List Value) (ls:List Bs),k≤n∧y=.int .i64 k∧v=x∧ls.length≤k∧zBC wr v vs ls∧zCh w.heap.size v vs∧Below w.heap.size w wr∧(scan b).1=ls ++ (scan (b.drop k)).1∧(scan b).2=k+(scan (b.drop k)).2
theorem scan_calls {w:World} {p:Option Addr} {n c:Nat} {b:Bs} (h:HasB w (.slice p n c) b) (hnc:n≤c) (hl:b.length≤1073741824) :
  Calls Tryz.prog 154 #[.slice p n c] w (Scanned w b):=by
 obtain ⟨i1,hi1,-,hs1,-⟩:=info_parts (show (Tryz.prog.info? 5).map (fun i=>(i.zero,i.size,i.bytes))=some (some (.int .u8 0),1,1) by kernel_rfl)
 obtain ⟨i0,hi,hz0,hz1,hz2⟩:=info_parts (show (Tryz.prog.info? 22).map (fun i=>(i.zero,i.size,i.bytes))=some (some (.slice none 0 0),1,24) by kernel_rfl)
 have hn:b.length=n:=by obtain ⟨_,_,e⟩:=h.slice;simp only [Value.slice.injEq] at e;exact e.2.1.symm
 have hn30:n≤1073741824:=by omega
 have H:=zh h
 have Hn:=zh hn
 have Hnc:=zh hnc
 clear h hn hnc hl
 go_enter Tryz.func154,Tryz.ntmps154
 go_wp2_with fail
 go_loopw [4,5] (ScanRel w b n) (fun _ y _=>n - (intOf y).toNat)
 case atStart=>exact ⟨0,_,[],[],Nat.zero_le _,rfl,rfl,Nat.zero_le _,zBC.nil _,⟨fun k hk=>(by cases hk),fun u hu=>(by simp at hu)⟩,Below.refl _ _,by simp,by simp⟩
 case round =>
  obtain ⟨k,v,vs,ls,hk,rfl,rfl,hlk,hrow,hnew,hb,hsc1,hsc2⟩:=hrel
  by_cases hlt:k < n
  ·obtain ⟨r0,hr0⟩:∃ r0,(Value.slice p n c).ownBlock≠some r0:=by
    cases (Value.slice p n c).ownBlock with
    | none=>exact ⟨0,by simp⟩
    | some g=>exact ⟨g+1,by simp⟩
   obtain ⟨p',c',hsl,hh,hc',-⟩:=zDy (P:=Tryz.prog) Tryz.underlying22 hi1 hs1 (HasB.below H.out hb) Hnc.out r0 k hr0 (Nat.le_of_lt hlt)
   have Hd:=zh (dec_calls hh hc' (by rw [List.length_drop,Hn.out];omega))
   have Hx:=zh (And.intro hrow (And.intro hnew (And.intro hb (And.intro hsc1 hsc2))))
   have hbl:(b.drop k).length=n - k:=by rw [List.length_drop,Hn.out]
   clear hh hc' hrow hnew hb hsc1 hsc2
   by_cases he:decE (b.drop k)=0
   ·have hL:=zDH he
    rw [hbl] at hL
    have Hgo:=zh (scan_go he)
    rw [List.drop_drop] at Hgo
    unfold zCf at Hd
    rw [he] at Hd
    generalize decL (b.drop k)=L at *
    generalize decB (b.drop k)=x at *
    clear he
    go_wp2_with fail
    refine Hd.out.mono ?_
    rintro e w2 ⟨v2,rfl,hv2,hn2,hb2⟩
    have hrow2:=Hx.out.1.below hb2
    have Hv2:=zh hv2
    have Hsep:=zh (show ∀ j,v2.ownBlock=some j→v.ownBlock≠some j from fun j hj e=>by have h1:=hn2 j hj;have h2:=OwnR.lt Hx.out.1.row e;omega)
    have Hn2:=zh (show ∀ j,v2.ownBlock=some j→w.heap.size≤j from fun j hj=>Nat.le_trans Hx.out.2.2.1.size (hn2 j hj))
    have Hb2:=zh hb2
    have Hr2:=zh hrow2
    obtain ⟨p2,c2,rfl,-⟩:=zAX hv2
    clear hv2 hn2 hb2 hrow2 Hd
    generalize hq:x.length=q at *
    have Hq:=zh hq
    generalize hm:ls.length=m at *
    have Hm:=zh hm
    clear hq hm
    have Hrow2:=zh (show OwnR w2 22 1 v m vs by have:=Hr2.out.row;rwa [Hm.out] at this)
    go_wp2_with (at_builtin;have hal:=Hrow2.out.keep (w':=w2.alloc (.cells #[.slice p2 q c2] 22)) (fun j hj=>(zAJ w2 _).block j (OwnR.lt Hrow2.out hj));have hxx:=zBV w2 (.slice p2 q c2) 22 (0,0);refine zAR _ rfl (.tmp 23) (.tmp 25) 108 rfl 22 i0 (.slice none 0 0) 1 24 Tryz.underlying108 hi hz0 hz1 hz2 rfl (by decide) v m _ rfl hal (.slice (some ⟨w2.heap.size,0,none⟩) 1 1) 1 _ rfl hxx (by simp [Value.oneCell']) (by unfold maxLen;omega) (by omega) ?_;clear hal hxx;intro v3 w3 hown3 hgrow3 hloc3;go_loud (have hE:=zBC.push (b:=x) (Hr2.out.below (zAJ w2 (.cells #[.slice p2 q c2] 22))) (OwnR.keep Hv2.out fun j hj=>(zAJ w2 _).block j (OwnR.lt Hv2.out hj)) Hsep.out (by rw [Hm.out];exact hown3) hgrow3 hloc3;have hN:=zCh.push (u:=.slice p2 q c2) Hx.out.2.1 Hn2.out hloc3 (by have h1:=Hx.out.2.2.1.size;have h2:=Hb2.out.size;have h3:=(zAJ w2 (.cells #[.slice p2 q c2] 22)).size;omega);have hB:Below w.heap.size w w3:=by { have h1:=Hx.out.2.2.1.trans ((Hb2.out.trans ((zAJ w2 (.cells #[.slice p2 q c2] 22)).mono Hb2.out.size)).mono Hx.out.2.2.1.size);exact ((Chg.of_below h1).trans (Chg.of_grown hgrow3) fun j hj e=>by have h5:=Hx.out.2.1.1 j e.symm;omega).below (Nat.le_refl _) fun _ _=>id };have HE:=zh (And.intro hE (And.intro hN hB));clear hE hN hB hgrow3 hloc3;obtain ⟨p3,q3,rfl⟩:=OwnR.shape hown3;clear hown3))
    go_roundw
    case rel=>exact ⟨k+L,_,_,ls ++ [x],by omega,by go_num,rfl,by rw [List.length_append,Hm.out];simp;omega,HE.out.1,HE.out.2.1,HE.out.2.2,by rw [Hx.out.2.2.2.1,Hgo.out];simp,by rw [Hx.out.2.2.2.2,Hgo.out];simp;omega⟩
    case measure=>simp [intOf];omega
   ·have Hst:=zh (zBm (.inr he))
    have hne:((decE (b.drop k):Int) != 0)=true:=by simp;omega
    unfold zCf at Hd
    generalize decE (b.drop k)=E at *
    generalize decL (b.drop k)=L at *
    go_wp2_with fail
    refine Hd.out.mono ?_
    rintro e w2 ⟨v2,rfl,-,-,hb2⟩
    have HE:=zh (show Scanned w b (.returned (.tuple #[v,.int .i64 (k:Int)])) w2 from ⟨v,vs,by rw [Hx.out.2.2.2.2,Hst.out];rfl,by rw [Hx.out.2.2.2.1,Hst.out,List.append_nil];exact Hx.out.1.below hb2,Hx.out.2.1,Hx.out.2.2.1.trans (hb2.mono Hx.out.2.2.1.size)⟩)
    clear hb2 Hd
    go_wp2_with fail
    go_ret2
    exact HE.out
  ·have he:b.drop k=[]:=List.drop_of_length_le (by rw [Hn.out];omega)
   rw [he,zBm (.inl rfl)] at hsc1 hsc2
   have HE:=zh (show Scanned w b (.returned (.tuple #[v,.int .i64 (k:Int)])) wr from ⟨v,vs,by rw [hsc2];rfl,by rw [hsc1,List.append_nil];exact hrow,hnew,hb⟩)
   clear hrow hnew hb hsc1 hsc2 he
   go_wp2_with fail
   go_ret2
   exact HE.out
theorem xor_range (a b:Int) (h1:0≤a) (h2:a < 4294967296) (h3:0≤b) (h4:b < 4294967296):0≤bits .xor .u32 a b∧bits .xor .u32 a b < 4294967296:=by
 rw [u32_xor a b h1 h2 h3 h4]
 have:a.toNat ^^^ b.toNat < 2 ^ 32:=Nat.xor_lt_two_pow (by omega) (by omega)
 omega
theorem and_one (z:Int) (h1:0≤z) (h2:z < 4294967296):bits .and .u32 z 1=0∨bits .and .u32 z 1=1:=by
 rw [u32_and z 1 h1 h2 (by decide) (by decide)]
 have:z.toNat &&& (1:Int).toNat=z.toNat % 2:=Nat.and_one_is_mod _
 rw [this]
 omega
theorem bitF_one {z:Int} (h:bits .and .u32 z 1=1):bitF z=bits .xor .u32 (z / 2) 3988292384:=by
 unfold bitF
 rw [h]
 congr 1
theorem bitF_zero {z:Int} (h1:0≤z) (h2:z < 4294967296) (h:bits .and .u32 z 1=0):bitF z=z / 2:=by
 unfold bitF
 rw [h]
 have e:bits .and .u32 3988292384 (-0 % 4294967296)=0:=by decide
 rw [e,u32_xor (z / 2) 0 (by omega) (by omega) (by decide) (by decide)]
 have:(z / 2).toNat ^^^ (0:Int).toNat=(z / 2).toNat:=Nat.xor_zero _
 rw [this]
 omega
theorem bitF_range {z:Int} (h1:0≤z) (h2:z < 4294967296):0≤bitF z∧bitF z < 4294967296:=by
 rcases and_one z h1 h2 with h | h
 ·rw [bitF_zero h1 h2 h];omega
 ·rw [bitF_one h];exact xor_range _ _ (by omega) (by omega) (by decide) (by decide)
theorem zCp {z:Int} (h1:0≤z) (h2:z < 4294967296):∀ k,0≤zDm k z∧zDm k z < 4294967296
 | 0=>⟨h1,h2⟩
 | k+1=>bitF_range (zCp h1 h2 k).1 (zCp h1 h2 k).2
theorem byteF_range {z:Int} (h1:0≤z) (h2:z < 4294967296) (c:UInt8):0≤byteF z c∧byteF z c < 4294967296:=by
 have hc:c.toNat < 256:=c.toNat_lt
 have:=xor_range z (c.toNat:Int) h1 h2 (by omega) (by omega)
 exact zCp this.1 this.2 8
theorem rowF_range {z:Int} (h1:0≤z) (h2:z < 4294967296) (l:Bs):0≤rowF z l∧rowF z l < 4294967296:=by
 induction l generalizing z with
 | nil=>exact ⟨h1,h2⟩
 | cons c r ih=>exact ih (byteF_range h1 h2 c).1 (byteF_range h1 h2 c).2
theorem zDN {w:World} {p:Option Addr} {m c:Nat} {l:Bs} (hx:HasB w (.slice p m c) l) (hl:l.length≤140737488355328) :
  Calls Tryz.prog 184 #[.slice p m c] w (fun e w'=>e=.returned (.int .u32 (sumF l))∧w'=w):=by
 have hm:m=l.length:=(zBj hx).1
 have Hat:=zh hx.at
 have Hm:=zh hm.symm
 have hmm:m≤140737488355328:=by omega
 clear hx hm hl
 go_enter Tryz.func184,Tryz.ntmps184
 go_wp2_with fail
 go_loop [3,4] (fun v i=>∃ j:Nat,j≤m∧i=.int .i64 j∧v=.int .u32 (rowF 4294967295 (l.take j))) (fun _ i=>m - (intOf i).toNat)
 case atStart=>exact ⟨0,Nat.zero_le _,rfl,rfl⟩
 case round =>
  obtain ⟨j,hj,rfl,rfl⟩:=hrel
  by_cases hlj:j < m
  ·have hljl:j < l.length:=by rw [Hm.out];exact hlj
   have Hbt:=zh (rowF_take 4294967295 l hljl)
   rcases Hat.out with h | ⟨b2,o2,c2,e1,hcx⟩
   ·rw [h] at hljl
    simp at hljl
   rw [Hm.out] at e1
   cases e1
   have hcb:=hcx j _ (List.getElem?_eq_getElem hljl)
   have hry:=rowF_range (z:=4294967295) (by decide) (by decide) (l.take j)
   generalize l[j]=cc at *
   generalize rowF 4294967295 (l.take j)=y at *
   have hcc:cc.toNat < 256:=cc.toNat_lt
   clear hcx
   go_wp2_with fail
   have HB:=zh (show byteF y cc=zDm 8 (bits .xor .u32 y (cc.toNat:Int)) from rfl)
   have hz0r:=xor_range y (cc.toNat:Int) hry.1 hry.2 (by omega) (by omega)
   generalize bits .xor .u32 y (cc.toNat:Int)=z0 at *
   go_loop [3,5] (fun v i=>∃ q:Nat,q≤8∧i=.int .i64 q∧v=.int .u32 (zDm q z0)) (fun _ i=>8 - (intOf i).toNat)
   case atStart=>exact ⟨0,Nat.zero_le _,rfl,rfl⟩
   case round =>
    obtain ⟨q,hq,rfl,rfl⟩:=hrel
    by_cases hlq:q < 8
    ·have Hit:=zh (show zDm (q+1) z0=bitF (zDm q z0) from rfl)
     have hrq:=zCp hz0r.1 hz0r.2 q
     generalize zDm q z0=z at *
     rcases and_one z hrq.1 hrq.2 with hb | hb
     ·have Hbf:=zh (bitF_zero hrq.1 hrq.2 hb)
      go_wp2_with fail
      go_round
      case rel=>exact ⟨q+1,by omega,by go_num,by rw [Hit.out,Hbf.out]⟩
      case measure=>simp [intOf];omega
     ·have Hbf:=zh (bitF_one hb)
      go_wp2_with fail
      go_round
      case rel=>exact ⟨q+1,by omega,by go_num,by rw [Hit.out,Hbf.out]⟩
      case measure=>simp [intOf];omega
    ·have hq8:q=8:=by omega
     subst hq8
     go_wp2_with fail
     go_round
     case rel=>exact ⟨j+1,by omega,by go_num,by rw [Hbt.out,HB.out]⟩
     case measure=>simp [intOf];omega
  ·have hjm:j=m:=by omega
   have hlk:l.take j=l:=List.take_of_length_le (by rw [Hm.out];omega)
   rw [hlk]
   clear hlk
   have He:=zh (show sumF l=bits .xor .u32 IntKind.u32.max (rowF 4294967295 l) from rfl)
   generalize rowF 4294967295 l=x at *
   go_wp2_with fail
   go_ret
   exact ⟨by rw [He.out];rfl,rfl⟩
def NewO (w:World) (l:Bs) (e:Ending) (w':World):Prop:=∃ v,e=.returned v∧OwnB w' 5 v l∧(∀ k,v.ownBlock=some k→w.heap.size≤k)∧Below w.heap.size w w'
theorem own_lit {w:World} (cs:Array Value) (l:Bs) (e:TypeId) (h:cs.toList=zAN l) (n:Nat) (hn:n=l.length) (hm:n≤maxLen):OwnB (w.alloc (.cells cs e)) e (.slice (some ⟨w.heap.size,0,none⟩) n n) l:=by
 subst hn
 refine ⟨by rw [zCZ,Nat.mul_one],.inr ⟨_,_,cs,rfl,zAW w _,Nat.le_refl _,?_,?_,?_⟩⟩
 ·exact hm
 ·have:=congrArg List.length h
  rw [zCZ] at this
  simpa using Nat.le_of_eq this.symm
 ·rw [h,← zCZ l,Nat.mul_one,List.take_length]
theorem zDa {w:World} (v:Nat) (h1:v < 4294967296) :
  Calls Tryz.prog 183 #[.int .u32 (v:Int)] w (NewO w (zAk v)):=by
 have hfin:NewO w (zAk v) (.returned (.slice (some ⟨w.heap.size,0,none⟩) 4 4)) (w.alloc (.cells #[.int .u8 ((v:Int) % 256),.int .u8 ((v:Int) / 256 % 256),.int .u8 ((v:Int) / 65536 % 256),.int .u8 ((v:Int) / 16777216)] 5)) :=
  ⟨_,rfl,own_lit _ (zAk v) _ (by
   simp only [zAk,zAN,List.map_cons,List.map_nil,UInt8.toNat_ofNat']
   have e1:(v:Int) / 16777216=((v / 16777216 % 256:Nat):Int):=by omega
   have e2:(v:Int) % 256=((v % 256:Nat):Int):=by omega
   have e3:(v:Int) / 256 % 256=((v / 256 % 256:Nat):Int):=by omega
   have e4:(v:Int) / 65536 % 256=((v / 65536 % 256:Nat):Int):=by omega
   rw [e1,e2,e3,e4]) 4 rfl (by decide),fun k hk=>(by cases hk;exact Nat.le_refl _),(Below.refl _ _).alloc (Nat.le_refl _) _⟩
 have Hfin:=zh hfin
 clear hfin
 go_enter Tryz.func183,Tryz.ntmps183
 go_wp2_with fail
 go_ret
 exact Hfin.out
theorem rfromFour_calls {w:World} {b o n c:Nat} {a0 a1 a2 a3:UInt8} (hn:4≤n) (h0:w.cell? ⟨b,o,none⟩=some (.int .u8 (a0.toNat:Int))) (h1:w.cell? ⟨b,o+1,none⟩=some (.int .u8 (a1.toNat:Int)))
  (h2:w.cell? ⟨b,o+2,none⟩=some (.int .u8 (a2.toNat:Int))) (h3:w.cell? ⟨b,o+3,none⟩=some (.int .u8 (a3.toNat:Int))) :
  Calls Tryz.prog 197 #[.slice (some ⟨b,o,none⟩) n c] w (fun e w'=>e=.returned (.int .u32 (ofFour a0 a1 a2 a3:Int))∧∃ q,w'=w.drewN q):=by
 have l0:=a0.toNat_lt
 have l1:=a1.toNat_lt
 have l2:=a2.toNat_lt
 have l3:=a3.toNat_lt
 have i0:(0:Int) < (n:Int):=by omega
 have i1:(1:Int) < (n:Int):=by omega
 have i2:(2:Int) < (n:Int):=by omega
 have i3:(3:Int) < (n:Int):=by omega
 have hF:=or_four l0 l1 l2 l3
 have HF:=zh (show bits .or .u32 (bits .or .u32 (bits .or .u32 (a0.toNat:Int) ((a1.toNat:Int) * 256)) ((a2.toNat:Int) * 65536)) ((a3.toNat:Int) * 16777216)=(ofFour a0 a1 a2 a3:Int) from hF)
 clear hF
 generalize ofFour a0 a1 a2 a3=r at *
 generalize a0.toNat=x0 at *
 generalize a1.toNat=x1 at *
 generalize a2.toNat=x2 at *
 generalize a3.toNat=x3 at *
 go_enter Tryz.func197,Tryz.ntmps197
 go_wp2_with fail
 go_quiet (fail)
 go_wp2
 go_ret
 exact ⟨by rw [← HF.out];rfl,_,rfl⟩
theorem rfour_at {w:World} {p:Option Addr} {n c:Nat} {b:Bs} (h:HasB w (.slice p n c) b) (h4:4≤b.length) :
  Calls Tryz.prog 197 #[.slice p n c] w (fun e w'=>e=.returned (.int .u32 (fourAt b:Int))∧∃ q,w'=w.drewN q):=by
 have h1:=h.at
 obtain ⟨p',c',e⟩:=h.slice
 cases e
 rcases h1 with e | ⟨g,o,c2,e,hc⟩
 ·rw [e] at h4
  simp at h4
 ·cases e
  have hb:∀ i,i < b.length→b[i]?=some (b.getD i 0):=fun i hi=>by simp [List.getD,List.getElem?_eq_getElem hi]
  exact rfromFour_calls h4 (by simpa using hc 0 _ (hb 0 (by omega))) (hc 1 _ (hb 1 (by omega))) (hc 2 _ (hb 2 (by omega))) (hc 3 _ (hb 3 (by omega)))
theorem ownB_keep {w w':World} {v:Value} {l:Bs} (h:OwnB w 5 v l) (hb:Below w.heap.size w w'):OwnB w' 5 v l:=OwnB.keep h fun k hk=>hb.block k (OwnR.lt h hk)
theorem renc_calls {w:World} {p:Option Addr} {m c:Nat} {l:Bs} (hx:HasB w (.slice p m c) l) (hl:l.length≤1048576) :
  Calls Tryz.prog 132 #[.slice p m c] w fun e w'=>∃ v,e=.returned (.tuple #[v,.int .i64 0])∧OwnB w' 5 v (zAG l)∧(∀ k,v.ownBlock=some k→w.heap.size≤k)∧Below w.heap.size w w':=by
 have hml:m=l.length:=(zBj hx).1
 have hm:m≤1048576:=by omega
 have Hx:=zh hx
 have Hml:=zh hml
 have Hf1:=zh (zDa (w:=w) m (by omega))
 obtain ⟨i0,hi,hz0,hz1,hz2⟩:=info_parts (show (Tryz.prog.info? 5).map (fun i=>(i.zero,i.size,i.bytes))=some (some (.int .u8 0),1,1) by kernel_rfl)
 clear hx hml hl
 go_enter Tryz.func132,Tryz.ntmps132
 go_wp2_with fail
 refine Hf1.out.mono ?_
 rintro e w1 ⟨v1,rfl,ho1,hn1,hb1⟩
 obtain ⟨p1,c1,rfl⟩:=OwnR.shape ho1
 have Ho1:=zh (And.intro ho1 (And.intro hn1 hb1))
 have Hs1:=zh (zDN (p:=p1) (m:=4) (c:=c1) ho1.has (by rw [show (zAk m).length=4 from rfl];decide))
 rw [show (zAk m).length=4 from rfl]
 clear ho1 hn1 hb1 Hf1
 go_wp2_with fail
 refine Hs1.out.mono ?_
 rintro e w2 ⟨rfl,rfl⟩
 rw [zCA]
 have Hf2:=zh (zDa (w:=w2) (sumN (zAk m)) (zDf _))
 have hhd:zBb l.length=zAk m ++ zAk (sumN (zAk m)):=by rw [← Hml.out];rfl
 have Hhd:=zh hhd
 generalize sumN (zAk m)=q at *
 clear hhd Hs1
 go_wp2_with fail
 refine Hf2.out.mono ?_
 rintro e w3 ⟨v2,rfl,ho2,hn2,hb2⟩
 obtain ⟨p2,c2,rfl⟩:=OwnR.shape ho2
 have X3:=zh (Ho1.out.2.2.trans (hb2.mono Ho1.out.2.2.size))
 have hown1:OwnR w3 5 1 (.slice p1 4 c1) 4 (zAN (zAk m)):=ownB_keep Ho1.out.1 hb2
 have Hown1:=zh hown1
 have H2:=zh (show zAY w3 1 (.slice p2 4 c2) 4 (zAN (zAk q)) from ho2.has)
 have Hxs:=zh (show ∀ W,Below w.heap.size w W→zAY W 1 (.slice p m c) m (zAN l) from fun W hb=>by
  have h:=Hx.out.below hb
  unfold HasB at h
  rw [← Hml.out] at h
  exact h)
 rw [show (zAk q).length=4 from rfl]
 clear ho2 hn2 hb2 hown1 Hf2
 go_wp2_with (first | (at_builtin;refine zAR w3 rfl (.tmp 12) (.tmp 15) 22 rfl 5 i0 (.int .u8 0) 1 1 Tryz.underlying22 hi hz0 hz1 hz2 rfl (by decide) (.slice p1 4 c1) 4 _ rfl Hown1.out (.slice p2 4 c2) 4 _ rfl H2.out (zAM _) (by decide) (by decide) ?_;intro v12 w12 hown12 hgrow12 hloc12;have hX:=X3.out.grown hgrow12 X3.out.size (fun j e=>Ho1.out.2.1 j e);have hnew:=zAj (B:=w.heap.size) hloc12 Ho1.out.2.1 X3.out.size;obtain ⟨p12,c12,rfl⟩:=OwnR.shape hown12;have X12:=zh (And.intro hX (And.intro hown12 hnew));clear hown12 hgrow12 hloc12 hX hnew) | (at_builtin;refine zAR w12 rfl (.tmp 17) (.tmp 18) 22 rfl 5 i0 (.int .u8 0) 1 1 Tryz.underlying22 hi hz0 hz1 hz2 rfl (by decide) (.slice p12 8 c12) 8 _ rfl X12.out.2.1 (.slice p m c) m _ rfl (Hxs.out _ X12.out.1) (zAM _) (by unfold maxLen;omega) (by omega) ?_;intro v13 w13 hown13 hgrow13 hloc13;have hX:=X12.out.1.grown hgrow13 X12.out.1.size (fun j e=>X12.out.2.2 j e);have hnew:=zAj (B:=w.heap.size) hloc13 X12.out.2.2 X12.out.1.size;obtain ⟨p13,c13,rfl⟩:=OwnR.shape hown13;have X13:=zh (And.intro hX (And.intro hown13 hnew));clear hown13 hgrow13 hloc13 hX hnew))
 have ho13:OwnB w13 5 (.slice p13 (8+m) c13) (zBb l.length ++ l):=by
  unfold OwnB
  rw [Hhd.out,zBR,zBR,List.length_append,List.length_append,show (zAk m).length=4 from rfl,show (zAk q).length=4 from rfl,← Hml.out]
  exact X13.out.2.1
 have hl13:(zBb l.length ++ l).length=8+m:=by rw [List.length_append,zAy,← Hml.out]
 have Hs2:=zh (zDN (p:=p13) (m:=8+m) (c:=c13) ho13.has (by rw [hl13];omega))
 have Ho13:=zh ho13
 have Hl13:=zh hl13
 have Hfr:=zh (show zAG l=(zBb l.length ++ l) ++ zAk (sumN (zBb l.length ++ l)) from rfl)
 clear ho13 hl13
 generalize zBb l.length ++ l=Y at *
 refine Hs2.out.mono ?_
 rintro e w14 ⟨rfl,rfl⟩
 rw [zCA]
 have Hf3:=zh (zDa (w:=w14) (sumN Y) (zDf _))
 generalize sumN Y=q2 at *
 clear Hs2
 go_wp2_with fail
 refine Hf3.out.mono ?_
 rintro e w15 ⟨v15,rfl,ho15,hn15,hb15⟩
 obtain ⟨p15,c15,rfl⟩:=OwnR.shape ho15
 have X15:=zh (X13.out.1.trans (hb15.mono X13.out.1.size))
 have hown13:OwnR w15 5 1 (.slice p13 (8+m) c13) (8+m) (zAN Y):=by
  have h:=ownB_keep Ho13.out hb15
  unfold OwnB at h
  rw [Hl13.out] at h
  exact h
 have Hown13:=zh hown13
 have H15:=zh (show zAY w15 1 (.slice p15 4 c15) 4 (zAN (zAk q2)) from ho15.has)
 rw [show (zAk q2).length=4 from rfl]
 clear ho15 hn15 hb15 hown13 Hf3
 go_wp2_with (at_builtin;refine zAR w15 rfl (.tmp 20) (.tmp 23) 22 rfl 5 i0 (.int .u8 0) 1 1 Tryz.underlying22 hi hz0 hz1 hz2 rfl (by decide) (.slice p13 (8+m) c13) (8+m) _ rfl Hown13.out (.slice p15 4 c15) 4 _ rfl H15.out (zAM _) (by unfold maxLen;omega) (by omega) ?_;intro v16 w16 hown16 hgrow16 hloc16;have hX:=X15.out.grown hgrow16 X15.out.size (fun j e=>X13.out.2.2 j e);have hnew:=zAj (B:=w.heap.size) hloc16 X13.out.2.2 X15.out.size;obtain ⟨p16,c16,rfl⟩:=OwnR.shape hown16;have X16:=zh (And.intro hX (And.intro hown16 hnew));clear hown16 hgrow16 hloc16 hX hnew)
 go_ret2
 refine ⟨_,rfl,?_,X16.out.2.2,X16.out.1⟩
 unfold OwnB
 rw [Hfr.out,List.length_append,Hl13.out,show (zAk q2).length=4 from rfl,zBR]
 exact X16.out.2.1
theorem four_inv (a0 a1 a2 a3:UInt8):zAk (ofFour a0 a1 a2 a3)=[a0,a1,a2,a3]:=by
 have l0:=a0.toNat_lt
 have l1:=a1.toNat_lt
 have l2:=a2.toNat_lt
 have l3:=a3.toNat_lt
 have e:∀ (n:Nat) (a:UInt8),n % 256=a.toNat→UInt8.ofNat n=a:=fun n a h=>by
  apply UInt8.toNat_inj.1
  rw [UInt8.toNat_ofNat']
  exact h
 unfold zAk ofFour
 rw [e _ a0 (by omega),e _ a1 (by omega),e _ a2 (by omega),e _ a3 (by omega)]
theorem fourAt_inv {b:Bs} (h:4≤b.length):zAk (fourAt b)=b.take 4:=by
 match b,h with
 | a0 :: a1 :: a2 :: a3 :: r,_=>exact four_inv a0 a1 a2 a3
theorem four_inj {m n:Nat} (hm:m < 4294967296) (hn:n < 4294967296) (h:zAk m=zAk n):m=n:=by
 have e1:=zCI m hm []
 have e2:=zCI n hn []
 rw [h] at e1
 omega
theorem head_iff {b:Bs} (h:8≤b.length):b.take 8=zBb (fourAt b) ↔ fourAt (b.drop 4)=sumN (b.take 4):=by
 have h1:=fourAt_inv (b:=b) (by omega)
 have h2:=fourAt_inv (b:=b.drop 4) (by rw [List.length_drop];omega)
 have e8:b.take 8=b.take 4 ++ (b.drop 4).take 4:=by rw [← List.take_add]
 have eh:zBb (fourAt b)=b.take 4 ++ zAk (sumN (b.take 4)):=by
  show zAk (fourAt b) ++ zAk (sumN (zAk (fourAt b)))=_
  rw [h1]
 rw [e8,eh,List.append_cancel_left_eq,← h2]
 exact ⟨fun e=>four_inj (zCJ _) (zDf _) e,fun e=>by rw [e]⟩
theorem zBr {P:Program} {f:FuncId} {args:Array Value} {w:World} {n:Nat} {v:Value} (h:Calls P f args (w.drewN n) fun e w'=>e=.returned v∧∃ q,w'=(w.drewN n).drewN q):Calls P f args (w.drewN n) fun e w''=>e=.returned v∧∃ m,w''=w.drewN m :=
 h.mono fun _ _ ⟨he,q,hq⟩=>⟨he,n+q,by rw [hq,World.drewN_drewN]⟩
theorem run_window {P:Program} (W:World) (t e:TypeId) (ht:P.underlying t=some (.slice e)) (hz:∀ w,(Go.sizeOf e).run P w=.ok 1 w) (b o len cap l h:Nat) (hlh:l≤h) (hh:h≤cap) (hl:l < cap) :
  (Instr.slice t (.slice (some ⟨b,o,none⟩) len cap) (some (.int .i64 (l:Int))) (some (.int .i64 (h:Int))) none).run P W=.ok (.slice (some ⟨b,o+l,none⟩) (h - l) (cap - l)) W:=by
 have ht':P.underlying t=some (.slice (P.elem t)):=by simp [Program.elem,ht]
 have he:P.elem t=e:=by simp [Program.elem,ht]
 rw [run_slice_lh W t _ _ _ ht' .i64 .i64 _ _ (by omega) (by omega) (by omega),he,hz]
 have hne:¬ cap=l:=by omega
 by_cases h0:l=0
 ·subst h0
  simp [Result.andThen,sliced,Addr.add,hne]
 ·simp [Result.andThen,sliced,Addr.add,hne,h0]
theorem zAd (w:World) (n:Nat):Below w.heap.size w (w.drewN n):=⟨rfl,rfl,rfl,Nat.le_refl _,fun _ _=>rfl⟩
theorem zCO {w W:World} (h:Below w.heap.size w W) (n:Nat):Below w.heap.size w (W.drewN n):=h.trans ⟨rfl,rfl,rfl,Nat.le_refl _,fun _ _=>rfl⟩
theorem rdec_calls {w:World} {p:Option Addr} {n c:Nat} {b:Bs} (h:HasB w (.slice p n c) b) (hnc:n≤c) (hl:b.length≤140737488355328) :
  Calls Tryz.prog 165 #[.slice p n c] w (zCf w b):=by
 have hn:n=b.length:=(zBj h).1
 subst hn
 obtain ⟨i0,hi,hz0,hz1,hz2⟩:=info_parts (show (Tryz.prog.info? 5).map (fun i=>(i.zero,i.size,i.bytes))=some (some (.int .u8 0),1,1) by kernel_rfl)
 by_cases h8:b.length < 8
 ·have Hfin:=zh (zA7 (w:=w) (w':=w) (b:=b) (k:=2) (by unfold decE;rw [if_pos h8]) (by decide) (Below.refl _ _))
  generalize hN:b.length=N at *
  clear hN h
  go_enter Tryz.func165,Tryz.ntmps165
  go_wp2_with fail
  go_ret3
  exact Hfin.out
 ·have hpos:0 < b.length:=by omega
  rcases h.at with e | ⟨g,o,c2,e,-⟩
  ·rw [e] at hpos
   simp at hpos
  cases e
  have H4:=zh (fun (W:World) (hb:Below w.heap.size w W)=>rfour_at (HasB.from (h.below hb) (k:=4) (by omega) (c - 4)) (by rw [List.length_drop];omega))
  have HS:=zh (fun (W:World) (hb:Below w.heap.size w W)=>zDN (HasB.cut (h.below hb) (k:=4) (by omega) c) (by rw [List.length_take];omega))
  have hs1:∀ W,(Instr.slice 22 (.slice (some ⟨g,o,none⟩) b.length c) (some (.int .i64 4)) none none).run Tryz.prog W=.ok (.slice (some ⟨g,o+4,none⟩) (b.length - 4) (c - 4)) W:=fun W=>run_from W Tryz.underlying22 hi hz1 g o b.length c 4 (by omega) hnc (by omega)
  have hs2:∀ W,(Instr.slice 22 (.slice (some ⟨g,o,none⟩) b.length c) none (some (.int .i64 4)) none).run Tryz.prog W=.ok (.slice (some ⟨g,o,none⟩) 4 c) W:=fun W=>zBx W Tryz.underlying22 hi _ _ c 4 (by omega)
  by_cases hh:fourAt (b.drop 4)=sumN (b.take 4)
  ·have hhead:=(head_iff (b:=b) (by omega)).2 hh
   have heq:((fourAt (b.drop 4):Int) != sumF (b.take 4))=false:=by rw [zCA];simp;omega
   have HF:=zh (fun (W:World) (hb:Below w.heap.size w W)=>rfour_at (h.below hb) (by omega))
   by_cases hm:1048576 < fourAt b
   ·have Hfin:=zh (fun W=>zA7 (w:=w) (w':=W) (b:=b) (k:=5) (by unfold decE;rw [if_neg h8,if_neg (by simpa using hhead),if_pos hm]) (by decide))
    have hlt:=zCJ b
    generalize fourAt (b.drop 4)=x at *
    generalize sumF (b.take 4)=y at *
    generalize fourAt b=z at *
    generalize b.length=N at *
    clear h hh hhead
    go_enter Tryz.func165,Tryz.ntmps165
    go_wp2_with fail
    go_quiet ((first | (go_at_call 197;refine zBr (H4.out _ (zAd _ _))) | (go_at_call 184;refine Calls.quiet_of_same (HS.out _ (zAd _ _)))))
    go_wp2_with fail
    refine (HF.out _ (zAd _ _)).mono ?_
    rintro e w2 ⟨rfl,q2,rfl⟩
    go_wp2_with fail
    go_ret3
    exact Hfin.out _ (zAd _ _)
   ·by_cases hd:b.length < fourAt b+12
    ·have Hfin:=zh (fun W=>zA7 (w:=w) (w':=W) (b:=b) (k:=2) (by unfold decE;rw [if_neg h8,if_neg (by simpa using hhead),if_neg hm,if_pos hd]) (by decide))
     have hlt:=zCJ b
     generalize fourAt (b.drop 4)=x at *
     generalize sumF (b.take 4)=y at *
     generalize fourAt b=z at *
     generalize b.length=N at *
     clear h hh hhead
     go_enter Tryz.func165,Tryz.ntmps165
     go_wp2_with fail
     go_quiet ((first | (go_at_call 197;refine zBr (H4.out _ (zAd _ _))) | (go_at_call 184;refine Calls.quiet_of_same (HS.out _ (zAd _ _)))))
     go_wp2_with fail
     refine (HF.out _ (zAd _ _)).mono ?_
     rintro e w2 ⟨rfl,q2,rfl⟩
     go_wp2_with fail
     go_ret3
     exact Hfin.out _ (zAd _ _)
    ·have hlt:=zCJ b
     have H8:=zh (fun (W:World) (hb:Below w.heap.size w W)=>rfour_at (HasB.from (h.below hb) (k:=8+fourAt b) (by omega) (c - (8+fourAt b))) (by rw [List.length_drop];omega))
     have HS8:=zh (fun (W:World) (hb:Below w.heap.size w W)=>zDN (HasB.cut (h.below hb) (k:=8+fourAt b) (by omega) c) (by rw [List.length_take];omega))
     have HxW:=zh (show ∀ W,Below w.heap.size w W→zAY W 1 (.slice (some ⟨g,o+8,none⟩) (fourAt b) (c - 8)) (fourAt b) (zAN ((b.drop 8).take (fourAt b))) from fun W hb=>by
      have h2:=HasB.cut (HasB.from (h.below hb) (k:=8) (by omega) (c - 8)) (k:=fourAt b) (by rw [List.length_drop];omega) (c - 8)
      unfold HasB at h2
      rw [List.length_take,List.length_drop,Nat.min_eq_left (by omega)] at h2
      exact h2)
     have hs3:∀ W,(Instr.slice 22 (.slice (some ⟨g,o,none⟩) b.length c) (some (.int .i64 (8+(fourAt b:Int)))) none none).run Tryz.prog W=.ok (.slice (some ⟨g,o+(8+fourAt b),none⟩) (b.length - (8+fourAt b)) (c - (8+fourAt b))) W:=fun W=>by
      have:=run_from (P:=Tryz.prog) W Tryz.underlying22 hi hz1 g o b.length c (8+fourAt b) (by omega) hnc (by omega)
      rwa [show ((8+fourAt b:Nat):Int)=8+(fourAt b:Int) by omega] at this
     have hs4:∀ W,(Instr.slice 22 (.slice (some ⟨g,o,none⟩) b.length c) none (some (.int .i64 (8+(fourAt b:Int)))) none).run Tryz.prog W=.ok (.slice (some ⟨g,o,none⟩) (8+fourAt b) c) W:=fun W=>by
      have:=zBx (P:=Tryz.prog) W Tryz.underlying22 hi (some ⟨g,o,none⟩) b.length c (8+fourAt b) (by omega)
      rwa [show ((8+fourAt b:Nat):Int)=8+(fourAt b:Int) by omega] at this
     have hs5:∀ W,(Instr.slice 22 (.slice (some ⟨g,o,none⟩) b.length c) (some (.int .i64 8)) (some (.int .i64 (8+(fourAt b:Int)))) none).run Tryz.prog W=.ok (.slice (some ⟨g,o+8,none⟩) (fourAt b) (c - 8)) W:=fun W=>by
      have:=run_window (P:=Tryz.prog) W 22 5 Tryz.underlying22 (fun w=>by simp [sizeOf,typeInfo,hi,hz1]) g o b.length c 8 (8+fourAt b) (by omega) (by omega) (by omega)
      rwa [show ((8+fourAt b:Nat):Int)=8+(fourAt b:Int) by omega,Nat.add_sub_cancel_left] at this
     have hwr:IntKind.i64.wrap (8+(fourAt b:Int))=8+(fourAt b:Int):=IntWalk.i64_in _ ⟨by omega,by omega⟩
     have hwr2:IntKind.i64.wrap (12+(fourAt b:Int))=12+(fourAt b:Int):=IntWalk.i64_in _ ⟨by omega,by omega⟩
     by_cases hs:fourAt (b.drop (8+fourAt b))=sumN (b.take (8+fourAt b))
     ·have hE:decE b=0:=by unfold decE;rw [if_neg h8,if_neg (by simpa using hhead),if_neg hm,if_neg hd,if_neg (by simpa using hs)]
      have Hfin:=zh (show ∀ v W,OwnR W 5 1 v (fourAt b) (zAN ((b.drop 8).take (fourAt b)))→(∀ k,v.ownBlock=some k→w.heap.size≤k)→Below w.heap.size w W→zCf w b (.returned (.tuple #[v,.int .i64 (12+(fourAt b:Int)),.int .i64 0])) W from fun v W ho hn hb =>
       ⟨v,by unfold decL;rw [hE,if_pos rfl,show ((fourAt b+12:Nat):Int)=12+(fourAt b:Int) by omega];rfl,by
        unfold decB
        rw [if_pos hE]
        unfold OwnB
        rw [List.length_take,List.length_drop,Nat.min_eq_left (by omega)]
        exact ho,hn,hb⟩)
      have heq2:((fourAt (b.drop (8+fourAt b)):Int) != sumF (b.take (8+fourAt b)))=false:=by rw [zCA];simp;omega
      generalize fourAt (b.drop (8+fourAt b))=x2 at *
      generalize sumF (b.take (8+fourAt b))=y2 at *
      generalize fourAt (b.drop 4)=x at *
      generalize sumF (b.take 4)=y at *
      generalize hz:fourAt b=z at *
      generalize b.length=N at *
      clear h hh hhead hs hE hz
      go_enter Tryz.func165,Tryz.ntmps165
      go_wp2_with fail
      go_quiet ((first | (go_at_call 197;refine zBr (H4.out _ (zAd _ _))) | (go_at_call 184;refine Calls.quiet_of_same (HS.out _ (zAd _ _)))))
      go_wp2_with fail
      refine (HF.out _ (zAd _ _)).mono ?_
      rintro e w2 ⟨rfl,q2,hq2⟩
      have HbX:=zh (show Below w.heap.size w w2 by rw [hq2];exact zCO (zAd _ _) _)
      clear hq2
      go_wp2_with fail
      go_quiet ((first | (go_at_call 197;refine zBr (H8.out _ (zCO HbX.out _))) | (go_at_call 184;refine Calls.quiet_of_same (HS8.out _ (zCO HbX.out _)))))
      have HbY:=zh (zCO HbX.out nq)
      generalize w2.drewN nq=w5 at *
      have HbZ:=zh (HbY.out.alloc HbY.out.size (.cells #[] 5))
      go_wp2_with (at_builtin;refine zAR (w5.alloc (.cells #[] 5)) rfl (.tmp 37) (.tmp 41) 22 rfl 5 i0 (.int .u8 0) 1 1 Tryz.underlying22 hi hz0 hz1 hz2 rfl (by decide) (.slice (some ⟨w5.heap.size,0,none⟩) 0 0) 0 [] rfl (zAq w5 _) (.slice (some ⟨g,o+8,none⟩) z (c - 8)) z _ rfl (HxW.out _ HbZ.out) (zAM _) (by unfold maxLen;omega) (by omega) ?_;intro v12 w12 hown12 hgrow12 hloc12;rw [Nat.zero_add,List.nil_append] at hown12;have hX:=HbZ.out.grown hgrow12 HbZ.out.size (fun j e=>by have:=HbY.out.size;simp [Value.ownBlock] at e;omega);have hnew:=zAj (B:=w.heap.size) hloc12 (fun k hk=>by have:=HbY.out.size;simp [Value.ownBlock] at hk;omega) HbZ.out.size;have X12:=zh (And.intro hX (And.intro hown12 hnew));clear hown12 hgrow12 hloc12 hX hnew)
      go_ret3
      exact Hfin.out _ _ X12.out.2.1 X12.out.2.2 X12.out.1
     ·have Hfin:=zh (fun W=>zA7 (w:=w) (w':=W) (b:=b) (k:=4) (by unfold decE;rw [if_neg h8,if_neg (by simpa using hhead),if_neg hm,if_neg hd,if_pos hs]) (by decide))
      have heq2:((fourAt (b.drop (8+fourAt b)):Int) != sumF (b.take (8+fourAt b)))=true:=by rw [zCA];simp;omega
      generalize fourAt (b.drop (8+fourAt b))=x2 at *
      generalize sumF (b.take (8+fourAt b))=y2 at *
      generalize fourAt (b.drop 4)=x at *
      generalize sumF (b.take 4)=y at *
      generalize fourAt b=z at *
      generalize b.length=N at *
      clear h hh hhead hs
      go_enter Tryz.func165,Tryz.ntmps165
      go_wp2_with fail
      go_quiet ((first | (go_at_call 197;refine zBr (H4.out _ (zAd _ _))) | (go_at_call 184;refine Calls.quiet_of_same (HS.out _ (zAd _ _)))))
      go_wp2_with fail
      refine (HF.out _ (zAd _ _)).mono ?_
      rintro e w2 ⟨rfl,q2,hq2⟩
      have HbX:=zh (show Below w.heap.size w w2 by rw [hq2];exact zCO (zAd _ _) _)
      clear hq2
      go_wp2_with fail
      go_quiet ((first | (go_at_call 197;refine zBr (H8.out _ (zCO HbX.out _))) | (go_at_call 184;refine Calls.quiet_of_same (HS8.out _ (zCO HbX.out _)))))
      go_wp2_with fail
      go_ret3
      exact Hfin.out _ (zCO HbX.out _)
  ·have Hfin:=zh (fun W=>zA7 (w:=w) (w':=W) (b:=b) (k:=4) (by unfold decE;rw [if_neg h8,if_pos (fun e=>hh ((head_iff (by omega)).1 e))]) (by decide))
   have hne:((fourAt (b.drop 4):Int) != sumF (b.take 4))=true:=by rw [zCA];simp;omega
   generalize fourAt (b.drop 4)=x at *
   generalize sumF (b.take 4)=y at *
   generalize b.length=N at *
   clear h hh
   go_enter Tryz.func165,Tryz.ntmps165
   go_wp2_with fail
   go_quiet ((first | (go_at_call 197;refine zBr (H4.out _ (zAd _ _))) | (go_at_call 184;refine Calls.quiet_of_same (HS.out _ (zAd _ _)))))
   go_wp2
   go_ret3
   exact Hfin.out _ (zAd _ _)
theorem rscan_calls {w:World} {p:Option Addr} {n c:Nat} {b:Bs} (h:HasB w (.slice p n c) b) (hnc:n≤c) (hl:b.length≤1073741824) :
  Calls Tryz.prog 88 #[.slice p n c] w (Scanned w b):=by
 obtain ⟨i1,hi1,-,hs1,-⟩:=info_parts (show (Tryz.prog.info? 5).map (fun i=>(i.zero,i.size,i.bytes))=some (some (.int .u8 0),1,1) by kernel_rfl)
 obtain ⟨i0,hi,hz0,hz1,hz2⟩:=info_parts (show (Tryz.prog.info? 22).map (fun i=>(i.zero,i.size,i.bytes))=some (some (.slice none 0 0),1,24) by kernel_rfl)
 have hn:b.length=n:=by obtain ⟨_,_,e⟩:=h.slice;simp only [Value.slice.injEq] at e;exact e.2.1.symm
 have hn30:n≤1073741824:=by omega
 have H:=zh h
 have Hn:=zh hn
 have Hnc:=zh hnc
 clear h hn hnc hl
 go_enter Tryz.func88,Tryz.ntmps88
 go_wp2_with fail
 go_loopw [4,5] (ScanRel w b n) (fun _ y _=>n - (intOf y).toNat)
 case atStart=>exact ⟨0,_,[],[],Nat.zero_le _,rfl,rfl,Nat.zero_le _,zBC.nil _,⟨fun k hk=>(by cases hk),fun u hu=>(by simp at hu)⟩,Below.refl _ _,by simp,by simp⟩
 case round =>
  obtain ⟨k,v,vs,ls,hk,rfl,rfl,hlk,hrow,hnew,hb,hsc1,hsc2⟩:=hrel
  by_cases hlt:k < n
  ·obtain ⟨r0,hr0⟩:∃ r0,(Value.slice p n c).ownBlock≠some r0:=by
    cases (Value.slice p n c).ownBlock with
    | none=>exact ⟨0,by simp⟩
    | some g=>exact ⟨g+1,by simp⟩
   obtain ⟨p',c',hsl,hh,hc',-⟩:=zDy (P:=Tryz.prog) Tryz.underlying22 hi1 hs1 (HasB.below H.out hb) Hnc.out r0 k hr0 (Nat.le_of_lt hlt)
   have Hd:=zh (rdec_calls hh hc' (by rw [List.length_drop,Hn.out];omega))
   have Hx:=zh (And.intro hrow (And.intro hnew (And.intro hb (And.intro hsc1 hsc2))))
   have hbl:(b.drop k).length=n - k:=by rw [List.length_drop,Hn.out]
   clear hh hc' hrow hnew hb hsc1 hsc2
   by_cases he:decE (b.drop k)=0
   ·have hL:=zDH he
    rw [hbl] at hL
    have Hgo:=zh (scan_go he)
    rw [List.drop_drop] at Hgo
    unfold zCf at Hd
    rw [he] at Hd
    generalize decL (b.drop k)=L at *
    generalize decB (b.drop k)=x at *
    clear he
    go_wp2_with fail
    refine Hd.out.mono ?_
    rintro e w2 ⟨v2,rfl,hv2,hn2,hb2⟩
    have hrow2:=Hx.out.1.below hb2
    have Hv2:=zh hv2
    have Hsep:=zh (show ∀ j,v2.ownBlock=some j→v.ownBlock≠some j from fun j hj e=>by have h1:=hn2 j hj;have h2:=OwnR.lt Hx.out.1.row e;omega)
    have Hn2:=zh (show ∀ j,v2.ownBlock=some j→w.heap.size≤j from fun j hj=>Nat.le_trans Hx.out.2.2.1.size (hn2 j hj))
    have Hb2:=zh hb2
    have Hr2:=zh hrow2
    obtain ⟨p2,c2,rfl,-⟩:=zAX hv2
    clear hv2 hn2 hb2 hrow2 Hd
    generalize hq:x.length=q at *
    have Hq:=zh hq
    generalize hm:ls.length=m at *
    have Hm:=zh hm
    clear hq hm
    have Hrow2:=zh (show OwnR w2 22 1 v m vs by have:=Hr2.out.row;rwa [Hm.out] at this)
    go_wp2_with (at_builtin;have hal:=Hrow2.out.keep (w':=w2.alloc (.cells #[.slice p2 q c2] 22)) (fun j hj=>(zAJ w2 _).block j (OwnR.lt Hrow2.out hj));have hxx:=zBV w2 (.slice p2 q c2) 22 (0,0);refine zAR _ rfl (.tmp 23) (.tmp 25) 108 rfl 22 i0 (.slice none 0 0) 1 24 Tryz.underlying108 hi hz0 hz1 hz2 rfl (by decide) v m _ rfl hal (.slice (some ⟨w2.heap.size,0,none⟩) 1 1) 1 _ rfl hxx (by simp [Value.oneCell']) (by unfold maxLen;omega) (by omega) ?_;clear hal hxx;intro v3 w3 hown3 hgrow3 hloc3;go_loud (have hE:=zBC.push (b:=x) (Hr2.out.below (zAJ w2 (.cells #[.slice p2 q c2] 22))) (OwnR.keep Hv2.out fun j hj=>(zAJ w2 _).block j (OwnR.lt Hv2.out hj)) Hsep.out (by rw [Hm.out];exact hown3) hgrow3 hloc3;have hN:=zCh.push (u:=.slice p2 q c2) Hx.out.2.1 Hn2.out hloc3 (by have h1:=Hx.out.2.2.1.size;have h2:=Hb2.out.size;have h3:=(zAJ w2 (.cells #[.slice p2 q c2] 22)).size;omega);have hB:Below w.heap.size w w3:=by { have h1:=Hx.out.2.2.1.trans ((Hb2.out.trans ((zAJ w2 (.cells #[.slice p2 q c2] 22)).mono Hb2.out.size)).mono Hx.out.2.2.1.size);exact ((Chg.of_below h1).trans (Chg.of_grown hgrow3) fun j hj e=>by have h5:=Hx.out.2.1.1 j e.symm;omega).below (Nat.le_refl _) fun _ _=>id };have HE:=zh (And.intro hE (And.intro hN hB));clear hE hN hB hgrow3 hloc3;obtain ⟨p3,q3,rfl⟩:=OwnR.shape hown3;clear hown3))
    go_roundw
    case rel=>exact ⟨k+L,_,_,ls ++ [x],by omega,by go_num,rfl,by rw [List.length_append,Hm.out];simp;omega,HE.out.1,HE.out.2.1,HE.out.2.2,by rw [Hx.out.2.2.2.1,Hgo.out];simp,by rw [Hx.out.2.2.2.2,Hgo.out];simp;omega⟩
    case measure=>simp [intOf];omega
   ·have Hst:=zh (zBm (.inr he))
    have hne:((decE (b.drop k):Int) != 0)=true:=by simp;omega
    unfold zCf at Hd
    generalize decE (b.drop k)=E at *
    generalize decL (b.drop k)=L at *
    go_wp2_with fail
    refine Hd.out.mono ?_
    rintro e w2 ⟨v2,rfl,-,-,hb2⟩
    have HE:=zh (show Scanned w b (.returned (.tuple #[v,.int .i64 (k:Int)])) w2 from ⟨v,vs,by rw [Hx.out.2.2.2.2,Hst.out];rfl,by rw [Hx.out.2.2.2.1,Hst.out,List.append_nil];exact Hx.out.1.below hb2,Hx.out.2.1,Hx.out.2.2.1.trans (hb2.mono Hx.out.2.2.1.size)⟩)
    clear hb2 Hd
    go_wp2_with fail
    go_ret2
    exact HE.out
  ·have he:b.drop k=[]:=List.drop_of_length_le (by rw [Hn.out];omega)
   rw [he,zBm (.inl rfl)] at hsc1 hsc2
   have HE:=zh (show Scanned w b (.returned (.tuple #[v,.int .i64 (k:Int)])) wr from ⟨v,vs,by rw [hsc2];rfl,by rw [hsc1,List.append_nil];exact hrow,hnew,hb⟩)
   clear hrow hnew hb hsc1 hsc2 he
   go_wp2_with fail
   go_ret2
   exact HE.out
theorem rone_calls {w:World} {p:Option Addr} {n c:Nat} {b:Bs} (h:HasB w (.slice p n c) b) (hnc:n≤c) (hl:b.length≤140737488355328) :
  Calls Tryz.prog 162 #[.slice p n c] w (OneOf w b):=by
 have hn:n=b.length:=(zBj h).1
 subst hn
 have Hd:=zh (rdec_calls h hnc hl)
 have hdl:decL b≤4294967307:=by
  have:=zCJ b
  unfold decL
  split <;> omega
 clear h
 go_enter Tryz.func162,Tryz.ntmps162
 go_wp2_with fail
 refine Hd.out.mono ?_
 rintro e w1 ⟨v,rfl,hv,hn1,hb1⟩
 by_cases he:decE b=0
 ·by_cases hL:decL b=b.length
  ·have hE:oneE b=0:=by unfold oneE;rw [if_pos he,if_pos hL]
   have Hfin:=zh (show OneOf w b (.returned (.tuple #[v,.int .i64 0])) w1 from ⟨v,by rw [hE];rfl,by unfold oneB;rw [if_pos hE];exact hv,hn1,hb1⟩)
   rw [he,hL]
   generalize b.length=N at *
   clear hv hn1 hb1 he hL hE hdl
   go_wp2_with fail
   go_ret2
   exact Hfin.out
  ·have Hfin:=zh (one_nil (w:=w) (w':=w1) (b:=b) (k:=3) (by unfold oneE;rw [if_pos he,if_neg hL]) (by decide) hb1)
   have hne:((decL b:Int) != (b.length:Int))=true:=by
    simp only [bne_iff_ne,ne_eq,Int.natCast_inj]
    exact hL
   rw [he]
   generalize decL b=M at *
   generalize b.length=N at *
   clear hv hn1 hb1 he hL
   go_wp2_with fail
   go_ret2
   exact Hfin.out
 ·have hE:oneE b=decE b:=by unfold oneE;rw [if_neg he]
  have Hfin:=zh (one_nil (w:=w) (w':=w1) (b:=b) (k:=decE b) hE he hb1)
  have hne:((decE b:Int) == 0)=false:=by simp;omega
  have hne2:((decE b:Int) != 0)=true:=by simp;omega
  generalize decE b=E at *
  generalize decL b=M at *
  generalize b.length=N at *
  clear hv hn1 hb1 hE
  go_wp2_with fail
  go_ret2
  exact Hfin.out
end Go.Proofs.YtapfnehdgailmaaGreat
