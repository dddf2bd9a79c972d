/- Contracts of the document's journal that ask nothing of its disk. (Printed by mkro8.py out of the texts RJ, RJA, RJB.) The contract of satrapylaw5.ints. The contracts of satrapylaw5.same and satrapylaw5.texts. The contract of satrapylaw5.entries. satrapylaw5.alike. (Printed by mkro9.py.) -/
import Derived.Test.YtapfnehdgailmaaGreatGD
import Derived.Test.YtapfnehdgailmaaGreatGG
import Derived.Test.YtapfnehdgailmaaGreatGT
import Derived.Test.YtapfnehdgailmaaGreatGU
set_option maxRecDepth 100000
set_option maxHeartbeats 64000000
namespace Go.Proofs.YtapfnehdgailmaaGreat
open Go.RowKit Go.Sat Go.Maps
section
variable {S:Nat→Prop} {w1 w2:World} {j r:Nat} {pre:ByteArray} {M:JouM}
theorem RJF.new {D:zAB} {Hot Cold:Nat→Prop} (h:RJF w1 j r pre D M Hot Cold):zBI (fun k=>Hot k∨Cold k) w1 j r pre M:=by
 obtain ⟨O,own,gv,dv,ev,vs,v,L,hJ,hR,hO,hC,hH⟩:=h
 exact ⟨O,Cold,gv,dv,ev,vs,hJ,fun k hk=>hk.imp (fun h=>(hH k).2 (.inl h)) id⟩
theorem rntermAt_calls (h:zBI S w1 j r pre M) (i:Int) (hi:-9223372036854775808≤i∧i≤9223372036854775807) :
  Calls Tryz.prog 95 #[.pointer (some ⟨j,0,none⟩),.int .i64 i] w1 fun e w'=>e=.returned (.tuple #[.int .i64 ((M.termAt i).getD 0),.bool (M.termAt i).isSome])∧∃ q,w'=w1.drewN q:=by
 have hlast:=h.ok.last
 obtain ⟨O,C,gv,dv,ev,vs,hJ,hnw⟩:=h
 have c0:=hJ.c 0 rfl
 have c1:=hJ.c 1 rfl
 have c8:=hJ.c 8 rfl
 obtain ⟨p,c,hev⟩:=hJ.row.shape
 by_cases hib:i=(M.number:Int)
 ·have he:(i == (M.number:Int))=true:=by simpa using hib
  have HT:=zh (show M.termAt i=some M.term by rw [hib];exact zET)
  clear hJ hnw hib hev hlast c8
  generalize M.termAt i=ta at *
  generalize M.number=b at *
  go_enter Tryz.func95,Tryz.ntmps95
  go_wp2_with fail
  go_ret2
  exact ⟨by rw [HT.out];rfl,0,rfl⟩
 ·have he:(i == (M.number:Int))=false:=by simpa using hib
  unfold JouM.last at hlast
  by_cases hlo:i < (M.number:Int)
  ·have HT:=zh (show M.termAt i=none by unfold JouM.termAt;rw [if_neg hib,if_pos hlo])
   have hd:decide (i < (M.number:Int))=true:=decide_eq_true hlo
   clear hJ hnw hib hev hlast c8 hlo
   generalize M.termAt i=ta at *
   generalize M.number=b at *
   go_enter Tryz.func95,Tryz.ntmps95
   go_wp2_with fail
   go_quiet (fail)
   go_wp2_with fail
   go_ret2
   exact ⟨by rw [HT.out];rfl,_,rfl⟩
  ·have hd:decide (i < (M.number:Int))=false:=decide_eq_false hlo
   rw [hev] at c8
   have hw1:IntKind.i64.wrap ((M.number:Int)+(M.entries.length:Int))=((M.number+M.entries.length:Nat):Int):=by rw [IntWalk.i64_in _ (by omega)];omega
   by_cases hhi:((M.number+M.entries.length:Nat):Int) < i
   ·have HT:=zh (show M.termAt i=none by
     unfold JouM.termAt
     rw [if_neg hib,if_neg hlo,List.getElem?_eq_none (by omega)]
     rfl)
    have hd2:decide (((M.number+M.entries.length:Nat):Int) < i)=true:=decide_eq_true hhi
    clear hJ hnw hib hev hlast hlo hhi
    generalize M.termAt i=ta at *
    generalize M.number+M.entries.length=la at *
    generalize M.number=b at *
    generalize M.entries.length=n at *
    go_enter Tryz.func95,Tryz.ntmps95
    go_wp2_with fail
    go_quiet (fail)
    go_wp2_with fail
    go_ret2
    exact ⟨by rw [HT.out];rfl,_,rfl⟩
   ·have hd2:decide (((M.number+M.entries.length:Nat):Int) < i)=false:=decide_eq_false hhi
    have hkl:(i - (M.number:Int) - 1).toNat < M.entries.length:=by omega
    obtain ⟨g,c',v',hev',hv,-,k0,-,-,-⟩:=hJ.ent (List.getElem?_eq_getElem hkl)
    have HT:=zh (zEE (M:=M) (show (M.number:Int) < i by omega) (List.getElem?_eq_getElem hkl))
    rw [hev] at hev'
    cases hev'
    clear hJ hnw hev hv
    generalize hk:(i - (M.number:Int) - 1).toNat=k at *
    generalize M.entries[k]=e at *
    generalize hla:M.number+M.entries.length=la at *
    generalize M.termAt i=ta at *
    generalize M.entries.length=n at *
    generalize M.number=b at *
    have hw2:IntKind.i64.wrap (i - (b:Int))=(k:Int)+1:=by rw [IntWalk.i64_in _ (by omega)];omega
    have hw3:IntKind.i64.wrap (k:Int)=(k:Int):=IntWalk.i64_in _ (by omega)
    clear hk hlast hlo hhi hib hla
    go_enter Tryz.func95,Tryz.ntmps95
    go_wp2_with fail
    go_quiet (fail)
    go_wp2_with fail
    go_quiet (fail)
    go_wp2_with fail
    go_ret2
    exact ⟨by rw [HT.out];rfl,_,zEa _ _ _⟩
theorem rngrpAt_calls (h:zBI S w1 j r pre M) (z:Int) (hzl:(M.number:Int)≤z) (hzh:z≤9223372036854775807) :
  Calls Tryz.prog 119 #[.pointer (some ⟨j,0,none⟩),.int .i64 z] w1 (zBX w1 (M.grpIn (M.upto z))):=by
 obtain ⟨i0,hi,hz0,hz1,hz2⟩:=info_parts (show (Tryz.prog.info? 3).map (fun i=>(i.zero,i.size,i.bytes))=some (some (.int .i64 0),1,8) by kernel_rfl)
 have hlast:=h.ok.last
 have hog:=h.ok.group
 have Hents:=zh h.ok.ents
 obtain ⟨O,C,gv,dv,ev,vs,hJ,hnw⟩:=h
 have HJ:=zh hJ
 have c0:=hJ.c 0 rfl
 have c2:=hJ.c 2 rfl
 have c8:=hJ.c 8 rfl
 obtain ⟨pg,cg,hgv⟩:=hJ.group.slice
 obtain ⟨p8,cc8,hev8⟩:=hJ.row.shape
 rw [hgv] at c2
 rw [hev8] at c8
 have Hgv:=zh (hgv ▸ hJ.group)
 have hgl:=(grp_len hog).2
 unfold JouM.last at hlast
 clear hnw hog hgv
 obtain ⟨m,hm⟩:∃ m,m=M.upto z:=⟨_,rfl⟩
 rw [← hm]
 have Hm:=zh (show ∀ k,k < M.entries.length→(k+1≤m ↔ (M.number:Int)+k+1≤z) from fun k hk=>by
  rw [hm]
  unfold JouM.upto
  omega)
 have hml:m≤M.entries.length:=by
  rw [hm]
  exact Nat.min_le_right _ _
 clear hm
 generalize hb:M.number=b at *
 generalize hn:M.entries.length=n at *
 generalize hgln:M.group.length=gl at *
 have Hn:=zh hn
 have Hgln:=zh hgln
 clear hn hgln
 have hsub:IntKind.i64.wrap ((n:Int) - 1)=(n:Int) - 1:=IntWalk.i64_in _ (by omega)
 clear hJ
 go_enter Tryz.func119,Tryz.ntmps119
 go_wp2_with fail
 go_loopw [6] (fun x wr=>∃ k:Nat,k≤n∧x=.int .i64 ((k:Int) - 1)∧M.grpIn m=M.grpIn (min k m)∧Below w1.heap.size w1 wr) (fun x _=>(intOf x+1).toNat)
 case atStart=>exact ⟨n,Nat.le_refl _,rfl,by rw [Nat.min_eq_right hml],Below.refl _ _⟩
 case round =>
  obtain ⟨k,hk,rfl,hgr,hbl⟩:=hrel
  have c0r:=zAJ c0 hbl
  have c2r:=zAJ c2 hbl
  have c8r:=zAJ c8 hbl
  cases k with
  | zero =>
   have Hgr:=zh hgr
   have HB:=zh hbl
   have HBd:=zh (hbl.trans (⟨rfl,rfl,rfl,Nat.le_refl _,fun _ _=>rfl⟩:Below w1.heap.size wr wr.drew))
   have Hnodes:=zh (fun W (hb2:Below wr.drew.heap.size wr.drew W)=>(show zAL W 1 (.slice pg gl cg) gl (intsV M.group) from by
    have h1:HasI W (.slice pg gl cg) M.group:=zAL.chg Hgv.out (Chg.of_below ((hbl.trans (⟨rfl,rfl,rfl,Nat.le_refl _,fun _ _=>rfl⟩:Below w1.heap.size wr wr.drew)).trans (hb2.mono hbl.size))) fun _ _=>id
    unfold HasI at h1
    rwa [Hgln.out] at h1))
   have hd0:decide ((0:Int)≤((0:Nat):Int) - 1)=false:=by decide
   clear hgr hbl c8r
   go_wp2_with fail
   refine zAT (fun w':World=>w'.cell? ⟨j,2,none⟩=some (.slice pg gl cg)∧w'.cell? ⟨j,0,none⟩=some (.int .i64 (b:Int))) (n:=14) (by kernel_rfl) rfl (⟨c2r,c0r⟩) (fun hHeld=>?_)
   generalize wr.drew=W1 at *
   refine otk 1 (v:=?v2x1) rfl ?_
   simp only [Act.put,uA,uB,uC]
   refine otk 2 (v:=?v2x2) rfl ?_
   simp only [Act.put,uA,uB,uC]
   refine otk 3 (v:=?v2x3) rfl ?_
   simp only [Act.put,uA,uB,uC]
   refine otk 4 (v:=?v2x4) rfl ?_
   simp only [Act.put,uA,uB,uC]
   refine otk 5 (v:=?v2x5) rfl ?_
   simp only [Act.put,uA,uB,uC]
   refine otk 7 (v:=?v2x7) rfl ?_
   simp only [Act.put,uA,uB,uC]
   refine otk 8 (v:=?v2x8) rfl ?_
   simp only [Act.put,uA,uB,uC]
   refine otk 9 (v:=?v2x9) rfl ?_
   simp only [Act.put,uA,uB,uC]
   refine otk 10 (v:=?v2x10) rfl ?_
   simp only [Act.put,uA,uB,uC]
   refine otk 11 (v:=?v2x11) rfl ?_
   simp only [Act.put,uA,uB,uC]
   refine zAG 0 rfl (by kernel_rfl) (by rfl) (fun K hK=>?_)
   have HBW:=zh (zAD W1 (.cells #[] 3))
   have Hh1:=zh (And.intro (zAJ hHeld.1 HBW.out) (zAJ hHeld.2 HBW.out))
   have HeldX:=zh hHeld
   go_wp2_with fail
   refine hK.out _ _ (Hh1.out) (fun hHeld=>?_)
   clear hK
   try simp only [Act.put,uA,uB,uC]
   refine zAG 6 rfl (by kernel_rfl) (by rfl) (fun K hK=>?_)
   have Hal:=zh (zAz W1 3)
   have Hno:=zh (Hnodes.out _ HBW.out)
   refine zAj (.tmp 56) (.tmp 61) 38 rfl 3 i0 (.int .i64 0) 1 8 Tryz.underlying38 hi hz0 hz1 hz2 rfl (by decide) (.slice (some ⟨W1.heap.size,0,none⟩) 0 0) 0 [] rfl Hal.out (.slice pg gl cg) gl _ rfl Hno.out (fun u hu=>by obtain ⟨z,-,rfl⟩:=List.mem_map.1 hu;rfl) (by unfold maxLen;omega) (by omega) ?_
   intro v4 w4 hown4 hgrow4 hloc4
   have HN:=zh (zDk hown4 hgrow4 hloc4)
   have Hh4:=zh (And.intro (zAJ HeldX.out.1 HN.out.2.2) (zAJ HeldX.out.2 HN.out.2.2))
   clear hown4 hgrow4 hloc4 Hal Hno
   obtain ⟨p4,c4,rfl⟩:=OwnR.shape HN.out.1
   refine hK.out _ _ (Hh4.out) (fun hHeld=>?_)
   clear hK
   try simp only [Act.put,uA,uB,uC]
   refine otk 12 (v:=?v2x12) rfl ?_
   simp only [Act.put,uA,uB,uC]
   refine otk 13 (v:=?v2x13) rfl ?_
   simp only [Act.put,uA,uB,uC]
   have HE:=zh (show zBX w1 (M.grpIn m) (.returned (.tuple #[.slice p4 gl c4,.int .i64 (b:Int)])) w4 from by
    have hE:=HN.out
    rw [Hgr.out,Nat.zero_min]
    refine ⟨.slice p4 gl c4,?_,?_,fun y hy=>Nat.le_trans HBd.out.size (hE.2.1 y hy),HBd.out.trans (hE.2.2.mono HBd.out.size)⟩
    ·show _=Ending.returned (.tuple #[_,.int .i64 (M.number:Int)])
     rw [hb]
    ·show OwnI w4 _ M.group
     unfold OwnI
     rw [Hgln.out]
     exact hE.1)
   refine wpAnyH_done (by kernel_rfl) ?_ _
   go_wp2_with fail
   go_ret2
   exact HE.out
  | succ k =>
   have hkl:k < M.entries.length:=by rw [Hn.out];omega
   have he:=List.getElem?_eq_getElem hkl
   obtain ⟨g,c,v,hev,-,hat,k0,k1,k2,k3⟩:=HJ.out.ent he
   rw [hev8] at hev
   rw [Hn.out] at hev
   cases hev
   have hf:=zA8 (Hents.out _ (List.getElem_mem hkl))
   have hgy:=fun h1 h2=>grp_min_yes (m:=m) he h1 h2
   have hgn:=fun h1=>grp_min_no (m:=m) he h1
   generalize M.entries[k]=e at *
   have hmk:=Hm.out k (by omega)
   obtain ⟨pn,cn,en⟩:=hat.nodes.slice
   rw [en] at k3
   have k1:=zAJ k1 hbl
   have k3:=zAJ k3 hbl
   have Hnodes:=zh (fun W (hb2:Below wr.drew.heap.size wr.drew W)=>(show zAL W 1 (.slice pn e.nodes.length cn) e.nodes.length (intsV e.nodes) from by
    rw [← en]
    exact zAL.chg hat.nodes (Chg.of_below ((hbl.trans (⟨rfl,rfl,rfl,Nat.le_refl _,fun _ _=>rfl⟩:Below w1.heap.size wr wr.drew)).trans (hb2.mono hbl.size))) fun _ _=>id))
   have Hgr:=zh hgr
   have HB:=zh hbl
   have HBd:=zh (hbl.trans (⟨rfl,rfl,rfl,Nat.le_refl _,fun _ _=>rfl⟩:Below w1.heap.size wr wr.drew))
   have hd0:decide ((0:Int)≤((k+1:Nat):Int) - 1)=true:=decide_eq_true (by omega)
   have hkk:((k+1:Nat):Int) - 1=(k:Int):=by omega
   rw [hkk] at hd0 ⊢
   have hnl:e.nodes.length≤7:=by omega
   have hkb:k≤1099511627776:=by omega
   have hkn:k < n:=by omega
   clear hgr hbl c2r hkl he hat en hf hkk
   obtain ⟨x0,hx0⟩:∃ x0,x0=b+k:=⟨_,rfl⟩
   obtain ⟨x1,hx1⟩:∃ x1,x1=b+k+1:=⟨_,rfl⟩
   have hw1:IntKind.i64.wrap ((b:Int)+(k:Int))=(x0:Int):=by rw [IntWalk.i64_in _ (by omega)];omega
   have hw2:IntKind.i64.wrap ((x0:Int)+1)=(x1:Int):=by rw [IntWalk.i64_in _ (by omega)];omega
   have HX1:=zh hx1
   by_cases hk2:e.kind=2
   ·have hq:(e.kind == 2)=true:=by simpa using hk2
    by_cases hkm:k+1≤m
    ·have hd1:decide ((x1:Int)≤z)=true:=decide_eq_true (by have:=hmk.1 hkm;omega)
     have HG:=zh (hgy hk2 hkm)
     clear hgy hgn hmk hk2 hkm hx0 hx1 hlast
     go_wp2_with fail
     refine zAT (fun w':World=>w'.cell? ⟨j,8,none⟩=some (.slice (some ⟨g,0,none⟩) n cc8)∧w'.cell? ⟨g,k * 4+3,none⟩=some (.slice pn e.nodes.length cn)∧w'.cell? ⟨j,0,none⟩=some (.int .i64 (b:Int))) (n:=20) (by kernel_rfl) rfl (⟨c8r,k3,c0r⟩) (fun hHeld=>?_)
     generalize wr.drew=W1 at *
     refine otk 1 (v:=?v1x1) rfl ?_
     simp only [Act.put,uA,uB,uC]
     refine otk 2 (v:=?v1x2) rfl ?_
     simp only [Act.put,uA,uB,uC]
     refine otk 3 (v:=?v1x3) rfl ?_
     simp only [Act.put,uA,uB,uC]
     refine otk 4 (v:=?v1x4) rfl ?_
     simp only [Act.put,uA,uB,uC]
     refine otk 5 (v:=?v1x5) rfl ?_
     simp only [Act.put,uA,uB,uC]
     refine otk 6 (v:=?v1x6) rfl ?_
     simp only [Act.put,uA,uB,uC]
     refine otk 7 (v:=?v1x7) rfl ?_
     simp only [Act.put,uA,uB,uC]
     refine otk 8 (v:=?v1x8) rfl ?_
     simp only [Act.put,uA,uB,uC]
     refine otk 10 (v:=?v1x10) rfl ?_
     simp only [Act.put,uA,uB,uC]
     refine otk 11 (v:=?v1x11) rfl ?_
     simp only [Act.put,uA,uB,uC]
     refine otk 12 (v:=?v1x12) rfl ?_
     simp only [Act.put,uA,uB,uC]
     refine otk 13 (v:=?v1x13) rfl ?_
     simp only [Act.put,uA,uB,uC]
     refine otk 14 (v:=?v1x14) rfl ?_
     simp only [Act.put,uA,uB,uC]
     refine otk 15 (v:=?v1x15) rfl ?_
     simp only [Act.put,uA,uB,uC]
     refine otk 16 (v:=?v1x16) rfl ?_
     simp only [Act.put,uA,uB,uC]
     refine otk 17 (v:=?v1x17) rfl ?_
     simp only [Act.put,uA,uB,uC]
     refine zAG 0 rfl (by kernel_rfl) (by rfl) (fun K hK=>?_)
     have HBW:=zh (zAD W1 (.cells #[] 3))
     have Hh1:=zh (And.intro (zAJ hHeld.1 HBW.out) (And.intro (zAJ hHeld.2.1 HBW.out) (zAJ hHeld.2.2 HBW.out)))
     have HeldX:=zh hHeld
     go_wp2_with fail
     refine hK.out _ _ (Hh1.out) (fun hHeld=>?_)
     clear hK
     try simp only [Act.put,uA,uB,uC]
     refine zAG 9 rfl (by kernel_rfl) (by rfl) (fun K hK=>?_)
     have Hal:=zh (zAz W1 3)
     have Hno:=zh (Hnodes.out _ HBW.out)
     refine zAj (.tmp 38) (.tmp 46) 38 rfl 3 i0 (.int .i64 0) 1 8 Tryz.underlying38 hi hz0 hz1 hz2 rfl (by decide) (.slice (some ⟨W1.heap.size,0,none⟩) 0 0) 0 [] rfl Hal.out (.slice pn e.nodes.length cn) e.nodes.length _ rfl Hno.out (fun u hu=>by obtain ⟨z,-,rfl⟩:=List.mem_map.1 hu;rfl) (by unfold maxLen;omega) (by omega) ?_
     intro v4 w4 hown4 hgrow4 hloc4
     have HN:=zh (zDk hown4 hgrow4 hloc4)
     have Hh4:=zh (And.intro (zAJ HeldX.out.1 HN.out.2.2) (And.intro (zAJ HeldX.out.2.1 HN.out.2.2) (zAJ HeldX.out.2.2 HN.out.2.2)))
     clear hown4 hgrow4 hloc4 Hal Hno
     obtain ⟨p4,c4,rfl⟩:=OwnR.shape HN.out.1
     refine hK.out _ _ (Hh4.out) (fun hHeld=>?_)
     clear hK
     try simp only [Act.put,uA,uB,uC]
     refine otk 18 (v:=?v1x18) rfl ?_
     simp only [Act.put,uA,uB,uC]
     refine otk 19 (v:=?v1x19) rfl ?_
     simp only [Act.put,uA,uB,uC]
     have HE:=zh (show zBX w1 (M.grpIn m) (.returned (.tuple #[.slice p4 e.nodes.length c4,.int .i64 (x1:Int)])) w4 from by
      have hE:=HN.out
      rw [Hgr.out,HG.out]
      refine ⟨.slice p4 e.nodes.length c4,?_,hE.1,fun y hy=>Nat.le_trans HBd.out.size (hE.2.1 y hy),HBd.out.trans (hE.2.2.mono HBd.out.size)⟩
      show _=Ending.returned (.tuple #[_,.int .i64 ((M.number+k+1:Nat):Int)])
      rw [hb,← HX1.out])
     refine wpAnyH_done (by kernel_rfl) ?_ _
     go_wp2_with fail
     go_ret2
     exact HE.out
    ·have hd1:decide ((x1:Int)≤z)=false:=decide_eq_false (by have:=fun h=>hkm (hmk.2 h);omega)
     have HG:=zh (hgn (.inr hkm))
     clear hgy hgn hmk hk2 hkm hx0 hx1 hlast
     go_wp2_with fail
     go_roundw
     case rel=>exact ⟨k,by omega,rfl,Hgr.out.trans HG.out,HB.out⟩
     case measure =>
      show ((k:Int) - 1+1).toNat < ((k:Int)+1).toNat
      omega
   ·have hq:(e.kind == 2)=false:=by simpa using hk2
    have HG:=zh (hgn (.inl hk2))
    clear hgy hgn hmk hk2 hx0 hx1 hlast
    go_wp2_with fail
    go_roundw
    case rel=>exact ⟨k,by omega,rfl,Hgr.out.trans HG.out,HB.out⟩
    case measure =>
     show ((k:Int) - 1+1).toNat < ((k:Int)+1).toNat
     omega
theorem rnconf_calls (h:zBI S w1 j r pre M) :
  Calls Tryz.prog 94 #[.pointer (some ⟨j,0,none⟩)] w1 (zBX w1 (M.grpIn M.entries.length)):=by
 have hl:=h.ok.last
 have hle:M.number≤M.last:=Nat.le_add_right _ _
 have Hg:=zh (rngrpAt_calls h 4611686018427387904 (by omega) (by decide))
 rw [upto_all M (by omega)] at Hg
 clear h
 go_enter Tryz.func94,Tryz.ntmps94
 go_wp2_with fail
 refine Hg.out.mono ?_
 rintro e w2 ⟨v,rfl,hv,hn,hb⟩
 have HE:=zh (show zBX w1 (M.grpIn M.entries.length) (.returned (.tuple #[v,.int .i64 ((M.grpIn M.entries.length).2:Int)])) w2 from ⟨v,rfl,hv,hn,hb⟩)
 clear hv hn hb Hg
 go_wp2_with fail
 go_ret2
 exact HE.out
theorem rnat_yes (h:zBI S w1 j r pre M) (i:Int) (hi:-9223372036854775808≤i∧i≤9223372036854775807) (hin:(M.number:Int) < i) {e:Ent} (he:M.entries[(i - (M.number:Int) - 1).toNat]?=some e) :
  Calls Tryz.prog 96 #[.pointer (some ⟨j,0,none⟩),.int .i64 i] w1 fun r w'=>∃ v:EV,r=.returned (.tuple #[entV e v,.int .i64 0])∧zDg w' e v∧(∀ k,(v.1.ownBlock=some k∨v.2.ownBlock=some k)→w1.heap.size≤k)∧Below w1.heap.size w1 w':=by
 have hkl:=(List.getElem?_eq_some_iff.1 he).1
 have hil:i≤(M.last:Int):=by unfold JouM.last;omega
 have hb0:=zAD w1 (.cells #[.int .i64 0,.int .i64 0,.slice none 0 0,.slice none 0 0] 50)
 have hlast:=h.ok.last
 have hent:=h.ok.ents e (List.mem_of_getElem? he)
 obtain ⟨O,C,gv,dv,ev,vs,hJ,hnw⟩:=h
 obtain ⟨g,c,v,rfl,hv,hat,k0,k1,k2,k3⟩:=hJ.ent he
 obtain ⟨pv1,cv1,ev1⟩:=hat.data.slice
 obtain ⟨pv2,cv2,ev2⟩:=hat.nodes.slice
 obtain ⟨v1,v2⟩:=v
 have ev1:v1=.slice pv1 e.data.length cv1:=ev1
 have ev2:v2=.slice pv2 e.nodes.length cv2:=ev2
 subst ev1
 subst ev2
 have c0:=hJ.c 0 rfl
 have c8:=hJ.c 8 rfl
 have hf:=zA8 hent
 generalize hk:(i - (M.number:Int) - 1).toNat=k at *
 have HX:=zh (show EntIn w1 j g M.entries.length c M.number k e (.slice pv1 e.data.length cv1,.slice pv2 e.nodes.length cv2) from ⟨c8,c0,k0,k1,k2,k3⟩)
 have HA:=zh hat
 have hf1:e.data.length≤65536:=by omega
 have hf2:e.nodes.length≤7:=by omega
 unfold JouM.last at hlast
 have hiu:i=(M.number:Int)+1+(k:Int):=by omega
 have c0w:=zAJ c0 hb0
 have c8w:=zAJ c8 hb0
 clear hJ hnw hv hat c0 c8 k0 k1 k2 k3 hent hf he hk
 generalize M.entries.length=n at *
 generalize M.number=b at *
 have hw1:IntKind.i64.wrap (i - (b:Int))=(k:Int)+1:=by rw [IntWalk.i64_in _ (by omega)];omega
 have hw2:IntKind.i64.wrap (k:Int)=(k:Int):=IntWalk.i64_in _ (by omega)
 obtain ⟨x0,hx0⟩:∃ x0,x0=b+n:=⟨_,rfl⟩
 have hw0:IntKind.i64.wrap ((b:Int)+(n:Int))=(x0:Int):=by rw [IntWalk.i64_in _ (by omega)];omega
 have hd1:decide (i≤(b:Int))=false:=decide_eq_false (by omega)
 have hd2:decide ((x0:Int) < i)=false:=decide_eq_false (by omega)
 have hkn:k < n:=by omega
 clear hiu hx0 hil hin hlast hkl
 go_enter Tryz.func96,Tryz.ntmps96
 go_wp2_with fail
 go_quiet (fail)
 have HB2:=zh (show Below w1.heap.size w1 ((w1.alloc (.cells #[.int .i64 0,.int .i64 0,.slice none 0 0,.slice none 0 0] 50)).drewN nq) from hb0.trans ⟨rfl,rfl,rfl,by simp,fun _ _=>rfl⟩)
 have HR:=zh (show ((w1.alloc (.cells #[.int .i64 0,.int .i64 0,.slice none 0 0,.slice none 0 0] 50)).drewN nq).heap[w1.heap.size]?=_ from zAI w1 _)
 generalize (w1.alloc (.cells #[.int .i64 0,.int .i64 0,.slice none 0 0,.slice none 0 0] 50)).drewN nq=W at *
 clear hb0 c0w c8w hd1 hd2 hw0
 go_wp2_with fail
 refine zAT (fun w':World=>w'.cell? ⟨j,8,none⟩=some (.slice (some ⟨g,0,none⟩) n c)∧w'.cell? ⟨j,0,none⟩=some (.int .i64 (b:Int))∧w'.cell? ⟨g,k * 4,none⟩=some (.int .i64 e.term)∧w'.cell? ⟨g,k * 4+1,none⟩=some (.int .i64 e.kind)∧w'.cell? ⟨g,k * 4+2,none⟩=some (.slice pv1 e.data.length cv1)∧w'.cell? ⟨g,k * 4+3,none⟩=some (.slice pv2 e.nodes.length cv2)) (n:=17) (by kernel_rfl) rfl ((zCU HX.out (HB2.out.trans ⟨rfl,rfl,rfl,Nat.le_refl _,fun _ _=>rfl⟩)).all) (fun hHeld=>?_)
 generalize hWd:W.drew=W1 at *
 have HB1:=zh (show Below w1.heap.size w1 W1 from by rw [← hWd];exact HB2.out.trans ⟨rfl,rfl,rfl,Nat.le_refl _,fun _ _=>rfl⟩)
 have HR1:=zh (Eq.trans (show W1.heap[w1.heap.size]?=W.heap[w1.heap.size]? from by rw [← hWd];rfl) HR.out)
 clear hWd
 refine otk 0 (v:=?v1x0) rfl ?_
 simp only [Act.put,uA,uB,uC]
 refine otk 1 (v:=?v1x1) rfl ?_
 simp only [Act.put,uA,uB,uC]
 refine otk 2 (v:=?v1x2) rfl ?_
 simp only [Act.put,uA,uB,uC]
 refine otk 3 (v:=?v1x3) rfl ?_
 simp only [Act.put,uA,uB,uC]
 refine otk 4 (v:=?v1x4) rfl ?_
 simp only [Act.put,uA,uB,uC]
 refine otk 5 (v:=?v1x5) rfl ?_
 simp only [Act.put,uA,uB,uC]
 refine otk 6 (v:=?v1x6) rfl ?_
 simp only [Act.put,uA,uB,uC]
 refine otk 7 (v:=?v1x7) rfl ?_
 simp only [Act.put,uA,uB,uC]
 refine otk 8 (v:=?v1x8) rfl ?_
 simp only [Act.put,uA,uB,uC]
 refine otk 9 (v:=?v1x9) rfl ?_
 simp only [Act.put,uA,uB,uC]
 refine otk 10 (v:=?v1x10) rfl ?_
 simp only [Act.put,uA,uB,uC]
 refine otk 11 (v:=?v1x11) rfl ?_
 simp only [Act.put,uA,uB,uC]
 refine otk 12 (v:=?v1x12) rfl ?_
 simp only [Act.put,uA,uB,uC]
 refine otk 13 (v:=?v1x13) rfl ?_
 simp only [Act.put,uA,uB,uC]
 refine zAG 14 rfl (by kernel_rfl) (by rfl) (fun K hK=>?_)
 have Hown:=zh (rown_calls (HA.out.below HB1.out) (by omega) (by omega))
 go_wp2_with fail
 refine Hown.out.mono ?_
 rintro r w5 ⟨⟨u1,u2⟩,rfl,hu,hun,hb5⟩
 obtain ⟨pu,cu,eu,-⟩:=zAO hu.data
 obtain ⟨pn,cn,en,-⟩:=zAl hu.nodes
 have eu':u1=.slice pu e.data.length cu:=eu
 have en':u2=.slice pn e.nodes.length cn:=en
 subst eu'
 subst en'
 clear eu en
 have HB5:=zh (HB1.out.trans (hb5.mono HB1.out.size))
 have Hh5:=zh (zCU (⟨hHeld⟩:EntIn W1 j g n c b k e (.slice pv1 e.data.length cv1,.slice pv2 e.nodes.length cv2)) hb5)
 have HR5:=zh ((hb5.block _ (zAC HR1.out)).trans HR1.out)
 have HU:=zh (And.intro hu hun)
 have HW1:=zh (zAC HR1.out)
 clear hu hun hb5 Hown
 go_wp2_with fail
 refine hK.out _ _ (Hh5.out.all) (fun hHeld=>?_)
 clear hK
 try simp only [Act.put,uA,uB,uC]
 refine zAG 15 rfl (by kernel_rfl) (by rfl) (fun K hK=>?_)
 have r0:=zAA HR5.out (i:=0) rfl
 have r1:=zAA HR5.out (i:=1) rfl
 have r2:=zAA HR5.out (i:=2) rfl
 have r3:=zAA HR5.out (i:=3) rfl
 have fr:=zAF HR5.out
 unfold entV
 go_wp2_with fail
 have hz:((((w5.setCell ⟨w1.heap.size,0,none⟩ (.int .i64 e.term)).setCell ⟨w1.heap.size,1,none⟩ (.int .i64 e.kind)).setCell ⟨w1.heap.size,2,none⟩ (.slice pu e.data.length cu)).setCell ⟨w1.heap.size,3,none⟩ (.slice pn e.nodes.length cn)).heap[w1.heap.size]?=some (.cells #[.int .i64 e.term,.int .i64 e.kind,(.slice pu e.data.length cu),(.slice pn e.nodes.length cn)] 50 (0,0)):=by
  have h1:=zAE HR5.out 0 (.int .i64 e.term)
  have h2:=zAE h1 1 (.int .i64 e.kind)
  have h3:=zAE h2 2 (.slice pu e.data.length cu)
  have h4:=zAE h3 3 (.slice pn e.nodes.length cn)
  simpa using h4
 have hC:Chg (fun x=>x=w1.heap.size) w5 ((((w5.setCell ⟨w1.heap.size,0,none⟩ (.int .i64 e.term)).setCell ⟨w1.heap.size,1,none⟩ (.int .i64 e.kind)).setCell ⟨w1.heap.size,2,none⟩ (.slice pu e.data.length cu)).setCell ⟨w1.heap.size,3,none⟩ (.slice pn e.nodes.length cn)):=(((Chg.setCell w5 ⟨w1.heap.size,0,none⟩ _).trans (Chg.setCell _ ⟨w1.heap.size,1,none⟩ _) fun _ _ e=>e).trans (Chg.setCell _ ⟨w1.heap.size,2,none⟩ _) fun _ _ e=>e).trans (Chg.setCell _ ⟨w1.heap.size,3,none⟩ _) fun _ _ e=>e
 have hB:Below w1.heap.size w1 ((((w5.setCell ⟨w1.heap.size,0,none⟩ (.int .i64 e.term)).setCell ⟨w1.heap.size,1,none⟩ (.int .i64 e.kind)).setCell ⟨w1.heap.size,2,none⟩ (.slice pu e.data.length cu)).setCell ⟨w1.heap.size,3,none⟩ (.slice pn e.nodes.length cn)):=HB5.out.trans (hC.below HB5.out.size fun k hk e=>by omega)
 have Hh6:=zh (zCU HX.out hB)
 have HE:=zh (show ∃ v:EV,Ending.returned (.tuple #[.agg #[.int .i64 e.term,.int .i64 e.kind,(.slice pu e.data.length cu),(.slice pn e.nodes.length cn)],.int .i64 0])=.returned (.tuple #[entV e v,.int .i64 0])∧zDg ((((w5.setCell ⟨w1.heap.size,0,none⟩ (.int .i64 e.term)).setCell ⟨w1.heap.size,1,none⟩ (.int .i64 e.kind)).setCell ⟨w1.heap.size,2,none⟩ (.slice pu e.data.length cu)).setCell ⟨w1.heap.size,3,none⟩ (.slice pn e.nodes.length cn)) e v∧(∀ k,(v.1.ownBlock=some k∨v.2.ownBlock=some k)→w1.heap.size≤k)∧Below w1.heap.size w1 ((((w5.setCell ⟨w1.heap.size,0,none⟩ (.int .i64 e.term)).setCell ⟨w1.heap.size,1,none⟩ (.int .i64 e.kind)).setCell ⟨w1.heap.size,2,none⟩ (.slice pu e.data.length cu)).setCell ⟨w1.heap.size,3,none⟩ (.slice pn e.nodes.length cn)) from
  ⟨(.slice pu e.data.length cu,.slice pn e.nodes.length cn),rfl,HU.out.1.keep fun x hx=>hC.block x (HU.out.1.lt hx) fun e=>by have h1:=HU.out.2 x hx;have h2:=HW1.out;omega,fun x hx=>by have h1:=HU.out.2 x hx;have h2:=HW1.out;omega,hB⟩)
 have HZ:=zh hz
 clear r0 r1 r2 r3 fr hC hB hz
 generalize (((w5.setCell ⟨w1.heap.size,0,none⟩ (.int .i64 e.term)).setCell ⟨w1.heap.size,1,none⟩ (.int .i64 e.kind)).setCell ⟨w1.heap.size,2,none⟩ (.slice pu e.data.length cu)).setCell ⟨w1.heap.size,3,none⟩ (.slice pn e.nodes.length cn)=W6 at *
 refine hK.out _ _ (Hh6.out.all) (fun hHeld=>?_)
 clear hK
 try simp only [Act.put,uA,uB,uC]
 refine otk 16 (v:=?v1x16) rfl ?_
 simp only [Act.put,uA,uB,uC]
 refine wpAnyH_done (by kernel_rfl) ?_ _
 go_wp2_with fail
 (try simp only [Exit.inBlock,Exit.then])
 refine bodyPost_ret (zCS rfl _ W6 w1.heap.size _ _ (0,0) _ rfl HZ.out Tryz.underlying50 rfl (by kernel_rfl)) rfl ?_
 exact HE.out
theorem rnat_no (h:zBI S w1 j r pre M) (i:Int) (hi:-9223372036854775808≤i∧i≤9223372036854775807) (hno:¬ ((M.number:Int) < i∧i≤(M.last:Int))) :
  Calls Tryz.prog 96 #[.pointer (some ⟨j,0,none⟩),.int .i64 i] w1 fun r w'=>r=.returned (.tuple #[.agg #[.int .i64 0,.int .i64 0,.slice none 0 0,.slice none 0 0],.int .i64 7])∧Below w1.heap.size w1 w':=by
 have hb0:=zAD w1 (.cells #[.int .i64 0,.int .i64 0,.slice none 0 0,.slice none 0 0] 50)
 have hlast:=h.ok.last
 obtain ⟨O,C,gv,dv,ev,vs,hJ,hnw⟩:=h
 obtain ⟨p8,cc8,hev8⟩:=hJ.row.shape
 have c0:=zAJ (hJ.c 0 rfl) hb0
 have c8:=zAJ (hJ.c 8 rfl) hb0
 unfold JouM.last at hlast hno
 have c0:(w1.alloc (.cells #[.int .i64 0,.int .i64 0,.slice none 0 0,.slice none 0 0] 50)).cell? ⟨j,0,none⟩=some (.int .i64 (M.number:Int)):=c0
 have c8:(w1.alloc (.cells #[.int .i64 0,.int .i64 0,.slice none 0 0,.slice none 0 0] 50)).cell? ⟨j,8,none⟩=some ev:=c8
 rw [hev8] at c8
 clear hJ hnw hev8
 generalize M.entries.length=n at *
 generalize M.number=b at *
 obtain ⟨x0,hx0⟩:∃ x0,x0=b+n:=⟨_,rfl⟩
 have hw0:IntKind.i64.wrap ((b:Int)+(n:Int))=(x0:Int):=by rw [IntWalk.i64_in _ (by omega)];omega
 by_cases hlo:i≤(b:Int)
 ·have hd1:decide (i≤(b:Int))=true:=decide_eq_true hlo
  clear hno hlo hx0 hlast
  go_enter Tryz.func96,Tryz.ntmps96
  go_wp2_with fail
  go_quiet (fail)
  have HB2:=zh (show Below w1.heap.size w1 ((w1.alloc (.cells #[.int .i64 0,.int .i64 0,.slice none 0 0,.slice none 0 0] 50)).drewN nq) from hb0.trans ⟨rfl,rfl,rfl,by simp,fun _ _=>rfl⟩)
  have hR:((w1.alloc (.cells #[.int .i64 0,.int .i64 0,.slice none 0 0,.slice none 0 0] 50)).drewN nq).heap[w1.heap.size]?=some (.cells #[.int .i64 0,.int .i64 0,.slice none 0 0,.slice none 0 0] 50):=zAI w1 _
  generalize (w1.alloc (.cells #[.int .i64 0,.int .i64 0,.slice none 0 0,.slice none 0 0] 50)).drewN nq=W at *
  have r0:=zAA hR (i:=0) rfl
  have r1:=zAA hR (i:=1) rfl
  have r2:=zAA hR (i:=2) rfl
  have r3:=zAA hR (i:=3) rfl
  have fr:=zAF hR
  have HR:=zh hR
  clear hb0 hR c0 c8
  go_wp2_with fail
  have hz:((((W.setCell ⟨w1.heap.size,0,none⟩ (.int .i64 0)).setCell ⟨w1.heap.size,1,none⟩ (.int .i64 0)).setCell ⟨w1.heap.size,2,none⟩ (.slice none 0 0)).setCell ⟨w1.heap.size,3,none⟩ (.slice none 0 0)).heap[w1.heap.size]?=some (.cells #[.int .i64 0,.int .i64 0,.slice none 0 0,.slice none 0 0] 50):=by
   have h1:=zAE HR.out 0 (.int .i64 0)
   have h2:=zAE h1 1 (.int .i64 0)
   have h3:=zAE h2 2 (.slice none 0 0)
   have h4:=zAE h3 3 (.slice none 0 0)
   simpa using h4
  have hC:Chg (fun x=>x=w1.heap.size) W ((((W.setCell ⟨w1.heap.size,0,none⟩ (.int .i64 0)).setCell ⟨w1.heap.size,1,none⟩ (.int .i64 0)).setCell ⟨w1.heap.size,2,none⟩ (.slice none 0 0)).setCell ⟨w1.heap.size,3,none⟩ (.slice none 0 0)):=(((Chg.setCell W ⟨w1.heap.size,0,none⟩ _).trans (Chg.setCell _ ⟨w1.heap.size,1,none⟩ _) fun _ _ e=>e).trans (Chg.setCell _ ⟨w1.heap.size,2,none⟩ _) fun _ _ e=>e).trans (Chg.setCell _ ⟨w1.heap.size,3,none⟩ _) fun _ _ e=>e
  have HE:=zh (show Below w1.heap.size w1 _ from HB2.out.trans (hC.below HB2.out.size fun k hk e=>by omega))
  (try simp only [Exit.inBlock,Exit.then])
  refine bodyPost_ret (zCS rfl _ _ w1.heap.size _ _ (0,0) _ rfl hz Tryz.underlying50 rfl (by kernel_rfl)) rfl ?_
  exact ⟨rfl,HE.out⟩
 ·have hd1:decide (i≤(b:Int))=false:=decide_eq_false hlo
  have hd2:decide ((x0:Int) < i)=true:=decide_eq_true (by omega)
  clear hno hlo hx0 hlast
  go_enter Tryz.func96,Tryz.ntmps96
  go_wp2_with fail
  go_quiet (fail)
  have HB2:=zh (show Below w1.heap.size w1 ((w1.alloc (.cells #[.int .i64 0,.int .i64 0,.slice none 0 0,.slice none 0 0] 50)).drewN nq) from hb0.trans ⟨rfl,rfl,rfl,by simp,fun _ _=>rfl⟩)
  have hR:((w1.alloc (.cells #[.int .i64 0,.int .i64 0,.slice none 0 0,.slice none 0 0] 50)).drewN nq).heap[w1.heap.size]?=some (.cells #[.int .i64 0,.int .i64 0,.slice none 0 0,.slice none 0 0] 50):=zAI w1 _
  generalize (w1.alloc (.cells #[.int .i64 0,.int .i64 0,.slice none 0 0,.slice none 0 0] 50)).drewN nq=W at *
  have r0:=zAA hR (i:=0) rfl
  have r1:=zAA hR (i:=1) rfl
  have r2:=zAA hR (i:=2) rfl
  have r3:=zAA hR (i:=3) rfl
  have fr:=zAF hR
  have HR:=zh hR
  clear hb0 hR c0 c8
  go_wp2_with fail
  have hz:((((W.setCell ⟨w1.heap.size,0,none⟩ (.int .i64 0)).setCell ⟨w1.heap.size,1,none⟩ (.int .i64 0)).setCell ⟨w1.heap.size,2,none⟩ (.slice none 0 0)).setCell ⟨w1.heap.size,3,none⟩ (.slice none 0 0)).heap[w1.heap.size]?=some (.cells #[.int .i64 0,.int .i64 0,.slice none 0 0,.slice none 0 0] 50):=by
   have h1:=zAE HR.out 0 (.int .i64 0)
   have h2:=zAE h1 1 (.int .i64 0)
   have h3:=zAE h2 2 (.slice none 0 0)
   have h4:=zAE h3 3 (.slice none 0 0)
   simpa using h4
  have hC:Chg (fun x=>x=w1.heap.size) W ((((W.setCell ⟨w1.heap.size,0,none⟩ (.int .i64 0)).setCell ⟨w1.heap.size,1,none⟩ (.int .i64 0)).setCell ⟨w1.heap.size,2,none⟩ (.slice none 0 0)).setCell ⟨w1.heap.size,3,none⟩ (.slice none 0 0)):=(((Chg.setCell W ⟨w1.heap.size,0,none⟩ _).trans (Chg.setCell _ ⟨w1.heap.size,1,none⟩ _) fun _ _ e=>e).trans (Chg.setCell _ ⟨w1.heap.size,2,none⟩ _) fun _ _ e=>e).trans (Chg.setCell _ ⟨w1.heap.size,3,none⟩ _) fun _ _ e=>e
  have HE:=zh (show Below w1.heap.size w1 _ from HB2.out.trans (hC.below HB2.out.size fun k hk e=>by omega))
  (try simp only [Exit.inBlock,Exit.then])
  refine bodyPost_ret (zCS rfl _ _ w1.heap.size _ _ (0,0) _ rfl hz Tryz.underlying50 rfl (by kernel_rfl)) rfl ?_
  exact ⟨rfl,HE.out⟩
end
theorem holds_drewN {w:World} {s n:Nat} {v:Value} {xs:List Value} (h:zAL w s v n xs) (q:Nat):zAL (w.drewN q) s v n xs :=
 zAL.keep h fun _ _=>rfl
theorem take_eqG {α:Type} {l m:List α} {k:Nat} {x y:α} (hl:l[k]?=some x) (hm:m[k]?=some y) (h:l.take k=m.take k) (e:x=y):l.take (k+1)=m.take (k+1):=by
 rw [List.take_add_one,List.take_add_one,hl,hm,h,e]
theorem ne_atG {α:Type} [BEq α] [LawfulBEq α] {l m:List α} {k:Nat} {x y:α} (hl:l[k]?=some x) (hm:m[k]?=some y) (e:x≠y):(l == m)=false:=by
 rw [beq_eq_false_iff_ne]
 rintro rfl
 rw [hl] at hm
 exact e (Option.some.inj hm)
theorem zEI {w:World} {x y:Value} {l m:List Int} (hx:HasI w x l) (hy:HasI w y m) (hl:l.length≤140737488355328) (hm:m.length≤140737488355328) :
  Calls Tryz.prog 26 #[x,y] w (SamePost w (l == m)):=by
 by_cases hlen:l.length=m.length
 ·have ax:=hx.at
  have ay:=hy.at
  obtain ⟨px,cx,rfl⟩:=hx.slice
  obtain ⟨py,cy,rfl⟩:=hy.slice
  have hbne:((l.length:Int) != (m.length:Int))=false:=by simp [hlen]
  have Hlen:=zh hlen
  have Hax:=zh ax
  have Hay:=zh ay
  clear hx hy hlen ax ay
  generalize hlN:l.length=N at *
  generalize hmM:m.length=M at *
  have HlN:=zh hlN
  have HmM:=zh hmM
  clear hlN hmM
  go_enter Tryz.func26,Tryz.ntmps26
  go_wp2
  go_loopw [5] (fun i wr=>∃ k q:Nat,k≤N∧i=.int .i64 k∧l.take k=m.take k∧wr=w.drewN q) (fun i _=>N - (intOf i).toNat)
  case atStart=>exact ⟨0,0,Nat.zero_le _,rfl,rfl,rfl⟩
  case round =>
   obtain ⟨k,q,hk,rfl,htake,rfl⟩:=hrel
   have Htake:=zh htake
   clear htake
   by_cases hlt:k < N
   ·have hltM:k < M:=by have:=Hlen.out;omega
    have hkl:k < l.length:=by rw [HlN.out];exact hlt
    have hkm:k < m.length:=by rw [HmM.out];exact hltM
    have h1:l[k]?=some l[k]:=List.getElem?_eq_getElem hkl
    have h2:m[k]?=some m[k]:=List.getElem?_eq_getElem hkm
    rcases Hax.out with h | ⟨b,o,c,e1,hcx⟩
    ·rw [h] at hkl
     simp at hkl
    rcases Hay.out with h | ⟨b2,o2,c2,e2,hcy⟩
    ·rw [h] at hkm
     simp at hkm
    cases e1
    cases e2
    have hc1:=hcx k _ h1
    have hc2:=hcy k _ h2
    have Hnext:=zh (fun e=>take_eqG h1 h2 Htake.out e)
    have Hno:=zh (fun e=>ne_atG h1 h2 e)
    clear hcx hcy h1 h2
    generalize l[k]=a at *
    generalize m[k]=b at *
    by_cases hab:a=b
    ·subst hab
     clear hkl hkm
     go_wp2_with fail
     go_quiet (fail)
     go_wp2
     go_roundw
     case rel=>exact ⟨k+1,q+nq,by omega,by go_num,Hnext.out trivial,by first | rfl | rw [World.drewN_drewN]⟩
     case measure=>simp [intOf];omega
    ·have hd:((a != b)=true):=by simpa using hab
     have Hab:=zh hab
     clear hab hkl hkm
     go_wp2_with fail
     go_quiet (fail)
     go_wp2
     go_ret
     exact ⟨by rw [Hno.out Hab.out];rfl,q+nq,by first | rfl | rw [World.drewN_drewN]⟩
   ·go_wp2
    go_ret
    refine ⟨?_,q,rfl⟩
    have h1:=Htake.out
    rw [List.take_of_length_le (by rw [HlN.out];omega),List.take_of_length_le (by rw [HmM.out];have:=Hlen.out;omega)] at h1
    simp [h1]
 ·obtain ⟨px,cx,rfl⟩:=hx.slice
  obtain ⟨py,cy,rfl⟩:=hy.slice
  have hbne:((l.length:Int) != (m.length:Int))=true:=by simp;omega
  have hres:(l == m)=false:=by rw [beq_eq_false_iff_ne];rintro rfl;exact hlen rfl
  rw [hres]
  clear hx hy hlen hres
  go_enter Tryz.func26,Tryz.ntmps26
  go_wp2
  go_ret
  exact ⟨rfl,0,rfl⟩
theorem zEQ {w:World} {x y:Value} {l m:Bs} (hx:HasB w x l) (hy:HasB w y m) (hl:l.length≤140737488355328) (hm:m.length≤140737488355328) :
  Calls Tryz.prog 33 #[x,y] w (SamePost w (l == m)):=by
 by_cases hlen:l.length=m.length
 ·have ax:=hx.at
  have ay:=hy.at
  obtain ⟨px,cx,rfl⟩:=hx.slice
  obtain ⟨py,cy,rfl⟩:=hy.slice
  have hbne:((l.length:Int) != (m.length:Int))=false:=by simp [hlen]
  have Hlen:=zh hlen
  have Hax:=zh ax
  have Hay:=zh ay
  clear hx hy hlen ax ay
  generalize hlN:l.length=N at *
  generalize hmM:m.length=M at *
  have HlN:=zh hlN
  have HmM:=zh hmM
  clear hlN hmM
  go_enter Tryz.func33,Tryz.ntmps33
  go_wp2
  go_loopw [5] (fun i wr=>∃ k q:Nat,k≤N∧i=.int .i64 k∧l.take k=m.take k∧wr=w.drewN q) (fun i _=>N - (intOf i).toNat)
  case atStart=>exact ⟨0,0,Nat.zero_le _,rfl,rfl,rfl⟩
  case round =>
   obtain ⟨k,q,hk,rfl,htake,rfl⟩:=hrel
   have Htake:=zh htake
   clear htake
   by_cases hlt:k < N
   ·have hltM:k < M:=by have:=Hlen.out;omega
    have hkl:k < l.length:=by rw [HlN.out];exact hlt
    have hkm:k < m.length:=by rw [HmM.out];exact hltM
    have h1:l[k]?=some l[k]:=List.getElem?_eq_getElem hkl
    have h2:m[k]?=some m[k]:=List.getElem?_eq_getElem hkm
    rcases Hax.out with h | ⟨b,o,c,e1,hcx⟩
    ·rw [h] at hkl
     simp at hkl
    rcases Hay.out with h | ⟨b2,o2,c2,e2,hcy⟩
    ·rw [h] at hkm
     simp at hkm
    cases e1
    cases e2
    have hc1:=hcx k _ h1
    have hc2:=hcy k _ h2
    have Hnext:=zh (fun e=>take_eq_succ h1 h2 Htake.out e)
    have Hno:=zh (fun e=>ne_at h1 h2 e)
    clear hcx hcy h1 h2
    generalize l[k]=a at *
    generalize m[k]=b at *
    by_cases hab:a=b
    ·have hd:((a.toNat:Int) != (b.toNat:Int))=false:=by simp [hab]
     have Hab:=zh hab
     clear hab hkl hkm
     go_wp2_with fail
     go_quiet (fail)
     go_wp2
     go_roundw
     case rel=>exact ⟨k+1,q+nq,by omega,by go_num,Hnext.out Hab.out,by first | rfl | rw [World.drewN_drewN]⟩
     case measure=>simp [intOf];omega
    ·have hd:((a.toNat:Int) != (b.toNat:Int))=true:=by
      simp only [bne_iff_ne,ne_eq,Int.natCast_inj]
      exact fun e=>hab (UInt8.toNat.inj e)
     have Hab:=zh hab
     clear hab hkl hkm
     go_wp2_with fail
     go_quiet (fail)
     go_wp2
     go_ret
     exact ⟨by rw [Hno.out Hab.out];rfl,q+nq,by first | rfl | rw [World.drewN_drewN]⟩
   ·go_wp2
    go_ret
    refine ⟨?_,q,rfl⟩
    have h1:=Htake.out
    rw [List.take_of_length_le (by rw [HlN.out];omega),List.take_of_length_le (by rw [HmM.out];have:=Hlen.out;omega)] at h1
    simp [h1]
 ·obtain ⟨px,cx,rfl⟩:=hx.slice
  obtain ⟨py,cy,rfl⟩:=hy.slice
  have hbne:((l.length:Int) != (m.length:Int))=true:=by simp;omega
  have hres:(l == m)=false:=by rw [beq_eq_false_iff_ne];rintro rfl;exact hlen rfl
  rw [hres]
  clear hx hy hlen hres
  go_enter Tryz.func33,Tryz.ntmps33
  go_wp2
  go_ret
  exact ⟨rfl,0,rfl⟩
def entEq (e f:Ent):Bool:=decide (e.term=f.term) && decide (e.kind=f.kind) && (e.data == f.data) && (e.nodes == f.nodes)
theorem entEq_refl (e:Ent):entEq e e=true:=by simp [entEq]
theorem entries5_calls {w:World} {e f:Ent} {v u:EV} (hv:zBE w e v) (hu:zBE w f u) :
  Calls Tryz.prog 37 #[entV e v,entV f u] w fun r w'=>r=.returned (.bool (entEq e f))∧Below w.heap.size w w':=by
 obtain ⟨t1,k1,da1,no1⟩:=e
 obtain ⟨t2,k2,da2,no2⟩:=f
 obtain ⟨v1,v2⟩:=v
 obtain ⟨u1,u2⟩:=u
 have hb:=(zAD w (.cells #[.int .i64 t1,.int .i64 k1,v1,v2] 50)).alloc (by simp) (.cells #[.int .i64 t2,.int .i64 k2,u1,u2] 50)
 have hvb:=hv.below hb
 have hub:=hu.below hb
 have Hs:=zh (zEQ hvb.data hub.data (Nat.le_trans hvb.dl (by decide)) (Nat.le_trans hub.dl (by decide)))
 have Hi:=zh (fun q=>zEI (holds_drewN hvb.nodes q) (holds_drewN hub.nodes q) (Nat.le_trans hvb.nl (by decide)) (Nat.le_trans hub.nl (by decide)))
 have HB:=zh hb
 clear hb hv hu hvb hub
 unfold entV entEq
 dsimp only at Hs Hi ⊢
 by_cases h1:t1=t2
 ·have d1:(t1 == t2)=true:=by simpa using h1
  rw [decide_eq_true h1]
  by_cases h2:k1=k2
  ·have d2:(k1 == k2)=true:=by simpa using h2
   rw [decide_eq_true h2]
   subst h1
   subst h2
   cases h3:da1 == da2 with
   | true =>
    rw [h3] at Hs
    go_enter Tryz.func37,Tryz.ntmps37
    go_wp2_with fail
    refine Hs.out.mono ?_
    rintro r w2 ⟨rfl,q,rfl⟩
    go_wp2_with fail
    refine (Hi.out q).mono ?_
    rintro r w3 ⟨rfl,q2,rfl⟩
    go_wp2_with fail
    go_ret
    exact ⟨by simp,HB.out.trans ⟨rfl,rfl,rfl,Nat.le_refl _,fun _ _=>rfl⟩⟩
   | false =>
    rw [h3] at Hs
    go_enter Tryz.func37,Tryz.ntmps37
    go_wp2_with fail
    refine Hs.out.mono ?_
    rintro r w2 ⟨rfl,q,rfl⟩
    go_wp2_with fail
    go_ret
    exact ⟨by simp,HB.out.trans ⟨rfl,rfl,rfl,Nat.le_refl _,fun _ _=>rfl⟩⟩
  ·have d2:(k1 == k2)=false:=by simpa using h2
   rw [decide_eq_false h2]
   subst h1
   clear Hs Hi
   go_enter Tryz.func37,Tryz.ntmps37
   go_wp2_with fail
   go_ret
   exact ⟨by simp,HB.out.trans ⟨rfl,rfl,rfl,Nat.le_refl _,fun _ _=>rfl⟩⟩
 ·have d1:(t1 == t2)=false:=by simpa using h1
  rw [decide_eq_false h1]
  clear Hs Hi
  go_enter Tryz.func37,Tryz.ntmps37
  go_wp2_with fail
  go_ret
  exact ⟨by simp,HB.out.trans ⟨rfl,rfl,rfl,Nat.le_refl _,fun _ _=>rfl⟩⟩
def JEq (M N:JouM):Prop:=M.number=N.number∧M.term=N.term∧M.group=N.group∧M.now=N.now∧M.vote=N.vote∧M.data=N.data∧M.entries=N.entries
theorem JEq.refl (M:JouM):JEq M M:=⟨rfl,rfl,rfl,rfl,rfl,rfl,rfl⟩
theorem JEq.is {M N:JouM} (h:JEq M N):M={ N with dead:=M.dead }:=by
 obtain ⟨a,b,c,d,e,f,g,x⟩:=M
 obtain ⟨h1,h2,h3,h4,h5,h6,h7⟩:=h
 simp only at h1 h2 h3 h4 h5 h6 h7
 subst h1 h2 h3 h4 h5 h6 h7
 rfl
theorem grpIn_dead (N:JouM) (x:Bool):∀ k,({ N with dead:=x }:JouM).grpIn k=N.grpIn k
 | 0=>rfl
 | k+1=>by
  show (match N.entries[k]? with | some e=>if e.kind=2 then (e.nodes,N.number+k+1) else ({ N with dead:=x }:JouM).grpIn k | none=>({ N with dead:=x }:JouM).grpIn k)=_
  rw [grpIn_dead N x k]
  rfl
theorem JEq.grp {M N:JouM} (h:JEq M N):M.grpIn M.entries.length=N.grpIn N.entries.length:=by
 rw [h.is]
 exact grpIn_dead N M.dead _
theorem JEq.last {M N:JouM} (h:JEq M N):M.last=N.last:=by rw [h.is];rfl
theorem JEq.lastT {M N:JouM} (h:JEq M N):M.lastT=N.lastT:=by rw [h.is];rfl
theorem JEq.termAt {M N:JouM} (h:JEq M N) (i:Int):M.termAt i=N.termAt i:=by rw [h.is];rfl
theorem termAt_some (M:JouM) (i:Int):(M.termAt i).isSome=decide ((M.number:Int)≤i∧i≤(M.last:Int)):=by
 have hl:M.last=M.number+M.entries.length:=rfl
 unfold JouM.termAt
 by_cases h1:i=(M.number:Int)
 ·rw [if_pos h1,decide_eq_true (by omega)]
  rfl
 ·rw [if_neg h1]
  by_cases h2:i < (M.number:Int)
  ·rw [if_pos h2,decide_eq_false (by omega)]
   rfl
  ·rw [if_neg h2]
   by_cases h3:i≤(M.last:Int)
   ·rw [List.getElem?_eq_getElem (by omega),decide_eq_true (by omega)]
    rfl
   ·rw [List.getElem?_eq_none (by omega),decide_eq_false (by omega)]
    rfl
def zA6 (w1:World) (M N:JouM) (e:Ending) (w':World):Prop:=∃ b,e=.returned (.bool b)∧(JEq M N→b=true)∧Below w1.heap.size w1 w'
abbrev EZero:Ent:=⟨0,0,[],[]⟩
theorem ent_nil (W:World):zBE W EZero (.slice none 0 0,.slice none 0 0):=⟨OwnB.has (e:=0) (OwnR.nil _ _ _),OwnI.has (OwnR.nil _ _ _),Nat.zero_le _,Nat.zero_le _⟩
section
variable {w w1:World} {j d x r:Nat} {pre pre2:ByteArray} {D:zAB} {M N:JouM} {F S:Nat→Prop}
theorem ent_len {e:Ent} (h:zAs e=true):e.data.length≤1099511627776∧e.nodes.length≤1099511627776:=by
 have:=zA8 h
 omega
theorem jat_any (h:JouF w w1 j d pre D M F) (i:Int) (hi:-9223372036854775808≤i∧i≤9223372036854775807) :
  ∃ (e:Ent) (k:Int),(∀ N:JouM,JEq M N→(N.entries[(i - (N.number:Int) - 1).toNat]?=some e∧(N.number:Int) < i)∨(e=EZero∧¬ ((N.number:Int) < i∧i≤(N.last:Int))))∧k=(if (M.number:Int) < i∧i≤(M.last:Int) then 0 else 7) ∧
  Calls Tryz.prog 34 #[.pointer (some ⟨j,0,none⟩),.int .i64 i] w1 fun r w'=>∃ v:EV,r=.returned (.tuple #[entV e v,.int .i64 k])∧zBE w' e v∧Below w1.heap.size w1 w':=by
 by_cases hin:(M.number:Int) < i∧i≤(M.last:Int)
 ·have hl:M.last=M.number+M.entries.length:=rfl
  have hk:(i - (M.number:Int) - 1).toNat < M.entries.length:=by omega
  have hb:=ent_len (h.okM.ents _ (List.getElem_mem hk))
  refine ⟨M.entries[(i - (M.number:Int) - 1).toNat],0,fun N hq=>.inl ⟨?_,by rw [← hq.1];exact hin.1⟩,by rw [if_pos hin],(jat_yes h i hi hin.1 (List.getElem?_eq_getElem hk)).mono ?_⟩
  ·rw [← hq.1,← hq.2.2.2.2.2.2]
   exact List.getElem?_eq_getElem hk
  ·rintro r w' ⟨v,rfl,hv,-,hb'⟩
   exact ⟨v,rfl,hv.has hb.1 hb.2,hb'⟩
 ·refine ⟨EZero,7,fun N hq=>.inr ⟨rfl,by rw [← hq.1,← hq.last];exact hin⟩,by rw [if_neg hin],(jat_no h i hi hin).mono ?_⟩
  rintro r w' ⟨rfl,hb'⟩
  exact ⟨(.slice none 0 0,.slice none 0 0),rfl,ent_nil w',hb'⟩
theorem rnat_any (h:zBI S w1 x r pre2 N) (i:Int) (hi:-9223372036854775808≤i∧i≤9223372036854775807) :
  ∃ (e:Ent) (k:Int),((N.entries[(i - (N.number:Int) - 1).toNat]?=some e∧(N.number:Int) < i∧i≤(N.last:Int))∨(e=EZero∧¬ ((N.number:Int) < i∧i≤(N.last:Int))))∧k=(if (N.number:Int) < i∧i≤(N.last:Int) then 0 else 7) ∧
  Calls Tryz.prog 96 #[.pointer (some ⟨x,0,none⟩),.int .i64 i] w1 fun r w'=>∃ v:EV,r=.returned (.tuple #[entV e v,.int .i64 k])∧zBE w' e v∧Below w1.heap.size w1 w':=by
 by_cases hin:(N.number:Int) < i∧i≤(N.last:Int)
 ·have hl:N.last=N.number+N.entries.length:=rfl
  have hk:(i - (N.number:Int) - 1).toNat < N.entries.length:=by omega
  have hb:=ent_len (h.ok.ents _ (List.getElem_mem hk))
  refine ⟨N.entries[(i - (N.number:Int) - 1).toNat],0,.inl ⟨List.getElem?_eq_getElem hk,hin⟩,by rw [if_pos hin],(rnat_yes h i hi hin.1 (List.getElem?_eq_getElem hk)).mono ?_⟩
  rintro r w' ⟨v,rfl,hv,-,hb'⟩
  exact ⟨v,rfl,hv.has hb.1 hb.2,hb'⟩
 ·refine ⟨EZero,7,.inr ⟨rfl,hin⟩,by rw [if_neg hin],(rnat_no h i hi hin).mono ?_⟩
  rintro r w' ⟨rfl,hb'⟩
  exact ⟨(.slice none 0 0,.slice none 0 0),rfl,ent_nil w',hb'⟩
theorem zDI (h:JouF w w1 j d pre D M F) (hx:zBI S w1 x r pre2 N) :
  Calls Tryz.prog 19 #[.pointer (some ⟨j,0,none⟩),.pointer (some ⟨x,0,none⟩)] w1 (zA6 w1 M N):=by
 have H:=zh (fun W (hb:Below w1.heap.size w1 W)=>h.next hb)
 have HX:=zh (fun W (hb:Below w1.heap.size w1 W)=>hx.below hb)
 have Hte:=zh (jterm_calls h)
 have hl1:=h.okM.last
 have hl2:=hx.ok.last
 have Hg1:=zh (show M.data.length≤140737488355328∧M.group.length≤7∧(M.grpIn M.entries.length).1.length≤7 from ⟨Nat.le_trans h.okM.data (by decide),grp7 h.okM.group,grp7 (grpIn_ok h.okM _)⟩)
 have Hg2:=zh (show N.data.length≤140737488355328∧N.group.length≤7∧(N.grpIn N.entries.length).1.length≤7 from ⟨Nat.le_trans hx.ok.data (by decide),grp7 hx.ok.group,grp7 (grpIn_ok hx.ok _)⟩)
 clear h hx
 go_enter Tryz.func19,Tryz.ntmps19
 go_wp2_with fail
 refine Hte.out.mono ?_
 rintro e w2 ⟨rfl,q2,rfl⟩
 have HB2:=zh (zAX (B:=w1.heap.size) w1 q2)
 generalize w1.drewN q2=w2 at *
 have Hba:=zh (zEK (H.out w2 HB2.out))
 clear Hte
 go_wp2_with fail
 refine Hba.out.mono ?_
 rintro e w3 ⟨rfl,q3,rfl⟩
 have HB3:=zh (HB2.out.trans (zAX w2 q3))
 generalize w2.drewN q3=w3 at *
 have Hla:=zh (zB5 (H.out w3 HB3.out))
 clear Hba HB2
 go_wp2_with fail
 refine Hla.out.mono ?_
 rintro e w4 ⟨rfl,q4,rfl⟩
 have HB4:=zh (HB3.out.trans (zAX w3 q4))
 generalize w3.drewN q4=w4 at *
 have Hlx:=zh (HX.out w4 HB4.out).last_calls
 clear Hla HB3
 go_wp2_with fail
 refine Hlx.out.mono ?_
 rintro e w5 ⟨rfl,q5,rfl⟩
 have HB5:=zh (HB4.out.trans (zAX w4 q5))
 generalize w4.drewN q5=w5 at *
 have Hno:=zh (jnodes_calls (H.out w5 HB5.out))
 clear Hlx HB4
 go_wp2_with fail
 refine Hno.out.mono ?_
 rintro e w6 ⟨v1,rfl,hv1,-,hb6⟩
 have HB6:=zh (HB5.out.trans (hb6.mono HB5.out.size))
 have HV1:=zh (OwnI.has hv1)
 have Hco:=zh (rnconf_calls (HX.out w6 HB6.out))
 obtain ⟨p1,c1,rfl,-⟩:=zAl hv1
 clear hv1 hb6 Hno HB5
 go_wp2_with fail
 refine Hco.out.mono ?_
 rintro e w7 ⟨v2,rfl,hv2,-,hb7⟩
 have HB7:=zh (HB6.out.trans (hb7.mono HB6.out.size))
 have HV1:=zh (zAL.chg HV1.out (Chg.of_below hb7) fun _ _=>id)
 have HV2:=zh (OwnI.has hv2)
 have Hsn:=zh (jsnap_calls (H.out w7 HB7.out))
 obtain ⟨p2,c2,rfl,-⟩:=zAl hv2
 clear hv2 hb7 Hco HB6
 go_wp2_with fail
 refine Hsn.out.mono ?_
 rintro e w8 ⟨v3,v4,rfl,hv3,hv4,-,hb8⟩
 have HB8:=zh (HB7.out.trans (hb8.mono HB7.out.size))
 have HV1:=zh (show HasI w8 _ (M.grpIn M.entries.length).1 from zAL.chg HV1.out (Chg.of_below hb8) fun _ _=>id)
 have HV2:=zh (show HasI w8 _ (N.grpIn N.entries.length).1 from zAL.chg HV2.out (Chg.of_below hb8) fun _ _=>id)
 have HV3:=zh (OwnB.has hv3)
 have HV4:=zh (OwnI.has hv4)
 obtain ⟨p3,c3,rfl,-⟩:=zAO hv3
 obtain ⟨p4,c4,rfl,-⟩:=zAl hv4
 clear hv3 hv4 hb8 Hsn HB7
 obtain ⟨O,C,gvx,dvx,evx,vsx,hJ,hnw⟩:=HX.out w8 HB8.out
 have HGX:=zh hJ.group
 have HDX:=zh hJ.data
 obtain ⟨pg,cg,eg⟩:=hJ.group.slice
 obtain ⟨pd,cd,ed⟩:=hJ.data.slice
 subst eg
 subst ed
 have x0:=hJ.c 0 rfl
 have x1:=hJ.c 1 rfl
 have x2:=hJ.c 2 rfl
 have x5:=hJ.c 5 rfl
 have x6:=hJ.c 6 rfl
 have x7:=hJ.c 7 rfl
 have X2:=zh x2
 have X7:=zh x7
 have X0:=zh x0
 have HL12:=zh (And.intro Hg1.out Hg2.out)
 clear hJ hnw x2 x7
 simp only [List.append] at *
 have Hi1:=zh (zEI HV1.out HV2.out (by have:=Hg1.out;omega) (by have:=Hg2.out;omega))
 generalize hld1:M.data.length=ld1 at *
 have Hld1:=zh hld1
 clear hld1
 generalize hld2:N.data.length=ld2 at *
 have Hld2:=zh hld2
 clear hld2
 generalize hlg1:M.group.length=lg1 at *
 have Hlg1:=zh hlg1
 clear hlg1
 generalize hlg2:N.group.length=lg2 at *
 have Hlg2:=zh hlg2
 clear hlg2
 have HG1:=zh (show JEq M N→M.grpIn M.entries.length=N.grpIn N.entries.length from fun h=>h.grp)
 generalize M.grpIn M.entries.length=G1 at *
 generalize N.grpIn N.entries.length=G2 at *
 obtain ⟨g1,n1⟩:=G1
 obtain ⟨g2,n2⟩:=G2
 dsimp only at *
 generalize g1.length=lh1 at *
 generalize g2.length=lh2 at *
 by_cases hnow:M.now=N.now
 rotate_left
 ·have bnow:(M.now != N.now)=true:=by simpa using hnow
  have HE:=zh (show zA6 w1 M N (.returned (.bool false)) w8 from ⟨false,rfl,fun hq=>absurd (hq.2.2.2.1) hnow,HB8.out⟩)
  clear hnow
  go_wp2_with fail
  go_ret
  exact HE.out
 have bnow:(M.now != N.now)=false:=by simpa using hnow
 by_cases hvot:M.vote=N.vote
 rotate_left
 ·have bvot:(M.vote != N.vote)=true:=by simpa using hvot
  have HE:=zh (show zA6 w1 M N (.returned (.bool false)) w8 from ⟨false,rfl,fun hq=>absurd (hq.2.2.2.2.1) hvot,HB8.out⟩)
  clear hnow hvot
  go_wp2_with fail
  go_ret
  exact HE.out
 have bvot:(M.vote != N.vote)=false:=by simpa using hvot
 by_cases hnum:(M.number:Int)=(N.number:Int)
 rotate_left
 ·have bnum:((M.number:Int) != (N.number:Int))=true:=by simpa using hnum
  have HE:=zh (show zA6 w1 M N (.returned (.bool false)) w8 from ⟨false,rfl,fun hq=>absurd (by rw [hq.1]) hnum,HB8.out⟩)
  clear hnow hvot hnum
  go_wp2_with fail
  go_ret
  exact HE.out
 have bnum:((M.number:Int) != (N.number:Int))=false:=by simpa using hnum
 by_cases htrm:M.term=N.term
 rotate_left
 ·have btrm:(M.term != N.term)=true:=by simpa using htrm
  have HE:=zh (show zA6 w1 M N (.returned (.bool false)) w8 from ⟨false,rfl,fun hq=>absurd (hq.2.1) htrm,HB8.out⟩)
  clear hnow hvot hnum htrm
  go_wp2_with fail
  go_ret
  exact HE.out
 have btrm:(M.term != N.term)=false:=by simpa using htrm
 by_cases hlas:(M.last:Int)=(N.last:Int)
 rotate_left
 ·have blas:((M.last:Int) != (N.last:Int))=true:=by simpa using hlas
  have HE:=zh (show zA6 w1 M N (.returned (.bool false)) w8 from ⟨false,rfl,fun hq=>absurd (by rw [hq.last]) hlas,HB8.out⟩)
  clear hnow hvot hnum htrm hlas
  go_wp2_with fail
  go_ret
  exact HE.out
 have blas:((M.last:Int) != (N.last:Int))=false:=by simpa using hlas
 by_cases hlat:M.lastT=N.lastT
 rotate_left
 ·have blat:(M.lastT != N.lastT)=true:=by simpa using hlat
  have HE:=zh (show zA6 w1 M N (.returned (.bool false)) w8 from ⟨false,rfl,fun hq=>absurd (hq.lastT) hlat,HB8.out⟩)
  clear hnow hvot hnum htrm hlas hlat
  go_wp2_with fail
  go_ret
  exact HE.out
 have blat:(M.lastT != N.lastT)=false:=by simpa using hlat
 have Hnum:=zh hnum
 have Hlas:=zh hlas
 clear hnow hvot hnum htrm hlas hlat
 go_wp2_with fail
 refine Hi1.out.mono ?_
 rintro e w9 ⟨rfl,q9,rfl⟩
 have HB9:=zh (HB8.out.trans (zAX w8 q9))
 have y7:(w8.drewN q9).cell? ⟨x,7,none⟩=some (.slice pd ld2 cd):=X7.out
 have Y2:=zh (show (w8.drewN q9).cell? ⟨x,2,none⟩=some (.slice pg lg2 cg) from X2.out)
 have Y0:=zh (show (w8.drewN q9).cell? ⟨x,0,none⟩=some (.int .i64 (N.number:Int)) from X0.out)
 have Hs9:=zh (zEQ (w:=w8.drewN q9) (HasB.below HV3.out (zAX w8 q9)) (HasB.below HDX.out (zAX w8 q9)) (by rw [Hld1.out];exact HL12.out.1.1) (by rw [Hld2.out];exact HL12.out.2.1))
 have HV4:=zh (show HasI (w8.drewN q9) (.slice p4 lg1 c4) M.group from zAL.keep HV4.out fun _ _=>rfl)
 have HGX:=zh (show HasI (w8.drewN q9) (.slice pg lg2 cg) N.group from zAL.keep HGX.out fun _ _=>rfl)
 clear x0 x1 x5 x6 X0 X2 X7 HV1 HV2 HV3 HDX HB8 Hi1
 generalize w8.drewN q9=w9 at *
 cases hgg:(g1 == g2) with
 | false =>
  have HE:=zh (show zA6 w1 M N (.returned (.bool false)) w9 from ⟨false,rfl,fun hq=>by have h9:=HG1.out hq;rw [Prod.mk.injEq] at h9;rw [h9.1] at hgg;simp at hgg,HB9.out⟩)
  clear hgg
  go_wp2_with fail
  go_ret
  exact HE.out
 | true =>
  clear hgg
  by_cases hnn:(n1:Int)=(n2:Int)
  rotate_left
  ·have bnn:((n1:Int) != (n2:Int))=true:=by simpa using hnn
   have HE:=zh (show zA6 w1 M N (.returned (.bool false)) w9 from ⟨false,rfl,fun hq=>by have h9:=HG1.out hq;rw [Prod.mk.injEq] at h9;rw [h9.2] at hnn;exact absurd rfl hnn,HB9.out⟩)
   clear hnn
   go_wp2_with fail
   go_ret
   exact HE.out
  have bnn:((n1:Int) != (n2:Int))=false:=by simpa using hnn
  clear hnn
  go_wp2_with fail
  refine Hs9.out.mono ?_
  rintro e w10 ⟨rfl,q10,rfl⟩
  have HB10:=zh (HB9.out.trans (zAX w9 q10))
  have y2:(w9.drewN q10).cell? ⟨x,2,none⟩=some (.slice pg lg2 cg):=Y2.out
  have Z0:=zh (show (w9.drewN q10).cell? ⟨x,0,none⟩=some (.int .i64 (N.number:Int)) from Y0.out)
  have Hi10:=zh (zEI (w:=w9.drewN q10) (zAL.keep HV4.out fun _ _=>rfl) (zAL.keep HGX.out fun _ _=>rfl) (by rw [Hlg1.out];have:=HL12.out.1.2.1;omega) (by rw [Hlg2.out];have:=HL12.out.2.2.1;omega))
  clear y7 Y0 Y2 HV4 HGX HB9 Hs9
  generalize w9.drewN q10=w10 at *
  cases hdd:(M.data == N.data) with
  | false =>
   have HE:=zh (show zA6 w1 M N (.returned (.bool false)) w10 from ⟨false,rfl,fun hq=>by rw [hq.2.2.2.2.2.1] at hdd;simp at hdd,HB10.out⟩)
   clear hdd
   go_wp2_with fail
   go_ret
   exact HE.out
  | true =>
   clear hdd
   go_wp2_with fail
   refine Hi10.out.mono ?_
   rintro e w11 ⟨rfl,q11,rfl⟩
   have HBL:=zh (HB10.out.trans (zAX w10 q11))
   have z0:(w10.drewN q11).cell? ⟨x,0,none⟩=some (.int .i64 (N.number:Int)):=Z0.out
   clear y2 Z0 Hi10 HB10
   generalize hW0:w10.drewN q11=W0 at *
   clear hW0
   cases hgr:(M.group == N.group) with
   | false =>
    have HE:=zh (show zA6 w1 M N (.returned (.bool false)) W0 from ⟨false,rfl,fun hq=>by rw [hq.2.2.1] at hgr;simp at hgr,HBL.out⟩)
    clear hgr
    go_wp2_with fail
    go_ret
    exact HE.out
   | true =>
    clear hgr HL12 Hg1 Hg2 HG1
    have hlx:N.last=N.number+N.entries.length:=rfl
    have Hlx:=zh hlx
    have hbl:N.number≤N.last:=by omega
    clear hlx
    have hw0:IntKind.i64.wrap ((N.number:Int) - 1)=(N.number:Int) - 1:=IntWalk.i64_in _ (by omega)
    have hw1:IntKind.i64.wrap ((N.last:Int)+1)=(N.last:Int)+1:=IntWalk.i64_in _ (by omega)
    go_wp2_with fail
    go_loopw [19] (fun i wr=>∃ z:Int,i=.int .i64 z∧(N.number:Int) - 1≤z∧z≤(N.last:Int)+2∧Below w1.heap.size w1 wr) (fun i _=>((N.last:Int)+2 - intOf i).toNat)
    case atStart=>exact ⟨_,rfl,by omega,by omega,HBL.out⟩
    case round =>
     clear HBL z0 hw0
     obtain ⟨z,rfl,hz1,hz2,hb⟩:=hrel
     by_cases hlt:z≤(N.last:Int)+1
     ·have dlt:decide (z≤(N.last:Int)+1)=true:=decide_eq_true hlt
      have hzr:-9223372036854775808≤z∧z≤9223372036854775807:=by omega
      have HB:=zh hb
      have Ht1:=zh (zDS (H.out wr hb) z hzr)
      have Hts:=zh (show (M.termAt z).isSome=(N.termAt z).isSome from by rw [termAt_some,termAt_some,Hnum.out,Hlas.out])
      have hzw:IntKind.i64.wrap (z+1)=z+1:=IntWalk.i64_in _ (by omega)
      rw [Hts.out] at Ht1
      have HJt:=zh (fun hq:JEq M N=>show (M.termAt z).getD 0=(N.termAt z).getD 0 from by rw [hq.termAt])
      clear hb
      generalize (M.termAt z).getD 0=ta at *
      go_wp2_with fail
      refine Ht1.out.mono ?_
      rintro e wA ⟨rfl,qA,rfl⟩
      have HBA:=zh (HB.out.trans (zAX wr qA))
      generalize wr.drewN qA=wA at *
      have Ht2:=zh (rntermAt_calls (HX.out wA HBA.out) z hzr)
      generalize (N.termAt z).getD 0=tb at *
      generalize (N.termAt z).isSome=ts at *
      clear Ht1 HB
      go_wp2_with fail
      refine Ht2.out.mono ?_
      rintro e wB ⟨rfl,qB,rfl⟩
      have HBB:=zh (HBA.out.trans (zAX wA qB))
      generalize wA.drewN qB=wB at *
      obtain ⟨e1,k1,he1,hk1,hc1⟩:=jat_any (H.out wB HBB.out) z hzr
      have HC1:=zh hc1
      have HE1:=zh he1
      have HK1:=zh hk1
      clear hc1 he1 hk1 Ht2 HBA
      go_wp2_with fail
      refine HC1.out.mono ?_
      rintro e wC ⟨⟨u1,u2⟩,rfl,hu,hbC⟩
      have HBC:=zh (HBB.out.trans (hbC.mono HBB.out.size))
      obtain ⟨pu1,cu1,eu1⟩:=hu.data.slice
      obtain ⟨pu2,cu2,eu2⟩:=hu.nodes.slice
      have eu1:u1=.slice pu1 e1.data.length cu1:=eu1
      have eu2:u2=.slice pu2 e1.nodes.length cu2:=eu2
      subst eu1
      subst eu2
      have HU:=zh hu
      clear hu hbC HC1 HBB
      unfold entV
      generalize hm1:e1.data.length=m1 at *
      generalize hm2:e1.nodes.length=m2 at *
      have HbA:=zh (zAD wC (.cells #[.int .i64 e1.term,.int .i64 e1.kind,.slice pu1 m1 cu1,.slice pu2 m2 cu2] 50))
      have HqA:=zh (zAI wC (.cells #[.int .i64 e1.term,.int .i64 e1.kind,.slice pu1 m1 cu1,.slice pu2 m2 cu2] 50))
      have HBD:=zh (HBC.out.trans (HbA.out.mono HBC.out.size))
      have HUD:=zh (HU.out.below HbA.out)
      clear hm1 hm2 HU
      obtain ⟨e2,k2,he2,hk2,hc2⟩:=rnat_any (HX.out _ HBD.out) z hzr
      have HC2:=zh hc2
      have HE2:=zh (show JEq M N→e1=e2 from fun hq=>by
       rcases HE1.out N hq with ⟨h1,h2⟩ | ⟨h1,h2⟩
       ·rcases he2 with ⟨h3,h4⟩ | ⟨h3,h4⟩
        ·rw [h1] at h3
         exact Option.some.inj h3
        ·exfalso
         have h5:=(List.getElem?_eq_some_iff.1 h1).1
         have h6:=Hlx.out
         exact h4 ⟨h2,by omega⟩
       ·rcases he2 with ⟨h3,h4⟩ | ⟨h3,h4⟩
        ·exact absurd h4 h2
        ·rw [h1,h3])
      have hkk:k1=k2:=by rw [HK1.out,hk2,Hnum.out,Hlas.out]
      subst hkk
      have hkr:(k1 != k1)=false:=by simp
      clear hc2 he2 hk2 HE1 HK1 HBC
      go_wp2_with fail
      generalize hbY:wC.heap.size=bY at *
      generalize wC.alloc (.cells #[.int .i64 e1.term,.int .i64 e1.kind,.slice pu1 m1 cu1,.slice pu2 m2 cu2] 50)=wD at *
      refine HC2.out.mono ?_
      rintro e wE ⟨⟨y1,y2⟩,rfl,hy,hbE⟩
      have HBE:=zh (HBD.out.trans (hbE.mono HBD.out.size))
      obtain ⟨py1,cy1,ey1⟩:=hy.data.slice
      obtain ⟨py2,cy2,ey2⟩:=hy.nodes.slice
      have ey1:y1=.slice py1 e2.data.length cy1:=ey1
      have ey2:y2=.slice py2 e2.nodes.length cy2:=ey2
      subst ey1
      subst ey2
      have HUE:=zh (HUD.out.below hbE)
      have HqE:=zh ((hbE.block bY (zAC HqA.out)).trans HqA.out)
      have HY:=zh hy
      clear hy hbE HC2 HBD HUD HqA
      unfold entV
      generalize hm3:e2.data.length=m3 at *
      generalize hm4:e2.nodes.length=m4 at *
      have HbF:=zh (zAD wE (.cells #[.int .i64 e2.term,.int .i64 e2.kind,.slice py1 m3 cy1,.slice py2 m4 cy2] 50))
      have HqF:=zh (zAI wE (.cells #[.int .i64 e2.term,.int .i64 e2.kind,.slice py1 m3 cy1,.slice py2 m4 cy2] 50))
      have HqY:=zh ((HbF.out.block bY (zAC HqE.out)).trans HqE.out)
      have HBF:=zh (HBE.out.trans (HbF.out.mono HBE.out.size))
      have Hen:=zh (entries5_calls (HUE.out.below HbF.out) (HY.out.below HbF.out))
      unfold entV at Hen
      dsimp only at Hen
      clear hm3 hm4 HUE HY HqE HBE
      have s0:=zAA HqY.out (i:=0) rfl
      have s1:=zAA HqY.out (i:=1) rfl
      have s2:=zAA HqY.out (i:=2) rfl
      have s3:=zAA HqY.out (i:=3) rfl
      have t0:=zAA HqF.out (i:=0) rfl
      have t1:=zAA HqF.out (i:=1) rfl
      have t2:=zAA HqF.out (i:=2) rfl
      have t3:=zAA HqF.out (i:=3) rfl
      by_cases htt:ta=tb
      rotate_left
      ·have btt:(ta != tb)=true:=by simpa using htt
       have HE:=zh (show zA6 w1 M N (.returned (.bool false)) (wE.alloc (.cells #[.int .i64 e2.term,.int .i64 e2.kind,.slice py1 m3 cy1,.slice py2 m4 cy2] 50)) from ⟨false,rfl,fun hq=>absurd (HJt.out hq) htt,HBF.out⟩)
       clear htt
       go_wp2_with fail
       go_ret
       exact HE.out
      have btt:(ta != tb)=false:=by simpa using htt
      have bss:(ts != ts)=false:=by cases ts <;> rfl
      clear htt
      go_wp2_with fail
      refine Hen.out.mono ?_
      rintro e wG ⟨rfl,hbG⟩
      have HBG:=zh (HBF.out.trans (hbG.mono HBF.out.size))
      clear hbG s0 s1 s2 s3 t0 t1 t2 t3 Hen
      cases hee:entEq e1 e2 with
      | false =>
       have HE:=zh (show zA6 w1 M N (.returned (.bool false)) wG from ⟨false,rfl,fun hq=>(by rw [HE2.out hq,entEq_refl] at hee;cases hee),HBG.out⟩)
       clear hee
       go_wp2_with fail
       go_ret
       exact HE.out
      | true =>
       clear hee
       go_wp2_with fail
       go_roundw
       case rel=>exact ⟨z+1,by go_num,by omega,by omega,HBG.out⟩
       case measure=>simp [intOf];omega
     ·have dlt:decide (z≤(N.last:Int)+1)=false:=decide_eq_false hlt
      have HE:=zh (show zA6 w1 M N (.returned (.bool true)) wr from ⟨true,rfl,fun _=>rfl,hb⟩)
      clear hb
      go_wp2_with fail
      go_ret
      exact HE.out
end
end Go.Proofs.YtapfnehdgailmaaGreat
