/- The document's disk: Append, whole. The document's disk: a file goes. (Its walk is printed by mkr3.py.) The document's disk: Remove. The document's disk: Rename. -/
import Derived.Test.YtapfnehdgailmaaGreatEH
set_option maxRecDepth 100000
set_option maxHeartbeats 64000000
namespace Go.Proofs.YtapfnehdgailmaaGreat
open Go.RowKit Go.Sat Go.Maps
section
variable {w:World} {r:Nat} {v:Value} {L:List zAF} {own:Nat→Prop} {D:zAA}
theorem zCu (h:zAU w r v L own D) (s:ByteArray) (hs:s.size≤9223372036854775807) {pb:Option Addr} {m cb:Nat} {l:Bs} (hl:HasB w (.slice pb m cb) l) (hlm:l.length≤140737488355328) (hno:l≠[]→∀ k,(Value.slice pb m cb).ownBlock=some k→¬ own k) :
  Calls Tryz.prog 16 #[.pointer (some ⟨r,0,none⟩),.string s,.slice pb m cb] w (zBi w r own (D.append (nm s) l)):=by
 have hml:m=l.length:=(zBj hl).1
 by_cases hm:D.may [nm s]=0
 ·by_cases hf:D.full (nm s) l=true
  ·have hR:D.append (nm s) l=(D,6):=by unfold zAA.append;rw [if_neg (by rw [hm];simp),if_pos hf]
   rw [hR]
   refine rappend_full h s hs (by omega) hm ?_
   unfold zAA.full at hf
   rw [Bool.or_eq_true,Bool.and_eq_true,decide_eq_true_eq,decide_eq_true_eq,Option.isNone_iff_eq_none] at hf
   rw [hml]
   exact hf
  ·have hf0:D.full (nm s) l=false:=by simpa using hf
   have hok:=ok_append h.ok hm hf0
   have hR:D.append (nm s) l=(zAA.done { D with files:=put (nm s) ⟨(D.cur (nm s)).data ++ l,(D.cur (nm s)).lasts⟩ D.files },0):=by unfold zAA.append;rw [if_neg (by rw [hm];simp),if_neg hf]
   rw [hR]
   unfold zAA.full at hf
   rw [Bool.or_eq_true,Bool.and_eq_true,decide_eq_true_eq,decide_eq_true_eq,Option.isNone_iff_eq_none,not_or] at hf
   have hroom:D.used+m≤D.room:=by omega
   cases hg:Sat.get (nm s) D.files with
   | some f =>
    have hc:D.cur (nm s)=f:=by unfold zAA.cur;rw [hg];rfl
    rw [hc] at hok ⊢
    exact rappend_is h s hs hl hm hg hroom hok
   | none =>
    have hc:D.cur (nm s)=⟨[],0⟩:=by unfold zAA.cur;rw [hg];rfl
    rw [hc] at hok ⊢
    exact rappend_new h s hs hl hno hm hg hroom (Nat.lt_of_not_le fun h4=>hf.2 ⟨hg,h4⟩) hok
 ·have hR:D.append (nm s) l=(D,D.may [nm s]):=by unfold zAA.append;rw [if_pos hm]
  rw [hR]
  have h1:zAU (w.alloc (.cells #[.string s] 9)) r v L own D:=h.below ((Below.refl _ _).alloc (Nat.le_refl _) _)
  have hmay:=zBg h1 (some ⟨w.heap.size,0,none⟩) [s] 1 (zA4 w s) (by simp) (by simpa using hs)
  simp only [List.map_cons,List.map_nil] at hmay
  have Hf:=zh (zA0 h ((Below.refl _ _).alloc (Nat.le_refl _) (.cells #[.string s] 9)) (D.may [nm s]))
  have Hmay:=zh hmay
  generalize D.may [nm s]=e0 at *
  have hne:((e0:Int) != 0)=true:=by simp;omega
  clear h h1 hmay hR hl
  go_enter Tryz.func16,Tryz.ntmps16
  go_wp2_with fail
  refine Hmay.out.mono ?_
  rintro e w2 ⟨rfl,rfl⟩
  go_wp2_with fail
  go_ret
  exact Hf.out
end
end Go.Proofs.YtapfnehdgailmaaGreat
namespace Go.Sat
open Go Go.RowKit
theorem ord_three {P:Program} {l:List Oper} {Q:Exit→Act→World→Prop} {md:Region.Mode} {S:World→Prop} {fuel:Nat} {listed:Array Bool} {a:Act} {w:World} (i j k:Nat) {oi oj ok:Oper} {ri rj rk:List Oper} (hdi:l.drop i=oi :: ri) (hdj:l.drop j=oj :: rj) (hdk:l.drop k=ok :: rk) (hr:Region.ready md l.toArray listed=[i,j,k])
  (hwi:Region.wanted oi (yielded l.toArray a.tmps)=true) (hwj:Region.wanted oj (yielded l.toArray a.tmps)=true) (hwk:Region.wanted ok (yielded l.toArray a.tmps)=true)
  (hi:∀ K:Act→World→Prop,Shut (∀ a w,S w→(S w→wpAnyH P md l.toArray Q S fuel (listed.setIfInBounds i true) a w)→K a w)→Oper.wp P oi a w K Q)
  (hj:∀ K:Act→World→Prop,Shut (∀ a w,S w→(S w→wpAnyH P md l.toArray Q S fuel (listed.setIfInBounds j true) a w)→K a w)→Oper.wp P oj a w K Q)
  (hk:∀ K:Act→World→Prop,Shut (∀ a w,S w→(S w→wpAnyH P md l.toArray Q S fuel (listed.setIfInBounds k true) a w)→K a w)→Oper.wp P ok a w K Q):wpAnyH P md l.toArray Q S (fuel+1) listed a w :=
 wpAnyH_ready hr (by simp) (AllReadyH.cons (zBX hdi) (fun K hK=>by rw [if_pos hwi];exact hi K hK) (AllReadyH.cons (zBX hdj) (fun K hK=>by rw [if_pos hwj];exact hj K hK) (AllReadyH.cons (zBX hdk) (fun K hK=>by rw [if_pos hwk];exact hk K hK) AllReadyH.nil)))
end Go.Sat
namespace Go.Proofs.YtapfnehdgailmaaGreat
open Go.RowKit Go.Sat Go.Maps
section
variable {w:World} {r:Nat} {v:Value} {L:List zAF} {own:Nat→Prop} {D:zAA}
theorem zDQ {z:Int} (h0:-9223372036854775808≤z) (h1:z≤9223372036854775807):IntKind.i64.wrap z=z:=IntWalk.i64_in z ⟨h0,h1⟩
def RGone (w:World) (r:Nat) (own:Nat→Prop) (D:zAA) (e:Ending) (w':World):Prop :=
 e=.returned (.tuple #[])∧∃ own' v' L',zAU w' r v' L' own' D∧Chg (fun k=>k=r) w w'∧(∀ k,own k→own' k)∧∀ k,own' k→own k∨w.heap.size≤k
theorem zCv (h:zAU w r v L own D) (s:ByteArray) :
  Calls Tryz.prog 161 #[.pointer (some ⟨r,0,none⟩),.string s] w (RGone w r own { D with files:=del (nm s) D.files }):=by
 have hsp:=zBL h s
 rw [h.is] at hsp
 cases hg:Sat.get (nm s) D.files with
 | none =>
  rw [hg] at hsp
  have hD:({ D with files:=del (nm s) D.files }:zAA)=D:=by rw [zCP hg]
  rw [hD]
  have Hf:=zh (fun q=>show RGone w r own D (.returned (.tuple #[])) (w.drewN q) from ⟨rfl,own,v,L,h.below ⟨rfl,rfl,rfl,Nat.le_refl _,fun _ _=>rfl⟩,⟨rfl,rfl,rfl,Nat.le_refl _,fun _ _ _=>rfl⟩,fun _ h=>h,fun _ h=>.inl h⟩)
  have Hsp:=zh hsp
  clear h hsp hg hD
  go_enter Tryz.func161,Tryz.ntmps161
  go_wp2_with fail
  refine Hsp.out.mono ?_
  rintro e w3 ⟨rfl,q,rfl⟩
  go_wp2_with fail
  go_end0
  exact Hf.out q
 | some f =>
  rw [hg] at hsp
  obtain ⟨x,hx,hxn,rfl⟩:=h.hit hg
  have hN1:zAl (nm s) (L.map zAF.n) < L.length:=(List.getElem?_eq_some_iff.1 hx).1
  have hdel:del (nm s) D.files=(L.take (zAl (nm s) (L.map zAF.n)) ++ L.drop (zAl (nm s) (L.map zAF.n)+1)).map zAF.key:=by
   have h1:isAt (nm s) (D.files.map (·.1))=true:=by rw [(zD2 (nm s) h.ok.srt).1,hg];rfl
   rw [del_at (nm s) h.ok.srt h1,← h.names,List.map_append,List.map_take,List.map_drop,← h.files]
  obtain ⟨pv,cv,hgv⟩:=h.slice
  have hNc:L.length≤cv:=by
   rcases h.at with h0 | ⟨g,c0,e,hc,-⟩
   ·rw [h0];exact Nat.zero_le _
   ·rw [hgv] at e;cases e;exact hc
  have hfit:=h.fit
  have hok:=ok_del h.ok (nm s)
  generalize zAl (nm s) (L.map zAF.n)=i at *
  have Hc1:=zh (show ∀ W,Below w.heap.size w W→W.cell? ⟨r,1,none⟩=some (.slice pv L.length cv) from fun W hb=>(h.below hb).c1.trans (by rw [hgv]))
  have Hfr:=zh (show ∀ W,Below w.heap.size w W→W.frozen? ⟨r,1,none⟩=false from fun W hb=>zAI (h.below hb).cells 1)
  have Hrow:=zh (show ∀ W,Below w.heap.size w W→OwnR W 127 3 (.slice pv L.length cv) L.length (L.flatMap zAF.cells) from fun W hb=>by rw [← hgv];exact (h.below hb).row)
  have Hone:=zh (cells_one h.core.one)
  have Hend:=zh (show ∀ w7 v7,Below w.heap.size w w7→OwnR w7 127 3 v7 (i+(L.length - (i+1))) ((L.flatMap zAF.cells).take (i * 3) ++ (L.flatMap zAF.cells).drop ((i+1) * 3))→(∀ k,v7.ownBlock=some k→w.heap.size≤k)→RGone w r own { D with files:=del (nm s) D.files } (.returned (.tuple #[])) (w7.setCell ⟨r,1,none⟩ v7) from fun w7 v7 hb h7 hn7=>by
   have hlen':(L.take i ++ L.drop (i+1)).length=i+(L.length - (i+1)):=by
    rw [List.length_append,List.length_take,List.length_drop]
    omega
   have hcore:=(h.below hb).core.relist (v':=v7) (L':=L.take i ++ L.drop (i+1)) (by rw [hlen',List.flatMap_append,cells_take,cells_drop];exact h7) (fun x hx=>by
    rcases List.mem_append.1 hx with hx | hx
    ·exact .inl (List.mem_of_mem_take hx)
    ·exact .inl (List.mem_of_mem_drop hx)) (fun k hk ho=>by
     have h1:=hn7 k hk
     have h2:=h.olt k ho
     omega)
   exact ⟨rfl,_,_,_,hcore.full rfl rfl hdel hok,zBk hb (zCW (own:=fun k=>k=r) rfl),fun _ h=>.inl h,fun k hk=>hk.imp id (hn7 k)⟩)
  obtain ⟨iF,hFi,hF0,hF1,hF2⟩:=info_parts (show (Tryz.prog.info? 127).map (fun i=>(i.zero,i.size,i.bytes))=some (some (.agg #[.string ⟨#[]⟩,.slice none 0 0,.int .i64 0]),3,48) by kernel_rfl)
  have hs1:∀ W,(Instr.slice 116 (.slice pv L.length cv) none (some (.int .i64 (i:Int))) none).run Tryz.prog W=.ok (.slice pv i cv) W:=fun W=>zBx W Tryz.underlying116 hFi pv _ cv i (by omega)
  have hs2:∀ W,(Instr.slice 116 (.slice pv L.length cv) (some (.int .i64 ((i:Int)+1))) none none).run Tryz.prog W=.ok (.slice (if cv - (i+1)=0 then pv else pv.map fun x=>x.add ((i+1) * 3)) (L.length - (i+1)) (cv - (i+1))) W:=fun W=>by
   have:=zC8 (P:=Tryz.prog) W Tryz.underlying116 hFi pv L.length cv (i+1) (by omega) hNc
   rw [hF1] at this
   exact this
  have hwr:IntKind.i64.wrap ((i:Int)+1)=(i:Int)+1:=zDQ (by omega) (by omega)
  have Hup:=zh (show ∀ W,Below w.heap.size w W→zAY W 3 (.slice pv i cv) i ((L.flatMap zAF.cells).take (i * 3)) from fun W hb=>zAY.upto (OwnR.holds (Hrow.out _ hb)) (by omega) cv)
  have Hfrom:=zh (show ∀ W,Below w.heap.size w W→zAY W 3 (.slice (if cv - (i+1)=0 then pv else pv.map fun x=>x.add ((i+1) * 3)) (L.length - (i+1)) (cv - (i+1))) (L.length - (i+1)) ((L.flatMap zAF.cells).drop ((i+1) * 3)) from fun W hb=>OwnR.cut_from (Hrow.out W hb) (by omega))
  generalize hpF:(if cv - (i+1)=0 then pv else pv.map fun x=>x.add ((i+1) * 3))=pF at *
  have Hsp:=zh hsp
  clear h hg hok hsp hdel hpF hx
  subst hgv
  generalize hN:L.length=N at *
  clear hN
  go_enter Tryz.func161,Tryz.ntmps161
  go_wp2_with fail
  refine Hsp.out.mono ?_
  rintro e w3 ⟨rfl,q,rfl⟩
  have X0:=zh (show Below w.heap.size w (w.drewN q).drew from ⟨rfl,rfl,rfl,Nat.le_refl _,fun _ _=>rfl⟩)
  go_wp2_with fail
  refine zAK (fun _:World=>True) (n:=20) (by kernel_rfl) rfl trivial (fun _=>?_)
  generalize (w.drewN q).drew=Wd at *
  refine pl [0,2,3,4,6,9,10,11,13,14] ?_
  iterate 10 (refine pc rfl ?_;simp only [Act.put,uA,uB,uC])
  refine pn ?_
  refine ord_three 1 5 12 rfl rfl rfl (by kernel_rfl) (by rfl) (by rfl) (by rfl) (fun K hK=>?_) (fun K hK=>?_) (fun K hK=>?_)
  ·go_wp2_with fail
   have X1:=zh (X0.out.alloc X0.out.size (.cells #[] 127))
   refine hK.out _ _ trivial (fun _=>?_)
   clear hK
   try simp only [Act.put,uA,uB,uC]
   refine zCt 5 12 rfl rfl (by kernel_rfl) (by rfl) (by rfl) (fun K hK=>?_) (fun K hK=>?_)
   ·have hc2:=Hc1.out _ X1.out
    go_wp2_with fail
    clear hc2
    refine hK.out _ _ trivial (fun _=>?_)
    clear hK
    try simp only [Act.put,uA,uB,uC]
    refine zBI 7 (v:=?v2x7) rfl (by kernel_rfl) (by kernel_rfl) (by kernel_rfl) (fun _ _ _ h=>h) (by rfl) trivial ?y2x7 ?_
    case y2x7=>(intro w hSw;clear hSw;go_simp;try with_reducible rfl)
    simp only [Act.put,uA,uB,uC]
    refine zCt 8 12 rfl rfl (by kernel_rfl) (by rfl) (by rfl) (fun K hK=>?_) (fun K hK=>?_)
    ·have hown0:=zBK Wd 127 3
     have hup:=Hup.out _ X1.out
     refine zAi (.tmp 14) (.tmp 20) 116 (by rfl) 127 iF _ 3 48 Tryz.underlying116 hFi hF0 hF1 hF2 rfl (by decide) (.slice (some ⟨Wd.heap.size,0,none⟩) 0 0) 0 [] (by rfl) hown0 (.slice pv i cv) i _ (by rfl) hup (fun u hu=>Hone.out u (List.mem_of_mem_take hu)) (by unfold maxLen;omega) (by omega) ?_
     clear hown0 hup
     intro v6 w6 hown6 hgrow6 hloc6
     have X6:=zh (X1.out.grown hgrow6 X1.out.size (fun j e=>by have:=X0.out.size;simp [Value.ownBlock] at e;omega))
     have hnew6:=zAj (B:=w.heap.size) hloc6 (fun k hk=>by have:=X0.out.size;simp [Value.ownBlock] at hk;omega) X1.out.size
     rw [Nat.zero_add,List.nil_append] at hown6
     obtain ⟨p6,c6,rfl⟩:=OwnR.shape hown6
     have Hown6:=zh hown6
     have Hnew6:=zh hnew6
     clear hgrow6 hloc6 hown6 hnew6
     refine hK.out _ _ trivial (fun _=>?_)
     clear hK
     try simp only [Act.put,uA,uB,uC]
     refine zAB 12 rfl (by kernel_rfl) (by rfl) (fun K hK=>?_)
     have hc2:=Hc1.out _ X6.out
     go_wp2_with fail
     clear hc2
     refine hK.out _ _ trivial (fun _=>?_)
     clear hK
     try simp only [Act.put,uA,uB,uC]
     refine zBI 15 (v:=?v4x15) rfl (by kernel_rfl) (by kernel_rfl) (by kernel_rfl) (fun _ _ _ h=>h) (by rfl) trivial ?y4x15 ?_
     case y4x15=>(intro w hSw;clear hSw;go_simp;try with_reducible rfl)
     simp only [Act.put,uA,uB,uC]
     refine zAB 16 rfl (by kernel_rfl) (by rfl) (fun K hK=>?_)
     have hfrom:=Hfrom.out _ X6.out
     refine zAi (.tmp 21) (.tmp 28) 116 (by rfl) 127 iF _ 3 48 Tryz.underlying116 hFi hF0 hF1 hF2 rfl (by decide) (.slice p6 i c6) i _ (by rfl) Hown6.out (.slice pF (N - (i+1)) (cv - (i+1))) (N - (i+1)) _ (by rfl) hfrom (fun u hu=>Hone.out u (List.mem_of_mem_drop hu)) (by unfold maxLen;omega) (by omega) ?_
     clear hfrom
     intro v7 w7 hown7 hgrow7 hloc7
     have X7:=zh (X6.out.grown hgrow7 X6.out.size Hnew6.out)
     have hnew7:=zAj (B:=w.heap.size) hloc7 Hnew6.out X6.out.size
     obtain ⟨p7,c7,rfl⟩:=OwnR.shape hown7
     have Hend7:=zh (Hend.out w7 _ X7.out hown7 hnew7)
     clear hgrow7 hloc7 hown7 hnew7
     refine hK.out _ _ trivial (fun _=>?_)
     clear hK
     try simp only [Act.put,uA,uB,uC]
     refine pl [17,18] ?_
     iterate 2 (refine pc rfl ?_;simp only [Act.put,uA,uB,uC])
     refine pn ?_
     refine zAB 19 rfl (by kernel_rfl) (by rfl) (fun K hK=>?_)
     have hc2:=Hc1.out _ X7.out
     have hfz1:=Hfr.out _ X7.out
     go_wp2_with fail
     clear hc2 hfz1
     refine hK.out _ _ trivial (fun _=>?_)
     clear hK
     try simp only [Act.put,uA,uB,uC]
     refine wpAnyH_done (by kernel_rfl) ?_ _
     go_wp2_with fail
     go_end0
     exact Hend7.out
    ·have hc2:=Hc1.out _ X1.out
     go_wp2_with fail
     clear hc2
     refine hK.out _ _ trivial (fun _=>?_)
     clear hK
     try simp only [Act.put,uA,uB,uC]
     refine zBI 15 (v:=?v6x15) rfl (by kernel_rfl) (by kernel_rfl) (by kernel_rfl) (fun _ _ _ h=>h) (by rfl) trivial ?y6x15 ?_
     case y6x15=>(intro w hSw;clear hSw;go_simp;try with_reducible rfl)
     simp only [Act.put,uA,uB,uC]
     refine zAB 8 rfl (by kernel_rfl) (by rfl) (fun K hK=>?_)
     have hown0:=zBK Wd 127 3
     have hup:=Hup.out _ X1.out
     refine zAi (.tmp 14) (.tmp 20) 116 (by rfl) 127 iF _ 3 48 Tryz.underlying116 hFi hF0 hF1 hF2 rfl (by decide) (.slice (some ⟨Wd.heap.size,0,none⟩) 0 0) 0 [] (by rfl) hown0 (.slice pv i cv) i _ (by rfl) hup (fun u hu=>Hone.out u (List.mem_of_mem_take hu)) (by unfold maxLen;omega) (by omega) ?_
     clear hown0 hup
     intro v6 w6 hown6 hgrow6 hloc6
     have X6:=zh (X1.out.grown hgrow6 X1.out.size (fun j e=>by have:=X0.out.size;simp [Value.ownBlock] at e;omega))
     have hnew6:=zAj (B:=w.heap.size) hloc6 (fun k hk=>by have:=X0.out.size;simp [Value.ownBlock] at hk;omega) X1.out.size
     rw [Nat.zero_add,List.nil_append] at hown6
     obtain ⟨p6,c6,rfl⟩:=OwnR.shape hown6
     have Hown6:=zh hown6
     have Hnew6:=zh hnew6
     clear hgrow6 hloc6 hown6 hnew6
     refine hK.out _ _ trivial (fun _=>?_)
     clear hK
     try simp only [Act.put,uA,uB,uC]
     refine zAB 16 rfl (by kernel_rfl) (by rfl) (fun K hK=>?_)
     have hfrom:=Hfrom.out _ X6.out
     refine zAi (.tmp 21) (.tmp 28) 116 (by rfl) 127 iF _ 3 48 Tryz.underlying116 hFi hF0 hF1 hF2 rfl (by decide) (.slice p6 i c6) i _ (by rfl) Hown6.out (.slice pF (N - (i+1)) (cv - (i+1))) (N - (i+1)) _ (by rfl) hfrom (fun u hu=>Hone.out u (List.mem_of_mem_drop hu)) (by unfold maxLen;omega) (by omega) ?_
     clear hfrom
     intro v7 w7 hown7 hgrow7 hloc7
     have X7:=zh (X6.out.grown hgrow7 X6.out.size Hnew6.out)
     have hnew7:=zAj (B:=w.heap.size) hloc7 Hnew6.out X6.out.size
     obtain ⟨p7,c7,rfl⟩:=OwnR.shape hown7
     have Hend7:=zh (Hend.out w7 _ X7.out hown7 hnew7)
     clear hgrow7 hloc7 hown7 hnew7
     refine hK.out _ _ trivial (fun _=>?_)
     clear hK
     try simp only [Act.put,uA,uB,uC]
     refine pl [17,18] ?_
     iterate 2 (refine pc rfl ?_;simp only [Act.put,uA,uB,uC])
     refine pn ?_
     refine zAB 19 rfl (by kernel_rfl) (by rfl) (fun K hK=>?_)
     have hc2:=Hc1.out _ X7.out
     have hfz1:=Hfr.out _ X7.out
     go_wp2_with fail
     clear hc2 hfz1
     refine hK.out _ _ trivial (fun _=>?_)
     clear hK
     try simp only [Act.put,uA,uB,uC]
     refine wpAnyH_done (by kernel_rfl) ?_ _
     go_wp2_with fail
     go_end0
     exact Hend7.out
   ·have hc2:=Hc1.out _ X1.out
    go_wp2_with fail
    clear hc2
    refine hK.out _ _ trivial (fun _=>?_)
    clear hK
    try simp only [Act.put,uA,uB,uC]
    refine zBI 15 (v:=?v9x15) rfl (by kernel_rfl) (by kernel_rfl) (by kernel_rfl) (fun _ _ _ h=>h) (by rfl) trivial ?y9x15 ?_
    case y9x15=>(intro w hSw;clear hSw;go_simp;try with_reducible rfl)
    simp only [Act.put,uA,uB,uC]
    refine zAB 5 rfl (by kernel_rfl) (by rfl) (fun K hK=>?_)
    have hc2:=Hc1.out _ X1.out
    go_wp2_with fail
    clear hc2
    refine hK.out _ _ trivial (fun _=>?_)
    clear hK
    try simp only [Act.put,uA,uB,uC]
    refine zBI 7 (v:=?v10x7) rfl (by kernel_rfl) (by kernel_rfl) (by kernel_rfl) (fun _ _ _ h=>h) (by rfl) trivial ?y10x7 ?_
    case y10x7=>(intro w hSw;clear hSw;go_simp;try with_reducible rfl)
    simp only [Act.put,uA,uB,uC]
    refine zAB 8 rfl (by kernel_rfl) (by rfl) (fun K hK=>?_)
    have hown0:=zBK Wd 127 3
    have hup:=Hup.out _ X1.out
    refine zAi (.tmp 14) (.tmp 20) 116 (by rfl) 127 iF _ 3 48 Tryz.underlying116 hFi hF0 hF1 hF2 rfl (by decide) (.slice (some ⟨Wd.heap.size,0,none⟩) 0 0) 0 [] (by rfl) hown0 (.slice pv i cv) i _ (by rfl) hup (fun u hu=>Hone.out u (List.mem_of_mem_take hu)) (by unfold maxLen;omega) (by omega) ?_
    clear hown0 hup
    intro v6 w6 hown6 hgrow6 hloc6
    have X6:=zh (X1.out.grown hgrow6 X1.out.size (fun j e=>by have:=X0.out.size;simp [Value.ownBlock] at e;omega))
    have hnew6:=zAj (B:=w.heap.size) hloc6 (fun k hk=>by have:=X0.out.size;simp [Value.ownBlock] at hk;omega) X1.out.size
    rw [Nat.zero_add,List.nil_append] at hown6
    obtain ⟨p6,c6,rfl⟩:=OwnR.shape hown6
    have Hown6:=zh hown6
    have Hnew6:=zh hnew6
    clear hgrow6 hloc6 hown6 hnew6
    refine hK.out _ _ trivial (fun _=>?_)
    clear hK
    try simp only [Act.put,uA,uB,uC]
    refine zAB 16 rfl (by kernel_rfl) (by rfl) (fun K hK=>?_)
    have hfrom:=Hfrom.out _ X6.out
    refine zAi (.tmp 21) (.tmp 28) 116 (by rfl) 127 iF _ 3 48 Tryz.underlying116 hFi hF0 hF1 hF2 rfl (by decide) (.slice p6 i c6) i _ (by rfl) Hown6.out (.slice pF (N - (i+1)) (cv - (i+1))) (N - (i+1)) _ (by rfl) hfrom (fun u hu=>Hone.out u (List.mem_of_mem_drop hu)) (by unfold maxLen;omega) (by omega) ?_
    clear hfrom
    intro v7 w7 hown7 hgrow7 hloc7
    have X7:=zh (X6.out.grown hgrow7 X6.out.size Hnew6.out)
    have hnew7:=zAj (B:=w.heap.size) hloc7 Hnew6.out X6.out.size
    obtain ⟨p7,c7,rfl⟩:=OwnR.shape hown7
    have Hend7:=zh (Hend.out w7 _ X7.out hown7 hnew7)
    clear hgrow7 hloc7 hown7 hnew7
    refine hK.out _ _ trivial (fun _=>?_)
    clear hK
    try simp only [Act.put,uA,uB,uC]
    refine pl [17,18] ?_
    iterate 2 (refine pc rfl ?_;simp only [Act.put,uA,uB,uC])
    refine pn ?_
    refine zAB 19 rfl (by kernel_rfl) (by rfl) (fun K hK=>?_)
    have hc2:=Hc1.out _ X7.out
    have hfz1:=Hfr.out _ X7.out
    go_wp2_with fail
    clear hc2 hfz1
    refine hK.out _ _ trivial (fun _=>?_)
    clear hK
    try simp only [Act.put,uA,uB,uC]
    refine wpAnyH_done (by kernel_rfl) ?_ _
    go_wp2_with fail
    go_end0
    exact Hend7.out
  ·have hc2:=Hc1.out _ X0.out
   go_wp2_with fail
   clear hc2
   refine hK.out _ _ trivial (fun _=>?_)
   clear hK
   try simp only [Act.put,uA,uB,uC]
   refine zBI 7 (v:=?v13x7) rfl (by kernel_rfl) (by kernel_rfl) (by kernel_rfl) (fun _ _ _ h=>h) (by rfl) trivial ?y13x7 ?_
   case y13x7=>(intro w hSw;clear hSw;go_simp;try with_reducible rfl)
   simp only [Act.put,uA,uB,uC]
   refine zCt 1 12 rfl rfl (by kernel_rfl) (by rfl) (by rfl) (fun K hK=>?_) (fun K hK=>?_)
   ·go_wp2_with fail
    have X1:=zh (X0.out.alloc X0.out.size (.cells #[] 127))
    refine hK.out _ _ trivial (fun _=>?_)
    clear hK
    try simp only [Act.put,uA,uB,uC]
    refine zCt 8 12 rfl rfl (by kernel_rfl) (by rfl) (by rfl) (fun K hK=>?_) (fun K hK=>?_)
    ·have hown0:=zBK Wd 127 3
     have hup:=Hup.out _ X1.out
     refine zAi (.tmp 14) (.tmp 20) 116 (by rfl) 127 iF _ 3 48 Tryz.underlying116 hFi hF0 hF1 hF2 rfl (by decide) (.slice (some ⟨Wd.heap.size,0,none⟩) 0 0) 0 [] (by rfl) hown0 (.slice pv i cv) i _ (by rfl) hup (fun u hu=>Hone.out u (List.mem_of_mem_take hu)) (by unfold maxLen;omega) (by omega) ?_
     clear hown0 hup
     intro v6 w6 hown6 hgrow6 hloc6
     have X6:=zh (X1.out.grown hgrow6 X1.out.size (fun j e=>by have:=X0.out.size;simp [Value.ownBlock] at e;omega))
     have hnew6:=zAj (B:=w.heap.size) hloc6 (fun k hk=>by have:=X0.out.size;simp [Value.ownBlock] at hk;omega) X1.out.size
     rw [Nat.zero_add,List.nil_append] at hown6
     obtain ⟨p6,c6,rfl⟩:=OwnR.shape hown6
     have Hown6:=zh hown6
     have Hnew6:=zh hnew6
     clear hgrow6 hloc6 hown6 hnew6
     refine hK.out _ _ trivial (fun _=>?_)
     clear hK
     try simp only [Act.put,uA,uB,uC]
     refine zAB 12 rfl (by kernel_rfl) (by rfl) (fun K hK=>?_)
     have hc2:=Hc1.out _ X6.out
     go_wp2_with fail
     clear hc2
     refine hK.out _ _ trivial (fun _=>?_)
     clear hK
     try simp only [Act.put,uA,uB,uC]
     refine zBI 15 (v:=?v16x15) rfl (by kernel_rfl) (by kernel_rfl) (by kernel_rfl) (fun _ _ _ h=>h) (by rfl) trivial ?y16x15 ?_
     case y16x15=>(intro w hSw;clear hSw;go_simp;try with_reducible rfl)
     simp only [Act.put,uA,uB,uC]
     refine zAB 16 rfl (by kernel_rfl) (by rfl) (fun K hK=>?_)
     have hfrom:=Hfrom.out _ X6.out
     refine zAi (.tmp 21) (.tmp 28) 116 (by rfl) 127 iF _ 3 48 Tryz.underlying116 hFi hF0 hF1 hF2 rfl (by decide) (.slice p6 i c6) i _ (by rfl) Hown6.out (.slice pF (N - (i+1)) (cv - (i+1))) (N - (i+1)) _ (by rfl) hfrom (fun u hu=>Hone.out u (List.mem_of_mem_drop hu)) (by unfold maxLen;omega) (by omega) ?_
     clear hfrom
     intro v7 w7 hown7 hgrow7 hloc7
     have X7:=zh (X6.out.grown hgrow7 X6.out.size Hnew6.out)
     have hnew7:=zAj (B:=w.heap.size) hloc7 Hnew6.out X6.out.size
     obtain ⟨p7,c7,rfl⟩:=OwnR.shape hown7
     have Hend7:=zh (Hend.out w7 _ X7.out hown7 hnew7)
     clear hgrow7 hloc7 hown7 hnew7
     refine hK.out _ _ trivial (fun _=>?_)
     clear hK
     try simp only [Act.put,uA,uB,uC]
     refine pl [17,18] ?_
     iterate 2 (refine pc rfl ?_;simp only [Act.put,uA,uB,uC])
     refine pn ?_
     refine zAB 19 rfl (by kernel_rfl) (by rfl) (fun K hK=>?_)
     have hc2:=Hc1.out _ X7.out
     have hfz1:=Hfr.out _ X7.out
     go_wp2_with fail
     clear hc2 hfz1
     refine hK.out _ _ trivial (fun _=>?_)
     clear hK
     try simp only [Act.put,uA,uB,uC]
     refine wpAnyH_done (by kernel_rfl) ?_ _
     go_wp2_with fail
     go_end0
     exact Hend7.out
    ·have hc2:=Hc1.out _ X1.out
     go_wp2_with fail
     clear hc2
     refine hK.out _ _ trivial (fun _=>?_)
     clear hK
     try simp only [Act.put,uA,uB,uC]
     refine zBI 15 (v:=?v18x15) rfl (by kernel_rfl) (by kernel_rfl) (by kernel_rfl) (fun _ _ _ h=>h) (by rfl) trivial ?y18x15 ?_
     case y18x15=>(intro w hSw;clear hSw;go_simp;try with_reducible rfl)
     simp only [Act.put,uA,uB,uC]
     refine zAB 8 rfl (by kernel_rfl) (by rfl) (fun K hK=>?_)
     have hown0:=zBK Wd 127 3
     have hup:=Hup.out _ X1.out
     refine zAi (.tmp 14) (.tmp 20) 116 (by rfl) 127 iF _ 3 48 Tryz.underlying116 hFi hF0 hF1 hF2 rfl (by decide) (.slice (some ⟨Wd.heap.size,0,none⟩) 0 0) 0 [] (by rfl) hown0 (.slice pv i cv) i _ (by rfl) hup (fun u hu=>Hone.out u (List.mem_of_mem_take hu)) (by unfold maxLen;omega) (by omega) ?_
     clear hown0 hup
     intro v6 w6 hown6 hgrow6 hloc6
     have X6:=zh (X1.out.grown hgrow6 X1.out.size (fun j e=>by have:=X0.out.size;simp [Value.ownBlock] at e;omega))
     have hnew6:=zAj (B:=w.heap.size) hloc6 (fun k hk=>by have:=X0.out.size;simp [Value.ownBlock] at hk;omega) X1.out.size
     rw [Nat.zero_add,List.nil_append] at hown6
     obtain ⟨p6,c6,rfl⟩:=OwnR.shape hown6
     have Hown6:=zh hown6
     have Hnew6:=zh hnew6
     clear hgrow6 hloc6 hown6 hnew6
     refine hK.out _ _ trivial (fun _=>?_)
     clear hK
     try simp only [Act.put,uA,uB,uC]
     refine zAB 16 rfl (by kernel_rfl) (by rfl) (fun K hK=>?_)
     have hfrom:=Hfrom.out _ X6.out
     refine zAi (.tmp 21) (.tmp 28) 116 (by rfl) 127 iF _ 3 48 Tryz.underlying116 hFi hF0 hF1 hF2 rfl (by decide) (.slice p6 i c6) i _ (by rfl) Hown6.out (.slice pF (N - (i+1)) (cv - (i+1))) (N - (i+1)) _ (by rfl) hfrom (fun u hu=>Hone.out u (List.mem_of_mem_drop hu)) (by unfold maxLen;omega) (by omega) ?_
     clear hfrom
     intro v7 w7 hown7 hgrow7 hloc7
     have X7:=zh (X6.out.grown hgrow7 X6.out.size Hnew6.out)
     have hnew7:=zAj (B:=w.heap.size) hloc7 Hnew6.out X6.out.size
     obtain ⟨p7,c7,rfl⟩:=OwnR.shape hown7
     have Hend7:=zh (Hend.out w7 _ X7.out hown7 hnew7)
     clear hgrow7 hloc7 hown7 hnew7
     refine hK.out _ _ trivial (fun _=>?_)
     clear hK
     try simp only [Act.put,uA,uB,uC]
     refine pl [17,18] ?_
     iterate 2 (refine pc rfl ?_;simp only [Act.put,uA,uB,uC])
     refine pn ?_
     refine zAB 19 rfl (by kernel_rfl) (by rfl) (fun K hK=>?_)
     have hc2:=Hc1.out _ X7.out
     have hfz1:=Hfr.out _ X7.out
     go_wp2_with fail
     clear hc2 hfz1
     refine hK.out _ _ trivial (fun _=>?_)
     clear hK
     try simp only [Act.put,uA,uB,uC]
     refine wpAnyH_done (by kernel_rfl) ?_ _
     go_wp2_with fail
     go_end0
     exact Hend7.out
   ·have hc2:=Hc1.out _ X0.out
    go_wp2_with fail
    clear hc2
    refine hK.out _ _ trivial (fun _=>?_)
    clear hK
    try simp only [Act.put,uA,uB,uC]
    refine zBI 15 (v:=?v21x15) rfl (by kernel_rfl) (by kernel_rfl) (by kernel_rfl) (fun _ _ _ h=>h) (by rfl) trivial ?y21x15 ?_
    case y21x15=>(intro w hSw;clear hSw;go_simp;try with_reducible rfl)
    simp only [Act.put,uA,uB,uC]
    refine zAB 1 rfl (by kernel_rfl) (by rfl) (fun K hK=>?_)
    go_wp2_with fail
    have X1:=zh (X0.out.alloc X0.out.size (.cells #[] 127))
    refine hK.out _ _ trivial (fun _=>?_)
    clear hK
    try simp only [Act.put,uA,uB,uC]
    refine zAB 8 rfl (by kernel_rfl) (by rfl) (fun K hK=>?_)
    have hown0:=zBK Wd 127 3
    have hup:=Hup.out _ X1.out
    refine zAi (.tmp 14) (.tmp 20) 116 (by rfl) 127 iF _ 3 48 Tryz.underlying116 hFi hF0 hF1 hF2 rfl (by decide) (.slice (some ⟨Wd.heap.size,0,none⟩) 0 0) 0 [] (by rfl) hown0 (.slice pv i cv) i _ (by rfl) hup (fun u hu=>Hone.out u (List.mem_of_mem_take hu)) (by unfold maxLen;omega) (by omega) ?_
    clear hown0 hup
    intro v6 w6 hown6 hgrow6 hloc6
    have X6:=zh (X1.out.grown hgrow6 X1.out.size (fun j e=>by have:=X0.out.size;simp [Value.ownBlock] at e;omega))
    have hnew6:=zAj (B:=w.heap.size) hloc6 (fun k hk=>by have:=X0.out.size;simp [Value.ownBlock] at hk;omega) X1.out.size
    rw [Nat.zero_add,List.nil_append] at hown6
    obtain ⟨p6,c6,rfl⟩:=OwnR.shape hown6
    have Hown6:=zh hown6
    have Hnew6:=zh hnew6
    clear hgrow6 hloc6 hown6 hnew6
    refine hK.out _ _ trivial (fun _=>?_)
    clear hK
    try simp only [Act.put,uA,uB,uC]
    refine zAB 16 rfl (by kernel_rfl) (by rfl) (fun K hK=>?_)
    have hfrom:=Hfrom.out _ X6.out
    refine zAi (.tmp 21) (.tmp 28) 116 (by rfl) 127 iF _ 3 48 Tryz.underlying116 hFi hF0 hF1 hF2 rfl (by decide) (.slice p6 i c6) i _ (by rfl) Hown6.out (.slice pF (N - (i+1)) (cv - (i+1))) (N - (i+1)) _ (by rfl) hfrom (fun u hu=>Hone.out u (List.mem_of_mem_drop hu)) (by unfold maxLen;omega) (by omega) ?_
    clear hfrom
    intro v7 w7 hown7 hgrow7 hloc7
    have X7:=zh (X6.out.grown hgrow7 X6.out.size Hnew6.out)
    have hnew7:=zAj (B:=w.heap.size) hloc7 Hnew6.out X6.out.size
    obtain ⟨p7,c7,rfl⟩:=OwnR.shape hown7
    have Hend7:=zh (Hend.out w7 _ X7.out hown7 hnew7)
    clear hgrow7 hloc7 hown7 hnew7
    refine hK.out _ _ trivial (fun _=>?_)
    clear hK
    try simp only [Act.put,uA,uB,uC]
    refine pl [17,18] ?_
    iterate 2 (refine pc rfl ?_;simp only [Act.put,uA,uB,uC])
    refine pn ?_
    refine zAB 19 rfl (by kernel_rfl) (by rfl) (fun K hK=>?_)
    have hc2:=Hc1.out _ X7.out
    have hfz1:=Hfr.out _ X7.out
    go_wp2_with fail
    clear hc2 hfz1
    refine hK.out _ _ trivial (fun _=>?_)
    clear hK
    try simp only [Act.put,uA,uB,uC]
    refine wpAnyH_done (by kernel_rfl) ?_ _
    go_wp2_with fail
    go_end0
    exact Hend7.out
  ·have hc2:=Hc1.out _ X0.out
   go_wp2_with fail
   clear hc2
   refine hK.out _ _ trivial (fun _=>?_)
   clear hK
   try simp only [Act.put,uA,uB,uC]
   refine zBI 15 (v:=?v25x15) rfl (by kernel_rfl) (by kernel_rfl) (by kernel_rfl) (fun _ _ _ h=>h) (by rfl) trivial ?y25x15 ?_
   case y25x15=>(intro w hSw;clear hSw;go_simp;try with_reducible rfl)
   simp only [Act.put,uA,uB,uC]
   refine zCt 1 5 rfl rfl (by kernel_rfl) (by rfl) (by rfl) (fun K hK=>?_) (fun K hK=>?_)
   ·go_wp2_with fail
    have X1:=zh (X0.out.alloc X0.out.size (.cells #[] 127))
    refine hK.out _ _ trivial (fun _=>?_)
    clear hK
    try simp only [Act.put,uA,uB,uC]
    refine zAB 5 rfl (by kernel_rfl) (by rfl) (fun K hK=>?_)
    have hc2:=Hc1.out _ X1.out
    go_wp2_with fail
    clear hc2
    refine hK.out _ _ trivial (fun _=>?_)
    clear hK
    try simp only [Act.put,uA,uB,uC]
    refine zBI 7 (v:=?v27x7) rfl (by kernel_rfl) (by kernel_rfl) (by kernel_rfl) (fun _ _ _ h=>h) (by rfl) trivial ?y27x7 ?_
    case y27x7=>(intro w hSw;clear hSw;go_simp;try with_reducible rfl)
    simp only [Act.put,uA,uB,uC]
    refine zAB 8 rfl (by kernel_rfl) (by rfl) (fun K hK=>?_)
    have hown0:=zBK Wd 127 3
    have hup:=Hup.out _ X1.out
    refine zAi (.tmp 14) (.tmp 20) 116 (by rfl) 127 iF _ 3 48 Tryz.underlying116 hFi hF0 hF1 hF2 rfl (by decide) (.slice (some ⟨Wd.heap.size,0,none⟩) 0 0) 0 [] (by rfl) hown0 (.slice pv i cv) i _ (by rfl) hup (fun u hu=>Hone.out u (List.mem_of_mem_take hu)) (by unfold maxLen;omega) (by omega) ?_
    clear hown0 hup
    intro v6 w6 hown6 hgrow6 hloc6
    have X6:=zh (X1.out.grown hgrow6 X1.out.size (fun j e=>by have:=X0.out.size;simp [Value.ownBlock] at e;omega))
    have hnew6:=zAj (B:=w.heap.size) hloc6 (fun k hk=>by have:=X0.out.size;simp [Value.ownBlock] at hk;omega) X1.out.size
    rw [Nat.zero_add,List.nil_append] at hown6
    obtain ⟨p6,c6,rfl⟩:=OwnR.shape hown6
    have Hown6:=zh hown6
    have Hnew6:=zh hnew6
    clear hgrow6 hloc6 hown6 hnew6
    refine hK.out _ _ trivial (fun _=>?_)
    clear hK
    try simp only [Act.put,uA,uB,uC]
    refine zAB 16 rfl (by kernel_rfl) (by rfl) (fun K hK=>?_)
    have hfrom:=Hfrom.out _ X6.out
    refine zAi (.tmp 21) (.tmp 28) 116 (by rfl) 127 iF _ 3 48 Tryz.underlying116 hFi hF0 hF1 hF2 rfl (by decide) (.slice p6 i c6) i _ (by rfl) Hown6.out (.slice pF (N - (i+1)) (cv - (i+1))) (N - (i+1)) _ (by rfl) hfrom (fun u hu=>Hone.out u (List.mem_of_mem_drop hu)) (by unfold maxLen;omega) (by omega) ?_
    clear hfrom
    intro v7 w7 hown7 hgrow7 hloc7
    have X7:=zh (X6.out.grown hgrow7 X6.out.size Hnew6.out)
    have hnew7:=zAj (B:=w.heap.size) hloc7 Hnew6.out X6.out.size
    obtain ⟨p7,c7,rfl⟩:=OwnR.shape hown7
    have Hend7:=zh (Hend.out w7 _ X7.out hown7 hnew7)
    clear hgrow7 hloc7 hown7 hnew7
    refine hK.out _ _ trivial (fun _=>?_)
    clear hK
    try simp only [Act.put,uA,uB,uC]
    refine pl [17,18] ?_
    iterate 2 (refine pc rfl ?_;simp only [Act.put,uA,uB,uC])
    refine pn ?_
    refine zAB 19 rfl (by kernel_rfl) (by rfl) (fun K hK=>?_)
    have hc2:=Hc1.out _ X7.out
    have hfz1:=Hfr.out _ X7.out
    go_wp2_with fail
    clear hc2 hfz1
    refine hK.out _ _ trivial (fun _=>?_)
    clear hK
    try simp only [Act.put,uA,uB,uC]
    refine wpAnyH_done (by kernel_rfl) ?_ _
    go_wp2_with fail
    go_end0
    exact Hend7.out
   ·have hc2:=Hc1.out _ X0.out
    go_wp2_with fail
    clear hc2
    refine hK.out _ _ trivial (fun _=>?_)
    clear hK
    try simp only [Act.put,uA,uB,uC]
    refine zBI 7 (v:=?v30x7) rfl (by kernel_rfl) (by kernel_rfl) (by kernel_rfl) (fun _ _ _ h=>h) (by rfl) trivial ?y30x7 ?_
    case y30x7=>(intro w hSw;clear hSw;go_simp;try with_reducible rfl)
    simp only [Act.put,uA,uB,uC]
    refine zAB 1 rfl (by kernel_rfl) (by rfl) (fun K hK=>?_)
    go_wp2_with fail
    have X1:=zh (X0.out.alloc X0.out.size (.cells #[] 127))
    refine hK.out _ _ trivial (fun _=>?_)
    clear hK
    try simp only [Act.put,uA,uB,uC]
    refine zAB 8 rfl (by kernel_rfl) (by rfl) (fun K hK=>?_)
    have hown0:=zBK Wd 127 3
    have hup:=Hup.out _ X1.out
    refine zAi (.tmp 14) (.tmp 20) 116 (by rfl) 127 iF _ 3 48 Tryz.underlying116 hFi hF0 hF1 hF2 rfl (by decide) (.slice (some ⟨Wd.heap.size,0,none⟩) 0 0) 0 [] (by rfl) hown0 (.slice pv i cv) i _ (by rfl) hup (fun u hu=>Hone.out u (List.mem_of_mem_take hu)) (by unfold maxLen;omega) (by omega) ?_
    clear hown0 hup
    intro v6 w6 hown6 hgrow6 hloc6
    have X6:=zh (X1.out.grown hgrow6 X1.out.size (fun j e=>by have:=X0.out.size;simp [Value.ownBlock] at e;omega))
    have hnew6:=zAj (B:=w.heap.size) hloc6 (fun k hk=>by have:=X0.out.size;simp [Value.ownBlock] at hk;omega) X1.out.size
    rw [Nat.zero_add,List.nil_append] at hown6
    obtain ⟨p6,c6,rfl⟩:=OwnR.shape hown6
    have Hown6:=zh hown6
    have Hnew6:=zh hnew6
    clear hgrow6 hloc6 hown6 hnew6
    refine hK.out _ _ trivial (fun _=>?_)
    clear hK
    try simp only [Act.put,uA,uB,uC]
    refine zAB 16 rfl (by kernel_rfl) (by rfl) (fun K hK=>?_)
    have hfrom:=Hfrom.out _ X6.out
    refine zAi (.tmp 21) (.tmp 28) 116 (by rfl) 127 iF _ 3 48 Tryz.underlying116 hFi hF0 hF1 hF2 rfl (by decide) (.slice p6 i c6) i _ (by rfl) Hown6.out (.slice pF (N - (i+1)) (cv - (i+1))) (N - (i+1)) _ (by rfl) hfrom (fun u hu=>Hone.out u (List.mem_of_mem_drop hu)) (by unfold maxLen;omega) (by omega) ?_
    clear hfrom
    intro v7 w7 hown7 hgrow7 hloc7
    have X7:=zh (X6.out.grown hgrow7 X6.out.size Hnew6.out)
    have hnew7:=zAj (B:=w.heap.size) hloc7 Hnew6.out X6.out.size
    obtain ⟨p7,c7,rfl⟩:=OwnR.shape hown7
    have Hend7:=zh (Hend.out w7 _ X7.out hown7 hnew7)
    clear hgrow7 hloc7 hown7 hnew7
    refine hK.out _ _ trivial (fun _=>?_)
    clear hK
    try simp only [Act.put,uA,uB,uC]
    refine pl [17,18] ?_
    iterate 2 (refine pc rfl ?_;simp only [Act.put,uA,uB,uC])
    refine pn ?_
    refine zAB 19 rfl (by kernel_rfl) (by rfl) (fun K hK=>?_)
    have hc2:=Hc1.out _ X7.out
    have hfz1:=Hfr.out _ X7.out
    go_wp2_with fail
    clear hc2 hfz1
    refine hK.out _ _ trivial (fun _=>?_)
    clear hK
    try simp only [Act.put,uA,uB,uC]
    refine wpAnyH_done (by kernel_rfl) ?_ _
    go_wp2_with fail
    go_end0
    exact Hend7.out
end
section
variable {w:World} {r:Nat} {v:Value} {L:List zAF} {own:Nat→Prop} {D:zAA}
theorem zBu (h:zAU w r v L own D) (s:ByteArray) (hs:s.size≤9223372036854775807) :
  Calls Tryz.prog 82 #[.pointer (some ⟨r,0,none⟩),.string s] w (zBi w r own (D.remove [nm s])):=by
 have h1:zAU (w.alloc (.cells #[.string s] 9)) r v L own D:=h.below ((Below.refl _ _).alloc (Nat.le_refl _) _)
 have hmay:=zBg h1 (some ⟨w.heap.size,0,none⟩) [s] 1 (zA4 w s) (by simp) (by simpa using hs)
 simp only [List.map_cons,List.map_nil] at hmay
 have hE:D.remove [nm s]=D.each1 zAA.gRemove (nm s):=each_one _ _ _
 rw [hE]
 by_cases hm:D.may [nm s]=0
 ·have hsp:=zBL h1 s
  rw [h.is] at hsp
  rw [hm] at hmay
  cases hg:Sat.get (nm s) D.files with
  | none =>
   rw [hg] at hsp
   have hR:zAA.each1 zAA.gRemove D (nm s)=(D,7):=by unfold zAA.each1;rw [if_neg (by rw [hm];simp),hg]
   rw [hR]
   have Hf:=zh (fun q=>zA0 h (zAe w (.cells #[.string s] 9) q) 7)
   have Hmay:=zh hmay
   have Hsp:=zh hsp
   clear h h1 hmay hsp hm hR hg hE
   go_enter Tryz.func82,Tryz.ntmps82
   go_wp2_with fail
   refine Hmay.out.mono ?_
   rintro e w2 ⟨rfl,rfl⟩
   go_wp2_with fail
   refine Hsp.out.mono ?_
   rintro e w3 ⟨rfl,q,rfl⟩
   go_wp2_with fail
   go_ret
   exact Hf.out q
  | some f =>
   rw [hg] at hsp
   have hR:zAA.each1 zAA.gRemove D (nm s)=(zAA.done { D with files:=del (nm s) D.files },0):=by unfold zAA.each1;rw [if_neg (by rw [hm];simp),hg];rfl
   rw [hR]
   have Hrm:=zh (fun q=>zCv (h.below (zAe w (.cells #[.string s] 9) q)) s)
   have hfz:=zDM hm
   have Hdid:=zh (show ∀ q e w',RGone ((w.alloc (.cells #[.string s] 9)).drewN q) r own { D with files:=del (nm s) D.files } e w'→Calls Tryz.prog 72 #[.pointer (some ⟨r,0,none⟩)] w' (zBi w r own (zAA.done { D with files:=del (nm s) D.files },0)) from fun q e w' hgn=>by
    obtain ⟨-,own',v',L',hin,hch,-,hx⟩:=hgn
    have hb:=zAe w (.cells #[.string s] 9) q
    refine (zBs hin hfz).mono fun e2 w2 h2=>?_
    have hc2:Chg own w w':=zBk hb (hch.mono fun k _ e=>by rw [e];exact h.or)
    exact zCK hc2 (fun k hk=>(hx k hk).imp id fun hh=>Nat.le_trans hb.size hh) hc2.size h2)
   have Hmay:=zh hmay
   have Hsp:=zh hsp
   clear h h1 hmay hsp hm hR hg hE
   go_enter Tryz.func82,Tryz.ntmps82
   go_wp2_with fail
   refine Hmay.out.mono ?_
   rintro e w2 ⟨rfl,rfl⟩
   go_wp2_with fail
   refine Hsp.out.mono ?_
   rintro e w3 ⟨rfl,q,rfl⟩
   go_wp2_with fail
   refine (Hrm.out q).mono ?_
   intro e w4 h4
   have Hd:=zh (Hdid.out q e w4 h4)
   obtain ⟨rfl,-⟩:=h4
   clear Hrm Hdid
   go_wp2_with fail
   refine Hd.out.mono ?_
   intro e w5 h5
   have HE:=zh h5
   obtain ⟨rfl,-⟩:=h5
   go_wp2_with fail
   go_ret
   exact HE.out
 ·have hR:zAA.each1 zAA.gRemove D (nm s)=(D,D.may [nm s]):=by unfold zAA.each1;rw [if_pos hm]
  rw [hR]
  have Hf:=zh (zA0 h ((Below.refl _ _).alloc (Nat.le_refl _) (.cells #[.string s] 9)) (D.may [nm s]))
  have Hmay:=zh hmay
  generalize D.may [nm s]=m at *
  have hne:((m:Int) != 0)=true:=by simp;omega
  clear h h1 hmay hR hE
  go_enter Tryz.func82,Tryz.ntmps82
  go_wp2_with fail
  refine Hmay.out.mono ?_
  rintro e w2 ⟨rfl,rfl⟩
  go_wp2_with fail
  go_ret
  exact Hf.out
end
theorem put_del_same {α:Type} {L:List (Bs × α)} (h:Srt L) {n:Bs} {f:α} (hg:Sat.get n L=some f):Sat.put n f (del n L)=L:=by
 refine srt_ext (zBd (zB0 h)) h fun m=>?_
 by_cases e:m=n
 ·subst e
  rw [zBy (zB0 h),hg]
 ·rw [zB5 (zB0 h) f e,zCm h e]
section
variable {w:World} {r:Nat} {v:Value} {L:List zAF} {own:Nat→Prop} {D:zAA}
theorem rren_calls (h:zAU w r v L own D) (o s:ByteArray) (hso:o.size≤9223372036854775807) (hss:s.size≤9223372036854775807) :
  Calls Tryz.prog 199 #[.pointer (some ⟨r,0,none⟩),.string o,.string s] w (zBi w r own (D.rename (nm o) (nm s))):=by
 have h1:zAU (w.alloc (.cells #[.string o,.string s] 9)) r v L own D:=h.below ((Below.refl _ _).alloc (Nat.le_refl _) _)
 have hmay:=zBg h1 (some ⟨w.heap.size,0,none⟩) [o,s] 2 (strs_two w o s) (by simp) (by simp;exact ⟨hso,hss⟩)
 simp only [List.map_cons,List.map_nil] at hmay
 by_cases hm:D.may [nm o,nm s]=0
 ·have hsp:=zBL h1 o
  rw [h.is] at hsp
  rw [hm] at hmay
  cases hg:Sat.get (nm o) D.files with
  | none =>
   rw [hg] at hsp
   have hR:D.rename (nm o) (nm s)=(D,7):=by unfold zAA.rename;rw [if_neg (by rw [hm];simp),hg]
   rw [hR]
   have Hf:=zh (fun q=>zA0 h (zAe w (.cells #[.string o,.string s] 9) q) 7)
   have Hmay:=zh hmay
   have Hsp:=zh hsp
   clear h h1 hmay hsp hm hR hg
   go_enter Tryz.func199,Tryz.ntmps199
   go_wp2_with fail
   refine Hmay.out.mono ?_
   rintro e w2 ⟨rfl,rfl⟩
   go_wp2_with fail
   refine Hsp.out.mono ?_
   rintro e w3 ⟨rfl,q,rfl⟩
   go_wp2_with fail
   go_ret
   exact Hf.out q
  | some f =>
   rw [hg] at hsp
   have hR:D.rename (nm o) (nm s)=(zAA.done { D with files:=Sat.put (nm s) f (del (nm o) D.files) },0):=by unfold zAA.rename;rw [if_neg (by rw [hm];simp),hg]
   rw [hR]
   have hfz:=zDM hm
   by_cases hos:nm o=nm s
   ·have hb:(o.toList == s.toList)=true:=by rw [ByteArray.toList_eq,ByteArray.toList_eq];exact beq_iff_eq.2 hos
    have hD:({ D with files:=Sat.put (nm s) f (del (nm o) D.files) }:zAA)=D:=by rw [← hos,put_del_same h.ok.srt hg]
    rw [hD]
    have Hdid:=zh (fun q=>(zBs (h.below (zAe w (.cells #[.string o,.string s] 9) q)) hfz).mono fun e2 w2 h2 =>
     zCK (own:=own) (w:=w) ((Chg.of_below (zAe w (.cells #[.string o,.string s] 9) q)).mono fun _ _ h=>h.elim) (fun _ h=>.inl h) (zAe w (.cells #[.string o,.string s] 9) q).size h2)
    have Hmay:=zh hmay
    have Hsp:=zh hsp
    clear h h1 hmay hsp hm hR hg hD hos
    go_enter Tryz.func199,Tryz.ntmps199
    go_wp2_with fail
    refine Hmay.out.mono ?_
    rintro e w2 ⟨rfl,rfl⟩
    go_wp2_with fail
    refine Hsp.out.mono ?_
    rintro e w3 ⟨rfl,q,rfl⟩
    go_wp2_with fail
    refine (Hdid.out q).mono ?_
    intro e w5 h5
    have HE:=zh h5
    obtain ⟨rfl,-⟩:=h5
    go_wp2_with fail
    go_ret
    exact HE.out
   ·have hb:(o.toList == s.toList)=false:=by
     rw [ByteArray.toList_eq,ByteArray.toList_eq,beq_eq_false_iff_ne]
     exact hos
    obtain ⟨x,hx,hxn,rfl⟩:=h.hit hg
    have hN:zAl (nm o) (L.map zAF.n) < L.length:=(List.getElem?_eq_some_iff.1 hx).1
    rcases h.at with h0 | ⟨g,c0,hgv,hlc,-⟩
    ·rw [h0] at hN
     simp at hN
    have hgo:v.ownBlock=some g:=by rw [hgv];rfl
    generalize zAl (nm o) (L.map zAF.n)=i at *
    have Hcells:=zh (show ∀ W,Below w.heap.size w W→W.cell? ⟨r,1,none⟩=some (.slice (some ⟨g,0,none⟩) L.length c0)∧W.cell? ⟨g,i * 3,none⟩=some (.string ⟨x.n.toArray⟩)∧W.cell? ⟨g,i * 3+1,none⟩=some x.b∧W.cell? ⟨g,i * 3+2,none⟩=some (.int .i64 (x.f.lasts:Int)) from fun W hb=>by
     have hW:=h.below hb
     have hc:=hW.core.at hgo hx
     exact ⟨hW.c1.trans (by rw [hgv]),hc.1,hc.2.1,hc.2.2⟩)
    obtain ⟨px,cx,ex,-⟩:=zAv (h.data x (List.mem_of_getElem? hx))
    rw [ex] at Hcells
    have H:=zh h
    have Hok:=zh (ok_rename h.ok hg (show okN (nm s)=true from List.all_eq_true.1 (zCR hm).2 (nm s) (by simp)))
    have Hmay:=zh hmay
    have Hsp:=zh hsp
    clear h h1 hmay hsp hm hR hg hlc
    subst hgv
    go_enter Tryz.func199,Tryz.ntmps199
    go_wp2_with fail
    refine Hmay.out.mono ?_
    rintro e w2 ⟨rfl,rfl⟩
    go_wp2_with fail
    refine Hsp.out.mono ?_
    rintro e w3 ⟨rfl,q,rfl⟩
    have HbW:=zh (zAe w (.cells #[.string o,.string s] 9) q)
    obtain ⟨hc1,hc2,hc3,hc4⟩:=Hcells.out _ HbW.out
    generalize (w.alloc (.cells #[.string o,.string s] 9)).drewN q=W at *
    have Hx:=zh hx
    generalize hmx:x.f.data.length=mx at *
    generalize hla:x.f.lasts=la at *
    have Hmx:=zh hmx
    have Hla:=zh hla
    have Hhos:=zh hos
    have Hex:=zh ex
    clear hos hx hmx hla Hcells ex
    go_wp2_with fail
    have XF:=zh (HbW.out.alloc HbW.out.size (.cells #[.string s,.slice px mx cx,.int .i64 (la:Int)] 127))
    have hfb0:(W.alloc (.cells #[.string s,.slice px mx cx,.int .i64 (la:Int)] 127)).heap[W.heap.size]?=some (.cells #[.string s,.slice px mx cx,.int .i64 (la:Int)] 127 (0,0)):=zAW W _
    have hfr0:W.heap.size≠r:=fun e=>by have h1:=H.out.olt r H.out.or;have h2:=HbW.out.size;omega
    have hfl0:W.heap.size < (W.alloc (.cells #[.string s,.slice px mx cx,.int .i64 (la:Int)] 127)).heap.size:=by simp
    have Hfb0:=zh (And.intro hfb0 (And.intro hfr0 hfl0))
    clear hfb0 hfr0 hfl0
    generalize W.heap.size=fb at *
    have hinF:=H.out.below XF.out
    generalize W.alloc (.cells #[.string s,.slice px mx cx,.int .i64 (la:Int)] 127)=Wf at *
    have Hrm1:=zh (zCv hinF o)
    clear hinF hc1 hc2 hc3 hc4
    refine Hrm1.out.mono ?_
    rintro e w4 ⟨rfl,own4,v4,L4,hin4,hch4,hsub4,hx4⟩
    have Hr4:=zh (And.intro hch4 (And.intro hsub4 hx4))
    have Hrm2:=zh (zCv hin4 s)
    clear hin4 hch4 hsub4 hx4 Hrm1
    go_wp2_with fail
    refine Hrm2.out.mono ?_
    rintro e w5 ⟨rfl,own5,v5,L5,hin5,hch5,hsub5,hx5⟩
    have hin5:zAU w5 r v5 L5 own5 { D with files:=del (nm s) (del (nm o) D.files) }:=hin5
    have hsp5:=zBL hin5 s
    have hg5:Sat.get (nm s) (del (nm s) (del (nm o) D.files))=none:=zC4 _ _
    rw [hin5.is,show Sat.get (nm s) ({ D with files:=del (nm s) (del (nm o) D.files) }:zAA).files=none from hg5] at hsp5
    have Hin5:=zh hin5
    have Hr5:=zh (And.intro hch5 (And.intro hsub5 hx5))
    have Hsp5:=zh hsp5
    have Hg5:=zh hg5
    clear hin5 hch5 hsub5 hx5 Hrm2 hsp5 hg5
    go_wp2_with fail
    refine Hsp5.out.mono ?_
    rintro e w6 ⟨rfl,q6,rfl⟩
    have hins:=ins_at (nm s) x.f Hin5.out.ok.srt Hg5.out
    have hle:zAl (nm s) (L5.map zAF.n)≤L5.length:=by have:=spotN_le (nm s) (L5.map zAF.n);rwa [List.length_map] at this
    rw [← Hin5.out.names,Hin5.out.files] at hins
    generalize zAl (nm s) (L5.map zAF.n)=j at *
    have hbq:Below w5.heap.size w5 (w5.drewN q6):=⟨rfl,rfl,rfl,Nat.le_refl _,fun _ _=>rfl⟩
    have Hinq:=zh (Hin5.out.below hbq)
    obtain ⟨pv,cv,hgv⟩:=Hin5.out.slice
    have hNc:L5.length≤cv:=by
     rcases Hin5.out.at with h0 | ⟨g,c0,e,hc,-⟩
     ·rw [h0];exact Nat.zero_le _
     ·rw [hgv] at e;cases e;exact hc
    have hfit:=Hin5.out.fit
    -- the new file's block and its row are as they were
    have hfq:(w5.drewN q6).heap[fb]?=some (.cells #[.string s,.slice px mx cx,.int .i64 (la:Int)] 127 (0,0)):=by
     have h4:=Hr4.out.1.block fb Hfb0.out.2.2 Hfb0.out.2.1
     have h5:=Hr5.out.1.block fb (Nat.lt_of_lt_of_le Hfb0.out.2.2 Hr4.out.1.size) Hfb0.out.2.1
     exact h5.trans (h4.trans Hfb0.out.1)
    have hrow:OwnB (w5.drewN q6) 5 (.slice px mx cx) x.f.data∧∀ k,(Value.slice px mx cx).ownBlock=some k→own5 k∧k≠r:=by
     have hxm:=List.mem_of_getElem? Hx.out
     have hinF:=H.out.below XF.out
     have hob:=H.out.ob x hxm
     have hda:=hinF.data x hxm
     rw [Hex.out] at hob hda
     refine ⟨OwnR.keep hda fun k hk=>?_,fun k hk=>⟨Hr5.out.2.1 k (Hr4.out.2.1 k (hob k hk).1),(hob k hk).2.1⟩⟩
     have hk1:=hinF.olt k (hob k hk).1
     have h4:=Hr4.out.1.block k hk1 (hob k hk).2.1
     have h5:=Hr5.out.1.block k (Nat.lt_of_lt_of_le hk1 Hr4.out.1.size) (hob k hk).2.1
     exact h5.trans h4
    have hchq:Chg (fun k=>k=r) w (w5.drewN q6):=by
     have h4:=zBk (own:=fun k=>k=r) XF.out Hr4.out.1
     have h5:=h4.trans Hr5.out.1 fun _ _ h=>h
     exact h5.trans ((Chg.of_below hbq).mono (T:=fun _=>False) fun _ _ h=>h) fun _ _ h=>h.elim
    have hxq:∀ k,own5 k→own k∨w.heap.size≤k:=fun k hk=>by
     rcases Hr5.out.2.2 k hk with h | h
     ·rcases Hr4.out.2.2 k h with h | h
      ·exact .inl h
      ·exact .inr (Nat.le_trans XF.out.size h)
     ·exact .inr (Nat.le_trans (Nat.le_trans XF.out.size Hr4.out.1.size) h)
    have Hq:=zh (And.intro hfq (And.intro hrow (And.intro hchq hxq)))
    have Hins:=zh hins
    clear hfq hrow hchq hxq hins Hr4 Hr5 Hin5 Hsp5 hbq XF
    generalize w5.drewN q6=Wq at *
    subst hgv
    have hfbl:fb < Wq.heap.size:=zAt Hq.out.1
    have Hfb:=zh (show ∀ W',Below Wq.heap.size Wq W'→W'.cell? ⟨fb,0,none⟩=some (.string s)∧W'.cell? ⟨fb,1,none⟩=some (.slice px mx cx)∧W'.cell? ⟨fb,2,none⟩=some (.int .i64 (la:Int)) from fun W' hb =>
     ⟨(hb.cell (p:=⟨fb,0,none⟩) hfbl).trans (zAC Hq.out.1 rfl),(hb.cell (p:=⟨fb,1,none⟩) hfbl).trans (zAC Hq.out.1 rfl),(hb.cell (p:=⟨fb,2,none⟩) hfbl).trans (zAC Hq.out.1 rfl)⟩)
    have Hc1:=zh (show ∀ W',Below Wq.heap.size Wq W'→W'.cell? ⟨r,1,none⟩=some (.slice pv L5.length cv) from fun W' hb=>(Hinq.out.below hb).c1)
    have Hfr:=zh (show ∀ W',Below Wq.heap.size Wq W'→W'.frozen? ⟨r,1,none⟩=false from fun W' hb=>zAI (Hinq.out.below hb).cells 1)
    have Hrow:=zh (show ∀ W',Below Wq.heap.size Wq W'→OwnR W' 127 3 (.slice pv L5.length cv) L5.length (L5.flatMap zAF.cells) from fun W' hb=>(Hinq.out.below hb).row)
    have Hone:=zh (cells_one Hinq.out.core.one)
    obtain ⟨iF,hFi,hF0,hF1,hF2⟩:=info_parts (show (Tryz.prog.info? 127).map (fun i=>(i.zero,i.size,i.bytes))=some (some (.agg #[.string ⟨#[]⟩,.slice none 0 0,.int .i64 0]),3,48) by kernel_rfl)
    have hs1:∀ W,(Instr.slice 116 (.slice pv L5.length cv) none (some (.int .i64 (j:Int))) none).run Tryz.prog W=.ok (.slice pv j cv) W:=fun W=>zBx W Tryz.underlying116 hFi pv _ cv j (by omega)
    have hs2:∀ W,(Instr.slice 116 (.slice pv L5.length cv) (some (.int .i64 (j:Int))) none none).run Tryz.prog W=.ok (.slice (if cv - j=0 then pv else pv.map fun x=>x.add (j * 3)) (L5.length - j) (cv - j)) W:=fun W=>by
     have:=zC8 (P:=Tryz.prog) W Tryz.underlying116 hFi pv L5.length cv j hle hNc
     rw [hF1] at this
     exact this
    have Hfrom:=zh (show ∀ W',Below Wq.heap.size Wq W'→zAY W' 3 (.slice (if cv - j=0 then pv else pv.map fun x=>x.add (j * 3)) (L5.length - j) (cv - j)) (L5.length - j) ((L5.flatMap zAF.cells).drop (j * 3)) from fun W' hb=>OwnR.cut_from (Hrow.out W' hb) hle)
    generalize hpF:(if cv - j=0 then pv else pv.map fun x=>x.add (j * 3))=pF at *
    have X1:=zh ((Below.refl Wq.heap.size Wq).alloc (Nat.le_refl _) (.cells #[] 127))
    have hc1a:=Hc1.out _ X1.out
    have Hup:=zh (show zAY (Wq.alloc (.cells #[] 127)) 3 (.slice pv j cv) j ((L5.flatMap zAF.cells).take (j * 3)) from zAY.upto (OwnR.holds (Hrow.out _ X1.out)) hle cv)
    clear hpF
    generalize hN5:L5.length=N at *
    have HN:=zh hN5
    clear hN5
    go_wp2_with (first | (at_builtin;refine zAR (Wq.alloc (.cells #[] 127)) rfl (.tmp 56) (.tmp 62) 116 rfl 127 iF _ 3 48 Tryz.underlying116 hFi hF0 hF1 hF2 rfl (by decide) (.slice (some ⟨Wq.heap.size,0,none⟩) 0 0) 0 [] rfl (zBK Wq _ 3) (.slice pv j cv) j _ rfl Hup.out (fun u hu=>Hone.out u (List.mem_of_mem_take hu)) (by unfold maxLen;omega) (by omega) ?_;intro v12 w12 hown12 hgrow12 hloc12;rw [Nat.zero_add,List.nil_append] at hown12;have hX:=X1.out.grown hgrow12 X1.out.size (fun j e=>by simp [Value.ownBlock] at e;omega);have hnew:=zAj (B:=Wq.heap.size) hloc12 (fun k hk=>by simp [Value.ownBlock] at hk;omega) X1.out.size;obtain ⟨p12,c12,rfl⟩:=OwnR.shape hown12;have X12:=zh (And.intro hX (And.intro hown12 hnew));obtain ⟨hf1,hf2,hf3⟩:=Hfb.out _ X12.out.1;clear hown12 hgrow12 hloc12 hX hnew hc1a) | (at_builtin;refine zAR (w12.alloc (.cells #[.string s,.slice px mx cx,.int .i64 (la:Int)] 127)) rfl (.tmp 64) (.tmp 66) 116 rfl 127 iF _ 3 48 Tryz.underlying116 hFi hF0 hF1 hF2 rfl (by decide) (.slice p12 j c12) j _ rfl (OwnR.keep X12.out.2.1 fun j hj=>alloc_was w12 _ (OwnR.lt X12.out.2.1 hj)) (.slice (some ⟨w12.heap.size,0,none⟩) 1 1) 1 [.string s,.slice px mx cx,.int .i64 (la:Int)] rfl (holds_lit w12 #[.string s,.slice px mx cx,.int .i64 (la:Int)] _ 3 1 1 rfl rfl _ _) (fun u hu=>by simp at hu;rcases hu with rfl | rfl | rfl <;> rfl) (by unfold maxLen;omega) (by omega) ?_;intro v13 w13 hown13 hgrow13 hloc13;have hXa:=X12.out.1.alloc X12.out.1.size (.cells #[.string s,.slice px mx cx,.int .i64 (la:Int)] 127);have hX:=hXa.grown hgrow13 hXa.size (fun j hj=>X12.out.2.2 j hj);have hnew:=zAj (B:=Wq.heap.size) hloc13 X12.out.2.2 hXa.size;obtain ⟨p13,c13,rfl⟩:=OwnR.shape hown13;have X13:=zh (And.intro hX (And.intro hown13 hnew));have hc1b:=Hc1.out _ X13.out.1;clear hown13 hgrow13 hloc13 hX hnew hXa hf1 hf2 hf3) | (at_builtin;refine zAR w13 rfl (.tmp 69) (.tmp 75) 116 rfl 127 iF _ 3 48 Tryz.underlying116 hFi hF0 hF1 hF2 rfl (by decide) (.slice p13 (j+1) c13) (j+1) _ rfl X13.out.2.1 (.slice pF (N - j) (cv - j)) (N - j) _ rfl (Hfrom.out w13 X13.out.1) (fun u hu=>Hone.out u (List.mem_of_mem_drop hu)) (by unfold maxLen;omega) (by omega) ?_;intro v14 w14 hown14 hgrow14 hloc14;have hX:=X13.out.1.grown hgrow14 X13.out.1.size (fun j hj=>X13.out.2.2 j hj);have hnew:=zAj (B:=Wq.heap.size) hloc14 X13.out.2.2 X13.out.1.size;obtain ⟨p14,c14,rfl⟩:=OwnR.shape hown14;have X14:=zh (And.intro hX (And.intro hown14 hnew));have hc1c:=Hc1.out _ X14.out.1;have hfrc:=Hfr.out _ X14.out.1;clear hown14 hgrow14 hloc14 hX hnew hc1b))
    have hs14:=X14.out.1
    have hcore0:zAf w14 r (.slice pv N cv) L5 own5 D.room D.fuse:=(Hinq.out.below hs14).core
    have es:Value.string s=encStr (nm s):=by rw [zCX];simp [nm]
    have hlen':(L5.take j ++ (⟨nm s,.slice px mx cx,x.f⟩:zAF) :: L5.drop j).length=j+1+(N - j):=by
     rw [List.length_append,List.length_take,List.length_cons,List.length_drop,HN.out]
     omega
    have hrow':OwnR w14 127 3 (.slice p14 (j+1+(N - j)) c14) (L5.take j ++ (⟨nm s,.slice px mx cx,x.f⟩:zAF) :: L5.drop j).length ((L5.take j ++ (⟨nm s,.slice px mx cx,x.f⟩:zAF) :: L5.drop j).flatMap zAF.cells):=by
     rw [hlen',List.flatMap_append,List.flatMap_cons,cells_take,cells_drop,← List.append_assoc]
     show OwnR w14 _ 3 _ _ (((L5.flatMap zAF.cells).take (j * 3) ++ [encStr (nm s),.slice px mx cx,.int .i64 (x.f.lasts:Int)]) ++ _)
     rw [← es,Hla.out]
     exact X14.out.2.1
    have hfresh:∀ k,(Value.slice p14 (j+1+(N - j)) c14).ownBlock=some k→¬ own5 k:=fun k hk ho=>by
     have h1:=X14.out.2.2 k hk
     have h2:=Hinq.out.olt k ho
     omega
    have hcore:=hcore0.relist hrow' (fun y hy=>by
     rcases List.mem_append.1 hy with hy | hy
     ·exact .inl (List.mem_of_mem_take hy)
     ·rcases List.mem_cons.1 hy with rfl | hy
      ·exact .inr ⟨OwnR.keep Hq.out.2.1.1 fun k hk=>hs14.block k (OwnR.lt Hq.out.2.1.1 hk),Hq.out.2.1.2⟩
      ·exact .inl (List.mem_of_mem_drop hy)) hfresh
    have hF:Sat.put (nm s) x.f (del (nm o) D.files)=(L5.take j ++ (⟨nm s,.slice px mx cx,x.f⟩:zAF) :: L5.drop j).map zAF.key:=by
     have e1:Sat.put (nm s) x.f (del (nm o) D.files)=ins (nm s,x.f) (del (nm s) (del (nm o) D.files)):=rfl
     have e2:del (nm s) (del (nm o) D.files)=L5.map zAF.key:=Hinq.out.files
     rw [e1,e2,Hins.out,List.map_append,List.map_cons,List.map_take,List.map_drop]
     rfl
    have hfin:zAU (w14.setCell ⟨r,1,none⟩ (.slice p14 (j+1+(N - j)) c14)) r (.slice p14 (j+1+(N - j)) c14) _ _ { D with files:=Sat.put (nm s) x.f (del (nm o) D.files) }:=hcore.full rfl rfl hF Hok.out
    have hc14:Chg (fun k=>k=r) w (w14.setCell ⟨r,1,none⟩ (.slice p14 (j+1+(N - j)) c14)) :=
     (Hq.out.2.2.1.trans ((Chg.of_below hs14).mono (T:=fun _=>False) fun _ _ h=>h) fun _ _ h=>h.elim).trans (zCW (own:=fun k=>k=r) (w:=w14) (a:=⟨r,1,none⟩) rfl) fun _ _ h=>h
    have hch14:Chg own w (w14.setCell ⟨r,1,none⟩ (.slice p14 (j+1+(N - j)) c14)):=hc14.mono fun k _ e=>by rw [e];exact H.out.or
    have hsz:=Hq.out.2.2.1.size
    have hext:∀ k,(own5 k∨(Value.slice p14 (j+1+(N - j)) c14).ownBlock=some k)→own k∨w.heap.size≤k:=fun k hk=>by
     rcases hk with hk | hk
     ·exact Hq.out.2.2.2 k hk
     ·exact .inr (Nat.le_trans hsz (X14.out.2.2 k hk))
    have Hdid:=zh ((zBs hfin hfz).mono fun e2 w2 h2=>zCK hch14 hext hch14.size h2)
    clear hs14 hcore0 es hlen' hrow' hfresh hcore hF hfin hc14 hch14 hsz hext
    refine Hdid.out.mono ?_
    intro e w15 h15
    have HE:=zh h15
    obtain ⟨rfl,-⟩:=h15
    go_wp2_with fail
    go_ret
    exact HE.out
 ·have hR:D.rename (nm o) (nm s)=(D,D.may [nm o,nm s]):=by unfold zAA.rename;rw [if_pos hm]
  rw [hR]
  have Hf:=zh (zA0 h ((Below.refl _ _).alloc (Nat.le_refl _) (.cells #[.string o,.string s] 9)) (D.may [nm o,nm s]))
  have Hmay:=zh hmay
  generalize D.may [nm o,nm s]=m at *
  have hne:((m:Int) != 0)=true:=by simp;omega
  clear h h1 hmay hR
  go_enter Tryz.func199,Tryz.ntmps199
  go_wp2_with fail
  refine Hmay.out.mono ?_
  rintro e w2 ⟨rfl,rfl⟩
  go_wp2_with fail
  go_ret
  exact Hf.out
end
end Go.Proofs.YtapfnehdgailmaaGreat
